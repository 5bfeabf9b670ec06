/- one (function 53), which reads a line of a rule, at the lines that Print writes: it defers a closure that asks recover. -/
import Derived.Test.YtmjmcjcckncplaaDoorReads2
import Derived.Test.YtmjmcjcckncplaaDoorPrint
import Derived.Defers
import Derived.Recover
namespace Go.Proofs.YtmjmcjcckncplaaDoor
open Go.RowKit Go.BigFrame

set_option maxHeartbeats 1000000 in
/-- The deferred closure, where nothing has panicked. -/
theorem catch_idle (a : Addr) (w : World) :
    CallsD Tryd.prog 63 #[.pointer (some a)] .returning w fun e u' w' => e = .returned (.tuple #[]) ∧ u' = .returning ∧ w' = w := by
  refine callsD_of_wpS Tryd.func63 rfl fun c₀ cs hu => ?_
  apply wpS_seq
  apply wpS_region
  simp [wpOpsS, go_sem, recoverD, hu, Tryd.ntmps63, Exit.thenS]
  apply wpS_seq
  apply wpS_region
  simp [wpOpsS, go_sem, Exit.thenS]
  refine wpS_cond (t := false) (by simp [Act.eval, Array.replicate]) ?_
  simp only [Bool.false_eq_true, if_false]
  refine wpS_of_wp (wp_skip ?_)
  cases c₀
  simp_all [bodyPostS, results, Tryd.results63]

set_option maxRecDepth 100000 in
set_option maxHeartbeats 4000000 in
theorem one_calendar (g : Nat) (E0 C k n : Int) (A : Option Addr) (l c : Nat) (M : Value) (nm : ByteArray) (w : World) (hT : Blk w g 54 #[.string nm, .int .i64 E0, .int .i64 C, .int .i64 k, .int .i64 n, .slice A l c, M]) :
    Calls Tryd.prog 53 #[.pointer (some ⟨g, 0, none⟩), .int .i64 0, .string ⟨#[99, 97, 108, 101, 110, 100, 97, 114, 32, 97]⟩] w fun e w' => e = .returned (.int .i64 0) ∧ Blk w' g 54 #[.string ⟨#[97]⟩, .int .i64 E0, .int .i64 C, .int .i64 k, .int .i64 n, .slice A l c, M] ∧ Kept (One g) w w' := by
  have hmf : ∀ (fn : Fn) (first cap : Array Value) (w : World), (Instr.makeFunc fn first cap).run Tryd.prog w = .ok (.func fn first cap) w := fun _ _ _ _ => rfl
  have HT := hide hT
  have hgw := hT.lt
  clear hT
  go_enter_defers Tryd.func53, Tryd.ntmps53
  go_wp2_with fail
  have HP0 := hide (Blk.at_ (w := w.alloc (.cells #[.int .i64 0] 47)) (t := 98) (cs := #[.string ⟨#[99, 97, 108, 101, 110, 100, 97, 114, 32, 97]⟩, .int .i64 0, .int .i64 0]) (n := w.heap.size + 1) (by simp))
  have HE0 := hide ((Blk.new w 47 #[.int .i64 0]).alloc (.cells #[.string ⟨#[99, 97, 108, 101, 110, 100, 97, 114, 32, 97]⟩, .int .i64 0, .int .i64 0] 98))
  have HT0 := hide (((unhide HT).alloc (.cells #[.int .i64 0] 47)).alloc (.cells #[.string ⟨#[99, 97, 108, 101, 110, 100, 97, 114, 32, 97]⟩, .int .i64 0, .int .i64 0] 98))
  have HK0 := hide (((Kept.refl (One g) w).alloc (.cells #[.int .i64 0] 47)).alloc (.cells #[.string ⟨#[99, 97, 108, 101, 110, 100, 97, 114, 32, 97]⟩, .int .i64 0, .int .i64 0] 98))
  generalize (w.alloc (.cells #[.int .i64 0] 47)).alloc (.cells #[.string ⟨#[99, 97, 108, 101, 110, 100, 97, 114, 32, 97]⟩, .int .i64 0, .int .i64 0] 98) = W0 at HP0 HE0 HT0 HK0 ⊢
  refine (need_yes (w.heap.size + 1) ⟨#[99, 97, 108, 101, 110, 100, 97, 114, 32, 97]⟩ 0 8 0 W0 [99, 97, 108, 101, 110, 100, 97, 114] (unhide HP0) (by decide) (by decide) (by decide +kernel) (by decide +kernel)).mono ?_
  rintro e w1 ⟨rfl, hP1, hK1⟩
  have HP1 := hide hP1
  have HE1 := hide ((unhide HE0).kept hK1 (one_ne (by omega)))
  have HT1 := hide ((unhide HT0).kept hK1 (one_ne (by omega)))
  have HK1 := hide ((unhide HK0).trans hK1 (fun i hi h => by unfold One at h; omega))
  clear hP1 hK1
  go_wp2_with fail
  refine (name_any (w.heap.size + 1) ⟨#[99, 97, 108, 101, 110, 100, 97, 114, 32, 97]⟩ 8 10 0 w1 97 [] (unhide HP1) (by decide) (by decide) (by decide +kernel) (by decide +kernel) (by decide)).mono ?_
  rintro e w2 ⟨rfl, hP2, hK2⟩
  have HP2 := hide hP2
  have HE2 := hide ((unhide HE1).kept hK2 (one_ne (by omega)))
  have HT2 := hide ((unhide HT1).kept hK2 (one_ne (by omega)))
  have HK2 := hide ((unhide HK1).trans hK2 (fun i hi h => by unfold One at h; omega))
  have t0 : w2.cell? ⟨g, 0, none⟩ = some (.string nm) := by rw [(unhide HT2).cell]; rfl
  have tf0 : w2.frozen? ⟨g, 0, none⟩ = false := (unhide HT2).frozen 0
  clear hP2 hK2
  go_wp2_with fail
  have HP3 := hide ((unhide HP2).far (p := ⟨g, 0, none⟩) (by simp; omega) (.string ⟨#[97]⟩))
  have HE3 := hide ((unhide HE2).far (p := ⟨g, 0, none⟩) (by simp; omega) (.string ⟨#[97]⟩))
  have HT3 := hide ((unhide HT2).set_ 0 (.string ⟨#[97]⟩))
  have HK3 := hide ((unhide HK2).one 0 (.string ⟨#[97]⟩))
  clear t0 tf0
  generalize w2.setCell ⟨g, 0, none⟩ (.string ⟨#[97]⟩) = w3 at HP3 HE3 HT3 HK3 ⊢
  refine (end_yes (w.heap.size + 1) ⟨#[99, 97, 108, 101, 110, 100, 97, 114, 32, 97]⟩ 10 0 w3 (unhide HP3) (by decide) (by decide) (by decide +kernel)).mono ?_
  rintro e w9 ⟨rfl, hP9, hK9⟩
  have HP9 := hide hP9
  have HE9 := hide ((unhide HE3).kept hK9 (one_ne (by omega)))
  have HT9 := hide ((unhide HT3).kept hK9 (one_ne (by omega)))
  have HK9 := hide ((unhide HK3).trans hK9 (fun i hi h => by unfold One at h; omega))
  have x0 : w9.cell? ⟨w.heap.size, 0, none⟩ = some (.int .i64 0) := by rw [(unhide HE9).cell]; rfl
  have f0 : w9.frozen? ⟨w.heap.size, 0, none⟩ = false := (unhide HE9).frozen 0
  clear hP9 hK9
  go_wp2_with fail
  refine leaves_cons (f := 63) (args := #[.pointer (some ⟨w.heap.size, 0, none⟩)]) (by simp) (by simp [go_sem]) ?_
  refine (catch_idle ⟨w.heap.size, 0, none⟩ _).mono ?_
  rintro e u' w'' ⟨rfl, rfl, rfl⟩
  have HE10 := hide ((unhide HE9).set_ 0 (.int .i64 0))
  have x1 : (w9.setCell ⟨w.heap.size, 0, none⟩ (.int .i64 0)).cell? ⟨w.heap.size, 0, none⟩ = some (.int .i64 0) := by rw [(unhide HE10).cell]; rfl
  have HF := hide (show Blk (w9.setCell ⟨w.heap.size, 0, none⟩ (.int .i64 0)) g 54 #[.string ⟨#[97]⟩, .int .i64 E0, .int .i64 C, .int .i64 k, .int .i64 n, .slice A l c, M] ∧ Kept (One g) w (w9.setCell ⟨w.heap.size, 0, none⟩ (.int .i64 0)) from ⟨(unhide HT9).far (by simp; omega) _, (unhide HK9).new (by omega) _ _⟩)
  clear x0 f0
  generalize w9.setCell ⟨w.heap.size, 0, none⟩ (.int .i64 0) = WF at x1 HF HE10 ⊢
  simp [Leaves, settle, results, Tryd.results53, go_sem, x1]
  exact unhide HF

set_option maxRecDepth 100000 in
set_option maxHeartbeats 4000000 in
theorem one_epoch (g : Nat) (E0 C k n : Int) (A : Option Addr) (l c : Nat) (M : Value) (nm : ByteArray) (w : World) (hT : Blk w g 54 #[.string nm, .int .i64 E0, .int .i64 C, .int .i64 k, .int .i64 n, .slice A l c, M]) :
    Calls Tryd.prog 53 #[.pointer (some ⟨g, 0, none⟩), .int .i64 1, .string ⟨#[101, 112, 111, 99, 104, 32, 49]⟩] w fun e w' => e = .returned (.int .i64 0) ∧ Blk w' g 54 #[.string nm, .int .i64 1, .int .i64 C, .int .i64 k, .int .i64 n, .slice A l c, M] ∧ Kept (One g) w w' := by
  have hmf : ∀ (fn : Fn) (first cap : Array Value) (w : World), (Instr.makeFunc fn first cap).run Tryd.prog w = .ok (.func fn first cap) w := fun _ _ _ _ => rfl
  have HT := hide hT
  have hgw := hT.lt
  clear hT
  go_enter_defers Tryd.func53, Tryd.ntmps53
  go_wp2_with fail
  have HP0 := hide (Blk.at_ (w := w.alloc (.cells #[.int .i64 0] 47)) (t := 98) (cs := #[.string ⟨#[101, 112, 111, 99, 104, 32, 49]⟩, .int .i64 0, .int .i64 0]) (n := w.heap.size + 1) (by simp))
  have HE0 := hide ((Blk.new w 47 #[.int .i64 0]).alloc (.cells #[.string ⟨#[101, 112, 111, 99, 104, 32, 49]⟩, .int .i64 0, .int .i64 0] 98))
  have HT0 := hide (((unhide HT).alloc (.cells #[.int .i64 0] 47)).alloc (.cells #[.string ⟨#[101, 112, 111, 99, 104, 32, 49]⟩, .int .i64 0, .int .i64 0] 98))
  have HK0 := hide (((Kept.refl (One g) w).alloc (.cells #[.int .i64 0] 47)).alloc (.cells #[.string ⟨#[101, 112, 111, 99, 104, 32, 49]⟩, .int .i64 0, .int .i64 0] 98))
  generalize (w.alloc (.cells #[.int .i64 0] 47)).alloc (.cells #[.string ⟨#[101, 112, 111, 99, 104, 32, 49]⟩, .int .i64 0, .int .i64 0] 98) = W0 at HP0 HE0 HT0 HK0 ⊢
  refine (need_yes (w.heap.size + 1) ⟨#[101, 112, 111, 99, 104, 32, 49]⟩ 0 5 0 W0 [101, 112, 111, 99, 104] (unhide HP0) (by decide) (by decide) (by decide +kernel) (by decide +kernel)).mono ?_
  rintro e w1 ⟨rfl, hP1, hK1⟩
  have HP1 := hide hP1
  have HE1 := hide ((unhide HE0).kept hK1 (one_ne (by omega)))
  have HT1 := hide ((unhide HT0).kept hK1 (one_ne (by omega)))
  have HK1 := hide ((unhide HK0).trans hK1 (fun i hi h => by unfold One at h; omega))
  clear hP1 hK1
  go_wp2_with fail
  refine (signed_any (w.heap.size + 1) ⟨#[101, 112, 111, 99, 104, 32, 49]⟩ 5 7 0 w1 49 [] 1 (unhide HP1) (by decide) (by decide) (by decide +kernel) (by decide +kernel) (by decide) (by decide) rfl).mono ?_
  rintro e w2 ⟨rfl, hP2, hK2⟩
  have HP2 := hide hP2
  have HE2 := hide ((unhide HE1).kept hK2 (one_ne (by omega)))
  have HT2 := hide ((unhide HT1).kept hK2 (one_ne (by omega)))
  have HK2 := hide ((unhide HK1).trans hK2 (fun i hi h => by unfold One at h; omega))
  have t1 : w2.cell? ⟨g, 1, none⟩ = some (.int .i64 E0) := by rw [(unhide HT2).cell]; rfl
  have tf1 : w2.frozen? ⟨g, 1, none⟩ = false := (unhide HT2).frozen 1
  clear hP2 hK2
  go_wp2_with fail
  have HP3 := hide ((unhide HP2).far (p := ⟨g, 1, none⟩) (by simp; omega) (.int .i64 1))
  have HE3 := hide ((unhide HE2).far (p := ⟨g, 1, none⟩) (by simp; omega) (.int .i64 1))
  have HT3 := hide ((unhide HT2).set_ 1 (.int .i64 1))
  have HK3 := hide ((unhide HK2).one 1 (.int .i64 1))
  clear t1 tf1
  generalize w2.setCell ⟨g, 1, none⟩ (.int .i64 1) = w3 at HP3 HE3 HT3 HK3 ⊢
  refine (end_yes (w.heap.size + 1) ⟨#[101, 112, 111, 99, 104, 32, 49]⟩ 7 0 w3 (unhide HP3) (by decide) (by decide) (by decide +kernel)).mono ?_
  rintro e w9 ⟨rfl, hP9, hK9⟩
  have HP9 := hide hP9
  have HE9 := hide ((unhide HE3).kept hK9 (one_ne (by omega)))
  have HT9 := hide ((unhide HT3).kept hK9 (one_ne (by omega)))
  have HK9 := hide ((unhide HK3).trans hK9 (fun i hi h => by unfold One at h; omega))
  have x0 : w9.cell? ⟨w.heap.size, 0, none⟩ = some (.int .i64 0) := by rw [(unhide HE9).cell]; rfl
  have f0 : w9.frozen? ⟨w.heap.size, 0, none⟩ = false := (unhide HE9).frozen 0
  clear hP9 hK9
  go_wp2_with fail
  refine leaves_cons (f := 63) (args := #[.pointer (some ⟨w.heap.size, 0, none⟩)]) (by simp) (by simp [go_sem]) ?_
  refine (catch_idle ⟨w.heap.size, 0, none⟩ _).mono ?_
  rintro e u' w'' ⟨rfl, rfl, rfl⟩
  have HE10 := hide ((unhide HE9).set_ 0 (.int .i64 0))
  have x1 : (w9.setCell ⟨w.heap.size, 0, none⟩ (.int .i64 0)).cell? ⟨w.heap.size, 0, none⟩ = some (.int .i64 0) := by rw [(unhide HE10).cell]; rfl
  have HF := hide (show Blk (w9.setCell ⟨w.heap.size, 0, none⟩ (.int .i64 0)) g 54 #[.string nm, .int .i64 1, .int .i64 C, .int .i64 k, .int .i64 n, .slice A l c, M] ∧ Kept (One g) w (w9.setCell ⟨w.heap.size, 0, none⟩ (.int .i64 0)) from ⟨(unhide HT9).far (by simp; omega) _, (unhide HK9).new (by omega) _ _⟩)
  clear x0 f0
  generalize w9.setCell ⟨w.heap.size, 0, none⟩ (.int .i64 0) = WF at x1 HF HE10 ⊢
  simp [Leaves, settle, results, Tryd.results53, go_sem, x1]
  exact unhide HF

set_option maxRecDepth 100000 in
set_option maxHeartbeats 4000000 in
theorem one_cycle (g : Nat) (E0 C k n : Int) (A : Option Addr) (l c : Nat) (M : Value) (nm : ByteArray) (w : World) (hT : Blk w g 54 #[.string nm, .int .i64 E0, .int .i64 C, .int .i64 k, .int .i64 n, .slice A l c, M]) :
    Calls Tryd.prog 53 #[.pointer (some ⟨g, 0, none⟩), .int .i64 2, .string ⟨#[99, 121, 99, 108, 101, 32, 49]⟩] w fun e w' => e = .returned (.int .i64 0) ∧ Blk w' g 54 #[.string nm, .int .i64 E0, .int .i64 1, .int .i64 k, .int .i64 n, .slice A l c, M] ∧ Kept (One g) w w' := by
  have hmf : ∀ (fn : Fn) (first cap : Array Value) (w : World), (Instr.makeFunc fn first cap).run Tryd.prog w = .ok (.func fn first cap) w := fun _ _ _ _ => rfl
  have HT := hide hT
  have hgw := hT.lt
  clear hT
  go_enter_defers Tryd.func53, Tryd.ntmps53
  go_wp2_with fail
  have HP0 := hide (Blk.at_ (w := w.alloc (.cells #[.int .i64 0] 47)) (t := 98) (cs := #[.string ⟨#[99, 121, 99, 108, 101, 32, 49]⟩, .int .i64 0, .int .i64 0]) (n := w.heap.size + 1) (by simp))
  have HE0 := hide ((Blk.new w 47 #[.int .i64 0]).alloc (.cells #[.string ⟨#[99, 121, 99, 108, 101, 32, 49]⟩, .int .i64 0, .int .i64 0] 98))
  have HT0 := hide (((unhide HT).alloc (.cells #[.int .i64 0] 47)).alloc (.cells #[.string ⟨#[99, 121, 99, 108, 101, 32, 49]⟩, .int .i64 0, .int .i64 0] 98))
  have HK0 := hide (((Kept.refl (One g) w).alloc (.cells #[.int .i64 0] 47)).alloc (.cells #[.string ⟨#[99, 121, 99, 108, 101, 32, 49]⟩, .int .i64 0, .int .i64 0] 98))
  generalize (w.alloc (.cells #[.int .i64 0] 47)).alloc (.cells #[.string ⟨#[99, 121, 99, 108, 101, 32, 49]⟩, .int .i64 0, .int .i64 0] 98) = W0 at HP0 HE0 HT0 HK0 ⊢
  refine (need_yes (w.heap.size + 1) ⟨#[99, 121, 99, 108, 101, 32, 49]⟩ 0 5 0 W0 [99, 121, 99, 108, 101] (unhide HP0) (by decide) (by decide) (by decide +kernel) (by decide +kernel)).mono ?_
  rintro e w1 ⟨rfl, hP1, hK1⟩
  have HP1 := hide hP1
  have HE1 := hide ((unhide HE0).kept hK1 (one_ne (by omega)))
  have HT1 := hide ((unhide HT0).kept hK1 (one_ne (by omega)))
  have HK1 := hide ((unhide HK0).trans hK1 (fun i hi h => by unfold One at h; omega))
  clear hP1 hK1
  go_wp2_with fail
  refine (signed_any (w.heap.size + 1) ⟨#[99, 121, 99, 108, 101, 32, 49]⟩ 5 7 0 w1 49 [] 1 (unhide HP1) (by decide) (by decide) (by decide +kernel) (by decide +kernel) (by decide) (by decide) rfl).mono ?_
  rintro e w2 ⟨rfl, hP2, hK2⟩
  have HP2 := hide hP2
  have HE2 := hide ((unhide HE1).kept hK2 (one_ne (by omega)))
  have HT2 := hide ((unhide HT1).kept hK2 (one_ne (by omega)))
  have HK2 := hide ((unhide HK1).trans hK2 (fun i hi h => by unfold One at h; omega))
  have t2 : w2.cell? ⟨g, 2, none⟩ = some (.int .i64 C) := by rw [(unhide HT2).cell]; rfl
  have tf2 : w2.frozen? ⟨g, 2, none⟩ = false := (unhide HT2).frozen 2
  clear hP2 hK2
  go_wp2_with fail
  have HP3 := hide ((unhide HP2).far (p := ⟨g, 2, none⟩) (by simp; omega) (.int .i64 1))
  have HE3 := hide ((unhide HE2).far (p := ⟨g, 2, none⟩) (by simp; omega) (.int .i64 1))
  have HT3 := hide ((unhide HT2).set_ 2 (.int .i64 1))
  have HK3 := hide ((unhide HK2).one 2 (.int .i64 1))
  clear t2 tf2
  generalize w2.setCell ⟨g, 2, none⟩ (.int .i64 1) = w3 at HP3 HE3 HT3 HK3 ⊢
  refine (end_yes (w.heap.size + 1) ⟨#[99, 121, 99, 108, 101, 32, 49]⟩ 7 0 w3 (unhide HP3) (by decide) (by decide) (by decide +kernel)).mono ?_
  rintro e w9 ⟨rfl, hP9, hK9⟩
  have HP9 := hide hP9
  have HE9 := hide ((unhide HE3).kept hK9 (one_ne (by omega)))
  have HT9 := hide ((unhide HT3).kept hK9 (one_ne (by omega)))
  have HK9 := hide ((unhide HK3).trans hK9 (fun i hi h => by unfold One at h; omega))
  have x0 : w9.cell? ⟨w.heap.size, 0, none⟩ = some (.int .i64 0) := by rw [(unhide HE9).cell]; rfl
  have f0 : w9.frozen? ⟨w.heap.size, 0, none⟩ = false := (unhide HE9).frozen 0
  clear hP9 hK9
  go_wp2_with fail
  refine leaves_cons (f := 63) (args := #[.pointer (some ⟨w.heap.size, 0, none⟩)]) (by simp) (by simp [go_sem]) ?_
  refine (catch_idle ⟨w.heap.size, 0, none⟩ _).mono ?_
  rintro e u' w'' ⟨rfl, rfl, rfl⟩
  have HE10 := hide ((unhide HE9).set_ 0 (.int .i64 0))
  have x1 : (w9.setCell ⟨w.heap.size, 0, none⟩ (.int .i64 0)).cell? ⟨w.heap.size, 0, none⟩ = some (.int .i64 0) := by rw [(unhide HE10).cell]; rfl
  have HF := hide (show Blk (w9.setCell ⟨w.heap.size, 0, none⟩ (.int .i64 0)) g 54 #[.string nm, .int .i64 E0, .int .i64 1, .int .i64 k, .int .i64 n, .slice A l c, M] ∧ Kept (One g) w (w9.setCell ⟨w.heap.size, 0, none⟩ (.int .i64 0)) from ⟨(unhide HT9).far (by simp; omega) _, (unhide HK9).new (by omega) _ _⟩)
  clear x0 f0
  generalize w9.setCell ⟨w.heap.size, 0, none⟩ (.int .i64 0) = WF at x1 HF HE10 ⊢
  simp [Leaves, settle, results, Tryd.results53, go_sem, x1]
  exact unhide HF

end Go.Proofs.YtmjmcjcckncplaaDoor
