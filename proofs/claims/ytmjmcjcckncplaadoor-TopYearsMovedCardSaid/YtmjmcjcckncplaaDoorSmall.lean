/- wOp, wPick, wNum, wNone, wPut (functions 19, 20, 21, 25, 16). -/
import Derived.Test.YtmjmcjcckncplaaDoorYear
namespace Go.Proofs.YtmjmcjcckncplaaDoor
open Go.RowKit Go.BigFrame

set_option maxHeartbeats 1000000 in
theorem op_any (k : Int) (A : Option Addr) (l c : Nat) (w : World) : Calls Tryd.prog 19 #[.int .i64 k, .slice A l c] w fun e w' => e = .returned (.agg #[.int .i64 k, .int .i64 0, .slice A l c]) ∧ Kept No w w' := by
  go_enter Tryd.func19, Tryd.ntmps19
  go_wp2_with fail
  refine bodyPost_ret (v := .agg #[.int .i64 k, .int .i64 0, .slice A l c]) (by simp [results, Tryd.results19, go_sem]) rfl ?_
  exact ⟨rfl, (Kept.refl No w).alloc _⟩

set_option maxHeartbeats 1000000 in
theorem num_any (n : Int) (w : World) : Calls Tryd.prog 21 #[.int .i64 n] w fun e w' => e = .returned (.agg #[.int .i64 1, .int .i64 n, .slice none 0 0]) ∧ Kept No w w' := by
  go_enter Tryd.func21, Tryd.ntmps21
  go_wp2_with fail
  refine bodyPost_ret (v := .agg #[.int .i64 1, .int .i64 n, .slice none 0 0]) (by simp [results, Tryd.results21, go_sem]) rfl ?_
  exact ⟨rfl, (Kept.refl No w).alloc _⟩

/-- A number of 0 .. n - 1. -/
def pickF (x n : Int) : Int := (x % 18446744073709551616) % n
theorem pickF_range {x n : Int} (h : 1 ≤ n) : 0 ≤ pickF x n ∧ pickF x n < n := ⟨Int.emod_nonneg _ (by omega), Int.emod_lt_of_pos _ (by omega)⟩

set_option maxHeartbeats 1000000 in
theorem pick_any (x n : Int) (h1 : 1 ≤ n) (h2 : n ≤ 9223372036854775807) (w : World) : Calls Tryd.prog 20 #[.int .i64 x, .int .i64 n] w fun e w' => e = .returned (.int .i64 (pickF x n)) ∧ w' = w := by
  have e1 : IntKind.u64.wrap x = x % 18446744073709551616 := IntKind.wrap_u64 x
  have e2 : wrap64 ((x % 18446744073709551616).tmod n) = pickF x n := by
    have h3 : 0 ≤ x % 18446744073709551616 := Int.emod_nonneg _ (by decide)
    obtain ⟨h4, h5⟩ := pickF_range (x := x) h1
    rw [Int.tmod_eq_emod_of_nonneg h3]
    exact wrap_in _ (by unfold pickF at h4 h5; omega)
  have E1 := hide e1
  have E2 := hide e2
  clear e1 e2
  go_enter Tryd.func20, Tryd.ntmps20
  go_wp2_with fail
  rw [unhide E1, unhide E2]
  go_ret
  exact ⟨rfl, rfl⟩

set_option maxHeartbeats 1000000 in
theorem put_any (x : Int) (N : Nat) (caps : Array Value) (w : World) : Calls Tryd.prog 16 #[.int .i64 x, .func (Fn.func N) #[] caps] w fun e w' => ∃ fb xb, e = .returned (.func (Fn.func 43) #[] #[.pointer (some ⟨fb, 0, none⟩), .pointer (some ⟨xb, 0, none⟩)]) ∧ Blk w' fb 32 #[.func (Fn.func N) #[] caps] ∧ Blk w' xb 3 #[.int .i64 x] ∧ Kept No w w' := by
  have hmf : ∀ (fn : Fn) (first cap : Array Value) (w : World), (Instr.makeFunc fn first cap).run Tryd.prog w = .ok (.func fn first cap) w := fun _ _ _ _ => rfl
  go_enter Tryd.func16, Tryd.ntmps16
  go_wp2_with fail
  go_ret
  exact ⟨w.heap.size + 1, w.heap.size, rfl, Blk.at_ (by simp), (Blk.new w 3 _).alloc _, ((Kept.refl No w).alloc _).alloc _⟩

/-- The value reads as t, wherever its parts lie. -/
def RT (w : World) (k n : Int) (A : Option Addr) (l : Nat) (t : E) : Prop := Rd w (fun _ => True) k n A l t.r
theorem RT.kept {w w' : World} {k n : Int} {A : Option Addr} {l : Nat} {t : E} (h : RT w k n A l t) (hk : Kept No w w') : RT w' k n A l t := Rd.kept h hk (fun _ _ _ => id)

/-- What a function leaves that answers with an expression. -/
def ExprPost (w : World) (t : E) (e : Ending) (w' : World) : Prop :=
  ∃ k n A l c, e = .returned (.agg #[.int .i64 k, .int .i64 n, .slice A l c]) ∧ RT w' k n A l t ∧ Kept No w w'

set_option maxHeartbeats 1000000 in
theorem none_any (t : E) (k n : Int) (A : Option Addr) (l c : Nat) (w : World) (hr : RT w k n A l t) : Calls Tryd.prog 25 #[.agg #[.int .i64 k, .int .i64 n, .slice A l c]] w (ExprPost w (.not t)) := by
  have HR := hide hr
  clear hr
  go_enter Tryd.func25, Tryd.ntmps25
  go_wp2_with fail
  refine (op_any _ _ _ _ _).mono ?_
  rintro e w1 ⟨rfl, hK1⟩
  have hZ : Blk w1 (w.heap.size + 1) 24 #[.int .i64 0, .int .i64 0, .slice none 0 0] := ((Blk.at_ (w := w.alloc (.cells #[.int .i64 k, .int .i64 n, .slice A l c] 24)) (by simp)).alloc _).kept hK1 id
  have hY : Blk w1 (w.heap.size + 2) 24 #[.int .i64 k, .int .i64 n, .slice A l c] := (Blk.at_ (by simp)).kept hK1 id
  have hK : Kept No w w1 := ((((Kept.refl No w).alloc _).alloc _).alloc _).trans hK1 (fun _ _ h => h)
  have hlt := hZ.lt
  have f0 : w1.frozen? ⟨w.heap.size + 1, 0, none⟩ = false := hZ.frozen 0
  have f1 : w1.frozen? ⟨w.heap.size + 1, 1, none⟩ = false := hZ.frozen 1
  have f2 : w1.frozen? ⟨w.heap.size + 1, 2, none⟩ = false := hZ.frozen 2
  have x0 : w1.cell? ⟨w.heap.size + 1, 0, none⟩ = some (.int .i64 0) := by rw [hZ.cell]; rfl
  have x1 : w1.cell? ⟨w.heap.size + 1, 1, none⟩ = some (.int .i64 0) := by rw [hZ.cell]; rfl
  have x2 : w1.cell? ⟨w.heap.size + 1, 2, none⟩ = some (.slice none 0 0) := by rw [hZ.cell]; rfl
  have HY := hide hY
  have HK := hide hK
  clear hZ hY hK hK1
  go_wp2_with fail
  refine bodyPost_ret (v := .agg #[.int .i64 11, .int .i64 0, .slice (some ⟨w.heap.size + 2, 0, none⟩) 1 1]) (by simp [results, Tryd.results25, go_sem, x0, x1, x2]) rfl ?_
  have hKs : Kept (One (w.heap.size + 1)) w1 (((w1.setCell ⟨w.heap.size + 1, 0, none⟩ (.int .i64 11)).setCell ⟨w.heap.size + 1, 1, none⟩ (.int .i64 0)).setCell ⟨w.heap.size + 1, 2, none⟩ (.slice (some ⟨w.heap.size + 2, 0, none⟩) 1 1)) := (((Kept.refl _ w1).one _ _).one _ _).one _ _
  have hKf := (unhide HK).trans hKs (fun i hi h => by unfold One at h; omega)
  have hB := (unhide HY).kept hKs (one_ne (by omega))
  exact ⟨11, 0, _, 1, 1, rfl, Rd.mk1 trivial (by rw [hB.cell]; rfl) (by rw [hB.cell]; rfl) (by rw [hB.cell]; rfl) ((unhide HR).kept hKf), hKf⟩

end Go.Proofs.YtmjmcjcckncplaaDoor
