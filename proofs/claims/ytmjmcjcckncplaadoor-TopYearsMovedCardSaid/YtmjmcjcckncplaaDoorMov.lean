/- TopYearsMoved: the change (function 33), the root (function 11). -/
import Derived.Test.YtmjmcjcckncplaaDoorMovW
namespace Go.Proofs.YtmjmcjcckncplaaDoor
open Go.RowKit Go.BigFrame

set_option maxRecDepth 100000 in
set_option maxHeartbeats 4000000 in
theorem mov_chg (by_ : Int) (later : Bool) (b2 b3 : Nat) (w0 : World) (t : E) (y v : Int) (h2 : Blk w0 b2 3 #[.int .i64 by_]) (h3 : Blk w0 b3 4 #[.bool later]) (hev : evalF t y = (v, 0)) :
    ChgOk 33 #[.pointer (some ⟨b2, 0, none⟩), .pointer (some ⟨b3, 0, none⟩)] w0 t y v := by
  intro w b q k n A l c a hK0 hB hQ hbq hb0 hq0 hT hae hnd hbl
  have hmf : ∀ (fn : Fn) (first cap : Array Value) (w : World), (Instr.makeFunc fn first cap).run Tryd.prog w = .ok (.func fn first cap) w := fun _ _ _ _ => rfl
  have hst : ∀ (p : Addr) (fn : Fn) (first cap : Array Value) (m : Mode) (w : World), (store p (.func fn first cap) m).run Tryd.prog w = stored Tryd.prog w p (.func fn first cap) m := fun _ _ _ _ _ _ => run_store _ _ _ _ _ rfl
  have hb2 := h2.lt
  have hb3 := h3.lt
  have h2w := h2.kept hK0 id
  have c2 : w.cell? ⟨b2, 0, none⟩ = some (.int .i64 by_) := h2w.cell 0
  have H3 := hide (h3.kept hK0 id)
  have HK0 := hide hK0
  have HB := hide hB
  have HQ := hide hQ
  have HT := hide hT
  have HAE := hide hae
  have HND := hide hnd
  have HBL := hide hbl
  have HEV := hide hev
  have hbw := hB.lt
  have hqw := hQ.lt
  have hws := hK0.size
  have hy1 := (evalF_ok hev).2.1
  have hy2 := (evalF_ok hev).2.2.1
  obtain ⟨m, hpm⟩ : ∃ m, pickF by_ 3000 = m := ⟨_, rfl⟩
  have hm := pickF_range (x := by_) (n := 3000) (by omega)
  rw [hpm] at hm
  have HP := hide hpm
  clear h2 h3 h2w hK0 hB hQ hT hae hnd hbl hev hpm
  go_enter Tryd.func33, Tryd.ntmps33
  go_wp2_with fail
  refine (pick_any by_ 3000 (by omega) (by omega) _).mono ?_
  rintro e w2 ⟨rfl, rfl⟩
  rw [unhide HP]
  go_wp2_with fail
  have HC := hide (show Caps34 ((w2.alloc (.cells #[.int .i64 m] 3)).alloc (.cells #[.func (Fn.func 34) #[] #[.pointer (some ⟨w2.heap.size + 1, 0, none⟩), .pointer (some ⟨b3, 0, none⟩), .pointer (some ⟨w2.heap.size, 0, none⟩)]] 29)).drew (w2.heap.size + 1) b3 w2.heap.size later m from
    ⟨(Blk.at_ (by simp)).drew, (((unhide H3).alloc _).alloc _).drew, ((Blk.new w2 3 _).alloc _).drew⟩)
  have HKV := hide (((Kept.refl No w2).alloc (.cells #[.int .i64 m] 3)).alloc (.cells #[.func (Fn.func 34) #[] #[.pointer (some ⟨w2.heap.size + 1, 0, none⟩), .pointer (some ⟨b3, 0, none⟩), .pointer (some ⟨w2.heap.size, 0, none⟩)]] 29)).drew
  generalize (w2.alloc (.cells #[.int .i64 m] 3)).alloc (.cells #[.func (Fn.func 34) #[] #[.pointer (some ⟨w2.heap.size + 1, 0, none⟩), .pointer (some ⟨b3, 0, none⟩), .pointer (some ⟨w2.heap.size, 0, none⟩)]] 29) = V at HC HKV ⊢
  have hVs := (unhide HC).wv.lt
  have c0 : V.drew.cell? ⟨w2.heap.size + 1, 0, none⟩ = some (.func (Fn.func 34) #[] #[.pointer (some ⟨w2.heap.size + 1, 0, none⟩), .pointer (some ⟨b3, 0, none⟩), .pointer (some ⟨w2.heap.size, 0, none⟩)]) := (unhide HC).wv.cell 0
  have HBV := hide ((unhide HB).kept (unhide HKV) id)
  have d0 : V.drew.cell? ⟨b, 0, none⟩ = some (.int .i64 k) := (unhide HBV).cell 0
  have d1 : V.drew.cell? ⟨b, 1, none⟩ = some (.int .i64 n) := (unhide HBV).cell 1
  have d2 : V.drew.cell? ⟨b, 2, none⟩ = some (.slice A l c) := (unhide HBV).cell 2
  have HTV := hide ((unhide HT).kept (unhide HKV) (fun _ _ => id))
  have HBN := hide (show b ∉ a.blocks from fun h => (unhide HBL b h).2.1 rfl)
  have HQN := hide (show q ∉ a.blocks from fun h => (unhide HBL q h).2.2 rfl)
  have HLT := hide (show ∀ i, i ∈ a.blocks → i < w2.heap.size from (unhide HT).lt)
  have H3N := hide (show b3 ∉ a.blocks from fun h => by have := (unhide HBL b3 h).1; omega)
  have HVN := hide (show (w2.heap.size + 1 ∉ a.blocks) ∧ w2.heap.size ∉ a.blocks from ⟨fun h => by have := unhide HLT _ h; omega, fun h => by have := unhide HLT _ h; omega⟩)
  go_region_with (first
    | (go_at_call 34; refine (mov_any later m a _ k n A l c (w2.heap.size + 1) b3 w2.heap.size (unhide HTV) (unhide HND) (unhide HC) (unhide HVN).1 (unhide H3N) (unhide HVN).2).mono ?_; rintro e w4 ⟨k4, n4, A4, l4, c4, rfl, hR4, hK4⟩
       have HR4 := hide hR4; have HK4 := hide hK4; have HB4 := hide ((unhide HBV).kept hK4 (unhide HBN)); have hgr := hK4.size
       have f0 := (unhide HB4).frozen 0; have f1 := (unhide HB4).frozen 1; have f2 := (unhide HB4).frozen 2
       have z0 := (unhide HB4).cell 0; have z1 := (unhide HB4).cell 1; have z2 := (unhide HB4).cell 2; have hbl4 := (unhide HB4).lt; clear hR4 hK4)
    | fail)
  all_goals
    have hd := (((Kept.refl (One b) w4).one 0 (.int .i64 k4)).one 1 (.int .i64 n4)).one 2 (.slice A4 l4 c4)
    have hVd : V.drew.heap.size = V.heap.size := rfl
    have HBW := hide ((((unhide HB4).set_ 0 (.int .i64 k4)).set_ 1 (.int .i64 n4)).set_ 2 (.slice A4 l4 c4))
    have HRW := hide (((unhide HR4).kept hd (fun i _ hi => one_ne (hi.elim (fun h e => unhide HBN (e ▸ h)) (fun h => by omega)))).mono (F' := fun i => i ≠ q) (fun i _ hi => hi.elim (fun h e => unhide HQN (e ▸ h)) (fun h => by omega)))
    have HCW := hide (((unhide HC).kept (unhide HK4) (unhide HVN).1 (unhide H3N) (unhide HVN).2).kept hd (one_ne (by omega)) (one_ne (by omega)) (one_ne (by omega)))
    have HQW := hide ((((unhide HQ).kept (unhide HKV) id).kept (unhide HK4) (unhide HQN)).kept hd (one_ne (Ne.symm hbq)))
    have HKW := hide ((((unhide HK0).trans (unhide HKV) (fun _ _ h => h)).trans (unhide HK4) (fun i hi h => by have := (unhide HBL i h).1; omega)).trans hd (fun i hi h => by unfold One at h; omega))
    clear f0 f1 f2 z0 z1 z2 d0 d1 d2 c0 hd hbl4 HBV HB4 HTV HR4
    generalize ((w4.setCell ⟨b, 0, none⟩ (.int .i64 k4)).setCell ⟨b, 1, none⟩ (.int .i64 n4)).setCell ⟨b, 2, none⟩ (.slice A4 l4 c4) = W1 at HBW HRW HCW HQW HKW ⊢
    have hqW := (unhide HQW).lt
    have q0 : W1.cell? ⟨q, 0, none⟩ = some (.int .i64 y) := (unhide HQW).cell 0
    have q1 : W1.drew.cell? ⟨q, 0, none⟩ = some (.int .i64 y) := (unhide HQW).cell 0
    have qf : W1.frozen? ⟨q, 0, none⟩ = false := (unhide HQW).frozen 0
    have qg : W1.drew.frozen? ⟨q, 0, none⟩ = false := (unhide HQW).frozen 0
    have n0 : W1.cell? ⟨w2.heap.size, 0, none⟩ = some (.int .i64 m) := (unhide HCW).nv.cell 0
    have n1 : W1.drew.cell? ⟨w2.heap.size, 0, none⟩ = some (.int .i64 m) := (unhide HCW).nv.cell 0
    have l0 : W1.cell? ⟨b3, 0, none⟩ = some (.bool later) := (unhide HCW).lv.cell 0
    have EW1 := hide (show IntKind.i64.wrap (y - m) = y - m from IntWalk.i64_in _ (by omega))
    go_wp2_with fail
    go_region_with (first | fail)
  all_goals
    rw [unhide EW1]
    have hd2 := ((Kept.refl (One q) W1).one 0 (.int .i64 (y - m))).drew
    have HBX := hide ((unhide HBW).kept hd2 (one_ne hbq))
    have HRX := hide ((unhide HRW).kept hd2 (fun i _ hi => one_ne hi))
    have HCX := hide ((unhide HCW).kept hd2 (one_ne (by omega)) (one_ne (by omega)) (one_ne (by omega)))
    have HQX := hide (show Blk (W1.setCell ⟨q, 0, none⟩ (.int .i64 (y - m))).drew q 3 #[.int .i64 (y - m)] from ((unhide HQW).set_ 0 _).drew)
    have HKX := hide ((unhide HKW).trans hd2 (fun i hi h => by unfold One at h; omega))
    clear hd2 q0 q1 qf qg n0 n1 l0
    generalize (W1.setCell ⟨q, 0, none⟩ (.int .i64 (y - m))).drew = W2 at HBX HRX HCX HQX HKX ⊢
    have hqW2 := (unhide HQX).lt
    have q0 : W2.cell? ⟨q, 0, none⟩ = some (.int .i64 (y - m)) := (unhide HQX).cell 0
    have q1 : W2.drew.cell? ⟨q, 0, none⟩ = some (.int .i64 (y - m)) := (unhide HQX).cell 0
    have qf : W2.frozen? ⟨q, 0, none⟩ = false := (unhide HQX).frozen 0
    have qg : W2.drew.frozen? ⟨q, 0, none⟩ = false := (unhide HQX).frozen 0
    have n0 : W2.cell? ⟨w2.heap.size, 0, none⟩ = some (.int .i64 m) := (unhide HCX).nv.cell 0
    have n1 : W2.drew.cell? ⟨w2.heap.size, 0, none⟩ = some (.int .i64 m) := (unhide HCX).nv.cell 0
    have l0 : W2.cell? ⟨b3, 0, none⟩ = some (.bool later) := (unhide HCX).lv.cell 0
    cases later
    · go_wp2_with fail
      go_ret
      exact ⟨true, rfl, unhide HKX, fun _ => ⟨k4, n4, A4, l4, c4, _, _, unhide HBX, unhide HQX, (unhide HRX).mono (fun _ _ _ => trivial), by rw [unhide HAE]; exact same_moved (n := m) false (unhide HEV)⟩⟩
    · have EW2 := hide (show IntKind.i64.wrap (2 * m) = 2 * m from IntWalk.i64_in _ (by omega))
      have EW3 := hide (show IntKind.i64.wrap (y - m + 2 * m) = y + m from by rw [show y - m + 2 * m = y + m by omega]; exact IntWalk.i64_in _ (by omega))
      go_wp2_with fail
      go_region_with (first | fail)
      all_goals
        rw [unhide EW2, unhide EW3]
        have hd3 := ((Kept.refl (One q) W2).one 0 (.int .i64 (y + m))).drew
        have HBY := hide ((unhide HBX).kept hd3 (one_ne hbq))
        have HRY := hide ((unhide HRX).kept hd3 (fun i _ hi => one_ne hi))
        have HQY := hide (show Blk (W2.setCell ⟨q, 0, none⟩ (.int .i64 (y + m))).drew q 3 #[.int .i64 (y + m)] from ((unhide HQX).set_ 0 _).drew)
        have HKY := hide ((unhide HKX).trans hd3 (fun i hi h => by unfold One at h; omega))
        clear hd3 q0 q1 qf qg n0 n1 l0
        generalize (W2.setCell ⟨q, 0, none⟩ (.int .i64 (y + m))).drew = W3 at HBY HRY HQY HKY ⊢
        go_wp2_with fail
        go_ret
        exact ⟨true, rfl, unhide HKY, fun _ => ⟨k4, n4, A4, l4, c4, _, _, unhide HBY, unhide HQY, (unhide HRY).mono (fun _ _ _ => trivial), by rw [unhide HAE]; exact same_moved (n := m) true (unhide HEV)⟩⟩

set_option maxRecDepth 100000 in
set_option maxHeartbeats 4000000 in
theorem mov_top (r : R) (k n : Int) (A : Option Addr) (l c : Nat) (y by_ : Int) (later : Bool) (GB : Nat) (w : World) (F : Nat → Prop) (hr : Rd w F k n A l r) (hG : Glob GB w) (hGB : GB ≤ w.heap.size) :
    Calls Tryd.prog 11 #[.agg #[.int .i64 k, .int .i64 n, .slice A l c], .int .i64 y, .int .i64 by_, .bool later] w (YearPost w) := by
  have hent33 : ∀ (args : Array Value) (w : World), (callFunc 33 args).run Tryd.prog w = .ok (.enter 33 args) w := by intro args w; go_simp
  have hmf : ∀ (fn : Fn) (first cap : Array Value) (w : World), (Instr.makeFunc fn first cap).run Tryd.prog w = .ok (.func fn first cap) w := fun _ _ _ _ => rfl
  have HR := hide hr
  have HG := hide hG
  have HE1 := hide hent33
  clear hr hG hent33
  go_enter Tryd.func11, Tryd.ntmps11
  go_wp2_with fail
  have HK := hide ((((Kept.refl No w).alloc (.cells #[.int .i64 k, .int .i64 n, .slice A l c] 24)).alloc (.cells #[.int .i64 by_] 3)).alloc (.cells #[.bool later] 4))
  have HW := hide ((Blk.at_ (w := w.alloc (.cells #[.int .i64 k, .int .i64 n, .slice A l c] 24)) (t := 3) (cs := #[.int .i64 by_]) (n := w.heap.size + 1) (by simp)).alloc (.cells #[.bool later] 4))
  have HI := hide (Blk.at_ (w := (w.alloc (.cells #[.int .i64 k, .int .i64 n, .slice A l c] 24)).alloc (.cells #[.int .i64 by_] 3)) (t := 4) (cs := #[.bool later]) (n := w.heap.size + 1 + 1) (by simp))
  generalize ((w.alloc (.cells #[.int .i64 k, .int .i64 n, .slice A l c] 24)).alloc (.cells #[.int .i64 by_] 3)).alloc (.cells #[.bool later] 4) = V at HK HW HI ⊢
  refine (year_any r k n A l c y 33 GB _ _ F ((unhide HR).kept (unhide HK) (fun _ _ _ => id)) ((unhide HG).kept0 (unhide HK) hGB) (Nat.le_trans hGB (unhide HK).size) (fun t v _ hev => mov_chg by_ later _ _ _ t y v (unhide HW) (unhide HI) hev) (unhide HE1)).mono ?_
  rintro e w2 ⟨rfl, hK2⟩
  have HK := hide ((unhide HK).trans hK2 (fun _ _ h => h))
  clear hK2
  go_wp2_with fail
  go_ret
  exact ⟨rfl, unhide HK⟩

end Go.Proofs.YtmjmcjcckncplaaDoor
