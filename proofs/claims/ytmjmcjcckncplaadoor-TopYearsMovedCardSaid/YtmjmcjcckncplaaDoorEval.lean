/- rule.Eval (function 40): what it answers, and that it leaves all that was there as it was. -/
import Derived.Test.YtmjmcjcckncplaaDoorWalk2
import Derived.Test.YtmjmcjcckncplaaDoorVal6

namespace Go.Proofs.YtmjmcjcckncplaaDoor
open Go.RowKit Go.BigFrame

/-- What a call of Eval leaves: the two results; nothing that was there is turned. -/
def EvalPost (w : World) (r : Int × Int) (e : Ending) (w' : World) : Prop := e = .returned (.tuple #[.int .i64 r.1, .int .i64 r.2]) ∧ Kept No w w'

theorem One.fresh {w w1 w2 : World} {g : Nat} (h : Kept No w w1) (k : Kept (One g) w1 w2) (hg : w.heap.size ≤ g) : Kept No w w2 :=
  h.trans k (fun i hi e => by unfold One at e; omega)

set_option maxHeartbeats 1000000 in
theorem eval_bad (t : R) (k n : Int) (A : Option Addr) (l c : Nat) (y : Int) (w : World) (F : Nat → Prop) (hr : Rd w F k n A l t) (hG : KidsVar w) (h : (walkF t 1 0).1 ≠ 0) :
    Calls Tryd.prog 40 #[.agg #[.int .i64 k, .int .i64 n, .slice A l c], .int .i64 y] w (EvalPost w (0, (walkF t 1 0).1)) := by
  have HG := hide hG
  clear hG
  generalize hw : walkF t 1 0 = r at h
  have hn : (r.1 != 0) = true := by rw [bne_iff_ne]; exact h
  have HW := hide hw
  clear hw h
  go_enter Tryd.func40, Tryd.ntmps40
  go_wp2_with fail
  have hK : Kept No w ((w.alloc (.cells #[.int .i64 k, .int .i64 n, .slice A l c] 24)).alloc (.cells #[.int .i64 0] 3)) := ((Kept.refl No w).alloc _).alloc _
  refine (walk_any t k n A l c 1 0 (w.heap.size + 1) _ _ (hr.all.kept hK (fun _ _ _ => id)) (fun i hi => by omega) (Blk.at_ (by simp)) (by omega) (by omega) (by omega) (by omega) ((unhide HG).kept hK id) (by omega)).mono ?_
  rintro e w1 ⟨rfl, hB1, hK1⟩
  have H := hide (One.fresh hK hK1 (by omega))
  clear hK hK1 hB1
  rw [unhide HW]
  go_wp2_with fail
  go_ret2
  exact ⟨rfl, unhide H⟩

set_option maxHeartbeats 1000000 in
theorem eval_any (t : E) (k n : Int) (A : Option Addr) (l c : Nat) (y : Int) (w : World) (F : Nat → Prop) (hr : Rd w F k n A l t.r) (hG : KidsVar w) :
    Calls Tryd.prog 40 #[.agg #[.int .i64 k, .int .i64 n, .slice A l c], .int .i64 y] w (EvalPost w (evalF t y)) := by
  by_cases h : (walkF t.r 1 0).1 = 0
  · have HG := hide hG
    clear hG
    generalize hw : walkF t.r 1 0 = r at h
    have hn : (r.1 != 0) = false := by rw [bne_eq_false_iff_eq]; exact h
    have hE : evalF t y = if y < -10000 ∨ 10000 < y then (0, 3) else (resV (valF y t), resE (valF y t)) := by
      unfold evalF
      rw [hw, if_neg (by simp [h])]
      split
      · rfl
      · split <;> simp_all [resV, resE]
    have HW := hide hw
    clear hw h
    by_cases hy : y < -10000 ∨ 10000 < y
    · rw [if_pos hy] at hE
      rw [hE]
      clear hE
      go_enter Tryd.func40, Tryd.ntmps40
      go_wp2_with fail
      have hK : Kept No w ((w.alloc (.cells #[.int .i64 k, .int .i64 n, .slice A l c] 24)).alloc (.cells #[.int .i64 0] 3)) := ((Kept.refl No w).alloc _).alloc _
      refine (walk_any t.r k n A l c 1 0 (w.heap.size + 1) _ _ (hr.all.kept hK (fun _ _ _ => id)) (fun i hi => by omega) (Blk.at_ (by simp)) (by omega) (by omega) (by omega) (by omega) ((unhide HG).kept hK id) (by omega)).mono ?_
      rintro e w1 ⟨rfl, hB1, hK1⟩
      have H := hide (One.fresh hK hK1 (by omega))
      clear hK hK1 hB1
      rw [unhide HW]
      rcases hy with hy | hy
      · go_wp2_with fail
        go_ret2
        exact ⟨rfl, unhide H⟩
      · have hy2 : ¬ y < -10000 := by omega
        go_wp2_with fail
        go_ret2
        exact ⟨rfl, unhide H⟩
    · rw [if_neg hy] at hE
      rw [hE]
      clear hE
      have hy1 : ¬ y < -10000 := by omega
      have hy2 : ¬ 10000 < y := by omega
      clear hy
      go_enter Tryd.func40, Tryd.ntmps40
      go_wp2_with fail
      have hK : Kept No w ((w.alloc (.cells #[.int .i64 k, .int .i64 n, .slice A l c] 24)).alloc (.cells #[.int .i64 0] 3)) := ((Kept.refl No w).alloc _).alloc _
      refine (walk_any t.r k n A l c 1 0 (w.heap.size + 1) _ _ (hr.all.kept hK (fun _ _ _ => id)) (fun i hi => by omega) (Blk.at_ (by simp)) (by omega) (by omega) (by omega) (by omega) ((unhide HG).kept hK id) (by omega)).mono ?_
      rintro e w1 ⟨rfl, hB1, hK1⟩
      have hX : Blk w1 w.heap.size 24 #[.int .i64 k, .int .i64 n, .slice A l c] := ((Blk.new w 24 #[.int .i64 k, .int .i64 n, .slice A l c]).alloc _).kept hK1 (one_ne (by omega))
      have x0 : w1.cell? ⟨w.heap.size, 0, none⟩ = some (.int .i64 k) := by rw [hX.cell]; rfl
      have x1 : w1.cell? ⟨w.heap.size, 1, none⟩ = some (.int .i64 n) := by rw [hX.cell]; rfl
      have x2 : w1.cell? ⟨w.heap.size, 2, none⟩ = some (.slice A l c) := by rw [hX.cell]; rfl
      have hsz := hK1.size
      simp at hsz
      have hlt1 : w.heap.size < w1.heap.size := by omega
      have H := hide (One.fresh hK hK1 (by omega))
      clear hK hK1 hB1 hX
      rw [unhide HW]
      go_wp2_with fail
      have hK2 : Kept No w (w1.alloc (.cells #[.int .i64 y, .int .i64 0] 64)) := (unhide H).alloc _
      refine (val_any y t k n A l c w1.heap.size _ _ (hr.all.kept hK2 (fun _ _ _ => id)) (fun i hi => by omega) (Blk.new _ _ _)).mono ?_
      rintro e w2 ⟨rfl, hB2, hK3⟩
      have m1 : w2.cell? ⟨w1.heap.size, 1, none⟩ = some (.int .i64 (resE (valF y t))) := by rw [hB2.cell]; rfl
      have H2 := hide (One.fresh hK2 hK3 (by omega))
      clear hK2 hK3 hB2 x0 x1 x2
      go_wp2_with fail
      go_quiet (fail)
      go_wp2_with fail
      go_ret2
      exact ⟨rfl, (unhide H2).drewN _⟩
  · have e : evalF t y = (0, (walkF t.r 1 0).1) := by unfold evalF; rw [if_pos h]
    rw [e]
    exact eval_bad t.r k n A l c y w F hr hG h

end Go.Proofs.YtmjmcjcckncplaaDoor
