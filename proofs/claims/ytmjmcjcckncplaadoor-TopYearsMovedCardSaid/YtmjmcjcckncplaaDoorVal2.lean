/- (machine).value: negation, not. -/
import Derived.Test.YtmjmcjcckncplaaDoorVal

namespace Go.Proofs.YtmjmcjcckncplaaDoor
open Go.RowKit Go.BigFrame

set_option maxHeartbeats 400000 in
theorem boolean_true (w : World) : Calls Tryd.prog 55 #[.bool true] w fun e w' => e = .returned (.int .i64 1) ∧ w = w' := boolean_any true w
set_option maxHeartbeats 400000 in
theorem boolean_false (w : World) : Calls Tryd.prog 55 #[.bool false] w fun e w' => e = .returned (.int .i64 0) ∧ w = w' := boolean_any false w
theorem mul_bound {a b : Int} (a0 : -2147483647 ≤ a) (a1 : a ≤ 2147483647) (b0 : -2147483647 ≤ b) (b1 : b ≤ 2147483647) : -4611686014132420609 ≤ a * b ∧ a * b ≤ 4611686014132420609 := by
  have ha : a.natAbs ≤ 2147483647 := by omega
  have hb : b.natAbs ≤ 2147483647 := by omega
  have h : (a * b).natAbs ≤ 2147483647 * 2147483647 := by rw [Int.natAbs_mul]; exact Nat.mul_le_mul ha hb
  omega

set_option maxHeartbeats 4000000 in
theorem val_neg (y : Int) (ta : E) (iha : ValOk y ta) : ValOk y (.neg ta) := by
  rintro k n A l c g w F ⟨hk, rfl, rfl, b, o, k1, n1, A1, l1, c1, rfl, hFb, a0, a1, a2, hr⟩ hF hB
  obtain rfl : k = 3 := hk
  have hc1 : w.cell? ⟨g, 1, none⟩ = some (.int .i64 0) := by rw [hB.cell]; rfl
  have hlt := hB.lt
  have hblt : b < w.heap.size := World.block_lt_of_cell? w _ a0
  have HB := hide hB
  clear hB
  go_enter Tryd.func46, Tryd.ntmps46
  go_wp2
  refine wp_loop_rounds 2 ?_
  rw [rounds_succ]
  go_wp2_with fail
  clear hc1
  have hK0 : Kept (One g) w (((w.alloc (.cells #[.int .i64 3, .int .i64 0, .slice (some ⟨b, o, none⟩) 1 c] 24)).alloc (.cells #[.int .i64 0, .int .i64 0] 84)).alloc (.cells #[.int .i64 k1, .int .i64 n1, .slice A1 l1 c1] 24)) :=
    (((Kept.refl (One g) w).alloc _).alloc _).alloc _
  refine (iha k1 n1 A1 l1 c1 g _ F (hr.kept hK0 (fun i _ h => hF i h)) hF ((((unhide HB).alloc _).alloc _).alloc _)).mono ?_
  rintro e w2 ⟨rfl, hB2, hK3⟩
  have hv : Blk w2 (w.heap.size + 1) 84 #[.int .i64 0, .int .i64 0] := ((Blk.at_ (w := w.alloc (.cells #[.int .i64 3, .int .i64 0, .slice (some ⟨b, o, none⟩) 1 c] 24)) (by simp)).alloc _).kept hK3 (one_ne (by omega))
  have hx : Blk w2 w.heap.size 24 #[.int .i64 3, .int .i64 0, .slice (some ⟨b, o, none⟩) 1 c] := (((Blk.new w 24 #[.int .i64 3, .int .i64 0, .slice (some ⟨b, o, none⟩) 1 c]).alloc _).alloc _).kept hK3 (one_ne (by omega))
  have v0 : w2.cell? ⟨w.heap.size + 1, 0, none⟩ = some (.int .i64 0) := by rw [hv.cell]; rfl
  have v0f : w2.frozen? ⟨w.heap.size + 1, 0, none⟩ = false := hv.frozen 0
  have x0 : w2.cell? ⟨w.heap.size, 0, none⟩ = some (.int .i64 3) := by rw [hx.cell]; rfl
  have hsz := hK3.size
  simp at hsz
  generalize hr1 : valF y ta = r1 at hB2
  have HR1 := hide hr1
  have HB2 := hide hB2
  have HK2 := hide (hK0.trans hK3 (fun _ _ h => h))
  clear hr1 hK0 hK3 hv hx a0 a1 a2
  have hN1 : ¬ w.heap.size + 1 = g := by omega
  cases r1 with
  | error e1 =>
    have he : e1 = 1 ∨ e1 = 14 := valF_err (unhide HR1)
    have he' : (e1 != 0) = true := by rw [bne_iff_ne]; omega
    have g1 : w2.cell? ⟨g, 1, none⟩ = some (.int .i64 e1) := by rw [hB2.cell]; rfl
    clear hB2 he
    simp only [resV]
    go_wp2_with fail
    go_ret
    have e : valF y (.neg ta) = .error e1 := by simp only [valF]; rw [unhide HR1]
    rw [e]
    exact ⟨rfl, (unhide HB2).far (by simp; omega) _, (unhide HK2).new (by omega) _ _⟩
  | ok va =>
      have ga := valF_range (unhide HR1)
      have g1 : w2.cell? ⟨g, 1, none⟩ = some (.int .i64 0) := by rw [hB2.cell]; rfl
      have g1f : w2.frozen? ⟨g, 1, none⟩ = false := hB2.frozen 1
      clear hB2
      simp only [resV]
      have e : valF y (.neg ta) = fit (-va) := by simp only [valF]; rw [unhide HR1]
      have HE := hide e
      clear e
      have HF := hide (((unhide HB2).far (p := ⟨w.heap.size + 1, 0, none⟩) (by simp; omega) (.int .i64 va)))
      have HL := hide ((unhide HK2).new (b := w.heap.size + 1) (by omega) 0 (.int .i64 va))
      go_wp2_with fail
      rw [rounds_succ]
      have E := hide (fit_good (n := -va) (by omega))
      go_wp2_with fail
      go_ret
      rw [unhide HE, unhide E]
      exact ⟨rfl, unhide HF, unhide HL⟩

set_option maxHeartbeats 4000000 in
theorem val_not (y : Int) (ta : E) (iha : ValOk y ta) : ValOk y (.not ta) := by
  rintro k n A l c g w F ⟨hk, rfl, rfl, b, o, k1, n1, A1, l1, c1, rfl, hFb, a0, a1, a2, hr⟩ hF hB
  obtain rfl : k = 11 := hk
  have hc1 : w.cell? ⟨g, 1, none⟩ = some (.int .i64 0) := by rw [hB.cell]; rfl
  have hlt := hB.lt
  have hblt : b < w.heap.size := World.block_lt_of_cell? w _ a0
  have HB := hide hB
  clear hB
  go_enter Tryd.func46, Tryd.ntmps46
  go_wp2
  refine wp_loop_rounds 2 ?_
  rw [rounds_succ]
  go_wp2_with fail
  clear hc1
  have hK0 : Kept (One g) w (((w.alloc (.cells #[.int .i64 11, .int .i64 0, .slice (some ⟨b, o, none⟩) 1 c] 24)).alloc (.cells #[.int .i64 0, .int .i64 0] 84)).alloc (.cells #[.int .i64 k1, .int .i64 n1, .slice A1 l1 c1] 24)) :=
    (((Kept.refl (One g) w).alloc _).alloc _).alloc _
  refine (iha k1 n1 A1 l1 c1 g _ F (hr.kept hK0 (fun i _ h => hF i h)) hF ((((unhide HB).alloc _).alloc _).alloc _)).mono ?_
  rintro e w2 ⟨rfl, hB2, hK3⟩
  have hv : Blk w2 (w.heap.size + 1) 84 #[.int .i64 0, .int .i64 0] := ((Blk.at_ (w := w.alloc (.cells #[.int .i64 11, .int .i64 0, .slice (some ⟨b, o, none⟩) 1 c] 24)) (by simp)).alloc _).kept hK3 (one_ne (by omega))
  have hx : Blk w2 w.heap.size 24 #[.int .i64 11, .int .i64 0, .slice (some ⟨b, o, none⟩) 1 c] := (((Blk.new w 24 #[.int .i64 11, .int .i64 0, .slice (some ⟨b, o, none⟩) 1 c]).alloc _).alloc _).kept hK3 (one_ne (by omega))
  have v0 : w2.cell? ⟨w.heap.size + 1, 0, none⟩ = some (.int .i64 0) := by rw [hv.cell]; rfl
  have v0f : w2.frozen? ⟨w.heap.size + 1, 0, none⟩ = false := hv.frozen 0
  have x0 : w2.cell? ⟨w.heap.size, 0, none⟩ = some (.int .i64 11) := by rw [hx.cell]; rfl
  have hsz := hK3.size
  simp at hsz
  generalize hr1 : valF y ta = r1 at hB2
  have HR1 := hide hr1
  have HB2 := hide hB2
  have HK2 := hide (hK0.trans hK3 (fun _ _ h => h))
  clear hr1 hK0 hK3 hv hx a0 a1 a2
  have hN1 : ¬ w.heap.size + 1 = g := by omega
  cases r1 with
  | error e1 =>
    have he : e1 = 1 ∨ e1 = 14 := valF_err (unhide HR1)
    have he' : (e1 != 0) = true := by rw [bne_iff_ne]; omega
    have g1 : w2.cell? ⟨g, 1, none⟩ = some (.int .i64 e1) := by rw [hB2.cell]; rfl
    clear hB2 he
    simp only [resV]
    go_wp2_with fail
    go_ret
    have e : valF y (.not ta) = .error e1 := by simp only [valF]; rw [unhide HR1]
    rw [e]
    exact ⟨rfl, (unhide HB2).far (by simp; omega) _, (unhide HK2).new (by omega) _ _⟩
  | ok va =>
      have ga := valF_range (unhide HR1)
      have g1 : w2.cell? ⟨g, 1, none⟩ = some (.int .i64 0) := by rw [hB2.cell]; rfl
      have g1f : w2.frozen? ⟨g, 1, none⟩ = false := hB2.frozen 1
      clear hB2
      simp only [resV]
      have e : valF y (.not ta) = .ok (truth (va = 0)) := by simp only [valF]; rw [unhide HR1]
      have HE := hide e
      clear e
      have HF := hide (((unhide HB2).far (p := ⟨w.heap.size + 1, 0, none⟩) (by simp; omega) (.int .i64 va)))
      have HL := hide ((unhide HK2).new (b := w.heap.size + 1) (by omega) 0 (.int .i64 va))
      go_wp2_with fail
      rw [rounds_succ]
      by_cases h1 : va = 0
      · have hd : (va == 0) = true := by rw [beq_iff_eq]; exact h1
        have HT := hide (show (Except.ok (truth (va = 0)) : Except Int Int) = .ok 1 by simp only [truth]; rw [if_pos h1])
        clear h1
        go_wp2_with fail
        refine (boolean_true _).mono ?_
        rintro e w3 ⟨rfl, rfl⟩
        go_wp2_with fail
        go_ret
        rw [unhide HE, unhide HT]
        exact ⟨rfl, unhide HF, unhide HL⟩
      · have hd : (va == 0) = false := by rw [beq_eq_false_iff_ne]; exact h1
        have HT := hide (show (Except.ok (truth (va = 0)) : Except Int Int) = .ok 0 by simp only [truth]; rw [if_neg h1])
        clear h1
        go_wp2_with fail
        refine (boolean_false _).mono ?_
        rintro e w3 ⟨rfl, rfl⟩
        go_wp2_with fail
        go_ret
        rw [unhide HE, unhide HT]
        exact ⟨rfl, unhide HF, unhide HL⟩

end Go.Proofs.YtmjmcjcckncplaaDoor
