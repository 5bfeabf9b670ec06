/- rule.walk (function 45), at expressions with one and with two operands, and so at all of them. -/
import Derived.Test.YtmjmcjcckncplaaDoorWalk

namespace Go.Proofs.YtmjmcjcckncplaaDoor
open Go.RowKit Go.BigFrame
set_option maxHeartbeats 2000000 in
theorem walk_n1 (k' n' : Int) (a : R) (ih : WalkOk a) : WalkOk (.n1 k' n' a) := by
  rintro k n A l c d cnt g w F ⟨rfl, rfl, rfl, b, o, k1, n1, A1, l1, c1, rfl, hFb, hc0', hc1', hc2', hr⟩ hF hB hc0 hc1 hd0 hd1 hG hg
  by_cases h1 : 60 < cnt + 1 ∨ 12 < d
  · simp only [walkF]; rw [if_pos h1]; exact walk_large k n _ 1 c d cnt g w hB hc0 (by omega) h1
  · by_cases h2 : badNode k n 1
    · simp only [walkF]; rw [if_neg h1, if_pos h2]; exact walk_bad k n _ 1 c d cnt g w hB hc0 (by omega) hG hg (by omega) h1 h2
    · have e : walkF (.n1 k n a) d cnt = walkF a (d + 1) (cnt + 1) := by simp only [walkF]; rw [if_neg h1, if_neg h2]
      rw [e]
      clear e
      have hbg := hF b hFb
      have hblt : b < w.heap.size := World.block_lt_of_cell? w _ hc0'
      have hcell : w.cell? ⟨g, 0, none⟩ = some (.int .i64 cnt) := by rw [hB.cell]; rfl
      have hfz : w.frozen? ⟨g, 0, none⟩ = false := hB.frozen 0
      have hlt := hB.lt
      have HB := hide hB
      clear hB
      have h3 : ¬ 60 < cnt + 1 := by omega
      have h4 : ¬ 12 < d := by omega
      clear h1
      have hg1 : ¬ g = 0 := by omega
      have hz : 0 < w.heap.size := by omega
      unfold badNode at h2
      obtain ⟨i, rfl⟩ := Int.eq_ofNat_of_zero_le (show 0 ≤ k by omega)
      have hGi := hG i (by omega) (by omega)
      rw [show kidsOf i = 1 from by omega] at hGi
      have HG := hide hG
      clear hG
      have hb : 0 ≤ (i : Int) ∧ (i : Int) < 14 := ⟨by omega, by omega⟩
      have h3' : decide ((i : Int) < 1) = false := by simp; omega
      have h4' : decide ((13 : Int) < i) = false := by simp; omega
      have h6 : (i : Int) ≠ 1 := by unfold kidsOf at h2; intro h; simp [h] at h2
      have h6' : ((i : Int) == 1) = false := by rw [beq_eq_false_iff_ne]; omega
      have h6n : ((i : Int) != 1) = true := by rw [bne_iff_ne]; omega
      obtain rfl : n = 0 := by omega
      clear h2 h6
      go_enter Tryd.func45, Tryd.ntmps45
      go_wp2
      go_quiet (fail)
      go_wp2
      refine wp_loop_rounds 2 ?_
      rw [rounds_succ]
      go_wp2_with fail
      have hK : Kept (One g) w (((((w.setCell ⟨g, 0, none⟩ (.int .i64 (cnt + 1))).alloc (.cells #[.int .i64 i, .int .i64 0, .slice (some ⟨b, o, none⟩) 1 c] 24)).drewN nq).alloc (.cells #[.int .i64 k1, .int .i64 n1, .slice A1 l1 c1] 24))) :=
        ((((Kept.refl (One g) w).setCell (p := ⟨g, 0, none⟩) (fun _ => rfl) _).alloc _).drewN nq).alloc _
      refine (ih k1 n1 A1 l1 c1 (d + 1) (cnt + 1) g _ F (hr.kept hK (fun i _ h => one_ne (hF i h))) hF ((((unhide HB).set_ 0 _).alloc _).drewN nq |>.alloc _) (by omega) (by omega) (by omega) (by omega) ((unhide HG).kept hK (one_ne (by omega))) hg).mono ?_
      rintro e w1 ⟨rfl, hB1, hK1⟩
      generalize hr1 : walkF a (d + 1) (cnt + 1) = r1 at hB1
      have HR1 := hide hr1
      have HB1 := hide hB1
      have HK := hide hK
      have HK1 := hide hK1
      clear hr1 hB1 hK hK1
      by_cases hz1 : r1.1 = 0
      · have hz2 : (r1.1 != 0) = false := by simp [hz1]
        have HZ := hide hz1
        clear hz1
        go_wp2_with fail
        rw [rounds_succ]
        go_wp2_with fail
        go_ret
        rw [unhide HR1]
        exact ⟨by rw [unhide HZ]; rfl, unhide HB1, (unhide HK).trans (unhide HK1) (fun _ _ h => h)⟩
      · have hz2 : (r1.1 != 0) = true := by simp [hz1]
        clear hz1
        go_wp2_with fail
        go_ret
        rw [unhide HR1]
        exact ⟨rfl, unhide HB1, (unhide HK).trans (unhide HK1) (fun _ _ h => h)⟩
set_option maxHeartbeats 2000000 in
theorem walk_n2 (k' n' : Int) (x y : R) (ihx : WalkOk x) (ihy : WalkOk y) : WalkOk (.n2 k' n' x y) := by
  rintro k n A l c d cnt g w F ⟨rfl, rfl, rfl, b, o, k1, n1, A1, l1, c1, k2, n2, A2, l2, c2, rfl, hFb, hc0', hc1', hc2', hr, hc3', hc4', hc5', hr'⟩ hF hB hc0 hc1 hd0 hd1 hG hg
  by_cases h1 : 60 < cnt + 1 ∨ 12 < d
  · simp only [walkF]; rw [if_pos h1]; exact walk_large k n _ 2 c d cnt g w hB hc0 (by omega) h1
  · by_cases h2 : badNode k n 2
    · simp only [walkF]; rw [if_neg h1, if_pos h2]; exact walk_bad k n _ 2 c d cnt g w hB hc0 (by omega) hG hg (by omega) h1 h2
    · have e : walkF (.n2 k n x y) d cnt = if (walkF x (d + 1) (cnt + 1)).1 = 0 then walkF y (d + 1) (walkF x (d + 1) (cnt + 1)).2 else walkF x (d + 1) (cnt + 1) := by simp only [walkF]; rw [if_neg h1, if_neg h2]
      have HE0 := hide e
      clear e
      have hbg := hF b hFb
      have hblt : b < w.heap.size := World.block_lt_of_cell? w _ hc0'
      have hcell : w.cell? ⟨g, 0, none⟩ = some (.int .i64 cnt) := by rw [hB.cell]; rfl
      have hfz : w.frozen? ⟨g, 0, none⟩ = false := hB.frozen 0
      have hlt := hB.lt
      have HB := hide hB
      clear hB
      have h3 : ¬ 60 < cnt + 1 := by omega
      have h4 : ¬ 12 < d := by omega
      clear h1
      have hg1 : ¬ g = 0 := by omega
      have hz : 0 < w.heap.size := by omega
      unfold badNode at h2
      obtain ⟨i, rfl⟩ := Int.eq_ofNat_of_zero_le (show 0 ≤ k by omega)
      have hGi := hG i (by omega) (by omega)
      rw [show kidsOf i = 2 from by omega] at hGi
      have HG := hide hG
      clear hG
      have hb : 0 ≤ (i : Int) ∧ (i : Int) < 14 := ⟨by omega, by omega⟩
      have h3' : decide ((i : Int) < 1) = false := by simp; omega
      have h4' : decide ((13 : Int) < i) = false := by simp; omega
      have h6 : (i : Int) ≠ 1 := by unfold kidsOf at h2; intro h; simp [h] at h2
      have h6' : ((i : Int) == 1) = false := by rw [beq_eq_false_iff_ne]; omega
      have h6n : ((i : Int) != 1) = true := by rw [bne_iff_ne]; omega
      obtain rfl : n = 0 := by omega
      clear h2 h6
      go_enter Tryd.func45, Tryd.ntmps45
      go_wp2
      go_quiet (fail)
      go_wp2
      refine wp_loop_rounds 3 ?_
      rw [rounds_succ]
      go_wp2_with fail
      have hK : Kept (One g) w (((((w.setCell ⟨g, 0, none⟩ (.int .i64 (cnt + 1))).alloc (.cells #[.int .i64 i, .int .i64 0, .slice (some ⟨b, o, none⟩) 2 c] 24)).drewN nq).alloc (.cells #[.int .i64 k1, .int .i64 n1, .slice A1 l1 c1] 24))) :=
        ((((Kept.refl (One g) w).setCell (p := ⟨g, 0, none⟩) (fun _ => rfl) _).alloc _).drewN nq).alloc _
      refine (ihx k1 n1 A1 l1 c1 (d + 1) (cnt + 1) g _ F (hr.kept hK (fun i _ h => one_ne (hF i h))) hF ((((unhide HB).set_ 0 _).alloc _).drewN nq |>.alloc _) (by omega) (by omega) (by omega) (by omega) ((unhide HG).kept hK (one_ne (by omega))) hg).mono ?_
      rintro e w1 ⟨rfl, hB1, hK1⟩
      generalize hr1 : walkF x (d + 1) (cnt + 1) = r1 at hB1
      have HR1 := hide hr1
      have HB1 := hide hB1
      have HK := hide hK
      have HK1 := hide hK1
      clear hr1 hB1 hK hK1
      by_cases hz1 : r1.1 = 0
      · have hz2 : (r1.1 != 0) = false := by simp [hz1]
        have HZ := hide hz1
        clear hz1
        go_wp2_with fail
        rw [rounds_succ]
        have hbg' : ¬ One g b := one_ne hbg
        have d3 : w1.cell? ⟨b, o + 3, none⟩ = some (.int .i64 k2) := (unhide HK1).cell ((unhide HK).cell hc3' hbg') hbg'
        have d4 : w1.cell? ⟨b, o + 4, none⟩ = some (.int .i64 n2) := (unhide HK1).cell ((unhide HK).cell hc4' hbg') hbg'
        have d5 : w1.cell? ⟨b, o + 5, none⟩ = some (.slice A2 l2 c2) := (unhide HK1).cell ((unhide HK).cell hc5' hbg') hbg'
        clear hc0' hc1' hc2' hc3' hc4' hc5' hGi hcell hfz
        go_wp2_with fail
        have hK2 : Kept (One g) w (w1.alloc (.cells #[.int .i64 k2, .int .i64 n2, .slice A2 l2 c2] 24)) := ((unhide HK).trans (unhide HK1) (fun _ _ h => h)).alloc _
        have hct := walkF_count (r := x) (d := d + 1) (c := cnt + 1) (by rw [unhide HR1]; exact unhide HZ)
        rw [unhide HR1] at hct
        refine (ihy k2 n2 A2 l2 c2 (d + 1) r1.2 g _ F (hr'.kept hK2 (fun i _ h => one_ne (hF i h))) hF ((unhide HB1).alloc _) (by omega) (by omega) (by omega) (by omega) ((unhide HG).kept hK2 (one_ne (by omega))) hg).mono ?_
        rintro e w2 ⟨rfl, hB2, hK3⟩
        have HE := hide (show (if (walkF x (d + 1) (cnt + 1)).1 = 0 then walkF y (d + 1) (walkF x (d + 1) (cnt + 1)).2 else walkF x (d + 1) (cnt + 1)) = walkF y (d + 1) r1.2 by rw [unhide HR1, if_pos (unhide HZ)])
        generalize hr2 : walkF y (d + 1) r1.2 = r2 at hB2 HE
        have HR2 := hide hr2
        have HB2 := hide hB2
        have HK2 := hide hK2
        have HK3 := hide hK3
        clear hr2 hB2 hK2 hK3 hct d3 d4 d5
        by_cases hy1 : r2.1 = 0
        · have hy2 : (r2.1 != 0) = false := by simp [hy1]
          have HY := hide hy1
          clear hy1
          go_wp2_with fail
          rw [rounds_succ]
          go_wp2_with fail
          go_ret
          rw [unhide HE0, unhide HE]
          exact ⟨by rw [unhide HY]; rfl, unhide HB2, (unhide HK2).trans (unhide HK3) (fun _ _ h => h)⟩
        · have hy2 : (r2.1 != 0) = true := by simp [hy1]
          clear hy1
          go_wp2_with fail
          go_ret
          rw [unhide HE0, unhide HE]
          exact ⟨rfl, unhide HB2, (unhide HK2).trans (unhide HK3) (fun _ _ h => h)⟩
      · have hz2 : (r1.1 != 0) = true := by simp [hz1]
        have HE := hide (show (if (walkF x (d + 1) (cnt + 1)).1 = 0 then walkF y (d + 1) (walkF x (d + 1) (cnt + 1)).2 else walkF x (d + 1) (cnt + 1)) = r1 by rw [unhide HR1, if_neg hz1])
        clear hz1
        go_wp2_with fail
        go_ret
        rw [unhide HE0, unhide HE]
        exact ⟨rfl, unhide HB1, (unhide HK).trans (unhide HK1) (fun _ _ h => h)⟩

theorem walk_any (t : R) : WalkOk t := by
  induction t with
  | n0 k n => exact walk_n0 k n
  | n1 k n a ih => exact walk_n1 k n a ih
  | n2 k n x y ihx ihy => exact walk_n2 k n x y ihx ihy
  | big k n l => exact walk_big k n l

end Go.Proofs.YtmjmcjcckncplaaDoor
