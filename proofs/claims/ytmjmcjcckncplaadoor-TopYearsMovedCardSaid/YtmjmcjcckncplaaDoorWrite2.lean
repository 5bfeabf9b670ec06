/- rule.write (function 50) at every expression: it writes its text. -/
import Derived.Test.YtmjmcjcckncplaaDoorWrite
import Derived.Test.YtmjmcjcckncplaaDoorTail
import Derived.Deep.RegionWith
namespace Go.Proofs.YtmjmcjcckncplaaDoor
open Go.RowKit Go.BigFrame

set_option maxHeartbeats 2000000 in
theorem write_num (m : Int) : WrOk (.num m) := by
  rintro k n A l c GB B b s w F ⟨rfl, rfl, rfl⟩ hF hG hGB hI hBw hlen hN
  obtain ⟨hn0, hn1⟩ := hN
  have hblt := isB_lt hI
  have HG := hide hG
  have HI := hide hI
  clear hG hI hF
  go_enter Tryd.func50, Tryd.ntmps50
  go_wp2_with fail
  have hK0 : Kept No w (((w.alloc (.cells #[.pointer (some ⟨b, 0, none⟩)] 67)).alloc (.cells #[.int .i64 1, .int .i64 n, .slice A 0 c] 24)).drew) := (((Kept.refl No w).alloc _).alloc _).drew
  have hY0 : Blk (((w.alloc (.cells #[.pointer (some ⟨b, 0, none⟩)] 67)).alloc (.cells #[.int .i64 1, .int .i64 n, .slice A 0 c] 24)).drew) w.heap.size 67 #[.pointer (some ⟨b, 0, none⟩)] := ((Blk.new w _ _).alloc _).drew
  have HK0 := hide hK0
  have HY0 := hide hY0
  clear hK0 hY0
  go_region_with (first
    | (go_at_call 49; refine (itoa_any n hn0 hn1 GB _ ((unhide HG).kept0 (unhide HK0) (by omega))).mono ?_; rintro e w1 ⟨rfl, hK1⟩; have y0 := ((unhide HY0).kept hK1 id).cell 0; have HK1 := hide hK1; clear hK1)
    | (go_at_call 48; refine (write_lit B b s (Lib.itoa n) _ (isB_keep (isB_keep (unhide HI) (unhide HK0)) (unhide HK1)) hlen (by have h1 := (unhide HK0).size; have h2 := (unhide HK1).size; omega)).mono ?_; rintro e w2 ⟨rfl, hw2⟩))
  all_goals go_wp2_with fail
  all_goals go_end0
  all_goals exact ⟨rfl, WrotePost.keep hBw ((unhide HK0).trans (unhide HK1) (fun _ _ h => h)) hw2⟩

set_option maxHeartbeats 2000000 in
theorem write_year : WrOk .year := by
  rintro k n A l c GB B b s w F ⟨rfl, rfl, rfl⟩ hF hG hGB hI hBw hlen hN
  have hblt := isB_lt hI
  have HI := hide hI
  clear hG hI hF
  go_enter Tryd.func50, Tryd.ntmps50
  go_wp2_with fail
  have hK0 : Kept No w (((w.alloc (.cells #[.pointer (some ⟨b, 0, none⟩)] 67)).alloc (.cells #[.int .i64 2, .int .i64 0, .slice A 0 c] 24))) := (((Kept.refl No w).alloc _).alloc _)
  refine (write_lit B b s [121] _ (isB_keep (unhide HI) hK0) hlen (by simp; omega)).mono ?_
  rintro e w1 ⟨rfl, hw1⟩
  have HW := hide (WrotePost.keep hBw hK0 hw1)
  clear hw1 hK0
  go_wp2_with fail
  go_end0
  exact ⟨rfl, unhide HW⟩

set_option maxHeartbeats 2000000 in
theorem write_neg (ta : E) (ih : WrOk ta) : WrOk (.neg ta) := by
  rintro k n A l c GB B b s w F ⟨hk, rfl, rfl, b', o, k1, n1, A1, l1, c1, rfl, hFb, a0, a1, a2, hr⟩ hF hG hGB hI hBw hlen hN
  obtain rfl : k = 3 := hk
  have hblt := isB_lt hI
  have hbB := hF b' hFb
  have h11 := hG.lo
  have HG := hide hG
  have HI := hide hI
  have HF := hide hF
  clear hG hI hF
  go_enter Tryd.func50, Tryd.ntmps50
  go_wp2_with fail
  have hK0 : Kept No w (((w.alloc (.cells #[.pointer (some ⟨b, 0, none⟩)] 67)).alloc (.cells #[.int .i64 3, .int .i64 0, .slice (some ⟨b', o, none⟩) 1 c] 24))) := (((Kept.refl No w).alloc _).alloc _)
  refine (write_lit B b s [45] _ (isB_keep (unhide HI) hK0) (by simp [wr] at hlen ⊢; omega) (by simp; omega)).mono ?_
  rintro e w1 ⟨rfl, hw1⟩
  have hY : Blk w1 w.heap.size 67 #[.pointer (some ⟨b, 0, none⟩)] := ((Blk.new w _ _).alloc _).others hw1.2.2 (by omega) (by decide)
  have hX : Blk w1 (w.heap.size + 1) 24 #[.int .i64 3, .int .i64 0, .slice (some ⟨b', o, none⟩) 1 c] := (Blk.at_ (by simp)).others hw1.2.2 (by omega) (by decide)
  have x2 : w1.cell? ⟨w.heap.size + 1, 2, none⟩ = some (.slice (some ⟨b', o, none⟩) 1 c) := by rw [hX.cell]; rfl
  have hw1' := WrotePost.keep hBw hK0 hw1
  have d0 : w1.cell? ⟨b', o, none⟩ = some (.int .i64 k1) := (hw1'.2.1.cell (p := ⟨b', o, none⟩) hbB).trans a0
  have d1 : w1.cell? ⟨b', o + 1, none⟩ = some (.int .i64 n1) := (hw1'.2.1.cell (p := ⟨b', o + 1, none⟩) hbB).trans a1
  have d2 : w1.cell? ⟨b', o + 2, none⟩ = some (.slice A1 l1 c1) := (hw1'.2.1.cell (p := ⟨b', o + 2, none⟩) hbB).trans a2
  have HW := hide hw1'
  have HX := hide hX
  have HY := hide hY
  clear hw1 hK0 hX hY hw1' a0 a1 a2
  go_wp2_with fail
  refine (operand_any ta ih k1 n1 A1 l1 c1 false 3 (w.heap.size + 1) w.heap.size _ _ GB B b _ w1 F (hr.low (unhide HW).2.1 (unhide HF)) (unhide HF) ((unhide HG).below (unhide HW).2.1 hGB) hGB (unhide HW).is (by have := (unhide HW).2.1.size; omega) (by simp [wr] at hlen; simp [levOf]; omega) hN (by omega) (by omega) (unhide HX) (unhide HY) (by omega)).mono ?_
  rintro e w2 ⟨rfl, hw2⟩
  have HW2 := hide ((unhide HW).trans hw2)
  clear hw2 d0 d1 d2 x2
  go_wp2_with fail
  go_end0
  refine ⟨rfl, ?_⟩
  have h := unhide HW2
  simpa [wr, levOf] using h

set_option maxHeartbeats 2000000 in
theorem write_not (ta : E) (ih : WrOk ta) : WrOk (.not ta) := by
  rintro k n A l c GB B b s w F ⟨hk, rfl, rfl, b', o, k1, n1, A1, l1, c1, rfl, hFb, a0, a1, a2, hr⟩ hF hG hGB hI hBw hlen hN
  obtain rfl : k = 11 := hk
  have hblt := isB_lt hI
  have hbB := hF b' hFb
  have h11 := hG.lo
  have HG := hide hG
  have HI := hide hI
  have HF := hide hF
  clear hG hI hF
  go_enter Tryd.func50, Tryd.ntmps50
  go_wp2_with fail
  have hK0 : Kept No w (((w.alloc (.cells #[.pointer (some ⟨b, 0, none⟩)] 67)).alloc (.cells #[.int .i64 11, .int .i64 0, .slice (some ⟨b', o, none⟩) 1 c] 24))) := (((Kept.refl No w).alloc _).alloc _)
  refine (write_lit B b s [110, 111, 116, 32] _ (isB_keep (unhide HI) hK0) (by simp [wr] at hlen ⊢; omega) (by simp; omega)).mono ?_
  rintro e w1 ⟨rfl, hw1⟩
  have hY : Blk w1 w.heap.size 67 #[.pointer (some ⟨b, 0, none⟩)] := ((Blk.new w _ _).alloc _).others hw1.2.2 (by omega) (by decide)
  have hX : Blk w1 (w.heap.size + 1) 24 #[.int .i64 11, .int .i64 0, .slice (some ⟨b', o, none⟩) 1 c] := (Blk.at_ (by simp)).others hw1.2.2 (by omega) (by decide)
  have x2 : w1.cell? ⟨w.heap.size + 1, 2, none⟩ = some (.slice (some ⟨b', o, none⟩) 1 c) := by rw [hX.cell]; rfl
  have hw1' := WrotePost.keep hBw hK0 hw1
  have d0 : w1.cell? ⟨b', o, none⟩ = some (.int .i64 k1) := (hw1'.2.1.cell (p := ⟨b', o, none⟩) hbB).trans a0
  have d1 : w1.cell? ⟨b', o + 1, none⟩ = some (.int .i64 n1) := (hw1'.2.1.cell (p := ⟨b', o + 1, none⟩) hbB).trans a1
  have d2 : w1.cell? ⟨b', o + 2, none⟩ = some (.slice A1 l1 c1) := (hw1'.2.1.cell (p := ⟨b', o + 2, none⟩) hbB).trans a2
  have HW := hide hw1'
  have HX := hide hX
  have HY := hide hY
  clear hw1 hK0 hX hY hw1' a0 a1 a2
  go_wp2_with fail
  refine (operand_any ta ih k1 n1 A1 l1 c1 false 11 (w.heap.size + 1) w.heap.size _ _ GB B b _ w1 F (hr.low (unhide HW).2.1 (unhide HF)) (unhide HF) ((unhide HG).below (unhide HW).2.1 hGB) hGB (unhide HW).is (by have := (unhide HW).2.1.size; omega) (by simp [wr] at hlen; simp [levOf]; omega) hN (by omega) (by omega) (unhide HX) (unhide HY) (by omega)).mono ?_
  rintro e w2 ⟨rfl, hw2⟩
  have HW2 := hide ((unhide HW).trans hw2)
  clear hw2 d0 d1 d2 x2
  go_wp2_with fail
  go_end0
  refine ⟨rfl, ?_⟩
  have h := unhide HW2
  simpa [wr, levOf] using h

theorem levOf_op {op : O2} {kc : Nat} (h : (kc : Int) = op.code) : levOf kc = op.lev := by
  obtain rfl : kc = op.code.toNat := by omega
  cases op <;> rfl
theorem bin_par (op : O2) (kc : Nat) (h : (kc : Int) = op.code) (a : Nat) : (decide (a < levOf kc) || (((levOf kc : Int) == 4) && decide (a = levOf kc))) = (decide (a < op.lev) || (decide (op.lev = 4) && decide (a = 4))) := by
  rw [levOf_op h]
  have h2 : (((op.lev : Nat) : Int) == 4) = decide (op.lev = 4) := by cases op <;> rfl
  rw [h2]
  by_cases h4 : op.lev = 4 <;> simp [h4]
theorem bin_par2 (op : O2) (kc : Nat) (h : (kc : Int) = op.code) (a : Nat) : (decide (a < levOf kc) || (true && decide (a = levOf kc))) = decide (a ≤ op.lev) := by
  rw [levOf_op h, Bool.eq_iff_iff]
  simp
  omega

set_option maxRecDepth 100000 in
set_option maxHeartbeats 4000000 in
theorem write_bin (op : O2) (ta tb : E) (iha : WrOk ta) (ihb : WrOk tb) : WrOk (.bin op ta tb) := by
  rintro k n A l c GB B b s w F ⟨hk, rfl, rfl, b', o, k1, n1, A1, l1, c1, k2, n2, A2, l2, c2, rfl, hFb, a0, a1, a2, hr, a3, a4, a5, hr'⟩ hF hG hGB hI hBw hlen hN
  have hblt := isB_lt hI
  have hbB := hF b' hFb
  have h11 := hG.lo
  have hl1 := hG.lev op.code.toNat (by cases op <;> decide) (by cases op <;> decide)
  have hs1 := hG.sign op
  obtain ⟨kc, hkc⟩ : ∃ kc : Nat, (kc : Int) = op.code := ⟨op.code.toNat, by cases op <;> rfl⟩
  have hk1 : 4 ≤ kc ∧ kc ≤ 13 ∧ kc ≠ 11 := by cases op <;> simp [O2.code] at hkc <;> omega
  rw [← hkc] at hl1 hs1 hk
  simp only [Int.toNat_natCast] at hl1 hs1
  obtain rfl : k = kc := hk
  have q1 : ((kc : Int) == 1) = false := by rw [beq_eq_false_iff_ne]; omega
  have q2 : ((kc : Int) == 2) = false := by rw [beq_eq_false_iff_ne]; omega
  have q3 : ((kc : Int) == 3) = false := by rw [beq_eq_false_iff_ne]; omega
  have q4 : ((kc : Int) == 11) = false := by rw [beq_eq_false_iff_ne]; omega
  have hb1 : 0 ≤ (kc : Int) ∧ (kc : Int) < 14 := ⟨by omega, by omega⟩
  have hz2 : 2 < w.heap.size := by omega
  have hbw : b' < w.heap.size := by omega
  have HG := hide hG
  have HI := hide hI
  have HF := hide hF
  have HKC := hide hkc
  have HLEN := hide hlen
  clear hG hI hF hkc hk1 hlen
  go_enter Tryd.func50, Tryd.ntmps50
  go_wp2_with fail
  refine still_tail 10 (by kernel_rfl) (by kernel_rfl) fun W hW => ?_
  have hK0 : Kept No w W := by rw [hW]; exact (((Kept.refl No w).alloc _).alloc _).drew
  have hY : Blk W w.heap.size 67 #[.pointer (some ⟨b, 0, none⟩)] := by rw [hW]; exact ((Blk.new w _ _).alloc _).drew
  have hX : Blk W (w.heap.size + 1) 24 #[.int .i64 kc, .int .i64 0, .slice (some ⟨b', o, none⟩) 2 c] := by rw [hW]; exact (Blk.at_ (by simp)).drew
  have hWs : w.heap.size + 2 ≤ W.heap.size := by rw [hW]; simp
  have y0 : W.cell? ⟨w.heap.size, 0, none⟩ = some (.pointer (some ⟨b, 0, none⟩)) := by rw [hY.cell]; rfl
  have x0 : W.cell? ⟨w.heap.size + 1, 0, none⟩ = some (.int .i64 kc) := by rw [hX.cell]; rfl
  have x2 : W.cell? ⟨w.heap.size + 1, 2, none⟩ = some (.slice (some ⟨b', o, none⟩) 2 c) := by rw [hX.cell]; rfl
  have d0 : W.cell? ⟨b', o, none⟩ = some (.int .i64 k1) := hK0.cell a0 id
  have d1 : W.cell? ⟨b', o + 1, none⟩ = some (.int .i64 n1) := hK0.cell a1 id
  have d2 : W.cell? ⟨b', o + 2, none⟩ = some (.slice A1 l1 c1) := hK0.cell a2 id
  have hl1 : W.cell? ⟨1, kc, none⟩ = some (.int .i64 (levOf kc)) := hK0.cell hl1 id
  have HK0 := hide hK0
  have HX := hide hX
  have HY := hide hY
  have HA := hide (And.intro a3 (And.intro a4 a5))
  clear hW hK0 hX hY a0 a1 a2 a3 a4 a5
  simp only [List.take_succ_cons, List.take_zero, List.drop_succ_cons, List.drop_zero]
  iterate 10 still_step
  refine wpStill_nil ?_
  go_wp2_with fail
  have hlen := unhide HLEN
  simp only [wr, List.length_append] at hlen
  have hp1 := bin_par op kc (unhide HKC) ta.lev
  have hp2 := bin_par2 op kc (unhide HKC) tb.lev
  have hkr : 1 ≤ kc ∧ kc ≤ 13 := by have h := unhide HKC; cases op <;> simp [O2.code] at h <;> omega
  refine (operand_any ta iha k1 n1 A1 l1 c1 _ kc (w.heap.size + 1) w.heap.size _ _ GB B b s W F (hr.low ((unhide HK0).toBelow.mono hBw) (unhide HF)) (unhide HF) ((unhide HG).below ((unhide HK0).toBelow.mono hBw) hGB) hGB (isB_keep (unhide HI) (unhide HK0)) (by omega) (by rw [hp1]; omega) hN.1 hkr.1 hkr.2 (unhide HX) (unhide HY) (by omega)).mono ?_
  rintro e w1 ⟨rfl, hw1⟩
  rw [hp1] at hw1
  have hY1 := (unhide HY).others hw1.2.2 (by omega) (by decide)
  have hX1 := (unhide HX).others hw1.2.2 (by omega) (by decide)
  have hw1' := WrotePost.keep hBw (unhide HK0) hw1
  have y0 : w1.cell? ⟨w.heap.size, 0, none⟩ = some (.pointer (some ⟨b, 0, none⟩)) := by rw [hY1.cell]; rfl
  have x0 : w1.cell? ⟨w.heap.size + 1, 0, none⟩ = some (.int .i64 kc) := by rw [hX1.cell]; rfl
  have hs1 : w1.cell? ⟨2, kc, none⟩ = some (.string ⟨op.sign.toArray⟩) := (hw1'.2.1.cell (p := ⟨2, kc, none⟩) (by simp; omega)).trans hs1
  have hz1 := hw1.2.1.size
  have HW1 := hide hw1'
  have HX1 := hide hX1
  have HY1 := hide hY1
  have HP2 := hide hp2
  have HKR := hide hkr
  have HLEN := hide hlen
  clear hw1 hw1' hY1 hX1 hp1 hp2 hlen hkr d0 d1 d2 hl1 x2
  go_wp2_with fail
  refine still_tail 5 (by kernel_rfl) (by kernel_rfl) fun W2 hW => ?_
  have hK2 : Kept No w1 W2 := by rw [hW]; exact (Kept.refl No w1).drew
  have y0 : W2.cell? ⟨w.heap.size, 0, none⟩ = some (.pointer (some ⟨b, 0, none⟩)) := hK2.cell y0 id
  have x0 : W2.cell? ⟨w.heap.size + 1, 0, none⟩ = some (.int .i64 kc) := hK2.cell x0 id
  have hs1 : W2.cell? ⟨2, kc, none⟩ = some (.string ⟨op.sign.toArray⟩) := hK2.cell hs1 id
  have HK2 := hide hK2
  clear hW hK2
  simp only [List.take_succ_cons, List.take_zero, List.drop_succ_cons, List.drop_zero]
  iterate 5 still_step
  refine wpStill_nil ?_
  go_wp2_with fail
  have hz2 := (unhide HK2).size
  have hlen := unhide HLEN
  refine (write_lit B b _ op.sign W2 (isB_keep (unhide HW1).is (unhide HK2)) (by simp; omega) (by omega)).mono ?_
  rintro e w2 ⟨rfl, hw2⟩
  have hX2 := ((unhide HX1).kept (unhide HK2) id).others hw2.2.2 (by omega) (by decide)
  have hY2 := ((unhide HY1).kept (unhide HK2) id).others hw2.2.2 (by omega) (by decide)
  have hw2' := (unhide HW1).trans (WrotePost.keep (by omega) (unhide HK2) hw2)
  have x2 : w2.cell? ⟨w.heap.size + 1, 2, none⟩ = some (.slice (some ⟨b', o, none⟩) 2 c) := by rw [hX2.cell]; rfl
  obtain ⟨a3, a4, a5⟩ := unhide HA
  have d3 : w2.cell? ⟨b', o + 3, none⟩ = some (.int .i64 k2) := (hw2'.2.1.cell (p := ⟨b', o + 3, none⟩) hbB).trans a3
  have d4 : w2.cell? ⟨b', o + 4, none⟩ = some (.int .i64 n2) := (hw2'.2.1.cell (p := ⟨b', o + 4, none⟩) hbB).trans a4
  have d5 : w2.cell? ⟨b', o + 5, none⟩ = some (.slice A2 l2 c2) := (hw2'.2.1.cell (p := ⟨b', o + 5, none⟩) hbB).trans a5
  have hz3 := hw2'.2.1.size
  have HW2 := hide hw2'
  have HX2 := hide hX2
  have HY2 := hide hY2
  clear hw2 hw2' hX2 hY2 a3 a4 a5 hlen x0 y0 hs1
  go_wp2_with fail
  have hlen := unhide HLEN
  refine (operand_any tb ihb k2 n2 A2 l2 c2 true kc (w.heap.size + 1) w.heap.size _ _ GB B b _ w2 F (hr'.low (unhide HW2).2.1 (unhide HF)) (unhide HF) ((unhide HG).below (unhide HW2).2.1 hGB) hGB (unhide HW2).is (by omega) (by rw [unhide HP2]; simp; omega) hN.2 (unhide HKR).1 (unhide HKR).2 (unhide HX2) (unhide HY2) (by omega)).mono ?_
  rintro e w3 ⟨rfl, hw3⟩
  rw [unhide HP2] at hw3
  have HW3 := hide ((unhide HW2).trans hw3)
  clear hw3 hlen d3 d4 d5 x2
  go_wp2_with fail
  go_end0
  refine ⟨rfl, ?_⟩
  have h := unhide HW3
  simpa [wr] using h

theorem write_any (t : E) : WrOk t := by
  induction t with
  | num n => exact write_num n
  | year => exact write_year
  | neg a ih => exact write_neg a ih
  | not a ih => exact write_not a ih
  | bin o a b iha ihb => exact write_bin o a b iha ihb

end Go.Proofs.YtmjmcjcckncplaaDoor
