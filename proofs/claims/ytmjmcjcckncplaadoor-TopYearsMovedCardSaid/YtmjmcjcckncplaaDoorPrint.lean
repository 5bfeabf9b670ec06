/- rule.Print (function 41) at the rule that the laws write an expression in. -/
import Derived.Test.YtmjmcjcckncplaaDoorCheck
import Derived.Test.YtmjmcjcckncplaaDoorWrite2
import Derived.Deep.RegionHeld3
namespace Go.Proofs.YtmjmcjcckncplaaDoor
open Go.RowKit Go.BigFrame

/-- The text of the rule. -/
def headText : List UInt8 := [99, 97, 108, 101, 110, 100, 97, 114, 32, 97, 10, 101, 112, 111, 99, 104, 32, 49, 10, 99, 121, 99, 108, 101, 32, 49, 10, 108, 101, 97, 112, 32]
def monthText : List UInt8 := [109, 111, 110, 116, 104, 32, 109, 32, 51, 48]
def ruleText (t : E) : List UInt8 := headText ++ (wr t ++ 10 :: (monthText ++ [10]))

theorem itoa_one : Lib.itoa 1 = [49] := by unfold Lib.itoa; rw [if_neg (by decide)]; exact Lib.decDigits_one (i := 1) (by decide)
theorem itoa_30 : Lib.itoa 30 = [51, 48] := by unfold Lib.itoa; rw [if_neg (by decide)]; exact Lib.decDigits_two (i := 30) (by decide) (by decide)

/-- What a call of Print leaves. -/
def PrintPost (w : World) (t : E) (e : Ending) (w' : World) : Prop :=
  e = (if (walkF t.r 1 0).1 = 0 then .returned (.tuple #[.string ⟨(ruleText t).toArray⟩, .int .i64 0]) else .returned (.tuple #[.string ⟨#[]⟩, .int .i64 (walkF t.r 1 0).1])) ∧ Kept No w w'

/-- Itoa, met in a world that has kept what W0 held. -/
theorem itoa_from (n : Int) (l : List UInt8) (h0 : 0 ≤ n) (h1 : n ≤ 2147483647) (hl : Lib.itoa n = l) (GB : Nat) (W0 w : World) (hk : Kept No W0 w) (hG : Glob GB W0) (hGB : GB ≤ W0.heap.size) :
    Calls Tryd.prog 49 #[.int .i64 n] w fun e w' => e = .returned (.string ⟨l.toArray⟩) ∧ Kept No W0 w' := by
  subst hl
  refine (itoa_any n h0 h1 GB w (hG.kept0 hk hGB)).mono ?_
  rintro e w' ⟨rfl, hk'⟩
  exact ⟨rfl, hk.trans hk' (fun _ _ h => h)⟩

theorem headEq : (({ data := #[99, 97, 108, 101, 110, 100, 97, 114, 32] } : ByteArray) ++ { data := #[97] } ++ { data := #[10, 101, 112, 111, 99, 104, 32] } ++ { data := #[49] } ++ { data := #[10, 99, 121, 99, 108, 101, 32] } ++ { data := #[49] } ++ { data := #[10, 108, 101, 97, 112, 32] }) = ⟨headText.toArray⟩ := by decide +kernel

theorem monthEq : (({ data := #[109, 111, 110, 116, 104, 32] } : ByteArray) ++ { data := #[109] } ++ { data := #[32] } ++ { data := #[51, 48] }) = ⟨monthText.toArray⟩ := by decide +kernel

set_option maxRecDepth 100000 in
set_option maxHeartbeats 8000000 in
theorem print_any (t : E) (k n : Int) (A : Option Addr) (l c b o mc : Nat) (GB : Nat) (w : World) (F : Nat → Prop) (hr : Rd w F k n A l t.r) (hG : Glob GB w) (hGB : GB ≤ w.heap.size) (hN : (walkF t.r 1 0).1 = 0 → NumOk t ∧ (wr t).length ≤ 3000)
    (m0 : w.cell? ⟨b, o, none⟩ = some (.string ⟨#[109]⟩)) (m1 : w.cell? ⟨b, o + 1, none⟩ = some (.int .i64 30)) (m2 : w.cell? ⟨b, o + 2, none⟩ = some (.int .i64 30)) :
    Calls Tryd.prog 41 #[.agg #[.string ⟨#[97]⟩, .int .i64 1, .int .i64 1, .int .i64 k, .int .i64 n, .slice A l c, .slice (some ⟨b, o, none⟩) 1 mc]] w (PrintPost w t) := by
  have HG := hide hG
  have HM := hide (And.intro m0 (And.intro m1 m2))
  clear hG m0 m1 m2
  have HR := hide hr
  have HN := hide hN
  clear hr hN
  go_enter Tryd.func41, Tryd.ntmps41
  go_wp2_with fail
  have hK0 : Kept No w (w.alloc (.cells #[.string ⟨#[97]⟩, .int .i64 1, .int .i64 1, .int .i64 k, .int .i64 n, .slice A l c, .slice (some ⟨b, o, none⟩) 1 mc] 54)) := (Kept.refl No w).alloc _
  obtain ⟨m0, m1, m2⟩ := unhide HM
  refine (check_any t k n A l c b o mc _ F ((unhide HR).kept hK0 (fun _ _ _ => id)) ((unhide HG).kept0 hK0 hGB).kids (hK0.cell m0 id) (hK0.cell m1 id) (hK0.cell m2 id)).mono ?_
  rintro e w1 ⟨rfl, hK1⟩
  have hX : Blk w1 w.heap.size 54 #[.string ⟨#[97]⟩, .int .i64 1, .int .i64 1, .int .i64 k, .int .i64 n, .slice A l c, .slice (some ⟨b, o, none⟩) 1 mc] := (Blk.new w _ _).kept hK1 id
  have hs1 := hK1.size
  simp at hs1
  have hlt1 : w.heap.size < w1.heap.size := by omega
  have HX := hide hX
  have hK2 := hK0.trans hK1 (fun _ _ h => h)
  have HK := hide hK2
  clear hK0 hK1 hX hK2 m0 m1 m2
  generalize hw : walkF t.r 1 0 = r
  by_cases h : r.1 = 0
  · have hn : (r.1 != 0) = false := by rw [bne_eq_false_iff_eq]; exact h
    have HH := hide (hw.trans (show r = (0, r.2) by rw [← h]))
    obtain ⟨hnum, hlen⟩ := unhide HN (by rw [hw]; exact h)
    clear hw h
    go_wp2_with fail
    have hsB := Lib.IsBuilderF.of (Lib.fresh_isBuilder 70 5 w1)
    generalize hW0 : w1.alloc (.cells #[.pointer none, .slice none 0 0] 70) = W0 at hsB ⊢
    have hK0 : Kept No w W0 := by rw [← hW0]; exact (unhide HK).alloc _
    have hX0 : Blk W0 w.heap.size 54 #[.string ⟨#[97]⟩, .int .i64 1, .int .i64 1, .int .i64 k, .int .i64 n, .slice A l c, .slice (some ⟨b, o, none⟩) 1 mc] := by rw [← hW0]; exact (unhide HX).alloc _
    have hz0 : w1.heap.size + 1 ≤ W0.heap.size := by rw [← hW0]; simp
    have HSB := hide hsB
    have HK0 := hide hK0
    have HX0 := hide hX0
    clear hW0 hsB hK0 hX0
    have hG0 := (unhide HG).kept0 (unhide HK0) hGB
    have hB0 : GB ≤ W0.heap.size := by have := (unhide HK0).size; omega
    have HG0 := hide hG0
    have HKI := hide ((Kept.refl No W0).drew)
    have hlt0 : w1.heap.size ≤ W0.heap.size := by omega
    clear hG0
    go_region_held3 (fun w' => w'.cell? ⟨w.heap.size, 0, none⟩ = some (.string ⟨#[97]⟩) ∧ w'.cell? ⟨w.heap.size, 1, none⟩ = some (.int .i64 1) ∧ w'.cell? ⟨w.heap.size, 2, none⟩ = some (.int .i64 1))
      (first
        | exact ⟨(((unhide HX0).kept (unhide HKI) id).others (unhide HW).2.2 (by omega) (by decide)).cell 0, (((unhide HX0).kept (unhide HKI) id).others (unhide HW).2.2 (by omega) (by decide)).cell 1, (((unhide HX0).kept (unhide HKI) id).others (unhide HW).2.2 (by omega) (by decide)).cell 2⟩
        | exact ⟨((unhide HX0).kept (unhide HKI) id).cell 0, ((unhide HX0).kept (unhide HKI) id).cell 1, ((unhide HX0).kept (unhide HKI) id).cell 2⟩)
      (first
        | (go_at_call 49; refine (itoa_from 1 [49] (by omega) (by omega) itoa_one GB W0 _ ?_ (unhide HG0) hB0).mono ?_; exact unhide HKI; rintro e w2 ⟨rfl, hk2⟩; have HKI := hide hk2; clear hk2)
        | (go_at_call 48; refine (writeString_any w1.heap.size w1.heap.size [] _ _ ?_ ?_ ?_).mono ?_; exact isB_keep (unhide HSB) (unhide HKI); exact (show 0 + 32 ≤ 140737488355328 by omega); exact Nat.le_trans hlt0 (unhide HKI).size; rintro e w3 ⟨rfl, hw3⟩; have HW := hide hw3; clear hw3))
    all_goals
      have hw3 := unhide HW
      rw [headEq, List.nil_append, Lib.strCells_eq] at hw3
      have hw4 : WrotePost w1.heap.size w1.heap.size (Lib.byteCells headText) W0 w3 := WrotePost.keep hlt0 (unhide HKI) hw3
      have hX3 := ((unhide HX0).kept (unhide HKI) id).others hw3.2.2 (by omega) (by decide)
      have x3 : w3.cell? ⟨w.heap.size, 3, none⟩ = some (.int .i64 k) := by rw [hX3.cell]; rfl
      have x4 : w3.cell? ⟨w.heap.size, 4, none⟩ = some (.int .i64 n) := by rw [hX3.cell]; rfl
      have x5 : w3.cell? ⟨w.heap.size, 5, none⟩ = some (.slice A l c) := by rw [hX3.cell]; rfl
      have HW4 := hide hw4
      have HX3 := hide hX3
      have hs3 := hw4.2.1.size
      clear hw3 hw4 hX3
      go_wp2_with fail
      refine (write_any t k n A l c GB w1.heap.size w1.heap.size headText w3 _ (((unhide HR).all.kept (unhide HK0) (fun _ _ _ => id)).low (unhide HW4).2.1 (fun i hi => by omega)) (fun i hi => by omega) ((unhide HG0).below (unhide HW4).2.1 (by omega)) (by omega) (unhide HW4).is (by omega) (by have : headText.length = 32 := rfl; omega) hnum).mono ?_
      rintro e w4 ⟨rfl, hw5⟩
      have hX4 := (unhide HX3).others hw5.2.2 (by omega) (by decide)
      have HW5 := hide ((unhide HW4).trans hw5)
      have HX4 := hide hX4
      have hs4 := hw5.2.1.size
      clear hw5 x3 x4 x5 hX4
      go_wp2_with fail
      have hhl : headText.length = 32 := rfl
      refine (write_lit w1.heap.size w1.heap.size (headText ++ wr t) [10] w4 (unhide HW5).is (by simp; omega) (by omega)).mono ?_
      rintro e w5 ⟨rfl, hw6⟩
      have hX5 := (unhide HX4).others hw6.2.2 (by omega) (by decide)
      have hw7 := (unhide HW5).trans hw6
      have x6 : w5.cell? ⟨w.heap.size, 6, none⟩ = some (.slice (some ⟨b, o, none⟩) 1 mc) := by rw [hX5.cell]; rfl
      obtain ⟨m0, m1, m2⟩ := unhide HM
      have hbw : b < w.heap.size := World.block_lt_of_cell? w _ m0
      have m0 : w5.cell? ⟨b, o, none⟩ = some (.string ⟨#[109]⟩) := (hw7.2.1.cell (p := ⟨b, o, none⟩) (by simp; omega)).trans ((unhide HK0).cell m0 id)
      have m1 : w5.cell? ⟨b, o + 1, none⟩ = some (.int .i64 30) := (hw7.2.1.cell (p := ⟨b, o + 1, none⟩) (by simp; omega)).trans ((unhide HK0).cell m1 id)
      have m2 : w5.cell? ⟨b, o + 2, none⟩ = some (.int .i64 30) := (hw7.2.1.cell (p := ⟨b, o + 2, none⟩) (by simp; omega)).trans ((unhide HK0).cell m2 id)
      have hs5 := hw6.2.1.size
      have HW7 := hide hw7
      clear hw6 hw7 hX5
      go_wp2_with fail
      refine wp_loop_rounds 2 ?_
      rw [rounds_succ]
      go_wp2_with fail
      generalize hW6 : w5.alloc (.cells #[.string ⟨#[109]⟩, .int .i64 30, .int .i64 30] 51) = W6
      have hK6 : Kept No w5 W6 := by rw [← hW6]; exact (Kept.refl No w5).alloc _
      have hM6 : Blk W6 w5.heap.size 51 #[.string ⟨#[109]⟩, .int .i64 30, .int .i64 30] := by rw [← hW6]; exact Blk.new _ _ _
      have HW8 := hide ((WrotePost.trans (unhide HW7) ⟨(isB_keep (unhide HW7).is hK6).elim (fun h => absurd (h.cell0.symm.trans (by rw [hK6.cell (unhide HW7).1.cell0 id])) (by simp)) id, hK6.toBelow.mono (by omega), (fun q _ hq _ _ => (hK6.block q (Array.getElem?_eq_some_iff.1 hq).1 id).trans hq)⟩ : WrotePost w1.heap.size w1.heap.size (Lib.byteCells (headText ++ wr t ++ [10])) W0 W6))
      have hs6 := hK6.size
      have HM6 := hide hM6
      have HKJ := hide ((Kept.refl No W6).drew)
      have hG6 := hide ((unhide HG0).below (unhide HW8).2.1 (by omega))
      clear hW6 hK6 hM6 m0 m1 m2 x6
      go_region_held3 (fun w' => w'.cell? ⟨w5.heap.size, 0, none⟩ = some (.string ⟨#[109]⟩) ∧ w'.cell? ⟨w5.heap.size, 1, none⟩ = some (.int .i64 30))
        (first
          | exact ⟨(((unhide HM6).kept (unhide HKJ) id).others (unhide HWM).2.2 (by omega) (by decide)).cell 0, (((unhide HM6).kept (unhide HKJ) id).others (unhide HWM).2.2 (by omega) (by decide)).cell 1⟩
          | exact ⟨((unhide HM6).kept (unhide HKJ) id).cell 0, ((unhide HM6).kept (unhide HKJ) id).cell 1⟩)
        (first
          | (go_at_call 49; refine (itoa_from 30 [51, 48] (by omega) (by omega) itoa_30 GB W6 _ ?_ (unhide hG6) ?_).mono ?_; exact unhide HKJ; omega; rintro e w7 ⟨rfl, hk2⟩; have HKJ := hide hk2; clear hk2)
          | (go_at_call 48; refine (writeString_any w1.heap.size w1.heap.size (Lib.byteCells (headText ++ wr t ++ [10])) _ _ ?_ ?_ ?_).mono ?_; exact isB_keep (unhide HW8).is (unhide HKJ); rw [monthEq, Lib.byteCells_length]; simp only [List.length_append, List.length_cons, List.length_nil]; exact (show headText.length + (wr t).length + (0 + 1) + 10 ≤ 140737488355328 by omega); have hj := (unhide HKJ).size; omega; rintro e w8 ⟨rfl, hw3⟩; have HWM := hide hw3; clear hw3))
      have hw9 := unhide HWM
      rw [monthEq, Lib.strCells_eq] at hw9
      have hw10 : WrotePost w1.heap.size w1.heap.size (Lib.byteCells (headText ++ wr t ++ [10] ++ monthText)) W0 w8 := by
        have h := (unhide HW8).trans (WrotePost.keep (by omega) (unhide HKJ) hw9)
        simpa [Lib.byteCells] using h
      have hM9 := ((unhide HM6).kept (unhide HKJ) id).others hw9.2.2 (by omega) (by decide)
      have y1 : w8.cell? ⟨w5.heap.size, 1, none⟩ = some (.int .i64 30) := by rw [hM9.cell]; rfl
      have y2 : w8.cell? ⟨w5.heap.size, 2, none⟩ = some (.int .i64 30) := by rw [hM9.cell]; rfl
      have HW10 := hide hw10
      have hs8 := hw10.2.1.size
      clear hw9 hw10 hM9
      go_wp2_with fail
      have hml : monthText.length = 10 := rfl
      refine (write_lit w1.heap.size w1.heap.size _ [10] w8 (unhide HW10).is (by simp; omega) (by omega)).mono ?_
      rintro e w9 ⟨rfl, hw11⟩
      have hw12 := (unhide HW10).trans hw11
      have hs9 := hw12.2.1.size
      have HW12 := hide hw12
      clear hw11 hw12 y1 y2
      go_wp2_with fail
      rw [rounds_succ]
      go_wp2_with fail
      refine (Tryd.Builder_String_any_k w1.heap.size w1.heap.size _ w9 (unhide HW12).is (by omega)).mono ?_
      rintro e w10 ⟨rfl, _, hb10, _⟩
      have HB10 := hide hb10
      clear hb10
      go_wp2_with fail
      go_ret2
      refine ⟨?_, (unhide HK0).trans (keptB ((unhide HW12).2.1.trans (unhide HB10))) (fun i hi h => by omega)⟩
      rw [unhide HH, if_pos rfl]
      rfl
  · have hn : (r.1 != 0) = true := by rw [bne_iff_ne]; exact h
    have HP := hide (show PrintPost w t (.returned (.tuple #[.string ⟨#[]⟩, .int .i64 r.1])) w1 from ⟨by rw [hw, if_neg h], unhide HK⟩)
    clear hw h
    go_wp2_with fail
    go_ret2
    exact unhide HP
end Go.Proofs.YtmjmcjcckncplaaDoor
