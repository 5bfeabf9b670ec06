/- TopYearsMoved (the value for a moved year): for every input the law answers true; no condition beyond the row's own cells. -/
import Derived.Test.YtmjmcjcckncplaaDoorMov
import Derived.Test.YtmjmcjcckncplaaDoorLift
import Derived.Test.YtmjmcjcckncplaaDoorTie
import Derived.Test.YtmjmcjcckncplaaDoorCards
namespace Go.Proofs.YtmjmcjcckncplaaDoor
open Go.ChangeShapes Go.WideShapes Go.ChangeAt Go.RowKit

set_option maxRecDepth 100000 in
theorem mov_top_lifted (os : Os) (started : os.Started) (H : Type) (enc : TypeId × Value → H) :
    ReturnsInHanded {} Tryd.checked os 11 .any (fun w args => (Rows.topYearsMovedSpec.pre enc Tryd.prog Tryd.f11 [] false w args ∧ laidMetH Tryd.prog laids w) ∧ sizedMet enc Tryd.prog Tryd.f11 (OpenSpec.ofChange Rows.topYearsMovedSpec) false w args)
      (Rows.topYearsMovedSpec.post enc Tryd.prog Tryd.f11 false true false false) := by
  refine handed_shaped started (by kernel_rfl) Tryd.func11
    (ChangeSpec.witness_shaped (enc := enc) (C := Tryd.checked) (os := os) (X := fun w _ => laidMetH Tryd.prog laids w) false (World.doorLaid Tryd.prog 400 os) #[.agg #[.int .i64 0, .int .i64 0, .slice none 0 0], .int .i64 0, .int .i64 0, .bool false] 8 rfl (World.shaped_of_RefB (by kernel_rfl) (by kernel_rfl)) (by kernel_rfl) (by kernel_rfl) (by kernel_rfl) (door_met os _)) rfl rfl ?_ ?_
  · intro t ht
    rw [Tryd.params11] at ht
    have hm : t ∈ [24, 3, 3, 4] := ht
    simp only [List.mem_cons, List.not_mem_nil, or_false] at hm
    rcases hm with rfl | rfl | rfl | rfl
    · exact readable24
    · exact readable3
    · exact readable3
    · exact readable4
  · intro W base args ds ps hval hA hG
    rw [Tryd.params11] at hA hval
    obtain ⟨v0, v1, v2, v3, d0, d1, d2, d3, p0, p1, p2, p3, rfl, rfl, rfl, h0, h1, h2, h3⟩ := trodAll_four hA
    obtain ⟨k, n, A, l, c, r, rfl, hr⟩ := open_rule (hval 0 24 v0 rfl rfl) h0
    obtain ⟨x1, rfl, rfl, rfl, _⟩ := open_int Tryd.underlying3 (hval 1 3 v1 rfl rfl) h1
    obtain ⟨x2, rfl, rfl, rfl, _⟩ := open_int Tryd.underlying3 (hval 2 3 v2 rfl rfl) h2
    obtain ⟨x3, rfl, rfl, rfl⟩ := open_bool Tryd.underlying4 (hval 3 4 v3 rfl rfl) h3
    exact ⟨mov_top r k n A l c x1 x2 x3 W.heap.size W (fun _ => True) hr hG (Nat.le_refl _), rfl⟩

theorem mov_top_holds : Rows.TopYearsMovedSaid :=
  OpenClaim.holds_of_wide 11 Tryd.f11 rfl rfl rfl rfl rfl rfl rfl ⟨rfl, rfl, rfl, rfl, rfl⟩ rfl rfl rfl rfl rfl (by kernel_rfl) Tryd.func11 (by kernel_rfl)
    (of_decide_eq_true (by kernel_rfl)) (by unfold Func.isWrapper; first | (rw [if_pos (by decide +kernel)]; kernel_rfl) | (rw [if_neg (by decide +kernel)]; exact ⟨rfl, rfl⟩))
    (fun os started H enc _ => mov_top_lifted os started H enc)

/-- The tied card. -/
theorem mov_top_card : Rows.TopYearsMovedCardSaid :=
  Claim7.holds_tied_plain_at .later [] [.data, .data, .data, .sentinel, .sentinel, .data, .data, .data, .data, .data] true (true, "b2cc3adaec6aca087721e5a54318793f438855ad0e0d406819279073482f7f95") true
    mov_top_holds (fun _ h => by cases h) (by kernel_rfl) (fun _ h => by cases h) topYearsMoved_row_tie rfl ⟨rfl, rfl⟩ (by kernel_rfl) rfl
    (fun f fn hf hfn => by
      obtain rfl : f = 11 := Option.some.inj ((show Tryd.prog.funcNamed "ephemeris/ephemeristop.TopYearsMoved" = some 11 by kernel_rfl).symm.trans hf) |>.symm
      obtain rfl : fn = Tryd.f11 := (Option.some.inj (Tryd.func11.symm.trans hfn)).symm
      exact ⟨by kernel_rfl, fun j t ht => by
        rw [Tryd.params11] at ht
        have hm : t ∈ [24, 3, 3, 4] := by simpa using Array.mem_of_getElem? ht
        have hall : ([24, 3, 3, 4].all fun u => !Tryd.prog.wantsStandIn u) = true := by kernel_rfl
        exact (show Tryd.prog.wantsStandIn t = false by simpa using List.all_eq_true.1 hall t hm)⟩)
    (by kernel_rfl)
#print axioms mov_top_card
end Go.Proofs.YtmjmcjcckncplaaDoor
