/- slices.Contains over whole numbers (functions 38, 44). -/
import Derived.Test.YtmjmcjcckncplaaDoorCtx
namespace Go.Proofs.YtmjmcjcckncplaaDoor
open Go.RowKit Go.BigFrame

/-- What Index leaves: a place of v, or -1. -/
def IdxPost (zs : List Int) (v : Int) (w : World) (e : Ending) (w' : World) : Prop := w' = w ∧ ((∃ j : Nat, zs[j]? = some v ∧ e = .returned (.int .i64 j)) ∨ ((∀ j : Nat, zs[j]? ≠ some v) ∧ e = .returned (.int .i64 (-1))))

set_option maxHeartbeats 2000000 in
theorem index_any (zs : List Int) (A : Option Addr) (b cap : Nat) (v : Int) (w : World) (hA : zs.length = 0 ∨ A = some ⟨b, 0, none⟩) (hc : ∀ i z, zs[i]? = some z → w.cell? ⟨b, i, none⟩ = some (.int .i64 z)) (hl : zs.length ≤ 100) :
    Calls Tryd.prog 44 #[.slice A zs.length cap, .int .i64 v] w (IdxPost zs v w) := by
  have HC := hide hc
  have HA := hide hA
  clear hc hA
  go_enter Tryd.func44, Tryd.ntmps44
  go_wp2_with fail
  go_loop [8] (fun i => ∃ j : Nat, j ≤ zs.length ∧ i = .int .i64 j ∧ ∀ q, q < j → zs[q]? ≠ some v) (fun i => zs.length - (intOf i).toNat)
  case atStart => exact ⟨0, Nat.zero_le _, rfl, fun q h => absurd h (Nat.not_lt_zero _)⟩
  case round =>
    obtain ⟨j, hj, rfl, hq⟩ := hrel
    have HQ := hide hq
    clear hq
    by_cases hjl : j < zs.length
    · obtain ⟨z, hz⟩ : ∃ z, zs[j]? = some z := ⟨_, List.getElem?_eq_getElem hjl⟩
      have HZ := hide hz
      have h0 := unhide HC j z hz
      have hAe : A = some ⟨b, 0, none⟩ := by
        rcases unhide HA with h | h
        · omega
        · exact h
      subst hAe
      have dj : decide ((j : Int) < (zs.length : Int)) = true := by simp; omega
      have dj2 : decide (j < zs.length) = true := by simp; omega
      clear hz
      by_cases hv : v = z
      · have hv2 : (v == z) = true := by rw [beq_iff_eq]; exact hv
        have HV := hide hv
        clear hv
        go_wp2_with fail
        go_ret
        exact ⟨rfl, .inl ⟨j, by rw [unhide HV]; exact unhide HZ, rfl⟩⟩
      · have hv2 : (v == z) = false := by rw [beq_eq_false_iff_ne]; exact hv
        have HV := hide hv
        clear hv
        go_wp2_with fail
        go_round
        case rel =>
          refine ⟨j + 1, by omega, by go_num, fun q hq => ?_⟩
          by_cases hqj : q = j
          · subst hqj
            rw [unhide HZ]
            intro h
            injection h with h
            exact unhide HV h.symm
          · exact unhide HQ q (by omega)
        case measure => simp [intOf]; omega
    · have dj : decide ((j : Int) < (zs.length : Int)) = false := by simp; omega
      have dj2 : decide (j < zs.length) = false := by simp; omega
      have HJ := hide hjl
      go_wp2_with fail
      go_ret
      refine ⟨rfl, .inr ⟨fun q h => ?_, rfl⟩⟩
      by_cases hqj : q < j
      · exact unhide HQ q hqj h
      · have hjl2 := unhide HJ
        rw [List.getElem?_eq_none (by omega)] at h
        cases h

set_option maxHeartbeats 2000000 in
theorem has_any (zs : List Int) (A : Option Addr) (b cap : Nat) (v : Int) (w : World) (hA : zs.length = 0 ∨ A = some ⟨b, 0, none⟩) (hc : ∀ i z, zs[i]? = some z → w.cell? ⟨b, i, none⟩ = some (.int .i64 z)) (hl : zs.length ≤ 100) :
    Calls Tryd.prog 38 #[.slice A zs.length cap, .int .i64 v] w fun e w' => e = .returned (.bool (decide (v ∈ zs))) ∧ w' = w := by
  have HI := hide (index_any zs A b cap v w hA hc hl)
  clear hA hc
  go_enter Tryd.func38, Tryd.ntmps38
  go_wp2_with fail
  refine (unhide HI).mono ?_
  rintro e w1 ⟨rfl, ⟨j, hj, rfl⟩ | ⟨hn, rfl⟩⟩
  · have hm : v ∈ zs := List.mem_of_getElem? hj
    have HM := hide (show decide (v ∈ zs) = true by simp [hm])
    clear hj hm
    go_wp2_with fail
    go_ret
    exact ⟨by rw [unhide HM]; rfl, rfl⟩
  · have hm : v ∉ zs := fun h => by
      obtain ⟨j, hj⟩ := List.mem_iff_getElem?.1 h
      exact hn j hj
    have HM := hide (show decide (v ∈ zs) = false by simp [hm])
    clear hn hm
    go_wp2_with fail
    go_ret
    exact ⟨by rw [unhide HM]; rfl, rfl⟩

end Go.Proofs.YtmjmcjcckncplaaDoor
