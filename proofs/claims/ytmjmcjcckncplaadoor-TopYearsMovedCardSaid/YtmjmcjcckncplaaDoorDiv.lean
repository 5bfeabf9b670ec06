/- whole.Div (function 54) and rule.boolean (function 55): what they return. -/
import Derived.Test.YtmjmcjcckncplaaDoorProg
import Derived.Test.YtmjmcjcckncplaaDoorMem
import Derived.Deep.QuietTactic
import Derived.BigQuiet

namespace Go.Proofs.YtmjmcjcckncplaaDoor
open Go.RowKit Go.BigFrame
theorem div_same {a b : Int} (h : a.tmod b = 0 ∨ (a.tmod b < 0 ↔ b < 0)) : a.fdiv b = a.tdiv b ∧ a.fmod b = a.tmod b := by
  rw [Int.fdiv_eq_tdiv, Int.fmod_eq_tmod]
  by_cases hd : b ∣ a
  · simp [hd]
  · have h0 : a.tmod b ≠ 0 := fun h0 => hd (Int.dvd_of_tmod_eq_zero h0)
    rcases h with h | h
    · exact absurd h h0
    · by_cases ha : 0 ≤ a
      · have := Int.tmod_nonneg b ha
        have hb0 : 0 ≤ b := by omega
        simp [hd, ha, hb0]
      · have : a.tmod b ≤ 0 := by have := Int.tmod_nonneg (a := -a) b (by omega); rw [Int.neg_tmod] at this; omega
        have hb0 : ¬ 0 ≤ b := by omega
        have hs : b.sign = -1 := Int.sign_eq_neg_one_of_neg (by omega)
        have ht : b.toNat = 0 := by omega
        simp [hd, ha, hb0, hs, ht]
theorem div_other {a b : Int} (hb : b ≠ 0) (h0 : a.tmod b ≠ 0) (h : ¬ (a.tmod b < 0 ↔ b < 0)) : a.fdiv b = a.tdiv b - 1 ∧ a.fmod b = a.tmod b + b := by
  rw [Int.fdiv_eq_tdiv, Int.fmod_eq_tmod]
  have hd : ¬ b ∣ a := fun hd => h0 (Int.tmod_eq_zero_of_dvd hd)
  by_cases ha : 0 ≤ a
  · have := Int.tmod_nonneg b ha
    have hb0 : ¬ 0 ≤ b := by omega
    simp [hd, ha, hb0]
  · have : a.tmod b ≤ 0 := by have := Int.tmod_nonneg (a := -a) b (by omega); rw [Int.neg_tmod] at this; omega
    have hb0 : 0 ≤ b := by omega
    have hs : b.sign = 1 := Int.sign_eq_one_of_pos (by omega)
    have ht : (b.natAbs : Int) = b := by omega
    simp [hd, ha, hb0, hs, ht]

set_option maxHeartbeats 400000 in
theorem div_zero (a : Int) (w : World) : Calls Tryd.prog 54 #[.int .i64 a, .int .i64 0] w fun e w' => e = .returned (.tuple #[.int .i64 0, .int .i64 0, .int .i64 1]) ∧ w = w' := by
  go_enter Tryd.func54, Tryd.ntmps54
  go_wp2
  go_ret3
  exact ⟨rfl, rfl⟩

set_option maxHeartbeats 1000000 in
theorem div_any (a b : Int) (hb : ¬ b = 0) (ha0 : -2147483647 ≤ a) (ha1 : a ≤ 2147483647) (hb0 : -2147483647 ≤ b) (hb1 : b ≤ 2147483647) (w : World) :
    Calls Tryd.prog 54 #[.int .i64 a, .int .i64 b] w fun e w' => e = .returned (.tuple #[.int .i64 (a.fdiv b), .int .i64 (a.fmod b), .int .i64 0]) ∧ ∃ n, w' = w.drewN n := by
  have hm : (a == -9223372036854775808) = false := by rw [beq_eq_false_iff_ne]; omega
  have hq : (b == 0) = false := by rw [beq_eq_false_iff_ne]; exact hb
  have hr := Int.natAbs_tmod a b
  have hd : (a.tdiv b).natAbs ≤ a.natAbs := by rw [Int.natAbs_tdiv]; exact Nat.div_le_self _ _
  have hr2 : (a.tmod b).natAbs ≤ a.natAbs := by rw [hr]; exact Nat.mod_le _ _
  have t0 : -2147483647 ≤ a.tmod b := by omega
  have t1 : a.tmod b ≤ 2147483647 := by omega
  have t2 : -2147483647 ≤ a.tdiv b := by omega
  have t3 : a.tdiv b ≤ 2147483647 := by omega
  clear hr hd hr2
  by_cases h0 : a.tmod b = 0
  · have H := hide (div_same (.inl h0))
    have h0' : (a.tmod b != 0) = false := by simp [h0]
    clear h0
    go_enter Tryd.func54, Tryd.ntmps54
    go_wp2
    go_quiet (fail)
    go_wp2
    go_ret3
    exact ⟨by rw [(unhide H).1, (unhide H).2]; rfl, _, rfl⟩
  · have h0' : (a.tmod b != 0) = true := by simp [h0]
    by_cases h1 : a.tmod b < 0
    · have h1' : decide (a.tmod b < 0) = true := by simp; omega
      by_cases h2 : b < 0
      · have h2' : decide (b < 0) = true := by simp; omega
        have H := hide (div_same (a := a) (b := b) (.inr ⟨fun _ => h2, fun _ => h1⟩))
        clear h0
        go_enter Tryd.func54, Tryd.ntmps54
        go_wp2
        go_quiet (fail)
        go_wp2
        go_ret3
        exact ⟨by rw [(unhide H).1, (unhide H).2]; rfl, _, rfl⟩
      · have h2' : decide (b < 0) = false := by simp; omega
        have H := hide (div_other hb h0 (fun h => h2 (h.1 h1)))
        clear h0
        go_enter Tryd.func54, Tryd.ntmps54
        go_wp2
        go_quiet (fail)
        go_wp2
        go_ret3
        exact ⟨by rw [(unhide H).1, (unhide H).2]; rfl, _, rfl⟩
    · have h1' : decide (a.tmod b < 0) = false := by simp; omega
      by_cases h2 : b < 0
      · have h2' : decide (b < 0) = true := by simp; omega
        have H := hide (div_other hb h0 (fun h => h1 (h.2 h2)))
        clear h0
        go_enter Tryd.func54, Tryd.ntmps54
        go_wp2
        go_quiet (fail)
        go_wp2
        go_ret3
        exact ⟨by rw [(unhide H).1, (unhide H).2]; rfl, _, rfl⟩
      · have h2' : decide (b < 0) = false := by simp; omega
        have H := hide (div_same (a := a) (b := b) (.inr ⟨fun h => absurd h h1, fun h => absurd h h2⟩))
        clear h0
        go_enter Tryd.func54, Tryd.ntmps54
        go_wp2
        go_quiet (fail)
        go_wp2
        go_ret3
        exact ⟨by rw [(unhide H).1, (unhide H).2]; rfl, _, rfl⟩

set_option maxHeartbeats 400000 in
theorem boolean_any (b : Bool) (w : World) :
    Calls Tryd.prog 55 #[.bool b] w fun e w' => e = .returned (.int .i64 (truth (b = true))) ∧ w = w' := by
  cases b
  all_goals
    go_enter Tryd.func55, Tryd.ntmps55
    go_wp2
    go_ret
    exact ⟨rfl, rfl⟩

end Go.Proofs.YtmjmcjcckncplaaDoor
