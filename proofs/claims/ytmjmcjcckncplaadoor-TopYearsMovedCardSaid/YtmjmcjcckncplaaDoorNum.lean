/- A number's decimal digits: read back they are the number. -/
import Derived.Test.YtmjmcjcckncplaaDoorLex
import Derived.Lib.AtoiTie
namespace Go.Proofs.YtmjmcjcckncplaaDoor
open Go

theorem dec_rec (u : Nat) (h : ¬ u < 10) : Lib.decDigits u = Lib.decDigits (u / 10) ++ [UInt8.ofNat (48 + u % 10)] := by
  rw [Lib.decDigits, dif_neg h]
theorem isD_digit {d : Nat} (h : d < 10) : isD (UInt8.ofNat (48 + d)) = true ∧ Lib.digitVal (UInt8.ofNat (48 + d)) = some d := by
  have e : (UInt8.ofNat (48 + d)).toNat = 48 + d := by simp [UInt8.toNat_ofNat']; omega
  constructor
  · unfold isD; rw [e]; simp; omega
  · unfold Lib.digitVal; rw [e, if_pos (by omega)]; congr 1; omega
theorem decFrom_snoc (l : List UInt8) (c : UInt8) (d : Nat) (hd : Lib.digitVal c = some d) : ∀ acc n, Lib.decFrom acc l = some n → Lib.decFrom acc (l ++ [c]) = some (n * 10 + d) := by
  induction l with
  | nil => intro acc n h; simp only [Lib.decFrom, Option.some.injEq] at h; subst h; simp [Lib.decFrom, hd]
  | cons a r ih =>
    intro acc n h
    simp only [List.cons_append, Lib.decFrom] at h ⊢
    cases ha : Lib.digitVal a with
    | none => rw [ha] at h; cases h
    | some x => rw [ha] at h; exact ih _ _ h
theorem dec_facts (u : Nat) : Lib.decFrom 0 (Lib.decDigits u) = some u ∧ (∀ c ∈ Lib.decDigits u, isD c = true) ∧ Lib.decDigits u ≠ [] ∧ ∀ k, u < 10 ^ (k + 1) → (Lib.decDigits u).length ≤ k + 1 := by
  by_cases h : u < 10
  · rw [Lib.decDigits_one h]
    obtain ⟨h1, h2⟩ := isD_digit h
    refine ⟨by simp only [Lib.decFrom, h2]; congr 1; omega, by simpa using h1, by simp, fun k _ => by simp⟩
  · obtain ⟨i1, i2, i3, i4⟩ := dec_facts (u / 10)
    obtain ⟨h1, h2⟩ := isD_digit (Nat.mod_lt u (by decide : 0 < 10))
    rw [dec_rec u h]
    refine ⟨?_, ?_, by simp, ?_⟩
    · rw [decFrom_snoc _ _ _ h2 _ _ i1]; congr 1; omega
    · intro c hc
      rcases List.mem_append.1 hc with hc | hc
      · exact i2 c hc
      · rw [List.mem_singleton.1 hc]; exact h1
    · intro k hk
      cases k with
      | zero => exact absurd hk (by simpa using h)
      | succ k =>
        have := i4 k (by rw [Nat.pow_succ] at hk; omega)
        simp only [List.length_append, List.length_cons, List.length_nil]
        omega
  termination_by u

/-- The digits of a number in range. -/
theorem itoa_facts (n : Int) (h0 : 0 ≤ n) (h1 : n ≤ 2147483647) : ∃ c r, Lib.itoa n = c :: r ∧ isD c = true ∧ (∀ x ∈ r, isD x = true) ∧ r.length ≤ 9 ∧ Lib.atoiAll (c :: r) = .ok n := by
  have e : Lib.itoa n = Lib.decDigits n.toNat := by unfold Lib.itoa; rw [if_neg (by omega)]
  obtain ⟨i1, i2, i3, i4⟩ := dec_facts n.toNat
  have hl := i4 9 (by omega)
  cases hd : Lib.decDigits n.toNat with
  | nil => exact absurd hd i3
  | cons c r =>
    rw [hd] at i1 i2 hl
    have hc := i2 c (by simp)
    refine ⟨c, r, by rw [e, hd], hc, fun x hx => i2 x (by simp [hx]), by simp at hl; omega, ?_⟩
    rw [Lib.atoiAll_short _ (by simp at hl ⊢; omega)]
    have hcn : 48 ≤ c.toNat := by unfold isD at hc; simp at hc; omega
    have h45 : (c == 45) = false := by rw [beq_eq_false_iff_ne]; rintro rfl; revert hcn; decide
    have h43 : (c == 43) = false := by rw [beq_eq_false_iff_ne]; rintro rfl; revert hcn; decide
    unfold Lib.atoi
    simp only [h45, h43, Lib.decNat, List.isEmpty_cons]
    simp only [Bool.false_eq_true, if_false, i1, Option.map_some, Lib.NumEnd.ofOption]
    congr 1
    omega

end Go.Proofs.YtmjmcjcckncplaaDoor
