/- The plain law: an expression of which a part is replaced by one of the same value has the same value, or it is too large. -/
import Derived.Test.YtmjmcjcckncplaaDoorEnt
namespace Go.Proofs.YtmjmcjcckncplaaDoor

/-- r may stand for the value x: it is the same, or, where only the truth matters, as true; or it is too large. -/
def Good (tr : Bool) (x : Int) (r : Except Int Int) : Prop := r = .error 14 ∨ ∃ x', r = .ok x' ∧ (x' = x ∨ (tr = true ∧ (x' = 0 ↔ x = 0)))

/-- What a law puts in the place of a part may stand for it. -/
def LawOk (y : Int) (by_ : E → Bool → Option E) : Prop := ∀ s s' tr x, by_ s tr = some s' → valF y s = .ok x → Good tr x (valF y s')

theorem good_eq {tr : Bool} {x : Int} {r : Except Int Int} (h : r = .ok x) : Good tr x r := .inr ⟨x, h, .inl rfl⟩
theorem good_fit {tr : Bool} {x n : Int} (h : n = x) : Good tr x (fit n) := by
  subst h
  unfold fit
  split
  · exact .inl rfl
  · exact good_eq rfl
theorem fit_cases (n : Int) : fit n = .error 14 ∨ fit n = .ok n := by
  unfold fit
  split
  · exact .inl rfl
  · exact .inr rfl
theorem truth_eq (p : Prop) [Decidable p] : truth p = 0 ↔ ¬ p := by unfold truth; split <;> simp [*]
theorem truth_congr {p q : Prop} [Decidable p] [Decidable q] (h : p ↔ q) : truth p = truth q := by unfold truth; simp [h]

theorem valF_bin {y : Int} {o : O2} {a b : E} {x : Int} (h : valF y (.bin o a b) = .ok x) : ∃ p q, valF y a = .ok p ∧ valF y b = .ok q ∧ op2 o p q = .ok x := by
  simp only [valF] at h
  split at h
  · cases h
  · rename_i p hp
    split at h
    · cases h
    · rename_i q hq
      exact ⟨p, q, hp, hq, h⟩
theorem valF_neg {y : Int} {a : E} {x : Int} (h : valF y (.neg a) = .ok x) : ∃ p, valF y a = .ok p ∧ fit (-p) = .ok x := by
  simp only [valF] at h
  split at h
  · cases h
  · rename_i p hp
    exact ⟨p, hp, h⟩
theorem valF_not {y : Int} {a : E} {x : Int} (h : valF y (.not a) = .ok x) : ∃ p, valF y a = .ok p ∧ truth (p = 0) = x := by
  simp only [valF] at h
  split at h
  · cases h
  · rename_i p hp
    injection h with h
    exact ⟨p, hp, h⟩
theorem bin_ok {y : Int} {o : O2} {a b : E} {p q : Int} (ha : valF y a = .ok p) (hb : valF y b = .ok q) : valF y (.bin o a b) = op2 o p q := by simp only [valF, ha, hb]
theorem bin_el {y : Int} {o : O2} {a b : E} {k : Int} (ha : valF y a = .error k) : valF y (.bin o a b) = .error k := by simp only [valF, ha]
theorem bin_er {y : Int} {o : O2} {a b : E} {p k : Int} (ha : valF y a = .ok p) (hb : valF y b = .error k) : valF y (.bin o a b) = .error k := by simp only [valF, ha, hb]
theorem neg_ok {y : Int} {a : E} {p : Int} (ha : valF y a = .ok p) : valF y (.neg a) = fit (-p) := by simp only [valF, ha]
theorem not_ok {y : Int} {a : E} {p : Int} (ha : valF y a = .ok p) : valF y (.not a) = .ok (truth (p = 0)) := by simp only [valF, ha]
theorem neg_e {y : Int} {a : E} {k : Int} (ha : valF y a = .error k) : valF y (.neg a) = .error k := by simp only [valF, ha]
theorem not_e {y : Int} {a : E} {k : Int} (ha : valF y a = .error k) : valF y (.not a) = .error k := by simp only [valF, ha]

theorem log_eq {o : O2} (ho : o.isLog = true) {a a' b b' : Int} (ha : a' = 0 ↔ a = 0) (hb : b' = 0 ↔ b = 0) : op2 o a' b' = op2 o a b := by
  cases o <;> simp [O2.isLog] at ho <;> simp only [op2]
  · exact congrArg _ (truth_congr (by rw [ne_eq, ne_eq, ha, hb]))
  · exact congrArg _ (truth_congr (by rw [ne_eq, ne_eq, ha, hb]))

theorem repl_good {y : Int} {by_ : E → Bool → Option E} (hl : LawOk y by_) {t t' : E} {tr : Bool} (hR : Repl by_ t tr t') : ∀ x, valF y t = .ok x → Good tr x (valF y t') := by
  induction hR with
  | here h => intro x hx; exact hl _ _ _ _ h hx
  | neg h ih =>
    intro x hx
    obtain ⟨p, hp, hf⟩ := valF_neg hx
    rcases ih p hp with h1 | ⟨x', h1, h2⟩
    · exact .inl (neg_e h1)
    · have : x' = p := by rcases h2 with h2 | ⟨h2, _⟩; exact h2; cases h2
      subst this
      exact good_eq (by rw [neg_ok h1, hf])
  | not h ih =>
    intro x hx
    obtain ⟨p, hp, hf⟩ := valF_not hx
    rcases ih p hp with h1 | ⟨x', h1, h2⟩
    · exact .inl (not_e h1)
    · have : x' = 0 ↔ p = 0 := by rcases h2 with rfl | ⟨_, h2⟩; exact Iff.rfl; exact h2
      exact good_eq (by rw [not_ok h1, truth_congr this, hf])
  | @left o a a' b tr h ih =>
    intro x hx
    obtain ⟨p, q, hp, hq, hf⟩ := valF_bin hx
    rcases ih p hp with h1 | ⟨x', h1, h2⟩
    · exact .inl (bin_el h1)
    · rw [bin_ok h1 hq]
      rcases h2 with rfl | ⟨h2, h3⟩
      · exact good_eq hf
      · exact good_eq (by rw [log_eq h2 h3 Iff.rfl, hf])
  | @right o a b b' tr h ih =>
    intro x hx
    obtain ⟨p, q, hp, hq, hf⟩ := valF_bin hx
    rcases ih q hq with h1 | ⟨x', h1, h2⟩
    · exact .inl (bin_er hp h1)
    · rw [bin_ok hp h1]
      rcases h2 with rfl | ⟨h2, h3⟩
      · exact good_eq hf
      · exact good_eq (by rw [log_eq h2 Iff.rfl h3, hf])

theorem evalF_ok {t : E} {y v : Int} (h : evalF t y = (v, 0)) : (walkF t.r 1 0).1 = 0 ∧ -10000 ≤ y ∧ y ≤ 10000 ∧ valF y t = .ok v := by
  unfold evalF at h
  split at h
  · rename_i h1
    injection h with _ h
    exact absurd h h1
  · rename_i h1
    split at h
    · injection h with _ h; cases h
    · rename_i h2
      refine ⟨by omega, by omega, by omega, ?_⟩
      split at h
      · rename_i u hu
        injection h with h _
        rw [← h]; exact hu
      · rename_i k hk
        injection h with h3 h4
        subst h4
        exact absurd hk (by
          intro hk
          have : ∀ e : E, valF y e ≠ .error 0 := by
            have hf : ∀ n, fit n ≠ .error 0 := by intro n hn; rcases fit_cases n with h | h <;> rw [h] at hn <;> cases hn
            intro e
            induction e with
            | num n => exact hf n
            | year => exact hf y
            | neg a ih => simp only [valF]; split; (rename_i e he; rw [he] at ih; exact ih); exact hf _
            | not a ih => simp only [valF]; split; (rename_i e he; rw [he] at ih; exact ih); simp
            | bin o a b iha ihb =>
              simp only [valF]; split
              · rename_i e he; rw [he] at iha; exact iha
              · split
                · rename_i e he; rw [he] at ihb; exact ihb
                · cases o <;> simp only [op2] <;> first | exact hf _ | (split <;> first | exact hf _ | simp) | simp
          exact this t hk)

/-- A law over the same year: what it makes has the same value, or is too large. -/
theorem same_of_good {t' : E} {y v : Int} (hg : Good false v (valF y t')) : Same t' y v := by
  unfold Same evalF
  split
  · rename_i h1
    rcases walkF_err t'.r 1 0 with h | h | h
    · exact absurd h h1
    · exact .inr (.inl h)
    · exact .inr (.inr (.inl h))
  · split
    · exact .inr (.inr (.inr (.inl rfl)))
    · rcases hg with h | ⟨x', h, h2⟩
      · rw [h]; exact .inr (.inr (.inr (.inr rfl)))
      · have : x' = v := by rcases h2 with h2 | ⟨h2, _⟩; exact h2; cases h2
        subst this
        rw [h]; exact .inl rfl

theorem same_of_law {by_ : E → Bool → Option E} {t t' : E} {y v : Int} (hl : LawOk y by_) (h : evalF t y = (v, 0)) (hR : Repl by_ t false t') : Same t' y v :=
  same_of_good (repl_good hl hR v (evalF_ok h).2.2.2)

/-- The count behind a walk. -/
def E.sz : E → Nat
  | .num _ => 1 | .year => 1 | .neg a => a.sz + 1 | .not a => a.sz + 1 | .bin _ a b => a.sz + b.sz + 1
theorem walkF_sz (t : E) : ∀ d c : Int, (walkF t.r d c).1 = 0 → (walkF t.r d c).2 = c + t.sz := by
  induction t with
  | num n => intro d c h; simp only [E.r, walkF] at h ⊢; split at h; simp at h; split at h; simp at h; simp [*, E.sz]
  | year => intro d c h; simp only [E.r, walkF] at h ⊢; split at h; simp at h; split at h; simp at h; simp [*, E.sz]
  | neg a ih => intro d c h; simp only [E.r, walkF] at h ⊢; split at h; simp at h; split at h; simp at h; rename_i h1 h2; rw [if_neg h1, if_neg h2, ih _ _ h]; simp only [E.sz]; omega
  | not a ih => intro d c h; simp only [E.r, walkF] at h ⊢; split at h; simp at h; split at h; simp at h; rename_i h1 h2; rw [if_neg h1, if_neg h2, ih _ _ h]; simp only [E.sz]; omega
  | bin o a b iha ihb =>
    intro d c h
    simp only [E.r, walkF] at h ⊢
    split at h
    · simp at h
    · split at h
      · simp at h
      · rename_i h1 h2
        split at h
        · rename_i h3
          rw [if_neg h1, if_neg h2, if_pos h3, ihb _ _ h, iha _ _ h3]
          simp only [E.sz]; omega
        · rename_i h3; exact absurd h h3
theorem sz_le {t : E} {y v : Int} (h : evalF t y = (v, 0)) : t.sz ≤ 60 := by
  have h1 := (evalF_ok h).1
  have h2 := walkF_count h1
  have h3 := walkF_sz t 1 0 h1
  omega

end Go.Proofs.YtmjmcjcckncplaaDoor
