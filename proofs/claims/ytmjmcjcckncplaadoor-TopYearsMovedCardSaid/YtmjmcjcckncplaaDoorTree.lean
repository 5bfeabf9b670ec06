/- The plain data of the twelve laws: the expressions of a calendar rule as trees, what 'walk', 'value' and 'Eval' of package rule answer about them, as functions on such trees. No program in sight. -/
namespace Go.Proofs.YtmjmcjcckncplaaDoor

/-- The operations with two operands. -/
inductive O2 where
  | add | sub | mul | div | mod | less | same | and | or
  deriving DecidableEq

def O2.code : O2 → Int
  | .add => 4 | .sub => 5 | .mul => 6 | .div => 7 | .mod => 8 | .less => 9 | .same => 10 | .and => 12 | .or => 13

/-- An expression of the right form (its numbers may be out of range). -/
inductive E where
  | num (n : Int)
  | year
  | neg (a : E)
  | not (a : E)
  | bin (o : O2) (a b : E)
  deriving DecidableEq

/-- Whatever may lie in memory as an expression. -/
inductive R where
  | n0 (k n : Int)
  | n1 (k n : Int) (a : R)
  | n2 (k n : Int) (a b : R)
  | big (k n : Int) (l : Nat)

def R.k : R → Int
  | .n0 k _ => k | .n1 k _ _ => k | .n2 k _ _ _ => k | .big k _ _ => k
def R.n : R → Int
  | .n0 _ n => n | .n1 _ n _ => n | .n2 _ n _ _ => n | .big _ n _ => n
def R.l : R → Nat
  | .n0 _ _ => 0 | .n1 _ _ _ => 1 | .n2 _ _ _ _ => 2 | .big _ _ l => l

def E.code : E → Int
  | .num _ => 1 | .year => 2 | .neg _ => 3 | .not _ => 11 | .bin o _ _ => o.code
def E.n : E → Int
  | .num n => n | _ => 0

def E.r : E → R
  | .num n => .n0 1 n
  | .year => .n0 2 0
  | .neg a => .n1 3 0 a.r
  | .not a => .n1 11 0 a.r
  | .bin o a b => .n2 o.code 0 a.r b.r

theorem E.r_k (e : E) : e.r.k = e.code := by cases e <;> rfl
theorem E.r_n (e : E) : e.r.n = e.n := by cases e <;> rfl

/-- How many operands a kind has. -/
def kidsOf (k : Int) : Nat := if k = 3 ∨ k = 11 then 1 else if k = 1 ∨ k = 2 then 0 else 2

/-- A node whose kind, number of operands or number is not the required one. -/
def badNode (k n : Int) (l : Nat) : Prop := k < 1 ∨ 13 < k ∨ l ≠ kidsOf k ∨ (k = 1 ∧ (n < 0 ∨ 2147483647 < n)) ∨ (k ≠ 1 ∧ n ≠ 0)
instance (k n : Int) (l : Nat) : Decidable (badNode k n l) := by unfold badNode; infer_instance

/-- 'walk': the error number and the count behind it. -/
def walkF : R → Int → Int → Int × Int
  | .n0 k n, d, c => if 60 < c + 1 ∨ 12 < d then (2, c + 1) else if badNode k n 0 then (8, c + 1) else (0, c + 1)
  | .n1 k n a, d, c => if 60 < c + 1 ∨ 12 < d then (2, c + 1) else if badNode k n 1 then (8, c + 1) else walkF a (d + 1) (c + 1)
  | .n2 k n a b, d, c => if 60 < c + 1 ∨ 12 < d then (2, c + 1) else if badNode k n 2 then (8, c + 1) else
      if (walkF a (d + 1) (c + 1)).1 = 0 then walkF b (d + 1) (walkF a (d + 1) (c + 1)).2 else walkF a (d + 1) (c + 1)
  | .big _ _ _, d, c => if 60 < c + 1 ∨ 12 < d then (2, c + 1) else (8, c + 1)

/-- A value in its bounds, or the error ErrOver. -/
def fit (n : Int) : Except Int Int := if n < -2147483647 ∨ 2147483647 < n then .error 14 else .ok n
def truth (p : Prop) [Decidable p] : Int := if p then 1 else 0

def op2 : O2 → Int → Int → Except Int Int
  | .add, a, b => fit (a + b)
  | .sub, a, b => fit (a - b)
  | .mul, a, b => fit (a * b)
  | .div, a, b => if b = 0 then .error 1 else fit (a.fdiv b)
  | .mod, a, b => if b = 0 then .error 1 else fit (a.fmod b)
  | .less, a, b => .ok (truth (a < b))
  | .same, a, b => .ok (truth (a = b))
  | .and, a, b => .ok (truth (a ≠ 0 ∧ b ≠ 0))
  | .or, a, b => .ok (truth (a ≠ 0 ∨ b ≠ 0))

/-- 'value': the value for a year, or the error number. -/
def valF (y : Int) : E → Except Int Int
  | .num n => fit n
  | .year => fit y
  | .neg a => match valF y a with | .error e => .error e | .ok x => fit (-x)
  | .not a => match valF y a with | .error e => .error e | .ok x => .ok (truth (x = 0))
  | .bin o a b => match valF y a with
    | .error e => .error e
    | .ok x => match valF y b with | .error e => .error e | .ok z => op2 o x z

theorem fit_range {n v : Int} (h : fit n = .ok v) : -2147483647 ≤ v ∧ v ≤ 2147483647 := by
  unfold fit at h
  split at h
  · cases h
  · injection h with h; omega
theorem fit_eq {n v : Int} (h : fit n = .ok v) : v = n := by
  unfold fit at h
  split at h
  · cases h
  · injection h with h; omega
theorem truth_range (p : Prop) [Decidable p] : truth p = 0 ∨ truth p = 1 := by unfold truth; split <;> simp

theorem op2_range {o : O2} {a b v : Int} (h : op2 o a b = .ok v) : -2147483647 ≤ v ∧ v ≤ 2147483647 := by
  have ht : ∀ (p : Prop) [Decidable p], Except.ok (truth p) = (.ok v : Except Int Int) → -2147483647 ≤ v ∧ v ≤ 2147483647 := by
    intro p _ h
    injection h with h
    rcases truth_range p with h1 | h1 <;> omega
  cases o <;> simp only [op2] at h
  case div => split at h; cases h; exact fit_range h
  case mod => split at h; cases h; exact fit_range h
  all_goals first | exact fit_range h | exact ht _ h

theorem valF_range {y : Int} : ∀ {e : E} {v : Int}, valF y e = .ok v → -2147483647 ≤ v ∧ v ≤ 2147483647
  | .num n, v, h => fit_range h
  | .year, v, h => fit_range h
  | .neg a, v, h => by
    simp only [valF] at h
    split at h
    · cases h
    · exact fit_range h
  | .not a, v, h => by
    simp only [valF] at h
    split at h
    · cases h
    · injection h with h
      rename_i x _
      rcases truth_range (x = 0) with h1 | h1 <;> omega
  | .bin o a b, v, h => by
    simp only [valF] at h
    split at h
    · cases h
    · split at h
      · cases h
      · exact op2_range h

/-- 'Eval': the value and the error number. -/
def evalF (e : E) (y : Int) : Int × Int :=
  if (walkF e.r 1 0).1 ≠ 0 then (0, (walkF e.r 1 0).1)
  else if y < -10000 ∨ 10000 < y then (0, 3)
  else match valF y e with
    | .ok v => (v, 0)
    | .error k => (0, k)

/-! ### What 'walk' lets in is of the right form -/

theorem walkF_e {r : R} : ∀ {d c c' : Int}, walkF r d c = (0, c') → ∃ e : E, e.r = r := by
  induction r with
  | n0 k n =>
    intro d c c' h
    simp only [walkF] at h
    split at h
    · simp at h
    · split at h
      · simp at h
      · rename_i h1 h2
        unfold badNode kidsOf at h2
        by_cases hk : k = 1
        · subst hk; exact ⟨.num n, rfl⟩
        · have : k = 2 := by
            by_cases h3 : k = 3 ∨ k = 11
            · simp [h3] at h2
            · by_cases h4 : k = 1 ∨ k = 2
              · omega
              · simp [h3, h4] at h2
          subst this
          have : n = 0 := by simp at h2; omega
          subst this
          exact ⟨.year, rfl⟩
  | n1 k n a ih =>
    intro d c c' h
    simp only [walkF] at h
    split at h
    · simp at h
    · split at h
      · simp at h
      · rename_i h1 h2
        obtain ⟨e, rfl⟩ := ih h
        unfold badNode kidsOf at h2
        by_cases h3 : k = 3 ∨ k = 11
        · simp [h3] at h2
          have : n = 0 := by omega
          subst this
          rcases h3 with rfl | rfl
          · exact ⟨.neg e, rfl⟩
          · exact ⟨.not e, rfl⟩
        · by_cases h4 : k = 1 ∨ k = 2 <;> simp [h3, h4] at h2
  | n2 k n a b iha ihb =>
    intro d c c' h
    simp only [walkF] at h
    split at h
    · simp at h
    · split at h
      · simp at h
      · rename_i h1 h2
        split at h
        · rename_i h3
          obtain ⟨ea, rfl⟩ := iha (c' := (walkF a (d + 1) (c + 1)).2) (by rw [← h3])
          obtain ⟨eb, rfl⟩ := ihb h
          unfold badNode kidsOf at h2
          by_cases h4 : k = 3 ∨ k = 11
          · simp [h4] at h2
          · by_cases h5 : k = 1 ∨ k = 2
            · simp [h4, h5] at h2
            · simp [h4, h5] at h2
              obtain ⟨h6, h7, h8, h9⟩ := h2
              have hn : n = 0 := by omega
              subst hn
              have hk : k = 4 ∨ k = 5 ∨ k = 6 ∨ k = 7 ∨ k = 8 ∨ k = 9 ∨ k = 10 ∨ k = 12 ∨ k = 13 := by omega
              rcases hk with rfl | rfl | rfl | rfl | rfl | rfl | rfl | rfl | rfl
              · exact ⟨.bin .add ea eb, rfl⟩
              · exact ⟨.bin .sub ea eb, rfl⟩
              · exact ⟨.bin .mul ea eb, rfl⟩
              · exact ⟨.bin .div ea eb, rfl⟩
              · exact ⟨.bin .mod ea eb, rfl⟩
              · exact ⟨.bin .less ea eb, rfl⟩
              · exact ⟨.bin .same ea eb, rfl⟩
              · exact ⟨.bin .and ea eb, rfl⟩
              · exact ⟨.bin .or ea eb, rfl⟩
        · rename_i h3
          rw [h] at h3
          exact absurd rfl h3
  | big k n l =>
    intro d c c' h
    simp only [walkF] at h
    split at h <;> simp at h

/-- The count behind a walk that lets all in. -/
theorem walkF_count {r : R} : ∀ {d c : Int}, (walkF r d c).1 = 0 → c < (walkF r d c).2 ∧ (walkF r d c).2 ≤ 60 := by
  induction r with
  | n0 k n =>
    intro d c h
    simp only [walkF] at h ⊢
    split at h
    · simp at h
    · split at h
      · simp at h
      · rename_i h1 h2
        rw [if_neg h1, if_neg h2]
        simp only
        omega
  | n1 k n a ih =>
    intro d c h
    simp only [walkF] at h ⊢
    split at h
    · simp at h
    · split at h
      · simp at h
      · rename_i h1 h2
        rw [if_neg h1, if_neg h2]
        have := ih h
        omega
  | n2 k n a b iha ihb =>
    intro d c h
    simp only [walkF] at h ⊢
    split at h
    · simp at h
    · split at h
      · simp at h
      · rename_i h1 h2
        rw [if_neg h1, if_neg h2]
        split at h
        · rename_i h3
          rw [if_pos h3]
          have h4 := iha h3
          have h5 := ihb h
          omega
        · rename_i h3
          exact absurd h h3
  | big k n l =>
    intro d c h
    simp only [walkF] at h
    split at h <;> simp at h

/-- The error numbers of 'walk'. -/
theorem walkF_err (r : R) : ∀ d c : Int, (walkF r d c).1 = 0 ∨ (walkF r d c).1 = 2 ∨ (walkF r d c).1 = 8 := by
  induction r with
  | n0 k n => intro d c; simp only [walkF]; split; simp; split <;> simp
  | n1 k n a ih => intro d c; simp only [walkF]; split; simp; split; simp; exact ih _ _
  | n2 k n a b iha ihb =>
    intro d c; simp only [walkF]; split; simp; split; simp; split
    · exact ihb _ _
    · exact iha _ _
  | big k n l => intro d c; simp only [walkF]; split <;> simp

end Go.Proofs.YtmjmcjcckncplaaDoor
