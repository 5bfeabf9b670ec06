/- What 'walk' lets in is small: its numbers, its depth, its text. -/
import Derived.Test.YtmjmcjcckncplaaDoorReads
namespace Go.Proofs.YtmjmcjcckncplaaDoor
open Go

theorem E.code_kids (o : O2) : kidsOf o.code = 2 := by cases o <;> rfl
theorem itoa_len {n : Int} (h0 : 0 ≤ n) (h1 : n ≤ 2147483647) : (Lib.itoa n).length ≤ 10 := by
  obtain ⟨c, r, h, _, _, hl, _⟩ := itoa_facts n h0 h1
  rw [h]; simp; omega
theorem sign_len (o : O2) : o.sign.length ≤ 5 := by cases o <;> simp [O2.sign]

theorem walk_facts (t : E) : ∀ d c : Int, (walkF t.r d c).1 = 0 → NumOk t ∧ d + t.ht ≤ 13 ∧ ((wr t).length : Int) ≤ 10 * ((walkF t.r d c).2 - c) := by
  induction t with
  | num n =>
    intro d c h
    simp only [E.r, walkF] at h ⊢
    split at h
    · simp at h
    · split at h
      · simp at h
      · rename_i h1 h2
        rw [if_neg h1, if_neg h2]
        unfold badNode at h2
        have h0 : 0 ≤ n ∧ n ≤ 2147483647 := by
          have : ¬ (n < 0 ∨ 2147483647 < n) := fun h => h2 (.inr (.inr (.inr (.inl ⟨rfl, h⟩))))
          omega
        have := itoa_len h0.1 h0.2
        refine ⟨h0, by simp [E.ht]; omega, ?_⟩
        simp only [wr]
        omega
  | year =>
    intro d c h
    simp only [E.r, walkF] at h ⊢
    split at h
    · simp at h
    · split at h
      · simp at h
      · rename_i h1 h2
        rw [if_neg h1, if_neg h2]
        exact ⟨trivial, by simp [E.ht]; omega, by simp only [wr, List.length_cons, List.length_nil]; omega⟩
  | neg a ih =>
    intro d c h
    simp only [E.r, walkF] at h ⊢
    split at h
    · simp at h
    · split at h
      · simp at h
      · rename_i h1 h2
        rw [if_neg h1, if_neg h2]
        obtain ⟨i1, i2, i3⟩ := ih _ _ h
        have := par_length (decide (a.lev < 7)) (wr a)
        refine ⟨i1, by simp only [E.ht]; omega, ?_⟩
        simp only [wr, List.length_cons]
        omega
  | not a ih =>
    intro d c h
    simp only [E.r, walkF] at h ⊢
    split at h
    · simp at h
    · split at h
      · simp at h
      · rename_i h1 h2
        rw [if_neg h1, if_neg h2]
        obtain ⟨i1, i2, i3⟩ := ih _ _ h
        have := par_length (decide (a.lev < 3)) (wr a)
        refine ⟨i1, by simp only [E.ht]; omega, ?_⟩
        simp only [wr, List.length_append, List.length_cons, List.length_nil]
        omega
  | bin o a b iha ihb =>
    intro d c h
    simp only [E.r, walkF] at h ⊢
    split at h
    · simp at h
    · split at h
      · simp at h
      · rename_i h1 h2
        rw [if_neg h1, if_neg h2]
        split at h
        · rename_i h3
          rw [if_pos h3]
          obtain ⟨i1, i2, i3⟩ := iha _ _ h3
          obtain ⟨j1, j2, j3⟩ := ihb _ _ h
          have l1 := par_length (decide (a.lev < o.lev) || (decide (o.lev = 4) && decide (a.lev = 4))) (wr a)
          have l2 := par_length (decide (b.lev ≤ o.lev)) (wr b)
          have l3 := sign_len o
          refine ⟨⟨i1, j1⟩, by simp only [E.ht]; omega, ?_⟩
          simp only [wr, List.length_append]
          omega
        · rename_i h3
          exact absurd h h3
theorem walk_small (t : E) (h : (walkF t.r 1 0).1 = 0) : NumOk t ∧ t.ht ≤ 12 ∧ (wr t).length ≤ 3000 := by
  obtain ⟨h1, h2, h3⟩ := walk_facts t 1 0 h
  have := walkF_count h
  exact ⟨h1, by omega, by omega⟩

end Go.Proofs.YtmjmcjcckncplaaDoor
