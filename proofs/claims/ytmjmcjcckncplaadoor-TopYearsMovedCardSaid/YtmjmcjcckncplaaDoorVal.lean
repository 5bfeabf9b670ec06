/- (machine).value of package rule (function 46): what it answers about an expression of the right form is what 'valF' answers; it writes the machine's error number alone. -/
import Derived.Test.YtmjmcjcckncplaaDoorDiv
import Derived.Test.YtmjmcjcckncplaaDoorMemB

namespace Go.Proofs.YtmjmcjcckncplaaDoor
open Go.RowKit Go.BigFrame

def resV : Except Int Int → Int | .ok v => v | .error _ => 0
def resE : Except Int Int → Int | .ok _ => 0 | .error k => k

/-- What a call of value leaves: the value, the machine's error number, all else as it was. -/
def ValPost (w : World) (g : Nat) (y : Int) (r : Except Int Int) (e : Ending) (w' : World) : Prop :=
  e = .returned (.int .i64 (resV r)) ∧ Blk w' g 64 #[.int .i64 y, .int .i64 (resE r)] ∧ Kept (One g) w w'

def ValOk (y : Int) (t : E) : Prop := ∀ (k n : Int) (A : Option Addr) (l c : Nat) (g : Nat) (w : World) (F : Nat → Prop), Rd w F k n A l t.r → (∀ i, F i → i ≠ g) → Blk w g 64 #[.int .i64 y, .int .i64 0] →
    Calls Tryd.prog 46 #[.pointer (some ⟨g, 0, none⟩), .agg #[.int .i64 k, .int .i64 n, .slice A l c]] w (ValPost w g y (valF y t))

theorem fit_bad {n : Int} (h : n < -2147483647 ∨ 2147483647 < n) : fit n = .error 14 := by unfold fit; rw [if_pos h]
theorem fit_good {n : Int} (h : ¬ (n < -2147483647 ∨ 2147483647 < n)) : fit n = .ok n := by unfold fit; rw [if_neg h]

theorem valF_err {y : Int} : ∀ {e : E} {k : Int}, valF y e = .error k → k = 1 ∨ k = 14 := by
  have hf : ∀ {n k : Int}, fit n = .error k → k = 14 := by
    intro n k h
    unfold fit at h
    split at h
    · injection h with h; exact h.symm
    · cases h
  intro e
  induction e with
  | num n => intro k h; exact .inr (hf h)
  | year => intro k h; exact .inr (hf h)
  | neg a ih =>
    intro k h
    simp only [valF] at h
    split at h
    · injection h with h; subst h; exact ih (by assumption)
    · exact .inr (hf h)
  | not a ih =>
    intro k h
    simp only [valF] at h
    split at h
    · injection h with h; subst h; exact ih (by assumption)
    · cases h
  | bin o a b iha ihb =>
    intro k h
    simp only [valF] at h
    split at h
    · injection h with h; subst h; exact iha (by assumption)
    · split at h
      · injection h with h; subst h; exact ihb (by assumption)
      · cases o <;> simp only [op2] at h
        case div =>
          split at h
          · injection h with h; exact .inl h.symm
          · exact .inr (hf h)
        case mod =>
          split at h
          · injection h with h; exact .inl h.symm
          · exact .inr (hf h)
        all_goals first | exact .inr (hf h) | cases h

set_option maxHeartbeats 2000000 in
theorem val_leaf (y k n : Int) (A : Option Addr) (c : Nat) (g : Nat) (w : World) (hB : Blk w g 64 #[.int .i64 y, .int .i64 0]) (h : k = 1 ∨ (k = 2 ∧ n = 0)) :
    Calls Tryd.prog 46 #[.pointer (some ⟨g, 0, none⟩), .agg #[.int .i64 k, .int .i64 n, .slice A 0 c]] w (ValPost w g y (fit (if k = 1 then n else y))) := by
  have hc0 : w.cell? ⟨g, 0, none⟩ = some (.int .i64 y) := by rw [hB.cell]; rfl
  have hc1 : w.cell? ⟨g, 1, none⟩ = some (.int .i64 0) := by rw [hB.cell]; rfl
  have hfz : w.frozen? ⟨g, 1, none⟩ = false := hB.frozen 1
  have hlt := hB.lt
  have HB := hide hB
  clear hB
  rcases h with rfl | ⟨rfl, rfl⟩
  · rw [if_pos rfl]
    by_cases h1 : n < -2147483647
    · rw [fit_bad (.inl h1)]
      go_enter Tryd.func46, Tryd.ntmps46
      go_wp2
      refine wp_loop_rounds 1 ?_
      rw [rounds_succ]
      go_wp2
      go_ret
      exact ⟨rfl, (((unhide HB).set_ 1 _).alloc _).alloc _, (((Kept.refl (One g) w).one _ _).alloc _).alloc _⟩
    · by_cases h2 : 2147483647 < n
      · rw [fit_bad (.inr h2)]
        go_enter Tryd.func46, Tryd.ntmps46
        go_wp2
        refine wp_loop_rounds 1 ?_
        rw [rounds_succ]
        go_wp2
        go_ret
        exact ⟨rfl, (((unhide HB).set_ 1 _).alloc _).alloc _, (((Kept.refl (One g) w).one _ _).alloc _).alloc _⟩
      · rw [fit_good (n := n) (by omega)]
        go_enter Tryd.func46, Tryd.ntmps46
        go_wp2
        refine wp_loop_rounds 1 ?_
        rw [rounds_succ]
        go_wp2
        go_ret
        exact ⟨rfl, ((unhide HB).alloc _).alloc _, (((Kept.refl (One g) w)).alloc _).alloc _⟩
  · rw [if_neg (by decide)]
    by_cases h1 : y < -2147483647
    · rw [fit_bad (.inl h1)]
      go_enter Tryd.func46, Tryd.ntmps46
      go_wp2
      refine wp_loop_rounds 1 ?_
      rw [rounds_succ]
      go_wp2
      go_ret
      exact ⟨rfl, (((unhide HB).set_ 1 _).alloc _).alloc _, (((Kept.refl (One g) w).one _ _).alloc _).alloc _⟩
    · by_cases h2 : 2147483647 < y
      · rw [fit_bad (.inr h2)]
        go_enter Tryd.func46, Tryd.ntmps46
        go_wp2
        refine wp_loop_rounds 1 ?_
        rw [rounds_succ]
        go_wp2
        go_ret
        exact ⟨rfl, (((unhide HB).set_ 1 _).alloc _).alloc _, (((Kept.refl (One g) w).one _ _).alloc _).alloc _⟩
      · rw [fit_good (n := y) (by omega)]
        go_enter Tryd.func46, Tryd.ntmps46
        go_wp2
        refine wp_loop_rounds 1 ?_
        rw [rounds_succ]
        go_wp2
        go_ret
        exact ⟨rfl, ((unhide HB).alloc _).alloc _, (((Kept.refl (One g) w)).alloc _).alloc _⟩

theorem val_num (y n' : Int) : ValOk y (.num n') := by
  rintro k n A l c g w F ⟨rfl, rfl, rfl⟩ hF hB
  exact val_leaf y 1 n A c g w hB (.inl rfl)
theorem val_year (y : Int) : ValOk y .year := by
  rintro k n A l c g w F ⟨rfl, rfl, rfl⟩ hF hB
  exact val_leaf y 2 0 A c g w hB (.inr ⟨rfl, rfl⟩)

end Go.Proofs.YtmjmcjcckncplaaDoor
