/- What 'write' writes of an expression, 'level' reads back: on the bytes alone, over the cases of Level and Level2. -/
import Derived.Test.YtmjmcjcckncplaaDoorLevel2
import Derived.Test.YtmjmcjcckncplaaDoorNum
import Derived.Test.YtmjmcjcckncplaaDoorWrite
namespace Go.Proofs.YtmjmcjcckncplaaDoor
open Go.RowKit

/-! ### the next word, on the bytes -/
def nt (l : List UInt8) : List UInt8 := tok (l.dropWhile (· == 32))

theorem drop_take_while (p : UInt8 → Bool) (l : List UInt8) : l.drop (l.takeWhile p).length = l.dropWhile p := by
  induction l with
  | nil => rfl
  | cons a r ih =>
    by_cases h : p a = true
    · rw [List.takeWhile_cons_of_pos h, List.dropWhile_cons_of_pos h]; simpa using ih
    · rw [List.takeWhile_cons_of_neg h, List.dropWhile_cons_of_neg h]; rfl
theorem drop_skip (l : List UInt8) (n : Nat) : l.drop (skipTo l n) = (l.drop n).dropWhile (· == 32) := by
  unfold skipTo
  rw [← List.drop_drop, drop_take_while]
theorem tk_nt (S : ByteArray) (n : Nat) : tk S n = nt (S.data.toList.drop n) := by unfold tk nt; rw [drop_skip]
theorem sk_self {S : ByteArray} {n : Nat} {c : UInt8} {r : List UInt8} (h : S.data.toList.drop n = c :: r) (hc : c ≠ 32) : sk S n = n := by
  unfold sk skipTo
  rw [h, List.takeWhile_cons_of_neg (by simpa using hc)]
  rfl
theorem sk_blank {S : ByteArray} {n : Nat} {c : UInt8} {r : List UInt8} (h : S.data.toList.drop n = 32 :: c :: r) (hc : c ≠ 32) : sk S n = n + 1 := by
  unfold sk skipTo
  rw [h, List.takeWhile_cons_of_pos (by rfl), List.takeWhile_cons_of_neg (by simpa using hc)]
  rfl

theorem tok_cons (c : UInt8) (r : List UInt8) : ∃ q, tok (c :: r) = c :: q := by
  unfold tok
  simp only [tokLen]
  split
  · next h => rw [List.takeWhile_cons_of_pos h]; exact ⟨_, rfl⟩
  · split
    · next h => rw [List.takeWhile_cons_of_pos h]; exact ⟨_, rfl⟩
    · exact ⟨_, rfl⟩
theorem nt_cons (c : UInt8) (r : List UInt8) (hc : c ≠ 32) : nt (c :: r) = tok (c :: r) := by
  unfold nt; rw [List.dropWhile_cons_of_neg (by simpa using hc)]

/-- What may stand behind an operand that is read at level n. -/
def Stop (n : Nat) (rest : List UInt8) : Prop := rest = [] ∨ (∃ r, rest = 41 :: r) ∨ ∃ (o : O2) (x : List UInt8), rest = o.sign ++ x ∧ o.lev < n
theorem Stop.mono {n m : Nat} {rest : List UInt8} (h : Stop n rest) (hm : n ≤ m) : Stop m rest := by
  rcases h with h | h | ⟨o, x, h, ho⟩
  · exact .inl h
  · exact .inr (.inl h)
  · exact .inr (.inr ⟨o, x, h, by omega⟩)
theorem nt_sign (o : O2) (x : List UInt8) : nt (o.sign ++ x) = o.sym := by
  cases o <;> simp [O2.sign, O2.sym, nt, tok, tokLen, isL, isD]
theorem sym_lev (o : O2) (m : Nat) (h : o.sym ∈ symsOf m) : m = o.lev := by
  unfold symsOf at h
  cases o <;> (revert h; (repeat' split) <;> simp_all [O2.sym, O2.lev])
theorem syms_ne (m : Nat) (s : List UInt8) (h : s ∈ symsOf m) : s ≠ [] ∧ s ≠ [41] := by
  unfold symsOf at h
  revert h
  (repeat' split) <;> simp <;> (try rintro (rfl | rfl | rfl)) <;> (try rintro (rfl | rfl)) <;> (try rintro rfl) <;> decide
theorem Stop.syms {n : Nat} {rest : List UInt8} (h : Stop n rest) (m : Nat) (hm : n ≤ m) : ∀ s ∈ symsOf m, nt rest ≠ s := by
  intro s hs e
  obtain ⟨h1, h2⟩ := syms_ne m s hs
  rcases h with rfl | ⟨r, rfl⟩ | ⟨o, x, rfl, ho⟩
  · exact h1 e.symm
  · exact h2 (e.symm.trans (by simp [nt, tok, tokLen, isL, isD]))
  · rw [nt_sign] at e
    have := sym_lev o m (by rw [e]; exact hs)
    omega
theorem Stop.clean {n : Nat} {rest : List UInt8} (h : Stop n rest) : rest = [] ∨ ∃ c r, rest = c :: r ∧ isL c = false ∧ isD c = false := by
  rcases h with rfl | ⟨r, rfl⟩ | ⟨o, x, rfl, _⟩
  · exact .inl rfl
  · exact .inr ⟨41, r, rfl, by decide, by decide⟩
  · refine .inr ⟨32, ?_⟩
    cases o <;> exact ⟨_, rfl, by decide, by decide⟩
theorem takeWhile_clean (f : UInt8 → Bool) (l rest : List UInt8) (hl : ∀ x ∈ l, f x = true) (hr : rest = [] ∨ ∃ c r, rest = c :: r ∧ f c = false) : (l ++ rest).takeWhile f = l := by
  induction l with
  | nil =>
    rcases hr with rfl | ⟨c, r, rfl, hc⟩
    · rfl
    · rw [List.nil_append, List.takeWhile_cons_of_neg (by simp [hc])]
  | cons a q ih =>
    rw [List.cons_append, List.takeWhile_cons_of_pos (hl a (by simp)), ih (fun x hx => hl x (by simp [hx]))]
theorem isD_notL {c : UInt8} (h : isD c = true) : isL c = false := by
  unfold isD at h; unfold isL
  simp at h ⊢
  omega
theorem isD_ne {c : UInt8} (h : isD c = true) : c ≠ 32 ∧ c ≠ 110 ∧ c ≠ 45 := by
  refine ⟨?_, ?_, ?_⟩ <;> (rintro rfl; revert h; decide)
theorem nt_num {n : Nat} (c : UInt8) (r rest : List UInt8) (hc : isD c = true) (hr : ∀ x ∈ r, isD x = true) (h : Stop n rest) : nt (c :: r ++ rest) = c :: r := by
  have hl : ∀ x ∈ c :: r, isD x = true := by
    intro x hx
    rcases List.mem_cons.1 hx with rfl | hx
    · exact hc
    · exact hr x hx
  have hw := takeWhile_clean isD (c :: r) rest hl (h.clean.imp id fun ⟨c, r, h, _, h2⟩ => ⟨c, r, h, h2⟩)
  rw [List.cons_append, nt_cons _ _ (isD_ne hc).1]
  unfold tok
  simp only [tokLen]
  rw [if_neg (by simp [isD_notL hc]), if_pos hc, ← List.cons_append, hw, List.take_left' rfl]
theorem nt_year {n : Nat} (rest : List UInt8) (h : Stop n rest) : nt (121 :: rest) = [121] := by
  have hw := takeWhile_clean isL [121] rest (by simp; decide) (h.clean.imp id fun ⟨c, r, h, h1, _⟩ => ⟨c, r, h, h1⟩)
  rw [nt_cons _ _ (by decide)]
  unfold tok
  simp only [tokLen]
  rw [if_pos (by decide)]
  have e : (121 :: rest : List UInt8) = [121] ++ rest := rfl
  rw [e, hw, List.take_left' rfl]
theorem nt_one (c : UInt8) (x : List UInt8) (hc : c ≠ 32) (h1 : isL c = false) (h2 : isD c = false) : nt (c :: x) = [c] := by
  rw [nt_cons _ _ hc]
  unfold tok
  simp only [tokLen]
  rw [if_neg (by simp [h1]), if_neg (by simp [h2])]
  rfl
theorem nt_not (x : List UInt8) : nt (110 :: 111 :: 116 :: 32 :: x) = [110, 111, 116] := by
  simp [nt, tok, tokLen, isL]

/-! ### the text of an operand -/
def T (n : Nat) (t : E) : List UInt8 := par (decide (t.lev < n)) (wr t)
def O2.llev (o : O2) : Nat := if o.lev = 4 then 5 else o.lev
theorem wr_bin (o : O2) (a b : E) : wr (.bin o a b) = T o.llev a ++ (o.sign ++ T (o.lev + 1) b) := by
  have h1 : (decide (a.lev < o.lev) || (decide (o.lev = 4) && decide (a.lev = 4))) = decide (a.lev < o.llev) := by
    unfold O2.llev
    split
    · next h => rw [h, ← Bool.decide_and, ← Bool.decide_or]; exact decide_eq_decide.2 ⟨fun h => by omega, fun h => by omega⟩
    · next h => simp [h]
  have h2 : decide (b.lev ≤ o.lev) = decide (b.lev < o.lev + 1) := decide_eq_decide.2 ⟨fun h => by omega, fun h => by omega⟩
  simp only [wr, T, h1, h2]
theorem T_neg {n : Nat} {t : E} (h : ¬ t.lev < n) : T n t = wr t := by unfold T par; rw [if_neg (by simpa using h)]
theorem T_pos {n : Nat} {t : E} (h : t.lev < n) : T n t = 40 :: (wr t ++ [41]) := by unfold T par; rw [if_pos (by simpa using h)]

theorem wr_head (t : E) : NumOk t → ∃ c r, wr t = c :: r ∧ c ≠ 32 ∧ (4 ≤ t.lev → c ≠ 110) ∧ (8 ≤ t.lev → c ≠ 45) := by
  induction t with
  | num n =>
    rintro ⟨h0, h1⟩
    obtain ⟨c, r, h, hc, _⟩ := itoa_facts n h0 h1
    obtain ⟨h2, h3, h4⟩ := isD_ne hc
    exact ⟨c, r, h, h2, fun _ => h3, fun _ => h4⟩
  | year => exact fun _ => ⟨121, [], rfl, by decide, fun _ => by decide, fun _ => by decide⟩
  | neg a _ => exact fun _ => ⟨45, _, rfl, by decide, fun _ => by decide, fun h => absurd h (by simp [E.lev])⟩
  | not a _ => exact fun _ => ⟨110, _, rfl, by decide, fun h => absurd h (by simp [E.lev]), fun h => absurd h (by simp [E.lev])⟩
  | bin o a b iha _ =>
    rintro ⟨ha, _⟩
    rw [wr_bin]
    have h8 : 8 ≤ (E.bin o a b).lev → False := by cases o <;> simp [E.lev, O2.lev]
    by_cases hl : a.lev < o.llev
    · rw [T_pos hl]
      exact ⟨40, _, rfl, by decide, fun _ => by decide, fun _ => by decide⟩
    · rw [T_neg hl]
      obtain ⟨c, r, h, h1, h2, _⟩ := iha ha
      rw [h]
      refine ⟨c, _, rfl, h1, fun h4 => h2 ?_, fun h => (h8 h).elim⟩
      have : o.lev ≤ o.llev := by unfold O2.llev; split <;> omega
      have h5 : 4 ≤ o.lev := h4
      omega
theorem T_head (n : Nat) (t : E) (hN : NumOk t) : ∃ c r, T n t = c :: r ∧ c ≠ 32 ∧ (4 ≤ n → c ≠ 110) ∧ (8 ≤ n → c ≠ 45) := by
  by_cases hl : t.lev < n
  · rw [T_pos hl]; exact ⟨40, _, rfl, by decide, fun _ => by decide, fun _ => by decide⟩
  · rw [T_neg hl]
    obtain ⟨c, r, h, h1, h2, h3⟩ := wr_head t hN
    exact ⟨c, r, h, h1, fun h => h2 (by omega), fun h => h3 (by omega)⟩

def E.ht : E → Nat
  | .num _ => 1 | .year => 1 | .neg a => a.ht + 1 | .not a => a.ht + 1 | .bin _ a b => max a.ht b.ht + 1

end Go.Proofs.YtmjmcjcckncplaaDoor
