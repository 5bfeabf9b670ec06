/- What 'write' writes of an expression, 'level' reads back: the induction. -/
import Derived.Test.YtmjmcjcckncplaaDoorReads
namespace Go.Proofs.YtmjmcjcckncplaaDoor
open Go.RowKit

/-- Level n reads t from whatever place before s from which only blanks part it, up to e. -/
def Q (GB : Nat) (S : ByteArray) (n s : Nat) (op : Int) (t : E) (e : Nat) : Prop :=
  ∀ b, b ≤ S.size → sk S b = s → ∃ a', LOK GB S n op b t a' ∧ sk S a' = e

section
variable {GB : Nat} {S : ByteArray} (hS : S.size ≤ 100000)
 include hS

theorem desc {n s : Nat} {op : Int} {t : E} {e : Nat} (h1 : 1 ≤ n) (h7 : n ≤ 7) (hs : ∀ sy ∈ symsOf n, tk S e ≠ sy) (h3 : n = 3 → tk S s ≠ [110, 111, 116]) (hm : n = 7 → tk S s ≠ [45]) (h : Q GB S (n + 1) s op t e) : Q GB S n s op t e := by
  intro b hb hbs
  have hss : sk S s = s := by rw [← hbs, sk_sk]
  have htk : tk S b = tk S s := tk_eq (by rw [hss, hbs])
  have hsz : s ≤ S.size := by rw [← hbs]; exact sk_le hb
  by_cases hn3 : n = 3
  · subst hn3
    obtain ⟨a', hL, he⟩ := h s hsz hss
    exact ⟨a', lok_not_no GB S op b a' t hb hS (by rw [htk]; exact h3 rfl) (by rw [hbs]; exact hL), he⟩
  · by_cases hn7 : n = 7
    · subst hn7
      obtain ⟨a', hL, he⟩ := h s hsz hss
      exact ⟨a', lok_neg_no GB S op b a' t hb hS (by rw [htk]; exact hm rfl) (by rw [hbs]; exact hL), he⟩
    · obtain ⟨a', hL, he⟩ := h b hb hbs
      refine ⟨sk S a', lok_bin GB S n op 0 b a' (sk S a') t t hS h1 (by omega) hn3 hL (.stop t a' ?_ hL.1), by rw [sk_sk, he]⟩
      intro sy hsy
      have : tk S a' = tk S e := tk_eq (by rw [← he, sk_sk])
      rw [this]
      exact hs sy hsy
theorem desc_to {s : Nat} {op : Int} {t : E} {e : Nat} (k : Nat) : ∀ n, 1 ≤ n → n + k ≤ 8 → (∀ j, n ≤ j → j < n + k → (∀ sy ∈ symsOf j, tk S e ≠ sy) ∧ (j = 3 → tk S s ≠ [110, 111, 116]) ∧ (j = 7 → tk S s ≠ [45])) → Q GB S (n + k) s op t e → Q GB S n s op t e := by
  induction k with
  | zero => intro n _ _ _ h; exact h
  | succ k ih =>
    intro n h1 h8 hc h
    obtain ⟨c1, c2, c3⟩ := hc n (Nat.le_refl _) (by omega)
    refine desc hS h1 (by omega) c1 c2 c3 (ih (n + 1) (by omega) (by omega) (fun j h1 h2 => hc j (by omega) (by omega)) ?_)
    have : n + 1 + k = n + (k + 1) := by omega
    rw [this]
    exact h

variable (GB S) in
def WOK (t : E) : Prop := NumOk t → ∀ n, 1 ≤ n → n ≤ t.lev → ∀ (s : Nat) (op : Int) (rest : List UInt8), S.data.toList.drop s = wr t ++ rest → Stop n rest → 0 ≤ op → op + t.ht ≤ 13 → Q GB S n s op t (sk S (s + (wr t).length))
variable (GB S) in
def POK (t : E) : Prop := NumOk t → ∀ n, 1 ≤ n → n ≤ 8 → ∀ (s : Nat) (op : Int) (rest : List UInt8), S.data.toList.drop s = T n t ++ rest → Stop n rest → 0 ≤ op → op + t.ht ≤ 12 → Q GB S n s op t (sk S (s + (T n t).length))
variable (GB S) in
/-- The first operand of a row of operations of one level, and what follows it. -/
def Spine (n b : Nat) (op : Int) (t : E) (e : Nat) : Prop :=
  ∃ X a1 a', LOK GB S (n + 1) op b X a1 ∧ sk S a' = e ∧ a' ≤ S.size ∧ ∀ k T' a2, Steps GB S n op k t a' T' a2 → ∃ k', Steps GB S n op k' X a1 T' a2
variable (GB S) in
def SWOK (t : E) : Prop := ∀ o x y, t = .bin o x y → o.lev ≠ 4 → NumOk t → ∀ (s : Nat) (op : Int) (rest : List UInt8), S.data.toList.drop s = wr t ++ rest → Stop (o.lev + 1) rest → 0 ≤ op → op + t.ht ≤ 13 → ∀ b, b ≤ S.size → sk S b = s → Spine GB S o.lev b op t (sk S (s + (wr t).length))

 omit hS in
theorem drop_len {s : Nat} {l rest : List UInt8} (h : S.data.toList.drop s = l ++ rest) (hl : l ≠ []) : s + l.length ≤ S.size ∧ S.data.toList.drop (s + l.length) = rest := by
  constructor
  · have h1 := congrArg List.length h
    simp only [List.length_drop, List.length_append] at h1
    have h2 : 0 < l.length := List.length_pos_iff.2 hl
    have h3 : S.data.toList.length = S.size := by simp
    omega
  · rw [← List.drop_drop, h, List.drop_left']
    rfl

 omit hS in
theorem ht_pos (t : E) : 1 ≤ t.ht := by cases t <;> simp [E.ht]
 omit hS in
theorem lev_range (t : E) : 1 ≤ t.lev ∧ t.lev ≤ 8 := by
  cases t with
  | bin o a b => cases o <;> simp [E.lev, O2.lev]
  | _ => simp [E.lev]
 omit hS in
theorem lev_o (o : O2) : 1 ≤ o.lev ∧ o.lev ≤ 6 ∧ o.lev ≠ 3 := by cases o <;> simp [O2.lev]

theorem pok_of {t : E} (h : WOK GB S t) : POK GB S t := by
  intro hN n h1 h8 s op rest hd hst hop hht
  by_cases hl : t.lev < n
  · rw [T_pos hl] at hd ⊢
    have hd1 : S.data.toList.drop s = 40 :: (wr t ++ (41 :: rest)) := by rw [hd]; simp
    obtain ⟨c, r, hwr, hc, _⟩ := wr_head t hN
    have hs1 : s + 1 ≤ S.size ∧ S.data.toList.drop (s + 1) = wr t ++ (41 :: rest) := drop_len (l := [40]) hd1 (by simp)
    have hwne : wr t ≠ [] := by rw [hwr]; simp
    obtain ⟨hs2, hd2⟩ := drop_len hs1.2 hwne
    obtain ⟨hs3, hd3⟩ := drop_len (l := [41]) (rest := rest) hd2 (by simp)
    have hss : sk S s = s := sk_self hd1 (by decide)
    have hs1s : sk S (s + 1) = s + 1 := by rw [hwr] at hs1; exact sk_self hs1.2 hc
    have htks : tk S s = [40] := by rw [tk_nt, hd1]; exact nt_one 40 _ (by decide) (by decide) (by decide)
    obtain ⟨a1, hL, ha1⟩ := h hN 1 (Nat.le_refl _) (lev_range t).1 (s + 1) (op + 1) (41 :: rest) hs1.2 (.inr (.inl ⟨_, rfl⟩)) (by omega) (by omega) (s + 1) hs1.1 hs1s
    have he1 : sk S (s + 1 + (wr t).length) = s + 1 + (wr t).length := sk_self hd2 (by decide)
    have htk1 : tk S a1 = [41] := by
      have h2 : tk S a1 = tk S (s + 1 + (wr t).length) := tk_eq ha1
      rw [h2, tk_nt, hd2]
      exact nt_one 41 _ (by decide) (by decide) (by decide)
    have hlen : s + (40 :: (wr t ++ [41])).length = sk S a1 + 1 := by simp [ha1, he1]; omega
    have hQ8 : Q GB S 8 s op t (sk S (s + (40 :: (wr t ++ [41])).length)) := by
      intro b hb hbs
      refine ⟨sk S a1 + 1, lok_paren GB S op b (s + 1) a1 (sk S a1 + 1) t hb hS (by rw [← htks]; exact tk_eq (by rw [hbs, hss])) (by rw [hbs]) hop (by have := ht_pos t; omega) (by simpa using hL) htk1 rfl, by rw [hlen]⟩
    have hrest : S.data.toList.drop (s + (40 :: (wr t ++ [41])).length) = rest := by
      rw [hlen, ha1, he1]; exact hd3
    refine desc_to hS (8 - n) n h1 (by omega) (fun j hj _ => ⟨?_, fun _ => by rw [htks]; decide, fun _ => by rw [htks]; decide⟩) (by rw [show n + (8 - n) = 8 by omega]; exact hQ8)
    rw [tk_eq (sk_sk S _), tk_nt, hrest]
    exact hst.syms j hj
  · rw [T_neg hl] at hd ⊢
    exact h hN n h1 (by omega) s op rest hd hst hop (by omega)

theorem spine_of {t : E} (h : WOK GB S t) (hw : SWOK GB S t) (hN : NumOk t) (n : Nat) (h1 : 1 ≤ n) (h6 : n ≤ 6) (h3 : n ≠ 3) (h4 : n ≠ 4) (s : Nat) (op : Int) (rest : List UInt8) (hd : S.data.toList.drop s = T n t ++ rest) (hst : Stop (n + 1) rest) (hop : 0 ≤ op) (hht : op + t.ht ≤ 12)
    (b : Nat) (hb : b ≤ S.size) (hbs : sk S b = s) : Spine GB S n b op t (sk S (s + (T n t).length)) := by
  by_cases hl : t.lev = n
  · rw [T_neg (by omega)] at hd ⊢
    have hbin : ∃ o x y, t = .bin o x y := by
      cases t with
      | bin o x y => exact ⟨o, x, y, rfl⟩
      | num _ => simp [E.lev] at hl; omega
      | year => simp [E.lev] at hl; omega
      | neg _ => simp [E.lev] at hl; omega
      | not _ => simp [E.lev] at hl; omega
    obtain ⟨o, x, y, rfl⟩ := hbin
    have hl2 : o.lev = n := hl
    subst hl2
    exact hw o x y rfl h4 hN s op rest hd hst hop (by omega) b hb hbs
  · have hT : T n t = T (n + 1) t := by
      by_cases h : t.lev < n
      · rw [T_pos h, T_pos (by omega)]
      · rw [T_neg h, T_neg (by omega)]
    rw [hT] at hd ⊢
    obtain ⟨a', hL, he⟩ := pok_of hS h hN (n + 1) (by omega) (by omega) s op rest hd hst hop hht b hb hbs
    exact ⟨t, a', a', by simpa using hL, he, hL.1, fun k T' a2 hs => ⟨k, hs⟩⟩

 omit hS in
/-- Behind the first operand: the sign, and the second operand. -/
theorem sec {o : O2} {b : E} (hb : POK GB S b) (hN : NumOk b) (p : Nat) (op : Int) (rest : List UInt8) (hd : S.data.toList.drop p = o.sign ++ (T (o.lev + 1) b ++ rest)) (hst : Stop (o.lev + 1) rest) (hop : 0 ≤ op) (hht : op + b.ht ≤ 12)
    (a' : Nat) (ha : sk S a' = sk S p) : tk S a' = o.sym ∧ ∃ a'', LOK GB S (o.lev + 1) op (sk S a' + o.sym.length) b a'' ∧ sk S a'' = sk S (p + (o.sign ++ T (o.lev + 1) b).length) := by
  obtain ⟨c, r, hT, hc, _⟩ := T_head (o.lev + 1) b hN
  have h6 := (lev_o o).2.1
  have hsg : o.sign = 32 :: (o.sym ++ [32]) := by cases o <;> rfl
  have hsk : sk S p = p + 1 := by
    have : ∃ q z, o.sym = q :: z ∧ q ≠ 32 := by cases o <;> exact ⟨_, _, rfl, by decide⟩
    obtain ⟨q, z, hq, hq2⟩ := this
    rw [hsg, hq] at hd
    exact sk_blank hd hq2
  have htk : tk S a' = o.sym := by rw [tk_eq ha, tk_nt, hd, nt_sign]
  have hd2 : S.data.toList.drop p = (32 :: o.sym) ++ (32 :: (T (o.lev + 1) b ++ rest)) := by rw [hd, hsg]; simp
  obtain ⟨hl1, hd3⟩ := drop_len hd2 (by simp)
  have hpos : sk S a' + o.sym.length = p + (32 :: o.sym).length := by rw [ha, hsk]; simp; omega
  obtain ⟨hl4, hd4⟩ := drop_len (l := [32]) (rest := T (o.lev + 1) b ++ rest) hd3 (by simp)
  have hsb : sk S (sk S a' + o.sym.length) = p + (32 :: o.sym).length + 1 := by
    rw [hpos]
    rw [hT] at hd3
    exact sk_blank hd3 hc
  obtain ⟨a'', hL, he⟩ := hb hN (o.lev + 1) (by omega) (by omega) (p + (32 :: o.sym).length + 1) op rest hd4 hst hop hht (sk S a' + o.sym.length) (by rw [hpos]; exact hl1) hsb
  refine ⟨htk, a'', by simpa using hL, ?_⟩
  rw [he, hsg]
  congr 1
  simp
  omega

theorem bin_sw {o : O2} {a b : E} (hwa : WOK GB S a) (hsa : SWOK GB S a) (hwb : WOK GB S b) : SWOK GB S (.bin o a b) := by
  intro o' x y he h4 hN s op rest hd hst hop hht p hp hps
  injection he with h1 h2 h3
  subst h1 h2 h3
  obtain ⟨hNa, hNb⟩ := hN
  obtain ⟨r1, r6, r3⟩ := lev_o o
  have hll : o.llev = o.lev := by unfold O2.llev; rw [if_neg h4]
  rw [wr_bin, hll] at hd ⊢
  have hd1 : S.data.toList.drop s = T o.lev a ++ (o.sign ++ (T (o.lev + 1) b ++ rest)) := by rw [hd]; simp
  have hta : a.ht + 1 ≤ (E.bin o a b).ht := by simp [E.ht]; omega
  have htb : b.ht + 1 ≤ (E.bin o a b).ht := by simp [E.ht]; omega
  obtain ⟨X, a1, a', hL, ha', hal, hcont⟩ := spine_of hS hwa hsa hNa o.lev r1 r6 r3 h4 s op _ hd1 (.inr (.inr ⟨o, _, rfl, Nat.lt_succ_self _⟩)) hop (by omega) p hp hps
  obtain ⟨c, r, hT, _⟩ := T_head o.lev a hNa
  obtain ⟨hl2, hd2⟩ := drop_len hd1 (by rw [hT]; simp)
  obtain ⟨htk, a'', hLb, hae⟩ := sec (pok_of hS hwb) hNb _ op rest hd2 hst hop (by omega) a' ha'
  refine ⟨X, a1, a'', hL, by rw [hae]; congr 1; simp; omega, hLb.1, ?_⟩
  intro k T' a2 hs
  exact hcont _ _ _ (.step a b T' o a' a'' a2 k h4 rfl htk hal hLb hs)

theorem reads (t : E) : WOK GB S t ∧ SWOK GB S t := by
  induction t with
  | num v =>
    refine ⟨?_, fun o x y h => by cases h⟩
    rintro ⟨h0, h1⟩ n hn1 hnl s op rest hd hst hop hht
    obtain ⟨c, r, hi, hc, hr, hrl, hv⟩ := itoa_facts v h0 h1
    have hw : wr (.num v) = c :: r := hi
    rw [hw] at hd ⊢
    have htks : tk S s = c :: r := by rw [tk_nt, hd]; exact nt_num c r rest hc hr hst
    have hss : sk S s = s := sk_self hd (isD_ne hc).1
    obtain ⟨hl, hdr⟩ := drop_len hd (by simp)
    have hQ : Q GB S 8 s op (.num v) (sk S (s + (c :: r).length)) := by
      intro b hb hbs
      exact ⟨s + (c :: r).length, lok_num GB S op b _ c r v hb hS (by rw [← htks]; exact tk_eq (by rw [hbs, hss])) (by rw [hbs]) hc hrl hv, rfl⟩
    have hnl2 : n ≤ 8 := hnl
    have hne := isD_ne hc
    refine desc_to hS (8 - n) n hn1 (by omega) (fun j hj _ => ⟨?_, fun _ => ?_, fun _ => ?_⟩) (by rw [show n + (8 - n) = 8 by omega]; exact hQ)
    · rw [tk_eq (sk_sk S _), tk_nt, hdr]; exact hst.syms j hj
    · rw [htks]; intro h; injection h with h _; exact hne.2.1 h
    · rw [htks]; intro h; injection h with h _; exact hne.2.2 h
  | year =>
    refine ⟨?_, fun o x y h => by cases h⟩
    intro _ n hn1 hnl s op rest hd hst hop hht
    have hw : wr .year = [121] := rfl
    rw [hw] at hd ⊢
    have htks : tk S s = [121] := by rw [tk_nt, hd]; exact nt_year rest hst
    have hss : sk S s = s := sk_self hd (by decide)
    obtain ⟨hl, hdr⟩ := drop_len hd (by simp)
    have hQ : Q GB S 8 s op .year (sk S (s + [121].length)) := by
      intro b hb hbs
      exact ⟨s + 1, lok_year GB S op b _ hb hS (by rw [← htks]; exact tk_eq (by rw [hbs, hss])) (by rw [hbs]), rfl⟩
    have hnl2 : n ≤ 8 := hnl
    refine desc_to hS (8 - n) n hn1 (by omega) (fun j hj _ => ⟨?_, fun _ => ?_, fun _ => ?_⟩) (by rw [show n + (8 - n) = 8 by omega]; exact hQ)
    · rw [tk_eq (sk_sk S _), tk_nt, hdr]; exact hst.syms j hj
    · rw [htks]; decide
    · rw [htks]; decide
  | neg a ih =>
    refine ⟨?_, fun o x y h => by cases h⟩
    intro hN n hn1 hnl s op rest hd hst hop hht
    have hNa : NumOk a := hN
    have hw : wr (.neg a) = 45 :: T 7 a := rfl
    rw [hw] at hd ⊢
    have htks : tk S s = [45] := by rw [tk_nt, hd]; exact nt_one 45 _ (by decide) (by decide) (by decide)
    have hss : sk S s = s := sk_self hd (by decide)
    have hd1 : S.data.toList.drop s = [45] ++ (T 7 a ++ rest) := by rw [hd]; rfl
    obtain ⟨hl, hdr⟩ := drop_len hd1 (by simp)
    have hnl2 : n ≤ 7 := hnl
    obtain ⟨c, r, hT, hc, _⟩ := T_head 7 a hNa
    have hs1 : sk S (s + 1) = s + 1 := by rw [hT] at hdr; exact sk_self hdr hc
    have hta : (E.neg a).ht = a.ht + 1 := rfl
    obtain ⟨a', hL, he⟩ := pok_of hS ih.1 hNa 7 (by omega) (by omega) (s + 1) op rest hdr (hst.mono hnl2) hop (by omega) (s + 1) hl hs1
    obtain ⟨hl2, hdr2⟩ := drop_len hdr (by rw [hT]; simp)
    have hlen : s + (45 :: T 7 a).length = s + 1 + (T 7 a).length := by simp; omega
    have hQ : Q GB S 7 s op (.neg a) (sk S (s + (45 :: T 7 a).length)) := by
      intro b hb hbs
      exact ⟨a', lok_neg GB S op b (s + 1) a' a hb hS (by rw [← htks]; exact tk_eq (by rw [hbs, hss])) (by rw [hbs]) hL, by rw [hlen, he]⟩
    refine desc_to hS (7 - n) n hn1 (by omega) (fun j hj hj2 => ⟨?_, fun _ => ?_, fun h => ?_⟩) (by rw [show n + (7 - n) = 7 by omega]; exact hQ)
    · rw [tk_eq (sk_sk S _), tk_nt, hlen]; rw [show S.data.toList.drop (s + 1 + (T 7 a).length) = rest from hdr2]; exact hst.syms j hj
    · rw [htks]; decide
    · omega
  | not a ih =>
    refine ⟨?_, fun o x y h => by cases h⟩
    intro hN n hn1 hnl s op rest hd hst hop hht
    have hNa : NumOk a := hN
    have hw : wr (.not a) = [110, 111, 116, 32] ++ T 3 a := rfl
    rw [hw] at hd ⊢
    have htks : tk S s = [110, 111, 116] := by rw [tk_nt, hd]; exact nt_not _
    have hss : sk S s = s := sk_self hd (by decide)
    have hd1 : S.data.toList.drop s = [110, 111, 116] ++ ([32] ++ (T 3 a ++ rest)) := by rw [hd]; rfl
    obtain ⟨hl, hdr⟩ := drop_len hd1 (by simp)
    have hnl2 : n ≤ 3 := hnl
    obtain ⟨c, r, hT, hc, _⟩ := T_head 3 a hNa
    obtain ⟨hl1, hdr1⟩ := drop_len hdr (by simp)
    have hs1 : sk S (s + 3) = s + 4 := by rw [hT] at hdr; exact sk_blank hdr hc
    have hta : (E.not a).ht = a.ht + 1 := rfl
    obtain ⟨a', hL, he⟩ := pok_of hS ih.1 hNa 3 (by omega) (by omega) (s + 4) op rest hdr1 (hst.mono hnl2) hop (by omega) (s + 3) hl hs1
    obtain ⟨hl2, hdr2⟩ := drop_len hdr1 (by rw [hT]; simp)
    have hlen : s + ([110, 111, 116, 32] ++ T 3 a).length = s + 4 + (T 3 a).length := by simp; omega
    have hQ : Q GB S 3 s op (.not a) (sk S (s + ([110, 111, 116, 32] ++ T 3 a).length)) := by
      intro b hb hbs
      exact ⟨a', lok_not GB S op b (s + 3) a' a hb hS (by rw [← htks]; exact tk_eq (by rw [hbs, hss])) (by rw [hbs]) hL, by rw [hlen, he]⟩
    refine desc_to hS (3 - n) n hn1 (by omega) (fun j hj hj2 => ⟨?_, fun h => ?_, fun h => ?_⟩) (by rw [show n + (3 - n) = 3 by omega]; exact hQ)
    · rw [tk_eq (sk_sk S _), tk_nt, hlen]; rw [show S.data.toList.drop (s + 4 + (T 3 a).length) = rest from hdr2]; exact hst.syms j hj
    · omega
    · omega
  | bin o a b iha ihb =>
    have hsw : SWOK GB S (.bin o a b) := bin_sw hS iha.1 iha.2 ihb.1
    refine ⟨?_, hsw⟩
    intro hN n hn1 hnl s op rest hd hst hop hht
    obtain ⟨r1, r6, r3⟩ := lev_o o
    have hnl2 : n ≤ o.lev := hnl
    have hst2 : Stop (o.lev + 1) rest := hst.mono (by omega)
    obtain ⟨c, r, hwr, hc, hc4, _⟩ := wr_head (.bin o a b) hN
    obtain ⟨hl0, hdr0⟩ := drop_len hd (by rw [hwr]; simp)
    have hsyms : ∀ j, n ≤ j → ∀ sy ∈ symsOf j, tk S (sk S (s + (wr (.bin o a b)).length)) ≠ sy := by
      intro j hj
      rw [tk_eq (sk_sk S _), tk_nt, hdr0]
      exact hst.syms j hj
    have hQ : Q GB S o.lev s op (.bin o a b) (sk S (s + (wr (.bin o a b)).length)) := by
      intro p hp hps
      by_cases h4 : o.lev = 4
      · have hd1 : S.data.toList.drop s = T 5 a ++ (o.sign ++ (T (o.lev + 1) b ++ rest)) := by rw [hd, wr_bin]; simp [O2.llev, h4]
        have hta : a.ht + 1 ≤ (E.bin o a b).ht := by simp [E.ht]; omega
        have htb : b.ht + 1 ≤ (E.bin o a b).ht := by simp [E.ht]; omega
        obtain ⟨a1, hLa, ha1⟩ := pok_of hS iha.1 hN.1 5 (by omega) (by omega) s op _ hd1 (.inr (.inr ⟨o, _, rfl, by omega⟩)) hop (by omega) p hp hps
        obtain ⟨c5, r5, hT5, _⟩ := T_head 5 a hN.1
        obtain ⟨hl2, hd2⟩ := drop_len hd1 (by rw [hT5]; simp)
        obtain ⟨htk, a'', hLb, hae⟩ := sec (pok_of hS ihb.1) hN.2 _ op rest hd2 hst2 hop (by omega) a1 ha1
        refine ⟨a'', lok_bin GB S o.lev op 0 p a1 a'' a (.bin o a b) hS r1 r6 r3 ?_ (.four a b o a1 a'' h4 rfl htk hLa.1 hLb), ?_⟩
        · have e5 : ((o.lev : Int) + 1) = ((5 : Nat) : Int) := by omega
          rw [e5]; exact hLa
        · rw [hae, wr_bin]; simp [O2.llev, h4]; congr 1; omega
      · obtain ⟨X, a1, a', hL, ha', hal, hcont⟩ := hsw o a b rfl h4 hN s op rest hd hst2 hop hht p hp hps
        obtain ⟨k', hs⟩ := hcont 0 (.bin o a b) (sk S a') (.stop _ a' (by rw [tk_eq (show sk S a' = sk S (sk S (s + (wr (.bin o a b)).length)) by rw [sk_sk, ha'])]; exact hsyms o.lev hnl2) hal)
        exact ⟨sk S a', lok_bin GB S o.lev op k' p a1 (sk S a') X (.bin o a b) hS r1 r6 r3 hL hs, by rw [sk_sk, ha']⟩
    refine desc_to hS (o.lev - n) n hn1 (by omega) (fun j hj hj2 => ⟨hsyms j hj, fun h => ?_, fun h => ?_⟩) (by rw [show n + (o.lev - n) = o.lev by omega]; exact hQ)
    · have h4 : 4 ≤ (E.bin o a b).lev := by show 4 ≤ o.lev; omega
      rw [tk_nt, hd, hwr, List.cons_append, nt_cons _ _ hc]
      obtain ⟨q, hq⟩ := tok_cons c (r ++ rest)
      rw [hq]
      intro h; injection h with h _; exact hc4 h4 h
    · omega
end

end Go.Proofs.YtmjmcjcckncplaaDoor
