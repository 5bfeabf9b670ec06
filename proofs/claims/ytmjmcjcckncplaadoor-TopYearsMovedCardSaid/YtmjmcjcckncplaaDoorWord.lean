/- (parser).word (function 68): the next word or symbol, without passing it. -/
import Derived.Test.YtmjmcjcckncplaaDoorLex
namespace Go.Proofs.YtmjmcjcckncplaaDoor
open Go.RowKit Go.BigFrame

/-- What a call of word leaves: the blanks are passed. -/
def WordPost (p : Nat) (S : ByteArray) (n : Nat) (op : Int) (w : World) (e : Ending) (w' : World) : Prop :=
  e = .returned (.string ⟨(tok (S.data.toList.drop (skipTo S.data.toList n))).toArray⟩) ∧ PS w' p S (skipTo S.data.toList n) op ∧ Kept (One p) w w'

theorem skipTo_le {l : List UInt8} {n : Nat} (h : n ≤ l.length) : skipTo l n ≤ l.length := by
  unfold skipTo
  have h1 := (List.takeWhile_prefix (l := l.drop n) (fun x : UInt8 => x == 32)).length_le
  rw [List.length_drop] at h1
  omega

/-- Where the bytes end that f lets pass. -/
def runTo (f : UInt8 → Bool) (l : List UInt8) (n : Nat) : Nat := n + ((l.drop n).takeWhile f).length
theorem runTo_hit {f : UInt8 → Bool} {l : List UInt8} {n : Nat} (h : n < l.length) (hc : f l[n] = true) : runTo f l n = runTo f l (n + 1) := by
  unfold runTo
  rw [List.drop_eq_getElem_cons h, List.takeWhile_cons, if_pos hc]
  simp only [List.length_cons]
  omega
theorem runTo_stop {f : UInt8 → Bool} {l : List UInt8} {n : Nat} (h : n < l.length) (hc : f l[n] = false) : runTo f l n = n := by
  unfold runTo
  rw [List.drop_eq_getElem_cons h, List.takeWhile_cons, if_neg (by simp [hc])]
  rfl
theorem runTo_end {f : UInt8 → Bool} {l : List UInt8} {n : Nat} (h : l.length ≤ n) : runTo f l n = n := by
  unfold runTo
  rw [List.drop_eq_nil_of_le h]
  rfl
theorem runTo_le {f : UInt8 → Bool} {l : List UInt8} {n : Nat} (h : n ≤ l.length) : n ≤ runTo f l n ∧ runTo f l n ≤ l.length := by
  unfold runTo
  have h1 := (List.takeWhile_prefix (l := l.drop n) f).length_le
  rw [List.length_drop] at h1
  omega
theorem isL_iff (c : UInt8) : isL c = true ↔ 97 ≤ (c.toNat : Int) ∧ (c.toNat : Int) ≤ 122 := by unfold isL; simp; omega
theorem isD_iff (c : UInt8) : isD c = true ↔ 48 ≤ (c.toNat : Int) ∧ (c.toNat : Int) ≤ 57 := by unfold isD; simp; omega

/-- The word's bytes. -/
theorem tok_run {l : List UInt8} {n : Nat} (h : n < l.length) : tok (l.drop n) = (l.drop n).take ((if isL l[n] then runTo isL l n else if isD l[n] then runTo isD l n else n + 1) - n) := by
  unfold tok
  congr 1
  rw [List.drop_eq_getElem_cons h]
  simp only [tokLen]
  split
  · unfold runTo; rw [← List.drop_eq_getElem_cons h]; omega
  · split
    · unfold runTo; rw [← List.drop_eq_getElem_cons h]; omega
    · omega

set_option maxRecDepth 100000 in
set_option maxHeartbeats 4000000 in
theorem word_any (p : Nat) (S : ByteArray) (n : Nat) (op : Int) (w : World) (hP : PS w p S n op) (hn : n ≤ S.size) (hS : S.size ≤ 100000) :
    Calls Tryd.prog 68 #[.pointer (some ⟨p, 0, none⟩)] w (WordPost p S n op w) := by
  have HP := hide hP
  clear hP
  go_enter Tryd.func68, Tryd.ntmps68
  go_wp2_with fail
  refine (blanks_any p S n op w (unhide HP) hn hS).mono ?_
  rintro e w1 ⟨rfl, hP1, hK1⟩
  have hml : skipTo S.data.toList n ≤ S.size := by have := skipTo_le (l := S.data.toList) (n := n) (by simpa using hn); simpa using this
  have HPost := hide (show ∀ e w', e = .returned (.string ⟨(tok (S.data.toList.drop (skipTo S.data.toList n))).toArray⟩) → PS w' p S (skipTo S.data.toList n) op → Kept (One p) w w' → WordPost p S n op w e w' from fun e w' h1 h2 h3 => ⟨h1, h2, h3⟩)
  generalize skipTo S.data.toList n = m at *
  have c0 : w1.cell? ⟨p, 0, none⟩ = some (.string S) := by rw [Blk.cell hP1]; rfl
  have c1 : w1.cell? ⟨p, 1, none⟩ = some (.int .i64 m) := by rw [Blk.cell hP1]; rfl
  have HP1 := hide hP1
  have HK1 := hide hK1
  clear hP1 hK1
  by_cases hlt : m < S.size
  · have d1 : ((m : Int) == (S.size : Int)) = false := by rw [beq_eq_false_iff_ne]; omega
    go_wp2_with fail
    go_quiet (fail)
    go_wp2_with fail
    have HP2 := hide ((unhide HP1).drewN nq)
    have HK2 := hide ((unhide HK1).drewN nq)
    generalize w1.drewN nq = W at HP2 HK2 ⊢
    have c0 : W.cell? ⟨p, 0, none⟩ = some (.string S) := by rw [Blk.cell (unhide HP2)]; rfl
    have c1 : W.cell? ⟨p, 1, none⟩ = some (.int .i64 m) := by rw [Blk.cell (unhide HP2)]; rfl
    have hll : S.data.toList.length = S.size := by simp
    go_loop [3] (fun v => ∃ j : Nat, v = .int .i64 j ∧ m ≤ j ∧ j ≤ S.size ∧ runTo isL S.data.toList j = runTo isL S.data.toList m) (fun v => S.size - (intOf v).toNat)
    case atStart => exact ⟨m, rfl, Nat.le_refl _, hml, rfl⟩
    case round =>
      obtain ⟨j, rfl, hj1, hj2, hj3⟩ := hrel
      have HJ := hide hj3
      clear hj3
      by_cases hj : j < S.size
      · by_cases hL : isL S[j] = true
        · obtain ⟨q1, q2⟩ := (isL_iff _).1 hL
          have HL := hide hL
          clear hL
          have d2 : decide (j < S.size) = true := by simp; omega
          go_wp2_with (go_at_call 74; refine (letter_yes _ q1 q2 _).mono ?_; rintro e w' ⟨rfl, rfl⟩)
          go_round
          case rel => exact ⟨j + 1, by go_num, by omega, by omega, by rw [← unhide HJ]; exact (runTo_hit (l := S.data.toList) (by omega) (unhide HL)).symm⟩
          case measure => simp [intOf]; omega
        · have hE : runTo isL S.data.toList m = j := by rw [← unhide HJ]; exact runTo_stop (l := S.data.toList) (by omega) (Bool.eq_false_iff.2 hL)
          have qn : ((S[j]'hj).toNat : Int) < 97 ∨ 122 < ((S[j]'hj).toNat : Int) := by rw [isL_iff] at hL; omega
          have HQ := hide qn
          have d2 : decide (j < S.size) = true := by simp; omega
          clear hL qn
          have HE := hide hE
          clear hE
          by_cases hjm : j = m
          · subst hjm
            have hnL : isL S.data.toList[j] = false := by
              cases hb : isL S.data.toList[j] with
              | false => rfl
              | true =>
                have h1 := runTo_hit (l := S.data.toList) (by omega) hb
                have h2 := runTo_le (f := isL) (l := S.data.toList) (n := j + 1) (by omega)
                have h3 := unhide HE
                omega
            have HNL := hide hnL
            clear hnL
            have d3 : ((j : Int) == (j : Int)) = true := by simp
            go_wp2_with (go_at_call 74; refine (letter_no _ (unhide HQ) _).mono ?_; rintro e w' ⟨rfl, rfl⟩)
            go_loop [3] (fun v => ∃ i : Nat, v = .int .i64 i ∧ j ≤ i ∧ i ≤ S.size ∧ runTo isD S.data.toList i = runTo isD S.data.toList j) (fun v => S.size - (intOf v).toNat)
            case atStart => exact ⟨j, rfl, Nat.le_refl _, by omega, rfl⟩
            case round =>
              obtain ⟨i, rfl, hi1, hi2, hi3⟩ := hrel
              have HI := hide hi3
              clear hi3
              by_cases hi : i < S.size
              · have d2 : decide (i < S.size) = true := by simp; omega
                by_cases hD : isD S[i] = true
                · obtain ⟨q1, q2⟩ := (isD_iff _).1 hD
                  have HD := hide hD
                  clear hD
                  go_wp2_with (go_at_call 77; refine (digit_yes _ q1 q2 _).mono ?_; rintro e w' ⟨rfl, rfl⟩)
                  go_round
                  case rel => exact ⟨i + 1, by go_num, by omega, by omega, by rw [← unhide HI]; exact (runTo_hit (l := S.data.toList) (by omega) (unhide HD)).symm⟩
                  case measure => simp [intOf]; omega
                · have hE2 : runTo isD S.data.toList j = i := by rw [← unhide HI]; exact runTo_stop (l := S.data.toList) (by omega) (Bool.eq_false_iff.2 hD)
                  have qn : ((S[i]'hi).toNat : Int) < 48 ∨ 57 < ((S[i]'hi).toNat : Int) := by rw [isD_iff] at hD; omega
                  have HQN := hide qn
                  have HE2 := hide hE2
                  clear hE2 hD qn
                  by_cases hij : i = j
                  · have d4 : ((i : Int) == (j : Int)) = true := by rw [beq_iff_eq]; omega
                    have HIJ := hide hij
                    clear hij
                    go_wp2_with (go_at_call 77; refine (digit_no _ (unhide HQN) _).mono ?_; rintro e w' ⟨rfl, rfl⟩)
                    go_quiet (fail)
                    go_wp2_with fail
                    go_ret
                    refine unhide HPost _ _ ?_ ((unhide HP2).drewN _) ((unhide HK2).drewN _)
                    have ht := tok_run (l := S.data.toList) (n := j) (by omega)
                    rw [if_neg (by rw [unhide HNL]; simp), if_neg (by have h := unhide HE2; intro hd; have := runTo_hit (l := S.data.toList) (by omega) hd; have h2 := runTo_le (f := isD) (l := S.data.toList) (n := j + 1) (by omega); have h3 := unhide HIJ; omega)] at ht
                    obtain rfl := unhide HIJ
                    rw [ht]
                    exact congrArg (fun x => Ending.returned (Value.string x)) (Lib.extract_eq S i (i + 1))
                  · have d4 : ((i : Int) == (j : Int)) = false := by rw [beq_eq_false_iff_ne]; omega
                    go_wp2_with (go_at_call 77; refine (digit_no _ (unhide HQN) _).mono ?_; rintro e w' ⟨rfl, rfl⟩)
                    go_quiet (fail)
                    go_wp2_with fail
                    go_ret
                    refine unhide HPost _ _ ?_ ((unhide HP2).drewN _) ((unhide HK2).drewN _)
                    have ht := tok_run (l := S.data.toList) (n := j) (by omega)
                    rw [if_neg (by rw [unhide HNL]; simp), if_pos (by cases hb : isD S.data.toList[j] with | true => rfl | false => exact absurd ((unhide HE2).symm.trans (runTo_stop (l := S.data.toList) (by omega) hb)) hij), unhide HE2] at ht
                    rw [ht]
                    exact congrArg (fun x => Ending.returned (Value.string x)) (Lib.extract_eq S j i)
              · have d2 : decide (i < S.size) = false := by simp; omega
                have hE2 : runTo isD S.data.toList j = i := by rw [← unhide HI]; exact runTo_end (by omega)
                have HE2 := hide hE2
                clear hE2
                by_cases hij : i = j
                · exfalso; omega
                · have d4 : ((i : Int) == (j : Int)) = false := by rw [beq_eq_false_iff_ne]; omega
                  go_wp2_with fail
                  go_quiet (fail)
                  go_wp2_with fail
                  go_ret
                  refine unhide HPost _ _ ?_ ((unhide HP2).drewN _) ((unhide HK2).drewN _)
                  have ht := tok_run (l := S.data.toList) (n := j) (by omega)
                  rw [if_neg (by rw [unhide HNL]; simp), if_pos (by cases hb : isD S.data.toList[j] with | true => rfl | false => exact absurd ((unhide HE2).symm.trans (runTo_stop (l := S.data.toList) (by omega) hb)) hij), unhide HE2] at ht
                  rw [ht]
                  exact congrArg (fun x => Ending.returned (Value.string x)) (Lib.extract_eq S j i)
          · have d3 : ((j : Int) == (m : Int)) = false := by rw [beq_eq_false_iff_ne]; omega
            have hL : isL S.data.toList[m] = true := by
              cases hb : isL S.data.toList[m] with
              | true => rfl
              | false => exact absurd ((unhide HE).symm.trans (runTo_stop (l := S.data.toList) (by omega) hb)) hjm
            have HL := hide hL
            clear hL hjm
            go_wp2_with (go_at_call 74; refine (letter_no _ (unhide HQ) _).mono ?_; rintro e w' ⟨rfl, rfl⟩)
            go_quiet (fail)
            go_wp2_with fail
            go_ret
            refine unhide HPost _ _ ?_ ((unhide HP2).drewN _) ((unhide HK2).drewN _)
            have ht := tok_run (l := S.data.toList) (n := m) (by omega)
            rw [if_pos (unhide HL), unhide HE] at ht
            rw [ht]
            exact congrArg (fun x => Ending.returned (Value.string x)) (Lib.extract_eq S m j)
      · have hE : runTo isL S.data.toList m = j := by rw [← unhide HJ]; exact runTo_end (by omega)
        have d2 : decide (j < S.size) = false := by simp; omega
        have HE := hide hE
        clear hE
        by_cases hjm : j = m
        · exfalso; omega
        · have d3 : ((j : Int) == (m : Int)) = false := by rw [beq_eq_false_iff_ne]; omega
          have hL : isL S.data.toList[m] = true := by
            cases hb : isL S.data.toList[m] with
            | true => rfl
            | false => exact absurd ((unhide HE).symm.trans (runTo_stop (l := S.data.toList) (by omega) hb)) hjm
          have HL := hide hL
          clear hL hjm
          go_wp2_with fail
          go_quiet (fail)
          go_wp2_with fail
          go_ret
          refine unhide HPost _ _ ?_ ((unhide HP2).drewN _) ((unhide HK2).drewN _)
          have ht := tok_run (l := S.data.toList) (n := m) (by omega)
          rw [if_pos (unhide HL), unhide HE] at ht
          rw [ht]
          exact congrArg (fun x => Ending.returned (Value.string x)) (Lib.extract_eq S m j)
  · have hm : m = S.size := by omega
    have HM := hide hm
    have d1 : ((m : Int) == (S.size : Int)) = true := by rw [beq_iff_eq]; omega
    clear hm
    go_wp2_with fail
    go_quiet (fail)
    go_wp2_with fail
    go_ret
    exact unhide HPost _ _ (by rw [List.drop_eq_nil_of_le (by have := unhide HM; simp; omega)]; rfl) ((unhide HP1).drewN _) ((unhide HK1).drewN _)
end Go.Proofs.YtmjmcjcckncplaaDoor
