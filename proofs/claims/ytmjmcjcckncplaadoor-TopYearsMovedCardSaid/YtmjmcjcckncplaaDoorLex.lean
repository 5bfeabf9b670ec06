/- The parser's small functions: blanks, word, take, need, number, name, signed, end (functions 76, 68, 73, 64, 75, 65, 66, 69), letter and digit (74, 77), said of the bytes that are still to be read. -/
import Derived.Test.YtmjmcjcckncplaaDoorGlob
import Derived.Test.YtmjmcjcckncplaaDoorMemB
import Derived.Test.YtmjmcjcckncplaaDoorShelf
import Derived.Deep.QuietTactic
import Derived.BigQuiet
import Derived.Deep.LoopGhost
namespace Go.Proofs.YtmjmcjcckncplaaDoor
open Go.RowKit Go.BigFrame

/-- The parser p stands at byte 'at' of the line S, 'op' parentheses open. -/
def PS (w : World) (p : Nat) (S : ByteArray) (at_ op : Int) : Prop := Blk w p 98 #[.string S, .int .i64 at_, .int .i64 op]

/-- Where the blanks that stand there end. -/
def skipTo (l : List UInt8) (n : Nat) : Nat := n + ((l.drop n).takeWhile (· == 32)).length

theorem skipTo_hit {l : List UInt8} {n : Nat} (h : n < l.length) (hc : l[n] = 32) : skipTo l n = skipTo l (n + 1) := by
  unfold skipTo
  rw [List.drop_eq_getElem_cons h, List.takeWhile_cons, if_pos (by simp [hc])]
  simp only [List.length_cons]
  omega
theorem skipTo_stop {l : List UInt8} {n : Nat} (h : n < l.length) (hc : l[n] ≠ 32) : skipTo l n = n := by
  unfold skipTo
  rw [List.drop_eq_getElem_cons h, List.takeWhile_cons, if_neg (by simpa using hc)]
  rfl
theorem skipTo_end {l : List UInt8} {n : Nat} (h : l.length ≤ n) : skipTo l n = n := by
  unfold skipTo
  rw [List.drop_eq_nil_of_le h]
  rfl

set_option maxRecDepth 100000 in
set_option maxHeartbeats 2000000 in
theorem blanks_any (p : Nat) (S : ByteArray) (n : Nat) (op : Int) (w : World) (hP : PS w p S n op) (hn : n ≤ S.size) (hS : S.size ≤ 100000) :
    Calls Tryd.prog 76 #[.pointer (some ⟨p, 0, none⟩)] w fun e w' => e = .returned (.tuple #[]) ∧ PS w' p S (skipTo S.data.toList n) op ∧ Kept (One p) w w' := by
  have HP := hide hP
  clear hP
  go_enter Tryd.func76, Tryd.ntmps76
  go_wp2_with fail
  go_loopg [] (S.size - n) (fun k wr => ∃ m : Nat, m ≤ S.size ∧ S.size - m = k ∧ skipTo S.data.toList m = skipTo S.data.toList n ∧ PS wr p S m op ∧ Kept (One p) w wr)
  case atStart => exact ⟨n, hn, rfl, rfl, unhide HP, Kept.refl _ _⟩
  case round =>
    obtain ⟨m, hm, hk, hsk, hPm, hKm⟩ := hrel
    have c0 : wr.cell? ⟨p, 0, none⟩ = some (.string S) := by rw [Blk.cell hPm]; rfl
    have c1 : wr.cell? ⟨p, 1, none⟩ = some (.int .i64 m) := by rw [Blk.cell hPm]; rfl
    have f1 : wr.frozen? ⟨p, 1, none⟩ = false := Blk.frozen hPm 1
    have HPm := hide hPm
    have HKm := hide hKm
    have HSK := hide hsk
    have HK := hide hk
    clear hPm hKm hsk hk
    by_cases hlt : m < S.size
    · have d1 : decide (m < S.size) = true := by simp; omega
      have d1' : decide ((m : Int) < (S.size : Int)) = true := by simp; omega
      by_cases hc : S[m] = 32
      · have e1 : (((S[m]'hlt).toNat : Int) == 32) = true := by rw [hc]; rfl
        have HC := hide hc
        clear hc
        go_wp2_with fail
        go_quiet (fail)
        go_wp2_with fail
        have hk := unhide HK
        have hl : m < S.data.toList.length := by simpa using hlt
        have hsk := (skipTo_hit hl (unhide HC)).symm.trans (unhide HSK)
        go_roundg (gk - 1)
        case measure => omega
        case rel => exact ⟨m + 1, by omega, by omega, hsk, ((Blk.set_ (unhide HPm) 1 _).drewN _), ((unhide HKm).one _ _).drewN _⟩
      · have e1 : (((S[m]'hlt).toNat : Int) == 32) = false := by
          rw [beq_eq_false_iff_ne]
          intro h
          exact hc (UInt8.toNat_inj.1 (show (S[m]'hlt).toNat = 32 by omega))
        have HC := hide hc
        clear hc
        go_wp2_with fail
        go_quiet (fail)
        go_wp2_with fail
        go_end0
        have hl : m < S.data.toList.length := by simpa using hlt
        exact ⟨rfl, by rw [← unhide HSK, skipTo_stop hl (unhide HC)]; exact (unhide HPm).drewN _, (unhide HKm).drewN _⟩
    · have d1 : decide (m < S.size) = false := by simp; omega
      have d1' : decide ((m : Int) < (S.size : Int)) = false := by simp; omega
      go_wp2_with fail
      go_quiet (fail)
      go_wp2_with fail
      go_end0
      exact ⟨rfl, by rw [← unhide HSK, skipTo_end (by simpa using hlt)]; exact (unhide HPm).drewN _, (unhide HKm).drewN _⟩

/-! ### words -/
def isL (c : UInt8) : Bool := decide (97 ≤ c.toNat) && decide (c.toNat ≤ 122)
def isD (c : UInt8) : Bool := decide (48 ≤ c.toNat) && decide (c.toNat ≤ 57)

/-- How long the word is with which the bytes begin. -/
def tokLen : List UInt8 → Nat
  | [] => 0
  | c :: r => if isL c then ((c :: r).takeWhile isL).length else if isD c then ((c :: r).takeWhile isD).length else 1
def tok (l : List UInt8) : List UInt8 := l.take (tokLen l)

set_option maxHeartbeats 400000 in
theorem letter_yes (c : Int) (h0 : 97 ≤ c) (h1 : c ≤ 122) (w : World) : Calls Tryd.prog 74 #[.int .u8 c] w fun e w' => e = .returned (.bool true) ∧ w = w' := by
  go_enter Tryd.func74, Tryd.ntmps74
  go_wp2
  go_ret
  exact ⟨by simp, rfl⟩
set_option maxHeartbeats 400000 in
theorem letter_no (c : Int) (h : c < 97 ∨ 122 < c) (w : World) : Calls Tryd.prog 74 #[.int .u8 c] w fun e w' => e = .returned (.bool false) ∧ w = w' := by
  rcases h with h | h
  · go_enter Tryd.func74, Tryd.ntmps74
    go_wp2
    go_ret
    exact ⟨rfl, rfl⟩
  · have h0 : 97 ≤ c := by omega
    go_enter Tryd.func74, Tryd.ntmps74
    go_wp2
    go_ret
    first | exact ⟨rfl, rfl⟩ | exact ⟨by simp; omega, rfl⟩
set_option maxHeartbeats 400000 in
theorem digit_yes (c : Int) (h0 : 48 ≤ c) (h1 : c ≤ 57) (w : World) : Calls Tryd.prog 77 #[.int .u8 c] w fun e w' => e = .returned (.bool true) ∧ w = w' := by
  go_enter Tryd.func77, Tryd.ntmps77
  go_wp2
  go_ret
  exact ⟨by simp, rfl⟩
set_option maxHeartbeats 400000 in
theorem digit_no (c : Int) (h : c < 48 ∨ 57 < c) (w : World) : Calls Tryd.prog 77 #[.int .u8 c] w fun e w' => e = .returned (.bool false) ∧ w = w' := by
  rcases h with h | h
  · go_enter Tryd.func77, Tryd.ntmps77
    go_wp2
    go_ret
    exact ⟨rfl, rfl⟩
  · have h0 : 48 ≤ c := by omega
    go_enter Tryd.func77, Tryd.ntmps77
    go_wp2
    go_ret
    first | exact ⟨rfl, rfl⟩ | exact ⟨by simp; omega, rfl⟩

end Go.Proofs.YtmjmcjcckncplaaDoor
