/- take, need, number, name, signed, end (functions 73, 64, 75, 65, 66, 69): where they succeed. -/
import Derived.Test.YtmjmcjcckncplaaDoorWord
namespace Go.Proofs.YtmjmcjcckncplaaDoor
open Go.RowKit Go.BigFrame

theorem tok_len (l : List UInt8) : (tok l).length ≤ l.length := by unfold tok; rw [List.length_take]; omega

theorem skipTo_idem (l : List UInt8) (n : Nat) : skipTo l (skipTo l n) = skipTo l n := by
  by_cases h : n < l.length
  · by_cases hc : l[n] = 32
    · rw [skipTo_hit h hc]; exact skipTo_idem l (n + 1)
    · rw [skipTo_stop h hc, skipTo_stop h hc]
  · have h2 := skipTo_end (l := l) (n := n) (by omega)
    rw [h2, h2]
  termination_by l.length - n
theorem wrap_in (n : Int) (h : -9223372036854775808 ≤ n ∧ n ≤ 9223372036854775807) : wrap64 n = n := by unfold wrap64; omega

/-- The parser stands at 'at', the blanks passed. -/
def GotPost (v : Value) (p : Nat) (S : ByteArray) (at_ : Nat) (op : Int) (w : World) (e : Ending) (w' : World) : Prop :=
  e = .returned v ∧ PS w' p S at_ op ∧ Kept (One p) w w'

theorem got_le {S : ByteArray} {n m : Nat} {l : List UInt8} (hn : n ≤ S.size) (ht : tok (S.data.toList.drop (skipTo S.data.toList n)) = l) (hm : skipTo S.data.toList n + l.length = m) : m ≤ S.size := by
  have h1 := tok_len (S.data.toList.drop (skipTo S.data.toList n))
  have h2 := skipTo_le (l := S.data.toList) (n := n) (by simpa using hn)
  rw [ht, List.length_drop] at h1
  have h3 : S.data.toList.length = S.size := by simp
  omega
set_option maxRecDepth 100000 in
set_option maxHeartbeats 2000000 in
theorem take_yes (p : Nat) (S : ByteArray) (n m : Nat) (op : Int) (w : World) (l : List UInt8) (hP : PS w p S n op) (hn : n ≤ S.size) (hS : S.size ≤ 100000)
    (ht : tok (S.data.toList.drop (skipTo S.data.toList n)) = l) (hm : skipTo S.data.toList n + l.length = m) :
    Calls Tryd.prog 73 #[.pointer (some ⟨p, 0, none⟩), .string ⟨l.toArray⟩] w (GotPost (.bool true) p S m op w) := by
  have HP := hide hP
  clear hP
  have hml := got_le hn ht hm
  have HT := hide ht
  have HM := hide hm
  clear ht hm
  go_enter Tryd.func73, Tryd.ntmps73
  go_wp2_with fail
  refine (word_any p S n op w (unhide HP) hn hS).mono ?_
  rintro e w1 ⟨rfl, hP1, hK1⟩
  rw [unhide HT]
  have c1 : w1.cell? ⟨p, 1, none⟩ = some (.int .i64 (skipTo S.data.toList n)) := by rw [Blk.cell hP1]; rfl
  have f1 : w1.frozen? ⟨p, 1, none⟩ = false := Blk.frozen hP1 1
  have HP1 := hide hP1
  have HK1 := hide hK1
  clear hP1 hK1
  go_wp2_with fail
  rw [show wrap64 ((skipTo S.data.toList n : Int) + (l.length : Int)) = (m : Int) by have := unhide HM; rw [wrap_in _ (by omega)]; omega]
  go_ret
  exact ⟨rfl, (unhide HP1).set_ 1 _, (unhide HK1).one _ _⟩

set_option maxRecDepth 100000 in
set_option maxHeartbeats 2000000 in
theorem take_no (p : Nat) (S : ByteArray) (n : Nat) (op : Int) (w : World) (l : List UInt8) (hP : PS w p S n op) (hn : n ≤ S.size) (hS : S.size ≤ 100000)
    (ht : tok (S.data.toList.drop (skipTo S.data.toList n)) ≠ l) :
    Calls Tryd.prog 73 #[.pointer (some ⟨p, 0, none⟩), .string ⟨l.toArray⟩] w (GotPost (.bool false) p S (skipTo S.data.toList n) op w) := by
  have HP := hide hP
  clear hP
  have d : (tok (S.data.toList.drop (skipTo S.data.toList n)) == l) = false := by rw [beq_eq_false_iff_ne]; exact ht
  clear ht
  go_enter Tryd.func73, Tryd.ntmps73
  go_wp2_with fail
  refine (word_any p S n op w (unhide HP) hn hS).mono ?_
  rintro e w1 ⟨rfl, hP1, hK1⟩
  have HP1 := hide hP1
  have HK1 := hide hK1
  clear hP1 hK1
  go_wp2_with fail
  go_ret
  exact ⟨rfl, unhide HP1, unhide HK1⟩

set_option maxRecDepth 100000 in
set_option maxHeartbeats 2000000 in
theorem need_yes (p : Nat) (S : ByteArray) (n m : Nat) (op : Int) (w : World) (l : List UInt8) (hP : PS w p S n op) (hn : n ≤ S.size) (hS : S.size ≤ 100000)
    (ht : tok (S.data.toList.drop (skipTo S.data.toList n)) = l) (hm : skipTo S.data.toList n + l.length = m) :
    Calls Tryd.prog 64 #[.pointer (some ⟨p, 0, none⟩), .string ⟨l.toArray⟩] w (GotPost (.tuple #[]) p S m op w) := by
  have HP := hide hP
  have HT := hide ht
  have HM := hide hm
  clear hP ht hm
  go_enter Tryd.func64, Tryd.ntmps64
  go_wp2_with fail
  refine (take_yes p S n m op w l (unhide HP) hn hS (unhide HT) (unhide HM)).mono ?_
  rintro e w1 ⟨rfl, hP1, hK1⟩
  have HP1 := hide hP1
  have HK1 := hide hK1
  clear hP1 hK1
  go_wp2_with fail
  go_end0
  exact ⟨rfl, unhide HP1, unhide HK1⟩

set_option maxRecDepth 100000 in
set_option maxHeartbeats 2000000 in
theorem end_yes (p : Nat) (S : ByteArray) (n : Nat) (op : Int) (w : World) (hP : PS w p S n op) (hn : n ≤ S.size) (hS : S.size ≤ 100000)
    (ht : S.size ≤ skipTo S.data.toList n) :
    Calls Tryd.prog 69 #[.pointer (some ⟨p, 0, none⟩)] w (GotPost (.tuple #[]) p S (skipTo S.data.toList n) op w) := by
  have HP := hide hP
  have ht2 : tok (S.data.toList.drop (skipTo S.data.toList n)) = [] := by rw [List.drop_eq_nil_of_le (by simpa using ht)]; rfl
  have HT := hide ht2
  clear hP ht ht2
  go_enter Tryd.func69, Tryd.ntmps69
  go_wp2_with fail
  refine (word_any p S n op w (unhide HP) hn hS).mono ?_
  rintro e w1 ⟨rfl, hP1, hK1⟩
  rw [unhide HT]
  have HP1 := hide hP1
  have HK1 := hide hK1
  clear hP1 hK1
  go_wp2_with fail
  go_end0
  exact ⟨rfl, unhide HP1, unhide HK1⟩

set_option maxRecDepth 100000 in
set_option maxHeartbeats 2000000 in
theorem number_any (p : Nat) (S : ByteArray) (n m : Nat) (op : Int) (w : World) (c : UInt8) (r : List UInt8) (v : Int) (hP : PS w p S n op) (hn : n ≤ S.size) (hS : S.size ≤ 100000)
    (ht : tok (S.data.toList.drop (skipTo S.data.toList n)) = c :: r) (hm : skipTo S.data.toList n + (c :: r).length = m) (hc : isD c = true) (hl : r.length ≤ 9) (hv : Lib.atoiAll (c :: r) = .ok v) :
    Calls Tryd.prog 75 #[.pointer (some ⟨p, 0, none⟩)] w (GotPost (.int .i64 v) p S m op w) := by
  have HP := hide hP
  clear hP
  have hml := got_le hn ht hm
  have HT := hide ht
  have HM := hide hm
  have HV := hide hv
  obtain ⟨q1, q2⟩ := (isD_iff c).1 hc
  clear ht hm hc hv
  go_enter Tryd.func75, Tryd.ntmps75
  go_wp2_with fail
  refine (word_any p S n op w (unhide HP) hn hS).mono ?_
  rintro e w1 ⟨rfl, hP1, hK1⟩
  rw [unhide HT]
  have c1 : w1.cell? ⟨p, 1, none⟩ = some (.int .i64 (skipTo S.data.toList n)) := by rw [Blk.cell hP1]; rfl
  have f1 : w1.frozen? ⟨p, 1, none⟩ = false := Blk.frozen hP1 1
  have HP1 := hide hP1
  have HK1 := hide hK1
  clear hP1 hK1
  go_wp2_with (go_at_call 77; refine (digit_yes _ q1 q2 _).mono ?_; rintro e w' ⟨rfl, rfl⟩)
  rw [show wrap64 ((skipTo S.data.toList n : Int) + ((r.length : Int) + 1)) = (m : Int) by have := unhide HM; simp only [List.length_cons] at this; rw [wrap_in _ (by omega)]; omega]
  refine (Tryd.strconv_Atoi_ok _ (by show (c :: r).length ≤ _; simp; omega) v (unhide HV) _).mono ?_
  rintro e w2 ⟨rfl, hw2⟩
  have hK2 : Kept No (w1.setCell ⟨p, 1, none⟩ (.int .i64 m)) w2 := by
    rcases hw2 with rfl | ⟨t, rfl⟩
    · exact Kept.refl _ _
    · exact Below.toKept (Lib.bytesWorld_below _ 5 t)
  have HP2 := hide (((unhide HP1).set_ 1 (.int .i64 m)).kept hK2 id)
  have HK2 := hide (((unhide HK1).one 1 (.int .i64 m)).trans hK2 (fun _ _ h => h.elim))
  clear hK2 hw2
  go_wp2_with fail
  go_ret
  exact ⟨rfl, unhide HP2, unhide HK2⟩

set_option maxRecDepth 100000 in
set_option maxHeartbeats 2000000 in
theorem name_any (p : Nat) (S : ByteArray) (n m : Nat) (op : Int) (w : World) (c : UInt8) (r : List UInt8) (hP : PS w p S n op) (hn : n ≤ S.size) (hS : S.size ≤ 100000)
    (ht : tok (S.data.toList.drop (skipTo S.data.toList n)) = c :: r) (hm : skipTo S.data.toList n + (c :: r).length = m) (hc : isL c = true) :
    Calls Tryd.prog 65 #[.pointer (some ⟨p, 0, none⟩)] w (GotPost (.string ⟨(c :: r).toArray⟩) p S m op w) := by
  have HP := hide hP
  clear hP
  have hml := got_le hn ht hm
  have HT := hide ht
  have HM := hide hm
  obtain ⟨q1, q2⟩ := (isL_iff c).1 hc
  clear ht hm hc
  go_enter Tryd.func65, Tryd.ntmps65
  go_wp2_with fail
  refine (word_any p S n op w (unhide HP) hn hS).mono ?_
  rintro e w1 ⟨rfl, hP1, hK1⟩
  rw [unhide HT]
  have c1 : w1.cell? ⟨p, 1, none⟩ = some (.int .i64 (skipTo S.data.toList n)) := by rw [Blk.cell hP1]; rfl
  have f1 : w1.frozen? ⟨p, 1, none⟩ = false := Blk.frozen hP1 1
  have HP1 := hide hP1
  have HK1 := hide hK1
  clear hP1 hK1
  go_wp2_with (go_at_call 74; refine (letter_yes _ q1 q2 _).mono ?_; rintro e w' ⟨rfl, rfl⟩)
  rw [show wrap64 ((skipTo S.data.toList n : Int) + ((r.length : Int) + 1)) = (m : Int) by have := unhide HM; simp only [List.length_cons] at this; rw [wrap_in _ (by omega)]; omega]
  go_ret
  exact ⟨rfl, (unhide HP1).set_ 1 _, (unhide HK1).one _ _⟩

set_option maxRecDepth 100000 in
set_option maxHeartbeats 2000000 in
theorem signed_any (p : Nat) (S : ByteArray) (n m : Nat) (op : Int) (w : World) (c : UInt8) (r : List UInt8) (v : Int) (hP : PS w p S n op) (hn : n ≤ S.size) (hS : S.size ≤ 100000)
    (ht : tok (S.data.toList.drop (skipTo S.data.toList n)) = c :: r) (hm : skipTo S.data.toList n + (c :: r).length = m) (hc : isD c = true) (hl : r.length ≤ 9) (hv : Lib.atoiAll (c :: r) = .ok v) :
    Calls Tryd.prog 66 #[.pointer (some ⟨p, 0, none⟩)] w (GotPost (.int .i64 v) p S m op w) := by
  have HP := hide hP
  have hne : tok (S.data.toList.drop (skipTo S.data.toList n)) ≠ [45] := by
    rw [ht]
    intro h
    injection h with h1 h2
    rw [h1] at hc
    exact absurd hc (by decide)
  have HT := hide ht
  have HM := hide hm
  have HC := hide hc
  have HV := hide hv
  have HN := hide hne
  clear hP ht hm hc hv hne
  have hsl := skipTo_le (l := S.data.toList) (n := n) (by simpa using hn)
  go_enter Tryd.func66, Tryd.ntmps66
  go_wp2_with fail
  refine (take_no p S n op w [45] (unhide HP) hn hS (unhide HN)).mono ?_
  rintro e w1 ⟨rfl, hP1, hK1⟩
  have HP1 := hide hP1
  have HK1 := hide hK1
  clear hP1 hK1
  go_wp2_with fail
  refine (number_any p S (skipTo S.data.toList n) m op w1 c r v (unhide HP1) (by simpa using hsl) hS (by rw [skipTo_idem]; exact unhide HT) (by rw [skipTo_idem]; exact unhide HM) (unhide HC) hl (unhide HV)).mono ?_
  rintro e w2 ⟨rfl, hP2, hK2⟩
  have HP2 := hide hP2
  have HK2 := hide ((unhide HK1).trans hK2 (fun _ _ h => h))
  clear hP2 hK2
  go_wp2_with fail
  go_ret
  exact ⟨rfl, unhide HP2, unhide HK2⟩
end Go.Proofs.YtmjmcjcckncplaaDoor
