/- rule.Parse (function 42) at the text that Print writes. -/
import Derived.Test.YtmjmcjcckncplaaDoorOne2
import Derived.Test.YtmjmcjcckncplaaDoorOne3
namespace Go.Proofs.YtmjmcjcckncplaaDoor
open Go.RowKit Go.BigFrame

theorem index_line (l r : List UInt8) (h : ∀ x ∈ l, x ≠ 10) : Lib.index (l ++ 10 :: r) [10] = l.length := by
  induction l with
  | nil => rfl
  | cons a q ih =>
    have h1 := ih (fun x hx => h x (by simp [hx]))
    have ha : ((10 : UInt8) == a) = false := by rw [beq_eq_false_iff_ne]; exact fun e => h a (by simp) e.symm
    rw [List.cons_append, Lib.index]
    simp only [List.isPrefixOf, ha, Bool.false_and, h1]
    have h2 : ((q.length : Int) == -1) = false := by rw [beq_eq_false_iff_ne]; omega
    simp [h2]
theorem cut_line (l r : List UInt8) (h : ∀ x ∈ l, x ≠ 10) : Lib.cut (l ++ 10 :: r) [10] = (l, r, true) := by
  unfold Lib.cut
  rw [index_line l r h, if_pos (by omega)]
  simp

theorem par_all {p : Bool} {l : List UInt8} {f : UInt8 → Prop} (h : ∀ x ∈ l, f x) (h1 : f 40) (h2 : f 41) : ∀ x ∈ par p l, f x := by
  unfold par
  split
  · intro x hx
    rcases List.mem_cons.1 hx with rfl | hx
    · exact h1
    · rcases List.mem_append.1 hx with hx | hx
      · exact h x hx
      · rw [List.mem_singleton.1 hx]; exact h2
  · exact h
theorem wr_line (t : E) : NumOk t → ∀ x ∈ wr t, x ≠ 10 := by
  induction t with
  | num n =>
    rintro ⟨h0, h1⟩ x hx
    obtain ⟨c, r, h, hc, hr, _⟩ := itoa_facts n h0 h1
    have hw : wr (.num n) = c :: r := h
    rw [hw] at hx
    have hd : isD x = true := by
      rcases List.mem_cons.1 hx with rfl | hx
      · exact hc
      · exact hr x hx
    rintro rfl
    revert hd; decide
  | year => intro _ x hx; rw [List.mem_singleton.1 hx]; decide
  | neg a ih =>
    intro hN x hx
    rcases List.mem_cons.1 hx with rfl | hx
    · decide
    · exact par_all (f := (· ≠ 10)) (ih hN) (by decide) (by decide) x hx
  | not a ih =>
    intro hN x hx
    rcases List.mem_append.1 hx with hx | hx
    · exact (by decide : ∀ x ∈ ([110, 111, 116, 32] : List UInt8), x ≠ 10) x hx
    · exact par_all (f := (· ≠ 10)) (ih hN) (by decide) (by decide) x hx
  | bin o a b iha ihb =>
    intro hN x hx
    rcases List.mem_append.1 hx with hx | hx
    · exact par_all (f := (· ≠ 10)) (iha hN.1) (by decide) (by decide) x hx
    · rcases List.mem_append.1 hx with hx | hx
      · exact (by cases o <;> decide : ∀ x ∈ o.sign, x ≠ 10) x hx
      · exact par_all (f := (· ≠ 10)) (ihb hN.2) (by decide) (by decide) x hx

/-! ### the lines -/
def line0 : List UInt8 := [99, 97, 108, 101, 110, 100, 97, 114, 32, 97]
def line1 : List UInt8 := [101, 112, 111, 99, 104, 32, 49]
def line2 : List UInt8 := [99, 121, 99, 108, 101, 32, 49]
def rest5 : List UInt8 := []
def rest4 : List UInt8 := monthText ++ 10 :: rest5
def rest3 (t : E) : List UInt8 := leapLine t ++ 10 :: rest4
def rest2 (t : E) : List UInt8 := line2 ++ 10 :: rest3 t
def rest1 (t : E) : List UInt8 := line1 ++ 10 :: rest2 t
theorem rule_lines (t : E) : ruleText t = line0 ++ 10 :: rest1 t := by
  simp [ruleText, headText, line0, rest1, line1, rest2, line2, rest3, leapLine, leapWord, rest4, rest5]
theorem cut0 (t : E) : Lib.cut (ruleText t) [10] = (line0, rest1 t, true) := by rw [rule_lines]; exact cut_line _ _ (by decide)
theorem cut1 (t : E) : Lib.cut (rest1 t) [10] = (line1, rest2 t, true) := cut_line _ _ (by decide)
theorem cut2 (t : E) : Lib.cut (rest2 t) [10] = (line2, rest3 t, true) := cut_line _ _ (by decide)
theorem cut3 (t : E) (hN : NumOk t) : Lib.cut (rest3 t) [10] = (leapLine t, rest4, true) := cut_line _ _ (by
  intro x hx
  rcases List.mem_append.1 hx with hx | hx
  · exact (by decide : ∀ x ∈ leapWord, x ≠ 10) x hx
  · rcases List.mem_cons.1 hx with rfl | hx
    · decide
    · exact wr_line t hN x hx)
theorem cut4 : Lib.cut rest4 [10] = (monthText, rest5, true) := cut_line _ _ (by decide)
theorem ne0 (t : E) : (ruleText t == []) = false := rfl
theorem ne1 (t : E) : (rest1 t == []) = false := rfl
theorem ne2 (t : E) : (rest2 t == []) = false := rfl
theorem ne3 (t : E) : (rest3 t == []) = false := rfl
theorem ne4 : (rest4 == []) = false := rfl
theorem lens (t : E) : (ruleText t).length = 44 + (wr t).length ∧ (rest1 t).length = 33 + (wr t).length ∧ (rest2 t).length = 25 + (wr t).length ∧ (rest3 t).length = 17 + (wr t).length ∧ rest4.length = 11 := by
  refine ⟨?_, ?_, ?_, ?_, rfl⟩ <;> simp [ruleText, headText, monthText, rest1, line1, rest2, line2, rest3, leapLine, leapWord, rest4, rest5] <;> omega

/-- What Parse leaves. -/
def ParsePost (w : World) (t : E) (e : Ending) (w' : World) : Prop :=
  ∃ k n A l c mb mo mc, e = .returned (.tuple #[.agg #[.string ⟨#[97]⟩, .int .i64 1, .int .i64 1, .int .i64 k, .int .i64 n, .slice A l c, .slice (some ⟨mb, mo, none⟩) 1 mc], .int .i64 0, .int .i64 0]) ∧
    Rd w' (fun i => w.heap.size ≤ i) k n A l t.r ∧ Kept No w w'

/-- Cut, met in a world with the variables. -/
theorem cut_any (GB : Nat) (s a b : List UInt8) (w : World) (hs : s.length < 4294967281) (hG : Glob GB w) (hc : Lib.cut s [10] = (a, b, true)) :
    Calls Tryd.prog 52 #[.string ⟨s.toArray⟩, .string ⟨#[10]⟩] w fun e w' => e = .returned (.tuple #[.string ⟨a.toArray⟩, .string ⟨b.toArray⟩, .bool true]) ∧ ∃ n, w' = w.drewN n := by
  obtain ⟨m, hm⟩ := hG.max
  refine (Tryd.strings_Cut ⟨s.toArray⟩ ⟨#[10]⟩ m w (by show s.toArray.size < _; simpa using hs) hm).mono ?_
  rintro e w' ⟨rfl, hw⟩
  refine ⟨?_, hw⟩
  have e1 : (⟨s.toArray⟩ : ByteArray).data.toList = s := by simp
  have e2 : (⟨#[10]⟩ : ByteArray).data.toList = [10] := rfl
  rw [e1, e2, hc]

theorem Glob.drewN {B : Nat} {w : World} (h : Glob B w) (n : Nat) : Glob B (w.drewN n) := h.same fun _ _ => rfl

set_option maxRecDepth 100000 in
set_option maxHeartbeats 8000000 in
theorem parse_any (t : E) (GB : Nat) (w : World) (hN : NumOk t) (ht : t.ht ≤ 12) (hl : (wr t).length ≤ 3000) (hW : (walkF t.r 1 0).1 = 0) (hG : Glob GB w) (hGB : GB ≤ w.heap.size) :
    Calls Tryd.prog 42 #[.string ⟨(ruleText t).toArray⟩] w (ParsePost w t) := by
  obtain ⟨len0, len1, len2, len3, len4⟩ := lens t
  have LEN := hide (And.intro len1 (And.intro len2 len3))
  have hlen : (ruleText t).length ≤ 4000 := by omega
  have HG := hide hG
  have HW := hide hW
  have ne0 := ne0 t
  have ne1 := ne1 t
  have ne2 := ne2 t
  have ne3 := ne3 t
  have ne4 := ne4
  clear hG hW len0 len1 len2 len3 len4
  go_enter Tryd.func42, Tryd.ntmps42
  go_wp2_with fail
  refine wp_loop_rounds 6 ?_
  rw [rounds_succ]
  go_wp2_with fail
  have HX := hide ((Blk.new w 54 #[.string ⟨#[]⟩, .int .i64 0, .int .i64 0, .int .i64 0, .int .i64 0, .slice none 0 0, .slice none 0 0]).alloc (.cells #[.string ⟨#[]⟩, .int .i64 0, .int .i64 0, .int .i64 0, .int .i64 0, .slice none 0 0, .slice none 0 0] 54))
  have HT := hide (Blk.at_ (w := w.alloc (.cells #[.string ⟨#[]⟩, .int .i64 0, .int .i64 0, .int .i64 0, .int .i64 0, .slice none 0 0, .slice none 0 0] 54)) (t := 54) (cs := #[.string ⟨#[]⟩, .int .i64 0, .int .i64 0, .int .i64 0, .int .i64 0, .slice none 0 0, .slice none 0 0]) (n := w.heap.size + 1) (by simp))
  have HK := hide (((Kept.refl No w).alloc (.cells #[.string ⟨#[]⟩, .int .i64 0, .int .i64 0, .int .i64 0, .int .i64 0, .slice none 0 0, .slice none 0 0] 54)).alloc (.cells #[.string ⟨#[]⟩, .int .i64 0, .int .i64 0, .int .i64 0, .int .i64 0, .slice none 0 0, .slice none 0 0] 54))
  generalize (w.alloc (.cells #[.string ⟨#[]⟩, .int .i64 0, .int .i64 0, .int .i64 0, .int .i64 0, .slice none 0 0, .slice none 0 0] 54)).alloc (.cells #[.string ⟨#[]⟩, .int .i64 0, .int .i64 0, .int .i64 0, .int .i64 0, .slice none 0 0, .slice none 0 0] 54) = W at HX HT HK ⊢
  have hlc : (ruleText t).length < 4294967281 := by have h := unhide LEN; have h4 : rest4.length = 11 := rfl; omega
  refine (cut_any GB (ruleText t) [99, 97, 108, 101, 110, 100, 97, 114, 32, 97] (rest1 t) W hlc ((unhide HG).kept0 (unhide HK) hGB) (cut0 t)).mono ?_
  rintro e wc ⟨rfl, nd, rfl⟩
  have HX := hide ((unhide HX).drewN nd)
  have HT := hide ((unhide HT).drewN nd)
  have HK := hide ((unhide HK).drewN nd)
  generalize W.drewN nd = W1 at *
  have hgl := (unhide HX).lt
  have hgl2 := (unhide HT).lt
  go_wp2_with fail
  refine (one_calendar (w.heap.size + 1) _ _ _ _ _ _ _ _ _ W1 (unhide HT)).mono ?_
  rintro e W2 ⟨rfl, hT2, hK2⟩
  have HX := hide ((unhide HX).kept hK2 (one_ne (by omega)))
  have HT := hide hT2
  have HK := hide ((unhide HK).trans hK2 (fun i hi h => by unfold One at h; omega))
  clear hT2 hK2
  go_wp2_with fail
  rw [rounds_succ]
  go_wp2_with fail
  clear hgl hgl2 hlc
  obtain ⟨W, hWW⟩ : ∃ x, x = W2 := ⟨_, rfl⟩
  subst hWW
  have hlc : (rest1 t).length < 4294967281 := by have h := unhide LEN; have h4 : rest4.length = 11 := rfl; omega
  refine (cut_any GB (rest1 t) [101, 112, 111, 99, 104, 32, 49] (rest2 t) W hlc ((unhide HG).kept0 (unhide HK) hGB) (cut1 t)).mono ?_
  rintro e wc ⟨rfl, nd, rfl⟩
  have HX := hide ((unhide HX).drewN nd)
  have HT := hide ((unhide HT).drewN nd)
  have HK := hide ((unhide HK).drewN nd)
  generalize W.drewN nd = W1 at *
  have hgl := (unhide HX).lt
  have hgl2 := (unhide HT).lt
  go_wp2_with fail
  refine (one_epoch (w.heap.size + 1) _ _ _ _ _ _ _ _ _ W1 (unhide HT)).mono ?_
  rintro e W2 ⟨rfl, hT2, hK2⟩
  have HX := hide ((unhide HX).kept hK2 (one_ne (by omega)))
  have HT := hide hT2
  have HK := hide ((unhide HK).trans hK2 (fun i hi h => by unfold One at h; omega))
  clear hT2 hK2
  go_wp2_with fail
  rw [rounds_succ]
  go_wp2_with fail
  clear hgl hgl2 hlc
  obtain ⟨W, hWW⟩ : ∃ x, x = W2 := ⟨_, rfl⟩
  subst hWW
  have hlc : (rest2 t).length < 4294967281 := by have h := unhide LEN; have h4 : rest4.length = 11 := rfl; omega
  refine (cut_any GB (rest2 t) [99, 121, 99, 108, 101, 32, 49] (rest3 t) W hlc ((unhide HG).kept0 (unhide HK) hGB) (cut2 t)).mono ?_
  rintro e wc ⟨rfl, nd, rfl⟩
  have HX := hide ((unhide HX).drewN nd)
  have HT := hide ((unhide HT).drewN nd)
  have HK := hide ((unhide HK).drewN nd)
  generalize W.drewN nd = W1 at *
  have hgl := (unhide HX).lt
  have hgl2 := (unhide HT).lt
  go_wp2_with fail
  refine (one_cycle (w.heap.size + 1) _ _ _ _ _ _ _ _ _ W1 (unhide HT)).mono ?_
  rintro e W2 ⟨rfl, hT2, hK2⟩
  have HX := hide ((unhide HX).kept hK2 (one_ne (by omega)))
  have HT := hide hT2
  have HK := hide ((unhide HK).trans hK2 (fun i hi h => by unfold One at h; omega))
  clear hT2 hK2
  go_wp2_with fail
  rw [rounds_succ]
  go_wp2_with fail
  clear hgl hgl2 hlc
  obtain ⟨W, hWW⟩ : ∃ x, x = W2 := ⟨_, rfl⟩
  subst hWW
  have hlc : (rest3 t).length < 4294967281 := by have h := unhide LEN; have h4 : rest4.length = 11 := rfl; omega
  refine (cut_any GB (rest3 t) (leapLine t) (rest4) W hlc ((unhide HG).kept0 (unhide HK) hGB) (cut3 t hN)).mono ?_
  rintro e wc ⟨rfl, nd, rfl⟩
  have HX := hide ((unhide HX).drewN nd)
  have HT := hide ((unhide HT).drewN nd)
  have HK := hide ((unhide HK).drewN nd)
  generalize W.drewN nd = W1 at *
  have hgl := (unhide HX).lt
  have hgl2 := (unhide HT).lt
  go_wp2_with fail
  refine (one_leap t (w.heap.size + 1) GB _ _ _ _ _ _ _ _ _ W1 (unhide HT) hN ht hl ((unhide HG).kept0 (unhide HK) hGB) (by omega)).mono ?_
  rintro e W2 ⟨rfl, k, n, A, l, c, hT2, hR2, hK2⟩
  have HR := hide (hR2.mono (F' := fun i => w.heap.size + 1 < i) (fun i _ hi => by omega))
  clear hR2
  have HX := hide ((unhide HX).kept hK2 (one_ne (by omega)))
  have HT := hide hT2
  have HK := hide ((unhide HK).trans hK2 (fun i hi h => by unfold One at h; omega))
  clear hT2 hK2
  go_wp2_with fail
  rw [rounds_succ]
  go_wp2_with fail
  clear hgl hgl2 hlc
  obtain ⟨W, hWW⟩ : ∃ x, x = W2 := ⟨_, rfl⟩
  subst hWW
  have hlc : (rest4).length < 4294967281 := by have h := unhide LEN; have h4 : rest4.length = 11 := rfl; omega
  refine (cut_any GB (rest4) [109, 111, 110, 116, 104, 32, 109, 32, 51, 48] (rest5) W hlc ((unhide HG).kept0 (unhide HK) hGB) (cut4)).mono ?_
  rintro e wc ⟨rfl, nd, rfl⟩
  have HX := hide ((unhide HX).drewN nd)
  have HT := hide ((unhide HT).drewN nd)
  have HK := hide ((unhide HK).drewN nd)
  have HR := hide ((unhide HR).drewN nd)
  generalize W.drewN nd = W1 at *
  have hgl := (unhide HX).lt
  have hgl2 := (unhide HT).lt
  go_wp2_with fail
  refine (one_month (w.heap.size + 1) _ _ _ _ _ _ _ _ W1 (unhide HT)).mono ?_
  rintro e W2 ⟨rfl, mb, mo, mc, hT2, hmb, hm0, hm1, hm2, hK2⟩
  have HR := hide ((unhide HR).kept hK2 (fun i _ hi => one_ne (by omega)))
  have HM := hide (And.intro hm0 (And.intro hm1 hm2))
  clear hm0 hm1 hm2
  have HX := hide ((unhide HX).kept hK2 (one_ne (by omega)))
  have HT := hide hT2
  have HK := hide ((unhide HK).trans hK2 (fun i hi h => by unfold One at h; omega))
  clear hT2 hK2
  have t0 : W2.cell? ⟨w.heap.size + 1, 0, none⟩ = some (.string ⟨#[97]⟩) := by rw [(unhide HT).cell]; rfl
  have t1 : W2.cell? ⟨w.heap.size + 1, 1, none⟩ = some (.int .i64 1) := by rw [(unhide HT).cell]; rfl
  have t2 : W2.cell? ⟨w.heap.size + 1, 2, none⟩ = some (.int .i64 1) := by rw [(unhide HT).cell]; rfl
  have t3 : W2.cell? ⟨w.heap.size + 1, 3, none⟩ = some (.int .i64 k) := by rw [(unhide HT).cell]; rfl
  have t4 : W2.cell? ⟨w.heap.size + 1, 4, none⟩ = some (.int .i64 n) := by rw [(unhide HT).cell]; rfl
  have t5 : W2.cell? ⟨w.heap.size + 1, 5, none⟩ = some (.slice A l c) := by rw [(unhide HT).cell]; rfl
  have t6 : W2.cell? ⟨w.heap.size + 1, 6, none⟩ = some (.slice (some ⟨mb, mo, none⟩) 1 mc) := by rw [(unhide HT).cell]; rfl
  have ne5 : rest5.isEmpty = true := rfl
  go_wp2_with fail
  rw [rounds_succ]
  go_wp2_with fail
  obtain ⟨hm0, hm1, hm2⟩ := unhide HM
  refine (check_any t k n A l c mb mo mc W2 _ (unhide HR) ((unhide HG).kept0 (unhide HK) hGB).kids hm0 hm1 hm2).mono ?_
  rintro e W3 ⟨rfl, hK3⟩
  rw [unhide HW]
  have t0 : W3.cell? ⟨w.heap.size + 1, 0, none⟩ = some (.string ⟨#[97]⟩) := by rw [((unhide HT).kept hK3 id).cell]; rfl
  have t1 : W3.cell? ⟨w.heap.size + 1, 1, none⟩ = some (.int .i64 1) := by rw [((unhide HT).kept hK3 id).cell]; rfl
  have t2 : W3.cell? ⟨w.heap.size + 1, 2, none⟩ = some (.int .i64 1) := by rw [((unhide HT).kept hK3 id).cell]; rfl
  have t3 : W3.cell? ⟨w.heap.size + 1, 3, none⟩ = some (.int .i64 k) := by rw [((unhide HT).kept hK3 id).cell]; rfl
  have t4 : W3.cell? ⟨w.heap.size + 1, 4, none⟩ = some (.int .i64 n) := by rw [((unhide HT).kept hK3 id).cell]; rfl
  have t5 : W3.cell? ⟨w.heap.size + 1, 5, none⟩ = some (.slice A l c) := by rw [((unhide HT).kept hK3 id).cell]; rfl
  have t6 : W3.cell? ⟨w.heap.size + 1, 6, none⟩ = some (.slice (some ⟨mb, mo, none⟩) 1 mc) := by rw [((unhide HT).kept hK3 id).cell]; rfl
  have x0 : W3.cell? ⟨w.heap.size, 0, none⟩ = some (.string ⟨#[]⟩) := by rw [((unhide HX).kept hK3 id).cell]; rfl
  have f0 : W3.frozen? ⟨w.heap.size, 0, none⟩ = false := ((unhide HX).kept hK3 id).frozen 0
  have x1 : W3.cell? ⟨w.heap.size, 1, none⟩ = some (.int .i64 0) := by rw [((unhide HX).kept hK3 id).cell]; rfl
  have f1 : W3.frozen? ⟨w.heap.size, 1, none⟩ = false := ((unhide HX).kept hK3 id).frozen 1
  have x2 : W3.cell? ⟨w.heap.size, 2, none⟩ = some (.int .i64 0) := by rw [((unhide HX).kept hK3 id).cell]; rfl
  have f2 : W3.frozen? ⟨w.heap.size, 2, none⟩ = false := ((unhide HX).kept hK3 id).frozen 2
  have x3 : W3.cell? ⟨w.heap.size, 3, none⟩ = some (.int .i64 0) := by rw [((unhide HX).kept hK3 id).cell]; rfl
  have f3 : W3.frozen? ⟨w.heap.size, 3, none⟩ = false := ((unhide HX).kept hK3 id).frozen 3
  have x4 : W3.cell? ⟨w.heap.size, 4, none⟩ = some (.int .i64 0) := by rw [((unhide HX).kept hK3 id).cell]; rfl
  have f4 : W3.frozen? ⟨w.heap.size, 4, none⟩ = false := ((unhide HX).kept hK3 id).frozen 4
  have x5 : W3.cell? ⟨w.heap.size, 5, none⟩ = some (.slice none 0 0) := by rw [((unhide HX).kept hK3 id).cell]; rfl
  have f5 : W3.frozen? ⟨w.heap.size, 5, none⟩ = false := ((unhide HX).kept hK3 id).frozen 5
  have x6 : W3.cell? ⟨w.heap.size, 6, none⟩ = some (.slice none 0 0) := by rw [((unhide HX).kept hK3 id).cell]; rfl
  have f6 : W3.frozen? ⟨w.heap.size, 6, none⟩ = false := ((unhide HX).kept hK3 id).frozen 6
  have HR3 := hide ((unhide HR).kept hK3 (fun _ _ _ => id))
  have HK3 := hide ((unhide HK).trans hK3 (fun _ _ h => h))
  clear hK3 hm0 hm1 hm2
  go_wp2_with fail
  refine bodyPost_ret (v := .tuple #[.agg #[.string ⟨#[97]⟩, .int .i64 1, .int .i64 1, .int .i64 k, .int .i64 n, .slice A l c, .slice (some ⟨mb, mo, none⟩) 1 mc], .int .i64 0, .int .i64 0]) (by simp [results, Tryd.results42, go_sem, x0, x1, x2, x3, x4, x5, x6]) rfl ?_
  have hKs : Kept (One w.heap.size) W3 (((((((W3.setCell ⟨w.heap.size, 0, none⟩ (.string ⟨#[97]⟩)).setCell ⟨w.heap.size, 1, none⟩ (.int .i64 1)).setCell ⟨w.heap.size, 2, none⟩ (.int .i64 1)).setCell ⟨w.heap.size, 3, none⟩ (.int .i64 k)).setCell ⟨w.heap.size, 4, none⟩ (.int .i64 n)).setCell ⟨w.heap.size, 5, none⟩ (.slice A l c)).setCell ⟨w.heap.size, 6, none⟩ (.slice (some ⟨mb, mo, none⟩) 1 mc)) :=
    ((((((((Kept.refl _ W3).one _ _).one _ _).one _ _).one _ _).one _ _).one _ _).one _ _)
  exact ⟨k, n, A, l, c, mb, mo, mc, rfl, ((unhide HR3).kept hKs (fun i _ hi => one_ne (by omega))).mono (fun i _ hi => by omega), (unhide HK3).trans hKs (fun i hi h => by unfold One at h; omega)⟩
end Go.Proofs.YtmjmcjcckncplaaDoor
