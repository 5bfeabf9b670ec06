/- From the frame of a row to the words of the contracts and back: an argument of type RuleExpr, the listed variables, the arguments behind the call. -/
import Derived.Test.YtmjmcjcckncplaaDoorYear
import Derived.Test.YtmjmcjcckncplaaDoorRows
import Derived.ProofKit
import Derived.Deep.Slices
import Derived.Deep.Strs
import Derived.Lib.SmallJoins
import Derived.Lib.LaidTab
import Derived.Shelf.Vars
import Derived.SevenTiedAt
import Derived.Carry
import Derived.LaidMore
import Derived.HandedShaped
namespace Go.Proofs.YtmjmcjcckncplaaDoor
open Go.ChangeShapes Go.WideShapes Go.ChangeAt Go.RowKit Go.Deep Go.Joins

theorem Tryd.cells24 : Tryd.prog.cellsOf 24 = 3 := by kernel_rfl
theorem Tryd.cells22 : Tryd.prog.cellsOf 22 = 1 := by kernel_rfl
theorem Tryd.cells3 : Tryd.prog.cellsOf 3 = 1 := by kernel_rfl

section
variable {H : Type} {enc : TypeId × Value → H} {w : World} {sp : Nat → Bool} {held : Bool}

theorem list3 {cs : List Value} (h : cs.length = 3) : ∃ a b c, cs = [a, b, c] := by
  match cs, h with
  | [a, b, c], _ => exact ⟨a, b, c, rfl⟩

theorem rd_of_trod (s : Nat) : ∀ (d : DataW H), SizeOf.sizeOf d ≤ s → ∀ (fuel : Nat) (cs : List Value) (ps : List MemPlace), cs.length = 3 → DataW.trod enc Tryd.prog w 0 sp held fuel 24 cs = some (d, ps) →
    ∃ k n A l c r, cs = [.int .i64 k, .int .i64 n, .slice A l c] ∧ Rd w (fun _ => True) k n A l r := by
  induction s with
  | zero => intro d hd; have : 0 < SizeOf.sizeOf d := by cases d <;> simp <;> omega
            omega
  | succ s ih =>
    intro d hd fuel cs ps hl h
    obtain ⟨v0, v1, v2, rfl⟩ := list3 hl
    obtain ⟨y0, y1, y2, m, hx, _, h0, h1, h2⟩ := trod_struct3 Tryd.underlying24 h
    simp only [Tryd.cells3, Tryd.cells22, List.drop_zero, List.take_succ_cons, List.take_zero, List.drop_succ_cons] at h0 h1 h2
    obtain ⟨k, hk, _, _⟩ := DataW.trod_int Tryd.underlying3 h0
    obtain ⟨n, hn, _, _⟩ := DataW.trod_int Tryd.underlying3 h1
    injection hk with hk _
    injection hn with hn _
    subst hk hn
    rcases open_slice Tryd.underlying22 h2 with ⟨hc, _⟩ | ⟨a, len, cap, mm, n', D, Pl, hc, hb, hl2, hm, hmm, hy, hel⟩
    · injection hc with hc _
      subst hc
      exact ⟨k, n, none, 0, 0, .n0 k n, rfl, rfl, rfl, rfl⟩
    · injection hc with hc _
      subst hc
      have hlm : len ≤ mm := by rw [hmm]; split <;> omega
      have hd2 : d = .agg [y0.1, y1.1, y2.1] := congrArg Prod.fst hx
      have hsz : ∀ i, i < len → SizeOf.sizeOf (D i) ≤ s := by
        intro i hi
        have h3 : y2.1 = .slice ((List.range len).map D) ((List.range (mm - len)).map fun j => D (len + j)) := congrArg Prod.fst hy
        have h4 : SizeOf.sizeOf (D i) < SizeOf.sizeOf ((List.range len).map D) := List.sizeOf_lt_of_mem (List.mem_map.2 ⟨i, List.mem_range.2 hi, rfl⟩)
        have h5 : SizeOf.sizeOf y2.1 = 1 + SizeOf.sizeOf ((List.range len).map D) + SizeOf.sizeOf ((List.range (mm - len)).map fun j => D (len + j)) := by rw [h3, DataW.slice.sizeOf_spec]
        have h6 : SizeOf.sizeOf d = 1 + SizeOf.sizeOf [y0.1, y1.1, y2.1] := by rw [hd2, DataW.agg.sizeOf_spec]
        simp only [List.cons.sizeOf_spec, List.nil.sizeOf_spec] at h6
        omega
      have hkid : ∀ i, i < len → ∃ k n A l c r, w.cell? (a.add (3 * i)) = some (.int .i64 k) ∧ w.cell? (a.add (3 * i + 1)) = some (.int .i64 n) ∧ w.cell? (a.add (3 * i + 2)) = some (.slice A l c) ∧ Rd w (fun _ => True) k n A l r := by
        intro i hi
        obtain ⟨cs', hcs, ht⟩ := hel i (by omega)
        rw [Tryd.cells24] at hcs
        obtain ⟨_, hlen, hcell⟩ := World.cells?_some hcs
        obtain ⟨k1, n1, A1, l1, c1, r1, rfl, hr1⟩ := ih (D i) (hsz i hi) n' cs' (Pl i) hlen ht
        have e : ∀ j, j < 3 → w.cell? (a.add (3 * i + j)) = [Value.int .i64 k1, .int .i64 n1, .slice A1 l1 c1][j]? := by
          intro j hj
          have := hcell j hj
          rwa [add_add, Nat.mul_comm] at this
        exact ⟨k1, n1, A1, l1, c1, r1, e 0 (by omega), e 1 (by omega), e 2 (by omega), hr1⟩
      obtain ⟨b, o, spot⟩ := a
      have hmax : cap ≤ 9223372036854775807 := by unfold maxLen at hm; omega
      match len, hkid with
      | 0, _ => exact ⟨k, n, _, 0, cap, .n0 k n, rfl, rfl, rfl, rfl⟩
      | 1, hkid =>
        obtain ⟨k1, n1, A1, l1, c1, r1, e0, e1, e2, hr1⟩ := hkid 0 (by omega)
        have hspot : spot = none := by simpa [Addr.add] using World.cell?_spot e0
        subst hspot
        exact ⟨k, n, _, 1, cap, .n1 k n r1, rfl, rfl, rfl, rfl, b, o, k1, n1, A1, l1, c1, rfl, trivial, e0, e1, e2, hr1⟩
      | 2, hkid =>
        obtain ⟨k1, n1, A1, l1, c1, r1, e0, e1, e2, hr1⟩ := hkid 0 (by omega)
        obtain ⟨k2, n2, A2, l2, c2, r2, e3, e4, e5, hr2⟩ := hkid 1 (by omega)
        have hspot : spot = none := by simpa [Addr.add] using World.cell?_spot e0
        subst hspot
        exact ⟨k, n, _, 2, cap, .n2 k n r1 r2, rfl, rfl, rfl, rfl, b, o, k1, n1, A1, l1, c1, k2, n2, A2, l2, c2, rfl, trivial, e0, e1, e2, hr1, e3, e4, e5, hr2⟩
      | len + 3, _ => exact ⟨k, n, _, len + 3, cap, .big k n (len + 3), rfl, rfl, rfl, rfl, by omega, by omega⟩

set_option maxRecDepth 10000 in
/-- An argument of type RuleExpr. -/
theorem open_rule {r : Reach} {b0 : Nat} {v : Value} {d : DataW H} {p : List MemPlace} (hv : Value.okWide Tryd.prog w r b0 24 v) (h : DataW.Trod enc Tryd.prog w 0 sp held 24 v d p) :
    ∃ k n A l c t, v = .agg #[.int .i64 k, .int .i64 n, .slice A l c] ∧ Rd w (fun _ => True) k n A l t := by
  obtain ⟨cs, rfl, hsz⟩ := okWide_struct Tryd.underlying24 hv
  obtain ⟨c0, c1, c2, rfl⟩ := array3 (hsz.trans Tryd.cells24)
  obtain ⟨fuel, hf⟩ := h
  obtain ⟨k, n, A, l, c, r, he, hr⟩ := rd_of_trod (SizeOf.sizeOf d) d (Nat.le_refl _) fuel [c0, c1, c2] p rfl (by simpa [Value.cells] using hf)
  injection he with e0 he
  injection he with e1 he
  injection he with e2 _
  subst e0 e1 e2
  exact ⟨k, n, A, l, c, r, rfl, hr⟩
end

end Go.Proofs.YtmjmcjcckncplaaDoor

namespace Go.Proofs.YtmjmcjcckncplaaDoor
open Go.ChangeShapes Go.WideShapes Go.ChangeAt Go.RowKit Go.Deep Go.Joins

/-- The seat's list. -/
def laids : List (String × DataW Unit) := [("math/bits.deBruijn32tab", Rows.laid_math_bits_deBruijn32tab), ("math/bits.deBruijn64tab", Rows.laid_math_bits_deBruijn64tab), ("internal/strconv.uint64pow10", Rows.laid_internal_strconv_uint64pow10), ("strconv.ErrRange", Rows.laid_strconv_ErrRange), ("strconv.ErrSyntax", Rows.laid_strconv_ErrSyntax), ("ephemeris/rule.kids", Rows.laid_ephemeris_rule_kids), ("ephemeris/rule.levels", Rows.laid_ephemeris_rule_levels), ("ephemeris/rule.signs", Rows.laid_ephemeris_rule_signs), ("ephemeris/rule.symbols", Rows.laid_ephemeris_rule_symbols), ("ephemeris/rule.found", Rows.laid_ephemeris_rule_found)]

theorem reads_of {P : Program} {w : World} : ∀ {l : List (String × DataW Unit)} {ps : List MemPlace}, DataW.LaidVars P w l ps → ∀ {n : String} {d : DataW Unit}, (n, d) ∈ l →
    ∃ g t cs fuel p, P.globalNamed n = some g ∧ (P.globals[g]?).map (·.type) = some t ∧ w.var? P n = some cs ∧ DataW.trod (fun _ => ()) P w 0 (fun _ => true) false fuel t cs.toList = some (d, p)
  | [], _, _, _, _, hm => by cases hm
  | (n, d) :: r, ps, h, n', d', hm => by
    obtain ⟨g, t, cs, fuel, p, q, h1, h2, h3, h4, h5, _⟩ := h
    rcases List.mem_cons.1 hm with hm | hm
    · injection hm with e1 e2
      subst e1 e2
      exact ⟨g, t, cs, fuel, p, h1, h2, h3, h4⟩
    · exact reads_of h5 hm

/-- An array of one-cell elements, opened at an index. -/
theorem array_at {P : Program} {w : World} {base : Nat} {sp : Nat → Bool} {held : Bool} {fuel : Nat} {t e : TypeId} {n : Nat} {cs : List Value} {ds : List (DataW Unit)} {p : List MemPlace} {enc : TypeId × Value → Unit}
    (ht : P.underlying t = some (.array n e)) (hce : P.cellsOf e = 1) (hct : P.cellsOf t = n) (h : DataW.trod enc P w base sp held fuel t cs = some (.agg ds, p)) (i : Nat) (d : DataW Unit) (hd : ds[i]? = some d) :
    ∃ v f q, cs[i]? = some v ∧ DataW.trod enc P w base sp held f e [v] = some (d, q) := by
  cases fuel with
  | zero => simp [DataW.trod] at h
  | succ fuel =>
    simp only [DataW.trod, ht, hce, hct, Nat.mul_one] at h
    split at h
    · rename_i hl
      obtain ⟨xs, hm, hx⟩ := Option.map_eq_some_iff.1 h
      have hxs : xs.map (·.1) = ds := by
        have := congrArg Prod.fst hx
        simpa using this
      have hxl : xs.length = n := by simpa using Lib.mapM_length hm
      have hi : i < n := by
        have := (List.getElem?_eq_some_iff.1 hd).1
        rw [← hxs] at this
        simpa [hxl] using this
      obtain ⟨b, hb, hf⟩ := Lib.mapM_at hm i i (by simp [hi])
      have hbd : b.1 = d := by
        rw [← hxs] at hd
        simpa [hb] using hd
      have hci : i < cs.length := by omega
      refine ⟨cs[i], fuel, b.2, by simp [hci], ?_⟩
      rw [← hbd]
      rw [show (cs.drop i).take 1 = [cs[i]] from by rw [List.drop_eq_getElem_cons hci]; rfl] at hf
      exact hf
    · cases h

theorem Tryd.cells82 : Tryd.prog.cellsOf 82 = 14 := by kernel_rfl
theorem Tryd.cells92 : Tryd.prog.cellsOf 92 = 14 := by kernel_rfl
theorem Tryd.cells108 : Tryd.prog.cellsOf 108 = 8 := by kernel_rfl
theorem Tryd.cells109 : Tryd.prog.cellsOf 109 = 8 := by kernel_rfl
theorem Tryd.cells118 : Tryd.prog.cellsOf 118 = 20 := by kernel_rfl
theorem Tryd.cells9 : Tryd.prog.cellsOf 9 = 1 := by kernel_rfl
theorem Tryd.cells45 : Tryd.prog.cellsOf 45 = 1 := by kernel_rfl
theorem Tryd.cells107 : Tryd.prog.cellsOf 107 = 1 := by kernel_rfl
theorem named0 : Tryd.prog.globalNamed "ephemeris/rule.kids" = some 0 ∧ (Tryd.prog.globals[0]?).map (·.type) = some 82 := ⟨by kernel_rfl, by kernel_rfl⟩
theorem named1 : Tryd.prog.globalNamed "ephemeris/rule.levels" = some 1 ∧ (Tryd.prog.globals[1]?).map (·.type) = some 82 := ⟨by kernel_rfl, by kernel_rfl⟩
theorem named2 : Tryd.prog.globalNamed "ephemeris/rule.signs" = some 2 ∧ (Tryd.prog.globals[2]?).map (·.type) = some 92 := ⟨by kernel_rfl, by kernel_rfl⟩
theorem named3 : Tryd.prog.globalNamed "ephemeris/rule.symbols" = some 3 ∧ (Tryd.prog.globals[3]?).map (·.type) = some 108 := ⟨by kernel_rfl, by kernel_rfl⟩
theorem named4 : Tryd.prog.globalNamed "ephemeris/rule.found" = some 4 ∧ (Tryd.prog.globals[4]?).map (·.type) = some 109 := ⟨by kernel_rfl, by kernel_rfl⟩
theorem named6 : Tryd.prog.globalNamed "internal/strconv.uint64pow10" = some 6 ∧ (Tryd.prog.globals[6]?).map (·.type) = some 118 := ⟨by kernel_rfl, by kernel_rfl⟩
theorem named10 : Tryd.prog.globalNamed "strconv.ErrRange" = some 10 := by kernel_rfl

section
variable {w : World} {ps : List MemPlace}

/-- A listed variable's cells and their reading. -/
theorem var_at (hL : DataW.LaidVars Tryd.prog w laids ps) {n : String} {d : DataW Unit} {g : Nat} {t : TypeId} (hm : (n, d) ∈ laids) (hn : Tryd.prog.globalNamed n = some g ∧ (Tryd.prog.globals[g]?).map (·.type) = some t) :
    ∃ cs fuel p, w.var? Tryd.prog n = some cs ∧ (∀ i, w.cell? ⟨g, i, none⟩ = cs[i]?) ∧ DataW.trod (fun _ => ()) Tryd.prog w 0 (fun _ => true) false fuel t cs.toList = some (d, p) := by
  obtain ⟨g', t', cs, fuel, p, h1, h2, h3, h4⟩ := reads_of hL hm
  obtain rfl := Option.some.inj (hn.1.symm.trans h1)
  obtain rfl := Option.some.inj (hn.2.symm.trans h2)
  exact ⟨cs, fuel, p, h3, World.var?_cell h1 h3, h4⟩

theorem ints_at (hL : DataW.LaidVars Tryd.prog w laids ps) {n : String} {ds : List (DataW Unit)} {g : Nat} (hm : (n, DataW.agg ds) ∈ laids) (hn : Tryd.prog.globalNamed n = some g ∧ (Tryd.prog.globals[g]?).map (·.type) = some 82) (i : Nat) (z : Int) (hz : ds[i]? = some (.lit (.int .i64 z))) :
    w.cell? ⟨g, i, none⟩ = some (.int .i64 z) := by
  obtain ⟨cs, fuel, p, _, hc, ht⟩ := var_at hL hm hn
  obtain ⟨v, f, q, hv, hd⟩ := array_at Tryd.underlying82 Tryd.cells3 Tryd.cells82 ht i _ hz
  obtain ⟨z', e1, e2, _⟩ := DataW.trod_int Tryd.underlying3 hd
  injection e1 with e1 _
  injection e2 with e2 _
  injection e2 with e2
  injection e2 with _ e2
  subst e1 e2
  rw [hc, ← hv]; simp

theorem str_of {f : Nat} {v : Value} {s : List UInt8} {q : List MemPlace} (h : DataW.trod (fun _ => ()) Tryd.prog w 0 (fun _ => true) false f 9 [v] = some ((DataW.lit (.string s) : DataW Unit), q)) : v = .string ⟨s.toArray⟩ := by
  obtain ⟨s', e1, e2, _⟩ := DataW.trod_string Tryd.underlying9 h
  injection e1 with e1 _
  injection e2 with e2 _
  injection e2 with e2
  injection e2 with e2
  subst e1 e2
  rw [bytes_eta]

theorem strs_at (hL : DataW.LaidVars Tryd.prog w laids ps) {n : String} {ds : List (DataW Unit)} {g : Nat} (hm : (n, DataW.agg ds) ∈ laids) (hn : Tryd.prog.globalNamed n = some g ∧ (Tryd.prog.globals[g]?).map (·.type) = some 92) (i : Nat) (s : List UInt8) (hz : ds[i]? = some (.lit (.string s))) :
    w.cell? ⟨g, i, none⟩ = some (.string ⟨s.toArray⟩) := by
  obtain ⟨cs, fuel, p, _, hc, ht⟩ := var_at hL hm hn
  obtain ⟨v, f, q, hv, hd⟩ := array_at Tryd.underlying92 Tryd.cells9 Tryd.cells92 ht i _ hz
  have := str_of hd
  subst this
  rw [hc, ← hv]; simp

/-- A slice of one-cell elements that reads as a list. -/
theorem row_of {e te : TypeId} {f : Nat} {v : Value} {ds : List (DataW Unit)} {q : List MemPlace} (ht : Tryd.prog.underlying te = some (.slice e)) (hce : Tryd.prog.cellsOf e = 1)
    (h : DataW.trod (fun _ => ()) Tryd.prog w 0 (fun _ => true) false f te [v] = some ((DataW.slice ds [] : DataW Unit), q)) (hd0 : ds ≠ []) :
    ∃ b o c, b < w.heap.size ∧ v = .slice (some ⟨b, o, none⟩) ds.length c ∧ ∀ i d, ds[i]? = some d → ∃ u f q, w.cell? ⟨b, o + i, none⟩ = some u ∧ DataW.trod (fun _ => ()) Tryd.prog w 0 (fun _ => true) false f e [u] = some (d, q) := by
  rcases open_slice1 ht hce h with ⟨_, hx⟩ | ⟨a, len, cap, m, n, V, D, Pl, hv, hb, hl, hm, hmm, hx, hel⟩
  · injection hx with hx _; cases hx
  · injection hv with hv _
    injection hx with hx _
    injection hx with hx _
    have hlm : len ≤ m := by rw [hmm]; split <;> omega
    have hlen : ds.length = len := by rw [hx]; simp
    have hlp : 0 < len := by
      rw [← hlen]
      exact List.length_pos_iff.2 hd0
    obtain ⟨b, o, spot⟩ := a
    have h0 := (hel 0 (by omega)).1
    have hspot : spot = none := by simpa [Addr.add] using World.cell?_spot h0
    subst hspot
    refine ⟨b, o, cap, by simpa [Addr.add] using World.block_lt_of_cell? w _ h0, by rw [hv, hlen], fun i d hd => ?_⟩
    have hi : i < len := by rw [← hlen]; exact (List.getElem?_eq_some_iff.1 hd).1
    obtain ⟨h1, h2⟩ := hel i (by omega)
    have hDd : D i = d := by
      rw [hx] at hd
      simpa [hi] using hd
    rw [hDd] at h2
    have e : (⟨b, o, none⟩ : Addr).add i = ⟨b, o + i, none⟩ := by simp only [Addr.add]; split <;> simp_all
    exact ⟨V i, n, Pl i, e ▸ h1, h2⟩

theorem syms_data : Rows.laid_ephemeris_rule_symbols (H := Unit) = .agg [.nil, .slice ((symsOf 1).map fun s => .lit (.string s)) [], .slice ((symsOf 2).map fun s => .lit (.string s)) [], .nil, .slice ((symsOf 4).map fun s => .lit (.string s)) [], .slice ((symsOf 5).map fun s => .lit (.string s)) [], .slice ((symsOf 6).map fun s => .lit (.string s)) [], .nil] := rfl

theorem glob_of (h : laidMetH Tryd.prog laids w) (hsh : w.ShapedOpen Tryd.prog) : Glob w.heap.size w := by
  have h' : laidMet Tryd.prog laids w := h
  obtain ⟨ps, hL, _, _⟩ := h'
  have hsize : 11 ≤ w.heap.size := by
    obtain ⟨g, t, cs, fuel, p, h1, h2, h3, h4⟩ := reads_of hL (n := "strconv.ErrRange") (d := Rows.laid_strconv_ErrRange) (by simp [laids])
    obtain rfl := Option.some.inj (named10.symm.trans h1)
    unfold World.var? at h3
    rw [h1] at h3
    simp only [Option.bind_some] at h3
    split at h3
    · rename_i e
      have := (Array.getElem?_eq_some_iff.1 e).1
      omega
    · cases h3
  refine ⟨hsize, ?_, ?_, ?_, ?_, ?_, ?_, ?_⟩
  · intro i h1 h2
    refine ints_at hL (n := "ephemeris/rule.kids") (ds := _) (by simp only [laids, List.mem_cons]; exact .inr (.inr (.inr (.inr (.inr (.inl rfl)))))) named0 i _ ?_
    have : i = 1 ∨ i = 2 ∨ i = 3 ∨ i = 4 ∨ i = 5 ∨ i = 6 ∨ i = 7 ∨ i = 8 ∨ i = 9 ∨ i = 10 ∨ i = 11 ∨ i = 12 ∨ i = 13 := by omega
    rcases this with rfl | rfl | rfl | rfl | rfl | rfl | rfl | rfl | rfl | rfl | rfl | rfl | rfl <;> rfl
  · intro i h1 h2
    refine ints_at hL (n := "ephemeris/rule.levels") (ds := _) (by simp only [laids, List.mem_cons]; exact .inr (.inr (.inr (.inr (.inr (.inr (.inl rfl))))))) named1 i _ ?_
    have : i = 1 ∨ i = 2 ∨ i = 3 ∨ i = 4 ∨ i = 5 ∨ i = 6 ∨ i = 7 ∨ i = 8 ∨ i = 9 ∨ i = 10 ∨ i = 11 ∨ i = 12 ∨ i = 13 := by omega
    rcases this with rfl | rfl | rfl | rfl | rfl | rfl | rfl | rfl | rfl | rfl | rfl | rfl | rfl <;> rfl
  · intro o
    refine strs_at hL (n := "ephemeris/rule.signs") (ds := _) (by simp only [laids, List.mem_cons]; exact .inr (.inr (.inr (.inr (.inr (.inr (.inr (.inl rfl)))))))) named2 _ _ ?_
    cases o <;> rfl
  · intro n h1 h2 h3
    obtain ⟨cs, fuel, p, _, hc, ht⟩ := var_at hL (n := "ephemeris/rule.symbols") (d := Rows.laid_ephemeris_rule_symbols) (by simp [laids]) named3
    rw [syms_data] at ht
    obtain ⟨v, f, q, hv, hd⟩ := array_at Tryd.underlying108 Tryd.cells107 Tryd.cells108 ht n (.slice ((symsOf n).map fun s => .lit (.string s)) []) (by
      have : n = 1 ∨ n = 2 ∨ n = 4 ∨ n = 5 ∨ n = 6 := by omega
      rcases this with rfl | rfl | rfl | rfl | rfl <;> rfl)
    obtain ⟨b, o, c, hb, rfl, hel⟩ := row_of Tryd.underlying107 Tryd.cells9 hd (by
      have : n = 1 ∨ n = 2 ∨ n = 4 ∨ n = 5 ∨ n = 6 := by omega
      rcases this with rfl | rfl | rfl | rfl | rfl <;> simp [symsOf])
    rw [List.length_map] at hv
    refine ⟨b, o, c, hb, by rw [hc, ← hv]; simp, fun i s hs => ?_⟩
    obtain ⟨u, f', q', hu, hd'⟩ := hel i (.lit (.string s)) (by simp [hs])
    rw [hu, str_of hd']
  · intro n h1 h2 h3
    obtain ⟨cs, fuel, p, _, hc, ht⟩ := var_at hL (n := "ephemeris/rule.found") (d := Rows.laid_ephemeris_rule_found) (by simp [laids]) named4
    obtain ⟨v, f, q, hv, hd⟩ := array_at Tryd.underlying109 Tryd.cells45 Tryd.cells109 (ds := [.nil, .slice ((foundOf 1).map fun s => .lit (.int .i64 s)) [], .slice ((foundOf 2).map fun s => .lit (.int .i64 s)) [], .nil, .slice ((foundOf 4).map fun s => .lit (.int .i64 s)) [], .slice ((foundOf 5).map fun s => .lit (.int .i64 s)) [], .slice ((foundOf 6).map fun s => .lit (.int .i64 s)) [], .nil]) ht n (.slice ((foundOf n).map fun s => .lit (.int .i64 s)) []) (by
      have : n = 1 ∨ n = 2 ∨ n = 4 ∨ n = 5 ∨ n = 6 := by omega
      rcases this with rfl | rfl | rfl | rfl | rfl <;> rfl)
    obtain ⟨b, o, c, hb, rfl, hel⟩ := row_of Tryd.underlying45 Tryd.cells3 hd (by
      have : n = 1 ∨ n = 2 ∨ n = 4 ∨ n = 5 ∨ n = 6 := by omega
      rcases this with rfl | rfl | rfl | rfl | rfl <;> simp [foundOf])
    have hlen : (foundOf n).length = (symsOf n).length := by
      have : n = 1 ∨ n = 2 ∨ n = 4 ∨ n = 5 ∨ n = 6 := by omega
      rcases this with rfl | rfl | rfl | rfl | rfl <;> rfl
    rw [List.length_map, hlen] at hv
    refine ⟨b, o, c, hb, by rw [hc, ← hv]; simp, fun i s hs => ?_⟩
    obtain ⟨u, f', q', hu, hd'⟩ := hel i (.lit (.int .i64 s)) (by simp [hs])
    obtain ⟨z', e1, e2, _⟩ := DataW.trod_int Tryd.underlying3 hd'
    injection e1 with e1 _
    injection e2 with e2 _
    injection e2 with e2
    injection e2 with _ e2
    subst e1 e2
    exact hu
  · exact cell_of_shapedOpen_int (t := 3) (zero := #[.int .i64 0]) hsh (of_decide_eq_true (by kernel_rfl)) (by kernel_rfl) rfl (by kernel_rfl) (by kernel_rfl) Tryd.underlying3
  · obtain ⟨cs, fuel, p, hv, _, ht⟩ := var_at hL (n := "internal/strconv.uint64pow10") (d := Rows.laid_internal_strconv_uint64pow10) (by simp [laids]) named6
    unfold Lib.TabIs
    rw [hv, ← Lib.cells_of_tab (zs := Lib.pow10Tab) Tryd.underlying118 Tryd.underlying111 (by kernel_rfl) Tryd.cells118 ht]
end

end Go.Proofs.YtmjmcjcckncplaaDoor

namespace Go.Proofs.YtmjmcjcckncplaaDoor
open Go.ChangeShapes Go.WideShapes Go.ChangeAt Go.RowKit Go.Deep Go.Joins

theorem Tryd.own : ownKnob Tryd.prog.godebug = none := by kernel_rfl
theorem Tryd.laidOut : laidOutB Tryd.prog = true := by kernel_rfl
theorem readable24 : Tryd.prog.readableRec 24 = true ∧ 24 < Tryd.prog.types.size := ⟨by kernel_rfl, of_decide_eq_true (by kernel_rfl)⟩
theorem readable3 : Tryd.prog.readableRec 3 = true ∧ 3 < Tryd.prog.types.size := ⟨by kernel_rfl, of_decide_eq_true (by kernel_rfl)⟩
theorem readable4 : Tryd.prog.readableRec 4 = true ∧ 4 < Tryd.prog.types.size := ⟨by kernel_rfl, of_decide_eq_true (by kernel_rfl)⟩

/-- The arguments read behind the call as before. -/
theorem args_stay {H : Type} {enc : TypeId × Value → H} {W W' : World} (hb : Below W.heap.size W W') : ∀ {ts : List TypeId} {vs : List Value} {ds : List (DataW H)} {ps : List MemPlace},
    (∀ t, t ∈ ts → Tryd.prog.readableRec t = true ∧ t < Tryd.prog.types.size) → DataW.TrodAll enc Tryd.prog W 0 (fun _ => true) true ts vs ds ps → (∀ x ∈ ps, x.block < W.heap.size) →
    DataW.TrodAll enc Tryd.prog W' 0 (fun b => decide (b < W.heap.size)) true ts vs ds ps
  | [], [], [], ps, _, h, _ => h
  | t :: ts, v :: vs, d :: ds, ps, hr, h, hlt => by
    obtain ⟨p, q, h1, h2, rfl⟩ := h
    have hrt := hr t (List.mem_cons_self ..)
    exact ⟨p, q, Below.trod Tryd.laidOut hrt.1 hrt.2 h1 hb (fun x hx => hlt x (List.mem_append_left _ hx)), args_stay hb (fun u hu => hr u (List.mem_cons_of_mem _ hu)) h2 (fun x hx => hlt x (List.mem_append_right _ hx)), rfl⟩
  | [], _ :: _, _, _, _, h, _ => h.elim
  | [], [], _ :: _, _, _, h, _ => h.elim
  | _ :: _, [], _, _, _, h, _ => h.elim
  | _ :: _, _ :: _, [], _, _, h, _ => h.elim

/-- What a row of this seat says behind the call. -/
theorem post_true {H : Type} {enc : TypeId × Value → H} {f : Func} {s : ChangeSpec} {W W' : World} {args : Array Value} {ds : List (DataW H)} {before : List MemPlace} (hv : s.vars = []) (hrt : f.resultTypes = #[4])
    (hts : ∀ t, t ∈ f.params.toList → Tryd.prog.readableRec t = true ∧ t < Tryd.prog.types.size)
    (hW : DataW.Whole enc Tryd.prog f.params.toList s.vars false W args.toList ds [] before) (hfn : s.fn H ds = { results := [.lit (.bool true)], args := ds }) (hb : Below W.heap.size W W') :
    s.post enc Tryd.prog f false true false false W args (.bool true) W' := by
  have hlt : ∀ p ∈ before, p.block < W.heap.size := fun p hp => hW.lt p hp
  have hW' := hW
  obtain ⟨p, q, hA, hV, rfl, _, _⟩ := hW
  rw [hv] at hV
  have hq : q = [] := hV
  subst hq
  refine ⟨ds, [], _, [], p, [], hW', ?_, ?_, ?_, World.keptBut_mono (fun x hx => ⟨hx, .inr (.inl (by simpa using hx))⟩) (hb.frame (· ∈ p ++ [])), fun h => by cases h⟩
  · rw [List.append_nil, hfn, hrt]
    exact trodAll_mk1 (shut_bool Tryd.underlying4 true)
  · rw [List.append_nil, hfn]
    exact args_stay hb hts hA (fun x hx => hlt x (List.mem_append_left _ hx))
  · rw [hv, List.append_nil, hfn]
    exact rfl

/-- The door's own heap meets the condition. -/
theorem door_met (os : Os) (args : Array Value) : laidMetH Tryd.prog laids ((World.doorLaid Tryd.prog 400 os).forCall (fun _ _ => 0) ⟨#[], args, []⟩).memory :=
  laidMetH_of_parts3 (fuel := 8) (laidMet_of_run' 8 (by kernel_rfl) (by kernel_rfl)) (by kernel_rfl) (by kernel_rfl)

set_option maxRecDepth 100000 in
/-- A row that lists variables, its contract handed the world's shape too. -/
theorem handed_shaped {H : Type} {enc : TypeId × Value → H} {os : Os} {f : FuncId} {fn : Func} {s : ChangeSpec} (started : os.Started) (noInit : Tryd.prog.inits.idxOf? f = none) (hfn : Tryd.prog.funcs[f]? = some fn)
    (witness : ∃ (w : World) (tape : Tape) (i : Input), w.os = os ∧ (w.forCall tape i).Shaped Tryd.prog ∧ i.vars = [] ∧ Input.okWide Tryd.prog (w.forCall tape i) .any w.heap.size f i ∧
      ((s.pre enc Tryd.prog fn [] false (w.forCall tape i).memory i.args ∧ laidMetH Tryd.prog laids (w.forCall tape i).memory) ∧ sizedMet enc Tryd.prog fn (OpenSpec.ofChange s) false (w.forCall tape i).memory i.args) ∧ ({} : Assume).holds Tryd.prog (lone (Frame.enter Tryd.prog f i.args .normal) [] (w.forCall tape i)))
    (hv : s.vars = []) (hrt : fn.resultTypes = #[4]) (hts : ∀ t, t ∈ fn.params.toList → Tryd.prog.readableRec t = true ∧ t < Tryd.prog.types.size)
    (contract : ∀ (W : World) (base : Nat) (args : Array Value) (ds : List (DataW H)) (ps : List MemPlace), (∀ (j : Nat) t v, fn.params[j]? = some t → args[j]? = some v → Value.okWide Tryd.prog W .any base t v) →
      DataW.TrodAll enc Tryd.prog W 0 (fun _ => true) true fn.params.toList args.toList ds ps → Glob W.heap.size W → Calls Tryd.prog f args W (YearPost W) ∧ s.fn H ds = { results := [.lit (.bool true)], args := ds }) :
    ReturnsInHanded {} Tryd.checked os f .any (fun w args => (s.pre enc Tryd.prog fn [] false w args ∧ laidMetH Tryd.prog laids w) ∧ sizedMet enc Tryd.prog fn (OpenSpec.ofChange s) false w args) (s.post enc Tryd.prog fn false true false false) := by
  refine returnsInHanded_of_calls (C := Tryd.checked) Tryd.own started noInit witness ?_
  intro w tape i _ hsh _ hok hpre _
  obtain ⟨_, _, _, fn', hfn', _, _, _, _, hval⟩ := hok
  have e : fn' = fn := Option.some.inj (hfn'.symm.trans hfn)
  subst e
  obtain ⟨⟨⟨ds, gs, before, hw, _⟩, hx⟩, _⟩ := hpre
  have hw' := DataW.Whole.of_heap (w' := w.forCall tape i) (by rfl) hw
  have hx' : laidMetH Tryd.prog laids (w.forCall tape i) := hx.of_heap (by rfl)
  have hG := glob_of hx' hsh
  have hw2 := hw'
  obtain ⟨p, q, hA, hV, _, _, _⟩ := hw2
  rw [hv] at hV
  have hgs : gs = [] := by
    cases gs with
    | nil => rfl
    | cons g r => exact absurd hV (by intro h; cases h)
  subst hgs
  obtain ⟨hc, hs⟩ := contract (w.forCall tape i) w.heap.size i.args ds p hval hA hG
  refine hc.mono fun e W' ⟨he, hK⟩ => ?_
  subst he
  exact ChangeSpec.post_blind (post_true hv hrt hts hw' hs hK.toBelow)

end Go.Proofs.YtmjmcjcckncplaaDoor
