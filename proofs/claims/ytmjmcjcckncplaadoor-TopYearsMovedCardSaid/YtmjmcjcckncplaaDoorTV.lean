/- Expressions that the laws have made themselves: trees with the numbers of the blocks in which their operands lie. -/
import Derived.Test.YtmjmcjcckncplaaDoorMemB
namespace Go.Proofs.YtmjmcjcckncplaaDoor
open Go.RowKit

/-- The cells vs stand at the head of block b, a row of expressions of the laws' own. -/
def Row (w : World) (b : Nat) (vs : List Value) : Prop := ∃ cs : Array Value, w.heap[b]? = some (.cells cs 24 (0, 0)) ∧ cs.toList.take vs.length = vs

section
variable {w w' : World} {b : Nat} {vs : List Value}
theorem Row.lt (h : Row w b vs) : b < w.heap.size := by
  obtain ⟨cs, h, _⟩ := h
  exact (Array.getElem?_eq_some_iff.1 h).1
theorem Row.cell (h : Row w b vs) (i : Nat) {u : Value} (hu : vs[i]? = some u) : w.cell? ⟨b, i, none⟩ = some u := by
  obtain ⟨cs, h, ht⟩ := h
  rw [cell_of_row w b i cs 24 (0, 0) h]
  have hi : i < vs.length := (List.getElem?_eq_some_iff.1 hu).1
  rw [← ht, List.getElem?_take_of_lt hi] at hu
  simpa using hu
theorem Row.frozen (h : Row w b vs) (i : Nat) : w.frozen? ⟨b, i, none⟩ = false := by
  obtain ⟨cs, h, _⟩ := h
  simp [World.frozen?, h]
theorem Row.kept {S : Nat → Prop} (h : Row w b vs) (hk : Kept S w w') (hn : ¬ S b) : Row w' b vs := by
  have hlt := h.lt
  obtain ⟨cs, h, ht⟩ := h
  exact ⟨cs, (hk.block b hlt hn).trans h, ht⟩
theorem Row.set_ (h : Row w b vs) (i : Nat) (u : Value) : Row (w.setCell ⟨b, i, none⟩ u) b (vs.set i u) := by
  obtain ⟨cs, h, ht⟩ := h
  refine ⟨cs.setIfInBounds i u, by simp [World.setCell, Array.getElem?_modify, h], ?_⟩
  rw [List.length_set, Array.toList_setIfInBounds, List.take_set, ht]
theorem Row.far (h : Row w b vs) {p : Addr} (hp : b ≠ p.block) (u : Value) : Row (w.setCell p u) b vs := by
  obtain ⟨cs, h, ht⟩ := h
  exact ⟨cs, (Below.heap_setCell w p u b hp).trans h, ht⟩
theorem Row.of_own {base g n cap : Nat} {xs : List Value} (h : w.ownsRow base 24 3 (.slice (some ⟨g, 0, none⟩) n cap) n xs) : Row w g xs ∧ base ≤ g := by
  rcases h.2 with ⟨h1, _⟩ | ⟨g', cap', cur, hv, hb, hh, h1, h2, h3, h4⟩
  · cases h1
  · injection hv with hv _ _
    injection hv with hv
    injection hv with hv
    subst hv
    refine ⟨⟨cur, hh, ?_⟩, hb⟩
    rw [h.1, h4]
end

/-- The three cells of an expression. -/
def cell3 (k n : Int) (A : Option Addr) (l c : Nat) : List Value := [.int .i64 k, .int .i64 n, .slice A l c]

/-- A tree with the numbers of its operands' blocks. -/
inductive An where
  | num (n : Int)
  | year
  | neg (b : Nat) (a : An)
  | not (b : Nat) (a : An)
  | bin (o : O2) (b : Nat) (x y : An)

def An.e : An → E
  | .num n => .num n
  | .year => .year
  | .neg _ a => .neg a.e
  | .not _ a => .not a.e
  | .bin o _ x y => .bin o x.e y.e

def An.blocks : An → List Nat
  | .num _ => []
  | .year => []
  | .neg b a => b :: a.blocks
  | .not b a => b :: a.blocks
  | .bin _ b x y => b :: (x.blocks ++ y.blocks)

/-- The value (k, n, slice A l c) is the root of the tree. -/
def TV (w : World) : Int → Int → Option Addr → Nat → An → Prop
  | k, n, A, l, .num m => k = 1 ∧ n = m ∧ A = none ∧ l = 0
  | k, n, A, l, .year => k = 2 ∧ n = 0 ∧ A = none ∧ l = 0
  | k, n, A, l, .neg b a => k = 3 ∧ n = 0 ∧ A = some ⟨b, 0, none⟩ ∧ l = 1 ∧ ∃ k1 n1 A1 l1 c1, Row w b (cell3 k1 n1 A1 l1 c1) ∧ TV w k1 n1 A1 l1 a
  | k, n, A, l, .not b a => k = 11 ∧ n = 0 ∧ A = some ⟨b, 0, none⟩ ∧ l = 1 ∧ ∃ k1 n1 A1 l1 c1, Row w b (cell3 k1 n1 A1 l1 c1) ∧ TV w k1 n1 A1 l1 a
  | k, n, A, l, .bin o b x y => k = o.code ∧ n = 0 ∧ A = some ⟨b, 0, none⟩ ∧ l = 2 ∧ ∃ k1 n1 A1 l1 c1 k2 n2 A2 l2 c2,
      Row w b (cell3 k1 n1 A1 l1 c1 ++ cell3 k2 n2 A2 l2 c2) ∧ TV w k1 n1 A1 l1 x ∧ TV w k2 n2 A2 l2 y

section
variable {w w' : World} {S F : Nat → Prop}
theorem TV.kept {t : An} : ∀ {k n : Int} {A : Option Addr} {l : Nat}, TV w k n A l t → Kept S w w' → (∀ b, b ∈ t.blocks → ¬ S b) → TV w' k n A l t := by
  induction t with
  | num m => intro k n A l h _ _; exact h
  | year => intro k n A l h _ _; exact h
  | neg b a ih =>
    rintro k n A l ⟨h1, h2, h3, h4, k1, n1, A1, l1, c1, hr, ht⟩ hk hs
    exact ⟨h1, h2, h3, h4, k1, n1, A1, l1, c1, hr.kept hk (hs b (by simp [An.blocks])), ih ht hk (fun i hi => hs i (by simp [An.blocks, hi]))⟩
  | not b a ih =>
    rintro k n A l ⟨h1, h2, h3, h4, k1, n1, A1, l1, c1, hr, ht⟩ hk hs
    exact ⟨h1, h2, h3, h4, k1, n1, A1, l1, c1, hr.kept hk (hs b (by simp [An.blocks])), ih ht hk (fun i hi => hs i (by simp [An.blocks, hi]))⟩
  | bin o b x y ihx ihy =>
    rintro k n A l ⟨h1, h2, h3, h4, k1, n1, A1, l1, c1, k2, n2, A2, l2, c2, hr, hx, hy⟩ hk hs
    exact ⟨h1, h2, h3, h4, k1, n1, A1, l1, c1, k2, n2, A2, l2, c2, hr.kept hk (hs b (by simp [An.blocks])), ihx hx hk (fun i hi => hs i (by simp [An.blocks, hi])), ihy hy hk (fun i hi => hs i (by simp [An.blocks, hi]))⟩

theorem TV.rd {t : An} : ∀ {k n : Int} {A : Option Addr} {l : Nat}, TV w k n A l t → (∀ b, b ∈ t.blocks → F b) → Rd w F k n A l t.e.r := by
  induction t with
  | num m => rintro k n A l ⟨rfl, rfl, rfl, rfl⟩ _; exact ⟨rfl, rfl, rfl⟩
  | year => rintro k n A l ⟨rfl, rfl, rfl, rfl⟩ _; exact ⟨rfl, rfl, rfl⟩
  | neg b a ih =>
    rintro k n A l ⟨rfl, rfl, rfl, rfl, k1, n1, A1, l1, c1, hr, ht⟩ hs
    exact ⟨rfl, rfl, rfl, b, 0, k1, n1, A1, l1, c1, rfl, hs b (by simp [An.blocks]), hr.cell 0 rfl, hr.cell 1 rfl, hr.cell 2 rfl, ih ht (fun i hi => hs i (by simp [An.blocks, hi]))⟩
  | not b a ih =>
    rintro k n A l ⟨rfl, rfl, rfl, rfl, k1, n1, A1, l1, c1, hr, ht⟩ hs
    exact ⟨rfl, rfl, rfl, b, 0, k1, n1, A1, l1, c1, rfl, hs b (by simp [An.blocks]), hr.cell 0 rfl, hr.cell 1 rfl, hr.cell 2 rfl, ih ht (fun i hi => hs i (by simp [An.blocks, hi]))⟩
  | bin o b x y ihx ihy =>
    rintro k n A l ⟨rfl, rfl, rfl, rfl, k1, n1, A1, l1, c1, k2, n2, A2, l2, c2, hr, hx, hy⟩ hs
    exact ⟨rfl, rfl, rfl, b, 0, k1, n1, A1, l1, c1, k2, n2, A2, l2, c2, rfl, hs b (by simp [An.blocks]), hr.cell 0 rfl, hr.cell 1 rfl, hr.cell 2 rfl, ihx hx (fun i hi => hs i (by simp [An.blocks, hi])),
      hr.cell 3 rfl, hr.cell 4 rfl, hr.cell 5 rfl, ihy hy (fun i hi => hs i (by simp [An.blocks, hi]))⟩

theorem TV.lt {t : An} : ∀ {k n : Int} {A : Option Addr} {l : Nat}, TV w k n A l t → ∀ b, b ∈ t.blocks → b < w.heap.size := by
  induction t with
  | num m => intro k n A l _ b hb; simp [An.blocks] at hb
  | year => intro k n A l _ b hb; simp [An.blocks] at hb
  | neg b a ih =>
    rintro k n A l ⟨h1, h2, h3, h4, k1, n1, A1, l1, c1, hr, ht⟩ i hi
    simp only [An.blocks, List.mem_cons] at hi
    rcases hi with rfl | hi
    · exact hr.lt
    · exact ih ht i hi
  | not b a ih =>
    rintro k n A l ⟨h1, h2, h3, h4, k1, n1, A1, l1, c1, hr, ht⟩ i hi
    simp only [An.blocks, List.mem_cons] at hi
    rcases hi with rfl | hi
    · exact hr.lt
    · exact ih ht i hi
  | bin o b x y ihx ihy =>
    rintro k n A l ⟨h1, h2, h3, h4, k1, n1, A1, l1, c1, k2, n2, A2, l2, c2, hr, hx, hy⟩ i hi
    simp only [An.blocks, List.mem_cons, List.mem_append] at hi
    rcases hi with rfl | hi | hi
    · exact hr.lt
    · exact ihx hx i hi
    · exact ihy hy i hi
end

/-- A reading of an expression with one operand, made of its parts. -/
theorem Rd.mk1 {w : World} {F : Nat → Prop} {b o : Nat} {k k1 n1 : Int} {A1 : Option Addr} {l1 c1 : Nat} {t : R} (hF : F b) (h0 : w.cell? ⟨b, o, none⟩ = some (.int .i64 k1)) (h1 : w.cell? ⟨b, o + 1, none⟩ = some (.int .i64 n1)) (h2 : w.cell? ⟨b, o + 2, none⟩ = some (.slice A1 l1 c1))
    (hr : Rd w F k1 n1 A1 l1 t) : Rd w F k 0 (some ⟨b, o, none⟩) 1 (.n1 k 0 t) := ⟨rfl, rfl, rfl, b, o, k1, n1, A1, l1, c1, rfl, hF, h0, h1, h2, hr⟩
theorem Rd.mk2 {w : World} {F : Nat → Prop} {b o : Nat} {k k1 n1 k2 n2 : Int} {A1 A2 : Option Addr} {l1 c1 l2 c2 : Nat} {t u : R} (hF : F b) (h0 : w.cell? ⟨b, o, none⟩ = some (.int .i64 k1)) (h1 : w.cell? ⟨b, o + 1, none⟩ = some (.int .i64 n1)) (h2 : w.cell? ⟨b, o + 2, none⟩ = some (.slice A1 l1 c1))
    (hr : Rd w F k1 n1 A1 l1 t) (h3 : w.cell? ⟨b, o + 3, none⟩ = some (.int .i64 k2)) (h4 : w.cell? ⟨b, o + 4, none⟩ = some (.int .i64 n2)) (h5 : w.cell? ⟨b, o + 5, none⟩ = some (.slice A2 l2 c2)) (hu : Rd w F k2 n2 A2 l2 u) :
    Rd w F k 0 (some ⟨b, o, none⟩) 2 (.n2 k 0 t u) := ⟨rfl, rfl, rfl, b, o, k1, n1, A1, l1, c1, k2, n2, A2, l2, c2, rfl, hF, h0, h1, h2, hr, h3, h4, h5, hu⟩

end Go.Proofs.YtmjmcjcckncplaaDoor
