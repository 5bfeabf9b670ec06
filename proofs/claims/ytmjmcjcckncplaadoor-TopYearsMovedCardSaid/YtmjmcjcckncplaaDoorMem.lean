/- The words for memory in which the contracts of this seat are said: what an expression reads as, and what a call has left as it was. -/
import Derived.Test.YtmjmcjcckncplaaDoorTree
import Derived.WalkKit
import Derived.WalkSpells
import Derived.WalkLawsBesides
namespace Go.Proofs.YtmjmcjcckncplaaDoor
open Go.RowKit

/-- Of the blocks that were there those outside S are as they were. -/
structure Kept (S : Nat → Prop) (w w' : World) : Prop where
  os : w'.os = w.os
  tape : w'.tape = w.tape
  output : w'.output = w.output
  size : w.heap.size ≤ w'.heap.size
  block : ∀ k, k < w.heap.size → ¬ S k → w'.heap[k]? = w.heap[k]?

def No : Nat → Prop := fun _ => False
def One (g : Nat) : Nat → Prop := fun k => k = g
theorem one_ne {g k : Nat} (h : k ≠ g) : ¬ One g k := h
theorem hide {p : Prop} (h : p) : Hid p := h
theorem unhide {p : Prop} (h : Hid p) : p := h

theorem Kept.refl (S : Nat → Prop) (w : World) : Kept S w w := ⟨rfl, rfl, rfl, Nat.le_refl _, fun _ _ _ => rfl⟩
theorem Kept.trans {S S' : Nat → Prop} {a b c : World} (h : Kept S a b) (k : Kept S' b c) (hs : ∀ i, i < a.heap.size → S' i → S i) : Kept S a c :=
  ⟨k.os.trans h.os, k.tape.trans h.tape, k.output.trans h.output, Nat.le_trans h.size k.size, fun i hi hn => (k.block i (Nat.lt_of_lt_of_le hi h.size) (fun h' => hn (hs i hi h'))).trans (h.block i hi hn)⟩
theorem Kept.more {S S' : Nat → Prop} {a b : World} (h : Kept S a b) (hs : ∀ i, i < a.heap.size → S i → S' i) : Kept S' a b :=
  ⟨h.os, h.tape, h.output, h.size, fun i hi hn => h.block i hi (fun h' => hn (hs i hi h'))⟩
theorem Kept.drew {S : Nat → Prop} {a w : World} (h : Kept S a w) : Kept S a w.drew := ⟨h.os, h.tape, h.output, h.size, h.block⟩
theorem Kept.drewN {S : Nat → Prop} {a w : World} (h : Kept S a w) (n : Nat) : Kept S a (w.drewN n) := ⟨h.os, h.tape, h.output, h.size, h.block⟩
theorem Kept.alloc {S : Nat → Prop} {a w : World} (h : Kept S a w) (o : Obj) : Kept S a (w.alloc o) :=
  ⟨h.os, h.tape, h.output, Nat.le_trans h.size (by simp), fun k hk hn => (Below.heap_alloc w o k (Nat.lt_of_lt_of_le hk h.size)).trans (h.block k hk hn)⟩
theorem Kept.setCell {S : Nat → Prop} {a w : World} (h : Kept S a w) {p : Addr} (hp : p.block < a.heap.size → S p.block) (u : Value) : Kept S a (w.setCell p u) :=
  ⟨h.os, h.tape, h.output, by simpa [World.setCell] using h.size, fun k hk hn => (Below.heap_setCell w p u k (by rintro rfl; exact hn (hp hk))).trans (h.block k hk hn)⟩
theorem Kept.one {g : Nat} {a w : World} (h : Kept (One g) a w) (i : Nat) (u : Value) : Kept (One g) a (w.setCell ⟨g, i, none⟩ u) := h.setCell (p := ⟨g, i, none⟩) (fun _ => rfl) u
theorem Kept.new {S : Nat → Prop} {a w : World} (h : Kept S a w) {b : Nat} (hb : a.heap.size ≤ b) (i : Nat) (u : Value) : Kept S a (w.setCell ⟨b, i, none⟩ u) :=
  h.setCell (p := ⟨b, i, none⟩) (fun hlt => absurd hlt (by simp; omega)) u
theorem Kept.below {S : Nat → Prop} {a w w' : World} (h : Kept S a w) (hb : Below w.heap.size w w') : Kept S a w' :=
  ⟨hb.os.trans h.os, hb.tape.trans h.tape, hb.output.trans h.output, Nat.le_trans h.size hb.size, fun k hk hn => (hb.block k (Nat.lt_of_lt_of_le hk h.size)).trans (h.block k hk hn)⟩
theorem Kept.grown {S : Nat → Prop} {a w w' : World} {row : Option Nat} (h : Kept S a w) (hg : w.grownBy w' row) (hr : ∀ k, row = some k → k < a.heap.size → S k) : Kept S a w' :=
  ⟨hg.os.trans h.os, hg.tape.trans h.tape, hg.output.trans h.output, Nat.le_trans h.size hg.size, fun k hk hn => (hg.block k (Nat.lt_of_lt_of_le hk h.size) (fun e => hn (hr k e.symm hk))).trans (h.block k hk hn)⟩
theorem Kept.keep {S S' : Nat → Prop} {a w w' : World} (h : Kept S a w) (k : Kept S' w w') (hs : ∀ i, i < a.heap.size → S' i → S i) : Kept S a w' := h.trans k hs
theorem Kept.toBelow {w w' : World} (h : Kept No w w') : Below w.heap.size w w' := ⟨h.os, h.tape, h.output, h.size, fun k hk => h.block k hk id⟩
theorem Below.toKept {w w' : World} (h : Below w.heap.size w w') : Kept No w w' := ⟨h.os, h.tape, h.output, h.size, fun k hk _ => h.block k hk⟩
theorem Kept.cell {S : Nat → Prop} {w w' : World} (h : Kept S w w') {p : Addr} {v : Value} (hc : w.cell? p = some v) (hn : ¬ S p.block) : w'.cell? p = some v :=
  (World.cell?_of_block (h.block p.block (World.block_lt_of_cell? w p hc) hn)).trans hc
theorem Kept.frozen {S : Nat → Prop} {w w' : World} (h : Kept S w w') {p : Addr} (hp : p.block < w.heap.size) (hn : ¬ S p.block) : w'.frozen? p = w.frozen? p :=
  World.frozen?_of_block (h.block p.block hp hn)

/-- A block that is known whole: just these cells, none frozen. -/
def Blk (w : World) (g : Nat) (t : TypeId) (cs : Array Value) : Prop := w.heap[g]? = some (.cells cs t (0, 0))
section
variable {w w' : World} {g : Nat} {t : TypeId} {cs : Array Value}
theorem Blk.lt (h : Blk w g t cs) : g < w.heap.size := (Array.getElem?_eq_some_iff.1 h).1
theorem Blk.cell (h : Blk w g t cs) (i : Nat) : w.cell? ⟨g, i, none⟩ = cs[i]? := cell_of_row w g i cs t (0, 0) h
theorem Blk.frozen (h : Blk w g t cs) (i : Nat) : w.frozen? ⟨g, i, none⟩ = false := by
  unfold Blk at h
  simp [World.frozen?, h]
theorem Blk.new (w : World) (t : TypeId) (cs : Array Value) : Blk (w.alloc (.cells cs t)) w.heap.size t cs := heap_alloc_new w _
theorem Blk.drew (h : Blk w g t cs) : Blk w.drew g t cs := h
theorem Blk.drewN (h : Blk w g t cs) (n : Nat) : Blk (w.drewN n) g t cs := h
theorem Blk.alloc (h : Blk w g t cs) (o : Obj) : Blk (w.alloc o) g t cs := (Below.heap_alloc w o g h.lt).trans h
theorem Blk.set_ (h : Blk w g t cs) (i : Nat) (u : Value) : Blk (w.setCell ⟨g, i, none⟩ u) g t (cs.setIfInBounds i u) := by
  unfold Blk at h ⊢
  simp [World.setCell, Array.getElem?_modify, h]
theorem Blk.far (h : Blk w g t cs) {p : Addr} (hp : g ≠ p.block) (u : Value) : Blk (w.setCell p u) g t cs := (Below.heap_setCell w p u g hp).trans h
theorem Blk.kept {S : Nat → Prop} (h : Blk w g t cs) (hk : Kept S w w') (hn : ¬ S g) : Blk w' g t cs := (hk.block g h.lt hn).trans h
end

/-- THE VALUE (k, n, slice A l c) OF AN EXPRESSION READS AS THE TREE t; what lies behind it lies in blocks of F. -/
def Rd (w : World) (F : Nat → Prop) : Int → Int → Option Addr → Nat → R → Prop
  | k, n, _, l, .n0 k' n' => k = k' ∧ n = n' ∧ l = 0
  | k, n, A, l, .n1 k' n' a => k = k' ∧ n = n' ∧ l = 1 ∧ ∃ b o k1 n1 A1 l1 c1, A = some ⟨b, o, none⟩ ∧ F b ∧
      w.cell? ⟨b, o, none⟩ = some (.int .i64 k1) ∧ w.cell? ⟨b, o + 1, none⟩ = some (.int .i64 n1) ∧ w.cell? ⟨b, o + 2, none⟩ = some (.slice A1 l1 c1) ∧ Rd w F k1 n1 A1 l1 a
  | k, n, A, l, .n2 k' n' x y => k = k' ∧ n = n' ∧ l = 2 ∧ ∃ b o k1 n1 A1 l1 c1 k2 n2 A2 l2 c2, A = some ⟨b, o, none⟩ ∧ F b ∧
      w.cell? ⟨b, o, none⟩ = some (.int .i64 k1) ∧ w.cell? ⟨b, o + 1, none⟩ = some (.int .i64 n1) ∧ w.cell? ⟨b, o + 2, none⟩ = some (.slice A1 l1 c1) ∧ Rd w F k1 n1 A1 l1 x ∧
      w.cell? ⟨b, o + 3, none⟩ = some (.int .i64 k2) ∧ w.cell? ⟨b, o + 4, none⟩ = some (.int .i64 n2) ∧ w.cell? ⟨b, o + 5, none⟩ = some (.slice A2 l2 c2) ∧ Rd w F k2 n2 A2 l2 y
  | k, n, _, l, .big k' n' l' => k = k' ∧ n = n' ∧ l = l' ∧ 3 ≤ l ∧ l ≤ 9223372036854775807

section
variable {w w' : World} {F F' S : Nat → Prop}
theorem Rd.k_eq {k n : Int} {A : Option Addr} {l : Nat} {t : R} (h : Rd w F k n A l t) : k = t.k ∧ n = t.n ∧ l = t.l := by
  cases t <;> simp only [Rd] at h
  · exact h
  · exact ⟨h.1, h.2.1, h.2.2.1⟩
  · exact ⟨h.1, h.2.1, h.2.2.1⟩
  · exact ⟨h.1, h.2.1, h.2.2.1⟩
theorem Rd.len {k n : Int} {A : Option Addr} {l : Nat} {t : R} (h : Rd w F k n A l t) : l ≤ 9223372036854775807 := by
  cases t <;> simp only [Rd] at h
  · omega
  · omega
  · omega
  · exact h.2.2.2.2
theorem Rd.mono {t : R} : ∀ {k n : Int} {A : Option Addr} {l : Nat}, Rd w F k n A l t → (∀ i, i < w.heap.size → F i → F' i) → Rd w F' k n A l t := by
  induction t with
  | n0 k' n' => intro k n A l h _; exact h
  | n1 k' n' a ih =>
    rintro k n A l ⟨rfl, rfl, rfl, b, o, k1, n1, A1, l1, c1, rfl, hF, h0, h1, h2, hr⟩ hs
    exact ⟨rfl, rfl, rfl, b, o, k1, n1, A1, l1, c1, rfl, hs b (World.block_lt_of_cell? w _ h0) hF, h0, h1, h2, ih hr hs⟩
  | n2 k' n' x y ihx ihy =>
    rintro k n A l ⟨rfl, rfl, rfl, b, o, k1, n1, A1, l1, c1, k2, n2, A2, l2, c2, rfl, hF, h0, h1, h2, hr, h3, h4, h5, hr2⟩ hs
    exact ⟨rfl, rfl, rfl, b, o, k1, n1, A1, l1, c1, k2, n2, A2, l2, c2, rfl, hs b (World.block_lt_of_cell? w _ h0) hF, h0, h1, h2, ihx hr hs, h3, h4, h5, ihy hr2 hs⟩
  | big k' n' l' => intro k n A l h _; exact h
/-- The reading is kept where its blocks are. -/
theorem Rd.kept {t : R} : ∀ {k n : Int} {A : Option Addr} {l : Nat}, Rd w F k n A l t → Kept S w w' → (∀ i, i < w.heap.size → F i → ¬ S i) → Rd w' F k n A l t := by
  induction t with
  | n0 k' n' => intro k n A l h _ _; exact h
  | n1 k' n' a ih =>
    rintro k n A l ⟨rfl, rfl, rfl, b, o, k1, n1, A1, l1, c1, rfl, hF, h0, h1, h2, hr⟩ hk hs
    have hb := hs b (World.block_lt_of_cell? w _ h0) hF
    exact ⟨rfl, rfl, rfl, b, o, k1, n1, A1, l1, c1, rfl, hF, hk.cell h0 hb, hk.cell h1 hb, hk.cell h2 hb, ih hr hk hs⟩
  | n2 k' n' x y ihx ihy =>
    rintro k n A l ⟨rfl, rfl, rfl, b, o, k1, n1, A1, l1, c1, k2, n2, A2, l2, c2, rfl, hF, h0, h1, h2, hr, h3, h4, h5, hr2⟩ hk hs
    have hb := hs b (World.block_lt_of_cell? w _ h0) hF
    exact ⟨rfl, rfl, rfl, b, o, k1, n1, A1, l1, c1, k2, n2, A2, l2, c2, rfl, hF, hk.cell h0 hb, hk.cell h1 hb, hk.cell h2 hb, ihx hr hk hs, hk.cell h3 hb, hk.cell h4 hb, hk.cell h5 hb, ihy hr2 hk hs⟩
  | big k' n' l' => intro k n A l h _ _; exact h
theorem Rd.below {k n : Int} {A : Option Addr} {l : Nat} {t : R} (h : Rd w F k n A l t) (hb : Below w.heap.size w w') : Rd w' F k n A l t := h.kept (Below.toKept hb) (fun _ _ _ => id)
theorem Rd.all {k n : Int} {A : Option Addr} {l : Nat} {t : R} (h : Rd w F k n A l t) : Rd w (fun i => F i ∧ i < w.heap.size) k n A l t := h.mono fun _ hi hF => ⟨hF, hi⟩
theorem Rd.drewN {k n : Int} {A : Option Addr} {l : Nat} {t : R} (h : Rd w F k n A l t) (m : Nat) : Rd (w.drewN m) F k n A l t := h.kept ((Kept.refl No w).drewN m) (fun _ _ _ => id)
theorem Rd.alloc {k n : Int} {A : Option Addr} {l : Nat} {t : R} (h : Rd w F k n A l t) (o : Obj) : Rd (w.alloc o) F k n A l t := h.kept ((Kept.refl No w).alloc o) (fun _ _ _ => id)
end

end Go.Proofs.YtmjmcjcckncplaaDoor
