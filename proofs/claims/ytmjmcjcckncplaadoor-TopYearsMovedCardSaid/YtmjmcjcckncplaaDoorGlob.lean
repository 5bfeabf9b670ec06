/- The package-level variables that the program reads, as cells. -/
import Derived.Test.YtmjmcjcckncplaaDoorWalk
import Derived.Test.YtmjmcjcckncplaaDoorText
import Derived.Lib.LaidTab
namespace Go.Proofs.YtmjmcjcckncplaaDoor
open Go.RowKit

/-- A kind's level. -/
def levOf (k : Nat) : Nat := if k = 1 ∨ k = 2 then 8 else if k = 3 then 7 else if k = 4 ∨ k = 5 then 5 else if k = 6 ∨ k = 7 ∨ k = 8 then 6 else if k = 9 ∨ k = 10 then 4 else if k = 11 then 3 else if k = 12 then 2 else 1

/-- The symbols of a level, and the kinds that stand for them. -/
def symsOf (n : Nat) : List (List UInt8) := if n = 1 then [[111, 114]] else if n = 2 then [[97, 110, 100]] else if n = 4 then [[60], [61]] else if n = 5 then [[43], [45]] else if n = 6 then [[42], [47], [37]] else []
def foundOf (n : Nat) : List Int := if n = 1 then [13] else if n = 2 then [12] else if n = 4 then [9, 10] else if n = 5 then [4, 5] else if n = 6 then [6, 7, 8] else []

/-- What the variables hold, in a world; all that they lead to lies below block B. -/
structure Glob (B : Nat) (w : World) : Prop where
  lo : 11 ≤ B
  kids : KidsVar w
  lev : ∀ i : Nat, 1 ≤ i → i ≤ 13 → w.cell? ⟨1, i, none⟩ = some (.int .i64 (levOf i))
  sign : ∀ o : O2, w.cell? ⟨2, o.code.toNat, none⟩ = some (.string ⟨o.sign.toArray⟩)
  syms : ∀ n : Nat, 1 ≤ n → n ≤ 6 → n ≠ 3 → ∃ b o c, b < B ∧ w.cell? ⟨3, n, none⟩ = some (.slice (some ⟨b, o, none⟩) (symsOf n).length c) ∧ ∀ i s, (symsOf n)[i]? = some s → w.cell? ⟨b, o + i, none⟩ = some (.string ⟨s.toArray⟩)
  found : ∀ n : Nat, 1 ≤ n → n ≤ 6 → n ≠ 3 → ∃ b o c, b < B ∧ w.cell? ⟨4, n, none⟩ = some (.slice (some ⟨b, o, none⟩) (symsOf n).length c) ∧ ∀ i k, (foundOf n)[i]? = some k → w.cell? ⟨b, o + i, none⟩ = some (.int .i64 k)
  max : ∃ m : Int, w.cell? ⟨5, 0, none⟩ = some (.int .i64 m)
  pow : Lib.TabIs Tryd.prog w "internal/strconv.uint64pow10" .u64 Lib.pow10Tab

theorem pow_named : Tryd.prog.globalNamed "internal/strconv.uint64pow10" = some 6 := by kernel_rfl

theorem Glob.same {B : Nat} {w w' : World} (h : Glob B w) (hs : ∀ k, k < B → w'.heap[k]? = w.heap[k]?) : Glob B w' := by
  have hl := h.lo
  have hc : ∀ {a : Addr} {v : Value}, a.block < B → w.cell? a = some v → w'.cell? a = some v := fun ha hv => (World.cell?_of_block (hs _ ha)).trans hv
  refine ⟨hl, fun i h1 h2 => hc (by simp; omega) (h.kids i h1 h2), fun i h1 h2 => hc (by simp; omega) (h.lev i h1 h2), fun o => hc (by simp; omega) (h.sign o), ?_, ?_, ?_, ?_⟩
  · intro n h1 h2 h3
    obtain ⟨b, o, c, hb, e, hf⟩ := h.syms n h1 h2 h3
    exact ⟨b, o, c, hb, hc (by simp; omega) e, fun i s hi => hc hb (hf i s hi)⟩
  · intro n h1 h2 h3
    obtain ⟨b, o, c, hb, e, hf⟩ := h.found n h1 h2 h3
    exact ⟨b, o, c, hb, hc (by simp; omega) e, fun i s hi => hc hb (hf i s hi)⟩
  · obtain ⟨m, hm⟩ := h.max
    exact ⟨m, hc (by simp; omega) hm⟩
  · have hp := h.pow
    unfold Lib.TabIs World.var? at hp ⊢
    simp only [pow_named, Option.bind_some] at hp ⊢
    rw [hs 6 (by omega)]
    exact hp
theorem Glob.kept {B : Nat} {w w' : World} {S : Nat → Prop} (h : Glob B w) (hk : Kept S w w') (hB : B ≤ w.heap.size) (hs : ∀ i, S i → B ≤ i) : Glob B w' :=
  h.same fun k hlt => hk.block k (by omega) (fun hS => by have := hs k hS; omega)
theorem Glob.below {B B' : Nat} {w w' : World} (h : Glob B w) (hb : Below B' w w') (hB : B ≤ B') : Glob B w' := h.same fun k hlt => hb.block k (by omega)

theorem levOf_e (e : E) : levOf e.code.toNat = e.lev := by
  cases e with
  | num n => rfl
  | year => rfl
  | neg a => rfl
  | not a => rfl
  | bin o a b => cases o <;> rfl
theorem code_range (e : E) : 1 ≤ e.code ∧ e.code ≤ 13 := by
  cases e with
  | num n => simp [E.code]
  | year => simp [E.code]
  | neg a => simp [E.code]
  | not a => simp [E.code]
  | bin o a b => cases o <;> simp [E.code, O2.code]

end Go.Proofs.YtmjmcjcckncplaaDoor
