/- The nodes of a tree in memory, in preorder, each with its address and whether only its truth matters; one of them replaced. -/
import Derived.Test.YtmjmcjcckncplaaDoorSmall
namespace Go.Proofs.YtmjmcjcckncplaaDoor
open Go.RowKit Go.BigFrame

def O2.isLog (o : O2) : Bool := decide (o = .and) || decide (o = .or)

/-- The nodes: block, place, truth. -/
def nodes : An → Nat → Nat → Bool → List (Nat × Nat × Bool)
  | .num _, p, o, tr => [(p, o, tr)]
  | .year, p, o, tr => [(p, o, tr)]
  | .neg b a, p, o, tr => (p, o, tr) :: nodes a b 0 false
  | .not b a, p, o, tr => (p, o, tr) :: nodes a b 0 true
  | .bin op b x y, p, o, tr => (p, o, tr) :: (nodes x b 0 op.isLog ++ nodes y b 3 op.isLog)

/-- t' is t with one of its parts replaced. -/
inductive Repl (by_ : E → Bool → Option E) : E → Bool → E → Prop where
  | here {t t' : E} {tr : Bool} (h : by_ t tr = some t') : Repl by_ t tr t'
  | neg {a a' : E} {tr : Bool} (h : Repl by_ a false a') : Repl by_ (.neg a) tr (.neg a')
  | not {a a' : E} {tr : Bool} (h : Repl by_ a true a') : Repl by_ (.not a) tr (.not a')
  | left {o : O2} {a a' b : E} {tr : Bool} (h : Repl by_ a o.isLog a') : Repl by_ (.bin o a b) tr (.bin o a' b)
  | right {o : O2} {a b b' : E} {tr : Bool} (h : Repl by_ b o.isLog b') : Repl by_ (.bin o a b) tr (.bin o a b')

/-- The three cells of an expression at a place. -/
def C3 (w : World) (p o : Nat) (k n : Int) (A : Option Addr) (l c : Nat) : Prop :=
  w.cell? ⟨p, o, none⟩ = some (.int .i64 k) ∧ w.cell? ⟨p, o + 1, none⟩ = some (.int .i64 n) ∧ w.cell? ⟨p, o + 2, none⟩ = some (.slice A l c)
/-- The tree a stands at a place. -/
def At (w : World) (p o : Nat) (a : An) : Prop := ∃ k n A l c, C3 w p o k n A l c ∧ TV w k n A l a
/-- What stands at a place reads as t. -/
def Reads (w : World) (p o : Nat) (t : E) : Prop := ∃ k n A l c, C3 w p o k n A l c ∧ RT w k n A l t

/-- W is w with the cells at (p, o) overwritten. -/
structure Upd (w W : World) (p o : Nat) : Prop where
  kept : Kept (One p) w W
  far : ∀ j, (j < o ∨ o + 3 ≤ j) → W.cell? ⟨p, j, none⟩ = w.cell? ⟨p, j, none⟩

theorem C3.upd {w W : World} {p o p' o' : Nat} {k n : Int} {A : Option Addr} {l c : Nat} (h : C3 w p o k n A l c) (hu : Upd w W p' o') (hne : p ≠ p' ∨ o + 3 ≤ o' ∨ o' + 3 ≤ o) : C3 W p o k n A l c := by
  by_cases hp : p = p'
  · subst hp
    obtain ⟨h0, h1, h2⟩ := h
    exact ⟨(hu.far _ (by omega)).trans h0, (hu.far _ (by omega)).trans h1, (hu.far _ (by omega)).trans h2⟩
  · exact ⟨hu.kept.cell h.1 hp, hu.kept.cell h.2.1 hp, hu.kept.cell h.2.2 hp⟩

theorem At.lt {w : World} {p o : Nat} {a : An} (h : At w p o a) : p < w.heap.size := by obtain ⟨k, n, A, l, c, h, _⟩ := h; exact World.block_lt_of_cell? w _ h.1

theorem row_c3 {w : World} {b : Nat} {k n : Int} {A : Option Addr} {l c : Nat} (h : Row w b (cell3 k n A l c)) : C3 w b 0 k n A l c := ⟨h.cell 0 rfl, h.cell 1 rfl, h.cell 2 rfl⟩
theorem row_c3l {w : World} {b : Nat} {k n : Int} {A : Option Addr} {l c : Nat} {r : List Value} (h : Row w b (cell3 k n A l c ++ r)) : C3 w b 0 k n A l c := ⟨h.cell 0 rfl, h.cell 1 rfl, h.cell 2 rfl⟩
theorem row_c3r {w : World} {b : Nat} {k n k1 n1 : Int} {A A1 : Option Addr} {l c l1 c1 : Nat} (h : Row w b (cell3 k1 n1 A1 l1 c1 ++ cell3 k n A l c)) : C3 w b 3 k n A l c := ⟨h.cell 3 rfl, h.cell 4 rfl, h.cell 5 rfl⟩

/-- A node is the root, or it lies in one of the tree's blocks. -/
theorem nodes_where (a : An) : ∀ p o tr e, e ∈ nodes a p o tr → e = (p, o, tr) ∨ e.1 ∈ a.blocks := by
  induction a with
  | num m => intro p o tr e h; simp [nodes] at h; exact .inl h
  | year => intro p o tr e h; simp [nodes] at h; exact .inl h
  | neg b a ih =>
    intro p o tr e h
    rcases List.mem_cons.1 h with h | h
    · exact .inl h
    · rcases ih b 0 false e h with rfl | h
      · exact .inr (by simp [An.blocks])
      · exact .inr (by simp [An.blocks, h])
  | not b a ih =>
    intro p o tr e h
    rcases List.mem_cons.1 h with h | h
    · exact .inl h
    · rcases ih b 0 true e h with rfl | h
      · exact .inr (by simp [An.blocks])
      · exact .inr (by simp [An.blocks, h])
  | bin op b x y ihx ihy =>
    intro p o tr e h
    rcases List.mem_cons.1 h with h | h
    · exact .inl h
    · rcases List.mem_append.1 h with h | h
      · rcases ihx b 0 _ e h with rfl | h
        · exact .inr (by simp [An.blocks])
        · exact .inr (by simp [An.blocks, h])
      · rcases ihy b 3 _ e h with rfl | h
        · exact .inr (by simp [An.blocks])
        · exact .inr (by simp [An.blocks, h])

/-- At each node stands a part of the tree; overwritten, the whole reads as the tree with this part replaced. -/
theorem repl_at (by_ : E → Bool → Option E) (a : An) : ∀ (w : World) (p o : Nat) (tr : Bool), At w p o a → a.blocks.Nodup → p ∉ a.blocks → ∀ e, e ∈ nodes a p o tr → ∃ s : An, At w e.1 e.2.1 s ∧ (NumOk a.e → NumOk s.e) ∧
    ∀ (W : World) (s' : E), Upd w W e.1 e.2.1 → Reads W e.1 e.2.1 s' → by_ s.e e.2.2 = some s' → ∃ t', Repl by_ a.e tr t' ∧ Reads W p o t' := by
  induction a with
  | num m =>
    intro w p o tr hA _ _ e he
    simp only [nodes, List.mem_singleton] at he
    subst he
    exact ⟨.num m, hA, id, fun W s' _ hr hb => ⟨s', .here hb, hr⟩⟩
  | year =>
    intro w p o tr hA _ _ e he
    simp only [nodes, List.mem_singleton] at he
    subst he
    exact ⟨.year, hA, id, fun W s' _ hr hb => ⟨s', .here hb, hr⟩⟩
  | neg b a ih =>
    intro w p o tr hA hnd hp e he
    rcases List.mem_cons.1 he with rfl | he
    · exact ⟨.neg b a, hA, id, fun W s' _ hr hb => ⟨s', .here hb, hr⟩⟩
    · obtain ⟨k, n, A, l, c, hc, rfl, rfl, rfl, rfl, k1, n1, A1, l1, c1, hrow, hT⟩ := hA
      simp only [An.blocks, List.nodup_cons, List.mem_cons, not_or] at hnd hp
      obtain ⟨s, hs, hN, hW⟩ := ih w b 0 false ⟨k1, n1, A1, l1, c1, row_c3 hrow, hT⟩ hnd.2 hnd.1 e he
      refine ⟨s, hs, hN, fun W s' hu hr hb => ?_⟩
      obtain ⟨t', hR, k2, n2, A2, l2, c2, hc2, hr2⟩ := hW W s' hu hr hb
      have hne : p ≠ e.1 := by
        rcases nodes_where a b 0 false e he with rfl | h
        · exact hp.1
        · rintro rfl; exact hp.2 h
      exact ⟨.neg t', .neg hR, 3, 0, _, 1, c, hc.upd hu (.inl hne), Rd.mk1 trivial hc2.1 hc2.2.1 hc2.2.2 hr2⟩
  | not b a ih =>
    intro w p o tr hA hnd hp e he
    rcases List.mem_cons.1 he with rfl | he
    · exact ⟨.not b a, hA, id, fun W s' _ hr hb => ⟨s', .here hb, hr⟩⟩
    · obtain ⟨k, n, A, l, c, hc, rfl, rfl, rfl, rfl, k1, n1, A1, l1, c1, hrow, hT⟩ := hA
      simp only [An.blocks, List.nodup_cons, List.mem_cons, not_or] at hnd hp
      obtain ⟨s, hs, hN, hW⟩ := ih w b 0 true ⟨k1, n1, A1, l1, c1, row_c3 hrow, hT⟩ hnd.2 hnd.1 e he
      refine ⟨s, hs, hN, fun W s' hu hr hb => ?_⟩
      obtain ⟨t', hR, k2, n2, A2, l2, c2, hc2, hr2⟩ := hW W s' hu hr hb
      have hne : p ≠ e.1 := by
        rcases nodes_where a b 0 true e he with rfl | h
        · exact hp.1
        · rintro rfl; exact hp.2 h
      exact ⟨.not t', .not hR, 11, 0, _, 1, c, hc.upd hu (.inl hne), Rd.mk1 trivial hc2.1 hc2.2.1 hc2.2.2 hr2⟩
  | bin op b x y ihx ihy =>
    intro w p o tr hA hnd hp e he
    rcases List.mem_cons.1 he with rfl | he
    · exact ⟨.bin op b x y, hA, id, fun W s' _ hr hb => ⟨s', .here hb, hr⟩⟩
    · obtain ⟨k, n, A, l, c, hc, rfl, rfl, rfl, rfl, k1, n1, A1, l1, c1, k2, n2, A2, l2, c2, hrow, hTx, hTy⟩ := hA
      simp only [An.blocks, List.nodup_cons, List.mem_cons, List.mem_append, not_or, List.nodup_append] at hnd hp
      obtain ⟨⟨hbx, hby⟩, hndx, hndy, hxy⟩ := hnd
      obtain ⟨hpb, hpx, hpy⟩ := hp
      rcases List.mem_append.1 he with he | he
      · obtain ⟨s, hs, hN, hW⟩ := ihx w b 0 op.isLog ⟨k1, n1, A1, l1, c1, row_c3l hrow, hTx⟩ hndx hbx e he
        refine ⟨s, hs, fun h => hN h.1, fun W s' hu hr hb => ?_⟩
        obtain ⟨t', hR, k3, n3, A3, l3, c3, hc3, hr3⟩ := hW W s' hu hr hb
        have hcy : C3 W b 3 k2 n2 A2 l2 c2 ∧ RT W k2 n2 A2 l2 y.e := by
          rcases nodes_where x b 0 _ e he with rfl | h
          · exact ⟨(row_c3r hrow).upd hu (.inr (.inr (Nat.le_refl _))), TV.rd (TV.kept hTy hu.kept (fun i hi => one_ne (by rintro rfl; exact hby hi))) (fun _ _ => trivial)⟩
          · exact ⟨(row_c3r hrow).upd hu (.inl (by rintro rfl; exact hbx h)), TV.rd (TV.kept hTy hu.kept (fun i hi => one_ne (by rintro rfl; exact hxy _ h _ hi rfl))) (fun _ _ => trivial)⟩
        have hne : p ≠ e.1 := by
          rcases nodes_where x b 0 _ e he with rfl | h
          · exact hpb
          · rintro rfl; exact hpx h
        exact ⟨.bin op t' y.e, .left hR, op.code, 0, _, 2, c, hc.upd hu (.inl hne), Rd.mk2 trivial hc3.1 hc3.2.1 hc3.2.2 hr3 hcy.1.1 hcy.1.2.1 hcy.1.2.2 hcy.2⟩
      · obtain ⟨s, hs, hN, hW⟩ := ihy w b 3 op.isLog ⟨k2, n2, A2, l2, c2, row_c3r hrow, hTy⟩ hndy hby e he
        refine ⟨s, hs, fun h => hN h.2, fun W s' hu hr hb => ?_⟩
        obtain ⟨t', hR, k3, n3, A3, l3, c3, hc3, hr3⟩ := hW W s' hu hr hb
        have hcx : C3 W b 0 k1 n1 A1 l1 c1 ∧ RT W k1 n1 A1 l1 x.e := by
          rcases nodes_where y b 3 _ e he with rfl | h
          · exact ⟨(row_c3l hrow).upd hu (.inr (.inl (Nat.le_refl _))), TV.rd (TV.kept hTx hu.kept (fun i hi => one_ne (by rintro rfl; exact hbx hi))) (fun _ _ => trivial)⟩
          · exact ⟨(row_c3l hrow).upd hu (.inl (by rintro rfl; exact hby h)), TV.rd (TV.kept hTx hu.kept (fun i hi => one_ne (by rintro rfl; exact hxy _ hi _ h rfl))) (fun _ _ => trivial)⟩
        have hne : p ≠ e.1 := by
          rcases nodes_where y b 3 _ e he with rfl | h
          · exact hpb
          · rintro rfl; exact hpy h
        exact ⟨.bin op x.e t', .right hR, op.code, 0, _, 2, c, hc.upd hu (.inl hne), Rd.mk2 trivial hcx.1.1 hcx.1.2.1 hcx.1.2.2 hcx.2 hc3.1 hc3.2.1 hc3.2.2 hr3⟩

end Go.Proofs.YtmjmcjcckncplaaDoor
