/- wPut's change, for whatever law: what it leaves has the same value, or is too large. -/
import Derived.Test.YtmjmcjcckncplaaDoorPut
import Derived.Test.YtmjmcjcckncplaaDoorNodesA
import Derived.Test.YtmjmcjcckncplaaDoorLaws
import Derived.Test.YtmjmcjcckncplaaDoorCtx
namespace Go.Proofs.YtmjmcjcckncplaaDoor
open Go.RowKit Go.BigFrame

theorem rules_any (a : An) : RulesOk a := by
  induction a with
  | num m => exact rules_leaf _ (.inr ⟨m, rfl⟩)
  | year => exact rules_leaf _ (.inl rfl)
  | neg b a ih => exact rules_neg b a ih
  | not b a ih => exact rules_not b a ih
  | bin op b x y ihx ihy =>
    by_cases h : op.isLog = true
    · cases op <;> simp [O2.isLog] at h
      · exact rules_and b x y ihx ihy
      · exact rules_or b x y ihx ihy
    · exact rules_other op (by simpa using h) b x y ihx ihy

theorem An.sz_e (a : An) : a.sz = a.e.sz := by
  induction a with
  | num m => rfl
  | year => rfl
  | neg b a ih => simp [An.sz, An.e, E.sz, ih]
  | not b a ih => simp [An.sz, An.e, E.sz, ih]
  | bin op b x y ihx ihy => simp [An.sz, An.e, E.sz, ihx, ihy]

theorem put_law (N : Nat) (caps : Array Value) (w0 : World) (fb xb : Nat) (which : Int) (by_ : E → Bool → Option E) (t : E) (y v : Int) (hf : Blk w0 fb 32 #[.func (Fn.func N) #[] caps]) (hx : Blk w0 xb 3 #[.int .i64 which])
    (hent : ∀ (args : Array Value) (w : World), (callFunc N args).run Tryd.prog w = .ok (.enter N args) w) (hby : ByOk N caps w0 by_) (hl : LawOk y by_) (hev : evalF t y = (v, 0)) :
    ChgOk 43 #[.pointer (some ⟨fb, 0, none⟩), .pointer (some ⟨xb, 0, none⟩)] w0 t y v :=
  put_chg rules_any N caps w0 fb xb which by_ t y v hf hx hent hby (fun a ha => by rw [An.sz_e, ha]; exact sz_le hev) (walk_small t (evalF_ok hev).1).1 (fun _ hR => same_of_law hl hev hR)

theorem made_by {w : World} {F : Nat → Prop} {t : E} {r : Option E} {e : Ending} {w' : World} (h : Made w F t e w') (hr : r = some t) : ByPost w F r e w' := by
  obtain ⟨k, n, A, l, c, rfl, hK, hR⟩ := h
  subst hr
  exact ⟨k, n, A, l, c, rfl, hK, fun t' ht => by injection ht with ht; subst ht; exact hR⟩
theorem no_by {w : World} {F : Nat → Prop} {r : Option E} {e : Ending} {w' : World} (h : MadeNo w e w') (hr : r = none) : ByPost w F r e w' := by
  obtain ⟨k, n, A, l, c, rfl, hK⟩ := h
  subst hr
  exact ⟨k, n, A, l, c, rfl, hK, fun t' ht => by cases ht⟩

end Go.Proofs.YtmjmcjcckncplaaDoor
