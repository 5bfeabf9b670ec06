/- The closure of TopYearsMoved (function 34): each y of a tree replaced, in place. -/
import Derived.Test.YtmjmcjcckncplaaDoorAll
import Derived.Deep.RegionHeld3
namespace Go.Proofs.YtmjmcjcckncplaaDoor
open Go.RowKit Go.BigFrame

/-- What the closure has captured. -/
structure Caps34 (w : World) (wv lv nv : Nat) (later : Bool) (m : Int) : Prop where
  wv : Blk w wv 29 #[.func (Fn.func 34) #[] #[.pointer (some ⟨wv, 0, none⟩), .pointer (some ⟨lv, 0, none⟩), .pointer (some ⟨nv, 0, none⟩)]]
  lv : Blk w lv 4 #[.bool later]
  nv : Blk w nv 3 #[.int .i64 m]
theorem Caps34.kept {S : Nat → Prop} {w w' : World} {wv lv nv : Nat} {later : Bool} {m : Int} (h : Caps34 w wv lv nv later m) (hK : Kept S w w') (h1 : ¬ S wv) (h2 : ¬ S lv) (h3 : ¬ S nv) : Caps34 w' wv lv nv later m :=
  ⟨h.wv.kept hK h1, h.lv.kept hK h2, h.nv.kept hK h3⟩

/-- What a call leaves: the tree with each y replaced, its blocks the tree's own or new. -/
def MovPost (w : World) (a : An) (cc : E) (e : Ending) (w' : World) : Prop :=
  ∃ k n A l c, e = .returned (.agg #[.int .i64 k, .int .i64 n, .slice A l c]) ∧ Rd w' (fun i => i ∈ a.blocks ∨ w.heap.size ≤ i) k n A l (a.e.subst cc).r ∧ Kept (fun i => i ∈ a.blocks) w w'
def MovOk (later : Bool) (m : Int) (a : An) : Prop := ∀ (w : World) (k n : Int) (A : Option Addr) (l c wv lv nv : Nat), TV w k n A l a → a.blocks.Nodup → Caps34 w wv lv nv later m → wv ∉ a.blocks → lv ∉ a.blocks → nv ∉ a.blocks →
  Calls Tryd.prog 34 #[.agg #[.int .i64 k, .int .i64 n, .slice A l c], .pointer (some ⟨wv, 0, none⟩), .pointer (some ⟨lv, 0, none⟩), .pointer (some ⟨nv, 0, none⟩)] w (MovPost w a (moved later m))

/-- What a closure in a closure leaves in its result variable. -/
theorem Ctx.put_z {w W : World} {k n : Int} {A : Option Addr} {l c : Nat} {F : Nat → Prop} {k1 n1 : Int} {A1 : Option Addr} {l1 c1 : Nat} {t : E} (h : Ctx w W k n A l c) (hr : Rd W (FN F w) k1 n1 A1 l1 t.r) :
    Kept No w (((W.setCell ⟨w.heap.size + 1, 0, none⟩ (.int .i64 k1)).setCell ⟨w.heap.size + 1, 1, none⟩ (.int .i64 n1)).setCell ⟨w.heap.size + 1, 2, none⟩ (.slice A1 l1 c1)) ∧
    Rd (((W.setCell ⟨w.heap.size + 1, 0, none⟩ (.int .i64 k1)).setCell ⟨w.heap.size + 1, 1, none⟩ (.int .i64 n1)).setCell ⟨w.heap.size + 1, 2, none⟩ (.slice A1 l1 c1)) (fun i => F i ∨ w.heap.size ≤ i) k1 n1 A1 l1 t.r :=
  ⟨((h.kept.new (b := w.heap.size + 1) (by omega) 0 _).new (b := w.heap.size + 1) (by omega) 1 _).new (b := w.heap.size + 1) (by omega) 2 _,
    (hr.kept ((((Kept.refl (One (w.heap.size + 1)) W).one 0 _).one 1 _).one 2 _) (fun j _ hj => one_ne hj.ne)).mono (fun _ _ h => h.out)⟩

set_option maxRecDepth 100000 in
set_option maxHeartbeats 4000000 in
theorem mov_num (later : Bool) (m q : Int) : MovOk later m (.num q) := by
  rintro w k n A l c wv lv nv ⟨rfl, rfl, rfl, rfl⟩ _ hC _ _ _
  clear hC
  go_enter Tryd.func34, Tryd.ntmps34
  go_wp2
  refine wp_loop_rounds 1 ?_
  rw [rounds_succ]
  go_wp2_with fail
  refine bodyPost_ret (v := .agg #[.int .i64 1, .int .i64 n, .slice none 0 c]) (by simp [results, Tryd.results34, go_sem]) rfl ?_
  exact ⟨1, n, none, 0, c, rfl, ⟨rfl, rfl, rfl⟩, ((Kept.refl _ w).alloc _).alloc _⟩

set_option maxRecDepth 100000 in
set_option maxHeartbeats 4000000 in
theorem mov_year (later : Bool) (m : Int) : MovOk later m .year := by
  rintro w k n A l c wv lv nv ⟨rfl, rfl, rfl, rfl⟩ _ hC _ _ _
  have hlv := hC.lv.lt
  have hnv := hC.nv.lt
  have hl0 : w.cell? ⟨lv, 0, none⟩ = some (.bool later) := hC.lv.cell 0
  have hn0 : w.cell? ⟨nv, 0, none⟩ = some (.int .i64 m) := hC.nv.cell 0
  have HN := hide hC.nv
  clear hC
  cases later
  all_goals
    go_enter Tryd.func34, Tryd.ntmps34
    go_wp2
    refine wp_loop_rounds 1 ?_
    rw [rounds_succ]
    go_wp2_with fail
    have HC := hide (Ctx.start w 2 0 none 0 c)
    generalize (w.alloc (.cells #[.int .i64 2, .int .i64 0, .slice none 0 c] 24)).alloc (.cells #[.int .i64 0, .int .i64 0, .slice none 0 0] 24) = V at HC ⊢
    have hgV := (unhide HC).z.lt
    have KS := hide (show ∀ w', Kept (One (w.heap.size + 1)) V w' → (w'.cell? ⟨w.heap.size, 0, none⟩ = some (.int .i64 2) ∧ w'.cell? ⟨w.heap.size, 1, none⟩ = some (.int .i64 0) ∧ w'.cell? ⟨w.heap.size, 2, none⟩ = some (.slice none 0 c) ∧ w'.cell? ⟨nv, 0, none⟩ = some (.int .i64 m)) from fun w' hk =>
      have hx := (unhide HC).x.kept hk (one_ne (by omega))
      have hq := ((unhide HN).kept (unhide HC).kept id).kept hk (one_ne (by omega))
      ⟨hx.cell 0, hx.cell 1, hx.cell 2, hq.cell 0⟩)
    have HV := hide ((Kept.refl (One (w.heap.size + 1)) V).drew)
    have HC := hide ((unhide HC).go (Kept.refl No V).drew)
    go_region_held3 (fun w' => w'.cell? ⟨w.heap.size, 0, none⟩ = some (.int .i64 2) ∧ w'.cell? ⟨w.heap.size, 1, none⟩ = some (.int .i64 0) ∧ w'.cell? ⟨w.heap.size, 2, none⟩ = some (.slice none 0 c) ∧ w'.cell? ⟨nv, 0, none⟩ = some (.int .i64 m))
      (first
      | exact unhide KS _ (unhide HV)
      | exact unhide KS _ ((unhide HV).alloc _)
      | exact unhide KS _ ((((unhide HV).one 0 _).one 1 _).one 2 _)
      | exact unhide KS _ (((unhide HV).one 0 _).one 1 _)
      | exact unhide KS _ ((unhide HV).one 0 _)
      | fail)
      (first
        | (go_at_call 21; refine (num_any m _).mono ?_; rintro e w1 ⟨rfl, hK1⟩; have HC := hide ((unhide HC).go hK1); have HV := hide ((unhide HV).trans hK1 (fun _ _ h => h.elim)); clear hK1)
        | (go_at_call 19; refine (op2_at (F := FN No w) .sub (by rfl) _ .year (.num m) 2 0 none 0 c 1 m none 0 0 ⟨rfl, rfl, rfl⟩ (num_rd _ _ _) ((unhide HC).hF _ (Nat.le_refl _))).mono ?_; rintro e w2 ⟨k2, n2, A2, l2, c2, rfl, hR2, hK2⟩; have HC := hide ((unhide HC).go hK2); have HV := hide ((unhide HV).trans hK2 (fun _ _ h => h.elim)); have H2 := hide hR2; clear hR2 hK2; obtain ⟨f0, f1, f2, z0, z1, z2, hlt⟩ := (unhide HC).zs)
        | (go_at_call 19; refine (op2_at (F := FN No w) .add (by rfl) _ .year (.num m) 2 0 none 0 c 1 m none 0 0 ⟨rfl, rfl, rfl⟩ (num_rd _ _ _) ((unhide HC).hF _ (Nat.le_refl _))).mono ?_; rintro e w2 ⟨k2, n2, A2, l2, c2, rfl, hR2, hK2⟩; have HC := hide ((unhide HC).go hK2); have HV := hide ((unhide HV).trans hK2 (fun _ _ h => h.elim)); have H2 := hide hR2; clear hR2 hK2; obtain ⟨f0, f1, f2, z0, z1, z2, hlt⟩ := (unhide HC).zs)
        | fail)
    go_wp2_with fail
    refine bodyPost_ret (v := .agg #[.int .i64 k2, .int .i64 n2, .slice A2 l2 c2]) (by simp [results, Tryd.results34, go_sem, z0, z1, z2]) rfl ?_
    obtain ⟨hK, hR⟩ := (unhide HC).put_z (c1 := c2) (unhide H2)
    exact ⟨k2, n2, A2, l2, c2, rfl, hR.mono (fun i _ h => .inr (h.elim (fun h => h.elim) id)), hK.more (fun _ _ h => h.elim)⟩


/-- What holds while the closure walks its argument's operands. -/
structure Mst (U : List Nat) (w W : World) (k n : Int) (A : Option Addr) (l c b : Nat) (row : List Value) (wv lv nv : Nat) (later : Bool) (m : Int) : Prop where
  kept : Kept (fun i => i ∈ U) w W
  x : Blk W w.heap.size 24 #[.int .i64 k, .int .i64 n, .slice A l c]
  z : Blk W (w.heap.size + 1) 24 #[.int .i64 0, .int .i64 0, .slice none 0 0]
  caps : Caps34 W wv lv nv later m
  row : Row W b row
section
variable {U : List Nat} {w W W' : World} {k n : Int} {A : Option Addr} {l c b : Nat} {row : List Value} {wv lv nv : Nat} {later : Bool} {m : Int}
theorem Mst.go {S : Nat → Prop} (h : Mst U w W k n A l c b row wv lv nv later m) (hK : Kept S W W') (hU : ∀ i, S i → i ∈ U ∧ i < w.heap.size ∧ i ≠ b ∧ i ≠ wv ∧ i ≠ lv ∧ i ≠ nv) : Mst U w W' k n A l c b row wv lv nv later m :=
  ⟨h.kept.trans hK (fun i _ hi => (hU i hi).1), h.x.kept hK (fun hi => by have := hU _ hi; omega), h.z.kept hK (fun hi => by have := hU _ hi; omega),
    h.caps.kept hK (fun hi => (hU _ hi).2.2.2.1 rfl) (fun hi => (hU _ hi).2.2.2.2.1 rfl) (fun hi => (hU _ hi).2.2.2.2.2 rfl), h.row.kept hK (fun hi => (hU _ hi).2.2.1 rfl)⟩
theorem Mst.same (h : Mst U w W k n A l c b row wv lv nv later m) (hK : Kept No W W') : Mst U w W' k n A l c b row wv lv nv later m := h.go hK (fun _ h => h.elim)
theorem Mst.set (h : Mst U w W k n A l c b row wv lv nv later m) (hb : b ∈ U ∧ b < w.heap.size ∧ b ≠ wv ∧ b ≠ lv ∧ b ≠ nv) (i : Nat) (u : Value) : Mst U w (W.setCell ⟨b, i, none⟩ u) k n A l c b (row.set i u) wv lv nv later m := by
  have hK : Kept (One b) W (W.setCell ⟨b, i, none⟩ u) := (Kept.refl (One b) W).one i u
  obtain ⟨h1, h2, h3, h4, h5⟩ := hb
  exact ⟨h.kept.trans hK (fun j _ hj => by cases hj; exact h1), h.x.kept hK (one_ne (by omega)), h.z.kept hK (one_ne (by omega)),
    h.caps.kept hK (one_ne (Ne.symm h3)) (one_ne (Ne.symm h4)) (one_ne (Ne.symm h5)), h.row.set_ i u⟩
theorem Mst.zs (h : Mst U w W k n A l c b row wv lv nv later m) : W.frozen? ⟨w.heap.size + 1, 0, none⟩ = false ∧ W.frozen? ⟨w.heap.size + 1, 1, none⟩ = false ∧ W.frozen? ⟨w.heap.size + 1, 2, none⟩ = false ∧
    W.cell? ⟨w.heap.size + 1, 0, none⟩ = some (.int .i64 0) ∧ W.cell? ⟨w.heap.size + 1, 1, none⟩ = some (.int .i64 0) ∧ W.cell? ⟨w.heap.size + 1, 2, none⟩ = some (.slice none 0 0) ∧ w.heap.size + 1 < W.heap.size :=
  ⟨h.z.frozen 0, h.z.frozen 1, h.z.frozen 2, h.z.cell 0, h.z.cell 1, h.z.cell 2, h.z.lt⟩
theorem Mst.xs (h : Mst U w W k n A l c b row wv lv nv later m) : W.cell? ⟨w.heap.size, 0, none⟩ = some (.int .i64 k) ∧ W.cell? ⟨w.heap.size, 1, none⟩ = some (.int .i64 n) ∧ W.cell? ⟨w.heap.size, 2, none⟩ = some (.slice A l c) := ⟨h.x.cell 0, h.x.cell 1, h.x.cell 2⟩
end

set_option maxRecDepth 100000 in
set_option maxHeartbeats 8000000 in
theorem mov_neg (later : Bool) (m : Int) (b : Nat) (a : An) (ih : MovOk later m a) : MovOk later m (.neg b a) := by
  rintro w k n A l c wv lv nv ⟨rfl, rfl, rfl, rfl, k1, n1, A1, l1, c1, hr, hT⟩ hND hC hw1 hw2 hw3
  have hb1 : b ∉ a.blocks := (List.nodup_cons.1 hND).1
  have HND := hide (show a.blocks.Nodup from (List.nodup_cons.1 hND).2)
  clear hND
  have hlt := hide hT.lt
  have hbw := hr.lt
  have hwv := hC.wv.lt
  have hlv := hC.lv.lt
  have hnv := hC.nv.lt
  have hbne : b ≠ wv ∧ b ≠ lv ∧ b ≠ nv := ⟨fun h => hw1 (by simp [An.blocks, h]), fun h => hw2 (by simp [An.blocks, h]), fun h => hw3 (by simp [An.blocks, h])⟩
  have hv1 : wv ∉ a.blocks := fun h => hw1 (by simp [An.blocks, h])
  have hv2 : lv ∉ a.blocks := fun h => hw2 (by simp [An.blocks, h])
  have hv3 : nv ∉ a.blocks := fun h => hw3 (by simp [An.blocks, h])
  have r0 : w.cell? ⟨b, 0, none⟩ = some (.int .i64 k1) := hr.cell 0 rfl
  have r1 : w.cell? ⟨b, 1, none⟩ = some (.int .i64 n1) := hr.cell 1 rfl
  have r2 : w.cell? ⟨b, 2, none⟩ = some (.slice A1 l1 c1) := hr.cell 2 rfl
  have HT := hide hT
  have HBN := hide hbne
  have HS := hide (show ∀ i, i ∈ a.blocks → i ∈ (An.neg b a).blocks ∧ i < w.heap.size ∧ i ≠ b ∧ i ≠ wv ∧ i ≠ lv ∧ i ≠ nv from fun i hi => ⟨by simp [An.blocks, hi], unhide hlt i hi, fun h => hb1 (h ▸ hi), fun h => hv1 (h ▸ hi), fun h => hv2 (h ▸ hi), fun h => hv3 (h ▸ hi)⟩)
  have HR := hide hr
  have HC := hide hC
  have HW := hide (And.intro hv1 (And.intro hv2 hv3))
  clear hr hT hC hw1 hw2 hw3 hbne hv1 hv2 hv3 hb1
  go_enter Tryd.func34, Tryd.ntmps34
  go_wp2
  refine wp_loop_rounds 2 ?_
  rw [rounds_succ]
  go_wp2_with fail
  have HM := hide (show Mst (An.neg b a).blocks w (((w.alloc (.cells #[.int .i64 3, .int .i64 0, .slice (some ⟨b, 0, none⟩) 1 c] 24)).alloc (.cells #[.int .i64 0, .int .i64 0, .slice none 0 0] 24)).alloc (.cells #[.int .i64 k1, .int .i64 n1, .slice A1 l1 c1] 24)) 3 0 (some ⟨b, 0, none⟩) 1 c b (cell3 k1 n1 A1 l1 c1) wv lv nv later m from
    have hS := ((Kept.refl No w).alloc (.cells #[.int .i64 3, .int .i64 0, .slice (some ⟨b, 0, none⟩) 1 c] 24)).alloc (.cells #[.int .i64 0, .int .i64 0, .slice none 0 0] 24)
    have hK := hS.alloc (.cells #[.int .i64 k1, .int .i64 n1, .slice A1 l1 c1] 24)
    have hX := (Ctx.start w 3 0 (some ⟨b, 0, none⟩) 1 c)
    ⟨hK.more (fun _ _ h => h.elim), hX.x.alloc _, hX.z.alloc _, (unhide HC).kept hK id id id, (unhide HR).kept hK id⟩)
  have HT := hide ((unhide HT).kept (((Kept.refl No w).alloc (.cells #[.int .i64 3, .int .i64 0, .slice (some ⟨b, 0, none⟩) 1 c] 24)).alloc (.cells #[.int .i64 0, .int .i64 0, .slice none 0 0] 24) |>.alloc (.cells #[.int .i64 k1, .int .i64 n1, .slice A1 l1 c1] 24) |>.drew) (fun _ _ h => h))
  have HKV := hide (show Blk (((w.alloc (.cells #[.int .i64 3, .int .i64 0, .slice (some ⟨b, 0, none⟩) 1 c] 24)).alloc (.cells #[.int .i64 0, .int .i64 0, .slice none 0 0] 24)).alloc (.cells #[.int .i64 k1, .int .i64 n1, .slice A1 l1 c1] 24)) (w.heap.size + 1 + 1) 24 #[.int .i64 k1, .int .i64 n1, .slice A1 l1 c1] from Blk.at_ (by simp))
  generalize ((w.alloc (.cells #[.int .i64 3, .int .i64 0, .slice (some ⟨b, 0, none⟩) 1 c] 24)).alloc (.cells #[.int .i64 0, .int .i64 0, .slice none 0 0] 24)).alloc (.cells #[.int .i64 k1, .int .i64 n1, .slice A1 l1 c1] 24) = V at HM HT HKV ⊢
  clear r0 r1 r2
  have hVs := (unhide HKV).lt
  have KS := hide (show ∀ W' row, Mst (An.neg b a).blocks w W' 3 0 (some ⟨b, 0, none⟩) 1 c b row wv lv nv later m → Blk W' (w.heap.size + 1 + 1) 24 #[.int .i64 k1, .int .i64 n1, .slice A1 l1 c1] → (W'.cell? ⟨w.heap.size, 2, none⟩ = some (.slice (some ⟨b, 0, none⟩) 1 c) ∧ W'.cell? ⟨wv, 0, none⟩ = some (.func (Fn.func 34) #[] #[.pointer (some ⟨wv, 0, none⟩), .pointer (some ⟨lv, 0, none⟩), .pointer (some ⟨nv, 0, none⟩)]) ∧
      W'.cell? ⟨w.heap.size + 1 + 1, 0, none⟩ = some (.int .i64 k1) ∧ W'.cell? ⟨w.heap.size + 1 + 1, 1, none⟩ = some (.int .i64 n1) ∧ W'.cell? ⟨w.heap.size + 1 + 1, 2, none⟩ = some (.slice A1 l1 c1)) from fun W' row h hk => ⟨h.x.cell 2, h.caps.wv.cell 0, hk.cell 0, hk.cell 1, hk.cell 2⟩)
  have HB := hide (show b ∈ (An.neg b a).blocks ∧ b < w.heap.size ∧ b ≠ wv ∧ b ≠ lv ∧ b ≠ nv from ⟨by simp [An.blocks], hbw, unhide HBN⟩)
  have HM := hide ((unhide HM).same (Kept.refl No V).drew)
  have HKV := hide ((unhide HKV).kept (Kept.refl No V).drew id)
  go_region_held3 (fun W' => W'.cell? ⟨w.heap.size, 2, none⟩ = some (.slice (some ⟨b, 0, none⟩) 1 c) ∧ W'.cell? ⟨wv, 0, none⟩ = some (.func (Fn.func 34) #[] #[.pointer (some ⟨wv, 0, none⟩), .pointer (some ⟨lv, 0, none⟩), .pointer (some ⟨nv, 0, none⟩)]) ∧
      W'.cell? ⟨w.heap.size + 1 + 1, 0, none⟩ = some (.int .i64 k1) ∧ W'.cell? ⟨w.heap.size + 1 + 1, 1, none⟩ = some (.int .i64 n1) ∧ W'.cell? ⟨w.heap.size + 1 + 1, 2, none⟩ = some (.slice A1 l1 c1))
    (first
    | exact unhide KS _ _ (unhide HM) (unhide HKV)
    | exact unhide KS _ _ ((((unhide HM).set (unhide HB) 0 _).set (unhide HB) 1 _).set (unhide HB) 2 _) ((unhide HKV).kept ((((Kept.refl (One b) _).one 0 _).one 1 _).one 2 _) (one_ne (by omega)))
    | fail)
    (first
      | (go_at_call 34; refine (ih _ k1 n1 A1 l1 c1 wv lv nv (unhide HT) (unhide HND) (unhide HM).caps (unhide HW).1 (unhide HW).2.1 (unhide HW).2.2).mono ?_; rintro e w1 ⟨k2, n2, A2, l2, c2, rfl, hR2, hK2⟩
         have HKV := hide ((unhide HKV).kept hK2 (fun h => by have := unhide HS _ h; omega)); have HM := hide ((unhide HM).go hK2 (unhide HS)); have H2 := hide hR2; have hgr := hK2.size
         have f0 := (unhide HM).row.frozen 0; have f1 := (unhide HM).row.frozen 1; have f2 := (unhide HM).row.frozen 2
         have z0 := (unhide HM).row.cell 0 rfl; have z1 := (unhide HM).row.cell 1 rfl; have z2 := (unhide HM).row.cell 2 rfl; have hbl := (unhide HM).row.lt; clear hR2 hK2)
      | fail)
  clear f0 f1 f2 z0 z1 z2
  have HM := hide ((((unhide HM).set (unhide HB) 0 (.int .i64 k2)).set (unhide HB) 1 (.int .i64 n2)).set (unhide HB) 2 (.slice A2 l2 c2))
  have H2 := hide ((unhide H2).kept ((((Kept.refl (One b) w1).one 0 (.int .i64 k2)).one 1 (.int .i64 n2)).one 2 (.slice A2 l2 c2)) (fun i _ hi => one_ne (hi.elim (fun h => (unhide HS _ h).2.2.1) (fun h => by have : V.drew.heap.size = V.heap.size := rfl; omega))))
  generalize ((w1.setCell ⟨b, 0, none⟩ (.int .i64 k2)).setCell ⟨b, 1, none⟩ (.int .i64 n2)).setCell ⟨b, 2, none⟩ (.slice A2 l2 c2) = V2 at HM H2 ⊢
  obtain ⟨x0, x1, x2⟩ := (unhide HM).xs
  obtain ⟨f0, f1, f2, z0, z1, z2, hzl⟩ := (unhide HM).zs
  have hxl := (unhide HM).x.lt
  go_wp2_with fail
  rw [rounds_succ]
  go_wp2_with fail
  refine bodyPost_ret (v := .agg #[.int .i64 3, .int .i64 0, .slice (some ⟨b, 0, none⟩) 1 c]) (by simp [results, Tryd.results34, go_sem, z0, z1, z2]) rfl ?_
  have hz := (((Kept.refl (One (w.heap.size + 1)) V2).one 0 (.int .i64 3)).one 1 (.int .i64 0)).one 2 (.slice (some ⟨b, 0, none⟩) 1 c)
  have hrow := (unhide HM).row.kept hz (one_ne (by omega))
  have hd : V.drew.heap.size = V.heap.size := rfl
  have hR := ((unhide H2).kept hz (fun i _ hi => one_ne (hi.elim (fun h => by have := (unhide HS _ h).2.1; omega) (fun h => by omega)))).mono (F' := fun i => i ∈ (An.neg b a).blocks ∨ w.heap.size ≤ i) (fun i _ hi => hi.elim (fun h => .inl (unhide HS _ h).1) (fun h => .inr (by omega)))
  exact ⟨3, 0, some ⟨b, 0, none⟩, 1, c, rfl, Rd.mk1 (.inl (unhide HB).1) (hrow.cell 0 rfl) (hrow.cell 1 rfl) (hrow.cell 2 rfl) hR, (unhide HM).kept.trans hz (fun i hi h => by cases h; omega)⟩

set_option maxRecDepth 100000 in
set_option maxHeartbeats 8000000 in
theorem mov_not (later : Bool) (m : Int) (b : Nat) (a : An) (ih : MovOk later m a) : MovOk later m (.not b a) := by
  rintro w k n A l c wv lv nv ⟨rfl, rfl, rfl, rfl, k1, n1, A1, l1, c1, hr, hT⟩ hND hC hw1 hw2 hw3
  have hb1 : b ∉ a.blocks := (List.nodup_cons.1 hND).1
  have HND := hide (show a.blocks.Nodup from (List.nodup_cons.1 hND).2)
  clear hND
  have hlt := hide hT.lt
  have hbw := hr.lt
  have hwv := hC.wv.lt
  have hlv := hC.lv.lt
  have hnv := hC.nv.lt
  have hbne : b ≠ wv ∧ b ≠ lv ∧ b ≠ nv := ⟨fun h => hw1 (by simp [An.blocks, h]), fun h => hw2 (by simp [An.blocks, h]), fun h => hw3 (by simp [An.blocks, h])⟩
  have hv1 : wv ∉ a.blocks := fun h => hw1 (by simp [An.blocks, h])
  have hv2 : lv ∉ a.blocks := fun h => hw2 (by simp [An.blocks, h])
  have hv3 : nv ∉ a.blocks := fun h => hw3 (by simp [An.blocks, h])
  have r0 : w.cell? ⟨b, 0, none⟩ = some (.int .i64 k1) := hr.cell 0 rfl
  have r1 : w.cell? ⟨b, 1, none⟩ = some (.int .i64 n1) := hr.cell 1 rfl
  have r2 : w.cell? ⟨b, 2, none⟩ = some (.slice A1 l1 c1) := hr.cell 2 rfl
  have HT := hide hT
  have HBN := hide hbne
  have HS := hide (show ∀ i, i ∈ a.blocks → i ∈ (An.not b a).blocks ∧ i < w.heap.size ∧ i ≠ b ∧ i ≠ wv ∧ i ≠ lv ∧ i ≠ nv from fun i hi => ⟨by simp [An.blocks, hi], unhide hlt i hi, fun h => hb1 (h ▸ hi), fun h => hv1 (h ▸ hi), fun h => hv2 (h ▸ hi), fun h => hv3 (h ▸ hi)⟩)
  have HR := hide hr
  have HC := hide hC
  have HW := hide (And.intro hv1 (And.intro hv2 hv3))
  clear hr hT hC hw1 hw2 hw3 hbne hv1 hv2 hv3 hb1
  go_enter Tryd.func34, Tryd.ntmps34
  go_wp2
  refine wp_loop_rounds 2 ?_
  rw [rounds_succ]
  go_wp2_with fail
  have HM := hide (show Mst (An.not b a).blocks w (((w.alloc (.cells #[.int .i64 11, .int .i64 0, .slice (some ⟨b, 0, none⟩) 1 c] 24)).alloc (.cells #[.int .i64 0, .int .i64 0, .slice none 0 0] 24)).alloc (.cells #[.int .i64 k1, .int .i64 n1, .slice A1 l1 c1] 24)) 11 0 (some ⟨b, 0, none⟩) 1 c b (cell3 k1 n1 A1 l1 c1) wv lv nv later m from
    have hS := ((Kept.refl No w).alloc (.cells #[.int .i64 11, .int .i64 0, .slice (some ⟨b, 0, none⟩) 1 c] 24)).alloc (.cells #[.int .i64 0, .int .i64 0, .slice none 0 0] 24)
    have hK := hS.alloc (.cells #[.int .i64 k1, .int .i64 n1, .slice A1 l1 c1] 24)
    have hX := (Ctx.start w 11 0 (some ⟨b, 0, none⟩) 1 c)
    ⟨hK.more (fun _ _ h => h.elim), hX.x.alloc _, hX.z.alloc _, (unhide HC).kept hK id id id, (unhide HR).kept hK id⟩)
  have HT := hide ((unhide HT).kept (((Kept.refl No w).alloc (.cells #[.int .i64 11, .int .i64 0, .slice (some ⟨b, 0, none⟩) 1 c] 24)).alloc (.cells #[.int .i64 0, .int .i64 0, .slice none 0 0] 24) |>.alloc (.cells #[.int .i64 k1, .int .i64 n1, .slice A1 l1 c1] 24) |>.drew) (fun _ _ h => h))
  have HKV := hide (show Blk (((w.alloc (.cells #[.int .i64 11, .int .i64 0, .slice (some ⟨b, 0, none⟩) 1 c] 24)).alloc (.cells #[.int .i64 0, .int .i64 0, .slice none 0 0] 24)).alloc (.cells #[.int .i64 k1, .int .i64 n1, .slice A1 l1 c1] 24)) (w.heap.size + 1 + 1) 24 #[.int .i64 k1, .int .i64 n1, .slice A1 l1 c1] from Blk.at_ (by simp))
  generalize ((w.alloc (.cells #[.int .i64 11, .int .i64 0, .slice (some ⟨b, 0, none⟩) 1 c] 24)).alloc (.cells #[.int .i64 0, .int .i64 0, .slice none 0 0] 24)).alloc (.cells #[.int .i64 k1, .int .i64 n1, .slice A1 l1 c1] 24) = V at HM HT HKV ⊢
  clear r0 r1 r2
  have hVs := (unhide HKV).lt
  have KS := hide (show ∀ W' row, Mst (An.not b a).blocks w W' 11 0 (some ⟨b, 0, none⟩) 1 c b row wv lv nv later m → Blk W' (w.heap.size + 1 + 1) 24 #[.int .i64 k1, .int .i64 n1, .slice A1 l1 c1] → (W'.cell? ⟨w.heap.size, 2, none⟩ = some (.slice (some ⟨b, 0, none⟩) 1 c) ∧ W'.cell? ⟨wv, 0, none⟩ = some (.func (Fn.func 34) #[] #[.pointer (some ⟨wv, 0, none⟩), .pointer (some ⟨lv, 0, none⟩), .pointer (some ⟨nv, 0, none⟩)]) ∧
      W'.cell? ⟨w.heap.size + 1 + 1, 0, none⟩ = some (.int .i64 k1) ∧ W'.cell? ⟨w.heap.size + 1 + 1, 1, none⟩ = some (.int .i64 n1) ∧ W'.cell? ⟨w.heap.size + 1 + 1, 2, none⟩ = some (.slice A1 l1 c1)) from fun W' row h hk => ⟨h.x.cell 2, h.caps.wv.cell 0, hk.cell 0, hk.cell 1, hk.cell 2⟩)
  have HB := hide (show b ∈ (An.not b a).blocks ∧ b < w.heap.size ∧ b ≠ wv ∧ b ≠ lv ∧ b ≠ nv from ⟨by simp [An.blocks], hbw, unhide HBN⟩)
  have HM := hide ((unhide HM).same (Kept.refl No V).drew)
  have HKV := hide ((unhide HKV).kept (Kept.refl No V).drew id)
  go_region_held3 (fun W' => W'.cell? ⟨w.heap.size, 2, none⟩ = some (.slice (some ⟨b, 0, none⟩) 1 c) ∧ W'.cell? ⟨wv, 0, none⟩ = some (.func (Fn.func 34) #[] #[.pointer (some ⟨wv, 0, none⟩), .pointer (some ⟨lv, 0, none⟩), .pointer (some ⟨nv, 0, none⟩)]) ∧
      W'.cell? ⟨w.heap.size + 1 + 1, 0, none⟩ = some (.int .i64 k1) ∧ W'.cell? ⟨w.heap.size + 1 + 1, 1, none⟩ = some (.int .i64 n1) ∧ W'.cell? ⟨w.heap.size + 1 + 1, 2, none⟩ = some (.slice A1 l1 c1))
    (first
    | exact unhide KS _ _ (unhide HM) (unhide HKV)
    | exact unhide KS _ _ ((((unhide HM).set (unhide HB) 0 _).set (unhide HB) 1 _).set (unhide HB) 2 _) ((unhide HKV).kept ((((Kept.refl (One b) _).one 0 _).one 1 _).one 2 _) (one_ne (by omega)))
    | fail)
    (first
      | (go_at_call 34; refine (ih _ k1 n1 A1 l1 c1 wv lv nv (unhide HT) (unhide HND) (unhide HM).caps (unhide HW).1 (unhide HW).2.1 (unhide HW).2.2).mono ?_; rintro e w1 ⟨k2, n2, A2, l2, c2, rfl, hR2, hK2⟩
         have HKV := hide ((unhide HKV).kept hK2 (fun h => by have := unhide HS _ h; omega)); have HM := hide ((unhide HM).go hK2 (unhide HS)); have H2 := hide hR2; have hgr := hK2.size
         have f0 := (unhide HM).row.frozen 0; have f1 := (unhide HM).row.frozen 1; have f2 := (unhide HM).row.frozen 2
         have z0 := (unhide HM).row.cell 0 rfl; have z1 := (unhide HM).row.cell 1 rfl; have z2 := (unhide HM).row.cell 2 rfl; have hbl := (unhide HM).row.lt; clear hR2 hK2)
      | fail)
  clear f0 f1 f2 z0 z1 z2
  have HM := hide ((((unhide HM).set (unhide HB) 0 (.int .i64 k2)).set (unhide HB) 1 (.int .i64 n2)).set (unhide HB) 2 (.slice A2 l2 c2))
  have H2 := hide ((unhide H2).kept ((((Kept.refl (One b) w1).one 0 (.int .i64 k2)).one 1 (.int .i64 n2)).one 2 (.slice A2 l2 c2)) (fun i _ hi => one_ne (hi.elim (fun h => (unhide HS _ h).2.2.1) (fun h => by have : V.drew.heap.size = V.heap.size := rfl; omega))))
  generalize ((w1.setCell ⟨b, 0, none⟩ (.int .i64 k2)).setCell ⟨b, 1, none⟩ (.int .i64 n2)).setCell ⟨b, 2, none⟩ (.slice A2 l2 c2) = V2 at HM H2 ⊢
  obtain ⟨x0, x1, x2⟩ := (unhide HM).xs
  obtain ⟨f0, f1, f2, z0, z1, z2, hzl⟩ := (unhide HM).zs
  have hxl := (unhide HM).x.lt
  go_wp2_with fail
  rw [rounds_succ]
  go_wp2_with fail
  refine bodyPost_ret (v := .agg #[.int .i64 11, .int .i64 0, .slice (some ⟨b, 0, none⟩) 1 c]) (by simp [results, Tryd.results34, go_sem, z0, z1, z2]) rfl ?_
  have hz := (((Kept.refl (One (w.heap.size + 1)) V2).one 0 (.int .i64 11)).one 1 (.int .i64 0)).one 2 (.slice (some ⟨b, 0, none⟩) 1 c)
  have hrow := (unhide HM).row.kept hz (one_ne (by omega))
  have hd : V.drew.heap.size = V.heap.size := rfl
  have hR := ((unhide H2).kept hz (fun i _ hi => one_ne (hi.elim (fun h => by have := (unhide HS _ h).2.1; omega) (fun h => by omega)))).mono (F' := fun i => i ∈ (An.not b a).blocks ∨ w.heap.size ≤ i) (fun i _ hi => hi.elim (fun h => .inl (unhide HS _ h).1) (fun h => .inr (by omega)))
  exact ⟨11, 0, some ⟨b, 0, none⟩, 1, c, rfl, Rd.mk1 (.inl (unhide HB).1) (hrow.cell 0 rfl) (hrow.cell 1 rfl) (hrow.cell 2 rfl) hR, (unhide HM).kept.trans hz (fun i hi h => by cases h; omega)⟩


set_option maxRecDepth 100000 in
set_option maxHeartbeats 8000000 in
theorem mov_bin (later : Bool) (m : Int) (o : O2) (b : Nat) (x y : An) (ihx : MovOk later m x) (ihy : MovOk later m y) : MovOk later m (.bin o b x y) := by
  rintro w k n A l c wv lv nv ⟨rfl, rfl, rfl, rfl, k1, n1, A1, l1, c1, k4, n4, A4, l4, c4, hr, hTX, hTY⟩ hND hC hw1 hw2 hw3
  have d2 : (o.code == 2) = false := by cases o <;> rfl
  have hnd : b ∉ x.blocks ++ y.blocks ∧ (x.blocks ++ y.blocks).Nodup := List.nodup_cons.1 hND
  have hnd2 := List.nodup_append.1 hnd.2
  have HNX := hide hnd2.1
  have HNY := hide hnd2.2.1
  have HXY := hide (show ∀ i, i ∈ y.blocks → i ∉ x.blocks from fun i hy hx => hnd2.2.2 i hx i hy rfl)
  have hb1 : b ∉ x.blocks := fun h => hnd.1 (List.mem_append_left _ h)
  have hb2 : b ∉ y.blocks := fun h => hnd.1 (List.mem_append_right _ h)
  clear hND hnd hnd2
  have hltx := hide hTX.lt
  have hlty := hide hTY.lt
  have hbw := hr.lt
  have hwv := hC.wv.lt
  have hlv := hC.lv.lt
  have hnv := hC.nv.lt
  have hbne : b ≠ wv ∧ b ≠ lv ∧ b ≠ nv := ⟨fun h => hw1 (by simp [An.blocks, h]), fun h => hw2 (by simp [An.blocks, h]), fun h => hw3 (by simp [An.blocks, h])⟩
  have hv1 : wv ∉ x.blocks ∧ wv ∉ y.blocks := ⟨fun h => hw1 (by simp [An.blocks, h]), fun h => hw1 (by simp [An.blocks, h])⟩
  have hv2 : lv ∉ x.blocks ∧ lv ∉ y.blocks := ⟨fun h => hw2 (by simp [An.blocks, h]), fun h => hw2 (by simp [An.blocks, h])⟩
  have hv3 : nv ∉ x.blocks ∧ nv ∉ y.blocks := ⟨fun h => hw3 (by simp [An.blocks, h]), fun h => hw3 (by simp [An.blocks, h])⟩
  have r0 : w.cell? ⟨b, 0, none⟩ = some (.int .i64 k1) := hr.cell 0 rfl
  have r1 : w.cell? ⟨b, 1, none⟩ = some (.int .i64 n1) := hr.cell 1 rfl
  have r2 : w.cell? ⟨b, 2, none⟩ = some (.slice A1 l1 c1) := hr.cell 2 rfl
  have HTX := hide hTX
  have HTY := hide hTY
  have HBN := hide hbne
  have HSX := hide (show ∀ i, i ∈ x.blocks → i ∈ (An.bin o b x y).blocks ∧ i < w.heap.size ∧ i ≠ b ∧ i ≠ wv ∧ i ≠ lv ∧ i ≠ nv from fun i hi => ⟨by simp [An.blocks, hi], unhide hltx i hi, fun h => hb1 (h ▸ hi), fun h => hv1.1 (h ▸ hi), fun h => hv2.1 (h ▸ hi), fun h => hv3.1 (h ▸ hi)⟩)
  have HSY := hide (show ∀ i, i ∈ y.blocks → i ∈ (An.bin o b x y).blocks ∧ i < w.heap.size ∧ i ≠ b ∧ i ≠ wv ∧ i ≠ lv ∧ i ≠ nv from fun i hi => ⟨by simp [An.blocks, hi], unhide hlty i hi, fun h => hb2 (h ▸ hi), fun h => hv1.2 (h ▸ hi), fun h => hv2.2 (h ▸ hi), fun h => hv3.2 (h ▸ hi)⟩)
  have HR := hide hr
  have HC := hide hC
  have HW := hide (And.intro hv1 (And.intro hv2 hv3))
  clear hr hTX hTY hC hw1 hw2 hw3 hbne hv1 hv2 hv3 hb1 hb2
  go_enter Tryd.func34, Tryd.ntmps34
  go_wp2
  refine wp_loop_rounds 3 ?_
  rw [rounds_succ]
  go_wp2_with fail
  have HM := hide (show Mst (An.bin o b x y).blocks w (((w.alloc (.cells #[.int .i64 o.code, .int .i64 0, .slice (some ⟨b, 0, none⟩) 2 c] 24)).alloc (.cells #[.int .i64 0, .int .i64 0, .slice none 0 0] 24)).alloc (.cells #[.int .i64 k1, .int .i64 n1, .slice A1 l1 c1] 24)) o.code 0 (some ⟨b, 0, none⟩) 2 c b (cell3 k1 n1 A1 l1 c1 ++ cell3 k4 n4 A4 l4 c4) wv lv nv later m from
    have hS := ((Kept.refl No w).alloc (.cells #[.int .i64 o.code, .int .i64 0, .slice (some ⟨b, 0, none⟩) 2 c] 24)).alloc (.cells #[.int .i64 0, .int .i64 0, .slice none 0 0] 24)
    have hK := hS.alloc (.cells #[.int .i64 k1, .int .i64 n1, .slice A1 l1 c1] 24)
    have hX := (Ctx.start w o.code 0 (some ⟨b, 0, none⟩) 2 c)
    ⟨hK.more (fun _ _ h => h.elim), hX.x.alloc _, hX.z.alloc _, (unhide HC).kept hK id id id, (unhide HR).kept hK id⟩)
  have HKW := hide (((Kept.refl No w).alloc (.cells #[.int .i64 o.code, .int .i64 0, .slice (some ⟨b, 0, none⟩) 2 c] 24)).alloc (.cells #[.int .i64 0, .int .i64 0, .slice none 0 0] 24) |>.alloc (.cells #[.int .i64 k1, .int .i64 n1, .slice A1 l1 c1] 24) |>.drew)
  have HTX := hide ((unhide HTX).kept (unhide HKW) (fun _ _ h => h))
  have HTY := hide ((unhide HTY).kept (unhide HKW) (fun _ _ h => h))
  have HKV := hide (show Blk (((w.alloc (.cells #[.int .i64 o.code, .int .i64 0, .slice (some ⟨b, 0, none⟩) 2 c] 24)).alloc (.cells #[.int .i64 0, .int .i64 0, .slice none 0 0] 24)).alloc (.cells #[.int .i64 k1, .int .i64 n1, .slice A1 l1 c1] 24)) (w.heap.size + 1 + 1) 24 #[.int .i64 k1, .int .i64 n1, .slice A1 l1 c1] from Blk.at_ (by simp))
  generalize ((w.alloc (.cells #[.int .i64 o.code, .int .i64 0, .slice (some ⟨b, 0, none⟩) 2 c] 24)).alloc (.cells #[.int .i64 0, .int .i64 0, .slice none 0 0] 24)).alloc (.cells #[.int .i64 k1, .int .i64 n1, .slice A1 l1 c1] 24) = V at HM HTX HTY HKV HKW ⊢
  clear r0 r1 r2
  have hVs := (unhide HKV).lt
  have KS := hide (show ∀ kv kk nn AA ll cc W' row, Mst (An.bin o b x y).blocks w W' o.code 0 (some ⟨b, 0, none⟩) 2 c b row wv lv nv later m → Blk W' kv 24 #[.int .i64 kk, .int .i64 nn, .slice AA ll cc] → (W'.cell? ⟨w.heap.size, 2, none⟩ = some (.slice (some ⟨b, 0, none⟩) 2 c) ∧ W'.cell? ⟨wv, 0, none⟩ = some (.func (Fn.func 34) #[] #[.pointer (some ⟨wv, 0, none⟩), .pointer (some ⟨lv, 0, none⟩), .pointer (some ⟨nv, 0, none⟩)]) ∧
      W'.cell? ⟨kv, 0, none⟩ = some (.int .i64 kk) ∧ W'.cell? ⟨kv, 1, none⟩ = some (.int .i64 nn) ∧ W'.cell? ⟨kv, 2, none⟩ = some (.slice AA ll cc)) from fun kv kk nn AA ll cc W' row h hk => ⟨h.x.cell 2, h.caps.wv.cell 0, hk.cell 0, hk.cell 1, hk.cell 2⟩)
  have HB := hide (show b ∈ (An.bin o b x y).blocks ∧ b < w.heap.size ∧ b ≠ wv ∧ b ≠ lv ∧ b ≠ nv from ⟨by simp [An.blocks], hbw, unhide HBN⟩)
  have HM := hide ((unhide HM).same (Kept.refl No V).drew)
  have HKV := hide ((unhide HKV).kept (Kept.refl No V).drew id)
  go_region_held3 (fun W' => W'.cell? ⟨w.heap.size, 2, none⟩ = some (.slice (some ⟨b, 0, none⟩) 2 c) ∧ W'.cell? ⟨wv, 0, none⟩ = some (.func (Fn.func 34) #[] #[.pointer (some ⟨wv, 0, none⟩), .pointer (some ⟨lv, 0, none⟩), .pointer (some ⟨nv, 0, none⟩)]) ∧
      W'.cell? ⟨w.heap.size + 1 + 1, 0, none⟩ = some (.int .i64 k1) ∧ W'.cell? ⟨w.heap.size + 1 + 1, 1, none⟩ = some (.int .i64 n1) ∧ W'.cell? ⟨w.heap.size + 1 + 1, 2, none⟩ = some (.slice A1 l1 c1))
    (first
    | exact unhide KS _ _ _ _ _ _ _ _ (unhide HM) (unhide HKV)
    | exact unhide KS _ _ _ _ _ _ _ _ ((((unhide HM).set (unhide HB) 0 _).set (unhide HB) 1 _).set (unhide HB) 2 _) ((unhide HKV).kept ((((Kept.refl (One b) _).one 0 _).one 1 _).one 2 _) (one_ne (by omega)))
    | fail)
    (first
      | (go_at_call 34; refine (ihx _ k1 n1 A1 l1 c1 wv lv nv (unhide HTX) (unhide HNX) (unhide HM).caps (unhide HW).1.1 (unhide HW).2.1.1 (unhide HW).2.2.1).mono ?_; rintro e w1 ⟨k2, n2, A2, l2, c2, rfl, hR2, hK2⟩
         have HKV := hide ((unhide HKV).kept hK2 (fun h => by have := unhide HSX _ h; omega)); have HM := hide ((unhide HM).go hK2 (unhide HSX)); have H2 := hide hR2; have hgr := hK2.size
         have HTY := hide ((unhide HTY).kept hK2 (fun i hi => unhide HXY i hi))
         have f0 := (unhide HM).row.frozen 0; have f1 := (unhide HM).row.frozen 1; have f2 := (unhide HM).row.frozen 2
         have z0 := (unhide HM).row.cell 0 rfl; have z1 := (unhide HM).row.cell 1 rfl; have z2 := (unhide HM).row.cell 2 rfl; have hbl := (unhide HM).row.lt; clear hR2 hK2)
      | fail)
  clear f0 f1 f2 z0 z1 z2
  have HM := hide ((((unhide HM).set (unhide HB) 0 (.int .i64 k2)).set (unhide HB) 1 (.int .i64 n2)).set (unhide HB) 2 (.slice A2 l2 c2))
  have hd : V.drew.heap.size = V.heap.size := rfl
  have HK3 := hide ((((Kept.refl (One b) w1).one 0 (.int .i64 k2)).one 1 (.int .i64 n2)).one 2 (.slice A2 l2 c2))
  have H2 := hide ((unhide H2).kept (unhide HK3) (fun i _ hi => one_ne (hi.elim (fun h => (unhide HSX _ h).2.2.1) (fun h => by omega))))
  have HTY := hide ((unhide HTY).kept (unhide HK3) (fun i hi => one_ne (unhide HSY _ hi).2.2.1))
  have hV2 := (unhide HK3).size
  generalize ((w1.setCell ⟨b, 0, none⟩ (.int .i64 k2)).setCell ⟨b, 1, none⟩ (.int .i64 n2)).setCell ⟨b, 2, none⟩ (.slice A2 l2 c2) = V2 at HM H2 HTY hV2 HK3 ⊢
  clear HKV
  obtain ⟨x0, x1, x2⟩ := (unhide HM).xs
  have r3 : V2.cell? ⟨b, 3, none⟩ = some (.int .i64 k4) := (unhide HM).row.cell 3 rfl
  have r4 : V2.cell? ⟨b, 4, none⟩ = some (.int .i64 n4) := (unhide HM).row.cell 4 rfl
  have r5 : V2.cell? ⟨b, 5, none⟩ = some (.slice A4 l4 c4) := (unhide HM).row.cell 5 rfl
  have hxl := (unhide HM).x.lt
  have hbl2 := (unhide HM).row.lt
  go_wp2_with fail
  rw [rounds_succ]
  go_wp2_with fail
  have HM := hide ((unhide HM).same (((Kept.refl No V2).alloc (.cells #[.int .i64 k4, .int .i64 n4, .slice A4 l4 c4] 24)).drew))
  have H2 := hide ((unhide H2).kept (((Kept.refl No V2).alloc (.cells #[.int .i64 k4, .int .i64 n4, .slice A4 l4 c4] 24)).drew) (fun _ _ _ h => h))
  have HTY := hide ((unhide HTY).kept (((Kept.refl No V2).alloc (.cells #[.int .i64 k4, .int .i64 n4, .slice A4 l4 c4] 24)).drew) (fun _ _ h => h))
  have HKV := hide (show Blk (V2.alloc (.cells #[.int .i64 k4, .int .i64 n4, .slice A4 l4 c4] 24)).drew V2.heap.size 24 #[.int .i64 k4, .int .i64 n4, .slice A4 l4 c4] from (Blk.new V2 24 _).drew)
  clear r3 r4 r5 x0 x1 x2
  generalize hV3 : V2.alloc (.cells #[.int .i64 k4, .int .i64 n4, .slice A4 l4 c4] 24) = V3 at HM H2 HTY HKV ⊢
  have hd3 : V3.drew.heap.size = V3.heap.size := rfl
  have hV3s : V2.heap.size < V3.heap.size := (unhide HKV).lt
  clear hV3
  go_region_held3 (fun W' => W'.cell? ⟨w.heap.size, 2, none⟩ = some (.slice (some ⟨b, 0, none⟩) 2 c) ∧ W'.cell? ⟨wv, 0, none⟩ = some (.func (Fn.func 34) #[] #[.pointer (some ⟨wv, 0, none⟩), .pointer (some ⟨lv, 0, none⟩), .pointer (some ⟨nv, 0, none⟩)]) ∧
      W'.cell? ⟨V2.heap.size, 0, none⟩ = some (.int .i64 k4) ∧ W'.cell? ⟨V2.heap.size, 1, none⟩ = some (.int .i64 n4) ∧ W'.cell? ⟨V2.heap.size, 2, none⟩ = some (.slice A4 l4 c4))
    (first
    | exact unhide KS _ _ _ _ _ _ _ _ (unhide HM) (unhide HKV)
    | exact unhide KS _ _ _ _ _ _ _ _ ((((unhide HM).set (unhide HB) 3 _).set (unhide HB) 4 _).set (unhide HB) 5 _) ((unhide HKV).kept ((((Kept.refl (One b) _).one 3 _).one 4 _).one 5 _) (one_ne (by omega)))
    | fail)
    (first
      | (go_at_call 34; refine (ihy _ k4 n4 A4 l4 c4 wv lv nv (unhide HTY) (unhide HNY) (unhide HM).caps (unhide HW).1.2 (unhide HW).2.1.2 (unhide HW).2.2.2).mono ?_; rintro e w3 ⟨k5, n5, A5, l5, c5, rfl, hR2, hK2⟩
         have HKV := hide ((unhide HKV).kept hK2 (fun h => by have := unhide HSY _ h; omega)); have HM := hide ((unhide HM).go hK2 (unhide HSY)); have H5 := hide hR2; have hgr := hK2.size
         have H2 := hide ((unhide H2).kept hK2 (fun i _ hi hy => hi.elim (fun h => unhide HXY _ hy h) (fun h => by have := (unhide HSY _ hy).2.1; omega)))
         have f0 := (unhide HM).row.frozen 3; have f1 := (unhide HM).row.frozen 4; have f2 := (unhide HM).row.frozen 5
         have z0 := (unhide HM).row.cell 3 rfl; have z1 := (unhide HM).row.cell 4 rfl; have z2 := (unhide HM).row.cell 5 rfl; have hbl := (unhide HM).row.lt; clear hR2 hK2)
      | fail)
  clear f0 f1 f2 z0 z1 z2
  have HM := hide ((((unhide HM).set (unhide HB) 3 (.int .i64 k5)).set (unhide HB) 4 (.int .i64 n5)).set (unhide HB) 5 (.slice A5 l5 c5))
  have HK5 := hide ((((Kept.refl (One b) w3).one 3 (.int .i64 k5)).one 4 (.int .i64 n5)).one 5 (.slice A5 l5 c5))
  have H2 := hide ((unhide H2).kept (unhide HK5) (fun i _ hi => one_ne (hi.elim (fun h => (unhide HSX _ h).2.2.1) (fun h => by omega))))
  have H5 := hide ((unhide H5).kept (unhide HK5) (fun i _ hi => one_ne (hi.elim (fun h => (unhide HSY _ h).2.2.1) (fun h => by omega))))
  generalize ((w3.setCell ⟨b, 3, none⟩ (.int .i64 k5)).setCell ⟨b, 4, none⟩ (.int .i64 n5)).setCell ⟨b, 5, none⟩ (.slice A5 l5 c5) = V4 at HM H2 H5 ⊢
  clear HKV HK5
  obtain ⟨x0, x1, x2⟩ := (unhide HM).xs
  obtain ⟨f0, f1, f2, z0, z1, z2, hzl⟩ := (unhide HM).zs
  have hxl := (unhide HM).x.lt
  go_wp2_with fail
  rw [rounds_succ]
  go_wp2_with fail
  refine bodyPost_ret (v := .agg #[.int .i64 o.code, .int .i64 0, .slice (some ⟨b, 0, none⟩) 2 c]) (by simp [results, Tryd.results34, go_sem, z0, z1, z2]) rfl ?_
  have hz := (((Kept.refl (One (w.heap.size + 1)) V4).one 0 (.int .i64 o.code)).one 1 (.int .i64 0)).one 2 (.slice (some ⟨b, 0, none⟩) 2 c)
  have hrow := (unhide HM).row.kept hz (one_ne (by omega))
  have hR2 := ((unhide H2).kept hz (fun i _ hi => one_ne (hi.elim (fun h => by have := (unhide HSX _ h).2.1; omega) (fun h => by omega)))).mono (F' := fun i => i ∈ (An.bin o b x y).blocks ∨ w.heap.size ≤ i) (fun i _ hi => hi.elim (fun h => .inl (unhide HSX _ h).1) (fun h => .inr (by omega)))
  have hR5 := ((unhide H5).kept hz (fun i _ hi => one_ne (hi.elim (fun h => by have := (unhide HSY _ h).2.1; omega) (fun h => by omega)))).mono (F' := fun i => i ∈ (An.bin o b x y).blocks ∨ w.heap.size ≤ i) (fun i _ hi => hi.elim (fun h => .inl (unhide HSY _ h).1) (fun h => .inr (by omega)))
  exact ⟨o.code, 0, some ⟨b, 0, none⟩, 2, c, rfl, Rd.mk2 (.inl (unhide HB).1) (hrow.cell 0 rfl) (hrow.cell 1 rfl) (hrow.cell 2 rfl) hR2 (hrow.cell 3 rfl) (hrow.cell 4 rfl) (hrow.cell 5 rfl) hR5, (unhide HM).kept.trans hz (fun i hi h => by cases h; omega)⟩

theorem mov_any (later : Bool) (m : Int) (a : An) : MovOk later m a := by
  induction a with
  | num q => exact mov_num later m q
  | year => exact mov_year later m
  | neg b a ih => exact mov_neg later m b a ih
  | not b a ih => exact mov_not later m b a ih
  | bin o b x y ihx ihy => exact mov_bin later m o b x y ihx ihy

end Go.Proofs.YtmjmcjcckncplaaDoor
