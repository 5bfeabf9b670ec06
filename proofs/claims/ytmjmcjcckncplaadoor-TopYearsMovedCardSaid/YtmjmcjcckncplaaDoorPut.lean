/- wPut's closure (function 43): one part replaced, of those for which there is another. -/
import Derived.Test.YtmjmcjcckncplaaDoorNodesB
import Derived.Test.YtmjmcjcckncplaaDoorNodesC
import Derived.Deep.RegionHeld3
namespace Go.Proofs.YtmjmcjcckncplaaDoor
open Go.RowKit Go.BigFrame

/-- What a function leaves that answers with another expression, or none. -/
def ByPost (w : World) (F : Nat → Prop) (r : Option E) (e : Ending) (w' : World) : Prop :=
  ∃ k n A l c, e = .returned (.tuple #[.agg #[.int .i64 k, .int .i64 n, .slice A l c], .bool r.isSome]) ∧ Kept No w w' ∧ ∀ t', r = some t' → Rd w' (fun i => F i ∨ w.heap.size ≤ i) k n A l t'.r
/-- Function N with what it has captured answers as by_. -/
def ByOk (N : Nat) (caps : Array Value) (w0 : World) (by_ : E → Bool → Option E) : Prop :=
  ∀ w F k n A l c t tr, NumOk t → Kept No w0 w → Rd w F k n A l t.r → Calls Tryd.prog N (#[.agg #[.int .i64 k, .int .i64 n, .slice A l c], .bool tr] ++ caps) w (ByPost w F (by_ t tr))

theorem nodes_free (a : An) : ∀ (w : World) (p o : Nat) (tr : Bool) (k n : Int) (A : Option Addr) (l : Nat), TV w k n A l a → (∀ j, w.frozen? ⟨p, j, none⟩ = false) → ∀ e, e ∈ nodes a p o tr → ∀ j, w.frozen? ⟨e.1, j, none⟩ = false := by
  have row : ∀ {w : World} {b : Nat} {vs : List Value}, Row w b vs → ∀ j, w.frozen? ⟨b, j, none⟩ = false := by
    rintro w b vs ⟨cs, h, _⟩ j
    simp [World.frozen?, h]
  induction a with
  | num m => intro w p o tr k n A l _ hp e he; simp only [nodes, List.mem_singleton] at he; subst he; exact hp
  | year => intro w p o tr k n A l _ hp e he; simp only [nodes, List.mem_singleton] at he; subst he; exact hp
  | neg b a ih =>
    rintro w p o tr k n A l ⟨_, _, _, _, k1, n1, A1, l1, c1, hr, ht⟩ hp e he
    rcases List.mem_cons.1 he with rfl | he
    · exact hp
    · exact ih w b 0 false k1 n1 A1 l1 ht (row hr) e he
  | not b a ih =>
    rintro w p o tr k n A l ⟨_, _, _, _, k1, n1, A1, l1, c1, hr, ht⟩ hp e he
    rcases List.mem_cons.1 he with rfl | he
    · exact hp
    · exact ih w b 0 true k1 n1 A1 l1 ht (row hr) e he
  | bin op b x y ihx ihy =>
    rintro w p o tr k n A l ⟨_, _, _, _, k1, n1, A1, l1, c1, k2, n2, A2, l2, c2, hr, hx, hy⟩ hp e he
    rcases List.mem_cons.1 he with rfl | he
    · exact hp
    · rcases List.mem_append.1 he with he | he
      · exact ihx w b 0 _ k1 n1 A1 l1 hx (row hr) e he
      · exact ihy w b 3 _ k2 n2 A2 l2 hy (row hr) e he

/-- A node for which there is another expression. -/
def Hit (by_ : E → Bool → Option E) (w : World) (a : An) (b : Nat) (e : Nat × Nat × Bool) : Prop :=
  e ∈ nodes a b 0 false ∧ ∃ s s', At w e.1 e.2.1 s ∧ NumOk s.e ∧ by_ s.e e.2.2 = some s' ∧ (∀ j, w.frozen? ⟨e.1, j, none⟩ = false) ∧ ∀ (W : World) (s'' : E), Upd w W e.1 e.2.1 → Reads W e.1 e.2.1 s'' → by_ s.e e.2.2 = some s'' → ∃ t', Repl by_ a.e false t' ∧ Reads W b 0 t'

theorem hbl_up {V : World} {o : Obj} {i : Nat} (h : (V.alloc o).drew.heap.size ≤ i) : V.heap.size < i := by simp at h; omega

theorem blk_c3 {w : World} {b : Nat} {cs : Array Value} {k n : Int} {A : Option Addr} {l c : Nat} (h : Blk w b 24 cs) (hs : cs.size = 3) (hc : C3 w b 0 k n A l c) : Blk w b 24 #[.int .i64 k, .int .i64 n, .slice A l c] := by
  obtain ⟨h0, h1, h2⟩ := hc
  rw [h.cell] at h0 h1 h2
  have e : cs = #[.int .i64 k, .int .i64 n, .slice A l c] := by
    apply Array.ext_getElem?
    intro i
    match i with
    | 0 => simpa using h0
    | 1 => simpa using h1
    | 2 => simpa using h2
    | i + 3 => rw [Array.getElem?_eq_none (by omega)]; simp
  rw [← e]; exact h

theorem c3_set {W : World} {p o : Nat} {k n : Int} {A : Option Addr} {l c : Nat} (h : C3 W p o k n A l c) (k' n' : Int) (A' : Option Addr) (l' c' : Nat) :
    C3 (((W.setCell ⟨p, o, none⟩ (.int .i64 k')).setCell ⟨p, o + 1, none⟩ (.int .i64 n')).setCell ⟨p, o + 2, none⟩ (.slice A' l' c')) p o k' n' A' l' c' := by
  obtain ⟨h0, h1, h2⟩ := h
  have e10 : (⟨p, o + 1, none⟩ : Addr) ≠ ⟨p, o, none⟩ := by simp
  have e20 : (⟨p, o + 2, none⟩ : Addr) ≠ ⟨p, o, none⟩ := by simp
  have e21 : (⟨p, o + 2, none⟩ : Addr) ≠ ⟨p, o + 1, none⟩ := by simp
  have e01 : (⟨p, o, none⟩ : Addr) ≠ ⟨p, o + 1, none⟩ := by simp
  have e02 : (⟨p, o, none⟩ : Addr) ≠ ⟨p, o + 2, none⟩ := by simp
  have e12 : (⟨p, o + 1, none⟩ : Addr) ≠ ⟨p, o + 2, none⟩ := by simp
  refine ⟨?_, ?_, ?_⟩
  · exact (World.cell?_setCell_other _ _ _ _ e20).trans ((World.cell?_setCell_other _ _ _ _ e10).trans (World.cell?_setCell_same _ _ _ h0))
  · exact (World.cell?_setCell_other _ _ _ _ e21).trans (World.cell?_setCell_same _ _ _ ((World.cell?_setCell_other _ _ _ _ e01).trans h1))
  · exact World.cell?_setCell_same _ _ _ ((World.cell?_setCell_other _ _ _ _ e12).trans ((World.cell?_setCell_other _ _ _ _ e02).trans h2))
theorem blk_set3 {W : World} {b : Nat} {k n : Int} {A : Option Addr} {l c : Nat} (h : Blk W b 24 #[.int .i64 k, .int .i64 n, .slice A l c]) (p o : Nat) (u v x : Value) :
    ∃ cs : Array Value, cs.size = 3 ∧ Blk (((W.setCell ⟨p, o, none⟩ u).setCell ⟨p, o + 1, none⟩ v).setCell ⟨p, o + 2, none⟩ x) b 24 cs := by
  by_cases hp : b = p
  · subst hp; exact ⟨_, by simp, ((h.set_ _ _).set_ _ _).set_ _ _⟩
  · exact ⟨_, rfl, ((h.far (p := ⟨p, o, none⟩) hp _).far (p := ⟨p, o + 1, none⟩) hp _).far (p := ⟨p, o + 2, none⟩) hp _⟩

theorem flat_at (l : List (Nat × Nat × Bool)) (j : Nat) (e : Nat × Nat × Bool) (h : l[j]? = some e) : (flat l)[2 * j]? = some (.pointer (some ⟨e.1, e.2.1, none⟩)) ∧ (flat l)[2 * j + 1]? = some (.bool e.2.2) := by
  induction l generalizing j with
  | nil => simp at h
  | cons x l ih =>
    obtain ⟨p, o, tr⟩ := x
    cases j with
    | zero => simp only [List.getElem?_cons_zero, Option.some.injEq] at h; subst h; exact ⟨rfl, rfl⟩
    | succ j =>
      simp only [List.getElem?_cons_succ] at h
      have := ih j h
      rw [show 2 * (j + 1) = 2 * j + 2 by omega]
      simpa [flat] using this
theorem flat_len (l : List (Nat × Nat × Bool)) : (flat l).length = 2 * l.length := by
  induction l with
  | nil => rfl
  | cons x l ih => obtain ⟨p, o, tr⟩ := x; simp [flat, ih]; omega

set_option maxRecDepth 100000 in
set_option maxHeartbeats 8000000 in
theorem put_chg (hr : ∀ a, RulesOk a) (N : Nat) (caps : Array Value) (w0 : World) (fb xb : Nat) (which : Int) (by_ : E → Bool → Option E) (t : E) (y v : Int) (hf : Blk w0 fb 32 #[.func (Fn.func N) #[] caps]) (hx : Blk w0 xb 3 #[.int .i64 which])
    (hent : ∀ (args : Array Value) (w : World), (callFunc N args).run Tryd.prog w = .ok (.enter N args) w) (hby : ByOk N caps w0 by_) (hsz : ∀ a : An, a.e = t → a.sz ≤ 60) (hN0 : NumOk t) (hlaw : ∀ t', Repl by_ t false t' → Same t' y v) :
    ChgOk 43 #[.pointer (some ⟨fb, 0, none⟩), .pointer (some ⟨xb, 0, none⟩)] w0 t y v := by
  intro w b q k n A l c a hK0 hB hQ hbq hb0 hq0 hT hae hnd hbl
  have HF := hide (hf.kept hK0 id)
  have HX := hide (hx.kept hK0 id)
  have HK0 := hide hK0
  have HB := hide hB
  have HQ := hide hQ
  have HT := hide hT
  have HAE := hide hae
  have HND := hide hnd
  have HBL := hide hbl
  have HBY := hide hby
  have HLAW := hide hlaw
  have HNA := hide (show NumOk a.e from hae ▸ hN0)
  have HR := hide (hr a)
  have HSZ := hide (hsz a hae)
  have HF0 := hide hf
  have HX0 := hide hx
  have hbw := hB.lt
  have hqw := hQ.lt
  clear hr hf hx hK0 hB hQ hT hae hnd hbl hby hlaw hsz hN0
  go_enter Tryd.func43, Tryd.ntmps43
  go_wp2_with fail
  have HAt := hide (show At (w.alloc (.cells #[.slice none 0 0] 38)) b 0 a from
    ⟨k, n, A, l, c, ⟨((unhide HB).alloc _).cell 0, ((unhide HB).alloc _).cell 1, ((unhide HB).alloc _).cell 2⟩, (unhide HT).kept ((Kept.refl No w).alloc _) (fun _ _ => id)⟩)
  refine (unhide HR _ b 0 false w.heap.size w.heap.size 0 (.slice none 0 0) [] (unhide HAt) hbw (fun i hi => (unhide HT).lt i hi) (Blk.new w 38 _) (Nat.le_refl _) (World.ownsRow_nil _ _ _ _) (by simp [Value.ownBlock]) (by have := unhide HSZ; omega)).mono ?_
  rintro e w2 ⟨rfl, va, hO2, hown2, hvo2, hK2⟩
  have hK2b : Kept (fun i => w.heap.size ≤ i) w w2 := ((Kept.refl _ w).alloc _).trans hK2 (fun _ _ h => h)
  have hKn : Kept No w w2 := hK2b.more (fun i hi h => by omega)
  have HREP := hide (repl_at by_ a w b 0 false ⟨k, n, A, l, c, ⟨(unhide HB).cell 0, (unhide HB).cell 1, (unhide HB).cell 2⟩, unhide HT⟩ (unhide HND) (fun h => (unhide HBL b h).2.1 rfl))
  have HFR := hide (nodes_free a w b 0 false k n A l (unhide HT) (unhide HB).frozen)
  have hLn : (nodes a b 0 false).length = a.sz := nodes_len a b 0 false
  have hLp : 0 < (nodes a b 0 false).length := by rw [hLn]; cases a <;> simp [An.sz]
  have hL60 : (nodes a b 0 false).length ≤ 60 := by rw [hLn]; exact unhide HSZ
  rw [Nat.zero_add, List.nil_append] at hown2
  generalize hLq : nodes a b 0 false = L at *
  have HLQ := hide hLq
  clear hLq
  have hva : ¬ va = .slice none 0 0 := by
    rintro rfl
    rcases hown2.2 with ⟨_, h2⟩ | ⟨g, cap, cur, hv, _⟩
    · omega
    · cases hv
  obtain ⟨ga, ca, rfl, hga⟩ := own_form hown2 hva
  have HCA := hide (fun (i : Nat) (hi : i < L.length * 2) => World.ownsRow.cellAt hown2 i hi)
  have o0 : w2.cell? ⟨w.heap.size, 0, none⟩ = some (.slice (some ⟨ga, 0, none⟩) L.length ca) := by rw [hO2.cell]; rfl
  have HKn := hide hKn
  have hs2 := hKn.size
  clear hO2 hown2 hvo2 hK2 hK2b hKn hva hLn
  go_wp2_with fail
  obtain ⟨i0, hi, hz0, hz1, hz2⟩ := info_parts info42
  go_loopg [8, 20] L.length (fun k' v8 v20 wr => ∃ (j : Nat) (M : List (Nat × Nat × Bool)), v20 = .int .i64 j ∧ j ≤ L.length ∧ L.length - j = k' ∧ M.length ≤ j ∧ (∀ e ∈ M, Hit by_ w a b e) ∧ wr.ownsRow w2.heap.size 42 2 v8 M.length (flat M) ∧ Kept No w2 wr)
  case atStart => exact ⟨0, [], rfl, Nat.zero_le _, rfl, Nat.zero_le _, fun e he => absurd he (List.not_mem_nil), World.ownsRow_nil _ _ _ _, Kept.refl _ _⟩
  case round =>
    obtain ⟨j, M, rfl, hj, hjk, hMj, hM, hown, hKr⟩ := hrel
    have HM := hide hM
    have HOWN := hide hown
    have HKr := hide hKr
    have HJK := hide hjk
    clear hM hown hKr hjk
    by_cases hjl : j < L.length
    · have HJL := hide hjl
      have dj : decide ((j : Int) < (L.length : Int)) = true := by simp; omega
      have dj2 : decide (j < L.length) = true := by simp; omega
      obtain ⟨⟨ep, eo, et⟩, hej⟩ : ∃ e, L[j]? = some e := ⟨_, List.getElem?_eq_getElem hjl⟩
      obtain ⟨he1, he2⟩ := flat_at L j _ hej
      have a0 : wr.cell? ⟨ga, 2 * j, none⟩ = some (.pointer (some ⟨ep, eo, none⟩)) := (unhide HKr).cell ((unhide HCA (2 * j) (by omega)).trans he1) id
      have a1 : wr.cell? ⟨ga, 2 * j + 1, none⟩ = some (.bool et) := (unhide HKr).cell ((unhide HCA (2 * j + 1) (by omega)).trans he2) id
      have a0 : wr.cell? ⟨ga, j * 2, none⟩ = some (.pointer (some ⟨ep, eo, none⟩)) := by rw [Nat.mul_comm]; exact a0
      have a1 : wr.cell? ⟨ga, j * 2 + 1, none⟩ = some (.bool et) := by rw [Nat.mul_comm]; exact a1
      have HEJ := hide hej
      clear hej he1 he2
      go_wp2_with fail
      have HV : Hid (Kept No w (wr.alloc (.cells #[.pointer (some ⟨ep, eo, none⟩), .bool et] 42))) := hide (((unhide HKn).trans (unhide HKr) (fun _ _ h => h)).alloc _)
      have HT10 := hide (Blk.new wr 42 #[.pointer (some ⟨ep, eo, none⟩), .bool et])
      have HKr2 := hide ((unhide HKr).alloc (.cells #[.pointer (some ⟨ep, eo, none⟩), .bool et] 42))
      have HOW2 := hide (own_kept (unhide HOWN) ((Kept.refl No wr).alloc (.cells #[.pointer (some ⟨ep, eo, none⟩), .bool et] 42)) (fun _ _ => id))
      have hwr : w2.heap.size ≤ wr.heap.size := (unhide HKr).size
      generalize wr.alloc (.cells #[.pointer (some ⟨ep, eo, none⟩), .bool et] 42) = V at HV HT10 HKr2 HOW2 ⊢
      obtain ⟨sN, ⟨k1, n1, A1, l1, c1, hc3, hTs⟩, hNs, hRep⟩ := unhide HREP _ (List.mem_of_getElem? (unhide HEJ))
      have HC3 := hide hc3
      have HTS := hide hTs
      have HRp := hide hRep
      have HNS := hide (hNs (unhide HNA))
      have KS := hide (show ∀ w', Kept No V w' → (w'.cell? ⟨fb, 0, none⟩ = some (.func (Fn.func N) #[] caps) ∧ w'.cell? ⟨wr.heap.size, 0, none⟩ = some (.pointer (some ⟨ep, eo, none⟩)) ∧ w'.cell? ⟨wr.heap.size, 1, none⟩ = some (.bool et) ∧
        w'.cell? ⟨ep, eo, none⟩ = some (.int .i64 k1) ∧ w'.cell? ⟨ep, eo + 1, none⟩ = some (.int .i64 n1) ∧ w'.cell? ⟨ep, eo + 2, none⟩ = some (.slice A1 l1 c1)) from fun w' hk =>
        ⟨((unhide HF).kept ((unhide HV).trans hk (fun _ _ h => h)) id).cell 0, ((unhide HT10).kept hk id).cell 0, ((unhide HT10).kept hk id).cell 1, ((unhide HV).trans hk (fun _ _ h => h)).cell (unhide HC3).1 id, ((unhide HV).trans hk (fun _ _ h => h)).cell (unhide HC3).2.1 id, ((unhide HV).trans hk (fun _ _ h => h)).cell (unhide HC3).2.2 id⟩)
      have HRD := hide (show ∀ w', Kept No V w' → RT w' k1 n1 A1 l1 sN.e from fun w' hk => RT.kept (t := sN.e) (TV.rd (unhide HTS) (fun _ _ => trivial)) ((unhide HV).trans hk (fun _ _ h => h)))
      have HK1 := hide (Kept.refl No V).drew
      have HK1a := hide ((Kept.refl No V).alloc (.cells #[.int .i64 0, .int .i64 0, .slice none 0 0] 24)).drew
      have HTV := hide (Blk.new V 24 #[.int .i64 0, .int .i64 0, .slice none 0 0]).drew
      have HGV := hide (Nat.le_refl V.heap.size)
      have HKV := hide (show ∀ w', Kept No V w' → Kept No w0 w' from fun w' hk => ((unhide HK0).trans (unhide HV) (fun _ _ h => h)).trans hk (fun _ _ h => h))
      clear hc3 hTs hRep hNs a0 a1
      go_region_held3 (fun w' => w'.cell? ⟨fb, 0, none⟩ = some (.func (Fn.func N) #[] caps) ∧ w'.cell? ⟨wr.heap.size, 0, none⟩ = some (.pointer (some ⟨ep, eo, none⟩)) ∧ w'.cell? ⟨wr.heap.size, 1, none⟩ = some (.bool et) ∧
        w'.cell? ⟨ep, eo, none⟩ = some (.int .i64 k1) ∧ w'.cell? ⟨ep, eo + 1, none⟩ = some (.int .i64 n1) ∧ w'.cell? ⟨ep, eo + 2, none⟩ = some (.slice A1 l1 c1))
        (first
          | exact unhide KS _ ((((unhide HK5).new (unhide HGE) _ _).new (unhide HGE) _ _).new (unhide HGE) _ _)
          | exact unhide KS _ (unhide HK5)
          | exact unhide KS _ ((unhide HK5).alloc _)
          | exact unhide KS _ ((unhide HK3).alloc _)
          | exact unhide KS _ (unhide HK3)
          | exact unhide KS _ (unhide HK1a)
          | exact unhide KS _ (unhide HK1))
        (first
          | (go_at_call 23; refine (rule_any sN.e k1 n1 A1 l1 c1 _ (fun _ => True) ?_).mono ?_; exact unhide HRD _ (unhide HK1a); rintro e w3 ⟨a3, k3, n3, A3, l3, c3, hae3, rfl, hTV3, _, hbl3, hK3⟩; have HTA := hide ((unhide HTV).kept hK3 id); have HK3 := hide ((unhide HK1a).trans hK3 (fun _ _ h => h)); have HR3 := hide (show Rd w3 (fun i => V.heap.size < i) k3 n3 A3 l3 sN.e.r from hae3 ▸ TV.rd hTV3 (fun i hi => hbl_up (hbl3 i hi))); clear hK3 hae3 hTV3 hbl3)
          | (go_at_call 23; refine (rule_any sN.e k1 n1 A1 l1 c1 _ (fun _ => True) ?_).mono ?_; exact unhide HRD _ (unhide HK1); rintro e w3 ⟨a3, k3, n3, A3, l3, c3, hae3, rfl, hTV3, _, hbl3, hK3⟩; have HK3 := hide ((unhide HK1).trans hK3 (fun _ _ h => h)); have HR3 := hide (show Rd w3 (fun i => V.heap.size ≤ i ∧ i < w3.heap.size) k3 n3 A3 l3 sN.e.r from hae3 ▸ TV.rd hTV3 (fun i hi => ⟨hbl3 i hi, hTV3.lt i hi⟩)); clear hK3 hae3 hTV3 hbl3)
          | (refine (unhide HBY _ (fun i => V.heap.size < i) k3 n3 A3 l3 c3 sN.e et (unhide HNS) ?_ ?_).mono ?_; exact unhide HKV _ (unhide HK3); exact unhide HR3; rintro e w5 ⟨k5, n5, A5, l5, c5, rfl, hK5, hR5⟩; have hT11 := (unhide HTA).kept hK5 id; have HK5 := hide ((unhide HK3).trans hK5 (fun _ _ h => h)); have HGE := HGV; have hlt5 := hT11.lt; have g0 := hT11.frozen 0; have g1 := hT11.frozen 1; have g2 := hT11.frozen 2; have y0 := (show w5.cell? ⟨V.heap.size, 0, none⟩ = some (.int .i64 0) from hT11.cell 0); have y1 := (show w5.cell? ⟨V.heap.size, 1, none⟩ = some (.int .i64 0) from hT11.cell 1); have y2 := (show w5.cell? ⟨V.heap.size, 2, none⟩ = some (.slice none 0 0) from hT11.cell 2); have HR5 := hide hR5; clear hK5 hR5; have HT11 := hide hT11; clear hT11)
          | (refine (unhide HBY _ (fun i => V.heap.size ≤ i ∧ i < w3.heap.size) k3 n3 A3 l3 c3 sN.e et (unhide HNS) ?_ ?_).mono ?_; exact unhide HKV _ ((unhide HK3).alloc _); exact (unhide HR3).alloc _; rintro e w5 ⟨k5, n5, A5, l5, c5, rfl, hK5, hR5⟩; have HK5 := hide (((unhide HK3).alloc _).trans hK5 (fun _ _ h => h)); have HGE := hide (unhide HK3).size; have hT11 := (Blk.new w3 24 #[.int .i64 0, .int .i64 0, .slice none 0 0]).kept hK5 id; have hlt5 := hT11.lt; have g0 := hT11.frozen 0; have g1 := hT11.frozen 1; have g2 := hT11.frozen 2; have y0 := (show w5.cell? ⟨w3.heap.size, 0, none⟩ = some (.int .i64 0) from hT11.cell 0); have y1 := (show w5.cell? ⟨w3.heap.size, 1, none⟩ = some (.int .i64 0) from hT11.cell 1); have y2 := (show w5.cell? ⟨w3.heap.size, 2, none⟩ = some (.slice none 0 0) from hT11.cell 2); have HR5 := hide hR5; clear hK5 hR5; have HT11 := hide hT11; clear hT11)
          | (refine (unhide HBY _ (fun i => V.heap.size ≤ i ∧ i < w3.heap.size) k3 n3 A3 l3 c3 sN.e et (unhide HNS) ?_ ?_).mono ?_; exact unhide HKV _ (unhide HK3); exact unhide HR3; rintro e w5 ⟨k5, n5, A5, l5, c5, rfl, hK5, hR5⟩; have HK5 := hide ((unhide HK3).trans hK5 (fun _ _ h => h)); have HR5 := hide hR5; clear hK5 hR5))
      all_goals
        first
          | (have hK8 : Kept No V (((w5.setCell ⟨w3.heap.size, 0, none⟩ (.int .i64 k5)).setCell ⟨w3.heap.size, 1, none⟩ (.int .i64 n5)).setCell ⟨w3.heap.size, 2, none⟩ (.slice A5 l5 c5)) := (((unhide HK5).new (b := w3.heap.size) (unhide HGE) 0 (.int .i64 k5)).new (b := w3.heap.size) (unhide HGE) 1 (.int .i64 n5)).new (b := w3.heap.size) (unhide HGE) 2 (.slice A5 l5 c5); clear g0 g1 g2 y0 y1 y2; generalize ((w5.setCell ⟨w3.heap.size, 0, none⟩ (.int .i64 k5)).setCell ⟨w3.heap.size, 1, none⟩ (.int .i64 n5)).setCell ⟨w3.heap.size, 2, none⟩ (.slice A5 l5 c5) = WF at hK8 ⊢)
          | (have hK8 : Kept No V (((w5.setCell ⟨V.heap.size, 0, none⟩ (.int .i64 k5)).setCell ⟨V.heap.size, 1, none⟩ (.int .i64 n5)).setCell ⟨V.heap.size, 2, none⟩ (.slice A5 l5 c5)) := (((unhide HK5).new (b := V.heap.size) (unhide HGE) 0 (.int .i64 k5)).new (b := V.heap.size) (unhide HGE) 1 (.int .i64 n5)).new (b := V.heap.size) (unhide HGE) 2 (.slice A5 l5 c5); clear g0 g1 g2 y0 y1 y2; generalize ((w5.setCell ⟨V.heap.size, 0, none⟩ (.int .i64 k5)).setCell ⟨V.heap.size, 1, none⟩ (.int .i64 n5)).setCell ⟨V.heap.size, 2, none⟩ (.slice A5 l5 c5) = WF at hK8 ⊢)
          | (have hK8 : Kept No V (w5.alloc (.cells #[.int .i64 k5, .int .i64 n5, .slice A5 l5 c5] 24)) := (unhide HK5).alloc _; generalize w5.alloc (.cells #[.int .i64 k5, .int .i64 n5, .slice A5 l5 c5] 24) = WF at hK8 ⊢)
      all_goals
        have HK8 := hide hK8
        have HO8 := hide (own_kept (unhide HOW2) hK8 (fun _ _ => id))
        have HK9 := hide ((unhide HKr2).trans hK8 (fun _ _ h => h))
        obtain ⟨_, z0, z1, _, _, _⟩ := unhide KS WF hK8
        have hwf := hK8.size
        clear hK8
        cases hb : by_ sN.e et with
        | none =>
          have HB := hide hb
          clear hb
          go_wp2_with fail
          go_roundg (gk - 1)
          case measure => have h1 := unhide HJK; have h2 := unhide HJL; omega
          case rel =>
            have h1 := unhide HJK
            have h2 := unhide HJL
            exact ⟨j + 1, M, congrArg (Value.int .i64) (by omega), by omega, by omega, by omega, unhide HM, unhide HO8, unhide HK9⟩
        | some s' =>
          have HBS := hide hb
          clear hb
          go_wp2_with (at_builtin; refine wpList_append_own_at _ rfl (.tmp 37) (.tmp 39) 38 rfl w2.heap.size 42 i0 _ 2 16 Tryd.underlying38 hi hz0 hz1 hz2 rfl (by decide) u8 M.length (flat M) rfl ((unhide HO8).alloc _) ⟨WF.heap.size, 0, none⟩ 1 1 [.pointer (some ⟨ep, eo, none⟩), .bool et] rfl rfl ?c1 ?c2 (by have h2 := unhide HJL; unfold maxLen; omega) (by have h2 := unhide HJL; omega) ?c3 ?_)
          case c1 => exact World.news_of_block (cs := #[.pointer (some ⟨ep, eo, none⟩), .bool et]) (t := 42) (fr := (0, 0)) (heap_alloc_new WF _)
          case c2 => simp [Value.oneCell']
          case c3 => have h3 := (unhide HK9).size; simp; omega
          intro v' w9 hown9 hg hx9 hat9
          have hK10 := ((unhide HK9).alloc (.cells #[.pointer (some ⟨ep, eo, none⟩), .bool et] 42)).grown hg (fun q hq hlt => by have := own_base (unhide HO8) hq; omega)
          have hM2 : ∀ e ∈ M ++ [(ep, eo, et)], Hit by_ w a b e := by
            intro e he
            rcases List.mem_append.1 he with he | he
            · exact unhide HM e he
            · rw [List.mem_singleton.1 he]
              exact ⟨by rw [unhide HLQ]; exact List.mem_of_getElem? (unhide HEJ), sN, s', ⟨k1, n1, A1, l1, c1, unhide HC3, unhide HTS⟩, unhide HNS, unhide HBS, unhide HFR _ (List.mem_of_getElem? (unhide HEJ)), unhide HRp⟩
          have HM2 := hide hM2
          have HOW9 := hide (show w9.ownsRow w2.heap.size 42 2 v' (M ++ [(ep, eo, et)]).length (flat (M ++ [(ep, eo, et)])) by rw [List.length_append, flat_append]; exact hown9)
          have HK10 := hide hK10
          clear hM2 hown9 hg hx9 hat9 hK10 z0 z1
          go_wp2_with fail
          go_roundg (gk - 1)
          case measure => have h1 := unhide HJK; have h2 := unhide HJL; omega
          case rel =>
            have h1 := unhide HJK
            have h2 := unhide HJL
            exact ⟨j + 1, M ++ [(ep, eo, et)], congrArg (Value.int .i64) (by omega), by omega, by omega, by simp; omega, unhide HM2, unhide HOW9, unhide HK10⟩
    · have dj : decide ((j : Int) < (L.length : Int)) = false := by simp; omega
      have dj2 : decide (j < L.length) = false := by simp; omega
      have hform : (u8 = .slice none 0 0 ∧ M.length = 0) ∨ ∃ g cap, u8 = .slice (some ⟨g, 0, none⟩) M.length cap ∧ w2.heap.size ≤ g := by
        rcases (unhide HOWN).2 with ⟨h1, h2⟩ | ⟨g, cap, cur, hv, hb, _⟩
        · exact .inl ⟨h1, h2⟩
        · exact .inr ⟨g, cap, hv, hb⟩
      have HKF := hide (((unhide HK0).trans (unhide HKn) (fun _ _ h => h)).trans (unhide HKr) (fun _ _ h => h))
      by_cases hM0 : M.length = 0
      · have hu8 : ∃ A8 c8, u8 = .slice A8 0 c8 := by
          rcases hform with ⟨rfl, _⟩ | ⟨g, cap, rfl, _⟩
          · exact ⟨_, _, rfl⟩
          · exact ⟨_, _, by rw [hM0]⟩
        obtain ⟨A8, c8, rfl⟩ := hu8
        clear hform hM0
        go_wp2_with fail
        go_ret
        exact ⟨false, rfl, unhide HKF, fun h => by cases h⟩
      · obtain ⟨g8, c8, rfl, hg8⟩ : ∃ g cap, u8 = .slice (some ⟨g, 0, none⟩) M.length cap ∧ w2.heap.size ≤ g := by
          rcases hform with ⟨_, h⟩ | h
          · exact absurd h hM0
          · exact h
        have hMp : 1 ≤ M.length := by omega
        have d0 : ((M.length : Int) == 0) = false := by rw [beq_eq_false_iff_ne]; omega
        have d0' : (M.length == 0) = false := by rw [beq_eq_false_iff_ne]; omega
        have cx : wr.cell? ⟨xb, 0, none⟩ = some (.int .i64 which) := (unhide HKF).cell ((unhide HX0).cell 0) id
        obtain ⟨hz1a, hz2a⟩ := pickF_range (x := which) (n := (M.length : Int)) (by omega)
        obtain ⟨z, hz⟩ : ∃ z : Nat, pickF which (M.length : Int) = (z : Int) := ⟨(pickF which (M.length : Int)).toNat, by omega⟩
        have hzl : z < M.length := by omega
        have HZ := hide hz
        obtain ⟨⟨ep, eo, et⟩, hez⟩ : ∃ e, M[z]? = some e := ⟨_, List.getElem?_eq_getElem hzl⟩
        obtain ⟨he1, he2⟩ := flat_at M z _ hez
        have a0 : wr.cell? ⟨g8, z * 2, none⟩ = some (.pointer (some ⟨ep, eo, none⟩)) := by rw [Nat.mul_comm]; exact (World.ownsRow.cellAt (unhide HOWN) (2 * z) (by omega)).trans he1
        have a1 : wr.cell? ⟨g8, z * 2 + 1, none⟩ = some (.bool et) := by rw [Nat.mul_comm]; exact (World.ownsRow.cellAt (unhide HOWN) (2 * z + 1) (by omega)).trans he2
        have HEZ := hide hez
        clear hform hz hz1a hz2a hez he1 he2 hM0
        go_wp2_with (go_at_call 20; refine (pick_any which (M.length : Int) (by omega) (by omega) _).mono ?_; rintro e w4 ⟨rfl, rfl⟩; rw [unhide HZ])
        have HV : Hid (Kept No w (w4.alloc (.cells #[.pointer (some ⟨ep, eo, none⟩), .bool et] 42))) := hide (((unhide HKn).trans (unhide HKr) (fun _ _ h => h)).alloc _)
        have HT10 := hide (Blk.new w4 42 #[.pointer (some ⟨ep, eo, none⟩), .bool et])
        generalize w4.alloc (.cells #[.pointer (some ⟨ep, eo, none⟩), .bool et] 42) = V at HV HT10 ⊢
        obtain ⟨hmemM, sN, sM, ⟨k1, n1, A1, l1, c1, hc3, hTs⟩, hNs, hbM, hfrM, hRep⟩ := unhide HM _ (List.mem_of_getElem? (unhide HEZ))
        have HBM := hide hbM
        have HNS := hide hNs
        have HFM := hide hfrM
        have HC3 := hide hc3
        have HTS := hide hTs
        have HRp := hide hRep
        have KS := hide (show ∀ w', Kept No V w' → (w'.cell? ⟨fb, 0, none⟩ = some (.func (Fn.func N) #[] caps) ∧ w'.cell? ⟨w4.heap.size, 0, none⟩ = some (.pointer (some ⟨ep, eo, none⟩)) ∧ w'.cell? ⟨w4.heap.size, 1, none⟩ = some (.bool et) ∧
          w'.cell? ⟨ep, eo, none⟩ = some (.int .i64 k1) ∧ w'.cell? ⟨ep, eo + 1, none⟩ = some (.int .i64 n1) ∧ w'.cell? ⟨ep, eo + 2, none⟩ = some (.slice A1 l1 c1)) from fun w' hk =>
          ⟨((unhide HF).kept ((unhide HV).trans hk (fun _ _ h => h)) id).cell 0, ((unhide HT10).kept hk id).cell 0, ((unhide HT10).kept hk id).cell 1, ((unhide HV).trans hk (fun _ _ h => h)).cell (unhide HC3).1 id, ((unhide HV).trans hk (fun _ _ h => h)).cell (unhide HC3).2.1 id, ((unhide HV).trans hk (fun _ _ h => h)).cell (unhide HC3).2.2 id⟩)
        have HRD := hide (show ∀ w', Kept No V w' → RT w' k1 n1 A1 l1 sN.e from fun w' hk => RT.kept (t := sN.e) (TV.rd (unhide HTS) (fun _ _ => trivial)) ((unhide HV).trans hk (fun _ _ h => h)))
        have HK1 := hide (Kept.refl No V).drew
        have HK1a := hide ((Kept.refl No V).alloc (.cells #[.int .i64 0, .int .i64 0, .slice none 0 0] 24)).drew
        have HTV := hide (Blk.new V 24 #[.int .i64 0, .int .i64 0, .slice none 0 0]).drew
        have HGV := hide (Nat.le_refl V.heap.size)
        have HKV := hide (show ∀ w', Kept No V w' → Kept No w0 w' from fun w' hk => ((unhide HK0).trans (unhide HV) (fun _ _ h => h)).trans hk (fun _ _ h => h))
        clear hc3 hTs hRep hNs hbM hfrM a0 a1 cx
        go_region_held3 (fun w' => w'.cell? ⟨fb, 0, none⟩ = some (.func (Fn.func N) #[] caps) ∧ w'.cell? ⟨w4.heap.size, 0, none⟩ = some (.pointer (some ⟨ep, eo, none⟩)) ∧ w'.cell? ⟨w4.heap.size, 1, none⟩ = some (.bool et) ∧
          w'.cell? ⟨ep, eo, none⟩ = some (.int .i64 k1) ∧ w'.cell? ⟨ep, eo + 1, none⟩ = some (.int .i64 n1) ∧ w'.cell? ⟨ep, eo + 2, none⟩ = some (.slice A1 l1 c1))
          (first
            | exact unhide KS _ ((((unhide HK5).new (unhide HGE) _ _).new (unhide HGE) _ _).new (unhide HGE) _ _)
            | exact unhide KS _ (unhide HK5)
            | exact unhide KS _ ((unhide HK5).alloc _)
            | exact unhide KS _ ((unhide HK3).alloc _)
            | exact unhide KS _ (unhide HK3)
            | exact unhide KS _ (unhide HK1a)
            | exact unhide KS _ (unhide HK1))
          (first
            | (go_at_call 23; refine (rule_any sN.e k1 n1 A1 l1 c1 _ (fun _ => True) ?_).mono ?_; exact unhide HRD _ (unhide HK1a); rintro e w3 ⟨a3, k3, n3, A3, l3, c3, hae3, rfl, hTV3, _, hbl3, hK3⟩; have HTA := hide ((unhide HTV).kept hK3 id); have HK3 := hide ((unhide HK1a).trans hK3 (fun _ _ h => h)); have HR3 := hide (show Rd w3 (fun i => V.heap.size < i) k3 n3 A3 l3 sN.e.r from hae3 ▸ TV.rd hTV3 (fun i hi => hbl_up (hbl3 i hi))); clear hK3 hae3 hTV3 hbl3)
            | (go_at_call 23; refine (rule_any sN.e k1 n1 A1 l1 c1 _ (fun _ => True) ?_).mono ?_; exact unhide HRD _ (unhide HK1); rintro e w3 ⟨a3, k3, n3, A3, l3, c3, hae3, rfl, hTV3, _, hbl3, hK3⟩; have HK3 := hide ((unhide HK1).trans hK3 (fun _ _ h => h)); have HR3 := hide (show Rd w3 (fun i => V.heap.size ≤ i ∧ i < w3.heap.size) k3 n3 A3 l3 sN.e.r from hae3 ▸ TV.rd hTV3 (fun i hi => ⟨hbl3 i hi, hTV3.lt i hi⟩)); clear hK3 hae3 hTV3 hbl3)
            | (refine (unhide HBY _ (fun i => V.heap.size < i) k3 n3 A3 l3 c3 sN.e et (unhide HNS) ?_ ?_).mono ?_; exact unhide HKV _ (unhide HK3); exact unhide HR3; rintro e w5 ⟨k5, n5, A5, l5, c5, rfl, hK5, hR5⟩; have hT11 := (unhide HTA).kept hK5 id; have HK5 := hide ((unhide HK3).trans hK5 (fun _ _ h => h)); have HGE := HGV; have hlt5 := hT11.lt; have g0 := hT11.frozen 0; have g1 := hT11.frozen 1; have g2 := hT11.frozen 2; have y0 := (show w5.cell? ⟨V.heap.size, 0, none⟩ = some (.int .i64 0) from hT11.cell 0); have y1 := (show w5.cell? ⟨V.heap.size, 1, none⟩ = some (.int .i64 0) from hT11.cell 1); have y2 := (show w5.cell? ⟨V.heap.size, 2, none⟩ = some (.slice none 0 0) from hT11.cell 2); have HR5 := hide hR5; clear hK5 hR5; have HT11 := hide hT11; clear hT11)
            | (refine (unhide HBY _ (fun i => V.heap.size ≤ i ∧ i < w3.heap.size) k3 n3 A3 l3 c3 sN.e et (unhide HNS) ?_ ?_).mono ?_; exact unhide HKV _ ((unhide HK3).alloc _); exact (unhide HR3).alloc _; rintro e w5 ⟨k5, n5, A5, l5, c5, rfl, hK5, hR5⟩; have HK5 := hide (((unhide HK3).alloc _).trans hK5 (fun _ _ h => h)); have HGE := hide (unhide HK3).size; have hT11 := (Blk.new w3 24 #[.int .i64 0, .int .i64 0, .slice none 0 0]).kept hK5 id; have hlt5 := hT11.lt; have g0 := hT11.frozen 0; have g1 := hT11.frozen 1; have g2 := hT11.frozen 2; have y0 := (show w5.cell? ⟨w3.heap.size, 0, none⟩ = some (.int .i64 0) from hT11.cell 0); have y1 := (show w5.cell? ⟨w3.heap.size, 1, none⟩ = some (.int .i64 0) from hT11.cell 1); have y2 := (show w5.cell? ⟨w3.heap.size, 2, none⟩ = some (.slice none 0 0) from hT11.cell 2); have HR5 := hide hR5; clear hK5 hR5; have HT11 := hide hT11; clear hT11)
            | (refine (unhide HBY _ (fun i => V.heap.size ≤ i ∧ i < w3.heap.size) k3 n3 A3 l3 c3 sN.e et (unhide HNS) ?_ ?_).mono ?_; exact unhide HKV _ (unhide HK3); exact unhide HR3; rintro e w5 ⟨k5, n5, A5, l5, c5, rfl, hK5, hR5⟩; have HK5 := hide ((unhide HK3).trans hK5 (fun _ _ h => h)); have HR5 := hide hR5; clear hK5 hR5))
        all_goals
          first
            | (have hK8 : Kept No V (((w5.setCell ⟨w3.heap.size, 0, none⟩ (.int .i64 k5)).setCell ⟨w3.heap.size, 1, none⟩ (.int .i64 n5)).setCell ⟨w3.heap.size, 2, none⟩ (.slice A5 l5 c5)) := (((unhide HK5).new (b := w3.heap.size) (unhide HGE) 0 (.int .i64 k5)).new (b := w3.heap.size) (unhide HGE) 1 (.int .i64 n5)).new (b := w3.heap.size) (unhide HGE) 2 (.slice A5 l5 c5); have hB8 : Blk (((w5.setCell ⟨w3.heap.size, 0, none⟩ (.int .i64 k5)).setCell ⟨w3.heap.size, 1, none⟩ (.int .i64 n5)).setCell ⟨w3.heap.size, 2, none⟩ (.slice A5 l5 c5)) w3.heap.size 24 #[.int .i64 k5, .int .i64 n5, .slice A5 l5 c5] := (((unhide HT11).set_ 0 _).set_ 1 _).set_ 2 _; have hR8 : Rd (((w5.setCell ⟨w3.heap.size, 0, none⟩ (.int .i64 k5)).setCell ⟨w3.heap.size, 1, none⟩ (.int .i64 n5)).setCell ⟨w3.heap.size, 2, none⟩ (.slice A5 l5 c5)) (fun i => V.heap.size ≤ i) k5 n5 A5 l5 sM.r := Rd.mono (Rd.kept (unhide HR5 sM (unhide HBM)) ((((Kept.refl (One w3.heap.size) w5).one 0 (.int .i64 k5)).one 1 (.int .i64 n5)).one 2 (.slice A5 l5 c5)) (fun i _ hi => one_ne (by (try simp at hi); omega))) (fun i _ hi => by have hgv := (unhide HK3).size; (try simp at hi); omega); clear g0 g1 g2 y0 y1 y2; generalize ((w5.setCell ⟨w3.heap.size, 0, none⟩ (.int .i64 k5)).setCell ⟨w3.heap.size, 1, none⟩ (.int .i64 n5)).setCell ⟨w3.heap.size, 2, none⟩ (.slice A5 l5 c5) = WF at hK8 hB8 hR8 ⊢; generalize w3.heap.size = B14 at hB8 ⊢)
            | (have hK8 : Kept No V (((w5.setCell ⟨V.heap.size, 0, none⟩ (.int .i64 k5)).setCell ⟨V.heap.size, 1, none⟩ (.int .i64 n5)).setCell ⟨V.heap.size, 2, none⟩ (.slice A5 l5 c5)) := (((unhide HK5).new (b := V.heap.size) (unhide HGE) 0 (.int .i64 k5)).new (b := V.heap.size) (unhide HGE) 1 (.int .i64 n5)).new (b := V.heap.size) (unhide HGE) 2 (.slice A5 l5 c5); have hB8 : Blk (((w5.setCell ⟨V.heap.size, 0, none⟩ (.int .i64 k5)).setCell ⟨V.heap.size, 1, none⟩ (.int .i64 n5)).setCell ⟨V.heap.size, 2, none⟩ (.slice A5 l5 c5)) V.heap.size 24 #[.int .i64 k5, .int .i64 n5, .slice A5 l5 c5] := (((unhide HT11).set_ 0 _).set_ 1 _).set_ 2 _; have hvl := (unhide HTA).lt; have hR8 : Rd (((w5.setCell ⟨V.heap.size, 0, none⟩ (.int .i64 k5)).setCell ⟨V.heap.size, 1, none⟩ (.int .i64 n5)).setCell ⟨V.heap.size, 2, none⟩ (.slice A5 l5 c5)) (fun i => V.heap.size ≤ i) k5 n5 A5 l5 sM.r := Rd.mono (Rd.kept (unhide HR5 sM (unhide HBM)) ((((Kept.refl (One V.heap.size) w5).one 0 (.int .i64 k5)).one 1 (.int .i64 n5)).one 2 (.slice A5 l5 c5)) (fun i _ hi => one_ne (by (try simp at hi); omega))) (fun i _ hi => by have hgv := (unhide HK3).size; (try simp at hi); omega); clear g0 g1 g2 y0 y1 y2; generalize ((w5.setCell ⟨V.heap.size, 0, none⟩ (.int .i64 k5)).setCell ⟨V.heap.size, 1, none⟩ (.int .i64 n5)).setCell ⟨V.heap.size, 2, none⟩ (.slice A5 l5 c5) = WF at hK8 hB8 hR8 ⊢; generalize V.heap.size = B14 at hB8 ⊢)
            | (have hK8 : Kept No V (w5.alloc (.cells #[.int .i64 k5, .int .i64 n5, .slice A5 l5 c5] 24)) := (unhide HK5).alloc _; have hB8 : Blk (w5.alloc (.cells #[.int .i64 k5, .int .i64 n5, .slice A5 l5 c5] 24)) w5.heap.size 24 #[.int .i64 k5, .int .i64 n5, .slice A5 l5 c5] := Blk.new _ _ _; have hR8 : Rd (w5.alloc (.cells #[.int .i64 k5, .int .i64 n5, .slice A5 l5 c5] 24)) (fun i => V.heap.size ≤ i) k5 n5 A5 l5 sM.r := Rd.alloc (Rd.mono (unhide HR5 sM (unhide HBM)) (fun i _ hi => by have hgv := (unhide HK3).size; omega)) _; generalize w5.alloc (.cells #[.int .i64 k5, .int .i64 n5, .slice A5 l5 c5] 24) = WF at hK8 hB8 hR8 ⊢; generalize w5.heap.size = B14 at hB8 ⊢)
        all_goals
          obtain ⟨_, z0, _, e0, e1, e2⟩ := unhide KS WF hK8
          have hKw := (unhide HV).trans hK8 (fun _ _ h => h)
          have HKW := hide hKw
          have hepw : ep < w.heap.size := World.block_lt_of_cell? w _ (unhide HC3).1
          have v0 : WF.cell? ⟨B14, 0, none⟩ = some (.int .i64 k5) := by rw [hB8.cell]; rfl
          have v1 : WF.cell? ⟨B14, 1, none⟩ = some (.int .i64 n5) := by rw [hB8.cell]; rfl
          have v2 : WF.cell? ⟨B14, 2, none⟩ = some (.slice A5 l5 c5) := by rw [hB8.cell]; rfl
          have x0 : WF.frozen? ⟨ep, eo, none⟩ = false := (hKw.frozen (p := ⟨ep, eo, none⟩) hepw id).trans (unhide HFM eo)
          have x1 : WF.frozen? ⟨ep, eo + 1, none⟩ = false := (hKw.frozen (p := ⟨ep, eo + 1, none⟩) hepw id).trans (unhide HFM (eo + 1))
          have x2 : WF.frozen? ⟨ep, eo + 2, none⟩ = false := (hKw.frozen (p := ⟨ep, eo + 2, none⟩) hepw id).trans (unhide HFM (eo + 2))
          have HR8 := hide hR8
          have HKV8 := hide (unhide HKV WF hK8)
          clear hK8 hB8 hR8 hKw
          go_wp2_with fail
          go_ret
          have hge : w0.heap.size ≤ ep := by
            rcases nodes_where a b 0 false _ hmemM with h | h
            · injection h with h _; rw [h]; exact hb0
            · exact (unhide HBL ep h).1
          have hepb : ep ≠ q := by
            rcases nodes_where a b 0 false _ hmemM with h | h
            · injection h with h _; rw [h]; exact hbq
            · exact (unhide HBL ep h).2.2
          have hK3 : Kept (One ep) WF (((WF.setCell ⟨ep, eo, none⟩ (.int .i64 k5)).setCell ⟨ep, eo + 1, none⟩ (.int .i64 n5)).setCell ⟨ep, eo + 2, none⟩ (.slice A5 l5 c5)) := (((Kept.refl _ WF).one _ _).one _ _).one _ _
          have hVw : w.heap.size ≤ V.heap.size := (unhide HV).size
          have hwb : w.heap[ep]? = WF.heap[ep]? := ((unhide HKW).block ep hepw id).symm
          have hKw2 : Kept (One ep) w (((WF.setCell ⟨ep, eo, none⟩ (.int .i64 k5)).setCell ⟨ep, eo + 1, none⟩ (.int .i64 n5)).setCell ⟨ep, eo + 2, none⟩ (.slice A5 l5 c5)) := ((unhide HKW).more (fun _ _ h => h.elim)).trans hK3 (fun _ _ h => h)
          have hUp : Upd w (((WF.setCell ⟨ep, eo, none⟩ (.int .i64 k5)).setCell ⟨ep, eo + 1, none⟩ (.int .i64 n5)).setCell ⟨ep, eo + 2, none⟩ (.slice A5 l5 c5)) ep eo :=
            ⟨hKw2, fun j hj => by
              have e0' : (⟨ep, eo, none⟩ : Addr) ≠ ⟨ep, j, none⟩ := by intro h; injection h with _ h; omega
              have e1' : (⟨ep, eo + 1, none⟩ : Addr) ≠ ⟨ep, j, none⟩ := by intro h; injection h with _ h; omega
              have e2' : (⟨ep, eo + 2, none⟩ : Addr) ≠ ⟨ep, j, none⟩ := by intro h; injection h with _ h; omega
              exact (World.cell?_setCell_other _ _ _ _ e2').trans ((World.cell?_setCell_other _ _ _ _ e1').trans ((World.cell?_setCell_other _ _ _ _ e0').trans (World.cell?_of_block ((unhide HKW).block ep hepw id))))⟩
          have hc9 : C3 (((WF.setCell ⟨ep, eo, none⟩ (.int .i64 k5)).setCell ⟨ep, eo + 1, none⟩ (.int .i64 n5)).setCell ⟨ep, eo + 2, none⟩ (.slice A5 l5 c5)) ep eo k5 n5 A5 l5 c5 := c3_set ⟨e0, e1, e2⟩ _ _ _ _ _
          have hr9 : RT (((WF.setCell ⟨ep, eo, none⟩ (.int .i64 k5)).setCell ⟨ep, eo + 1, none⟩ (.int .i64 n5)).setCell ⟨ep, eo + 2, none⟩ (.slice A5 l5 c5)) k5 n5 A5 l5 sM := ((unhide HR8).kept hK3 (fun i _ hi => one_ne (by omega))).mono (fun _ _ _ => trivial)
          obtain ⟨t', hRt, k9, n9, A9, l9, c9, hcb, hrb⟩ := unhide HRp _ sM hUp ⟨k5, n5, A5, l5, c5, hc9, hr9⟩ (unhide HBM)
          obtain ⟨cs, hcs, hBb⟩ := blk_set3 ((unhide HB).kept (unhide HKW) id) ep eo (.int .i64 k5) (.int .i64 n5) (.slice A5 l5 c5)
          refine ⟨true, rfl, (unhide HKV8).trans hK3 (fun i hi h => by unfold One at h; omega), fun _ => ⟨k9, n9, A9, l9, c9, t', y, blk_c3 hBb hcs hcb, ((unhide HQ).kept (unhide HKW) id).kept hK3 (one_ne (Ne.symm hepb)), hrb, unhide HLAW t' (unhide HAE ▸ hRt)⟩⟩
end Go.Proofs.YtmjmcjcckncplaaDoor
