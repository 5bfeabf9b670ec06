/- wRules (function 30): the nodes of a tree, collected. -/
import Derived.Test.YtmjmcjcckncplaaDoorEnt
import Derived.Test.YtmjmcjcckncplaaDoorTail
namespace Go.Proofs.YtmjmcjcckncplaaDoor
open Go.RowKit Go.BigFrame

/-- The cells of the entries. -/
def flat : List (Nat × Nat × Bool) → List Value
  | [] => []
  | (p, o, tr) :: r => .pointer (some ⟨p, o, none⟩) :: .bool tr :: flat r
theorem flat_append (l r : List (Nat × Nat × Bool)) : flat (l ++ r) = flat l ++ flat r := by
  induction l with
  | nil => rfl
  | cons e l ih => obtain ⟨p, o, tr⟩ := e; simp [flat, ih]
def An.sz : An → Nat
  | .num _ => 1 | .year => 1 | .neg _ a => a.sz + 1 | .not _ a => a.sz + 1 | .bin _ _ x y => x.sz + y.sz + 1
theorem nodes_len (a : An) : ∀ p o tr, (nodes a p o tr).length = a.sz := by
  induction a with
  | num m => intro p o tr; rfl
  | year => intro p o tr; rfl
  | neg b a ih => intro p o tr; simp [nodes, An.sz, ih]
  | not b a ih => intro p o tr; simp [nodes, An.sz, ih]
  | bin op b x y ihx ihy => intro p o tr; simp [nodes, An.sz, ihx, ihy]

/-- What wRules leaves: the entries stand behind those that were there. -/
def RulesPost (w : World) (ob base m : Nat) (xs : List Value) (l : List (Nat × Nat × Bool)) (e : Ending) (w' : World) : Prop :=
  e = .returned (.tuple #[]) ∧ ∃ v, Blk w' ob 38 #[v] ∧ w'.ownsRow base 42 2 v (m + l.length) (xs ++ flat l) ∧ v.ownBlock ≠ some ob ∧ Kept (fun i => base ≤ i) w w'

def RulesOk (a : An) : Prop := ∀ (w : World) (p o : Nat) (tr : Bool) (ob base m : Nat) (v : Value) (xs : List Value), At w p o a → p < base → (∀ i, i ∈ a.blocks → i < base) → Blk w ob 38 #[v] → base ≤ ob → w.ownsRow base 42 2 v m xs → v.ownBlock ≠ some ob → m + a.sz ≤ 1000 →
    Calls Tryd.prog 30 #[.pointer (some ⟨p, o, none⟩), .bool tr, .pointer (some ⟨ob, 0, none⟩)] w (RulesPost w ob base m xs (nodes a p o tr))

theorem info42 : (Tryd.prog.info? 42).map (fun i => (i.zero, i.size, i.bytes)) = some (some (.agg #[.pointer none, .bool false]), 2, 16) := by kernel_rfl

theorem own_form {w : World} {base e size n : Nat} {v : Value} {xs : List Value} (h : w.ownsRow base e size v n xs) (hn : ¬ v = .slice none 0 0) : ∃ g cap, v = .slice (some ⟨g, 0, none⟩) n cap ∧ base ≤ g := by
  rcases h.2 with ⟨h1, _⟩ | ⟨g, cap, cur, hv, hb, _⟩
  · exact absurd h1 hn
  · exact ⟨g, cap, hv, hb⟩
theorem own_base {w : World} {base e size n : Nat} {v : Value} {xs : List Value} (h : w.ownsRow base e size v n xs) {k : Nat} (hk : v.ownBlock = some k) : base ≤ k := by
  rcases h.2 with ⟨h1, _⟩ | ⟨g, cap, cur, hv, hb, _⟩
  · rw [h1] at hk; simp [Value.ownBlock] at hk
  · rw [hv] at hk; simp [Value.ownBlock] at hk; omega

set_option maxRecDepth 100000 in
set_option maxHeartbeats 4000000 in
theorem rules_leaf (a : An) (hl : a = .year ∨ ∃ m, a = .num m) : RulesOk a := by
  intro w p o tr ob base m v xs hA hpb hbl hO hob hown hvo hm
  have hN : nodes a p o tr = [(p, o, tr)] := by rcases hl with rfl | ⟨m, rfl⟩ <;> rfl
  have hsz : a.sz = 1 := by rcases hl with rfl | ⟨m, rfl⟩ <;> rfl
  obtain ⟨k, n, A, l, c, ⟨h0, h1, h2⟩, hT⟩ := hA
  have hl0 : l = 0 := by
    rcases hl with rfl | ⟨m, rfl⟩
    · exact hT.2.2.2
    · exact hT.2.2.2
  subst hl0
  rw [hN]
  have HO := hide hO
  have HOW := hide hown
  have o0 : w.cell? ⟨ob, 0, none⟩ = some v := by rw [hO.cell]; rfl
  have of0 : w.frozen? ⟨ob, 0, none⟩ = false := hO.frozen 0
  have obl := hO.lt
  obtain ⟨i0, hi, hz0, hz1, hz2⟩ := info_parts info42
  have hobw := hob
  clear hO hown hT hN hl
  go_enter Tryd.func30, Tryd.ntmps30
  go_wp2_with (at_builtin; refine wpList_append_own_at _ rfl (.tmp 10) (.tmp 14) 38 rfl base 42 i0 _ 2 16 Tryd.underlying38 hi hz0 hz1 hz2 rfl (by decide) v m xs rfl ((unhide HOW).alloc _) ⟨w.heap.size, 0, none⟩ 1 1 [.pointer (some ⟨p, o, none⟩), .bool tr] rfl rfl ?c1 ?c2 (by unfold maxLen; omega) (by omega) ?c3 ?_)
  case c1 => exact World.news_of_block (cs := #[.pointer (some ⟨p, o, none⟩), .bool tr]) (t := 42) (fr := (0, 0)) (heap_alloc_new w _)
  case c2 => simp [Value.oneCell']
  case c3 => simp; omega
  intro v' w2 hown2 hg hx hat
  obtain ⟨g, cap, rfl, hgb⟩ := own_form hown2 hx
  have hKv : Kept (fun i => v.ownBlock = some i) w w2 := ((Kept.refl _ w).alloc _).grown hg (fun k hk _ => hk)
  have hKb : Kept (fun i => base ≤ i) w w2 := hKv.more (fun i _ h => own_base (unhide HOW) h)
  have hO2 := (unhide HO).kept hKv hvo
  have hgob : g ≠ ob := by
    rintro rfl
    rcases hat with h | h
    · exact hvo (h.symm.trans rfl)
    · simp [Value.ownBlock] at h; omega
  have hs2 := hKv.size
  have hpn : ¬ base ≤ p := by omega
  have p0 : w2.cell? ⟨p, o, none⟩ = some (.int .i64 k) := hKb.cell h0 hpn
  have p2 : w2.cell? ⟨p, o + 2, none⟩ = some (.slice A 0 c) := hKb.cell h2 hpn
  have o2 : w2.cell? ⟨ob, 0, none⟩ = some v := by rw [hO2.cell]; rfl
  have of2 : w2.frozen? ⟨ob, 0, none⟩ = false := hO2.frozen 0
  have hpo : ¬ ob = p := by omega
  have hpo2 : ¬ p = ob := by omega
  have HKB := hide (hKb.setCell (p := ⟨ob, 0, none⟩) (fun _ => hobw) (.slice (some ⟨g, 0, none⟩) (m + 1) cap))
  have HO3 := hide (hO2.set_ 0 (.slice (some ⟨g, 0, none⟩) (m + 1) cap))
  have HOW3 := hide (own_kept hown2 ((Kept.refl (One ob) w2).one 0 (.slice (some ⟨g, 0, none⟩) (m + 1) cap)) (fun q hq => one_ne (by simp [Value.ownBlock] at hq; omega)))
  have HOB := hide hgob
  clear hown2 hg hx hat hKv hKb hO2 hgob h0 h1 h2 o0 of0 hvo
  go_wp2_with fail
  generalize w2.setCell ⟨ob, 0, none⟩ (.slice (some ⟨g, 0, none⟩) (m + 1) cap) = W at HKB HO3 HOW3 ⊢
  refine wp_loop_rounds 1 ?_
  rw [rounds_succ]
  go_wp2_with fail
  go_end0
  exact ⟨rfl, _, unhide HO3, unhide HOW3, by simpa [Value.ownBlock] using unhide HOB, unhide HKB⟩

set_option maxRecDepth 100000 in
set_option maxHeartbeats 4000000 in
theorem rules_neg (b : Nat) (a : An) (ih : RulesOk a) : RulesOk (.neg b a) := by
  intro w p o tr ob base m v xs hA hpb hbl hO hob hown hvo hm
  obtain ⟨k, n, A, l, c, ⟨h0, h1, h2⟩, rfl, rfl, rfl, rfl, k1, n1, A1, l1, c1, hrow, hT⟩ := hA
  have hbb : b < base := hbl b (by simp [An.blocks])
  have hab : ∀ i, i ∈ a.blocks → i < base := fun i hi => hbl i (by simp [An.blocks, hi])
  have hm2 : m + 1 + a.sz ≤ 1000 := by simp only [An.sz] at hm; omega
  have HBL := hide hab
  have HRW := hide hrow
  have HTT := hide hT
  have HO := hide hO
  have HOW := hide hown
  have o0 : w.cell? ⟨ob, 0, none⟩ = some v := by rw [hO.cell]; rfl
  have of0 : w.frozen? ⟨ob, 0, none⟩ = false := hO.frozen 0
  have obl := hO.lt
  obtain ⟨i0, hi, hz0, hz1, hz2⟩ := info_parts info42
  have hobw := hob
  have hN : nodes (.neg b a) p o tr = (p, o, tr) :: nodes a b 0 false := rfl
  rw [hN]
  clear hO hown hT hN hab hbl hrow hm
  go_enter Tryd.func30, Tryd.ntmps30
  go_wp2_with (at_builtin; refine wpList_append_own_at _ rfl (.tmp 10) (.tmp 14) 38 rfl base 42 i0 _ 2 16 Tryd.underlying38 hi hz0 hz1 hz2 rfl (by decide) v m xs rfl ((unhide HOW).alloc _) ⟨w.heap.size, 0, none⟩ 1 1 [.pointer (some ⟨p, o, none⟩), .bool tr] rfl rfl ?c1 ?c2 (by unfold maxLen; omega) (by omega) ?c3 ?_)
  case c1 => exact World.news_of_block (cs := #[.pointer (some ⟨p, o, none⟩), .bool tr]) (t := 42) (fr := (0, 0)) (heap_alloc_new w _)
  case c2 => simp [Value.oneCell']
  case c3 => simp; omega
  intro v' w2 hown2 hg hx hat
  obtain ⟨g, cap, rfl, hgb⟩ := own_form hown2 hx
  have hKv : Kept (fun i => v.ownBlock = some i) w w2 := ((Kept.refl _ w).alloc _).grown hg (fun k hk _ => hk)
  have hKb : Kept (fun i => base ≤ i) w w2 := hKv.more (fun i _ h => own_base (unhide HOW) h)
  have hO2 := (unhide HO).kept hKv hvo
  have hgob : g ≠ ob := by
    rintro rfl
    rcases hat with h | h
    · exact hvo (h.symm.trans rfl)
    · simp [Value.ownBlock] at h; omega
  have hs2 := hKv.size
  have hpn : ¬ base ≤ p := by omega
  have p0 : w2.cell? ⟨p, o, none⟩ = some (.int .i64 3) := hKb.cell h0 hpn
  have p2 : w2.cell? ⟨p, o + 2, none⟩ = some (.slice (some ⟨b, 0, none⟩) 1 c) := hKb.cell h2 hpn
  have o2 : w2.cell? ⟨ob, 0, none⟩ = some v := by rw [hO2.cell]; rfl
  have of2 : w2.frozen? ⟨ob, 0, none⟩ = false := hO2.frozen 0
  have hpo : ¬ ob = p := by omega
  have hpo2 : ¬ p = ob := by omega
  have HKB := hide (hKb.setCell (p := ⟨ob, 0, none⟩) (fun _ => hobw) (.slice (some ⟨g, 0, none⟩) (m + 1) cap))
  have HO3 := hide (hO2.set_ 0 (.slice (some ⟨g, 0, none⟩) (m + 1) cap))
  have HOW3 := hide (own_kept hown2 ((Kept.refl (One ob) w2).one 0 (.slice (some ⟨g, 0, none⟩) (m + 1) cap)) (fun q hq => one_ne (by simp [Value.ownBlock] at hq; omega)))
  have HOB := hide hgob
  clear hown2 hg hx hat hKv hKb hO2 hgob h0 h1 h2 o0 of0 hvo
  go_wp2_with fail
  have q0 : (w2.setCell ⟨ob, 0, none⟩ (.slice (some ⟨g, 0, none⟩) (m + 1) cap)).cell? ⟨p, o, none⟩ = some (.int .i64 3) := by rw [World.cell?_setCell_other _ _ _ _ (by simp)]; exact p0
  have q2 : (w2.setCell ⟨ob, 0, none⟩ (.slice (some ⟨g, 0, none⟩) (m + 1) cap)).cell? ⟨p, o + 2, none⟩ = some (.slice (some ⟨b, 0, none⟩) 1 c) := by rw [World.cell?_setCell_other _ _ _ _ (by simp)]; exact p2
  generalize w2.setCell ⟨ob, 0, none⟩ (.slice (some ⟨g, 0, none⟩) (m + 1) cap) = W at HKB HO3 HOW3 q0 q2 ⊢
  refine wp_loop_rounds 2 ?_
  rw [rounds_succ]
  go_wp2_with fail
  refine still_tail 26 (by kernel_rfl) (by kernel_rfl) fun W2 hW => ?_
  have q0 : W2.cell? ⟨p, o, none⟩ = some (.int .i64 3) := by rw [hW]; exact q0
  have q2 : W2.cell? ⟨p, o + 2, none⟩ = some (.slice (some ⟨b, 0, none⟩) 1 c) := by rw [hW]; exact q2
  have HKW := hide (show Kept (fun i => base ≤ i) w W2 by rw [hW]; exact (unhide HKB).drew)
  have HO4 := hide (show Blk W2 ob 38 #[.slice (some ⟨g, 0, none⟩) (m + 1) cap] by rw [hW]; exact unhide HO3)
  have HOW4 := hide (show W2.ownsRow base 42 2 (.slice (some ⟨g, 0, none⟩) (m + 1) cap) (m + 1) (xs ++ [.pointer (some ⟨p, o, none⟩), .bool tr]) by rw [hW]; exact unhide HOW3)
  clear hW
  simp only [List.take_succ_cons, List.take_zero, List.drop_succ_cons, List.drop_zero]
  iterate 26 still_step
  refine wpStill_nil ?_
  go_wp2_with fail
  have hbw : b < W2.heap.size := by have h1 := (unhide HRW).lt; have h2 := (unhide HKW).size; omega
  have hAt : At W2 b 0 a := ⟨k1, n1, A1, l1, c1, row_c3 ((unhide HRW).kept (unhide HKW) (by omega)), (unhide HTT).kept (unhide HKW) (fun i hi => by have := unhide HBL i hi; omega)⟩
  refine (ih W2 b 0 false ob base (m + 1) _ _ hAt hbb (unhide HBL) (unhide HO4) hobw (unhide HOW4) (by simpa [Value.ownBlock] using unhide HOB) hm2).mono ?_
  rintro e w3 ⟨rfl, v3, hO5, hown5, hvo5, hK5⟩
  have HF := hide (show RulesPost w ob base m xs ((p, o, tr) :: nodes a b 0 false) (.returned (.tuple #[])) w3 from
    ⟨rfl, v3, hO5, by rw [List.length_cons, show m + ((nodes a b 0 false).length + 1) = m + 1 + (nodes a b 0 false).length by omega]; simpa [flat] using hown5, hvo5, (unhide HKW).trans hK5 (fun _ _ h => h)⟩)
  clear hO5 hown5 hvo5 hK5 q0 q2 hAt
  go_wp2_with fail
  rw [rounds_succ]
  go_wp2_with fail
  go_end0
  exact unhide HF

set_option maxRecDepth 100000 in
set_option maxHeartbeats 4000000 in
theorem rules_not (b : Nat) (a : An) (ih : RulesOk a) : RulesOk (.not b a) := by
  intro w p o tr ob base m v xs hA hpb hbl hO hob hown hvo hm
  obtain ⟨k, n, A, l, c, ⟨h0, h1, h2⟩, rfl, rfl, rfl, rfl, k1, n1, A1, l1, c1, hrow, hT⟩ := hA
  have hbb : b < base := hbl b (by simp [An.blocks])
  have hab : ∀ i, i ∈ a.blocks → i < base := fun i hi => hbl i (by simp [An.blocks, hi])
  have hm2 : m + 1 + a.sz ≤ 1000 := by simp only [An.sz] at hm; omega
  have HBL := hide hab
  have HRW := hide hrow
  have HTT := hide hT
  have HO := hide hO
  have HOW := hide hown
  have o0 : w.cell? ⟨ob, 0, none⟩ = some v := by rw [hO.cell]; rfl
  have of0 : w.frozen? ⟨ob, 0, none⟩ = false := hO.frozen 0
  have obl := hO.lt
  obtain ⟨i0, hi, hz0, hz1, hz2⟩ := info_parts info42
  have hobw := hob
  have hN : nodes (.not b a) p o tr = (p, o, tr) :: nodes a b 0 true := rfl
  rw [hN]
  clear hO hown hT hN hab hbl hrow hm
  go_enter Tryd.func30, Tryd.ntmps30
  go_wp2_with (at_builtin; refine wpList_append_own_at _ rfl (.tmp 10) (.tmp 14) 38 rfl base 42 i0 _ 2 16 Tryd.underlying38 hi hz0 hz1 hz2 rfl (by decide) v m xs rfl ((unhide HOW).alloc _) ⟨w.heap.size, 0, none⟩ 1 1 [.pointer (some ⟨p, o, none⟩), .bool tr] rfl rfl ?c1 ?c2 (by unfold maxLen; omega) (by omega) ?c3 ?_)
  case c1 => exact World.news_of_block (cs := #[.pointer (some ⟨p, o, none⟩), .bool tr]) (t := 42) (fr := (0, 0)) (heap_alloc_new w _)
  case c2 => simp [Value.oneCell']
  case c3 => simp; omega
  intro v' w2 hown2 hg hx hat
  obtain ⟨g, cap, rfl, hgb⟩ := own_form hown2 hx
  have hKv : Kept (fun i => v.ownBlock = some i) w w2 := ((Kept.refl _ w).alloc _).grown hg (fun k hk _ => hk)
  have hKb : Kept (fun i => base ≤ i) w w2 := hKv.more (fun i _ h => own_base (unhide HOW) h)
  have hO2 := (unhide HO).kept hKv hvo
  have hgob : g ≠ ob := by
    rintro rfl
    rcases hat with h | h
    · exact hvo (h.symm.trans rfl)
    · simp [Value.ownBlock] at h; omega
  have hs2 := hKv.size
  have hpn : ¬ base ≤ p := by omega
  have p0 : w2.cell? ⟨p, o, none⟩ = some (.int .i64 11) := hKb.cell h0 hpn
  have p2 : w2.cell? ⟨p, o + 2, none⟩ = some (.slice (some ⟨b, 0, none⟩) 1 c) := hKb.cell h2 hpn
  have o2 : w2.cell? ⟨ob, 0, none⟩ = some v := by rw [hO2.cell]; rfl
  have of2 : w2.frozen? ⟨ob, 0, none⟩ = false := hO2.frozen 0
  have hpo : ¬ ob = p := by omega
  have hpo2 : ¬ p = ob := by omega
  have HKB := hide (hKb.setCell (p := ⟨ob, 0, none⟩) (fun _ => hobw) (.slice (some ⟨g, 0, none⟩) (m + 1) cap))
  have HO3 := hide (hO2.set_ 0 (.slice (some ⟨g, 0, none⟩) (m + 1) cap))
  have HOW3 := hide (own_kept hown2 ((Kept.refl (One ob) w2).one 0 (.slice (some ⟨g, 0, none⟩) (m + 1) cap)) (fun q hq => one_ne (by simp [Value.ownBlock] at hq; omega)))
  have HOB := hide hgob
  clear hown2 hg hx hat hKv hKb hO2 hgob h0 h1 h2 o0 of0 hvo
  go_wp2_with fail
  have q0 : (w2.setCell ⟨ob, 0, none⟩ (.slice (some ⟨g, 0, none⟩) (m + 1) cap)).cell? ⟨p, o, none⟩ = some (.int .i64 11) := by rw [World.cell?_setCell_other _ _ _ _ (by simp)]; exact p0
  have q2 : (w2.setCell ⟨ob, 0, none⟩ (.slice (some ⟨g, 0, none⟩) (m + 1) cap)).cell? ⟨p, o + 2, none⟩ = some (.slice (some ⟨b, 0, none⟩) 1 c) := by rw [World.cell?_setCell_other _ _ _ _ (by simp)]; exact p2
  generalize w2.setCell ⟨ob, 0, none⟩ (.slice (some ⟨g, 0, none⟩) (m + 1) cap) = W at HKB HO3 HOW3 q0 q2 ⊢
  refine wp_loop_rounds 2 ?_
  rw [rounds_succ]
  go_wp2_with fail
  refine still_tail 26 (by kernel_rfl) (by kernel_rfl) fun W2 hW => ?_
  have q0 : W2.cell? ⟨p, o, none⟩ = some (.int .i64 11) := by rw [hW]; exact q0
  have q2 : W2.cell? ⟨p, o + 2, none⟩ = some (.slice (some ⟨b, 0, none⟩) 1 c) := by rw [hW]; exact q2
  have HKW := hide (show Kept (fun i => base ≤ i) w W2 by rw [hW]; exact (unhide HKB).drew)
  have HO4 := hide (show Blk W2 ob 38 #[.slice (some ⟨g, 0, none⟩) (m + 1) cap] by rw [hW]; exact unhide HO3)
  have HOW4 := hide (show W2.ownsRow base 42 2 (.slice (some ⟨g, 0, none⟩) (m + 1) cap) (m + 1) (xs ++ [.pointer (some ⟨p, o, none⟩), .bool tr]) by rw [hW]; exact unhide HOW3)
  clear hW
  simp only [List.take_succ_cons, List.take_zero, List.drop_succ_cons, List.drop_zero]
  iterate 26 still_step
  refine wpStill_nil ?_
  go_wp2_with fail
  have hbw : b < W2.heap.size := by have h1 := (unhide HRW).lt; have h2 := (unhide HKW).size; omega
  have hAt : At W2 b 0 a := ⟨k1, n1, A1, l1, c1, row_c3 ((unhide HRW).kept (unhide HKW) (by omega)), (unhide HTT).kept (unhide HKW) (fun i hi => by have := unhide HBL i hi; omega)⟩
  refine (ih W2 b 0 true ob base (m + 1) _ _ hAt hbb (unhide HBL) (unhide HO4) hobw (unhide HOW4) (by simpa [Value.ownBlock] using unhide HOB) hm2).mono ?_
  rintro e w3 ⟨rfl, v3, hO5, hown5, hvo5, hK5⟩
  have HF := hide (show RulesPost w ob base m xs ((p, o, tr) :: nodes a b 0 true) (.returned (.tuple #[])) w3 from
    ⟨rfl, v3, hO5, by rw [List.length_cons, show m + ((nodes a b 0 true).length + 1) = m + 1 + (nodes a b 0 true).length by omega]; simpa [flat] using hown5, hvo5, (unhide HKW).trans hK5 (fun _ _ h => h)⟩)
  clear hO5 hown5 hvo5 hK5 q0 q2 hAt
  go_wp2_with fail
  rw [rounds_succ]
  go_wp2_with fail
  go_end0
  exact unhide HF

end Go.Proofs.YtmjmcjcckncplaaDoor
