/- ephemeristop.wRule (function 23): a copy of an expression, in blocks of its own, no block twice. -/
import Derived.Test.YtmjmcjcckncplaaDoorProg
import Derived.Test.YtmjmcjcckncplaaDoorTV
import Derived.Maps.AppendAt
import Derived.Deep.AppendLies
namespace Go.Proofs.YtmjmcjcckncplaaDoor
open Go.RowKit

theorem info24 : (Tryd.prog.info? 24).map (fun i => (i.zero, i.size, i.bytes)) = some (some (.agg #[.int .i64 0, .int .i64 0, .slice none 0 0]), 3, 40) := by kernel_rfl

/-- What a call of wRule leaves. -/
def RulePost (w : World) (t : E) (e : Ending) (w' : World) : Prop := ∃ (a : An) (k n : Int) (A : Option Addr) (l c : Nat), a.e = t ∧ e = .returned (.agg #[.int .i64 k, .int .i64 n, .slice A l c]) ∧ TV w' k n A l a ∧ a.blocks.Nodup ∧
    (∀ b, b ∈ a.blocks → w.heap.size ≤ b) ∧ Kept No w w'

def RuleOk (t : E) : Prop := ∀ (k n : Int) (A : Option Addr) (l c : Nat) (w : World) (F : Nat → Prop), Rd w F k n A l t.r →
    Calls Tryd.prog 23 #[.agg #[.int .i64 k, .int .i64 n, .slice A l c]] w (RulePost w t)

theorem cell3_one (k n : Int) (A : Option Addr) (l c : Nat) : ∀ u, u ∈ cell3 k n A l c → u.oneCell' = true := by
  intro u hu
  simp only [cell3, List.mem_cons, List.not_mem_nil, or_false] at hu
  rcases hu with rfl | rfl | rfl <;> rfl
theorem news3 (W : World) (k n : Int) (A : Option Addr) (l c : Nat) : ∀ j u, (cell3 k n A l c)[j]? = some u → (W.alloc (.cells #[.int .i64 k, .int .i64 n, .slice A l c] 24)).cell? ((⟨W.heap.size, 0, none⟩ : Addr).add j) = some u :=
  World.news_of_block (heap_alloc_new W (.cells #[.int .i64 k, .int .i64 n, .slice A l c] 24))

/-- What append leaves of a row that held nothing: a slice over a new row. -/
theorem own_new {w2 : World} {base N : Nat} {v : Value} {n : Nat} {xs : List Value} (h : w2.ownsRow base 24 3 v n xs) (hn : 0 < n) (hat : v.ownBlock = none ∨ v.ownBlock = some N) :
    ∃ cap, v = .slice (some ⟨N, 0, none⟩) n cap ∧ Row w2 N xs := by
  obtain ⟨g, cap, rfl, hb, hlt⟩ := h.form hn
  have hg : g = N := by
    rcases hat with hat | hat
    · simp [Value.ownBlock] at hat
    · simpa [Value.ownBlock] using hat
  subst hg
  exact ⟨cap, rfl, (Row.of_own h).1⟩

set_option maxHeartbeats 1000000 in
theorem rule_leaf (k n : Int) (A : Option Addr) (c : Nat) (w : World) (t : E) (a : An) (ha : a.e = t) (hT : ∀ w', TV w' k n none 0 a) (hb : a.blocks = []) :
    Calls Tryd.prog 23 #[.agg #[.int .i64 k, .int .i64 n, .slice A 0 c]] w (RulePost w t) := by
  go_enter Tryd.func23, Tryd.ntmps23
  go_wp2
  refine wp_loop_rounds 1 ?_
  rw [rounds_succ]
  go_wp2
  refine bodyPost_ret (v := .agg #[.int .i64 k, .int .i64 n, .slice none 0 0]) (by simp [results, Tryd.results23, go_sem]) rfl ?_
  exact ⟨a, k, n, none, 0, 0, ha, rfl, hT _, by rw [hb]; exact List.nodup_nil, by rw [hb]; simp, ((Kept.refl No w).alloc _).alloc _⟩

set_option maxHeartbeats 2000000 in
theorem rule_un (ta : E) (iha : RuleOk ta) (k : Int) (w : World) (F : Nat → Prop) (b o c : Nat) (k1 n1 : Int) (A1 : Option Addr) (l1 c1 : Nat) (a0 : w.cell? ⟨b, o, none⟩ = some (.int .i64 k1)) (a1 : w.cell? ⟨b, o + 1, none⟩ = some (.int .i64 n1))
    (a2 : w.cell? ⟨b, o + 2, none⟩ = some (.slice A1 l1 c1)) (hr : Rd w F k1 n1 A1 l1 ta.r) (t : E) (mk : Nat → An → An) (he : ∀ b x, x.e = ta → (mk b x).e = t) (hbl : ∀ b x, (mk b x).blocks = b :: x.blocks)
    (hT : ∀ w' b x k1 n1 A1 l1 c1, Row w' b (cell3 k1 n1 A1 l1 c1) → TV w' k1 n1 A1 l1 x → TV w' k 0 (some ⟨b, 0, none⟩) 1 (mk b x)) :
    Calls Tryd.prog 23 #[.agg #[.int .i64 k, .int .i64 0, .slice (some ⟨b, o, none⟩) 1 c]] w (RulePost w t) := by
  obtain ⟨i0, hi, hz0, hz1, hz2⟩ := info_parts info24
  have hblt : b < w.heap.size := World.block_lt_of_cell? w _ a0
  go_enter Tryd.func23, Tryd.ntmps23
  go_wp2
  refine wp_loop_rounds 2 ?_
  rw [rounds_succ]
  go_wp2_with fail
  have hK0 : Kept No w (((w.alloc (.cells #[.int .i64 k, .int .i64 0, .slice (some ⟨b, o, none⟩) 1 c] 24)).alloc (.cells #[.int .i64 0, .int .i64 0, .slice none 0 0] 24)).alloc (.cells #[.int .i64 k1, .int .i64 n1, .slice A1 l1 c1] 24)) :=
    (((Kept.refl No w).alloc _).alloc _).alloc _
  refine (iha k1 n1 A1 l1 c1 _ F (hr.kept hK0 (fun _ _ _ => id))).mono ?_
  rintro e w1 ⟨x, k1', n1', A1', l1', c1', hxe, rfl, hTx, hnd, hlo, hK1⟩
  have hX : Blk w1 w.heap.size 24 #[.int .i64 k, .int .i64 0, .slice (some ⟨b, o, none⟩) 1 c] := (((Blk.new w 24 #[.int .i64 k, .int .i64 0, .slice (some ⟨b, o, none⟩) 1 c]).alloc _).alloc _).kept hK1 id
  have hZ : Blk w1 (w.heap.size + 1) 24 #[.int .i64 0, .int .i64 0, .slice none 0 0] := ((Blk.at_ (w := w.alloc (.cells #[.int .i64 k, .int .i64 0, .slice (some ⟨b, o, none⟩) 1 c] 24)) (by simp)).alloc _).kept hK1 id
  have hsz := hK1.size
  simp at hsz hlo
  have HX := hide hX
  have HZ := hide hZ
  have HT := hide hTx
  have HN := hide hnd
  have HL := hide hlo
  have HE := hide hxe
  have HK := hide (hK0.trans hK1 (fun _ _ h => h))
  clear hX hZ hTx hnd hlo hxe hK0 hK1 a0 a1 a2
  go_wp2_with (at_builtin; refine wpList_append_own_at _ rfl (.tmp 13) (.tmp 16) 22 rfl w.heap.size 24 i0 _ 3 40 Tryd.underlying22 hi hz0 hz1 hz2 rfl (by decide) (.slice none 0 0) 0 [] rfl (World.ownsRow_nil _ _ _ _) ⟨w1.heap.size, 0, none⟩ 1 1 (cell3 k1' n1' A1' l1' c1') rfl rfl ?c1 ?c2 (by unfold maxLen; omega) (by omega) ?c3 ?_)
  case c1 => exact news3 w1 _ _ _ _ _
  case c2 => exact cell3_one _ _ _ _ _
  case c3 => simp; omega
  intro v' w2 hown hg _ hat
  obtain ⟨cap, rfl, hrow⟩ := own_new (N := w1.heap.size + 1) hown (by omega) (by simpa [Value.ownBlock] using hat)
  have hK2 : Kept No w1 w2 := ((Kept.refl No w1).alloc _).grown hg (fun k hk => by simp [Value.ownBlock] at hk)
  have hX : Blk w2 w.heap.size 24 #[.int .i64 k, .int .i64 0, .slice (some ⟨b, o, none⟩) 1 c] := (unhide HX).kept hK2 id
  have hZ : Blk w2 (w.heap.size + 1) 24 #[.int .i64 0, .int .i64 0, .slice none 0 0] := (unhide HZ).kept hK2 id
  have x0 : w2.cell? ⟨w.heap.size, 0, none⟩ = some (.int .i64 k) := by rw [hX.cell]; rfl
  have x1 : w2.cell? ⟨w.heap.size, 1, none⟩ = some (.int .i64 0) := by rw [hX.cell]; rfl
  have x2 : w2.cell? ⟨w.heap.size, 2, none⟩ = some (.slice (some ⟨b, o, none⟩) 1 c) := by rw [hX.cell]; rfl
  have x2f : w2.frozen? ⟨w.heap.size, 2, none⟩ = false := hX.frozen 2
  have z0 : w2.cell? ⟨w.heap.size + 1, 0, none⟩ = some (.int .i64 0) := by rw [hZ.cell]; rfl
  have z1 : w2.cell? ⟨w.heap.size + 1, 1, none⟩ = some (.int .i64 0) := by rw [hZ.cell]; rfl
  have z2 : w2.cell? ⟨w.heap.size + 1, 2, none⟩ = some (.slice none 0 0) := by rw [hZ.cell]; rfl
  have z0f : w2.frozen? ⟨w.heap.size + 1, 0, none⟩ = false := hZ.frozen 0
  have z1f : w2.frozen? ⟨w.heap.size + 1, 1, none⟩ = false := hZ.frozen 1
  have z2f : w2.frozen? ⟨w.heap.size + 1, 2, none⟩ = false := hZ.frozen 2
  have hsz2 := hK2.size
  have HR := hide hrow
  have HK2 := hide ((unhide HK).trans hK2 (fun _ _ h => h))
  have HT2 := hide ((unhide HT).kept hK2 (fun _ _ => id))
  have HX2 := hide ((unhide HT).lt)
  clear hrow hown hg hat hK2 hX hZ
  go_wp2_with fail
  rw [rounds_succ]
  go_wp2
  refine bodyPost_ret (v := .agg #[.int .i64 k, .int .i64 0, .slice (some ⟨w1.heap.size + 1, 0, none⟩) 1 cap]) (by simp [results, Tryd.results23, go_sem, z0, z1, z2]) rfl ?_
  have hK3 : Kept (fun i => i = w.heap.size ∨ i = w.heap.size + 1) w2 ((((w2.setCell ⟨w.heap.size, 2, none⟩ (.slice (some ⟨w1.heap.size + 1, 0, none⟩) 1 cap)).setCell ⟨w.heap.size + 1, 0, none⟩ (.int .i64 k)).setCell ⟨w.heap.size + 1, 1, none⟩ (.int .i64 0)).setCell ⟨w.heap.size + 1, 2, none⟩ (.slice (some ⟨w1.heap.size + 1, 0, none⟩) 1 cap)) :=
    ((((Kept.refl _ w2).setCell (p := ⟨w.heap.size, 2, none⟩) (fun _ => .inl rfl) _).setCell (p := ⟨w.heap.size + 1, 0, none⟩) (fun _ => .inr rfl) _).setCell (p := ⟨w.heap.size + 1, 1, none⟩) (fun _ => .inr rfl) _).setCell (p := ⟨w.heap.size + 1, 2, none⟩) (fun _ => .inr rfl) _
  have hL := unhide HL
  have hX2 := unhide HX2
  refine ⟨mk (w1.heap.size + 1) x, k, 0, _, 1, cap, he _ _ (unhide HE), rfl, hT _ _ _ _ _ _ _ _ ((unhide HR).kept hK3 (by omega)) ((unhide HT2).kept hK3 (fun i hi => by have := hL i hi; omega)), ?_, ?_, (unhide HK2).trans hK3 (fun i hi h => by omega)⟩
  · rw [hbl, List.nodup_cons]
    exact ⟨fun h => by have := hX2 _ h; omega, unhide HN⟩
  · intro i hi
    rw [hbl, List.mem_cons] at hi
    rcases hi with rfl | hi
    · omega
    · have := hL i hi; omega

/-- What append leaves of a row of the call's own: the row's block, or a new one. -/
theorem own_more {w2 : World} {base N g : Nat} {v : Value} {n : Nat} {xs : List Value} (h : w2.ownsRow base 24 3 v n xs) (hn : 0 < n) (hat : v.ownBlock = some g ∨ v.ownBlock = some N) :
    ∃ b cap, v = .slice (some ⟨b, 0, none⟩) n cap ∧ Row w2 b xs ∧ (b = g ∨ b = N) := by
  obtain ⟨b, cap, rfl, hb, hlt⟩ := h.form hn
  refine ⟨b, cap, rfl, (Row.of_own h).1, ?_⟩
  rcases hat with hat | hat
  · exact .inl (by simpa [Value.ownBlock] using hat)
  · exact .inr (by simpa [Value.ownBlock] using hat)
theorem own_kept {S : Nat → Prop} {w w1 : World} {base : Nat} {e : TypeId} {size n : Nat} {v : Value} {xs : List Value} (h : w.ownsRow base e size v n xs) (hk : Kept S w w1) (hs : ∀ g, v.ownBlock = some g → ¬ S g) : w1.ownsRow base e size v n xs := by
  rcases h with ⟨h0, ⟨rfl, h1⟩ | ⟨g, cap, cur, rfl, hb, hh, h1⟩⟩
  · exact ⟨h0, .inl ⟨rfl, h1⟩⟩
  · exact ⟨h0, .inr ⟨g, cap, cur, rfl, hb, (hk.block g (Array.getElem?_eq_some_iff.1 hh).1 (hs g rfl)).trans hh, h1⟩⟩

set_option maxHeartbeats 4000000 in
theorem rule_bin (ta tb : E) (iha : RuleOk ta) (ihb : RuleOk tb) (op : O2) (k : Int) (hk : k = op.code) (w : World) (F : Nat → Prop) (b o c : Nat) (k1 n1 : Int) (A1 : Option Addr) (l1 c1 : Nat) (k2 n2 : Int) (A2 : Option Addr) (l2 c2 : Nat)
    (a0 : w.cell? ⟨b, o, none⟩ = some (.int .i64 k1)) (a1 : w.cell? ⟨b, o + 1, none⟩ = some (.int .i64 n1)) (a2 : w.cell? ⟨b, o + 2, none⟩ = some (.slice A1 l1 c1)) (hr : Rd w F k1 n1 A1 l1 ta.r)
    (a3 : w.cell? ⟨b, o + 3, none⟩ = some (.int .i64 k2)) (a4 : w.cell? ⟨b, o + 4, none⟩ = some (.int .i64 n2)) (a5 : w.cell? ⟨b, o + 5, none⟩ = some (.slice A2 l2 c2)) (hr' : Rd w F k2 n2 A2 l2 tb.r) :
    Calls Tryd.prog 23 #[.agg #[.int .i64 k, .int .i64 0, .slice (some ⟨b, o, none⟩) 2 c]] w (RulePost w (.bin op ta tb)) := by
  have HKO := hide hk
  clear hk
  obtain ⟨i0, hi, hz0, hz1, hz2⟩ := info_parts info24
  have hblt : b < w.heap.size := World.block_lt_of_cell? w _ a0
  go_enter Tryd.func23, Tryd.ntmps23
  go_wp2
  refine wp_loop_rounds 3 ?_
  rw [rounds_succ]
  go_wp2_with fail
  have hK0 : Kept No w (((w.alloc (.cells #[.int .i64 k, .int .i64 0, .slice (some ⟨b, o, none⟩) 2 c] 24)).alloc (.cells #[.int .i64 0, .int .i64 0, .slice none 0 0] 24)).alloc (.cells #[.int .i64 k1, .int .i64 n1, .slice A1 l1 c1] 24)) :=
    (((Kept.refl No w).alloc _).alloc _).alloc _
  refine (iha k1 n1 A1 l1 c1 _ F (hr.kept hK0 (fun _ _ _ => id))).mono ?_
  rintro e w1 ⟨x, k1', n1', A1', l1', c1', hxe, rfl, hTx, hnd, hlo, hK1⟩
  have hX : Blk w1 w.heap.size 24 #[.int .i64 k, .int .i64 0, .slice (some ⟨b, o, none⟩) 2 c] := (((Blk.new w 24 #[.int .i64 k, .int .i64 0, .slice (some ⟨b, o, none⟩) 2 c]).alloc _).alloc _).kept hK1 id
  have hZ : Blk w1 (w.heap.size + 1) 24 #[.int .i64 0, .int .i64 0, .slice none 0 0] := ((Blk.at_ (w := w.alloc (.cells #[.int .i64 k, .int .i64 0, .slice (some ⟨b, o, none⟩) 2 c] 24)) (by simp)).alloc _).kept hK1 id
  have hsz := hK1.size
  simp at hsz hlo
  have HX := hide hX
  have HZ := hide hZ
  have HT := hide hTx
  have HN := hide hnd
  have HL := hide hlo
  have HE := hide hxe
  have HK := hide (hK0.trans hK1 (fun _ _ h => h))
  have A3 := hide a3
  have A4 := hide a4
  have A5 := hide a5
  clear hX hZ hTx hnd hlo hxe hK0 hK1 a0 a1 a2 a3 a4 a5
  go_wp2_with (at_builtin; refine wpList_append_own_at _ rfl (.tmp 13) (.tmp 16) 22 rfl w.heap.size 24 i0 _ 3 40 Tryd.underlying22 hi hz0 hz1 hz2 rfl (by decide) (.slice none 0 0) 0 [] rfl (World.ownsRow_nil _ _ _ _) ⟨w1.heap.size, 0, none⟩ 1 1 (cell3 k1' n1' A1' l1' c1') rfl rfl ?c1 ?c2 (by unfold maxLen; omega) (by omega) ?c3 ?_)
  case c1 => exact news3 w1 _ _ _ _ _
  case c2 => exact cell3_one _ _ _ _ _
  case c3 => simp; omega
  intro v' w2 hown hg _ hat
  obtain ⟨cap, rfl, _⟩ := own_new (N := w1.heap.size + 1) hown (by omega) (by simpa [Value.ownBlock] using hat)
  have hK2 : Kept No w1 w2 := ((Kept.refl No w1).alloc _).grown hg (fun k hk => by simp [Value.ownBlock] at hk)
  have hsz2 := hg.size
  simp at hsz2
  have HX := hide ((unhide HX).kept hK2 id)
  have HZ := hide ((unhide HZ).kept hK2 id)
  have HO := hide hown
  have HK2 := hide ((unhide HK).trans hK2 (fun _ _ h => h))
  have HT2 := hide ((unhide HT).kept hK2 (fun _ _ => id))
  have HX2 := hide ((unhide HT).lt)
  have d3 : w2.cell? ⟨b, o + 3, none⟩ = some (.int .i64 k2) := (unhide HK2).cell (unhide A3) id
  have d4 : w2.cell? ⟨b, o + 4, none⟩ = some (.int .i64 n2) := (unhide HK2).cell (unhide A4) id
  have d5 : w2.cell? ⟨b, o + 5, none⟩ = some (.slice A2 l2 c2) := (unhide HK2).cell (unhide A5) id
  have hbl2 : b < w2.heap.size := by omega
  clear hown hg hat hK2
  go_wp2_with fail
  rw [rounds_succ]
  go_wp2_with fail
  clear d3 d4 d5
  have hK3 : Kept No w (w2.alloc (.cells #[.int .i64 k2, .int .i64 n2, .slice A2 l2 c2] 24)) := (unhide HK2).alloc _
  refine (ihb k2 n2 A2 l2 c2 _ F (hr'.kept hK3 (fun _ _ _ => id))).mono ?_
  rintro e w3 ⟨y, k2', n2', A2', l2', c2', hye, rfl, hTy, hndy, hloy, hK4⟩
  have hK5 : Kept No w2 w3 := ((Kept.refl No w2).alloc _).trans hK4 (fun _ _ h => h)
  have HX := hide ((unhide HX).kept hK5 id)
  have HZ := hide ((unhide HZ).kept hK5 id)
  have hO := own_kept (unhide HO) hK5 (fun _ _ => id)
  have HT2 := hide ((unhide HT2).kept hK5 (fun _ _ => id))
  have HTy := hide hTy
  have HNy := hide hndy
  have hsz3 := hK4.size
  simp at hsz3 hloy
  have HLy := hide hloy
  have HEy := hide hye
  have HK5 := hide ((unhide HK2).trans hK5 (fun _ _ h => h))
  clear hTy hndy hloy hye hK3 hK4 hK5
  go_wp2_with (at_builtin; refine wpList_append_own_at _ rfl (.tmp 13) (.tmp 16) 22 rfl w.heap.size 24 i0 _ 3 40 Tryd.underlying22 hi hz0 hz1 hz2 rfl (by decide) _ 1 _ rfl (hO.alloc _) ⟨w3.heap.size, 0, none⟩ 1 1 (cell3 k2' n2' A2' l2' c2') rfl rfl ?c4 ?c5 (by unfold maxLen; omega) (by omega) ?c6 ?_)
  case c4 => exact news3 w3 _ _ _ _ _
  case c5 => exact cell3_one _ _ _ _ _
  case c6 => simp; omega
  intro v' w4 hown hg _ hat
  obtain ⟨g, cap2, rfl, hrow, hgg⟩ := own_more (g := w1.heap.size + 1) (N := w3.heap.size + 1) hown (by omega) (by simpa [Value.ownBlock] using hat)
  have hK6 : Kept (One (w1.heap.size + 1)) w3 w4 := ((Kept.refl _ w3).alloc _).grown hg (fun k hk _ => by simp [Value.ownBlock] at hk; exact hk.symm)
  have hX : Blk w4 w.heap.size 24 #[.int .i64 k, .int .i64 0, .slice (some ⟨b, o, none⟩) 2 c] := (unhide HX).kept hK6 (one_ne (by omega))
  have hZ : Blk w4 (w.heap.size + 1) 24 #[.int .i64 0, .int .i64 0, .slice none 0 0] := (unhide HZ).kept hK6 (one_ne (by omega))
  have x0 : w4.cell? ⟨w.heap.size, 0, none⟩ = some (.int .i64 k) := by rw [hX.cell]; rfl
  have x1 : w4.cell? ⟨w.heap.size, 1, none⟩ = some (.int .i64 0) := by rw [hX.cell]; rfl
  have x2 : w4.cell? ⟨w.heap.size, 2, none⟩ = some (.slice (some ⟨b, o, none⟩) 2 c) := by rw [hX.cell]; rfl
  have x2f : w4.frozen? ⟨w.heap.size, 2, none⟩ = false := hX.frozen 2
  have z0 : w4.cell? ⟨w.heap.size + 1, 0, none⟩ = some (.int .i64 0) := by rw [hZ.cell]; rfl
  have z1 : w4.cell? ⟨w.heap.size + 1, 1, none⟩ = some (.int .i64 0) := by rw [hZ.cell]; rfl
  have z2 : w4.cell? ⟨w.heap.size + 1, 2, none⟩ = some (.slice none 0 0) := by rw [hZ.cell]; rfl
  have z0f : w4.frozen? ⟨w.heap.size + 1, 0, none⟩ = false := hZ.frozen 0
  have z1f : w4.frozen? ⟨w.heap.size + 1, 1, none⟩ = false := hZ.frozen 1
  have z2f : w4.frozen? ⟨w.heap.size + 1, 2, none⟩ = false := hZ.frozen 2
  have hL := unhide HL
  have hLy := unhide HLy
  have hX2 := unhide HX2
  have hY2 := (unhide HTy).lt
  have HR := hide hrow
  have HK6 := hide ((unhide HK5).trans hK6 (fun i hi h => by unfold One at h; omega))
  have HT3 := hide ((unhide HT2).kept hK6 (fun i hi => one_ne (by have := hX2 i hi; omega)))
  have HT4 := hide ((unhide HTy).kept hK6 (fun i hi => one_ne (by have := hLy i hi; omega)))
  have HG := hide hgg
  have HL2 := hide hLy
  have HY2 := hide hY2
  clear hrow hown hg hat hK6 hX hZ hL hLy hX2 hY2 hgg hO
  go_wp2_with fail
  rw [rounds_succ]
  go_wp2
  refine bodyPost_ret (v := .agg #[.int .i64 k, .int .i64 0, .slice (some ⟨g, 0, none⟩) 2 cap2]) (by simp [results, Tryd.results23, go_sem, z0, z1, z2]) rfl ?_
  have hK7 : Kept (fun i => i = w.heap.size ∨ i = w.heap.size + 1) w4 ((((w4.setCell ⟨w.heap.size, 2, none⟩ (.slice (some ⟨g, 0, none⟩) 2 cap2)).setCell ⟨w.heap.size + 1, 0, none⟩ (.int .i64 k)).setCell ⟨w.heap.size + 1, 1, none⟩ (.int .i64 0)).setCell ⟨w.heap.size + 1, 2, none⟩ (.slice (some ⟨g, 0, none⟩) 2 cap2)) :=
    ((((Kept.refl _ w4).setCell (p := ⟨w.heap.size, 2, none⟩) (fun _ => .inl rfl) _).setCell (p := ⟨w.heap.size + 1, 0, none⟩) (fun _ => .inr rfl) _).setCell (p := ⟨w.heap.size + 1, 1, none⟩) (fun _ => .inr rfl) _).setCell (p := ⟨w.heap.size + 1, 2, none⟩) (fun _ => .inr rfl) _
  have hL := unhide HL
  have hLy := unhide HL2
  have hX2 := unhide HX2
  have hY2 := unhide HY2
  have hg := unhide HG
  refine ⟨.bin op g x y, k, 0, _, 2, cap2, ?_, rfl, ?_, ?_, ?_, (unhide HK6).trans hK7 (fun i hi h => by omega)⟩
  · simp only [An.e, unhide HE, unhide HEy]
  · exact ⟨unhide HKO, rfl, rfl, rfl, k1', n1', A1', l1', c1', k2', n2', A2', l2', c2', (unhide HR).kept hK7 (by omega), (unhide HT3).kept hK7 (fun i hi => by have := hL i hi; omega), (unhide HT4).kept hK7 (fun i hi => by have := hLy i hi; omega)⟩
  · simp only [An.blocks, List.nodup_cons, List.mem_append]
    refine ⟨?_, List.nodup_append.2 ⟨unhide HN, unhide HNy, ?_⟩⟩
    · rintro (h | h)
      · have := hX2 _ h; omega
      · have h1 := hLy _ h; have h2 := hY2 _ h; omega
    · intro i hi j hj
      have h1 := hX2 _ hi; have h2 := hLy _ hj; omega
  · intro i hi
    simp only [An.blocks, List.mem_cons, List.mem_append] at hi
    rcases hi with rfl | hi | hi
    · omega
    · have := hL _ hi; omega
    · have := hLy _ hi; omega

theorem rule_any (t : E) : RuleOk t := by
  induction t with
  | num m =>
    rintro k n A l c w F ⟨rfl, rfl, rfl⟩
    exact rule_leaf 1 n A c w _ (.num n) rfl (fun _ => ⟨rfl, rfl, rfl, rfl⟩) rfl
  | year =>
    rintro k n A l c w F ⟨rfl, rfl, rfl⟩
    exact rule_leaf 2 0 A c w _ .year rfl (fun _ => ⟨rfl, rfl, rfl, rfl⟩) rfl
  | neg a ih =>
    rintro k n A l c w F ⟨rfl, rfl, rfl, b, o, k1, n1, A1, l1, c1, rfl, _, a0, a1, a2, hr⟩
    exact rule_un a ih 3 w F b o c k1 n1 A1 l1 c1 a0 a1 a2 hr _ .neg (fun _ _ h => by simp [An.e, h]) (fun _ _ => rfl) (fun _ _ _ _ _ _ _ _ h1 h2 => ⟨rfl, rfl, rfl, rfl, _, _, _, _, _, h1, h2⟩)
  | not a ih =>
    rintro k n A l c w F ⟨rfl, rfl, rfl, b, o, k1, n1, A1, l1, c1, rfl, _, a0, a1, a2, hr⟩
    exact rule_un a ih 11 w F b o c k1 n1 A1 l1 c1 a0 a1 a2 hr _ .not (fun _ _ h => by simp [An.e, h]) (fun _ _ => rfl) (fun _ _ _ _ _ _ _ _ h1 h2 => ⟨rfl, rfl, rfl, rfl, _, _, _, _, _, h1, h2⟩)
  | bin op x y ihx ihy =>
    rintro k n A l c w F ⟨hk, rfl, rfl, b, o, k1, n1, A1, l1, c1, k2, n2, A2, l2, c2, rfl, _, a0, a1, a2, hr, a3, a4, a5, hr'⟩
    exact rule_bin x y ihx ihy op k hk w F b o c k1 n1 A1 l1 c1 k2 n2 A2 l2 c2 a0 a1 a2 hr a3 a4 a5 hr'

end Go.Proofs.YtmjmcjcckncplaaDoor
