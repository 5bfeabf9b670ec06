/- wRules (function 30) at a node with two operands. -/
import Derived.Test.YtmjmcjcckncplaaDoorNodes
namespace Go.Proofs.YtmjmcjcckncplaaDoor
open Go.RowKit Go.BigFrame

set_option maxRecDepth 100000 in
set_option maxHeartbeats 8000000 in
theorem rules_and (b : Nat) (x y : An) (ihx : RulesOk x) (ihy : RulesOk y) : RulesOk (.bin .and b x y) := by
  intro w p o tr ob base m v xs hA hpb hbl hO hob hown hvo hm
  obtain ⟨k, n, A, l, c, ⟨h0, h1, h2⟩, rfl, rfl, rfl, rfl, k1, n1, A1, l1, c1, k2, n2, A2, l2, c2, hrow, hTx, hTy⟩ := hA
  have hbb : b < base := hbl b (by simp [An.blocks])
  have habx : ∀ i, i ∈ x.blocks → i < base := fun i hi => hbl i (by simp [An.blocks, hi])
  have haby : ∀ i, i ∈ y.blocks → i < base := fun i hi => hbl i (by simp [An.blocks, hi])
  have hm2 : m + 1 + x.sz + y.sz ≤ 1000 := by simp only [An.sz] at hm; omega
  have HBX := hide habx
  have HBY := hide haby
  have HRW := hide hrow
  have HTX := hide hTx
  have HTY := hide hTy
  have HO := hide hO
  have HOW := hide hown
  have o0 : w.cell? ⟨ob, 0, none⟩ = some v := by rw [hO.cell]; rfl
  have of0 : w.frozen? ⟨ob, 0, none⟩ = false := hO.frozen 0
  have obl := hO.lt
  obtain ⟨i0, hi, hz0, hz1, hz2⟩ := info_parts info42
  have hobw := hob
  have hN : nodes (.bin .and b x y) p o tr = (p, o, tr) :: (nodes x b 0 true ++ nodes y b 3 true) := rfl
  rw [hN]
  clear hO hown hTx hTy hN habx haby hbl hrow hm
  go_enter Tryd.func30, Tryd.ntmps30
  go_wp2_with (at_builtin; refine wpList_append_own_at _ rfl (.tmp 10) (.tmp 14) 38 rfl base 42 i0 _ 2 16 Tryd.underlying38 hi hz0 hz1 hz2 rfl (by decide) v m xs rfl ((unhide HOW).alloc _) ⟨w.heap.size, 0, none⟩ 1 1 [.pointer (some ⟨p, o, none⟩), .bool tr] rfl rfl ?c1 ?c2 (by unfold maxLen; omega) (by omega) ?c3 ?_)
  case c1 => exact World.news_of_block (cs := #[.pointer (some ⟨p, o, none⟩), .bool tr]) (t := 42) (fr := (0, 0)) (heap_alloc_new w _)
  case c2 => simp [Value.oneCell']
  case c3 => simp; omega
  intro v' w2 hown2 hg hx hat
  obtain ⟨g, cap, rfl, hgb⟩ := own_form hown2 hx
  have hKv : Kept (fun i => v.ownBlock = some i) w w2 := ((Kept.refl _ w).alloc _).grown hg (fun k hk _ => hk)
  have hKb : Kept (fun i => base ≤ i) w w2 := hKv.more (fun i _ h => own_base (unhide HOW) h)
  have hO2 := (unhide HO).kept hKv hvo
  have hgob : g ≠ ob := by
    rintro rfl
    rcases hat with h | h
    · exact hvo (h.symm.trans rfl)
    · simp [Value.ownBlock] at h; omega
  have hs2 := hKv.size
  have hpn : ¬ base ≤ p := by omega
  have p0 : w2.cell? ⟨p, o, none⟩ = some (.int .i64 12) := hKb.cell h0 hpn
  have p2 : w2.cell? ⟨p, o + 2, none⟩ = some (.slice (some ⟨b, 0, none⟩) 2 c) := hKb.cell h2 hpn
  have o2 : w2.cell? ⟨ob, 0, none⟩ = some v := by rw [hO2.cell]; rfl
  have of2 : w2.frozen? ⟨ob, 0, none⟩ = false := hO2.frozen 0
  have hpo : ¬ ob = p := by omega
  have hpo2 : ¬ p = ob := by omega
  have HKB := hide (hKb.setCell (p := ⟨ob, 0, none⟩) (fun _ => hobw) (.slice (some ⟨g, 0, none⟩) (m + 1) cap))
  have HO3 := hide (hO2.set_ 0 (.slice (some ⟨g, 0, none⟩) (m + 1) cap))
  have HOW3 := hide (own_kept hown2 ((Kept.refl (One ob) w2).one 0 (.slice (some ⟨g, 0, none⟩) (m + 1) cap)) (fun q hq => one_ne (by simp [Value.ownBlock] at hq; omega)))
  have HOB := hide hgob
  clear hown2 hg hx hat hKv hKb hO2 hgob h0 h1 h2 o0 of0 hvo
  go_wp2_with fail
  have q0 : (w2.setCell ⟨ob, 0, none⟩ (.slice (some ⟨g, 0, none⟩) (m + 1) cap)).cell? ⟨p, o, none⟩ = some (.int .i64 12) := by rw [World.cell?_setCell_other _ _ _ _ (by simp)]; exact p0
  have q2 : (w2.setCell ⟨ob, 0, none⟩ (.slice (some ⟨g, 0, none⟩) (m + 1) cap)).cell? ⟨p, o + 2, none⟩ = some (.slice (some ⟨b, 0, none⟩) 2 c) := by rw [World.cell?_setCell_other _ _ _ _ (by simp)]; exact p2
  generalize w2.setCell ⟨ob, 0, none⟩ (.slice (some ⟨g, 0, none⟩) (m + 1) cap) = W at HKB HO3 HOW3 q0 q2 ⊢
  refine wp_loop_rounds 3 ?_
  rw [rounds_succ]
  go_wp2_with fail
  refine still_tail 26 (by kernel_rfl) (by kernel_rfl) fun W2 hW => ?_
  have q0 : W2.cell? ⟨p, o, none⟩ = some (.int .i64 12) := by rw [hW]; exact q0
  have q2 : W2.cell? ⟨p, o + 2, none⟩ = some (.slice (some ⟨b, 0, none⟩) 2 c) := by rw [hW]; exact q2
  have HKW := hide (show Kept (fun i => base ≤ i) w W2 by rw [hW]; exact (unhide HKB).drew)
  have HO4 := hide (show Blk W2 ob 38 #[.slice (some ⟨g, 0, none⟩) (m + 1) cap] by rw [hW]; exact unhide HO3)
  have HOW4 := hide (show W2.ownsRow base 42 2 (.slice (some ⟨g, 0, none⟩) (m + 1) cap) (m + 1) (xs ++ [.pointer (some ⟨p, o, none⟩), .bool tr]) by rw [hW]; exact unhide HOW3)
  clear hW
  simp only [List.take_succ_cons, List.take_zero, List.drop_succ_cons, List.drop_zero]
  iterate 26 still_step
  refine wpStill_nil ?_
  go_wp2_with fail
  have hAt : At W2 b 0 x := ⟨k1, n1, A1, l1, c1, row_c3l ((unhide HRW).kept (unhide HKW) (by omega)), (unhide HTX).kept (unhide HKW) (fun i hi => by have := unhide HBX i hi; omega)⟩
  refine (ihx W2 b 0 true ob base (m + 1) _ _ hAt hbb (unhide HBX) (unhide HO4) hobw (unhide HOW4) (by simpa [Value.ownBlock] using unhide HOB) (by omega)).mono ?_
  rintro e w3 ⟨rfl, v3, hO5, hown5, hvo5, hK5⟩
  have HO5 := hide hO5
  have HOW5 := hide hown5
  have HVO5 := hide hvo5
  have hK6 := (unhide HKW).trans hK5 (fun _ _ h => h)
  have q0 : w3.cell? ⟨p, o, none⟩ = some (.int .i64 12) := hK5.cell q0 hpn
  have q2 : w3.cell? ⟨p, o + 2, none⟩ = some (.slice (some ⟨b, 0, none⟩) 2 c) := hK5.cell q2 hpn
  have HK6 := hide hK6
  clear hO5 hown5 hvo5 hK5 hK6 hAt
  go_wp2_with fail
  rw [rounds_succ]
  go_wp2_with fail
  refine still_tail 26 (by kernel_rfl) (by kernel_rfl) fun W4 hW => ?_
  have q0 : W4.cell? ⟨p, o, none⟩ = some (.int .i64 12) := by rw [hW]; exact q0
  have q2 : W4.cell? ⟨p, o + 2, none⟩ = some (.slice (some ⟨b, 0, none⟩) 2 c) := by rw [hW]; exact q2
  have HKX := hide (show Kept (fun i => base ≤ i) w W4 by rw [hW]; exact (unhide HK6).drew)
  have HO6 := hide (show Blk W4 ob 38 #[v3] by rw [hW]; exact unhide HO5)
  have HOW6 := hide (show W4.ownsRow base 42 2 v3 (m + 1 + (nodes x b 0 true).length) (xs ++ [.pointer (some ⟨p, o, none⟩), .bool tr] ++ flat (nodes x b 0 true)) by rw [hW]; exact unhide HOW5)
  clear hW
  simp only [List.take_succ_cons, List.take_zero, List.drop_succ_cons, List.drop_zero]
  iterate 26 still_step
  refine wpStill_nil ?_
  go_wp2_with fail
  have hAt : At W4 b 3 y := ⟨k2, n2, A2, l2, c2, row_c3r ((unhide HRW).kept (unhide HKX) (by omega)), (unhide HTY).kept (unhide HKX) (fun i hi => by have := unhide HBY i hi; omega)⟩
  refine (ihy W4 b 3 true ob base (m + 1 + (nodes x b 0 true).length) _ _ hAt hbb (unhide HBY) (unhide HO6) hobw (unhide HOW6) (unhide HVO5) (by rw [nodes_len]; omega)).mono ?_
  rintro e w5 ⟨rfl, v5, hO7, hown7, hvo7, hK7⟩
  have HF := hide (show RulesPost w ob base m xs ((p, o, tr) :: (nodes x b 0 true ++ nodes y b 3 true)) (.returned (.tuple #[])) w5 from
    ⟨rfl, v5, hO7, by rw [List.length_cons, List.length_append, show m + ((nodes x b 0 true).length + (nodes y b 3 true).length + 1) = m + 1 + (nodes x b 0 true).length + (nodes y b 3 true).length by omega]; simpa [flat, flat_append] using hown7, hvo7, (unhide HKX).trans hK7 (fun _ _ h => h)⟩)
  clear hO7 hown7 hvo7 hK7 q0 q2 hAt
  go_wp2_with fail
  rw [rounds_succ]
  go_wp2_with fail
  go_end0
  exact unhide HF

end Go.Proofs.YtmjmcjcckncplaaDoor
