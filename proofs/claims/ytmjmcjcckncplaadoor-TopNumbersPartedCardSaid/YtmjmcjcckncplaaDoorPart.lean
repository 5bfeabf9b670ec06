/- TopNumbersParted: its closure (function 32), its root (function 10). -/
import Derived.Test.YtmjmcjcckncplaaDoorCtx
import Derived.Test.YtmjmcjcckncplaaDoorAll
import Derived.Test.YtmjmcjcckncplaaDoorInvS
import Derived.Test.YtmjmcjcckncplaaDoorPartB
import Derived.IntWalk
import Derived.Deep.RegionHeld3
namespace Go.Proofs.YtmjmcjcckncplaaDoor
open Go.RowKit Go.BigFrame

set_option maxRecDepth 100000 in
set_option maxHeartbeats 4000000 in
theorem part_big3 (hw bv : Int) (hb1 hb2 : Nat) (w0 w : World) (F : Nat → Prop) (k n : Int) (A : Option Addr) (l c : Nat) (t : E) (m d : Int) (tr : Bool) (hK0 : Kept No w0 w) (hr : Rd w F k n A l (t).r) (hH1 : Blk w0 hb1 3 #[.int .i64 hw]) (hH2 : Blk w0 hb2 3 #[.int .i64 bv]) (hn0 : 0 ≤ n) (hnm : n ≤ 2147483647) (hm : pickF bv (n + 1) = m) (hd : pickF bv 20 = d - 1) (hp : pickF hw 7 = 3) :
    Calls Tryd.prog 32 #[.agg #[.int .i64 k, .int .i64 n, .slice A l c], .bool tr, .pointer (some ⟨hb1, 0, none⟩), .pointer (some ⟨hb2, 0, none⟩)] w (Made w F (numE 3 0 0 0 t)) := by
  have hB1 := hH1.kept hK0 id
  have hB2 := hH2.kept hK0 id
  have h1 : w.cell? ⟨hb1, 0, none⟩ = some (.int .i64 hw) := hB1.cell 0
  have h2 : w.cell? ⟨hb2, 0, none⟩ = some (.int .i64 bv) := hB2.cell 0
  have hbw1 := hB1.lt
  have hbw2 := hB2.lt
  have HB1 := hide hB1
  have HB2 := hide hB2
  have HP := hide hp
  have HM := hide hm
  have HD := hide hd
  have hm0 : 0 ≤ m ∧ m ≤ n := by have := pickF_range (x := bv) (n := n + 1) (by omega); omega
  have hd0 : 1 ≤ d ∧ d ≤ 20 := by have := pickF_range (x := bv) (n := 20) (by omega); omega
  obtain ⟨hm1, hm2⟩ := hm0
  obtain ⟨hd1, hd2⟩ := hd0
  have hn1 : (1 : Int) ≤ n + 1 := by omega
  have hn2 : n + 1 ≤ 9223372036854775807 := by omega
  have EW1 := hide (show IntKind.i64.wrap (n + 1) = n + 1 from IntWalk.i64_in _ (by omega))
  have EW2 := hide (show IntKind.i64.wrap d = d from IntWalk.i64_in _ (by omega))
  have EW3 := hide (show IntKind.i64.wrap (n - m) = n - m from IntWalk.i64_in _ (by omega))
  have EW4 := hide (show IntKind.i64.wrap (n + d) = n + d from IntWalk.i64_in _ (by omega))
  have htd : 0 ≤ n.tdiv d ∧ n.tdiv d ≤ n := by
    rw [Int.tdiv_eq_ediv_of_nonneg hn0]
    exact ⟨Int.ediv_nonneg hn0 (by omega), Int.ediv_le_self _ hn0⟩
  have htm : 0 ≤ n.tmod d ∧ n.tmod d ≤ 20 := by
    rw [Int.tmod_eq_emod_of_nonneg hn0]
    have h3 := Int.emod_nonneg n (show d ≠ 0 by omega)
    have h4 := Int.emod_lt_of_pos n (show 0 < d by omega)
    omega
  have EW5 := hide (show IntKind.i64.wrap (n.tdiv d) = n.tdiv d from IntWalk.i64_in _ (by omega))
  have EW6 := hide (show IntKind.i64.wrap (n.tmod d) = n.tmod d from IntWalk.i64_in _ (by omega))
  clear htd htm
  have HN1 := hide hn1
  have HN2 := hide hn2
  have HR := hide hr
  clear hr hK0 hH1 hH2 hp hm hd hB1 hB2
  go_enter Tryd.func32, Tryd.ntmps32
  go_wp2_with fail
  have HC := hide (Ctx.start w k n A l c)
  generalize (w.alloc (.cells #[.int .i64 k, .int .i64 n, .slice A l c] 24)).alloc (.cells #[.int .i64 0, .int .i64 0, .slice none 0 0] 24) = V at HC ⊢
  have Ht := hide (rd_in (unhide HR) (unhide HC).kept)
  refine wp_region_inv 4 [] (by kernel_rfl) (by kernel_rfl) (fun y1 => { tmps := #[Value.agg #[Value.int IntKind.i64 k, Value.int IntKind.i64 n, Value.slice A l c], Value.bool tr, Value.pointer (some { block := hb1, off := 0 }), Value.pointer (some { block := hb2, off := 0 }), Value.pointer (some { block := w.heap.size, off := 0 }), undef, Value.pointer (some { block := w.heap.size + 1, off := 0 }), Value.bool false, undef, undef, undef, undef, y1 0, y1 1, y1 2, y1 3, undef, undef, undef, undef, undef, undef, undef, undef, undef, undef, undef, undef, undef, undef, undef, undef, undef, undef, undef, undef, undef, undef, undef, undef, undef, undef, undef, undef, undef, undef, undef, undef, undef, undef, undef, undef, undef, undef, undef, undef, undef, undef, undef, undef, undef, undef, undef, undef, undef, undef, undef, undef, undef, undef, undef, undef, undef, undef, undef, undef, undef, undef, undef, undef, undef, undef, undef], defers := [] }) (fun _ => undef) (fun i v W => Sh.ok (FN F w) W (([Sh.val (.pointer (some ⟨w.heap.size, 1, none⟩)), Sh.val (.int .i64 n), Sh.val (.int .i64 hw), Sh.val (.int .i64 3)] : List Sh).getD i .any) v) (fun i v W W' hK h => Sh.kept hK _ _ h) ?_ ?_
  · refine ⟨?_, ?_, ?_, ?_, trivial⟩
    · refine ⟨fun x v => rfl, fun y1 S W hK hall hdep K hcont => ?_⟩
      have HCONT := hide hcont
      have HKW := hide hK
      clear hcont hK hall hdep
      rw [if_pos (by rfl)]
      go_simp
      exact unhide HCONT _ _ _ rfl (Kept.refl No _) rfl (fun h => absurd h (by decide))
    · refine ⟨fun x v => rfl, fun y1 S W hK hall hdep K hcont => ?_⟩
      have HCONT := hide hcont
      have HKW := hide hK
      have d0 := hall 0 (by decide) (hdep ⟨0, Ground.data⟩ (by simp) rfl)
      clear hcont hK hall hdep
      have e0 : y1 0 = .pointer (some ⟨w.heap.size, 1, none⟩) := d0
      obtain ⟨xs0, xs1, xs2⟩ := ((unhide HC).go (unhide HKW)).xs
      rw [if_pos (by rfl)]
      simp only [e0]
      go_simp
      exact unhide HCONT _ _ _ (by (try simp only [e0]); rfl) (Kept.refl No _) rfl (fun h => absurd h (by decide))
    · refine ⟨fun x v => rfl, fun y1 S W hK hall hdep K hcont => ?_⟩
      have HCONT := hide hcont
      have HKW := hide hK
      clear hcont hK hall hdep
      have hq := (((unhide HB1).kept (unhide HC).kept id).kept (unhide HKW) id).cell 0
      rw [if_pos (by rfl)]
      go_simp
      exact unhide HCONT _ _ _ rfl (Kept.refl No _) rfl (fun h => absurd h (by decide))
    · refine ⟨fun x v => rfl, fun y1 S W hK hall hdep K hcont => ?_⟩
      have HCONT := hide hcont
      have HKW := hide hK
      have d2 := hall 2 (by decide) (hdep ⟨2, Ground.data⟩ (by simp) rfl)
      clear hcont hK hall hdep
      have e2 : y1 2 = .int .i64 hw := d2
      rw [if_pos (by rfl)]
      simp only [e2]
      go_simp
      refine (pick_any hw 7 (by omega) (by omega) _).mono ?_
      rintro e w4 ⟨rfl, rfl⟩
      rw [unhide HP]
      exact unhide HCONT _ _ _ (by (try simp only [e2]); rfl) (Kept.refl No _) rfl (fun h => absurd h (by decide))
  · intro y1 W1 hK hx hD
    have en : y1 1 = .int .i64 n := hx 1 (by decide)
    have ep : y1 3 = .int .i64 3 := hx 3 (by decide)
    have hvz := (unhide HC).z.lt
    have Ht := hide ((unhide Ht).kept hK (fun _ _ _ => id))
    have HC := hide ((unhide HC).go hK)
    simp only [en, ep, List.drop]
    clear hK hx hD hvz en ep
    go_wp2_with fail
    refine wp_region_inv 8 [] (by kernel_rfl) (by kernel_rfl) (fun y2 => { tmps := #[Value.agg #[Value.int IntKind.i64 k, Value.int IntKind.i64 n, Value.slice A l c], Value.bool tr, Value.pointer (some { block := hb1, off := 0 }), Value.pointer (some { block := hb2, off := 0 }), Value.pointer (some { block := w.heap.size, off := 0 }), undef, Value.pointer (some { block := w.heap.size + 1, off := 0 }), Value.bool false, Value.int IntKind.i64 n, Value.int IntKind.i64 3, y2 7, undef, y1 0, Value.int IntKind.i64 n, y1 2, Value.int IntKind.i64 3, y2 0, y2 1, y2 2, y2 3, y2 4, y2 5, y2 6, undef, undef, undef, undef, undef, undef, undef, undef, undef, undef, undef, undef, undef, undef, undef, undef, undef, undef, undef, undef, undef, undef, undef, undef, undef, undef, undef, undef, undef, undef, undef, undef, undef, undef, undef, undef, undef, undef, undef, undef, undef, undef, undef, undef, undef, undef, undef, undef, undef, undef, undef, undef, undef, undef, undef, undef, undef, undef, undef, undef], defers := [] }) (fun _ => undef) (fun i v W => Sh.ok (FN F w) W (([Sh.val (.int .i64 bv), Sh.val (Value.int IntKind.i64 n), Sh.val (.int .i64 (n + 1)), Sh.val (.int .i64 m), Sh.val (.int .i64 bv), Sh.val (.int .i64 (d - 1)), Sh.val (.int .i64 d), Sh.val (.int .i64 m)] : List Sh).getD i .any) v) (fun i v W W' hK h => Sh.kept hK _ _ h) ?_ ?_
    · refine ⟨?_, ?_, ?_, ?_, ?_, ?_, ?_, ?_, trivial⟩
      · refine ⟨fun x v => rfl, fun y2 S W hK hall hdep K hcont => ?_⟩
        have HCONT := hide hcont
        have HKW := hide hK
        clear hcont hK hall hdep
        have hq := (((unhide HB2).kept (unhide HC).kept id).kept (unhide HKW) id).cell 0
        rw [if_pos (by rfl)]
        go_simp
        exact unhide HCONT _ _ _ rfl (Kept.refl No _) rfl (fun h => absurd h (by decide))
      · refine ⟨fun x v => rfl, fun y2 S W hK hall hdep K hcont => ?_⟩
        have HCONT := hide hcont
        have HKW := hide hK
        clear hcont hK hall hdep
        rw [if_pos (by rfl)]
        go_simp
        exact unhide HCONT _ _ _ rfl (Kept.refl No _) rfl (fun h => absurd h (by decide))
      · refine ⟨fun x v => rfl, fun y2 S W hK hall hdep K hcont => ?_⟩
        have HCONT := hide hcont
        have HKW := hide hK
        have d1 := hall 1 (by decide) (hdep ⟨1, Ground.data⟩ (by simp) rfl)
        clear hcont hK hall hdep
        have e1 : y2 1 = Value.int IntKind.i64 n := d1
        rw [if_pos (by rfl)]
        simp only [e1]
        go_simp
        rw [unhide EW1]
        exact unhide HCONT _ _ _ (by (try simp only [e1]); rfl) (Kept.refl No _) rfl (fun h => absurd h (by decide))
      · refine ⟨fun x v => rfl, fun y2 S W hK hall hdep K hcont => ?_⟩
        have HCONT := hide hcont
        have HKW := hide hK
        have d0 := hall 0 (by decide) (hdep ⟨0, Ground.data⟩ (by simp) rfl)
        have d2 := hall 2 (by decide) (hdep ⟨2, Ground.data⟩ (by simp) rfl)
        clear hcont hK hall hdep
        have e0 : y2 0 = .int .i64 bv := d0
        have e2 : y2 2 = .int .i64 (n + 1) := d2
        rw [if_pos (by rfl)]
        simp only [e0, e2]
        go_simp
        refine (pick_any bv (n + 1) (unhide HN1) (unhide HN2) _).mono ?_
        rintro e w4 ⟨rfl, rfl⟩
        rw [unhide HM]
        exact unhide HCONT _ _ _ (by (try simp only [e0, e2]); rfl) (Kept.refl No _) rfl (fun h => absurd h (by decide))
      · refine ⟨fun x v => rfl, fun y2 S W hK hall hdep K hcont => ?_⟩
        have HCONT := hide hcont
        have HKW := hide hK
        clear hcont hK hall hdep
        have hq := (((unhide HB2).kept (unhide HC).kept id).kept (unhide HKW) id).cell 0
        rw [if_pos (by rfl)]
        go_simp
        exact unhide HCONT _ _ _ rfl (Kept.refl No _) rfl (fun h => absurd h (by decide))
      · refine ⟨fun x v => rfl, fun y2 S W hK hall hdep K hcont => ?_⟩
        have HCONT := hide hcont
        have HKW := hide hK
        have d4 := hall 4 (by decide) (hdep ⟨4, Ground.data⟩ (by simp) rfl)
        clear hcont hK hall hdep
        have e4 : y2 4 = .int .i64 bv := d4
        rw [if_pos (by rfl)]
        simp only [e4]
        go_simp
        refine (pick_any bv 20 (by omega) (by omega) _).mono ?_
        rintro e w4 ⟨rfl, rfl⟩
        rw [unhide HD]
        exact unhide HCONT _ _ _ (by (try simp only [e4]); rfl) (Kept.refl No _) rfl (fun h => absurd h (by decide))
      · refine ⟨fun x v => rfl, fun y2 S W hK hall hdep K hcont => ?_⟩
        have HCONT := hide hcont
        have HKW := hide hK
        have d5 := hall 5 (by decide) (hdep ⟨5, Ground.data⟩ (by simp) rfl)
        clear hcont hK hall hdep
        have e5 : y2 5 = .int .i64 (d - 1) := d5
        rw [if_pos (by rfl)]
        simp only [e5]
        go_simp
        rw [unhide EW2]
        exact unhide HCONT _ _ _ (by (try simp only [e5]); rfl) (Kept.refl No _) rfl (fun h => absurd h (by decide))
      · refine ⟨fun x v => rfl, fun y2 S W hK hall hdep K hcont => ?_⟩
        have HCONT := hide hcont
        have HKW := hide hK
        have d3 := hall 3 (by decide) (hdep ⟨3, Ground.data⟩ (by simp) rfl)
        clear hcont hK hall hdep
        have e3 : y2 3 = .int .i64 m := d3
        rw [if_pos (by rfl)]
        simp only [e3]
        go_simp
        exact unhide HCONT _ _ _ (by (try simp only [e3]); rfl) (Kept.refl No _) rfl (fun h => absurd h (by decide))
    · intro y2 W2 hK hx hD
      have ed : y2 6 = .int .i64 d := hx 6 (by decide)
      have em : y2 7 = .int .i64 m := hx 7 (by decide)
      have hvz := (unhide HC).z.lt
      have Ht := hide ((unhide Ht).kept hK (fun _ _ _ => id))
      have HC := hide ((unhide HC).go hK)
      simp only [ed, em, List.drop]
      clear hK hx hD hvz ed em
      go_wp2_with fail
      refine wp_region_inv 21 [] (by kernel_rfl) (by kernel_rfl) (fun y3 => { tmps := #[Value.agg #[Value.int IntKind.i64 k, Value.int IntKind.i64 n, Value.slice A l c], Value.bool tr, Value.pointer (some { block := hb1, off := 0 }), Value.pointer (some { block := hb2, off := 0 }), Value.pointer (some { block := w.heap.size, off := 0 }), undef, Value.pointer (some { block := w.heap.size + 1, off := 0 }), Value.bool false, Value.int IntKind.i64 n, Value.int IntKind.i64 3, Value.int IntKind.i64 m, Value.int IntKind.i64 d, y1 0, Value.int IntKind.i64 n, y1 2, Value.int IntKind.i64 3, y2 0, y2 1, y2 2, y2 3, y2 4, y2 5, Value.int IntKind.i64 d, Value.int IntKind.i64 3, Value.bool true, y3 0, y3 1, y3 2, y3 3, y3 4, y3 5, y3 6, y3 7, y3 8, y3 9, y3 10, y3 11, y3 12, y3 13, y3 14, y3 15, y3 16, y3 17, y3 18, y3 19, y3 20, undef, undef, undef, undef, undef, undef, undef, undef, undef, undef, undef, undef, undef, undef, undef, undef, undef, undef, undef, undef, undef, undef, undef, undef, undef, undef, undef, undef, undef, undef, undef, undef, undef, undef, undef, undef, undef], defers := [] }) (fun _ => undef) (fun i v W => Sh.ok (FN F w) W (([Sh.tree (.num 0), Sh.tree t, Sh.row [(.num 0), t], Sh.tree (.bin .add (.num 0) t), Sh.tree t, Sh.tree (.num 0), Sh.row [t, (.num 0)], Sh.tree (.bin .sub t (.num 0)), Sh.tree t, Sh.tree (.num 1), Sh.row [t, (.num 1)], Sh.tree (.bin .mul t (.num 1)), Sh.tree t, Sh.tree (.num 1), Sh.row [t, (.num 1)], Sh.tree (.bin .div t (.num 1)), Sh.row [(.bin .add (.num 0) t), (.bin .sub t (.num 0)), (.bin .mul t (.num 1)), (.bin .div t (.num 1))], Sh.val (Value.int IntKind.i64 3), Sh.val (.int .i64 0), Sh.addr (.bin .add (.num 0) t), Sh.tree (.bin .add (.num 0) t)] : List Sh).getD i .any) v) (fun i v W W' hK h => Sh.kept hK _ _ h) ?_ ?_
      · refine ⟨?_, ?_, ?_, ?_, ?_, ?_, ?_, ?_, ?_, ?_, ?_, ?_, ?_, ?_, ?_, ?_, ?_, ?_, ?_, ?_, ?_, trivial⟩
        · refine ⟨fun x v => rfl, fun y3 S W hK hall hdep K hcont => ?_⟩
          have HCONT := hide hcont
          have HKW := hide hK
          clear hcont hK hall hdep
          rw [if_pos (by rfl)]
          go_simp
          refine (num_any _ _).mono ?_
          rintro e w1 ⟨rfl, hK1⟩
          exact unhide HCONT _ _ _ rfl hK1 ⟨_, _, _, _, _, rfl, num_rd _ _ _⟩ (fun h => absurd h (by decide))
        · refine ⟨fun x v => rfl, fun y3 S W hK hall hdep K hcont => ?_⟩
          have HCONT := hide hcont
          have HKW := hide hK
          clear hcont hK hall hdep
          obtain ⟨xs0, xs1, xs2⟩ := ((unhide HC).go (unhide HKW)).xs
          rw [if_pos (by rfl)]
          go_simp
          exact unhide HCONT _ _ _ rfl (Kept.refl No _) ⟨_, _, _, _, _, rfl, (unhide Ht).kept (unhide HKW) (fun _ _ _ => id)⟩ (fun h => absurd h (by decide))
        · refine ⟨fun x v => rfl, fun y3 S W hK hall hdep K hcont => ?_⟩
          have HCONT := hide hcont
          have HKW := hide hK
          have d0 := hall 0 (by decide) (hdep ⟨0, Ground.data⟩ (by simp) rfl)
          have d1 := hall 1 (by decide) (hdep ⟨1, Ground.data⟩ (by simp) rfl)
          clear hcont hK hall hdep
          obtain ⟨k0, n0, A0, l0, c0, e0, r0⟩ := d0
          obtain ⟨k1, n1, A1, l1, c1, e1, r1⟩ := d1
          rw [if_pos (by rfl)]
          simp only [e0, e1]
          go_simp
          exact unhide HCONT _ _ _ (by (try simp only [e0, e1]); rfl) ((Kept.refl No _).alloc _) (row2_new r0 r1 ((unhide HC).go (unhide HKW)).hF) (fun h => absurd h (by decide))
        · refine ⟨fun x v => rfl, fun y3 S W hK hall hdep K hcont => ?_⟩
          have HCONT := hide hcont
          have HKW := hide hK
          have d2 := hall 2 (by decide) (hdep ⟨2, Ground.data⟩ (by simp) rfl)
          clear hcont hK hall hdep
          obtain ⟨b2, e2, f2, r2⟩ := d2
          rw [if_pos (by rfl)]
          simp only [e2]
          go_simp
          refine (op2_row .add (by rfl) _ b2 (.num 0) t r2 f2).mono ?_
          rintro e w1 ⟨k_, n_, A_, l_, c_, rfl, hR1, hK1⟩
          exact unhide HCONT _ _ _ (by (try simp only [e2]); rfl) hK1 ⟨_, _, _, _, _, rfl, hR1⟩ (fun h => absurd h (by decide))
        · refine ⟨fun x v => rfl, fun y3 S W hK hall hdep K hcont => ?_⟩
          have HCONT := hide hcont
          have HKW := hide hK
          clear hcont hK hall hdep
          obtain ⟨xs0, xs1, xs2⟩ := ((unhide HC).go (unhide HKW)).xs
          rw [if_pos (by rfl)]
          go_simp
          exact unhide HCONT _ _ _ rfl (Kept.refl No _) ⟨_, _, _, _, _, rfl, (unhide Ht).kept (unhide HKW) (fun _ _ _ => id)⟩ (fun h => absurd h (by decide))
        · refine ⟨fun x v => rfl, fun y3 S W hK hall hdep K hcont => ?_⟩
          have HCONT := hide hcont
          have HKW := hide hK
          clear hcont hK hall hdep
          rw [if_pos (by rfl)]
          go_simp
          refine (num_any _ _).mono ?_
          rintro e w1 ⟨rfl, hK1⟩
          exact unhide HCONT _ _ _ rfl hK1 ⟨_, _, _, _, _, rfl, num_rd _ _ _⟩ (fun h => absurd h (by decide))
        · refine ⟨fun x v => rfl, fun y3 S W hK hall hdep K hcont => ?_⟩
          have HCONT := hide hcont
          have HKW := hide hK
          have d4 := hall 4 (by decide) (hdep ⟨4, Ground.data⟩ (by simp) rfl)
          have d5 := hall 5 (by decide) (hdep ⟨5, Ground.data⟩ (by simp) rfl)
          clear hcont hK hall hdep
          obtain ⟨k4, n4, A4, l4, c4, e4, r4⟩ := d4
          obtain ⟨k5, n5, A5, l5, c5, e5, r5⟩ := d5
          rw [if_pos (by rfl)]
          simp only [e4, e5]
          go_simp
          exact unhide HCONT _ _ _ (by (try simp only [e4, e5]); rfl) ((Kept.refl No _).alloc _) (row2_new r4 r5 ((unhide HC).go (unhide HKW)).hF) (fun h => absurd h (by decide))
        · refine ⟨fun x v => rfl, fun y3 S W hK hall hdep K hcont => ?_⟩
          have HCONT := hide hcont
          have HKW := hide hK
          have d6 := hall 6 (by decide) (hdep ⟨6, Ground.data⟩ (by simp) rfl)
          clear hcont hK hall hdep
          obtain ⟨b6, e6, f6, r6⟩ := d6
          rw [if_pos (by rfl)]
          simp only [e6]
          go_simp
          refine (op2_row .sub (by rfl) _ b6 t (.num 0) r6 f6).mono ?_
          rintro e w1 ⟨k_, n_, A_, l_, c_, rfl, hR1, hK1⟩
          exact unhide HCONT _ _ _ (by (try simp only [e6]); rfl) hK1 ⟨_, _, _, _, _, rfl, hR1⟩ (fun h => absurd h (by decide))
        · refine ⟨fun x v => rfl, fun y3 S W hK hall hdep K hcont => ?_⟩
          have HCONT := hide hcont
          have HKW := hide hK
          clear hcont hK hall hdep
          obtain ⟨xs0, xs1, xs2⟩ := ((unhide HC).go (unhide HKW)).xs
          rw [if_pos (by rfl)]
          go_simp
          exact unhide HCONT _ _ _ rfl (Kept.refl No _) ⟨_, _, _, _, _, rfl, (unhide Ht).kept (unhide HKW) (fun _ _ _ => id)⟩ (fun h => absurd h (by decide))
        · refine ⟨fun x v => rfl, fun y3 S W hK hall hdep K hcont => ?_⟩
          have HCONT := hide hcont
          have HKW := hide hK
          clear hcont hK hall hdep
          rw [if_pos (by rfl)]
          go_simp
          refine (num_any _ _).mono ?_
          rintro e w1 ⟨rfl, hK1⟩
          exact unhide HCONT _ _ _ rfl hK1 ⟨_, _, _, _, _, rfl, num_rd _ _ _⟩ (fun h => absurd h (by decide))
        · refine ⟨fun x v => rfl, fun y3 S W hK hall hdep K hcont => ?_⟩
          have HCONT := hide hcont
          have HKW := hide hK
          have d8 := hall 8 (by decide) (hdep ⟨8, Ground.data⟩ (by simp) rfl)
          have d9 := hall 9 (by decide) (hdep ⟨9, Ground.data⟩ (by simp) rfl)
          clear hcont hK hall hdep
          obtain ⟨k8, n8, A8, l8, c8, e8, r8⟩ := d8
          obtain ⟨k9, n9, A9, l9, c9, e9, r9⟩ := d9
          rw [if_pos (by rfl)]
          simp only [e8, e9]
          go_simp
          exact unhide HCONT _ _ _ (by (try simp only [e8, e9]); rfl) ((Kept.refl No _).alloc _) (row2_new r8 r9 ((unhide HC).go (unhide HKW)).hF) (fun h => absurd h (by decide))
        · refine ⟨fun x v => rfl, fun y3 S W hK hall hdep K hcont => ?_⟩
          have HCONT := hide hcont
          have HKW := hide hK
          have d10 := hall 10 (by decide) (hdep ⟨10, Ground.data⟩ (by simp) rfl)
          clear hcont hK hall hdep
          obtain ⟨b10, e10, f10, r10⟩ := d10
          rw [if_pos (by rfl)]
          simp only [e10]
          go_simp
          refine (op2_row .mul (by rfl) _ b10 t (.num 1) r10 f10).mono ?_
          rintro e w1 ⟨k_, n_, A_, l_, c_, rfl, hR1, hK1⟩
          exact unhide HCONT _ _ _ (by (try simp only [e10]); rfl) hK1 ⟨_, _, _, _, _, rfl, hR1⟩ (fun h => absurd h (by decide))
        · refine ⟨fun x v => rfl, fun y3 S W hK hall hdep K hcont => ?_⟩
          have HCONT := hide hcont
          have HKW := hide hK
          clear hcont hK hall hdep
          obtain ⟨xs0, xs1, xs2⟩ := ((unhide HC).go (unhide HKW)).xs
          rw [if_pos (by rfl)]
          go_simp
          exact unhide HCONT _ _ _ rfl (Kept.refl No _) ⟨_, _, _, _, _, rfl, (unhide Ht).kept (unhide HKW) (fun _ _ _ => id)⟩ (fun h => absurd h (by decide))
        · refine ⟨fun x v => rfl, fun y3 S W hK hall hdep K hcont => ?_⟩
          have HCONT := hide hcont
          have HKW := hide hK
          clear hcont hK hall hdep
          rw [if_pos (by rfl)]
          go_simp
          refine (num_any _ _).mono ?_
          rintro e w1 ⟨rfl, hK1⟩
          exact unhide HCONT _ _ _ rfl hK1 ⟨_, _, _, _, _, rfl, num_rd _ _ _⟩ (fun h => absurd h (by decide))
        · refine ⟨fun x v => rfl, fun y3 S W hK hall hdep K hcont => ?_⟩
          have HCONT := hide hcont
          have HKW := hide hK
          have d12 := hall 12 (by decide) (hdep ⟨12, Ground.data⟩ (by simp) rfl)
          have d13 := hall 13 (by decide) (hdep ⟨13, Ground.data⟩ (by simp) rfl)
          clear hcont hK hall hdep
          obtain ⟨k12, n12, A12, l12, c12, e12, r12⟩ := d12
          obtain ⟨k13, n13, A13, l13, c13, e13, r13⟩ := d13
          rw [if_pos (by rfl)]
          simp only [e12, e13]
          go_simp
          exact unhide HCONT _ _ _ (by (try simp only [e12, e13]); rfl) ((Kept.refl No _).alloc _) (row2_new r12 r13 ((unhide HC).go (unhide HKW)).hF) (fun h => absurd h (by decide))
        · refine ⟨fun x v => rfl, fun y3 S W hK hall hdep K hcont => ?_⟩
          have HCONT := hide hcont
          have HKW := hide hK
          have d14 := hall 14 (by decide) (hdep ⟨14, Ground.data⟩ (by simp) rfl)
          clear hcont hK hall hdep
          obtain ⟨b14, e14, f14, r14⟩ := d14
          rw [if_pos (by rfl)]
          simp only [e14]
          go_simp
          refine (op2_row .div (by rfl) _ b14 t (.num 1) r14 f14).mono ?_
          rintro e w1 ⟨k_, n_, A_, l_, c_, rfl, hR1, hK1⟩
          exact unhide HCONT _ _ _ (by (try simp only [e14]); rfl) hK1 ⟨_, _, _, _, _, rfl, hR1⟩ (fun h => absurd h (by decide))
        · refine ⟨fun x v => rfl, fun y3 S W hK hall hdep K hcont => ?_⟩
          have HCONT := hide hcont
          have HKW := hide hK
          have d3 := hall 3 (by decide) (hdep ⟨3, Ground.data⟩ (by simp) rfl)
          have d7 := hall 7 (by decide) (hdep ⟨7, Ground.data⟩ (by simp) rfl)
          have d11 := hall 11 (by decide) (hdep ⟨11, Ground.data⟩ (by simp) rfl)
          have d15 := hall 15 (by decide) (hdep ⟨15, Ground.data⟩ (by simp) rfl)
          clear hcont hK hall hdep
          obtain ⟨k3, n3, A3, l3, c3, e3, r3⟩ := d3
          obtain ⟨k7, n7, A7, l7, c7, e7, r7⟩ := d7
          obtain ⟨k11, n11, A11, l11, c11, e11, r11⟩ := d11
          obtain ⟨k15, n15, A15, l15, c15, e15, r15⟩ := d15
          rw [if_pos (by rfl)]
          simp only [e3, e7, e11, e15]
          go_simp
          exact unhide HCONT _ _ _ (by (try simp only [e3, e7, e11, e15]); rfl) ((Kept.refl No _).alloc _) (row4_new r3 r7 r11 r15 ((unhide HC).go (unhide HKW)).hF) (fun h => absurd h (by decide))
        · refine ⟨fun x v => rfl, fun y3 S W hK hall hdep K hcont => ?_⟩
          have HCONT := hide hcont
          have HKW := hide hK
          clear hcont hK hall hdep
          rw [if_pos (by rfl)]
          go_simp
          exact unhide HCONT _ _ _ rfl (Kept.refl No _) rfl (fun h => absurd h (by decide))
        · refine ⟨fun x v => rfl, fun y3 S W hK hall hdep K hcont => ?_⟩
          have HCONT := hide hcont
          have HKW := hide hK
          have d17 := hall 17 (by decide) (hdep ⟨17, Ground.data⟩ (by simp) rfl)
          clear hcont hK hall hdep
          have e17 : y3 17 = Value.int IntKind.i64 3 := d17
          rw [if_pos (by rfl)]
          simp only [e17]
          go_simp
          exact unhide HCONT _ _ _ (by (try simp only [e17]); rfl) (Kept.refl No _) rfl (fun h => absurd h (by decide))
        · refine ⟨fun x v => rfl, fun y3 S W hK hall hdep K hcont => ?_⟩
          have HCONT := hide hcont
          have HKW := hide hK
          have d16 := hall 16 (by decide) (hdep ⟨16, Ground.data⟩ (by simp) rfl)
          have d18 := hall 18 (by decide) (hdep ⟨18, Ground.data⟩ (by simp) rfl)
          clear hcont hK hall hdep
          obtain ⟨b16, e16, f16, r16⟩ := d16
          have e18 : y3 18 = .int .i64 0 := d18
          rw [if_pos (by rfl)]
          simp only [e16, e18]
          go_simp
          exact unhide HCONT _ _ _ (by (try simp only [e16, e18]); rfl) (Kept.refl No _) ⟨b16, _, rfl, r16 0 _ rfl⟩ (fun h => absurd h (by decide))
        · refine ⟨fun x v => rfl, fun y3 S W hK hall hdep K hcont => ?_⟩
          have HCONT := hide hcont
          have HKW := hide hK
          have d19 := hall 19 (by decide) (hdep ⟨19, Ground.data⟩ (by simp) rfl)
          clear hcont hK hall hdep
          obtain ⟨b19, o19, e19, kk19, nn19, AA19, ll19, cc19, ⟨y19, yy19, yyy19⟩, r19⟩ := d19
          rw [if_pos (by rfl)]
          simp only [e19]
          go_simp
          exact unhide HCONT _ _ _ (by (try simp only [e19]); rfl) (Kept.refl No _) ⟨_, _, _, _, _, rfl, r19⟩ (fun h => absurd h (by decide))
      · intro y3 W3 hK hx hD
        obtain ⟨k4, n4, A4, l4, c4, e4, r4⟩ := hx 20 (by decide)
        have hvz := (unhide HC).z.lt
        have Ht := hide ((unhide Ht).kept hK (fun _ _ _ => id))
        have HC := hide ((unhide HC).go hK)
        have H4 := hide r4
        clear r4
        simp only [e4, List.drop]
        clear hK hx hD hvz e4
        rw [show numE 3 0 0 0 t = (.bin .add (.num 0) t) by simp [numE]]
        obtain ⟨f0, f1, f2, z0, z1, z2, hlt⟩ := (unhide HC).zs
        go_wp2_with fail
        refine bodyPost_ret (v := .tuple #[.agg #[.int .i64 k4, .int .i64 n4, .slice A4 l4 c4], .bool true]) (by simp [results, Tryd.results32, go_sem, z0, z1, z2]) rfl ?_
        exact (unhide HC).made (unhide H4)
set_option maxRecDepth 100000 in
set_option maxHeartbeats 4000000 in
theorem part_big4 (hw bv : Int) (hb1 hb2 : Nat) (w0 w : World) (F : Nat → Prop) (k n : Int) (A : Option Addr) (l c : Nat) (t : E) (m d : Int) (tr : Bool) (hK0 : Kept No w0 w) (hr : Rd w F k n A l (t).r) (hH1 : Blk w0 hb1 3 #[.int .i64 hw]) (hH2 : Blk w0 hb2 3 #[.int .i64 bv]) (hn0 : 0 ≤ n) (hnm : n ≤ 2147483647) (hm : pickF bv (n + 1) = m) (hd : pickF bv 20 = d - 1) (hp : pickF hw 7 = 4) :
    Calls Tryd.prog 32 #[.agg #[.int .i64 k, .int .i64 n, .slice A l c], .bool tr, .pointer (some ⟨hb1, 0, none⟩), .pointer (some ⟨hb2, 0, none⟩)] w (Made w F (numE 4 0 0 0 t)) := by
  have hB1 := hH1.kept hK0 id
  have hB2 := hH2.kept hK0 id
  have h1 : w.cell? ⟨hb1, 0, none⟩ = some (.int .i64 hw) := hB1.cell 0
  have h2 : w.cell? ⟨hb2, 0, none⟩ = some (.int .i64 bv) := hB2.cell 0
  have hbw1 := hB1.lt
  have hbw2 := hB2.lt
  have HB1 := hide hB1
  have HB2 := hide hB2
  have HP := hide hp
  have HM := hide hm
  have HD := hide hd
  have hm0 : 0 ≤ m ∧ m ≤ n := by have := pickF_range (x := bv) (n := n + 1) (by omega); omega
  have hd0 : 1 ≤ d ∧ d ≤ 20 := by have := pickF_range (x := bv) (n := 20) (by omega); omega
  obtain ⟨hm1, hm2⟩ := hm0
  obtain ⟨hd1, hd2⟩ := hd0
  have hn1 : (1 : Int) ≤ n + 1 := by omega
  have hn2 : n + 1 ≤ 9223372036854775807 := by omega
  have EW1 := hide (show IntKind.i64.wrap (n + 1) = n + 1 from IntWalk.i64_in _ (by omega))
  have EW2 := hide (show IntKind.i64.wrap d = d from IntWalk.i64_in _ (by omega))
  have EW3 := hide (show IntKind.i64.wrap (n - m) = n - m from IntWalk.i64_in _ (by omega))
  have EW4 := hide (show IntKind.i64.wrap (n + d) = n + d from IntWalk.i64_in _ (by omega))
  have htd : 0 ≤ n.tdiv d ∧ n.tdiv d ≤ n := by
    rw [Int.tdiv_eq_ediv_of_nonneg hn0]
    exact ⟨Int.ediv_nonneg hn0 (by omega), Int.ediv_le_self _ hn0⟩
  have htm : 0 ≤ n.tmod d ∧ n.tmod d ≤ 20 := by
    rw [Int.tmod_eq_emod_of_nonneg hn0]
    have h3 := Int.emod_nonneg n (show d ≠ 0 by omega)
    have h4 := Int.emod_lt_of_pos n (show 0 < d by omega)
    omega
  have EW5 := hide (show IntKind.i64.wrap (n.tdiv d) = n.tdiv d from IntWalk.i64_in _ (by omega))
  have EW6 := hide (show IntKind.i64.wrap (n.tmod d) = n.tmod d from IntWalk.i64_in _ (by omega))
  clear htd htm
  have HN1 := hide hn1
  have HN2 := hide hn2
  have HR := hide hr
  clear hr hK0 hH1 hH2 hp hm hd hB1 hB2
  go_enter Tryd.func32, Tryd.ntmps32
  go_wp2_with fail
  have HC := hide (Ctx.start w k n A l c)
  generalize (w.alloc (.cells #[.int .i64 k, .int .i64 n, .slice A l c] 24)).alloc (.cells #[.int .i64 0, .int .i64 0, .slice none 0 0] 24) = V at HC ⊢
  have Ht := hide (rd_in (unhide HR) (unhide HC).kept)
  refine wp_region_inv 4 [] (by kernel_rfl) (by kernel_rfl) (fun y1 => { tmps := #[Value.agg #[Value.int IntKind.i64 k, Value.int IntKind.i64 n, Value.slice A l c], Value.bool tr, Value.pointer (some { block := hb1, off := 0 }), Value.pointer (some { block := hb2, off := 0 }), Value.pointer (some { block := w.heap.size, off := 0 }), undef, Value.pointer (some { block := w.heap.size + 1, off := 0 }), Value.bool false, undef, undef, undef, undef, y1 0, y1 1, y1 2, y1 3, undef, undef, undef, undef, undef, undef, undef, undef, undef, undef, undef, undef, undef, undef, undef, undef, undef, undef, undef, undef, undef, undef, undef, undef, undef, undef, undef, undef, undef, undef, undef, undef, undef, undef, undef, undef, undef, undef, undef, undef, undef, undef, undef, undef, undef, undef, undef, undef, undef, undef, undef, undef, undef, undef, undef, undef, undef, undef, undef, undef, undef, undef, undef, undef, undef, undef, undef], defers := [] }) (fun _ => undef) (fun i v W => Sh.ok (FN F w) W (([Sh.val (.pointer (some ⟨w.heap.size, 1, none⟩)), Sh.val (.int .i64 n), Sh.val (.int .i64 hw), Sh.val (.int .i64 4)] : List Sh).getD i .any) v) (fun i v W W' hK h => Sh.kept hK _ _ h) ?_ ?_
  · refine ⟨?_, ?_, ?_, ?_, trivial⟩
    · refine ⟨fun x v => rfl, fun y1 S W hK hall hdep K hcont => ?_⟩
      have HCONT := hide hcont
      have HKW := hide hK
      clear hcont hK hall hdep
      rw [if_pos (by rfl)]
      go_simp
      exact unhide HCONT _ _ _ rfl (Kept.refl No _) rfl (fun h => absurd h (by decide))
    · refine ⟨fun x v => rfl, fun y1 S W hK hall hdep K hcont => ?_⟩
      have HCONT := hide hcont
      have HKW := hide hK
      have d0 := hall 0 (by decide) (hdep ⟨0, Ground.data⟩ (by simp) rfl)
      clear hcont hK hall hdep
      have e0 : y1 0 = .pointer (some ⟨w.heap.size, 1, none⟩) := d0
      obtain ⟨xs0, xs1, xs2⟩ := ((unhide HC).go (unhide HKW)).xs
      rw [if_pos (by rfl)]
      simp only [e0]
      go_simp
      exact unhide HCONT _ _ _ (by (try simp only [e0]); rfl) (Kept.refl No _) rfl (fun h => absurd h (by decide))
    · refine ⟨fun x v => rfl, fun y1 S W hK hall hdep K hcont => ?_⟩
      have HCONT := hide hcont
      have HKW := hide hK
      clear hcont hK hall hdep
      have hq := (((unhide HB1).kept (unhide HC).kept id).kept (unhide HKW) id).cell 0
      rw [if_pos (by rfl)]
      go_simp
      exact unhide HCONT _ _ _ rfl (Kept.refl No _) rfl (fun h => absurd h (by decide))
    · refine ⟨fun x v => rfl, fun y1 S W hK hall hdep K hcont => ?_⟩
      have HCONT := hide hcont
      have HKW := hide hK
      have d2 := hall 2 (by decide) (hdep ⟨2, Ground.data⟩ (by simp) rfl)
      clear hcont hK hall hdep
      have e2 : y1 2 = .int .i64 hw := d2
      rw [if_pos (by rfl)]
      simp only [e2]
      go_simp
      refine (pick_any hw 7 (by omega) (by omega) _).mono ?_
      rintro e w4 ⟨rfl, rfl⟩
      rw [unhide HP]
      exact unhide HCONT _ _ _ (by (try simp only [e2]); rfl) (Kept.refl No _) rfl (fun h => absurd h (by decide))
  · intro y1 W1 hK hx hD
    have en : y1 1 = .int .i64 n := hx 1 (by decide)
    have ep : y1 3 = .int .i64 4 := hx 3 (by decide)
    have hvz := (unhide HC).z.lt
    have Ht := hide ((unhide Ht).kept hK (fun _ _ _ => id))
    have HC := hide ((unhide HC).go hK)
    simp only [en, ep, List.drop]
    clear hK hx hD hvz en ep
    go_wp2_with fail
    refine wp_region_inv 8 [] (by kernel_rfl) (by kernel_rfl) (fun y2 => { tmps := #[Value.agg #[Value.int IntKind.i64 k, Value.int IntKind.i64 n, Value.slice A l c], Value.bool tr, Value.pointer (some { block := hb1, off := 0 }), Value.pointer (some { block := hb2, off := 0 }), Value.pointer (some { block := w.heap.size, off := 0 }), undef, Value.pointer (some { block := w.heap.size + 1, off := 0 }), Value.bool false, Value.int IntKind.i64 n, Value.int IntKind.i64 4, y2 7, undef, y1 0, Value.int IntKind.i64 n, y1 2, Value.int IntKind.i64 4, y2 0, y2 1, y2 2, y2 3, y2 4, y2 5, y2 6, undef, undef, undef, undef, undef, undef, undef, undef, undef, undef, undef, undef, undef, undef, undef, undef, undef, undef, undef, undef, undef, undef, undef, undef, undef, undef, undef, undef, undef, undef, undef, undef, undef, undef, undef, undef, undef, undef, undef, undef, undef, undef, undef, undef, undef, undef, undef, undef, undef, undef, undef, undef, undef, undef, undef, undef, undef, undef, undef, undef], defers := [] }) (fun _ => undef) (fun i v W => Sh.ok (FN F w) W (([Sh.val (.int .i64 bv), Sh.val (Value.int IntKind.i64 n), Sh.val (.int .i64 (n + 1)), Sh.val (.int .i64 m), Sh.val (.int .i64 bv), Sh.val (.int .i64 (d - 1)), Sh.val (.int .i64 d), Sh.val (.int .i64 m)] : List Sh).getD i .any) v) (fun i v W W' hK h => Sh.kept hK _ _ h) ?_ ?_
    · refine ⟨?_, ?_, ?_, ?_, ?_, ?_, ?_, ?_, trivial⟩
      · refine ⟨fun x v => rfl, fun y2 S W hK hall hdep K hcont => ?_⟩
        have HCONT := hide hcont
        have HKW := hide hK
        clear hcont hK hall hdep
        have hq := (((unhide HB2).kept (unhide HC).kept id).kept (unhide HKW) id).cell 0
        rw [if_pos (by rfl)]
        go_simp
        exact unhide HCONT _ _ _ rfl (Kept.refl No _) rfl (fun h => absurd h (by decide))
      · refine ⟨fun x v => rfl, fun y2 S W hK hall hdep K hcont => ?_⟩
        have HCONT := hide hcont
        have HKW := hide hK
        clear hcont hK hall hdep
        rw [if_pos (by rfl)]
        go_simp
        exact unhide HCONT _ _ _ rfl (Kept.refl No _) rfl (fun h => absurd h (by decide))
      · refine ⟨fun x v => rfl, fun y2 S W hK hall hdep K hcont => ?_⟩
        have HCONT := hide hcont
        have HKW := hide hK
        have d1 := hall 1 (by decide) (hdep ⟨1, Ground.data⟩ (by simp) rfl)
        clear hcont hK hall hdep
        have e1 : y2 1 = Value.int IntKind.i64 n := d1
        rw [if_pos (by rfl)]
        simp only [e1]
        go_simp
        rw [unhide EW1]
        exact unhide HCONT _ _ _ (by (try simp only [e1]); rfl) (Kept.refl No _) rfl (fun h => absurd h (by decide))
      · refine ⟨fun x v => rfl, fun y2 S W hK hall hdep K hcont => ?_⟩
        have HCONT := hide hcont
        have HKW := hide hK
        have d0 := hall 0 (by decide) (hdep ⟨0, Ground.data⟩ (by simp) rfl)
        have d2 := hall 2 (by decide) (hdep ⟨2, Ground.data⟩ (by simp) rfl)
        clear hcont hK hall hdep
        have e0 : y2 0 = .int .i64 bv := d0
        have e2 : y2 2 = .int .i64 (n + 1) := d2
        rw [if_pos (by rfl)]
        simp only [e0, e2]
        go_simp
        refine (pick_any bv (n + 1) (unhide HN1) (unhide HN2) _).mono ?_
        rintro e w4 ⟨rfl, rfl⟩
        rw [unhide HM]
        exact unhide HCONT _ _ _ (by (try simp only [e0, e2]); rfl) (Kept.refl No _) rfl (fun h => absurd h (by decide))
      · refine ⟨fun x v => rfl, fun y2 S W hK hall hdep K hcont => ?_⟩
        have HCONT := hide hcont
        have HKW := hide hK
        clear hcont hK hall hdep
        have hq := (((unhide HB2).kept (unhide HC).kept id).kept (unhide HKW) id).cell 0
        rw [if_pos (by rfl)]
        go_simp
        exact unhide HCONT _ _ _ rfl (Kept.refl No _) rfl (fun h => absurd h (by decide))
      · refine ⟨fun x v => rfl, fun y2 S W hK hall hdep K hcont => ?_⟩
        have HCONT := hide hcont
        have HKW := hide hK
        have d4 := hall 4 (by decide) (hdep ⟨4, Ground.data⟩ (by simp) rfl)
        clear hcont hK hall hdep
        have e4 : y2 4 = .int .i64 bv := d4
        rw [if_pos (by rfl)]
        simp only [e4]
        go_simp
        refine (pick_any bv 20 (by omega) (by omega) _).mono ?_
        rintro e w4 ⟨rfl, rfl⟩
        rw [unhide HD]
        exact unhide HCONT _ _ _ (by (try simp only [e4]); rfl) (Kept.refl No _) rfl (fun h => absurd h (by decide))
      · refine ⟨fun x v => rfl, fun y2 S W hK hall hdep K hcont => ?_⟩
        have HCONT := hide hcont
        have HKW := hide hK
        have d5 := hall 5 (by decide) (hdep ⟨5, Ground.data⟩ (by simp) rfl)
        clear hcont hK hall hdep
        have e5 : y2 5 = .int .i64 (d - 1) := d5
        rw [if_pos (by rfl)]
        simp only [e5]
        go_simp
        rw [unhide EW2]
        exact unhide HCONT _ _ _ (by (try simp only [e5]); rfl) (Kept.refl No _) rfl (fun h => absurd h (by decide))
      · refine ⟨fun x v => rfl, fun y2 S W hK hall hdep K hcont => ?_⟩
        have HCONT := hide hcont
        have HKW := hide hK
        have d3 := hall 3 (by decide) (hdep ⟨3, Ground.data⟩ (by simp) rfl)
        clear hcont hK hall hdep
        have e3 : y2 3 = .int .i64 m := d3
        rw [if_pos (by rfl)]
        simp only [e3]
        go_simp
        exact unhide HCONT _ _ _ (by (try simp only [e3]); rfl) (Kept.refl No _) rfl (fun h => absurd h (by decide))
    · intro y2 W2 hK hx hD
      have ed : y2 6 = .int .i64 d := hx 6 (by decide)
      have em : y2 7 = .int .i64 m := hx 7 (by decide)
      have hvz := (unhide HC).z.lt
      have Ht := hide ((unhide Ht).kept hK (fun _ _ _ => id))
      have HC := hide ((unhide HC).go hK)
      simp only [ed, em, List.drop]
      clear hK hx hD hvz ed em
      go_wp2_with fail
      refine wp_region_inv 21 [] (by kernel_rfl) (by kernel_rfl) (fun y3 => { tmps := #[Value.agg #[Value.int IntKind.i64 k, Value.int IntKind.i64 n, Value.slice A l c], Value.bool tr, Value.pointer (some { block := hb1, off := 0 }), Value.pointer (some { block := hb2, off := 0 }), Value.pointer (some { block := w.heap.size, off := 0 }), undef, Value.pointer (some { block := w.heap.size + 1, off := 0 }), Value.bool false, Value.int IntKind.i64 n, Value.int IntKind.i64 4, Value.int IntKind.i64 m, Value.int IntKind.i64 d, y1 0, Value.int IntKind.i64 n, y1 2, Value.int IntKind.i64 4, y2 0, y2 1, y2 2, y2 3, y2 4, y2 5, Value.int IntKind.i64 d, Value.int IntKind.i64 4, Value.bool true, y3 0, y3 1, y3 2, y3 3, y3 4, y3 5, y3 6, y3 7, y3 8, y3 9, y3 10, y3 11, y3 12, y3 13, y3 14, y3 15, y3 16, y3 17, y3 18, y3 19, y3 20, undef, undef, undef, undef, undef, undef, undef, undef, undef, undef, undef, undef, undef, undef, undef, undef, undef, undef, undef, undef, undef, undef, undef, undef, undef, undef, undef, undef, undef, undef, undef, undef, undef, undef, undef, undef, undef], defers := [] }) (fun _ => undef) (fun i v W => Sh.ok (FN F w) W (([Sh.tree (.num 0), Sh.tree t, Sh.row [(.num 0), t], Sh.tree (.bin .add (.num 0) t), Sh.tree t, Sh.tree (.num 0), Sh.row [t, (.num 0)], Sh.tree (.bin .sub t (.num 0)), Sh.tree t, Sh.tree (.num 1), Sh.row [t, (.num 1)], Sh.tree (.bin .mul t (.num 1)), Sh.tree t, Sh.tree (.num 1), Sh.row [t, (.num 1)], Sh.tree (.bin .div t (.num 1)), Sh.row [(.bin .add (.num 0) t), (.bin .sub t (.num 0)), (.bin .mul t (.num 1)), (.bin .div t (.num 1))], Sh.val (Value.int IntKind.i64 4), Sh.val (.int .i64 1), Sh.addr (.bin .sub t (.num 0)), Sh.tree (.bin .sub t (.num 0))] : List Sh).getD i .any) v) (fun i v W W' hK h => Sh.kept hK _ _ h) ?_ ?_
      · refine ⟨?_, ?_, ?_, ?_, ?_, ?_, ?_, ?_, ?_, ?_, ?_, ?_, ?_, ?_, ?_, ?_, ?_, ?_, ?_, ?_, ?_, trivial⟩
        · refine ⟨fun x v => rfl, fun y3 S W hK hall hdep K hcont => ?_⟩
          have HCONT := hide hcont
          have HKW := hide hK
          clear hcont hK hall hdep
          rw [if_pos (by rfl)]
          go_simp
          refine (num_any _ _).mono ?_
          rintro e w1 ⟨rfl, hK1⟩
          exact unhide HCONT _ _ _ rfl hK1 ⟨_, _, _, _, _, rfl, num_rd _ _ _⟩ (fun h => absurd h (by decide))
        · refine ⟨fun x v => rfl, fun y3 S W hK hall hdep K hcont => ?_⟩
          have HCONT := hide hcont
          have HKW := hide hK
          clear hcont hK hall hdep
          obtain ⟨xs0, xs1, xs2⟩ := ((unhide HC).go (unhide HKW)).xs
          rw [if_pos (by rfl)]
          go_simp
          exact unhide HCONT _ _ _ rfl (Kept.refl No _) ⟨_, _, _, _, _, rfl, (unhide Ht).kept (unhide HKW) (fun _ _ _ => id)⟩ (fun h => absurd h (by decide))
        · refine ⟨fun x v => rfl, fun y3 S W hK hall hdep K hcont => ?_⟩
          have HCONT := hide hcont
          have HKW := hide hK
          have d0 := hall 0 (by decide) (hdep ⟨0, Ground.data⟩ (by simp) rfl)
          have d1 := hall 1 (by decide) (hdep ⟨1, Ground.data⟩ (by simp) rfl)
          clear hcont hK hall hdep
          obtain ⟨k0, n0, A0, l0, c0, e0, r0⟩ := d0
          obtain ⟨k1, n1, A1, l1, c1, e1, r1⟩ := d1
          rw [if_pos (by rfl)]
          simp only [e0, e1]
          go_simp
          exact unhide HCONT _ _ _ (by (try simp only [e0, e1]); rfl) ((Kept.refl No _).alloc _) (row2_new r0 r1 ((unhide HC).go (unhide HKW)).hF) (fun h => absurd h (by decide))
        · refine ⟨fun x v => rfl, fun y3 S W hK hall hdep K hcont => ?_⟩
          have HCONT := hide hcont
          have HKW := hide hK
          have d2 := hall 2 (by decide) (hdep ⟨2, Ground.data⟩ (by simp) rfl)
          clear hcont hK hall hdep
          obtain ⟨b2, e2, f2, r2⟩ := d2
          rw [if_pos (by rfl)]
          simp only [e2]
          go_simp
          refine (op2_row .add (by rfl) _ b2 (.num 0) t r2 f2).mono ?_
          rintro e w1 ⟨k_, n_, A_, l_, c_, rfl, hR1, hK1⟩
          exact unhide HCONT _ _ _ (by (try simp only [e2]); rfl) hK1 ⟨_, _, _, _, _, rfl, hR1⟩ (fun h => absurd h (by decide))
        · refine ⟨fun x v => rfl, fun y3 S W hK hall hdep K hcont => ?_⟩
          have HCONT := hide hcont
          have HKW := hide hK
          clear hcont hK hall hdep
          obtain ⟨xs0, xs1, xs2⟩ := ((unhide HC).go (unhide HKW)).xs
          rw [if_pos (by rfl)]
          go_simp
          exact unhide HCONT _ _ _ rfl (Kept.refl No _) ⟨_, _, _, _, _, rfl, (unhide Ht).kept (unhide HKW) (fun _ _ _ => id)⟩ (fun h => absurd h (by decide))
        · refine ⟨fun x v => rfl, fun y3 S W hK hall hdep K hcont => ?_⟩
          have HCONT := hide hcont
          have HKW := hide hK
          clear hcont hK hall hdep
          rw [if_pos (by rfl)]
          go_simp
          refine (num_any _ _).mono ?_
          rintro e w1 ⟨rfl, hK1⟩
          exact unhide HCONT _ _ _ rfl hK1 ⟨_, _, _, _, _, rfl, num_rd _ _ _⟩ (fun h => absurd h (by decide))
        · refine ⟨fun x v => rfl, fun y3 S W hK hall hdep K hcont => ?_⟩
          have HCONT := hide hcont
          have HKW := hide hK
          have d4 := hall 4 (by decide) (hdep ⟨4, Ground.data⟩ (by simp) rfl)
          have d5 := hall 5 (by decide) (hdep ⟨5, Ground.data⟩ (by simp) rfl)
          clear hcont hK hall hdep
          obtain ⟨k4, n4, A4, l4, c4, e4, r4⟩ := d4
          obtain ⟨k5, n5, A5, l5, c5, e5, r5⟩ := d5
          rw [if_pos (by rfl)]
          simp only [e4, e5]
          go_simp
          exact unhide HCONT _ _ _ (by (try simp only [e4, e5]); rfl) ((Kept.refl No _).alloc _) (row2_new r4 r5 ((unhide HC).go (unhide HKW)).hF) (fun h => absurd h (by decide))
        · refine ⟨fun x v => rfl, fun y3 S W hK hall hdep K hcont => ?_⟩
          have HCONT := hide hcont
          have HKW := hide hK
          have d6 := hall 6 (by decide) (hdep ⟨6, Ground.data⟩ (by simp) rfl)
          clear hcont hK hall hdep
          obtain ⟨b6, e6, f6, r6⟩ := d6
          rw [if_pos (by rfl)]
          simp only [e6]
          go_simp
          refine (op2_row .sub (by rfl) _ b6 t (.num 0) r6 f6).mono ?_
          rintro e w1 ⟨k_, n_, A_, l_, c_, rfl, hR1, hK1⟩
          exact unhide HCONT _ _ _ (by (try simp only [e6]); rfl) hK1 ⟨_, _, _, _, _, rfl, hR1⟩ (fun h => absurd h (by decide))
        · refine ⟨fun x v => rfl, fun y3 S W hK hall hdep K hcont => ?_⟩
          have HCONT := hide hcont
          have HKW := hide hK
          clear hcont hK hall hdep
          obtain ⟨xs0, xs1, xs2⟩ := ((unhide HC).go (unhide HKW)).xs
          rw [if_pos (by rfl)]
          go_simp
          exact unhide HCONT _ _ _ rfl (Kept.refl No _) ⟨_, _, _, _, _, rfl, (unhide Ht).kept (unhide HKW) (fun _ _ _ => id)⟩ (fun h => absurd h (by decide))
        · refine ⟨fun x v => rfl, fun y3 S W hK hall hdep K hcont => ?_⟩
          have HCONT := hide hcont
          have HKW := hide hK
          clear hcont hK hall hdep
          rw [if_pos (by rfl)]
          go_simp
          refine (num_any _ _).mono ?_
          rintro e w1 ⟨rfl, hK1⟩
          exact unhide HCONT _ _ _ rfl hK1 ⟨_, _, _, _, _, rfl, num_rd _ _ _⟩ (fun h => absurd h (by decide))
        · refine ⟨fun x v => rfl, fun y3 S W hK hall hdep K hcont => ?_⟩
          have HCONT := hide hcont
          have HKW := hide hK
          have d8 := hall 8 (by decide) (hdep ⟨8, Ground.data⟩ (by simp) rfl)
          have d9 := hall 9 (by decide) (hdep ⟨9, Ground.data⟩ (by simp) rfl)
          clear hcont hK hall hdep
          obtain ⟨k8, n8, A8, l8, c8, e8, r8⟩ := d8
          obtain ⟨k9, n9, A9, l9, c9, e9, r9⟩ := d9
          rw [if_pos (by rfl)]
          simp only [e8, e9]
          go_simp
          exact unhide HCONT _ _ _ (by (try simp only [e8, e9]); rfl) ((Kept.refl No _).alloc _) (row2_new r8 r9 ((unhide HC).go (unhide HKW)).hF) (fun h => absurd h (by decide))
        · refine ⟨fun x v => rfl, fun y3 S W hK hall hdep K hcont => ?_⟩
          have HCONT := hide hcont
          have HKW := hide hK
          have d10 := hall 10 (by decide) (hdep ⟨10, Ground.data⟩ (by simp) rfl)
          clear hcont hK hall hdep
          obtain ⟨b10, e10, f10, r10⟩ := d10
          rw [if_pos (by rfl)]
          simp only [e10]
          go_simp
          refine (op2_row .mul (by rfl) _ b10 t (.num 1) r10 f10).mono ?_
          rintro e w1 ⟨k_, n_, A_, l_, c_, rfl, hR1, hK1⟩
          exact unhide HCONT _ _ _ (by (try simp only [e10]); rfl) hK1 ⟨_, _, _, _, _, rfl, hR1⟩ (fun h => absurd h (by decide))
        · refine ⟨fun x v => rfl, fun y3 S W hK hall hdep K hcont => ?_⟩
          have HCONT := hide hcont
          have HKW := hide hK
          clear hcont hK hall hdep
          obtain ⟨xs0, xs1, xs2⟩ := ((unhide HC).go (unhide HKW)).xs
          rw [if_pos (by rfl)]
          go_simp
          exact unhide HCONT _ _ _ rfl (Kept.refl No _) ⟨_, _, _, _, _, rfl, (unhide Ht).kept (unhide HKW) (fun _ _ _ => id)⟩ (fun h => absurd h (by decide))
        · refine ⟨fun x v => rfl, fun y3 S W hK hall hdep K hcont => ?_⟩
          have HCONT := hide hcont
          have HKW := hide hK
          clear hcont hK hall hdep
          rw [if_pos (by rfl)]
          go_simp
          refine (num_any _ _).mono ?_
          rintro e w1 ⟨rfl, hK1⟩
          exact unhide HCONT _ _ _ rfl hK1 ⟨_, _, _, _, _, rfl, num_rd _ _ _⟩ (fun h => absurd h (by decide))
        · refine ⟨fun x v => rfl, fun y3 S W hK hall hdep K hcont => ?_⟩
          have HCONT := hide hcont
          have HKW := hide hK
          have d12 := hall 12 (by decide) (hdep ⟨12, Ground.data⟩ (by simp) rfl)
          have d13 := hall 13 (by decide) (hdep ⟨13, Ground.data⟩ (by simp) rfl)
          clear hcont hK hall hdep
          obtain ⟨k12, n12, A12, l12, c12, e12, r12⟩ := d12
          obtain ⟨k13, n13, A13, l13, c13, e13, r13⟩ := d13
          rw [if_pos (by rfl)]
          simp only [e12, e13]
          go_simp
          exact unhide HCONT _ _ _ (by (try simp only [e12, e13]); rfl) ((Kept.refl No _).alloc _) (row2_new r12 r13 ((unhide HC).go (unhide HKW)).hF) (fun h => absurd h (by decide))
        · refine ⟨fun x v => rfl, fun y3 S W hK hall hdep K hcont => ?_⟩
          have HCONT := hide hcont
          have HKW := hide hK
          have d14 := hall 14 (by decide) (hdep ⟨14, Ground.data⟩ (by simp) rfl)
          clear hcont hK hall hdep
          obtain ⟨b14, e14, f14, r14⟩ := d14
          rw [if_pos (by rfl)]
          simp only [e14]
          go_simp
          refine (op2_row .div (by rfl) _ b14 t (.num 1) r14 f14).mono ?_
          rintro e w1 ⟨k_, n_, A_, l_, c_, rfl, hR1, hK1⟩
          exact unhide HCONT _ _ _ (by (try simp only [e14]); rfl) hK1 ⟨_, _, _, _, _, rfl, hR1⟩ (fun h => absurd h (by decide))
        · refine ⟨fun x v => rfl, fun y3 S W hK hall hdep K hcont => ?_⟩
          have HCONT := hide hcont
          have HKW := hide hK
          have d3 := hall 3 (by decide) (hdep ⟨3, Ground.data⟩ (by simp) rfl)
          have d7 := hall 7 (by decide) (hdep ⟨7, Ground.data⟩ (by simp) rfl)
          have d11 := hall 11 (by decide) (hdep ⟨11, Ground.data⟩ (by simp) rfl)
          have d15 := hall 15 (by decide) (hdep ⟨15, Ground.data⟩ (by simp) rfl)
          clear hcont hK hall hdep
          obtain ⟨k3, n3, A3, l3, c3, e3, r3⟩ := d3
          obtain ⟨k7, n7, A7, l7, c7, e7, r7⟩ := d7
          obtain ⟨k11, n11, A11, l11, c11, e11, r11⟩ := d11
          obtain ⟨k15, n15, A15, l15, c15, e15, r15⟩ := d15
          rw [if_pos (by rfl)]
          simp only [e3, e7, e11, e15]
          go_simp
          exact unhide HCONT _ _ _ (by (try simp only [e3, e7, e11, e15]); rfl) ((Kept.refl No _).alloc _) (row4_new r3 r7 r11 r15 ((unhide HC).go (unhide HKW)).hF) (fun h => absurd h (by decide))
        · refine ⟨fun x v => rfl, fun y3 S W hK hall hdep K hcont => ?_⟩
          have HCONT := hide hcont
          have HKW := hide hK
          clear hcont hK hall hdep
          rw [if_pos (by rfl)]
          go_simp
          exact unhide HCONT _ _ _ rfl (Kept.refl No _) rfl (fun h => absurd h (by decide))
        · refine ⟨fun x v => rfl, fun y3 S W hK hall hdep K hcont => ?_⟩
          have HCONT := hide hcont
          have HKW := hide hK
          have d17 := hall 17 (by decide) (hdep ⟨17, Ground.data⟩ (by simp) rfl)
          clear hcont hK hall hdep
          have e17 : y3 17 = Value.int IntKind.i64 4 := d17
          rw [if_pos (by rfl)]
          simp only [e17]
          go_simp
          exact unhide HCONT _ _ _ (by (try simp only [e17]); rfl) (Kept.refl No _) rfl (fun h => absurd h (by decide))
        · refine ⟨fun x v => rfl, fun y3 S W hK hall hdep K hcont => ?_⟩
          have HCONT := hide hcont
          have HKW := hide hK
          have d16 := hall 16 (by decide) (hdep ⟨16, Ground.data⟩ (by simp) rfl)
          have d18 := hall 18 (by decide) (hdep ⟨18, Ground.data⟩ (by simp) rfl)
          clear hcont hK hall hdep
          obtain ⟨b16, e16, f16, r16⟩ := d16
          have e18 : y3 18 = .int .i64 1 := d18
          rw [if_pos (by rfl)]
          simp only [e16, e18]
          go_simp
          exact unhide HCONT _ _ _ (by (try simp only [e16, e18]); rfl) (Kept.refl No _) ⟨b16, _, rfl, r16 1 _ rfl⟩ (fun h => absurd h (by decide))
        · refine ⟨fun x v => rfl, fun y3 S W hK hall hdep K hcont => ?_⟩
          have HCONT := hide hcont
          have HKW := hide hK
          have d19 := hall 19 (by decide) (hdep ⟨19, Ground.data⟩ (by simp) rfl)
          clear hcont hK hall hdep
          obtain ⟨b19, o19, e19, kk19, nn19, AA19, ll19, cc19, ⟨y19, yy19, yyy19⟩, r19⟩ := d19
          rw [if_pos (by rfl)]
          simp only [e19]
          go_simp
          exact unhide HCONT _ _ _ (by (try simp only [e19]); rfl) (Kept.refl No _) ⟨_, _, _, _, _, rfl, r19⟩ (fun h => absurd h (by decide))
      · intro y3 W3 hK hx hD
        obtain ⟨k4, n4, A4, l4, c4, e4, r4⟩ := hx 20 (by decide)
        have hvz := (unhide HC).z.lt
        have Ht := hide ((unhide Ht).kept hK (fun _ _ _ => id))
        have HC := hide ((unhide HC).go hK)
        have H4 := hide r4
        clear r4
        simp only [e4, List.drop]
        clear hK hx hD hvz e4
        rw [show numE 4 0 0 0 t = (.bin .sub t (.num 0)) by simp [numE]]
        obtain ⟨f0, f1, f2, z0, z1, z2, hlt⟩ := (unhide HC).zs
        go_wp2_with fail
        refine bodyPost_ret (v := .tuple #[.agg #[.int .i64 k4, .int .i64 n4, .slice A4 l4 c4], .bool true]) (by simp [results, Tryd.results32, go_sem, z0, z1, z2]) rfl ?_
        exact (unhide HC).made (unhide H4)
set_option maxRecDepth 100000 in
set_option maxHeartbeats 4000000 in
theorem part_big5 (hw bv : Int) (hb1 hb2 : Nat) (w0 w : World) (F : Nat → Prop) (k n : Int) (A : Option Addr) (l c : Nat) (t : E) (m d : Int) (tr : Bool) (hK0 : Kept No w0 w) (hr : Rd w F k n A l (t).r) (hH1 : Blk w0 hb1 3 #[.int .i64 hw]) (hH2 : Blk w0 hb2 3 #[.int .i64 bv]) (hn0 : 0 ≤ n) (hnm : n ≤ 2147483647) (hm : pickF bv (n + 1) = m) (hd : pickF bv 20 = d - 1) (hp : pickF hw 7 = 5) :
    Calls Tryd.prog 32 #[.agg #[.int .i64 k, .int .i64 n, .slice A l c], .bool tr, .pointer (some ⟨hb1, 0, none⟩), .pointer (some ⟨hb2, 0, none⟩)] w (Made w F (numE 5 0 0 0 t)) := by
  have hB1 := hH1.kept hK0 id
  have hB2 := hH2.kept hK0 id
  have h1 : w.cell? ⟨hb1, 0, none⟩ = some (.int .i64 hw) := hB1.cell 0
  have h2 : w.cell? ⟨hb2, 0, none⟩ = some (.int .i64 bv) := hB2.cell 0
  have hbw1 := hB1.lt
  have hbw2 := hB2.lt
  have HB1 := hide hB1
  have HB2 := hide hB2
  have HP := hide hp
  have HM := hide hm
  have HD := hide hd
  have hm0 : 0 ≤ m ∧ m ≤ n := by have := pickF_range (x := bv) (n := n + 1) (by omega); omega
  have hd0 : 1 ≤ d ∧ d ≤ 20 := by have := pickF_range (x := bv) (n := 20) (by omega); omega
  obtain ⟨hm1, hm2⟩ := hm0
  obtain ⟨hd1, hd2⟩ := hd0
  have hn1 : (1 : Int) ≤ n + 1 := by omega
  have hn2 : n + 1 ≤ 9223372036854775807 := by omega
  have EW1 := hide (show IntKind.i64.wrap (n + 1) = n + 1 from IntWalk.i64_in _ (by omega))
  have EW2 := hide (show IntKind.i64.wrap d = d from IntWalk.i64_in _ (by omega))
  have EW3 := hide (show IntKind.i64.wrap (n - m) = n - m from IntWalk.i64_in _ (by omega))
  have EW4 := hide (show IntKind.i64.wrap (n + d) = n + d from IntWalk.i64_in _ (by omega))
  have htd : 0 ≤ n.tdiv d ∧ n.tdiv d ≤ n := by
    rw [Int.tdiv_eq_ediv_of_nonneg hn0]
    exact ⟨Int.ediv_nonneg hn0 (by omega), Int.ediv_le_self _ hn0⟩
  have htm : 0 ≤ n.tmod d ∧ n.tmod d ≤ 20 := by
    rw [Int.tmod_eq_emod_of_nonneg hn0]
    have h3 := Int.emod_nonneg n (show d ≠ 0 by omega)
    have h4 := Int.emod_lt_of_pos n (show 0 < d by omega)
    omega
  have EW5 := hide (show IntKind.i64.wrap (n.tdiv d) = n.tdiv d from IntWalk.i64_in _ (by omega))
  have EW6 := hide (show IntKind.i64.wrap (n.tmod d) = n.tmod d from IntWalk.i64_in _ (by omega))
  clear htd htm
  have HN1 := hide hn1
  have HN2 := hide hn2
  have HR := hide hr
  clear hr hK0 hH1 hH2 hp hm hd hB1 hB2
  go_enter Tryd.func32, Tryd.ntmps32
  go_wp2_with fail
  have HC := hide (Ctx.start w k n A l c)
  generalize (w.alloc (.cells #[.int .i64 k, .int .i64 n, .slice A l c] 24)).alloc (.cells #[.int .i64 0, .int .i64 0, .slice none 0 0] 24) = V at HC ⊢
  have Ht := hide (rd_in (unhide HR) (unhide HC).kept)
  refine wp_region_inv 4 [] (by kernel_rfl) (by kernel_rfl) (fun y1 => { tmps := #[Value.agg #[Value.int IntKind.i64 k, Value.int IntKind.i64 n, Value.slice A l c], Value.bool tr, Value.pointer (some { block := hb1, off := 0 }), Value.pointer (some { block := hb2, off := 0 }), Value.pointer (some { block := w.heap.size, off := 0 }), undef, Value.pointer (some { block := w.heap.size + 1, off := 0 }), Value.bool false, undef, undef, undef, undef, y1 0, y1 1, y1 2, y1 3, undef, undef, undef, undef, undef, undef, undef, undef, undef, undef, undef, undef, undef, undef, undef, undef, undef, undef, undef, undef, undef, undef, undef, undef, undef, undef, undef, undef, undef, undef, undef, undef, undef, undef, undef, undef, undef, undef, undef, undef, undef, undef, undef, undef, undef, undef, undef, undef, undef, undef, undef, undef, undef, undef, undef, undef, undef, undef, undef, undef, undef, undef, undef, undef, undef, undef, undef], defers := [] }) (fun _ => undef) (fun i v W => Sh.ok (FN F w) W (([Sh.val (.pointer (some ⟨w.heap.size, 1, none⟩)), Sh.val (.int .i64 n), Sh.val (.int .i64 hw), Sh.val (.int .i64 5)] : List Sh).getD i .any) v) (fun i v W W' hK h => Sh.kept hK _ _ h) ?_ ?_
  · refine ⟨?_, ?_, ?_, ?_, trivial⟩
    · refine ⟨fun x v => rfl, fun y1 S W hK hall hdep K hcont => ?_⟩
      have HCONT := hide hcont
      have HKW := hide hK
      clear hcont hK hall hdep
      rw [if_pos (by rfl)]
      go_simp
      exact unhide HCONT _ _ _ rfl (Kept.refl No _) rfl (fun h => absurd h (by decide))
    · refine ⟨fun x v => rfl, fun y1 S W hK hall hdep K hcont => ?_⟩
      have HCONT := hide hcont
      have HKW := hide hK
      have d0 := hall 0 (by decide) (hdep ⟨0, Ground.data⟩ (by simp) rfl)
      clear hcont hK hall hdep
      have e0 : y1 0 = .pointer (some ⟨w.heap.size, 1, none⟩) := d0
      obtain ⟨xs0, xs1, xs2⟩ := ((unhide HC).go (unhide HKW)).xs
      rw [if_pos (by rfl)]
      simp only [e0]
      go_simp
      exact unhide HCONT _ _ _ (by (try simp only [e0]); rfl) (Kept.refl No _) rfl (fun h => absurd h (by decide))
    · refine ⟨fun x v => rfl, fun y1 S W hK hall hdep K hcont => ?_⟩
      have HCONT := hide hcont
      have HKW := hide hK
      clear hcont hK hall hdep
      have hq := (((unhide HB1).kept (unhide HC).kept id).kept (unhide HKW) id).cell 0
      rw [if_pos (by rfl)]
      go_simp
      exact unhide HCONT _ _ _ rfl (Kept.refl No _) rfl (fun h => absurd h (by decide))
    · refine ⟨fun x v => rfl, fun y1 S W hK hall hdep K hcont => ?_⟩
      have HCONT := hide hcont
      have HKW := hide hK
      have d2 := hall 2 (by decide) (hdep ⟨2, Ground.data⟩ (by simp) rfl)
      clear hcont hK hall hdep
      have e2 : y1 2 = .int .i64 hw := d2
      rw [if_pos (by rfl)]
      simp only [e2]
      go_simp
      refine (pick_any hw 7 (by omega) (by omega) _).mono ?_
      rintro e w4 ⟨rfl, rfl⟩
      rw [unhide HP]
      exact unhide HCONT _ _ _ (by (try simp only [e2]); rfl) (Kept.refl No _) rfl (fun h => absurd h (by decide))
  · intro y1 W1 hK hx hD
    have en : y1 1 = .int .i64 n := hx 1 (by decide)
    have ep : y1 3 = .int .i64 5 := hx 3 (by decide)
    have hvz := (unhide HC).z.lt
    have Ht := hide ((unhide Ht).kept hK (fun _ _ _ => id))
    have HC := hide ((unhide HC).go hK)
    simp only [en, ep, List.drop]
    clear hK hx hD hvz en ep
    go_wp2_with fail
    refine wp_region_inv 8 [] (by kernel_rfl) (by kernel_rfl) (fun y2 => { tmps := #[Value.agg #[Value.int IntKind.i64 k, Value.int IntKind.i64 n, Value.slice A l c], Value.bool tr, Value.pointer (some { block := hb1, off := 0 }), Value.pointer (some { block := hb2, off := 0 }), Value.pointer (some { block := w.heap.size, off := 0 }), undef, Value.pointer (some { block := w.heap.size + 1, off := 0 }), Value.bool false, Value.int IntKind.i64 n, Value.int IntKind.i64 5, y2 7, undef, y1 0, Value.int IntKind.i64 n, y1 2, Value.int IntKind.i64 5, y2 0, y2 1, y2 2, y2 3, y2 4, y2 5, y2 6, undef, undef, undef, undef, undef, undef, undef, undef, undef, undef, undef, undef, undef, undef, undef, undef, undef, undef, undef, undef, undef, undef, undef, undef, undef, undef, undef, undef, undef, undef, undef, undef, undef, undef, undef, undef, undef, undef, undef, undef, undef, undef, undef, undef, undef, undef, undef, undef, undef, undef, undef, undef, undef, undef, undef, undef, undef, undef, undef, undef], defers := [] }) (fun _ => undef) (fun i v W => Sh.ok (FN F w) W (([Sh.val (.int .i64 bv), Sh.val (Value.int IntKind.i64 n), Sh.val (.int .i64 (n + 1)), Sh.val (.int .i64 m), Sh.val (.int .i64 bv), Sh.val (.int .i64 (d - 1)), Sh.val (.int .i64 d), Sh.val (.int .i64 m)] : List Sh).getD i .any) v) (fun i v W W' hK h => Sh.kept hK _ _ h) ?_ ?_
    · refine ⟨?_, ?_, ?_, ?_, ?_, ?_, ?_, ?_, trivial⟩
      · refine ⟨fun x v => rfl, fun y2 S W hK hall hdep K hcont => ?_⟩
        have HCONT := hide hcont
        have HKW := hide hK
        clear hcont hK hall hdep
        have hq := (((unhide HB2).kept (unhide HC).kept id).kept (unhide HKW) id).cell 0
        rw [if_pos (by rfl)]
        go_simp
        exact unhide HCONT _ _ _ rfl (Kept.refl No _) rfl (fun h => absurd h (by decide))
      · refine ⟨fun x v => rfl, fun y2 S W hK hall hdep K hcont => ?_⟩
        have HCONT := hide hcont
        have HKW := hide hK
        clear hcont hK hall hdep
        rw [if_pos (by rfl)]
        go_simp
        exact unhide HCONT _ _ _ rfl (Kept.refl No _) rfl (fun h => absurd h (by decide))
      · refine ⟨fun x v => rfl, fun y2 S W hK hall hdep K hcont => ?_⟩
        have HCONT := hide hcont
        have HKW := hide hK
        have d1 := hall 1 (by decide) (hdep ⟨1, Ground.data⟩ (by simp) rfl)
        clear hcont hK hall hdep
        have e1 : y2 1 = Value.int IntKind.i64 n := d1
        rw [if_pos (by rfl)]
        simp only [e1]
        go_simp
        rw [unhide EW1]
        exact unhide HCONT _ _ _ (by (try simp only [e1]); rfl) (Kept.refl No _) rfl (fun h => absurd h (by decide))
      · refine ⟨fun x v => rfl, fun y2 S W hK hall hdep K hcont => ?_⟩
        have HCONT := hide hcont
        have HKW := hide hK
        have d0 := hall 0 (by decide) (hdep ⟨0, Ground.data⟩ (by simp) rfl)
        have d2 := hall 2 (by decide) (hdep ⟨2, Ground.data⟩ (by simp) rfl)
        clear hcont hK hall hdep
        have e0 : y2 0 = .int .i64 bv := d0
        have e2 : y2 2 = .int .i64 (n + 1) := d2
        rw [if_pos (by rfl)]
        simp only [e0, e2]
        go_simp
        refine (pick_any bv (n + 1) (unhide HN1) (unhide HN2) _).mono ?_
        rintro e w4 ⟨rfl, rfl⟩
        rw [unhide HM]
        exact unhide HCONT _ _ _ (by (try simp only [e0, e2]); rfl) (Kept.refl No _) rfl (fun h => absurd h (by decide))
      · refine ⟨fun x v => rfl, fun y2 S W hK hall hdep K hcont => ?_⟩
        have HCONT := hide hcont
        have HKW := hide hK
        clear hcont hK hall hdep
        have hq := (((unhide HB2).kept (unhide HC).kept id).kept (unhide HKW) id).cell 0
        rw [if_pos (by rfl)]
        go_simp
        exact unhide HCONT _ _ _ rfl (Kept.refl No _) rfl (fun h => absurd h (by decide))
      · refine ⟨fun x v => rfl, fun y2 S W hK hall hdep K hcont => ?_⟩
        have HCONT := hide hcont
        have HKW := hide hK
        have d4 := hall 4 (by decide) (hdep ⟨4, Ground.data⟩ (by simp) rfl)
        clear hcont hK hall hdep
        have e4 : y2 4 = .int .i64 bv := d4
        rw [if_pos (by rfl)]
        simp only [e4]
        go_simp
        refine (pick_any bv 20 (by omega) (by omega) _).mono ?_
        rintro e w4 ⟨rfl, rfl⟩
        rw [unhide HD]
        exact unhide HCONT _ _ _ (by (try simp only [e4]); rfl) (Kept.refl No _) rfl (fun h => absurd h (by decide))
      · refine ⟨fun x v => rfl, fun y2 S W hK hall hdep K hcont => ?_⟩
        have HCONT := hide hcont
        have HKW := hide hK
        have d5 := hall 5 (by decide) (hdep ⟨5, Ground.data⟩ (by simp) rfl)
        clear hcont hK hall hdep
        have e5 : y2 5 = .int .i64 (d - 1) := d5
        rw [if_pos (by rfl)]
        simp only [e5]
        go_simp
        rw [unhide EW2]
        exact unhide HCONT _ _ _ (by (try simp only [e5]); rfl) (Kept.refl No _) rfl (fun h => absurd h (by decide))
      · refine ⟨fun x v => rfl, fun y2 S W hK hall hdep K hcont => ?_⟩
        have HCONT := hide hcont
        have HKW := hide hK
        have d3 := hall 3 (by decide) (hdep ⟨3, Ground.data⟩ (by simp) rfl)
        clear hcont hK hall hdep
        have e3 : y2 3 = .int .i64 m := d3
        rw [if_pos (by rfl)]
        simp only [e3]
        go_simp
        exact unhide HCONT _ _ _ (by (try simp only [e3]); rfl) (Kept.refl No _) rfl (fun h => absurd h (by decide))
    · intro y2 W2 hK hx hD
      have ed : y2 6 = .int .i64 d := hx 6 (by decide)
      have em : y2 7 = .int .i64 m := hx 7 (by decide)
      have hvz := (unhide HC).z.lt
      have Ht := hide ((unhide Ht).kept hK (fun _ _ _ => id))
      have HC := hide ((unhide HC).go hK)
      simp only [ed, em, List.drop]
      clear hK hx hD hvz ed em
      go_wp2_with fail
      refine wp_region_inv 21 [] (by kernel_rfl) (by kernel_rfl) (fun y3 => { tmps := #[Value.agg #[Value.int IntKind.i64 k, Value.int IntKind.i64 n, Value.slice A l c], Value.bool tr, Value.pointer (some { block := hb1, off := 0 }), Value.pointer (some { block := hb2, off := 0 }), Value.pointer (some { block := w.heap.size, off := 0 }), undef, Value.pointer (some { block := w.heap.size + 1, off := 0 }), Value.bool false, Value.int IntKind.i64 n, Value.int IntKind.i64 5, Value.int IntKind.i64 m, Value.int IntKind.i64 d, y1 0, Value.int IntKind.i64 n, y1 2, Value.int IntKind.i64 5, y2 0, y2 1, y2 2, y2 3, y2 4, y2 5, Value.int IntKind.i64 d, Value.int IntKind.i64 5, Value.bool true, y3 0, y3 1, y3 2, y3 3, y3 4, y3 5, y3 6, y3 7, y3 8, y3 9, y3 10, y3 11, y3 12, y3 13, y3 14, y3 15, y3 16, y3 17, y3 18, y3 19, y3 20, undef, undef, undef, undef, undef, undef, undef, undef, undef, undef, undef, undef, undef, undef, undef, undef, undef, undef, undef, undef, undef, undef, undef, undef, undef, undef, undef, undef, undef, undef, undef, undef, undef, undef, undef, undef, undef], defers := [] }) (fun _ => undef) (fun i v W => Sh.ok (FN F w) W (([Sh.tree (.num 0), Sh.tree t, Sh.row [(.num 0), t], Sh.tree (.bin .add (.num 0) t), Sh.tree t, Sh.tree (.num 0), Sh.row [t, (.num 0)], Sh.tree (.bin .sub t (.num 0)), Sh.tree t, Sh.tree (.num 1), Sh.row [t, (.num 1)], Sh.tree (.bin .mul t (.num 1)), Sh.tree t, Sh.tree (.num 1), Sh.row [t, (.num 1)], Sh.tree (.bin .div t (.num 1)), Sh.row [(.bin .add (.num 0) t), (.bin .sub t (.num 0)), (.bin .mul t (.num 1)), (.bin .div t (.num 1))], Sh.val (Value.int IntKind.i64 5), Sh.val (.int .i64 2), Sh.addr (.bin .mul t (.num 1)), Sh.tree (.bin .mul t (.num 1))] : List Sh).getD i .any) v) (fun i v W W' hK h => Sh.kept hK _ _ h) ?_ ?_
      · refine ⟨?_, ?_, ?_, ?_, ?_, ?_, ?_, ?_, ?_, ?_, ?_, ?_, ?_, ?_, ?_, ?_, ?_, ?_, ?_, ?_, ?_, trivial⟩
        · refine ⟨fun x v => rfl, fun y3 S W hK hall hdep K hcont => ?_⟩
          have HCONT := hide hcont
          have HKW := hide hK
          clear hcont hK hall hdep
          rw [if_pos (by rfl)]
          go_simp
          refine (num_any _ _).mono ?_
          rintro e w1 ⟨rfl, hK1⟩
          exact unhide HCONT _ _ _ rfl hK1 ⟨_, _, _, _, _, rfl, num_rd _ _ _⟩ (fun h => absurd h (by decide))
        · refine ⟨fun x v => rfl, fun y3 S W hK hall hdep K hcont => ?_⟩
          have HCONT := hide hcont
          have HKW := hide hK
          clear hcont hK hall hdep
          obtain ⟨xs0, xs1, xs2⟩ := ((unhide HC).go (unhide HKW)).xs
          rw [if_pos (by rfl)]
          go_simp
          exact unhide HCONT _ _ _ rfl (Kept.refl No _) ⟨_, _, _, _, _, rfl, (unhide Ht).kept (unhide HKW) (fun _ _ _ => id)⟩ (fun h => absurd h (by decide))
        · refine ⟨fun x v => rfl, fun y3 S W hK hall hdep K hcont => ?_⟩
          have HCONT := hide hcont
          have HKW := hide hK
          have d0 := hall 0 (by decide) (hdep ⟨0, Ground.data⟩ (by simp) rfl)
          have d1 := hall 1 (by decide) (hdep ⟨1, Ground.data⟩ (by simp) rfl)
          clear hcont hK hall hdep
          obtain ⟨k0, n0, A0, l0, c0, e0, r0⟩ := d0
          obtain ⟨k1, n1, A1, l1, c1, e1, r1⟩ := d1
          rw [if_pos (by rfl)]
          simp only [e0, e1]
          go_simp
          exact unhide HCONT _ _ _ (by (try simp only [e0, e1]); rfl) ((Kept.refl No _).alloc _) (row2_new r0 r1 ((unhide HC).go (unhide HKW)).hF) (fun h => absurd h (by decide))
        · refine ⟨fun x v => rfl, fun y3 S W hK hall hdep K hcont => ?_⟩
          have HCONT := hide hcont
          have HKW := hide hK
          have d2 := hall 2 (by decide) (hdep ⟨2, Ground.data⟩ (by simp) rfl)
          clear hcont hK hall hdep
          obtain ⟨b2, e2, f2, r2⟩ := d2
          rw [if_pos (by rfl)]
          simp only [e2]
          go_simp
          refine (op2_row .add (by rfl) _ b2 (.num 0) t r2 f2).mono ?_
          rintro e w1 ⟨k_, n_, A_, l_, c_, rfl, hR1, hK1⟩
          exact unhide HCONT _ _ _ (by (try simp only [e2]); rfl) hK1 ⟨_, _, _, _, _, rfl, hR1⟩ (fun h => absurd h (by decide))
        · refine ⟨fun x v => rfl, fun y3 S W hK hall hdep K hcont => ?_⟩
          have HCONT := hide hcont
          have HKW := hide hK
          clear hcont hK hall hdep
          obtain ⟨xs0, xs1, xs2⟩ := ((unhide HC).go (unhide HKW)).xs
          rw [if_pos (by rfl)]
          go_simp
          exact unhide HCONT _ _ _ rfl (Kept.refl No _) ⟨_, _, _, _, _, rfl, (unhide Ht).kept (unhide HKW) (fun _ _ _ => id)⟩ (fun h => absurd h (by decide))
        · refine ⟨fun x v => rfl, fun y3 S W hK hall hdep K hcont => ?_⟩
          have HCONT := hide hcont
          have HKW := hide hK
          clear hcont hK hall hdep
          rw [if_pos (by rfl)]
          go_simp
          refine (num_any _ _).mono ?_
          rintro e w1 ⟨rfl, hK1⟩
          exact unhide HCONT _ _ _ rfl hK1 ⟨_, _, _, _, _, rfl, num_rd _ _ _⟩ (fun h => absurd h (by decide))
        · refine ⟨fun x v => rfl, fun y3 S W hK hall hdep K hcont => ?_⟩
          have HCONT := hide hcont
          have HKW := hide hK
          have d4 := hall 4 (by decide) (hdep ⟨4, Ground.data⟩ (by simp) rfl)
          have d5 := hall 5 (by decide) (hdep ⟨5, Ground.data⟩ (by simp) rfl)
          clear hcont hK hall hdep
          obtain ⟨k4, n4, A4, l4, c4, e4, r4⟩ := d4
          obtain ⟨k5, n5, A5, l5, c5, e5, r5⟩ := d5
          rw [if_pos (by rfl)]
          simp only [e4, e5]
          go_simp
          exact unhide HCONT _ _ _ (by (try simp only [e4, e5]); rfl) ((Kept.refl No _).alloc _) (row2_new r4 r5 ((unhide HC).go (unhide HKW)).hF) (fun h => absurd h (by decide))
        · refine ⟨fun x v => rfl, fun y3 S W hK hall hdep K hcont => ?_⟩
          have HCONT := hide hcont
          have HKW := hide hK
          have d6 := hall 6 (by decide) (hdep ⟨6, Ground.data⟩ (by simp) rfl)
          clear hcont hK hall hdep
          obtain ⟨b6, e6, f6, r6⟩ := d6
          rw [if_pos (by rfl)]
          simp only [e6]
          go_simp
          refine (op2_row .sub (by rfl) _ b6 t (.num 0) r6 f6).mono ?_
          rintro e w1 ⟨k_, n_, A_, l_, c_, rfl, hR1, hK1⟩
          exact unhide HCONT _ _ _ (by (try simp only [e6]); rfl) hK1 ⟨_, _, _, _, _, rfl, hR1⟩ (fun h => absurd h (by decide))
        · refine ⟨fun x v => rfl, fun y3 S W hK hall hdep K hcont => ?_⟩
          have HCONT := hide hcont
          have HKW := hide hK
          clear hcont hK hall hdep
          obtain ⟨xs0, xs1, xs2⟩ := ((unhide HC).go (unhide HKW)).xs
          rw [if_pos (by rfl)]
          go_simp
          exact unhide HCONT _ _ _ rfl (Kept.refl No _) ⟨_, _, _, _, _, rfl, (unhide Ht).kept (unhide HKW) (fun _ _ _ => id)⟩ (fun h => absurd h (by decide))
        · refine ⟨fun x v => rfl, fun y3 S W hK hall hdep K hcont => ?_⟩
          have HCONT := hide hcont
          have HKW := hide hK
          clear hcont hK hall hdep
          rw [if_pos (by rfl)]
          go_simp
          refine (num_any _ _).mono ?_
          rintro e w1 ⟨rfl, hK1⟩
          exact unhide HCONT _ _ _ rfl hK1 ⟨_, _, _, _, _, rfl, num_rd _ _ _⟩ (fun h => absurd h (by decide))
        · refine ⟨fun x v => rfl, fun y3 S W hK hall hdep K hcont => ?_⟩
          have HCONT := hide hcont
          have HKW := hide hK
          have d8 := hall 8 (by decide) (hdep ⟨8, Ground.data⟩ (by simp) rfl)
          have d9 := hall 9 (by decide) (hdep ⟨9, Ground.data⟩ (by simp) rfl)
          clear hcont hK hall hdep
          obtain ⟨k8, n8, A8, l8, c8, e8, r8⟩ := d8
          obtain ⟨k9, n9, A9, l9, c9, e9, r9⟩ := d9
          rw [if_pos (by rfl)]
          simp only [e8, e9]
          go_simp
          exact unhide HCONT _ _ _ (by (try simp only [e8, e9]); rfl) ((Kept.refl No _).alloc _) (row2_new r8 r9 ((unhide HC).go (unhide HKW)).hF) (fun h => absurd h (by decide))
        · refine ⟨fun x v => rfl, fun y3 S W hK hall hdep K hcont => ?_⟩
          have HCONT := hide hcont
          have HKW := hide hK
          have d10 := hall 10 (by decide) (hdep ⟨10, Ground.data⟩ (by simp) rfl)
          clear hcont hK hall hdep
          obtain ⟨b10, e10, f10, r10⟩ := d10
          rw [if_pos (by rfl)]
          simp only [e10]
          go_simp
          refine (op2_row .mul (by rfl) _ b10 t (.num 1) r10 f10).mono ?_
          rintro e w1 ⟨k_, n_, A_, l_, c_, rfl, hR1, hK1⟩
          exact unhide HCONT _ _ _ (by (try simp only [e10]); rfl) hK1 ⟨_, _, _, _, _, rfl, hR1⟩ (fun h => absurd h (by decide))
        · refine ⟨fun x v => rfl, fun y3 S W hK hall hdep K hcont => ?_⟩
          have HCONT := hide hcont
          have HKW := hide hK
          clear hcont hK hall hdep
          obtain ⟨xs0, xs1, xs2⟩ := ((unhide HC).go (unhide HKW)).xs
          rw [if_pos (by rfl)]
          go_simp
          exact unhide HCONT _ _ _ rfl (Kept.refl No _) ⟨_, _, _, _, _, rfl, (unhide Ht).kept (unhide HKW) (fun _ _ _ => id)⟩ (fun h => absurd h (by decide))
        · refine ⟨fun x v => rfl, fun y3 S W hK hall hdep K hcont => ?_⟩
          have HCONT := hide hcont
          have HKW := hide hK
          clear hcont hK hall hdep
          rw [if_pos (by rfl)]
          go_simp
          refine (num_any _ _).mono ?_
          rintro e w1 ⟨rfl, hK1⟩
          exact unhide HCONT _ _ _ rfl hK1 ⟨_, _, _, _, _, rfl, num_rd _ _ _⟩ (fun h => absurd h (by decide))
        · refine ⟨fun x v => rfl, fun y3 S W hK hall hdep K hcont => ?_⟩
          have HCONT := hide hcont
          have HKW := hide hK
          have d12 := hall 12 (by decide) (hdep ⟨12, Ground.data⟩ (by simp) rfl)
          have d13 := hall 13 (by decide) (hdep ⟨13, Ground.data⟩ (by simp) rfl)
          clear hcont hK hall hdep
          obtain ⟨k12, n12, A12, l12, c12, e12, r12⟩ := d12
          obtain ⟨k13, n13, A13, l13, c13, e13, r13⟩ := d13
          rw [if_pos (by rfl)]
          simp only [e12, e13]
          go_simp
          exact unhide HCONT _ _ _ (by (try simp only [e12, e13]); rfl) ((Kept.refl No _).alloc _) (row2_new r12 r13 ((unhide HC).go (unhide HKW)).hF) (fun h => absurd h (by decide))
        · refine ⟨fun x v => rfl, fun y3 S W hK hall hdep K hcont => ?_⟩
          have HCONT := hide hcont
          have HKW := hide hK
          have d14 := hall 14 (by decide) (hdep ⟨14, Ground.data⟩ (by simp) rfl)
          clear hcont hK hall hdep
          obtain ⟨b14, e14, f14, r14⟩ := d14
          rw [if_pos (by rfl)]
          simp only [e14]
          go_simp
          refine (op2_row .div (by rfl) _ b14 t (.num 1) r14 f14).mono ?_
          rintro e w1 ⟨k_, n_, A_, l_, c_, rfl, hR1, hK1⟩
          exact unhide HCONT _ _ _ (by (try simp only [e14]); rfl) hK1 ⟨_, _, _, _, _, rfl, hR1⟩ (fun h => absurd h (by decide))
        · refine ⟨fun x v => rfl, fun y3 S W hK hall hdep K hcont => ?_⟩
          have HCONT := hide hcont
          have HKW := hide hK
          have d3 := hall 3 (by decide) (hdep ⟨3, Ground.data⟩ (by simp) rfl)
          have d7 := hall 7 (by decide) (hdep ⟨7, Ground.data⟩ (by simp) rfl)
          have d11 := hall 11 (by decide) (hdep ⟨11, Ground.data⟩ (by simp) rfl)
          have d15 := hall 15 (by decide) (hdep ⟨15, Ground.data⟩ (by simp) rfl)
          clear hcont hK hall hdep
          obtain ⟨k3, n3, A3, l3, c3, e3, r3⟩ := d3
          obtain ⟨k7, n7, A7, l7, c7, e7, r7⟩ := d7
          obtain ⟨k11, n11, A11, l11, c11, e11, r11⟩ := d11
          obtain ⟨k15, n15, A15, l15, c15, e15, r15⟩ := d15
          rw [if_pos (by rfl)]
          simp only [e3, e7, e11, e15]
          go_simp
          exact unhide HCONT _ _ _ (by (try simp only [e3, e7, e11, e15]); rfl) ((Kept.refl No _).alloc _) (row4_new r3 r7 r11 r15 ((unhide HC).go (unhide HKW)).hF) (fun h => absurd h (by decide))
        · refine ⟨fun x v => rfl, fun y3 S W hK hall hdep K hcont => ?_⟩
          have HCONT := hide hcont
          have HKW := hide hK
          clear hcont hK hall hdep
          rw [if_pos (by rfl)]
          go_simp
          exact unhide HCONT _ _ _ rfl (Kept.refl No _) rfl (fun h => absurd h (by decide))
        · refine ⟨fun x v => rfl, fun y3 S W hK hall hdep K hcont => ?_⟩
          have HCONT := hide hcont
          have HKW := hide hK
          have d17 := hall 17 (by decide) (hdep ⟨17, Ground.data⟩ (by simp) rfl)
          clear hcont hK hall hdep
          have e17 : y3 17 = Value.int IntKind.i64 5 := d17
          rw [if_pos (by rfl)]
          simp only [e17]
          go_simp
          exact unhide HCONT _ _ _ (by (try simp only [e17]); rfl) (Kept.refl No _) rfl (fun h => absurd h (by decide))
        · refine ⟨fun x v => rfl, fun y3 S W hK hall hdep K hcont => ?_⟩
          have HCONT := hide hcont
          have HKW := hide hK
          have d16 := hall 16 (by decide) (hdep ⟨16, Ground.data⟩ (by simp) rfl)
          have d18 := hall 18 (by decide) (hdep ⟨18, Ground.data⟩ (by simp) rfl)
          clear hcont hK hall hdep
          obtain ⟨b16, e16, f16, r16⟩ := d16
          have e18 : y3 18 = .int .i64 2 := d18
          rw [if_pos (by rfl)]
          simp only [e16, e18]
          go_simp
          exact unhide HCONT _ _ _ (by (try simp only [e16, e18]); rfl) (Kept.refl No _) ⟨b16, _, rfl, r16 2 _ rfl⟩ (fun h => absurd h (by decide))
        · refine ⟨fun x v => rfl, fun y3 S W hK hall hdep K hcont => ?_⟩
          have HCONT := hide hcont
          have HKW := hide hK
          have d19 := hall 19 (by decide) (hdep ⟨19, Ground.data⟩ (by simp) rfl)
          clear hcont hK hall hdep
          obtain ⟨b19, o19, e19, kk19, nn19, AA19, ll19, cc19, ⟨y19, yy19, yyy19⟩, r19⟩ := d19
          rw [if_pos (by rfl)]
          simp only [e19]
          go_simp
          exact unhide HCONT _ _ _ (by (try simp only [e19]); rfl) (Kept.refl No _) ⟨_, _, _, _, _, rfl, r19⟩ (fun h => absurd h (by decide))
      · intro y3 W3 hK hx hD
        obtain ⟨k4, n4, A4, l4, c4, e4, r4⟩ := hx 20 (by decide)
        have hvz := (unhide HC).z.lt
        have Ht := hide ((unhide Ht).kept hK (fun _ _ _ => id))
        have HC := hide ((unhide HC).go hK)
        have H4 := hide r4
        clear r4
        simp only [e4, List.drop]
        clear hK hx hD hvz e4
        rw [show numE 5 0 0 0 t = (.bin .mul t (.num 1)) by simp [numE]]
        obtain ⟨f0, f1, f2, z0, z1, z2, hlt⟩ := (unhide HC).zs
        go_wp2_with fail
        refine bodyPost_ret (v := .tuple #[.agg #[.int .i64 k4, .int .i64 n4, .slice A4 l4 c4], .bool true]) (by simp [results, Tryd.results32, go_sem, z0, z1, z2]) rfl ?_
        exact (unhide HC).made (unhide H4)
set_option maxRecDepth 100000 in
set_option maxHeartbeats 4000000 in
theorem part_big6 (hw bv : Int) (hb1 hb2 : Nat) (w0 w : World) (F : Nat → Prop) (k n : Int) (A : Option Addr) (l c : Nat) (t : E) (m d : Int) (tr : Bool) (hK0 : Kept No w0 w) (hr : Rd w F k n A l (t).r) (hH1 : Blk w0 hb1 3 #[.int .i64 hw]) (hH2 : Blk w0 hb2 3 #[.int .i64 bv]) (hn0 : 0 ≤ n) (hnm : n ≤ 2147483647) (hm : pickF bv (n + 1) = m) (hd : pickF bv 20 = d - 1) (hp : pickF hw 7 = 6) :
    Calls Tryd.prog 32 #[.agg #[.int .i64 k, .int .i64 n, .slice A l c], .bool tr, .pointer (some ⟨hb1, 0, none⟩), .pointer (some ⟨hb2, 0, none⟩)] w (Made w F (numE 6 0 0 0 t)) := by
  have hB1 := hH1.kept hK0 id
  have hB2 := hH2.kept hK0 id
  have h1 : w.cell? ⟨hb1, 0, none⟩ = some (.int .i64 hw) := hB1.cell 0
  have h2 : w.cell? ⟨hb2, 0, none⟩ = some (.int .i64 bv) := hB2.cell 0
  have hbw1 := hB1.lt
  have hbw2 := hB2.lt
  have HB1 := hide hB1
  have HB2 := hide hB2
  have HP := hide hp
  have HM := hide hm
  have HD := hide hd
  have hm0 : 0 ≤ m ∧ m ≤ n := by have := pickF_range (x := bv) (n := n + 1) (by omega); omega
  have hd0 : 1 ≤ d ∧ d ≤ 20 := by have := pickF_range (x := bv) (n := 20) (by omega); omega
  obtain ⟨hm1, hm2⟩ := hm0
  obtain ⟨hd1, hd2⟩ := hd0
  have hn1 : (1 : Int) ≤ n + 1 := by omega
  have hn2 : n + 1 ≤ 9223372036854775807 := by omega
  have EW1 := hide (show IntKind.i64.wrap (n + 1) = n + 1 from IntWalk.i64_in _ (by omega))
  have EW2 := hide (show IntKind.i64.wrap d = d from IntWalk.i64_in _ (by omega))
  have EW3 := hide (show IntKind.i64.wrap (n - m) = n - m from IntWalk.i64_in _ (by omega))
  have EW4 := hide (show IntKind.i64.wrap (n + d) = n + d from IntWalk.i64_in _ (by omega))
  have htd : 0 ≤ n.tdiv d ∧ n.tdiv d ≤ n := by
    rw [Int.tdiv_eq_ediv_of_nonneg hn0]
    exact ⟨Int.ediv_nonneg hn0 (by omega), Int.ediv_le_self _ hn0⟩
  have htm : 0 ≤ n.tmod d ∧ n.tmod d ≤ 20 := by
    rw [Int.tmod_eq_emod_of_nonneg hn0]
    have h3 := Int.emod_nonneg n (show d ≠ 0 by omega)
    have h4 := Int.emod_lt_of_pos n (show 0 < d by omega)
    omega
  have EW5 := hide (show IntKind.i64.wrap (n.tdiv d) = n.tdiv d from IntWalk.i64_in _ (by omega))
  have EW6 := hide (show IntKind.i64.wrap (n.tmod d) = n.tmod d from IntWalk.i64_in _ (by omega))
  clear htd htm
  have HN1 := hide hn1
  have HN2 := hide hn2
  have HR := hide hr
  clear hr hK0 hH1 hH2 hp hm hd hB1 hB2
  go_enter Tryd.func32, Tryd.ntmps32
  go_wp2_with fail
  have HC := hide (Ctx.start w k n A l c)
  generalize (w.alloc (.cells #[.int .i64 k, .int .i64 n, .slice A l c] 24)).alloc (.cells #[.int .i64 0, .int .i64 0, .slice none 0 0] 24) = V at HC ⊢
  have Ht := hide (rd_in (unhide HR) (unhide HC).kept)
  refine wp_region_inv 4 [] (by kernel_rfl) (by kernel_rfl) (fun y1 => { tmps := #[Value.agg #[Value.int IntKind.i64 k, Value.int IntKind.i64 n, Value.slice A l c], Value.bool tr, Value.pointer (some { block := hb1, off := 0 }), Value.pointer (some { block := hb2, off := 0 }), Value.pointer (some { block := w.heap.size, off := 0 }), undef, Value.pointer (some { block := w.heap.size + 1, off := 0 }), Value.bool false, undef, undef, undef, undef, y1 0, y1 1, y1 2, y1 3, undef, undef, undef, undef, undef, undef, undef, undef, undef, undef, undef, undef, undef, undef, undef, undef, undef, undef, undef, undef, undef, undef, undef, undef, undef, undef, undef, undef, undef, undef, undef, undef, undef, undef, undef, undef, undef, undef, undef, undef, undef, undef, undef, undef, undef, undef, undef, undef, undef, undef, undef, undef, undef, undef, undef, undef, undef, undef, undef, undef, undef, undef, undef, undef, undef, undef, undef], defers := [] }) (fun _ => undef) (fun i v W => Sh.ok (FN F w) W (([Sh.val (.pointer (some ⟨w.heap.size, 1, none⟩)), Sh.val (.int .i64 n), Sh.val (.int .i64 hw), Sh.val (.int .i64 6)] : List Sh).getD i .any) v) (fun i v W W' hK h => Sh.kept hK _ _ h) ?_ ?_
  · refine ⟨?_, ?_, ?_, ?_, trivial⟩
    · refine ⟨fun x v => rfl, fun y1 S W hK hall hdep K hcont => ?_⟩
      have HCONT := hide hcont
      have HKW := hide hK
      clear hcont hK hall hdep
      rw [if_pos (by rfl)]
      go_simp
      exact unhide HCONT _ _ _ rfl (Kept.refl No _) rfl (fun h => absurd h (by decide))
    · refine ⟨fun x v => rfl, fun y1 S W hK hall hdep K hcont => ?_⟩
      have HCONT := hide hcont
      have HKW := hide hK
      have d0 := hall 0 (by decide) (hdep ⟨0, Ground.data⟩ (by simp) rfl)
      clear hcont hK hall hdep
      have e0 : y1 0 = .pointer (some ⟨w.heap.size, 1, none⟩) := d0
      obtain ⟨xs0, xs1, xs2⟩ := ((unhide HC).go (unhide HKW)).xs
      rw [if_pos (by rfl)]
      simp only [e0]
      go_simp
      exact unhide HCONT _ _ _ (by (try simp only [e0]); rfl) (Kept.refl No _) rfl (fun h => absurd h (by decide))
    · refine ⟨fun x v => rfl, fun y1 S W hK hall hdep K hcont => ?_⟩
      have HCONT := hide hcont
      have HKW := hide hK
      clear hcont hK hall hdep
      have hq := (((unhide HB1).kept (unhide HC).kept id).kept (unhide HKW) id).cell 0
      rw [if_pos (by rfl)]
      go_simp
      exact unhide HCONT _ _ _ rfl (Kept.refl No _) rfl (fun h => absurd h (by decide))
    · refine ⟨fun x v => rfl, fun y1 S W hK hall hdep K hcont => ?_⟩
      have HCONT := hide hcont
      have HKW := hide hK
      have d2 := hall 2 (by decide) (hdep ⟨2, Ground.data⟩ (by simp) rfl)
      clear hcont hK hall hdep
      have e2 : y1 2 = .int .i64 hw := d2
      rw [if_pos (by rfl)]
      simp only [e2]
      go_simp
      refine (pick_any hw 7 (by omega) (by omega) _).mono ?_
      rintro e w4 ⟨rfl, rfl⟩
      rw [unhide HP]
      exact unhide HCONT _ _ _ (by (try simp only [e2]); rfl) (Kept.refl No _) rfl (fun h => absurd h (by decide))
  · intro y1 W1 hK hx hD
    have en : y1 1 = .int .i64 n := hx 1 (by decide)
    have ep : y1 3 = .int .i64 6 := hx 3 (by decide)
    have hvz := (unhide HC).z.lt
    have Ht := hide ((unhide Ht).kept hK (fun _ _ _ => id))
    have HC := hide ((unhide HC).go hK)
    simp only [en, ep, List.drop]
    clear hK hx hD hvz en ep
    go_wp2_with fail
    refine wp_region_inv 8 [] (by kernel_rfl) (by kernel_rfl) (fun y2 => { tmps := #[Value.agg #[Value.int IntKind.i64 k, Value.int IntKind.i64 n, Value.slice A l c], Value.bool tr, Value.pointer (some { block := hb1, off := 0 }), Value.pointer (some { block := hb2, off := 0 }), Value.pointer (some { block := w.heap.size, off := 0 }), undef, Value.pointer (some { block := w.heap.size + 1, off := 0 }), Value.bool false, Value.int IntKind.i64 n, Value.int IntKind.i64 6, y2 7, undef, y1 0, Value.int IntKind.i64 n, y1 2, Value.int IntKind.i64 6, y2 0, y2 1, y2 2, y2 3, y2 4, y2 5, y2 6, undef, undef, undef, undef, undef, undef, undef, undef, undef, undef, undef, undef, undef, undef, undef, undef, undef, undef, undef, undef, undef, undef, undef, undef, undef, undef, undef, undef, undef, undef, undef, undef, undef, undef, undef, undef, undef, undef, undef, undef, undef, undef, undef, undef, undef, undef, undef, undef, undef, undef, undef, undef, undef, undef, undef, undef, undef, undef, undef, undef], defers := [] }) (fun _ => undef) (fun i v W => Sh.ok (FN F w) W (([Sh.val (.int .i64 bv), Sh.val (Value.int IntKind.i64 n), Sh.val (.int .i64 (n + 1)), Sh.val (.int .i64 m), Sh.val (.int .i64 bv), Sh.val (.int .i64 (d - 1)), Sh.val (.int .i64 d), Sh.val (.int .i64 m)] : List Sh).getD i .any) v) (fun i v W W' hK h => Sh.kept hK _ _ h) ?_ ?_
    · refine ⟨?_, ?_, ?_, ?_, ?_, ?_, ?_, ?_, trivial⟩
      · refine ⟨fun x v => rfl, fun y2 S W hK hall hdep K hcont => ?_⟩
        have HCONT := hide hcont
        have HKW := hide hK
        clear hcont hK hall hdep
        have hq := (((unhide HB2).kept (unhide HC).kept id).kept (unhide HKW) id).cell 0
        rw [if_pos (by rfl)]
        go_simp
        exact unhide HCONT _ _ _ rfl (Kept.refl No _) rfl (fun h => absurd h (by decide))
      · refine ⟨fun x v => rfl, fun y2 S W hK hall hdep K hcont => ?_⟩
        have HCONT := hide hcont
        have HKW := hide hK
        clear hcont hK hall hdep
        rw [if_pos (by rfl)]
        go_simp
        exact unhide HCONT _ _ _ rfl (Kept.refl No _) rfl (fun h => absurd h (by decide))
      · refine ⟨fun x v => rfl, fun y2 S W hK hall hdep K hcont => ?_⟩
        have HCONT := hide hcont
        have HKW := hide hK
        have d1 := hall 1 (by decide) (hdep ⟨1, Ground.data⟩ (by simp) rfl)
        clear hcont hK hall hdep
        have e1 : y2 1 = Value.int IntKind.i64 n := d1
        rw [if_pos (by rfl)]
        simp only [e1]
        go_simp
        rw [unhide EW1]
        exact unhide HCONT _ _ _ (by (try simp only [e1]); rfl) (Kept.refl No _) rfl (fun h => absurd h (by decide))
      · refine ⟨fun x v => rfl, fun y2 S W hK hall hdep K hcont => ?_⟩
        have HCONT := hide hcont
        have HKW := hide hK
        have d0 := hall 0 (by decide) (hdep ⟨0, Ground.data⟩ (by simp) rfl)
        have d2 := hall 2 (by decide) (hdep ⟨2, Ground.data⟩ (by simp) rfl)
        clear hcont hK hall hdep
        have e0 : y2 0 = .int .i64 bv := d0
        have e2 : y2 2 = .int .i64 (n + 1) := d2
        rw [if_pos (by rfl)]
        simp only [e0, e2]
        go_simp
        refine (pick_any bv (n + 1) (unhide HN1) (unhide HN2) _).mono ?_
        rintro e w4 ⟨rfl, rfl⟩
        rw [unhide HM]
        exact unhide HCONT _ _ _ (by (try simp only [e0, e2]); rfl) (Kept.refl No _) rfl (fun h => absurd h (by decide))
      · refine ⟨fun x v => rfl, fun y2 S W hK hall hdep K hcont => ?_⟩
        have HCONT := hide hcont
        have HKW := hide hK
        clear hcont hK hall hdep
        have hq := (((unhide HB2).kept (unhide HC).kept id).kept (unhide HKW) id).cell 0
        rw [if_pos (by rfl)]
        go_simp
        exact unhide HCONT _ _ _ rfl (Kept.refl No _) rfl (fun h => absurd h (by decide))
      · refine ⟨fun x v => rfl, fun y2 S W hK hall hdep K hcont => ?_⟩
        have HCONT := hide hcont
        have HKW := hide hK
        have d4 := hall 4 (by decide) (hdep ⟨4, Ground.data⟩ (by simp) rfl)
        clear hcont hK hall hdep
        have e4 : y2 4 = .int .i64 bv := d4
        rw [if_pos (by rfl)]
        simp only [e4]
        go_simp
        refine (pick_any bv 20 (by omega) (by omega) _).mono ?_
        rintro e w4 ⟨rfl, rfl⟩
        rw [unhide HD]
        exact unhide HCONT _ _ _ (by (try simp only [e4]); rfl) (Kept.refl No _) rfl (fun h => absurd h (by decide))
      · refine ⟨fun x v => rfl, fun y2 S W hK hall hdep K hcont => ?_⟩
        have HCONT := hide hcont
        have HKW := hide hK
        have d5 := hall 5 (by decide) (hdep ⟨5, Ground.data⟩ (by simp) rfl)
        clear hcont hK hall hdep
        have e5 : y2 5 = .int .i64 (d - 1) := d5
        rw [if_pos (by rfl)]
        simp only [e5]
        go_simp
        rw [unhide EW2]
        exact unhide HCONT _ _ _ (by (try simp only [e5]); rfl) (Kept.refl No _) rfl (fun h => absurd h (by decide))
      · refine ⟨fun x v => rfl, fun y2 S W hK hall hdep K hcont => ?_⟩
        have HCONT := hide hcont
        have HKW := hide hK
        have d3 := hall 3 (by decide) (hdep ⟨3, Ground.data⟩ (by simp) rfl)
        clear hcont hK hall hdep
        have e3 : y2 3 = .int .i64 m := d3
        rw [if_pos (by rfl)]
        simp only [e3]
        go_simp
        exact unhide HCONT _ _ _ (by (try simp only [e3]); rfl) (Kept.refl No _) rfl (fun h => absurd h (by decide))
    · intro y2 W2 hK hx hD
      have ed : y2 6 = .int .i64 d := hx 6 (by decide)
      have em : y2 7 = .int .i64 m := hx 7 (by decide)
      have hvz := (unhide HC).z.lt
      have Ht := hide ((unhide Ht).kept hK (fun _ _ _ => id))
      have HC := hide ((unhide HC).go hK)
      simp only [ed, em, List.drop]
      clear hK hx hD hvz ed em
      go_wp2_with fail
      refine wp_region_inv 21 [] (by kernel_rfl) (by kernel_rfl) (fun y3 => { tmps := #[Value.agg #[Value.int IntKind.i64 k, Value.int IntKind.i64 n, Value.slice A l c], Value.bool tr, Value.pointer (some { block := hb1, off := 0 }), Value.pointer (some { block := hb2, off := 0 }), Value.pointer (some { block := w.heap.size, off := 0 }), undef, Value.pointer (some { block := w.heap.size + 1, off := 0 }), Value.bool false, Value.int IntKind.i64 n, Value.int IntKind.i64 6, Value.int IntKind.i64 m, Value.int IntKind.i64 d, y1 0, Value.int IntKind.i64 n, y1 2, Value.int IntKind.i64 6, y2 0, y2 1, y2 2, y2 3, y2 4, y2 5, Value.int IntKind.i64 d, Value.int IntKind.i64 6, Value.bool true, y3 0, y3 1, y3 2, y3 3, y3 4, y3 5, y3 6, y3 7, y3 8, y3 9, y3 10, y3 11, y3 12, y3 13, y3 14, y3 15, y3 16, y3 17, y3 18, y3 19, y3 20, undef, undef, undef, undef, undef, undef, undef, undef, undef, undef, undef, undef, undef, undef, undef, undef, undef, undef, undef, undef, undef, undef, undef, undef, undef, undef, undef, undef, undef, undef, undef, undef, undef, undef, undef, undef, undef], defers := [] }) (fun _ => undef) (fun i v W => Sh.ok (FN F w) W (([Sh.tree (.num 0), Sh.tree t, Sh.row [(.num 0), t], Sh.tree (.bin .add (.num 0) t), Sh.tree t, Sh.tree (.num 0), Sh.row [t, (.num 0)], Sh.tree (.bin .sub t (.num 0)), Sh.tree t, Sh.tree (.num 1), Sh.row [t, (.num 1)], Sh.tree (.bin .mul t (.num 1)), Sh.tree t, Sh.tree (.num 1), Sh.row [t, (.num 1)], Sh.tree (.bin .div t (.num 1)), Sh.row [(.bin .add (.num 0) t), (.bin .sub t (.num 0)), (.bin .mul t (.num 1)), (.bin .div t (.num 1))], Sh.val (Value.int IntKind.i64 6), Sh.val (.int .i64 3), Sh.addr (.bin .div t (.num 1)), Sh.tree (.bin .div t (.num 1))] : List Sh).getD i .any) v) (fun i v W W' hK h => Sh.kept hK _ _ h) ?_ ?_
      · refine ⟨?_, ?_, ?_, ?_, ?_, ?_, ?_, ?_, ?_, ?_, ?_, ?_, ?_, ?_, ?_, ?_, ?_, ?_, ?_, ?_, ?_, trivial⟩
        · refine ⟨fun x v => rfl, fun y3 S W hK hall hdep K hcont => ?_⟩
          have HCONT := hide hcont
          have HKW := hide hK
          clear hcont hK hall hdep
          rw [if_pos (by rfl)]
          go_simp
          refine (num_any _ _).mono ?_
          rintro e w1 ⟨rfl, hK1⟩
          exact unhide HCONT _ _ _ rfl hK1 ⟨_, _, _, _, _, rfl, num_rd _ _ _⟩ (fun h => absurd h (by decide))
        · refine ⟨fun x v => rfl, fun y3 S W hK hall hdep K hcont => ?_⟩
          have HCONT := hide hcont
          have HKW := hide hK
          clear hcont hK hall hdep
          obtain ⟨xs0, xs1, xs2⟩ := ((unhide HC).go (unhide HKW)).xs
          rw [if_pos (by rfl)]
          go_simp
          exact unhide HCONT _ _ _ rfl (Kept.refl No _) ⟨_, _, _, _, _, rfl, (unhide Ht).kept (unhide HKW) (fun _ _ _ => id)⟩ (fun h => absurd h (by decide))
        · refine ⟨fun x v => rfl, fun y3 S W hK hall hdep K hcont => ?_⟩
          have HCONT := hide hcont
          have HKW := hide hK
          have d0 := hall 0 (by decide) (hdep ⟨0, Ground.data⟩ (by simp) rfl)
          have d1 := hall 1 (by decide) (hdep ⟨1, Ground.data⟩ (by simp) rfl)
          clear hcont hK hall hdep
          obtain ⟨k0, n0, A0, l0, c0, e0, r0⟩ := d0
          obtain ⟨k1, n1, A1, l1, c1, e1, r1⟩ := d1
          rw [if_pos (by rfl)]
          simp only [e0, e1]
          go_simp
          exact unhide HCONT _ _ _ (by (try simp only [e0, e1]); rfl) ((Kept.refl No _).alloc _) (row2_new r0 r1 ((unhide HC).go (unhide HKW)).hF) (fun h => absurd h (by decide))
        · refine ⟨fun x v => rfl, fun y3 S W hK hall hdep K hcont => ?_⟩
          have HCONT := hide hcont
          have HKW := hide hK
          have d2 := hall 2 (by decide) (hdep ⟨2, Ground.data⟩ (by simp) rfl)
          clear hcont hK hall hdep
          obtain ⟨b2, e2, f2, r2⟩ := d2
          rw [if_pos (by rfl)]
          simp only [e2]
          go_simp
          refine (op2_row .add (by rfl) _ b2 (.num 0) t r2 f2).mono ?_
          rintro e w1 ⟨k_, n_, A_, l_, c_, rfl, hR1, hK1⟩
          exact unhide HCONT _ _ _ (by (try simp only [e2]); rfl) hK1 ⟨_, _, _, _, _, rfl, hR1⟩ (fun h => absurd h (by decide))
        · refine ⟨fun x v => rfl, fun y3 S W hK hall hdep K hcont => ?_⟩
          have HCONT := hide hcont
          have HKW := hide hK
          clear hcont hK hall hdep
          obtain ⟨xs0, xs1, xs2⟩ := ((unhide HC).go (unhide HKW)).xs
          rw [if_pos (by rfl)]
          go_simp
          exact unhide HCONT _ _ _ rfl (Kept.refl No _) ⟨_, _, _, _, _, rfl, (unhide Ht).kept (unhide HKW) (fun _ _ _ => id)⟩ (fun h => absurd h (by decide))
        · refine ⟨fun x v => rfl, fun y3 S W hK hall hdep K hcont => ?_⟩
          have HCONT := hide hcont
          have HKW := hide hK
          clear hcont hK hall hdep
          rw [if_pos (by rfl)]
          go_simp
          refine (num_any _ _).mono ?_
          rintro e w1 ⟨rfl, hK1⟩
          exact unhide HCONT _ _ _ rfl hK1 ⟨_, _, _, _, _, rfl, num_rd _ _ _⟩ (fun h => absurd h (by decide))
        · refine ⟨fun x v => rfl, fun y3 S W hK hall hdep K hcont => ?_⟩
          have HCONT := hide hcont
          have HKW := hide hK
          have d4 := hall 4 (by decide) (hdep ⟨4, Ground.data⟩ (by simp) rfl)
          have d5 := hall 5 (by decide) (hdep ⟨5, Ground.data⟩ (by simp) rfl)
          clear hcont hK hall hdep
          obtain ⟨k4, n4, A4, l4, c4, e4, r4⟩ := d4
          obtain ⟨k5, n5, A5, l5, c5, e5, r5⟩ := d5
          rw [if_pos (by rfl)]
          simp only [e4, e5]
          go_simp
          exact unhide HCONT _ _ _ (by (try simp only [e4, e5]); rfl) ((Kept.refl No _).alloc _) (row2_new r4 r5 ((unhide HC).go (unhide HKW)).hF) (fun h => absurd h (by decide))
        · refine ⟨fun x v => rfl, fun y3 S W hK hall hdep K hcont => ?_⟩
          have HCONT := hide hcont
          have HKW := hide hK
          have d6 := hall 6 (by decide) (hdep ⟨6, Ground.data⟩ (by simp) rfl)
          clear hcont hK hall hdep
          obtain ⟨b6, e6, f6, r6⟩ := d6
          rw [if_pos (by rfl)]
          simp only [e6]
          go_simp
          refine (op2_row .sub (by rfl) _ b6 t (.num 0) r6 f6).mono ?_
          rintro e w1 ⟨k_, n_, A_, l_, c_, rfl, hR1, hK1⟩
          exact unhide HCONT _ _ _ (by (try simp only [e6]); rfl) hK1 ⟨_, _, _, _, _, rfl, hR1⟩ (fun h => absurd h (by decide))
        · refine ⟨fun x v => rfl, fun y3 S W hK hall hdep K hcont => ?_⟩
          have HCONT := hide hcont
          have HKW := hide hK
          clear hcont hK hall hdep
          obtain ⟨xs0, xs1, xs2⟩ := ((unhide HC).go (unhide HKW)).xs
          rw [if_pos (by rfl)]
          go_simp
          exact unhide HCONT _ _ _ rfl (Kept.refl No _) ⟨_, _, _, _, _, rfl, (unhide Ht).kept (unhide HKW) (fun _ _ _ => id)⟩ (fun h => absurd h (by decide))
        · refine ⟨fun x v => rfl, fun y3 S W hK hall hdep K hcont => ?_⟩
          have HCONT := hide hcont
          have HKW := hide hK
          clear hcont hK hall hdep
          rw [if_pos (by rfl)]
          go_simp
          refine (num_any _ _).mono ?_
          rintro e w1 ⟨rfl, hK1⟩
          exact unhide HCONT _ _ _ rfl hK1 ⟨_, _, _, _, _, rfl, num_rd _ _ _⟩ (fun h => absurd h (by decide))
        · refine ⟨fun x v => rfl, fun y3 S W hK hall hdep K hcont => ?_⟩
          have HCONT := hide hcont
          have HKW := hide hK
          have d8 := hall 8 (by decide) (hdep ⟨8, Ground.data⟩ (by simp) rfl)
          have d9 := hall 9 (by decide) (hdep ⟨9, Ground.data⟩ (by simp) rfl)
          clear hcont hK hall hdep
          obtain ⟨k8, n8, A8, l8, c8, e8, r8⟩ := d8
          obtain ⟨k9, n9, A9, l9, c9, e9, r9⟩ := d9
          rw [if_pos (by rfl)]
          simp only [e8, e9]
          go_simp
          exact unhide HCONT _ _ _ (by (try simp only [e8, e9]); rfl) ((Kept.refl No _).alloc _) (row2_new r8 r9 ((unhide HC).go (unhide HKW)).hF) (fun h => absurd h (by decide))
        · refine ⟨fun x v => rfl, fun y3 S W hK hall hdep K hcont => ?_⟩
          have HCONT := hide hcont
          have HKW := hide hK
          have d10 := hall 10 (by decide) (hdep ⟨10, Ground.data⟩ (by simp) rfl)
          clear hcont hK hall hdep
          obtain ⟨b10, e10, f10, r10⟩ := d10
          rw [if_pos (by rfl)]
          simp only [e10]
          go_simp
          refine (op2_row .mul (by rfl) _ b10 t (.num 1) r10 f10).mono ?_
          rintro e w1 ⟨k_, n_, A_, l_, c_, rfl, hR1, hK1⟩
          exact unhide HCONT _ _ _ (by (try simp only [e10]); rfl) hK1 ⟨_, _, _, _, _, rfl, hR1⟩ (fun h => absurd h (by decide))
        · refine ⟨fun x v => rfl, fun y3 S W hK hall hdep K hcont => ?_⟩
          have HCONT := hide hcont
          have HKW := hide hK
          clear hcont hK hall hdep
          obtain ⟨xs0, xs1, xs2⟩ := ((unhide HC).go (unhide HKW)).xs
          rw [if_pos (by rfl)]
          go_simp
          exact unhide HCONT _ _ _ rfl (Kept.refl No _) ⟨_, _, _, _, _, rfl, (unhide Ht).kept (unhide HKW) (fun _ _ _ => id)⟩ (fun h => absurd h (by decide))
        · refine ⟨fun x v => rfl, fun y3 S W hK hall hdep K hcont => ?_⟩
          have HCONT := hide hcont
          have HKW := hide hK
          clear hcont hK hall hdep
          rw [if_pos (by rfl)]
          go_simp
          refine (num_any _ _).mono ?_
          rintro e w1 ⟨rfl, hK1⟩
          exact unhide HCONT _ _ _ rfl hK1 ⟨_, _, _, _, _, rfl, num_rd _ _ _⟩ (fun h => absurd h (by decide))
        · refine ⟨fun x v => rfl, fun y3 S W hK hall hdep K hcont => ?_⟩
          have HCONT := hide hcont
          have HKW := hide hK
          have d12 := hall 12 (by decide) (hdep ⟨12, Ground.data⟩ (by simp) rfl)
          have d13 := hall 13 (by decide) (hdep ⟨13, Ground.data⟩ (by simp) rfl)
          clear hcont hK hall hdep
          obtain ⟨k12, n12, A12, l12, c12, e12, r12⟩ := d12
          obtain ⟨k13, n13, A13, l13, c13, e13, r13⟩ := d13
          rw [if_pos (by rfl)]
          simp only [e12, e13]
          go_simp
          exact unhide HCONT _ _ _ (by (try simp only [e12, e13]); rfl) ((Kept.refl No _).alloc _) (row2_new r12 r13 ((unhide HC).go (unhide HKW)).hF) (fun h => absurd h (by decide))
        · refine ⟨fun x v => rfl, fun y3 S W hK hall hdep K hcont => ?_⟩
          have HCONT := hide hcont
          have HKW := hide hK
          have d14 := hall 14 (by decide) (hdep ⟨14, Ground.data⟩ (by simp) rfl)
          clear hcont hK hall hdep
          obtain ⟨b14, e14, f14, r14⟩ := d14
          rw [if_pos (by rfl)]
          simp only [e14]
          go_simp
          refine (op2_row .div (by rfl) _ b14 t (.num 1) r14 f14).mono ?_
          rintro e w1 ⟨k_, n_, A_, l_, c_, rfl, hR1, hK1⟩
          exact unhide HCONT _ _ _ (by (try simp only [e14]); rfl) hK1 ⟨_, _, _, _, _, rfl, hR1⟩ (fun h => absurd h (by decide))
        · refine ⟨fun x v => rfl, fun y3 S W hK hall hdep K hcont => ?_⟩
          have HCONT := hide hcont
          have HKW := hide hK
          have d3 := hall 3 (by decide) (hdep ⟨3, Ground.data⟩ (by simp) rfl)
          have d7 := hall 7 (by decide) (hdep ⟨7, Ground.data⟩ (by simp) rfl)
          have d11 := hall 11 (by decide) (hdep ⟨11, Ground.data⟩ (by simp) rfl)
          have d15 := hall 15 (by decide) (hdep ⟨15, Ground.data⟩ (by simp) rfl)
          clear hcont hK hall hdep
          obtain ⟨k3, n3, A3, l3, c3, e3, r3⟩ := d3
          obtain ⟨k7, n7, A7, l7, c7, e7, r7⟩ := d7
          obtain ⟨k11, n11, A11, l11, c11, e11, r11⟩ := d11
          obtain ⟨k15, n15, A15, l15, c15, e15, r15⟩ := d15
          rw [if_pos (by rfl)]
          simp only [e3, e7, e11, e15]
          go_simp
          exact unhide HCONT _ _ _ (by (try simp only [e3, e7, e11, e15]); rfl) ((Kept.refl No _).alloc _) (row4_new r3 r7 r11 r15 ((unhide HC).go (unhide HKW)).hF) (fun h => absurd h (by decide))
        · refine ⟨fun x v => rfl, fun y3 S W hK hall hdep K hcont => ?_⟩
          have HCONT := hide hcont
          have HKW := hide hK
          clear hcont hK hall hdep
          rw [if_pos (by rfl)]
          go_simp
          exact unhide HCONT _ _ _ rfl (Kept.refl No _) rfl (fun h => absurd h (by decide))
        · refine ⟨fun x v => rfl, fun y3 S W hK hall hdep K hcont => ?_⟩
          have HCONT := hide hcont
          have HKW := hide hK
          have d17 := hall 17 (by decide) (hdep ⟨17, Ground.data⟩ (by simp) rfl)
          clear hcont hK hall hdep
          have e17 : y3 17 = Value.int IntKind.i64 6 := d17
          rw [if_pos (by rfl)]
          simp only [e17]
          go_simp
          exact unhide HCONT _ _ _ (by (try simp only [e17]); rfl) (Kept.refl No _) rfl (fun h => absurd h (by decide))
        · refine ⟨fun x v => rfl, fun y3 S W hK hall hdep K hcont => ?_⟩
          have HCONT := hide hcont
          have HKW := hide hK
          have d16 := hall 16 (by decide) (hdep ⟨16, Ground.data⟩ (by simp) rfl)
          have d18 := hall 18 (by decide) (hdep ⟨18, Ground.data⟩ (by simp) rfl)
          clear hcont hK hall hdep
          obtain ⟨b16, e16, f16, r16⟩ := d16
          have e18 : y3 18 = .int .i64 3 := d18
          rw [if_pos (by rfl)]
          simp only [e16, e18]
          go_simp
          exact unhide HCONT _ _ _ (by (try simp only [e16, e18]); rfl) (Kept.refl No _) ⟨b16, _, rfl, r16 3 _ rfl⟩ (fun h => absurd h (by decide))
        · refine ⟨fun x v => rfl, fun y3 S W hK hall hdep K hcont => ?_⟩
          have HCONT := hide hcont
          have HKW := hide hK
          have d19 := hall 19 (by decide) (hdep ⟨19, Ground.data⟩ (by simp) rfl)
          clear hcont hK hall hdep
          obtain ⟨b19, o19, e19, kk19, nn19, AA19, ll19, cc19, ⟨y19, yy19, yyy19⟩, r19⟩ := d19
          rw [if_pos (by rfl)]
          simp only [e19]
          go_simp
          exact unhide HCONT _ _ _ (by (try simp only [e19]); rfl) (Kept.refl No _) ⟨_, _, _, _, _, rfl, r19⟩ (fun h => absurd h (by decide))
      · intro y3 W3 hK hx hD
        obtain ⟨k4, n4, A4, l4, c4, e4, r4⟩ := hx 20 (by decide)
        have hvz := (unhide HC).z.lt
        have Ht := hide ((unhide Ht).kept hK (fun _ _ _ => id))
        have HC := hide ((unhide HC).go hK)
        have H4 := hide r4
        clear r4
        simp only [e4, List.drop]
        clear hK hx hD hvz e4
        rw [show numE 6 0 0 0 t = (.bin .div t (.num 1)) by simp [numE]]
        obtain ⟨f0, f1, f2, z0, z1, z2, hlt⟩ := (unhide HC).zs
        go_wp2_with fail
        refine bodyPost_ret (v := .tuple #[.agg #[.int .i64 k4, .int .i64 n4, .slice A4 l4 c4], .bool true]) (by simp [results, Tryd.results32, go_sem, z0, z1, z2]) rfl ?_
        exact (unhide HC).made (unhide H4)

theorem part_by (hw bv : Int) (hb1 hb2 : Nat) (w0 : World) (hH1 : Blk w0 hb1 3 #[.int .i64 hw]) (hH2 : Blk w0 hb2 3 #[.int .i64 bv]) : ByOk 32 #[.pointer (some ⟨hb1, 0, none⟩), .pointer (some ⟨hb2, 0, none⟩)] w0 (byNum (pickF hw 7) (pickF bv 20 + 1) (fun n => pickF bv (n + 1))) := by
  intro w F k n A l c t tr hN hK hr
  have hkn := hr.k_eq
  have hk : k = t.code := by have := hkn.1; rwa [E.r_k] at this
  have hn : n = t.n := by have := hkn.2.1; rwa [E.r_n] at this
  obtain ⟨hn0, hnm⟩ : 0 ≤ n ∧ n ≤ 2147483647 := by
    rw [hn]
    cases t with
    | num m => exact hN
    | year => simp [E.n]
    | neg a => simp [E.n]
    | not a => simp [E.n]
    | bin o a b => simp [E.n]
  obtain ⟨m, hm⟩ : ∃ m, pickF bv (n + 1) = m := ⟨_, rfl⟩
  obtain ⟨d, hd0⟩ : ∃ d, pickF bv 20 + 1 = d := ⟨_, rfl⟩
  have hd : pickF bv 20 = d - 1 := by omega
  rw [hd0]
  have small : ∀ p : Int, pickF hw 7 = p → ¬ 2 < p → (t.code = 1 → Calls Tryd.prog 32 (#[.agg #[.int .i64 k, .int .i64 n, .slice A l c], .bool tr] ++ #[.pointer (some ⟨hb1, 0, none⟩), .pointer (some ⟨hb2, 0, none⟩)]) w (MadeB w F (numE p m d n (.num n)) true)) →
      (t.code ≠ 1 → Calls Tryd.prog 32 (#[.agg #[.int .i64 k, .int .i64 n, .slice A l c], .bool tr] ++ #[.pointer (some ⟨hb1, 0, none⟩), .pointer (some ⟨hb2, 0, none⟩)]) w (MadeB w F (numE p m d n (.num n)) false)) →
      Calls Tryd.prog 32 (#[.agg #[.int .i64 k, .int .i64 n, .slice A l c], .bool tr] ++ #[.pointer (some ⟨hb1, 0, none⟩), .pointer (some ⟨hb2, 0, none⟩)]) w (ByPost w F (byNum (pickF hw 7) d (fun n => pickF bv (n + 1)) t tr)) := by
    intro p hp hlt h1 h2
    rw [hp]
    by_cases hc : t.code = 1
    · refine (h1 hc).mono fun _ _ h => madeB_by h ?_
      cases t with
      | num q => simp only [E.n] at hn; subst hn; simp [byNum, hlt, hm]
      | year => simp [E.code] at hc
      | neg a => simp [E.code] at hc
      | not a => simp [E.code] at hc
      | bin o a b => cases o <;> simp [E.code, O2.code] at hc
    · refine (h2 hc).mono fun _ _ h => madeB_by h ?_
      cases t with
      | num q => exact absurd rfl hc
      | year => simp [byNum, hlt]
      | neg a => simp [byNum, hlt]
      | not a => simp [byNum, hlt]
      | bin o a b => simp [byNum, hlt]
  obtain ⟨hp1, hp2⟩ := pickF_range (x := hw) (n := 7) (by omega)
  have hp : pickF hw 7 = 0 ∨ pickF hw 7 = 1 ∨ pickF hw 7 = 2 ∨ pickF hw 7 = 3 ∨ pickF hw 7 = 4 ∨ pickF hw 7 = 5 ∨ pickF hw 7 = 6 := by omega
  rcases hp with hp | hp | hp | hp | hp | hp | hp
  · exact small 0 hp (by decide) (fun hc => part_num0 hw bv hb1 hb2 w0 w F k n A l c m d tr hK hH1 hH2 hn0 hnm hm hd hp (by rw [hk, hc])) (fun hc => part_oth0 hw bv hb1 hb2 w0 w F k n A l c m d tr hK hH1 hH2 hn0 hnm hm hd hp (by rw [hk]; exact hc))
  · exact small 1 hp (by decide) (fun hc => part_num1 hw bv hb1 hb2 w0 w F k n A l c m d tr hK hH1 hH2 hn0 hnm hm hd hp (by rw [hk, hc])) (fun hc => part_oth1 hw bv hb1 hb2 w0 w F k n A l c m d tr hK hH1 hH2 hn0 hnm hm hd hp (by rw [hk]; exact hc))
  · exact small 2 hp (by decide) (fun hc => part_num2 hw bv hb1 hb2 w0 w F k n A l c m d tr hK hH1 hH2 hn0 hnm hm hd hp (by rw [hk, hc])) (fun hc => part_oth2 hw bv hb1 hb2 w0 w F k n A l c m d tr hK hH1 hH2 hn0 hnm hm hd hp (by rw [hk]; exact hc))
  · exact (part_big3 hw bv hb1 hb2 w0 w F k n A l c t m d tr hK hr hH1 hH2 hn0 hnm hm hd hp).mono fun _ _ h => made_by h (by simp [byNum, hp])
  · exact (part_big4 hw bv hb1 hb2 w0 w F k n A l c t m d tr hK hr hH1 hH2 hn0 hnm hm hd hp).mono fun _ _ h => made_by h (by simp [byNum, hp])
  · exact (part_big5 hw bv hb1 hb2 w0 w F k n A l c t m d tr hK hr hH1 hH2 hn0 hnm hm hd hp).mono fun _ _ h => made_by h (by simp [byNum, hp])
  · exact (part_big6 hw bv hb1 hb2 w0 w F k n A l c t m d tr hK hr hH1 hH2 hn0 hnm hm hd hp).mono fun _ _ h => made_by h (by simp [byNum, hp])

set_option maxRecDepth 100000 in
set_option maxHeartbeats 4000000 in
theorem part_top (r : R) (k n : Int) (A : Option Addr) (l c : Nat) (y which : Int) (how : Int) (bv : Int) (GB : Nat) (w : World) (F : Nat → Prop) (hr : Rd w F k n A l r) (hG : Glob GB w) (hGB : GB ≤ w.heap.size) :
    Calls Tryd.prog 10 #[.agg #[.int .i64 k, .int .i64 n, .slice A l c], .int .i64 y, .int .i64 which, .int .i64 how, .int .i64 bv] w (YearPost w) := by
  have hentN : ∀ (args : Array Value) (w : World), (callFunc 32 args).run Tryd.prog w = .ok (.enter 32 args) w := by intro args w; go_simp
  have hent43 : ∀ (args : Array Value) (w : World), (callFunc 43 args).run Tryd.prog w = .ok (.enter 43 args) w := by intro args w; go_simp
  have hmf : ∀ (fn : Fn) (first cap : Array Value) (w : World), (Instr.makeFunc fn first cap).run Tryd.prog w = .ok (.func fn first cap) w := fun _ _ _ _ => rfl
  have HR := hide hr
  have HG := hide hG
  have HE1 := hide hentN
  have HE2 := hide hent43
  clear hr hG hentN hent43
  go_enter Tryd.func10, Tryd.ntmps10
  go_wp2_with fail
  have HK := hide ((((Kept.refl No w).alloc (.cells #[.int .i64 k, .int .i64 n, .slice A l c] 24)).alloc (.cells #[.int .i64 how] 3)).alloc (.cells #[.int .i64 bv] 3))
  have HX := hide (((Blk.new w 24 #[.int .i64 k, .int .i64 n, .slice A l c]).alloc (.cells #[.int .i64 how] 3)).alloc (.cells #[.int .i64 bv] 3))
  have HH0 := hide ((Blk.at_ (w := (w.alloc (.cells #[.int .i64 k, .int .i64 n, .slice A l c] 24))) (t := 3) (cs := #[.int .i64 how]) (n := w.heap.size + 1) (by simp)).alloc (.cells #[.int .i64 bv] 3))
  have HH1 := hide (Blk.at_ (w := ((w.alloc (.cells #[.int .i64 k, .int .i64 n, .slice A l c] 24)).alloc (.cells #[.int .i64 how] 3))) (t := 3) (cs := #[.int .i64 bv]) (n := w.heap.size + 2) (by simp))
  generalize (((w.alloc (.cells #[.int .i64 k, .int .i64 n, .slice A l c] 24)).alloc (.cells #[.int .i64 how] 3)).alloc (.cells #[.int .i64 bv] 3)) = V at HK HX HH0 HH1 ⊢
  have KS := hide (show ∀ w', Kept No V w' → (w'.cell? ⟨w.heap.size, 0, none⟩ = some (.int .i64 k) ∧ w'.cell? ⟨w.heap.size, 1, none⟩ = some (.int .i64 n) ∧ w'.cell? ⟨w.heap.size, 2, none⟩ = some (.slice A l c)) from fun w' hk => ⟨((unhide HX).kept hk id).cell 0, ((unhide HX).kept hk id).cell 1, ((unhide HX).kept hk id).cell 2⟩)
  have HV := hide (Kept.refl No V).drew
  go_region_held3 (fun w' => w'.cell? ⟨w.heap.size, 0, none⟩ = some (.int .i64 k) ∧ w'.cell? ⟨w.heap.size, 1, none⟩ = some (.int .i64 n) ∧ w'.cell? ⟨w.heap.size, 2, none⟩ = some (.slice A l c))
    (first | exact unhide KS _ (unhide HV))
    (first
      | (go_at_call 16; refine (put_any which 32 _ _).mono ?_; rintro e w1 ⟨fb, xb, rfl, hfb, hxb, hK1⟩; have HFB := hide hfb; have HXB := hide hxb; have HK := hide ((unhide HK).trans ((unhide HV).trans hK1 (fun _ _ h => h)) (fun _ _ h => h)); have HH0 := hide (((unhide HH0).kept (unhide HV) id).kept hK1 id); have HH1 := hide (((unhide HH1).kept (unhide HV) id).kept hK1 id); have HV := hide ((unhide HV).trans hK1 (fun _ _ h => h)); clear hfb hxb hK1)
      | (go_at_call 15; refine (year_any r k n A l c y 43 GB _ _ F ((unhide HR).kept (unhide HK) (fun _ _ _ => id)) ((unhide HG).kept0 (unhide HK) hGB) (Nat.le_trans hGB (unhide HK).size) (fun t v _ hev => put_law 32 _ _ _ _ which (byNum (pickF how 7) (pickF bv 20 + 1) (fun n => pickF bv (n + 1))) t y v (unhide HFB) (unhide HXB) (unhide HE1) (part_by how bv _ _ _ (unhide HH0) (unhide HH1)) (law_num _ _ _) hev) (unhide HE2)).mono ?_; rintro e w2 ⟨rfl, hK2⟩; have HK := hide ((unhide HK).trans hK2 (fun _ _ h => h)); have HV := hide ((unhide HV).trans hK2 (fun _ _ h => h)); clear hK2))
  go_wp2_with fail
  go_ret
  exact ⟨rfl, unhide HK⟩

end Go.Proofs.YtmjmcjcckncplaaDoor
