/- TopRestsWritten: its closure (function 22), its root (function 4). -/
import Derived.Test.YtmjmcjcckncplaaDoorCtx
import Derived.Test.YtmjmcjcckncplaaDoorAll
import Derived.Deep.RegionHeld3
namespace Go.Proofs.YtmjmcjcckncplaaDoor
open Go.RowKit Go.BigFrame

set_option maxRecDepth 100000 in
set_option maxHeartbeats 4000000 in
theorem rest_mod (w : World) (F : Nat → Prop) (k n : Int) (A : Option Addr) (l c : Nat) (ta tb : E) (tr : Bool) (hr : Rd w F k n A l (E.bin .mod ta tb).r) :
    Calls Tryd.prog 22 #[.agg #[.int .i64 k, .int .i64 n, .slice A l c], .bool tr] w (Made w F (.bin .sub ta (.bin .mul (.bin .div ta tb) tb))) := by
  obtain ⟨rfl, rfl, rfl, gb, gq, ka, na, Aa, la, ca, kb, nb, Ab, lb, cb, rfl, h6, hra, hrb⟩ := open_bin (o := .mod) (kc := 8) (by rfl) hr
  have H6 := hide h6
  have HA0 := hide hra
  have HB0 := hide hrb
  clear hr h6 hra hrb
  go_enter Tryd.func22, Tryd.ntmps22
  go_wp2_with fail
  have HC := hide (Ctx.start w (8) (0) (some ⟨gb, gq, none⟩) (2) c)
  generalize (w.alloc (.cells #[.int .i64 (8), .int .i64 (0), .slice (some ⟨gb, gq, none⟩) (2) c] 24)).alloc (.cells #[.int .i64 0, .int .i64 0, .slice none 0 0] 24) = V at HC ⊢
  have Ha := hide (rd_in (unhide HA0) (unhide HC).kept)
  have Hb := hide (rd_in (unhide HB0) (unhide HC).kept)
  refine wp_region_inv 13 [12] (by kernel_rfl) (by kernel_rfl) (fun y1 => { tmps := #[Value.agg #[Value.int IntKind.i64 8, Value.int IntKind.i64 0, Value.slice (some { block := gb, off := gq }) 2 c], Value.bool tr, Value.pointer (some { block := w.heap.size, off := 0 }), undef, Value.pointer (some { block := w.heap.size + 1, off := 0 }), Value.bool false, y1 12, Value.pointer (some { block := w.heap.size, off := 0 }), Value.int IntKind.i64 8, Value.bool false, undef, y1 0, y1 1, y1 2, y1 3, y1 4, y1 5, y1 6, y1 7, y1 8, y1 9, y1 10, y1 11, undef, undef, undef, undef, undef, undef, undef, undef, undef, undef, undef, undef, undef], defers := [] }) (fun _ => undef) (fun i v W => Sh.ok (FN F w) W (([.val (.pointer (some ⟨w.heap.size, 2, none⟩)), .val (.slice (some ⟨gb, gq, none⟩) 2 c), .val (.pointer (some ⟨gb, gq, none⟩)), .tree ta, .tree ta, .val (.pointer (some ⟨w.heap.size, 2, none⟩)), .val (.slice (some ⟨gb, gq, none⟩) 2 c), .val (.pointer (some ⟨gb, gq + 3, none⟩)), .tree tb, .tree tb, .row [ta, tb], .tree (.bin .div ta tb), .fresh V.heap.size] : List Sh).getD i .any) v) (fun i v W W' hK h => Sh.kept hK _ _ h) ?_ ?_
  · refine ⟨?_, ?_, ?_, ?_, ?_, ?_, ?_, ?_, ?_, ?_, ?_, ?_, ?_, trivial⟩
    · refine ⟨fun x v => rfl, fun y1 S W hK hall hdep K hcont => ?_⟩
      have HCONT := hide hcont
      have HKW := hide hK
      clear hcont hK hall hdep
      rw [if_pos (by rfl)]
      go_simp
      exact unhide HCONT _ _ _ rfl (Kept.refl No _) rfl (fun h => absurd h (by decide))
    · refine ⟨fun x v => rfl, fun y1 S W hK hall hdep K hcont => ?_⟩
      have HCONT := hide hcont
      have HKW := hide hK
      have d0 := hall 0 (by decide) (hdep ⟨0, Ground.data⟩ (by simp) rfl)
      clear hcont hK hall hdep
      have e0 : y1 0 = .pointer (some ⟨w.heap.size, 2, none⟩) := d0
      obtain ⟨xs0, xs1, xs2⟩ := ((unhide HC).go (unhide HKW)).xs
      rw [if_pos (by rfl)]
      simp only [e0]
      go_simp
      exact unhide HCONT _ _ _ (by (try simp only [e0]); rfl) (Kept.refl No _) rfl (fun h => absurd h (by decide))
    · refine ⟨fun x v => rfl, fun y1 S W hK hall hdep K hcont => ?_⟩
      have HCONT := hide hcont
      have HKW := hide hK
      have d1 := hall 1 (by decide) (hdep ⟨1, Ground.data⟩ (by simp) rfl)
      clear hcont hK hall hdep
      have e1 : y1 1 = .slice (some ⟨gb, gq, none⟩) 2 c := d1
      rw [if_pos (by rfl)]
      simp only [e1]
      go_simp
      exact unhide HCONT _ _ _ (by (try simp only [e1]); rfl) (Kept.refl No _) rfl (fun h => absurd h (by decide))
    · refine ⟨fun x v => rfl, fun y1 S W hK hall hdep K hcont => ?_⟩
      have HCONT := hide hcont
      have HKW := hide hK
      have d2 := hall 2 (by decide) (hdep ⟨2, Ground.data⟩ (by simp) rfl)
      clear hcont hK hall hdep
      have e2 : y1 2 = .pointer (some ⟨gb, gq, none⟩) := d2
      obtain ⟨k60, k61, k62, k63, k64, k65⟩ := ((unhide H6).kept (unhide HC).kept id).kept (unhide HKW) id
      rw [if_pos (by rfl)]
      simp only [e2]
      go_simp
      exact unhide HCONT _ _ _ (by (try simp only [e2]); rfl) (Kept.refl No _) ⟨_, _, _, _, _, rfl, (unhide Ha).kept (unhide HKW) (fun _ _ _ => id)⟩ (fun h => absurd h (by decide))
    · refine ⟨fun x v => rfl, fun y1 S W hK hall hdep K hcont => ?_⟩
      have HCONT := hide hcont
      have HKW := hide hK
      have d3 := hall 3 (by decide) (hdep ⟨3, Ground.data⟩ (by simp) rfl)
      clear hcont hK hall hdep
      obtain ⟨k3, n3, A3, l3, c3, e3, r3⟩ := d3
      rw [if_pos (by rfl)]
      simp only [e3]
      go_simp
      refine (rule_F ta k3 n3 A3 l3 c3 _ r3 ((unhide HC).go (unhide HKW)).hF).mono ?_
      rintro e w1 ⟨k_, n_, A_, l_, c_, rfl, hR1, hK1⟩
      exact unhide HCONT _ _ _ (by (try simp only [e3]); rfl) hK1 ⟨_, _, _, _, _, rfl, hR1⟩ (fun h => absurd h (by decide))
    · refine ⟨fun x v => rfl, fun y1 S W hK hall hdep K hcont => ?_⟩
      have HCONT := hide hcont
      have HKW := hide hK
      clear hcont hK hall hdep
      rw [if_pos (by rfl)]
      go_simp
      exact unhide HCONT _ _ _ rfl (Kept.refl No _) rfl (fun h => absurd h (by decide))
    · refine ⟨fun x v => rfl, fun y1 S W hK hall hdep K hcont => ?_⟩
      have HCONT := hide hcont
      have HKW := hide hK
      have d5 := hall 5 (by decide) (hdep ⟨5, Ground.data⟩ (by simp) rfl)
      clear hcont hK hall hdep
      have e5 : y1 5 = .pointer (some ⟨w.heap.size, 2, none⟩) := d5
      obtain ⟨xs0, xs1, xs2⟩ := ((unhide HC).go (unhide HKW)).xs
      rw [if_pos (by rfl)]
      simp only [e5]
      go_simp
      exact unhide HCONT _ _ _ (by (try simp only [e5]); rfl) (Kept.refl No _) rfl (fun h => absurd h (by decide))
    · refine ⟨fun x v => rfl, fun y1 S W hK hall hdep K hcont => ?_⟩
      have HCONT := hide hcont
      have HKW := hide hK
      have d6 := hall 6 (by decide) (hdep ⟨6, Ground.data⟩ (by simp) rfl)
      clear hcont hK hall hdep
      have e6 : y1 6 = .slice (some ⟨gb, gq, none⟩) 2 c := d6
      rw [if_pos (by rfl)]
      simp only [e6]
      go_simp
      exact unhide HCONT _ _ _ (by (try simp only [e6]); rfl) (Kept.refl No _) rfl (fun h => absurd h (by decide))
    · refine ⟨fun x v => rfl, fun y1 S W hK hall hdep K hcont => ?_⟩
      have HCONT := hide hcont
      have HKW := hide hK
      have d7 := hall 7 (by decide) (hdep ⟨7, Ground.data⟩ (by simp) rfl)
      clear hcont hK hall hdep
      have e7 : y1 7 = .pointer (some ⟨gb, gq + 3, none⟩) := d7
      obtain ⟨k60, k61, k62, k63, k64, k65⟩ := ((unhide H6).kept (unhide HC).kept id).kept (unhide HKW) id
      rw [if_pos (by rfl)]
      simp only [e7]
      go_simp
      exact unhide HCONT _ _ _ (by (try simp only [e7]); rfl) (Kept.refl No _) ⟨_, _, _, _, _, rfl, (unhide Hb).kept (unhide HKW) (fun _ _ _ => id)⟩ (fun h => absurd h (by decide))
    · refine ⟨fun x v => rfl, fun y1 S W hK hall hdep K hcont => ?_⟩
      have HCONT := hide hcont
      have HKW := hide hK
      have d8 := hall 8 (by decide) (hdep ⟨8, Ground.data⟩ (by simp) rfl)
      clear hcont hK hall hdep
      obtain ⟨k8, n8, A8, l8, c8, e8, r8⟩ := d8
      rw [if_pos (by rfl)]
      simp only [e8]
      go_simp
      refine (rule_F tb k8 n8 A8 l8 c8 _ r8 ((unhide HC).go (unhide HKW)).hF).mono ?_
      rintro e w1 ⟨k_, n_, A_, l_, c_, rfl, hR1, hK1⟩
      exact unhide HCONT _ _ _ (by (try simp only [e8]); rfl) hK1 ⟨_, _, _, _, _, rfl, hR1⟩ (fun h => absurd h (by decide))
    · refine ⟨fun x v => rfl, fun y1 S W hK hall hdep K hcont => ?_⟩
      have HCONT := hide hcont
      have HKW := hide hK
      have d4 := hall 4 (by decide) (hdep ⟨4, Ground.data⟩ (by simp) rfl)
      have d9 := hall 9 (by decide) (hdep ⟨9, Ground.data⟩ (by simp) rfl)
      clear hcont hK hall hdep
      obtain ⟨k4, n4, A4, l4, c4, e4, r4⟩ := d4
      obtain ⟨k9, n9, A9, l9, c9, e9, r9⟩ := d9
      rw [if_pos (by rfl)]
      simp only [e4, e9]
      go_simp
      exact unhide HCONT _ _ _ (by (try simp only [e4, e9]); rfl) ((Kept.refl No _).alloc _) (row2_new r4 r9 ((unhide HC).go (unhide HKW)).hF) (fun h => absurd h (by decide))
    · refine ⟨fun x v => rfl, fun y1 S W hK hall hdep K hcont => ?_⟩
      have HCONT := hide hcont
      have HKW := hide hK
      have d10 := hall 10 (by decide) (hdep ⟨10, Ground.data⟩ (by simp) rfl)
      clear hcont hK hall hdep
      obtain ⟨b10, e10, f10, r10⟩ := d10
      rw [if_pos (by rfl)]
      simp only [e10]
      go_simp
      refine (op2_row .div (by rfl) _ b10 ta tb r10 f10).mono ?_
      rintro e w1 ⟨k_, n_, A_, l_, c_, rfl, hR1, hK1⟩
      exact unhide HCONT _ _ _ (by (try simp only [e10]); rfl) hK1 ⟨_, _, _, _, _, rfl, hR1⟩ (fun h => absurd h (by decide))
    · refine ⟨fun x v => rfl, fun y1 S W hK hall hdep K hcont => ?_⟩
      have HCONT := hide hcont
      have HKW := hide hK
      have HALL := hide hall
      clear hcont hK hall hdep
      rw [if_pos (by rfl)]
      go_simp
      exact unhide HCONT _ _ _ rfl ((Kept.refl No _).alloc _) ⟨_, rfl, (unhide HKW).size, Blk.new _ _ _⟩ (fun _ j hj hS hjD h => by
        have hj2 : j = 12 := by simpa using hjD
        subst hj2
        obtain ⟨b, hb, _, hB⟩ := unhide HALL 12 (by decide) hS
        exact blk_ne_new hB (hb.symm.trans h))
  · intro y1 W1 hK hx hD
    obtain ⟨k1, n1, A1, l1, c1, e1, r1⟩ := hx 11 (by decide)
    obtain ⟨p6, ep6, hlop6, hBp6⟩ := hx 12 (by decide)
    have hvz := (unhide HC).z.lt
    have Ha := hide ((unhide Ha).kept hK (fun _ _ _ => id))
    have Hb := hide ((unhide Hb).kept hK (fun _ _ _ => id))
    have HC := hide ((unhide HC).go hK)
    have H1 := hide r1
    clear r1
    have HPp6 : Hid (w.heap.size + 1 < p6) := hide (by omega)
    have HBp6 := hide hBp6
    clear hlop6 hBp6
    simp only [e1, ep6, List.drop]
    clear hK hx hD hvz e1 ep6
    obtain ⟨xs0, xs1, xs2⟩ := (unhide HC).xs
    have hp6w := (unhide HBp6).lt
    have up60 : W1.cell? ⟨p6, 0, none⟩ = some (.int .i64 0) := (unhide HBp6).cell 0
    have gp60 : W1.frozen? ⟨p6, 0, none⟩ = false := (unhide HBp6).frozen 0
    have up61 : W1.cell? ⟨p6, 1, none⟩ = some (.int .i64 0) := (unhide HBp6).cell 1
    have gp61 : W1.frozen? ⟨p6, 1, none⟩ = false := (unhide HBp6).frozen 1
    have up62 : W1.cell? ⟨p6, 2, none⟩ = some (.slice none 0 0) := (unhide HBp6).cell 2
    have gp62 : W1.frozen? ⟨p6, 2, none⟩ = false := (unhide HBp6).frozen 2
    have hpwp6 : w.heap.size ≠ p6 := by have := unhide HPp6; omega
    go_wp2_with fail
    obtain ⟨hC2, hP, hRd⟩ := st1 (unhide HC) (unhide HPp6) (unhide HBp6) k1 n1 A1 l1 c1
    have Ha := hide (hRd _ _ _ _ _ _ (unhide Ha))
    have Hb := hide (hRd _ _ _ _ _ _ (unhide Hb))
    have H1 := hide (hRd _ _ _ _ _ _ (unhide H1))
    have HC := hide hC2
    have HBp6 := hide hP
    clear hC2 hP hRd xs0 xs1 xs2 hp6w hpwp6 up60 gp60 up61 gp61 up62 gp62
    generalize ((W1.setCell ⟨p6, 0, none⟩ (.int .i64 k1)).setCell ⟨p6, 1, none⟩ (.int .i64 n1)).setCell ⟨p6, 2, none⟩ (.slice A1 l1 c1) = W2 at Ha Hb H1 HC HBp6 ⊢
    refine wp_region_inv 13 [] (by kernel_rfl) (by kernel_rfl) (fun y2 => { tmps := #[Value.agg #[Value.int IntKind.i64 8, Value.int IntKind.i64 0, Value.slice (some { block := gb, off := gq }) 2 c], Value.bool tr, Value.pointer (some { block := w.heap.size, off := 0 }), undef, Value.pointer (some { block := w.heap.size + 1, off := 0 }), Value.bool false, Value.pointer (some { block := p6, off := 0 }), Value.pointer (some { block := w.heap.size, off := 0 }), Value.int IntKind.i64 8, Value.bool false, undef, y1 0, y1 1, y1 2, y1 3, y1 4, y1 5, y1 6, y1 7, y1 8, y1 9, y1 10, Value.agg #[Value.int IntKind.i64 k1, Value.int IntKind.i64 n1, Value.slice A1 l1 c1], y2 0, y2 1, y2 2, y2 3, y2 4, y2 5, y2 6, y2 7, y2 8, y2 9, y2 10, y2 11, y2 12], defers := [] }) (fun _ => undef) (fun i v W => Sh.ok (FN F w) W (([.val (.pointer (some ⟨w.heap.size, 2, none⟩)), .val (.slice (some ⟨gb, gq, none⟩) 2 c), .val (.pointer (some ⟨gb, gq, none⟩)), .tree ta, .tree (.bin .div ta tb), .val (.pointer (some ⟨w.heap.size, 2, none⟩)), .val (.slice (some ⟨gb, gq, none⟩) 2 c), .val (.pointer (some ⟨gb, gq + 3, none⟩)), .tree tb, .row [(.bin .div ta tb), tb], .tree (.bin .mul (.bin .div ta tb) tb), .row [ta, (.bin .mul (.bin .div ta tb) tb)], .tree (.bin .sub ta (.bin .mul (.bin .div ta tb) tb))] : List Sh).getD i .any) v) (fun i v W W' hK h => Sh.kept hK _ _ h) ?_ ?_
    · refine ⟨?_, ?_, ?_, ?_, ?_, ?_, ?_, ?_, ?_, ?_, ?_, ?_, ?_, trivial⟩
      · refine ⟨fun x v => rfl, fun y2 S W hK hall hdep K hcont => ?_⟩
        have HCONT := hide hcont
        have HKW := hide hK
        clear hcont hK hall hdep
        rw [if_pos (by rfl)]
        go_simp
        exact unhide HCONT _ _ _ rfl (Kept.refl No _) rfl (fun h => absurd h (by decide))
      · refine ⟨fun x v => rfl, fun y2 S W hK hall hdep K hcont => ?_⟩
        have HCONT := hide hcont
        have HKW := hide hK
        have d0 := hall 0 (by decide) (hdep ⟨0, Ground.data⟩ (by simp) rfl)
        clear hcont hK hall hdep
        have e0 : y2 0 = .pointer (some ⟨w.heap.size, 2, none⟩) := d0
        obtain ⟨xs0, xs1, xs2⟩ := ((unhide HC).go (unhide HKW)).xs
        rw [if_pos (by rfl)]
        simp only [e0]
        go_simp
        exact unhide HCONT _ _ _ (by (try simp only [e0]); rfl) (Kept.refl No _) rfl (fun h => absurd h (by decide))
      · refine ⟨fun x v => rfl, fun y2 S W hK hall hdep K hcont => ?_⟩
        have HCONT := hide hcont
        have HKW := hide hK
        have d1 := hall 1 (by decide) (hdep ⟨1, Ground.data⟩ (by simp) rfl)
        clear hcont hK hall hdep
        have e1 : y2 1 = .slice (some ⟨gb, gq, none⟩) 2 c := d1
        rw [if_pos (by rfl)]
        simp only [e1]
        go_simp
        exact unhide HCONT _ _ _ (by (try simp only [e1]); rfl) (Kept.refl No _) rfl (fun h => absurd h (by decide))
      · refine ⟨fun x v => rfl, fun y2 S W hK hall hdep K hcont => ?_⟩
        have HCONT := hide hcont
        have HKW := hide hK
        have d2 := hall 2 (by decide) (hdep ⟨2, Ground.data⟩ (by simp) rfl)
        clear hcont hK hall hdep
        have e2 : y2 2 = .pointer (some ⟨gb, gq, none⟩) := d2
        obtain ⟨k60, k61, k62, k63, k64, k65⟩ := ((unhide H6).kept (unhide HC).kept id).kept (unhide HKW) id
        rw [if_pos (by rfl)]
        simp only [e2]
        go_simp
        exact unhide HCONT _ _ _ (by (try simp only [e2]); rfl) (Kept.refl No _) ⟨_, _, _, _, _, rfl, (unhide Ha).kept (unhide HKW) (fun _ _ _ => id)⟩ (fun h => absurd h (by decide))
      · refine ⟨fun x v => rfl, fun y2 S W hK hall hdep K hcont => ?_⟩
        have HCONT := hide hcont
        have HKW := hide hK
        clear hcont hK hall hdep
        obtain ⟨q0, q1, q2⟩ : _ ∧ _ ∧ _ := ⟨((unhide HBp6).kept (unhide HKW) id).cell 0, ((unhide HBp6).kept (unhide HKW) id).cell 1, ((unhide HBp6).kept (unhide HKW) id).cell 2⟩
        rw [if_pos (by rfl)]
        go_simp
        exact unhide HCONT _ _ _ rfl (Kept.refl No _) ⟨_, _, _, _, _, rfl, (unhide H1).kept (unhide HKW) (fun _ _ _ => id)⟩ (fun h => absurd h (by decide))
      · refine ⟨fun x v => rfl, fun y2 S W hK hall hdep K hcont => ?_⟩
        have HCONT := hide hcont
        have HKW := hide hK
        clear hcont hK hall hdep
        rw [if_pos (by rfl)]
        go_simp
        exact unhide HCONT _ _ _ rfl (Kept.refl No _) rfl (fun h => absurd h (by decide))
      · refine ⟨fun x v => rfl, fun y2 S W hK hall hdep K hcont => ?_⟩
        have HCONT := hide hcont
        have HKW := hide hK
        have d5 := hall 5 (by decide) (hdep ⟨5, Ground.data⟩ (by simp) rfl)
        clear hcont hK hall hdep
        have e5 : y2 5 = .pointer (some ⟨w.heap.size, 2, none⟩) := d5
        obtain ⟨xs0, xs1, xs2⟩ := ((unhide HC).go (unhide HKW)).xs
        rw [if_pos (by rfl)]
        simp only [e5]
        go_simp
        exact unhide HCONT _ _ _ (by (try simp only [e5]); rfl) (Kept.refl No _) rfl (fun h => absurd h (by decide))
      · refine ⟨fun x v => rfl, fun y2 S W hK hall hdep K hcont => ?_⟩
        have HCONT := hide hcont
        have HKW := hide hK
        have d6 := hall 6 (by decide) (hdep ⟨6, Ground.data⟩ (by simp) rfl)
        clear hcont hK hall hdep
        have e6 : y2 6 = .slice (some ⟨gb, gq, none⟩) 2 c := d6
        rw [if_pos (by rfl)]
        simp only [e6]
        go_simp
        exact unhide HCONT _ _ _ (by (try simp only [e6]); rfl) (Kept.refl No _) rfl (fun h => absurd h (by decide))
      · refine ⟨fun x v => rfl, fun y2 S W hK hall hdep K hcont => ?_⟩
        have HCONT := hide hcont
        have HKW := hide hK
        have d7 := hall 7 (by decide) (hdep ⟨7, Ground.data⟩ (by simp) rfl)
        clear hcont hK hall hdep
        have e7 : y2 7 = .pointer (some ⟨gb, gq + 3, none⟩) := d7
        obtain ⟨k60, k61, k62, k63, k64, k65⟩ := ((unhide H6).kept (unhide HC).kept id).kept (unhide HKW) id
        rw [if_pos (by rfl)]
        simp only [e7]
        go_simp
        exact unhide HCONT _ _ _ (by (try simp only [e7]); rfl) (Kept.refl No _) ⟨_, _, _, _, _, rfl, (unhide Hb).kept (unhide HKW) (fun _ _ _ => id)⟩ (fun h => absurd h (by decide))
      · refine ⟨fun x v => rfl, fun y2 S W hK hall hdep K hcont => ?_⟩
        have HCONT := hide hcont
        have HKW := hide hK
        have d4 := hall 4 (by decide) (hdep ⟨4, Ground.data⟩ (by simp) rfl)
        have d8 := hall 8 (by decide) (hdep ⟨8, Ground.data⟩ (by simp) rfl)
        clear hcont hK hall hdep
        obtain ⟨k4, n4, A4, l4, c4, e4, r4⟩ := d4
        obtain ⟨k8, n8, A8, l8, c8, e8, r8⟩ := d8
        rw [if_pos (by rfl)]
        simp only [e4, e8]
        go_simp
        exact unhide HCONT _ _ _ (by (try simp only [e4, e8]); rfl) ((Kept.refl No _).alloc _) (row2_new r4 r8 ((unhide HC).go (unhide HKW)).hF) (fun h => absurd h (by decide))
      · refine ⟨fun x v => rfl, fun y2 S W hK hall hdep K hcont => ?_⟩
        have HCONT := hide hcont
        have HKW := hide hK
        have d9 := hall 9 (by decide) (hdep ⟨9, Ground.data⟩ (by simp) rfl)
        clear hcont hK hall hdep
        obtain ⟨b9, e9, f9, r9⟩ := d9
        rw [if_pos (by rfl)]
        simp only [e9]
        go_simp
        refine (op2_row .mul (by rfl) _ b9 (.bin .div ta tb) tb r9 f9).mono ?_
        rintro e w1 ⟨k_, n_, A_, l_, c_, rfl, hR1, hK1⟩
        exact unhide HCONT _ _ _ (by (try simp only [e9]); rfl) hK1 ⟨_, _, _, _, _, rfl, hR1⟩ (fun h => absurd h (by decide))
      · refine ⟨fun x v => rfl, fun y2 S W hK hall hdep K hcont => ?_⟩
        have HCONT := hide hcont
        have HKW := hide hK
        have d3 := hall 3 (by decide) (hdep ⟨3, Ground.data⟩ (by simp) rfl)
        have d10 := hall 10 (by decide) (hdep ⟨10, Ground.data⟩ (by simp) rfl)
        clear hcont hK hall hdep
        obtain ⟨k3, n3, A3, l3, c3, e3, r3⟩ := d3
        obtain ⟨k10, n10, A10, l10, c10, e10, r10⟩ := d10
        rw [if_pos (by rfl)]
        simp only [e3, e10]
        go_simp
        exact unhide HCONT _ _ _ (by (try simp only [e3, e10]); rfl) ((Kept.refl No _).alloc _) (row2_new r3 r10 ((unhide HC).go (unhide HKW)).hF) (fun h => absurd h (by decide))
      · refine ⟨fun x v => rfl, fun y2 S W hK hall hdep K hcont => ?_⟩
        have HCONT := hide hcont
        have HKW := hide hK
        have d11 := hall 11 (by decide) (hdep ⟨11, Ground.data⟩ (by simp) rfl)
        clear hcont hK hall hdep
        obtain ⟨b11, e11, f11, r11⟩ := d11
        rw [if_pos (by rfl)]
        simp only [e11]
        go_simp
        refine (op2_row .sub (by rfl) _ b11 ta (.bin .mul (.bin .div ta tb) tb) r11 f11).mono ?_
        rintro e w1 ⟨k_, n_, A_, l_, c_, rfl, hR1, hK1⟩
        exact unhide HCONT _ _ _ (by (try simp only [e11]); rfl) hK1 ⟨_, _, _, _, _, rfl, hR1⟩ (fun h => absurd h (by decide))
    · intro y2 W3 hK hx hD
      obtain ⟨k4, n4, A4, l4, c4, e4, r4⟩ := hx 12 (by decide)
      have hvz := (unhide HC).z.lt
      have Ha := hide ((unhide Ha).kept hK (fun _ _ _ => id))
      have Hb := hide ((unhide Hb).kept hK (fun _ _ _ => id))
      have H1 := hide ((unhide H1).kept hK (fun _ _ _ => id))
      have HBp6 := hide ((unhide HBp6).kept hK id)
      have HC := hide ((unhide HC).go hK)
      have H4 := hide r4
      clear r4
      simp only [e4, List.drop]
      clear hK hx hD hvz e4
      obtain ⟨f0, f1, f2, z0, z1, z2, hlt⟩ := (unhide HC).zs
      go_wp2_with fail
      refine bodyPost_ret (v := .tuple #[.agg #[.int .i64 k4, .int .i64 n4, .slice A4 l4 c4], .bool true]) (by simp [results, Tryd.results22, go_sem, z0, z1, z2]) rfl ?_
      exact (unhide HC).made (unhide H4)
set_option maxRecDepth 100000 in
set_option maxHeartbeats 4000000 in
theorem rest_no (w : World) (k n : Int) (A : Option Addr) (l c : Nat) (tr : Bool) (h8 : k ≠ 8) :
    Calls Tryd.prog 22 #[.agg #[.int .i64 k, .int .i64 n, .slice A l c], .bool tr] w (MadeNo w) := by
  have d8 : (k == 8) = false := by rw [beq_eq_false_iff_ne]; exact h8
  have e8 : (k != 8) = true := by rw [bne_iff_ne]; exact h8
  clear h8
  go_enter Tryd.func22, Tryd.ntmps22
  go_wp2_with fail
  refine bodyPost_ret (v := .tuple #[.agg #[.int .i64 k, .int .i64 n, .slice A l c], .bool false]) (by simp [results, Tryd.results22, go_sem]) rfl ?_
  exact ⟨k, n, A, l, c, rfl, ((Kept.refl No w).alloc _).alloc _⟩

theorem rest_by (w0 : World) : ByOk 22 #[] w0 byRest := by
  intro w F k n A l c t tr _ hK hr
  have hk : k = t.code := by have := hr.k_eq.1; rwa [E.r_k] at this
  have no : k ≠ 8 → byRest t tr = none → Calls Tryd.prog 22 (#[.agg #[.int .i64 k, .int .i64 n, .slice A l c], .bool tr] ++ #[]) w (ByPost w F (byRest t tr)) := fun h2 hn =>
    (rest_no w k n A l c tr h2).mono fun _ _ h => no_by h hn
  cases t with
  | num m => exact no (by rw [hk]; simp [E.code]) rfl
  | year => exact no (by rw [hk]; simp [E.code]) rfl
  | neg a => exact no (by rw [hk]; simp [E.code]) rfl
  | not a => exact no (by rw [hk]; simp [E.code]) rfl
  | bin o a b =>
    cases o
    case mod => exact (rest_mod w F k n A l c a b tr hr).mono fun _ _ h => made_by h rfl
    all_goals exact no (by rw [hk]; simp [E.code, O2.code]) rfl

set_option maxRecDepth 100000 in
set_option maxHeartbeats 4000000 in
theorem rest_top (r : R) (k n : Int) (A : Option Addr) (l c : Nat) (y which : Int) (GB : Nat) (w : World) (F : Nat → Prop) (hr : Rd w F k n A l r) (hG : Glob GB w) (hGB : GB ≤ w.heap.size) :
    Calls Tryd.prog 4 #[.agg #[.int .i64 k, .int .i64 n, .slice A l c], .int .i64 y, .int .i64 which] w (YearPost w) := by
  have hentN : ∀ (args : Array Value) (w : World), (callFunc 22 args).run Tryd.prog w = .ok (.enter 22 args) w := by intro args w; go_simp
  have hent43 : ∀ (args : Array Value) (w : World), (callFunc 43 args).run Tryd.prog w = .ok (.enter 43 args) w := by intro args w; go_simp
  have hmf : ∀ (fn : Fn) (first cap : Array Value) (w : World), (Instr.makeFunc fn first cap).run Tryd.prog w = .ok (.func fn first cap) w := fun _ _ _ _ => rfl
  have HR := hide hr
  have HG := hide hG
  have HE1 := hide hentN
  have HE2 := hide hent43
  clear hr hG hentN hent43
  go_enter Tryd.func4, Tryd.ntmps4
  go_wp2_with fail
  have HK := hide ((Kept.refl No w).alloc (.cells #[.int .i64 k, .int .i64 n, .slice A l c] 24))
  have HX := hide (Blk.new w 24 #[.int .i64 k, .int .i64 n, .slice A l c])
  generalize (w.alloc (.cells #[.int .i64 k, .int .i64 n, .slice A l c] 24)) = V at HK HX  ⊢
  have KS := hide (show ∀ w', Kept No V w' → (w'.cell? ⟨w.heap.size, 0, none⟩ = some (.int .i64 k) ∧ w'.cell? ⟨w.heap.size, 1, none⟩ = some (.int .i64 n) ∧ w'.cell? ⟨w.heap.size, 2, none⟩ = some (.slice A l c)) from fun w' hk => ⟨((unhide HX).kept hk id).cell 0, ((unhide HX).kept hk id).cell 1, ((unhide HX).kept hk id).cell 2⟩)
  have HV := hide (Kept.refl No V).drew
  go_region_held3 (fun w' => w'.cell? ⟨w.heap.size, 0, none⟩ = some (.int .i64 k) ∧ w'.cell? ⟨w.heap.size, 1, none⟩ = some (.int .i64 n) ∧ w'.cell? ⟨w.heap.size, 2, none⟩ = some (.slice A l c))
    (first | exact unhide KS _ (unhide HV))
    (first
      | (go_at_call 16; refine (put_any which 22 _ _).mono ?_; rintro e w1 ⟨fb, xb, rfl, hfb, hxb, hK1⟩; have HFB := hide hfb; have HXB := hide hxb; have HK := hide ((unhide HK).trans ((unhide HV).trans hK1 (fun _ _ h => h)) (fun _ _ h => h)); have HV := hide ((unhide HV).trans hK1 (fun _ _ h => h)); clear hfb hxb hK1)
      | (go_at_call 15; refine (year_any r k n A l c y 43 GB _ _ F ((unhide HR).kept (unhide HK) (fun _ _ _ => id)) ((unhide HG).kept0 (unhide HK) hGB) (Nat.le_trans hGB (unhide HK).size) (fun t v _ hev => put_law 22 _ _ _ _ which byRest t y v (unhide HFB) (unhide HXB) (unhide HE1) (rest_by _) law_rest hev) (unhide HE2)).mono ?_; rintro e w2 ⟨rfl, hK2⟩; have HK := hide ((unhide HK).trans hK2 (fun _ _ h => h)); have HV := hide ((unhide HV).trans hK2 (fun _ _ h => h)); clear hK2))
  go_wp2_with fail
  go_ret
  exact ⟨rfl, unhide HK⟩

end Go.Proofs.YtmjmcjcckncplaaDoor
