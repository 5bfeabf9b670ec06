/- TopComparesWritten: its closure (function 24), its root (function 5). -/
import Derived.Test.YtmjmcjcckncplaaDoorCtx
import Derived.Test.YtmjmcjcckncplaaDoorAll
import Derived.Deep.RegionHeld3
namespace Go.Proofs.YtmjmcjcckncplaaDoor
open Go.RowKit Go.BigFrame

/-- Two variables laid and filled. -/
theorem vars2 {w V : World} {k n : Int} {A : Option Addr} {l c : Nat} (hC : Ctx w V k n A l c) (k1 n1 : Int) (A1 : Option Addr) (l1 c1 : Nat) (k2 n2 : Int) (A2 : Option Addr) (l2 c2 : Nat) :
    Ctx w (((V.alloc (.cells #[.int .i64 k1, .int .i64 n1, .slice A1 l1 c1] 24)).alloc (.cells #[.int .i64 k2, .int .i64 n2, .slice A2 l2 c2] 24)).drew) k n A l c ∧
    Blk (((V.alloc (.cells #[.int .i64 k1, .int .i64 n1, .slice A1 l1 c1] 24)).alloc (.cells #[.int .i64 k2, .int .i64 n2, .slice A2 l2 c2] 24)).drew) V.heap.size 24 #[.int .i64 k1, .int .i64 n1, .slice A1 l1 c1] ∧
    Blk (((V.alloc (.cells #[.int .i64 k1, .int .i64 n1, .slice A1 l1 c1] 24)).alloc (.cells #[.int .i64 k2, .int .i64 n2, .slice A2 l2 c2] 24)).drew) (V.heap.size + 1) 24 #[.int .i64 k2, .int .i64 n2, .slice A2 l2 c2] ∧
    Kept No V (((V.alloc (.cells #[.int .i64 k1, .int .i64 n1, .slice A1 l1 c1] 24)).alloc (.cells #[.int .i64 k2, .int .i64 n2, .slice A2 l2 c2] 24)).drew) := by
  have hK : Kept No V (((V.alloc (.cells #[.int .i64 k1, .int .i64 n1, .slice A1 l1 c1] 24)).alloc (.cells #[.int .i64 k2, .int .i64 n2, .slice A2 l2 c2] 24)).drew) := (((Kept.refl No V).alloc _).alloc _).drew
  exact ⟨hC.go hK, ((Blk.new V 24 _).alloc _).drew, (Blk.at_ (by simp)).drew, hK⟩

set_option maxRecDepth 100000 in
set_option maxHeartbeats 4000000 in
theorem cmp_less_d (d : Bool) (hb : Nat) (w0 w : World) (F : Nat → Prop) (k n : Int) (A : Option Addr) (l c : Nat) (ta tb : E) (tr : Bool) (hK0 : Kept No w0 w) (hr : Rd w F k n A l (E.bin .less ta tb).r) (hH : Blk w0 hb 4 #[.bool d]) (hd : d = true) :
    Calls Tryd.prog 24 #[.agg #[.int .i64 k, .int .i64 n, .slice A l c], .bool tr, .pointer (some ⟨hb, 0, none⟩)] w (Made w F (.bin .less (.num 0) (.bin .sub tb ta))) := by
  subst hd
  have hB := hH.kept hK0 id
  have h0 : w.cell? ⟨hb, 0, none⟩ = some (.bool true) := hB.cell 0
  have hbw := hB.lt
  obtain ⟨rfl, rfl, rfl, gb, gq, ka, na, Aa, la, ca, kb, nb, Ab, lb, cb, rfl, h6, hra, hrb⟩ := open_bin (o := .less) (kc := 9) (by rfl) hr
  have H6 := hide h6
  have HA0 := hide hra
  have HB0 := hide hrb
  have HB := hide hB
  clear hr hK0 h6 hra hrb hH hB
  go_enter Tryd.func24, Tryd.ntmps24
  go_wp2_with fail
  have HC := hide (Ctx.start w (9) (0) (some ⟨gb, gq, none⟩) (2) c)
  generalize (w.alloc (.cells #[.int .i64 (9), .int .i64 (0), .slice (some ⟨gb, gq, none⟩) (2) c] 24)).alloc (.cells #[.int .i64 0, .int .i64 0, .slice none 0 0] 24) = V at HC ⊢
  have Ha := hide (rd_in (unhide HA0) (unhide HC).kept)
  have Hb := hide (rd_in (unhide HB0) (unhide HC).kept)
  have hgV := (unhide HC).z.lt
  have KS := hide (show ∀ w', Kept No V w' → (w'.cell? ⟨w.heap.size, 0, none⟩ = some (.int .i64 9) ∧ w'.cell? ⟨w.heap.size, 2, none⟩ = some (.slice (some ⟨gb, gq, none⟩) 2 c) ∧ w'.cell? ⟨gb, gq, none⟩ = some (.int .i64 ka) ∧ w'.cell? ⟨gb, gq + 1, none⟩ = some (.int .i64 na) ∧ w'.cell? ⟨gb, gq + 2, none⟩ = some (.slice Aa la ca) ∧ w'.cell? ⟨gb, gq + 3, none⟩ = some (.int .i64 kb) ∧ w'.cell? ⟨gb, gq + 4, none⟩ = some (.int .i64 nb) ∧ w'.cell? ⟨gb, gq + 5, none⟩ = some (.slice Ab lb cb)) from fun w' hk =>
    have hx := (unhide HC).x.kept hk id
    have hk6 := ((unhide H6).kept (unhide HC).kept id).kept hk id
    ⟨hx.cell 0, hx.cell 2, hk6⟩)
  have HV := hide (Kept.refl No V).drew
  go_region_held3 (fun w' => w'.cell? ⟨w.heap.size, 0, none⟩ = some (.int .i64 9) ∧ w'.cell? ⟨w.heap.size, 2, none⟩ = some (.slice (some ⟨gb, gq, none⟩) 2 c) ∧ w'.cell? ⟨gb, gq, none⟩ = some (.int .i64 ka) ∧ w'.cell? ⟨gb, gq + 1, none⟩ = some (.int .i64 na) ∧ w'.cell? ⟨gb, gq + 2, none⟩ = some (.slice Aa la ca) ∧ w'.cell? ⟨gb, gq + 3, none⟩ = some (.int .i64 kb) ∧ w'.cell? ⟨gb, gq + 4, none⟩ = some (.int .i64 nb) ∧ w'.cell? ⟨gb, gq + 5, none⟩ = some (.slice Ab lb cb))
    (first
      | exact unhide KS _ (unhide HV)
      | exact unhide KS _ ((unhide HV).alloc _)
      | exact unhide KS _ (((unhide HV).alloc _).alloc _))
    (first | fail)
  · obtain ⟨hC2, hP, hQ, hKV⟩ := vars2 (unhide HC) ka na Aa la ca kb nb Ab lb cb
    have Ha := hide ((unhide Ha).kept hKV (fun _ _ _ => id))
    have Hb := hide ((unhide Hb).kept hKV (fun _ _ _ => id))
    have HC := hide hC2
    have HBp := hide hP
    have HBq := hide hQ
    have HKV := hide hKV
    clear hC2 hP hQ hKV
    generalize ((V.alloc (.cells #[.int .i64 ka, .int .i64 na, .slice Aa la ca] 24)).alloc (.cells #[.int .i64 kb, .int .i64 nb, .slice Ab lb cb] 24)).drew = W1 at Ha Hb HC HBp HBq HKV ⊢
    have hw2 : w.heap.size + 1 < V.heap.size := hgV
    have hpw := (unhide HBq).lt
    have p0 := (unhide HBp).cell 0
    have q0 := (unhide HBq).cell 0
    have p1 := (unhide HBp).cell 1
    have q1 := (unhide HBq).cell 1
    have p2 := (unhide HBp).cell 2
    have q2 := (unhide HBq).cell 2
    clear p0 p1 p2 q0 q1 q2
    have p0 : W1.cell? ⟨V.heap.size, 0, none⟩ = some (.int .i64 ka) := (unhide HBp).cell 0
    have p1 : W1.cell? ⟨V.heap.size, 1, none⟩ = some (.int .i64 na) := (unhide HBp).cell 1
    have p2 : W1.cell? ⟨V.heap.size, 2, none⟩ = some (.slice Aa la ca) := (unhide HBp).cell 2
    have q0 : W1.cell? ⟨V.heap.size + 1, 0, none⟩ = some (.int .i64 kb) := (unhide HBq).cell 0
    have q1 : W1.cell? ⟨V.heap.size + 1, 1, none⟩ = some (.int .i64 nb) := (unhide HBq).cell 1
    have q2 : W1.cell? ⟨V.heap.size + 1, 2, none⟩ = some (.slice Ab lb cb) := (unhide HBq).cell 2
    obtain ⟨xs0, xs1, xs2⟩ := (unhide HC).xs
    have h0 : W1.cell? ⟨hb, 0, none⟩ = some (.bool true) := (((unhide HB).kept (unhide HC).kept id)).cell 0
    go_wp2_with fail
    refine wp_region_inv 7 [] (by kernel_rfl) (by kernel_rfl) (fun y1 => { tmps := #[Value.agg #[Value.int IntKind.i64 9, Value.int IntKind.i64 0, Value.slice (some { block := gb, off := gq }) 2 c], Value.bool tr, Value.pointer (some { block := hb, off := 0 }), Value.pointer (some { block := w.heap.size, off := 0 }), undef, Value.pointer (some { block := w.heap.size + 1, off := 0 }), Value.bool false, Value.pointer (some { block := V.heap.size, off := 0 }), Value.pointer (some { block := V.heap.size + 1, off := 0 }), Value.pointer (some { block := w.heap.size, off := 0 }), Value.int IntKind.i64 9, Value.bool false, Value.bool false, undef, undef, undef, Value.bool false, undef, Value.pointer (some { block := w.heap.size, off := 2 }), Value.slice (some { block := gb, off := gq }) 2 c, Value.pointer (some { block := gb, off := gq }), Value.agg #[Value.int IntKind.i64 ka, Value.int IntKind.i64 na, Value.slice Aa la ca], Value.pointer (some { block := w.heap.size, off := 2 }), Value.slice (some { block := gb, off := gq }) 2 c, Value.pointer (some { block := gb, off := gq + 3 }), Value.agg #[Value.int IntKind.i64 kb, Value.int IntKind.i64 nb, Value.slice Ab lb cb], Value.bool true, Value.bool true, Value.bool true, Value.pointer (some { block := w.heap.size, off := 0 }), Value.int IntKind.i64 9, Value.bool true, Value.bool true, y1 0, y1 1, y1 2, y1 3, y1 4, y1 5, y1 6, undef, undef, undef, undef, undef, undef, undef, undef, undef, undef, undef, undef, undef, undef, undef, undef, undef, undef, undef, undef, undef, undef, undef, undef, undef, undef, undef, undef, undef, undef, undef, undef, undef, undef, undef, undef, undef, undef, undef], defers := [] }) (fun _ => undef) (fun i v W => Sh.ok (FN F w) W (([.tree (.num 0), .tree tb, .tree ta, .row [tb, ta], .tree (.bin .sub tb ta), .row [(.num 0), (.bin .sub tb ta)], .tree (.bin .less (.num 0) (.bin .sub tb ta))] : List Sh).getD i .any) v) (fun i v W W' hK h => Sh.kept hK _ _ h) ?_ ?_
    · refine ⟨?_, ?_, ?_, ?_, ?_, ?_, ?_, trivial⟩
      · refine ⟨fun x v => rfl, fun y1 S W hK hall hdep K hcont => ?_⟩
        have HCONT := hide hcont
        have HKW := hide hK
        clear hcont hK hall hdep
        rw [if_pos (by rfl)]
        go_simp
        refine (num_any _ _).mono ?_
        rintro e w1 ⟨rfl, hK1⟩
        exact unhide HCONT _ _ _ rfl hK1 ⟨_, _, _, _, _, rfl, num_rd _ _ _⟩ (fun h => absurd h (by decide))
      · refine ⟨fun x v => rfl, fun y1 S W hK hall hdep K hcont => ?_⟩
        have HCONT := hide hcont
        have HKW := hide hK
        clear hcont hK hall hdep
        obtain ⟨qq0, qq1, qq2⟩ : _ ∧ _ ∧ _ := ⟨((unhide HBq).kept (unhide HKW) id).cell 0, ((unhide HBq).kept (unhide HKW) id).cell 1, ((unhide HBq).kept (unhide HKW) id).cell 2⟩
        rw [if_pos (by rfl)]
        go_simp
        exact unhide HCONT _ _ _ rfl (Kept.refl No _) ⟨_, _, _, _, _, rfl, (unhide Hb).kept (unhide HKW) (fun _ _ _ => id)⟩ (fun h => absurd h (by decide))
      · refine ⟨fun x v => rfl, fun y1 S W hK hall hdep K hcont => ?_⟩
        have HCONT := hide hcont
        have HKW := hide hK
        clear hcont hK hall hdep
        obtain ⟨pq0, pq1, pq2⟩ : _ ∧ _ ∧ _ := ⟨((unhide HBp).kept (unhide HKW) id).cell 0, ((unhide HBp).kept (unhide HKW) id).cell 1, ((unhide HBp).kept (unhide HKW) id).cell 2⟩
        rw [if_pos (by rfl)]
        go_simp
        exact unhide HCONT _ _ _ rfl (Kept.refl No _) ⟨_, _, _, _, _, rfl, (unhide Ha).kept (unhide HKW) (fun _ _ _ => id)⟩ (fun h => absurd h (by decide))
      · refine ⟨fun x v => rfl, fun y1 S W hK hall hdep K hcont => ?_⟩
        have HCONT := hide hcont
        have HKW := hide hK
        have d1 := hall 1 (by decide) (hdep ⟨1, Ground.data⟩ (by simp) rfl)
        have d2 := hall 2 (by decide) (hdep ⟨2, Ground.data⟩ (by simp) rfl)
        clear hcont hK hall hdep
        obtain ⟨k1, n1, A1, l1, c1, e1, r1⟩ := d1
        obtain ⟨k2, n2, A2, l2, c2, e2, r2⟩ := d2
        rw [if_pos (by rfl)]
        simp only [e1, e2]
        go_simp
        exact unhide HCONT _ _ _ (by (try simp only [e1, e2]); rfl) ((Kept.refl No _).alloc _) (row2_new r1 r2 ((unhide HC).go (unhide HKW)).hF) (fun h => absurd h (by decide))
      · refine ⟨fun x v => rfl, fun y1 S W hK hall hdep K hcont => ?_⟩
        have HCONT := hide hcont
        have HKW := hide hK
        have d3 := hall 3 (by decide) (hdep ⟨3, Ground.data⟩ (by simp) rfl)
        clear hcont hK hall hdep
        obtain ⟨b3, e3, f3, r3⟩ := d3
        rw [if_pos (by rfl)]
        simp only [e3]
        go_simp
        refine (op2_row .sub (by rfl) _ b3 tb ta r3 f3).mono ?_
        rintro e w1 ⟨k_, n_, A_, l_, c_, rfl, hR1, hK1⟩
        exact unhide HCONT _ _ _ (by (try simp only [e3]); rfl) hK1 ⟨_, _, _, _, _, rfl, hR1⟩ (fun h => absurd h (by decide))
      · refine ⟨fun x v => rfl, fun y1 S W hK hall hdep K hcont => ?_⟩
        have HCONT := hide hcont
        have HKW := hide hK
        have d0 := hall 0 (by decide) (hdep ⟨0, Ground.data⟩ (by simp) rfl)
        have d4 := hall 4 (by decide) (hdep ⟨4, Ground.data⟩ (by simp) rfl)
        clear hcont hK hall hdep
        obtain ⟨k0, n0, A0, l0, c0, e0, r0⟩ := d0
        obtain ⟨k4, n4, A4, l4, c4, e4, r4⟩ := d4
        rw [if_pos (by rfl)]
        simp only [e0, e4]
        go_simp
        exact unhide HCONT _ _ _ (by (try simp only [e0, e4]); rfl) ((Kept.refl No _).alloc _) (row2_new r0 r4 ((unhide HC).go (unhide HKW)).hF) (fun h => absurd h (by decide))
      · refine ⟨fun x v => rfl, fun y1 S W hK hall hdep K hcont => ?_⟩
        have HCONT := hide hcont
        have HKW := hide hK
        have d5 := hall 5 (by decide) (hdep ⟨5, Ground.data⟩ (by simp) rfl)
        clear hcont hK hall hdep
        obtain ⟨b5, e5, f5, r5⟩ := d5
        rw [if_pos (by rfl)]
        simp only [e5]
        go_simp
        refine (op2_row .less (by rfl) _ b5 (.num 0) (.bin .sub tb ta) r5 f5).mono ?_
        rintro e w1 ⟨k_, n_, A_, l_, c_, rfl, hR1, hK1⟩
        exact unhide HCONT _ _ _ (by (try simp only [e5]); rfl) hK1 ⟨_, _, _, _, _, rfl, hR1⟩ (fun h => absurd h (by decide))
    · intro y1 W2 hK hx hD
      obtain ⟨k4, n4, A4, l4, c4, e4, r4⟩ := hx 6 (by decide)
      have hvz := (unhide HC).z.lt
      have Ha := hide ((unhide Ha).kept hK (fun _ _ _ => id))
      have Hb := hide ((unhide Hb).kept hK (fun _ _ _ => id))
      have HC := hide ((unhide HC).go hK)
      have H4 := hide r4
      clear r4
      simp only [e4, List.drop]
      clear hK hx hD hvz e4
      obtain ⟨f0, f1, f2, z0, z1, z2, hlt⟩ := (unhide HC).zs
      go_wp2_with fail
      refine bodyPost_ret (v := .tuple #[.agg #[.int .i64 k4, .int .i64 n4, .slice A4 l4 c4], .bool true]) (by simp [results, Tryd.results24, go_sem, z0, z1, z2]) rfl ?_
      exact (unhide HC).made (unhide H4)
  · obtain ⟨hC2, hP, hQ, hKV⟩ := vars2 (unhide HC) kb nb Ab lb cb ka na Aa la ca
    have Ha := hide ((unhide Ha).kept hKV (fun _ _ _ => id))
    have Hb := hide ((unhide Hb).kept hKV (fun _ _ _ => id))
    have HC := hide hC2
    have HBp := hide hP
    have HBq := hide hQ
    have HKV := hide hKV
    clear hC2 hP hQ hKV
    generalize ((V.alloc (.cells #[.int .i64 kb, .int .i64 nb, .slice Ab lb cb] 24)).alloc (.cells #[.int .i64 ka, .int .i64 na, .slice Aa la ca] 24)).drew = W3 at Ha Hb HC HBp HBq HKV ⊢
    have hw2 : w.heap.size + 1 < V.heap.size := hgV
    have hpw := (unhide HBq).lt
    have p0 := (unhide HBp).cell 0
    have q0 := (unhide HBq).cell 0
    have p1 := (unhide HBp).cell 1
    have q1 := (unhide HBq).cell 1
    have p2 := (unhide HBp).cell 2
    have q2 := (unhide HBq).cell 2
    clear p0 p1 p2 q0 q1 q2
    have p0 : W3.cell? ⟨V.heap.size, 0, none⟩ = some (.int .i64 kb) := (unhide HBp).cell 0
    have p1 : W3.cell? ⟨V.heap.size, 1, none⟩ = some (.int .i64 nb) := (unhide HBp).cell 1
    have p2 : W3.cell? ⟨V.heap.size, 2, none⟩ = some (.slice Ab lb cb) := (unhide HBp).cell 2
    have q0 : W3.cell? ⟨V.heap.size + 1, 0, none⟩ = some (.int .i64 ka) := (unhide HBq).cell 0
    have q1 : W3.cell? ⟨V.heap.size + 1, 1, none⟩ = some (.int .i64 na) := (unhide HBq).cell 1
    have q2 : W3.cell? ⟨V.heap.size + 1, 2, none⟩ = some (.slice Aa la ca) := (unhide HBq).cell 2
    obtain ⟨xs0, xs1, xs2⟩ := (unhide HC).xs
    have h0 : W3.cell? ⟨hb, 0, none⟩ = some (.bool true) := (((unhide HB).kept (unhide HC).kept id)).cell 0
    go_wp2_with fail
    refine wp_region_inv 7 [] (by kernel_rfl) (by kernel_rfl) (fun y2 => { tmps := #[Value.agg #[Value.int IntKind.i64 9, Value.int IntKind.i64 0, Value.slice (some { block := gb, off := gq }) 2 c], Value.bool tr, Value.pointer (some { block := hb, off := 0 }), Value.pointer (some { block := w.heap.size, off := 0 }), undef, Value.pointer (some { block := w.heap.size + 1, off := 0 }), Value.bool false, Value.pointer (some { block := V.heap.size + 1, off := 0 }), Value.pointer (some { block := V.heap.size, off := 0 }), Value.pointer (some { block := w.heap.size, off := 0 }), Value.int IntKind.i64 9, Value.bool false, Value.bool false, undef, undef, undef, Value.bool false, undef, Value.pointer (some { block := w.heap.size, off := 2 }), Value.slice (some { block := gb, off := gq }) 2 c, Value.pointer (some { block := gb, off := gq }), Value.agg #[Value.int IntKind.i64 ka, Value.int IntKind.i64 na, Value.slice Aa la ca], Value.pointer (some { block := w.heap.size, off := 2 }), Value.slice (some { block := gb, off := gq }) 2 c, Value.pointer (some { block := gb, off := gq + 3 }), Value.agg #[Value.int IntKind.i64 kb, Value.int IntKind.i64 nb, Value.slice Ab lb cb], Value.bool true, Value.bool true, Value.bool true, Value.pointer (some { block := w.heap.size, off := 0 }), Value.int IntKind.i64 9, Value.bool true, Value.bool true, y2 0, y2 1, y2 2, y2 3, y2 4, y2 5, y2 6, undef, undef, undef, undef, undef, undef, undef, undef, undef, undef, undef, undef, undef, undef, undef, undef, undef, undef, undef, undef, undef, undef, undef, undef, undef, undef, undef, undef, undef, undef, undef, undef, undef, undef, undef, undef, undef, undef, undef], defers := [] }) (fun _ => undef) (fun i v W => Sh.ok (FN F w) W (([.tree (.num 0), .tree tb, .tree ta, .row [tb, ta], .tree (.bin .sub tb ta), .row [(.num 0), (.bin .sub tb ta)], .tree (.bin .less (.num 0) (.bin .sub tb ta))] : List Sh).getD i .any) v) (fun i v W W' hK h => Sh.kept hK _ _ h) ?_ ?_
    · refine ⟨?_, ?_, ?_, ?_, ?_, ?_, ?_, trivial⟩
      · refine ⟨fun x v => rfl, fun y2 S W hK hall hdep K hcont => ?_⟩
        have HCONT := hide hcont
        have HKW := hide hK
        clear hcont hK hall hdep
        rw [if_pos (by rfl)]
        go_simp
        refine (num_any _ _).mono ?_
        rintro e w1 ⟨rfl, hK1⟩
        exact unhide HCONT _ _ _ rfl hK1 ⟨_, _, _, _, _, rfl, num_rd _ _ _⟩ (fun h => absurd h (by decide))
      · refine ⟨fun x v => rfl, fun y2 S W hK hall hdep K hcont => ?_⟩
        have HCONT := hide hcont
        have HKW := hide hK
        clear hcont hK hall hdep
        obtain ⟨pq0, pq1, pq2⟩ : _ ∧ _ ∧ _ := ⟨((unhide HBp).kept (unhide HKW) id).cell 0, ((unhide HBp).kept (unhide HKW) id).cell 1, ((unhide HBp).kept (unhide HKW) id).cell 2⟩
        rw [if_pos (by rfl)]
        go_simp
        exact unhide HCONT _ _ _ rfl (Kept.refl No _) ⟨_, _, _, _, _, rfl, (unhide Hb).kept (unhide HKW) (fun _ _ _ => id)⟩ (fun h => absurd h (by decide))
      · refine ⟨fun x v => rfl, fun y2 S W hK hall hdep K hcont => ?_⟩
        have HCONT := hide hcont
        have HKW := hide hK
        clear hcont hK hall hdep
        obtain ⟨qq0, qq1, qq2⟩ : _ ∧ _ ∧ _ := ⟨((unhide HBq).kept (unhide HKW) id).cell 0, ((unhide HBq).kept (unhide HKW) id).cell 1, ((unhide HBq).kept (unhide HKW) id).cell 2⟩
        rw [if_pos (by rfl)]
        go_simp
        exact unhide HCONT _ _ _ rfl (Kept.refl No _) ⟨_, _, _, _, _, rfl, (unhide Ha).kept (unhide HKW) (fun _ _ _ => id)⟩ (fun h => absurd h (by decide))
      · refine ⟨fun x v => rfl, fun y2 S W hK hall hdep K hcont => ?_⟩
        have HCONT := hide hcont
        have HKW := hide hK
        have d1 := hall 1 (by decide) (hdep ⟨1, Ground.data⟩ (by simp) rfl)
        have d2 := hall 2 (by decide) (hdep ⟨2, Ground.data⟩ (by simp) rfl)
        clear hcont hK hall hdep
        obtain ⟨k1, n1, A1, l1, c1, e1, r1⟩ := d1
        obtain ⟨k2, n2, A2, l2, c2, e2, r2⟩ := d2
        rw [if_pos (by rfl)]
        simp only [e1, e2]
        go_simp
        exact unhide HCONT _ _ _ (by (try simp only [e1, e2]); rfl) ((Kept.refl No _).alloc _) (row2_new r1 r2 ((unhide HC).go (unhide HKW)).hF) (fun h => absurd h (by decide))
      · refine ⟨fun x v => rfl, fun y2 S W hK hall hdep K hcont => ?_⟩
        have HCONT := hide hcont
        have HKW := hide hK
        have d3 := hall 3 (by decide) (hdep ⟨3, Ground.data⟩ (by simp) rfl)
        clear hcont hK hall hdep
        obtain ⟨b3, e3, f3, r3⟩ := d3
        rw [if_pos (by rfl)]
        simp only [e3]
        go_simp
        refine (op2_row .sub (by rfl) _ b3 tb ta r3 f3).mono ?_
        rintro e w1 ⟨k_, n_, A_, l_, c_, rfl, hR1, hK1⟩
        exact unhide HCONT _ _ _ (by (try simp only [e3]); rfl) hK1 ⟨_, _, _, _, _, rfl, hR1⟩ (fun h => absurd h (by decide))
      · refine ⟨fun x v => rfl, fun y2 S W hK hall hdep K hcont => ?_⟩
        have HCONT := hide hcont
        have HKW := hide hK
        have d0 := hall 0 (by decide) (hdep ⟨0, Ground.data⟩ (by simp) rfl)
        have d4 := hall 4 (by decide) (hdep ⟨4, Ground.data⟩ (by simp) rfl)
        clear hcont hK hall hdep
        obtain ⟨k0, n0, A0, l0, c0, e0, r0⟩ := d0
        obtain ⟨k4, n4, A4, l4, c4, e4, r4⟩ := d4
        rw [if_pos (by rfl)]
        simp only [e0, e4]
        go_simp
        exact unhide HCONT _ _ _ (by (try simp only [e0, e4]); rfl) ((Kept.refl No _).alloc _) (row2_new r0 r4 ((unhide HC).go (unhide HKW)).hF) (fun h => absurd h (by decide))
      · refine ⟨fun x v => rfl, fun y2 S W hK hall hdep K hcont => ?_⟩
        have HCONT := hide hcont
        have HKW := hide hK
        have d5 := hall 5 (by decide) (hdep ⟨5, Ground.data⟩ (by simp) rfl)
        clear hcont hK hall hdep
        obtain ⟨b5, e5, f5, r5⟩ := d5
        rw [if_pos (by rfl)]
        simp only [e5]
        go_simp
        refine (op2_row .less (by rfl) _ b5 (.num 0) (.bin .sub tb ta) r5 f5).mono ?_
        rintro e w1 ⟨k_, n_, A_, l_, c_, rfl, hR1, hK1⟩
        exact unhide HCONT _ _ _ (by (try simp only [e5]); rfl) hK1 ⟨_, _, _, _, _, rfl, hR1⟩ (fun h => absurd h (by decide))
    · intro y2 W4 hK hx hD
      obtain ⟨k4, n4, A4, l4, c4, e4, r4⟩ := hx 6 (by decide)
      have hvz := (unhide HC).z.lt
      have Ha := hide ((unhide Ha).kept hK (fun _ _ _ => id))
      have Hb := hide ((unhide Hb).kept hK (fun _ _ _ => id))
      have HC := hide ((unhide HC).go hK)
      have H4 := hide r4
      clear r4
      simp only [e4, List.drop]
      clear hK hx hD hvz e4
      obtain ⟨f0, f1, f2, z0, z1, z2, hlt⟩ := (unhide HC).zs
      go_wp2_with fail
      refine bodyPost_ret (v := .tuple #[.agg #[.int .i64 k4, .int .i64 n4, .slice A4 l4 c4], .bool true]) (by simp [results, Tryd.results24, go_sem, z0, z1, z2]) rfl ?_
      exact (unhide HC).made (unhide H4)
set_option maxRecDepth 100000 in
set_option maxHeartbeats 4000000 in
theorem cmp_same_d (d : Bool) (hb : Nat) (w0 w : World) (F : Nat → Prop) (k n : Int) (A : Option Addr) (l c : Nat) (ta tb : E) (tr : Bool) (hK0 : Kept No w0 w) (hr : Rd w F k n A l (E.bin .same ta tb).r) (hH : Blk w0 hb 4 #[.bool d]) (hd : d = true) :
    Calls Tryd.prog 24 #[.agg #[.int .i64 k, .int .i64 n, .slice A l c], .bool tr, .pointer (some ⟨hb, 0, none⟩)] w (Made w F (.bin .same (.bin .sub ta tb) (.num 0))) := by
  subst hd
  have hB := hH.kept hK0 id
  have h0 : w.cell? ⟨hb, 0, none⟩ = some (.bool true) := hB.cell 0
  have hbw := hB.lt
  obtain ⟨rfl, rfl, rfl, gb, gq, ka, na, Aa, la, ca, kb, nb, Ab, lb, cb, rfl, h6, hra, hrb⟩ := open_bin (o := .same) (kc := 10) (by rfl) hr
  have H6 := hide h6
  have HA0 := hide hra
  have HB0 := hide hrb
  have HB := hide hB
  clear hr hK0 h6 hra hrb hH hB
  go_enter Tryd.func24, Tryd.ntmps24
  go_wp2_with fail
  have HC := hide (Ctx.start w (10) (0) (some ⟨gb, gq, none⟩) (2) c)
  generalize (w.alloc (.cells #[.int .i64 (10), .int .i64 (0), .slice (some ⟨gb, gq, none⟩) (2) c] 24)).alloc (.cells #[.int .i64 0, .int .i64 0, .slice none 0 0] 24) = V at HC ⊢
  have Ha := hide (rd_in (unhide HA0) (unhide HC).kept)
  have Hb := hide (rd_in (unhide HB0) (unhide HC).kept)
  have hgV := (unhide HC).z.lt
  have KS := hide (show ∀ w', Kept No V w' → (w'.cell? ⟨w.heap.size, 0, none⟩ = some (.int .i64 10) ∧ w'.cell? ⟨w.heap.size, 2, none⟩ = some (.slice (some ⟨gb, gq, none⟩) 2 c) ∧ w'.cell? ⟨gb, gq, none⟩ = some (.int .i64 ka) ∧ w'.cell? ⟨gb, gq + 1, none⟩ = some (.int .i64 na) ∧ w'.cell? ⟨gb, gq + 2, none⟩ = some (.slice Aa la ca) ∧ w'.cell? ⟨gb, gq + 3, none⟩ = some (.int .i64 kb) ∧ w'.cell? ⟨gb, gq + 4, none⟩ = some (.int .i64 nb) ∧ w'.cell? ⟨gb, gq + 5, none⟩ = some (.slice Ab lb cb)) from fun w' hk =>
    have hx := (unhide HC).x.kept hk id
    have hk6 := ((unhide H6).kept (unhide HC).kept id).kept hk id
    ⟨hx.cell 0, hx.cell 2, hk6⟩)
  have HV := hide (Kept.refl No V).drew
  go_region_held3 (fun w' => w'.cell? ⟨w.heap.size, 0, none⟩ = some (.int .i64 10) ∧ w'.cell? ⟨w.heap.size, 2, none⟩ = some (.slice (some ⟨gb, gq, none⟩) 2 c) ∧ w'.cell? ⟨gb, gq, none⟩ = some (.int .i64 ka) ∧ w'.cell? ⟨gb, gq + 1, none⟩ = some (.int .i64 na) ∧ w'.cell? ⟨gb, gq + 2, none⟩ = some (.slice Aa la ca) ∧ w'.cell? ⟨gb, gq + 3, none⟩ = some (.int .i64 kb) ∧ w'.cell? ⟨gb, gq + 4, none⟩ = some (.int .i64 nb) ∧ w'.cell? ⟨gb, gq + 5, none⟩ = some (.slice Ab lb cb))
    (first
      | exact unhide KS _ (unhide HV)
      | exact unhide KS _ ((unhide HV).alloc _)
      | exact unhide KS _ (((unhide HV).alloc _).alloc _))
    (first | fail)
  · obtain ⟨hC2, hP, hQ, hKV⟩ := vars2 (unhide HC) ka na Aa la ca kb nb Ab lb cb
    have Ha := hide ((unhide Ha).kept hKV (fun _ _ _ => id))
    have Hb := hide ((unhide Hb).kept hKV (fun _ _ _ => id))
    have HC := hide hC2
    have HBp := hide hP
    have HBq := hide hQ
    have HKV := hide hKV
    clear hC2 hP hQ hKV
    generalize ((V.alloc (.cells #[.int .i64 ka, .int .i64 na, .slice Aa la ca] 24)).alloc (.cells #[.int .i64 kb, .int .i64 nb, .slice Ab lb cb] 24)).drew = W1 at Ha Hb HC HBp HBq HKV ⊢
    have hw2 : w.heap.size + 1 < V.heap.size := hgV
    have hpw := (unhide HBq).lt
    have p0 := (unhide HBp).cell 0
    have q0 := (unhide HBq).cell 0
    have p1 := (unhide HBp).cell 1
    have q1 := (unhide HBq).cell 1
    have p2 := (unhide HBp).cell 2
    have q2 := (unhide HBq).cell 2
    clear p0 p1 p2 q0 q1 q2
    have p0 : W1.cell? ⟨V.heap.size, 0, none⟩ = some (.int .i64 ka) := (unhide HBp).cell 0
    have p1 : W1.cell? ⟨V.heap.size, 1, none⟩ = some (.int .i64 na) := (unhide HBp).cell 1
    have p2 : W1.cell? ⟨V.heap.size, 2, none⟩ = some (.slice Aa la ca) := (unhide HBp).cell 2
    have q0 : W1.cell? ⟨V.heap.size + 1, 0, none⟩ = some (.int .i64 kb) := (unhide HBq).cell 0
    have q1 : W1.cell? ⟨V.heap.size + 1, 1, none⟩ = some (.int .i64 nb) := (unhide HBq).cell 1
    have q2 : W1.cell? ⟨V.heap.size + 1, 2, none⟩ = some (.slice Ab lb cb) := (unhide HBq).cell 2
    obtain ⟨xs0, xs1, xs2⟩ := (unhide HC).xs
    have h0 : W1.cell? ⟨hb, 0, none⟩ = some (.bool true) := (((unhide HB).kept (unhide HC).kept id)).cell 0
    go_wp2_with fail
    refine (op2_at .sub (by rfl) _ ta tb ka na Aa la ca kb nb Ab lb cb (unhide Ha) (unhide Hb) ((unhide HC).hF _ (Nat.le_refl _))).mono ?_; rintro e w3 ⟨k3, n3, A3, l3, c3, rfl, hR3, hK3⟩; have HC := hide ((unhide HC).go hK3); have H3 := hide hR3; clear hR3 hK3
    go_wp2_with fail
    refine (num_any 0 _).mono ?_; rintro e wm ⟨rfl, hKm⟩; have HC := hide ((unhide HC).go hKm); have H3 := hide ((unhide H3).kept hKm (fun _ _ _ => id)); clear hKm
    go_wp2_with fail
    refine (op2_at .same (by rfl) _ (.bin .sub ta tb) (.num 0) k3 n3 A3 l3 c3 1 0 none 0 0 (unhide H3) (num_rd _ _ _) ((unhide HC).hF _ (Nat.le_refl _))).mono ?_; rintro e w4 ⟨k4, n4, A4, l4, c4, rfl, hR4, hK4⟩; have HC := hide ((unhide HC).go hK4); have H4 := hide hR4; clear hR4 hK4
    obtain ⟨f0, f1, f2, z0, z1, z2, hlt⟩ := (unhide HC).zs
    go_wp2_with fail
    refine bodyPost_ret (v := .tuple #[.agg #[.int .i64 k4, .int .i64 n4, .slice A4 l4 c4], .bool true]) (by simp [results, Tryd.results24, go_sem, z0, z1, z2]) rfl ?_
    exact (unhide HC).made (unhide H4)
  · obtain ⟨hC2, hP, hQ, hKV⟩ := vars2 (unhide HC) kb nb Ab lb cb ka na Aa la ca
    have Ha := hide ((unhide Ha).kept hKV (fun _ _ _ => id))
    have Hb := hide ((unhide Hb).kept hKV (fun _ _ _ => id))
    have HC := hide hC2
    have HBp := hide hP
    have HBq := hide hQ
    have HKV := hide hKV
    clear hC2 hP hQ hKV
    generalize ((V.alloc (.cells #[.int .i64 kb, .int .i64 nb, .slice Ab lb cb] 24)).alloc (.cells #[.int .i64 ka, .int .i64 na, .slice Aa la ca] 24)).drew = W2 at Ha Hb HC HBp HBq HKV ⊢
    have hw2 : w.heap.size + 1 < V.heap.size := hgV
    have hpw := (unhide HBq).lt
    have p0 := (unhide HBp).cell 0
    have q0 := (unhide HBq).cell 0
    have p1 := (unhide HBp).cell 1
    have q1 := (unhide HBq).cell 1
    have p2 := (unhide HBp).cell 2
    have q2 := (unhide HBq).cell 2
    clear p0 p1 p2 q0 q1 q2
    have p0 : W2.cell? ⟨V.heap.size, 0, none⟩ = some (.int .i64 kb) := (unhide HBp).cell 0
    have p1 : W2.cell? ⟨V.heap.size, 1, none⟩ = some (.int .i64 nb) := (unhide HBp).cell 1
    have p2 : W2.cell? ⟨V.heap.size, 2, none⟩ = some (.slice Ab lb cb) := (unhide HBp).cell 2
    have q0 : W2.cell? ⟨V.heap.size + 1, 0, none⟩ = some (.int .i64 ka) := (unhide HBq).cell 0
    have q1 : W2.cell? ⟨V.heap.size + 1, 1, none⟩ = some (.int .i64 na) := (unhide HBq).cell 1
    have q2 : W2.cell? ⟨V.heap.size + 1, 2, none⟩ = some (.slice Aa la ca) := (unhide HBq).cell 2
    obtain ⟨xs0, xs1, xs2⟩ := (unhide HC).xs
    have h0 : W2.cell? ⟨hb, 0, none⟩ = some (.bool true) := (((unhide HB).kept (unhide HC).kept id)).cell 0
    go_wp2_with fail
    refine (op2_at .sub (by rfl) _ ta tb ka na Aa la ca kb nb Ab lb cb (unhide Ha) (unhide Hb) ((unhide HC).hF _ (Nat.le_refl _))).mono ?_; rintro e w3 ⟨k3, n3, A3, l3, c3, rfl, hR3, hK3⟩; have HC := hide ((unhide HC).go hK3); have H3 := hide hR3; clear hR3 hK3
    go_wp2_with fail
    refine (num_any 0 _).mono ?_; rintro e wm ⟨rfl, hKm⟩; have HC := hide ((unhide HC).go hKm); have H3 := hide ((unhide H3).kept hKm (fun _ _ _ => id)); clear hKm
    go_wp2_with fail
    refine (op2_at .same (by rfl) _ (.bin .sub ta tb) (.num 0) k3 n3 A3 l3 c3 1 0 none 0 0 (unhide H3) (num_rd _ _ _) ((unhide HC).hF _ (Nat.le_refl _))).mono ?_; rintro e w4 ⟨k4, n4, A4, l4, c4, rfl, hR4, hK4⟩; have HC := hide ((unhide HC).go hK4); have H4 := hide hR4; clear hR4 hK4
    obtain ⟨f0, f1, f2, z0, z1, z2, hlt⟩ := (unhide HC).zs
    go_wp2_with fail
    refine bodyPost_ret (v := .tuple #[.agg #[.int .i64 k4, .int .i64 n4, .slice A4 l4 c4], .bool true]) (by simp [results, Tryd.results24, go_sem, z0, z1, z2]) rfl ?_
    exact (unhide HC).made (unhide H4)
set_option maxRecDepth 100000 in
set_option maxHeartbeats 4000000 in
theorem cmp_less_n (d : Bool) (hb : Nat) (w0 w : World) (F : Nat → Prop) (k n : Int) (A : Option Addr) (l c : Nat) (ta tb : E) (tr : Bool) (hK0 : Kept No w0 w) (hr : Rd w F k n A l (E.bin .less ta tb).r) (hH : Blk w0 hb 4 #[.bool d]) (hd : d = false) :
    Calls Tryd.prog 24 #[.agg #[.int .i64 k, .int .i64 n, .slice A l c], .bool tr, .pointer (some ⟨hb, 0, none⟩)] w (Made w F (.not (.bin .or (.bin .less tb ta) (.bin .same ta tb)))) := by
  subst hd
  have hB := hH.kept hK0 id
  have h0 : w.cell? ⟨hb, 0, none⟩ = some (.bool false) := hB.cell 0
  have hbw := hB.lt
  obtain ⟨rfl, rfl, rfl, gb, gq, ka, na, Aa, la, ca, kb, nb, Ab, lb, cb, rfl, h6, hra, hrb⟩ := open_bin (o := .less) (kc := 9) (by rfl) hr
  have H6 := hide h6
  have HA0 := hide hra
  have HB0 := hide hrb
  have HB := hide hB
  clear hr hK0 h6 hra hrb hH hB
  go_enter Tryd.func24, Tryd.ntmps24
  go_wp2_with fail
  have HC := hide (Ctx.start w (9) (0) (some ⟨gb, gq, none⟩) (2) c)
  generalize (w.alloc (.cells #[.int .i64 (9), .int .i64 (0), .slice (some ⟨gb, gq, none⟩) (2) c] 24)).alloc (.cells #[.int .i64 0, .int .i64 0, .slice none 0 0] 24) = V at HC ⊢
  have Ha := hide (rd_in (unhide HA0) (unhide HC).kept)
  have Hb := hide (rd_in (unhide HB0) (unhide HC).kept)
  have hgV := (unhide HC).z.lt
  have KS := hide (show ∀ w', Kept No V w' → (w'.cell? ⟨w.heap.size, 0, none⟩ = some (.int .i64 9) ∧ w'.cell? ⟨w.heap.size, 2, none⟩ = some (.slice (some ⟨gb, gq, none⟩) 2 c) ∧ w'.cell? ⟨gb, gq, none⟩ = some (.int .i64 ka) ∧ w'.cell? ⟨gb, gq + 1, none⟩ = some (.int .i64 na) ∧ w'.cell? ⟨gb, gq + 2, none⟩ = some (.slice Aa la ca) ∧ w'.cell? ⟨gb, gq + 3, none⟩ = some (.int .i64 kb) ∧ w'.cell? ⟨gb, gq + 4, none⟩ = some (.int .i64 nb) ∧ w'.cell? ⟨gb, gq + 5, none⟩ = some (.slice Ab lb cb)) from fun w' hk =>
    have hx := (unhide HC).x.kept hk id
    have hk6 := ((unhide H6).kept (unhide HC).kept id).kept hk id
    ⟨hx.cell 0, hx.cell 2, hk6⟩)
  have HV := hide (Kept.refl No V).drew
  go_region_held3 (fun w' => w'.cell? ⟨w.heap.size, 0, none⟩ = some (.int .i64 9) ∧ w'.cell? ⟨w.heap.size, 2, none⟩ = some (.slice (some ⟨gb, gq, none⟩) 2 c) ∧ w'.cell? ⟨gb, gq, none⟩ = some (.int .i64 ka) ∧ w'.cell? ⟨gb, gq + 1, none⟩ = some (.int .i64 na) ∧ w'.cell? ⟨gb, gq + 2, none⟩ = some (.slice Aa la ca) ∧ w'.cell? ⟨gb, gq + 3, none⟩ = some (.int .i64 kb) ∧ w'.cell? ⟨gb, gq + 4, none⟩ = some (.int .i64 nb) ∧ w'.cell? ⟨gb, gq + 5, none⟩ = some (.slice Ab lb cb))
    (first
      | exact unhide KS _ (unhide HV)
      | exact unhide KS _ ((unhide HV).alloc _)
      | exact unhide KS _ (((unhide HV).alloc _).alloc _))
    (first | fail)
  · obtain ⟨hC2, hP, hQ, hKV⟩ := vars2 (unhide HC) ka na Aa la ca kb nb Ab lb cb
    have Ha := hide ((unhide Ha).kept hKV (fun _ _ _ => id))
    have Hb := hide ((unhide Hb).kept hKV (fun _ _ _ => id))
    have HC := hide hC2
    have HBp := hide hP
    have HBq := hide hQ
    have HKV := hide hKV
    clear hC2 hP hQ hKV
    generalize ((V.alloc (.cells #[.int .i64 ka, .int .i64 na, .slice Aa la ca] 24)).alloc (.cells #[.int .i64 kb, .int .i64 nb, .slice Ab lb cb] 24)).drew = W1 at Ha Hb HC HBp HBq HKV ⊢
    have hw2 : w.heap.size + 1 < V.heap.size := hgV
    have hpw := (unhide HBq).lt
    have p0 := (unhide HBp).cell 0
    have q0 := (unhide HBq).cell 0
    have p1 := (unhide HBp).cell 1
    have q1 := (unhide HBq).cell 1
    have p2 := (unhide HBp).cell 2
    have q2 := (unhide HBq).cell 2
    clear p0 p1 p2 q0 q1 q2
    have p0 : W1.cell? ⟨V.heap.size, 0, none⟩ = some (.int .i64 ka) := (unhide HBp).cell 0
    have p1 : W1.cell? ⟨V.heap.size, 1, none⟩ = some (.int .i64 na) := (unhide HBp).cell 1
    have p2 : W1.cell? ⟨V.heap.size, 2, none⟩ = some (.slice Aa la ca) := (unhide HBp).cell 2
    have q0 : W1.cell? ⟨V.heap.size + 1, 0, none⟩ = some (.int .i64 kb) := (unhide HBq).cell 0
    have q1 : W1.cell? ⟨V.heap.size + 1, 1, none⟩ = some (.int .i64 nb) := (unhide HBq).cell 1
    have q2 : W1.cell? ⟨V.heap.size + 1, 2, none⟩ = some (.slice Ab lb cb) := (unhide HBq).cell 2
    obtain ⟨xs0, xs1, xs2⟩ := (unhide HC).xs
    have h0 : W1.cell? ⟨hb, 0, none⟩ = some (.bool false) := (((unhide HB).kept (unhide HC).kept id)).cell 0
    go_wp2_with fail
    refine wp_region_inv 13 [] (by kernel_rfl) (by kernel_rfl) (fun y1 => { tmps := #[Value.agg #[Value.int IntKind.i64 9, Value.int IntKind.i64 0, Value.slice (some { block := gb, off := gq }) 2 c], Value.bool tr, Value.pointer (some { block := hb, off := 0 }), Value.pointer (some { block := w.heap.size, off := 0 }), undef, Value.pointer (some { block := w.heap.size + 1, off := 0 }), Value.bool false, Value.pointer (some { block := V.heap.size, off := 0 }), Value.pointer (some { block := V.heap.size + 1, off := 0 }), Value.pointer (some { block := w.heap.size, off := 0 }), Value.int IntKind.i64 9, Value.bool false, Value.bool false, undef, undef, undef, Value.bool false, undef, Value.pointer (some { block := w.heap.size, off := 2 }), Value.slice (some { block := gb, off := gq }) 2 c, Value.pointer (some { block := gb, off := gq }), Value.agg #[Value.int IntKind.i64 ka, Value.int IntKind.i64 na, Value.slice Aa la ca], Value.pointer (some { block := w.heap.size, off := 2 }), Value.slice (some { block := gb, off := gq }) 2 c, Value.pointer (some { block := gb, off := gq + 3 }), Value.agg #[Value.int IntKind.i64 kb, Value.int IntKind.i64 nb, Value.slice Ab lb cb], Value.bool false, Value.bool false, Value.bool false, undef, undef, undef, Value.bool false, undef, undef, undef, undef, undef, undef, undef, Value.bool false, Value.bool false, undef, undef, undef, undef, undef, undef, undef, Value.bool true, Value.pointer (some { block := w.heap.size, off := 0 }), Value.int IntKind.i64 9, Value.bool true, y1 0, y1 1, y1 2, y1 3, y1 4, y1 5, y1 6, y1 7, y1 8, y1 9, y1 10, y1 11, y1 12, undef, undef, undef, undef, undef, undef, undef, undef, undef, undef, undef, undef, undef], defers := [] }) (fun _ => undef) (fun i v W => Sh.ok (FN F w) W (([.tree tb, .tree ta, .row [tb, ta], .tree (.bin .less tb ta), .tree ta, .tree ta, .tree tb, .tree tb, .row [ta, tb], .tree (.bin .same ta tb), .row [(.bin .less tb ta), (.bin .same ta tb)], .tree (.bin .or (.bin .less tb ta) (.bin .same ta tb)), .tree (.not (.bin .or (.bin .less tb ta) (.bin .same ta tb)))] : List Sh).getD i .any) v) (fun i v W W' hK h => Sh.kept hK _ _ h) ?_ ?_
    · refine ⟨?_, ?_, ?_, ?_, ?_, ?_, ?_, ?_, ?_, ?_, ?_, ?_, ?_, trivial⟩
      · refine ⟨fun x v => rfl, fun y1 S W hK hall hdep K hcont => ?_⟩
        have HCONT := hide hcont
        have HKW := hide hK
        clear hcont hK hall hdep
        obtain ⟨qq0, qq1, qq2⟩ : _ ∧ _ ∧ _ := ⟨((unhide HBq).kept (unhide HKW) id).cell 0, ((unhide HBq).kept (unhide HKW) id).cell 1, ((unhide HBq).kept (unhide HKW) id).cell 2⟩
        rw [if_pos (by rfl)]
        go_simp
        exact unhide HCONT _ _ _ rfl (Kept.refl No _) ⟨_, _, _, _, _, rfl, (unhide Hb).kept (unhide HKW) (fun _ _ _ => id)⟩ (fun h => absurd h (by decide))
      · refine ⟨fun x v => rfl, fun y1 S W hK hall hdep K hcont => ?_⟩
        have HCONT := hide hcont
        have HKW := hide hK
        clear hcont hK hall hdep
        obtain ⟨pq0, pq1, pq2⟩ : _ ∧ _ ∧ _ := ⟨((unhide HBp).kept (unhide HKW) id).cell 0, ((unhide HBp).kept (unhide HKW) id).cell 1, ((unhide HBp).kept (unhide HKW) id).cell 2⟩
        rw [if_pos (by rfl)]
        go_simp
        exact unhide HCONT _ _ _ rfl (Kept.refl No _) ⟨_, _, _, _, _, rfl, (unhide Ha).kept (unhide HKW) (fun _ _ _ => id)⟩ (fun h => absurd h (by decide))
      · refine ⟨fun x v => rfl, fun y1 S W hK hall hdep K hcont => ?_⟩
        have HCONT := hide hcont
        have HKW := hide hK
        have d0 := hall 0 (by decide) (hdep ⟨0, Ground.data⟩ (by simp) rfl)
        have d1 := hall 1 (by decide) (hdep ⟨1, Ground.data⟩ (by simp) rfl)
        clear hcont hK hall hdep
        obtain ⟨k0, n0, A0, l0, c0, e0, r0⟩ := d0
        obtain ⟨k1, n1, A1, l1, c1, e1, r1⟩ := d1
        rw [if_pos (by rfl)]
        simp only [e0, e1]
        go_simp
        exact unhide HCONT _ _ _ (by (try simp only [e0, e1]); rfl) ((Kept.refl No _).alloc _) (row2_new r0 r1 ((unhide HC).go (unhide HKW)).hF) (fun h => absurd h (by decide))
      · refine ⟨fun x v => rfl, fun y1 S W hK hall hdep K hcont => ?_⟩
        have HCONT := hide hcont
        have HKW := hide hK
        have d2 := hall 2 (by decide) (hdep ⟨2, Ground.data⟩ (by simp) rfl)
        clear hcont hK hall hdep
        obtain ⟨b2, e2, f2, r2⟩ := d2
        rw [if_pos (by rfl)]
        simp only [e2]
        go_simp
        refine (op2_row .less (by rfl) _ b2 tb ta r2 f2).mono ?_
        rintro e w1 ⟨k_, n_, A_, l_, c_, rfl, hR1, hK1⟩
        exact unhide HCONT _ _ _ (by (try simp only [e2]); rfl) hK1 ⟨_, _, _, _, _, rfl, hR1⟩ (fun h => absurd h (by decide))
      · refine ⟨fun x v => rfl, fun y1 S W hK hall hdep K hcont => ?_⟩
        have HCONT := hide hcont
        have HKW := hide hK
        clear hcont hK hall hdep
        obtain ⟨pq0, pq1, pq2⟩ : _ ∧ _ ∧ _ := ⟨((unhide HBp).kept (unhide HKW) id).cell 0, ((unhide HBp).kept (unhide HKW) id).cell 1, ((unhide HBp).kept (unhide HKW) id).cell 2⟩
        rw [if_pos (by rfl)]
        go_simp
        exact unhide HCONT _ _ _ rfl (Kept.refl No _) ⟨_, _, _, _, _, rfl, (unhide Ha).kept (unhide HKW) (fun _ _ _ => id)⟩ (fun h => absurd h (by decide))
      · refine ⟨fun x v => rfl, fun y1 S W hK hall hdep K hcont => ?_⟩
        have HCONT := hide hcont
        have HKW := hide hK
        have d4 := hall 4 (by decide) (hdep ⟨4, Ground.data⟩ (by simp) rfl)
        clear hcont hK hall hdep
        obtain ⟨k4, n4, A4, l4, c4, e4, r4⟩ := d4
        rw [if_pos (by rfl)]
        simp only [e4]
        go_simp
        refine (rule_F ta k4 n4 A4 l4 c4 _ r4 ((unhide HC).go (unhide HKW)).hF).mono ?_
        rintro e w1 ⟨k_, n_, A_, l_, c_, rfl, hR1, hK1⟩
        exact unhide HCONT _ _ _ (by (try simp only [e4]); rfl) hK1 ⟨_, _, _, _, _, rfl, hR1⟩ (fun h => absurd h (by decide))
      · refine ⟨fun x v => rfl, fun y1 S W hK hall hdep K hcont => ?_⟩
        have HCONT := hide hcont
        have HKW := hide hK
        clear hcont hK hall hdep
        obtain ⟨qq0, qq1, qq2⟩ : _ ∧ _ ∧ _ := ⟨((unhide HBq).kept (unhide HKW) id).cell 0, ((unhide HBq).kept (unhide HKW) id).cell 1, ((unhide HBq).kept (unhide HKW) id).cell 2⟩
        rw [if_pos (by rfl)]
        go_simp
        exact unhide HCONT _ _ _ rfl (Kept.refl No _) ⟨_, _, _, _, _, rfl, (unhide Hb).kept (unhide HKW) (fun _ _ _ => id)⟩ (fun h => absurd h (by decide))
      · refine ⟨fun x v => rfl, fun y1 S W hK hall hdep K hcont => ?_⟩
        have HCONT := hide hcont
        have HKW := hide hK
        have d6 := hall 6 (by decide) (hdep ⟨6, Ground.data⟩ (by simp) rfl)
        clear hcont hK hall hdep
        obtain ⟨k6, n6, A6, l6, c6, e6, r6⟩ := d6
        rw [if_pos (by rfl)]
        simp only [e6]
        go_simp
        refine (rule_F tb k6 n6 A6 l6 c6 _ r6 ((unhide HC).go (unhide HKW)).hF).mono ?_
        rintro e w1 ⟨k_, n_, A_, l_, c_, rfl, hR1, hK1⟩
        exact unhide HCONT _ _ _ (by (try simp only [e6]); rfl) hK1 ⟨_, _, _, _, _, rfl, hR1⟩ (fun h => absurd h (by decide))
      · refine ⟨fun x v => rfl, fun y1 S W hK hall hdep K hcont => ?_⟩
        have HCONT := hide hcont
        have HKW := hide hK
        have d5 := hall 5 (by decide) (hdep ⟨5, Ground.data⟩ (by simp) rfl)
        have d7 := hall 7 (by decide) (hdep ⟨7, Ground.data⟩ (by simp) rfl)
        clear hcont hK hall hdep
        obtain ⟨k5, n5, A5, l5, c5, e5, r5⟩ := d5
        obtain ⟨k7, n7, A7, l7, c7, e7, r7⟩ := d7
        rw [if_pos (by rfl)]
        simp only [e5, e7]
        go_simp
        exact unhide HCONT _ _ _ (by (try simp only [e5, e7]); rfl) ((Kept.refl No _).alloc _) (row2_new r5 r7 ((unhide HC).go (unhide HKW)).hF) (fun h => absurd h (by decide))
      · refine ⟨fun x v => rfl, fun y1 S W hK hall hdep K hcont => ?_⟩
        have HCONT := hide hcont
        have HKW := hide hK
        have d8 := hall 8 (by decide) (hdep ⟨8, Ground.data⟩ (by simp) rfl)
        clear hcont hK hall hdep
        obtain ⟨b8, e8, f8, r8⟩ := d8
        rw [if_pos (by rfl)]
        simp only [e8]
        go_simp
        refine (op2_row .same (by rfl) _ b8 ta tb r8 f8).mono ?_
        rintro e w1 ⟨k_, n_, A_, l_, c_, rfl, hR1, hK1⟩
        exact unhide HCONT _ _ _ (by (try simp only [e8]); rfl) hK1 ⟨_, _, _, _, _, rfl, hR1⟩ (fun h => absurd h (by decide))
      · refine ⟨fun x v => rfl, fun y1 S W hK hall hdep K hcont => ?_⟩
        have HCONT := hide hcont
        have HKW := hide hK
        have d3 := hall 3 (by decide) (hdep ⟨3, Ground.data⟩ (by simp) rfl)
        have d9 := hall 9 (by decide) (hdep ⟨9, Ground.data⟩ (by simp) rfl)
        clear hcont hK hall hdep
        obtain ⟨k3, n3, A3, l3, c3, e3, r3⟩ := d3
        obtain ⟨k9, n9, A9, l9, c9, e9, r9⟩ := d9
        rw [if_pos (by rfl)]
        simp only [e3, e9]
        go_simp
        exact unhide HCONT _ _ _ (by (try simp only [e3, e9]); rfl) ((Kept.refl No _).alloc _) (row2_new r3 r9 ((unhide HC).go (unhide HKW)).hF) (fun h => absurd h (by decide))
      · refine ⟨fun x v => rfl, fun y1 S W hK hall hdep K hcont => ?_⟩
        have HCONT := hide hcont
        have HKW := hide hK
        have d10 := hall 10 (by decide) (hdep ⟨10, Ground.data⟩ (by simp) rfl)
        clear hcont hK hall hdep
        obtain ⟨b10, e10, f10, r10⟩ := d10
        rw [if_pos (by rfl)]
        simp only [e10]
        go_simp
        refine (op2_row .or (by rfl) _ b10 (.bin .less tb ta) (.bin .same ta tb) r10 f10).mono ?_
        rintro e w1 ⟨k_, n_, A_, l_, c_, rfl, hR1, hK1⟩
        exact unhide HCONT _ _ _ (by (try simp only [e10]); rfl) hK1 ⟨_, _, _, _, _, rfl, hR1⟩ (fun h => absurd h (by decide))
      · refine ⟨fun x v => rfl, fun y1 S W hK hall hdep K hcont => ?_⟩
        have HCONT := hide hcont
        have HKW := hide hK
        have d11 := hall 11 (by decide) (hdep ⟨11, Ground.data⟩ (by simp) rfl)
        clear hcont hK hall hdep
        obtain ⟨k11, n11, A11, l11, c11, e11, r11⟩ := d11
        rw [if_pos (by rfl)]
        simp only [e11]
        go_simp
        refine (none_F (.bin .or (.bin .less tb ta) (.bin .same ta tb)) k11 n11 A11 l11 c11 _ r11 ((unhide HC).go (unhide HKW)).hF).mono ?_
        rintro e w1 ⟨k_, n_, A_, l_, c_, rfl, hR1, hK1⟩
        exact unhide HCONT _ _ _ (by (try simp only [e11]); rfl) hK1 ⟨_, _, _, _, _, rfl, hR1⟩ (fun h => absurd h (by decide))
    · intro y1 W2 hK hx hD
      obtain ⟨k4, n4, A4, l4, c4, e4, r4⟩ := hx 12 (by decide)
      have hvz := (unhide HC).z.lt
      have Ha := hide ((unhide Ha).kept hK (fun _ _ _ => id))
      have Hb := hide ((unhide Hb).kept hK (fun _ _ _ => id))
      have HC := hide ((unhide HC).go hK)
      have H4 := hide r4
      clear r4
      simp only [e4, List.drop]
      clear hK hx hD hvz e4
      obtain ⟨f0, f1, f2, z0, z1, z2, hlt⟩ := (unhide HC).zs
      go_wp2_with fail
      refine bodyPost_ret (v := .tuple #[.agg #[.int .i64 k4, .int .i64 n4, .slice A4 l4 c4], .bool true]) (by simp [results, Tryd.results24, go_sem, z0, z1, z2]) rfl ?_
      exact (unhide HC).made (unhide H4)
  · obtain ⟨hC2, hP, hQ, hKV⟩ := vars2 (unhide HC) kb nb Ab lb cb ka na Aa la ca
    have Ha := hide ((unhide Ha).kept hKV (fun _ _ _ => id))
    have Hb := hide ((unhide Hb).kept hKV (fun _ _ _ => id))
    have HC := hide hC2
    have HBp := hide hP
    have HBq := hide hQ
    have HKV := hide hKV
    clear hC2 hP hQ hKV
    generalize ((V.alloc (.cells #[.int .i64 kb, .int .i64 nb, .slice Ab lb cb] 24)).alloc (.cells #[.int .i64 ka, .int .i64 na, .slice Aa la ca] 24)).drew = W3 at Ha Hb HC HBp HBq HKV ⊢
    have hw2 : w.heap.size + 1 < V.heap.size := hgV
    have hpw := (unhide HBq).lt
    have p0 := (unhide HBp).cell 0
    have q0 := (unhide HBq).cell 0
    have p1 := (unhide HBp).cell 1
    have q1 := (unhide HBq).cell 1
    have p2 := (unhide HBp).cell 2
    have q2 := (unhide HBq).cell 2
    clear p0 p1 p2 q0 q1 q2
    have p0 : W3.cell? ⟨V.heap.size, 0, none⟩ = some (.int .i64 kb) := (unhide HBp).cell 0
    have p1 : W3.cell? ⟨V.heap.size, 1, none⟩ = some (.int .i64 nb) := (unhide HBp).cell 1
    have p2 : W3.cell? ⟨V.heap.size, 2, none⟩ = some (.slice Ab lb cb) := (unhide HBp).cell 2
    have q0 : W3.cell? ⟨V.heap.size + 1, 0, none⟩ = some (.int .i64 ka) := (unhide HBq).cell 0
    have q1 : W3.cell? ⟨V.heap.size + 1, 1, none⟩ = some (.int .i64 na) := (unhide HBq).cell 1
    have q2 : W3.cell? ⟨V.heap.size + 1, 2, none⟩ = some (.slice Aa la ca) := (unhide HBq).cell 2
    obtain ⟨xs0, xs1, xs2⟩ := (unhide HC).xs
    have h0 : W3.cell? ⟨hb, 0, none⟩ = some (.bool false) := (((unhide HB).kept (unhide HC).kept id)).cell 0
    go_wp2_with fail
    refine wp_region_inv 13 [] (by kernel_rfl) (by kernel_rfl) (fun y2 => { tmps := #[Value.agg #[Value.int IntKind.i64 9, Value.int IntKind.i64 0, Value.slice (some { block := gb, off := gq }) 2 c], Value.bool tr, Value.pointer (some { block := hb, off := 0 }), Value.pointer (some { block := w.heap.size, off := 0 }), undef, Value.pointer (some { block := w.heap.size + 1, off := 0 }), Value.bool false, Value.pointer (some { block := V.heap.size + 1, off := 0 }), Value.pointer (some { block := V.heap.size, off := 0 }), Value.pointer (some { block := w.heap.size, off := 0 }), Value.int IntKind.i64 9, Value.bool false, Value.bool false, undef, undef, undef, Value.bool false, undef, Value.pointer (some { block := w.heap.size, off := 2 }), Value.slice (some { block := gb, off := gq }) 2 c, Value.pointer (some { block := gb, off := gq }), Value.agg #[Value.int IntKind.i64 ka, Value.int IntKind.i64 na, Value.slice Aa la ca], Value.pointer (some { block := w.heap.size, off := 2 }), Value.slice (some { block := gb, off := gq }) 2 c, Value.pointer (some { block := gb, off := gq + 3 }), Value.agg #[Value.int IntKind.i64 kb, Value.int IntKind.i64 nb, Value.slice Ab lb cb], Value.bool false, Value.bool false, Value.bool false, undef, undef, undef, Value.bool false, undef, undef, undef, undef, undef, undef, undef, Value.bool false, Value.bool false, undef, undef, undef, undef, undef, undef, undef, Value.bool true, Value.pointer (some { block := w.heap.size, off := 0 }), Value.int IntKind.i64 9, Value.bool true, y2 0, y2 1, y2 2, y2 3, y2 4, y2 5, y2 6, y2 7, y2 8, y2 9, y2 10, y2 11, y2 12, undef, undef, undef, undef, undef, undef, undef, undef, undef, undef, undef, undef, undef], defers := [] }) (fun _ => undef) (fun i v W => Sh.ok (FN F w) W (([.tree tb, .tree ta, .row [tb, ta], .tree (.bin .less tb ta), .tree ta, .tree ta, .tree tb, .tree tb, .row [ta, tb], .tree (.bin .same ta tb), .row [(.bin .less tb ta), (.bin .same ta tb)], .tree (.bin .or (.bin .less tb ta) (.bin .same ta tb)), .tree (.not (.bin .or (.bin .less tb ta) (.bin .same ta tb)))] : List Sh).getD i .any) v) (fun i v W W' hK h => Sh.kept hK _ _ h) ?_ ?_
    · refine ⟨?_, ?_, ?_, ?_, ?_, ?_, ?_, ?_, ?_, ?_, ?_, ?_, ?_, trivial⟩
      · refine ⟨fun x v => rfl, fun y2 S W hK hall hdep K hcont => ?_⟩
        have HCONT := hide hcont
        have HKW := hide hK
        clear hcont hK hall hdep
        obtain ⟨pq0, pq1, pq2⟩ : _ ∧ _ ∧ _ := ⟨((unhide HBp).kept (unhide HKW) id).cell 0, ((unhide HBp).kept (unhide HKW) id).cell 1, ((unhide HBp).kept (unhide HKW) id).cell 2⟩
        rw [if_pos (by rfl)]
        go_simp
        exact unhide HCONT _ _ _ rfl (Kept.refl No _) ⟨_, _, _, _, _, rfl, (unhide Hb).kept (unhide HKW) (fun _ _ _ => id)⟩ (fun h => absurd h (by decide))
      · refine ⟨fun x v => rfl, fun y2 S W hK hall hdep K hcont => ?_⟩
        have HCONT := hide hcont
        have HKW := hide hK
        clear hcont hK hall hdep
        obtain ⟨qq0, qq1, qq2⟩ : _ ∧ _ ∧ _ := ⟨((unhide HBq).kept (unhide HKW) id).cell 0, ((unhide HBq).kept (unhide HKW) id).cell 1, ((unhide HBq).kept (unhide HKW) id).cell 2⟩
        rw [if_pos (by rfl)]
        go_simp
        exact unhide HCONT _ _ _ rfl (Kept.refl No _) ⟨_, _, _, _, _, rfl, (unhide Ha).kept (unhide HKW) (fun _ _ _ => id)⟩ (fun h => absurd h (by decide))
      · refine ⟨fun x v => rfl, fun y2 S W hK hall hdep K hcont => ?_⟩
        have HCONT := hide hcont
        have HKW := hide hK
        have d0 := hall 0 (by decide) (hdep ⟨0, Ground.data⟩ (by simp) rfl)
        have d1 := hall 1 (by decide) (hdep ⟨1, Ground.data⟩ (by simp) rfl)
        clear hcont hK hall hdep
        obtain ⟨k0, n0, A0, l0, c0, e0, r0⟩ := d0
        obtain ⟨k1, n1, A1, l1, c1, e1, r1⟩ := d1
        rw [if_pos (by rfl)]
        simp only [e0, e1]
        go_simp
        exact unhide HCONT _ _ _ (by (try simp only [e0, e1]); rfl) ((Kept.refl No _).alloc _) (row2_new r0 r1 ((unhide HC).go (unhide HKW)).hF) (fun h => absurd h (by decide))
      · refine ⟨fun x v => rfl, fun y2 S W hK hall hdep K hcont => ?_⟩
        have HCONT := hide hcont
        have HKW := hide hK
        have d2 := hall 2 (by decide) (hdep ⟨2, Ground.data⟩ (by simp) rfl)
        clear hcont hK hall hdep
        obtain ⟨b2, e2, f2, r2⟩ := d2
        rw [if_pos (by rfl)]
        simp only [e2]
        go_simp
        refine (op2_row .less (by rfl) _ b2 tb ta r2 f2).mono ?_
        rintro e w1 ⟨k_, n_, A_, l_, c_, rfl, hR1, hK1⟩
        exact unhide HCONT _ _ _ (by (try simp only [e2]); rfl) hK1 ⟨_, _, _, _, _, rfl, hR1⟩ (fun h => absurd h (by decide))
      · refine ⟨fun x v => rfl, fun y2 S W hK hall hdep K hcont => ?_⟩
        have HCONT := hide hcont
        have HKW := hide hK
        clear hcont hK hall hdep
        obtain ⟨qq0, qq1, qq2⟩ : _ ∧ _ ∧ _ := ⟨((unhide HBq).kept (unhide HKW) id).cell 0, ((unhide HBq).kept (unhide HKW) id).cell 1, ((unhide HBq).kept (unhide HKW) id).cell 2⟩
        rw [if_pos (by rfl)]
        go_simp
        exact unhide HCONT _ _ _ rfl (Kept.refl No _) ⟨_, _, _, _, _, rfl, (unhide Ha).kept (unhide HKW) (fun _ _ _ => id)⟩ (fun h => absurd h (by decide))
      · refine ⟨fun x v => rfl, fun y2 S W hK hall hdep K hcont => ?_⟩
        have HCONT := hide hcont
        have HKW := hide hK
        have d4 := hall 4 (by decide) (hdep ⟨4, Ground.data⟩ (by simp) rfl)
        clear hcont hK hall hdep
        obtain ⟨k4, n4, A4, l4, c4, e4, r4⟩ := d4
        rw [if_pos (by rfl)]
        simp only [e4]
        go_simp
        refine (rule_F ta k4 n4 A4 l4 c4 _ r4 ((unhide HC).go (unhide HKW)).hF).mono ?_
        rintro e w1 ⟨k_, n_, A_, l_, c_, rfl, hR1, hK1⟩
        exact unhide HCONT _ _ _ (by (try simp only [e4]); rfl) hK1 ⟨_, _, _, _, _, rfl, hR1⟩ (fun h => absurd h (by decide))
      · refine ⟨fun x v => rfl, fun y2 S W hK hall hdep K hcont => ?_⟩
        have HCONT := hide hcont
        have HKW := hide hK
        clear hcont hK hall hdep
        obtain ⟨pq0, pq1, pq2⟩ : _ ∧ _ ∧ _ := ⟨((unhide HBp).kept (unhide HKW) id).cell 0, ((unhide HBp).kept (unhide HKW) id).cell 1, ((unhide HBp).kept (unhide HKW) id).cell 2⟩
        rw [if_pos (by rfl)]
        go_simp
        exact unhide HCONT _ _ _ rfl (Kept.refl No _) ⟨_, _, _, _, _, rfl, (unhide Hb).kept (unhide HKW) (fun _ _ _ => id)⟩ (fun h => absurd h (by decide))
      · refine ⟨fun x v => rfl, fun y2 S W hK hall hdep K hcont => ?_⟩
        have HCONT := hide hcont
        have HKW := hide hK
        have d6 := hall 6 (by decide) (hdep ⟨6, Ground.data⟩ (by simp) rfl)
        clear hcont hK hall hdep
        obtain ⟨k6, n6, A6, l6, c6, e6, r6⟩ := d6
        rw [if_pos (by rfl)]
        simp only [e6]
        go_simp
        refine (rule_F tb k6 n6 A6 l6 c6 _ r6 ((unhide HC).go (unhide HKW)).hF).mono ?_
        rintro e w1 ⟨k_, n_, A_, l_, c_, rfl, hR1, hK1⟩
        exact unhide HCONT _ _ _ (by (try simp only [e6]); rfl) hK1 ⟨_, _, _, _, _, rfl, hR1⟩ (fun h => absurd h (by decide))
      · refine ⟨fun x v => rfl, fun y2 S W hK hall hdep K hcont => ?_⟩
        have HCONT := hide hcont
        have HKW := hide hK
        have d5 := hall 5 (by decide) (hdep ⟨5, Ground.data⟩ (by simp) rfl)
        have d7 := hall 7 (by decide) (hdep ⟨7, Ground.data⟩ (by simp) rfl)
        clear hcont hK hall hdep
        obtain ⟨k5, n5, A5, l5, c5, e5, r5⟩ := d5
        obtain ⟨k7, n7, A7, l7, c7, e7, r7⟩ := d7
        rw [if_pos (by rfl)]
        simp only [e5, e7]
        go_simp
        exact unhide HCONT _ _ _ (by (try simp only [e5, e7]); rfl) ((Kept.refl No _).alloc _) (row2_new r5 r7 ((unhide HC).go (unhide HKW)).hF) (fun h => absurd h (by decide))
      · refine ⟨fun x v => rfl, fun y2 S W hK hall hdep K hcont => ?_⟩
        have HCONT := hide hcont
        have HKW := hide hK
        have d8 := hall 8 (by decide) (hdep ⟨8, Ground.data⟩ (by simp) rfl)
        clear hcont hK hall hdep
        obtain ⟨b8, e8, f8, r8⟩ := d8
        rw [if_pos (by rfl)]
        simp only [e8]
        go_simp
        refine (op2_row .same (by rfl) _ b8 ta tb r8 f8).mono ?_
        rintro e w1 ⟨k_, n_, A_, l_, c_, rfl, hR1, hK1⟩
        exact unhide HCONT _ _ _ (by (try simp only [e8]); rfl) hK1 ⟨_, _, _, _, _, rfl, hR1⟩ (fun h => absurd h (by decide))
      · refine ⟨fun x v => rfl, fun y2 S W hK hall hdep K hcont => ?_⟩
        have HCONT := hide hcont
        have HKW := hide hK
        have d3 := hall 3 (by decide) (hdep ⟨3, Ground.data⟩ (by simp) rfl)
        have d9 := hall 9 (by decide) (hdep ⟨9, Ground.data⟩ (by simp) rfl)
        clear hcont hK hall hdep
        obtain ⟨k3, n3, A3, l3, c3, e3, r3⟩ := d3
        obtain ⟨k9, n9, A9, l9, c9, e9, r9⟩ := d9
        rw [if_pos (by rfl)]
        simp only [e3, e9]
        go_simp
        exact unhide HCONT _ _ _ (by (try simp only [e3, e9]); rfl) ((Kept.refl No _).alloc _) (row2_new r3 r9 ((unhide HC).go (unhide HKW)).hF) (fun h => absurd h (by decide))
      · refine ⟨fun x v => rfl, fun y2 S W hK hall hdep K hcont => ?_⟩
        have HCONT := hide hcont
        have HKW := hide hK
        have d10 := hall 10 (by decide) (hdep ⟨10, Ground.data⟩ (by simp) rfl)
        clear hcont hK hall hdep
        obtain ⟨b10, e10, f10, r10⟩ := d10
        rw [if_pos (by rfl)]
        simp only [e10]
        go_simp
        refine (op2_row .or (by rfl) _ b10 (.bin .less tb ta) (.bin .same ta tb) r10 f10).mono ?_
        rintro e w1 ⟨k_, n_, A_, l_, c_, rfl, hR1, hK1⟩
        exact unhide HCONT _ _ _ (by (try simp only [e10]); rfl) hK1 ⟨_, _, _, _, _, rfl, hR1⟩ (fun h => absurd h (by decide))
      · refine ⟨fun x v => rfl, fun y2 S W hK hall hdep K hcont => ?_⟩
        have HCONT := hide hcont
        have HKW := hide hK
        have d11 := hall 11 (by decide) (hdep ⟨11, Ground.data⟩ (by simp) rfl)
        clear hcont hK hall hdep
        obtain ⟨k11, n11, A11, l11, c11, e11, r11⟩ := d11
        rw [if_pos (by rfl)]
        simp only [e11]
        go_simp
        refine (none_F (.bin .or (.bin .less tb ta) (.bin .same ta tb)) k11 n11 A11 l11 c11 _ r11 ((unhide HC).go (unhide HKW)).hF).mono ?_
        rintro e w1 ⟨k_, n_, A_, l_, c_, rfl, hR1, hK1⟩
        exact unhide HCONT _ _ _ (by (try simp only [e11]); rfl) hK1 ⟨_, _, _, _, _, rfl, hR1⟩ (fun h => absurd h (by decide))
    · intro y2 W4 hK hx hD
      obtain ⟨k4, n4, A4, l4, c4, e4, r4⟩ := hx 12 (by decide)
      have hvz := (unhide HC).z.lt
      have Ha := hide ((unhide Ha).kept hK (fun _ _ _ => id))
      have Hb := hide ((unhide Hb).kept hK (fun _ _ _ => id))
      have HC := hide ((unhide HC).go hK)
      have H4 := hide r4
      clear r4
      simp only [e4, List.drop]
      clear hK hx hD hvz e4
      obtain ⟨f0, f1, f2, z0, z1, z2, hlt⟩ := (unhide HC).zs
      go_wp2_with fail
      refine bodyPost_ret (v := .tuple #[.agg #[.int .i64 k4, .int .i64 n4, .slice A4 l4 c4], .bool true]) (by simp [results, Tryd.results24, go_sem, z0, z1, z2]) rfl ?_
      exact (unhide HC).made (unhide H4)
set_option maxRecDepth 100000 in
set_option maxHeartbeats 4000000 in
theorem cmp_same_n (d : Bool) (hb : Nat) (w0 w : World) (F : Nat → Prop) (k n : Int) (A : Option Addr) (l c : Nat) (ta tb : E) (tr : Bool) (hK0 : Kept No w0 w) (hr : Rd w F k n A l (E.bin .same ta tb).r) (hH : Blk w0 hb 4 #[.bool d]) (hd : d = false) :
    Calls Tryd.prog 24 #[.agg #[.int .i64 k, .int .i64 n, .slice A l c], .bool tr, .pointer (some ⟨hb, 0, none⟩)] w (Made w F (.not (.bin .or (.bin .less ta tb) (.bin .less tb ta)))) := by
  subst hd
  have hB := hH.kept hK0 id
  have h0 : w.cell? ⟨hb, 0, none⟩ = some (.bool false) := hB.cell 0
  have hbw := hB.lt
  obtain ⟨rfl, rfl, rfl, gb, gq, ka, na, Aa, la, ca, kb, nb, Ab, lb, cb, rfl, h6, hra, hrb⟩ := open_bin (o := .same) (kc := 10) (by rfl) hr
  have H6 := hide h6
  have HA0 := hide hra
  have HB0 := hide hrb
  have HB := hide hB
  clear hr hK0 h6 hra hrb hH hB
  go_enter Tryd.func24, Tryd.ntmps24
  go_wp2_with fail
  have HC := hide (Ctx.start w (10) (0) (some ⟨gb, gq, none⟩) (2) c)
  generalize (w.alloc (.cells #[.int .i64 (10), .int .i64 (0), .slice (some ⟨gb, gq, none⟩) (2) c] 24)).alloc (.cells #[.int .i64 0, .int .i64 0, .slice none 0 0] 24) = V at HC ⊢
  have Ha := hide (rd_in (unhide HA0) (unhide HC).kept)
  have Hb := hide (rd_in (unhide HB0) (unhide HC).kept)
  have hgV := (unhide HC).z.lt
  have KS := hide (show ∀ w', Kept No V w' → (w'.cell? ⟨w.heap.size, 0, none⟩ = some (.int .i64 10) ∧ w'.cell? ⟨w.heap.size, 2, none⟩ = some (.slice (some ⟨gb, gq, none⟩) 2 c) ∧ w'.cell? ⟨gb, gq, none⟩ = some (.int .i64 ka) ∧ w'.cell? ⟨gb, gq + 1, none⟩ = some (.int .i64 na) ∧ w'.cell? ⟨gb, gq + 2, none⟩ = some (.slice Aa la ca) ∧ w'.cell? ⟨gb, gq + 3, none⟩ = some (.int .i64 kb) ∧ w'.cell? ⟨gb, gq + 4, none⟩ = some (.int .i64 nb) ∧ w'.cell? ⟨gb, gq + 5, none⟩ = some (.slice Ab lb cb)) from fun w' hk =>
    have hx := (unhide HC).x.kept hk id
    have hk6 := ((unhide H6).kept (unhide HC).kept id).kept hk id
    ⟨hx.cell 0, hx.cell 2, hk6⟩)
  have HV := hide (Kept.refl No V).drew
  go_region_held3 (fun w' => w'.cell? ⟨w.heap.size, 0, none⟩ = some (.int .i64 10) ∧ w'.cell? ⟨w.heap.size, 2, none⟩ = some (.slice (some ⟨gb, gq, none⟩) 2 c) ∧ w'.cell? ⟨gb, gq, none⟩ = some (.int .i64 ka) ∧ w'.cell? ⟨gb, gq + 1, none⟩ = some (.int .i64 na) ∧ w'.cell? ⟨gb, gq + 2, none⟩ = some (.slice Aa la ca) ∧ w'.cell? ⟨gb, gq + 3, none⟩ = some (.int .i64 kb) ∧ w'.cell? ⟨gb, gq + 4, none⟩ = some (.int .i64 nb) ∧ w'.cell? ⟨gb, gq + 5, none⟩ = some (.slice Ab lb cb))
    (first
      | exact unhide KS _ (unhide HV)
      | exact unhide KS _ ((unhide HV).alloc _)
      | exact unhide KS _ (((unhide HV).alloc _).alloc _))
    (first | fail)
  · obtain ⟨hC2, hP, hQ, hKV⟩ := vars2 (unhide HC) ka na Aa la ca kb nb Ab lb cb
    have Ha := hide ((unhide Ha).kept hKV (fun _ _ _ => id))
    have Hb := hide ((unhide Hb).kept hKV (fun _ _ _ => id))
    have HC := hide hC2
    have HBp := hide hP
    have HBq := hide hQ
    have HKV := hide hKV
    clear hC2 hP hQ hKV
    generalize ((V.alloc (.cells #[.int .i64 ka, .int .i64 na, .slice Aa la ca] 24)).alloc (.cells #[.int .i64 kb, .int .i64 nb, .slice Ab lb cb] 24)).drew = W1 at Ha Hb HC HBp HBq HKV ⊢
    have hw2 : w.heap.size + 1 < V.heap.size := hgV
    have hpw := (unhide HBq).lt
    have p0 := (unhide HBp).cell 0
    have q0 := (unhide HBq).cell 0
    have p1 := (unhide HBp).cell 1
    have q1 := (unhide HBq).cell 1
    have p2 := (unhide HBp).cell 2
    have q2 := (unhide HBq).cell 2
    clear p0 p1 p2 q0 q1 q2
    have p0 : W1.cell? ⟨V.heap.size, 0, none⟩ = some (.int .i64 ka) := (unhide HBp).cell 0
    have p1 : W1.cell? ⟨V.heap.size, 1, none⟩ = some (.int .i64 na) := (unhide HBp).cell 1
    have p2 : W1.cell? ⟨V.heap.size, 2, none⟩ = some (.slice Aa la ca) := (unhide HBp).cell 2
    have q0 : W1.cell? ⟨V.heap.size + 1, 0, none⟩ = some (.int .i64 kb) := (unhide HBq).cell 0
    have q1 : W1.cell? ⟨V.heap.size + 1, 1, none⟩ = some (.int .i64 nb) := (unhide HBq).cell 1
    have q2 : W1.cell? ⟨V.heap.size + 1, 2, none⟩ = some (.slice Ab lb cb) := (unhide HBq).cell 2
    obtain ⟨xs0, xs1, xs2⟩ := (unhide HC).xs
    have h0 : W1.cell? ⟨hb, 0, none⟩ = some (.bool false) := (((unhide HB).kept (unhide HC).kept id)).cell 0
    go_wp2_with fail
    refine wp_region_inv 13 [] (by kernel_rfl) (by kernel_rfl) (fun y1 => { tmps := #[Value.agg #[Value.int IntKind.i64 10, Value.int IntKind.i64 0, Value.slice (some { block := gb, off := gq }) 2 c], Value.bool tr, Value.pointer (some { block := hb, off := 0 }), Value.pointer (some { block := w.heap.size, off := 0 }), undef, Value.pointer (some { block := w.heap.size + 1, off := 0 }), Value.bool false, Value.pointer (some { block := V.heap.size, off := 0 }), Value.pointer (some { block := V.heap.size + 1, off := 0 }), Value.pointer (some { block := w.heap.size, off := 0 }), Value.int IntKind.i64 10, Value.bool true, Value.bool true, Value.pointer (some { block := w.heap.size, off := 0 }), Value.int IntKind.i64 10, Value.bool false, Value.bool false, undef, Value.pointer (some { block := w.heap.size, off := 2 }), Value.slice (some { block := gb, off := gq }) 2 c, Value.pointer (some { block := gb, off := gq }), Value.agg #[Value.int IntKind.i64 ka, Value.int IntKind.i64 na, Value.slice Aa la ca], Value.pointer (some { block := w.heap.size, off := 2 }), Value.slice (some { block := gb, off := gq }) 2 c, Value.pointer (some { block := gb, off := gq + 3 }), Value.agg #[Value.int IntKind.i64 kb, Value.int IntKind.i64 nb, Value.slice Ab lb cb], Value.bool false, Value.bool false, Value.bool false, undef, undef, undef, Value.bool false, undef, undef, undef, undef, undef, undef, undef, Value.bool false, Value.bool false, undef, undef, undef, undef, undef, undef, undef, Value.bool false, Value.pointer (some { block := w.heap.size, off := 0 }), Value.int IntKind.i64 10, Value.bool false, undef, undef, undef, undef, undef, undef, undef, undef, undef, undef, undef, undef, undef, y1 0, y1 1, y1 2, y1 3, y1 4, y1 5, y1 6, y1 7, y1 8, y1 9, y1 10, y1 11, y1 12], defers := [] }) (fun _ => undef) (fun i v W => Sh.ok (FN F w) W (([.tree ta, .tree tb, .row [ta, tb], .tree (.bin .less ta tb), .tree tb, .tree tb, .tree ta, .tree ta, .row [tb, ta], .tree (.bin .less tb ta), .row [(.bin .less ta tb), (.bin .less tb ta)], .tree (.bin .or (.bin .less ta tb) (.bin .less tb ta)), .tree (.not (.bin .or (.bin .less ta tb) (.bin .less tb ta)))] : List Sh).getD i .any) v) (fun i v W W' hK h => Sh.kept hK _ _ h) ?_ ?_
    · refine ⟨?_, ?_, ?_, ?_, ?_, ?_, ?_, ?_, ?_, ?_, ?_, ?_, ?_, trivial⟩
      · refine ⟨fun x v => rfl, fun y1 S W hK hall hdep K hcont => ?_⟩
        have HCONT := hide hcont
        have HKW := hide hK
        clear hcont hK hall hdep
        obtain ⟨pq0, pq1, pq2⟩ : _ ∧ _ ∧ _ := ⟨((unhide HBp).kept (unhide HKW) id).cell 0, ((unhide HBp).kept (unhide HKW) id).cell 1, ((unhide HBp).kept (unhide HKW) id).cell 2⟩
        rw [if_pos (by rfl)]
        go_simp
        exact unhide HCONT _ _ _ rfl (Kept.refl No _) ⟨_, _, _, _, _, rfl, (unhide Ha).kept (unhide HKW) (fun _ _ _ => id)⟩ (fun h => absurd h (by decide))
      · refine ⟨fun x v => rfl, fun y1 S W hK hall hdep K hcont => ?_⟩
        have HCONT := hide hcont
        have HKW := hide hK
        clear hcont hK hall hdep
        obtain ⟨qq0, qq1, qq2⟩ : _ ∧ _ ∧ _ := ⟨((unhide HBq).kept (unhide HKW) id).cell 0, ((unhide HBq).kept (unhide HKW) id).cell 1, ((unhide HBq).kept (unhide HKW) id).cell 2⟩
        rw [if_pos (by rfl)]
        go_simp
        exact unhide HCONT _ _ _ rfl (Kept.refl No _) ⟨_, _, _, _, _, rfl, (unhide Hb).kept (unhide HKW) (fun _ _ _ => id)⟩ (fun h => absurd h (by decide))
      · refine ⟨fun x v => rfl, fun y1 S W hK hall hdep K hcont => ?_⟩
        have HCONT := hide hcont
        have HKW := hide hK
        have d0 := hall 0 (by decide) (hdep ⟨0, Ground.data⟩ (by simp) rfl)
        have d1 := hall 1 (by decide) (hdep ⟨1, Ground.data⟩ (by simp) rfl)
        clear hcont hK hall hdep
        obtain ⟨k0, n0, A0, l0, c0, e0, r0⟩ := d0
        obtain ⟨k1, n1, A1, l1, c1, e1, r1⟩ := d1
        rw [if_pos (by rfl)]
        simp only [e0, e1]
        go_simp
        exact unhide HCONT _ _ _ (by (try simp only [e0, e1]); rfl) ((Kept.refl No _).alloc _) (row2_new r0 r1 ((unhide HC).go (unhide HKW)).hF) (fun h => absurd h (by decide))
      · refine ⟨fun x v => rfl, fun y1 S W hK hall hdep K hcont => ?_⟩
        have HCONT := hide hcont
        have HKW := hide hK
        have d2 := hall 2 (by decide) (hdep ⟨2, Ground.data⟩ (by simp) rfl)
        clear hcont hK hall hdep
        obtain ⟨b2, e2, f2, r2⟩ := d2
        rw [if_pos (by rfl)]
        simp only [e2]
        go_simp
        refine (op2_row .less (by rfl) _ b2 ta tb r2 f2).mono ?_
        rintro e w1 ⟨k_, n_, A_, l_, c_, rfl, hR1, hK1⟩
        exact unhide HCONT _ _ _ (by (try simp only [e2]); rfl) hK1 ⟨_, _, _, _, _, rfl, hR1⟩ (fun h => absurd h (by decide))
      · refine ⟨fun x v => rfl, fun y1 S W hK hall hdep K hcont => ?_⟩
        have HCONT := hide hcont
        have HKW := hide hK
        clear hcont hK hall hdep
        obtain ⟨qq0, qq1, qq2⟩ : _ ∧ _ ∧ _ := ⟨((unhide HBq).kept (unhide HKW) id).cell 0, ((unhide HBq).kept (unhide HKW) id).cell 1, ((unhide HBq).kept (unhide HKW) id).cell 2⟩
        rw [if_pos (by rfl)]
        go_simp
        exact unhide HCONT _ _ _ rfl (Kept.refl No _) ⟨_, _, _, _, _, rfl, (unhide Hb).kept (unhide HKW) (fun _ _ _ => id)⟩ (fun h => absurd h (by decide))
      · refine ⟨fun x v => rfl, fun y1 S W hK hall hdep K hcont => ?_⟩
        have HCONT := hide hcont
        have HKW := hide hK
        have d4 := hall 4 (by decide) (hdep ⟨4, Ground.data⟩ (by simp) rfl)
        clear hcont hK hall hdep
        obtain ⟨k4, n4, A4, l4, c4, e4, r4⟩ := d4
        rw [if_pos (by rfl)]
        simp only [e4]
        go_simp
        refine (rule_F tb k4 n4 A4 l4 c4 _ r4 ((unhide HC).go (unhide HKW)).hF).mono ?_
        rintro e w1 ⟨k_, n_, A_, l_, c_, rfl, hR1, hK1⟩
        exact unhide HCONT _ _ _ (by (try simp only [e4]); rfl) hK1 ⟨_, _, _, _, _, rfl, hR1⟩ (fun h => absurd h (by decide))
      · refine ⟨fun x v => rfl, fun y1 S W hK hall hdep K hcont => ?_⟩
        have HCONT := hide hcont
        have HKW := hide hK
        clear hcont hK hall hdep
        obtain ⟨pq0, pq1, pq2⟩ : _ ∧ _ ∧ _ := ⟨((unhide HBp).kept (unhide HKW) id).cell 0, ((unhide HBp).kept (unhide HKW) id).cell 1, ((unhide HBp).kept (unhide HKW) id).cell 2⟩
        rw [if_pos (by rfl)]
        go_simp
        exact unhide HCONT _ _ _ rfl (Kept.refl No _) ⟨_, _, _, _, _, rfl, (unhide Ha).kept (unhide HKW) (fun _ _ _ => id)⟩ (fun h => absurd h (by decide))
      · refine ⟨fun x v => rfl, fun y1 S W hK hall hdep K hcont => ?_⟩
        have HCONT := hide hcont
        have HKW := hide hK
        have d6 := hall 6 (by decide) (hdep ⟨6, Ground.data⟩ (by simp) rfl)
        clear hcont hK hall hdep
        obtain ⟨k6, n6, A6, l6, c6, e6, r6⟩ := d6
        rw [if_pos (by rfl)]
        simp only [e6]
        go_simp
        refine (rule_F ta k6 n6 A6 l6 c6 _ r6 ((unhide HC).go (unhide HKW)).hF).mono ?_
        rintro e w1 ⟨k_, n_, A_, l_, c_, rfl, hR1, hK1⟩
        exact unhide HCONT _ _ _ (by (try simp only [e6]); rfl) hK1 ⟨_, _, _, _, _, rfl, hR1⟩ (fun h => absurd h (by decide))
      · refine ⟨fun x v => rfl, fun y1 S W hK hall hdep K hcont => ?_⟩
        have HCONT := hide hcont
        have HKW := hide hK
        have d5 := hall 5 (by decide) (hdep ⟨5, Ground.data⟩ (by simp) rfl)
        have d7 := hall 7 (by decide) (hdep ⟨7, Ground.data⟩ (by simp) rfl)
        clear hcont hK hall hdep
        obtain ⟨k5, n5, A5, l5, c5, e5, r5⟩ := d5
        obtain ⟨k7, n7, A7, l7, c7, e7, r7⟩ := d7
        rw [if_pos (by rfl)]
        simp only [e5, e7]
        go_simp
        exact unhide HCONT _ _ _ (by (try simp only [e5, e7]); rfl) ((Kept.refl No _).alloc _) (row2_new r5 r7 ((unhide HC).go (unhide HKW)).hF) (fun h => absurd h (by decide))
      · refine ⟨fun x v => rfl, fun y1 S W hK hall hdep K hcont => ?_⟩
        have HCONT := hide hcont
        have HKW := hide hK
        have d8 := hall 8 (by decide) (hdep ⟨8, Ground.data⟩ (by simp) rfl)
        clear hcont hK hall hdep
        obtain ⟨b8, e8, f8, r8⟩ := d8
        rw [if_pos (by rfl)]
        simp only [e8]
        go_simp
        refine (op2_row .less (by rfl) _ b8 tb ta r8 f8).mono ?_
        rintro e w1 ⟨k_, n_, A_, l_, c_, rfl, hR1, hK1⟩
        exact unhide HCONT _ _ _ (by (try simp only [e8]); rfl) hK1 ⟨_, _, _, _, _, rfl, hR1⟩ (fun h => absurd h (by decide))
      · refine ⟨fun x v => rfl, fun y1 S W hK hall hdep K hcont => ?_⟩
        have HCONT := hide hcont
        have HKW := hide hK
        have d3 := hall 3 (by decide) (hdep ⟨3, Ground.data⟩ (by simp) rfl)
        have d9 := hall 9 (by decide) (hdep ⟨9, Ground.data⟩ (by simp) rfl)
        clear hcont hK hall hdep
        obtain ⟨k3, n3, A3, l3, c3, e3, r3⟩ := d3
        obtain ⟨k9, n9, A9, l9, c9, e9, r9⟩ := d9
        rw [if_pos (by rfl)]
        simp only [e3, e9]
        go_simp
        exact unhide HCONT _ _ _ (by (try simp only [e3, e9]); rfl) ((Kept.refl No _).alloc _) (row2_new r3 r9 ((unhide HC).go (unhide HKW)).hF) (fun h => absurd h (by decide))
      · refine ⟨fun x v => rfl, fun y1 S W hK hall hdep K hcont => ?_⟩
        have HCONT := hide hcont
        have HKW := hide hK
        have d10 := hall 10 (by decide) (hdep ⟨10, Ground.data⟩ (by simp) rfl)
        clear hcont hK hall hdep
        obtain ⟨b10, e10, f10, r10⟩ := d10
        rw [if_pos (by rfl)]
        simp only [e10]
        go_simp
        refine (op2_row .or (by rfl) _ b10 (.bin .less ta tb) (.bin .less tb ta) r10 f10).mono ?_
        rintro e w1 ⟨k_, n_, A_, l_, c_, rfl, hR1, hK1⟩
        exact unhide HCONT _ _ _ (by (try simp only [e10]); rfl) hK1 ⟨_, _, _, _, _, rfl, hR1⟩ (fun h => absurd h (by decide))
      · refine ⟨fun x v => rfl, fun y1 S W hK hall hdep K hcont => ?_⟩
        have HCONT := hide hcont
        have HKW := hide hK
        have d11 := hall 11 (by decide) (hdep ⟨11, Ground.data⟩ (by simp) rfl)
        clear hcont hK hall hdep
        obtain ⟨k11, n11, A11, l11, c11, e11, r11⟩ := d11
        rw [if_pos (by rfl)]
        simp only [e11]
        go_simp
        refine (none_F (.bin .or (.bin .less ta tb) (.bin .less tb ta)) k11 n11 A11 l11 c11 _ r11 ((unhide HC).go (unhide HKW)).hF).mono ?_
        rintro e w1 ⟨k_, n_, A_, l_, c_, rfl, hR1, hK1⟩
        exact unhide HCONT _ _ _ (by (try simp only [e11]); rfl) hK1 ⟨_, _, _, _, _, rfl, hR1⟩ (fun h => absurd h (by decide))
    · intro y1 W2 hK hx hD
      obtain ⟨k4, n4, A4, l4, c4, e4, r4⟩ := hx 12 (by decide)
      have hvz := (unhide HC).z.lt
      have Ha := hide ((unhide Ha).kept hK (fun _ _ _ => id))
      have Hb := hide ((unhide Hb).kept hK (fun _ _ _ => id))
      have HC := hide ((unhide HC).go hK)
      have H4 := hide r4
      clear r4
      simp only [e4, List.drop]
      clear hK hx hD hvz e4
      obtain ⟨f0, f1, f2, z0, z1, z2, hlt⟩ := (unhide HC).zs
      go_wp2_with fail
      refine bodyPost_ret (v := .tuple #[.agg #[.int .i64 k4, .int .i64 n4, .slice A4 l4 c4], .bool true]) (by simp [results, Tryd.results24, go_sem, z0, z1, z2]) rfl ?_
      exact (unhide HC).made (unhide H4)
  · obtain ⟨hC2, hP, hQ, hKV⟩ := vars2 (unhide HC) kb nb Ab lb cb ka na Aa la ca
    have Ha := hide ((unhide Ha).kept hKV (fun _ _ _ => id))
    have Hb := hide ((unhide Hb).kept hKV (fun _ _ _ => id))
    have HC := hide hC2
    have HBp := hide hP
    have HBq := hide hQ
    have HKV := hide hKV
    clear hC2 hP hQ hKV
    generalize ((V.alloc (.cells #[.int .i64 kb, .int .i64 nb, .slice Ab lb cb] 24)).alloc (.cells #[.int .i64 ka, .int .i64 na, .slice Aa la ca] 24)).drew = W3 at Ha Hb HC HBp HBq HKV ⊢
    have hw2 : w.heap.size + 1 < V.heap.size := hgV
    have hpw := (unhide HBq).lt
    have p0 := (unhide HBp).cell 0
    have q0 := (unhide HBq).cell 0
    have p1 := (unhide HBp).cell 1
    have q1 := (unhide HBq).cell 1
    have p2 := (unhide HBp).cell 2
    have q2 := (unhide HBq).cell 2
    clear p0 p1 p2 q0 q1 q2
    have p0 : W3.cell? ⟨V.heap.size, 0, none⟩ = some (.int .i64 kb) := (unhide HBp).cell 0
    have p1 : W3.cell? ⟨V.heap.size, 1, none⟩ = some (.int .i64 nb) := (unhide HBp).cell 1
    have p2 : W3.cell? ⟨V.heap.size, 2, none⟩ = some (.slice Ab lb cb) := (unhide HBp).cell 2
    have q0 : W3.cell? ⟨V.heap.size + 1, 0, none⟩ = some (.int .i64 ka) := (unhide HBq).cell 0
    have q1 : W3.cell? ⟨V.heap.size + 1, 1, none⟩ = some (.int .i64 na) := (unhide HBq).cell 1
    have q2 : W3.cell? ⟨V.heap.size + 1, 2, none⟩ = some (.slice Aa la ca) := (unhide HBq).cell 2
    obtain ⟨xs0, xs1, xs2⟩ := (unhide HC).xs
    have h0 : W3.cell? ⟨hb, 0, none⟩ = some (.bool false) := (((unhide HB).kept (unhide HC).kept id)).cell 0
    go_wp2_with fail
    refine wp_region_inv 13 [] (by kernel_rfl) (by kernel_rfl) (fun y2 => { tmps := #[Value.agg #[Value.int IntKind.i64 10, Value.int IntKind.i64 0, Value.slice (some { block := gb, off := gq }) 2 c], Value.bool tr, Value.pointer (some { block := hb, off := 0 }), Value.pointer (some { block := w.heap.size, off := 0 }), undef, Value.pointer (some { block := w.heap.size + 1, off := 0 }), Value.bool false, Value.pointer (some { block := V.heap.size + 1, off := 0 }), Value.pointer (some { block := V.heap.size, off := 0 }), Value.pointer (some { block := w.heap.size, off := 0 }), Value.int IntKind.i64 10, Value.bool true, Value.bool true, Value.pointer (some { block := w.heap.size, off := 0 }), Value.int IntKind.i64 10, Value.bool false, Value.bool false, undef, Value.pointer (some { block := w.heap.size, off := 2 }), Value.slice (some { block := gb, off := gq }) 2 c, Value.pointer (some { block := gb, off := gq }), Value.agg #[Value.int IntKind.i64 ka, Value.int IntKind.i64 na, Value.slice Aa la ca], Value.pointer (some { block := w.heap.size, off := 2 }), Value.slice (some { block := gb, off := gq }) 2 c, Value.pointer (some { block := gb, off := gq + 3 }), Value.agg #[Value.int IntKind.i64 kb, Value.int IntKind.i64 nb, Value.slice Ab lb cb], Value.bool false, Value.bool false, Value.bool false, undef, undef, undef, Value.bool false, undef, undef, undef, undef, undef, undef, undef, Value.bool false, Value.bool false, undef, undef, undef, undef, undef, undef, undef, Value.bool false, Value.pointer (some { block := w.heap.size, off := 0 }), Value.int IntKind.i64 10, Value.bool false, undef, undef, undef, undef, undef, undef, undef, undef, undef, undef, undef, undef, undef, y2 0, y2 1, y2 2, y2 3, y2 4, y2 5, y2 6, y2 7, y2 8, y2 9, y2 10, y2 11, y2 12], defers := [] }) (fun _ => undef) (fun i v W => Sh.ok (FN F w) W (([.tree ta, .tree tb, .row [ta, tb], .tree (.bin .less ta tb), .tree tb, .tree tb, .tree ta, .tree ta, .row [tb, ta], .tree (.bin .less tb ta), .row [(.bin .less ta tb), (.bin .less tb ta)], .tree (.bin .or (.bin .less ta tb) (.bin .less tb ta)), .tree (.not (.bin .or (.bin .less ta tb) (.bin .less tb ta)))] : List Sh).getD i .any) v) (fun i v W W' hK h => Sh.kept hK _ _ h) ?_ ?_
    · refine ⟨?_, ?_, ?_, ?_, ?_, ?_, ?_, ?_, ?_, ?_, ?_, ?_, ?_, trivial⟩
      · refine ⟨fun x v => rfl, fun y2 S W hK hall hdep K hcont => ?_⟩
        have HCONT := hide hcont
        have HKW := hide hK
        clear hcont hK hall hdep
        obtain ⟨qq0, qq1, qq2⟩ : _ ∧ _ ∧ _ := ⟨((unhide HBq).kept (unhide HKW) id).cell 0, ((unhide HBq).kept (unhide HKW) id).cell 1, ((unhide HBq).kept (unhide HKW) id).cell 2⟩
        rw [if_pos (by rfl)]
        go_simp
        exact unhide HCONT _ _ _ rfl (Kept.refl No _) ⟨_, _, _, _, _, rfl, (unhide Ha).kept (unhide HKW) (fun _ _ _ => id)⟩ (fun h => absurd h (by decide))
      · refine ⟨fun x v => rfl, fun y2 S W hK hall hdep K hcont => ?_⟩
        have HCONT := hide hcont
        have HKW := hide hK
        clear hcont hK hall hdep
        obtain ⟨pq0, pq1, pq2⟩ : _ ∧ _ ∧ _ := ⟨((unhide HBp).kept (unhide HKW) id).cell 0, ((unhide HBp).kept (unhide HKW) id).cell 1, ((unhide HBp).kept (unhide HKW) id).cell 2⟩
        rw [if_pos (by rfl)]
        go_simp
        exact unhide HCONT _ _ _ rfl (Kept.refl No _) ⟨_, _, _, _, _, rfl, (unhide Hb).kept (unhide HKW) (fun _ _ _ => id)⟩ (fun h => absurd h (by decide))
      · refine ⟨fun x v => rfl, fun y2 S W hK hall hdep K hcont => ?_⟩
        have HCONT := hide hcont
        have HKW := hide hK
        have d0 := hall 0 (by decide) (hdep ⟨0, Ground.data⟩ (by simp) rfl)
        have d1 := hall 1 (by decide) (hdep ⟨1, Ground.data⟩ (by simp) rfl)
        clear hcont hK hall hdep
        obtain ⟨k0, n0, A0, l0, c0, e0, r0⟩ := d0
        obtain ⟨k1, n1, A1, l1, c1, e1, r1⟩ := d1
        rw [if_pos (by rfl)]
        simp only [e0, e1]
        go_simp
        exact unhide HCONT _ _ _ (by (try simp only [e0, e1]); rfl) ((Kept.refl No _).alloc _) (row2_new r0 r1 ((unhide HC).go (unhide HKW)).hF) (fun h => absurd h (by decide))
      · refine ⟨fun x v => rfl, fun y2 S W hK hall hdep K hcont => ?_⟩
        have HCONT := hide hcont
        have HKW := hide hK
        have d2 := hall 2 (by decide) (hdep ⟨2, Ground.data⟩ (by simp) rfl)
        clear hcont hK hall hdep
        obtain ⟨b2, e2, f2, r2⟩ := d2
        rw [if_pos (by rfl)]
        simp only [e2]
        go_simp
        refine (op2_row .less (by rfl) _ b2 ta tb r2 f2).mono ?_
        rintro e w1 ⟨k_, n_, A_, l_, c_, rfl, hR1, hK1⟩
        exact unhide HCONT _ _ _ (by (try simp only [e2]); rfl) hK1 ⟨_, _, _, _, _, rfl, hR1⟩ (fun h => absurd h (by decide))
      · refine ⟨fun x v => rfl, fun y2 S W hK hall hdep K hcont => ?_⟩
        have HCONT := hide hcont
        have HKW := hide hK
        clear hcont hK hall hdep
        obtain ⟨pq0, pq1, pq2⟩ : _ ∧ _ ∧ _ := ⟨((unhide HBp).kept (unhide HKW) id).cell 0, ((unhide HBp).kept (unhide HKW) id).cell 1, ((unhide HBp).kept (unhide HKW) id).cell 2⟩
        rw [if_pos (by rfl)]
        go_simp
        exact unhide HCONT _ _ _ rfl (Kept.refl No _) ⟨_, _, _, _, _, rfl, (unhide Hb).kept (unhide HKW) (fun _ _ _ => id)⟩ (fun h => absurd h (by decide))
      · refine ⟨fun x v => rfl, fun y2 S W hK hall hdep K hcont => ?_⟩
        have HCONT := hide hcont
        have HKW := hide hK
        have d4 := hall 4 (by decide) (hdep ⟨4, Ground.data⟩ (by simp) rfl)
        clear hcont hK hall hdep
        obtain ⟨k4, n4, A4, l4, c4, e4, r4⟩ := d4
        rw [if_pos (by rfl)]
        simp only [e4]
        go_simp
        refine (rule_F tb k4 n4 A4 l4 c4 _ r4 ((unhide HC).go (unhide HKW)).hF).mono ?_
        rintro e w1 ⟨k_, n_, A_, l_, c_, rfl, hR1, hK1⟩
        exact unhide HCONT _ _ _ (by (try simp only [e4]); rfl) hK1 ⟨_, _, _, _, _, rfl, hR1⟩ (fun h => absurd h (by decide))
      · refine ⟨fun x v => rfl, fun y2 S W hK hall hdep K hcont => ?_⟩
        have HCONT := hide hcont
        have HKW := hide hK
        clear hcont hK hall hdep
        obtain ⟨qq0, qq1, qq2⟩ : _ ∧ _ ∧ _ := ⟨((unhide HBq).kept (unhide HKW) id).cell 0, ((unhide HBq).kept (unhide HKW) id).cell 1, ((unhide HBq).kept (unhide HKW) id).cell 2⟩
        rw [if_pos (by rfl)]
        go_simp
        exact unhide HCONT _ _ _ rfl (Kept.refl No _) ⟨_, _, _, _, _, rfl, (unhide Ha).kept (unhide HKW) (fun _ _ _ => id)⟩ (fun h => absurd h (by decide))
      · refine ⟨fun x v => rfl, fun y2 S W hK hall hdep K hcont => ?_⟩
        have HCONT := hide hcont
        have HKW := hide hK
        have d6 := hall 6 (by decide) (hdep ⟨6, Ground.data⟩ (by simp) rfl)
        clear hcont hK hall hdep
        obtain ⟨k6, n6, A6, l6, c6, e6, r6⟩ := d6
        rw [if_pos (by rfl)]
        simp only [e6]
        go_simp
        refine (rule_F ta k6 n6 A6 l6 c6 _ r6 ((unhide HC).go (unhide HKW)).hF).mono ?_
        rintro e w1 ⟨k_, n_, A_, l_, c_, rfl, hR1, hK1⟩
        exact unhide HCONT _ _ _ (by (try simp only [e6]); rfl) hK1 ⟨_, _, _, _, _, rfl, hR1⟩ (fun h => absurd h (by decide))
      · refine ⟨fun x v => rfl, fun y2 S W hK hall hdep K hcont => ?_⟩
        have HCONT := hide hcont
        have HKW := hide hK
        have d5 := hall 5 (by decide) (hdep ⟨5, Ground.data⟩ (by simp) rfl)
        have d7 := hall 7 (by decide) (hdep ⟨7, Ground.data⟩ (by simp) rfl)
        clear hcont hK hall hdep
        obtain ⟨k5, n5, A5, l5, c5, e5, r5⟩ := d5
        obtain ⟨k7, n7, A7, l7, c7, e7, r7⟩ := d7
        rw [if_pos (by rfl)]
        simp only [e5, e7]
        go_simp
        exact unhide HCONT _ _ _ (by (try simp only [e5, e7]); rfl) ((Kept.refl No _).alloc _) (row2_new r5 r7 ((unhide HC).go (unhide HKW)).hF) (fun h => absurd h (by decide))
      · refine ⟨fun x v => rfl, fun y2 S W hK hall hdep K hcont => ?_⟩
        have HCONT := hide hcont
        have HKW := hide hK
        have d8 := hall 8 (by decide) (hdep ⟨8, Ground.data⟩ (by simp) rfl)
        clear hcont hK hall hdep
        obtain ⟨b8, e8, f8, r8⟩ := d8
        rw [if_pos (by rfl)]
        simp only [e8]
        go_simp
        refine (op2_row .less (by rfl) _ b8 tb ta r8 f8).mono ?_
        rintro e w1 ⟨k_, n_, A_, l_, c_, rfl, hR1, hK1⟩
        exact unhide HCONT _ _ _ (by (try simp only [e8]); rfl) hK1 ⟨_, _, _, _, _, rfl, hR1⟩ (fun h => absurd h (by decide))
      · refine ⟨fun x v => rfl, fun y2 S W hK hall hdep K hcont => ?_⟩
        have HCONT := hide hcont
        have HKW := hide hK
        have d3 := hall 3 (by decide) (hdep ⟨3, Ground.data⟩ (by simp) rfl)
        have d9 := hall 9 (by decide) (hdep ⟨9, Ground.data⟩ (by simp) rfl)
        clear hcont hK hall hdep
        obtain ⟨k3, n3, A3, l3, c3, e3, r3⟩ := d3
        obtain ⟨k9, n9, A9, l9, c9, e9, r9⟩ := d9
        rw [if_pos (by rfl)]
        simp only [e3, e9]
        go_simp
        exact unhide HCONT _ _ _ (by (try simp only [e3, e9]); rfl) ((Kept.refl No _).alloc _) (row2_new r3 r9 ((unhide HC).go (unhide HKW)).hF) (fun h => absurd h (by decide))
      · refine ⟨fun x v => rfl, fun y2 S W hK hall hdep K hcont => ?_⟩
        have HCONT := hide hcont
        have HKW := hide hK
        have d10 := hall 10 (by decide) (hdep ⟨10, Ground.data⟩ (by simp) rfl)
        clear hcont hK hall hdep
        obtain ⟨b10, e10, f10, r10⟩ := d10
        rw [if_pos (by rfl)]
        simp only [e10]
        go_simp
        refine (op2_row .or (by rfl) _ b10 (.bin .less ta tb) (.bin .less tb ta) r10 f10).mono ?_
        rintro e w1 ⟨k_, n_, A_, l_, c_, rfl, hR1, hK1⟩
        exact unhide HCONT _ _ _ (by (try simp only [e10]); rfl) hK1 ⟨_, _, _, _, _, rfl, hR1⟩ (fun h => absurd h (by decide))
      · refine ⟨fun x v => rfl, fun y2 S W hK hall hdep K hcont => ?_⟩
        have HCONT := hide hcont
        have HKW := hide hK
        have d11 := hall 11 (by decide) (hdep ⟨11, Ground.data⟩ (by simp) rfl)
        clear hcont hK hall hdep
        obtain ⟨k11, n11, A11, l11, c11, e11, r11⟩ := d11
        rw [if_pos (by rfl)]
        simp only [e11]
        go_simp
        refine (none_F (.bin .or (.bin .less ta tb) (.bin .less tb ta)) k11 n11 A11 l11 c11 _ r11 ((unhide HC).go (unhide HKW)).hF).mono ?_
        rintro e w1 ⟨k_, n_, A_, l_, c_, rfl, hR1, hK1⟩
        exact unhide HCONT _ _ _ (by (try simp only [e11]); rfl) hK1 ⟨_, _, _, _, _, rfl, hR1⟩ (fun h => absurd h (by decide))
    · intro y2 W4 hK hx hD
      obtain ⟨k4, n4, A4, l4, c4, e4, r4⟩ := hx 12 (by decide)
      have hvz := (unhide HC).z.lt
      have Ha := hide ((unhide Ha).kept hK (fun _ _ _ => id))
      have Hb := hide ((unhide Hb).kept hK (fun _ _ _ => id))
      have HC := hide ((unhide HC).go hK)
      have H4 := hide r4
      clear r4
      simp only [e4, List.drop]
      clear hK hx hD hvz e4
      obtain ⟨f0, f1, f2, z0, z1, z2, hlt⟩ := (unhide HC).zs
      go_wp2_with fail
      refine bodyPost_ret (v := .tuple #[.agg #[.int .i64 k4, .int .i64 n4, .slice A4 l4 c4], .bool true]) (by simp [results, Tryd.results24, go_sem, z0, z1, z2]) rfl ?_
      exact (unhide HC).made (unhide H4)
set_option maxRecDepth 100000 in
set_option maxHeartbeats 4000000 in
theorem cmp_no (hb : Nat) (w : World) (k n : Int) (A : Option Addr) (l c : Nat) (tr : Bool)  (h9 : k ≠ 9) (h10 : k ≠ 10) :
    Calls Tryd.prog 24 #[.agg #[.int .i64 k, .int .i64 n, .slice A l c], .bool tr, .pointer (some ⟨hb, 0, none⟩)] w (MadeNo w) := by
  have d9 : (k == 9) = false := by rw [beq_eq_false_iff_ne]; exact h9
  have e9 : (k != 9) = true := by rw [bne_iff_ne]; exact h9
  have d10 : (k == 10) = false := by rw [beq_eq_false_iff_ne]; exact h10
  have e10 : (k != 10) = true := by rw [bne_iff_ne]; exact h10
  clear h9 h10
  go_enter Tryd.func24, Tryd.ntmps24
  go_wp2_with fail
  refine bodyPost_ret (v := .tuple #[.agg #[.int .i64 k, .int .i64 n, .slice A l c], .bool false]) (by simp [results, Tryd.results24, go_sem]) rfl ?_
  exact ⟨k, n, A, l, c, rfl, ((Kept.refl No w).alloc _).alloc _⟩

theorem cmp_by (d : Bool) (hb : Nat) (w0 : World) (hH : Blk w0 hb 4 #[.bool d]) : ByOk 24 #[.pointer (some ⟨hb, 0, none⟩)] w0 (byCmp d) := by
  intro w F k n A l c t tr _ hK hr
  have hk : k = t.code := by have := hr.k_eq.1; rwa [E.r_k] at this
  have no : k ≠ 9 → k ≠ 10 → byCmp d t tr = none → Calls Tryd.prog 24 (#[.agg #[.int .i64 k, .int .i64 n, .slice A l c], .bool tr] ++ #[.pointer (some ⟨hb, 0, none⟩)]) w (ByPost w F (byCmp d t tr)) := fun h1 h2 hn =>
    (cmp_no hb w k n A l c tr h1 h2).mono fun _ _ h => no_by h hn
  cases t with
  | num m => exact no (by rw [hk]; simp [E.code]) (by rw [hk]; simp [E.code]) rfl
  | year => exact no (by rw [hk]; simp [E.code]) (by rw [hk]; simp [E.code]) rfl
  | neg a => exact no (by rw [hk]; simp [E.code]) (by rw [hk]; simp [E.code]) rfl
  | not a => exact no (by rw [hk]; simp [E.code]) (by rw [hk]; simp [E.code]) rfl
  | bin o a b =>
    cases o
    case less =>
      cases hd : d
      · subst hd; exact (cmp_less_n _ hb w0 w F k n A l c a b tr hK hr hH rfl).mono fun _ _ h => made_by h rfl
      · subst hd; exact (cmp_less_d _ hb w0 w F k n A l c a b tr hK hr hH rfl).mono fun _ _ h => made_by h rfl
    case same =>
      cases hd : d
      · subst hd; exact (cmp_same_n _ hb w0 w F k n A l c a b tr hK hr hH rfl).mono fun _ _ h => made_by h rfl
      · subst hd; exact (cmp_same_d _ hb w0 w F k n A l c a b tr hK hr hH rfl).mono fun _ _ h => made_by h rfl
    all_goals exact no (by rw [hk]; simp [E.code, O2.code]) (by rw [hk]; simp [E.code, O2.code]) rfl

set_option maxRecDepth 100000 in
set_option maxHeartbeats 4000000 in
theorem cmp_top (r : R) (k n : Int) (A : Option Addr) (l c : Nat) (y which : Int) (d : Bool) (GB : Nat) (w : World) (F : Nat → Prop) (hr : Rd w F k n A l r) (hG : Glob GB w) (hGB : GB ≤ w.heap.size) :
    Calls Tryd.prog 5 #[.agg #[.int .i64 k, .int .i64 n, .slice A l c], .int .i64 y, .int .i64 which, .bool d] w (YearPost w) := by
  have hentN : ∀ (args : Array Value) (w : World), (callFunc 24 args).run Tryd.prog w = .ok (.enter 24 args) w := by intro args w; go_simp
  have hent43 : ∀ (args : Array Value) (w : World), (callFunc 43 args).run Tryd.prog w = .ok (.enter 43 args) w := by intro args w; go_simp
  have hmf : ∀ (fn : Fn) (first cap : Array Value) (w : World), (Instr.makeFunc fn first cap).run Tryd.prog w = .ok (.func fn first cap) w := fun _ _ _ _ => rfl
  have HR := hide hr
  have HG := hide hG
  have HE1 := hide hentN
  have HE2 := hide hent43
  clear hr hG hentN hent43
  go_enter Tryd.func5, Tryd.ntmps5
  go_wp2_with fail
  have HK := hide (((Kept.refl No w).alloc (.cells #[.int .i64 k, .int .i64 n, .slice A l c] 24)).alloc (.cells #[.bool d] 4))
  have HX := hide ((Blk.new w 24 #[.int .i64 k, .int .i64 n, .slice A l c]).alloc (.cells #[.bool d] 4))
  have HH0 := hide (Blk.at_ (w := (w.alloc (.cells #[.int .i64 k, .int .i64 n, .slice A l c] 24))) (t := 4) (cs := #[.bool d]) (n := w.heap.size + 1) (by simp))
  generalize ((w.alloc (.cells #[.int .i64 k, .int .i64 n, .slice A l c] 24)).alloc (.cells #[.bool d] 4)) = V at HK HX HH0 ⊢
  have KS := hide (show ∀ w', Kept No V w' → (w'.cell? ⟨w.heap.size, 0, none⟩ = some (.int .i64 k) ∧ w'.cell? ⟨w.heap.size, 1, none⟩ = some (.int .i64 n) ∧ w'.cell? ⟨w.heap.size, 2, none⟩ = some (.slice A l c)) from fun w' hk => ⟨((unhide HX).kept hk id).cell 0, ((unhide HX).kept hk id).cell 1, ((unhide HX).kept hk id).cell 2⟩)
  have HV := hide (Kept.refl No V).drew
  go_region_held3 (fun w' => w'.cell? ⟨w.heap.size, 0, none⟩ = some (.int .i64 k) ∧ w'.cell? ⟨w.heap.size, 1, none⟩ = some (.int .i64 n) ∧ w'.cell? ⟨w.heap.size, 2, none⟩ = some (.slice A l c))
    (first | exact unhide KS _ (unhide HV))
    (first
      | (go_at_call 16; refine (put_any which 24 _ _).mono ?_; rintro e w1 ⟨fb, xb, rfl, hfb, hxb, hK1⟩; have HFB := hide hfb; have HXB := hide hxb; have HK := hide ((unhide HK).trans ((unhide HV).trans hK1 (fun _ _ h => h)) (fun _ _ h => h)); have HH0 := hide (((unhide HH0).kept (unhide HV) id).kept hK1 id); have HV := hide ((unhide HV).trans hK1 (fun _ _ h => h)); clear hfb hxb hK1)
      | (go_at_call 15; refine (year_any r k n A l c y 43 GB _ _ F ((unhide HR).kept (unhide HK) (fun _ _ _ => id)) ((unhide HG).kept0 (unhide HK) hGB) (Nat.le_trans hGB (unhide HK).size) (fun t v _ hev => put_law 24 _ _ _ _ which (byCmp d) t y v (unhide HFB) (unhide HXB) (unhide HE1) (cmp_by d _ _ (unhide HH0)) (law_cmp d) hev) (unhide HE2)).mono ?_; rintro e w2 ⟨rfl, hK2⟩; have HK := hide ((unhide HK).trans hK2 (fun _ _ h => h)); have HV := hide ((unhide HV).trans hK2 (fun _ _ h => h)); clear hK2))
  go_wp2_with fail
  go_ret
  exact ⟨rfl, unhide HK⟩

end Go.Proofs.YtmjmcjcckncplaaDoor
