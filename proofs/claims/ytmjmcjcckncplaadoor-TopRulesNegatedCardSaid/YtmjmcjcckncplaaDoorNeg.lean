/- TopRulesNegated: its closure (function 17), its root (function 3). -/
import Derived.Test.YtmjmcjcckncplaaDoorCtx
import Derived.Test.YtmjmcjcckncplaaDoorLaws
import Derived.Deep.RegionHeld3
import Derived.Test.YtmjmcjcckncplaaDoorAll
namespace Go.Proofs.YtmjmcjcckncplaaDoor
open Go.RowKit Go.BigFrame

set_option maxRecDepth 100000 in
set_option maxHeartbeats 4000000 in
theorem neg_twice (hw : Int) (hb : Nat) (w0 w : World) (F : Nat → Prop) (k n : Int) (A : Option Addr) (l c : Nat) (t : E) (tr : Bool) (hK0 : Kept No w0 w) (hH : Blk w0 hb 3 #[.int .i64 hw]) (hr : Rd w F k n A l (t).r) (hp : pickF hw 3 = 0) :
    Calls Tryd.prog 17 #[.agg #[.int .i64 k, .int .i64 n, .slice A l c], .bool tr, .pointer (some ⟨hb, 0, none⟩)] w (Made w F (.neg (.neg t))) := by
  have hB := hH.kept hK0 id
  have h0 : w.cell? ⟨hb, 0, none⟩ = some (.int .i64 hw) := hB.cell 0
  have hbw := hB.lt
  have HP := hide hp
  have HR := hide hr
  clear hB hr hp hH hK0
  go_enter Tryd.func17, Tryd.ntmps17
  go_wp2_with (go_at_call 20; refine (pick_any hw 3 (by omega) (by omega) _).mono ?_; rintro e w4 ⟨rfl, rfl⟩; rw [unhide HP])
  have HC := hide (Ctx.start w k n A l c)
  generalize (w.alloc (.cells #[.int .i64 k, .int .i64 n, .slice A l c] 24)).alloc (.cells #[.int .i64 0, .int .i64 0, .slice none 0 0] 24) = V at HC ⊢
  have Ht := hide (rd_in (unhide HR) (unhide HC).kept)
  refine (neg_F t k n A l c _ (unhide Ht) (unhide HC).hF).mono ?_; rintro e w1 ⟨k1, n1, A1, l1, c1, rfl, hR1, hK1⟩; have HC := hide ((unhide HC).go hK1); have H1 := hide hR1; clear hR1 hK1
  go_wp2_with fail
  refine (neg_F (.neg t) k1 n1 A1 l1 c1 _ (unhide H1) (unhide HC).hF).mono ?_; rintro e w2 ⟨k2, n2, A2, l2, c2, rfl, hR2, hK2⟩; have HC := hide ((unhide HC).go hK2); have H2 := hide hR2; clear hR2 hK2
  obtain ⟨f0, f1, f2, z0, z1, z2, hlt⟩ := (unhide HC).zs
  go_wp2_with fail
  refine bodyPost_ret (v := .tuple #[.agg #[.int .i64 k2, .int .i64 n2, .slice A2 l2 c2], .bool true]) (by simp [results, Tryd.results17, go_sem, z0, z1, z2]) rfl ?_
  exact (unhide HC).made (unhide H2)
set_option maxRecDepth 100000 in
set_option maxHeartbeats 4000000 in
theorem neg_sub1 (hw : Int) (hb : Nat) (w0 w : World) (F : Nat → Prop) (k n : Int) (A : Option Addr) (l c : Nat) (ta tb : E) (tr : Bool) (hK0 : Kept No w0 w) (hH : Blk w0 hb 3 #[.int .i64 hw]) (hr : Rd w F k n A l (E.bin .sub ta tb).r) (hp : pickF hw 3 = 1) :
    Calls Tryd.prog 17 #[.agg #[.int .i64 k, .int .i64 n, .slice A l c], .bool tr, .pointer (some ⟨hb, 0, none⟩)] w (Made w F (.bin .add ta (.neg tb))) := by
  have hB := hH.kept hK0 id
  have h0 : w.cell? ⟨hb, 0, none⟩ = some (.int .i64 hw) := hB.cell 0
  have hbw := hB.lt
  have HP := hide hp
  obtain ⟨rfl, rfl, rfl, gb, gq, ka, na, Aa, la, ca, kb, nb, Ab, lb, cb, rfl, h6, hra, hrb⟩ := open_bin (o := .sub) (kc := 5) (by rfl) hr
  have H6 := hide h6
  have HA0 := hide hra
  have HB0 := hide hrb
  clear hB hr hp hH hK0 h6 hra hrb
  go_enter Tryd.func17, Tryd.ntmps17
  go_wp2_with (go_at_call 20; refine (pick_any hw 3 (by omega) (by omega) _).mono ?_; rintro e w4 ⟨rfl, rfl⟩; rw [unhide HP])
  have HC := hide (Ctx.start w 5 0 (some ⟨gb, gq, none⟩) 2 c)
  generalize (w.alloc (.cells #[.int .i64 5, .int .i64 0, .slice (some ⟨gb, gq, none⟩) 2 c] 24)).alloc (.cells #[.int .i64 0, .int .i64 0, .slice none 0 0] 24) = V at HC ⊢
  have Ha := hide (rd_in (unhide HA0) (unhide HC).kept)
  have Hb := hide (rd_in (unhide HB0) (unhide HC).kept)
  have KS := hide (show ∀ w', Kept (One (w.heap.size + 1)) V w' → (w'.cell? ⟨w.heap.size, 0, none⟩ = some (.int .i64 5) ∧ w'.cell? ⟨w.heap.size, 2, none⟩ = some (.slice (some ⟨gb, gq, none⟩) 2 c) ∧ w'.cell? ⟨gb, gq, none⟩ = some (.int .i64 ka) ∧ w'.cell? ⟨gb, gq + 1, none⟩ = some (.int .i64 na) ∧ w'.cell? ⟨gb, gq + 2, none⟩ = some (.slice Aa la ca) ∧ w'.cell? ⟨gb, gq + 3, none⟩ = some (.int .i64 kb) ∧ w'.cell? ⟨gb, gq + 4, none⟩ = some (.int .i64 nb) ∧ w'.cell? ⟨gb, gq + 5, none⟩ = some (.slice Ab lb cb)) from fun w' hk =>
    have hx := (unhide HC).x.kept hk (one_ne (by omega))
    have hk6 := ((unhide H6).kept (unhide HC).kept id).kept hk (one_ne (by have := (unhide H6).lt; omega))
    ⟨hx.cell 0, hx.cell 2, hk6⟩)
  have HV := hide ((Kept.refl (One (w.heap.size + 1)) V).drew)
  have HC := hide ((unhide HC).go (Kept.refl No V).drew)
  have Ha := hide ((unhide Ha).kept (Kept.refl No V).drew (fun _ _ _ => id))
  have Hb := hide ((unhide Hb).kept (Kept.refl No V).drew (fun _ _ _ => id))
  go_region_held3 (fun w' => w'.cell? ⟨w.heap.size, 0, none⟩ = some (.int .i64 5) ∧ w'.cell? ⟨w.heap.size, 2, none⟩ = some (.slice (some ⟨gb, gq, none⟩) 2 c) ∧ w'.cell? ⟨gb, gq, none⟩ = some (.int .i64 ka) ∧ w'.cell? ⟨gb, gq + 1, none⟩ = some (.int .i64 na) ∧ w'.cell? ⟨gb, gq + 2, none⟩ = some (.slice Aa la ca) ∧ w'.cell? ⟨gb, gq + 3, none⟩ = some (.int .i64 kb) ∧ w'.cell? ⟨gb, gq + 4, none⟩ = some (.int .i64 nb) ∧ w'.cell? ⟨gb, gq + 5, none⟩ = some (.slice Ab lb cb))
    (first
      | exact unhide KS _ (unhide HV)
      | exact unhide KS _ ((unhide HV).alloc _)
      | exact unhide KS _ ((((unhide HV).one 0 _).one 1 _).one 2 _)
      | exact unhide KS _ (((unhide HV).one 0 _).one 1 _)
      | exact unhide KS _ ((unhide HV).one 0 _))
    (first
      | (refine (neg_F tb kb nb Ab lb cb _ (unhide Hb) (unhide HC).hF).mono ?_; rintro e w1 ⟨k1, n1, A1, l1, c1, rfl, hR1, hK1⟩; have HC := hide ((unhide HC).go hK1); have Ha := hide ((unhide Ha).kept hK1 (fun _ _ _ => id)); have HV := hide ((unhide HV).trans hK1 (fun _ _ h => h.elim)); have H1 := hide hR1; clear hR1 hK1)
      | (go_at_call 19; refine (op2_at .add (by rfl) _ ta (.neg tb) ka na Aa la ca k1 n1 A1 l1 c1 (unhide Ha) (unhide H1) ((unhide HC).hF _ (Nat.le_refl _))).mono ?_; rintro e w2 ⟨k2, n2, A2, l2, c2, rfl, hR2, hK2⟩; have HC := hide ((unhide HC).go hK2); have HV := hide ((unhide HV).trans hK2 (fun _ _ h => h.elim)); have H2 := hide hR2; clear hR2 hK2; obtain ⟨f0, f1, f2, z0, z1, z2, hlt⟩ := (unhide HC).zs))
  go_wp2_with fail
  refine bodyPost_ret (v := .tuple #[.agg #[.int .i64 k2, .int .i64 n2, .slice A2 l2 c2], .bool true]) (by simp [results, Tryd.results17, go_sem, z0, z1, z2]) rfl ?_
  exact (unhide HC).made (unhide H2)
set_option maxRecDepth 100000 in
set_option maxHeartbeats 4000000 in
theorem neg_sub2 (hw : Int) (hb : Nat) (w0 w : World) (F : Nat → Prop) (k n : Int) (A : Option Addr) (l c : Nat) (ta tb : E) (tr : Bool) (hK0 : Kept No w0 w) (hH : Blk w0 hb 3 #[.int .i64 hw]) (hr : Rd w F k n A l (E.bin .sub ta tb).r) (hp : pickF hw 3 = 2) :
    Calls Tryd.prog 17 #[.agg #[.int .i64 k, .int .i64 n, .slice A l c], .bool tr, .pointer (some ⟨hb, 0, none⟩)] w (Made w F (.neg (.bin .sub tb ta))) := by
  have hB := hH.kept hK0 id
  have h0 : w.cell? ⟨hb, 0, none⟩ = some (.int .i64 hw) := hB.cell 0
  have hbw := hB.lt
  have HP := hide hp
  obtain ⟨rfl, rfl, rfl, gb, gq, ka, na, Aa, la, ca, kb, nb, Ab, lb, cb, rfl, h6, hra, hrb⟩ := open_bin (o := .sub) (kc := 5) (by rfl) hr
  have H6 := hide h6
  have HA0 := hide hra
  have HB0 := hide hrb
  clear hB hr hp hH hK0 h6 hra hrb
  go_enter Tryd.func17, Tryd.ntmps17
  go_wp2_with (go_at_call 20; refine (pick_any hw 3 (by omega) (by omega) _).mono ?_; rintro e w4 ⟨rfl, rfl⟩; rw [unhide HP])
  have HC := hide (Ctx.start w 5 0 (some ⟨gb, gq, none⟩) 2 c)
  generalize (w.alloc (.cells #[.int .i64 5, .int .i64 0, .slice (some ⟨gb, gq, none⟩) 2 c] 24)).alloc (.cells #[.int .i64 0, .int .i64 0, .slice none 0 0] 24) = V at HC ⊢
  have Ha := hide (rd_in (unhide HA0) (unhide HC).kept)
  have Hb := hide (rd_in (unhide HB0) (unhide HC).kept)
  have KS := hide (show ∀ w', Kept (One (w.heap.size + 1)) V w' → (w'.cell? ⟨w.heap.size, 0, none⟩ = some (.int .i64 5) ∧ w'.cell? ⟨w.heap.size, 2, none⟩ = some (.slice (some ⟨gb, gq, none⟩) 2 c) ∧ w'.cell? ⟨gb, gq, none⟩ = some (.int .i64 ka) ∧ w'.cell? ⟨gb, gq + 1, none⟩ = some (.int .i64 na) ∧ w'.cell? ⟨gb, gq + 2, none⟩ = some (.slice Aa la ca) ∧ w'.cell? ⟨gb, gq + 3, none⟩ = some (.int .i64 kb) ∧ w'.cell? ⟨gb, gq + 4, none⟩ = some (.int .i64 nb) ∧ w'.cell? ⟨gb, gq + 5, none⟩ = some (.slice Ab lb cb)) from fun w' hk =>
    have hx := (unhide HC).x.kept hk (one_ne (by omega))
    have hk6 := ((unhide H6).kept (unhide HC).kept id).kept hk (one_ne (by have := (unhide H6).lt; omega))
    ⟨hx.cell 0, hx.cell 2, hk6⟩)
  have HV := hide ((Kept.refl (One (w.heap.size + 1)) V).drew)
  have HC := hide ((unhide HC).go (Kept.refl No V).drew)
  have Ha := hide ((unhide Ha).kept (Kept.refl No V).drew (fun _ _ _ => id))
  have Hb := hide ((unhide Hb).kept (Kept.refl No V).drew (fun _ _ _ => id))
  go_region_held3 (fun w' => w'.cell? ⟨w.heap.size, 0, none⟩ = some (.int .i64 5) ∧ w'.cell? ⟨w.heap.size, 2, none⟩ = some (.slice (some ⟨gb, gq, none⟩) 2 c) ∧ w'.cell? ⟨gb, gq, none⟩ = some (.int .i64 ka) ∧ w'.cell? ⟨gb, gq + 1, none⟩ = some (.int .i64 na) ∧ w'.cell? ⟨gb, gq + 2, none⟩ = some (.slice Aa la ca) ∧ w'.cell? ⟨gb, gq + 3, none⟩ = some (.int .i64 kb) ∧ w'.cell? ⟨gb, gq + 4, none⟩ = some (.int .i64 nb) ∧ w'.cell? ⟨gb, gq + 5, none⟩ = some (.slice Ab lb cb))
    (first
      | exact unhide KS _ (unhide HV)
      | exact unhide KS _ ((unhide HV).alloc _)
      | exact unhide KS _ ((((unhide HV).one 0 _).one 1 _).one 2 _)
      | exact unhide KS _ (((unhide HV).one 0 _).one 1 _)
      | exact unhide KS _ ((unhide HV).one 0 _))
    (first
      | (go_at_call 19; refine (op2_at .sub (by rfl) _ tb ta kb nb Ab lb cb ka na Aa la ca (unhide Hb) (unhide Ha) ((unhide HC).hF _ (Nat.le_refl _))).mono ?_; rintro e w1 ⟨k1, n1, A1, l1, c1, rfl, hR1, hK1⟩; have HC := hide ((unhide HC).go hK1); have HV := hide ((unhide HV).trans hK1 (fun _ _ h => h.elim)); have H1 := hide hR1; clear hR1 hK1)
      | (refine (neg_F (.bin .sub tb ta) k1 n1 A1 l1 c1 _ (unhide H1) (unhide HC).hF).mono ?_; rintro e w2 ⟨k2, n2, A2, l2, c2, rfl, hR2, hK2⟩; have HC := hide ((unhide HC).go hK2); have HV := hide ((unhide HV).trans hK2 (fun _ _ h => h.elim)); have H2 := hide hR2; clear hR2 hK2; obtain ⟨f0, f1, f2, z0, z1, z2, hlt⟩ := (unhide HC).zs))
  go_wp2_with fail
  refine bodyPost_ret (v := .tuple #[.agg #[.int .i64 k2, .int .i64 n2, .slice A2 l2 c2], .bool true]) (by simp [results, Tryd.results17, go_sem, z0, z1, z2]) rfl ?_
  exact (unhide HC).made (unhide H2)
set_option maxRecDepth 100000 in
set_option maxHeartbeats 4000000 in
theorem neg_neg (hw : Int) (hb : Nat) (w0 w : World) (F : Nat → Prop) (k n : Int) (A : Option Addr) (l c : Nat) (ta : E) (tr : Bool) (hK0 : Kept No w0 w) (hH : Blk w0 hb 3 #[.int .i64 hw]) (hr : Rd w F k n A l (E.neg ta).r) (hp : pickF hw 3 ≠ 0) :
    Calls Tryd.prog 17 #[.agg #[.int .i64 k, .int .i64 n, .slice A l c], .bool tr, .pointer (some ⟨hb, 0, none⟩)] w (Made w F (.bin .sub (.num 0) ta)) := by
  have hp3 : ((3 : Int) == 5) = false := rfl
  have hB := hH.kept hK0 id
  have h0 : w.cell? ⟨hb, 0, none⟩ = some (.int .i64 hw) := hB.cell 0
  have hbw := hB.lt
  have hq : (pickF hw 3 == 0) = false := by rw [beq_eq_false_iff_ne]; exact hp
  obtain ⟨rfl, rfl, rfl, gb, gq, ka, na, Aa, la, ca, rfl, h3, hra⟩ := open_neg hr
  have H3 := hide h3
  have HA0 := hide hra
  clear hB hr hp hH hK0 h3 hra
  generalize hpe : pickF hw 3 = pv at hq
  have HP := hide hpe
  clear hpe
  go_enter Tryd.func17, Tryd.ntmps17
  go_wp2_with (go_at_call 20; refine (pick_any hw 3 (by omega) (by omega) _).mono ?_; rintro e w4 ⟨rfl, rfl⟩; rw [unhide HP])
  have HC := hide (Ctx.start w 3 0 (some ⟨gb, gq, none⟩) 1 c)
  generalize (w.alloc (.cells #[.int .i64 3, .int .i64 0, .slice (some ⟨gb, gq, none⟩) 1 c] 24)).alloc (.cells #[.int .i64 0, .int .i64 0, .slice none 0 0] 24) = V at HC ⊢
  have Ha := hide (rd_in (unhide HA0) (unhide HC).kept)
  have KS := hide (show ∀ w', Kept (One (w.heap.size + 1)) V w' → (w'.cell? ⟨w.heap.size, 0, none⟩ = some (.int .i64 3) ∧ w'.cell? ⟨w.heap.size, 2, none⟩ = some (.slice (some ⟨gb, gq, none⟩) 1 c) ∧ w'.cell? ⟨gb, gq, none⟩ = some (.int .i64 ka) ∧ w'.cell? ⟨gb, gq + 1, none⟩ = some (.int .i64 na) ∧ w'.cell? ⟨gb, gq + 2, none⟩ = some (.slice Aa la ca)) from fun w' hk =>
    have hx := (unhide HC).x.kept hk (one_ne (by omega))
    have hk3 := C3.kept (C3.kept (unhide H3) (unhide HC).kept id) hk (one_ne (by have h : gb < w.heap.size := World.block_lt_of_cell? w _ (unhide H3).1; omega))
    ⟨hx.cell 0, hx.cell 2, hk3⟩)
  have HV := hide ((Kept.refl (One (w.heap.size + 1)) V).drew)
  have HC := hide ((unhide HC).go (Kept.refl No V).drew)
  have Ha := hide ((unhide Ha).kept (Kept.refl No V).drew (fun _ _ _ => id))
  go_region_held3 (fun w' => w'.cell? ⟨w.heap.size, 0, none⟩ = some (.int .i64 3) ∧ w'.cell? ⟨w.heap.size, 2, none⟩ = some (.slice (some ⟨gb, gq, none⟩) 1 c) ∧ w'.cell? ⟨gb, gq, none⟩ = some (.int .i64 ka) ∧ w'.cell? ⟨gb, gq + 1, none⟩ = some (.int .i64 na) ∧ w'.cell? ⟨gb, gq + 2, none⟩ = some (.slice Aa la ca))
    (first
      | exact unhide KS _ (unhide HV)
      | exact unhide KS _ ((unhide HV).alloc _)
      | exact unhide KS _ ((((unhide HV).one 0 _).one 1 _).one 2 _)
      | exact unhide KS _ (((unhide HV).one 0 _).one 1 _)
      | exact unhide KS _ ((unhide HV).one 0 _))
    (first
      | (go_at_call 21; refine (num_any 0 _).mono ?_; rintro e wm ⟨rfl, hKm⟩; have HC := hide ((unhide HC).go hKm); have Ha := hide ((unhide Ha).kept hKm (fun _ _ _ => id)); have HV := hide ((unhide HV).trans hKm (fun _ _ h => h.elim)); clear hKm)
      | (go_at_call 19; refine (op2_at .sub (by rfl) _ (.num 0) ta 1 0 none 0 0 ka na Aa la ca (num_rd _ _ _) (unhide Ha) ((unhide HC).hF _ (Nat.le_refl _))).mono ?_; rintro e w2 ⟨k2, n2, A2, l2, c2, rfl, hR2, hK2⟩; have HC := hide ((unhide HC).go hK2); have HV := hide ((unhide HV).trans hK2 (fun _ _ h => h.elim)); have H2 := hide hR2; clear hR2 hK2; obtain ⟨f0, f1, f2, z0, z1, z2, hlt⟩ := (unhide HC).zs))
  go_wp2_with fail
  refine bodyPost_ret (v := .tuple #[.agg #[.int .i64 k2, .int .i64 n2, .slice A2 l2 c2], .bool true]) (by simp [results, Tryd.results17, go_sem, z0, z1, z2]) rfl ?_
  exact (unhide HC).made (unhide H2)
set_option maxRecDepth 100000 in
set_option maxHeartbeats 4000000 in
theorem neg_no (hw : Int) (hb : Nat) (w0 w : World) (k n : Int) (A : Option Addr) (l c : Nat) (tr : Bool) (hK0 : Kept No w0 w) (hH : Blk w0 hb 3 #[.int .i64 hw]) (hp : pickF hw 3 ≠ 0) (hk5 : k ≠ 5) (hk3 : k ≠ 3) :
    Calls Tryd.prog 17 #[.agg #[.int .i64 k, .int .i64 n, .slice A l c], .bool tr, .pointer (some ⟨hb, 0, none⟩)] w (MadeNo w) := by
  have hB := hH.kept hK0 id
  have h0 : w.cell? ⟨hb, 0, none⟩ = some (.int .i64 hw) := hB.cell 0
  have hbw := hB.lt
  have hq : (pickF hw 3 == 0) = false := by rw [beq_eq_false_iff_ne]; exact hp
  have d5 : (k == 5) = false := by rw [beq_eq_false_iff_ne]; exact hk5
  have d3 : (k == 3) = false := by rw [beq_eq_false_iff_ne]; exact hk3
  clear hB hp hH hK0 hk5 hk3
  generalize hpe : pickF hw 3 = pv at hq
  have HP := hide hpe
  clear hpe
  go_enter Tryd.func17, Tryd.ntmps17
  go_wp2_with (go_at_call 20; refine (pick_any hw 3 (by omega) (by omega) _).mono ?_; rintro e w4 ⟨rfl, rfl⟩; rw [unhide HP])
  refine bodyPost_ret (v := .tuple #[.agg #[.int .i64 k, .int .i64 n, .slice A l c], .bool false]) (by simp [results, Tryd.results17, go_sem]) rfl ?_
  exact ⟨k, n, A, l, c, rfl, ((Kept.refl No w).alloc _).alloc _⟩

end Go.Proofs.YtmjmcjcckncplaaDoor

namespace Go.Proofs.YtmjmcjcckncplaaDoor
open Go.RowKit Go.BigFrame

theorem neg_by (hw : Int) (hb : Nat) (w0 : World) (hH : Blk w0 hb 3 #[.int .i64 hw]) : ByOk 17 #[.pointer (some ⟨hb, 0, none⟩)] w0 (byNeg (pickF hw 3)) := by
  intro w F k n A l c t tr _ hK hr
  by_cases h0 : pickF hw 3 = 0
  · exact (neg_twice hw hb w0 w F k n A l c t tr hK hH hr h0).mono fun _ _ h => made_by h (by simp [byNeg, h0])
  · have no : k ≠ 5 → k ≠ 3 → byNeg (pickF hw 3) t tr = none → Calls Tryd.prog 17 (#[.agg #[.int .i64 k, .int .i64 n, .slice A l c], .bool tr] ++ #[.pointer (some ⟨hb, 0, none⟩)]) w (ByPost w F (byNeg (pickF hw 3) t tr)) := fun h5 h3 hn =>
      (neg_no hw hb w0 w k n A l c tr hK hH h0 h5 h3).mono fun _ _ h => no_by h hn
    have hk : k = t.code := by have := hr.k_eq.1; rwa [E.r_k] at this
    cases t with
    | num m => exact no (by rw [hk]; simp [E.code]) (by rw [hk]; simp [E.code]) (by simp [byNeg, h0])
    | year => exact no (by rw [hk]; simp [E.code]) (by rw [hk]; simp [E.code]) (by simp [byNeg, h0])
    | neg a => exact (neg_neg hw hb w0 w F k n A l c a tr hK hH hr h0).mono fun _ _ h => made_by h (by simp [byNeg, h0])
    | not a => exact no (by rw [hk]; simp [E.code]) (by rw [hk]; simp [E.code]) (by simp [byNeg, h0])
    | bin o a b =>
      by_cases ho : o = .sub
      · subst ho
        by_cases h1 : pickF hw 3 = 1
        · exact (neg_sub1 hw hb w0 w F k n A l c a b tr hK hH hr h1).mono fun _ _ h => made_by h (by simp [byNeg, h1])
        · have h2 : pickF hw 3 = 2 := by have := pickF_range (x := hw) (n := 3) (by omega); omega
          exact (neg_sub2 hw hb w0 w F k n A l c a b tr hK hH hr h2).mono fun _ _ h => made_by h (by simp [byNeg, h2])
      · refine no (by rw [hk]; cases o <;> simp [E.code, O2.code] at ho ⊢) (by rw [hk]; cases o <;> simp [E.code, O2.code]) ?_
        cases o <;> simp [byNeg, h0] at ho ⊢

set_option maxRecDepth 100000 in
set_option maxHeartbeats 4000000 in
theorem neg_top (r : R) (k n : Int) (A : Option Addr) (l c : Nat) (y which how : Int) (GB : Nat) (w : World) (F : Nat → Prop) (hr : Rd w F k n A l r) (hG : Glob GB w) (hGB : GB ≤ w.heap.size) :
    Calls Tryd.prog 3 #[.agg #[.int .i64 k, .int .i64 n, .slice A l c], .int .i64 y, .int .i64 which, .int .i64 how] w (YearPost w) := by
  have hent17 : ∀ (args : Array Value) (w : World), (callFunc 17 args).run Tryd.prog w = .ok (.enter 17 args) w := by intro args w; go_simp
  have hent43 : ∀ (args : Array Value) (w : World), (callFunc 43 args).run Tryd.prog w = .ok (.enter 43 args) w := by intro args w; go_simp
  have hmf : ∀ (fn : Fn) (first cap : Array Value) (w : World), (Instr.makeFunc fn first cap).run Tryd.prog w = .ok (.func fn first cap) w := fun _ _ _ _ => rfl
  have HR := hide hr
  have HG := hide hG
  have HE1 := hide hent17
  have HE2 := hide hent43
  clear hr hG hent17 hent43
  go_enter Tryd.func3, Tryd.ntmps3
  go_wp2_with fail
  have HK := hide (((Kept.refl No w).alloc (.cells #[.int .i64 k, .int .i64 n, .slice A l c] 24)).alloc (.cells #[.int .i64 how] 3))
  have HX := hide ((Blk.new w 24 #[.int .i64 k, .int .i64 n, .slice A l c]).alloc (.cells #[.int .i64 how] 3))
  have HH := hide (Blk.at_ (w := w.alloc (.cells #[.int .i64 k, .int .i64 n, .slice A l c] 24)) (t := 3) (cs := #[.int .i64 how]) (n := w.heap.size + 1) (by simp))
  generalize (w.alloc (.cells #[.int .i64 k, .int .i64 n, .slice A l c] 24)).alloc (.cells #[.int .i64 how] 3) = V at HK HX HH ⊢
  have KS := hide (show ∀ w', Kept No V w' → (w'.cell? ⟨w.heap.size, 0, none⟩ = some (.int .i64 k) ∧ w'.cell? ⟨w.heap.size, 1, none⟩ = some (.int .i64 n) ∧ w'.cell? ⟨w.heap.size, 2, none⟩ = some (.slice A l c)) from fun w' hk => ⟨((unhide HX).kept hk id).cell 0, ((unhide HX).kept hk id).cell 1, ((unhide HX).kept hk id).cell 2⟩)
  have HV := hide (Kept.refl No V).drew
  go_region_held3 (fun w' => w'.cell? ⟨w.heap.size, 0, none⟩ = some (.int .i64 k) ∧ w'.cell? ⟨w.heap.size, 1, none⟩ = some (.int .i64 n) ∧ w'.cell? ⟨w.heap.size, 2, none⟩ = some (.slice A l c))
    (first | exact unhide KS _ (unhide HV))
    (first
      | (go_at_call 16; refine (put_any which 17 _ _).mono ?_; rintro e w1 ⟨fb, xb, rfl, hfb, hxb, hK1⟩; have HFB := hide hfb; have HXB := hide hxb; have HK := hide ((unhide HK).trans ((unhide HV).trans hK1 (fun _ _ h => h)) (fun _ _ h => h)); have HH := hide (((unhide HH).kept (unhide HV) id).kept hK1 id); have HV := hide ((unhide HV).trans hK1 (fun _ _ h => h)); clear hfb hxb hK1)
      | (go_at_call 15; refine (year_any r k n A l c y 43 GB _ _ F ((unhide HR).kept (unhide HK) (fun _ _ _ => id)) ((unhide HG).kept0 (unhide HK) hGB) (Nat.le_trans hGB (unhide HK).size) (fun t v _ hev => put_law 17 _ _ _ _ which (byNeg (pickF how 3)) t y v (unhide HFB) (unhide HXB) (unhide HE1) (neg_by how _ _ (unhide HH)) (law_neg _) hev) (unhide HE2)).mono ?_; rintro e w2 ⟨rfl, hK2⟩; have HK := hide ((unhide HK).trans hK2 (fun _ _ h => h)); have HV := hide ((unhide HV).trans hK2 (fun _ _ h => h)); clear hK2))
  go_wp2_with fail
  go_ret
  exact ⟨rfl, unhide HK⟩

end Go.Proofs.YtmjmcjcckncplaaDoor
