/- TopLogicDenied: its closure (function 26), its root (function 6). -/
import Derived.Test.YtmjmcjcckncplaaDoorCtx
import Derived.Test.YtmjmcjcckncplaaDoorAll
import Derived.Deep.RegionHeld3
namespace Go.Proofs.YtmjmcjcckncplaaDoor
open Go.RowKit Go.BigFrame

set_option maxRecDepth 100000 in
set_option maxHeartbeats 4000000 in
theorem den_not (w : World) (F : Nat → Prop) (k n : Int) (A : Option Addr) (l c : Nat) (ta : E) (tr : Bool) (hr : Rd w F k n A l (E.not ta).r) :
    Calls Tryd.prog 26 #[.agg #[.int .i64 k, .int .i64 n, .slice A l c], .bool tr] w (Made w F (.bin .same ta (.num 0))) := by
  obtain ⟨rfl, rfl, rfl, gb, gq, ka, na, Aa, la, ca, rfl, h3, hra⟩ := open_not hr
  have H3 := hide h3
  have HA0 := hide hra
  clear hr h3 hra
  go_enter Tryd.func26, Tryd.ntmps26
  go_wp2_with fail
  have HC := hide (Ctx.start w (11) (0) (some ⟨gb, gq, none⟩) (1) c)
  generalize (w.alloc (.cells #[.int .i64 (11), .int .i64 (0), .slice (some ⟨gb, gq, none⟩) (1) c] 24)).alloc (.cells #[.int .i64 0, .int .i64 0, .slice none 0 0] 24) = V at HC ⊢
  have Ha := hide (rd_in (unhide HA0) (unhide HC).kept)
  have KS := hide (show ∀ w', Kept (One (w.heap.size + 1)) V w' → (w'.cell? ⟨w.heap.size, 0, none⟩ = some (.int .i64 11) ∧ w'.cell? ⟨w.heap.size, 2, none⟩ = some (.slice (some ⟨gb, gq, none⟩) 1 c) ∧ w'.cell? ⟨gb, gq, none⟩ = some (.int .i64 ka) ∧ w'.cell? ⟨gb, gq + 1, none⟩ = some (.int .i64 na) ∧ w'.cell? ⟨gb, gq + 2, none⟩ = some (.slice Aa la ca)) from fun w' hk =>
    have hx := (unhide HC).x.kept hk (one_ne (by omega))
    have hk3 := C3.kept (C3.kept (unhide H3) (unhide HC).kept id) hk (one_ne (by have h : gb < w.heap.size := World.block_lt_of_cell? w _ (unhide H3).1; omega))
    ⟨hx.cell 0, hx.cell 2, hk3⟩)
  have HV := hide ((Kept.refl (One (w.heap.size + 1)) V).drew)
  have HC := hide ((unhide HC).go (Kept.refl No V).drew)
  have Ha := hide ((unhide Ha).kept (Kept.refl No V).drew (fun _ _ _ => id))
  go_region_held3 (fun w' => w'.cell? ⟨w.heap.size, 0, none⟩ = some (.int .i64 11) ∧ w'.cell? ⟨w.heap.size, 2, none⟩ = some (.slice (some ⟨gb, gq, none⟩) 1 c) ∧ w'.cell? ⟨gb, gq, none⟩ = some (.int .i64 ka) ∧ w'.cell? ⟨gb, gq + 1, none⟩ = some (.int .i64 na) ∧ w'.cell? ⟨gb, gq + 2, none⟩ = some (.slice Aa la ca))
    (first
      | exact unhide KS _ (unhide HV)
      | exact unhide KS _ ((unhide HV).alloc _)
      | exact unhide KS _ ((((unhide HV).one 0 _).one 1 _).one 2 _)
      | exact unhide KS _ (((unhide HV).one 0 _).one 1 _)
      | exact unhide KS _ ((unhide HV).one 0 _))
    (first
      | (go_at_call 21; refine (num_any 0 _).mono ?_; rintro e wm ⟨rfl, hKm⟩; have HC := hide ((unhide HC).go hKm); have Ha := hide ((unhide Ha).kept hKm (fun _ _ _ => id)); have HV := hide ((unhide HV).trans hKm (fun _ _ h => h.elim)); clear hKm)
      | (go_at_call 19; refine (op2_at .same (by rfl) _ ta (.num 0) ka na Aa la ca 1 0 none 0 0 (unhide Ha) (num_rd _ _ _) ((unhide HC).hF _ (Nat.le_refl _))).mono ?_; rintro e w2 ⟨k2, n2, A2, l2, c2, rfl, hR2, hK2⟩; have HC := hide ((unhide HC).go hK2); have HV := hide ((unhide HV).trans hK2 (fun _ _ h => h.elim)); have H2 := hide hR2; clear hR2 hK2; obtain ⟨f0, f1, f2, z0, z1, z2, hlt⟩ := (unhide HC).zs))
  go_wp2_with fail
  refine bodyPost_ret (v := .tuple #[.agg #[.int .i64 k2, .int .i64 n2, .slice A2 l2 c2], .bool true]) (by simp [results, Tryd.results26, go_sem, z0, z1, z2]) rfl ?_
  exact (unhide HC).made (unhide H2)
set_option maxRecDepth 100000 in
set_option maxHeartbeats 4000000 in
theorem den_and (w : World) (F : Nat → Prop) (k n : Int) (A : Option Addr) (l c : Nat) (ta tb : E) (tr : Bool) (hr : Rd w F k n A l (E.bin .and ta tb).r) :
    Calls Tryd.prog 26 #[.agg #[.int .i64 k, .int .i64 n, .slice A l c], .bool tr] w (Made w F (.not (.bin .or (.not ta) (.not tb)))) := by
  obtain ⟨rfl, rfl, rfl, gb, gq, ka, na, Aa, la, ca, kb, nb, Ab, lb, cb, rfl, h6, hra, hrb⟩ := open_bin (o := .and) (kc := 12) (by rfl) hr
  have H6 := hide h6
  have HA0 := hide hra
  have HB0 := hide hrb
  clear hr h6 hra hrb
  go_enter Tryd.func26, Tryd.ntmps26
  go_wp2_with fail
  have HC := hide (Ctx.start w (12) (0) (some ⟨gb, gq, none⟩) (2) c)
  generalize (w.alloc (.cells #[.int .i64 (12), .int .i64 (0), .slice (some ⟨gb, gq, none⟩) (2) c] 24)).alloc (.cells #[.int .i64 0, .int .i64 0, .slice none 0 0] 24) = V at HC ⊢
  have Ha := hide (rd_in (unhide HA0) (unhide HC).kept)
  have Hb := hide (rd_in (unhide HB0) (unhide HC).kept)
  have KS := hide (show ∀ w', Kept (One (w.heap.size + 1)) V w' → (w'.cell? ⟨w.heap.size, 0, none⟩ = some (.int .i64 12) ∧ w'.cell? ⟨w.heap.size, 2, none⟩ = some (.slice (some ⟨gb, gq, none⟩) 2 c) ∧ w'.cell? ⟨gb, gq, none⟩ = some (.int .i64 ka) ∧ w'.cell? ⟨gb, gq + 1, none⟩ = some (.int .i64 na) ∧ w'.cell? ⟨gb, gq + 2, none⟩ = some (.slice Aa la ca) ∧ w'.cell? ⟨gb, gq + 3, none⟩ = some (.int .i64 kb) ∧ w'.cell? ⟨gb, gq + 4, none⟩ = some (.int .i64 nb) ∧ w'.cell? ⟨gb, gq + 5, none⟩ = some (.slice Ab lb cb)) from fun w' hk =>
    have hx := (unhide HC).x.kept hk (one_ne (by omega))
    have hk6 := ((unhide H6).kept (unhide HC).kept id).kept hk (one_ne (by have := (unhide H6).lt; omega))
    ⟨hx.cell 0, hx.cell 2, hk6⟩)
  have HV := hide ((Kept.refl (One (w.heap.size + 1)) V).drew)
  have HC := hide ((unhide HC).go (Kept.refl No V).drew)
  have Ha := hide ((unhide Ha).kept (Kept.refl No V).drew (fun _ _ _ => id))
  have Hb := hide ((unhide Hb).kept (Kept.refl No V).drew (fun _ _ _ => id))
  go_region_held3 (fun w' => w'.cell? ⟨w.heap.size, 0, none⟩ = some (.int .i64 12) ∧ w'.cell? ⟨w.heap.size, 2, none⟩ = some (.slice (some ⟨gb, gq, none⟩) 2 c) ∧ w'.cell? ⟨gb, gq, none⟩ = some (.int .i64 ka) ∧ w'.cell? ⟨gb, gq + 1, none⟩ = some (.int .i64 na) ∧ w'.cell? ⟨gb, gq + 2, none⟩ = some (.slice Aa la ca) ∧ w'.cell? ⟨gb, gq + 3, none⟩ = some (.int .i64 kb) ∧ w'.cell? ⟨gb, gq + 4, none⟩ = some (.int .i64 nb) ∧ w'.cell? ⟨gb, gq + 5, none⟩ = some (.slice Ab lb cb))
    (first
      | exact unhide KS _ (unhide HV)
      | exact unhide KS _ ((unhide HV).alloc _)
      | exact unhide KS _ ((((unhide HV).one 0 _).one 1 _).one 2 _)
      | exact unhide KS _ (((unhide HV).one 0 _).one 1 _)
      | exact unhide KS _ ((unhide HV).one 0 _))
    (first
      | (go_at_call 25; refine (none_F ta ka na Aa la ca _ (unhide Ha) (unhide HC).hF).mono ?_; rintro e w1 ⟨k1, n1, A1, l1, c1, rfl, hR1, hK1⟩; have HC := hide ((unhide HC).go hK1); have Hb := hide ((unhide Hb).kept hK1 (fun _ _ _ => id)); have HV := hide ((unhide HV).trans hK1 (fun _ _ h => h.elim)); have H1 := hide hR1; clear hR1 hK1)
      | (go_at_call 25; refine (none_F tb kb nb Ab lb cb _ (unhide Hb) (unhide HC).hF).mono ?_; rintro e w2 ⟨k2, n2, A2, l2, c2, rfl, hR2, hK2⟩; have HC := hide ((unhide HC).go hK2); have H1 := hide ((unhide H1).kept hK2 (fun _ _ _ => id)); have HV := hide ((unhide HV).trans hK2 (fun _ _ h => h.elim)); have H2 := hide hR2; clear hR2 hK2)
      | (go_at_call 19; refine (op2_at .or (by rfl) _ (.not ta) (.not tb) k1 n1 A1 l1 c1 k2 n2 A2 l2 c2 (unhide H1) (unhide H2) ((unhide HC).hF _ (Nat.le_refl _))).mono ?_; rintro e w3 ⟨k3, n3, A3, l3, c3, rfl, hR3, hK3⟩; have HC := hide ((unhide HC).go hK3); have HV := hide ((unhide HV).trans hK3 (fun _ _ h => h.elim)); have H3 := hide hR3; clear hR3 hK3)
      | (go_at_call 25; refine (none_F (.bin .or (.not ta) (.not tb)) k3 n3 A3 l3 c3 _ (unhide H3) (unhide HC).hF).mono ?_; rintro e w4 ⟨k4, n4, A4, l4, c4, rfl, hR4, hK4⟩; have HC := hide ((unhide HC).go hK4); have HV := hide ((unhide HV).trans hK4 (fun _ _ h => h.elim)); have H4 := hide hR4; clear hR4 hK4; obtain ⟨f0, f1, f2, z0, z1, z2, hlt⟩ := (unhide HC).zs))
  go_wp2_with fail
  refine bodyPost_ret (v := .tuple #[.agg #[.int .i64 k4, .int .i64 n4, .slice A4 l4 c4], .bool true]) (by simp [results, Tryd.results26, go_sem, z0, z1, z2]) rfl ?_
  exact (unhide HC).made (unhide H4)
set_option maxRecDepth 100000 in
set_option maxHeartbeats 4000000 in
theorem den_or (w : World) (F : Nat → Prop) (k n : Int) (A : Option Addr) (l c : Nat) (ta tb : E) (tr : Bool) (hr : Rd w F k n A l (E.bin .or ta tb).r) :
    Calls Tryd.prog 26 #[.agg #[.int .i64 k, .int .i64 n, .slice A l c], .bool tr] w (Made w F (.not (.bin .and (.not ta) (.not tb)))) := by
  obtain ⟨rfl, rfl, rfl, gb, gq, ka, na, Aa, la, ca, kb, nb, Ab, lb, cb, rfl, h6, hra, hrb⟩ := open_bin (o := .or) (kc := 13) (by rfl) hr
  have H6 := hide h6
  have HA0 := hide hra
  have HB0 := hide hrb
  clear hr h6 hra hrb
  go_enter Tryd.func26, Tryd.ntmps26
  go_wp2_with fail
  have HC := hide (Ctx.start w (13) (0) (some ⟨gb, gq, none⟩) (2) c)
  generalize (w.alloc (.cells #[.int .i64 (13), .int .i64 (0), .slice (some ⟨gb, gq, none⟩) (2) c] 24)).alloc (.cells #[.int .i64 0, .int .i64 0, .slice none 0 0] 24) = V at HC ⊢
  have Ha := hide (rd_in (unhide HA0) (unhide HC).kept)
  have Hb := hide (rd_in (unhide HB0) (unhide HC).kept)
  have KS := hide (show ∀ w', Kept (One (w.heap.size + 1)) V w' → (w'.cell? ⟨w.heap.size, 0, none⟩ = some (.int .i64 13) ∧ w'.cell? ⟨w.heap.size, 2, none⟩ = some (.slice (some ⟨gb, gq, none⟩) 2 c) ∧ w'.cell? ⟨gb, gq, none⟩ = some (.int .i64 ka) ∧ w'.cell? ⟨gb, gq + 1, none⟩ = some (.int .i64 na) ∧ w'.cell? ⟨gb, gq + 2, none⟩ = some (.slice Aa la ca) ∧ w'.cell? ⟨gb, gq + 3, none⟩ = some (.int .i64 kb) ∧ w'.cell? ⟨gb, gq + 4, none⟩ = some (.int .i64 nb) ∧ w'.cell? ⟨gb, gq + 5, none⟩ = some (.slice Ab lb cb)) from fun w' hk =>
    have hx := (unhide HC).x.kept hk (one_ne (by omega))
    have hk6 := ((unhide H6).kept (unhide HC).kept id).kept hk (one_ne (by have := (unhide H6).lt; omega))
    ⟨hx.cell 0, hx.cell 2, hk6⟩)
  have HV := hide ((Kept.refl (One (w.heap.size + 1)) V).drew)
  have HC := hide ((unhide HC).go (Kept.refl No V).drew)
  have Ha := hide ((unhide Ha).kept (Kept.refl No V).drew (fun _ _ _ => id))
  have Hb := hide ((unhide Hb).kept (Kept.refl No V).drew (fun _ _ _ => id))
  go_region_held3 (fun w' => w'.cell? ⟨w.heap.size, 0, none⟩ = some (.int .i64 13) ∧ w'.cell? ⟨w.heap.size, 2, none⟩ = some (.slice (some ⟨gb, gq, none⟩) 2 c) ∧ w'.cell? ⟨gb, gq, none⟩ = some (.int .i64 ka) ∧ w'.cell? ⟨gb, gq + 1, none⟩ = some (.int .i64 na) ∧ w'.cell? ⟨gb, gq + 2, none⟩ = some (.slice Aa la ca) ∧ w'.cell? ⟨gb, gq + 3, none⟩ = some (.int .i64 kb) ∧ w'.cell? ⟨gb, gq + 4, none⟩ = some (.int .i64 nb) ∧ w'.cell? ⟨gb, gq + 5, none⟩ = some (.slice Ab lb cb))
    (first
      | exact unhide KS _ (unhide HV)
      | exact unhide KS _ ((unhide HV).alloc _)
      | exact unhide KS _ ((((unhide HV).one 0 _).one 1 _).one 2 _)
      | exact unhide KS _ (((unhide HV).one 0 _).one 1 _)
      | exact unhide KS _ ((unhide HV).one 0 _))
    (first
      | (go_at_call 25; refine (none_F ta ka na Aa la ca _ (unhide Ha) (unhide HC).hF).mono ?_; rintro e w1 ⟨k1, n1, A1, l1, c1, rfl, hR1, hK1⟩; have HC := hide ((unhide HC).go hK1); have Hb := hide ((unhide Hb).kept hK1 (fun _ _ _ => id)); have HV := hide ((unhide HV).trans hK1 (fun _ _ h => h.elim)); have H1 := hide hR1; clear hR1 hK1)
      | (go_at_call 25; refine (none_F tb kb nb Ab lb cb _ (unhide Hb) (unhide HC).hF).mono ?_; rintro e w2 ⟨k2, n2, A2, l2, c2, rfl, hR2, hK2⟩; have HC := hide ((unhide HC).go hK2); have H1 := hide ((unhide H1).kept hK2 (fun _ _ _ => id)); have HV := hide ((unhide HV).trans hK2 (fun _ _ h => h.elim)); have H2 := hide hR2; clear hR2 hK2)
      | (go_at_call 19; refine (op2_at .and (by rfl) _ (.not ta) (.not tb) k1 n1 A1 l1 c1 k2 n2 A2 l2 c2 (unhide H1) (unhide H2) ((unhide HC).hF _ (Nat.le_refl _))).mono ?_; rintro e w3 ⟨k3, n3, A3, l3, c3, rfl, hR3, hK3⟩; have HC := hide ((unhide HC).go hK3); have HV := hide ((unhide HV).trans hK3 (fun _ _ h => h.elim)); have H3 := hide hR3; clear hR3 hK3)
      | (go_at_call 25; refine (none_F (.bin .and (.not ta) (.not tb)) k3 n3 A3 l3 c3 _ (unhide H3) (unhide HC).hF).mono ?_; rintro e w4 ⟨k4, n4, A4, l4, c4, rfl, hR4, hK4⟩; have HC := hide ((unhide HC).go hK4); have HV := hide ((unhide HV).trans hK4 (fun _ _ h => h.elim)); have H4 := hide hR4; clear hR4 hK4; obtain ⟨f0, f1, f2, z0, z1, z2, hlt⟩ := (unhide HC).zs))
  go_wp2_with fail
  refine bodyPost_ret (v := .tuple #[.agg #[.int .i64 k4, .int .i64 n4, .slice A4 l4 c4], .bool true]) (by simp [results, Tryd.results26, go_sem, z0, z1, z2]) rfl ?_
  exact (unhide HC).made (unhide H4)
set_option maxRecDepth 100000 in
set_option maxHeartbeats 4000000 in
theorem den_no (w : World) (k n : Int) (A : Option Addr) (l c : Nat) (tr : Bool) (h11 : k ≠ 11) (h12 : k ≠ 12) (h13 : k ≠ 13) :
    Calls Tryd.prog 26 #[.agg #[.int .i64 k, .int .i64 n, .slice A l c], .bool tr] w (MadeNo w) := by
  have d11 : (k == 11) = false := by rw [beq_eq_false_iff_ne]; exact h11
  have d12 : (k == 12) = false := by rw [beq_eq_false_iff_ne]; exact h12
  have d13 : (k == 13) = false := by rw [beq_eq_false_iff_ne]; exact h13
  clear h11 h12 h13
  go_enter Tryd.func26, Tryd.ntmps26
  go_wp2_with fail
  refine bodyPost_ret (v := .tuple #[.agg #[.int .i64 k, .int .i64 n, .slice A l c], .bool false]) (by simp [results, Tryd.results26, go_sem]) rfl ?_
  exact ⟨k, n, A, l, c, rfl, ((Kept.refl No w).alloc _).alloc _⟩

theorem den_by (w0 : World) : ByOk 26 #[] w0 byDen := by
  intro w F k n A l c t tr _ hK hr
  have hk : k = t.code := by have := hr.k_eq.1; rwa [E.r_k] at this
  have no : k ≠ 11 → k ≠ 12 → k ≠ 13 → byDen t tr = none → Calls Tryd.prog 26 (#[.agg #[.int .i64 k, .int .i64 n, .slice A l c], .bool tr] ++ #[]) w (ByPost w F (byDen t tr)) := fun h1 h2 h3 hn =>
    (den_no w k n A l c tr h1 h2 h3).mono fun _ _ h => no_by h hn
  cases t with
  | num m => exact no (by rw [hk]; simp [E.code]) (by rw [hk]; simp [E.code]) (by rw [hk]; simp [E.code]) rfl
  | year => exact no (by rw [hk]; simp [E.code]) (by rw [hk]; simp [E.code]) (by rw [hk]; simp [E.code]) rfl
  | neg a => exact no (by rw [hk]; simp [E.code]) (by rw [hk]; simp [E.code]) (by rw [hk]; simp [E.code]) rfl
  | not a => exact (den_not w F k n A l c a tr hr).mono fun _ _ h => made_by h rfl
  | bin o a b =>
    cases o
    case and => exact (den_and w F k n A l c a b tr hr).mono fun _ _ h => made_by h rfl
    case or => exact (den_or w F k n A l c a b tr hr).mono fun _ _ h => made_by h rfl
    all_goals exact no (by rw [hk]; simp [E.code, O2.code]) (by rw [hk]; simp [E.code, O2.code]) (by rw [hk]; simp [E.code, O2.code]) rfl

set_option maxRecDepth 100000 in
set_option maxHeartbeats 4000000 in
theorem den_top (r : R) (k n : Int) (A : Option Addr) (l c : Nat) (y which : Int) (GB : Nat) (w : World) (F : Nat → Prop) (hr : Rd w F k n A l r) (hG : Glob GB w) (hGB : GB ≤ w.heap.size) :
    Calls Tryd.prog 6 #[.agg #[.int .i64 k, .int .i64 n, .slice A l c], .int .i64 y, .int .i64 which] w (YearPost w) := by
  have hentN : ∀ (args : Array Value) (w : World), (callFunc 26 args).run Tryd.prog w = .ok (.enter 26 args) w := by intro args w; go_simp
  have hent43 : ∀ (args : Array Value) (w : World), (callFunc 43 args).run Tryd.prog w = .ok (.enter 43 args) w := by intro args w; go_simp
  have hmf : ∀ (fn : Fn) (first cap : Array Value) (w : World), (Instr.makeFunc fn first cap).run Tryd.prog w = .ok (.func fn first cap) w := fun _ _ _ _ => rfl
  have HR := hide hr
  have HG := hide hG
  have HE1 := hide hentN
  have HE2 := hide hent43
  clear hr hG hentN hent43
  go_enter Tryd.func6, Tryd.ntmps6
  go_wp2_with fail
  have HK := hide ((Kept.refl No w).alloc (.cells #[.int .i64 k, .int .i64 n, .slice A l c] 24))
  have HX := hide (Blk.new w 24 #[.int .i64 k, .int .i64 n, .slice A l c])
  generalize (w.alloc (.cells #[.int .i64 k, .int .i64 n, .slice A l c] 24)) = V at HK HX  ⊢
  have KS := hide (show ∀ w', Kept No V w' → (w'.cell? ⟨w.heap.size, 0, none⟩ = some (.int .i64 k) ∧ w'.cell? ⟨w.heap.size, 1, none⟩ = some (.int .i64 n) ∧ w'.cell? ⟨w.heap.size, 2, none⟩ = some (.slice A l c)) from fun w' hk => ⟨((unhide HX).kept hk id).cell 0, ((unhide HX).kept hk id).cell 1, ((unhide HX).kept hk id).cell 2⟩)
  have HV := hide (Kept.refl No V).drew
  go_region_held3 (fun w' => w'.cell? ⟨w.heap.size, 0, none⟩ = some (.int .i64 k) ∧ w'.cell? ⟨w.heap.size, 1, none⟩ = some (.int .i64 n) ∧ w'.cell? ⟨w.heap.size, 2, none⟩ = some (.slice A l c))
    (first | exact unhide KS _ (unhide HV))
    (first
      | (go_at_call 16; refine (put_any which 26 _ _).mono ?_; rintro e w1 ⟨fb, xb, rfl, hfb, hxb, hK1⟩; have HFB := hide hfb; have HXB := hide hxb; have HK := hide ((unhide HK).trans ((unhide HV).trans hK1 (fun _ _ h => h)) (fun _ _ h => h)); have HV := hide ((unhide HV).trans hK1 (fun _ _ h => h)); clear hfb hxb hK1)
      | (go_at_call 15; refine (year_any r k n A l c y 43 GB _ _ F ((unhide HR).kept (unhide HK) (fun _ _ _ => id)) ((unhide HG).kept0 (unhide HK) hGB) (Nat.le_trans hGB (unhide HK).size) (fun t v _ hev => put_law 26 _ _ _ _ which byDen t y v (unhide HFB) (unhide HXB) (unhide HE1) (den_by _) law_den hev) (unhide HE2)).mono ?_; rintro e w2 ⟨rfl, hK2⟩; have HK := hide ((unhide HK).trans hK2 (fun _ _ h => h)); have HV := hide ((unhide HV).trans hK2 (fun _ _ h => h)); clear hK2))
  go_wp2_with fail
  go_ret
  exact ⟨rfl, unhide HK⟩

end Go.Proofs.YtmjmcjcckncplaaDoor
