/- TopRulesTurned: its closure (function 37), its root (function 13). -/
import Derived.Test.YtmjmcjcckncplaaDoorCtx
import Derived.Test.YtmjmcjcckncplaaDoorAll
import Derived.Test.YtmjmcjcckncplaaDoorHas
import Derived.Deep.RegionHeld3
namespace Go.Proofs.YtmjmcjcckncplaaDoor
open Go.RowKit Go.BigFrame

theorem code_op {o : O2} {a : E} (h : a.code = o.code) : ∃ c d, a = .bin o c d := by
  cases a with
  | num m => cases o <;> simp [E.code, O2.code] at h
  | year => cases o <;> simp [E.code, O2.code] at h
  | neg a => cases o <;> simp [E.code, O2.code] at h
  | not a => cases o <;> simp [E.code, O2.code] at h
  | bin p c d =>
    have : p = o := by cases p <;> cases o <;> simp [E.code, O2.code] at h <;> rfl
    subst this
    exact ⟨c, d, rfl⟩
theorem no_op {o : O2} {a : E} (h : a.code ≠ o.code) : isOp o a = none := by
  cases a with
  | bin p c d =>
    have : p ≠ o := by rintro rfl; exact h rfl
    simp [isOp, this]
  | _ => rfl

/-- Two variables laid and filled. -/
theorem vars2 {w V : World} {k n : Int} {A : Option Addr} {l c : Nat} (hC : Ctx w V k n A l c) (k1 n1 : Int) (A1 : Option Addr) (l1 c1 : Nat) (k2 n2 : Int) (A2 : Option Addr) (l2 c2 : Nat) :
    Ctx w (((V.alloc (.cells #[.int .i64 k1, .int .i64 n1, .slice A1 l1 c1] 24)).alloc (.cells #[.int .i64 k2, .int .i64 n2, .slice A2 l2 c2] 24)).drew) k n A l c ∧
    Blk (((V.alloc (.cells #[.int .i64 k1, .int .i64 n1, .slice A1 l1 c1] 24)).alloc (.cells #[.int .i64 k2, .int .i64 n2, .slice A2 l2 c2] 24)).drew) V.heap.size 24 #[.int .i64 k1, .int .i64 n1, .slice A1 l1 c1] ∧
    Blk (((V.alloc (.cells #[.int .i64 k1, .int .i64 n1, .slice A1 l1 c1] 24)).alloc (.cells #[.int .i64 k2, .int .i64 n2, .slice A2 l2 c2] 24)).drew) (V.heap.size + 1) 24 #[.int .i64 k2, .int .i64 n2, .slice A2 l2 c2] ∧
    Kept No V (((V.alloc (.cells #[.int .i64 k1, .int .i64 n1, .slice A1 l1 c1] 24)).alloc (.cells #[.int .i64 k2, .int .i64 n2, .slice A2 l2 c2] 24)).drew) := by
  have hK : Kept No V (((V.alloc (.cells #[.int .i64 k1, .int .i64 n1, .slice A1 l1 c1] 24)).alloc (.cells #[.int .i64 k2, .int .i64 n2, .slice A2 l2 c2] 24)).drew) := (((Kept.refl No V).alloc _).alloc _).drew
  exact ⟨hC.go hK, ((Blk.new V 24 _).alloc _).drew, (Blk.at_ (by simp)).drew, hK⟩

set_option maxRecDepth 100000 in
set_option maxHeartbeats 4000000 in
theorem tur_plain (g : Bool) (hb : Nat) (o : O2) (kc : Int) (w0 w : World) (F : Nat → Prop) (k n : Int) (A : Option Addr) (l c : Nat) (ta tb : E) (tr : Bool) (hK0 : Kept No w0 w) (hr : Rd w F k n A l (E.bin o ta tb).r) (hoc : kc = o.code) (hcd : decide (kc ∈ [4, 6, 10, 12, 13]) = true) (hH : Blk w0 hb 4 #[.bool g]) (hd : g = false) :
    Calls Tryd.prog 37 #[.agg #[.int .i64 k, .int .i64 n, .slice A l c], .bool tr, .pointer (some ⟨hb, 0, none⟩)] w (Made w F (.bin o tb ta)) := by
  subst hd
  have hB := hH.kept hK0 id
  have h0 : w.cell? ⟨hb, 0, none⟩ = some (.bool false) := hB.cell 0
  have hbw := hB.lt
  obtain ⟨hkk, rfl, rfl, gb, gq, ka, na, Aa, la, ca, kb, nb, Ab, lb, cb, rfl, h6, hra, hrb⟩ := open_bin (o := o) (kc := kc) hoc.symm hr
  have H6 := hide h6
  have HA0 := hide hra
  have HB0 := hide hrb
  have HB := hide hB
  subst hkk
  have HOC := hide hoc
  have HCD := hide hcd
  clear hr hK0 h6 hra hrb hH hB hoc hcd
  go_enter Tryd.func37, Tryd.ntmps37
  go_wp2_with fail
  refine (has_any [4, 6, 10, 12, 13] (some ⟨w.heap.size + 1 + 1, 0, none⟩) (w.heap.size + 1 + 1) 5 k _ (.inr rfl) ?hc (by simp)).mono ?_
  case hc =>
    intro i z hz
    have hB5 := Blk.at_ (w := (w.alloc (.cells #[.int .i64 k, .int .i64 0, .slice (some ⟨gb, gq, none⟩) (2) c] 24)).alloc (.cells #[.int .i64 0, .int .i64 0, .slice none 0 0] 24)) (t := 3) (cs := #[.int .i64 4, .int .i64 6, .int .i64 10, .int .i64 12, .int .i64 13]) (n := w.heap.size + 1 + 1) (by simp)
    rw [hB5.cell]
    match i, hz with
    | 0, hz => simp at hz; subst hz; rfl
    | 1, hz => simp at hz; subst hz; rfl
    | 2, hz => simp at hz; subst hz; rfl
    | 3, hz => simp at hz; subst hz; rfl
    | 4, hz => simp at hz; subst hz; rfl
    | i + 5, hz => simp at hz
  rintro e w9 ⟨rfl, rfl⟩
  rw [unhide HCD]
  go_wp2_with fail
  have HC := hide ((Ctx.start w k 0 (some ⟨gb, gq, none⟩) 2 c).go ((Kept.refl No _).alloc (.cells #[.int .i64 4, .int .i64 6, .int .i64 10, .int .i64 12, .int .i64 13] 3)))
  generalize ((w.alloc (.cells #[.int .i64 k, .int .i64 0, .slice (some ⟨gb, gq, none⟩) 2 c] 24)).alloc (.cells #[.int .i64 0, .int .i64 0, .slice none 0 0] 24)).alloc (.cells #[.int .i64 4, .int .i64 6, .int .i64 10, .int .i64 12, .int .i64 13] 3) = V at HC ⊢
  have Ha := hide (rd_in (unhide HA0) (unhide HC).kept)
  have Hb := hide (rd_in (unhide HB0) (unhide HC).kept)
  have hgV := (unhide HC).z.lt
  have KS := hide (show ∀ w', Kept No V w' → (w'.cell? ⟨w.heap.size, 0, none⟩ = some (.int .i64 k) ∧ w'.cell? ⟨w.heap.size, 2, none⟩ = some (.slice (some ⟨gb, gq, none⟩) 2 c) ∧ w'.cell? ⟨gb, gq, none⟩ = some (.int .i64 ka) ∧ w'.cell? ⟨gb, gq + 1, none⟩ = some (.int .i64 na) ∧ w'.cell? ⟨gb, gq + 2, none⟩ = some (.slice Aa la ca) ∧ w'.cell? ⟨gb, gq + 3, none⟩ = some (.int .i64 kb) ∧ w'.cell? ⟨gb, gq + 4, none⟩ = some (.int .i64 nb) ∧ w'.cell? ⟨gb, gq + 5, none⟩ = some (.slice Ab lb cb)) from fun w' hk =>
    have hx := (unhide HC).x.kept hk id
    have hk6 := ((unhide H6).kept (unhide HC).kept id).kept hk id
    ⟨hx.cell 0, hx.cell 2, hk6⟩)
  have HV := hide (Kept.refl No V).drew
  go_region_held3 (fun w' => w'.cell? ⟨w.heap.size, 0, none⟩ = some (.int .i64 k) ∧ w'.cell? ⟨w.heap.size, 2, none⟩ = some (.slice (some ⟨gb, gq, none⟩) 2 c) ∧ w'.cell? ⟨gb, gq, none⟩ = some (.int .i64 ka) ∧ w'.cell? ⟨gb, gq + 1, none⟩ = some (.int .i64 na) ∧ w'.cell? ⟨gb, gq + 2, none⟩ = some (.slice Aa la ca) ∧ w'.cell? ⟨gb, gq + 3, none⟩ = some (.int .i64 kb) ∧ w'.cell? ⟨gb, gq + 4, none⟩ = some (.int .i64 nb) ∧ w'.cell? ⟨gb, gq + 5, none⟩ = some (.slice Ab lb cb))
    (first
      | exact unhide KS _ (unhide HV)
      | exact unhide KS _ ((unhide HV).alloc _)
      | exact unhide KS _ (((unhide HV).alloc _).alloc _))
    (first | fail)
  · obtain ⟨hC2, hP, hQ, hKV⟩ := vars2 (unhide HC) ka na Aa la ca kb nb Ab lb cb
    have Ha := hide ((unhide Ha).kept hKV (fun _ _ _ => id))
    have Hb := hide ((unhide Hb).kept hKV (fun _ _ _ => id))
    have HC := hide hC2
    have HBp := hide hP
    have HBq := hide hQ
    have HKV := hide hKV
    clear hC2 hP hQ hKV
    generalize ((V.alloc (.cells #[.int .i64 ka, .int .i64 na, .slice Aa la ca] 24)).alloc (.cells #[.int .i64 kb, .int .i64 nb, .slice Ab lb cb] 24)).drew = W1 at Ha Hb HC HBp HBq HKV ⊢
    have hw2 : w.heap.size + 1 < V.heap.size := hgV
    have hpw := (unhide HBq).lt
    have p0 : W1.cell? ⟨V.heap.size, 0, none⟩ = some (.int .i64 ka) := (unhide HBp).cell 0
    have p1 : W1.cell? ⟨V.heap.size, 1, none⟩ = some (.int .i64 na) := (unhide HBp).cell 1
    have p2 : W1.cell? ⟨V.heap.size, 2, none⟩ = some (.slice Aa la ca) := (unhide HBp).cell 2
    have q0 : W1.cell? ⟨V.heap.size + 1, 0, none⟩ = some (.int .i64 kb) := (unhide HBq).cell 0
    have q1 : W1.cell? ⟨V.heap.size + 1, 1, none⟩ = some (.int .i64 nb) := (unhide HBq).cell 1
    have q2 : W1.cell? ⟨V.heap.size + 1, 2, none⟩ = some (.slice Ab lb cb) := (unhide HBq).cell 2
    obtain ⟨xs0, xs1, xs2⟩ := (unhide HC).xs
    have h0 : W1.cell? ⟨hb, 0, none⟩ = some (.bool false) := (((unhide HB).kept (unhide HC).kept id)).cell 0
    go_wp2_with fail
    refine (op2_at o (unhide HOC) _ tb ta kb nb Ab lb cb ka na Aa la ca (unhide Hb) (unhide Ha) ((unhide HC).hF _ (Nat.le_refl _))).mono ?_; rintro e w4 ⟨k4, n4, A4, l4, c4, rfl, hR4, hK4⟩; have HC := hide ((unhide HC).go hK4); have H4 := hide hR4; clear hR4 hK4
    obtain ⟨f0, f1, f2, z0, z1, z2, hlt⟩ := (unhide HC).zs
    go_wp2_with fail
    refine bodyPost_ret (v := .tuple #[.agg #[.int .i64 k4, .int .i64 n4, .slice A4 l4 c4], .bool true]) (by simp [results, Tryd.results37, go_sem, z0, z1, z2]) rfl ?_
    exact (unhide HC).made (unhide H4)
  · obtain ⟨hC2, hP, hQ, hKV⟩ := vars2 (unhide HC) kb nb Ab lb cb ka na Aa la ca
    have Ha := hide ((unhide Ha).kept hKV (fun _ _ _ => id))
    have Hb := hide ((unhide Hb).kept hKV (fun _ _ _ => id))
    have HC := hide hC2
    have HBp := hide hP
    have HBq := hide hQ
    have HKV := hide hKV
    clear hC2 hP hQ hKV
    generalize ((V.alloc (.cells #[.int .i64 kb, .int .i64 nb, .slice Ab lb cb] 24)).alloc (.cells #[.int .i64 ka, .int .i64 na, .slice Aa la ca] 24)).drew = W2 at Ha Hb HC HBp HBq HKV ⊢
    have hw2 : w.heap.size + 1 < V.heap.size := hgV
    have hpw := (unhide HBq).lt
    have p0 : W2.cell? ⟨V.heap.size, 0, none⟩ = some (.int .i64 kb) := (unhide HBp).cell 0
    have p1 : W2.cell? ⟨V.heap.size, 1, none⟩ = some (.int .i64 nb) := (unhide HBp).cell 1
    have p2 : W2.cell? ⟨V.heap.size, 2, none⟩ = some (.slice Ab lb cb) := (unhide HBp).cell 2
    have q0 : W2.cell? ⟨V.heap.size + 1, 0, none⟩ = some (.int .i64 ka) := (unhide HBq).cell 0
    have q1 : W2.cell? ⟨V.heap.size + 1, 1, none⟩ = some (.int .i64 na) := (unhide HBq).cell 1
    have q2 : W2.cell? ⟨V.heap.size + 1, 2, none⟩ = some (.slice Aa la ca) := (unhide HBq).cell 2
    obtain ⟨xs0, xs1, xs2⟩ := (unhide HC).xs
    have h0 : W2.cell? ⟨hb, 0, none⟩ = some (.bool false) := (((unhide HB).kept (unhide HC).kept id)).cell 0
    go_wp2_with fail
    refine (op2_at o (unhide HOC) _ tb ta kb nb Ab lb cb ka na Aa la ca (unhide Hb) (unhide Ha) ((unhide HC).hF _ (Nat.le_refl _))).mono ?_; rintro e w4 ⟨k4, n4, A4, l4, c4, rfl, hR4, hK4⟩; have HC := hide ((unhide HC).go hK4); have H4 := hide hR4; clear hR4 hK4
    obtain ⟨f0, f1, f2, z0, z1, z2, hlt⟩ := (unhide HC).zs
    go_wp2_with fail
    refine bodyPost_ret (v := .tuple #[.agg #[.int .i64 k4, .int .i64 n4, .slice A4 l4 c4], .bool true]) (by simp [results, Tryd.results37, go_sem, z0, z1, z2]) rfl ?_
    exact (unhide HC).made (unhide H4)
set_option maxRecDepth 100000 in
set_option maxHeartbeats 4000000 in
theorem tur_same_tt (g : Bool) (hb : Nat) (o : O2) (kc : Int) (w0 w : World) (F : Nat → Prop) (k n : Int) (A : Option Addr) (l c : Nat) (ta tb : E) (tr : Bool) (hK0 : Kept No w0 w) (hr : Rd w F k n A l (E.bin o ta tb).r) (hoc : kc = o.code) (hcd : decide (kc ∈ [4, 6, 10, 12, 13]) = true) (hH : Blk w0 hb 4 #[.bool g]) (hd : g = true) (ha : ((ta : E).code == kc) = true) (hb2 : ((tb : E).code == kc) = true) (h10 : (kc != 10) = false) :
    Calls Tryd.prog 37 #[.agg #[.int .i64 k, .int .i64 n, .slice A l c], .bool tr, .pointer (some ⟨hb, 0, none⟩)] w (Made w F (.bin o tb ta)) := by
  subst hd
  have hB := hH.kept hK0 id
  have h0 : w.cell? ⟨hb, 0, none⟩ = some (.bool true) := hB.cell 0
  have hbw := hB.lt
  obtain ⟨hkk, rfl, rfl, gb, gq, ka, na, Aa, la, ca, kb, nb, Ab, lb, cb, rfl, h6, hra, hrb⟩ := open_bin (o := o) (kc := kc) hoc.symm hr
  have H6 := hide h6
  have HA0 := hide hra
  have HB0 := hide hrb
  have HB := hide hB
  subst hkk
  have hka := hra.k_eq.1
  rw [E.r_k] at hka
  have dka : (ka == k) = true := by rw [hka]; exact ha
  clear hka ha
  have hkb := hrb.k_eq.1
  rw [E.r_k] at hkb
  have dkb : (kb == k) = true := by rw [hkb]; exact hb2
  clear hkb hb2
  have e10 : (k != 10) = false := h10
  have HOC := hide hoc
  have HCD := hide hcd
  clear hr hK0 h6 hra hrb hH hB hoc hcd
  go_enter Tryd.func37, Tryd.ntmps37
  go_wp2_with fail
  refine (has_any [4, 6, 10, 12, 13] (some ⟨w.heap.size + 1 + 1, 0, none⟩) (w.heap.size + 1 + 1) 5 k _ (.inr rfl) ?hc (by simp)).mono ?_
  case hc =>
    intro i z hz
    have hB5 := Blk.at_ (w := (w.alloc (.cells #[.int .i64 k, .int .i64 0, .slice (some ⟨gb, gq, none⟩) (2) c] 24)).alloc (.cells #[.int .i64 0, .int .i64 0, .slice none 0 0] 24)) (t := 3) (cs := #[.int .i64 4, .int .i64 6, .int .i64 10, .int .i64 12, .int .i64 13]) (n := w.heap.size + 1 + 1) (by simp)
    rw [hB5.cell]
    match i, hz with
    | 0, hz => simp at hz; subst hz; rfl
    | 1, hz => simp at hz; subst hz; rfl
    | 2, hz => simp at hz; subst hz; rfl
    | 3, hz => simp at hz; subst hz; rfl
    | 4, hz => simp at hz; subst hz; rfl
    | i + 5, hz => simp at hz
  rintro e w9 ⟨rfl, rfl⟩
  rw [unhide HCD]
  go_wp2_with fail
  have HC := hide ((Ctx.start w k 0 (some ⟨gb, gq, none⟩) 2 c).go ((Kept.refl No _).alloc (.cells #[.int .i64 4, .int .i64 6, .int .i64 10, .int .i64 12, .int .i64 13] 3)))
  generalize ((w.alloc (.cells #[.int .i64 k, .int .i64 0, .slice (some ⟨gb, gq, none⟩) 2 c] 24)).alloc (.cells #[.int .i64 0, .int .i64 0, .slice none 0 0] 24)).alloc (.cells #[.int .i64 4, .int .i64 6, .int .i64 10, .int .i64 12, .int .i64 13] 3) = V at HC ⊢
  have Ha := hide (rd_in (unhide HA0) (unhide HC).kept)
  have Hb := hide (rd_in (unhide HB0) (unhide HC).kept)
  have hgV := (unhide HC).z.lt
  have KS := hide (show ∀ w', Kept No V w' → (w'.cell? ⟨w.heap.size, 0, none⟩ = some (.int .i64 k) ∧ w'.cell? ⟨w.heap.size, 2, none⟩ = some (.slice (some ⟨gb, gq, none⟩) 2 c) ∧ w'.cell? ⟨gb, gq, none⟩ = some (.int .i64 ka) ∧ w'.cell? ⟨gb, gq + 1, none⟩ = some (.int .i64 na) ∧ w'.cell? ⟨gb, gq + 2, none⟩ = some (.slice Aa la ca) ∧ w'.cell? ⟨gb, gq + 3, none⟩ = some (.int .i64 kb) ∧ w'.cell? ⟨gb, gq + 4, none⟩ = some (.int .i64 nb) ∧ w'.cell? ⟨gb, gq + 5, none⟩ = some (.slice Ab lb cb)) from fun w' hk =>
    have hx := (unhide HC).x.kept hk id
    have hk6 := ((unhide H6).kept (unhide HC).kept id).kept hk id
    ⟨hx.cell 0, hx.cell 2, hk6⟩)
  have HV := hide (Kept.refl No V).drew
  go_region_held3 (fun w' => w'.cell? ⟨w.heap.size, 0, none⟩ = some (.int .i64 k) ∧ w'.cell? ⟨w.heap.size, 2, none⟩ = some (.slice (some ⟨gb, gq, none⟩) 2 c) ∧ w'.cell? ⟨gb, gq, none⟩ = some (.int .i64 ka) ∧ w'.cell? ⟨gb, gq + 1, none⟩ = some (.int .i64 na) ∧ w'.cell? ⟨gb, gq + 2, none⟩ = some (.slice Aa la ca) ∧ w'.cell? ⟨gb, gq + 3, none⟩ = some (.int .i64 kb) ∧ w'.cell? ⟨gb, gq + 4, none⟩ = some (.int .i64 nb) ∧ w'.cell? ⟨gb, gq + 5, none⟩ = some (.slice Ab lb cb))
    (first
      | exact unhide KS _ (unhide HV)
      | exact unhide KS _ ((unhide HV).alloc _)
      | exact unhide KS _ (((unhide HV).alloc _).alloc _))
    (first | fail)
  · obtain ⟨hC2, hP, hQ, hKV⟩ := vars2 (unhide HC) ka na Aa la ca kb nb Ab lb cb
    have Ha := hide ((unhide Ha).kept hKV (fun _ _ _ => id))
    have Hb := hide ((unhide Hb).kept hKV (fun _ _ _ => id))
    have HC := hide hC2
    have HBp := hide hP
    have HBq := hide hQ
    have HKV := hide hKV
    clear hC2 hP hQ hKV
    generalize ((V.alloc (.cells #[.int .i64 ka, .int .i64 na, .slice Aa la ca] 24)).alloc (.cells #[.int .i64 kb, .int .i64 nb, .slice Ab lb cb] 24)).drew = W1 at Ha Hb HC HBp HBq HKV ⊢
    have hw2 : w.heap.size + 1 < V.heap.size := hgV
    have hpw := (unhide HBq).lt
    have p0 : W1.cell? ⟨V.heap.size, 0, none⟩ = some (.int .i64 ka) := (unhide HBp).cell 0
    have p1 : W1.cell? ⟨V.heap.size, 1, none⟩ = some (.int .i64 na) := (unhide HBp).cell 1
    have p2 : W1.cell? ⟨V.heap.size, 2, none⟩ = some (.slice Aa la ca) := (unhide HBp).cell 2
    have q0 : W1.cell? ⟨V.heap.size + 1, 0, none⟩ = some (.int .i64 kb) := (unhide HBq).cell 0
    have q1 : W1.cell? ⟨V.heap.size + 1, 1, none⟩ = some (.int .i64 nb) := (unhide HBq).cell 1
    have q2 : W1.cell? ⟨V.heap.size + 1, 2, none⟩ = some (.slice Ab lb cb) := (unhide HBq).cell 2
    obtain ⟨xs0, xs1, xs2⟩ := (unhide HC).xs
    have h0 : W1.cell? ⟨hb, 0, none⟩ = some (.bool true) := (((unhide HB).kept (unhide HC).kept id)).cell 0
    go_wp2_with fail
    refine (op2_at o (unhide HOC) _ tb ta kb nb Ab lb cb ka na Aa la ca (unhide Hb) (unhide Ha) ((unhide HC).hF _ (Nat.le_refl _))).mono ?_; rintro e w4 ⟨k4, n4, A4, l4, c4, rfl, hR4, hK4⟩; have HC := hide ((unhide HC).go hK4); have H4 := hide hR4; clear hR4 hK4
    obtain ⟨f0, f1, f2, z0, z1, z2, hlt⟩ := (unhide HC).zs
    go_wp2_with fail
    refine bodyPost_ret (v := .tuple #[.agg #[.int .i64 k4, .int .i64 n4, .slice A4 l4 c4], .bool true]) (by simp [results, Tryd.results37, go_sem, z0, z1, z2]) rfl ?_
    exact (unhide HC).made (unhide H4)
  · obtain ⟨hC2, hP, hQ, hKV⟩ := vars2 (unhide HC) kb nb Ab lb cb ka na Aa la ca
    have Ha := hide ((unhide Ha).kept hKV (fun _ _ _ => id))
    have Hb := hide ((unhide Hb).kept hKV (fun _ _ _ => id))
    have HC := hide hC2
    have HBp := hide hP
    have HBq := hide hQ
    have HKV := hide hKV
    clear hC2 hP hQ hKV
    generalize ((V.alloc (.cells #[.int .i64 kb, .int .i64 nb, .slice Ab lb cb] 24)).alloc (.cells #[.int .i64 ka, .int .i64 na, .slice Aa la ca] 24)).drew = W2 at Ha Hb HC HBp HBq HKV ⊢
    have hw2 : w.heap.size + 1 < V.heap.size := hgV
    have hpw := (unhide HBq).lt
    have p0 : W2.cell? ⟨V.heap.size, 0, none⟩ = some (.int .i64 kb) := (unhide HBp).cell 0
    have p1 : W2.cell? ⟨V.heap.size, 1, none⟩ = some (.int .i64 nb) := (unhide HBp).cell 1
    have p2 : W2.cell? ⟨V.heap.size, 2, none⟩ = some (.slice Ab lb cb) := (unhide HBp).cell 2
    have q0 : W2.cell? ⟨V.heap.size + 1, 0, none⟩ = some (.int .i64 ka) := (unhide HBq).cell 0
    have q1 : W2.cell? ⟨V.heap.size + 1, 1, none⟩ = some (.int .i64 na) := (unhide HBq).cell 1
    have q2 : W2.cell? ⟨V.heap.size + 1, 2, none⟩ = some (.slice Aa la ca) := (unhide HBq).cell 2
    obtain ⟨xs0, xs1, xs2⟩ := (unhide HC).xs
    have h0 : W2.cell? ⟨hb, 0, none⟩ = some (.bool true) := (((unhide HB).kept (unhide HC).kept id)).cell 0
    go_wp2_with fail
    refine (op2_at o (unhide HOC) _ tb ta kb nb Ab lb cb ka na Aa la ca (unhide Hb) (unhide Ha) ((unhide HC).hF _ (Nat.le_refl _))).mono ?_; rintro e w4 ⟨k4, n4, A4, l4, c4, rfl, hR4, hK4⟩; have HC := hide ((unhide HC).go hK4); have H4 := hide hR4; clear hR4 hK4
    obtain ⟨f0, f1, f2, z0, z1, z2, hlt⟩ := (unhide HC).zs
    go_wp2_with fail
    refine bodyPost_ret (v := .tuple #[.agg #[.int .i64 k4, .int .i64 n4, .slice A4 l4 c4], .bool true]) (by simp [results, Tryd.results37, go_sem, z0, z1, z2]) rfl ?_
    exact (unhide HC).made (unhide H4)
set_option maxRecDepth 100000 in
set_option maxHeartbeats 4000000 in
theorem tur_same_tf (g : Bool) (hb : Nat) (o : O2) (kc : Int) (w0 w : World) (F : Nat → Prop) (k n : Int) (A : Option Addr) (l c : Nat) (ta tb : E) (tr : Bool) (hK0 : Kept No w0 w) (hr : Rd w F k n A l (E.bin o ta tb).r) (hoc : kc = o.code) (hcd : decide (kc ∈ [4, 6, 10, 12, 13]) = true) (hH : Blk w0 hb 4 #[.bool g]) (hd : g = true) (ha : ((ta : E).code == kc) = true) (hb2 : ((tb : E).code == kc) = false) (h10 : (kc != 10) = false) :
    Calls Tryd.prog 37 #[.agg #[.int .i64 k, .int .i64 n, .slice A l c], .bool tr, .pointer (some ⟨hb, 0, none⟩)] w (Made w F (.bin o tb ta)) := by
  subst hd
  have hB := hH.kept hK0 id
  have h0 : w.cell? ⟨hb, 0, none⟩ = some (.bool true) := hB.cell 0
  have hbw := hB.lt
  obtain ⟨hkk, rfl, rfl, gb, gq, ka, na, Aa, la, ca, kb, nb, Ab, lb, cb, rfl, h6, hra, hrb⟩ := open_bin (o := o) (kc := kc) hoc.symm hr
  have H6 := hide h6
  have HA0 := hide hra
  have HB0 := hide hrb
  have HB := hide hB
  subst hkk
  have hka := hra.k_eq.1
  rw [E.r_k] at hka
  have dka : (ka == k) = true := by rw [hka]; exact ha
  clear hka ha
  have hkb := hrb.k_eq.1
  rw [E.r_k] at hkb
  have dkb : (kb == k) = false := by rw [hkb]; exact hb2
  clear hkb hb2
  have e10 : (k != 10) = false := h10
  have HOC := hide hoc
  have HCD := hide hcd
  clear hr hK0 h6 hra hrb hH hB hoc hcd
  go_enter Tryd.func37, Tryd.ntmps37
  go_wp2_with fail
  refine (has_any [4, 6, 10, 12, 13] (some ⟨w.heap.size + 1 + 1, 0, none⟩) (w.heap.size + 1 + 1) 5 k _ (.inr rfl) ?hc (by simp)).mono ?_
  case hc =>
    intro i z hz
    have hB5 := Blk.at_ (w := (w.alloc (.cells #[.int .i64 k, .int .i64 0, .slice (some ⟨gb, gq, none⟩) (2) c] 24)).alloc (.cells #[.int .i64 0, .int .i64 0, .slice none 0 0] 24)) (t := 3) (cs := #[.int .i64 4, .int .i64 6, .int .i64 10, .int .i64 12, .int .i64 13]) (n := w.heap.size + 1 + 1) (by simp)
    rw [hB5.cell]
    match i, hz with
    | 0, hz => simp at hz; subst hz; rfl
    | 1, hz => simp at hz; subst hz; rfl
    | 2, hz => simp at hz; subst hz; rfl
    | 3, hz => simp at hz; subst hz; rfl
    | 4, hz => simp at hz; subst hz; rfl
    | i + 5, hz => simp at hz
  rintro e w9 ⟨rfl, rfl⟩
  rw [unhide HCD]
  go_wp2_with fail
  have HC := hide ((Ctx.start w k 0 (some ⟨gb, gq, none⟩) 2 c).go ((Kept.refl No _).alloc (.cells #[.int .i64 4, .int .i64 6, .int .i64 10, .int .i64 12, .int .i64 13] 3)))
  generalize ((w.alloc (.cells #[.int .i64 k, .int .i64 0, .slice (some ⟨gb, gq, none⟩) 2 c] 24)).alloc (.cells #[.int .i64 0, .int .i64 0, .slice none 0 0] 24)).alloc (.cells #[.int .i64 4, .int .i64 6, .int .i64 10, .int .i64 12, .int .i64 13] 3) = V at HC ⊢
  have Ha := hide (rd_in (unhide HA0) (unhide HC).kept)
  have Hb := hide (rd_in (unhide HB0) (unhide HC).kept)
  have hgV := (unhide HC).z.lt
  have KS := hide (show ∀ w', Kept No V w' → (w'.cell? ⟨w.heap.size, 0, none⟩ = some (.int .i64 k) ∧ w'.cell? ⟨w.heap.size, 2, none⟩ = some (.slice (some ⟨gb, gq, none⟩) 2 c) ∧ w'.cell? ⟨gb, gq, none⟩ = some (.int .i64 ka) ∧ w'.cell? ⟨gb, gq + 1, none⟩ = some (.int .i64 na) ∧ w'.cell? ⟨gb, gq + 2, none⟩ = some (.slice Aa la ca) ∧ w'.cell? ⟨gb, gq + 3, none⟩ = some (.int .i64 kb) ∧ w'.cell? ⟨gb, gq + 4, none⟩ = some (.int .i64 nb) ∧ w'.cell? ⟨gb, gq + 5, none⟩ = some (.slice Ab lb cb)) from fun w' hk =>
    have hx := (unhide HC).x.kept hk id
    have hk6 := ((unhide H6).kept (unhide HC).kept id).kept hk id
    ⟨hx.cell 0, hx.cell 2, hk6⟩)
  have HV := hide (Kept.refl No V).drew
  go_region_held3 (fun w' => w'.cell? ⟨w.heap.size, 0, none⟩ = some (.int .i64 k) ∧ w'.cell? ⟨w.heap.size, 2, none⟩ = some (.slice (some ⟨gb, gq, none⟩) 2 c) ∧ w'.cell? ⟨gb, gq, none⟩ = some (.int .i64 ka) ∧ w'.cell? ⟨gb, gq + 1, none⟩ = some (.int .i64 na) ∧ w'.cell? ⟨gb, gq + 2, none⟩ = some (.slice Aa la ca) ∧ w'.cell? ⟨gb, gq + 3, none⟩ = some (.int .i64 kb) ∧ w'.cell? ⟨gb, gq + 4, none⟩ = some (.int .i64 nb) ∧ w'.cell? ⟨gb, gq + 5, none⟩ = some (.slice Ab lb cb))
    (first
      | exact unhide KS _ (unhide HV)
      | exact unhide KS _ ((unhide HV).alloc _)
      | exact unhide KS _ (((unhide HV).alloc _).alloc _))
    (first | fail)
  · obtain ⟨hC2, hP, hQ, hKV⟩ := vars2 (unhide HC) ka na Aa la ca kb nb Ab lb cb
    have Ha := hide ((unhide Ha).kept hKV (fun _ _ _ => id))
    have Hb := hide ((unhide Hb).kept hKV (fun _ _ _ => id))
    have HC := hide hC2
    have HBp := hide hP
    have HBq := hide hQ
    have HKV := hide hKV
    clear hC2 hP hQ hKV
    generalize ((V.alloc (.cells #[.int .i64 ka, .int .i64 na, .slice Aa la ca] 24)).alloc (.cells #[.int .i64 kb, .int .i64 nb, .slice Ab lb cb] 24)).drew = W1 at Ha Hb HC HBp HBq HKV ⊢
    have hw2 : w.heap.size + 1 < V.heap.size := hgV
    have hpw := (unhide HBq).lt
    have p0 : W1.cell? ⟨V.heap.size, 0, none⟩ = some (.int .i64 ka) := (unhide HBp).cell 0
    have p1 : W1.cell? ⟨V.heap.size, 1, none⟩ = some (.int .i64 na) := (unhide HBp).cell 1
    have p2 : W1.cell? ⟨V.heap.size, 2, none⟩ = some (.slice Aa la ca) := (unhide HBp).cell 2
    have q0 : W1.cell? ⟨V.heap.size + 1, 0, none⟩ = some (.int .i64 kb) := (unhide HBq).cell 0
    have q1 : W1.cell? ⟨V.heap.size + 1, 1, none⟩ = some (.int .i64 nb) := (unhide HBq).cell 1
    have q2 : W1.cell? ⟨V.heap.size + 1, 2, none⟩ = some (.slice Ab lb cb) := (unhide HBq).cell 2
    obtain ⟨xs0, xs1, xs2⟩ := (unhide HC).xs
    have h0 : W1.cell? ⟨hb, 0, none⟩ = some (.bool true) := (((unhide HB).kept (unhide HC).kept id)).cell 0
    go_wp2_with fail
    refine (op2_at o (unhide HOC) _ tb ta kb nb Ab lb cb ka na Aa la ca (unhide Hb) (unhide Ha) ((unhide HC).hF _ (Nat.le_refl _))).mono ?_; rintro e w4 ⟨k4, n4, A4, l4, c4, rfl, hR4, hK4⟩; have HC := hide ((unhide HC).go hK4); have H4 := hide hR4; clear hR4 hK4
    obtain ⟨f0, f1, f2, z0, z1, z2, hlt⟩ := (unhide HC).zs
    go_wp2_with fail
    refine bodyPost_ret (v := .tuple #[.agg #[.int .i64 k4, .int .i64 n4, .slice A4 l4 c4], .bool true]) (by simp [results, Tryd.results37, go_sem, z0, z1, z2]) rfl ?_
    exact (unhide HC).made (unhide H4)
  · obtain ⟨hC2, hP, hQ, hKV⟩ := vars2 (unhide HC) kb nb Ab lb cb ka na Aa la ca
    have Ha := hide ((unhide Ha).kept hKV (fun _ _ _ => id))
    have Hb := hide ((unhide Hb).kept hKV (fun _ _ _ => id))
    have HC := hide hC2
    have HBp := hide hP
    have HBq := hide hQ
    have HKV := hide hKV
    clear hC2 hP hQ hKV
    generalize ((V.alloc (.cells #[.int .i64 kb, .int .i64 nb, .slice Ab lb cb] 24)).alloc (.cells #[.int .i64 ka, .int .i64 na, .slice Aa la ca] 24)).drew = W2 at Ha Hb HC HBp HBq HKV ⊢
    have hw2 : w.heap.size + 1 < V.heap.size := hgV
    have hpw := (unhide HBq).lt
    have p0 : W2.cell? ⟨V.heap.size, 0, none⟩ = some (.int .i64 kb) := (unhide HBp).cell 0
    have p1 : W2.cell? ⟨V.heap.size, 1, none⟩ = some (.int .i64 nb) := (unhide HBp).cell 1
    have p2 : W2.cell? ⟨V.heap.size, 2, none⟩ = some (.slice Ab lb cb) := (unhide HBp).cell 2
    have q0 : W2.cell? ⟨V.heap.size + 1, 0, none⟩ = some (.int .i64 ka) := (unhide HBq).cell 0
    have q1 : W2.cell? ⟨V.heap.size + 1, 1, none⟩ = some (.int .i64 na) := (unhide HBq).cell 1
    have q2 : W2.cell? ⟨V.heap.size + 1, 2, none⟩ = some (.slice Aa la ca) := (unhide HBq).cell 2
    obtain ⟨xs0, xs1, xs2⟩ := (unhide HC).xs
    have h0 : W2.cell? ⟨hb, 0, none⟩ = some (.bool true) := (((unhide HB).kept (unhide HC).kept id)).cell 0
    go_wp2_with fail
    refine (op2_at o (unhide HOC) _ tb ta kb nb Ab lb cb ka na Aa la ca (unhide Hb) (unhide Ha) ((unhide HC).hF _ (Nat.le_refl _))).mono ?_; rintro e w4 ⟨k4, n4, A4, l4, c4, rfl, hR4, hK4⟩; have HC := hide ((unhide HC).go hK4); have H4 := hide hR4; clear hR4 hK4
    obtain ⟨f0, f1, f2, z0, z1, z2, hlt⟩ := (unhide HC).zs
    go_wp2_with fail
    refine bodyPost_ret (v := .tuple #[.agg #[.int .i64 k4, .int .i64 n4, .slice A4 l4 c4], .bool true]) (by simp [results, Tryd.results37, go_sem, z0, z1, z2]) rfl ?_
    exact (unhide HC).made (unhide H4)
set_option maxRecDepth 100000 in
set_option maxHeartbeats 4000000 in
theorem tur_same_ft (g : Bool) (hb : Nat) (o : O2) (kc : Int) (w0 w : World) (F : Nat → Prop) (k n : Int) (A : Option Addr) (l c : Nat) (ta tb : E) (tr : Bool) (hK0 : Kept No w0 w) (hr : Rd w F k n A l (E.bin o ta tb).r) (hoc : kc = o.code) (hcd : decide (kc ∈ [4, 6, 10, 12, 13]) = true) (hH : Blk w0 hb 4 #[.bool g]) (hd : g = true) (ha : ((ta : E).code == kc) = false) (hb2 : ((tb : E).code == kc) = true) (h10 : (kc != 10) = false) :
    Calls Tryd.prog 37 #[.agg #[.int .i64 k, .int .i64 n, .slice A l c], .bool tr, .pointer (some ⟨hb, 0, none⟩)] w (Made w F (.bin o tb ta)) := by
  subst hd
  have hB := hH.kept hK0 id
  have h0 : w.cell? ⟨hb, 0, none⟩ = some (.bool true) := hB.cell 0
  have hbw := hB.lt
  obtain ⟨hkk, rfl, rfl, gb, gq, ka, na, Aa, la, ca, kb, nb, Ab, lb, cb, rfl, h6, hra, hrb⟩ := open_bin (o := o) (kc := kc) hoc.symm hr
  have H6 := hide h6
  have HA0 := hide hra
  have HB0 := hide hrb
  have HB := hide hB
  subst hkk
  have hka := hra.k_eq.1
  rw [E.r_k] at hka
  have dka : (ka == k) = false := by rw [hka]; exact ha
  clear hka ha
  have hkb := hrb.k_eq.1
  rw [E.r_k] at hkb
  have dkb : (kb == k) = true := by rw [hkb]; exact hb2
  clear hkb hb2
  have e10 : (k != 10) = false := h10
  have HOC := hide hoc
  have HCD := hide hcd
  clear hr hK0 h6 hra hrb hH hB hoc hcd
  go_enter Tryd.func37, Tryd.ntmps37
  go_wp2_with fail
  refine (has_any [4, 6, 10, 12, 13] (some ⟨w.heap.size + 1 + 1, 0, none⟩) (w.heap.size + 1 + 1) 5 k _ (.inr rfl) ?hc (by simp)).mono ?_
  case hc =>
    intro i z hz
    have hB5 := Blk.at_ (w := (w.alloc (.cells #[.int .i64 k, .int .i64 0, .slice (some ⟨gb, gq, none⟩) (2) c] 24)).alloc (.cells #[.int .i64 0, .int .i64 0, .slice none 0 0] 24)) (t := 3) (cs := #[.int .i64 4, .int .i64 6, .int .i64 10, .int .i64 12, .int .i64 13]) (n := w.heap.size + 1 + 1) (by simp)
    rw [hB5.cell]
    match i, hz with
    | 0, hz => simp at hz; subst hz; rfl
    | 1, hz => simp at hz; subst hz; rfl
    | 2, hz => simp at hz; subst hz; rfl
    | 3, hz => simp at hz; subst hz; rfl
    | 4, hz => simp at hz; subst hz; rfl
    | i + 5, hz => simp at hz
  rintro e w9 ⟨rfl, rfl⟩
  rw [unhide HCD]
  go_wp2_with fail
  have HC := hide ((Ctx.start w k 0 (some ⟨gb, gq, none⟩) 2 c).go ((Kept.refl No _).alloc (.cells #[.int .i64 4, .int .i64 6, .int .i64 10, .int .i64 12, .int .i64 13] 3)))
  generalize ((w.alloc (.cells #[.int .i64 k, .int .i64 0, .slice (some ⟨gb, gq, none⟩) 2 c] 24)).alloc (.cells #[.int .i64 0, .int .i64 0, .slice none 0 0] 24)).alloc (.cells #[.int .i64 4, .int .i64 6, .int .i64 10, .int .i64 12, .int .i64 13] 3) = V at HC ⊢
  have Ha := hide (rd_in (unhide HA0) (unhide HC).kept)
  have Hb := hide (rd_in (unhide HB0) (unhide HC).kept)
  have hgV := (unhide HC).z.lt
  have KS := hide (show ∀ w', Kept No V w' → (w'.cell? ⟨w.heap.size, 0, none⟩ = some (.int .i64 k) ∧ w'.cell? ⟨w.heap.size, 2, none⟩ = some (.slice (some ⟨gb, gq, none⟩) 2 c) ∧ w'.cell? ⟨gb, gq, none⟩ = some (.int .i64 ka) ∧ w'.cell? ⟨gb, gq + 1, none⟩ = some (.int .i64 na) ∧ w'.cell? ⟨gb, gq + 2, none⟩ = some (.slice Aa la ca) ∧ w'.cell? ⟨gb, gq + 3, none⟩ = some (.int .i64 kb) ∧ w'.cell? ⟨gb, gq + 4, none⟩ = some (.int .i64 nb) ∧ w'.cell? ⟨gb, gq + 5, none⟩ = some (.slice Ab lb cb)) from fun w' hk =>
    have hx := (unhide HC).x.kept hk id
    have hk6 := ((unhide H6).kept (unhide HC).kept id).kept hk id
    ⟨hx.cell 0, hx.cell 2, hk6⟩)
  have HV := hide (Kept.refl No V).drew
  go_region_held3 (fun w' => w'.cell? ⟨w.heap.size, 0, none⟩ = some (.int .i64 k) ∧ w'.cell? ⟨w.heap.size, 2, none⟩ = some (.slice (some ⟨gb, gq, none⟩) 2 c) ∧ w'.cell? ⟨gb, gq, none⟩ = some (.int .i64 ka) ∧ w'.cell? ⟨gb, gq + 1, none⟩ = some (.int .i64 na) ∧ w'.cell? ⟨gb, gq + 2, none⟩ = some (.slice Aa la ca) ∧ w'.cell? ⟨gb, gq + 3, none⟩ = some (.int .i64 kb) ∧ w'.cell? ⟨gb, gq + 4, none⟩ = some (.int .i64 nb) ∧ w'.cell? ⟨gb, gq + 5, none⟩ = some (.slice Ab lb cb))
    (first
      | exact unhide KS _ (unhide HV)
      | exact unhide KS _ ((unhide HV).alloc _)
      | exact unhide KS _ (((unhide HV).alloc _).alloc _))
    (first | fail)
  · obtain ⟨hC2, hP, hQ, hKV⟩ := vars2 (unhide HC) ka na Aa la ca kb nb Ab lb cb
    have Ha := hide ((unhide Ha).kept hKV (fun _ _ _ => id))
    have Hb := hide ((unhide Hb).kept hKV (fun _ _ _ => id))
    have HC := hide hC2
    have HBp := hide hP
    have HBq := hide hQ
    have HKV := hide hKV
    clear hC2 hP hQ hKV
    generalize ((V.alloc (.cells #[.int .i64 ka, .int .i64 na, .slice Aa la ca] 24)).alloc (.cells #[.int .i64 kb, .int .i64 nb, .slice Ab lb cb] 24)).drew = W1 at Ha Hb HC HBp HBq HKV ⊢
    have hw2 : w.heap.size + 1 < V.heap.size := hgV
    have hpw := (unhide HBq).lt
    have p0 : W1.cell? ⟨V.heap.size, 0, none⟩ = some (.int .i64 ka) := (unhide HBp).cell 0
    have p1 : W1.cell? ⟨V.heap.size, 1, none⟩ = some (.int .i64 na) := (unhide HBp).cell 1
    have p2 : W1.cell? ⟨V.heap.size, 2, none⟩ = some (.slice Aa la ca) := (unhide HBp).cell 2
    have q0 : W1.cell? ⟨V.heap.size + 1, 0, none⟩ = some (.int .i64 kb) := (unhide HBq).cell 0
    have q1 : W1.cell? ⟨V.heap.size + 1, 1, none⟩ = some (.int .i64 nb) := (unhide HBq).cell 1
    have q2 : W1.cell? ⟨V.heap.size + 1, 2, none⟩ = some (.slice Ab lb cb) := (unhide HBq).cell 2
    obtain ⟨xs0, xs1, xs2⟩ := (unhide HC).xs
    have h0 : W1.cell? ⟨hb, 0, none⟩ = some (.bool true) := (((unhide HB).kept (unhide HC).kept id)).cell 0
    go_wp2_with fail
    refine (op2_at o (unhide HOC) _ tb ta kb nb Ab lb cb ka na Aa la ca (unhide Hb) (unhide Ha) ((unhide HC).hF _ (Nat.le_refl _))).mono ?_; rintro e w4 ⟨k4, n4, A4, l4, c4, rfl, hR4, hK4⟩; have HC := hide ((unhide HC).go hK4); have H4 := hide hR4; clear hR4 hK4
    obtain ⟨f0, f1, f2, z0, z1, z2, hlt⟩ := (unhide HC).zs
    go_wp2_with fail
    refine bodyPost_ret (v := .tuple #[.agg #[.int .i64 k4, .int .i64 n4, .slice A4 l4 c4], .bool true]) (by simp [results, Tryd.results37, go_sem, z0, z1, z2]) rfl ?_
    exact (unhide HC).made (unhide H4)
  · obtain ⟨hC2, hP, hQ, hKV⟩ := vars2 (unhide HC) kb nb Ab lb cb ka na Aa la ca
    have Ha := hide ((unhide Ha).kept hKV (fun _ _ _ => id))
    have Hb := hide ((unhide Hb).kept hKV (fun _ _ _ => id))
    have HC := hide hC2
    have HBp := hide hP
    have HBq := hide hQ
    have HKV := hide hKV
    clear hC2 hP hQ hKV
    generalize ((V.alloc (.cells #[.int .i64 kb, .int .i64 nb, .slice Ab lb cb] 24)).alloc (.cells #[.int .i64 ka, .int .i64 na, .slice Aa la ca] 24)).drew = W2 at Ha Hb HC HBp HBq HKV ⊢
    have hw2 : w.heap.size + 1 < V.heap.size := hgV
    have hpw := (unhide HBq).lt
    have p0 : W2.cell? ⟨V.heap.size, 0, none⟩ = some (.int .i64 kb) := (unhide HBp).cell 0
    have p1 : W2.cell? ⟨V.heap.size, 1, none⟩ = some (.int .i64 nb) := (unhide HBp).cell 1
    have p2 : W2.cell? ⟨V.heap.size, 2, none⟩ = some (.slice Ab lb cb) := (unhide HBp).cell 2
    have q0 : W2.cell? ⟨V.heap.size + 1, 0, none⟩ = some (.int .i64 ka) := (unhide HBq).cell 0
    have q1 : W2.cell? ⟨V.heap.size + 1, 1, none⟩ = some (.int .i64 na) := (unhide HBq).cell 1
    have q2 : W2.cell? ⟨V.heap.size + 1, 2, none⟩ = some (.slice Aa la ca) := (unhide HBq).cell 2
    obtain ⟨xs0, xs1, xs2⟩ := (unhide HC).xs
    have h0 : W2.cell? ⟨hb, 0, none⟩ = some (.bool true) := (((unhide HB).kept (unhide HC).kept id)).cell 0
    go_wp2_with fail
    refine (op2_at o (unhide HOC) _ tb ta kb nb Ab lb cb ka na Aa la ca (unhide Hb) (unhide Ha) ((unhide HC).hF _ (Nat.le_refl _))).mono ?_; rintro e w4 ⟨k4, n4, A4, l4, c4, rfl, hR4, hK4⟩; have HC := hide ((unhide HC).go hK4); have H4 := hide hR4; clear hR4 hK4
    obtain ⟨f0, f1, f2, z0, z1, z2, hlt⟩ := (unhide HC).zs
    go_wp2_with fail
    refine bodyPost_ret (v := .tuple #[.agg #[.int .i64 k4, .int .i64 n4, .slice A4 l4 c4], .bool true]) (by simp [results, Tryd.results37, go_sem, z0, z1, z2]) rfl ?_
    exact (unhide HC).made (unhide H4)
set_option maxRecDepth 100000 in
set_option maxHeartbeats 4000000 in
theorem tur_same_ff (g : Bool) (hb : Nat) (o : O2) (kc : Int) (w0 w : World) (F : Nat → Prop) (k n : Int) (A : Option Addr) (l c : Nat) (ta tb : E) (tr : Bool) (hK0 : Kept No w0 w) (hr : Rd w F k n A l (E.bin o ta tb).r) (hoc : kc = o.code) (hcd : decide (kc ∈ [4, 6, 10, 12, 13]) = true) (hH : Blk w0 hb 4 #[.bool g]) (hd : g = true) (ha : ((ta : E).code == kc) = false) (hb2 : ((tb : E).code == kc) = false) (h10 : (kc != 10) = false) :
    Calls Tryd.prog 37 #[.agg #[.int .i64 k, .int .i64 n, .slice A l c], .bool tr, .pointer (some ⟨hb, 0, none⟩)] w (Made w F (.bin o tb ta)) := by
  subst hd
  have hB := hH.kept hK0 id
  have h0 : w.cell? ⟨hb, 0, none⟩ = some (.bool true) := hB.cell 0
  have hbw := hB.lt
  obtain ⟨hkk, rfl, rfl, gb, gq, ka, na, Aa, la, ca, kb, nb, Ab, lb, cb, rfl, h6, hra, hrb⟩ := open_bin (o := o) (kc := kc) hoc.symm hr
  have H6 := hide h6
  have HA0 := hide hra
  have HB0 := hide hrb
  have HB := hide hB
  subst hkk
  have hka := hra.k_eq.1
  rw [E.r_k] at hka
  have dka : (ka == k) = false := by rw [hka]; exact ha
  clear hka ha
  have hkb := hrb.k_eq.1
  rw [E.r_k] at hkb
  have dkb : (kb == k) = false := by rw [hkb]; exact hb2
  clear hkb hb2
  have e10 : (k != 10) = false := h10
  have HOC := hide hoc
  have HCD := hide hcd
  clear hr hK0 h6 hra hrb hH hB hoc hcd
  go_enter Tryd.func37, Tryd.ntmps37
  go_wp2_with fail
  refine (has_any [4, 6, 10, 12, 13] (some ⟨w.heap.size + 1 + 1, 0, none⟩) (w.heap.size + 1 + 1) 5 k _ (.inr rfl) ?hc (by simp)).mono ?_
  case hc =>
    intro i z hz
    have hB5 := Blk.at_ (w := (w.alloc (.cells #[.int .i64 k, .int .i64 0, .slice (some ⟨gb, gq, none⟩) (2) c] 24)).alloc (.cells #[.int .i64 0, .int .i64 0, .slice none 0 0] 24)) (t := 3) (cs := #[.int .i64 4, .int .i64 6, .int .i64 10, .int .i64 12, .int .i64 13]) (n := w.heap.size + 1 + 1) (by simp)
    rw [hB5.cell]
    match i, hz with
    | 0, hz => simp at hz; subst hz; rfl
    | 1, hz => simp at hz; subst hz; rfl
    | 2, hz => simp at hz; subst hz; rfl
    | 3, hz => simp at hz; subst hz; rfl
    | 4, hz => simp at hz; subst hz; rfl
    | i + 5, hz => simp at hz
  rintro e w9 ⟨rfl, rfl⟩
  rw [unhide HCD]
  go_wp2_with fail
  have HC := hide ((Ctx.start w k 0 (some ⟨gb, gq, none⟩) 2 c).go ((Kept.refl No _).alloc (.cells #[.int .i64 4, .int .i64 6, .int .i64 10, .int .i64 12, .int .i64 13] 3)))
  generalize ((w.alloc (.cells #[.int .i64 k, .int .i64 0, .slice (some ⟨gb, gq, none⟩) 2 c] 24)).alloc (.cells #[.int .i64 0, .int .i64 0, .slice none 0 0] 24)).alloc (.cells #[.int .i64 4, .int .i64 6, .int .i64 10, .int .i64 12, .int .i64 13] 3) = V at HC ⊢
  have Ha := hide (rd_in (unhide HA0) (unhide HC).kept)
  have Hb := hide (rd_in (unhide HB0) (unhide HC).kept)
  have hgV := (unhide HC).z.lt
  have KS := hide (show ∀ w', Kept No V w' → (w'.cell? ⟨w.heap.size, 0, none⟩ = some (.int .i64 k) ∧ w'.cell? ⟨w.heap.size, 2, none⟩ = some (.slice (some ⟨gb, gq, none⟩) 2 c) ∧ w'.cell? ⟨gb, gq, none⟩ = some (.int .i64 ka) ∧ w'.cell? ⟨gb, gq + 1, none⟩ = some (.int .i64 na) ∧ w'.cell? ⟨gb, gq + 2, none⟩ = some (.slice Aa la ca) ∧ w'.cell? ⟨gb, gq + 3, none⟩ = some (.int .i64 kb) ∧ w'.cell? ⟨gb, gq + 4, none⟩ = some (.int .i64 nb) ∧ w'.cell? ⟨gb, gq + 5, none⟩ = some (.slice Ab lb cb)) from fun w' hk =>
    have hx := (unhide HC).x.kept hk id
    have hk6 := ((unhide H6).kept (unhide HC).kept id).kept hk id
    ⟨hx.cell 0, hx.cell 2, hk6⟩)
  have HV := hide (Kept.refl No V).drew
  go_region_held3 (fun w' => w'.cell? ⟨w.heap.size, 0, none⟩ = some (.int .i64 k) ∧ w'.cell? ⟨w.heap.size, 2, none⟩ = some (.slice (some ⟨gb, gq, none⟩) 2 c) ∧ w'.cell? ⟨gb, gq, none⟩ = some (.int .i64 ka) ∧ w'.cell? ⟨gb, gq + 1, none⟩ = some (.int .i64 na) ∧ w'.cell? ⟨gb, gq + 2, none⟩ = some (.slice Aa la ca) ∧ w'.cell? ⟨gb, gq + 3, none⟩ = some (.int .i64 kb) ∧ w'.cell? ⟨gb, gq + 4, none⟩ = some (.int .i64 nb) ∧ w'.cell? ⟨gb, gq + 5, none⟩ = some (.slice Ab lb cb))
    (first
      | exact unhide KS _ (unhide HV)
      | exact unhide KS _ ((unhide HV).alloc _)
      | exact unhide KS _ (((unhide HV).alloc _).alloc _))
    (first | fail)
  · obtain ⟨hC2, hP, hQ, hKV⟩ := vars2 (unhide HC) ka na Aa la ca kb nb Ab lb cb
    have Ha := hide ((unhide Ha).kept hKV (fun _ _ _ => id))
    have Hb := hide ((unhide Hb).kept hKV (fun _ _ _ => id))
    have HC := hide hC2
    have HBp := hide hP
    have HBq := hide hQ
    have HKV := hide hKV
    clear hC2 hP hQ hKV
    generalize ((V.alloc (.cells #[.int .i64 ka, .int .i64 na, .slice Aa la ca] 24)).alloc (.cells #[.int .i64 kb, .int .i64 nb, .slice Ab lb cb] 24)).drew = W1 at Ha Hb HC HBp HBq HKV ⊢
    have hw2 : w.heap.size + 1 < V.heap.size := hgV
    have hpw := (unhide HBq).lt
    have p0 : W1.cell? ⟨V.heap.size, 0, none⟩ = some (.int .i64 ka) := (unhide HBp).cell 0
    have p1 : W1.cell? ⟨V.heap.size, 1, none⟩ = some (.int .i64 na) := (unhide HBp).cell 1
    have p2 : W1.cell? ⟨V.heap.size, 2, none⟩ = some (.slice Aa la ca) := (unhide HBp).cell 2
    have q0 : W1.cell? ⟨V.heap.size + 1, 0, none⟩ = some (.int .i64 kb) := (unhide HBq).cell 0
    have q1 : W1.cell? ⟨V.heap.size + 1, 1, none⟩ = some (.int .i64 nb) := (unhide HBq).cell 1
    have q2 : W1.cell? ⟨V.heap.size + 1, 2, none⟩ = some (.slice Ab lb cb) := (unhide HBq).cell 2
    obtain ⟨xs0, xs1, xs2⟩ := (unhide HC).xs
    have h0 : W1.cell? ⟨hb, 0, none⟩ = some (.bool true) := (((unhide HB).kept (unhide HC).kept id)).cell 0
    go_wp2_with fail
    refine (op2_at o (unhide HOC) _ tb ta kb nb Ab lb cb ka na Aa la ca (unhide Hb) (unhide Ha) ((unhide HC).hF _ (Nat.le_refl _))).mono ?_; rintro e w4 ⟨k4, n4, A4, l4, c4, rfl, hR4, hK4⟩; have HC := hide ((unhide HC).go hK4); have H4 := hide hR4; clear hR4 hK4
    obtain ⟨f0, f1, f2, z0, z1, z2, hlt⟩ := (unhide HC).zs
    go_wp2_with fail
    refine bodyPost_ret (v := .tuple #[.agg #[.int .i64 k4, .int .i64 n4, .slice A4 l4 c4], .bool true]) (by simp [results, Tryd.results37, go_sem, z0, z1, z2]) rfl ?_
    exact (unhide HC).made (unhide H4)
  · obtain ⟨hC2, hP, hQ, hKV⟩ := vars2 (unhide HC) kb nb Ab lb cb ka na Aa la ca
    have Ha := hide ((unhide Ha).kept hKV (fun _ _ _ => id))
    have Hb := hide ((unhide Hb).kept hKV (fun _ _ _ => id))
    have HC := hide hC2
    have HBp := hide hP
    have HBq := hide hQ
    have HKV := hide hKV
    clear hC2 hP hQ hKV
    generalize ((V.alloc (.cells #[.int .i64 kb, .int .i64 nb, .slice Ab lb cb] 24)).alloc (.cells #[.int .i64 ka, .int .i64 na, .slice Aa la ca] 24)).drew = W2 at Ha Hb HC HBp HBq HKV ⊢
    have hw2 : w.heap.size + 1 < V.heap.size := hgV
    have hpw := (unhide HBq).lt
    have p0 : W2.cell? ⟨V.heap.size, 0, none⟩ = some (.int .i64 kb) := (unhide HBp).cell 0
    have p1 : W2.cell? ⟨V.heap.size, 1, none⟩ = some (.int .i64 nb) := (unhide HBp).cell 1
    have p2 : W2.cell? ⟨V.heap.size, 2, none⟩ = some (.slice Ab lb cb) := (unhide HBp).cell 2
    have q0 : W2.cell? ⟨V.heap.size + 1, 0, none⟩ = some (.int .i64 ka) := (unhide HBq).cell 0
    have q1 : W2.cell? ⟨V.heap.size + 1, 1, none⟩ = some (.int .i64 na) := (unhide HBq).cell 1
    have q2 : W2.cell? ⟨V.heap.size + 1, 2, none⟩ = some (.slice Aa la ca) := (unhide HBq).cell 2
    obtain ⟨xs0, xs1, xs2⟩ := (unhide HC).xs
    have h0 : W2.cell? ⟨hb, 0, none⟩ = some (.bool true) := (((unhide HB).kept (unhide HC).kept id)).cell 0
    go_wp2_with fail
    refine (op2_at o (unhide HOC) _ tb ta kb nb Ab lb cb ka na Aa la ca (unhide Hb) (unhide Ha) ((unhide HC).hF _ (Nat.le_refl _))).mono ?_; rintro e w4 ⟨k4, n4, A4, l4, c4, rfl, hR4, hK4⟩; have HC := hide ((unhide HC).go hK4); have H4 := hide hR4; clear hR4 hK4
    obtain ⟨f0, f1, f2, z0, z1, z2, hlt⟩ := (unhide HC).zs
    go_wp2_with fail
    refine bodyPost_ret (v := .tuple #[.agg #[.int .i64 k4, .int .i64 n4, .slice A4 l4 c4], .bool true]) (by simp [results, Tryd.results37, go_sem, z0, z1, z2]) rfl ?_
    exact (unhide HC).made (unhide H4)
set_option maxRecDepth 100000 in
set_option maxHeartbeats 4000000 in
theorem tur_none (g : Bool) (hb : Nat) (o : O2) (kc : Int) (w0 w : World) (F : Nat → Prop) (k n : Int) (A : Option Addr) (l c : Nat) (ta tb : E) (tr : Bool) (hK0 : Kept No w0 w) (hr : Rd w F k n A l (E.bin o ta tb).r) (hoc : kc = o.code) (hcd : decide (kc ∈ [4, 6, 10, 12, 13]) = true) (hH : Blk w0 hb 4 #[.bool g]) (hd : g = true) (ha : ((ta : E).code == kc) = false) (hb2 : ((tb : E).code == kc) = false) (h10 : (kc != 10) = true) :
    Calls Tryd.prog 37 #[.agg #[.int .i64 k, .int .i64 n, .slice A l c], .bool tr, .pointer (some ⟨hb, 0, none⟩)] w (Made w F (.bin o tb ta)) := by
  subst hd
  have hB := hH.kept hK0 id
  have h0 : w.cell? ⟨hb, 0, none⟩ = some (.bool true) := hB.cell 0
  have hbw := hB.lt
  obtain ⟨hkk, rfl, rfl, gb, gq, ka, na, Aa, la, ca, kb, nb, Ab, lb, cb, rfl, h6, hra, hrb⟩ := open_bin (o := o) (kc := kc) hoc.symm hr
  have H6 := hide h6
  have HA0 := hide hra
  have HB0 := hide hrb
  have HB := hide hB
  subst hkk
  have hka := hra.k_eq.1
  rw [E.r_k] at hka
  have dka : (ka == k) = false := by rw [hka]; exact ha
  clear hka ha
  have hkb := hrb.k_eq.1
  rw [E.r_k] at hkb
  have dkb : (kb == k) = false := by rw [hkb]; exact hb2
  clear hkb hb2
  have e10 : (k != 10) = true := h10
  have HOC := hide hoc
  have HCD := hide hcd
  clear hr hK0 h6 hra hrb hH hB hoc hcd
  go_enter Tryd.func37, Tryd.ntmps37
  go_wp2_with fail
  refine (has_any [4, 6, 10, 12, 13] (some ⟨w.heap.size + 1 + 1, 0, none⟩) (w.heap.size + 1 + 1) 5 k _ (.inr rfl) ?hc (by simp)).mono ?_
  case hc =>
    intro i z hz
    have hB5 := Blk.at_ (w := (w.alloc (.cells #[.int .i64 k, .int .i64 0, .slice (some ⟨gb, gq, none⟩) (2) c] 24)).alloc (.cells #[.int .i64 0, .int .i64 0, .slice none 0 0] 24)) (t := 3) (cs := #[.int .i64 4, .int .i64 6, .int .i64 10, .int .i64 12, .int .i64 13]) (n := w.heap.size + 1 + 1) (by simp)
    rw [hB5.cell]
    match i, hz with
    | 0, hz => simp at hz; subst hz; rfl
    | 1, hz => simp at hz; subst hz; rfl
    | 2, hz => simp at hz; subst hz; rfl
    | 3, hz => simp at hz; subst hz; rfl
    | 4, hz => simp at hz; subst hz; rfl
    | i + 5, hz => simp at hz
  rintro e w9 ⟨rfl, rfl⟩
  rw [unhide HCD]
  go_wp2_with fail
  have HC := hide ((Ctx.start w k 0 (some ⟨gb, gq, none⟩) 2 c).go ((Kept.refl No _).alloc (.cells #[.int .i64 4, .int .i64 6, .int .i64 10, .int .i64 12, .int .i64 13] 3)))
  generalize ((w.alloc (.cells #[.int .i64 k, .int .i64 0, .slice (some ⟨gb, gq, none⟩) 2 c] 24)).alloc (.cells #[.int .i64 0, .int .i64 0, .slice none 0 0] 24)).alloc (.cells #[.int .i64 4, .int .i64 6, .int .i64 10, .int .i64 12, .int .i64 13] 3) = V at HC ⊢
  have Ha := hide (rd_in (unhide HA0) (unhide HC).kept)
  have Hb := hide (rd_in (unhide HB0) (unhide HC).kept)
  have hgV := (unhide HC).z.lt
  have KS := hide (show ∀ w', Kept No V w' → (w'.cell? ⟨w.heap.size, 0, none⟩ = some (.int .i64 k) ∧ w'.cell? ⟨w.heap.size, 2, none⟩ = some (.slice (some ⟨gb, gq, none⟩) 2 c) ∧ w'.cell? ⟨gb, gq, none⟩ = some (.int .i64 ka) ∧ w'.cell? ⟨gb, gq + 1, none⟩ = some (.int .i64 na) ∧ w'.cell? ⟨gb, gq + 2, none⟩ = some (.slice Aa la ca) ∧ w'.cell? ⟨gb, gq + 3, none⟩ = some (.int .i64 kb) ∧ w'.cell? ⟨gb, gq + 4, none⟩ = some (.int .i64 nb) ∧ w'.cell? ⟨gb, gq + 5, none⟩ = some (.slice Ab lb cb)) from fun w' hk =>
    have hx := (unhide HC).x.kept hk id
    have hk6 := ((unhide H6).kept (unhide HC).kept id).kept hk id
    ⟨hx.cell 0, hx.cell 2, hk6⟩)
  have HV := hide (Kept.refl No V).drew
  go_region_held3 (fun w' => w'.cell? ⟨w.heap.size, 0, none⟩ = some (.int .i64 k) ∧ w'.cell? ⟨w.heap.size, 2, none⟩ = some (.slice (some ⟨gb, gq, none⟩) 2 c) ∧ w'.cell? ⟨gb, gq, none⟩ = some (.int .i64 ka) ∧ w'.cell? ⟨gb, gq + 1, none⟩ = some (.int .i64 na) ∧ w'.cell? ⟨gb, gq + 2, none⟩ = some (.slice Aa la ca) ∧ w'.cell? ⟨gb, gq + 3, none⟩ = some (.int .i64 kb) ∧ w'.cell? ⟨gb, gq + 4, none⟩ = some (.int .i64 nb) ∧ w'.cell? ⟨gb, gq + 5, none⟩ = some (.slice Ab lb cb))
    (first
      | exact unhide KS _ (unhide HV)
      | exact unhide KS _ ((unhide HV).alloc _)
      | exact unhide KS _ (((unhide HV).alloc _).alloc _))
    (first | fail)
  · obtain ⟨hC2, hP, hQ, hKV⟩ := vars2 (unhide HC) ka na Aa la ca kb nb Ab lb cb
    have Ha := hide ((unhide Ha).kept hKV (fun _ _ _ => id))
    have Hb := hide ((unhide Hb).kept hKV (fun _ _ _ => id))
    have HC := hide hC2
    have HBp := hide hP
    have HBq := hide hQ
    have HKV := hide hKV
    clear hC2 hP hQ hKV
    generalize ((V.alloc (.cells #[.int .i64 ka, .int .i64 na, .slice Aa la ca] 24)).alloc (.cells #[.int .i64 kb, .int .i64 nb, .slice Ab lb cb] 24)).drew = W1 at Ha Hb HC HBp HBq HKV ⊢
    have hw2 : w.heap.size + 1 < V.heap.size := hgV
    have hpw := (unhide HBq).lt
    have p0 : W1.cell? ⟨V.heap.size, 0, none⟩ = some (.int .i64 ka) := (unhide HBp).cell 0
    have p1 : W1.cell? ⟨V.heap.size, 1, none⟩ = some (.int .i64 na) := (unhide HBp).cell 1
    have p2 : W1.cell? ⟨V.heap.size, 2, none⟩ = some (.slice Aa la ca) := (unhide HBp).cell 2
    have q0 : W1.cell? ⟨V.heap.size + 1, 0, none⟩ = some (.int .i64 kb) := (unhide HBq).cell 0
    have q1 : W1.cell? ⟨V.heap.size + 1, 1, none⟩ = some (.int .i64 nb) := (unhide HBq).cell 1
    have q2 : W1.cell? ⟨V.heap.size + 1, 2, none⟩ = some (.slice Ab lb cb) := (unhide HBq).cell 2
    obtain ⟨xs0, xs1, xs2⟩ := (unhide HC).xs
    have h0 : W1.cell? ⟨hb, 0, none⟩ = some (.bool true) := (((unhide HB).kept (unhide HC).kept id)).cell 0
    go_wp2_with fail
    refine (op2_at o (unhide HOC) _ tb ta kb nb Ab lb cb ka na Aa la ca (unhide Hb) (unhide Ha) ((unhide HC).hF _ (Nat.le_refl _))).mono ?_; rintro e w4 ⟨k4, n4, A4, l4, c4, rfl, hR4, hK4⟩; have HC := hide ((unhide HC).go hK4); have H4 := hide hR4; clear hR4 hK4
    obtain ⟨f0, f1, f2, z0, z1, z2, hlt⟩ := (unhide HC).zs
    go_wp2_with fail
    refine bodyPost_ret (v := .tuple #[.agg #[.int .i64 k4, .int .i64 n4, .slice A4 l4 c4], .bool true]) (by simp [results, Tryd.results37, go_sem, z0, z1, z2]) rfl ?_
    exact (unhide HC).made (unhide H4)
  · obtain ⟨hC2, hP, hQ, hKV⟩ := vars2 (unhide HC) kb nb Ab lb cb ka na Aa la ca
    have Ha := hide ((unhide Ha).kept hKV (fun _ _ _ => id))
    have Hb := hide ((unhide Hb).kept hKV (fun _ _ _ => id))
    have HC := hide hC2
    have HBp := hide hP
    have HBq := hide hQ
    have HKV := hide hKV
    clear hC2 hP hQ hKV
    generalize ((V.alloc (.cells #[.int .i64 kb, .int .i64 nb, .slice Ab lb cb] 24)).alloc (.cells #[.int .i64 ka, .int .i64 na, .slice Aa la ca] 24)).drew = W2 at Ha Hb HC HBp HBq HKV ⊢
    have hw2 : w.heap.size + 1 < V.heap.size := hgV
    have hpw := (unhide HBq).lt
    have p0 : W2.cell? ⟨V.heap.size, 0, none⟩ = some (.int .i64 kb) := (unhide HBp).cell 0
    have p1 : W2.cell? ⟨V.heap.size, 1, none⟩ = some (.int .i64 nb) := (unhide HBp).cell 1
    have p2 : W2.cell? ⟨V.heap.size, 2, none⟩ = some (.slice Ab lb cb) := (unhide HBp).cell 2
    have q0 : W2.cell? ⟨V.heap.size + 1, 0, none⟩ = some (.int .i64 ka) := (unhide HBq).cell 0
    have q1 : W2.cell? ⟨V.heap.size + 1, 1, none⟩ = some (.int .i64 na) := (unhide HBq).cell 1
    have q2 : W2.cell? ⟨V.heap.size + 1, 2, none⟩ = some (.slice Aa la ca) := (unhide HBq).cell 2
    obtain ⟨xs0, xs1, xs2⟩ := (unhide HC).xs
    have h0 : W2.cell? ⟨hb, 0, none⟩ = some (.bool true) := (((unhide HB).kept (unhide HC).kept id)).cell 0
    go_wp2_with fail
    refine (op2_at o (unhide HOC) _ tb ta kb nb Ab lb cb ka na Aa la ca (unhide Hb) (unhide Ha) ((unhide HC).hF _ (Nat.le_refl _))).mono ?_; rintro e w4 ⟨k4, n4, A4, l4, c4, rfl, hR4, hK4⟩; have HC := hide ((unhide HC).go hK4); have H4 := hide hR4; clear hR4 hK4
    obtain ⟨f0, f1, f2, z0, z1, z2, hlt⟩ := (unhide HC).zs
    go_wp2_with fail
    refine bodyPost_ret (v := .tuple #[.agg #[.int .i64 k4, .int .i64 n4, .slice A4 l4 c4], .bool true]) (by simp [results, Tryd.results37, go_sem, z0, z1, z2]) rfl ?_
    exact (unhide HC).made (unhide H4)
set_option maxRecDepth 100000 in
set_option maxHeartbeats 4000000 in
theorem tur_left (g : Bool) (hb : Nat) (o : O2) (kc : Int) (w0 w : World) (F : Nat → Prop) (k n : Int) (A : Option Addr) (l c : Nat) (tc td tb : E) (tr : Bool) (hK0 : Kept No w0 w) (hr : Rd w F k n A l (E.bin o (.bin o tc td) tb).r) (hoc : kc = o.code) (hcd : decide (kc ∈ [4, 6, 10, 12, 13]) = true) (hH : Blk w0 hb 4 #[.bool g]) (hd : g = true) (ha : (((.bin o tc td) : E).code == kc) = true) (h10 : (kc != 10) = true) :
    Calls Tryd.prog 37 #[.agg #[.int .i64 k, .int .i64 n, .slice A l c], .bool tr, .pointer (some ⟨hb, 0, none⟩)] w (Made w F (.bin o tc (.bin o td tb))) := by
  subst hd
  have hB := hH.kept hK0 id
  have h0 : w.cell? ⟨hb, 0, none⟩ = some (.bool true) := hB.cell 0
  have hbw := hB.lt
  obtain ⟨hkk, rfl, rfl, gb, gq, ka, na, Aa, la, ca, kb, nb, Ab, lb, cb, rfl, h6, hra, hrb⟩ := open_bin (o := o) (kc := kc) hoc.symm hr
  have H6 := hide h6
  have HA0 := hide hra
  have HB0 := hide hrb
  have HB := hide hB
  subst hkk
  obtain ⟨hkx, rfl, rfl, gb2, gq2, ku, nu, Au, lu, cu, kv, nv, Av, lv, cv, rfl, h62, hru, hrv⟩ := open_bin (o := o) (kc := k) hoc.symm (unhide HA0)
  have H62 := hide h62
  have HU0 := hide hru
  have HV0 := hide hrv
  clear h62 hru hrv hkx
  have hka := hra.k_eq.1
  rw [E.r_k] at hka
  have dka : (ka == k) = true := by rw [hka]; exact ha
  clear hka ha
  have e10 : (k != 10) = true := h10
  have HOC := hide hoc
  have HCD := hide hcd
  clear hr hK0 h6 hra hrb hH hB hoc hcd
  go_enter Tryd.func37, Tryd.ntmps37
  go_wp2_with fail
  
  refine (has_any [4, 6, 10, 12, 13] (some ⟨w.heap.size + 1 + 1, 0, none⟩) (w.heap.size + 1 + 1) 5 k _ (.inr rfl) ?hc (by simp)).mono ?_
  case hc =>
    intro i z hz
    have hB5 := Blk.at_ (w := (w.alloc (.cells #[.int .i64 k, .int .i64 0, .slice (some ⟨gb, gq, none⟩) (2) c] 24)).alloc (.cells #[.int .i64 0, .int .i64 0, .slice none 0 0] 24)) (t := 3) (cs := #[.int .i64 4, .int .i64 6, .int .i64 10, .int .i64 12, .int .i64 13]) (n := w.heap.size + 1 + 1) (by simp)
    rw [hB5.cell]
    match i, hz with
    | 0, hz => simp at hz; subst hz; rfl
    | 1, hz => simp at hz; subst hz; rfl
    | 2, hz => simp at hz; subst hz; rfl
    | 3, hz => simp at hz; subst hz; rfl
    | 4, hz => simp at hz; subst hz; rfl
    | i + 5, hz => simp at hz
  rintro e w9 ⟨rfl, rfl⟩
  rw [unhide HCD]
  go_wp2_with fail
  have HC := hide ((Ctx.start w k 0 (some ⟨gb, gq, none⟩) 2 c).go ((Kept.refl No _).alloc (.cells #[.int .i64 4, .int .i64 6, .int .i64 10, .int .i64 12, .int .i64 13] 3)))
  generalize ((w.alloc (.cells #[.int .i64 k, .int .i64 0, .slice (some ⟨gb, gq, none⟩) 2 c] 24)).alloc (.cells #[.int .i64 0, .int .i64 0, .slice none 0 0] 24)).alloc (.cells #[.int .i64 4, .int .i64 6, .int .i64 10, .int .i64 12, .int .i64 13] 3) = V at HC ⊢
  have Ha := hide (rd_in (unhide HA0) (unhide HC).kept)
  have Hb := hide (rd_in (unhide HB0) (unhide HC).kept)
  have Hu := hide (rd_in (unhide HU0) (unhide HC).kept)
  have Hv := hide (rd_in (unhide HV0) (unhide HC).kept)
  have hgV := (unhide HC).z.lt
  have KS := hide (show ∀ w', Kept No V w' → (w'.cell? ⟨w.heap.size, 0, none⟩ = some (.int .i64 k) ∧ w'.cell? ⟨w.heap.size, 2, none⟩ = some (.slice (some ⟨gb, gq, none⟩) 2 c) ∧ w'.cell? ⟨gb, gq, none⟩ = some (.int .i64 ka) ∧ w'.cell? ⟨gb, gq + 1, none⟩ = some (.int .i64 0) ∧ w'.cell? ⟨gb, gq + 2, none⟩ = some (.slice (some ⟨gb2, gq2, none⟩) 2 ca) ∧ w'.cell? ⟨gb, gq + 3, none⟩ = some (.int .i64 kb) ∧ w'.cell? ⟨gb, gq + 4, none⟩ = some (.int .i64 nb) ∧ w'.cell? ⟨gb, gq + 5, none⟩ = some (.slice Ab lb cb)) from fun w' hk =>
    have hx := (unhide HC).x.kept hk id
    have hk6 := ((unhide H6).kept (unhide HC).kept id).kept hk id
    ⟨hx.cell 0, hx.cell 2, hk6⟩)
  have HV := hide (Kept.refl No V).drew
  go_region_held3 (fun w' => w'.cell? ⟨w.heap.size, 0, none⟩ = some (.int .i64 k) ∧ w'.cell? ⟨w.heap.size, 2, none⟩ = some (.slice (some ⟨gb, gq, none⟩) 2 c) ∧ w'.cell? ⟨gb, gq, none⟩ = some (.int .i64 ka) ∧ w'.cell? ⟨gb, gq + 1, none⟩ = some (.int .i64 0) ∧ w'.cell? ⟨gb, gq + 2, none⟩ = some (.slice (some ⟨gb2, gq2, none⟩) 2 ca) ∧ w'.cell? ⟨gb, gq + 3, none⟩ = some (.int .i64 kb) ∧ w'.cell? ⟨gb, gq + 4, none⟩ = some (.int .i64 nb) ∧ w'.cell? ⟨gb, gq + 5, none⟩ = some (.slice Ab lb cb))
    (first
      | exact unhide KS _ (unhide HV)
      | exact unhide KS _ ((unhide HV).alloc _)
      | exact unhide KS _ (((unhide HV).alloc _).alloc _))
    (first | fail)
  · obtain ⟨hC2, hP, hQ, hKV⟩ := vars2 (unhide HC) ka 0 (some ⟨gb2, gq2, none⟩) 2 ca kb nb Ab lb cb
    have Ha := hide ((unhide Ha).kept hKV (fun _ _ _ => id))
    have Hb := hide ((unhide Hb).kept hKV (fun _ _ _ => id))
    have Hu := hide ((unhide Hu).kept hKV (fun _ _ _ => id))
    have Hv := hide ((unhide Hv).kept hKV (fun _ _ _ => id))
    have HC := hide hC2
    have HBp := hide hP
    have HBq := hide hQ
    have HKV := hide hKV
    clear hC2 hP hQ hKV
    generalize ((V.alloc (.cells #[.int .i64 ka, .int .i64 0, .slice (some ⟨gb2, gq2, none⟩) 2 ca] 24)).alloc (.cells #[.int .i64 kb, .int .i64 nb, .slice Ab lb cb] 24)).drew = W1 at Ha Hb Hu Hv HC HBp HBq HKV ⊢
    have hw2 : w.heap.size + 1 < V.heap.size := hgV
    have hpw := (unhide HBq).lt
    have p0 : W1.cell? ⟨V.heap.size, 0, none⟩ = some (.int .i64 ka) := (unhide HBp).cell 0
    have p1 : W1.cell? ⟨V.heap.size, 1, none⟩ = some (.int .i64 0) := (unhide HBp).cell 1
    have p2 : W1.cell? ⟨V.heap.size, 2, none⟩ = some (.slice (some ⟨gb2, gq2, none⟩) 2 ca) := (unhide HBp).cell 2
    have q0 : W1.cell? ⟨V.heap.size + 1, 0, none⟩ = some (.int .i64 kb) := (unhide HBq).cell 0
    have q1 : W1.cell? ⟨V.heap.size + 1, 1, none⟩ = some (.int .i64 nb) := (unhide HBq).cell 1
    have q2 : W1.cell? ⟨V.heap.size + 1, 2, none⟩ = some (.slice Ab lb cb) := (unhide HBq).cell 2
    obtain ⟨xs0, xs1, xs2⟩ := (unhide HC).xs
    have h0 : W1.cell? ⟨hb, 0, none⟩ = some (.bool true) := (((unhide HB).kept (unhide HC).kept id)).cell 0
    go_wp2_with fail
    refine wp_region_inv 17 [] (by kernel_rfl) (by kernel_rfl) (fun y1 => { tmps := #[Value.agg #[Value.int IntKind.i64 k, Value.int IntKind.i64 0, Value.slice (some { block := gb, off := gq }) 2 c], Value.bool tr, Value.pointer (some { block := hb, off := 0 }), Value.pointer (some { block := w.heap.size, off := 0 }), undef, Value.pointer (some { block := w.heap.size + 1, off := 0 }), Value.bool false, Value.pointer (some { block := V.heap.size, off := 0 }), Value.pointer (some { block := V.heap.size + 1, off := 0 }), Value.slice (some { block := w.heap.size + 1 + 1, off := 0 }) 5 5, Value.pointer (some { block := w.heap.size, off := 0 }), Value.int IntKind.i64 k, Value.bool true, Value.bool false, undef, Value.pointer (some { block := w.heap.size, off := 2 }), Value.slice (some { block := gb, off := gq }) 2 c, Value.pointer (some { block := gb, off := gq }), Value.agg #[Value.int IntKind.i64 ka, Value.int IntKind.i64 0, Value.slice (some { block := gb2, off := gq2 }) 2 ca], Value.pointer (some { block := w.heap.size, off := 2 }), Value.slice (some { block := gb, off := gq }) 2 c, Value.pointer (some { block := gb, off := gq + 3 }), Value.agg #[Value.int IntKind.i64 kb, Value.int IntKind.i64 nb, Value.slice Ab lb cb], Value.bool true, Value.bool true, Value.bool true, Value.pointer (some { block := V.heap.size, off := 0 }), Value.int IntKind.i64 ka, Value.pointer (some { block := w.heap.size, off := 0 }), Value.int IntKind.i64 k, Value.bool true, Value.bool true, Value.bool true, Value.pointer (some { block := w.heap.size, off := 0 }), Value.int IntKind.i64 k, Value.bool true, Value.bool true, y1 0, y1 1, y1 2, y1 3, y1 4, y1 5, y1 6, y1 7, y1 8, y1 9, y1 10, y1 11, y1 12, y1 13, y1 14, y1 15, y1 16, undef, undef, undef, undef, undef, undef, undef, undef, undef, undef, undef, undef, undef, undef, undef, undef, undef, undef, undef, undef, undef, undef, undef, undef, undef, undef, undef, undef, undef, undef, undef, undef, undef, undef, undef, undef, undef], defers := [] }) (fun _ => undef) (fun i v W => Sh.ok (FN F w) W (([Sh.val (.pointer (some ⟨w.heap.size, 0, none⟩)), Sh.val (.int .i64 k), Sh.val (.pointer (some ⟨V.heap.size, 2, none⟩)), Sh.val (.slice (some ⟨gb2, gq2, none⟩) 2 ca), Sh.val (.pointer (some ⟨gb2, gq2, none⟩)), Sh.tree tc, Sh.val (.pointer (some ⟨w.heap.size, 0, none⟩)), Sh.val (.int .i64 k), Sh.val (.pointer (some ⟨V.heap.size, 2, none⟩)), Sh.val (.slice (some ⟨gb2, gq2, none⟩) 2 ca), Sh.val (.pointer (some ⟨gb2, gq2 + 3, none⟩)), Sh.tree td, Sh.tree tb, Sh.row [td, tb], Sh.tree (.bin o td tb), Sh.row [tc, (.bin o td tb)], Sh.tree (.bin o tc (.bin o td tb))] : List Sh).getD i .any) v) (fun i v W W' hK h => Sh.kept hK _ _ h) ?_ ?_
    · refine ⟨?_, ?_, ?_, ?_, ?_, ?_, ?_, ?_, ?_, ?_, ?_, ?_, ?_, ?_, ?_, ?_, ?_, trivial⟩
      · refine ⟨fun x v => rfl, fun y1 S W hK hall hdep K hcont => ?_⟩
        have HCONT := hide hcont
        have HKW := hide hK
        clear hcont hK hall hdep
        rw [if_pos (by rfl)]
        go_simp
        exact unhide HCONT _ _ _ rfl (Kept.refl No _) rfl (fun h => absurd h (by decide))
      · refine ⟨fun x v => rfl, fun y1 S W hK hall hdep K hcont => ?_⟩
        have HCONT := hide hcont
        have HKW := hide hK
        have d0 := hall 0 (by decide) (hdep ⟨0, Ground.data⟩ (by simp) rfl)
        clear hcont hK hall hdep
        have e0 : y1 0 = .pointer (some ⟨w.heap.size, 0, none⟩) := d0
        obtain ⟨xs0, xs1, xs2⟩ := ((unhide HC).go (unhide HKW)).xs
        rw [if_pos (by rfl)]
        simp only [e0]
        go_simp
        exact unhide HCONT _ _ _ (by (try simp only [e0]); rfl) (Kept.refl No _) rfl (fun h => absurd h (by decide))
      · refine ⟨fun x v => rfl, fun y1 S W hK hall hdep K hcont => ?_⟩
        have HCONT := hide hcont
        have HKW := hide hK
        clear hcont hK hall hdep
        rw [if_pos (by rfl)]
        go_simp
        exact unhide HCONT _ _ _ rfl (Kept.refl No _) rfl (fun h => absurd h (by decide))
      · refine ⟨fun x v => rfl, fun y1 S W hK hall hdep K hcont => ?_⟩
        have HCONT := hide hcont
        have HKW := hide hK
        have d2 := hall 2 (by decide) (hdep ⟨2, Ground.data⟩ (by simp) rfl)
        clear hcont hK hall hdep
        have e2 : y1 2 = .pointer (some ⟨V.heap.size, 2, none⟩) := d2
        obtain ⟨pq0, pq1, pq2⟩ : _ ∧ _ ∧ _ := ⟨((unhide HBp).kept (unhide HKW) id).cell 0, ((unhide HBp).kept (unhide HKW) id).cell 1, ((unhide HBp).kept (unhide HKW) id).cell 2⟩
        rw [if_pos (by rfl)]
        simp only [e2]
        go_simp
        exact unhide HCONT _ _ _ (by (try simp only [e2]); rfl) (Kept.refl No _) rfl (fun h => absurd h (by decide))
      · refine ⟨fun x v => rfl, fun y1 S W hK hall hdep K hcont => ?_⟩
        have HCONT := hide hcont
        have HKW := hide hK
        have d3 := hall 3 (by decide) (hdep ⟨3, Ground.data⟩ (by simp) rfl)
        clear hcont hK hall hdep
        have e3 : y1 3 = .slice (some ⟨gb2, gq2, none⟩) 2 ca := d3
        rw [if_pos (by rfl)]
        simp only [e3]
        go_simp
        exact unhide HCONT _ _ _ (by (try simp only [e3]); rfl) (Kept.refl No _) rfl (fun h => absurd h (by decide))
      · refine ⟨fun x v => rfl, fun y1 S W hK hall hdep K hcont => ?_⟩
        have HCONT := hide hcont
        have HKW := hide hK
        have d4 := hall 4 (by decide) (hdep ⟨4, Ground.data⟩ (by simp) rfl)
        clear hcont hK hall hdep
        have e4 : y1 4 = .pointer (some ⟨gb2, gq2, none⟩) := d4
        obtain ⟨j60, j61, j62, j63, j64, j65⟩ := ((unhide H62).kept (unhide HC).kept id).kept (unhide HKW) id
        rw [if_pos (by rfl)]
        simp only [e4]
        go_simp
        exact unhide HCONT _ _ _ (by (try simp only [e4]); rfl) (Kept.refl No _) ⟨_, _, _, _, _, rfl, (unhide Hu).kept (unhide HKW) (fun _ _ _ => id)⟩ (fun h => absurd h (by decide))
      · refine ⟨fun x v => rfl, fun y1 S W hK hall hdep K hcont => ?_⟩
        have HCONT := hide hcont
        have HKW := hide hK
        clear hcont hK hall hdep
        rw [if_pos (by rfl)]
        go_simp
        exact unhide HCONT _ _ _ rfl (Kept.refl No _) rfl (fun h => absurd h (by decide))
      · refine ⟨fun x v => rfl, fun y1 S W hK hall hdep K hcont => ?_⟩
        have HCONT := hide hcont
        have HKW := hide hK
        have d6 := hall 6 (by decide) (hdep ⟨6, Ground.data⟩ (by simp) rfl)
        clear hcont hK hall hdep
        have e6 : y1 6 = .pointer (some ⟨w.heap.size, 0, none⟩) := d6
        obtain ⟨xs0, xs1, xs2⟩ := ((unhide HC).go (unhide HKW)).xs
        rw [if_pos (by rfl)]
        simp only [e6]
        go_simp
        exact unhide HCONT _ _ _ (by (try simp only [e6]); rfl) (Kept.refl No _) rfl (fun h => absurd h (by decide))
      · refine ⟨fun x v => rfl, fun y1 S W hK hall hdep K hcont => ?_⟩
        have HCONT := hide hcont
        have HKW := hide hK
        clear hcont hK hall hdep
        rw [if_pos (by rfl)]
        go_simp
        exact unhide HCONT _ _ _ rfl (Kept.refl No _) rfl (fun h => absurd h (by decide))
      · refine ⟨fun x v => rfl, fun y1 S W hK hall hdep K hcont => ?_⟩
        have HCONT := hide hcont
        have HKW := hide hK
        have d8 := hall 8 (by decide) (hdep ⟨8, Ground.data⟩ (by simp) rfl)
        clear hcont hK hall hdep
        have e8 : y1 8 = .pointer (some ⟨V.heap.size, 2, none⟩) := d8
        obtain ⟨pq0, pq1, pq2⟩ : _ ∧ _ ∧ _ := ⟨((unhide HBp).kept (unhide HKW) id).cell 0, ((unhide HBp).kept (unhide HKW) id).cell 1, ((unhide HBp).kept (unhide HKW) id).cell 2⟩
        rw [if_pos (by rfl)]
        simp only [e8]
        go_simp
        exact unhide HCONT _ _ _ (by (try simp only [e8]); rfl) (Kept.refl No _) rfl (fun h => absurd h (by decide))
      · refine ⟨fun x v => rfl, fun y1 S W hK hall hdep K hcont => ?_⟩
        have HCONT := hide hcont
        have HKW := hide hK
        have d9 := hall 9 (by decide) (hdep ⟨9, Ground.data⟩ (by simp) rfl)
        clear hcont hK hall hdep
        have e9 : y1 9 = .slice (some ⟨gb2, gq2, none⟩) 2 ca := d9
        rw [if_pos (by rfl)]
        simp only [e9]
        go_simp
        exact unhide HCONT _ _ _ (by (try simp only [e9]); rfl) (Kept.refl No _) rfl (fun h => absurd h (by decide))
      · refine ⟨fun x v => rfl, fun y1 S W hK hall hdep K hcont => ?_⟩
        have HCONT := hide hcont
        have HKW := hide hK
        have d10 := hall 10 (by decide) (hdep ⟨10, Ground.data⟩ (by simp) rfl)
        clear hcont hK hall hdep
        have e10 : y1 10 = .pointer (some ⟨gb2, gq2 + 3, none⟩) := d10
        obtain ⟨j60, j61, j62, j63, j64, j65⟩ := ((unhide H62).kept (unhide HC).kept id).kept (unhide HKW) id
        rw [if_pos (by rfl)]
        simp only [e10]
        go_simp
        exact unhide HCONT _ _ _ (by (try simp only [e10]); rfl) (Kept.refl No _) ⟨_, _, _, _, _, rfl, (unhide Hv).kept (unhide HKW) (fun _ _ _ => id)⟩ (fun h => absurd h (by decide))
      · refine ⟨fun x v => rfl, fun y1 S W hK hall hdep K hcont => ?_⟩
        have HCONT := hide hcont
        have HKW := hide hK
        clear hcont hK hall hdep
        obtain ⟨qq0, qq1, qq2⟩ : _ ∧ _ ∧ _ := ⟨((unhide HBq).kept (unhide HKW) id).cell 0, ((unhide HBq).kept (unhide HKW) id).cell 1, ((unhide HBq).kept (unhide HKW) id).cell 2⟩
        rw [if_pos (by rfl)]
        go_simp
        exact unhide HCONT _ _ _ rfl (Kept.refl No _) ⟨_, _, _, _, _, rfl, (unhide Hb).kept (unhide HKW) (fun _ _ _ => id)⟩ (fun h => absurd h (by decide))
      · refine ⟨fun x v => rfl, fun y1 S W hK hall hdep K hcont => ?_⟩
        have HCONT := hide hcont
        have HKW := hide hK
        have d11 := hall 11 (by decide) (hdep ⟨11, Ground.data⟩ (by simp) rfl)
        have d12 := hall 12 (by decide) (hdep ⟨12, Ground.data⟩ (by simp) rfl)
        clear hcont hK hall hdep
        obtain ⟨k11, n11, A11, l11, c11, e11, r11⟩ := d11
        obtain ⟨k12, n12, A12, l12, c12, e12, r12⟩ := d12
        rw [if_pos (by rfl)]
        simp only [e11, e12]
        go_simp
        exact unhide HCONT _ _ _ (by (try simp only [e11, e12]); rfl) ((Kept.refl No _).alloc _) (row2_new r11 r12 ((unhide HC).go (unhide HKW)).hF) (fun h => absurd h (by decide))
      · refine ⟨fun x v => rfl, fun y1 S W hK hall hdep K hcont => ?_⟩
        have HCONT := hide hcont
        have HKW := hide hK
        have d7 := hall 7 (by decide) (hdep ⟨7, Ground.data⟩ (by simp) rfl)
        have d13 := hall 13 (by decide) (hdep ⟨13, Ground.data⟩ (by simp) rfl)
        clear hcont hK hall hdep
        have e7 : y1 7 = .int .i64 k := d7
        obtain ⟨b13, e13, f13, r13⟩ := d13
        rw [if_pos (by rfl)]
        simp only [e7, e13]
        go_simp
        refine (op2_row o (unhide HOC) _ b13 td tb r13 f13).mono ?_
        rintro e w1 ⟨k_, n_, A_, l_, c_, rfl, hR1, hK1⟩
        exact unhide HCONT _ _ _ (by (try simp only [e7, e13]); rfl) hK1 ⟨_, _, _, _, _, rfl, hR1⟩ (fun h => absurd h (by decide))
      · refine ⟨fun x v => rfl, fun y1 S W hK hall hdep K hcont => ?_⟩
        have HCONT := hide hcont
        have HKW := hide hK
        have d5 := hall 5 (by decide) (hdep ⟨5, Ground.data⟩ (by simp) rfl)
        have d14 := hall 14 (by decide) (hdep ⟨14, Ground.data⟩ (by simp) rfl)
        clear hcont hK hall hdep
        obtain ⟨k5, n5, A5, l5, c5, e5, r5⟩ := d5
        obtain ⟨k14, n14, A14, l14, c14, e14, r14⟩ := d14
        rw [if_pos (by rfl)]
        simp only [e5, e14]
        go_simp
        exact unhide HCONT _ _ _ (by (try simp only [e5, e14]); rfl) ((Kept.refl No _).alloc _) (row2_new r5 r14 ((unhide HC).go (unhide HKW)).hF) (fun h => absurd h (by decide))
      · refine ⟨fun x v => rfl, fun y1 S W hK hall hdep K hcont => ?_⟩
        have HCONT := hide hcont
        have HKW := hide hK
        have d1 := hall 1 (by decide) (hdep ⟨1, Ground.data⟩ (by simp) rfl)
        have d15 := hall 15 (by decide) (hdep ⟨15, Ground.data⟩ (by simp) rfl)
        clear hcont hK hall hdep
        have e1 : y1 1 = .int .i64 k := d1
        obtain ⟨b15, e15, f15, r15⟩ := d15
        rw [if_pos (by rfl)]
        simp only [e1, e15]
        go_simp
        refine (op2_row o (unhide HOC) _ b15 tc (.bin o td tb) r15 f15).mono ?_
        rintro e w1 ⟨k_, n_, A_, l_, c_, rfl, hR1, hK1⟩
        exact unhide HCONT _ _ _ (by (try simp only [e1, e15]); rfl) hK1 ⟨_, _, _, _, _, rfl, hR1⟩ (fun h => absurd h (by decide))
    · intro y1 W2 hK hx hD
      obtain ⟨k4, n4, A4, l4, c4, e4, r4⟩ := hx 16 (by decide)
      have hvz := (unhide HC).z.lt
      have Ha := hide ((unhide Ha).kept hK (fun _ _ _ => id))
      have Hb := hide ((unhide Hb).kept hK (fun _ _ _ => id))
      have Hu := hide ((unhide Hu).kept hK (fun _ _ _ => id))
      have Hv := hide ((unhide Hv).kept hK (fun _ _ _ => id))
      have HC := hide ((unhide HC).go hK)
      have H4 := hide r4
      clear r4
      simp only [e4, List.drop]
      clear hK hx hD hvz e4
      obtain ⟨f0, f1, f2, z0, z1, z2, hlt⟩ := (unhide HC).zs
      go_wp2_with fail
      refine bodyPost_ret (v := .tuple #[.agg #[.int .i64 k4, .int .i64 n4, .slice A4 l4 c4], .bool true]) (by simp [results, Tryd.results37, go_sem, z0, z1, z2]) rfl ?_
      exact (unhide HC).made (unhide H4)
  · obtain ⟨hC2, hP, hQ, hKV⟩ := vars2 (unhide HC) kb nb Ab lb cb ka 0 (some ⟨gb2, gq2, none⟩) 2 ca
    have Ha := hide ((unhide Ha).kept hKV (fun _ _ _ => id))
    have Hb := hide ((unhide Hb).kept hKV (fun _ _ _ => id))
    have Hu := hide ((unhide Hu).kept hKV (fun _ _ _ => id))
    have Hv := hide ((unhide Hv).kept hKV (fun _ _ _ => id))
    have HC := hide hC2
    have HBp := hide hP
    have HBq := hide hQ
    have HKV := hide hKV
    clear hC2 hP hQ hKV
    generalize ((V.alloc (.cells #[.int .i64 kb, .int .i64 nb, .slice Ab lb cb] 24)).alloc (.cells #[.int .i64 ka, .int .i64 0, .slice (some ⟨gb2, gq2, none⟩) 2 ca] 24)).drew = W3 at Ha Hb Hu Hv HC HBp HBq HKV ⊢
    have hw2 : w.heap.size + 1 < V.heap.size := hgV
    have hpw := (unhide HBq).lt
    have p0 : W3.cell? ⟨V.heap.size, 0, none⟩ = some (.int .i64 kb) := (unhide HBp).cell 0
    have p1 : W3.cell? ⟨V.heap.size, 1, none⟩ = some (.int .i64 nb) := (unhide HBp).cell 1
    have p2 : W3.cell? ⟨V.heap.size, 2, none⟩ = some (.slice Ab lb cb) := (unhide HBp).cell 2
    have q0 : W3.cell? ⟨V.heap.size + 1, 0, none⟩ = some (.int .i64 ka) := (unhide HBq).cell 0
    have q1 : W3.cell? ⟨V.heap.size + 1, 1, none⟩ = some (.int .i64 0) := (unhide HBq).cell 1
    have q2 : W3.cell? ⟨V.heap.size + 1, 2, none⟩ = some (.slice (some ⟨gb2, gq2, none⟩) 2 ca) := (unhide HBq).cell 2
    obtain ⟨xs0, xs1, xs2⟩ := (unhide HC).xs
    have h0 : W3.cell? ⟨hb, 0, none⟩ = some (.bool true) := (((unhide HB).kept (unhide HC).kept id)).cell 0
    go_wp2_with fail
    refine wp_region_inv 17 [] (by kernel_rfl) (by kernel_rfl) (fun y2 => { tmps := #[Value.agg #[Value.int IntKind.i64 k, Value.int IntKind.i64 0, Value.slice (some { block := gb, off := gq }) 2 c], Value.bool tr, Value.pointer (some { block := hb, off := 0 }), Value.pointer (some { block := w.heap.size, off := 0 }), undef, Value.pointer (some { block := w.heap.size + 1, off := 0 }), Value.bool false, Value.pointer (some { block := V.heap.size + 1, off := 0 }), Value.pointer (some { block := V.heap.size, off := 0 }), Value.slice (some { block := w.heap.size + 1 + 1, off := 0 }) 5 5, Value.pointer (some { block := w.heap.size, off := 0 }), Value.int IntKind.i64 k, Value.bool true, Value.bool false, undef, Value.pointer (some { block := w.heap.size, off := 2 }), Value.slice (some { block := gb, off := gq }) 2 c, Value.pointer (some { block := gb, off := gq }), Value.agg #[Value.int IntKind.i64 ka, Value.int IntKind.i64 0, Value.slice (some { block := gb2, off := gq2 }) 2 ca], Value.pointer (some { block := w.heap.size, off := 2 }), Value.slice (some { block := gb, off := gq }) 2 c, Value.pointer (some { block := gb, off := gq + 3 }), Value.agg #[Value.int IntKind.i64 kb, Value.int IntKind.i64 nb, Value.slice Ab lb cb], Value.bool true, Value.bool true, Value.bool true, Value.pointer (some { block := V.heap.size + 1, off := 0 }), Value.int IntKind.i64 ka, Value.pointer (some { block := w.heap.size, off := 0 }), Value.int IntKind.i64 k, Value.bool true, Value.bool true, Value.bool true, Value.pointer (some { block := w.heap.size, off := 0 }), Value.int IntKind.i64 k, Value.bool true, Value.bool true, y2 0, y2 1, y2 2, y2 3, y2 4, y2 5, y2 6, y2 7, y2 8, y2 9, y2 10, y2 11, y2 12, y2 13, y2 14, y2 15, y2 16, undef, undef, undef, undef, undef, undef, undef, undef, undef, undef, undef, undef, undef, undef, undef, undef, undef, undef, undef, undef, undef, undef, undef, undef, undef, undef, undef, undef, undef, undef, undef, undef, undef, undef, undef, undef, undef], defers := [] }) (fun _ => undef) (fun i v W => Sh.ok (FN F w) W (([Sh.val (.pointer (some ⟨w.heap.size, 0, none⟩)), Sh.val (.int .i64 k), Sh.val (.pointer (some ⟨V.heap.size + 1, 2, none⟩)), Sh.val (.slice (some ⟨gb2, gq2, none⟩) 2 ca), Sh.val (.pointer (some ⟨gb2, gq2, none⟩)), Sh.tree tc, Sh.val (.pointer (some ⟨w.heap.size, 0, none⟩)), Sh.val (.int .i64 k), Sh.val (.pointer (some ⟨V.heap.size + 1, 2, none⟩)), Sh.val (.slice (some ⟨gb2, gq2, none⟩) 2 ca), Sh.val (.pointer (some ⟨gb2, gq2 + 3, none⟩)), Sh.tree td, Sh.tree tb, Sh.row [td, tb], Sh.tree (.bin o td tb), Sh.row [tc, (.bin o td tb)], Sh.tree (.bin o tc (.bin o td tb))] : List Sh).getD i .any) v) (fun i v W W' hK h => Sh.kept hK _ _ h) ?_ ?_
    · refine ⟨?_, ?_, ?_, ?_, ?_, ?_, ?_, ?_, ?_, ?_, ?_, ?_, ?_, ?_, ?_, ?_, ?_, trivial⟩
      · refine ⟨fun x v => rfl, fun y2 S W hK hall hdep K hcont => ?_⟩
        have HCONT := hide hcont
        have HKW := hide hK
        clear hcont hK hall hdep
        rw [if_pos (by rfl)]
        go_simp
        exact unhide HCONT _ _ _ rfl (Kept.refl No _) rfl (fun h => absurd h (by decide))
      · refine ⟨fun x v => rfl, fun y2 S W hK hall hdep K hcont => ?_⟩
        have HCONT := hide hcont
        have HKW := hide hK
        have d0 := hall 0 (by decide) (hdep ⟨0, Ground.data⟩ (by simp) rfl)
        clear hcont hK hall hdep
        have e0 : y2 0 = .pointer (some ⟨w.heap.size, 0, none⟩) := d0
        obtain ⟨xs0, xs1, xs2⟩ := ((unhide HC).go (unhide HKW)).xs
        rw [if_pos (by rfl)]
        simp only [e0]
        go_simp
        exact unhide HCONT _ _ _ (by (try simp only [e0]); rfl) (Kept.refl No _) rfl (fun h => absurd h (by decide))
      · refine ⟨fun x v => rfl, fun y2 S W hK hall hdep K hcont => ?_⟩
        have HCONT := hide hcont
        have HKW := hide hK
        clear hcont hK hall hdep
        rw [if_pos (by rfl)]
        go_simp
        exact unhide HCONT _ _ _ rfl (Kept.refl No _) rfl (fun h => absurd h (by decide))
      · refine ⟨fun x v => rfl, fun y2 S W hK hall hdep K hcont => ?_⟩
        have HCONT := hide hcont
        have HKW := hide hK
        have d2 := hall 2 (by decide) (hdep ⟨2, Ground.data⟩ (by simp) rfl)
        clear hcont hK hall hdep
        have e2 : y2 2 = .pointer (some ⟨V.heap.size + 1, 2, none⟩) := d2
        obtain ⟨qq0, qq1, qq2⟩ : _ ∧ _ ∧ _ := ⟨((unhide HBq).kept (unhide HKW) id).cell 0, ((unhide HBq).kept (unhide HKW) id).cell 1, ((unhide HBq).kept (unhide HKW) id).cell 2⟩
        rw [if_pos (by rfl)]
        simp only [e2]
        go_simp
        exact unhide HCONT _ _ _ (by (try simp only [e2]); rfl) (Kept.refl No _) rfl (fun h => absurd h (by decide))
      · refine ⟨fun x v => rfl, fun y2 S W hK hall hdep K hcont => ?_⟩
        have HCONT := hide hcont
        have HKW := hide hK
        have d3 := hall 3 (by decide) (hdep ⟨3, Ground.data⟩ (by simp) rfl)
        clear hcont hK hall hdep
        have e3 : y2 3 = .slice (some ⟨gb2, gq2, none⟩) 2 ca := d3
        rw [if_pos (by rfl)]
        simp only [e3]
        go_simp
        exact unhide HCONT _ _ _ (by (try simp only [e3]); rfl) (Kept.refl No _) rfl (fun h => absurd h (by decide))
      · refine ⟨fun x v => rfl, fun y2 S W hK hall hdep K hcont => ?_⟩
        have HCONT := hide hcont
        have HKW := hide hK
        have d4 := hall 4 (by decide) (hdep ⟨4, Ground.data⟩ (by simp) rfl)
        clear hcont hK hall hdep
        have e4 : y2 4 = .pointer (some ⟨gb2, gq2, none⟩) := d4
        obtain ⟨j60, j61, j62, j63, j64, j65⟩ := ((unhide H62).kept (unhide HC).kept id).kept (unhide HKW) id
        rw [if_pos (by rfl)]
        simp only [e4]
        go_simp
        exact unhide HCONT _ _ _ (by (try simp only [e4]); rfl) (Kept.refl No _) ⟨_, _, _, _, _, rfl, (unhide Hu).kept (unhide HKW) (fun _ _ _ => id)⟩ (fun h => absurd h (by decide))
      · refine ⟨fun x v => rfl, fun y2 S W hK hall hdep K hcont => ?_⟩
        have HCONT := hide hcont
        have HKW := hide hK
        clear hcont hK hall hdep
        rw [if_pos (by rfl)]
        go_simp
        exact unhide HCONT _ _ _ rfl (Kept.refl No _) rfl (fun h => absurd h (by decide))
      · refine ⟨fun x v => rfl, fun y2 S W hK hall hdep K hcont => ?_⟩
        have HCONT := hide hcont
        have HKW := hide hK
        have d6 := hall 6 (by decide) (hdep ⟨6, Ground.data⟩ (by simp) rfl)
        clear hcont hK hall hdep
        have e6 : y2 6 = .pointer (some ⟨w.heap.size, 0, none⟩) := d6
        obtain ⟨xs0, xs1, xs2⟩ := ((unhide HC).go (unhide HKW)).xs
        rw [if_pos (by rfl)]
        simp only [e6]
        go_simp
        exact unhide HCONT _ _ _ (by (try simp only [e6]); rfl) (Kept.refl No _) rfl (fun h => absurd h (by decide))
      · refine ⟨fun x v => rfl, fun y2 S W hK hall hdep K hcont => ?_⟩
        have HCONT := hide hcont
        have HKW := hide hK
        clear hcont hK hall hdep
        rw [if_pos (by rfl)]
        go_simp
        exact unhide HCONT _ _ _ rfl (Kept.refl No _) rfl (fun h => absurd h (by decide))
      · refine ⟨fun x v => rfl, fun y2 S W hK hall hdep K hcont => ?_⟩
        have HCONT := hide hcont
        have HKW := hide hK
        have d8 := hall 8 (by decide) (hdep ⟨8, Ground.data⟩ (by simp) rfl)
        clear hcont hK hall hdep
        have e8 : y2 8 = .pointer (some ⟨V.heap.size + 1, 2, none⟩) := d8
        obtain ⟨qq0, qq1, qq2⟩ : _ ∧ _ ∧ _ := ⟨((unhide HBq).kept (unhide HKW) id).cell 0, ((unhide HBq).kept (unhide HKW) id).cell 1, ((unhide HBq).kept (unhide HKW) id).cell 2⟩
        rw [if_pos (by rfl)]
        simp only [e8]
        go_simp
        exact unhide HCONT _ _ _ (by (try simp only [e8]); rfl) (Kept.refl No _) rfl (fun h => absurd h (by decide))
      · refine ⟨fun x v => rfl, fun y2 S W hK hall hdep K hcont => ?_⟩
        have HCONT := hide hcont
        have HKW := hide hK
        have d9 := hall 9 (by decide) (hdep ⟨9, Ground.data⟩ (by simp) rfl)
        clear hcont hK hall hdep
        have e9 : y2 9 = .slice (some ⟨gb2, gq2, none⟩) 2 ca := d9
        rw [if_pos (by rfl)]
        simp only [e9]
        go_simp
        exact unhide HCONT _ _ _ (by (try simp only [e9]); rfl) (Kept.refl No _) rfl (fun h => absurd h (by decide))
      · refine ⟨fun x v => rfl, fun y2 S W hK hall hdep K hcont => ?_⟩
        have HCONT := hide hcont
        have HKW := hide hK
        have d10 := hall 10 (by decide) (hdep ⟨10, Ground.data⟩ (by simp) rfl)
        clear hcont hK hall hdep
        have e10 : y2 10 = .pointer (some ⟨gb2, gq2 + 3, none⟩) := d10
        obtain ⟨j60, j61, j62, j63, j64, j65⟩ := ((unhide H62).kept (unhide HC).kept id).kept (unhide HKW) id
        rw [if_pos (by rfl)]
        simp only [e10]
        go_simp
        exact unhide HCONT _ _ _ (by (try simp only [e10]); rfl) (Kept.refl No _) ⟨_, _, _, _, _, rfl, (unhide Hv).kept (unhide HKW) (fun _ _ _ => id)⟩ (fun h => absurd h (by decide))
      · refine ⟨fun x v => rfl, fun y2 S W hK hall hdep K hcont => ?_⟩
        have HCONT := hide hcont
        have HKW := hide hK
        clear hcont hK hall hdep
        obtain ⟨pq0, pq1, pq2⟩ : _ ∧ _ ∧ _ := ⟨((unhide HBp).kept (unhide HKW) id).cell 0, ((unhide HBp).kept (unhide HKW) id).cell 1, ((unhide HBp).kept (unhide HKW) id).cell 2⟩
        rw [if_pos (by rfl)]
        go_simp
        exact unhide HCONT _ _ _ rfl (Kept.refl No _) ⟨_, _, _, _, _, rfl, (unhide Hb).kept (unhide HKW) (fun _ _ _ => id)⟩ (fun h => absurd h (by decide))
      · refine ⟨fun x v => rfl, fun y2 S W hK hall hdep K hcont => ?_⟩
        have HCONT := hide hcont
        have HKW := hide hK
        have d11 := hall 11 (by decide) (hdep ⟨11, Ground.data⟩ (by simp) rfl)
        have d12 := hall 12 (by decide) (hdep ⟨12, Ground.data⟩ (by simp) rfl)
        clear hcont hK hall hdep
        obtain ⟨k11, n11, A11, l11, c11, e11, r11⟩ := d11
        obtain ⟨k12, n12, A12, l12, c12, e12, r12⟩ := d12
        rw [if_pos (by rfl)]
        simp only [e11, e12]
        go_simp
        exact unhide HCONT _ _ _ (by (try simp only [e11, e12]); rfl) ((Kept.refl No _).alloc _) (row2_new r11 r12 ((unhide HC).go (unhide HKW)).hF) (fun h => absurd h (by decide))
      · refine ⟨fun x v => rfl, fun y2 S W hK hall hdep K hcont => ?_⟩
        have HCONT := hide hcont
        have HKW := hide hK
        have d7 := hall 7 (by decide) (hdep ⟨7, Ground.data⟩ (by simp) rfl)
        have d13 := hall 13 (by decide) (hdep ⟨13, Ground.data⟩ (by simp) rfl)
        clear hcont hK hall hdep
        have e7 : y2 7 = .int .i64 k := d7
        obtain ⟨b13, e13, f13, r13⟩ := d13
        rw [if_pos (by rfl)]
        simp only [e7, e13]
        go_simp
        refine (op2_row o (unhide HOC) _ b13 td tb r13 f13).mono ?_
        rintro e w1 ⟨k_, n_, A_, l_, c_, rfl, hR1, hK1⟩
        exact unhide HCONT _ _ _ (by (try simp only [e7, e13]); rfl) hK1 ⟨_, _, _, _, _, rfl, hR1⟩ (fun h => absurd h (by decide))
      · refine ⟨fun x v => rfl, fun y2 S W hK hall hdep K hcont => ?_⟩
        have HCONT := hide hcont
        have HKW := hide hK
        have d5 := hall 5 (by decide) (hdep ⟨5, Ground.data⟩ (by simp) rfl)
        have d14 := hall 14 (by decide) (hdep ⟨14, Ground.data⟩ (by simp) rfl)
        clear hcont hK hall hdep
        obtain ⟨k5, n5, A5, l5, c5, e5, r5⟩ := d5
        obtain ⟨k14, n14, A14, l14, c14, e14, r14⟩ := d14
        rw [if_pos (by rfl)]
        simp only [e5, e14]
        go_simp
        exact unhide HCONT _ _ _ (by (try simp only [e5, e14]); rfl) ((Kept.refl No _).alloc _) (row2_new r5 r14 ((unhide HC).go (unhide HKW)).hF) (fun h => absurd h (by decide))
      · refine ⟨fun x v => rfl, fun y2 S W hK hall hdep K hcont => ?_⟩
        have HCONT := hide hcont
        have HKW := hide hK
        have d1 := hall 1 (by decide) (hdep ⟨1, Ground.data⟩ (by simp) rfl)
        have d15 := hall 15 (by decide) (hdep ⟨15, Ground.data⟩ (by simp) rfl)
        clear hcont hK hall hdep
        have e1 : y2 1 = .int .i64 k := d1
        obtain ⟨b15, e15, f15, r15⟩ := d15
        rw [if_pos (by rfl)]
        simp only [e1, e15]
        go_simp
        refine (op2_row o (unhide HOC) _ b15 tc (.bin o td tb) r15 f15).mono ?_
        rintro e w1 ⟨k_, n_, A_, l_, c_, rfl, hR1, hK1⟩
        exact unhide HCONT _ _ _ (by (try simp only [e1, e15]); rfl) hK1 ⟨_, _, _, _, _, rfl, hR1⟩ (fun h => absurd h (by decide))
    · intro y2 W4 hK hx hD
      obtain ⟨k4, n4, A4, l4, c4, e4, r4⟩ := hx 16 (by decide)
      have hvz := (unhide HC).z.lt
      have Ha := hide ((unhide Ha).kept hK (fun _ _ _ => id))
      have Hb := hide ((unhide Hb).kept hK (fun _ _ _ => id))
      have Hu := hide ((unhide Hu).kept hK (fun _ _ _ => id))
      have Hv := hide ((unhide Hv).kept hK (fun _ _ _ => id))
      have HC := hide ((unhide HC).go hK)
      have H4 := hide r4
      clear r4
      simp only [e4, List.drop]
      clear hK hx hD hvz e4
      obtain ⟨f0, f1, f2, z0, z1, z2, hlt⟩ := (unhide HC).zs
      go_wp2_with fail
      refine bodyPost_ret (v := .tuple #[.agg #[.int .i64 k4, .int .i64 n4, .slice A4 l4 c4], .bool true]) (by simp [results, Tryd.results37, go_sem, z0, z1, z2]) rfl ?_
      exact (unhide HC).made (unhide H4)
set_option maxRecDepth 100000 in
set_option maxHeartbeats 4000000 in
theorem tur_right (g : Bool) (hb : Nat) (o : O2) (kc : Int) (w0 w : World) (F : Nat → Prop) (k n : Int) (A : Option Addr) (l c : Nat) (ta tc td : E) (tr : Bool) (hK0 : Kept No w0 w) (hr : Rd w F k n A l (E.bin o ta (.bin o tc td)).r) (hoc : kc = o.code) (hcd : decide (kc ∈ [4, 6, 10, 12, 13]) = true) (hH : Blk w0 hb 4 #[.bool g]) (hd : g = true) (ha : ((ta : E).code == kc) = false) (hb2 : (((.bin o tc td) : E).code == kc) = true) (h10 : (kc != 10) = true) :
    Calls Tryd.prog 37 #[.agg #[.int .i64 k, .int .i64 n, .slice A l c], .bool tr, .pointer (some ⟨hb, 0, none⟩)] w (Made w F (.bin o (.bin o ta tc) td)) := by
  subst hd
  have hB := hH.kept hK0 id
  have h0 : w.cell? ⟨hb, 0, none⟩ = some (.bool true) := hB.cell 0
  have hbw := hB.lt
  obtain ⟨hkk, rfl, rfl, gb, gq, ka, na, Aa, la, ca, kb, nb, Ab, lb, cb, rfl, h6, hra, hrb⟩ := open_bin (o := o) (kc := kc) hoc.symm hr
  have H6 := hide h6
  have HA0 := hide hra
  have HB0 := hide hrb
  have HB := hide hB
  subst hkk
  obtain ⟨hkx, rfl, rfl, gb2, gq2, ku, nu, Au, lu, cu, kv, nv, Av, lv, cv, rfl, h62, hru, hrv⟩ := open_bin (o := o) (kc := k) hoc.symm (unhide HB0)
  have H62 := hide h62
  have HU0 := hide hru
  have HV0 := hide hrv
  clear h62 hru hrv hkx
  have hka := hra.k_eq.1
  rw [E.r_k] at hka
  have dka : (ka == k) = false := by rw [hka]; exact ha
  clear hka ha
  have hkb := hrb.k_eq.1
  rw [E.r_k] at hkb
  have dkb : (kb == k) = true := by rw [hkb]; exact hb2
  clear hkb hb2
  have e10 : (k != 10) = true := h10
  have HOC := hide hoc
  have HCD := hide hcd
  clear hr hK0 h6 hra hrb hH hB hoc hcd
  go_enter Tryd.func37, Tryd.ntmps37
  go_wp2_with fail
  
  refine (has_any [4, 6, 10, 12, 13] (some ⟨w.heap.size + 1 + 1, 0, none⟩) (w.heap.size + 1 + 1) 5 k _ (.inr rfl) ?hc (by simp)).mono ?_
  case hc =>
    intro i z hz
    have hB5 := Blk.at_ (w := (w.alloc (.cells #[.int .i64 k, .int .i64 0, .slice (some ⟨gb, gq, none⟩) (2) c] 24)).alloc (.cells #[.int .i64 0, .int .i64 0, .slice none 0 0] 24)) (t := 3) (cs := #[.int .i64 4, .int .i64 6, .int .i64 10, .int .i64 12, .int .i64 13]) (n := w.heap.size + 1 + 1) (by simp)
    rw [hB5.cell]
    match i, hz with
    | 0, hz => simp at hz; subst hz; rfl
    | 1, hz => simp at hz; subst hz; rfl
    | 2, hz => simp at hz; subst hz; rfl
    | 3, hz => simp at hz; subst hz; rfl
    | 4, hz => simp at hz; subst hz; rfl
    | i + 5, hz => simp at hz
  rintro e w9 ⟨rfl, rfl⟩
  rw [unhide HCD]
  go_wp2_with fail
  have HC := hide ((Ctx.start w k 0 (some ⟨gb, gq, none⟩) 2 c).go ((Kept.refl No _).alloc (.cells #[.int .i64 4, .int .i64 6, .int .i64 10, .int .i64 12, .int .i64 13] 3)))
  generalize ((w.alloc (.cells #[.int .i64 k, .int .i64 0, .slice (some ⟨gb, gq, none⟩) 2 c] 24)).alloc (.cells #[.int .i64 0, .int .i64 0, .slice none 0 0] 24)).alloc (.cells #[.int .i64 4, .int .i64 6, .int .i64 10, .int .i64 12, .int .i64 13] 3) = V at HC ⊢
  have Ha := hide (rd_in (unhide HA0) (unhide HC).kept)
  have Hb := hide (rd_in (unhide HB0) (unhide HC).kept)
  have Hu := hide (rd_in (unhide HU0) (unhide HC).kept)
  have Hv := hide (rd_in (unhide HV0) (unhide HC).kept)
  have hgV := (unhide HC).z.lt
  have KS := hide (show ∀ w', Kept No V w' → (w'.cell? ⟨w.heap.size, 0, none⟩ = some (.int .i64 k) ∧ w'.cell? ⟨w.heap.size, 2, none⟩ = some (.slice (some ⟨gb, gq, none⟩) 2 c) ∧ w'.cell? ⟨gb, gq, none⟩ = some (.int .i64 ka) ∧ w'.cell? ⟨gb, gq + 1, none⟩ = some (.int .i64 na) ∧ w'.cell? ⟨gb, gq + 2, none⟩ = some (.slice Aa la ca) ∧ w'.cell? ⟨gb, gq + 3, none⟩ = some (.int .i64 kb) ∧ w'.cell? ⟨gb, gq + 4, none⟩ = some (.int .i64 0) ∧ w'.cell? ⟨gb, gq + 5, none⟩ = some (.slice (some ⟨gb2, gq2, none⟩) 2 cb)) from fun w' hk =>
    have hx := (unhide HC).x.kept hk id
    have hk6 := ((unhide H6).kept (unhide HC).kept id).kept hk id
    ⟨hx.cell 0, hx.cell 2, hk6⟩)
  have HV := hide (Kept.refl No V).drew
  go_region_held3 (fun w' => w'.cell? ⟨w.heap.size, 0, none⟩ = some (.int .i64 k) ∧ w'.cell? ⟨w.heap.size, 2, none⟩ = some (.slice (some ⟨gb, gq, none⟩) 2 c) ∧ w'.cell? ⟨gb, gq, none⟩ = some (.int .i64 ka) ∧ w'.cell? ⟨gb, gq + 1, none⟩ = some (.int .i64 na) ∧ w'.cell? ⟨gb, gq + 2, none⟩ = some (.slice Aa la ca) ∧ w'.cell? ⟨gb, gq + 3, none⟩ = some (.int .i64 kb) ∧ w'.cell? ⟨gb, gq + 4, none⟩ = some (.int .i64 0) ∧ w'.cell? ⟨gb, gq + 5, none⟩ = some (.slice (some ⟨gb2, gq2, none⟩) 2 cb))
    (first
      | exact unhide KS _ (unhide HV)
      | exact unhide KS _ ((unhide HV).alloc _)
      | exact unhide KS _ (((unhide HV).alloc _).alloc _))
    (first | fail)
  · obtain ⟨hC2, hP, hQ, hKV⟩ := vars2 (unhide HC) ka na Aa la ca kb 0 (some ⟨gb2, gq2, none⟩) 2 cb
    have Ha := hide ((unhide Ha).kept hKV (fun _ _ _ => id))
    have Hb := hide ((unhide Hb).kept hKV (fun _ _ _ => id))
    have Hu := hide ((unhide Hu).kept hKV (fun _ _ _ => id))
    have Hv := hide ((unhide Hv).kept hKV (fun _ _ _ => id))
    have HC := hide hC2
    have HBp := hide hP
    have HBq := hide hQ
    have HKV := hide hKV
    clear hC2 hP hQ hKV
    generalize ((V.alloc (.cells #[.int .i64 ka, .int .i64 na, .slice Aa la ca] 24)).alloc (.cells #[.int .i64 kb, .int .i64 0, .slice (some ⟨gb2, gq2, none⟩) 2 cb] 24)).drew = W1 at Ha Hb Hu Hv HC HBp HBq HKV ⊢
    have hw2 : w.heap.size + 1 < V.heap.size := hgV
    have hpw := (unhide HBq).lt
    have p0 : W1.cell? ⟨V.heap.size, 0, none⟩ = some (.int .i64 ka) := (unhide HBp).cell 0
    have p1 : W1.cell? ⟨V.heap.size, 1, none⟩ = some (.int .i64 na) := (unhide HBp).cell 1
    have p2 : W1.cell? ⟨V.heap.size, 2, none⟩ = some (.slice Aa la ca) := (unhide HBp).cell 2
    have q0 : W1.cell? ⟨V.heap.size + 1, 0, none⟩ = some (.int .i64 kb) := (unhide HBq).cell 0
    have q1 : W1.cell? ⟨V.heap.size + 1, 1, none⟩ = some (.int .i64 0) := (unhide HBq).cell 1
    have q2 : W1.cell? ⟨V.heap.size + 1, 2, none⟩ = some (.slice (some ⟨gb2, gq2, none⟩) 2 cb) := (unhide HBq).cell 2
    obtain ⟨xs0, xs1, xs2⟩ := (unhide HC).xs
    have h0 : W1.cell? ⟨hb, 0, none⟩ = some (.bool true) := (((unhide HB).kept (unhide HC).kept id)).cell 0
    go_wp2_with fail
    refine wp_region_inv 17 [] (by kernel_rfl) (by kernel_rfl) (fun y1 => { tmps := #[Value.agg #[Value.int IntKind.i64 k, Value.int IntKind.i64 0, Value.slice (some { block := gb, off := gq }) 2 c], Value.bool tr, Value.pointer (some { block := hb, off := 0 }), Value.pointer (some { block := w.heap.size, off := 0 }), undef, Value.pointer (some { block := w.heap.size + 1, off := 0 }), Value.bool false, Value.pointer (some { block := V.heap.size, off := 0 }), Value.pointer (some { block := V.heap.size + 1, off := 0 }), Value.slice (some { block := w.heap.size + 1 + 1, off := 0 }) 5 5, Value.pointer (some { block := w.heap.size, off := 0 }), Value.int IntKind.i64 k, Value.bool true, Value.bool false, undef, Value.pointer (some { block := w.heap.size, off := 2 }), Value.slice (some { block := gb, off := gq }) 2 c, Value.pointer (some { block := gb, off := gq }), Value.agg #[Value.int IntKind.i64 ka, Value.int IntKind.i64 na, Value.slice Aa la ca], Value.pointer (some { block := w.heap.size, off := 2 }), Value.slice (some { block := gb, off := gq }) 2 c, Value.pointer (some { block := gb, off := gq + 3 }), Value.agg #[Value.int IntKind.i64 kb, Value.int IntKind.i64 0, Value.slice (some { block := gb2, off := gq2 }) 2 cb], Value.bool false, Value.bool true, Value.bool true, Value.pointer (some { block := V.heap.size, off := 0 }), Value.int IntKind.i64 ka, Value.pointer (some { block := w.heap.size, off := 0 }), Value.int IntKind.i64 k, Value.bool false, Value.bool false, Value.bool false, undef, undef, undef, Value.bool false, undef, undef, undef, undef, undef, undef, undef, undef, undef, undef, undef, undef, undef, undef, undef, undef, undef, Value.bool true, Value.bool true, Value.bool true, Value.pointer (some { block := V.heap.size + 1, off := 0 }), Value.int IntKind.i64 kb, Value.pointer (some { block := w.heap.size, off := 0 }), Value.int IntKind.i64 k, Value.bool true, Value.bool true, Value.bool true, Value.pointer (some { block := w.heap.size, off := 0 }), Value.int IntKind.i64 k, Value.bool true, Value.bool true, y1 0, y1 1, y1 2, y1 3, y1 4, y1 5, y1 6, y1 7, y1 8, y1 9, y1 10, y1 11, y1 12, y1 13, y1 14, y1 15, y1 16, undef, undef, undef, undef, undef, undef], defers := [] }) (fun _ => undef) (fun i v W => Sh.ok (FN F w) W (([Sh.val (.pointer (some ⟨w.heap.size, 0, none⟩)), Sh.val (.int .i64 k), Sh.val (.pointer (some ⟨w.heap.size, 0, none⟩)), Sh.val (.int .i64 k), Sh.tree ta, Sh.val (.pointer (some ⟨V.heap.size + 1, 2, none⟩)), Sh.val (.slice (some ⟨gb2, gq2, none⟩) 2 cb), Sh.val (.pointer (some ⟨gb2, gq2, none⟩)), Sh.tree tc, Sh.row [ta, tc], Sh.tree (.bin o ta tc), Sh.val (.pointer (some ⟨V.heap.size + 1, 2, none⟩)), Sh.val (.slice (some ⟨gb2, gq2, none⟩) 2 cb), Sh.val (.pointer (some ⟨gb2, gq2 + 3, none⟩)), Sh.tree td, Sh.row [(.bin o ta tc), td], Sh.tree (.bin o (.bin o ta tc) td)] : List Sh).getD i .any) v) (fun i v W W' hK h => Sh.kept hK _ _ h) ?_ ?_
    · refine ⟨?_, ?_, ?_, ?_, ?_, ?_, ?_, ?_, ?_, ?_, ?_, ?_, ?_, ?_, ?_, ?_, ?_, trivial⟩
      · refine ⟨fun x v => rfl, fun y1 S W hK hall hdep K hcont => ?_⟩
        have HCONT := hide hcont
        have HKW := hide hK
        clear hcont hK hall hdep
        rw [if_pos (by rfl)]
        go_simp
        exact unhide HCONT _ _ _ rfl (Kept.refl No _) rfl (fun h => absurd h (by decide))
      · refine ⟨fun x v => rfl, fun y1 S W hK hall hdep K hcont => ?_⟩
        have HCONT := hide hcont
        have HKW := hide hK
        have d0 := hall 0 (by decide) (hdep ⟨0, Ground.data⟩ (by simp) rfl)
        clear hcont hK hall hdep
        have e0 : y1 0 = .pointer (some ⟨w.heap.size, 0, none⟩) := d0
        obtain ⟨xs0, xs1, xs2⟩ := ((unhide HC).go (unhide HKW)).xs
        rw [if_pos (by rfl)]
        simp only [e0]
        go_simp
        exact unhide HCONT _ _ _ (by (try simp only [e0]); rfl) (Kept.refl No _) rfl (fun h => absurd h (by decide))
      · refine ⟨fun x v => rfl, fun y1 S W hK hall hdep K hcont => ?_⟩
        have HCONT := hide hcont
        have HKW := hide hK
        clear hcont hK hall hdep
        rw [if_pos (by rfl)]
        go_simp
        exact unhide HCONT _ _ _ rfl (Kept.refl No _) rfl (fun h => absurd h (by decide))
      · refine ⟨fun x v => rfl, fun y1 S W hK hall hdep K hcont => ?_⟩
        have HCONT := hide hcont
        have HKW := hide hK
        have d2 := hall 2 (by decide) (hdep ⟨2, Ground.data⟩ (by simp) rfl)
        clear hcont hK hall hdep
        have e2 : y1 2 = .pointer (some ⟨w.heap.size, 0, none⟩) := d2
        obtain ⟨xs0, xs1, xs2⟩ := ((unhide HC).go (unhide HKW)).xs
        rw [if_pos (by rfl)]
        simp only [e2]
        go_simp
        exact unhide HCONT _ _ _ (by (try simp only [e2]); rfl) (Kept.refl No _) rfl (fun h => absurd h (by decide))
      · refine ⟨fun x v => rfl, fun y1 S W hK hall hdep K hcont => ?_⟩
        have HCONT := hide hcont
        have HKW := hide hK
        clear hcont hK hall hdep
        obtain ⟨pq0, pq1, pq2⟩ : _ ∧ _ ∧ _ := ⟨((unhide HBp).kept (unhide HKW) id).cell 0, ((unhide HBp).kept (unhide HKW) id).cell 1, ((unhide HBp).kept (unhide HKW) id).cell 2⟩
        rw [if_pos (by rfl)]
        go_simp
        exact unhide HCONT _ _ _ rfl (Kept.refl No _) ⟨_, _, _, _, _, rfl, (unhide Ha).kept (unhide HKW) (fun _ _ _ => id)⟩ (fun h => absurd h (by decide))
      · refine ⟨fun x v => rfl, fun y1 S W hK hall hdep K hcont => ?_⟩
        have HCONT := hide hcont
        have HKW := hide hK
        clear hcont hK hall hdep
        rw [if_pos (by rfl)]
        go_simp
        exact unhide HCONT _ _ _ rfl (Kept.refl No _) rfl (fun h => absurd h (by decide))
      · refine ⟨fun x v => rfl, fun y1 S W hK hall hdep K hcont => ?_⟩
        have HCONT := hide hcont
        have HKW := hide hK
        have d5 := hall 5 (by decide) (hdep ⟨5, Ground.data⟩ (by simp) rfl)
        clear hcont hK hall hdep
        have e5 : y1 5 = .pointer (some ⟨V.heap.size + 1, 2, none⟩) := d5
        obtain ⟨qq0, qq1, qq2⟩ : _ ∧ _ ∧ _ := ⟨((unhide HBq).kept (unhide HKW) id).cell 0, ((unhide HBq).kept (unhide HKW) id).cell 1, ((unhide HBq).kept (unhide HKW) id).cell 2⟩
        rw [if_pos (by rfl)]
        simp only [e5]
        go_simp
        exact unhide HCONT _ _ _ (by (try simp only [e5]); rfl) (Kept.refl No _) rfl (fun h => absurd h (by decide))
      · refine ⟨fun x v => rfl, fun y1 S W hK hall hdep K hcont => ?_⟩
        have HCONT := hide hcont
        have HKW := hide hK
        have d6 := hall 6 (by decide) (hdep ⟨6, Ground.data⟩ (by simp) rfl)
        clear hcont hK hall hdep
        have e6 : y1 6 = .slice (some ⟨gb2, gq2, none⟩) 2 cb := d6
        rw [if_pos (by rfl)]
        simp only [e6]
        go_simp
        exact unhide HCONT _ _ _ (by (try simp only [e6]); rfl) (Kept.refl No _) rfl (fun h => absurd h (by decide))
      · refine ⟨fun x v => rfl, fun y1 S W hK hall hdep K hcont => ?_⟩
        have HCONT := hide hcont
        have HKW := hide hK
        have d7 := hall 7 (by decide) (hdep ⟨7, Ground.data⟩ (by simp) rfl)
        clear hcont hK hall hdep
        have e7 : y1 7 = .pointer (some ⟨gb2, gq2, none⟩) := d7
        obtain ⟨j60, j61, j62, j63, j64, j65⟩ := ((unhide H62).kept (unhide HC).kept id).kept (unhide HKW) id
        rw [if_pos (by rfl)]
        simp only [e7]
        go_simp
        exact unhide HCONT _ _ _ (by (try simp only [e7]); rfl) (Kept.refl No _) ⟨_, _, _, _, _, rfl, (unhide Hu).kept (unhide HKW) (fun _ _ _ => id)⟩ (fun h => absurd h (by decide))
      · refine ⟨fun x v => rfl, fun y1 S W hK hall hdep K hcont => ?_⟩
        have HCONT := hide hcont
        have HKW := hide hK
        have d4 := hall 4 (by decide) (hdep ⟨4, Ground.data⟩ (by simp) rfl)
        have d8 := hall 8 (by decide) (hdep ⟨8, Ground.data⟩ (by simp) rfl)
        clear hcont hK hall hdep
        obtain ⟨k4, n4, A4, l4, c4, e4, r4⟩ := d4
        obtain ⟨k8, n8, A8, l8, c8, e8, r8⟩ := d8
        rw [if_pos (by rfl)]
        simp only [e4, e8]
        go_simp
        exact unhide HCONT _ _ _ (by (try simp only [e4, e8]); rfl) ((Kept.refl No _).alloc _) (row2_new r4 r8 ((unhide HC).go (unhide HKW)).hF) (fun h => absurd h (by decide))
      · refine ⟨fun x v => rfl, fun y1 S W hK hall hdep K hcont => ?_⟩
        have HCONT := hide hcont
        have HKW := hide hK
        have d3 := hall 3 (by decide) (hdep ⟨3, Ground.data⟩ (by simp) rfl)
        have d9 := hall 9 (by decide) (hdep ⟨9, Ground.data⟩ (by simp) rfl)
        clear hcont hK hall hdep
        have e3 : y1 3 = .int .i64 k := d3
        obtain ⟨b9, e9, f9, r9⟩ := d9
        rw [if_pos (by rfl)]
        simp only [e3, e9]
        go_simp
        refine (op2_row o (unhide HOC) _ b9 ta tc r9 f9).mono ?_
        rintro e w1 ⟨k_, n_, A_, l_, c_, rfl, hR1, hK1⟩
        exact unhide HCONT _ _ _ (by (try simp only [e3, e9]); rfl) hK1 ⟨_, _, _, _, _, rfl, hR1⟩ (fun h => absurd h (by decide))
      · refine ⟨fun x v => rfl, fun y1 S W hK hall hdep K hcont => ?_⟩
        have HCONT := hide hcont
        have HKW := hide hK
        clear hcont hK hall hdep
        rw [if_pos (by rfl)]
        go_simp
        exact unhide HCONT _ _ _ rfl (Kept.refl No _) rfl (fun h => absurd h (by decide))
      · refine ⟨fun x v => rfl, fun y1 S W hK hall hdep K hcont => ?_⟩
        have HCONT := hide hcont
        have HKW := hide hK
        have d11 := hall 11 (by decide) (hdep ⟨11, Ground.data⟩ (by simp) rfl)
        clear hcont hK hall hdep
        have e11 : y1 11 = .pointer (some ⟨V.heap.size + 1, 2, none⟩) := d11
        obtain ⟨qq0, qq1, qq2⟩ : _ ∧ _ ∧ _ := ⟨((unhide HBq).kept (unhide HKW) id).cell 0, ((unhide HBq).kept (unhide HKW) id).cell 1, ((unhide HBq).kept (unhide HKW) id).cell 2⟩
        rw [if_pos (by rfl)]
        simp only [e11]
        go_simp
        exact unhide HCONT _ _ _ (by (try simp only [e11]); rfl) (Kept.refl No _) rfl (fun h => absurd h (by decide))
      · refine ⟨fun x v => rfl, fun y1 S W hK hall hdep K hcont => ?_⟩
        have HCONT := hide hcont
        have HKW := hide hK
        have d12 := hall 12 (by decide) (hdep ⟨12, Ground.data⟩ (by simp) rfl)
        clear hcont hK hall hdep
        have e12 : y1 12 = .slice (some ⟨gb2, gq2, none⟩) 2 cb := d12
        rw [if_pos (by rfl)]
        simp only [e12]
        go_simp
        exact unhide HCONT _ _ _ (by (try simp only [e12]); rfl) (Kept.refl No _) rfl (fun h => absurd h (by decide))
      · refine ⟨fun x v => rfl, fun y1 S W hK hall hdep K hcont => ?_⟩
        have HCONT := hide hcont
        have HKW := hide hK
        have d13 := hall 13 (by decide) (hdep ⟨13, Ground.data⟩ (by simp) rfl)
        clear hcont hK hall hdep
        have e13 : y1 13 = .pointer (some ⟨gb2, gq2 + 3, none⟩) := d13
        obtain ⟨j60, j61, j62, j63, j64, j65⟩ := ((unhide H62).kept (unhide HC).kept id).kept (unhide HKW) id
        rw [if_pos (by rfl)]
        simp only [e13]
        go_simp
        exact unhide HCONT _ _ _ (by (try simp only [e13]); rfl) (Kept.refl No _) ⟨_, _, _, _, _, rfl, (unhide Hv).kept (unhide HKW) (fun _ _ _ => id)⟩ (fun h => absurd h (by decide))
      · refine ⟨fun x v => rfl, fun y1 S W hK hall hdep K hcont => ?_⟩
        have HCONT := hide hcont
        have HKW := hide hK
        have d10 := hall 10 (by decide) (hdep ⟨10, Ground.data⟩ (by simp) rfl)
        have d14 := hall 14 (by decide) (hdep ⟨14, Ground.data⟩ (by simp) rfl)
        clear hcont hK hall hdep
        obtain ⟨k10, n10, A10, l10, c10, e10, r10⟩ := d10
        obtain ⟨k14, n14, A14, l14, c14, e14, r14⟩ := d14
        rw [if_pos (by rfl)]
        simp only [e10, e14]
        go_simp
        exact unhide HCONT _ _ _ (by (try simp only [e10, e14]); rfl) ((Kept.refl No _).alloc _) (row2_new r10 r14 ((unhide HC).go (unhide HKW)).hF) (fun h => absurd h (by decide))
      · refine ⟨fun x v => rfl, fun y1 S W hK hall hdep K hcont => ?_⟩
        have HCONT := hide hcont
        have HKW := hide hK
        have d1 := hall 1 (by decide) (hdep ⟨1, Ground.data⟩ (by simp) rfl)
        have d15 := hall 15 (by decide) (hdep ⟨15, Ground.data⟩ (by simp) rfl)
        clear hcont hK hall hdep
        have e1 : y1 1 = .int .i64 k := d1
        obtain ⟨b15, e15, f15, r15⟩ := d15
        rw [if_pos (by rfl)]
        simp only [e1, e15]
        go_simp
        refine (op2_row o (unhide HOC) _ b15 (.bin o ta tc) td r15 f15).mono ?_
        rintro e w1 ⟨k_, n_, A_, l_, c_, rfl, hR1, hK1⟩
        exact unhide HCONT _ _ _ (by (try simp only [e1, e15]); rfl) hK1 ⟨_, _, _, _, _, rfl, hR1⟩ (fun h => absurd h (by decide))
    · intro y1 W2 hK hx hD
      obtain ⟨k4, n4, A4, l4, c4, e4, r4⟩ := hx 16 (by decide)
      have hvz := (unhide HC).z.lt
      have Ha := hide ((unhide Ha).kept hK (fun _ _ _ => id))
      have Hb := hide ((unhide Hb).kept hK (fun _ _ _ => id))
      have Hu := hide ((unhide Hu).kept hK (fun _ _ _ => id))
      have Hv := hide ((unhide Hv).kept hK (fun _ _ _ => id))
      have HC := hide ((unhide HC).go hK)
      have H4 := hide r4
      clear r4
      simp only [e4, List.drop]
      clear hK hx hD hvz e4
      obtain ⟨f0, f1, f2, z0, z1, z2, hlt⟩ := (unhide HC).zs
      go_wp2_with fail
      refine bodyPost_ret (v := .tuple #[.agg #[.int .i64 k4, .int .i64 n4, .slice A4 l4 c4], .bool true]) (by simp [results, Tryd.results37, go_sem, z0, z1, z2]) rfl ?_
      exact (unhide HC).made (unhide H4)
  · obtain ⟨hC2, hP, hQ, hKV⟩ := vars2 (unhide HC) kb 0 (some ⟨gb2, gq2, none⟩) 2 cb ka na Aa la ca
    have Ha := hide ((unhide Ha).kept hKV (fun _ _ _ => id))
    have Hb := hide ((unhide Hb).kept hKV (fun _ _ _ => id))
    have Hu := hide ((unhide Hu).kept hKV (fun _ _ _ => id))
    have Hv := hide ((unhide Hv).kept hKV (fun _ _ _ => id))
    have HC := hide hC2
    have HBp := hide hP
    have HBq := hide hQ
    have HKV := hide hKV
    clear hC2 hP hQ hKV
    generalize ((V.alloc (.cells #[.int .i64 kb, .int .i64 0, .slice (some ⟨gb2, gq2, none⟩) 2 cb] 24)).alloc (.cells #[.int .i64 ka, .int .i64 na, .slice Aa la ca] 24)).drew = W3 at Ha Hb Hu Hv HC HBp HBq HKV ⊢
    have hw2 : w.heap.size + 1 < V.heap.size := hgV
    have hpw := (unhide HBq).lt
    have p0 : W3.cell? ⟨V.heap.size, 0, none⟩ = some (.int .i64 kb) := (unhide HBp).cell 0
    have p1 : W3.cell? ⟨V.heap.size, 1, none⟩ = some (.int .i64 0) := (unhide HBp).cell 1
    have p2 : W3.cell? ⟨V.heap.size, 2, none⟩ = some (.slice (some ⟨gb2, gq2, none⟩) 2 cb) := (unhide HBp).cell 2
    have q0 : W3.cell? ⟨V.heap.size + 1, 0, none⟩ = some (.int .i64 ka) := (unhide HBq).cell 0
    have q1 : W3.cell? ⟨V.heap.size + 1, 1, none⟩ = some (.int .i64 na) := (unhide HBq).cell 1
    have q2 : W3.cell? ⟨V.heap.size + 1, 2, none⟩ = some (.slice Aa la ca) := (unhide HBq).cell 2
    obtain ⟨xs0, xs1, xs2⟩ := (unhide HC).xs
    have h0 : W3.cell? ⟨hb, 0, none⟩ = some (.bool true) := (((unhide HB).kept (unhide HC).kept id)).cell 0
    go_wp2_with fail
    refine wp_region_inv 17 [] (by kernel_rfl) (by kernel_rfl) (fun y2 => { tmps := #[Value.agg #[Value.int IntKind.i64 k, Value.int IntKind.i64 0, Value.slice (some { block := gb, off := gq }) 2 c], Value.bool tr, Value.pointer (some { block := hb, off := 0 }), Value.pointer (some { block := w.heap.size, off := 0 }), undef, Value.pointer (some { block := w.heap.size + 1, off := 0 }), Value.bool false, Value.pointer (some { block := V.heap.size + 1, off := 0 }), Value.pointer (some { block := V.heap.size, off := 0 }), Value.slice (some { block := w.heap.size + 1 + 1, off := 0 }) 5 5, Value.pointer (some { block := w.heap.size, off := 0 }), Value.int IntKind.i64 k, Value.bool true, Value.bool false, undef, Value.pointer (some { block := w.heap.size, off := 2 }), Value.slice (some { block := gb, off := gq }) 2 c, Value.pointer (some { block := gb, off := gq }), Value.agg #[Value.int IntKind.i64 ka, Value.int IntKind.i64 na, Value.slice Aa la ca], Value.pointer (some { block := w.heap.size, off := 2 }), Value.slice (some { block := gb, off := gq }) 2 c, Value.pointer (some { block := gb, off := gq + 3 }), Value.agg #[Value.int IntKind.i64 kb, Value.int IntKind.i64 0, Value.slice (some { block := gb2, off := gq2 }) 2 cb], Value.bool false, Value.bool true, Value.bool true, Value.pointer (some { block := V.heap.size + 1, off := 0 }), Value.int IntKind.i64 ka, Value.pointer (some { block := w.heap.size, off := 0 }), Value.int IntKind.i64 k, Value.bool false, Value.bool false, Value.bool false, undef, undef, undef, Value.bool false, undef, undef, undef, undef, undef, undef, undef, undef, undef, undef, undef, undef, undef, undef, undef, undef, undef, Value.bool true, Value.bool true, Value.bool true, Value.pointer (some { block := V.heap.size, off := 0 }), Value.int IntKind.i64 kb, Value.pointer (some { block := w.heap.size, off := 0 }), Value.int IntKind.i64 k, Value.bool true, Value.bool true, Value.bool true, Value.pointer (some { block := w.heap.size, off := 0 }), Value.int IntKind.i64 k, Value.bool true, Value.bool true, y2 0, y2 1, y2 2, y2 3, y2 4, y2 5, y2 6, y2 7, y2 8, y2 9, y2 10, y2 11, y2 12, y2 13, y2 14, y2 15, y2 16, undef, undef, undef, undef, undef, undef], defers := [] }) (fun _ => undef) (fun i v W => Sh.ok (FN F w) W (([Sh.val (.pointer (some ⟨w.heap.size, 0, none⟩)), Sh.val (.int .i64 k), Sh.val (.pointer (some ⟨w.heap.size, 0, none⟩)), Sh.val (.int .i64 k), Sh.tree ta, Sh.val (.pointer (some ⟨V.heap.size, 2, none⟩)), Sh.val (.slice (some ⟨gb2, gq2, none⟩) 2 cb), Sh.val (.pointer (some ⟨gb2, gq2, none⟩)), Sh.tree tc, Sh.row [ta, tc], Sh.tree (.bin o ta tc), Sh.val (.pointer (some ⟨V.heap.size, 2, none⟩)), Sh.val (.slice (some ⟨gb2, gq2, none⟩) 2 cb), Sh.val (.pointer (some ⟨gb2, gq2 + 3, none⟩)), Sh.tree td, Sh.row [(.bin o ta tc), td], Sh.tree (.bin o (.bin o ta tc) td)] : List Sh).getD i .any) v) (fun i v W W' hK h => Sh.kept hK _ _ h) ?_ ?_
    · refine ⟨?_, ?_, ?_, ?_, ?_, ?_, ?_, ?_, ?_, ?_, ?_, ?_, ?_, ?_, ?_, ?_, ?_, trivial⟩
      · refine ⟨fun x v => rfl, fun y2 S W hK hall hdep K hcont => ?_⟩
        have HCONT := hide hcont
        have HKW := hide hK
        clear hcont hK hall hdep
        rw [if_pos (by rfl)]
        go_simp
        exact unhide HCONT _ _ _ rfl (Kept.refl No _) rfl (fun h => absurd h (by decide))
      · refine ⟨fun x v => rfl, fun y2 S W hK hall hdep K hcont => ?_⟩
        have HCONT := hide hcont
        have HKW := hide hK
        have d0 := hall 0 (by decide) (hdep ⟨0, Ground.data⟩ (by simp) rfl)
        clear hcont hK hall hdep
        have e0 : y2 0 = .pointer (some ⟨w.heap.size, 0, none⟩) := d0
        obtain ⟨xs0, xs1, xs2⟩ := ((unhide HC).go (unhide HKW)).xs
        rw [if_pos (by rfl)]
        simp only [e0]
        go_simp
        exact unhide HCONT _ _ _ (by (try simp only [e0]); rfl) (Kept.refl No _) rfl (fun h => absurd h (by decide))
      · refine ⟨fun x v => rfl, fun y2 S W hK hall hdep K hcont => ?_⟩
        have HCONT := hide hcont
        have HKW := hide hK
        clear hcont hK hall hdep
        rw [if_pos (by rfl)]
        go_simp
        exact unhide HCONT _ _ _ rfl (Kept.refl No _) rfl (fun h => absurd h (by decide))
      · refine ⟨fun x v => rfl, fun y2 S W hK hall hdep K hcont => ?_⟩
        have HCONT := hide hcont
        have HKW := hide hK
        have d2 := hall 2 (by decide) (hdep ⟨2, Ground.data⟩ (by simp) rfl)
        clear hcont hK hall hdep
        have e2 : y2 2 = .pointer (some ⟨w.heap.size, 0, none⟩) := d2
        obtain ⟨xs0, xs1, xs2⟩ := ((unhide HC).go (unhide HKW)).xs
        rw [if_pos (by rfl)]
        simp only [e2]
        go_simp
        exact unhide HCONT _ _ _ (by (try simp only [e2]); rfl) (Kept.refl No _) rfl (fun h => absurd h (by decide))
      · refine ⟨fun x v => rfl, fun y2 S W hK hall hdep K hcont => ?_⟩
        have HCONT := hide hcont
        have HKW := hide hK
        clear hcont hK hall hdep
        obtain ⟨qq0, qq1, qq2⟩ : _ ∧ _ ∧ _ := ⟨((unhide HBq).kept (unhide HKW) id).cell 0, ((unhide HBq).kept (unhide HKW) id).cell 1, ((unhide HBq).kept (unhide HKW) id).cell 2⟩
        rw [if_pos (by rfl)]
        go_simp
        exact unhide HCONT _ _ _ rfl (Kept.refl No _) ⟨_, _, _, _, _, rfl, (unhide Ha).kept (unhide HKW) (fun _ _ _ => id)⟩ (fun h => absurd h (by decide))
      · refine ⟨fun x v => rfl, fun y2 S W hK hall hdep K hcont => ?_⟩
        have HCONT := hide hcont
        have HKW := hide hK
        clear hcont hK hall hdep
        rw [if_pos (by rfl)]
        go_simp
        exact unhide HCONT _ _ _ rfl (Kept.refl No _) rfl (fun h => absurd h (by decide))
      · refine ⟨fun x v => rfl, fun y2 S W hK hall hdep K hcont => ?_⟩
        have HCONT := hide hcont
        have HKW := hide hK
        have d5 := hall 5 (by decide) (hdep ⟨5, Ground.data⟩ (by simp) rfl)
        clear hcont hK hall hdep
        have e5 : y2 5 = .pointer (some ⟨V.heap.size, 2, none⟩) := d5
        obtain ⟨pq0, pq1, pq2⟩ : _ ∧ _ ∧ _ := ⟨((unhide HBp).kept (unhide HKW) id).cell 0, ((unhide HBp).kept (unhide HKW) id).cell 1, ((unhide HBp).kept (unhide HKW) id).cell 2⟩
        rw [if_pos (by rfl)]
        simp only [e5]
        go_simp
        exact unhide HCONT _ _ _ (by (try simp only [e5]); rfl) (Kept.refl No _) rfl (fun h => absurd h (by decide))
      · refine ⟨fun x v => rfl, fun y2 S W hK hall hdep K hcont => ?_⟩
        have HCONT := hide hcont
        have HKW := hide hK
        have d6 := hall 6 (by decide) (hdep ⟨6, Ground.data⟩ (by simp) rfl)
        clear hcont hK hall hdep
        have e6 : y2 6 = .slice (some ⟨gb2, gq2, none⟩) 2 cb := d6
        rw [if_pos (by rfl)]
        simp only [e6]
        go_simp
        exact unhide HCONT _ _ _ (by (try simp only [e6]); rfl) (Kept.refl No _) rfl (fun h => absurd h (by decide))
      · refine ⟨fun x v => rfl, fun y2 S W hK hall hdep K hcont => ?_⟩
        have HCONT := hide hcont
        have HKW := hide hK
        have d7 := hall 7 (by decide) (hdep ⟨7, Ground.data⟩ (by simp) rfl)
        clear hcont hK hall hdep
        have e7 : y2 7 = .pointer (some ⟨gb2, gq2, none⟩) := d7
        obtain ⟨j60, j61, j62, j63, j64, j65⟩ := ((unhide H62).kept (unhide HC).kept id).kept (unhide HKW) id
        rw [if_pos (by rfl)]
        simp only [e7]
        go_simp
        exact unhide HCONT _ _ _ (by (try simp only [e7]); rfl) (Kept.refl No _) ⟨_, _, _, _, _, rfl, (unhide Hu).kept (unhide HKW) (fun _ _ _ => id)⟩ (fun h => absurd h (by decide))
      · refine ⟨fun x v => rfl, fun y2 S W hK hall hdep K hcont => ?_⟩
        have HCONT := hide hcont
        have HKW := hide hK
        have d4 := hall 4 (by decide) (hdep ⟨4, Ground.data⟩ (by simp) rfl)
        have d8 := hall 8 (by decide) (hdep ⟨8, Ground.data⟩ (by simp) rfl)
        clear hcont hK hall hdep
        obtain ⟨k4, n4, A4, l4, c4, e4, r4⟩ := d4
        obtain ⟨k8, n8, A8, l8, c8, e8, r8⟩ := d8
        rw [if_pos (by rfl)]
        simp only [e4, e8]
        go_simp
        exact unhide HCONT _ _ _ (by (try simp only [e4, e8]); rfl) ((Kept.refl No _).alloc _) (row2_new r4 r8 ((unhide HC).go (unhide HKW)).hF) (fun h => absurd h (by decide))
      · refine ⟨fun x v => rfl, fun y2 S W hK hall hdep K hcont => ?_⟩
        have HCONT := hide hcont
        have HKW := hide hK
        have d3 := hall 3 (by decide) (hdep ⟨3, Ground.data⟩ (by simp) rfl)
        have d9 := hall 9 (by decide) (hdep ⟨9, Ground.data⟩ (by simp) rfl)
        clear hcont hK hall hdep
        have e3 : y2 3 = .int .i64 k := d3
        obtain ⟨b9, e9, f9, r9⟩ := d9
        rw [if_pos (by rfl)]
        simp only [e3, e9]
        go_simp
        refine (op2_row o (unhide HOC) _ b9 ta tc r9 f9).mono ?_
        rintro e w1 ⟨k_, n_, A_, l_, c_, rfl, hR1, hK1⟩
        exact unhide HCONT _ _ _ (by (try simp only [e3, e9]); rfl) hK1 ⟨_, _, _, _, _, rfl, hR1⟩ (fun h => absurd h (by decide))
      · refine ⟨fun x v => rfl, fun y2 S W hK hall hdep K hcont => ?_⟩
        have HCONT := hide hcont
        have HKW := hide hK
        clear hcont hK hall hdep
        rw [if_pos (by rfl)]
        go_simp
        exact unhide HCONT _ _ _ rfl (Kept.refl No _) rfl (fun h => absurd h (by decide))
      · refine ⟨fun x v => rfl, fun y2 S W hK hall hdep K hcont => ?_⟩
        have HCONT := hide hcont
        have HKW := hide hK
        have d11 := hall 11 (by decide) (hdep ⟨11, Ground.data⟩ (by simp) rfl)
        clear hcont hK hall hdep
        have e11 : y2 11 = .pointer (some ⟨V.heap.size, 2, none⟩) := d11
        obtain ⟨pq0, pq1, pq2⟩ : _ ∧ _ ∧ _ := ⟨((unhide HBp).kept (unhide HKW) id).cell 0, ((unhide HBp).kept (unhide HKW) id).cell 1, ((unhide HBp).kept (unhide HKW) id).cell 2⟩
        rw [if_pos (by rfl)]
        simp only [e11]
        go_simp
        exact unhide HCONT _ _ _ (by (try simp only [e11]); rfl) (Kept.refl No _) rfl (fun h => absurd h (by decide))
      · refine ⟨fun x v => rfl, fun y2 S W hK hall hdep K hcont => ?_⟩
        have HCONT := hide hcont
        have HKW := hide hK
        have d12 := hall 12 (by decide) (hdep ⟨12, Ground.data⟩ (by simp) rfl)
        clear hcont hK hall hdep
        have e12 : y2 12 = .slice (some ⟨gb2, gq2, none⟩) 2 cb := d12
        rw [if_pos (by rfl)]
        simp only [e12]
        go_simp
        exact unhide HCONT _ _ _ (by (try simp only [e12]); rfl) (Kept.refl No _) rfl (fun h => absurd h (by decide))
      · refine ⟨fun x v => rfl, fun y2 S W hK hall hdep K hcont => ?_⟩
        have HCONT := hide hcont
        have HKW := hide hK
        have d13 := hall 13 (by decide) (hdep ⟨13, Ground.data⟩ (by simp) rfl)
        clear hcont hK hall hdep
        have e13 : y2 13 = .pointer (some ⟨gb2, gq2 + 3, none⟩) := d13
        obtain ⟨j60, j61, j62, j63, j64, j65⟩ := ((unhide H62).kept (unhide HC).kept id).kept (unhide HKW) id
        rw [if_pos (by rfl)]
        simp only [e13]
        go_simp
        exact unhide HCONT _ _ _ (by (try simp only [e13]); rfl) (Kept.refl No _) ⟨_, _, _, _, _, rfl, (unhide Hv).kept (unhide HKW) (fun _ _ _ => id)⟩ (fun h => absurd h (by decide))
      · refine ⟨fun x v => rfl, fun y2 S W hK hall hdep K hcont => ?_⟩
        have HCONT := hide hcont
        have HKW := hide hK
        have d10 := hall 10 (by decide) (hdep ⟨10, Ground.data⟩ (by simp) rfl)
        have d14 := hall 14 (by decide) (hdep ⟨14, Ground.data⟩ (by simp) rfl)
        clear hcont hK hall hdep
        obtain ⟨k10, n10, A10, l10, c10, e10, r10⟩ := d10
        obtain ⟨k14, n14, A14, l14, c14, e14, r14⟩ := d14
        rw [if_pos (by rfl)]
        simp only [e10, e14]
        go_simp
        exact unhide HCONT _ _ _ (by (try simp only [e10, e14]); rfl) ((Kept.refl No _).alloc _) (row2_new r10 r14 ((unhide HC).go (unhide HKW)).hF) (fun h => absurd h (by decide))
      · refine ⟨fun x v => rfl, fun y2 S W hK hall hdep K hcont => ?_⟩
        have HCONT := hide hcont
        have HKW := hide hK
        have d1 := hall 1 (by decide) (hdep ⟨1, Ground.data⟩ (by simp) rfl)
        have d15 := hall 15 (by decide) (hdep ⟨15, Ground.data⟩ (by simp) rfl)
        clear hcont hK hall hdep
        have e1 : y2 1 = .int .i64 k := d1
        obtain ⟨b15, e15, f15, r15⟩ := d15
        rw [if_pos (by rfl)]
        simp only [e1, e15]
        go_simp
        refine (op2_row o (unhide HOC) _ b15 (.bin o ta tc) td r15 f15).mono ?_
        rintro e w1 ⟨k_, n_, A_, l_, c_, rfl, hR1, hK1⟩
        exact unhide HCONT _ _ _ (by (try simp only [e1, e15]); rfl) hK1 ⟨_, _, _, _, _, rfl, hR1⟩ (fun h => absurd h (by decide))
    · intro y2 W4 hK hx hD
      obtain ⟨k4, n4, A4, l4, c4, e4, r4⟩ := hx 16 (by decide)
      have hvz := (unhide HC).z.lt
      have Ha := hide ((unhide Ha).kept hK (fun _ _ _ => id))
      have Hb := hide ((unhide Hb).kept hK (fun _ _ _ => id))
      have Hu := hide ((unhide Hu).kept hK (fun _ _ _ => id))
      have Hv := hide ((unhide Hv).kept hK (fun _ _ _ => id))
      have HC := hide ((unhide HC).go hK)
      have H4 := hide r4
      clear r4
      simp only [e4, List.drop]
      clear hK hx hD hvz e4
      obtain ⟨f0, f1, f2, z0, z1, z2, hlt⟩ := (unhide HC).zs
      go_wp2_with fail
      refine bodyPost_ret (v := .tuple #[.agg #[.int .i64 k4, .int .i64 n4, .slice A4 l4 c4], .bool true]) (by simp [results, Tryd.results37, go_sem, z0, z1, z2]) rfl ?_
      exact (unhide HC).made (unhide H4)
set_option maxRecDepth 100000 in
set_option maxHeartbeats 4000000 in
theorem tur_no (hb : Nat) (w : World) (k n : Int) (A : Option Addr) (l c : Nat) (tr : Bool)  (hcd : decide (k ∈ [4, 6, 10, 12, 13]) = false) :
    Calls Tryd.prog 37 #[.agg #[.int .i64 k, .int .i64 n, .slice A l c], .bool tr, .pointer (some ⟨hb, 0, none⟩)] w (MadeNo w) := by
  have HCD := hide hcd
  clear hcd
  go_enter Tryd.func37, Tryd.ntmps37
  go_wp2_with fail
  refine (has_any [4, 6, 10, 12, 13] (some ⟨w.heap.size + 1 + 1, 0, none⟩) (w.heap.size + 1 + 1) 5 k _ (.inr rfl) ?hc (by simp)).mono ?_
  case hc =>
    intro i z hz
    have hB5 := Blk.at_ (w := (w.alloc (.cells #[.int .i64 k, .int .i64 n, .slice A l c] 24)).alloc (.cells #[.int .i64 0, .int .i64 0, .slice none 0 0] 24)) (t := 3) (cs := #[.int .i64 4, .int .i64 6, .int .i64 10, .int .i64 12, .int .i64 13]) (n := w.heap.size + 1 + 1) (by simp)
    rw [hB5.cell]
    match i, hz with
    | 0, hz => simp at hz; subst hz; rfl
    | 1, hz => simp at hz; subst hz; rfl
    | 2, hz => simp at hz; subst hz; rfl
    | 3, hz => simp at hz; subst hz; rfl
    | 4, hz => simp at hz; subst hz; rfl
    | i + 5, hz => simp at hz
  rintro e w9 ⟨rfl, rfl⟩
  rw [unhide HCD]
  go_wp2_with fail
  refine bodyPost_ret (v := .tuple #[.agg #[.int .i64 k, .int .i64 n, .slice A l c], .bool false]) (by simp [results, Tryd.results37, go_sem]) rfl ?_
  exact ⟨k, n, A, l, c, rfl, (((Kept.refl No w).alloc _).alloc _).alloc _⟩

theorem tur_by (g : Bool) (hb : Nat) (w0 : World) (hH : Blk w0 hb 4 #[.bool g]) : ByOk 37 #[.pointer (some ⟨hb, 0, none⟩)] w0 (byTurn g) := by
  intro w F k n A l c t tr _ hK hr
  have hk : k = t.code := by have := hr.k_eq.1; rwa [E.r_k] at this
  have no : decide (k ∈ [4, 6, 10, 12, 13]) = false → byTurn g t tr = none → Calls Tryd.prog 37 (#[.agg #[.int .i64 k, .int .i64 n, .slice A l c], .bool tr] ++ #[.pointer (some ⟨hb, 0, none⟩)]) w (ByPost w F (byTurn g t tr)) := fun h1 hn =>
    (tur_no hb w k n A l c tr h1).mono fun _ _ h => no_by h hn
  cases t with
  | num m => exact no (by rw [hk]; simp [E.code]) rfl
  | year => exact no (by rw [hk]; simp [E.code]) rfl
  | neg a => exact no (by rw [hk]; simp [E.code]) rfl
  | not a => exact no (by rw [hk]; simp [E.code]) rfl
  | bin o a b =>
    by_cases ho : turns o = true
    · have hcd : decide (o.code ∈ [4, 6, 10, 12, 13]) = true := by cases o <;> simp [turns] at ho <;> simp [O2.code]
      cases g with
      | false => exact (tur_plain _ hb o _ w0 w F k n A l c a b tr hK hr rfl hcd hH rfl).mono fun _ _ h => made_by h (by simp [byTurn, ho, turnE])
      | true =>
        by_cases hs : o = .same
        · have h10 : (o.code != 10) = false := by subst hs; rfl
          have e : byTurn true (.bin o a b) tr = some (.bin o b a) := by subst hs; simp [byTurn, turns, turnE]
          cases ha : (a.code == o.code) <;> cases hb2 : (b.code == o.code)
          · exact (tur_same_ff _ hb o _ w0 w F k n A l c a b tr hK hr rfl hcd hH rfl ha hb2 h10).mono fun _ _ h => made_by h e
          · exact (tur_same_ft _ hb o _ w0 w F k n A l c a b tr hK hr rfl hcd hH rfl ha hb2 h10).mono fun _ _ h => made_by h e
          · exact (tur_same_tf _ hb o _ w0 w F k n A l c a b tr hK hr rfl hcd hH rfl ha hb2 h10).mono fun _ _ h => made_by h e
          · exact (tur_same_tt _ hb o _ w0 w F k n A l c a b tr hK hr rfl hcd hH rfl ha hb2 h10).mono fun _ _ h => made_by h e
        · have h10 : (o.code != 10) = true := by rw [bne_iff_ne]; cases o <;> simp [O2.code] at hs ⊢
          cases ha : (a.code == o.code) with
          | true =>
            obtain ⟨tc, td, rfl⟩ := code_op (by simpa using ha)
            exact (tur_left _ hb o _ w0 w F k n A l c tc td b tr hK hr rfl hcd hH rfl ha h10).mono fun _ _ h => made_by h (by simp [byTurn, ho, turnE, hs, isOp])
          | false =>
            have hia : isOp o a = none := no_op (by simpa using ha)
            cases hb2 : (b.code == o.code) with
            | true =>
              obtain ⟨tc, td, rfl⟩ := code_op (by simpa using hb2)
              exact (tur_right _ hb o _ w0 w F k n A l c a tc td tr hK hr rfl hcd hH rfl ha hb2 h10).mono fun _ _ h => made_by h (by simp only [byTurn, if_pos ho, turnE, hia]; simp [isOp, hs])
            | false =>
              have hib : isOp o b = none := no_op (by simpa using hb2)
              exact (tur_none _ hb o _ w0 w F k n A l c a b tr hK hr rfl hcd hH rfl ha hb2 h10).mono fun _ _ h => made_by h (by simp [byTurn, ho, turnE, hs, hia, hib])
    · exact no (by rw [hk]; cases o <;> simp [turns] at ho <;> simp [E.code, O2.code]) (by simp [byTurn, ho])

set_option maxRecDepth 100000 in
set_option maxHeartbeats 4000000 in
theorem tur_top (r : R) (k n : Int) (A : Option Addr) (l c : Nat) (y which : Int) (g : Bool) (GB : Nat) (w : World) (F : Nat → Prop) (hr : Rd w F k n A l r) (hG : Glob GB w) (hGB : GB ≤ w.heap.size) :
    Calls Tryd.prog 13 #[.agg #[.int .i64 k, .int .i64 n, .slice A l c], .int .i64 y, .int .i64 which, .bool g] w (YearPost w) := by
  have hentN : ∀ (args : Array Value) (w : World), (callFunc 37 args).run Tryd.prog w = .ok (.enter 37 args) w := by intro args w; go_simp
  have hent43 : ∀ (args : Array Value) (w : World), (callFunc 43 args).run Tryd.prog w = .ok (.enter 43 args) w := by intro args w; go_simp
  have hmf : ∀ (fn : Fn) (first cap : Array Value) (w : World), (Instr.makeFunc fn first cap).run Tryd.prog w = .ok (.func fn first cap) w := fun _ _ _ _ => rfl
  have HR := hide hr
  have HG := hide hG
  have HE1 := hide hentN
  have HE2 := hide hent43
  clear hr hG hentN hent43
  go_enter Tryd.func13, Tryd.ntmps13
  go_wp2_with fail
  have HK := hide (((Kept.refl No w).alloc (.cells #[.int .i64 k, .int .i64 n, .slice A l c] 24)).alloc (.cells #[.bool g] 4))
  have HX := hide ((Blk.new w 24 #[.int .i64 k, .int .i64 n, .slice A l c]).alloc (.cells #[.bool g] 4))
  have HH0 := hide (Blk.at_ (w := (w.alloc (.cells #[.int .i64 k, .int .i64 n, .slice A l c] 24))) (t := 4) (cs := #[.bool g]) (n := w.heap.size + 1) (by simp))
  generalize ((w.alloc (.cells #[.int .i64 k, .int .i64 n, .slice A l c] 24)).alloc (.cells #[.bool g] 4)) = V at HK HX HH0 ⊢
  have KS := hide (show ∀ w', Kept No V w' → (w'.cell? ⟨w.heap.size, 0, none⟩ = some (.int .i64 k) ∧ w'.cell? ⟨w.heap.size, 1, none⟩ = some (.int .i64 n) ∧ w'.cell? ⟨w.heap.size, 2, none⟩ = some (.slice A l c)) from fun w' hk => ⟨((unhide HX).kept hk id).cell 0, ((unhide HX).kept hk id).cell 1, ((unhide HX).kept hk id).cell 2⟩)
  have HV := hide (Kept.refl No V).drew
  go_region_held3 (fun w' => w'.cell? ⟨w.heap.size, 0, none⟩ = some (.int .i64 k) ∧ w'.cell? ⟨w.heap.size, 1, none⟩ = some (.int .i64 n) ∧ w'.cell? ⟨w.heap.size, 2, none⟩ = some (.slice A l c))
    (first | exact unhide KS _ (unhide HV))
    (first
      | (go_at_call 16; refine (put_any which 37 _ _).mono ?_; rintro e w1 ⟨fb, xb, rfl, hfb, hxb, hK1⟩; have HFB := hide hfb; have HXB := hide hxb; have HK := hide ((unhide HK).trans ((unhide HV).trans hK1 (fun _ _ h => h)) (fun _ _ h => h)); have HH0 := hide (((unhide HH0).kept (unhide HV) id).kept hK1 id); have HV := hide ((unhide HV).trans hK1 (fun _ _ h => h)); clear hfb hxb hK1)
      | (go_at_call 15; refine (year_any r k n A l c y 43 GB _ _ F ((unhide HR).kept (unhide HK) (fun _ _ _ => id)) ((unhide HG).kept0 (unhide HK) hGB) (Nat.le_trans hGB (unhide HK).size) (fun t v _ hev => put_law 37 _ _ _ _ which (byTurn g) t y v (unhide HFB) (unhide HXB) (unhide HE1) (tur_by g _ _ (unhide HH0)) (law_turn g) hev) (unhide HE2)).mono ?_; rintro e w2 ⟨rfl, hK2⟩; have HK := hide ((unhide HK).trans hK2 (fun _ _ h => h)); have HV := hide ((unhide HV).trans hK2 (fun _ _ h => h)); clear hK2))
  go_wp2_with fail
  go_ret
  exact ⟨rfl, unhide HK⟩

end Go.Proofs.YtmjmcjcckncplaaDoor
