/- TopTruthsAsked: its closure (function 28), its root (function 8). -/
import Derived.Test.YtmjmcjcckncplaaDoorCtx
import Derived.Test.YtmjmcjcckncplaaDoorAll
import Derived.Test.YtmjmcjcckncplaaDoorInvQ
import Derived.Deep.RegionHeld3
namespace Go.Proofs.YtmjmcjcckncplaaDoor
open Go.RowKit Go.BigFrame

/-- What a closure leaves that tells by b whether it has another expression. -/
def MadeB (w : World) (F : Nat → Prop) (t : E) (b : Bool) (e : Ending) (w' : World) : Prop := ∃ k n A l c, e = .returned (.tuple #[.agg #[.int .i64 k, .int .i64 n, .slice A l c], .bool b]) ∧ Kept No w w' ∧ Rd w' (fun i => F i ∨ w.heap.size ≤ i) k n A l t.r
theorem Ctx.madeB {w W : World} {k n : Int} {A : Option Addr} {l c : Nat} {F : Nat → Prop} {k1 n1 : Int} {A1 : Option Addr} {l1 c1 : Nat} {t : E} (b : Bool) (h : Ctx w W k n A l c) (hr : Rd W (FN F w) k1 n1 A1 l1 t.r) :
    MadeB w F t b (.returned (.tuple #[.agg #[.int .i64 k1, .int .i64 n1, .slice A1 l1 c1], .bool b])) (((W.setCell ⟨w.heap.size + 1, 0, none⟩ (.int .i64 k1)).setCell ⟨w.heap.size + 1, 1, none⟩ (.int .i64 n1)).setCell ⟨w.heap.size + 1, 2, none⟩ (.slice A1 l1 c1)) :=
  ⟨k1, n1, A1, l1, c1, rfl, ((h.kept.new (b := w.heap.size + 1) (by omega) 0 _).new (b := w.heap.size + 1) (by omega) 1 _).new (b := w.heap.size + 1) (by omega) 2 _,
    (hr.kept ((((Kept.refl (One (w.heap.size + 1)) W).one 0 _).one 1 _).one 2 _) (fun j _ hj => one_ne hj.ne)).mono (fun _ _ h => h.out)⟩
theorem madeB_by {w : World} {F : Nat → Prop} {t : E} {b : Bool} {r : Option E} {e : Ending} {w' : World} (h : MadeB w F t b e w') (hr : r = if b then some t else none) : ByPost w F r e w' := by
  obtain ⟨k, n, A, l, c, rfl, hK, hR⟩ := h
  subst hr
  cases b with
  | false => exact ⟨k, n, A, l, c, rfl, hK, fun t' ht => by simp at ht⟩
  | true => exact ⟨k, n, A, l, c, rfl, hK, fun t' ht => by simp at ht; subst ht; exact hR⟩

theorem row7_new {F : Nat → Prop} {W : World} {t0 t1 t2 t3 t4 t5 t6 : E} {k0 n0 : Int} {A0 : Option Addr} {l0 c0 : Nat} {k1 n1 : Int} {A1 : Option Addr} {l1 c1 : Nat} {k2 n2 : Int} {A2 : Option Addr} {l2 c2 : Nat} {k3 n3 : Int} {A3 : Option Addr} {l3 c3 : Nat} {k4 n4 : Int} {A4 : Option Addr} {l4 c4 : Nat} {k5 n5 : Int} {A5 : Option Addr} {l5 c5 : Nat} {k6 n6 : Int} {A6 : Option Addr} {l6 c6 : Nat} (h0 : Rd W F k0 n0 A0 l0 t0.r) (h1 : Rd W F k1 n1 A1 l1 t1.r) (h2 : Rd W F k2 n2 A2 l2 t2.r) (h3 : Rd W F k3 n3 A3 l3 t3.r) (h4 : Rd W F k4 n4 A4 l4 t4.r) (h5 : Rd W F k5 n5 A5 l5 t5.r) (h6 : Rd W F k6 n6 A6 l6 t6.r) (hF : ∀ i, W.heap.size ≤ i → F i) :
    Sh.ok F (W.alloc (.cells #[.int .i64 k0, .int .i64 n0, .slice A0 l0 c0, .int .i64 k1, .int .i64 n1, .slice A1 l1 c1, .int .i64 k2, .int .i64 n2, .slice A2 l2 c2, .int .i64 k3, .int .i64 n3, .slice A3 l3 c3, .int .i64 k4, .int .i64 n4, .slice A4 l4 c4, .int .i64 k5, .int .i64 n5, .slice A5 l5 c5, .int .i64 k6, .int .i64 n6, .slice A6 l6 c6] 24)) (.row [t0, t1, t2, t3, t4, t5, t6]) (.slice (some ⟨W.heap.size, 0, none⟩) 7 7) := by
  have hB := Blk.new W 24 #[.int .i64 k0, .int .i64 n0, .slice A0 l0 c0, .int .i64 k1, .int .i64 n1, .slice A1 l1 c1, .int .i64 k2, .int .i64 n2, .slice A2 l2 c2, .int .i64 k3, .int .i64 n3, .slice A3 l3 c3, .int .i64 k4, .int .i64 n4, .slice A4 l4 c4, .int .i64 k5, .int .i64 n5, .slice A5 l5 c5, .int .i64 k6, .int .i64 n6, .slice A6 l6 c6]
  refine ⟨W.heap.size, rfl, hF _ (Nat.le_refl _), fun j t hj => ?_⟩
  match j, hj with
  | 0, hj => simp at hj; subst hj; exact ⟨k0, n0, A0, l0, c0, ⟨by rw [hB.cell]; rfl, by rw [hB.cell]; rfl, by rw [hB.cell]; rfl⟩, h0.alloc _⟩
  | 1, hj => simp at hj; subst hj; exact ⟨k1, n1, A1, l1, c1, ⟨by rw [hB.cell]; rfl, by rw [hB.cell]; rfl, by rw [hB.cell]; rfl⟩, h1.alloc _⟩
  | 2, hj => simp at hj; subst hj; exact ⟨k2, n2, A2, l2, c2, ⟨by rw [hB.cell]; rfl, by rw [hB.cell]; rfl, by rw [hB.cell]; rfl⟩, h2.alloc _⟩
  | 3, hj => simp at hj; subst hj; exact ⟨k3, n3, A3, l3, c3, ⟨by rw [hB.cell]; rfl, by rw [hB.cell]; rfl, by rw [hB.cell]; rfl⟩, h3.alloc _⟩
  | 4, hj => simp at hj; subst hj; exact ⟨k4, n4, A4, l4, c4, ⟨by rw [hB.cell]; rfl, by rw [hB.cell]; rfl, by rw [hB.cell]; rfl⟩, h4.alloc _⟩
  | 5, hj => simp at hj; subst hj; exact ⟨k5, n5, A5, l5, c5, ⟨by rw [hB.cell]; rfl, by rw [hB.cell]; rfl, by rw [hB.cell]; rfl⟩, h5.alloc _⟩
  | 6, hj => simp at hj; subst hj; exact ⟨k6, n6, A6, l6, c6, ⟨by rw [hB.cell]; rfl, by rw [hB.cell]; rfl, by rw [hB.cell]; rfl⟩, h6.alloc _⟩
  | j + 7, hj => simp at hj

theorem tru_at (t : E) (z : Nat) (hz : z < 7) : [(.not (.not t)), (.bin .and t (.num 1)), (.bin .or (.num 0) t), (.bin .and t t), (.bin .or t t), (.not (.bin .same t (.num 0))), (.bin .mul t (.num 2))][z]? = some (truthE (z : Int) t) := by
  match z, hz with
  | 0, _ => simp [truthE]
  | 1, _ => simp [truthE]
  | 2, _ => simp [truthE]
  | 3, _ => simp [truthE]
  | 4, _ => simp [truthE]
  | 5, _ => simp [truthE]
  | 6, _ => simp [truthE]

set_option maxRecDepth 100000 in
set_option maxHeartbeats 4000000 in
theorem tru_all (hw : Int) (hb : Nat) (z : Nat) (w0 w : World) (F : Nat → Prop) (k n : Int) (A : Option Addr) (l c : Nat) (t : E) (tr : Bool) (hK0 : Kept No w0 w) (hr : Rd w F k n A l (t).r) (hH : Blk w0 hb 3 #[.int .i64 hw]) (hz : pickF hw 7 = (z : Int)) (hz7 : z < 7) :
    Calls Tryd.prog 28 #[.agg #[.int .i64 k, .int .i64 n, .slice A l c], .bool tr, .pointer (some ⟨hb, 0, none⟩)] w (MadeB w F (truthE (z : Int) t) tr) := by
  have hB := hH.kept hK0 id
  have h0 : w.cell? ⟨hb, 0, none⟩ = some (.int .i64 hw) := hB.cell 0
  have hbw := hB.lt
  have HB := hide hB
  have HP := hide hz
  have HZ7 := hide hz7
  have HR := hide hr
  clear hr hK0 hH hB hz hz7
  go_enter Tryd.func28, Tryd.ntmps28
  go_wp2_with fail
  have HC := hide (Ctx.start w k n A l c)
  generalize (w.alloc (.cells #[.int .i64 k, .int .i64 n, .slice A l c] 24)).alloc (.cells #[.int .i64 0, .int .i64 0, .slice none 0 0] 24) = V at HC ⊢
  have Ht := hide (rd_in (unhide HR) (unhide HC).kept)
  have hVz := (unhide HC).z.lt
  refine (rule_F t k n A l c _ (unhide Ht) (unhide HC).hF).mono ?_
  rintro e w1 ⟨ky, ny, Ay, ly, cy, rfl, hRy, hKy⟩
  have Ht := hide ((unhide Ht).kept hKy (fun _ _ _ => id))
  have HC := hide ((unhide HC).go hKy)
  have Hy := hide hRy
  have hw1 := hKy.size
  clear hRy hKy
  go_wp2_with fail
  have hC2 := (unhide HC).go ((Kept.refl No w1).alloc (.cells #[.int .i64 ky, .int .i64 ny, .slice Ay ly cy] 24))
  have hQ := Blk.new w1 24 #[.int .i64 ky, .int .i64 ny, .slice Ay ly cy]
  have Ht := hide ((unhide Ht).alloc (.cells #[.int .i64 ky, .int .i64 ny, .slice Ay ly cy] 24))
  have Hy := hide ((unhide Hy).alloc (.cells #[.int .i64 ky, .int .i64 ny, .slice Ay ly cy] 24))
  have HC := hide hC2
  have HQ := hide hQ
  clear hC2 hQ
  generalize w1.alloc (.cells #[.int .i64 ky, .int .i64 ny, .slice Ay ly cy] 24) = V2 at Ht Hy HC HQ ⊢
  refine wp_region_inv1 34 33 ({ dst := some 43, op := Op.move (Operand.tmp 1), type := 4, pos := "woven_rules.go:200", after := #[{ on := 34, ground := Ground.gcOnly Departure.lateStores }], guard := none }) (.bool tr) (by decide) (by kernel_rfl) (by kernel_rfl) rfl (by kernel_rfl) (by kernel_rfl) (by kernel_rfl) (fun y1 => { tmps := #[Value.agg #[Value.int IntKind.i64 k, Value.int IntKind.i64 n, Value.slice A l c], Value.bool tr, Value.pointer (some { block := hb, off := 0 }), Value.pointer (some { block := w.heap.size, off := 0 }), undef, Value.pointer (some { block := w.heap.size + 1, off := 0 }), Value.bool false, Value.pointer (some { block := w1.heap.size, off := 0 }), Value.agg #[Value.int IntKind.i64 k, Value.int IntKind.i64 n, Value.slice A l c], Value.agg #[Value.int IntKind.i64 ky, Value.int IntKind.i64 ny, Value.slice Ay ly cy], y1 0, y1 1, y1 2, y1 3, y1 4, y1 5, y1 6, y1 7, y1 8, y1 9, y1 10, y1 11, y1 12, y1 13, y1 14, y1 15, y1 16, y1 17, y1 18, y1 19, y1 20, y1 21, y1 22, y1 23, y1 24, y1 25, y1 26, y1 27, y1 28, y1 29, y1 30, y1 31, y1 32, y1 33], defers := [] }) (fun _ => undef) (fun i v W => Sh.ok (FN F w) W (([Sh.tree t, Sh.tree (.not t), Sh.tree (.not (.not t)), Sh.tree t, Sh.tree (.num 1), Sh.row [t, (.num 1)], Sh.tree (.bin .and t (.num 1)), Sh.tree (.num 0), Sh.tree t, Sh.row [(.num 0), t], Sh.tree (.bin .or (.num 0) t), Sh.tree t, Sh.tree t, Sh.row [t, t], Sh.tree (.bin .and t t), Sh.tree t, Sh.tree t, Sh.row [t, t], Sh.tree (.bin .or t t), Sh.tree t, Sh.tree (.num 0), Sh.row [t, (.num 0)], Sh.tree (.bin .same t (.num 0)), Sh.tree (.not (.bin .same t (.num 0))), Sh.tree t, Sh.tree (.num 2), Sh.row [t, (.num 2)], Sh.tree (.bin .mul t (.num 2)), Sh.row [(.not (.not t)), (.bin .and t (.num 1)), (.bin .or (.num 0) t), (.bin .and t t), (.bin .or t t), (.not (.bin .same t (.num 0))), (.bin .mul t (.num 2))], Sh.val (.int .i64 hw), Sh.val (.int .i64 (z : Int)), Sh.addr (truthE (z : Int) t), Sh.tree (truthE (z : Int) t), Sh.val (Value.bool tr)] : List Sh).getD i .any) v) (fun i v W W' hK h => Sh.kept hK _ _ h) rfl (fun _ _ _ h => h) (Or.inl ⟨by rfl, by intro w_; go_simp⟩) (fun _ => rfl) ?_ ?_
  · refine ⟨?_, ?_, ?_, ?_, ?_, ?_, ?_, ?_, ?_, ?_, ?_, ?_, ?_, ?_, ?_, ?_, ?_, ?_, ?_, ?_, ?_, ?_, ?_, ?_, ?_, ?_, ?_, ?_, ?_, ?_, ?_, ?_, ?_, ?_, trivial⟩
    · refine ⟨fun x v => rfl, fun y1 S W hK hall hdep K hcont => ?_⟩
      have HCONT := hide hcont
      have HKW := hide hK
      clear hcont hK hall hdep
      obtain ⟨xs0, xs1, xs2⟩ := ((unhide HC).go (unhide HKW)).xs
      rw [if_pos (by rfl)]
      go_simp
      exact unhide HCONT _ _ _ rfl (Kept.refl No _) ⟨_, _, _, _, _, rfl, (unhide Ht).kept (unhide HKW) (fun _ _ _ => id)⟩ (fun h => absurd h (by decide))
    · refine ⟨fun x v => rfl, fun y1 S W hK hall hdep K hcont => ?_⟩
      have HCONT := hide hcont
      have HKW := hide hK
      have d0 := hall 0 (by decide) (hdep ⟨0, Ground.data⟩ (by simp) rfl)
      clear hcont hK hall hdep
      obtain ⟨k0, n0, A0, l0, c0, e0, r0⟩ := d0
      rw [if_pos (by rfl)]
      simp only [e0]
      go_simp
      refine (none_F t k0 n0 A0 l0 c0 _ r0 ((unhide HC).go (unhide HKW)).hF).mono ?_
      rintro e w1 ⟨k_, n_, A_, l_, c_, rfl, hR1, hK1⟩
      exact unhide HCONT _ _ _ (by (try simp only [e0]); rfl) hK1 ⟨_, _, _, _, _, rfl, hR1⟩ (fun h => absurd h (by decide))
    · refine ⟨fun x v => rfl, fun y1 S W hK hall hdep K hcont => ?_⟩
      have HCONT := hide hcont
      have HKW := hide hK
      have d1 := hall 1 (by decide) (hdep ⟨1, Ground.data⟩ (by simp) rfl)
      clear hcont hK hall hdep
      obtain ⟨k1, n1, A1, l1, c1, e1, r1⟩ := d1
      rw [if_pos (by rfl)]
      simp only [e1]
      go_simp
      refine (none_F (.not t) k1 n1 A1 l1 c1 _ r1 ((unhide HC).go (unhide HKW)).hF).mono ?_
      rintro e w1 ⟨k_, n_, A_, l_, c_, rfl, hR1, hK1⟩
      exact unhide HCONT _ _ _ (by (try simp only [e1]); rfl) hK1 ⟨_, _, _, _, _, rfl, hR1⟩ (fun h => absurd h (by decide))
    · refine ⟨fun x v => rfl, fun y1 S W hK hall hdep K hcont => ?_⟩
      have HCONT := hide hcont
      have HKW := hide hK
      clear hcont hK hall hdep
      obtain ⟨xs0, xs1, xs2⟩ := ((unhide HC).go (unhide HKW)).xs
      rw [if_pos (by rfl)]
      go_simp
      exact unhide HCONT _ _ _ rfl (Kept.refl No _) ⟨_, _, _, _, _, rfl, (unhide Ht).kept (unhide HKW) (fun _ _ _ => id)⟩ (fun h => absurd h (by decide))
    · refine ⟨fun x v => rfl, fun y1 S W hK hall hdep K hcont => ?_⟩
      have HCONT := hide hcont
      have HKW := hide hK
      clear hcont hK hall hdep
      rw [if_pos (by rfl)]
      go_simp
      refine (num_any _ _).mono ?_
      rintro e w1 ⟨rfl, hK1⟩
      exact unhide HCONT _ _ _ rfl hK1 ⟨_, _, _, _, _, rfl, num_rd _ _ _⟩ (fun h => absurd h (by decide))
    · refine ⟨fun x v => rfl, fun y1 S W hK hall hdep K hcont => ?_⟩
      have HCONT := hide hcont
      have HKW := hide hK
      have d3 := hall 3 (by decide) (hdep ⟨3, Ground.data⟩ (by simp) rfl)
      have d4 := hall 4 (by decide) (hdep ⟨4, Ground.data⟩ (by simp) rfl)
      clear hcont hK hall hdep
      obtain ⟨k3, n3, A3, l3, c3, e3, r3⟩ := d3
      obtain ⟨k4, n4, A4, l4, c4, e4, r4⟩ := d4
      rw [if_pos (by rfl)]
      simp only [e3, e4]
      go_simp
      exact unhide HCONT _ _ _ (by (try simp only [e3, e4]); rfl) ((Kept.refl No _).alloc _) (row2_new r3 r4 ((unhide HC).go (unhide HKW)).hF) (fun h => absurd h (by decide))
    · refine ⟨fun x v => rfl, fun y1 S W hK hall hdep K hcont => ?_⟩
      have HCONT := hide hcont
      have HKW := hide hK
      have d5 := hall 5 (by decide) (hdep ⟨5, Ground.data⟩ (by simp) rfl)
      clear hcont hK hall hdep
      obtain ⟨b5, e5, f5, r5⟩ := d5
      rw [if_pos (by rfl)]
      simp only [e5]
      go_simp
      refine (op2_row .and (by rfl) _ b5 t (.num 1) r5 f5).mono ?_
      rintro e w1 ⟨k_, n_, A_, l_, c_, rfl, hR1, hK1⟩
      exact unhide HCONT _ _ _ (by (try simp only [e5]); rfl) hK1 ⟨_, _, _, _, _, rfl, hR1⟩ (fun h => absurd h (by decide))
    · refine ⟨fun x v => rfl, fun y1 S W hK hall hdep K hcont => ?_⟩
      have HCONT := hide hcont
      have HKW := hide hK
      clear hcont hK hall hdep
      rw [if_pos (by rfl)]
      go_simp
      refine (num_any _ _).mono ?_
      rintro e w1 ⟨rfl, hK1⟩
      exact unhide HCONT _ _ _ rfl hK1 ⟨_, _, _, _, _, rfl, num_rd _ _ _⟩ (fun h => absurd h (by decide))
    · refine ⟨fun x v => rfl, fun y1 S W hK hall hdep K hcont => ?_⟩
      have HCONT := hide hcont
      have HKW := hide hK
      clear hcont hK hall hdep
      obtain ⟨xs0, xs1, xs2⟩ := ((unhide HC).go (unhide HKW)).xs
      rw [if_pos (by rfl)]
      go_simp
      exact unhide HCONT _ _ _ rfl (Kept.refl No _) ⟨_, _, _, _, _, rfl, (unhide Ht).kept (unhide HKW) (fun _ _ _ => id)⟩ (fun h => absurd h (by decide))
    · refine ⟨fun x v => rfl, fun y1 S W hK hall hdep K hcont => ?_⟩
      have HCONT := hide hcont
      have HKW := hide hK
      have d7 := hall 7 (by decide) (hdep ⟨7, Ground.data⟩ (by simp) rfl)
      have d8 := hall 8 (by decide) (hdep ⟨8, Ground.data⟩ (by simp) rfl)
      clear hcont hK hall hdep
      obtain ⟨k7, n7, A7, l7, c7, e7, r7⟩ := d7
      obtain ⟨k8, n8, A8, l8, c8, e8, r8⟩ := d8
      rw [if_pos (by rfl)]
      simp only [e7, e8]
      go_simp
      exact unhide HCONT _ _ _ (by (try simp only [e7, e8]); rfl) ((Kept.refl No _).alloc _) (row2_new r7 r8 ((unhide HC).go (unhide HKW)).hF) (fun h => absurd h (by decide))
    · refine ⟨fun x v => rfl, fun y1 S W hK hall hdep K hcont => ?_⟩
      have HCONT := hide hcont
      have HKW := hide hK
      have d9 := hall 9 (by decide) (hdep ⟨9, Ground.data⟩ (by simp) rfl)
      clear hcont hK hall hdep
      obtain ⟨b9, e9, f9, r9⟩ := d9
      rw [if_pos (by rfl)]
      simp only [e9]
      go_simp
      refine (op2_row .or (by rfl) _ b9 (.num 0) t r9 f9).mono ?_
      rintro e w1 ⟨k_, n_, A_, l_, c_, rfl, hR1, hK1⟩
      exact unhide HCONT _ _ _ (by (try simp only [e9]); rfl) hK1 ⟨_, _, _, _, _, rfl, hR1⟩ (fun h => absurd h (by decide))
    · refine ⟨fun x v => rfl, fun y1 S W hK hall hdep K hcont => ?_⟩
      have HCONT := hide hcont
      have HKW := hide hK
      clear hcont hK hall hdep
      obtain ⟨xs0, xs1, xs2⟩ := ((unhide HC).go (unhide HKW)).xs
      rw [if_pos (by rfl)]
      go_simp
      exact unhide HCONT _ _ _ rfl (Kept.refl No _) ⟨_, _, _, _, _, rfl, (unhide Ht).kept (unhide HKW) (fun _ _ _ => id)⟩ (fun h => absurd h (by decide))
    · refine ⟨fun x v => rfl, fun y1 S W hK hall hdep K hcont => ?_⟩
      have HCONT := hide hcont
      have HKW := hide hK
      clear hcont hK hall hdep
      obtain ⟨q0, q1, q2⟩ : _ ∧ _ ∧ _ := ⟨((unhide HQ).kept (unhide HKW) id).cell 0, ((unhide HQ).kept (unhide HKW) id).cell 1, ((unhide HQ).kept (unhide HKW) id).cell 2⟩
      rw [if_pos (by rfl)]
      go_simp
      exact unhide HCONT _ _ _ rfl (Kept.refl No _) ⟨_, _, _, _, _, rfl, (unhide Hy).kept (unhide HKW) (fun _ _ _ => id)⟩ (fun h => absurd h (by decide))
    · refine ⟨fun x v => rfl, fun y1 S W hK hall hdep K hcont => ?_⟩
      have HCONT := hide hcont
      have HKW := hide hK
      have d11 := hall 11 (by decide) (hdep ⟨11, Ground.data⟩ (by simp) rfl)
      have d12 := hall 12 (by decide) (hdep ⟨12, Ground.data⟩ (by simp) rfl)
      clear hcont hK hall hdep
      obtain ⟨k11, n11, A11, l11, c11, e11, r11⟩ := d11
      obtain ⟨k12, n12, A12, l12, c12, e12, r12⟩ := d12
      rw [if_pos (by rfl)]
      simp only [e11, e12]
      go_simp
      exact unhide HCONT _ _ _ (by (try simp only [e11, e12]); rfl) ((Kept.refl No _).alloc _) (row2_new r11 r12 ((unhide HC).go (unhide HKW)).hF) (fun h => absurd h (by decide))
    · refine ⟨fun x v => rfl, fun y1 S W hK hall hdep K hcont => ?_⟩
      have HCONT := hide hcont
      have HKW := hide hK
      have d13 := hall 13 (by decide) (hdep ⟨13, Ground.data⟩ (by simp) rfl)
      clear hcont hK hall hdep
      obtain ⟨b13, e13, f13, r13⟩ := d13
      rw [if_pos (by rfl)]
      simp only [e13]
      go_simp
      refine (op2_row .and (by rfl) _ b13 t t r13 f13).mono ?_
      rintro e w1 ⟨k_, n_, A_, l_, c_, rfl, hR1, hK1⟩
      exact unhide HCONT _ _ _ (by (try simp only [e13]); rfl) hK1 ⟨_, _, _, _, _, rfl, hR1⟩ (fun h => absurd h (by decide))
    · refine ⟨fun x v => rfl, fun y1 S W hK hall hdep K hcont => ?_⟩
      have HCONT := hide hcont
      have HKW := hide hK
      clear hcont hK hall hdep
      obtain ⟨xs0, xs1, xs2⟩ := ((unhide HC).go (unhide HKW)).xs
      rw [if_pos (by rfl)]
      go_simp
      exact unhide HCONT _ _ _ rfl (Kept.refl No _) ⟨_, _, _, _, _, rfl, (unhide Ht).kept (unhide HKW) (fun _ _ _ => id)⟩ (fun h => absurd h (by decide))
    · refine ⟨fun x v => rfl, fun y1 S W hK hall hdep K hcont => ?_⟩
      have HCONT := hide hcont
      have HKW := hide hK
      clear hcont hK hall hdep
      obtain ⟨q0, q1, q2⟩ : _ ∧ _ ∧ _ := ⟨((unhide HQ).kept (unhide HKW) id).cell 0, ((unhide HQ).kept (unhide HKW) id).cell 1, ((unhide HQ).kept (unhide HKW) id).cell 2⟩
      rw [if_pos (by rfl)]
      go_simp
      exact unhide HCONT _ _ _ rfl (Kept.refl No _) ⟨_, _, _, _, _, rfl, (unhide Hy).kept (unhide HKW) (fun _ _ _ => id)⟩ (fun h => absurd h (by decide))
    · refine ⟨fun x v => rfl, fun y1 S W hK hall hdep K hcont => ?_⟩
      have HCONT := hide hcont
      have HKW := hide hK
      have d15 := hall 15 (by decide) (hdep ⟨15, Ground.data⟩ (by simp) rfl)
      have d16 := hall 16 (by decide) (hdep ⟨16, Ground.data⟩ (by simp) rfl)
      clear hcont hK hall hdep
      obtain ⟨k15, n15, A15, l15, c15, e15, r15⟩ := d15
      obtain ⟨k16, n16, A16, l16, c16, e16, r16⟩ := d16
      rw [if_pos (by rfl)]
      simp only [e15, e16]
      go_simp
      exact unhide HCONT _ _ _ (by (try simp only [e15, e16]); rfl) ((Kept.refl No _).alloc _) (row2_new r15 r16 ((unhide HC).go (unhide HKW)).hF) (fun h => absurd h (by decide))
    · refine ⟨fun x v => rfl, fun y1 S W hK hall hdep K hcont => ?_⟩
      have HCONT := hide hcont
      have HKW := hide hK
      have d17 := hall 17 (by decide) (hdep ⟨17, Ground.data⟩ (by simp) rfl)
      clear hcont hK hall hdep
      obtain ⟨b17, e17, f17, r17⟩ := d17
      rw [if_pos (by rfl)]
      simp only [e17]
      go_simp
      refine (op2_row .or (by rfl) _ b17 t t r17 f17).mono ?_
      rintro e w1 ⟨k_, n_, A_, l_, c_, rfl, hR1, hK1⟩
      exact unhide HCONT _ _ _ (by (try simp only [e17]); rfl) hK1 ⟨_, _, _, _, _, rfl, hR1⟩ (fun h => absurd h (by decide))
    · refine ⟨fun x v => rfl, fun y1 S W hK hall hdep K hcont => ?_⟩
      have HCONT := hide hcont
      have HKW := hide hK
      clear hcont hK hall hdep
      obtain ⟨xs0, xs1, xs2⟩ := ((unhide HC).go (unhide HKW)).xs
      rw [if_pos (by rfl)]
      go_simp
      exact unhide HCONT _ _ _ rfl (Kept.refl No _) ⟨_, _, _, _, _, rfl, (unhide Ht).kept (unhide HKW) (fun _ _ _ => id)⟩ (fun h => absurd h (by decide))
    · refine ⟨fun x v => rfl, fun y1 S W hK hall hdep K hcont => ?_⟩
      have HCONT := hide hcont
      have HKW := hide hK
      clear hcont hK hall hdep
      rw [if_pos (by rfl)]
      go_simp
      refine (num_any _ _).mono ?_
      rintro e w1 ⟨rfl, hK1⟩
      exact unhide HCONT _ _ _ rfl hK1 ⟨_, _, _, _, _, rfl, num_rd _ _ _⟩ (fun h => absurd h (by decide))
    · refine ⟨fun x v => rfl, fun y1 S W hK hall hdep K hcont => ?_⟩
      have HCONT := hide hcont
      have HKW := hide hK
      have d19 := hall 19 (by decide) (hdep ⟨19, Ground.data⟩ (by simp) rfl)
      have d20 := hall 20 (by decide) (hdep ⟨20, Ground.data⟩ (by simp) rfl)
      clear hcont hK hall hdep
      obtain ⟨k19, n19, A19, l19, c19, e19, r19⟩ := d19
      obtain ⟨k20, n20, A20, l20, c20, e20, r20⟩ := d20
      rw [if_pos (by rfl)]
      simp only [e19, e20]
      go_simp
      exact unhide HCONT _ _ _ (by (try simp only [e19, e20]); rfl) ((Kept.refl No _).alloc _) (row2_new r19 r20 ((unhide HC).go (unhide HKW)).hF) (fun h => absurd h (by decide))
    · refine ⟨fun x v => rfl, fun y1 S W hK hall hdep K hcont => ?_⟩
      have HCONT := hide hcont
      have HKW := hide hK
      have d21 := hall 21 (by decide) (hdep ⟨21, Ground.data⟩ (by simp) rfl)
      clear hcont hK hall hdep
      obtain ⟨b21, e21, f21, r21⟩ := d21
      rw [if_pos (by rfl)]
      simp only [e21]
      go_simp
      refine (op2_row .same (by rfl) _ b21 t (.num 0) r21 f21).mono ?_
      rintro e w1 ⟨k_, n_, A_, l_, c_, rfl, hR1, hK1⟩
      exact unhide HCONT _ _ _ (by (try simp only [e21]); rfl) hK1 ⟨_, _, _, _, _, rfl, hR1⟩ (fun h => absurd h (by decide))
    · refine ⟨fun x v => rfl, fun y1 S W hK hall hdep K hcont => ?_⟩
      have HCONT := hide hcont
      have HKW := hide hK
      have d22 := hall 22 (by decide) (hdep ⟨22, Ground.data⟩ (by simp) rfl)
      clear hcont hK hall hdep
      obtain ⟨k22, n22, A22, l22, c22, e22, r22⟩ := d22
      rw [if_pos (by rfl)]
      simp only [e22]
      go_simp
      refine (none_F (.bin .same t (.num 0)) k22 n22 A22 l22 c22 _ r22 ((unhide HC).go (unhide HKW)).hF).mono ?_
      rintro e w1 ⟨k_, n_, A_, l_, c_, rfl, hR1, hK1⟩
      exact unhide HCONT _ _ _ (by (try simp only [e22]); rfl) hK1 ⟨_, _, _, _, _, rfl, hR1⟩ (fun h => absurd h (by decide))
    · refine ⟨fun x v => rfl, fun y1 S W hK hall hdep K hcont => ?_⟩
      have HCONT := hide hcont
      have HKW := hide hK
      clear hcont hK hall hdep
      obtain ⟨xs0, xs1, xs2⟩ := ((unhide HC).go (unhide HKW)).xs
      rw [if_pos (by rfl)]
      go_simp
      exact unhide HCONT _ _ _ rfl (Kept.refl No _) ⟨_, _, _, _, _, rfl, (unhide Ht).kept (unhide HKW) (fun _ _ _ => id)⟩ (fun h => absurd h (by decide))
    · refine ⟨fun x v => rfl, fun y1 S W hK hall hdep K hcont => ?_⟩
      have HCONT := hide hcont
      have HKW := hide hK
      clear hcont hK hall hdep
      rw [if_pos (by rfl)]
      go_simp
      refine (num_any _ _).mono ?_
      rintro e w1 ⟨rfl, hK1⟩
      exact unhide HCONT _ _ _ rfl hK1 ⟨_, _, _, _, _, rfl, num_rd _ _ _⟩ (fun h => absurd h (by decide))
    · refine ⟨fun x v => rfl, fun y1 S W hK hall hdep K hcont => ?_⟩
      have HCONT := hide hcont
      have HKW := hide hK
      have d24 := hall 24 (by decide) (hdep ⟨24, Ground.data⟩ (by simp) rfl)
      have d25 := hall 25 (by decide) (hdep ⟨25, Ground.data⟩ (by simp) rfl)
      clear hcont hK hall hdep
      obtain ⟨k24, n24, A24, l24, c24, e24, r24⟩ := d24
      obtain ⟨k25, n25, A25, l25, c25, e25, r25⟩ := d25
      rw [if_pos (by rfl)]
      simp only [e24, e25]
      go_simp
      exact unhide HCONT _ _ _ (by (try simp only [e24, e25]); rfl) ((Kept.refl No _).alloc _) (row2_new r24 r25 ((unhide HC).go (unhide HKW)).hF) (fun h => absurd h (by decide))
    · refine ⟨fun x v => rfl, fun y1 S W hK hall hdep K hcont => ?_⟩
      have HCONT := hide hcont
      have HKW := hide hK
      have d26 := hall 26 (by decide) (hdep ⟨26, Ground.data⟩ (by simp) rfl)
      clear hcont hK hall hdep
      obtain ⟨b26, e26, f26, r26⟩ := d26
      rw [if_pos (by rfl)]
      simp only [e26]
      go_simp
      refine (op2_row .mul (by rfl) _ b26 t (.num 2) r26 f26).mono ?_
      rintro e w1 ⟨k_, n_, A_, l_, c_, rfl, hR1, hK1⟩
      exact unhide HCONT _ _ _ (by (try simp only [e26]); rfl) hK1 ⟨_, _, _, _, _, rfl, hR1⟩ (fun h => absurd h (by decide))
    · refine ⟨fun x v => rfl, fun y1 S W hK hall hdep K hcont => ?_⟩
      have HCONT := hide hcont
      have HKW := hide hK
      have d2 := hall 2 (by decide) (hdep ⟨2, Ground.data⟩ (by simp) rfl)
      have d6 := hall 6 (by decide) (hdep ⟨6, Ground.data⟩ (by simp) rfl)
      have d10 := hall 10 (by decide) (hdep ⟨10, Ground.data⟩ (by simp) rfl)
      have d14 := hall 14 (by decide) (hdep ⟨14, Ground.data⟩ (by simp) rfl)
      have d18 := hall 18 (by decide) (hdep ⟨18, Ground.data⟩ (by simp) rfl)
      have d23 := hall 23 (by decide) (hdep ⟨23, Ground.data⟩ (by simp) rfl)
      have d27 := hall 27 (by decide) (hdep ⟨27, Ground.data⟩ (by simp) rfl)
      clear hcont hK hall hdep
      obtain ⟨k2, n2, A2, l2, c2, e2, r2⟩ := d2
      obtain ⟨k6, n6, A6, l6, c6, e6, r6⟩ := d6
      obtain ⟨k10, n10, A10, l10, c10, e10, r10⟩ := d10
      obtain ⟨k14, n14, A14, l14, c14, e14, r14⟩ := d14
      obtain ⟨k18, n18, A18, l18, c18, e18, r18⟩ := d18
      obtain ⟨k23, n23, A23, l23, c23, e23, r23⟩ := d23
      obtain ⟨k27, n27, A27, l27, c27, e27, r27⟩ := d27
      rw [if_pos (by rfl)]
      simp only [e2, e6, e10, e14, e18, e23, e27]
      go_simp
      exact unhide HCONT _ _ _ (by (try simp only [e2, e6, e10, e14, e18, e23, e27]); rfl) ((Kept.refl No _).alloc _) (row7_new r2 r6 r10 r14 r18 r23 r27 ((unhide HC).go (unhide HKW)).hF) (fun h => absurd h (by decide))
    · refine ⟨fun x v => rfl, fun y1 S W hK hall hdep K hcont => ?_⟩
      have HCONT := hide hcont
      have HKW := hide hK
      clear hcont hK hall hdep
      have hq := (((unhide HB).kept (unhide HC).kept id).kept (unhide HKW) id).cell 0
      rw [if_pos (by rfl)]
      go_simp
      exact unhide HCONT _ _ _ rfl (Kept.refl No _) rfl (fun h => absurd h (by decide))
    · refine ⟨fun x v => rfl, fun y1 S W hK hall hdep K hcont => ?_⟩
      have HCONT := hide hcont
      have HKW := hide hK
      have d29 := hall 29 (by decide) (hdep ⟨29, Ground.data⟩ (by simp) rfl)
      clear hcont hK hall hdep
      have e29 : y1 29 = .int .i64 hw := d29
      rw [if_pos (by rfl)]
      simp only [e29]
      go_simp
      refine (pick_any hw 7 (by omega) (by omega) _).mono ?_
      rintro e w1_ ⟨rfl, rfl⟩
      rw [unhide HP]
      exact unhide HCONT _ _ _ (by (try simp only [e29]); rfl) (Kept.refl No _) rfl (fun h => absurd h (by decide))
    · refine ⟨fun x v => rfl, fun y1 S W hK hall hdep K hcont => ?_⟩
      have HCONT := hide hcont
      have HKW := hide hK
      have d28 := hall 28 (by decide) (hdep ⟨28, Ground.data⟩ (by simp) rfl)
      have d30 := hall 30 (by decide) (hdep ⟨30, Ground.data⟩ (by simp) rfl)
      clear hcont hK hall hdep
      obtain ⟨b28, e28, f28, r28⟩ := d28
      have e30 : y1 30 = .int .i64 (z : Int) := d30
      rw [if_pos (by rfl)]
      simp only [e28, e30]
      have hz7 := unhide HZ7
      have hz1 : (0 : Int) ≤ (z : Int) := by omega
      have hz2 : (z : Int) < (7 : Int) := by omega
      clear hz7
      go_simp
      exact unhide HCONT _ _ _ (by (try simp only [e28, e30]); rfl) (Kept.refl No _) ⟨b28, _, rfl, by rw [Nat.mul_comm]; exact r28 z _ (tru_at t z (unhide HZ7))⟩ (fun h => absurd h (by decide))
    · refine ⟨fun x v => rfl, fun y1 S W hK hall hdep K hcont => ?_⟩
      have HCONT := hide hcont
      have HKW := hide hK
      have d31 := hall 31 (by decide) (hdep ⟨31, Ground.data⟩ (by simp) rfl)
      clear hcont hK hall hdep
      obtain ⟨b31, o31, e31, kk31, nn31, AA31, ll31, cc31, ⟨y31, yy31, yyy31⟩, r31⟩ := d31
      rw [if_pos (by rfl)]
      simp only [e31]
      go_simp
      exact unhide HCONT _ _ _ (by (try simp only [e31]); rfl) (Kept.refl No _) ⟨_, _, _, _, _, rfl, r31⟩ (fun h => absurd h (by decide))
    · refine ⟨fun x v => rfl, fun y1 S W hK hall hdep K hcont => ?_⟩
      have HCONT := hide hcont
      have HKW := hide hK
      clear hcont hK hall hdep
      rw [if_pos (by rfl)]
      go_simp
      exact unhide HCONT _ _ _ rfl (Kept.refl No _) rfl (fun h => absurd h (by decide))
  · intro y1 W1 hK hx
    obtain ⟨k4, n4, A4, l4, c4, e4, r4⟩ := hx 32 (by decide)
    have etb : y1 33 = Value.bool tr := hx 33 (by decide)
    have hvz := (unhide HC).z.lt
    have Ht := hide ((unhide Ht).kept hK (fun _ _ _ => id))
    have Hy := hide ((unhide Hy).kept hK (fun _ _ _ => id))
    have HC := hide ((unhide HC).go hK)
    have H4 := hide r4
    clear r4
    simp only [e4, etb, List.drop]
    clear hK hx hvz e4 etb
    obtain ⟨f0, f1, f2, z0, z1, z2, hlt⟩ := (unhide HC).zs
    go_wp2_with fail
    refine bodyPost_ret (v := .tuple #[.agg #[.int .i64 k4, .int .i64 n4, .slice A4 l4 c4], .bool tr]) (by simp [results, Tryd.results28, go_sem, z0, z1, z2]) rfl ?_
    exact (unhide HC).madeB tr (unhide H4)

theorem tru_by (hw : Int) (hb : Nat) (w0 : World) (hH : Blk w0 hb 3 #[.int .i64 hw]) : ByOk 28 #[.pointer (some ⟨hb, 0, none⟩)] w0 (byTru (pickF hw 7)) := by
  intro w F k n A l c t tr _ hK hr
  obtain ⟨h1, h2⟩ := pickF_range (x := hw) (n := 7) (by omega)
  obtain ⟨z, hz⟩ : ∃ z : Nat, pickF hw 7 = (z : Int) := ⟨(pickF hw 7).toNat, by omega⟩
  exact (tru_all hw hb z w0 w F k n A l c t tr hK hr hH hz (by omega)).mono fun _ _ h => madeB_by h (by unfold byTru; rw [hz])

set_option maxRecDepth 100000 in
set_option maxHeartbeats 4000000 in
theorem tru_top (r : R) (k n : Int) (A : Option Addr) (l c : Nat) (y which : Int) (how : Int) (GB : Nat) (w : World) (F : Nat → Prop) (hr : Rd w F k n A l r) (hG : Glob GB w) (hGB : GB ≤ w.heap.size) :
    Calls Tryd.prog 8 #[.agg #[.int .i64 k, .int .i64 n, .slice A l c], .int .i64 y, .int .i64 which, .int .i64 how] w (YearPost w) := by
  have hentN : ∀ (args : Array Value) (w : World), (callFunc 28 args).run Tryd.prog w = .ok (.enter 28 args) w := by intro args w; go_simp
  have hent43 : ∀ (args : Array Value) (w : World), (callFunc 43 args).run Tryd.prog w = .ok (.enter 43 args) w := by intro args w; go_simp
  have hmf : ∀ (fn : Fn) (first cap : Array Value) (w : World), (Instr.makeFunc fn first cap).run Tryd.prog w = .ok (.func fn first cap) w := fun _ _ _ _ => rfl
  have HR := hide hr
  have HG := hide hG
  have HE1 := hide hentN
  have HE2 := hide hent43
  clear hr hG hentN hent43
  go_enter Tryd.func8, Tryd.ntmps8
  go_wp2_with fail
  have HK := hide (((Kept.refl No w).alloc (.cells #[.int .i64 k, .int .i64 n, .slice A l c] 24)).alloc (.cells #[.int .i64 how] 3))
  have HX := hide ((Blk.new w 24 #[.int .i64 k, .int .i64 n, .slice A l c]).alloc (.cells #[.int .i64 how] 3))
  have HH0 := hide (Blk.at_ (w := (w.alloc (.cells #[.int .i64 k, .int .i64 n, .slice A l c] 24))) (t := 3) (cs := #[.int .i64 how]) (n := w.heap.size + 1) (by simp))
  generalize ((w.alloc (.cells #[.int .i64 k, .int .i64 n, .slice A l c] 24)).alloc (.cells #[.int .i64 how] 3)) = V at HK HX HH0 ⊢
  have KS := hide (show ∀ w', Kept No V w' → (w'.cell? ⟨w.heap.size, 0, none⟩ = some (.int .i64 k) ∧ w'.cell? ⟨w.heap.size, 1, none⟩ = some (.int .i64 n) ∧ w'.cell? ⟨w.heap.size, 2, none⟩ = some (.slice A l c)) from fun w' hk => ⟨((unhide HX).kept hk id).cell 0, ((unhide HX).kept hk id).cell 1, ((unhide HX).kept hk id).cell 2⟩)
  have HV := hide (Kept.refl No V).drew
  go_region_held3 (fun w' => w'.cell? ⟨w.heap.size, 0, none⟩ = some (.int .i64 k) ∧ w'.cell? ⟨w.heap.size, 1, none⟩ = some (.int .i64 n) ∧ w'.cell? ⟨w.heap.size, 2, none⟩ = some (.slice A l c))
    (first | exact unhide KS _ (unhide HV))
    (first
      | (go_at_call 16; refine (put_any which 28 _ _).mono ?_; rintro e w1 ⟨fb, xb, rfl, hfb, hxb, hK1⟩; have HFB := hide hfb; have HXB := hide hxb; have HK := hide ((unhide HK).trans ((unhide HV).trans hK1 (fun _ _ h => h)) (fun _ _ h => h)); have HH0 := hide (((unhide HH0).kept (unhide HV) id).kept hK1 id); have HV := hide ((unhide HV).trans hK1 (fun _ _ h => h)); clear hfb hxb hK1)
      | (go_at_call 15; refine (year_any r k n A l c y 43 GB _ _ F ((unhide HR).kept (unhide HK) (fun _ _ _ => id)) ((unhide HG).kept0 (unhide HK) hGB) (Nat.le_trans hGB (unhide HK).size) (fun t v _ hev => put_law 28 _ _ _ _ which (byTru (pickF how 7)) t y v (unhide HFB) (unhide HXB) (unhide HE1) (tru_by how _ _ (unhide HH0)) (law_tru _) hev) (unhide HE2)).mono ?_; rintro e w2 ⟨rfl, hK2⟩; have HK := hide ((unhide HK).trans hK2 (fun _ _ h => h)); have HV := hide ((unhide HV).trans hK2 (fun _ _ h => h)); clear hK2))
  go_wp2_with fail
  go_ret
  exact ⟨rfl, unhide HK⟩

end Go.Proofs.YtmjmcjcckncplaaDoor
