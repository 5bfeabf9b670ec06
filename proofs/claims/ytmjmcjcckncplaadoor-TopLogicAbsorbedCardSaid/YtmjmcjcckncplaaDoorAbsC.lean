/- The closure of TopLogicAbsorbed (function 31). -/
import Derived.Test.YtmjmcjcckncplaaDoorCtx
import Derived.Test.YtmjmcjcckncplaaDoorAll
import Derived.Deep.RegionHeld3
namespace Go.Proofs.YtmjmcjcckncplaaDoor
open Go.RowKit Go.BigFrame

/-- What a closure leaves that tells by b whether it has another expression. -/
def MadeB (w : World) (F : Nat → Prop) (t : E) (b : Bool) (e : Ending) (w' : World) : Prop := ∃ k n A l c, e = .returned (.tuple #[.agg #[.int .i64 k, .int .i64 n, .slice A l c], .bool b]) ∧ Kept No w w' ∧ Rd w' (fun i => F i ∨ w.heap.size ≤ i) k n A l t.r
theorem Ctx.madeB {w W : World} {k n : Int} {A : Option Addr} {l c : Nat} {F : Nat → Prop} {k1 n1 : Int} {A1 : Option Addr} {l1 c1 : Nat} {t : E} (b : Bool) (h : Ctx w W k n A l c) (hr : Rd W (FN F w) k1 n1 A1 l1 t.r) :
    MadeB w F t b (.returned (.tuple #[.agg #[.int .i64 k1, .int .i64 n1, .slice A1 l1 c1], .bool b])) (((W.setCell ⟨w.heap.size + 1, 0, none⟩ (.int .i64 k1)).setCell ⟨w.heap.size + 1, 1, none⟩ (.int .i64 n1)).setCell ⟨w.heap.size + 1, 2, none⟩ (.slice A1 l1 c1)) :=
  ⟨k1, n1, A1, l1, c1, rfl, ((h.kept.new (b := w.heap.size + 1) (by omega) 0 _).new (b := w.heap.size + 1) (by omega) 1 _).new (b := w.heap.size + 1) (by omega) 2 _,
    (hr.kept ((((Kept.refl (One (w.heap.size + 1)) W).one 0 _).one 1 _).one 2 _) (fun j _ hj => one_ne hj.ne)).mono (fun _ _ h => h.out)⟩
theorem madeB_by {w : World} {F : Nat → Prop} {t : E} {b : Bool} {r : Option E} {e : Ending} {w' : World} (h : MadeB w F t b e w') (hr : r = if b then some t else none) : ByPost w F r e w' := by
  obtain ⟨k, n, A, l, c, rfl, hK, hR⟩ := h
  subst hr
  cases b with
  | false => exact ⟨k, n, A, l, c, rfl, hK, fun t' ht => by simp at ht⟩
  | true => exact ⟨k, n, A, l, c, rfl, hK, fun t' ht => by simp at ht; subst ht; exact hR⟩

theorem rule_F2 {F Fd : Nat → Prop} (t : E) (k n : Int) (A : Option Addr) (l c : Nat) (w : World) (hr : Rd w Fd k n A l t.r) (hF : ∀ i, w.heap.size ≤ i → F i) : Calls Tryd.prog 23 #[.agg #[.int .i64 k, .int .i64 n, .slice A l c]] w (ExprF w F t) := by
  refine (rule_any t k n A l c w _ hr).mono ?_
  rintro e w1 ⟨a, k1, n1, A1, l1, c1, rfl, rfl, hT, _, hb, hK⟩
  exact ⟨k1, n1, A1, l1, c1, rfl, TV.rd hT (fun b hbm => hF b (hb b hbm)), hK⟩

theorem row3_new {F : Nat → Prop} {W : World} {t0 t1 t2 : E} {k0 n0 : Int} {A0 : Option Addr} {l0 c0 : Nat} {k1 n1 : Int} {A1 : Option Addr} {l1 c1 : Nat} {k2 n2 : Int} {A2 : Option Addr} {l2 c2 : Nat} (h0 : Rd W F k0 n0 A0 l0 t0.r) (h1 : Rd W F k1 n1 A1 l1 t1.r) (h2 : Rd W F k2 n2 A2 l2 t2.r) (hF : ∀ i, W.heap.size ≤ i → F i) :
    Sh.ok F (W.alloc (.cells #[.int .i64 k0, .int .i64 n0, .slice A0 l0 c0, .int .i64 k1, .int .i64 n1, .slice A1 l1 c1, .int .i64 k2, .int .i64 n2, .slice A2 l2 c2] 24)) (.row [t0, t1, t2]) (.slice (some ⟨W.heap.size, 0, none⟩) 3 3) := by
  have hB := Blk.new W 24 #[.int .i64 k0, .int .i64 n0, .slice A0 l0 c0, .int .i64 k1, .int .i64 n1, .slice A1 l1 c1, .int .i64 k2, .int .i64 n2, .slice A2 l2 c2]
  refine ⟨W.heap.size, rfl, hF _ (Nat.le_refl _), fun j t hj => ?_⟩
  match j, hj with
  | 0, hj => simp at hj; subst hj; exact ⟨k0, n0, A0, l0, c0, ⟨by rw [hB.cell]; rfl, by rw [hB.cell]; rfl, by rw [hB.cell]; rfl⟩, h0.alloc _⟩
  | 1, hj => simp at hj; subst hj; exact ⟨k1, n1, A1, l1, c1, ⟨by rw [hB.cell]; rfl, by rw [hB.cell]; rfl, by rw [hB.cell]; rfl⟩, h1.alloc _⟩
  | 2, hj => simp at hj; subst hj; exact ⟨k2, n2, A2, l2, c2, ⟨by rw [hB.cell]; rfl, by rw [hB.cell]; rfl, by rw [hB.cell]; rfl⟩, h2.alloc _⟩
  | j + 3, hj => simp at hj

set_option maxRecDepth 100000 in
set_option maxHeartbeats 4000000 in
theorem abs_0 (hw : Int) (hb db : Nat) (d : E) (kd nd : Int) (Ad : Option Addr) (ld cd : Nat) (w0 w : World) (F : Nat → Prop) (k n : Int) (A : Option Addr) (l c : Nat) (t : E) (tr : Bool) (hK0 : Kept No w0 w) (hr : Rd w F k n A l (t).r) (hH : Blk w0 hb 3 #[.int .i64 hw]) (hD : Blk w0 db 24 #[.int .i64 kd, .int .i64 nd, .slice Ad ld cd]) (hdr : Rd w0 (fun _ => True) kd nd Ad ld d.r) (hp : pickF hw 3 = 0) :
    Calls Tryd.prog 31 #[.agg #[.int .i64 k, .int .i64 n, .slice A l c], .bool tr, .pointer (some ⟨db, 0, none⟩), .pointer (some ⟨hb, 0, none⟩)] w (MadeB w F (absE 0 d t) tr) := by
  have hB := hH.kept hK0 id
  have h0 : w.cell? ⟨hb, 0, none⟩ = some (.int .i64 hw) := hB.cell 0
  have hbw := hB.lt
  have hDw := hD.kept hK0 id
  have hdw := hDw.lt
  have HB := hide hB
  have HDB := hide hDw
  have HDR := hide (hdr.kept hK0 (fun _ _ _ => id))
  have HP := hide hp
  have HR := hide hr
  clear hr hK0 hH hB hp hD hDw hdr
  go_enter Tryd.func31, Tryd.ntmps31
  go_wp2_with fail
  have HC := hide (Ctx.start w k n A l c)
  generalize (w.alloc (.cells #[.int .i64 k, .int .i64 n, .slice A l c] 24)).alloc (.cells #[.int .i64 0, .int .i64 0, .slice none 0 0] 24) = V at HC ⊢
  have Ht := hide (rd_in (unhide HR) (unhide HC).kept)
  have HDV := hide (unhide HC).kept
  refine wp_region_inv 32 [] (by kernel_rfl) (by kernel_rfl) (fun y1 => { tmps := #[Value.agg #[Value.int IntKind.i64 k, Value.int IntKind.i64 n, Value.slice A l c], Value.bool tr, Value.pointer (some { block := db, off := 0 }), Value.pointer (some { block := hb, off := 0 }), Value.pointer (some { block := w.heap.size, off := 0 }), undef, Value.pointer (some { block := w.heap.size + 1, off := 0 }), Value.bool false, undef, y1 0, y1 1, y1 2, y1 3, y1 4, y1 5, y1 6, y1 7, y1 8, y1 9, y1 10, y1 11, y1 12, y1 13, y1 14, y1 15, y1 16, y1 17, y1 18, y1 19, y1 20, y1 21, y1 22, y1 23, y1 24, y1 25, y1 26, y1 27, y1 28, y1 29, y1 30, y1 31, undef, undef, undef, undef, undef, undef], defers := [] }) (fun _ => undef) (fun i v W => Sh.ok (FN F w) W (([Sh.tree t, Sh.tree t, Sh.tree t, Sh.tree t, Sh.val (.agg #[.int .i64 kd, .int .i64 nd, .slice Ad ld cd]), Sh.tree d, Sh.row [t, d], Sh.tree (.bin .or t d), Sh.row [t, (.bin .or t d)], Sh.tree (.bin .and t (.bin .or t d)), Sh.val (.agg #[.int .i64 kd, .int .i64 nd, .slice Ad ld cd]), Sh.tree d, Sh.tree t, Sh.tree t, Sh.row [d, t], Sh.tree (.bin .and d t), Sh.tree t, Sh.tree t, Sh.row [(.bin .and d t), t], Sh.tree (.bin .or (.bin .and d t) t), Sh.val (.agg #[.int .i64 kd, .int .i64 nd, .slice Ad ld cd]), Sh.tree d, Sh.val (.agg #[.int .i64 kd, .int .i64 nd, .slice Ad ld cd]), Sh.tree d, Sh.tree (.not d), Sh.row [d, (.not d)], Sh.tree (.bin .or d (.not d)), Sh.tree t, Sh.tree t, Sh.row [(.bin .or d (.not d)), t], Sh.tree (.bin .and (.bin .or d (.not d)) t), Sh.row [(.bin .and t (.bin .or t d)), (.bin .or (.bin .and d t) t), (.bin .and (.bin .or d (.not d)) t)]] : List Sh).getD i .any) v) (fun i v W W' hK h => Sh.kept hK _ _ h) ?_ ?_
  · refine ⟨?_, ?_, ?_, ?_, ?_, ?_, ?_, ?_, ?_, ?_, ?_, ?_, ?_, ?_, ?_, ?_, ?_, ?_, ?_, ?_, ?_, ?_, ?_, ?_, ?_, ?_, ?_, ?_, ?_, ?_, ?_, ?_, trivial⟩
    · refine ⟨fun x v => rfl, fun y1 S W hK hall hdep K hcont => ?_⟩
      have HCONT := hide hcont
      have HKW := hide hK
      clear hcont hK hall hdep
      obtain ⟨xs0, xs1, xs2⟩ := ((unhide HC).go (unhide HKW)).xs
      rw [if_pos (by rfl)]
      go_simp
      exact unhide HCONT _ _ _ rfl (Kept.refl No _) ⟨_, _, _, _, _, rfl, (unhide Ht).kept (unhide HKW) (fun _ _ _ => id)⟩ (fun h => absurd h (by decide))
    · refine ⟨fun x v => rfl, fun y1 S W hK hall hdep K hcont => ?_⟩
      have HCONT := hide hcont
      have HKW := hide hK
      have d0 := hall 0 (by decide) (hdep ⟨0, Ground.data⟩ (by simp) rfl)
      clear hcont hK hall hdep
      obtain ⟨k0, n0, A0, l0, c0, e0, r0⟩ := d0
      rw [if_pos (by rfl)]
      simp only [e0]
      go_simp
      refine (rule_F t k0 n0 A0 l0 c0 _ r0 ((unhide HC).go (unhide HKW)).hF).mono ?_
      rintro e w1 ⟨k_, n_, A_, l_, c_, rfl, hR1, hK1⟩
      exact unhide HCONT _ _ _ (by (try simp only [e0]); rfl) hK1 ⟨_, _, _, _, _, rfl, hR1⟩ (fun h => absurd h (by decide))
    · refine ⟨fun x v => rfl, fun y1 S W hK hall hdep K hcont => ?_⟩
      have HCONT := hide hcont
      have HKW := hide hK
      clear hcont hK hall hdep
      obtain ⟨xs0, xs1, xs2⟩ := ((unhide HC).go (unhide HKW)).xs
      rw [if_pos (by rfl)]
      go_simp
      exact unhide HCONT _ _ _ rfl (Kept.refl No _) ⟨_, _, _, _, _, rfl, (unhide Ht).kept (unhide HKW) (fun _ _ _ => id)⟩ (fun h => absurd h (by decide))
    · refine ⟨fun x v => rfl, fun y1 S W hK hall hdep K hcont => ?_⟩
      have HCONT := hide hcont
      have HKW := hide hK
      have d2 := hall 2 (by decide) (hdep ⟨2, Ground.data⟩ (by simp) rfl)
      clear hcont hK hall hdep
      obtain ⟨k2, n2, A2, l2, c2, e2, r2⟩ := d2
      rw [if_pos (by rfl)]
      simp only [e2]
      go_simp
      refine (rule_F t k2 n2 A2 l2 c2 _ r2 ((unhide HC).go (unhide HKW)).hF).mono ?_
      rintro e w1 ⟨k_, n_, A_, l_, c_, rfl, hR1, hK1⟩
      exact unhide HCONT _ _ _ (by (try simp only [e2]); rfl) hK1 ⟨_, _, _, _, _, rfl, hR1⟩ (fun h => absurd h (by decide))
    · refine ⟨fun x v => rfl, fun y1 S W hK hall hdep K hcont => ?_⟩
      have HCONT := hide hcont
      have HKW := hide hK
      clear hcont hK hall hdep
      obtain ⟨dq0, dq1, dq2⟩ : _ ∧ _ ∧ _ := ⟨(((unhide HDB).kept (unhide HC).kept id).kept (unhide HKW) id).cell 0, (((unhide HDB).kept (unhide HC).kept id).kept (unhide HKW) id).cell 1, (((unhide HDB).kept (unhide HC).kept id).kept (unhide HKW) id).cell 2⟩
      rw [if_pos (by rfl)]
      go_simp
      exact unhide HCONT _ _ _ rfl (Kept.refl No _) rfl (fun h => absurd h (by decide))
    · refine ⟨fun x v => rfl, fun y1 S W hK hall hdep K hcont => ?_⟩
      have HCONT := hide hcont
      have HKW := hide hK
      have d4 := hall 4 (by decide) (hdep ⟨4, Ground.data⟩ (by simp) rfl)
      clear hcont hK hall hdep
      have e4 : y1 4 = .agg #[.int .i64 kd, .int .i64 nd, .slice Ad ld cd] := d4
      rw [if_pos (by rfl)]
      simp only [e4]
      go_simp
      refine (rule_F2 (F := FN F w) d kd nd Ad ld cd _ (((unhide HDR).kept (unhide HC).kept (fun _ _ _ => id)).kept (unhide HKW) (fun _ _ _ => id)) ((unhide HC).go (unhide HKW)).hF).mono ?_
      rintro e w1 ⟨k_, n_, A_, l_, c_, rfl, hR1, hK1⟩
      exact unhide HCONT _ _ _ (by (try simp only [e4]); rfl) hK1 ⟨_, _, _, _, _, rfl, hR1⟩ (fun h => absurd h (by decide))
    · refine ⟨fun x v => rfl, fun y1 S W hK hall hdep K hcont => ?_⟩
      have HCONT := hide hcont
      have HKW := hide hK
      have d3 := hall 3 (by decide) (hdep ⟨3, Ground.data⟩ (by simp) rfl)
      have d5 := hall 5 (by decide) (hdep ⟨5, Ground.data⟩ (by simp) rfl)
      clear hcont hK hall hdep
      obtain ⟨k3, n3, A3, l3, c3, e3, r3⟩ := d3
      obtain ⟨k5, n5, A5, l5, c5, e5, r5⟩ := d5
      rw [if_pos (by rfl)]
      simp only [e3, e5]
      go_simp
      exact unhide HCONT _ _ _ (by (try simp only [e3, e5]); rfl) ((Kept.refl No _).alloc _) (row2_new r3 r5 ((unhide HC).go (unhide HKW)).hF) (fun h => absurd h (by decide))
    · refine ⟨fun x v => rfl, fun y1 S W hK hall hdep K hcont => ?_⟩
      have HCONT := hide hcont
      have HKW := hide hK
      have d6 := hall 6 (by decide) (hdep ⟨6, Ground.data⟩ (by simp) rfl)
      clear hcont hK hall hdep
      obtain ⟨b6, e6, f6, r6⟩ := d6
      rw [if_pos (by rfl)]
      simp only [e6]
      go_simp
      refine (op2_row .or (by rfl) _ b6 t d r6 f6).mono ?_
      rintro e w1 ⟨k_, n_, A_, l_, c_, rfl, hR1, hK1⟩
      exact unhide HCONT _ _ _ (by (try simp only [e6]); rfl) hK1 ⟨_, _, _, _, _, rfl, hR1⟩ (fun h => absurd h (by decide))
    · refine ⟨fun x v => rfl, fun y1 S W hK hall hdep K hcont => ?_⟩
      have HCONT := hide hcont
      have HKW := hide hK
      have d1 := hall 1 (by decide) (hdep ⟨1, Ground.data⟩ (by simp) rfl)
      have d7 := hall 7 (by decide) (hdep ⟨7, Ground.data⟩ (by simp) rfl)
      clear hcont hK hall hdep
      obtain ⟨k1, n1, A1, l1, c1, e1, r1⟩ := d1
      obtain ⟨k7, n7, A7, l7, c7, e7, r7⟩ := d7
      rw [if_pos (by rfl)]
      simp only [e1, e7]
      go_simp
      exact unhide HCONT _ _ _ (by (try simp only [e1, e7]); rfl) ((Kept.refl No _).alloc _) (row2_new r1 r7 ((unhide HC).go (unhide HKW)).hF) (fun h => absurd h (by decide))
    · refine ⟨fun x v => rfl, fun y1 S W hK hall hdep K hcont => ?_⟩
      have HCONT := hide hcont
      have HKW := hide hK
      have d8 := hall 8 (by decide) (hdep ⟨8, Ground.data⟩ (by simp) rfl)
      clear hcont hK hall hdep
      obtain ⟨b8, e8, f8, r8⟩ := d8
      rw [if_pos (by rfl)]
      simp only [e8]
      go_simp
      refine (op2_row .and (by rfl) _ b8 t (.bin .or t d) r8 f8).mono ?_
      rintro e w1 ⟨k_, n_, A_, l_, c_, rfl, hR1, hK1⟩
      exact unhide HCONT _ _ _ (by (try simp only [e8]); rfl) hK1 ⟨_, _, _, _, _, rfl, hR1⟩ (fun h => absurd h (by decide))
    · refine ⟨fun x v => rfl, fun y1 S W hK hall hdep K hcont => ?_⟩
      have HCONT := hide hcont
      have HKW := hide hK
      clear hcont hK hall hdep
      obtain ⟨dq0, dq1, dq2⟩ : _ ∧ _ ∧ _ := ⟨(((unhide HDB).kept (unhide HC).kept id).kept (unhide HKW) id).cell 0, (((unhide HDB).kept (unhide HC).kept id).kept (unhide HKW) id).cell 1, (((unhide HDB).kept (unhide HC).kept id).kept (unhide HKW) id).cell 2⟩
      rw [if_pos (by rfl)]
      go_simp
      exact unhide HCONT _ _ _ rfl (Kept.refl No _) rfl (fun h => absurd h (by decide))
    · refine ⟨fun x v => rfl, fun y1 S W hK hall hdep K hcont => ?_⟩
      have HCONT := hide hcont
      have HKW := hide hK
      have d10 := hall 10 (by decide) (hdep ⟨10, Ground.data⟩ (by simp) rfl)
      clear hcont hK hall hdep
      have e10 : y1 10 = .agg #[.int .i64 kd, .int .i64 nd, .slice Ad ld cd] := d10
      rw [if_pos (by rfl)]
      simp only [e10]
      go_simp
      refine (rule_F2 (F := FN F w) d kd nd Ad ld cd _ (((unhide HDR).kept (unhide HC).kept (fun _ _ _ => id)).kept (unhide HKW) (fun _ _ _ => id)) ((unhide HC).go (unhide HKW)).hF).mono ?_
      rintro e w1 ⟨k_, n_, A_, l_, c_, rfl, hR1, hK1⟩
      exact unhide HCONT _ _ _ (by (try simp only [e10]); rfl) hK1 ⟨_, _, _, _, _, rfl, hR1⟩ (fun h => absurd h (by decide))
    · refine ⟨fun x v => rfl, fun y1 S W hK hall hdep K hcont => ?_⟩
      have HCONT := hide hcont
      have HKW := hide hK
      clear hcont hK hall hdep
      obtain ⟨xs0, xs1, xs2⟩ := ((unhide HC).go (unhide HKW)).xs
      rw [if_pos (by rfl)]
      go_simp
      exact unhide HCONT _ _ _ rfl (Kept.refl No _) ⟨_, _, _, _, _, rfl, (unhide Ht).kept (unhide HKW) (fun _ _ _ => id)⟩ (fun h => absurd h (by decide))
    · refine ⟨fun x v => rfl, fun y1 S W hK hall hdep K hcont => ?_⟩
      have HCONT := hide hcont
      have HKW := hide hK
      have d12 := hall 12 (by decide) (hdep ⟨12, Ground.data⟩ (by simp) rfl)
      clear hcont hK hall hdep
      obtain ⟨k12, n12, A12, l12, c12, e12, r12⟩ := d12
      rw [if_pos (by rfl)]
      simp only [e12]
      go_simp
      refine (rule_F t k12 n12 A12 l12 c12 _ r12 ((unhide HC).go (unhide HKW)).hF).mono ?_
      rintro e w1 ⟨k_, n_, A_, l_, c_, rfl, hR1, hK1⟩
      exact unhide HCONT _ _ _ (by (try simp only [e12]); rfl) hK1 ⟨_, _, _, _, _, rfl, hR1⟩ (fun h => absurd h (by decide))
    · refine ⟨fun x v => rfl, fun y1 S W hK hall hdep K hcont => ?_⟩
      have HCONT := hide hcont
      have HKW := hide hK
      have d11 := hall 11 (by decide) (hdep ⟨11, Ground.data⟩ (by simp) rfl)
      have d13 := hall 13 (by decide) (hdep ⟨13, Ground.data⟩ (by simp) rfl)
      clear hcont hK hall hdep
      obtain ⟨k11, n11, A11, l11, c11, e11, r11⟩ := d11
      obtain ⟨k13, n13, A13, l13, c13, e13, r13⟩ := d13
      rw [if_pos (by rfl)]
      simp only [e11, e13]
      go_simp
      exact unhide HCONT _ _ _ (by (try simp only [e11, e13]); rfl) ((Kept.refl No _).alloc _) (row2_new r11 r13 ((unhide HC).go (unhide HKW)).hF) (fun h => absurd h (by decide))
    · refine ⟨fun x v => rfl, fun y1 S W hK hall hdep K hcont => ?_⟩
      have HCONT := hide hcont
      have HKW := hide hK
      have d14 := hall 14 (by decide) (hdep ⟨14, Ground.data⟩ (by simp) rfl)
      clear hcont hK hall hdep
      obtain ⟨b14, e14, f14, r14⟩ := d14
      rw [if_pos (by rfl)]
      simp only [e14]
      go_simp
      refine (op2_row .and (by rfl) _ b14 d t r14 f14).mono ?_
      rintro e w1 ⟨k_, n_, A_, l_, c_, rfl, hR1, hK1⟩
      exact unhide HCONT _ _ _ (by (try simp only [e14]); rfl) hK1 ⟨_, _, _, _, _, rfl, hR1⟩ (fun h => absurd h (by decide))
    · refine ⟨fun x v => rfl, fun y1 S W hK hall hdep K hcont => ?_⟩
      have HCONT := hide hcont
      have HKW := hide hK
      clear hcont hK hall hdep
      obtain ⟨xs0, xs1, xs2⟩ := ((unhide HC).go (unhide HKW)).xs
      rw [if_pos (by rfl)]
      go_simp
      exact unhide HCONT _ _ _ rfl (Kept.refl No _) ⟨_, _, _, _, _, rfl, (unhide Ht).kept (unhide HKW) (fun _ _ _ => id)⟩ (fun h => absurd h (by decide))
    · refine ⟨fun x v => rfl, fun y1 S W hK hall hdep K hcont => ?_⟩
      have HCONT := hide hcont
      have HKW := hide hK
      have d16 := hall 16 (by decide) (hdep ⟨16, Ground.data⟩ (by simp) rfl)
      clear hcont hK hall hdep
      obtain ⟨k16, n16, A16, l16, c16, e16, r16⟩ := d16
      rw [if_pos (by rfl)]
      simp only [e16]
      go_simp
      refine (rule_F t k16 n16 A16 l16 c16 _ r16 ((unhide HC).go (unhide HKW)).hF).mono ?_
      rintro e w1 ⟨k_, n_, A_, l_, c_, rfl, hR1, hK1⟩
      exact unhide HCONT _ _ _ (by (try simp only [e16]); rfl) hK1 ⟨_, _, _, _, _, rfl, hR1⟩ (fun h => absurd h (by decide))
    · refine ⟨fun x v => rfl, fun y1 S W hK hall hdep K hcont => ?_⟩
      have HCONT := hide hcont
      have HKW := hide hK
      have d15 := hall 15 (by decide) (hdep ⟨15, Ground.data⟩ (by simp) rfl)
      have d17 := hall 17 (by decide) (hdep ⟨17, Ground.data⟩ (by simp) rfl)
      clear hcont hK hall hdep
      obtain ⟨k15, n15, A15, l15, c15, e15, r15⟩ := d15
      obtain ⟨k17, n17, A17, l17, c17, e17, r17⟩ := d17
      rw [if_pos (by rfl)]
      simp only [e15, e17]
      go_simp
      exact unhide HCONT _ _ _ (by (try simp only [e15, e17]); rfl) ((Kept.refl No _).alloc _) (row2_new r15 r17 ((unhide HC).go (unhide HKW)).hF) (fun h => absurd h (by decide))
    · refine ⟨fun x v => rfl, fun y1 S W hK hall hdep K hcont => ?_⟩
      have HCONT := hide hcont
      have HKW := hide hK
      have d18 := hall 18 (by decide) (hdep ⟨18, Ground.data⟩ (by simp) rfl)
      clear hcont hK hall hdep
      obtain ⟨b18, e18, f18, r18⟩ := d18
      rw [if_pos (by rfl)]
      simp only [e18]
      go_simp
      refine (op2_row .or (by rfl) _ b18 (.bin .and d t) t r18 f18).mono ?_
      rintro e w1 ⟨k_, n_, A_, l_, c_, rfl, hR1, hK1⟩
      exact unhide HCONT _ _ _ (by (try simp only [e18]); rfl) hK1 ⟨_, _, _, _, _, rfl, hR1⟩ (fun h => absurd h (by decide))
    · refine ⟨fun x v => rfl, fun y1 S W hK hall hdep K hcont => ?_⟩
      have HCONT := hide hcont
      have HKW := hide hK
      clear hcont hK hall hdep
      obtain ⟨dq0, dq1, dq2⟩ : _ ∧ _ ∧ _ := ⟨(((unhide HDB).kept (unhide HC).kept id).kept (unhide HKW) id).cell 0, (((unhide HDB).kept (unhide HC).kept id).kept (unhide HKW) id).cell 1, (((unhide HDB).kept (unhide HC).kept id).kept (unhide HKW) id).cell 2⟩
      rw [if_pos (by rfl)]
      go_simp
      exact unhide HCONT _ _ _ rfl (Kept.refl No _) rfl (fun h => absurd h (by decide))
    · refine ⟨fun x v => rfl, fun y1 S W hK hall hdep K hcont => ?_⟩
      have HCONT := hide hcont
      have HKW := hide hK
      have d20 := hall 20 (by decide) (hdep ⟨20, Ground.data⟩ (by simp) rfl)
      clear hcont hK hall hdep
      have e20 : y1 20 = .agg #[.int .i64 kd, .int .i64 nd, .slice Ad ld cd] := d20
      rw [if_pos (by rfl)]
      simp only [e20]
      go_simp
      refine (rule_F2 (F := FN F w) d kd nd Ad ld cd _ (((unhide HDR).kept (unhide HC).kept (fun _ _ _ => id)).kept (unhide HKW) (fun _ _ _ => id)) ((unhide HC).go (unhide HKW)).hF).mono ?_
      rintro e w1 ⟨k_, n_, A_, l_, c_, rfl, hR1, hK1⟩
      exact unhide HCONT _ _ _ (by (try simp only [e20]); rfl) hK1 ⟨_, _, _, _, _, rfl, hR1⟩ (fun h => absurd h (by decide))
    · refine ⟨fun x v => rfl, fun y1 S W hK hall hdep K hcont => ?_⟩
      have HCONT := hide hcont
      have HKW := hide hK
      clear hcont hK hall hdep
      obtain ⟨dq0, dq1, dq2⟩ : _ ∧ _ ∧ _ := ⟨(((unhide HDB).kept (unhide HC).kept id).kept (unhide HKW) id).cell 0, (((unhide HDB).kept (unhide HC).kept id).kept (unhide HKW) id).cell 1, (((unhide HDB).kept (unhide HC).kept id).kept (unhide HKW) id).cell 2⟩
      rw [if_pos (by rfl)]
      go_simp
      exact unhide HCONT _ _ _ rfl (Kept.refl No _) rfl (fun h => absurd h (by decide))
    · refine ⟨fun x v => rfl, fun y1 S W hK hall hdep K hcont => ?_⟩
      have HCONT := hide hcont
      have HKW := hide hK
      have d22 := hall 22 (by decide) (hdep ⟨22, Ground.data⟩ (by simp) rfl)
      clear hcont hK hall hdep
      have e22 : y1 22 = .agg #[.int .i64 kd, .int .i64 nd, .slice Ad ld cd] := d22
      rw [if_pos (by rfl)]
      simp only [e22]
      go_simp
      refine (rule_F2 (F := FN F w) d kd nd Ad ld cd _ (((unhide HDR).kept (unhide HC).kept (fun _ _ _ => id)).kept (unhide HKW) (fun _ _ _ => id)) ((unhide HC).go (unhide HKW)).hF).mono ?_
      rintro e w1 ⟨k_, n_, A_, l_, c_, rfl, hR1, hK1⟩
      exact unhide HCONT _ _ _ (by (try simp only [e22]); rfl) hK1 ⟨_, _, _, _, _, rfl, hR1⟩ (fun h => absurd h (by decide))
    · refine ⟨fun x v => rfl, fun y1 S W hK hall hdep K hcont => ?_⟩
      have HCONT := hide hcont
      have HKW := hide hK
      have d23 := hall 23 (by decide) (hdep ⟨23, Ground.data⟩ (by simp) rfl)
      clear hcont hK hall hdep
      obtain ⟨k23, n23, A23, l23, c23, e23, r23⟩ := d23
      rw [if_pos (by rfl)]
      simp only [e23]
      go_simp
      refine (none_F d k23 n23 A23 l23 c23 _ r23 ((unhide HC).go (unhide HKW)).hF).mono ?_
      rintro e w1 ⟨k_, n_, A_, l_, c_, rfl, hR1, hK1⟩
      exact unhide HCONT _ _ _ (by (try simp only [e23]); rfl) hK1 ⟨_, _, _, _, _, rfl, hR1⟩ (fun h => absurd h (by decide))
    · refine ⟨fun x v => rfl, fun y1 S W hK hall hdep K hcont => ?_⟩
      have HCONT := hide hcont
      have HKW := hide hK
      have d21 := hall 21 (by decide) (hdep ⟨21, Ground.data⟩ (by simp) rfl)
      have d24 := hall 24 (by decide) (hdep ⟨24, Ground.data⟩ (by simp) rfl)
      clear hcont hK hall hdep
      obtain ⟨k21, n21, A21, l21, c21, e21, r21⟩ := d21
      obtain ⟨k24, n24, A24, l24, c24, e24, r24⟩ := d24
      rw [if_pos (by rfl)]
      simp only [e21, e24]
      go_simp
      exact unhide HCONT _ _ _ (by (try simp only [e21, e24]); rfl) ((Kept.refl No _).alloc _) (row2_new r21 r24 ((unhide HC).go (unhide HKW)).hF) (fun h => absurd h (by decide))
    · refine ⟨fun x v => rfl, fun y1 S W hK hall hdep K hcont => ?_⟩
      have HCONT := hide hcont
      have HKW := hide hK
      have d25 := hall 25 (by decide) (hdep ⟨25, Ground.data⟩ (by simp) rfl)
      clear hcont hK hall hdep
      obtain ⟨b25, e25, f25, r25⟩ := d25
      rw [if_pos (by rfl)]
      simp only [e25]
      go_simp
      refine (op2_row .or (by rfl) _ b25 d (.not d) r25 f25).mono ?_
      rintro e w1 ⟨k_, n_, A_, l_, c_, rfl, hR1, hK1⟩
      exact unhide HCONT _ _ _ (by (try simp only [e25]); rfl) hK1 ⟨_, _, _, _, _, rfl, hR1⟩ (fun h => absurd h (by decide))
    · refine ⟨fun x v => rfl, fun y1 S W hK hall hdep K hcont => ?_⟩
      have HCONT := hide hcont
      have HKW := hide hK
      clear hcont hK hall hdep
      obtain ⟨xs0, xs1, xs2⟩ := ((unhide HC).go (unhide HKW)).xs
      rw [if_pos (by rfl)]
      go_simp
      exact unhide HCONT _ _ _ rfl (Kept.refl No _) ⟨_, _, _, _, _, rfl, (unhide Ht).kept (unhide HKW) (fun _ _ _ => id)⟩ (fun h => absurd h (by decide))
    · refine ⟨fun x v => rfl, fun y1 S W hK hall hdep K hcont => ?_⟩
      have HCONT := hide hcont
      have HKW := hide hK
      have d27 := hall 27 (by decide) (hdep ⟨27, Ground.data⟩ (by simp) rfl)
      clear hcont hK hall hdep
      obtain ⟨k27, n27, A27, l27, c27, e27, r27⟩ := d27
      rw [if_pos (by rfl)]
      simp only [e27]
      go_simp
      refine (rule_F t k27 n27 A27 l27 c27 _ r27 ((unhide HC).go (unhide HKW)).hF).mono ?_
      rintro e w1 ⟨k_, n_, A_, l_, c_, rfl, hR1, hK1⟩
      exact unhide HCONT _ _ _ (by (try simp only [e27]); rfl) hK1 ⟨_, _, _, _, _, rfl, hR1⟩ (fun h => absurd h (by decide))
    · refine ⟨fun x v => rfl, fun y1 S W hK hall hdep K hcont => ?_⟩
      have HCONT := hide hcont
      have HKW := hide hK
      have d26 := hall 26 (by decide) (hdep ⟨26, Ground.data⟩ (by simp) rfl)
      have d28 := hall 28 (by decide) (hdep ⟨28, Ground.data⟩ (by simp) rfl)
      clear hcont hK hall hdep
      obtain ⟨k26, n26, A26, l26, c26, e26, r26⟩ := d26
      obtain ⟨k28, n28, A28, l28, c28, e28, r28⟩ := d28
      rw [if_pos (by rfl)]
      simp only [e26, e28]
      go_simp
      exact unhide HCONT _ _ _ (by (try simp only [e26, e28]); rfl) ((Kept.refl No _).alloc _) (row2_new r26 r28 ((unhide HC).go (unhide HKW)).hF) (fun h => absurd h (by decide))
    · refine ⟨fun x v => rfl, fun y1 S W hK hall hdep K hcont => ?_⟩
      have HCONT := hide hcont
      have HKW := hide hK
      have d29 := hall 29 (by decide) (hdep ⟨29, Ground.data⟩ (by simp) rfl)
      clear hcont hK hall hdep
      obtain ⟨b29, e29, f29, r29⟩ := d29
      rw [if_pos (by rfl)]
      simp only [e29]
      go_simp
      refine (op2_row .and (by rfl) _ b29 (.bin .or d (.not d)) t r29 f29).mono ?_
      rintro e w1 ⟨k_, n_, A_, l_, c_, rfl, hR1, hK1⟩
      exact unhide HCONT _ _ _ (by (try simp only [e29]); rfl) hK1 ⟨_, _, _, _, _, rfl, hR1⟩ (fun h => absurd h (by decide))
    · refine ⟨fun x v => rfl, fun y1 S W hK hall hdep K hcont => ?_⟩
      have HCONT := hide hcont
      have HKW := hide hK
      have d9 := hall 9 (by decide) (hdep ⟨9, Ground.data⟩ (by simp) rfl)
      have d19 := hall 19 (by decide) (hdep ⟨19, Ground.data⟩ (by simp) rfl)
      have d30 := hall 30 (by decide) (hdep ⟨30, Ground.data⟩ (by simp) rfl)
      clear hcont hK hall hdep
      obtain ⟨k9, n9, A9, l9, c9, e9, r9⟩ := d9
      obtain ⟨k19, n19, A19, l19, c19, e19, r19⟩ := d19
      obtain ⟨k30, n30, A30, l30, c30, e30, r30⟩ := d30
      rw [if_pos (by rfl)]
      simp only [e9, e19, e30]
      go_simp
      exact unhide HCONT _ _ _ (by (try simp only [e9, e19, e30]); rfl) ((Kept.refl No _).alloc _) (row3_new r9 r19 r30 ((unhide HC).go (unhide HKW)).hF) (fun h => absurd h (by decide))
  · intro y1 W1 hK hx hD
    obtain ⟨bR, e31, _, r31⟩ := hx 31 (by decide)
    obtain ⟨k4, n4, A4, l4, c4, ⟨y0, y1, y2⟩, r4⟩ := r31 0 (.bin .and t (.bin .or t d)) rfl
    have y0 : W1.cell? ⟨bR, 0, none⟩ = some (.int .i64 k4) := y0
    have y1 : W1.cell? ⟨bR, 1, none⟩ = some (.int .i64 n4) := y1
    have y2 : W1.cell? ⟨bR, 2, none⟩ = some (.slice A4 l4 c4) := y2
    have HC := hide ((unhide HC).go hK)
    have H4 := hide r4
    have h0 : W1.cell? ⟨hb, 0, none⟩ = some (.int .i64 hw) := ((unhide HB).kept (unhide HC).kept id).cell 0
    simp only [e31, List.drop]
    clear hK hx hD e31 r31 r4
    obtain ⟨f0, f1, f2, z0, z1, z2, hlt⟩ := (unhide HC).zs
    go_wp2_with (go_at_call 20; refine (pick_any hw 3 (by omega) (by omega) _).mono ?_; rintro e w4 ⟨rfl, rfl⟩; rw [unhide HP])
    refine bodyPost_ret (v := .tuple #[.agg #[.int .i64 k4, .int .i64 n4, .slice A4 l4 c4], .bool tr]) (by simp [results, Tryd.results31, go_sem, z0, z1, z2]) rfl ?_
    have e : absE 0 d t = (.bin .and t (.bin .or t d)) := rfl
    rw [e]
    exact (unhide HC).madeB tr (unhide H4)
set_option maxRecDepth 100000 in
set_option maxHeartbeats 4000000 in
theorem abs_1 (hw : Int) (hb db : Nat) (d : E) (kd nd : Int) (Ad : Option Addr) (ld cd : Nat) (w0 w : World) (F : Nat → Prop) (k n : Int) (A : Option Addr) (l c : Nat) (t : E) (tr : Bool) (hK0 : Kept No w0 w) (hr : Rd w F k n A l (t).r) (hH : Blk w0 hb 3 #[.int .i64 hw]) (hD : Blk w0 db 24 #[.int .i64 kd, .int .i64 nd, .slice Ad ld cd]) (hdr : Rd w0 (fun _ => True) kd nd Ad ld d.r) (hp : pickF hw 3 = 1) :
    Calls Tryd.prog 31 #[.agg #[.int .i64 k, .int .i64 n, .slice A l c], .bool tr, .pointer (some ⟨db, 0, none⟩), .pointer (some ⟨hb, 0, none⟩)] w (MadeB w F (absE 1 d t) tr) := by
  have hB := hH.kept hK0 id
  have h0 : w.cell? ⟨hb, 0, none⟩ = some (.int .i64 hw) := hB.cell 0
  have hbw := hB.lt
  have hDw := hD.kept hK0 id
  have hdw := hDw.lt
  have HB := hide hB
  have HDB := hide hDw
  have HDR := hide (hdr.kept hK0 (fun _ _ _ => id))
  have HP := hide hp
  have HR := hide hr
  clear hr hK0 hH hB hp hD hDw hdr
  go_enter Tryd.func31, Tryd.ntmps31
  go_wp2_with fail
  have HC := hide (Ctx.start w k n A l c)
  generalize (w.alloc (.cells #[.int .i64 k, .int .i64 n, .slice A l c] 24)).alloc (.cells #[.int .i64 0, .int .i64 0, .slice none 0 0] 24) = V at HC ⊢
  have Ht := hide (rd_in (unhide HR) (unhide HC).kept)
  have HDV := hide (unhide HC).kept
  refine wp_region_inv 32 [] (by kernel_rfl) (by kernel_rfl) (fun y1 => { tmps := #[Value.agg #[Value.int IntKind.i64 k, Value.int IntKind.i64 n, Value.slice A l c], Value.bool tr, Value.pointer (some { block := db, off := 0 }), Value.pointer (some { block := hb, off := 0 }), Value.pointer (some { block := w.heap.size, off := 0 }), undef, Value.pointer (some { block := w.heap.size + 1, off := 0 }), Value.bool false, undef, y1 0, y1 1, y1 2, y1 3, y1 4, y1 5, y1 6, y1 7, y1 8, y1 9, y1 10, y1 11, y1 12, y1 13, y1 14, y1 15, y1 16, y1 17, y1 18, y1 19, y1 20, y1 21, y1 22, y1 23, y1 24, y1 25, y1 26, y1 27, y1 28, y1 29, y1 30, y1 31, undef, undef, undef, undef, undef, undef], defers := [] }) (fun _ => undef) (fun i v W => Sh.ok (FN F w) W (([Sh.tree t, Sh.tree t, Sh.tree t, Sh.tree t, Sh.val (.agg #[.int .i64 kd, .int .i64 nd, .slice Ad ld cd]), Sh.tree d, Sh.row [t, d], Sh.tree (.bin .or t d), Sh.row [t, (.bin .or t d)], Sh.tree (.bin .and t (.bin .or t d)), Sh.val (.agg #[.int .i64 kd, .int .i64 nd, .slice Ad ld cd]), Sh.tree d, Sh.tree t, Sh.tree t, Sh.row [d, t], Sh.tree (.bin .and d t), Sh.tree t, Sh.tree t, Sh.row [(.bin .and d t), t], Sh.tree (.bin .or (.bin .and d t) t), Sh.val (.agg #[.int .i64 kd, .int .i64 nd, .slice Ad ld cd]), Sh.tree d, Sh.val (.agg #[.int .i64 kd, .int .i64 nd, .slice Ad ld cd]), Sh.tree d, Sh.tree (.not d), Sh.row [d, (.not d)], Sh.tree (.bin .or d (.not d)), Sh.tree t, Sh.tree t, Sh.row [(.bin .or d (.not d)), t], Sh.tree (.bin .and (.bin .or d (.not d)) t), Sh.row [(.bin .and t (.bin .or t d)), (.bin .or (.bin .and d t) t), (.bin .and (.bin .or d (.not d)) t)]] : List Sh).getD i .any) v) (fun i v W W' hK h => Sh.kept hK _ _ h) ?_ ?_
  · refine ⟨?_, ?_, ?_, ?_, ?_, ?_, ?_, ?_, ?_, ?_, ?_, ?_, ?_, ?_, ?_, ?_, ?_, ?_, ?_, ?_, ?_, ?_, ?_, ?_, ?_, ?_, ?_, ?_, ?_, ?_, ?_, ?_, trivial⟩
    · refine ⟨fun x v => rfl, fun y1 S W hK hall hdep K hcont => ?_⟩
      have HCONT := hide hcont
      have HKW := hide hK
      clear hcont hK hall hdep
      obtain ⟨xs0, xs1, xs2⟩ := ((unhide HC).go (unhide HKW)).xs
      rw [if_pos (by rfl)]
      go_simp
      exact unhide HCONT _ _ _ rfl (Kept.refl No _) ⟨_, _, _, _, _, rfl, (unhide Ht).kept (unhide HKW) (fun _ _ _ => id)⟩ (fun h => absurd h (by decide))
    · refine ⟨fun x v => rfl, fun y1 S W hK hall hdep K hcont => ?_⟩
      have HCONT := hide hcont
      have HKW := hide hK
      have d0 := hall 0 (by decide) (hdep ⟨0, Ground.data⟩ (by simp) rfl)
      clear hcont hK hall hdep
      obtain ⟨k0, n0, A0, l0, c0, e0, r0⟩ := d0
      rw [if_pos (by rfl)]
      simp only [e0]
      go_simp
      refine (rule_F t k0 n0 A0 l0 c0 _ r0 ((unhide HC).go (unhide HKW)).hF).mono ?_
      rintro e w1 ⟨k_, n_, A_, l_, c_, rfl, hR1, hK1⟩
      exact unhide HCONT _ _ _ (by (try simp only [e0]); rfl) hK1 ⟨_, _, _, _, _, rfl, hR1⟩ (fun h => absurd h (by decide))
    · refine ⟨fun x v => rfl, fun y1 S W hK hall hdep K hcont => ?_⟩
      have HCONT := hide hcont
      have HKW := hide hK
      clear hcont hK hall hdep
      obtain ⟨xs0, xs1, xs2⟩ := ((unhide HC).go (unhide HKW)).xs
      rw [if_pos (by rfl)]
      go_simp
      exact unhide HCONT _ _ _ rfl (Kept.refl No _) ⟨_, _, _, _, _, rfl, (unhide Ht).kept (unhide HKW) (fun _ _ _ => id)⟩ (fun h => absurd h (by decide))
    · refine ⟨fun x v => rfl, fun y1 S W hK hall hdep K hcont => ?_⟩
      have HCONT := hide hcont
      have HKW := hide hK
      have d2 := hall 2 (by decide) (hdep ⟨2, Ground.data⟩ (by simp) rfl)
      clear hcont hK hall hdep
      obtain ⟨k2, n2, A2, l2, c2, e2, r2⟩ := d2
      rw [if_pos (by rfl)]
      simp only [e2]
      go_simp
      refine (rule_F t k2 n2 A2 l2 c2 _ r2 ((unhide HC).go (unhide HKW)).hF).mono ?_
      rintro e w1 ⟨k_, n_, A_, l_, c_, rfl, hR1, hK1⟩
      exact unhide HCONT _ _ _ (by (try simp only [e2]); rfl) hK1 ⟨_, _, _, _, _, rfl, hR1⟩ (fun h => absurd h (by decide))
    · refine ⟨fun x v => rfl, fun y1 S W hK hall hdep K hcont => ?_⟩
      have HCONT := hide hcont
      have HKW := hide hK
      clear hcont hK hall hdep
      obtain ⟨dq0, dq1, dq2⟩ : _ ∧ _ ∧ _ := ⟨(((unhide HDB).kept (unhide HC).kept id).kept (unhide HKW) id).cell 0, (((unhide HDB).kept (unhide HC).kept id).kept (unhide HKW) id).cell 1, (((unhide HDB).kept (unhide HC).kept id).kept (unhide HKW) id).cell 2⟩
      rw [if_pos (by rfl)]
      go_simp
      exact unhide HCONT _ _ _ rfl (Kept.refl No _) rfl (fun h => absurd h (by decide))
    · refine ⟨fun x v => rfl, fun y1 S W hK hall hdep K hcont => ?_⟩
      have HCONT := hide hcont
      have HKW := hide hK
      have d4 := hall 4 (by decide) (hdep ⟨4, Ground.data⟩ (by simp) rfl)
      clear hcont hK hall hdep
      have e4 : y1 4 = .agg #[.int .i64 kd, .int .i64 nd, .slice Ad ld cd] := d4
      rw [if_pos (by rfl)]
      simp only [e4]
      go_simp
      refine (rule_F2 (F := FN F w) d kd nd Ad ld cd _ (((unhide HDR).kept (unhide HC).kept (fun _ _ _ => id)).kept (unhide HKW) (fun _ _ _ => id)) ((unhide HC).go (unhide HKW)).hF).mono ?_
      rintro e w1 ⟨k_, n_, A_, l_, c_, rfl, hR1, hK1⟩
      exact unhide HCONT _ _ _ (by (try simp only [e4]); rfl) hK1 ⟨_, _, _, _, _, rfl, hR1⟩ (fun h => absurd h (by decide))
    · refine ⟨fun x v => rfl, fun y1 S W hK hall hdep K hcont => ?_⟩
      have HCONT := hide hcont
      have HKW := hide hK
      have d3 := hall 3 (by decide) (hdep ⟨3, Ground.data⟩ (by simp) rfl)
      have d5 := hall 5 (by decide) (hdep ⟨5, Ground.data⟩ (by simp) rfl)
      clear hcont hK hall hdep
      obtain ⟨k3, n3, A3, l3, c3, e3, r3⟩ := d3
      obtain ⟨k5, n5, A5, l5, c5, e5, r5⟩ := d5
      rw [if_pos (by rfl)]
      simp only [e3, e5]
      go_simp
      exact unhide HCONT _ _ _ (by (try simp only [e3, e5]); rfl) ((Kept.refl No _).alloc _) (row2_new r3 r5 ((unhide HC).go (unhide HKW)).hF) (fun h => absurd h (by decide))
    · refine ⟨fun x v => rfl, fun y1 S W hK hall hdep K hcont => ?_⟩
      have HCONT := hide hcont
      have HKW := hide hK
      have d6 := hall 6 (by decide) (hdep ⟨6, Ground.data⟩ (by simp) rfl)
      clear hcont hK hall hdep
      obtain ⟨b6, e6, f6, r6⟩ := d6
      rw [if_pos (by rfl)]
      simp only [e6]
      go_simp
      refine (op2_row .or (by rfl) _ b6 t d r6 f6).mono ?_
      rintro e w1 ⟨k_, n_, A_, l_, c_, rfl, hR1, hK1⟩
      exact unhide HCONT _ _ _ (by (try simp only [e6]); rfl) hK1 ⟨_, _, _, _, _, rfl, hR1⟩ (fun h => absurd h (by decide))
    · refine ⟨fun x v => rfl, fun y1 S W hK hall hdep K hcont => ?_⟩
      have HCONT := hide hcont
      have HKW := hide hK
      have d1 := hall 1 (by decide) (hdep ⟨1, Ground.data⟩ (by simp) rfl)
      have d7 := hall 7 (by decide) (hdep ⟨7, Ground.data⟩ (by simp) rfl)
      clear hcont hK hall hdep
      obtain ⟨k1, n1, A1, l1, c1, e1, r1⟩ := d1
      obtain ⟨k7, n7, A7, l7, c7, e7, r7⟩ := d7
      rw [if_pos (by rfl)]
      simp only [e1, e7]
      go_simp
      exact unhide HCONT _ _ _ (by (try simp only [e1, e7]); rfl) ((Kept.refl No _).alloc _) (row2_new r1 r7 ((unhide HC).go (unhide HKW)).hF) (fun h => absurd h (by decide))
    · refine ⟨fun x v => rfl, fun y1 S W hK hall hdep K hcont => ?_⟩
      have HCONT := hide hcont
      have HKW := hide hK
      have d8 := hall 8 (by decide) (hdep ⟨8, Ground.data⟩ (by simp) rfl)
      clear hcont hK hall hdep
      obtain ⟨b8, e8, f8, r8⟩ := d8
      rw [if_pos (by rfl)]
      simp only [e8]
      go_simp
      refine (op2_row .and (by rfl) _ b8 t (.bin .or t d) r8 f8).mono ?_
      rintro e w1 ⟨k_, n_, A_, l_, c_, rfl, hR1, hK1⟩
      exact unhide HCONT _ _ _ (by (try simp only [e8]); rfl) hK1 ⟨_, _, _, _, _, rfl, hR1⟩ (fun h => absurd h (by decide))
    · refine ⟨fun x v => rfl, fun y1 S W hK hall hdep K hcont => ?_⟩
      have HCONT := hide hcont
      have HKW := hide hK
      clear hcont hK hall hdep
      obtain ⟨dq0, dq1, dq2⟩ : _ ∧ _ ∧ _ := ⟨(((unhide HDB).kept (unhide HC).kept id).kept (unhide HKW) id).cell 0, (((unhide HDB).kept (unhide HC).kept id).kept (unhide HKW) id).cell 1, (((unhide HDB).kept (unhide HC).kept id).kept (unhide HKW) id).cell 2⟩
      rw [if_pos (by rfl)]
      go_simp
      exact unhide HCONT _ _ _ rfl (Kept.refl No _) rfl (fun h => absurd h (by decide))
    · refine ⟨fun x v => rfl, fun y1 S W hK hall hdep K hcont => ?_⟩
      have HCONT := hide hcont
      have HKW := hide hK
      have d10 := hall 10 (by decide) (hdep ⟨10, Ground.data⟩ (by simp) rfl)
      clear hcont hK hall hdep
      have e10 : y1 10 = .agg #[.int .i64 kd, .int .i64 nd, .slice Ad ld cd] := d10
      rw [if_pos (by rfl)]
      simp only [e10]
      go_simp
      refine (rule_F2 (F := FN F w) d kd nd Ad ld cd _ (((unhide HDR).kept (unhide HC).kept (fun _ _ _ => id)).kept (unhide HKW) (fun _ _ _ => id)) ((unhide HC).go (unhide HKW)).hF).mono ?_
      rintro e w1 ⟨k_, n_, A_, l_, c_, rfl, hR1, hK1⟩
      exact unhide HCONT _ _ _ (by (try simp only [e10]); rfl) hK1 ⟨_, _, _, _, _, rfl, hR1⟩ (fun h => absurd h (by decide))
    · refine ⟨fun x v => rfl, fun y1 S W hK hall hdep K hcont => ?_⟩
      have HCONT := hide hcont
      have HKW := hide hK
      clear hcont hK hall hdep
      obtain ⟨xs0, xs1, xs2⟩ := ((unhide HC).go (unhide HKW)).xs
      rw [if_pos (by rfl)]
      go_simp
      exact unhide HCONT _ _ _ rfl (Kept.refl No _) ⟨_, _, _, _, _, rfl, (unhide Ht).kept (unhide HKW) (fun _ _ _ => id)⟩ (fun h => absurd h (by decide))
    · refine ⟨fun x v => rfl, fun y1 S W hK hall hdep K hcont => ?_⟩
      have HCONT := hide hcont
      have HKW := hide hK
      have d12 := hall 12 (by decide) (hdep ⟨12, Ground.data⟩ (by simp) rfl)
      clear hcont hK hall hdep
      obtain ⟨k12, n12, A12, l12, c12, e12, r12⟩ := d12
      rw [if_pos (by rfl)]
      simp only [e12]
      go_simp
      refine (rule_F t k12 n12 A12 l12 c12 _ r12 ((unhide HC).go (unhide HKW)).hF).mono ?_
      rintro e w1 ⟨k_, n_, A_, l_, c_, rfl, hR1, hK1⟩
      exact unhide HCONT _ _ _ (by (try simp only [e12]); rfl) hK1 ⟨_, _, _, _, _, rfl, hR1⟩ (fun h => absurd h (by decide))
    · refine ⟨fun x v => rfl, fun y1 S W hK hall hdep K hcont => ?_⟩
      have HCONT := hide hcont
      have HKW := hide hK
      have d11 := hall 11 (by decide) (hdep ⟨11, Ground.data⟩ (by simp) rfl)
      have d13 := hall 13 (by decide) (hdep ⟨13, Ground.data⟩ (by simp) rfl)
      clear hcont hK hall hdep
      obtain ⟨k11, n11, A11, l11, c11, e11, r11⟩ := d11
      obtain ⟨k13, n13, A13, l13, c13, e13, r13⟩ := d13
      rw [if_pos (by rfl)]
      simp only [e11, e13]
      go_simp
      exact unhide HCONT _ _ _ (by (try simp only [e11, e13]); rfl) ((Kept.refl No _).alloc _) (row2_new r11 r13 ((unhide HC).go (unhide HKW)).hF) (fun h => absurd h (by decide))
    · refine ⟨fun x v => rfl, fun y1 S W hK hall hdep K hcont => ?_⟩
      have HCONT := hide hcont
      have HKW := hide hK
      have d14 := hall 14 (by decide) (hdep ⟨14, Ground.data⟩ (by simp) rfl)
      clear hcont hK hall hdep
      obtain ⟨b14, e14, f14, r14⟩ := d14
      rw [if_pos (by rfl)]
      simp only [e14]
      go_simp
      refine (op2_row .and (by rfl) _ b14 d t r14 f14).mono ?_
      rintro e w1 ⟨k_, n_, A_, l_, c_, rfl, hR1, hK1⟩
      exact unhide HCONT _ _ _ (by (try simp only [e14]); rfl) hK1 ⟨_, _, _, _, _, rfl, hR1⟩ (fun h => absurd h (by decide))
    · refine ⟨fun x v => rfl, fun y1 S W hK hall hdep K hcont => ?_⟩
      have HCONT := hide hcont
      have HKW := hide hK
      clear hcont hK hall hdep
      obtain ⟨xs0, xs1, xs2⟩ := ((unhide HC).go (unhide HKW)).xs
      rw [if_pos (by rfl)]
      go_simp
      exact unhide HCONT _ _ _ rfl (Kept.refl No _) ⟨_, _, _, _, _, rfl, (unhide Ht).kept (unhide HKW) (fun _ _ _ => id)⟩ (fun h => absurd h (by decide))
    · refine ⟨fun x v => rfl, fun y1 S W hK hall hdep K hcont => ?_⟩
      have HCONT := hide hcont
      have HKW := hide hK
      have d16 := hall 16 (by decide) (hdep ⟨16, Ground.data⟩ (by simp) rfl)
      clear hcont hK hall hdep
      obtain ⟨k16, n16, A16, l16, c16, e16, r16⟩ := d16
      rw [if_pos (by rfl)]
      simp only [e16]
      go_simp
      refine (rule_F t k16 n16 A16 l16 c16 _ r16 ((unhide HC).go (unhide HKW)).hF).mono ?_
      rintro e w1 ⟨k_, n_, A_, l_, c_, rfl, hR1, hK1⟩
      exact unhide HCONT _ _ _ (by (try simp only [e16]); rfl) hK1 ⟨_, _, _, _, _, rfl, hR1⟩ (fun h => absurd h (by decide))
    · refine ⟨fun x v => rfl, fun y1 S W hK hall hdep K hcont => ?_⟩
      have HCONT := hide hcont
      have HKW := hide hK
      have d15 := hall 15 (by decide) (hdep ⟨15, Ground.data⟩ (by simp) rfl)
      have d17 := hall 17 (by decide) (hdep ⟨17, Ground.data⟩ (by simp) rfl)
      clear hcont hK hall hdep
      obtain ⟨k15, n15, A15, l15, c15, e15, r15⟩ := d15
      obtain ⟨k17, n17, A17, l17, c17, e17, r17⟩ := d17
      rw [if_pos (by rfl)]
      simp only [e15, e17]
      go_simp
      exact unhide HCONT _ _ _ (by (try simp only [e15, e17]); rfl) ((Kept.refl No _).alloc _) (row2_new r15 r17 ((unhide HC).go (unhide HKW)).hF) (fun h => absurd h (by decide))
    · refine ⟨fun x v => rfl, fun y1 S W hK hall hdep K hcont => ?_⟩
      have HCONT := hide hcont
      have HKW := hide hK
      have d18 := hall 18 (by decide) (hdep ⟨18, Ground.data⟩ (by simp) rfl)
      clear hcont hK hall hdep
      obtain ⟨b18, e18, f18, r18⟩ := d18
      rw [if_pos (by rfl)]
      simp only [e18]
      go_simp
      refine (op2_row .or (by rfl) _ b18 (.bin .and d t) t r18 f18).mono ?_
      rintro e w1 ⟨k_, n_, A_, l_, c_, rfl, hR1, hK1⟩
      exact unhide HCONT _ _ _ (by (try simp only [e18]); rfl) hK1 ⟨_, _, _, _, _, rfl, hR1⟩ (fun h => absurd h (by decide))
    · refine ⟨fun x v => rfl, fun y1 S W hK hall hdep K hcont => ?_⟩
      have HCONT := hide hcont
      have HKW := hide hK
      clear hcont hK hall hdep
      obtain ⟨dq0, dq1, dq2⟩ : _ ∧ _ ∧ _ := ⟨(((unhide HDB).kept (unhide HC).kept id).kept (unhide HKW) id).cell 0, (((unhide HDB).kept (unhide HC).kept id).kept (unhide HKW) id).cell 1, (((unhide HDB).kept (unhide HC).kept id).kept (unhide HKW) id).cell 2⟩
      rw [if_pos (by rfl)]
      go_simp
      exact unhide HCONT _ _ _ rfl (Kept.refl No _) rfl (fun h => absurd h (by decide))
    · refine ⟨fun x v => rfl, fun y1 S W hK hall hdep K hcont => ?_⟩
      have HCONT := hide hcont
      have HKW := hide hK
      have d20 := hall 20 (by decide) (hdep ⟨20, Ground.data⟩ (by simp) rfl)
      clear hcont hK hall hdep
      have e20 : y1 20 = .agg #[.int .i64 kd, .int .i64 nd, .slice Ad ld cd] := d20
      rw [if_pos (by rfl)]
      simp only [e20]
      go_simp
      refine (rule_F2 (F := FN F w) d kd nd Ad ld cd _ (((unhide HDR).kept (unhide HC).kept (fun _ _ _ => id)).kept (unhide HKW) (fun _ _ _ => id)) ((unhide HC).go (unhide HKW)).hF).mono ?_
      rintro e w1 ⟨k_, n_, A_, l_, c_, rfl, hR1, hK1⟩
      exact unhide HCONT _ _ _ (by (try simp only [e20]); rfl) hK1 ⟨_, _, _, _, _, rfl, hR1⟩ (fun h => absurd h (by decide))
    · refine ⟨fun x v => rfl, fun y1 S W hK hall hdep K hcont => ?_⟩
      have HCONT := hide hcont
      have HKW := hide hK
      clear hcont hK hall hdep
      obtain ⟨dq0, dq1, dq2⟩ : _ ∧ _ ∧ _ := ⟨(((unhide HDB).kept (unhide HC).kept id).kept (unhide HKW) id).cell 0, (((unhide HDB).kept (unhide HC).kept id).kept (unhide HKW) id).cell 1, (((unhide HDB).kept (unhide HC).kept id).kept (unhide HKW) id).cell 2⟩
      rw [if_pos (by rfl)]
      go_simp
      exact unhide HCONT _ _ _ rfl (Kept.refl No _) rfl (fun h => absurd h (by decide))
    · refine ⟨fun x v => rfl, fun y1 S W hK hall hdep K hcont => ?_⟩
      have HCONT := hide hcont
      have HKW := hide hK
      have d22 := hall 22 (by decide) (hdep ⟨22, Ground.data⟩ (by simp) rfl)
      clear hcont hK hall hdep
      have e22 : y1 22 = .agg #[.int .i64 kd, .int .i64 nd, .slice Ad ld cd] := d22
      rw [if_pos (by rfl)]
      simp only [e22]
      go_simp
      refine (rule_F2 (F := FN F w) d kd nd Ad ld cd _ (((unhide HDR).kept (unhide HC).kept (fun _ _ _ => id)).kept (unhide HKW) (fun _ _ _ => id)) ((unhide HC).go (unhide HKW)).hF).mono ?_
      rintro e w1 ⟨k_, n_, A_, l_, c_, rfl, hR1, hK1⟩
      exact unhide HCONT _ _ _ (by (try simp only [e22]); rfl) hK1 ⟨_, _, _, _, _, rfl, hR1⟩ (fun h => absurd h (by decide))
    · refine ⟨fun x v => rfl, fun y1 S W hK hall hdep K hcont => ?_⟩
      have HCONT := hide hcont
      have HKW := hide hK
      have d23 := hall 23 (by decide) (hdep ⟨23, Ground.data⟩ (by simp) rfl)
      clear hcont hK hall hdep
      obtain ⟨k23, n23, A23, l23, c23, e23, r23⟩ := d23
      rw [if_pos (by rfl)]
      simp only [e23]
      go_simp
      refine (none_F d k23 n23 A23 l23 c23 _ r23 ((unhide HC).go (unhide HKW)).hF).mono ?_
      rintro e w1 ⟨k_, n_, A_, l_, c_, rfl, hR1, hK1⟩
      exact unhide HCONT _ _ _ (by (try simp only [e23]); rfl) hK1 ⟨_, _, _, _, _, rfl, hR1⟩ (fun h => absurd h (by decide))
    · refine ⟨fun x v => rfl, fun y1 S W hK hall hdep K hcont => ?_⟩
      have HCONT := hide hcont
      have HKW := hide hK
      have d21 := hall 21 (by decide) (hdep ⟨21, Ground.data⟩ (by simp) rfl)
      have d24 := hall 24 (by decide) (hdep ⟨24, Ground.data⟩ (by simp) rfl)
      clear hcont hK hall hdep
      obtain ⟨k21, n21, A21, l21, c21, e21, r21⟩ := d21
      obtain ⟨k24, n24, A24, l24, c24, e24, r24⟩ := d24
      rw [if_pos (by rfl)]
      simp only [e21, e24]
      go_simp
      exact unhide HCONT _ _ _ (by (try simp only [e21, e24]); rfl) ((Kept.refl No _).alloc _) (row2_new r21 r24 ((unhide HC).go (unhide HKW)).hF) (fun h => absurd h (by decide))
    · refine ⟨fun x v => rfl, fun y1 S W hK hall hdep K hcont => ?_⟩
      have HCONT := hide hcont
      have HKW := hide hK
      have d25 := hall 25 (by decide) (hdep ⟨25, Ground.data⟩ (by simp) rfl)
      clear hcont hK hall hdep
      obtain ⟨b25, e25, f25, r25⟩ := d25
      rw [if_pos (by rfl)]
      simp only [e25]
      go_simp
      refine (op2_row .or (by rfl) _ b25 d (.not d) r25 f25).mono ?_
      rintro e w1 ⟨k_, n_, A_, l_, c_, rfl, hR1, hK1⟩
      exact unhide HCONT _ _ _ (by (try simp only [e25]); rfl) hK1 ⟨_, _, _, _, _, rfl, hR1⟩ (fun h => absurd h (by decide))
    · refine ⟨fun x v => rfl, fun y1 S W hK hall hdep K hcont => ?_⟩
      have HCONT := hide hcont
      have HKW := hide hK
      clear hcont hK hall hdep
      obtain ⟨xs0, xs1, xs2⟩ := ((unhide HC).go (unhide HKW)).xs
      rw [if_pos (by rfl)]
      go_simp
      exact unhide HCONT _ _ _ rfl (Kept.refl No _) ⟨_, _, _, _, _, rfl, (unhide Ht).kept (unhide HKW) (fun _ _ _ => id)⟩ (fun h => absurd h (by decide))
    · refine ⟨fun x v => rfl, fun y1 S W hK hall hdep K hcont => ?_⟩
      have HCONT := hide hcont
      have HKW := hide hK
      have d27 := hall 27 (by decide) (hdep ⟨27, Ground.data⟩ (by simp) rfl)
      clear hcont hK hall hdep
      obtain ⟨k27, n27, A27, l27, c27, e27, r27⟩ := d27
      rw [if_pos (by rfl)]
      simp only [e27]
      go_simp
      refine (rule_F t k27 n27 A27 l27 c27 _ r27 ((unhide HC).go (unhide HKW)).hF).mono ?_
      rintro e w1 ⟨k_, n_, A_, l_, c_, rfl, hR1, hK1⟩
      exact unhide HCONT _ _ _ (by (try simp only [e27]); rfl) hK1 ⟨_, _, _, _, _, rfl, hR1⟩ (fun h => absurd h (by decide))
    · refine ⟨fun x v => rfl, fun y1 S W hK hall hdep K hcont => ?_⟩
      have HCONT := hide hcont
      have HKW := hide hK
      have d26 := hall 26 (by decide) (hdep ⟨26, Ground.data⟩ (by simp) rfl)
      have d28 := hall 28 (by decide) (hdep ⟨28, Ground.data⟩ (by simp) rfl)
      clear hcont hK hall hdep
      obtain ⟨k26, n26, A26, l26, c26, e26, r26⟩ := d26
      obtain ⟨k28, n28, A28, l28, c28, e28, r28⟩ := d28
      rw [if_pos (by rfl)]
      simp only [e26, e28]
      go_simp
      exact unhide HCONT _ _ _ (by (try simp only [e26, e28]); rfl) ((Kept.refl No _).alloc _) (row2_new r26 r28 ((unhide HC).go (unhide HKW)).hF) (fun h => absurd h (by decide))
    · refine ⟨fun x v => rfl, fun y1 S W hK hall hdep K hcont => ?_⟩
      have HCONT := hide hcont
      have HKW := hide hK
      have d29 := hall 29 (by decide) (hdep ⟨29, Ground.data⟩ (by simp) rfl)
      clear hcont hK hall hdep
      obtain ⟨b29, e29, f29, r29⟩ := d29
      rw [if_pos (by rfl)]
      simp only [e29]
      go_simp
      refine (op2_row .and (by rfl) _ b29 (.bin .or d (.not d)) t r29 f29).mono ?_
      rintro e w1 ⟨k_, n_, A_, l_, c_, rfl, hR1, hK1⟩
      exact unhide HCONT _ _ _ (by (try simp only [e29]); rfl) hK1 ⟨_, _, _, _, _, rfl, hR1⟩ (fun h => absurd h (by decide))
    · refine ⟨fun x v => rfl, fun y1 S W hK hall hdep K hcont => ?_⟩
      have HCONT := hide hcont
      have HKW := hide hK
      have d9 := hall 9 (by decide) (hdep ⟨9, Ground.data⟩ (by simp) rfl)
      have d19 := hall 19 (by decide) (hdep ⟨19, Ground.data⟩ (by simp) rfl)
      have d30 := hall 30 (by decide) (hdep ⟨30, Ground.data⟩ (by simp) rfl)
      clear hcont hK hall hdep
      obtain ⟨k9, n9, A9, l9, c9, e9, r9⟩ := d9
      obtain ⟨k19, n19, A19, l19, c19, e19, r19⟩ := d19
      obtain ⟨k30, n30, A30, l30, c30, e30, r30⟩ := d30
      rw [if_pos (by rfl)]
      simp only [e9, e19, e30]
      go_simp
      exact unhide HCONT _ _ _ (by (try simp only [e9, e19, e30]); rfl) ((Kept.refl No _).alloc _) (row3_new r9 r19 r30 ((unhide HC).go (unhide HKW)).hF) (fun h => absurd h (by decide))
  · intro y1 W1 hK hx hD
    obtain ⟨bR, e31, _, r31⟩ := hx 31 (by decide)
    obtain ⟨k4, n4, A4, l4, c4, ⟨y0, y1, y2⟩, r4⟩ := r31 1 (.bin .or (.bin .and d t) t) rfl
    have y0 : W1.cell? ⟨bR, 3, none⟩ = some (.int .i64 k4) := y0
    have y1 : W1.cell? ⟨bR, 4, none⟩ = some (.int .i64 n4) := y1
    have y2 : W1.cell? ⟨bR, 5, none⟩ = some (.slice A4 l4 c4) := y2
    have HC := hide ((unhide HC).go hK)
    have H4 := hide r4
    have h0 : W1.cell? ⟨hb, 0, none⟩ = some (.int .i64 hw) := ((unhide HB).kept (unhide HC).kept id).cell 0
    simp only [e31, List.drop]
    clear hK hx hD e31 r31 r4
    obtain ⟨f0, f1, f2, z0, z1, z2, hlt⟩ := (unhide HC).zs
    go_wp2_with (go_at_call 20; refine (pick_any hw 3 (by omega) (by omega) _).mono ?_; rintro e w4 ⟨rfl, rfl⟩; rw [unhide HP])
    refine bodyPost_ret (v := .tuple #[.agg #[.int .i64 k4, .int .i64 n4, .slice A4 l4 c4], .bool tr]) (by simp [results, Tryd.results31, go_sem, z0, z1, z2]) rfl ?_
    have e : absE 1 d t = (.bin .or (.bin .and d t) t) := rfl
    rw [e]
    exact (unhide HC).madeB tr (unhide H4)
set_option maxRecDepth 100000 in
set_option maxHeartbeats 4000000 in
theorem abs_2 (hw : Int) (hb db : Nat) (d : E) (kd nd : Int) (Ad : Option Addr) (ld cd : Nat) (w0 w : World) (F : Nat → Prop) (k n : Int) (A : Option Addr) (l c : Nat) (t : E) (tr : Bool) (hK0 : Kept No w0 w) (hr : Rd w F k n A l (t).r) (hH : Blk w0 hb 3 #[.int .i64 hw]) (hD : Blk w0 db 24 #[.int .i64 kd, .int .i64 nd, .slice Ad ld cd]) (hdr : Rd w0 (fun _ => True) kd nd Ad ld d.r) (hp : pickF hw 3 = 2) :
    Calls Tryd.prog 31 #[.agg #[.int .i64 k, .int .i64 n, .slice A l c], .bool tr, .pointer (some ⟨db, 0, none⟩), .pointer (some ⟨hb, 0, none⟩)] w (MadeB w F (absE 2 d t) tr) := by
  have hB := hH.kept hK0 id
  have h0 : w.cell? ⟨hb, 0, none⟩ = some (.int .i64 hw) := hB.cell 0
  have hbw := hB.lt
  have hDw := hD.kept hK0 id
  have hdw := hDw.lt
  have HB := hide hB
  have HDB := hide hDw
  have HDR := hide (hdr.kept hK0 (fun _ _ _ => id))
  have HP := hide hp
  have HR := hide hr
  clear hr hK0 hH hB hp hD hDw hdr
  go_enter Tryd.func31, Tryd.ntmps31
  go_wp2_with fail
  have HC := hide (Ctx.start w k n A l c)
  generalize (w.alloc (.cells #[.int .i64 k, .int .i64 n, .slice A l c] 24)).alloc (.cells #[.int .i64 0, .int .i64 0, .slice none 0 0] 24) = V at HC ⊢
  have Ht := hide (rd_in (unhide HR) (unhide HC).kept)
  have HDV := hide (unhide HC).kept
  refine wp_region_inv 32 [] (by kernel_rfl) (by kernel_rfl) (fun y1 => { tmps := #[Value.agg #[Value.int IntKind.i64 k, Value.int IntKind.i64 n, Value.slice A l c], Value.bool tr, Value.pointer (some { block := db, off := 0 }), Value.pointer (some { block := hb, off := 0 }), Value.pointer (some { block := w.heap.size, off := 0 }), undef, Value.pointer (some { block := w.heap.size + 1, off := 0 }), Value.bool false, undef, y1 0, y1 1, y1 2, y1 3, y1 4, y1 5, y1 6, y1 7, y1 8, y1 9, y1 10, y1 11, y1 12, y1 13, y1 14, y1 15, y1 16, y1 17, y1 18, y1 19, y1 20, y1 21, y1 22, y1 23, y1 24, y1 25, y1 26, y1 27, y1 28, y1 29, y1 30, y1 31, undef, undef, undef, undef, undef, undef], defers := [] }) (fun _ => undef) (fun i v W => Sh.ok (FN F w) W (([Sh.tree t, Sh.tree t, Sh.tree t, Sh.tree t, Sh.val (.agg #[.int .i64 kd, .int .i64 nd, .slice Ad ld cd]), Sh.tree d, Sh.row [t, d], Sh.tree (.bin .or t d), Sh.row [t, (.bin .or t d)], Sh.tree (.bin .and t (.bin .or t d)), Sh.val (.agg #[.int .i64 kd, .int .i64 nd, .slice Ad ld cd]), Sh.tree d, Sh.tree t, Sh.tree t, Sh.row [d, t], Sh.tree (.bin .and d t), Sh.tree t, Sh.tree t, Sh.row [(.bin .and d t), t], Sh.tree (.bin .or (.bin .and d t) t), Sh.val (.agg #[.int .i64 kd, .int .i64 nd, .slice Ad ld cd]), Sh.tree d, Sh.val (.agg #[.int .i64 kd, .int .i64 nd, .slice Ad ld cd]), Sh.tree d, Sh.tree (.not d), Sh.row [d, (.not d)], Sh.tree (.bin .or d (.not d)), Sh.tree t, Sh.tree t, Sh.row [(.bin .or d (.not d)), t], Sh.tree (.bin .and (.bin .or d (.not d)) t), Sh.row [(.bin .and t (.bin .or t d)), (.bin .or (.bin .and d t) t), (.bin .and (.bin .or d (.not d)) t)]] : List Sh).getD i .any) v) (fun i v W W' hK h => Sh.kept hK _ _ h) ?_ ?_
  · refine ⟨?_, ?_, ?_, ?_, ?_, ?_, ?_, ?_, ?_, ?_, ?_, ?_, ?_, ?_, ?_, ?_, ?_, ?_, ?_, ?_, ?_, ?_, ?_, ?_, ?_, ?_, ?_, ?_, ?_, ?_, ?_, ?_, trivial⟩
    · refine ⟨fun x v => rfl, fun y1 S W hK hall hdep K hcont => ?_⟩
      have HCONT := hide hcont
      have HKW := hide hK
      clear hcont hK hall hdep
      obtain ⟨xs0, xs1, xs2⟩ := ((unhide HC).go (unhide HKW)).xs
      rw [if_pos (by rfl)]
      go_simp
      exact unhide HCONT _ _ _ rfl (Kept.refl No _) ⟨_, _, _, _, _, rfl, (unhide Ht).kept (unhide HKW) (fun _ _ _ => id)⟩ (fun h => absurd h (by decide))
    · refine ⟨fun x v => rfl, fun y1 S W hK hall hdep K hcont => ?_⟩
      have HCONT := hide hcont
      have HKW := hide hK
      have d0 := hall 0 (by decide) (hdep ⟨0, Ground.data⟩ (by simp) rfl)
      clear hcont hK hall hdep
      obtain ⟨k0, n0, A0, l0, c0, e0, r0⟩ := d0
      rw [if_pos (by rfl)]
      simp only [e0]
      go_simp
      refine (rule_F t k0 n0 A0 l0 c0 _ r0 ((unhide HC).go (unhide HKW)).hF).mono ?_
      rintro e w1 ⟨k_, n_, A_, l_, c_, rfl, hR1, hK1⟩
      exact unhide HCONT _ _ _ (by (try simp only [e0]); rfl) hK1 ⟨_, _, _, _, _, rfl, hR1⟩ (fun h => absurd h (by decide))
    · refine ⟨fun x v => rfl, fun y1 S W hK hall hdep K hcont => ?_⟩
      have HCONT := hide hcont
      have HKW := hide hK
      clear hcont hK hall hdep
      obtain ⟨xs0, xs1, xs2⟩ := ((unhide HC).go (unhide HKW)).xs
      rw [if_pos (by rfl)]
      go_simp
      exact unhide HCONT _ _ _ rfl (Kept.refl No _) ⟨_, _, _, _, _, rfl, (unhide Ht).kept (unhide HKW) (fun _ _ _ => id)⟩ (fun h => absurd h (by decide))
    · refine ⟨fun x v => rfl, fun y1 S W hK hall hdep K hcont => ?_⟩
      have HCONT := hide hcont
      have HKW := hide hK
      have d2 := hall 2 (by decide) (hdep ⟨2, Ground.data⟩ (by simp) rfl)
      clear hcont hK hall hdep
      obtain ⟨k2, n2, A2, l2, c2, e2, r2⟩ := d2
      rw [if_pos (by rfl)]
      simp only [e2]
      go_simp
      refine (rule_F t k2 n2 A2 l2 c2 _ r2 ((unhide HC).go (unhide HKW)).hF).mono ?_
      rintro e w1 ⟨k_, n_, A_, l_, c_, rfl, hR1, hK1⟩
      exact unhide HCONT _ _ _ (by (try simp only [e2]); rfl) hK1 ⟨_, _, _, _, _, rfl, hR1⟩ (fun h => absurd h (by decide))
    · refine ⟨fun x v => rfl, fun y1 S W hK hall hdep K hcont => ?_⟩
      have HCONT := hide hcont
      have HKW := hide hK
      clear hcont hK hall hdep
      obtain ⟨dq0, dq1, dq2⟩ : _ ∧ _ ∧ _ := ⟨(((unhide HDB).kept (unhide HC).kept id).kept (unhide HKW) id).cell 0, (((unhide HDB).kept (unhide HC).kept id).kept (unhide HKW) id).cell 1, (((unhide HDB).kept (unhide HC).kept id).kept (unhide HKW) id).cell 2⟩
      rw [if_pos (by rfl)]
      go_simp
      exact unhide HCONT _ _ _ rfl (Kept.refl No _) rfl (fun h => absurd h (by decide))
    · refine ⟨fun x v => rfl, fun y1 S W hK hall hdep K hcont => ?_⟩
      have HCONT := hide hcont
      have HKW := hide hK
      have d4 := hall 4 (by decide) (hdep ⟨4, Ground.data⟩ (by simp) rfl)
      clear hcont hK hall hdep
      have e4 : y1 4 = .agg #[.int .i64 kd, .int .i64 nd, .slice Ad ld cd] := d4
      rw [if_pos (by rfl)]
      simp only [e4]
      go_simp
      refine (rule_F2 (F := FN F w) d kd nd Ad ld cd _ (((unhide HDR).kept (unhide HC).kept (fun _ _ _ => id)).kept (unhide HKW) (fun _ _ _ => id)) ((unhide HC).go (unhide HKW)).hF).mono ?_
      rintro e w1 ⟨k_, n_, A_, l_, c_, rfl, hR1, hK1⟩
      exact unhide HCONT _ _ _ (by (try simp only [e4]); rfl) hK1 ⟨_, _, _, _, _, rfl, hR1⟩ (fun h => absurd h (by decide))
    · refine ⟨fun x v => rfl, fun y1 S W hK hall hdep K hcont => ?_⟩
      have HCONT := hide hcont
      have HKW := hide hK
      have d3 := hall 3 (by decide) (hdep ⟨3, Ground.data⟩ (by simp) rfl)
      have d5 := hall 5 (by decide) (hdep ⟨5, Ground.data⟩ (by simp) rfl)
      clear hcont hK hall hdep
      obtain ⟨k3, n3, A3, l3, c3, e3, r3⟩ := d3
      obtain ⟨k5, n5, A5, l5, c5, e5, r5⟩ := d5
      rw [if_pos (by rfl)]
      simp only [e3, e5]
      go_simp
      exact unhide HCONT _ _ _ (by (try simp only [e3, e5]); rfl) ((Kept.refl No _).alloc _) (row2_new r3 r5 ((unhide HC).go (unhide HKW)).hF) (fun h => absurd h (by decide))
    · refine ⟨fun x v => rfl, fun y1 S W hK hall hdep K hcont => ?_⟩
      have HCONT := hide hcont
      have HKW := hide hK
      have d6 := hall 6 (by decide) (hdep ⟨6, Ground.data⟩ (by simp) rfl)
      clear hcont hK hall hdep
      obtain ⟨b6, e6, f6, r6⟩ := d6
      rw [if_pos (by rfl)]
      simp only [e6]
      go_simp
      refine (op2_row .or (by rfl) _ b6 t d r6 f6).mono ?_
      rintro e w1 ⟨k_, n_, A_, l_, c_, rfl, hR1, hK1⟩
      exact unhide HCONT _ _ _ (by (try simp only [e6]); rfl) hK1 ⟨_, _, _, _, _, rfl, hR1⟩ (fun h => absurd h (by decide))
    · refine ⟨fun x v => rfl, fun y1 S W hK hall hdep K hcont => ?_⟩
      have HCONT := hide hcont
      have HKW := hide hK
      have d1 := hall 1 (by decide) (hdep ⟨1, Ground.data⟩ (by simp) rfl)
      have d7 := hall 7 (by decide) (hdep ⟨7, Ground.data⟩ (by simp) rfl)
      clear hcont hK hall hdep
      obtain ⟨k1, n1, A1, l1, c1, e1, r1⟩ := d1
      obtain ⟨k7, n7, A7, l7, c7, e7, r7⟩ := d7
      rw [if_pos (by rfl)]
      simp only [e1, e7]
      go_simp
      exact unhide HCONT _ _ _ (by (try simp only [e1, e7]); rfl) ((Kept.refl No _).alloc _) (row2_new r1 r7 ((unhide HC).go (unhide HKW)).hF) (fun h => absurd h (by decide))
    · refine ⟨fun x v => rfl, fun y1 S W hK hall hdep K hcont => ?_⟩
      have HCONT := hide hcont
      have HKW := hide hK
      have d8 := hall 8 (by decide) (hdep ⟨8, Ground.data⟩ (by simp) rfl)
      clear hcont hK hall hdep
      obtain ⟨b8, e8, f8, r8⟩ := d8
      rw [if_pos (by rfl)]
      simp only [e8]
      go_simp
      refine (op2_row .and (by rfl) _ b8 t (.bin .or t d) r8 f8).mono ?_
      rintro e w1 ⟨k_, n_, A_, l_, c_, rfl, hR1, hK1⟩
      exact unhide HCONT _ _ _ (by (try simp only [e8]); rfl) hK1 ⟨_, _, _, _, _, rfl, hR1⟩ (fun h => absurd h (by decide))
    · refine ⟨fun x v => rfl, fun y1 S W hK hall hdep K hcont => ?_⟩
      have HCONT := hide hcont
      have HKW := hide hK
      clear hcont hK hall hdep
      obtain ⟨dq0, dq1, dq2⟩ : _ ∧ _ ∧ _ := ⟨(((unhide HDB).kept (unhide HC).kept id).kept (unhide HKW) id).cell 0, (((unhide HDB).kept (unhide HC).kept id).kept (unhide HKW) id).cell 1, (((unhide HDB).kept (unhide HC).kept id).kept (unhide HKW) id).cell 2⟩
      rw [if_pos (by rfl)]
      go_simp
      exact unhide HCONT _ _ _ rfl (Kept.refl No _) rfl (fun h => absurd h (by decide))
    · refine ⟨fun x v => rfl, fun y1 S W hK hall hdep K hcont => ?_⟩
      have HCONT := hide hcont
      have HKW := hide hK
      have d10 := hall 10 (by decide) (hdep ⟨10, Ground.data⟩ (by simp) rfl)
      clear hcont hK hall hdep
      have e10 : y1 10 = .agg #[.int .i64 kd, .int .i64 nd, .slice Ad ld cd] := d10
      rw [if_pos (by rfl)]
      simp only [e10]
      go_simp
      refine (rule_F2 (F := FN F w) d kd nd Ad ld cd _ (((unhide HDR).kept (unhide HC).kept (fun _ _ _ => id)).kept (unhide HKW) (fun _ _ _ => id)) ((unhide HC).go (unhide HKW)).hF).mono ?_
      rintro e w1 ⟨k_, n_, A_, l_, c_, rfl, hR1, hK1⟩
      exact unhide HCONT _ _ _ (by (try simp only [e10]); rfl) hK1 ⟨_, _, _, _, _, rfl, hR1⟩ (fun h => absurd h (by decide))
    · refine ⟨fun x v => rfl, fun y1 S W hK hall hdep K hcont => ?_⟩
      have HCONT := hide hcont
      have HKW := hide hK
      clear hcont hK hall hdep
      obtain ⟨xs0, xs1, xs2⟩ := ((unhide HC).go (unhide HKW)).xs
      rw [if_pos (by rfl)]
      go_simp
      exact unhide HCONT _ _ _ rfl (Kept.refl No _) ⟨_, _, _, _, _, rfl, (unhide Ht).kept (unhide HKW) (fun _ _ _ => id)⟩ (fun h => absurd h (by decide))
    · refine ⟨fun x v => rfl, fun y1 S W hK hall hdep K hcont => ?_⟩
      have HCONT := hide hcont
      have HKW := hide hK
      have d12 := hall 12 (by decide) (hdep ⟨12, Ground.data⟩ (by simp) rfl)
      clear hcont hK hall hdep
      obtain ⟨k12, n12, A12, l12, c12, e12, r12⟩ := d12
      rw [if_pos (by rfl)]
      simp only [e12]
      go_simp
      refine (rule_F t k12 n12 A12 l12 c12 _ r12 ((unhide HC).go (unhide HKW)).hF).mono ?_
      rintro e w1 ⟨k_, n_, A_, l_, c_, rfl, hR1, hK1⟩
      exact unhide HCONT _ _ _ (by (try simp only [e12]); rfl) hK1 ⟨_, _, _, _, _, rfl, hR1⟩ (fun h => absurd h (by decide))
    · refine ⟨fun x v => rfl, fun y1 S W hK hall hdep K hcont => ?_⟩
      have HCONT := hide hcont
      have HKW := hide hK
      have d11 := hall 11 (by decide) (hdep ⟨11, Ground.data⟩ (by simp) rfl)
      have d13 := hall 13 (by decide) (hdep ⟨13, Ground.data⟩ (by simp) rfl)
      clear hcont hK hall hdep
      obtain ⟨k11, n11, A11, l11, c11, e11, r11⟩ := d11
      obtain ⟨k13, n13, A13, l13, c13, e13, r13⟩ := d13
      rw [if_pos (by rfl)]
      simp only [e11, e13]
      go_simp
      exact unhide HCONT _ _ _ (by (try simp only [e11, e13]); rfl) ((Kept.refl No _).alloc _) (row2_new r11 r13 ((unhide HC).go (unhide HKW)).hF) (fun h => absurd h (by decide))
    · refine ⟨fun x v => rfl, fun y1 S W hK hall hdep K hcont => ?_⟩
      have HCONT := hide hcont
      have HKW := hide hK
      have d14 := hall 14 (by decide) (hdep ⟨14, Ground.data⟩ (by simp) rfl)
      clear hcont hK hall hdep
      obtain ⟨b14, e14, f14, r14⟩ := d14
      rw [if_pos (by rfl)]
      simp only [e14]
      go_simp
      refine (op2_row .and (by rfl) _ b14 d t r14 f14).mono ?_
      rintro e w1 ⟨k_, n_, A_, l_, c_, rfl, hR1, hK1⟩
      exact unhide HCONT _ _ _ (by (try simp only [e14]); rfl) hK1 ⟨_, _, _, _, _, rfl, hR1⟩ (fun h => absurd h (by decide))
    · refine ⟨fun x v => rfl, fun y1 S W hK hall hdep K hcont => ?_⟩
      have HCONT := hide hcont
      have HKW := hide hK
      clear hcont hK hall hdep
      obtain ⟨xs0, xs1, xs2⟩ := ((unhide HC).go (unhide HKW)).xs
      rw [if_pos (by rfl)]
      go_simp
      exact unhide HCONT _ _ _ rfl (Kept.refl No _) ⟨_, _, _, _, _, rfl, (unhide Ht).kept (unhide HKW) (fun _ _ _ => id)⟩ (fun h => absurd h (by decide))
    · refine ⟨fun x v => rfl, fun y1 S W hK hall hdep K hcont => ?_⟩
      have HCONT := hide hcont
      have HKW := hide hK
      have d16 := hall 16 (by decide) (hdep ⟨16, Ground.data⟩ (by simp) rfl)
      clear hcont hK hall hdep
      obtain ⟨k16, n16, A16, l16, c16, e16, r16⟩ := d16
      rw [if_pos (by rfl)]
      simp only [e16]
      go_simp
      refine (rule_F t k16 n16 A16 l16 c16 _ r16 ((unhide HC).go (unhide HKW)).hF).mono ?_
      rintro e w1 ⟨k_, n_, A_, l_, c_, rfl, hR1, hK1⟩
      exact unhide HCONT _ _ _ (by (try simp only [e16]); rfl) hK1 ⟨_, _, _, _, _, rfl, hR1⟩ (fun h => absurd h (by decide))
    · refine ⟨fun x v => rfl, fun y1 S W hK hall hdep K hcont => ?_⟩
      have HCONT := hide hcont
      have HKW := hide hK
      have d15 := hall 15 (by decide) (hdep ⟨15, Ground.data⟩ (by simp) rfl)
      have d17 := hall 17 (by decide) (hdep ⟨17, Ground.data⟩ (by simp) rfl)
      clear hcont hK hall hdep
      obtain ⟨k15, n15, A15, l15, c15, e15, r15⟩ := d15
      obtain ⟨k17, n17, A17, l17, c17, e17, r17⟩ := d17
      rw [if_pos (by rfl)]
      simp only [e15, e17]
      go_simp
      exact unhide HCONT _ _ _ (by (try simp only [e15, e17]); rfl) ((Kept.refl No _).alloc _) (row2_new r15 r17 ((unhide HC).go (unhide HKW)).hF) (fun h => absurd h (by decide))
    · refine ⟨fun x v => rfl, fun y1 S W hK hall hdep K hcont => ?_⟩
      have HCONT := hide hcont
      have HKW := hide hK
      have d18 := hall 18 (by decide) (hdep ⟨18, Ground.data⟩ (by simp) rfl)
      clear hcont hK hall hdep
      obtain ⟨b18, e18, f18, r18⟩ := d18
      rw [if_pos (by rfl)]
      simp only [e18]
      go_simp
      refine (op2_row .or (by rfl) _ b18 (.bin .and d t) t r18 f18).mono ?_
      rintro e w1 ⟨k_, n_, A_, l_, c_, rfl, hR1, hK1⟩
      exact unhide HCONT _ _ _ (by (try simp only [e18]); rfl) hK1 ⟨_, _, _, _, _, rfl, hR1⟩ (fun h => absurd h (by decide))
    · refine ⟨fun x v => rfl, fun y1 S W hK hall hdep K hcont => ?_⟩
      have HCONT := hide hcont
      have HKW := hide hK
      clear hcont hK hall hdep
      obtain ⟨dq0, dq1, dq2⟩ : _ ∧ _ ∧ _ := ⟨(((unhide HDB).kept (unhide HC).kept id).kept (unhide HKW) id).cell 0, (((unhide HDB).kept (unhide HC).kept id).kept (unhide HKW) id).cell 1, (((unhide HDB).kept (unhide HC).kept id).kept (unhide HKW) id).cell 2⟩
      rw [if_pos (by rfl)]
      go_simp
      exact unhide HCONT _ _ _ rfl (Kept.refl No _) rfl (fun h => absurd h (by decide))
    · refine ⟨fun x v => rfl, fun y1 S W hK hall hdep K hcont => ?_⟩
      have HCONT := hide hcont
      have HKW := hide hK
      have d20 := hall 20 (by decide) (hdep ⟨20, Ground.data⟩ (by simp) rfl)
      clear hcont hK hall hdep
      have e20 : y1 20 = .agg #[.int .i64 kd, .int .i64 nd, .slice Ad ld cd] := d20
      rw [if_pos (by rfl)]
      simp only [e20]
      go_simp
      refine (rule_F2 (F := FN F w) d kd nd Ad ld cd _ (((unhide HDR).kept (unhide HC).kept (fun _ _ _ => id)).kept (unhide HKW) (fun _ _ _ => id)) ((unhide HC).go (unhide HKW)).hF).mono ?_
      rintro e w1 ⟨k_, n_, A_, l_, c_, rfl, hR1, hK1⟩
      exact unhide HCONT _ _ _ (by (try simp only [e20]); rfl) hK1 ⟨_, _, _, _, _, rfl, hR1⟩ (fun h => absurd h (by decide))
    · refine ⟨fun x v => rfl, fun y1 S W hK hall hdep K hcont => ?_⟩
      have HCONT := hide hcont
      have HKW := hide hK
      clear hcont hK hall hdep
      obtain ⟨dq0, dq1, dq2⟩ : _ ∧ _ ∧ _ := ⟨(((unhide HDB).kept (unhide HC).kept id).kept (unhide HKW) id).cell 0, (((unhide HDB).kept (unhide HC).kept id).kept (unhide HKW) id).cell 1, (((unhide HDB).kept (unhide HC).kept id).kept (unhide HKW) id).cell 2⟩
      rw [if_pos (by rfl)]
      go_simp
      exact unhide HCONT _ _ _ rfl (Kept.refl No _) rfl (fun h => absurd h (by decide))
    · refine ⟨fun x v => rfl, fun y1 S W hK hall hdep K hcont => ?_⟩
      have HCONT := hide hcont
      have HKW := hide hK
      have d22 := hall 22 (by decide) (hdep ⟨22, Ground.data⟩ (by simp) rfl)
      clear hcont hK hall hdep
      have e22 : y1 22 = .agg #[.int .i64 kd, .int .i64 nd, .slice Ad ld cd] := d22
      rw [if_pos (by rfl)]
      simp only [e22]
      go_simp
      refine (rule_F2 (F := FN F w) d kd nd Ad ld cd _ (((unhide HDR).kept (unhide HC).kept (fun _ _ _ => id)).kept (unhide HKW) (fun _ _ _ => id)) ((unhide HC).go (unhide HKW)).hF).mono ?_
      rintro e w1 ⟨k_, n_, A_, l_, c_, rfl, hR1, hK1⟩
      exact unhide HCONT _ _ _ (by (try simp only [e22]); rfl) hK1 ⟨_, _, _, _, _, rfl, hR1⟩ (fun h => absurd h (by decide))
    · refine ⟨fun x v => rfl, fun y1 S W hK hall hdep K hcont => ?_⟩
      have HCONT := hide hcont
      have HKW := hide hK
      have d23 := hall 23 (by decide) (hdep ⟨23, Ground.data⟩ (by simp) rfl)
      clear hcont hK hall hdep
      obtain ⟨k23, n23, A23, l23, c23, e23, r23⟩ := d23
      rw [if_pos (by rfl)]
      simp only [e23]
      go_simp
      refine (none_F d k23 n23 A23 l23 c23 _ r23 ((unhide HC).go (unhide HKW)).hF).mono ?_
      rintro e w1 ⟨k_, n_, A_, l_, c_, rfl, hR1, hK1⟩
      exact unhide HCONT _ _ _ (by (try simp only [e23]); rfl) hK1 ⟨_, _, _, _, _, rfl, hR1⟩ (fun h => absurd h (by decide))
    · refine ⟨fun x v => rfl, fun y1 S W hK hall hdep K hcont => ?_⟩
      have HCONT := hide hcont
      have HKW := hide hK
      have d21 := hall 21 (by decide) (hdep ⟨21, Ground.data⟩ (by simp) rfl)
      have d24 := hall 24 (by decide) (hdep ⟨24, Ground.data⟩ (by simp) rfl)
      clear hcont hK hall hdep
      obtain ⟨k21, n21, A21, l21, c21, e21, r21⟩ := d21
      obtain ⟨k24, n24, A24, l24, c24, e24, r24⟩ := d24
      rw [if_pos (by rfl)]
      simp only [e21, e24]
      go_simp
      exact unhide HCONT _ _ _ (by (try simp only [e21, e24]); rfl) ((Kept.refl No _).alloc _) (row2_new r21 r24 ((unhide HC).go (unhide HKW)).hF) (fun h => absurd h (by decide))
    · refine ⟨fun x v => rfl, fun y1 S W hK hall hdep K hcont => ?_⟩
      have HCONT := hide hcont
      have HKW := hide hK
      have d25 := hall 25 (by decide) (hdep ⟨25, Ground.data⟩ (by simp) rfl)
      clear hcont hK hall hdep
      obtain ⟨b25, e25, f25, r25⟩ := d25
      rw [if_pos (by rfl)]
      simp only [e25]
      go_simp
      refine (op2_row .or (by rfl) _ b25 d (.not d) r25 f25).mono ?_
      rintro e w1 ⟨k_, n_, A_, l_, c_, rfl, hR1, hK1⟩
      exact unhide HCONT _ _ _ (by (try simp only [e25]); rfl) hK1 ⟨_, _, _, _, _, rfl, hR1⟩ (fun h => absurd h (by decide))
    · refine ⟨fun x v => rfl, fun y1 S W hK hall hdep K hcont => ?_⟩
      have HCONT := hide hcont
      have HKW := hide hK
      clear hcont hK hall hdep
      obtain ⟨xs0, xs1, xs2⟩ := ((unhide HC).go (unhide HKW)).xs
      rw [if_pos (by rfl)]
      go_simp
      exact unhide HCONT _ _ _ rfl (Kept.refl No _) ⟨_, _, _, _, _, rfl, (unhide Ht).kept (unhide HKW) (fun _ _ _ => id)⟩ (fun h => absurd h (by decide))
    · refine ⟨fun x v => rfl, fun y1 S W hK hall hdep K hcont => ?_⟩
      have HCONT := hide hcont
      have HKW := hide hK
      have d27 := hall 27 (by decide) (hdep ⟨27, Ground.data⟩ (by simp) rfl)
      clear hcont hK hall hdep
      obtain ⟨k27, n27, A27, l27, c27, e27, r27⟩ := d27
      rw [if_pos (by rfl)]
      simp only [e27]
      go_simp
      refine (rule_F t k27 n27 A27 l27 c27 _ r27 ((unhide HC).go (unhide HKW)).hF).mono ?_
      rintro e w1 ⟨k_, n_, A_, l_, c_, rfl, hR1, hK1⟩
      exact unhide HCONT _ _ _ (by (try simp only [e27]); rfl) hK1 ⟨_, _, _, _, _, rfl, hR1⟩ (fun h => absurd h (by decide))
    · refine ⟨fun x v => rfl, fun y1 S W hK hall hdep K hcont => ?_⟩
      have HCONT := hide hcont
      have HKW := hide hK
      have d26 := hall 26 (by decide) (hdep ⟨26, Ground.data⟩ (by simp) rfl)
      have d28 := hall 28 (by decide) (hdep ⟨28, Ground.data⟩ (by simp) rfl)
      clear hcont hK hall hdep
      obtain ⟨k26, n26, A26, l26, c26, e26, r26⟩ := d26
      obtain ⟨k28, n28, A28, l28, c28, e28, r28⟩ := d28
      rw [if_pos (by rfl)]
      simp only [e26, e28]
      go_simp
      exact unhide HCONT _ _ _ (by (try simp only [e26, e28]); rfl) ((Kept.refl No _).alloc _) (row2_new r26 r28 ((unhide HC).go (unhide HKW)).hF) (fun h => absurd h (by decide))
    · refine ⟨fun x v => rfl, fun y1 S W hK hall hdep K hcont => ?_⟩
      have HCONT := hide hcont
      have HKW := hide hK
      have d29 := hall 29 (by decide) (hdep ⟨29, Ground.data⟩ (by simp) rfl)
      clear hcont hK hall hdep
      obtain ⟨b29, e29, f29, r29⟩ := d29
      rw [if_pos (by rfl)]
      simp only [e29]
      go_simp
      refine (op2_row .and (by rfl) _ b29 (.bin .or d (.not d)) t r29 f29).mono ?_
      rintro e w1 ⟨k_, n_, A_, l_, c_, rfl, hR1, hK1⟩
      exact unhide HCONT _ _ _ (by (try simp only [e29]); rfl) hK1 ⟨_, _, _, _, _, rfl, hR1⟩ (fun h => absurd h (by decide))
    · refine ⟨fun x v => rfl, fun y1 S W hK hall hdep K hcont => ?_⟩
      have HCONT := hide hcont
      have HKW := hide hK
      have d9 := hall 9 (by decide) (hdep ⟨9, Ground.data⟩ (by simp) rfl)
      have d19 := hall 19 (by decide) (hdep ⟨19, Ground.data⟩ (by simp) rfl)
      have d30 := hall 30 (by decide) (hdep ⟨30, Ground.data⟩ (by simp) rfl)
      clear hcont hK hall hdep
      obtain ⟨k9, n9, A9, l9, c9, e9, r9⟩ := d9
      obtain ⟨k19, n19, A19, l19, c19, e19, r19⟩ := d19
      obtain ⟨k30, n30, A30, l30, c30, e30, r30⟩ := d30
      rw [if_pos (by rfl)]
      simp only [e9, e19, e30]
      go_simp
      exact unhide HCONT _ _ _ (by (try simp only [e9, e19, e30]); rfl) ((Kept.refl No _).alloc _) (row3_new r9 r19 r30 ((unhide HC).go (unhide HKW)).hF) (fun h => absurd h (by decide))
  · intro y1 W1 hK hx hD
    obtain ⟨bR, e31, _, r31⟩ := hx 31 (by decide)
    obtain ⟨k4, n4, A4, l4, c4, ⟨y0, y1, y2⟩, r4⟩ := r31 2 (.bin .and (.bin .or d (.not d)) t) rfl
    have y0 : W1.cell? ⟨bR, 6, none⟩ = some (.int .i64 k4) := y0
    have y1 : W1.cell? ⟨bR, 7, none⟩ = some (.int .i64 n4) := y1
    have y2 : W1.cell? ⟨bR, 8, none⟩ = some (.slice A4 l4 c4) := y2
    have HC := hide ((unhide HC).go hK)
    have H4 := hide r4
    have h0 : W1.cell? ⟨hb, 0, none⟩ = some (.int .i64 hw) := ((unhide HB).kept (unhide HC).kept id).cell 0
    simp only [e31, List.drop]
    clear hK hx hD e31 r31 r4
    obtain ⟨f0, f1, f2, z0, z1, z2, hlt⟩ := (unhide HC).zs
    go_wp2_with (go_at_call 20; refine (pick_any hw 3 (by omega) (by omega) _).mono ?_; rintro e w4 ⟨rfl, rfl⟩; rw [unhide HP])
    refine bodyPost_ret (v := .tuple #[.agg #[.int .i64 k4, .int .i64 n4, .slice A4 l4 c4], .bool tr]) (by simp [results, Tryd.results31, go_sem, z0, z1, z2]) rfl ?_
    have e : absE 2 d t = (.bin .and (.bin .or d (.not d)) t) := rfl
    rw [e]
    exact (unhide HC).madeB tr (unhide H4)

theorem abs_by (hw : Int) (hb db : Nat) (d : E) (kd nd : Int) (Ad : Option Addr) (ld cd : Nat) (w0 : World) (hH : Blk w0 hb 3 #[.int .i64 hw]) (hD : Blk w0 db 24 #[.int .i64 kd, .int .i64 nd, .slice Ad ld cd]) (hdr : Rd w0 (fun _ => True) kd nd Ad ld d.r) :
    ByOk 31 #[.pointer (some ⟨db, 0, none⟩), .pointer (some ⟨hb, 0, none⟩)] w0 (byAbs (pickF hw 3) d) := by
  intro w F k n A l c t tr _ hK hr
  obtain ⟨h1, h2⟩ := pickF_range (x := hw) (n := 3) (by omega)
  have hp : pickF hw 3 = 0 ∨ pickF hw 3 = 1 ∨ pickF hw 3 = 2 := by omega
  rcases hp with hp | hp | hp
  · exact (abs_0 hw hb db d kd nd Ad ld cd w0 w F k n A l c t tr hK hr hH hD hdr hp).mono fun _ _ h => madeB_by h (by unfold byAbs; rw [hp])
  · exact (abs_1 hw hb db d kd nd Ad ld cd w0 w F k n A l c t tr hK hr hH hD hdr hp).mono fun _ _ h => madeB_by h (by unfold byAbs; rw [hp])
  · exact (abs_2 hw hb db d kd nd Ad ld cd w0 w F k n A l c t tr hK hr hH hD hdr hp).mono fun _ _ h => madeB_by h (by unfold byAbs; rw [hp])


end Go.Proofs.YtmjmcjcckncplaaDoor
