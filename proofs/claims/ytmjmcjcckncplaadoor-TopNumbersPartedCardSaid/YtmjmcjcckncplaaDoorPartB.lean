/- TopNumbersParted: its closure (function 32), its root (function 10). -/
import Derived.Test.YtmjmcjcckncplaaDoorCtx
import Derived.Test.YtmjmcjcckncplaaDoorAll
import Derived.Test.YtmjmcjcckncplaaDoorInvS
import Derived.IntWalk
import Derived.Deep.RegionHeld3
namespace Go.Proofs.YtmjmcjcckncplaaDoor
open Go.RowKit Go.BigFrame

/-- What a closure leaves that tells by b whether it has another expression. -/
def MadeB (w : World) (F : Nat → Prop) (t : E) (b : Bool) (e : Ending) (w' : World) : Prop := ∃ k n A l c, e = .returned (.tuple #[.agg #[.int .i64 k, .int .i64 n, .slice A l c], .bool b]) ∧ Kept No w w' ∧ Rd w' (fun i => F i ∨ w.heap.size ≤ i) k n A l t.r
theorem Ctx.madeB {w W : World} {k n : Int} {A : Option Addr} {l c : Nat} {F : Nat → Prop} {k1 n1 : Int} {A1 : Option Addr} {l1 c1 : Nat} {t : E} (b : Bool) (h : Ctx w W k n A l c) (hr : Rd W (FN F w) k1 n1 A1 l1 t.r) :
    MadeB w F t b (.returned (.tuple #[.agg #[.int .i64 k1, .int .i64 n1, .slice A1 l1 c1], .bool b])) (((W.setCell ⟨w.heap.size + 1, 0, none⟩ (.int .i64 k1)).setCell ⟨w.heap.size + 1, 1, none⟩ (.int .i64 n1)).setCell ⟨w.heap.size + 1, 2, none⟩ (.slice A1 l1 c1)) :=
  ⟨k1, n1, A1, l1, c1, rfl, ((h.kept.new (b := w.heap.size + 1) (by omega) 0 _).new (b := w.heap.size + 1) (by omega) 1 _).new (b := w.heap.size + 1) (by omega) 2 _,
    (hr.kept ((((Kept.refl (One (w.heap.size + 1)) W).one 0 _).one 1 _).one 2 _) (fun j _ hj => one_ne hj.ne)).mono (fun _ _ h => h.out)⟩
theorem madeB_by {w : World} {F : Nat → Prop} {t : E} {b : Bool} {r : Option E} {e : Ending} {w' : World} (h : MadeB w F t b e w') (hr : r = if b then some t else none) : ByPost w F r e w' := by
  obtain ⟨k, n, A, l, c, rfl, hK, hR⟩ := h
  subst hr
  cases b with
  | false => exact ⟨k, n, A, l, c, rfl, hK, fun t' ht => by simp at ht⟩
  | true => exact ⟨k, n, A, l, c, rfl, hK, fun t' ht => by simp at ht; subst ht; exact hR⟩

theorem MadeB.alloc {w W : World} {F : Nat → Prop} {t : E} {b : Bool} {e : Ending} (h : MadeB w F t b e W) (o : Obj) : MadeB w F t b e (W.alloc o) := by
  obtain ⟨k, n, A, l, c, he, hK, hR⟩ := h
  exact ⟨k, n, A, l, c, he, hK.alloc o, hR.alloc o⟩

theorem row4_new {F : Nat → Prop} {W : World} {t0 t1 t2 t3 : E} {k0 n0 : Int} {A0 : Option Addr} {l0 c0 : Nat} {k1 n1 : Int} {A1 : Option Addr} {l1 c1 : Nat} {k2 n2 : Int} {A2 : Option Addr} {l2 c2 : Nat} {k3 n3 : Int} {A3 : Option Addr} {l3 c3 : Nat} (h0 : Rd W F k0 n0 A0 l0 t0.r) (h1 : Rd W F k1 n1 A1 l1 t1.r) (h2 : Rd W F k2 n2 A2 l2 t2.r) (h3 : Rd W F k3 n3 A3 l3 t3.r) (hF : ∀ i, W.heap.size ≤ i → F i) :
    Sh.ok F (W.alloc (.cells #[.int .i64 k0, .int .i64 n0, .slice A0 l0 c0, .int .i64 k1, .int .i64 n1, .slice A1 l1 c1, .int .i64 k2, .int .i64 n2, .slice A2 l2 c2, .int .i64 k3, .int .i64 n3, .slice A3 l3 c3] 24)) (.row [t0, t1, t2, t3]) (.slice (some ⟨W.heap.size, 0, none⟩) 4 4) := by
  have hB := Blk.new W 24 #[.int .i64 k0, .int .i64 n0, .slice A0 l0 c0, .int .i64 k1, .int .i64 n1, .slice A1 l1 c1, .int .i64 k2, .int .i64 n2, .slice A2 l2 c2, .int .i64 k3, .int .i64 n3, .slice A3 l3 c3]
  refine ⟨W.heap.size, rfl, hF _ (Nat.le_refl _), fun j t hj => ?_⟩
  match j, hj with
  | 0, hj => simp at hj; subst hj; exact ⟨k0, n0, A0, l0, c0, ⟨by rw [hB.cell]; rfl, by rw [hB.cell]; rfl, by rw [hB.cell]; rfl⟩, h0.alloc _⟩
  | 1, hj => simp at hj; subst hj; exact ⟨k1, n1, A1, l1, c1, ⟨by rw [hB.cell]; rfl, by rw [hB.cell]; rfl, by rw [hB.cell]; rfl⟩, h1.alloc _⟩
  | 2, hj => simp at hj; subst hj; exact ⟨k2, n2, A2, l2, c2, ⟨by rw [hB.cell]; rfl, by rw [hB.cell]; rfl, by rw [hB.cell]; rfl⟩, h2.alloc _⟩
  | 3, hj => simp at hj; subst hj; exact ⟨k3, n3, A3, l3, c3, ⟨by rw [hB.cell]; rfl, by rw [hB.cell]; rfl, by rw [hB.cell]; rfl⟩, h3.alloc _⟩
  | j + 4, hj => simp at hj

theorem row3_new {F : Nat → Prop} {W : World} {t0 t1 t2 : E} {k0 n0 : Int} {A0 : Option Addr} {l0 c0 : Nat} {k1 n1 : Int} {A1 : Option Addr} {l1 c1 : Nat} {k2 n2 : Int} {A2 : Option Addr} {l2 c2 : Nat} (h0 : Rd W F k0 n0 A0 l0 t0.r) (h1 : Rd W F k1 n1 A1 l1 t1.r) (h2 : Rd W F k2 n2 A2 l2 t2.r) (hF : ∀ i, W.heap.size ≤ i → F i) :
    Sh.ok F (W.alloc (.cells #[.int .i64 k0, .int .i64 n0, .slice A0 l0 c0, .int .i64 k1, .int .i64 n1, .slice A1 l1 c1, .int .i64 k2, .int .i64 n2, .slice A2 l2 c2] 24)) (.row [t0, t1, t2]) (.slice (some ⟨W.heap.size, 0, none⟩) 3 3) := by
  have hB := Blk.new W 24 #[.int .i64 k0, .int .i64 n0, .slice A0 l0 c0, .int .i64 k1, .int .i64 n1, .slice A1 l1 c1, .int .i64 k2, .int .i64 n2, .slice A2 l2 c2]
  refine ⟨W.heap.size, rfl, hF _ (Nat.le_refl _), fun j t hj => ?_⟩
  match j, hj with
  | 0, hj => simp at hj; subst hj; exact ⟨k0, n0, A0, l0, c0, ⟨by rw [hB.cell]; rfl, by rw [hB.cell]; rfl, by rw [hB.cell]; rfl⟩, h0.alloc _⟩
  | 1, hj => simp at hj; subst hj; exact ⟨k1, n1, A1, l1, c1, ⟨by rw [hB.cell]; rfl, by rw [hB.cell]; rfl, by rw [hB.cell]; rfl⟩, h1.alloc _⟩
  | 2, hj => simp at hj; subst hj; exact ⟨k2, n2, A2, l2, c2, ⟨by rw [hB.cell]; rfl, by rw [hB.cell]; rfl, by rw [hB.cell]; rfl⟩, h2.alloc _⟩
  | j + 3, hj => simp at hj

set_option maxRecDepth 100000 in
set_option maxHeartbeats 4000000 in
theorem part_num0 (hw bv : Int) (hb1 hb2 : Nat) (w0 w : World) (F : Nat → Prop) (k n : Int) (A : Option Addr) (l c : Nat) (m d : Int) (tr : Bool) (hK0 : Kept No w0 w) (hH1 : Blk w0 hb1 3 #[.int .i64 hw]) (hH2 : Blk w0 hb2 3 #[.int .i64 bv]) (hn0 : 0 ≤ n) (hnm : n ≤ 2147483647) (hm : pickF bv (n + 1) = m) (hd : pickF bv 20 = d - 1) (hp : pickF hw 7 = 0) (hk : k = 1) :
    Calls Tryd.prog 32 #[.agg #[.int .i64 k, .int .i64 n, .slice A l c], .bool tr, .pointer (some ⟨hb1, 0, none⟩), .pointer (some ⟨hb2, 0, none⟩)] w (MadeB w F (numE 0 m d n (.num n)) true) := by
  subst hk
  have hB1 := hH1.kept hK0 id
  have hB2 := hH2.kept hK0 id
  have h1 : w.cell? ⟨hb1, 0, none⟩ = some (.int .i64 hw) := hB1.cell 0
  have h2 : w.cell? ⟨hb2, 0, none⟩ = some (.int .i64 bv) := hB2.cell 0
  have hbw1 := hB1.lt
  have hbw2 := hB2.lt
  have HB1 := hide hB1
  have HB2 := hide hB2
  have HP := hide hp
  have HM := hide hm
  have HD := hide hd
  have hm0 : 0 ≤ m ∧ m ≤ n := by have := pickF_range (x := bv) (n := n + 1) (by omega); omega
  have hd0 : 1 ≤ d ∧ d ≤ 20 := by have := pickF_range (x := bv) (n := 20) (by omega); omega
  obtain ⟨hm1, hm2⟩ := hm0
  obtain ⟨hd1, hd2⟩ := hd0
  have hn1 : (1 : Int) ≤ n + 1 := by omega
  have hn2 : n + 1 ≤ 9223372036854775807 := by omega
  have EW1 := hide (show IntKind.i64.wrap (n + 1) = n + 1 from IntWalk.i64_in _ (by omega))
  have EW2 := hide (show IntKind.i64.wrap d = d from IntWalk.i64_in _ (by omega))
  have EW3 := hide (show IntKind.i64.wrap (n - m) = n - m from IntWalk.i64_in _ (by omega))
  have EW4 := hide (show IntKind.i64.wrap (n + d) = n + d from IntWalk.i64_in _ (by omega))
  have htd : 0 ≤ n.tdiv d ∧ n.tdiv d ≤ n := by
    rw [Int.tdiv_eq_ediv_of_nonneg hn0]
    exact ⟨Int.ediv_nonneg hn0 (by omega), Int.ediv_le_self _ hn0⟩
  have htm : 0 ≤ n.tmod d ∧ n.tmod d ≤ 20 := by
    rw [Int.tmod_eq_emod_of_nonneg hn0]
    have h3 := Int.emod_nonneg n (show d ≠ 0 by omega)
    have h4 := Int.emod_lt_of_pos n (show 0 < d by omega)
    omega
  have EW5 := hide (show IntKind.i64.wrap (n.tdiv d) = n.tdiv d from IntWalk.i64_in _ (by omega))
  have EW6 := hide (show IntKind.i64.wrap (n.tmod d) = n.tmod d from IntWalk.i64_in _ (by omega))
  clear htd htm
  have HN1 := hide hn1
  have HN2 := hide hn2
  have hd0 : ¬ d = 0 := by omega
  have hd3 : (d == 0) = false := by rw [beq_eq_false_iff_ne]; exact hd0
  clear hK0 hH1 hH2 hp hm hd hB1 hB2
  go_enter Tryd.func32, Tryd.ntmps32
  go_wp2_with fail
  have HC := hide (Ctx.start w (1) n A l c)
  generalize (w.alloc (.cells #[.int .i64 (1), .int .i64 n, .slice A l c] 24)).alloc (.cells #[.int .i64 0, .int .i64 0, .slice none 0 0] 24) = V at HC ⊢
  refine wp_region_inv 4 [] (by kernel_rfl) (by kernel_rfl) (fun y1 => { tmps := #[Value.agg #[Value.int IntKind.i64 1, Value.int IntKind.i64 n, Value.slice A l c], Value.bool tr, Value.pointer (some { block := hb1, off := 0 }), Value.pointer (some { block := hb2, off := 0 }), Value.pointer (some { block := w.heap.size, off := 0 }), undef, Value.pointer (some { block := w.heap.size + 1, off := 0 }), Value.bool false, undef, undef, undef, undef, y1 0, y1 1, y1 2, y1 3, undef, undef, undef, undef, undef, undef, undef, undef, undef, undef, undef, undef, undef, undef, undef, undef, undef, undef, undef, undef, undef, undef, undef, undef, undef, undef, undef, undef, undef, undef, undef, undef, undef, undef, undef, undef, undef, undef, undef, undef, undef, undef, undef, undef, undef, undef, undef, undef, undef, undef, undef, undef, undef, undef, undef, undef, undef, undef, undef, undef, undef, undef, undef, undef, undef, undef, undef], defers := [] }) (fun _ => undef) (fun i v W => Sh.ok (FN F w) W (([Sh.val (.pointer (some ⟨w.heap.size, 1, none⟩)), Sh.val (.int .i64 n), Sh.val (.int .i64 hw), Sh.val (.int .i64 0)] : List Sh).getD i .any) v) (fun i v W W' hK h => Sh.kept hK _ _ h) ?_ ?_
  · refine ⟨?_, ?_, ?_, ?_, trivial⟩
    · refine ⟨fun x v => rfl, fun y1 S W hK hall hdep K hcont => ?_⟩
      have HCONT := hide hcont
      have HKW := hide hK
      clear hcont hK hall hdep
      rw [if_pos (by rfl)]
      go_simp
      exact unhide HCONT _ _ _ rfl (Kept.refl No _) rfl (fun h => absurd h (by decide))
    · refine ⟨fun x v => rfl, fun y1 S W hK hall hdep K hcont => ?_⟩
      have HCONT := hide hcont
      have HKW := hide hK
      have d0 := hall 0 (by decide) (hdep ⟨0, Ground.data⟩ (by simp) rfl)
      clear hcont hK hall hdep
      have e0 : y1 0 = .pointer (some ⟨w.heap.size, 1, none⟩) := d0
      obtain ⟨xs0, xs1, xs2⟩ := ((unhide HC).go (unhide HKW)).xs
      rw [if_pos (by rfl)]
      simp only [e0]
      go_simp
      exact unhide HCONT _ _ _ (by (try simp only [e0]); rfl) (Kept.refl No _) rfl (fun h => absurd h (by decide))
    · refine ⟨fun x v => rfl, fun y1 S W hK hall hdep K hcont => ?_⟩
      have HCONT := hide hcont
      have HKW := hide hK
      clear hcont hK hall hdep
      have hq := (((unhide HB1).kept (unhide HC).kept id).kept (unhide HKW) id).cell 0
      rw [if_pos (by rfl)]
      go_simp
      exact unhide HCONT _ _ _ rfl (Kept.refl No _) rfl (fun h => absurd h (by decide))
    · refine ⟨fun x v => rfl, fun y1 S W hK hall hdep K hcont => ?_⟩
      have HCONT := hide hcont
      have HKW := hide hK
      have d2 := hall 2 (by decide) (hdep ⟨2, Ground.data⟩ (by simp) rfl)
      clear hcont hK hall hdep
      have e2 : y1 2 = .int .i64 hw := d2
      rw [if_pos (by rfl)]
      simp only [e2]
      go_simp
      refine (pick_any hw 7 (by omega) (by omega) _).mono ?_
      rintro e w4 ⟨rfl, rfl⟩
      rw [unhide HP]
      exact unhide HCONT _ _ _ (by (try simp only [e2]); rfl) (Kept.refl No _) rfl (fun h => absurd h (by decide))
  · intro y1 W1 hK hx hD
    have en : y1 1 = .int .i64 n := hx 1 (by decide)
    have ep : y1 3 = .int .i64 0 := hx 3 (by decide)
    have hvz := (unhide HC).z.lt
    have HC := hide ((unhide HC).go hK)
    simp only [en, ep, List.drop]
    clear hK hx hD hvz en ep
    go_wp2_with fail
    refine wp_region_inv 8 [] (by kernel_rfl) (by kernel_rfl) (fun y2 => { tmps := #[Value.agg #[Value.int IntKind.i64 1, Value.int IntKind.i64 n, Value.slice A l c], Value.bool tr, Value.pointer (some { block := hb1, off := 0 }), Value.pointer (some { block := hb2, off := 0 }), Value.pointer (some { block := w.heap.size, off := 0 }), undef, Value.pointer (some { block := w.heap.size + 1, off := 0 }), Value.bool false, Value.int IntKind.i64 n, Value.int IntKind.i64 0, y2 7, undef, y1 0, Value.int IntKind.i64 n, y1 2, Value.int IntKind.i64 0, y2 0, y2 1, y2 2, y2 3, y2 4, y2 5, y2 6, undef, undef, undef, undef, undef, undef, undef, undef, undef, undef, undef, undef, undef, undef, undef, undef, undef, undef, undef, undef, undef, undef, undef, undef, undef, undef, undef, undef, undef, undef, undef, undef, undef, undef, undef, undef, undef, undef, undef, undef, undef, undef, undef, undef, undef, undef, undef, undef, undef, undef, undef, undef, undef, undef, undef, undef, undef, undef, undef, undef], defers := [] }) (fun _ => undef) (fun i v W => Sh.ok (FN F w) W (([Sh.val (.int .i64 bv), Sh.val (Value.int IntKind.i64 n), Sh.val (.int .i64 (n + 1)), Sh.val (.int .i64 m), Sh.val (.int .i64 bv), Sh.val (.int .i64 (d - 1)), Sh.val (.int .i64 d), Sh.val (.int .i64 m)] : List Sh).getD i .any) v) (fun i v W W' hK h => Sh.kept hK _ _ h) ?_ ?_
    · refine ⟨?_, ?_, ?_, ?_, ?_, ?_, ?_, ?_, trivial⟩
      · refine ⟨fun x v => rfl, fun y2 S W hK hall hdep K hcont => ?_⟩
        have HCONT := hide hcont
        have HKW := hide hK
        clear hcont hK hall hdep
        have hq := (((unhide HB2).kept (unhide HC).kept id).kept (unhide HKW) id).cell 0
        rw [if_pos (by rfl)]
        go_simp
        exact unhide HCONT _ _ _ rfl (Kept.refl No _) rfl (fun h => absurd h (by decide))
      · refine ⟨fun x v => rfl, fun y2 S W hK hall hdep K hcont => ?_⟩
        have HCONT := hide hcont
        have HKW := hide hK
        clear hcont hK hall hdep
        rw [if_pos (by rfl)]
        go_simp
        exact unhide HCONT _ _ _ rfl (Kept.refl No _) rfl (fun h => absurd h (by decide))
      · refine ⟨fun x v => rfl, fun y2 S W hK hall hdep K hcont => ?_⟩
        have HCONT := hide hcont
        have HKW := hide hK
        have d1 := hall 1 (by decide) (hdep ⟨1, Ground.data⟩ (by simp) rfl)
        clear hcont hK hall hdep
        have e1 : y2 1 = Value.int IntKind.i64 n := d1
        rw [if_pos (by rfl)]
        simp only [e1]
        go_simp
        rw [unhide EW1]
        exact unhide HCONT _ _ _ (by (try simp only [e1]); rfl) (Kept.refl No _) rfl (fun h => absurd h (by decide))
      · refine ⟨fun x v => rfl, fun y2 S W hK hall hdep K hcont => ?_⟩
        have HCONT := hide hcont
        have HKW := hide hK
        have d0 := hall 0 (by decide) (hdep ⟨0, Ground.data⟩ (by simp) rfl)
        have d2 := hall 2 (by decide) (hdep ⟨2, Ground.data⟩ (by simp) rfl)
        clear hcont hK hall hdep
        have e0 : y2 0 = .int .i64 bv := d0
        have e2 : y2 2 = .int .i64 (n + 1) := d2
        rw [if_pos (by rfl)]
        simp only [e0, e2]
        go_simp
        refine (pick_any bv (n + 1) (unhide HN1) (unhide HN2) _).mono ?_
        rintro e w4 ⟨rfl, rfl⟩
        rw [unhide HM]
        exact unhide HCONT _ _ _ (by (try simp only [e0, e2]); rfl) (Kept.refl No _) rfl (fun h => absurd h (by decide))
      · refine ⟨fun x v => rfl, fun y2 S W hK hall hdep K hcont => ?_⟩
        have HCONT := hide hcont
        have HKW := hide hK
        clear hcont hK hall hdep
        have hq := (((unhide HB2).kept (unhide HC).kept id).kept (unhide HKW) id).cell 0
        rw [if_pos (by rfl)]
        go_simp
        exact unhide HCONT _ _ _ rfl (Kept.refl No _) rfl (fun h => absurd h (by decide))
      · refine ⟨fun x v => rfl, fun y2 S W hK hall hdep K hcont => ?_⟩
        have HCONT := hide hcont
        have HKW := hide hK
        have d4 := hall 4 (by decide) (hdep ⟨4, Ground.data⟩ (by simp) rfl)
        clear hcont hK hall hdep
        have e4 : y2 4 = .int .i64 bv := d4
        rw [if_pos (by rfl)]
        simp only [e4]
        go_simp
        refine (pick_any bv 20 (by omega) (by omega) _).mono ?_
        rintro e w4 ⟨rfl, rfl⟩
        rw [unhide HD]
        exact unhide HCONT _ _ _ (by (try simp only [e4]); rfl) (Kept.refl No _) rfl (fun h => absurd h (by decide))
      · refine ⟨fun x v => rfl, fun y2 S W hK hall hdep K hcont => ?_⟩
        have HCONT := hide hcont
        have HKW := hide hK
        have d5 := hall 5 (by decide) (hdep ⟨5, Ground.data⟩ (by simp) rfl)
        clear hcont hK hall hdep
        have e5 : y2 5 = .int .i64 (d - 1) := d5
        rw [if_pos (by rfl)]
        simp only [e5]
        go_simp
        rw [unhide EW2]
        exact unhide HCONT _ _ _ (by (try simp only [e5]); rfl) (Kept.refl No _) rfl (fun h => absurd h (by decide))
      · refine ⟨fun x v => rfl, fun y2 S W hK hall hdep K hcont => ?_⟩
        have HCONT := hide hcont
        have HKW := hide hK
        have d3 := hall 3 (by decide) (hdep ⟨3, Ground.data⟩ (by simp) rfl)
        clear hcont hK hall hdep
        have e3 : y2 3 = .int .i64 m := d3
        rw [if_pos (by rfl)]
        simp only [e3]
        go_simp
        exact unhide HCONT _ _ _ (by (try simp only [e3]); rfl) (Kept.refl No _) rfl (fun h => absurd h (by decide))
    · intro y2 W2 hK hx hD
      have ed : y2 6 = .int .i64 d := hx 6 (by decide)
      have em : y2 7 = .int .i64 m := hx 7 (by decide)
      have hvz := (unhide HC).z.lt
      have HC := hide ((unhide HC).go hK)
      simp only [ed, em, List.drop]
      clear hK hx hD hvz ed em
      go_wp2_with fail
      refine wp_region_store 38 37 (w.heap.size + 1) (FN F w) (.bin .add (.num m) (.num (n - m))) [Sh.val (.int .i64 m), Sh.tree (.num m), Sh.val (.int .i64 n), Sh.val (.int .i64 m), Sh.val (.int .i64 (n - m)), Sh.tree (.num (n - m)), Sh.row [(.num m), (.num (n - m))], Sh.tree (.bin .add (.num m) (.num (n - m))), Sh.val (.int .i64 n), Sh.val (.int .i64 d), Sh.val (.int .i64 (n + d)), Sh.tree (.num (n + d)), Sh.val (.int .i64 d), Sh.tree (.num d), Sh.row [(.num (n + d)), (.num d)], Sh.tree (.bin .sub (.num (n + d)) (.num d)), Sh.val (.int .i64 n), Sh.val (.int .i64 d), Sh.val (.int .i64 (n.tdiv d)), Sh.tree (.num (n.tdiv d)), Sh.val (.int .i64 d), Sh.tree (.num d), Sh.row [(.num (n.tdiv d)), (.num d)], Sh.tree (.bin .mul (.num (n.tdiv d)) (.num d)), Sh.val (.int .i64 n), Sh.val (.int .i64 d), Sh.val (.int .i64 (n.tmod d)), Sh.tree (.num (n.tmod d)), Sh.row [(.bin .mul (.num (n.tdiv d)) (.num d)), (.num (n.tmod d))], Sh.tree (.bin .add (.bin .mul (.num (n.tdiv d)) (.num d)) (.num (n.tmod d))), Sh.row [(.bin .add (.num m) (.num (n - m))), (.bin .sub (.num (n + d)) (.num d)), (.bin .add (.bin .mul (.num (n.tdiv d)) (.num d)) (.num (n.tmod d)))], Sh.val (.int .i64 0), Sh.addr (.bin .add (.num m) (.num (n - m))), Sh.tree (.bin .add (.num m) (.num (n - m))), Sh.val (.pointer (some ⟨w.heap.size, 0, none⟩)), Sh.val (.int .i64 1), Sh.val (.bool true), Sh.any] (by decide) (fun _ h => h.ne) (unhide HC).z (by kernel_rfl) (by kernel_rfl) (fun y9 => { tmps := #[Value.agg #[Value.int IntKind.i64 1, Value.int IntKind.i64 n, Value.slice A l c], Value.bool tr, Value.pointer (some { block := hb1, off := 0 }), Value.pointer (some { block := hb2, off := 0 }), Value.pointer (some { block := w.heap.size, off := 0 }), undef, Value.pointer (some { block := w.heap.size + 1, off := 0 }), Value.bool false, Value.int IntKind.i64 n, Value.int IntKind.i64 0, Value.int IntKind.i64 m, Value.int IntKind.i64 d, y1 0, Value.int IntKind.i64 n, y1 2, Value.int IntKind.i64 0, y2 0, y2 1, y2 2, y2 3, y2 4, y2 5, Value.int IntKind.i64 d, Value.int IntKind.i64 0, Value.bool false, undef, undef, undef, undef, undef, undef, undef, undef, undef, undef, undef, undef, undef, undef, undef, undef, undef, undef, undef, undef, undef, y9 0, y9 1, y9 2, y9 3, y9 4, y9 5, y9 6, y9 7, y9 8, y9 9, y9 10, y9 11, y9 12, y9 13, y9 14, y9 15, y9 16, y9 17, y9 18, y9 19, y9 20, y9 21, y9 22, y9 23, y9 24, y9 25, y9 26, y9 27, y9 28, y9 29, y9 30, y9 31, y9 32, y9 33, y9 34, y9 35, y9 36], defers := [] }) (fun _ => undef) ?_ ?_
      · refine ⟨?_, ?_, ?_, ?_, ?_, ?_, ?_, ?_, ?_, ?_, ?_, ?_, ?_, ?_, ?_, ?_, ?_, ?_, ?_, ?_, ?_, ?_, ?_, ?_, ?_, ?_, ?_, ?_, ?_, ?_, ?_, ?_, ?_, ?_, ?_, ?_, ?_, ?_, trivial⟩
        · refine ⟨fun x v => rfl, fun y9 S W hK hJ hSi hall hdep K hcont0 => ?_⟩
          have hcont := hcont0
          clear hcont0
          rw [if_neg (by decide)] at hcont
          have HCONT := hide hcont
          have HKW := hide hK
          clear hcont hK hall hdep hJ hSi
          rw [if_pos (by rfl)]
          go_simp
          exact unhide HCONT _ _ _ rfl (Kept.refl No _) rfl
        · refine ⟨fun x v => rfl, fun y9 S W hK hJ hSi hall hdep K hcont0 => ?_⟩
          have hcont := hcont0
          clear hcont0
          rw [if_neg (by decide)] at hcont
          have HCONT := hide hcont
          have HKW := hide hK
          have d0 := hall 0 (by decide) (by decide) (hdep ⟨0, Ground.data⟩ (by simp) rfl)
          clear hcont hK hall hdep hJ hSi
          have e0 : y9 0 = .int .i64 m := d0
          rw [if_pos (by rfl)]
          simp only [e0]
          go_simp
          refine (num_any _ _).mono ?_
          rintro e w1 ⟨rfl, hK1⟩
          exact unhide HCONT _ _ _ (by (try simp only [e0]); rfl) hK1 ⟨_, _, _, _, _, rfl, num_rd _ _ _⟩
        · refine ⟨fun x v => rfl, fun y9 S W hK hJ hSi hall hdep K hcont0 => ?_⟩
          have hcont := hcont0
          clear hcont0
          rw [if_neg (by decide)] at hcont
          have HCONT := hide hcont
          have HKW := hide hK
          clear hcont hK hall hdep hJ hSi
          rw [if_pos (by rfl)]
          go_simp
          exact unhide HCONT _ _ _ rfl (Kept.refl No _) rfl
        · refine ⟨fun x v => rfl, fun y9 S W hK hJ hSi hall hdep K hcont0 => ?_⟩
          have hcont := hcont0
          clear hcont0
          rw [if_neg (by decide)] at hcont
          have HCONT := hide hcont
          have HKW := hide hK
          clear hcont hK hall hdep hJ hSi
          rw [if_pos (by rfl)]
          go_simp
          exact unhide HCONT _ _ _ rfl (Kept.refl No _) rfl
        · refine ⟨fun x v => rfl, fun y9 S W hK hJ hSi hall hdep K hcont0 => ?_⟩
          have hcont := hcont0
          clear hcont0
          rw [if_neg (by decide)] at hcont
          have HCONT := hide hcont
          have HKW := hide hK
          have d2 := hall 2 (by decide) (by decide) (hdep ⟨2, Ground.data⟩ (by simp) rfl)
          have d3 := hall 3 (by decide) (by decide) (hdep ⟨3, Ground.data⟩ (by simp) rfl)
          clear hcont hK hall hdep hJ hSi
          have e2 : y9 2 = .int .i64 n := d2
          have e3 : y9 3 = .int .i64 m := d3
          rw [if_pos (by rfl)]
          simp only [e2, e3]
          go_simp
          rw [unhide EW3]
          exact unhide HCONT _ _ _ (by (try simp only [e2, e3]); rfl) (Kept.refl No _) rfl
        · refine ⟨fun x v => rfl, fun y9 S W hK hJ hSi hall hdep K hcont0 => ?_⟩
          have hcont := hcont0
          clear hcont0
          rw [if_neg (by decide)] at hcont
          have HCONT := hide hcont
          have HKW := hide hK
          have d4 := hall 4 (by decide) (by decide) (hdep ⟨4, Ground.data⟩ (by simp) rfl)
          clear hcont hK hall hdep hJ hSi
          have e4 : y9 4 = .int .i64 (n - m) := d4
          rw [if_pos (by rfl)]
          simp only [e4]
          go_simp
          refine (num_any _ _).mono ?_
          rintro e w1 ⟨rfl, hK1⟩
          exact unhide HCONT _ _ _ (by (try simp only [e4]); rfl) hK1 ⟨_, _, _, _, _, rfl, num_rd _ _ _⟩
        · refine ⟨fun x v => rfl, fun y9 S W hK hJ hSi hall hdep K hcont0 => ?_⟩
          have hcont := hcont0
          clear hcont0
          rw [if_neg (by decide)] at hcont
          have HCONT := hide hcont
          have HKW := hide hK
          have d1 := hall 1 (by decide) (by decide) (hdep ⟨1, Ground.data⟩ (by simp) rfl)
          have d5 := hall 5 (by decide) (by decide) (hdep ⟨5, Ground.data⟩ (by simp) rfl)
          clear hcont hK hall hdep hJ hSi
          obtain ⟨k1, n1, A1, l1, c1, e1, r1⟩ := d1
          obtain ⟨k5, n5, A5, l5, c5, e5, r5⟩ := d5
          rw [if_pos (by rfl)]
          simp only [e1, e5]
          go_simp
          exact unhide HCONT _ _ _ (by (try simp only [e1, e5]); rfl) ((Kept.refl No _).alloc _) (row2_new r1 r5 (fun i hi => .inr (by have h1_ := (unhide HC).z.lt; have h2_ := (unhide HKW).size; omega)))
        · refine ⟨fun x v => rfl, fun y9 S W hK hJ hSi hall hdep K hcont0 => ?_⟩
          have hcont := hcont0
          clear hcont0
          rw [if_neg (by decide)] at hcont
          have HCONT := hide hcont
          have HKW := hide hK
          have d6 := hall 6 (by decide) (by decide) (hdep ⟨6, Ground.data⟩ (by simp) rfl)
          clear hcont hK hall hdep hJ hSi
          obtain ⟨b6, e6, f6, r6⟩ := d6
          rw [if_pos (by rfl)]
          simp only [e6]
          go_simp
          refine (op2_row .add (by rfl) _ b6 (.num m) (.num (n - m)) r6 f6).mono ?_
          rintro e w1 ⟨k_, n_, A_, l_, c_, rfl, hR1, hK1⟩
          exact unhide HCONT _ _ _ (by (try simp only [e6]); rfl) hK1 ⟨_, _, _, _, _, rfl, hR1⟩
        · refine ⟨fun x v => rfl, fun y9 S W hK hJ hSi hall hdep K hcont0 => ?_⟩
          have hcont := hcont0
          clear hcont0
          rw [if_neg (by decide)] at hcont
          have HCONT := hide hcont
          have HKW := hide hK
          clear hcont hK hall hdep hJ hSi
          rw [if_pos (by rfl)]
          go_simp
          exact unhide HCONT _ _ _ rfl (Kept.refl No _) rfl
        · refine ⟨fun x v => rfl, fun y9 S W hK hJ hSi hall hdep K hcont0 => ?_⟩
          have hcont := hcont0
          clear hcont0
          rw [if_neg (by decide)] at hcont
          have HCONT := hide hcont
          have HKW := hide hK
          clear hcont hK hall hdep hJ hSi
          rw [if_pos (by rfl)]
          go_simp
          exact unhide HCONT _ _ _ rfl (Kept.refl No _) rfl
        · refine ⟨fun x v => rfl, fun y9 S W hK hJ hSi hall hdep K hcont0 => ?_⟩
          have hcont := hcont0
          clear hcont0
          rw [if_neg (by decide)] at hcont
          have HCONT := hide hcont
          have HKW := hide hK
          have d8 := hall 8 (by decide) (by decide) (hdep ⟨8, Ground.data⟩ (by simp) rfl)
          have d9 := hall 9 (by decide) (by decide) (hdep ⟨9, Ground.data⟩ (by simp) rfl)
          clear hcont hK hall hdep hJ hSi
          have e8 : y9 8 = .int .i64 n := d8
          have e9 : y9 9 = .int .i64 d := d9
          rw [if_pos (by rfl)]
          simp only [e8, e9]
          go_simp
          rw [unhide EW4]
          exact unhide HCONT _ _ _ (by (try simp only [e8, e9]); rfl) (Kept.refl No _) rfl
        · refine ⟨fun x v => rfl, fun y9 S W hK hJ hSi hall hdep K hcont0 => ?_⟩
          have hcont := hcont0
          clear hcont0
          rw [if_neg (by decide)] at hcont
          have HCONT := hide hcont
          have HKW := hide hK
          have d10 := hall 10 (by decide) (by decide) (hdep ⟨10, Ground.data⟩ (by simp) rfl)
          clear hcont hK hall hdep hJ hSi
          have e10 : y9 10 = .int .i64 (n + d) := d10
          rw [if_pos (by rfl)]
          simp only [e10]
          go_simp
          refine (num_any _ _).mono ?_
          rintro e w1 ⟨rfl, hK1⟩
          exact unhide HCONT _ _ _ (by (try simp only [e10]); rfl) hK1 ⟨_, _, _, _, _, rfl, num_rd _ _ _⟩
        · refine ⟨fun x v => rfl, fun y9 S W hK hJ hSi hall hdep K hcont0 => ?_⟩
          have hcont := hcont0
          clear hcont0
          rw [if_neg (by decide)] at hcont
          have HCONT := hide hcont
          have HKW := hide hK
          clear hcont hK hall hdep hJ hSi
          rw [if_pos (by rfl)]
          go_simp
          exact unhide HCONT _ _ _ rfl (Kept.refl No _) rfl
        · refine ⟨fun x v => rfl, fun y9 S W hK hJ hSi hall hdep K hcont0 => ?_⟩
          have hcont := hcont0
          clear hcont0
          rw [if_neg (by decide)] at hcont
          have HCONT := hide hcont
          have HKW := hide hK
          have d12 := hall 12 (by decide) (by decide) (hdep ⟨12, Ground.data⟩ (by simp) rfl)
          clear hcont hK hall hdep hJ hSi
          have e12 : y9 12 = .int .i64 d := d12
          rw [if_pos (by rfl)]
          simp only [e12]
          go_simp
          refine (num_any _ _).mono ?_
          rintro e w1 ⟨rfl, hK1⟩
          exact unhide HCONT _ _ _ (by (try simp only [e12]); rfl) hK1 ⟨_, _, _, _, _, rfl, num_rd _ _ _⟩
        · refine ⟨fun x v => rfl, fun y9 S W hK hJ hSi hall hdep K hcont0 => ?_⟩
          have hcont := hcont0
          clear hcont0
          rw [if_neg (by decide)] at hcont
          have HCONT := hide hcont
          have HKW := hide hK
          have d11 := hall 11 (by decide) (by decide) (hdep ⟨11, Ground.data⟩ (by simp) rfl)
          have d13 := hall 13 (by decide) (by decide) (hdep ⟨13, Ground.data⟩ (by simp) rfl)
          clear hcont hK hall hdep hJ hSi
          obtain ⟨k11, n11, A11, l11, c11, e11, r11⟩ := d11
          obtain ⟨k13, n13, A13, l13, c13, e13, r13⟩ := d13
          rw [if_pos (by rfl)]
          simp only [e11, e13]
          go_simp
          exact unhide HCONT _ _ _ (by (try simp only [e11, e13]); rfl) ((Kept.refl No _).alloc _) (row2_new r11 r13 (fun i hi => .inr (by have h1_ := (unhide HC).z.lt; have h2_ := (unhide HKW).size; omega)))
        · refine ⟨fun x v => rfl, fun y9 S W hK hJ hSi hall hdep K hcont0 => ?_⟩
          have hcont := hcont0
          clear hcont0
          rw [if_neg (by decide)] at hcont
          have HCONT := hide hcont
          have HKW := hide hK
          have d14 := hall 14 (by decide) (by decide) (hdep ⟨14, Ground.data⟩ (by simp) rfl)
          clear hcont hK hall hdep hJ hSi
          obtain ⟨b14, e14, f14, r14⟩ := d14
          rw [if_pos (by rfl)]
          simp only [e14]
          go_simp
          refine (op2_row .sub (by rfl) _ b14 (.num (n + d)) (.num d) r14 f14).mono ?_
          rintro e w1 ⟨k_, n_, A_, l_, c_, rfl, hR1, hK1⟩
          exact unhide HCONT _ _ _ (by (try simp only [e14]); rfl) hK1 ⟨_, _, _, _, _, rfl, hR1⟩
        · refine ⟨fun x v => rfl, fun y9 S W hK hJ hSi hall hdep K hcont0 => ?_⟩
          have hcont := hcont0
          clear hcont0
          rw [if_neg (by decide)] at hcont
          have HCONT := hide hcont
          have HKW := hide hK
          clear hcont hK hall hdep hJ hSi
          rw [if_pos (by rfl)]
          go_simp
          exact unhide HCONT _ _ _ rfl (Kept.refl No _) rfl
        · refine ⟨fun x v => rfl, fun y9 S W hK hJ hSi hall hdep K hcont0 => ?_⟩
          have hcont := hcont0
          clear hcont0
          rw [if_neg (by decide)] at hcont
          have HCONT := hide hcont
          have HKW := hide hK
          clear hcont hK hall hdep hJ hSi
          rw [if_pos (by rfl)]
          go_simp
          exact unhide HCONT _ _ _ rfl (Kept.refl No _) rfl
        · refine ⟨fun x v => rfl, fun y9 S W hK hJ hSi hall hdep K hcont0 => ?_⟩
          have hcont := hcont0
          clear hcont0
          rw [if_neg (by decide)] at hcont
          have HCONT := hide hcont
          have HKW := hide hK
          have d16 := hall 16 (by decide) (by decide) (hdep ⟨16, Ground.data⟩ (by simp) rfl)
          have d17 := hall 17 (by decide) (by decide) (hdep ⟨17, Ground.data⟩ (by simp) rfl)
          clear hcont hK hall hdep hJ hSi
          have e16 : y9 16 = .int .i64 n := d16
          have e17 : y9 17 = .int .i64 d := d17
          rw [if_pos (by rfl)]
          simp only [e16, e17]
          go_simp
          rw [unhide EW5]
          exact unhide HCONT _ _ _ (by (try simp only [e16, e17]); rfl) (Kept.refl No _) rfl
        · refine ⟨fun x v => rfl, fun y9 S W hK hJ hSi hall hdep K hcont0 => ?_⟩
          have hcont := hcont0
          clear hcont0
          rw [if_neg (by decide)] at hcont
          have HCONT := hide hcont
          have HKW := hide hK
          have d18 := hall 18 (by decide) (by decide) (hdep ⟨18, Ground.data⟩ (by simp) rfl)
          clear hcont hK hall hdep hJ hSi
          have e18 : y9 18 = .int .i64 (n.tdiv d) := d18
          rw [if_pos (by rfl)]
          simp only [e18]
          go_simp
          refine (num_any _ _).mono ?_
          rintro e w1 ⟨rfl, hK1⟩
          exact unhide HCONT _ _ _ (by (try simp only [e18]); rfl) hK1 ⟨_, _, _, _, _, rfl, num_rd _ _ _⟩
        · refine ⟨fun x v => rfl, fun y9 S W hK hJ hSi hall hdep K hcont0 => ?_⟩
          have hcont := hcont0
          clear hcont0
          rw [if_neg (by decide)] at hcont
          have HCONT := hide hcont
          have HKW := hide hK
          clear hcont hK hall hdep hJ hSi
          rw [if_pos (by rfl)]
          go_simp
          exact unhide HCONT _ _ _ rfl (Kept.refl No _) rfl
        · refine ⟨fun x v => rfl, fun y9 S W hK hJ hSi hall hdep K hcont0 => ?_⟩
          have hcont := hcont0
          clear hcont0
          rw [if_neg (by decide)] at hcont
          have HCONT := hide hcont
          have HKW := hide hK
          have d20 := hall 20 (by decide) (by decide) (hdep ⟨20, Ground.data⟩ (by simp) rfl)
          clear hcont hK hall hdep hJ hSi
          have e20 : y9 20 = .int .i64 d := d20
          rw [if_pos (by rfl)]
          simp only [e20]
          go_simp
          refine (num_any _ _).mono ?_
          rintro e w1 ⟨rfl, hK1⟩
          exact unhide HCONT _ _ _ (by (try simp only [e20]); rfl) hK1 ⟨_, _, _, _, _, rfl, num_rd _ _ _⟩
        · refine ⟨fun x v => rfl, fun y9 S W hK hJ hSi hall hdep K hcont0 => ?_⟩
          have hcont := hcont0
          clear hcont0
          rw [if_neg (by decide)] at hcont
          have HCONT := hide hcont
          have HKW := hide hK
          have d19 := hall 19 (by decide) (by decide) (hdep ⟨19, Ground.data⟩ (by simp) rfl)
          have d21 := hall 21 (by decide) (by decide) (hdep ⟨21, Ground.data⟩ (by simp) rfl)
          clear hcont hK hall hdep hJ hSi
          obtain ⟨k19, n19, A19, l19, c19, e19, r19⟩ := d19
          obtain ⟨k21, n21, A21, l21, c21, e21, r21⟩ := d21
          rw [if_pos (by rfl)]
          simp only [e19, e21]
          go_simp
          exact unhide HCONT _ _ _ (by (try simp only [e19, e21]); rfl) ((Kept.refl No _).alloc _) (row2_new r19 r21 (fun i hi => .inr (by have h1_ := (unhide HC).z.lt; have h2_ := (unhide HKW).size; omega)))
        · refine ⟨fun x v => rfl, fun y9 S W hK hJ hSi hall hdep K hcont0 => ?_⟩
          have hcont := hcont0
          clear hcont0
          rw [if_neg (by decide)] at hcont
          have HCONT := hide hcont
          have HKW := hide hK
          have d22 := hall 22 (by decide) (by decide) (hdep ⟨22, Ground.data⟩ (by simp) rfl)
          clear hcont hK hall hdep hJ hSi
          obtain ⟨b22, e22, f22, r22⟩ := d22
          rw [if_pos (by rfl)]
          simp only [e22]
          go_simp
          refine (op2_row .mul (by rfl) _ b22 (.num (n.tdiv d)) (.num d) r22 f22).mono ?_
          rintro e w1 ⟨k_, n_, A_, l_, c_, rfl, hR1, hK1⟩
          exact unhide HCONT _ _ _ (by (try simp only [e22]); rfl) hK1 ⟨_, _, _, _, _, rfl, hR1⟩
        · refine ⟨fun x v => rfl, fun y9 S W hK hJ hSi hall hdep K hcont0 => ?_⟩
          have hcont := hcont0
          clear hcont0
          rw [if_neg (by decide)] at hcont
          have HCONT := hide hcont
          have HKW := hide hK
          clear hcont hK hall hdep hJ hSi
          rw [if_pos (by rfl)]
          go_simp
          exact unhide HCONT _ _ _ rfl (Kept.refl No _) rfl
        · refine ⟨fun x v => rfl, fun y9 S W hK hJ hSi hall hdep K hcont0 => ?_⟩
          have hcont := hcont0
          clear hcont0
          rw [if_neg (by decide)] at hcont
          have HCONT := hide hcont
          have HKW := hide hK
          clear hcont hK hall hdep hJ hSi
          rw [if_pos (by rfl)]
          go_simp
          exact unhide HCONT _ _ _ rfl (Kept.refl No _) rfl
        · refine ⟨fun x v => rfl, fun y9 S W hK hJ hSi hall hdep K hcont0 => ?_⟩
          have hcont := hcont0
          clear hcont0
          rw [if_neg (by decide)] at hcont
          have HCONT := hide hcont
          have HKW := hide hK
          have d24 := hall 24 (by decide) (by decide) (hdep ⟨24, Ground.data⟩ (by simp) rfl)
          have d25 := hall 25 (by decide) (by decide) (hdep ⟨25, Ground.data⟩ (by simp) rfl)
          clear hcont hK hall hdep hJ hSi
          have e24 : y9 24 = .int .i64 n := d24
          have e25 : y9 25 = .int .i64 d := d25
          rw [if_pos (by rfl)]
          simp only [e24, e25]
          go_simp
          exact unhide HCONT _ _ _ (by (try simp only [e24, e25]); rfl) (Kept.refl No _) rfl
        · refine ⟨fun x v => rfl, fun y9 S W hK hJ hSi hall hdep K hcont0 => ?_⟩
          have hcont := hcont0
          clear hcont0
          rw [if_neg (by decide)] at hcont
          have HCONT := hide hcont
          have HKW := hide hK
          have d26 := hall 26 (by decide) (by decide) (hdep ⟨26, Ground.data⟩ (by simp) rfl)
          clear hcont hK hall hdep hJ hSi
          have e26 : y9 26 = .int .i64 (n.tmod d) := d26
          rw [if_pos (by rfl)]
          simp only [e26]
          go_simp
          refine (num_any _ _).mono ?_
          rintro e w1 ⟨rfl, hK1⟩
          exact unhide HCONT _ _ _ (by (try simp only [e26]); rfl) hK1 ⟨_, _, _, _, _, rfl, num_rd _ _ _⟩
        · refine ⟨fun x v => rfl, fun y9 S W hK hJ hSi hall hdep K hcont0 => ?_⟩
          have hcont := hcont0
          clear hcont0
          rw [if_neg (by decide)] at hcont
          have HCONT := hide hcont
          have HKW := hide hK
          have d23 := hall 23 (by decide) (by decide) (hdep ⟨23, Ground.data⟩ (by simp) rfl)
          have d27 := hall 27 (by decide) (by decide) (hdep ⟨27, Ground.data⟩ (by simp) rfl)
          clear hcont hK hall hdep hJ hSi
          obtain ⟨k23, n23, A23, l23, c23, e23, r23⟩ := d23
          obtain ⟨k27, n27, A27, l27, c27, e27, r27⟩ := d27
          rw [if_pos (by rfl)]
          simp only [e23, e27]
          go_simp
          exact unhide HCONT _ _ _ (by (try simp only [e23, e27]); rfl) ((Kept.refl No _).alloc _) (row2_new r23 r27 (fun i hi => .inr (by have h1_ := (unhide HC).z.lt; have h2_ := (unhide HKW).size; omega)))
        · refine ⟨fun x v => rfl, fun y9 S W hK hJ hSi hall hdep K hcont0 => ?_⟩
          have hcont := hcont0
          clear hcont0
          rw [if_neg (by decide)] at hcont
          have HCONT := hide hcont
          have HKW := hide hK
          have d28 := hall 28 (by decide) (by decide) (hdep ⟨28, Ground.data⟩ (by simp) rfl)
          clear hcont hK hall hdep hJ hSi
          obtain ⟨b28, e28, f28, r28⟩ := d28
          rw [if_pos (by rfl)]
          simp only [e28]
          go_simp
          refine (op2_row .add (by rfl) _ b28 (.bin .mul (.num (n.tdiv d)) (.num d)) (.num (n.tmod d)) r28 f28).mono ?_
          rintro e w1 ⟨k_, n_, A_, l_, c_, rfl, hR1, hK1⟩
          exact unhide HCONT _ _ _ (by (try simp only [e28]); rfl) hK1 ⟨_, _, _, _, _, rfl, hR1⟩
        · refine ⟨fun x v => rfl, fun y9 S W hK hJ hSi hall hdep K hcont0 => ?_⟩
          have hcont := hcont0
          clear hcont0
          rw [if_neg (by decide)] at hcont
          have HCONT := hide hcont
          have HKW := hide hK
          have d7 := hall 7 (by decide) (by decide) (hdep ⟨7, Ground.data⟩ (by simp) rfl)
          have d15 := hall 15 (by decide) (by decide) (hdep ⟨15, Ground.data⟩ (by simp) rfl)
          have d29 := hall 29 (by decide) (by decide) (hdep ⟨29, Ground.data⟩ (by simp) rfl)
          clear hcont hK hall hdep hJ hSi
          obtain ⟨k7, n7, A7, l7, c7, e7, r7⟩ := d7
          obtain ⟨k15, n15, A15, l15, c15, e15, r15⟩ := d15
          obtain ⟨k29, n29, A29, l29, c29, e29, r29⟩ := d29
          rw [if_pos (by rfl)]
          simp only [e7, e15, e29]
          go_simp
          exact unhide HCONT _ _ _ (by (try simp only [e7, e15, e29]); rfl) ((Kept.refl No _).alloc _) (row3_new r7 r15 r29 (fun i hi => .inr (by have h1_ := (unhide HC).z.lt; have h2_ := (unhide HKW).size; omega)))
        · refine ⟨fun x v => rfl, fun y9 S W hK hJ hSi hall hdep K hcont0 => ?_⟩
          have hcont := hcont0
          clear hcont0
          rw [if_neg (by decide)] at hcont
          have HCONT := hide hcont
          have HKW := hide hK
          clear hcont hK hall hdep hJ hSi
          rw [if_pos (by rfl)]
          go_simp
          exact unhide HCONT _ _ _ rfl (Kept.refl No _) rfl
        · refine ⟨fun x v => rfl, fun y9 S W hK hJ hSi hall hdep K hcont0 => ?_⟩
          have hcont := hcont0
          clear hcont0
          rw [if_neg (by decide)] at hcont
          have HCONT := hide hcont
          have HKW := hide hK
          have d30 := hall 30 (by decide) (by decide) (hdep ⟨30, Ground.data⟩ (by simp) rfl)
          have d31 := hall 31 (by decide) (by decide) (hdep ⟨31, Ground.data⟩ (by simp) rfl)
          clear hcont hK hall hdep hJ hSi
          obtain ⟨b30, e30, f30, r30⟩ := d30
          have e31 : y9 31 = .int .i64 0 := d31
          rw [if_pos (by rfl)]
          simp only [e30, e31]
          go_simp
          exact unhide HCONT _ _ _ (by (try simp only [e30, e31]); rfl) (Kept.refl No _) ⟨b30, _, rfl, f30, r30 0 _ rfl⟩
        · refine ⟨fun x v => rfl, fun y9 S W hK hJ hSi hall hdep K hcont0 => ?_⟩
          have hcont := hcont0
          clear hcont0
          rw [if_neg (by decide)] at hcont
          have HCONT := hide hcont
          have HKW := hide hK
          have d32 := hall 32 (by decide) (by decide) (hdep ⟨32, Ground.data⟩ (by simp) rfl)
          clear hcont hK hall hdep hJ hSi
          obtain ⟨b32, o32, e32, ff32, kk32, nn32, AA32, ll32, cc32, ⟨yy032, yy132, yy232⟩, r32⟩ := d32
          rw [if_pos (by rfl)]
          simp only [e32]
          go_simp
          exact unhide HCONT _ _ _ (by (try simp only [e32]); rfl) (Kept.refl No _) ⟨_, _, _, _, _, rfl, r32⟩
        · refine ⟨fun x v => rfl, fun y9 S W hK hJ hSi hall hdep K hcont0 => ?_⟩
          have hcont := hcont0
          clear hcont0
          rw [if_neg (by decide)] at hcont
          have HCONT := hide hcont
          have HKW := hide hK
          clear hcont hK hall hdep hJ hSi
          rw [if_pos (by rfl)]
          go_simp
          exact unhide HCONT _ _ _ rfl (Kept.refl No _) rfl
        · refine ⟨fun x v => rfl, fun y9 S W hK hJ hSi hall hdep K hcont0 => ?_⟩
          have hcont := hcont0
          clear hcont0
          rw [if_neg (by decide)] at hcont
          have HCONT := hide hcont
          have HKW := hide hK
          have d34 := hall 34 (by decide) (by decide) (hdep ⟨34, Ground.data⟩ (by simp) rfl)
          clear hcont hK hall hdep hJ hSi
          have e34 : y9 34 = .pointer (some ⟨w.heap.size, 0, none⟩) := d34
          obtain xs0 := ((unhide HC).x.kept (unhide HKW) (one_ne (by omega))).cell 0
          rw [if_pos (by rfl)]
          simp only [e34]
          go_simp
          exact unhide HCONT _ _ _ (by (try simp only [e34]); rfl) (Kept.refl No _) rfl
        · refine ⟨fun x v => rfl, fun y9 S W hK hJ hSi hall hdep K hcont0 => ?_⟩
          have hcont := hcont0
          clear hcont0
          rw [if_neg (by decide)] at hcont
          have HCONT := hide hcont
          have HKW := hide hK
          have d35 := hall 35 (by decide) (by decide) (hdep ⟨35, Ground.data⟩ (by simp) rfl)
          clear hcont hK hall hdep hJ hSi
          have e35 : y9 35 = .int .i64 1 := d35
          rw [if_pos (by rfl)]
          simp only [e35]
          go_simp
          exact unhide HCONT _ _ _ (by (try simp only [e35]); rfl) (Kept.refl No _) rfl
        · refine ⟨fun x v => rfl, fun y9 S W hK hJ hSi hall hdep K hcont0 => ?_⟩
          have hcont := hcont0
          clear hcont0
          rw [if_pos rfl] at hcont
          have HCONT := hide hcont
          have HKW := hide hK
          have d33 := hall 33 (by decide) (by decide) (hdep ⟨33, Ground.data⟩ (by simp) rfl)
          have HJ := hide (hJ hSi)
          clear hcont hK hall hdep hJ hSi
          obtain ⟨k33, n33, A33, l33, c33, e33, r33⟩ := d33
          obtain ⟨f0, f1, f2, z0, z1, z2, hlt⟩ : _ ∧ _ ∧ _ ∧ _ ∧ _ ∧ _ ∧ _ := ⟨(unhide HJ).frozen 0, (unhide HJ).frozen 1, (unhide HJ).frozen 2, (unhide HJ).cell 0, (unhide HJ).cell 1, (unhide HJ).cell 2, (unhide HJ).lt⟩
          rw [if_pos (by rfl)]
          simp only [e33]
          go_simp
          exact unhide HCONT undef _ _ (by (try simp only [e33]); rfl) ((((Kept.refl _ _).one 0 _).one 1 _).one 2 _) ⟨_, _, _, _, _, (((unhide HJ).set_ 0 _).set_ 1 _).set_ 2 _, r33.kept ((((Kept.refl (One (w.heap.size + 1)) _).one 0 _).one 1 _).one 2 _) (fun i _ hi => one_ne hi.ne)⟩
      · intro y9 W hK hZ hx
        have e36 : y9 36 = .bool true := hx 36 (by decide) (by decide)
        obtain ⟨k4, n4, A4, l4, c4, hBz, hr4⟩ := hZ
        have hKw := (unhide HC).kept.trans hK (fun i hi h => by unfold One at h; omega)
        have HBZ := hide hBz
        have HR4 := hide hr4
        have HKw := hide hKw
        have z0 : W.cell? ⟨w.heap.size + 1, 0, none⟩ = some (.int .i64 k4) := hBz.cell 0
        have z1 : W.cell? ⟨w.heap.size + 1, 1, none⟩ = some (.int .i64 n4) := hBz.cell 1
        have z2 : W.cell? ⟨w.heap.size + 1, 2, none⟩ = some (.slice A4 l4 c4) := hBz.cell 2
        simp only [e36, List.drop]
        clear hK hx e36 hBz hr4 hKw
        go_wp2_with fail
        refine bodyPost_ret (v := .tuple #[.agg #[.int .i64 k4, .int .i64 n4, .slice A4 l4 c4], .bool true]) (by simp [results, Tryd.results32, go_sem, z0, z1, z2]) rfl ?_
        exact ⟨k4, n4, A4, l4, c4, rfl, unhide HKw, (unhide HR4).mono (fun _ _ h => h.out)⟩
set_option maxRecDepth 100000 in
set_option maxHeartbeats 4000000 in
theorem part_num1 (hw bv : Int) (hb1 hb2 : Nat) (w0 w : World) (F : Nat → Prop) (k n : Int) (A : Option Addr) (l c : Nat) (m d : Int) (tr : Bool) (hK0 : Kept No w0 w) (hH1 : Blk w0 hb1 3 #[.int .i64 hw]) (hH2 : Blk w0 hb2 3 #[.int .i64 bv]) (hn0 : 0 ≤ n) (hnm : n ≤ 2147483647) (hm : pickF bv (n + 1) = m) (hd : pickF bv 20 = d - 1) (hp : pickF hw 7 = 1) (hk : k = 1) :
    Calls Tryd.prog 32 #[.agg #[.int .i64 k, .int .i64 n, .slice A l c], .bool tr, .pointer (some ⟨hb1, 0, none⟩), .pointer (some ⟨hb2, 0, none⟩)] w (MadeB w F (numE 1 m d n (.num n)) true) := by
  subst hk
  have hB1 := hH1.kept hK0 id
  have hB2 := hH2.kept hK0 id
  have h1 : w.cell? ⟨hb1, 0, none⟩ = some (.int .i64 hw) := hB1.cell 0
  have h2 : w.cell? ⟨hb2, 0, none⟩ = some (.int .i64 bv) := hB2.cell 0
  have hbw1 := hB1.lt
  have hbw2 := hB2.lt
  have HB1 := hide hB1
  have HB2 := hide hB2
  have HP := hide hp
  have HM := hide hm
  have HD := hide hd
  have hm0 : 0 ≤ m ∧ m ≤ n := by have := pickF_range (x := bv) (n := n + 1) (by omega); omega
  have hd0 : 1 ≤ d ∧ d ≤ 20 := by have := pickF_range (x := bv) (n := 20) (by omega); omega
  obtain ⟨hm1, hm2⟩ := hm0
  obtain ⟨hd1, hd2⟩ := hd0
  have hn1 : (1 : Int) ≤ n + 1 := by omega
  have hn2 : n + 1 ≤ 9223372036854775807 := by omega
  have EW1 := hide (show IntKind.i64.wrap (n + 1) = n + 1 from IntWalk.i64_in _ (by omega))
  have EW2 := hide (show IntKind.i64.wrap d = d from IntWalk.i64_in _ (by omega))
  have EW3 := hide (show IntKind.i64.wrap (n - m) = n - m from IntWalk.i64_in _ (by omega))
  have EW4 := hide (show IntKind.i64.wrap (n + d) = n + d from IntWalk.i64_in _ (by omega))
  have htd : 0 ≤ n.tdiv d ∧ n.tdiv d ≤ n := by
    rw [Int.tdiv_eq_ediv_of_nonneg hn0]
    exact ⟨Int.ediv_nonneg hn0 (by omega), Int.ediv_le_self _ hn0⟩
  have htm : 0 ≤ n.tmod d ∧ n.tmod d ≤ 20 := by
    rw [Int.tmod_eq_emod_of_nonneg hn0]
    have h3 := Int.emod_nonneg n (show d ≠ 0 by omega)
    have h4 := Int.emod_lt_of_pos n (show 0 < d by omega)
    omega
  have EW5 := hide (show IntKind.i64.wrap (n.tdiv d) = n.tdiv d from IntWalk.i64_in _ (by omega))
  have EW6 := hide (show IntKind.i64.wrap (n.tmod d) = n.tmod d from IntWalk.i64_in _ (by omega))
  clear htd htm
  have HN1 := hide hn1
  have HN2 := hide hn2
  have hd0 : ¬ d = 0 := by omega
  have hd3 : (d == 0) = false := by rw [beq_eq_false_iff_ne]; exact hd0
  clear hK0 hH1 hH2 hp hm hd hB1 hB2
  go_enter Tryd.func32, Tryd.ntmps32
  go_wp2_with fail
  have HC := hide (Ctx.start w (1) n A l c)
  generalize (w.alloc (.cells #[.int .i64 (1), .int .i64 n, .slice A l c] 24)).alloc (.cells #[.int .i64 0, .int .i64 0, .slice none 0 0] 24) = V at HC ⊢
  refine wp_region_inv 4 [] (by kernel_rfl) (by kernel_rfl) (fun y1 => { tmps := #[Value.agg #[Value.int IntKind.i64 1, Value.int IntKind.i64 n, Value.slice A l c], Value.bool tr, Value.pointer (some { block := hb1, off := 0 }), Value.pointer (some { block := hb2, off := 0 }), Value.pointer (some { block := w.heap.size, off := 0 }), undef, Value.pointer (some { block := w.heap.size + 1, off := 0 }), Value.bool false, undef, undef, undef, undef, y1 0, y1 1, y1 2, y1 3, undef, undef, undef, undef, undef, undef, undef, undef, undef, undef, undef, undef, undef, undef, undef, undef, undef, undef, undef, undef, undef, undef, undef, undef, undef, undef, undef, undef, undef, undef, undef, undef, undef, undef, undef, undef, undef, undef, undef, undef, undef, undef, undef, undef, undef, undef, undef, undef, undef, undef, undef, undef, undef, undef, undef, undef, undef, undef, undef, undef, undef, undef, undef, undef, undef, undef, undef], defers := [] }) (fun _ => undef) (fun i v W => Sh.ok (FN F w) W (([Sh.val (.pointer (some ⟨w.heap.size, 1, none⟩)), Sh.val (.int .i64 n), Sh.val (.int .i64 hw), Sh.val (.int .i64 1)] : List Sh).getD i .any) v) (fun i v W W' hK h => Sh.kept hK _ _ h) ?_ ?_
  · refine ⟨?_, ?_, ?_, ?_, trivial⟩
    · refine ⟨fun x v => rfl, fun y1 S W hK hall hdep K hcont => ?_⟩
      have HCONT := hide hcont
      have HKW := hide hK
      clear hcont hK hall hdep
      rw [if_pos (by rfl)]
      go_simp
      exact unhide HCONT _ _ _ rfl (Kept.refl No _) rfl (fun h => absurd h (by decide))
    · refine ⟨fun x v => rfl, fun y1 S W hK hall hdep K hcont => ?_⟩
      have HCONT := hide hcont
      have HKW := hide hK
      have d0 := hall 0 (by decide) (hdep ⟨0, Ground.data⟩ (by simp) rfl)
      clear hcont hK hall hdep
      have e0 : y1 0 = .pointer (some ⟨w.heap.size, 1, none⟩) := d0
      obtain ⟨xs0, xs1, xs2⟩ := ((unhide HC).go (unhide HKW)).xs
      rw [if_pos (by rfl)]
      simp only [e0]
      go_simp
      exact unhide HCONT _ _ _ (by (try simp only [e0]); rfl) (Kept.refl No _) rfl (fun h => absurd h (by decide))
    · refine ⟨fun x v => rfl, fun y1 S W hK hall hdep K hcont => ?_⟩
      have HCONT := hide hcont
      have HKW := hide hK
      clear hcont hK hall hdep
      have hq := (((unhide HB1).kept (unhide HC).kept id).kept (unhide HKW) id).cell 0
      rw [if_pos (by rfl)]
      go_simp
      exact unhide HCONT _ _ _ rfl (Kept.refl No _) rfl (fun h => absurd h (by decide))
    · refine ⟨fun x v => rfl, fun y1 S W hK hall hdep K hcont => ?_⟩
      have HCONT := hide hcont
      have HKW := hide hK
      have d2 := hall 2 (by decide) (hdep ⟨2, Ground.data⟩ (by simp) rfl)
      clear hcont hK hall hdep
      have e2 : y1 2 = .int .i64 hw := d2
      rw [if_pos (by rfl)]
      simp only [e2]
      go_simp
      refine (pick_any hw 7 (by omega) (by omega) _).mono ?_
      rintro e w4 ⟨rfl, rfl⟩
      rw [unhide HP]
      exact unhide HCONT _ _ _ (by (try simp only [e2]); rfl) (Kept.refl No _) rfl (fun h => absurd h (by decide))
  · intro y1 W1 hK hx hD
    have en : y1 1 = .int .i64 n := hx 1 (by decide)
    have ep : y1 3 = .int .i64 1 := hx 3 (by decide)
    have hvz := (unhide HC).z.lt
    have HC := hide ((unhide HC).go hK)
    simp only [en, ep, List.drop]
    clear hK hx hD hvz en ep
    go_wp2_with fail
    refine wp_region_inv 8 [] (by kernel_rfl) (by kernel_rfl) (fun y2 => { tmps := #[Value.agg #[Value.int IntKind.i64 1, Value.int IntKind.i64 n, Value.slice A l c], Value.bool tr, Value.pointer (some { block := hb1, off := 0 }), Value.pointer (some { block := hb2, off := 0 }), Value.pointer (some { block := w.heap.size, off := 0 }), undef, Value.pointer (some { block := w.heap.size + 1, off := 0 }), Value.bool false, Value.int IntKind.i64 n, Value.int IntKind.i64 1, y2 7, undef, y1 0, Value.int IntKind.i64 n, y1 2, Value.int IntKind.i64 1, y2 0, y2 1, y2 2, y2 3, y2 4, y2 5, y2 6, undef, undef, undef, undef, undef, undef, undef, undef, undef, undef, undef, undef, undef, undef, undef, undef, undef, undef, undef, undef, undef, undef, undef, undef, undef, undef, undef, undef, undef, undef, undef, undef, undef, undef, undef, undef, undef, undef, undef, undef, undef, undef, undef, undef, undef, undef, undef, undef, undef, undef, undef, undef, undef, undef, undef, undef, undef, undef, undef, undef], defers := [] }) (fun _ => undef) (fun i v W => Sh.ok (FN F w) W (([Sh.val (.int .i64 bv), Sh.val (Value.int IntKind.i64 n), Sh.val (.int .i64 (n + 1)), Sh.val (.int .i64 m), Sh.val (.int .i64 bv), Sh.val (.int .i64 (d - 1)), Sh.val (.int .i64 d), Sh.val (.int .i64 m)] : List Sh).getD i .any) v) (fun i v W W' hK h => Sh.kept hK _ _ h) ?_ ?_
    · refine ⟨?_, ?_, ?_, ?_, ?_, ?_, ?_, ?_, trivial⟩
      · refine ⟨fun x v => rfl, fun y2 S W hK hall hdep K hcont => ?_⟩
        have HCONT := hide hcont
        have HKW := hide hK
        clear hcont hK hall hdep
        have hq := (((unhide HB2).kept (unhide HC).kept id).kept (unhide HKW) id).cell 0
        rw [if_pos (by rfl)]
        go_simp
        exact unhide HCONT _ _ _ rfl (Kept.refl No _) rfl (fun h => absurd h (by decide))
      · refine ⟨fun x v => rfl, fun y2 S W hK hall hdep K hcont => ?_⟩
        have HCONT := hide hcont
        have HKW := hide hK
        clear hcont hK hall hdep
        rw [if_pos (by rfl)]
        go_simp
        exact unhide HCONT _ _ _ rfl (Kept.refl No _) rfl (fun h => absurd h (by decide))
      · refine ⟨fun x v => rfl, fun y2 S W hK hall hdep K hcont => ?_⟩
        have HCONT := hide hcont
        have HKW := hide hK
        have d1 := hall 1 (by decide) (hdep ⟨1, Ground.data⟩ (by simp) rfl)
        clear hcont hK hall hdep
        have e1 : y2 1 = Value.int IntKind.i64 n := d1
        rw [if_pos (by rfl)]
        simp only [e1]
        go_simp
        rw [unhide EW1]
        exact unhide HCONT _ _ _ (by (try simp only [e1]); rfl) (Kept.refl No _) rfl (fun h => absurd h (by decide))
      · refine ⟨fun x v => rfl, fun y2 S W hK hall hdep K hcont => ?_⟩
        have HCONT := hide hcont
        have HKW := hide hK
        have d0 := hall 0 (by decide) (hdep ⟨0, Ground.data⟩ (by simp) rfl)
        have d2 := hall 2 (by decide) (hdep ⟨2, Ground.data⟩ (by simp) rfl)
        clear hcont hK hall hdep
        have e0 : y2 0 = .int .i64 bv := d0
        have e2 : y2 2 = .int .i64 (n + 1) := d2
        rw [if_pos (by rfl)]
        simp only [e0, e2]
        go_simp
        refine (pick_any bv (n + 1) (unhide HN1) (unhide HN2) _).mono ?_
        rintro e w4 ⟨rfl, rfl⟩
        rw [unhide HM]
        exact unhide HCONT _ _ _ (by (try simp only [e0, e2]); rfl) (Kept.refl No _) rfl (fun h => absurd h (by decide))
      · refine ⟨fun x v => rfl, fun y2 S W hK hall hdep K hcont => ?_⟩
        have HCONT := hide hcont
        have HKW := hide hK
        clear hcont hK hall hdep
        have hq := (((unhide HB2).kept (unhide HC).kept id).kept (unhide HKW) id).cell 0
        rw [if_pos (by rfl)]
        go_simp
        exact unhide HCONT _ _ _ rfl (Kept.refl No _) rfl (fun h => absurd h (by decide))
      · refine ⟨fun x v => rfl, fun y2 S W hK hall hdep K hcont => ?_⟩
        have HCONT := hide hcont
        have HKW := hide hK
        have d4 := hall 4 (by decide) (hdep ⟨4, Ground.data⟩ (by simp) rfl)
        clear hcont hK hall hdep
        have e4 : y2 4 = .int .i64 bv := d4
        rw [if_pos (by rfl)]
        simp only [e4]
        go_simp
        refine (pick_any bv 20 (by omega) (by omega) _).mono ?_
        rintro e w4 ⟨rfl, rfl⟩
        rw [unhide HD]
        exact unhide HCONT _ _ _ (by (try simp only [e4]); rfl) (Kept.refl No _) rfl (fun h => absurd h (by decide))
      · refine ⟨fun x v => rfl, fun y2 S W hK hall hdep K hcont => ?_⟩
        have HCONT := hide hcont
        have HKW := hide hK
        have d5 := hall 5 (by decide) (hdep ⟨5, Ground.data⟩ (by simp) rfl)
        clear hcont hK hall hdep
        have e5 : y2 5 = .int .i64 (d - 1) := d5
        rw [if_pos (by rfl)]
        simp only [e5]
        go_simp
        rw [unhide EW2]
        exact unhide HCONT _ _ _ (by (try simp only [e5]); rfl) (Kept.refl No _) rfl (fun h => absurd h (by decide))
      · refine ⟨fun x v => rfl, fun y2 S W hK hall hdep K hcont => ?_⟩
        have HCONT := hide hcont
        have HKW := hide hK
        have d3 := hall 3 (by decide) (hdep ⟨3, Ground.data⟩ (by simp) rfl)
        clear hcont hK hall hdep
        have e3 : y2 3 = .int .i64 m := d3
        rw [if_pos (by rfl)]
        simp only [e3]
        go_simp
        exact unhide HCONT _ _ _ (by (try simp only [e3]); rfl) (Kept.refl No _) rfl (fun h => absurd h (by decide))
    · intro y2 W2 hK hx hD
      have ed : y2 6 = .int .i64 d := hx 6 (by decide)
      have em : y2 7 = .int .i64 m := hx 7 (by decide)
      have hvz := (unhide HC).z.lt
      have HC := hide ((unhide HC).go hK)
      simp only [ed, em, List.drop]
      clear hK hx hD hvz ed em
      go_wp2_with fail
      refine wp_region_store 38 37 (w.heap.size + 1) (FN F w) (.bin .sub (.num (n + d)) (.num d)) [Sh.val (.int .i64 m), Sh.tree (.num m), Sh.val (.int .i64 n), Sh.val (.int .i64 m), Sh.val (.int .i64 (n - m)), Sh.tree (.num (n - m)), Sh.row [(.num m), (.num (n - m))], Sh.tree (.bin .add (.num m) (.num (n - m))), Sh.val (.int .i64 n), Sh.val (.int .i64 d), Sh.val (.int .i64 (n + d)), Sh.tree (.num (n + d)), Sh.val (.int .i64 d), Sh.tree (.num d), Sh.row [(.num (n + d)), (.num d)], Sh.tree (.bin .sub (.num (n + d)) (.num d)), Sh.val (.int .i64 n), Sh.val (.int .i64 d), Sh.val (.int .i64 (n.tdiv d)), Sh.tree (.num (n.tdiv d)), Sh.val (.int .i64 d), Sh.tree (.num d), Sh.row [(.num (n.tdiv d)), (.num d)], Sh.tree (.bin .mul (.num (n.tdiv d)) (.num d)), Sh.val (.int .i64 n), Sh.val (.int .i64 d), Sh.val (.int .i64 (n.tmod d)), Sh.tree (.num (n.tmod d)), Sh.row [(.bin .mul (.num (n.tdiv d)) (.num d)), (.num (n.tmod d))], Sh.tree (.bin .add (.bin .mul (.num (n.tdiv d)) (.num d)) (.num (n.tmod d))), Sh.row [(.bin .add (.num m) (.num (n - m))), (.bin .sub (.num (n + d)) (.num d)), (.bin .add (.bin .mul (.num (n.tdiv d)) (.num d)) (.num (n.tmod d)))], Sh.val (.int .i64 1), Sh.addr (.bin .sub (.num (n + d)) (.num d)), Sh.tree (.bin .sub (.num (n + d)) (.num d)), Sh.val (.pointer (some ⟨w.heap.size, 0, none⟩)), Sh.val (.int .i64 1), Sh.val (.bool true), Sh.any] (by decide) (fun _ h => h.ne) (unhide HC).z (by kernel_rfl) (by kernel_rfl) (fun y9 => { tmps := #[Value.agg #[Value.int IntKind.i64 1, Value.int IntKind.i64 n, Value.slice A l c], Value.bool tr, Value.pointer (some { block := hb1, off := 0 }), Value.pointer (some { block := hb2, off := 0 }), Value.pointer (some { block := w.heap.size, off := 0 }), undef, Value.pointer (some { block := w.heap.size + 1, off := 0 }), Value.bool false, Value.int IntKind.i64 n, Value.int IntKind.i64 1, Value.int IntKind.i64 m, Value.int IntKind.i64 d, y1 0, Value.int IntKind.i64 n, y1 2, Value.int IntKind.i64 1, y2 0, y2 1, y2 2, y2 3, y2 4, y2 5, Value.int IntKind.i64 d, Value.int IntKind.i64 1, Value.bool false, undef, undef, undef, undef, undef, undef, undef, undef, undef, undef, undef, undef, undef, undef, undef, undef, undef, undef, undef, undef, undef, y9 0, y9 1, y9 2, y9 3, y9 4, y9 5, y9 6, y9 7, y9 8, y9 9, y9 10, y9 11, y9 12, y9 13, y9 14, y9 15, y9 16, y9 17, y9 18, y9 19, y9 20, y9 21, y9 22, y9 23, y9 24, y9 25, y9 26, y9 27, y9 28, y9 29, y9 30, y9 31, y9 32, y9 33, y9 34, y9 35, y9 36], defers := [] }) (fun _ => undef) ?_ ?_
      · refine ⟨?_, ?_, ?_, ?_, ?_, ?_, ?_, ?_, ?_, ?_, ?_, ?_, ?_, ?_, ?_, ?_, ?_, ?_, ?_, ?_, ?_, ?_, ?_, ?_, ?_, ?_, ?_, ?_, ?_, ?_, ?_, ?_, ?_, ?_, ?_, ?_, ?_, ?_, trivial⟩
        · refine ⟨fun x v => rfl, fun y9 S W hK hJ hSi hall hdep K hcont0 => ?_⟩
          have hcont := hcont0
          clear hcont0
          rw [if_neg (by decide)] at hcont
          have HCONT := hide hcont
          have HKW := hide hK
          clear hcont hK hall hdep hJ hSi
          rw [if_pos (by rfl)]
          go_simp
          exact unhide HCONT _ _ _ rfl (Kept.refl No _) rfl
        · refine ⟨fun x v => rfl, fun y9 S W hK hJ hSi hall hdep K hcont0 => ?_⟩
          have hcont := hcont0
          clear hcont0
          rw [if_neg (by decide)] at hcont
          have HCONT := hide hcont
          have HKW := hide hK
          have d0 := hall 0 (by decide) (by decide) (hdep ⟨0, Ground.data⟩ (by simp) rfl)
          clear hcont hK hall hdep hJ hSi
          have e0 : y9 0 = .int .i64 m := d0
          rw [if_pos (by rfl)]
          simp only [e0]
          go_simp
          refine (num_any _ _).mono ?_
          rintro e w1 ⟨rfl, hK1⟩
          exact unhide HCONT _ _ _ (by (try simp only [e0]); rfl) hK1 ⟨_, _, _, _, _, rfl, num_rd _ _ _⟩
        · refine ⟨fun x v => rfl, fun y9 S W hK hJ hSi hall hdep K hcont0 => ?_⟩
          have hcont := hcont0
          clear hcont0
          rw [if_neg (by decide)] at hcont
          have HCONT := hide hcont
          have HKW := hide hK
          clear hcont hK hall hdep hJ hSi
          rw [if_pos (by rfl)]
          go_simp
          exact unhide HCONT _ _ _ rfl (Kept.refl No _) rfl
        · refine ⟨fun x v => rfl, fun y9 S W hK hJ hSi hall hdep K hcont0 => ?_⟩
          have hcont := hcont0
          clear hcont0
          rw [if_neg (by decide)] at hcont
          have HCONT := hide hcont
          have HKW := hide hK
          clear hcont hK hall hdep hJ hSi
          rw [if_pos (by rfl)]
          go_simp
          exact unhide HCONT _ _ _ rfl (Kept.refl No _) rfl
        · refine ⟨fun x v => rfl, fun y9 S W hK hJ hSi hall hdep K hcont0 => ?_⟩
          have hcont := hcont0
          clear hcont0
          rw [if_neg (by decide)] at hcont
          have HCONT := hide hcont
          have HKW := hide hK
          have d2 := hall 2 (by decide) (by decide) (hdep ⟨2, Ground.data⟩ (by simp) rfl)
          have d3 := hall 3 (by decide) (by decide) (hdep ⟨3, Ground.data⟩ (by simp) rfl)
          clear hcont hK hall hdep hJ hSi
          have e2 : y9 2 = .int .i64 n := d2
          have e3 : y9 3 = .int .i64 m := d3
          rw [if_pos (by rfl)]
          simp only [e2, e3]
          go_simp
          rw [unhide EW3]
          exact unhide HCONT _ _ _ (by (try simp only [e2, e3]); rfl) (Kept.refl No _) rfl
        · refine ⟨fun x v => rfl, fun y9 S W hK hJ hSi hall hdep K hcont0 => ?_⟩
          have hcont := hcont0
          clear hcont0
          rw [if_neg (by decide)] at hcont
          have HCONT := hide hcont
          have HKW := hide hK
          have d4 := hall 4 (by decide) (by decide) (hdep ⟨4, Ground.data⟩ (by simp) rfl)
          clear hcont hK hall hdep hJ hSi
          have e4 : y9 4 = .int .i64 (n - m) := d4
          rw [if_pos (by rfl)]
          simp only [e4]
          go_simp
          refine (num_any _ _).mono ?_
          rintro e w1 ⟨rfl, hK1⟩
          exact unhide HCONT _ _ _ (by (try simp only [e4]); rfl) hK1 ⟨_, _, _, _, _, rfl, num_rd _ _ _⟩
        · refine ⟨fun x v => rfl, fun y9 S W hK hJ hSi hall hdep K hcont0 => ?_⟩
          have hcont := hcont0
          clear hcont0
          rw [if_neg (by decide)] at hcont
          have HCONT := hide hcont
          have HKW := hide hK
          have d1 := hall 1 (by decide) (by decide) (hdep ⟨1, Ground.data⟩ (by simp) rfl)
          have d5 := hall 5 (by decide) (by decide) (hdep ⟨5, Ground.data⟩ (by simp) rfl)
          clear hcont hK hall hdep hJ hSi
          obtain ⟨k1, n1, A1, l1, c1, e1, r1⟩ := d1
          obtain ⟨k5, n5, A5, l5, c5, e5, r5⟩ := d5
          rw [if_pos (by rfl)]
          simp only [e1, e5]
          go_simp
          exact unhide HCONT _ _ _ (by (try simp only [e1, e5]); rfl) ((Kept.refl No _).alloc _) (row2_new r1 r5 (fun i hi => .inr (by have h1_ := (unhide HC).z.lt; have h2_ := (unhide HKW).size; omega)))
        · refine ⟨fun x v => rfl, fun y9 S W hK hJ hSi hall hdep K hcont0 => ?_⟩
          have hcont := hcont0
          clear hcont0
          rw [if_neg (by decide)] at hcont
          have HCONT := hide hcont
          have HKW := hide hK
          have d6 := hall 6 (by decide) (by decide) (hdep ⟨6, Ground.data⟩ (by simp) rfl)
          clear hcont hK hall hdep hJ hSi
          obtain ⟨b6, e6, f6, r6⟩ := d6
          rw [if_pos (by rfl)]
          simp only [e6]
          go_simp
          refine (op2_row .add (by rfl) _ b6 (.num m) (.num (n - m)) r6 f6).mono ?_
          rintro e w1 ⟨k_, n_, A_, l_, c_, rfl, hR1, hK1⟩
          exact unhide HCONT _ _ _ (by (try simp only [e6]); rfl) hK1 ⟨_, _, _, _, _, rfl, hR1⟩
        · refine ⟨fun x v => rfl, fun y9 S W hK hJ hSi hall hdep K hcont0 => ?_⟩
          have hcont := hcont0
          clear hcont0
          rw [if_neg (by decide)] at hcont
          have HCONT := hide hcont
          have HKW := hide hK
          clear hcont hK hall hdep hJ hSi
          rw [if_pos (by rfl)]
          go_simp
          exact unhide HCONT _ _ _ rfl (Kept.refl No _) rfl
        · refine ⟨fun x v => rfl, fun y9 S W hK hJ hSi hall hdep K hcont0 => ?_⟩
          have hcont := hcont0
          clear hcont0
          rw [if_neg (by decide)] at hcont
          have HCONT := hide hcont
          have HKW := hide hK
          clear hcont hK hall hdep hJ hSi
          rw [if_pos (by rfl)]
          go_simp
          exact unhide HCONT _ _ _ rfl (Kept.refl No _) rfl
        · refine ⟨fun x v => rfl, fun y9 S W hK hJ hSi hall hdep K hcont0 => ?_⟩
          have hcont := hcont0
          clear hcont0
          rw [if_neg (by decide)] at hcont
          have HCONT := hide hcont
          have HKW := hide hK
          have d8 := hall 8 (by decide) (by decide) (hdep ⟨8, Ground.data⟩ (by simp) rfl)
          have d9 := hall 9 (by decide) (by decide) (hdep ⟨9, Ground.data⟩ (by simp) rfl)
          clear hcont hK hall hdep hJ hSi
          have e8 : y9 8 = .int .i64 n := d8
          have e9 : y9 9 = .int .i64 d := d9
          rw [if_pos (by rfl)]
          simp only [e8, e9]
          go_simp
          rw [unhide EW4]
          exact unhide HCONT _ _ _ (by (try simp only [e8, e9]); rfl) (Kept.refl No _) rfl
        · refine ⟨fun x v => rfl, fun y9 S W hK hJ hSi hall hdep K hcont0 => ?_⟩
          have hcont := hcont0
          clear hcont0
          rw [if_neg (by decide)] at hcont
          have HCONT := hide hcont
          have HKW := hide hK
          have d10 := hall 10 (by decide) (by decide) (hdep ⟨10, Ground.data⟩ (by simp) rfl)
          clear hcont hK hall hdep hJ hSi
          have e10 : y9 10 = .int .i64 (n + d) := d10
          rw [if_pos (by rfl)]
          simp only [e10]
          go_simp
          refine (num_any _ _).mono ?_
          rintro e w1 ⟨rfl, hK1⟩
          exact unhide HCONT _ _ _ (by (try simp only [e10]); rfl) hK1 ⟨_, _, _, _, _, rfl, num_rd _ _ _⟩
        · refine ⟨fun x v => rfl, fun y9 S W hK hJ hSi hall hdep K hcont0 => ?_⟩
          have hcont := hcont0
          clear hcont0
          rw [if_neg (by decide)] at hcont
          have HCONT := hide hcont
          have HKW := hide hK
          clear hcont hK hall hdep hJ hSi
          rw [if_pos (by rfl)]
          go_simp
          exact unhide HCONT _ _ _ rfl (Kept.refl No _) rfl
        · refine ⟨fun x v => rfl, fun y9 S W hK hJ hSi hall hdep K hcont0 => ?_⟩
          have hcont := hcont0
          clear hcont0
          rw [if_neg (by decide)] at hcont
          have HCONT := hide hcont
          have HKW := hide hK
          have d12 := hall 12 (by decide) (by decide) (hdep ⟨12, Ground.data⟩ (by simp) rfl)
          clear hcont hK hall hdep hJ hSi
          have e12 : y9 12 = .int .i64 d := d12
          rw [if_pos (by rfl)]
          simp only [e12]
          go_simp
          refine (num_any _ _).mono ?_
          rintro e w1 ⟨rfl, hK1⟩
          exact unhide HCONT _ _ _ (by (try simp only [e12]); rfl) hK1 ⟨_, _, _, _, _, rfl, num_rd _ _ _⟩
        · refine ⟨fun x v => rfl, fun y9 S W hK hJ hSi hall hdep K hcont0 => ?_⟩
          have hcont := hcont0
          clear hcont0
          rw [if_neg (by decide)] at hcont
          have HCONT := hide hcont
          have HKW := hide hK
          have d11 := hall 11 (by decide) (by decide) (hdep ⟨11, Ground.data⟩ (by simp) rfl)
          have d13 := hall 13 (by decide) (by decide) (hdep ⟨13, Ground.data⟩ (by simp) rfl)
          clear hcont hK hall hdep hJ hSi
          obtain ⟨k11, n11, A11, l11, c11, e11, r11⟩ := d11
          obtain ⟨k13, n13, A13, l13, c13, e13, r13⟩ := d13
          rw [if_pos (by rfl)]
          simp only [e11, e13]
          go_simp
          exact unhide HCONT _ _ _ (by (try simp only [e11, e13]); rfl) ((Kept.refl No _).alloc _) (row2_new r11 r13 (fun i hi => .inr (by have h1_ := (unhide HC).z.lt; have h2_ := (unhide HKW).size; omega)))
        · refine ⟨fun x v => rfl, fun y9 S W hK hJ hSi hall hdep K hcont0 => ?_⟩
          have hcont := hcont0
          clear hcont0
          rw [if_neg (by decide)] at hcont
          have HCONT := hide hcont
          have HKW := hide hK
          have d14 := hall 14 (by decide) (by decide) (hdep ⟨14, Ground.data⟩ (by simp) rfl)
          clear hcont hK hall hdep hJ hSi
          obtain ⟨b14, e14, f14, r14⟩ := d14
          rw [if_pos (by rfl)]
          simp only [e14]
          go_simp
          refine (op2_row .sub (by rfl) _ b14 (.num (n + d)) (.num d) r14 f14).mono ?_
          rintro e w1 ⟨k_, n_, A_, l_, c_, rfl, hR1, hK1⟩
          exact unhide HCONT _ _ _ (by (try simp only [e14]); rfl) hK1 ⟨_, _, _, _, _, rfl, hR1⟩
        · refine ⟨fun x v => rfl, fun y9 S W hK hJ hSi hall hdep K hcont0 => ?_⟩
          have hcont := hcont0
          clear hcont0
          rw [if_neg (by decide)] at hcont
          have HCONT := hide hcont
          have HKW := hide hK
          clear hcont hK hall hdep hJ hSi
          rw [if_pos (by rfl)]
          go_simp
          exact unhide HCONT _ _ _ rfl (Kept.refl No _) rfl
        · refine ⟨fun x v => rfl, fun y9 S W hK hJ hSi hall hdep K hcont0 => ?_⟩
          have hcont := hcont0
          clear hcont0
          rw [if_neg (by decide)] at hcont
          have HCONT := hide hcont
          have HKW := hide hK
          clear hcont hK hall hdep hJ hSi
          rw [if_pos (by rfl)]
          go_simp
          exact unhide HCONT _ _ _ rfl (Kept.refl No _) rfl
        · refine ⟨fun x v => rfl, fun y9 S W hK hJ hSi hall hdep K hcont0 => ?_⟩
          have hcont := hcont0
          clear hcont0
          rw [if_neg (by decide)] at hcont
          have HCONT := hide hcont
          have HKW := hide hK
          have d16 := hall 16 (by decide) (by decide) (hdep ⟨16, Ground.data⟩ (by simp) rfl)
          have d17 := hall 17 (by decide) (by decide) (hdep ⟨17, Ground.data⟩ (by simp) rfl)
          clear hcont hK hall hdep hJ hSi
          have e16 : y9 16 = .int .i64 n := d16
          have e17 : y9 17 = .int .i64 d := d17
          rw [if_pos (by rfl)]
          simp only [e16, e17]
          go_simp
          rw [unhide EW5]
          exact unhide HCONT _ _ _ (by (try simp only [e16, e17]); rfl) (Kept.refl No _) rfl
        · refine ⟨fun x v => rfl, fun y9 S W hK hJ hSi hall hdep K hcont0 => ?_⟩
          have hcont := hcont0
          clear hcont0
          rw [if_neg (by decide)] at hcont
          have HCONT := hide hcont
          have HKW := hide hK
          have d18 := hall 18 (by decide) (by decide) (hdep ⟨18, Ground.data⟩ (by simp) rfl)
          clear hcont hK hall hdep hJ hSi
          have e18 : y9 18 = .int .i64 (n.tdiv d) := d18
          rw [if_pos (by rfl)]
          simp only [e18]
          go_simp
          refine (num_any _ _).mono ?_
          rintro e w1 ⟨rfl, hK1⟩
          exact unhide HCONT _ _ _ (by (try simp only [e18]); rfl) hK1 ⟨_, _, _, _, _, rfl, num_rd _ _ _⟩
        · refine ⟨fun x v => rfl, fun y9 S W hK hJ hSi hall hdep K hcont0 => ?_⟩
          have hcont := hcont0
          clear hcont0
          rw [if_neg (by decide)] at hcont
          have HCONT := hide hcont
          have HKW := hide hK
          clear hcont hK hall hdep hJ hSi
          rw [if_pos (by rfl)]
          go_simp
          exact unhide HCONT _ _ _ rfl (Kept.refl No _) rfl
        · refine ⟨fun x v => rfl, fun y9 S W hK hJ hSi hall hdep K hcont0 => ?_⟩
          have hcont := hcont0
          clear hcont0
          rw [if_neg (by decide)] at hcont
          have HCONT := hide hcont
          have HKW := hide hK
          have d20 := hall 20 (by decide) (by decide) (hdep ⟨20, Ground.data⟩ (by simp) rfl)
          clear hcont hK hall hdep hJ hSi
          have e20 : y9 20 = .int .i64 d := d20
          rw [if_pos (by rfl)]
          simp only [e20]
          go_simp
          refine (num_any _ _).mono ?_
          rintro e w1 ⟨rfl, hK1⟩
          exact unhide HCONT _ _ _ (by (try simp only [e20]); rfl) hK1 ⟨_, _, _, _, _, rfl, num_rd _ _ _⟩
        · refine ⟨fun x v => rfl, fun y9 S W hK hJ hSi hall hdep K hcont0 => ?_⟩
          have hcont := hcont0
          clear hcont0
          rw [if_neg (by decide)] at hcont
          have HCONT := hide hcont
          have HKW := hide hK
          have d19 := hall 19 (by decide) (by decide) (hdep ⟨19, Ground.data⟩ (by simp) rfl)
          have d21 := hall 21 (by decide) (by decide) (hdep ⟨21, Ground.data⟩ (by simp) rfl)
          clear hcont hK hall hdep hJ hSi
          obtain ⟨k19, n19, A19, l19, c19, e19, r19⟩ := d19
          obtain ⟨k21, n21, A21, l21, c21, e21, r21⟩ := d21
          rw [if_pos (by rfl)]
          simp only [e19, e21]
          go_simp
          exact unhide HCONT _ _ _ (by (try simp only [e19, e21]); rfl) ((Kept.refl No _).alloc _) (row2_new r19 r21 (fun i hi => .inr (by have h1_ := (unhide HC).z.lt; have h2_ := (unhide HKW).size; omega)))
        · refine ⟨fun x v => rfl, fun y9 S W hK hJ hSi hall hdep K hcont0 => ?_⟩
          have hcont := hcont0
          clear hcont0
          rw [if_neg (by decide)] at hcont
          have HCONT := hide hcont
          have HKW := hide hK
          have d22 := hall 22 (by decide) (by decide) (hdep ⟨22, Ground.data⟩ (by simp) rfl)
          clear hcont hK hall hdep hJ hSi
          obtain ⟨b22, e22, f22, r22⟩ := d22
          rw [if_pos (by rfl)]
          simp only [e22]
          go_simp
          refine (op2_row .mul (by rfl) _ b22 (.num (n.tdiv d)) (.num d) r22 f22).mono ?_
          rintro e w1 ⟨k_, n_, A_, l_, c_, rfl, hR1, hK1⟩
          exact unhide HCONT _ _ _ (by (try simp only [e22]); rfl) hK1 ⟨_, _, _, _, _, rfl, hR1⟩
        · refine ⟨fun x v => rfl, fun y9 S W hK hJ hSi hall hdep K hcont0 => ?_⟩
          have hcont := hcont0
          clear hcont0
          rw [if_neg (by decide)] at hcont
          have HCONT := hide hcont
          have HKW := hide hK
          clear hcont hK hall hdep hJ hSi
          rw [if_pos (by rfl)]
          go_simp
          exact unhide HCONT _ _ _ rfl (Kept.refl No _) rfl
        · refine ⟨fun x v => rfl, fun y9 S W hK hJ hSi hall hdep K hcont0 => ?_⟩
          have hcont := hcont0
          clear hcont0
          rw [if_neg (by decide)] at hcont
          have HCONT := hide hcont
          have HKW := hide hK
          clear hcont hK hall hdep hJ hSi
          rw [if_pos (by rfl)]
          go_simp
          exact unhide HCONT _ _ _ rfl (Kept.refl No _) rfl
        · refine ⟨fun x v => rfl, fun y9 S W hK hJ hSi hall hdep K hcont0 => ?_⟩
          have hcont := hcont0
          clear hcont0
          rw [if_neg (by decide)] at hcont
          have HCONT := hide hcont
          have HKW := hide hK
          have d24 := hall 24 (by decide) (by decide) (hdep ⟨24, Ground.data⟩ (by simp) rfl)
          have d25 := hall 25 (by decide) (by decide) (hdep ⟨25, Ground.data⟩ (by simp) rfl)
          clear hcont hK hall hdep hJ hSi
          have e24 : y9 24 = .int .i64 n := d24
          have e25 : y9 25 = .int .i64 d := d25
          rw [if_pos (by rfl)]
          simp only [e24, e25]
          go_simp
          exact unhide HCONT _ _ _ (by (try simp only [e24, e25]); rfl) (Kept.refl No _) rfl
        · refine ⟨fun x v => rfl, fun y9 S W hK hJ hSi hall hdep K hcont0 => ?_⟩
          have hcont := hcont0
          clear hcont0
          rw [if_neg (by decide)] at hcont
          have HCONT := hide hcont
          have HKW := hide hK
          have d26 := hall 26 (by decide) (by decide) (hdep ⟨26, Ground.data⟩ (by simp) rfl)
          clear hcont hK hall hdep hJ hSi
          have e26 : y9 26 = .int .i64 (n.tmod d) := d26
          rw [if_pos (by rfl)]
          simp only [e26]
          go_simp
          refine (num_any _ _).mono ?_
          rintro e w1 ⟨rfl, hK1⟩
          exact unhide HCONT _ _ _ (by (try simp only [e26]); rfl) hK1 ⟨_, _, _, _, _, rfl, num_rd _ _ _⟩
        · refine ⟨fun x v => rfl, fun y9 S W hK hJ hSi hall hdep K hcont0 => ?_⟩
          have hcont := hcont0
          clear hcont0
          rw [if_neg (by decide)] at hcont
          have HCONT := hide hcont
          have HKW := hide hK
          have d23 := hall 23 (by decide) (by decide) (hdep ⟨23, Ground.data⟩ (by simp) rfl)
          have d27 := hall 27 (by decide) (by decide) (hdep ⟨27, Ground.data⟩ (by simp) rfl)
          clear hcont hK hall hdep hJ hSi
          obtain ⟨k23, n23, A23, l23, c23, e23, r23⟩ := d23
          obtain ⟨k27, n27, A27, l27, c27, e27, r27⟩ := d27
          rw [if_pos (by rfl)]
          simp only [e23, e27]
          go_simp
          exact unhide HCONT _ _ _ (by (try simp only [e23, e27]); rfl) ((Kept.refl No _).alloc _) (row2_new r23 r27 (fun i hi => .inr (by have h1_ := (unhide HC).z.lt; have h2_ := (unhide HKW).size; omega)))
        · refine ⟨fun x v => rfl, fun y9 S W hK hJ hSi hall hdep K hcont0 => ?_⟩
          have hcont := hcont0
          clear hcont0
          rw [if_neg (by decide)] at hcont
          have HCONT := hide hcont
          have HKW := hide hK
          have d28 := hall 28 (by decide) (by decide) (hdep ⟨28, Ground.data⟩ (by simp) rfl)
          clear hcont hK hall hdep hJ hSi
          obtain ⟨b28, e28, f28, r28⟩ := d28
          rw [if_pos (by rfl)]
          simp only [e28]
          go_simp
          refine (op2_row .add (by rfl) _ b28 (.bin .mul (.num (n.tdiv d)) (.num d)) (.num (n.tmod d)) r28 f28).mono ?_
          rintro e w1 ⟨k_, n_, A_, l_, c_, rfl, hR1, hK1⟩
          exact unhide HCONT _ _ _ (by (try simp only [e28]); rfl) hK1 ⟨_, _, _, _, _, rfl, hR1⟩
        · refine ⟨fun x v => rfl, fun y9 S W hK hJ hSi hall hdep K hcont0 => ?_⟩
          have hcont := hcont0
          clear hcont0
          rw [if_neg (by decide)] at hcont
          have HCONT := hide hcont
          have HKW := hide hK
          have d7 := hall 7 (by decide) (by decide) (hdep ⟨7, Ground.data⟩ (by simp) rfl)
          have d15 := hall 15 (by decide) (by decide) (hdep ⟨15, Ground.data⟩ (by simp) rfl)
          have d29 := hall 29 (by decide) (by decide) (hdep ⟨29, Ground.data⟩ (by simp) rfl)
          clear hcont hK hall hdep hJ hSi
          obtain ⟨k7, n7, A7, l7, c7, e7, r7⟩ := d7
          obtain ⟨k15, n15, A15, l15, c15, e15, r15⟩ := d15
          obtain ⟨k29, n29, A29, l29, c29, e29, r29⟩ := d29
          rw [if_pos (by rfl)]
          simp only [e7, e15, e29]
          go_simp
          exact unhide HCONT _ _ _ (by (try simp only [e7, e15, e29]); rfl) ((Kept.refl No _).alloc _) (row3_new r7 r15 r29 (fun i hi => .inr (by have h1_ := (unhide HC).z.lt; have h2_ := (unhide HKW).size; omega)))
        · refine ⟨fun x v => rfl, fun y9 S W hK hJ hSi hall hdep K hcont0 => ?_⟩
          have hcont := hcont0
          clear hcont0
          rw [if_neg (by decide)] at hcont
          have HCONT := hide hcont
          have HKW := hide hK
          clear hcont hK hall hdep hJ hSi
          rw [if_pos (by rfl)]
          go_simp
          exact unhide HCONT _ _ _ rfl (Kept.refl No _) rfl
        · refine ⟨fun x v => rfl, fun y9 S W hK hJ hSi hall hdep K hcont0 => ?_⟩
          have hcont := hcont0
          clear hcont0
          rw [if_neg (by decide)] at hcont
          have HCONT := hide hcont
          have HKW := hide hK
          have d30 := hall 30 (by decide) (by decide) (hdep ⟨30, Ground.data⟩ (by simp) rfl)
          have d31 := hall 31 (by decide) (by decide) (hdep ⟨31, Ground.data⟩ (by simp) rfl)
          clear hcont hK hall hdep hJ hSi
          obtain ⟨b30, e30, f30, r30⟩ := d30
          have e31 : y9 31 = .int .i64 1 := d31
          rw [if_pos (by rfl)]
          simp only [e30, e31]
          go_simp
          exact unhide HCONT _ _ _ (by (try simp only [e30, e31]); rfl) (Kept.refl No _) ⟨b30, _, rfl, f30, r30 1 _ rfl⟩
        · refine ⟨fun x v => rfl, fun y9 S W hK hJ hSi hall hdep K hcont0 => ?_⟩
          have hcont := hcont0
          clear hcont0
          rw [if_neg (by decide)] at hcont
          have HCONT := hide hcont
          have HKW := hide hK
          have d32 := hall 32 (by decide) (by decide) (hdep ⟨32, Ground.data⟩ (by simp) rfl)
          clear hcont hK hall hdep hJ hSi
          obtain ⟨b32, o32, e32, ff32, kk32, nn32, AA32, ll32, cc32, ⟨yy032, yy132, yy232⟩, r32⟩ := d32
          rw [if_pos (by rfl)]
          simp only [e32]
          go_simp
          exact unhide HCONT _ _ _ (by (try simp only [e32]); rfl) (Kept.refl No _) ⟨_, _, _, _, _, rfl, r32⟩
        · refine ⟨fun x v => rfl, fun y9 S W hK hJ hSi hall hdep K hcont0 => ?_⟩
          have hcont := hcont0
          clear hcont0
          rw [if_neg (by decide)] at hcont
          have HCONT := hide hcont
          have HKW := hide hK
          clear hcont hK hall hdep hJ hSi
          rw [if_pos (by rfl)]
          go_simp
          exact unhide HCONT _ _ _ rfl (Kept.refl No _) rfl
        · refine ⟨fun x v => rfl, fun y9 S W hK hJ hSi hall hdep K hcont0 => ?_⟩
          have hcont := hcont0
          clear hcont0
          rw [if_neg (by decide)] at hcont
          have HCONT := hide hcont
          have HKW := hide hK
          have d34 := hall 34 (by decide) (by decide) (hdep ⟨34, Ground.data⟩ (by simp) rfl)
          clear hcont hK hall hdep hJ hSi
          have e34 : y9 34 = .pointer (some ⟨w.heap.size, 0, none⟩) := d34
          obtain xs0 := ((unhide HC).x.kept (unhide HKW) (one_ne (by omega))).cell 0
          rw [if_pos (by rfl)]
          simp only [e34]
          go_simp
          exact unhide HCONT _ _ _ (by (try simp only [e34]); rfl) (Kept.refl No _) rfl
        · refine ⟨fun x v => rfl, fun y9 S W hK hJ hSi hall hdep K hcont0 => ?_⟩
          have hcont := hcont0
          clear hcont0
          rw [if_neg (by decide)] at hcont
          have HCONT := hide hcont
          have HKW := hide hK
          have d35 := hall 35 (by decide) (by decide) (hdep ⟨35, Ground.data⟩ (by simp) rfl)
          clear hcont hK hall hdep hJ hSi
          have e35 : y9 35 = .int .i64 1 := d35
          rw [if_pos (by rfl)]
          simp only [e35]
          go_simp
          exact unhide HCONT _ _ _ (by (try simp only [e35]); rfl) (Kept.refl No _) rfl
        · refine ⟨fun x v => rfl, fun y9 S W hK hJ hSi hall hdep K hcont0 => ?_⟩
          have hcont := hcont0
          clear hcont0
          rw [if_pos rfl] at hcont
          have HCONT := hide hcont
          have HKW := hide hK
          have d33 := hall 33 (by decide) (by decide) (hdep ⟨33, Ground.data⟩ (by simp) rfl)
          have HJ := hide (hJ hSi)
          clear hcont hK hall hdep hJ hSi
          obtain ⟨k33, n33, A33, l33, c33, e33, r33⟩ := d33
          obtain ⟨f0, f1, f2, z0, z1, z2, hlt⟩ : _ ∧ _ ∧ _ ∧ _ ∧ _ ∧ _ ∧ _ := ⟨(unhide HJ).frozen 0, (unhide HJ).frozen 1, (unhide HJ).frozen 2, (unhide HJ).cell 0, (unhide HJ).cell 1, (unhide HJ).cell 2, (unhide HJ).lt⟩
          rw [if_pos (by rfl)]
          simp only [e33]
          go_simp
          exact unhide HCONT undef _ _ (by (try simp only [e33]); rfl) ((((Kept.refl _ _).one 0 _).one 1 _).one 2 _) ⟨_, _, _, _, _, (((unhide HJ).set_ 0 _).set_ 1 _).set_ 2 _, r33.kept ((((Kept.refl (One (w.heap.size + 1)) _).one 0 _).one 1 _).one 2 _) (fun i _ hi => one_ne hi.ne)⟩
      · intro y9 W hK hZ hx
        have e36 : y9 36 = .bool true := hx 36 (by decide) (by decide)
        obtain ⟨k4, n4, A4, l4, c4, hBz, hr4⟩ := hZ
        have hKw := (unhide HC).kept.trans hK (fun i hi h => by unfold One at h; omega)
        have HBZ := hide hBz
        have HR4 := hide hr4
        have HKw := hide hKw
        have z0 : W.cell? ⟨w.heap.size + 1, 0, none⟩ = some (.int .i64 k4) := hBz.cell 0
        have z1 : W.cell? ⟨w.heap.size + 1, 1, none⟩ = some (.int .i64 n4) := hBz.cell 1
        have z2 : W.cell? ⟨w.heap.size + 1, 2, none⟩ = some (.slice A4 l4 c4) := hBz.cell 2
        simp only [e36, List.drop]
        clear hK hx e36 hBz hr4 hKw
        go_wp2_with fail
        refine bodyPost_ret (v := .tuple #[.agg #[.int .i64 k4, .int .i64 n4, .slice A4 l4 c4], .bool true]) (by simp [results, Tryd.results32, go_sem, z0, z1, z2]) rfl ?_
        exact ⟨k4, n4, A4, l4, c4, rfl, unhide HKw, (unhide HR4).mono (fun _ _ h => h.out)⟩
set_option maxRecDepth 100000 in
set_option maxHeartbeats 4000000 in
theorem part_num2 (hw bv : Int) (hb1 hb2 : Nat) (w0 w : World) (F : Nat → Prop) (k n : Int) (A : Option Addr) (l c : Nat) (m d : Int) (tr : Bool) (hK0 : Kept No w0 w) (hH1 : Blk w0 hb1 3 #[.int .i64 hw]) (hH2 : Blk w0 hb2 3 #[.int .i64 bv]) (hn0 : 0 ≤ n) (hnm : n ≤ 2147483647) (hm : pickF bv (n + 1) = m) (hd : pickF bv 20 = d - 1) (hp : pickF hw 7 = 2) (hk : k = 1) :
    Calls Tryd.prog 32 #[.agg #[.int .i64 k, .int .i64 n, .slice A l c], .bool tr, .pointer (some ⟨hb1, 0, none⟩), .pointer (some ⟨hb2, 0, none⟩)] w (MadeB w F (numE 2 m d n (.num n)) true) := by
  subst hk
  have hB1 := hH1.kept hK0 id
  have hB2 := hH2.kept hK0 id
  have h1 : w.cell? ⟨hb1, 0, none⟩ = some (.int .i64 hw) := hB1.cell 0
  have h2 : w.cell? ⟨hb2, 0, none⟩ = some (.int .i64 bv) := hB2.cell 0
  have hbw1 := hB1.lt
  have hbw2 := hB2.lt
  have HB1 := hide hB1
  have HB2 := hide hB2
  have HP := hide hp
  have HM := hide hm
  have HD := hide hd
  have hm0 : 0 ≤ m ∧ m ≤ n := by have := pickF_range (x := bv) (n := n + 1) (by omega); omega
  have hd0 : 1 ≤ d ∧ d ≤ 20 := by have := pickF_range (x := bv) (n := 20) (by omega); omega
  obtain ⟨hm1, hm2⟩ := hm0
  obtain ⟨hd1, hd2⟩ := hd0
  have hn1 : (1 : Int) ≤ n + 1 := by omega
  have hn2 : n + 1 ≤ 9223372036854775807 := by omega
  have EW1 := hide (show IntKind.i64.wrap (n + 1) = n + 1 from IntWalk.i64_in _ (by omega))
  have EW2 := hide (show IntKind.i64.wrap d = d from IntWalk.i64_in _ (by omega))
  have EW3 := hide (show IntKind.i64.wrap (n - m) = n - m from IntWalk.i64_in _ (by omega))
  have EW4 := hide (show IntKind.i64.wrap (n + d) = n + d from IntWalk.i64_in _ (by omega))
  have htd : 0 ≤ n.tdiv d ∧ n.tdiv d ≤ n := by
    rw [Int.tdiv_eq_ediv_of_nonneg hn0]
    exact ⟨Int.ediv_nonneg hn0 (by omega), Int.ediv_le_self _ hn0⟩
  have htm : 0 ≤ n.tmod d ∧ n.tmod d ≤ 20 := by
    rw [Int.tmod_eq_emod_of_nonneg hn0]
    have h3 := Int.emod_nonneg n (show d ≠ 0 by omega)
    have h4 := Int.emod_lt_of_pos n (show 0 < d by omega)
    omega
  have EW5 := hide (show IntKind.i64.wrap (n.tdiv d) = n.tdiv d from IntWalk.i64_in _ (by omega))
  have EW6 := hide (show IntKind.i64.wrap (n.tmod d) = n.tmod d from IntWalk.i64_in _ (by omega))
  clear htd htm
  have HN1 := hide hn1
  have HN2 := hide hn2
  have hd0 : ¬ d = 0 := by omega
  have hd3 : (d == 0) = false := by rw [beq_eq_false_iff_ne]; exact hd0
  clear hK0 hH1 hH2 hp hm hd hB1 hB2
  go_enter Tryd.func32, Tryd.ntmps32
  go_wp2_with fail
  have HC := hide (Ctx.start w (1) n A l c)
  generalize (w.alloc (.cells #[.int .i64 (1), .int .i64 n, .slice A l c] 24)).alloc (.cells #[.int .i64 0, .int .i64 0, .slice none 0 0] 24) = V at HC ⊢
  refine wp_region_inv 4 [] (by kernel_rfl) (by kernel_rfl) (fun y1 => { tmps := #[Value.agg #[Value.int IntKind.i64 1, Value.int IntKind.i64 n, Value.slice A l c], Value.bool tr, Value.pointer (some { block := hb1, off := 0 }), Value.pointer (some { block := hb2, off := 0 }), Value.pointer (some { block := w.heap.size, off := 0 }), undef, Value.pointer (some { block := w.heap.size + 1, off := 0 }), Value.bool false, undef, undef, undef, undef, y1 0, y1 1, y1 2, y1 3, undef, undef, undef, undef, undef, undef, undef, undef, undef, undef, undef, undef, undef, undef, undef, undef, undef, undef, undef, undef, undef, undef, undef, undef, undef, undef, undef, undef, undef, undef, undef, undef, undef, undef, undef, undef, undef, undef, undef, undef, undef, undef, undef, undef, undef, undef, undef, undef, undef, undef, undef, undef, undef, undef, undef, undef, undef, undef, undef, undef, undef, undef, undef, undef, undef, undef, undef], defers := [] }) (fun _ => undef) (fun i v W => Sh.ok (FN F w) W (([Sh.val (.pointer (some ⟨w.heap.size, 1, none⟩)), Sh.val (.int .i64 n), Sh.val (.int .i64 hw), Sh.val (.int .i64 2)] : List Sh).getD i .any) v) (fun i v W W' hK h => Sh.kept hK _ _ h) ?_ ?_
  · refine ⟨?_, ?_, ?_, ?_, trivial⟩
    · refine ⟨fun x v => rfl, fun y1 S W hK hall hdep K hcont => ?_⟩
      have HCONT := hide hcont
      have HKW := hide hK
      clear hcont hK hall hdep
      rw [if_pos (by rfl)]
      go_simp
      exact unhide HCONT _ _ _ rfl (Kept.refl No _) rfl (fun h => absurd h (by decide))
    · refine ⟨fun x v => rfl, fun y1 S W hK hall hdep K hcont => ?_⟩
      have HCONT := hide hcont
      have HKW := hide hK
      have d0 := hall 0 (by decide) (hdep ⟨0, Ground.data⟩ (by simp) rfl)
      clear hcont hK hall hdep
      have e0 : y1 0 = .pointer (some ⟨w.heap.size, 1, none⟩) := d0
      obtain ⟨xs0, xs1, xs2⟩ := ((unhide HC).go (unhide HKW)).xs
      rw [if_pos (by rfl)]
      simp only [e0]
      go_simp
      exact unhide HCONT _ _ _ (by (try simp only [e0]); rfl) (Kept.refl No _) rfl (fun h => absurd h (by decide))
    · refine ⟨fun x v => rfl, fun y1 S W hK hall hdep K hcont => ?_⟩
      have HCONT := hide hcont
      have HKW := hide hK
      clear hcont hK hall hdep
      have hq := (((unhide HB1).kept (unhide HC).kept id).kept (unhide HKW) id).cell 0
      rw [if_pos (by rfl)]
      go_simp
      exact unhide HCONT _ _ _ rfl (Kept.refl No _) rfl (fun h => absurd h (by decide))
    · refine ⟨fun x v => rfl, fun y1 S W hK hall hdep K hcont => ?_⟩
      have HCONT := hide hcont
      have HKW := hide hK
      have d2 := hall 2 (by decide) (hdep ⟨2, Ground.data⟩ (by simp) rfl)
      clear hcont hK hall hdep
      have e2 : y1 2 = .int .i64 hw := d2
      rw [if_pos (by rfl)]
      simp only [e2]
      go_simp
      refine (pick_any hw 7 (by omega) (by omega) _).mono ?_
      rintro e w4 ⟨rfl, rfl⟩
      rw [unhide HP]
      exact unhide HCONT _ _ _ (by (try simp only [e2]); rfl) (Kept.refl No _) rfl (fun h => absurd h (by decide))
  · intro y1 W1 hK hx hD
    have en : y1 1 = .int .i64 n := hx 1 (by decide)
    have ep : y1 3 = .int .i64 2 := hx 3 (by decide)
    have hvz := (unhide HC).z.lt
    have HC := hide ((unhide HC).go hK)
    simp only [en, ep, List.drop]
    clear hK hx hD hvz en ep
    go_wp2_with fail
    refine wp_region_inv 8 [] (by kernel_rfl) (by kernel_rfl) (fun y2 => { tmps := #[Value.agg #[Value.int IntKind.i64 1, Value.int IntKind.i64 n, Value.slice A l c], Value.bool tr, Value.pointer (some { block := hb1, off := 0 }), Value.pointer (some { block := hb2, off := 0 }), Value.pointer (some { block := w.heap.size, off := 0 }), undef, Value.pointer (some { block := w.heap.size + 1, off := 0 }), Value.bool false, Value.int IntKind.i64 n, Value.int IntKind.i64 2, y2 7, undef, y1 0, Value.int IntKind.i64 n, y1 2, Value.int IntKind.i64 2, y2 0, y2 1, y2 2, y2 3, y2 4, y2 5, y2 6, undef, undef, undef, undef, undef, undef, undef, undef, undef, undef, undef, undef, undef, undef, undef, undef, undef, undef, undef, undef, undef, undef, undef, undef, undef, undef, undef, undef, undef, undef, undef, undef, undef, undef, undef, undef, undef, undef, undef, undef, undef, undef, undef, undef, undef, undef, undef, undef, undef, undef, undef, undef, undef, undef, undef, undef, undef, undef, undef, undef], defers := [] }) (fun _ => undef) (fun i v W => Sh.ok (FN F w) W (([Sh.val (.int .i64 bv), Sh.val (Value.int IntKind.i64 n), Sh.val (.int .i64 (n + 1)), Sh.val (.int .i64 m), Sh.val (.int .i64 bv), Sh.val (.int .i64 (d - 1)), Sh.val (.int .i64 d), Sh.val (.int .i64 m)] : List Sh).getD i .any) v) (fun i v W W' hK h => Sh.kept hK _ _ h) ?_ ?_
    · refine ⟨?_, ?_, ?_, ?_, ?_, ?_, ?_, ?_, trivial⟩
      · refine ⟨fun x v => rfl, fun y2 S W hK hall hdep K hcont => ?_⟩
        have HCONT := hide hcont
        have HKW := hide hK
        clear hcont hK hall hdep
        have hq := (((unhide HB2).kept (unhide HC).kept id).kept (unhide HKW) id).cell 0
        rw [if_pos (by rfl)]
        go_simp
        exact unhide HCONT _ _ _ rfl (Kept.refl No _) rfl (fun h => absurd h (by decide))
      · refine ⟨fun x v => rfl, fun y2 S W hK hall hdep K hcont => ?_⟩
        have HCONT := hide hcont
        have HKW := hide hK
        clear hcont hK hall hdep
        rw [if_pos (by rfl)]
        go_simp
        exact unhide HCONT _ _ _ rfl (Kept.refl No _) rfl (fun h => absurd h (by decide))
      · refine ⟨fun x v => rfl, fun y2 S W hK hall hdep K hcont => ?_⟩
        have HCONT := hide hcont
        have HKW := hide hK
        have d1 := hall 1 (by decide) (hdep ⟨1, Ground.data⟩ (by simp) rfl)
        clear hcont hK hall hdep
        have e1 : y2 1 = Value.int IntKind.i64 n := d1
        rw [if_pos (by rfl)]
        simp only [e1]
        go_simp
        rw [unhide EW1]
        exact unhide HCONT _ _ _ (by (try simp only [e1]); rfl) (Kept.refl No _) rfl (fun h => absurd h (by decide))
      · refine ⟨fun x v => rfl, fun y2 S W hK hall hdep K hcont => ?_⟩
        have HCONT := hide hcont
        have HKW := hide hK
        have d0 := hall 0 (by decide) (hdep ⟨0, Ground.data⟩ (by simp) rfl)
        have d2 := hall 2 (by decide) (hdep ⟨2, Ground.data⟩ (by simp) rfl)
        clear hcont hK hall hdep
        have e0 : y2 0 = .int .i64 bv := d0
        have e2 : y2 2 = .int .i64 (n + 1) := d2
        rw [if_pos (by rfl)]
        simp only [e0, e2]
        go_simp
        refine (pick_any bv (n + 1) (unhide HN1) (unhide HN2) _).mono ?_
        rintro e w4 ⟨rfl, rfl⟩
        rw [unhide HM]
        exact unhide HCONT _ _ _ (by (try simp only [e0, e2]); rfl) (Kept.refl No _) rfl (fun h => absurd h (by decide))
      · refine ⟨fun x v => rfl, fun y2 S W hK hall hdep K hcont => ?_⟩
        have HCONT := hide hcont
        have HKW := hide hK
        clear hcont hK hall hdep
        have hq := (((unhide HB2).kept (unhide HC).kept id).kept (unhide HKW) id).cell 0
        rw [if_pos (by rfl)]
        go_simp
        exact unhide HCONT _ _ _ rfl (Kept.refl No _) rfl (fun h => absurd h (by decide))
      · refine ⟨fun x v => rfl, fun y2 S W hK hall hdep K hcont => ?_⟩
        have HCONT := hide hcont
        have HKW := hide hK
        have d4 := hall 4 (by decide) (hdep ⟨4, Ground.data⟩ (by simp) rfl)
        clear hcont hK hall hdep
        have e4 : y2 4 = .int .i64 bv := d4
        rw [if_pos (by rfl)]
        simp only [e4]
        go_simp
        refine (pick_any bv 20 (by omega) (by omega) _).mono ?_
        rintro e w4 ⟨rfl, rfl⟩
        rw [unhide HD]
        exact unhide HCONT _ _ _ (by (try simp only [e4]); rfl) (Kept.refl No _) rfl (fun h => absurd h (by decide))
      · refine ⟨fun x v => rfl, fun y2 S W hK hall hdep K hcont => ?_⟩
        have HCONT := hide hcont
        have HKW := hide hK
        have d5 := hall 5 (by decide) (hdep ⟨5, Ground.data⟩ (by simp) rfl)
        clear hcont hK hall hdep
        have e5 : y2 5 = .int .i64 (d - 1) := d5
        rw [if_pos (by rfl)]
        simp only [e5]
        go_simp
        rw [unhide EW2]
        exact unhide HCONT _ _ _ (by (try simp only [e5]); rfl) (Kept.refl No _) rfl (fun h => absurd h (by decide))
      · refine ⟨fun x v => rfl, fun y2 S W hK hall hdep K hcont => ?_⟩
        have HCONT := hide hcont
        have HKW := hide hK
        have d3 := hall 3 (by decide) (hdep ⟨3, Ground.data⟩ (by simp) rfl)
        clear hcont hK hall hdep
        have e3 : y2 3 = .int .i64 m := d3
        rw [if_pos (by rfl)]
        simp only [e3]
        go_simp
        exact unhide HCONT _ _ _ (by (try simp only [e3]); rfl) (Kept.refl No _) rfl (fun h => absurd h (by decide))
    · intro y2 W2 hK hx hD
      have ed : y2 6 = .int .i64 d := hx 6 (by decide)
      have em : y2 7 = .int .i64 m := hx 7 (by decide)
      have hvz := (unhide HC).z.lt
      have HC := hide ((unhide HC).go hK)
      simp only [ed, em, List.drop]
      clear hK hx hD hvz ed em
      go_wp2_with fail
      refine wp_region_store 38 37 (w.heap.size + 1) (FN F w) (.bin .add (.bin .mul (.num (n.tdiv d)) (.num d)) (.num (n.tmod d))) [Sh.val (.int .i64 m), Sh.tree (.num m), Sh.val (.int .i64 n), Sh.val (.int .i64 m), Sh.val (.int .i64 (n - m)), Sh.tree (.num (n - m)), Sh.row [(.num m), (.num (n - m))], Sh.tree (.bin .add (.num m) (.num (n - m))), Sh.val (.int .i64 n), Sh.val (.int .i64 d), Sh.val (.int .i64 (n + d)), Sh.tree (.num (n + d)), Sh.val (.int .i64 d), Sh.tree (.num d), Sh.row [(.num (n + d)), (.num d)], Sh.tree (.bin .sub (.num (n + d)) (.num d)), Sh.val (.int .i64 n), Sh.val (.int .i64 d), Sh.val (.int .i64 (n.tdiv d)), Sh.tree (.num (n.tdiv d)), Sh.val (.int .i64 d), Sh.tree (.num d), Sh.row [(.num (n.tdiv d)), (.num d)], Sh.tree (.bin .mul (.num (n.tdiv d)) (.num d)), Sh.val (.int .i64 n), Sh.val (.int .i64 d), Sh.val (.int .i64 (n.tmod d)), Sh.tree (.num (n.tmod d)), Sh.row [(.bin .mul (.num (n.tdiv d)) (.num d)), (.num (n.tmod d))], Sh.tree (.bin .add (.bin .mul (.num (n.tdiv d)) (.num d)) (.num (n.tmod d))), Sh.row [(.bin .add (.num m) (.num (n - m))), (.bin .sub (.num (n + d)) (.num d)), (.bin .add (.bin .mul (.num (n.tdiv d)) (.num d)) (.num (n.tmod d)))], Sh.val (.int .i64 2), Sh.addr (.bin .add (.bin .mul (.num (n.tdiv d)) (.num d)) (.num (n.tmod d))), Sh.tree (.bin .add (.bin .mul (.num (n.tdiv d)) (.num d)) (.num (n.tmod d))), Sh.val (.pointer (some ⟨w.heap.size, 0, none⟩)), Sh.val (.int .i64 1), Sh.val (.bool true), Sh.any] (by decide) (fun _ h => h.ne) (unhide HC).z (by kernel_rfl) (by kernel_rfl) (fun y9 => { tmps := #[Value.agg #[Value.int IntKind.i64 1, Value.int IntKind.i64 n, Value.slice A l c], Value.bool tr, Value.pointer (some { block := hb1, off := 0 }), Value.pointer (some { block := hb2, off := 0 }), Value.pointer (some { block := w.heap.size, off := 0 }), undef, Value.pointer (some { block := w.heap.size + 1, off := 0 }), Value.bool false, Value.int IntKind.i64 n, Value.int IntKind.i64 2, Value.int IntKind.i64 m, Value.int IntKind.i64 d, y1 0, Value.int IntKind.i64 n, y1 2, Value.int IntKind.i64 2, y2 0, y2 1, y2 2, y2 3, y2 4, y2 5, Value.int IntKind.i64 d, Value.int IntKind.i64 2, Value.bool false, undef, undef, undef, undef, undef, undef, undef, undef, undef, undef, undef, undef, undef, undef, undef, undef, undef, undef, undef, undef, undef, y9 0, y9 1, y9 2, y9 3, y9 4, y9 5, y9 6, y9 7, y9 8, y9 9, y9 10, y9 11, y9 12, y9 13, y9 14, y9 15, y9 16, y9 17, y9 18, y9 19, y9 20, y9 21, y9 22, y9 23, y9 24, y9 25, y9 26, y9 27, y9 28, y9 29, y9 30, y9 31, y9 32, y9 33, y9 34, y9 35, y9 36], defers := [] }) (fun _ => undef) ?_ ?_
      · refine ⟨?_, ?_, ?_, ?_, ?_, ?_, ?_, ?_, ?_, ?_, ?_, ?_, ?_, ?_, ?_, ?_, ?_, ?_, ?_, ?_, ?_, ?_, ?_, ?_, ?_, ?_, ?_, ?_, ?_, ?_, ?_, ?_, ?_, ?_, ?_, ?_, ?_, ?_, trivial⟩
        · refine ⟨fun x v => rfl, fun y9 S W hK hJ hSi hall hdep K hcont0 => ?_⟩
          have hcont := hcont0
          clear hcont0
          rw [if_neg (by decide)] at hcont
          have HCONT := hide hcont
          have HKW := hide hK
          clear hcont hK hall hdep hJ hSi
          rw [if_pos (by rfl)]
          go_simp
          exact unhide HCONT _ _ _ rfl (Kept.refl No _) rfl
        · refine ⟨fun x v => rfl, fun y9 S W hK hJ hSi hall hdep K hcont0 => ?_⟩
          have hcont := hcont0
          clear hcont0
          rw [if_neg (by decide)] at hcont
          have HCONT := hide hcont
          have HKW := hide hK
          have d0 := hall 0 (by decide) (by decide) (hdep ⟨0, Ground.data⟩ (by simp) rfl)
          clear hcont hK hall hdep hJ hSi
          have e0 : y9 0 = .int .i64 m := d0
          rw [if_pos (by rfl)]
          simp only [e0]
          go_simp
          refine (num_any _ _).mono ?_
          rintro e w1 ⟨rfl, hK1⟩
          exact unhide HCONT _ _ _ (by (try simp only [e0]); rfl) hK1 ⟨_, _, _, _, _, rfl, num_rd _ _ _⟩
        · refine ⟨fun x v => rfl, fun y9 S W hK hJ hSi hall hdep K hcont0 => ?_⟩
          have hcont := hcont0
          clear hcont0
          rw [if_neg (by decide)] at hcont
          have HCONT := hide hcont
          have HKW := hide hK
          clear hcont hK hall hdep hJ hSi
          rw [if_pos (by rfl)]
          go_simp
          exact unhide HCONT _ _ _ rfl (Kept.refl No _) rfl
        · refine ⟨fun x v => rfl, fun y9 S W hK hJ hSi hall hdep K hcont0 => ?_⟩
          have hcont := hcont0
          clear hcont0
          rw [if_neg (by decide)] at hcont
          have HCONT := hide hcont
          have HKW := hide hK
          clear hcont hK hall hdep hJ hSi
          rw [if_pos (by rfl)]
          go_simp
          exact unhide HCONT _ _ _ rfl (Kept.refl No _) rfl
        · refine ⟨fun x v => rfl, fun y9 S W hK hJ hSi hall hdep K hcont0 => ?_⟩
          have hcont := hcont0
          clear hcont0
          rw [if_neg (by decide)] at hcont
          have HCONT := hide hcont
          have HKW := hide hK
          have d2 := hall 2 (by decide) (by decide) (hdep ⟨2, Ground.data⟩ (by simp) rfl)
          have d3 := hall 3 (by decide) (by decide) (hdep ⟨3, Ground.data⟩ (by simp) rfl)
          clear hcont hK hall hdep hJ hSi
          have e2 : y9 2 = .int .i64 n := d2
          have e3 : y9 3 = .int .i64 m := d3
          rw [if_pos (by rfl)]
          simp only [e2, e3]
          go_simp
          rw [unhide EW3]
          exact unhide HCONT _ _ _ (by (try simp only [e2, e3]); rfl) (Kept.refl No _) rfl
        · refine ⟨fun x v => rfl, fun y9 S W hK hJ hSi hall hdep K hcont0 => ?_⟩
          have hcont := hcont0
          clear hcont0
          rw [if_neg (by decide)] at hcont
          have HCONT := hide hcont
          have HKW := hide hK
          have d4 := hall 4 (by decide) (by decide) (hdep ⟨4, Ground.data⟩ (by simp) rfl)
          clear hcont hK hall hdep hJ hSi
          have e4 : y9 4 = .int .i64 (n - m) := d4
          rw [if_pos (by rfl)]
          simp only [e4]
          go_simp
          refine (num_any _ _).mono ?_
          rintro e w1 ⟨rfl, hK1⟩
          exact unhide HCONT _ _ _ (by (try simp only [e4]); rfl) hK1 ⟨_, _, _, _, _, rfl, num_rd _ _ _⟩
        · refine ⟨fun x v => rfl, fun y9 S W hK hJ hSi hall hdep K hcont0 => ?_⟩
          have hcont := hcont0
          clear hcont0
          rw [if_neg (by decide)] at hcont
          have HCONT := hide hcont
          have HKW := hide hK
          have d1 := hall 1 (by decide) (by decide) (hdep ⟨1, Ground.data⟩ (by simp) rfl)
          have d5 := hall 5 (by decide) (by decide) (hdep ⟨5, Ground.data⟩ (by simp) rfl)
          clear hcont hK hall hdep hJ hSi
          obtain ⟨k1, n1, A1, l1, c1, e1, r1⟩ := d1
          obtain ⟨k5, n5, A5, l5, c5, e5, r5⟩ := d5
          rw [if_pos (by rfl)]
          simp only [e1, e5]
          go_simp
          exact unhide HCONT _ _ _ (by (try simp only [e1, e5]); rfl) ((Kept.refl No _).alloc _) (row2_new r1 r5 (fun i hi => .inr (by have h1_ := (unhide HC).z.lt; have h2_ := (unhide HKW).size; omega)))
        · refine ⟨fun x v => rfl, fun y9 S W hK hJ hSi hall hdep K hcont0 => ?_⟩
          have hcont := hcont0
          clear hcont0
          rw [if_neg (by decide)] at hcont
          have HCONT := hide hcont
          have HKW := hide hK
          have d6 := hall 6 (by decide) (by decide) (hdep ⟨6, Ground.data⟩ (by simp) rfl)
          clear hcont hK hall hdep hJ hSi
          obtain ⟨b6, e6, f6, r6⟩ := d6
          rw [if_pos (by rfl)]
          simp only [e6]
          go_simp
          refine (op2_row .add (by rfl) _ b6 (.num m) (.num (n - m)) r6 f6).mono ?_
          rintro e w1 ⟨k_, n_, A_, l_, c_, rfl, hR1, hK1⟩
          exact unhide HCONT _ _ _ (by (try simp only [e6]); rfl) hK1 ⟨_, _, _, _, _, rfl, hR1⟩
        · refine ⟨fun x v => rfl, fun y9 S W hK hJ hSi hall hdep K hcont0 => ?_⟩
          have hcont := hcont0
          clear hcont0
          rw [if_neg (by decide)] at hcont
          have HCONT := hide hcont
          have HKW := hide hK
          clear hcont hK hall hdep hJ hSi
          rw [if_pos (by rfl)]
          go_simp
          exact unhide HCONT _ _ _ rfl (Kept.refl No _) rfl
        · refine ⟨fun x v => rfl, fun y9 S W hK hJ hSi hall hdep K hcont0 => ?_⟩
          have hcont := hcont0
          clear hcont0
          rw [if_neg (by decide)] at hcont
          have HCONT := hide hcont
          have HKW := hide hK
          clear hcont hK hall hdep hJ hSi
          rw [if_pos (by rfl)]
          go_simp
          exact unhide HCONT _ _ _ rfl (Kept.refl No _) rfl
        · refine ⟨fun x v => rfl, fun y9 S W hK hJ hSi hall hdep K hcont0 => ?_⟩
          have hcont := hcont0
          clear hcont0
          rw [if_neg (by decide)] at hcont
          have HCONT := hide hcont
          have HKW := hide hK
          have d8 := hall 8 (by decide) (by decide) (hdep ⟨8, Ground.data⟩ (by simp) rfl)
          have d9 := hall 9 (by decide) (by decide) (hdep ⟨9, Ground.data⟩ (by simp) rfl)
          clear hcont hK hall hdep hJ hSi
          have e8 : y9 8 = .int .i64 n := d8
          have e9 : y9 9 = .int .i64 d := d9
          rw [if_pos (by rfl)]
          simp only [e8, e9]
          go_simp
          rw [unhide EW4]
          exact unhide HCONT _ _ _ (by (try simp only [e8, e9]); rfl) (Kept.refl No _) rfl
        · refine ⟨fun x v => rfl, fun y9 S W hK hJ hSi hall hdep K hcont0 => ?_⟩
          have hcont := hcont0
          clear hcont0
          rw [if_neg (by decide)] at hcont
          have HCONT := hide hcont
          have HKW := hide hK
          have d10 := hall 10 (by decide) (by decide) (hdep ⟨10, Ground.data⟩ (by simp) rfl)
          clear hcont hK hall hdep hJ hSi
          have e10 : y9 10 = .int .i64 (n + d) := d10
          rw [if_pos (by rfl)]
          simp only [e10]
          go_simp
          refine (num_any _ _).mono ?_
          rintro e w1 ⟨rfl, hK1⟩
          exact unhide HCONT _ _ _ (by (try simp only [e10]); rfl) hK1 ⟨_, _, _, _, _, rfl, num_rd _ _ _⟩
        · refine ⟨fun x v => rfl, fun y9 S W hK hJ hSi hall hdep K hcont0 => ?_⟩
          have hcont := hcont0
          clear hcont0
          rw [if_neg (by decide)] at hcont
          have HCONT := hide hcont
          have HKW := hide hK
          clear hcont hK hall hdep hJ hSi
          rw [if_pos (by rfl)]
          go_simp
          exact unhide HCONT _ _ _ rfl (Kept.refl No _) rfl
        · refine ⟨fun x v => rfl, fun y9 S W hK hJ hSi hall hdep K hcont0 => ?_⟩
          have hcont := hcont0
          clear hcont0
          rw [if_neg (by decide)] at hcont
          have HCONT := hide hcont
          have HKW := hide hK
          have d12 := hall 12 (by decide) (by decide) (hdep ⟨12, Ground.data⟩ (by simp) rfl)
          clear hcont hK hall hdep hJ hSi
          have e12 : y9 12 = .int .i64 d := d12
          rw [if_pos (by rfl)]
          simp only [e12]
          go_simp
          refine (num_any _ _).mono ?_
          rintro e w1 ⟨rfl, hK1⟩
          exact unhide HCONT _ _ _ (by (try simp only [e12]); rfl) hK1 ⟨_, _, _, _, _, rfl, num_rd _ _ _⟩
        · refine ⟨fun x v => rfl, fun y9 S W hK hJ hSi hall hdep K hcont0 => ?_⟩
          have hcont := hcont0
          clear hcont0
          rw [if_neg (by decide)] at hcont
          have HCONT := hide hcont
          have HKW := hide hK
          have d11 := hall 11 (by decide) (by decide) (hdep ⟨11, Ground.data⟩ (by simp) rfl)
          have d13 := hall 13 (by decide) (by decide) (hdep ⟨13, Ground.data⟩ (by simp) rfl)
          clear hcont hK hall hdep hJ hSi
          obtain ⟨k11, n11, A11, l11, c11, e11, r11⟩ := d11
          obtain ⟨k13, n13, A13, l13, c13, e13, r13⟩ := d13
          rw [if_pos (by rfl)]
          simp only [e11, e13]
          go_simp
          exact unhide HCONT _ _ _ (by (try simp only [e11, e13]); rfl) ((Kept.refl No _).alloc _) (row2_new r11 r13 (fun i hi => .inr (by have h1_ := (unhide HC).z.lt; have h2_ := (unhide HKW).size; omega)))
        · refine ⟨fun x v => rfl, fun y9 S W hK hJ hSi hall hdep K hcont0 => ?_⟩
          have hcont := hcont0
          clear hcont0
          rw [if_neg (by decide)] at hcont
          have HCONT := hide hcont
          have HKW := hide hK
          have d14 := hall 14 (by decide) (by decide) (hdep ⟨14, Ground.data⟩ (by simp) rfl)
          clear hcont hK hall hdep hJ hSi
          obtain ⟨b14, e14, f14, r14⟩ := d14
          rw [if_pos (by rfl)]
          simp only [e14]
          go_simp
          refine (op2_row .sub (by rfl) _ b14 (.num (n + d)) (.num d) r14 f14).mono ?_
          rintro e w1 ⟨k_, n_, A_, l_, c_, rfl, hR1, hK1⟩
          exact unhide HCONT _ _ _ (by (try simp only [e14]); rfl) hK1 ⟨_, _, _, _, _, rfl, hR1⟩
        · refine ⟨fun x v => rfl, fun y9 S W hK hJ hSi hall hdep K hcont0 => ?_⟩
          have hcont := hcont0
          clear hcont0
          rw [if_neg (by decide)] at hcont
          have HCONT := hide hcont
          have HKW := hide hK
          clear hcont hK hall hdep hJ hSi
          rw [if_pos (by rfl)]
          go_simp
          exact unhide HCONT _ _ _ rfl (Kept.refl No _) rfl
        · refine ⟨fun x v => rfl, fun y9 S W hK hJ hSi hall hdep K hcont0 => ?_⟩
          have hcont := hcont0
          clear hcont0
          rw [if_neg (by decide)] at hcont
          have HCONT := hide hcont
          have HKW := hide hK
          clear hcont hK hall hdep hJ hSi
          rw [if_pos (by rfl)]
          go_simp
          exact unhide HCONT _ _ _ rfl (Kept.refl No _) rfl
        · refine ⟨fun x v => rfl, fun y9 S W hK hJ hSi hall hdep K hcont0 => ?_⟩
          have hcont := hcont0
          clear hcont0
          rw [if_neg (by decide)] at hcont
          have HCONT := hide hcont
          have HKW := hide hK
          have d16 := hall 16 (by decide) (by decide) (hdep ⟨16, Ground.data⟩ (by simp) rfl)
          have d17 := hall 17 (by decide) (by decide) (hdep ⟨17, Ground.data⟩ (by simp) rfl)
          clear hcont hK hall hdep hJ hSi
          have e16 : y9 16 = .int .i64 n := d16
          have e17 : y9 17 = .int .i64 d := d17
          rw [if_pos (by rfl)]
          simp only [e16, e17]
          go_simp
          rw [unhide EW5]
          exact unhide HCONT _ _ _ (by (try simp only [e16, e17]); rfl) (Kept.refl No _) rfl
        · refine ⟨fun x v => rfl, fun y9 S W hK hJ hSi hall hdep K hcont0 => ?_⟩
          have hcont := hcont0
          clear hcont0
          rw [if_neg (by decide)] at hcont
          have HCONT := hide hcont
          have HKW := hide hK
          have d18 := hall 18 (by decide) (by decide) (hdep ⟨18, Ground.data⟩ (by simp) rfl)
          clear hcont hK hall hdep hJ hSi
          have e18 : y9 18 = .int .i64 (n.tdiv d) := d18
          rw [if_pos (by rfl)]
          simp only [e18]
          go_simp
          refine (num_any _ _).mono ?_
          rintro e w1 ⟨rfl, hK1⟩
          exact unhide HCONT _ _ _ (by (try simp only [e18]); rfl) hK1 ⟨_, _, _, _, _, rfl, num_rd _ _ _⟩
        · refine ⟨fun x v => rfl, fun y9 S W hK hJ hSi hall hdep K hcont0 => ?_⟩
          have hcont := hcont0
          clear hcont0
          rw [if_neg (by decide)] at hcont
          have HCONT := hide hcont
          have HKW := hide hK
          clear hcont hK hall hdep hJ hSi
          rw [if_pos (by rfl)]
          go_simp
          exact unhide HCONT _ _ _ rfl (Kept.refl No _) rfl
        · refine ⟨fun x v => rfl, fun y9 S W hK hJ hSi hall hdep K hcont0 => ?_⟩
          have hcont := hcont0
          clear hcont0
          rw [if_neg (by decide)] at hcont
          have HCONT := hide hcont
          have HKW := hide hK
          have d20 := hall 20 (by decide) (by decide) (hdep ⟨20, Ground.data⟩ (by simp) rfl)
          clear hcont hK hall hdep hJ hSi
          have e20 : y9 20 = .int .i64 d := d20
          rw [if_pos (by rfl)]
          simp only [e20]
          go_simp
          refine (num_any _ _).mono ?_
          rintro e w1 ⟨rfl, hK1⟩
          exact unhide HCONT _ _ _ (by (try simp only [e20]); rfl) hK1 ⟨_, _, _, _, _, rfl, num_rd _ _ _⟩
        · refine ⟨fun x v => rfl, fun y9 S W hK hJ hSi hall hdep K hcont0 => ?_⟩
          have hcont := hcont0
          clear hcont0
          rw [if_neg (by decide)] at hcont
          have HCONT := hide hcont
          have HKW := hide hK
          have d19 := hall 19 (by decide) (by decide) (hdep ⟨19, Ground.data⟩ (by simp) rfl)
          have d21 := hall 21 (by decide) (by decide) (hdep ⟨21, Ground.data⟩ (by simp) rfl)
          clear hcont hK hall hdep hJ hSi
          obtain ⟨k19, n19, A19, l19, c19, e19, r19⟩ := d19
          obtain ⟨k21, n21, A21, l21, c21, e21, r21⟩ := d21
          rw [if_pos (by rfl)]
          simp only [e19, e21]
          go_simp
          exact unhide HCONT _ _ _ (by (try simp only [e19, e21]); rfl) ((Kept.refl No _).alloc _) (row2_new r19 r21 (fun i hi => .inr (by have h1_ := (unhide HC).z.lt; have h2_ := (unhide HKW).size; omega)))
        · refine ⟨fun x v => rfl, fun y9 S W hK hJ hSi hall hdep K hcont0 => ?_⟩
          have hcont := hcont0
          clear hcont0
          rw [if_neg (by decide)] at hcont
          have HCONT := hide hcont
          have HKW := hide hK
          have d22 := hall 22 (by decide) (by decide) (hdep ⟨22, Ground.data⟩ (by simp) rfl)
          clear hcont hK hall hdep hJ hSi
          obtain ⟨b22, e22, f22, r22⟩ := d22
          rw [if_pos (by rfl)]
          simp only [e22]
          go_simp
          refine (op2_row .mul (by rfl) _ b22 (.num (n.tdiv d)) (.num d) r22 f22).mono ?_
          rintro e w1 ⟨k_, n_, A_, l_, c_, rfl, hR1, hK1⟩
          exact unhide HCONT _ _ _ (by (try simp only [e22]); rfl) hK1 ⟨_, _, _, _, _, rfl, hR1⟩
        · refine ⟨fun x v => rfl, fun y9 S W hK hJ hSi hall hdep K hcont0 => ?_⟩
          have hcont := hcont0
          clear hcont0
          rw [if_neg (by decide)] at hcont
          have HCONT := hide hcont
          have HKW := hide hK
          clear hcont hK hall hdep hJ hSi
          rw [if_pos (by rfl)]
          go_simp
          exact unhide HCONT _ _ _ rfl (Kept.refl No _) rfl
        · refine ⟨fun x v => rfl, fun y9 S W hK hJ hSi hall hdep K hcont0 => ?_⟩
          have hcont := hcont0
          clear hcont0
          rw [if_neg (by decide)] at hcont
          have HCONT := hide hcont
          have HKW := hide hK
          clear hcont hK hall hdep hJ hSi
          rw [if_pos (by rfl)]
          go_simp
          exact unhide HCONT _ _ _ rfl (Kept.refl No _) rfl
        · refine ⟨fun x v => rfl, fun y9 S W hK hJ hSi hall hdep K hcont0 => ?_⟩
          have hcont := hcont0
          clear hcont0
          rw [if_neg (by decide)] at hcont
          have HCONT := hide hcont
          have HKW := hide hK
          have d24 := hall 24 (by decide) (by decide) (hdep ⟨24, Ground.data⟩ (by simp) rfl)
          have d25 := hall 25 (by decide) (by decide) (hdep ⟨25, Ground.data⟩ (by simp) rfl)
          clear hcont hK hall hdep hJ hSi
          have e24 : y9 24 = .int .i64 n := d24
          have e25 : y9 25 = .int .i64 d := d25
          rw [if_pos (by rfl)]
          simp only [e24, e25]
          go_simp
          exact unhide HCONT _ _ _ (by (try simp only [e24, e25]); rfl) (Kept.refl No _) rfl
        · refine ⟨fun x v => rfl, fun y9 S W hK hJ hSi hall hdep K hcont0 => ?_⟩
          have hcont := hcont0
          clear hcont0
          rw [if_neg (by decide)] at hcont
          have HCONT := hide hcont
          have HKW := hide hK
          have d26 := hall 26 (by decide) (by decide) (hdep ⟨26, Ground.data⟩ (by simp) rfl)
          clear hcont hK hall hdep hJ hSi
          have e26 : y9 26 = .int .i64 (n.tmod d) := d26
          rw [if_pos (by rfl)]
          simp only [e26]
          go_simp
          refine (num_any _ _).mono ?_
          rintro e w1 ⟨rfl, hK1⟩
          exact unhide HCONT _ _ _ (by (try simp only [e26]); rfl) hK1 ⟨_, _, _, _, _, rfl, num_rd _ _ _⟩
        · refine ⟨fun x v => rfl, fun y9 S W hK hJ hSi hall hdep K hcont0 => ?_⟩
          have hcont := hcont0
          clear hcont0
          rw [if_neg (by decide)] at hcont
          have HCONT := hide hcont
          have HKW := hide hK
          have d23 := hall 23 (by decide) (by decide) (hdep ⟨23, Ground.data⟩ (by simp) rfl)
          have d27 := hall 27 (by decide) (by decide) (hdep ⟨27, Ground.data⟩ (by simp) rfl)
          clear hcont hK hall hdep hJ hSi
          obtain ⟨k23, n23, A23, l23, c23, e23, r23⟩ := d23
          obtain ⟨k27, n27, A27, l27, c27, e27, r27⟩ := d27
          rw [if_pos (by rfl)]
          simp only [e23, e27]
          go_simp
          exact unhide HCONT _ _ _ (by (try simp only [e23, e27]); rfl) ((Kept.refl No _).alloc _) (row2_new r23 r27 (fun i hi => .inr (by have h1_ := (unhide HC).z.lt; have h2_ := (unhide HKW).size; omega)))
        · refine ⟨fun x v => rfl, fun y9 S W hK hJ hSi hall hdep K hcont0 => ?_⟩
          have hcont := hcont0
          clear hcont0
          rw [if_neg (by decide)] at hcont
          have HCONT := hide hcont
          have HKW := hide hK
          have d28 := hall 28 (by decide) (by decide) (hdep ⟨28, Ground.data⟩ (by simp) rfl)
          clear hcont hK hall hdep hJ hSi
          obtain ⟨b28, e28, f28, r28⟩ := d28
          rw [if_pos (by rfl)]
          simp only [e28]
          go_simp
          refine (op2_row .add (by rfl) _ b28 (.bin .mul (.num (n.tdiv d)) (.num d)) (.num (n.tmod d)) r28 f28).mono ?_
          rintro e w1 ⟨k_, n_, A_, l_, c_, rfl, hR1, hK1⟩
          exact unhide HCONT _ _ _ (by (try simp only [e28]); rfl) hK1 ⟨_, _, _, _, _, rfl, hR1⟩
        · refine ⟨fun x v => rfl, fun y9 S W hK hJ hSi hall hdep K hcont0 => ?_⟩
          have hcont := hcont0
          clear hcont0
          rw [if_neg (by decide)] at hcont
          have HCONT := hide hcont
          have HKW := hide hK
          have d7 := hall 7 (by decide) (by decide) (hdep ⟨7, Ground.data⟩ (by simp) rfl)
          have d15 := hall 15 (by decide) (by decide) (hdep ⟨15, Ground.data⟩ (by simp) rfl)
          have d29 := hall 29 (by decide) (by decide) (hdep ⟨29, Ground.data⟩ (by simp) rfl)
          clear hcont hK hall hdep hJ hSi
          obtain ⟨k7, n7, A7, l7, c7, e7, r7⟩ := d7
          obtain ⟨k15, n15, A15, l15, c15, e15, r15⟩ := d15
          obtain ⟨k29, n29, A29, l29, c29, e29, r29⟩ := d29
          rw [if_pos (by rfl)]
          simp only [e7, e15, e29]
          go_simp
          exact unhide HCONT _ _ _ (by (try simp only [e7, e15, e29]); rfl) ((Kept.refl No _).alloc _) (row3_new r7 r15 r29 (fun i hi => .inr (by have h1_ := (unhide HC).z.lt; have h2_ := (unhide HKW).size; omega)))
        · refine ⟨fun x v => rfl, fun y9 S W hK hJ hSi hall hdep K hcont0 => ?_⟩
          have hcont := hcont0
          clear hcont0
          rw [if_neg (by decide)] at hcont
          have HCONT := hide hcont
          have HKW := hide hK
          clear hcont hK hall hdep hJ hSi
          rw [if_pos (by rfl)]
          go_simp
          exact unhide HCONT _ _ _ rfl (Kept.refl No _) rfl
        · refine ⟨fun x v => rfl, fun y9 S W hK hJ hSi hall hdep K hcont0 => ?_⟩
          have hcont := hcont0
          clear hcont0
          rw [if_neg (by decide)] at hcont
          have HCONT := hide hcont
          have HKW := hide hK
          have d30 := hall 30 (by decide) (by decide) (hdep ⟨30, Ground.data⟩ (by simp) rfl)
          have d31 := hall 31 (by decide) (by decide) (hdep ⟨31, Ground.data⟩ (by simp) rfl)
          clear hcont hK hall hdep hJ hSi
          obtain ⟨b30, e30, f30, r30⟩ := d30
          have e31 : y9 31 = .int .i64 2 := d31
          rw [if_pos (by rfl)]
          simp only [e30, e31]
          go_simp
          exact unhide HCONT _ _ _ (by (try simp only [e30, e31]); rfl) (Kept.refl No _) ⟨b30, _, rfl, f30, r30 2 _ rfl⟩
        · refine ⟨fun x v => rfl, fun y9 S W hK hJ hSi hall hdep K hcont0 => ?_⟩
          have hcont := hcont0
          clear hcont0
          rw [if_neg (by decide)] at hcont
          have HCONT := hide hcont
          have HKW := hide hK
          have d32 := hall 32 (by decide) (by decide) (hdep ⟨32, Ground.data⟩ (by simp) rfl)
          clear hcont hK hall hdep hJ hSi
          obtain ⟨b32, o32, e32, ff32, kk32, nn32, AA32, ll32, cc32, ⟨yy032, yy132, yy232⟩, r32⟩ := d32
          rw [if_pos (by rfl)]
          simp only [e32]
          go_simp
          exact unhide HCONT _ _ _ (by (try simp only [e32]); rfl) (Kept.refl No _) ⟨_, _, _, _, _, rfl, r32⟩
        · refine ⟨fun x v => rfl, fun y9 S W hK hJ hSi hall hdep K hcont0 => ?_⟩
          have hcont := hcont0
          clear hcont0
          rw [if_neg (by decide)] at hcont
          have HCONT := hide hcont
          have HKW := hide hK
          clear hcont hK hall hdep hJ hSi
          rw [if_pos (by rfl)]
          go_simp
          exact unhide HCONT _ _ _ rfl (Kept.refl No _) rfl
        · refine ⟨fun x v => rfl, fun y9 S W hK hJ hSi hall hdep K hcont0 => ?_⟩
          have hcont := hcont0
          clear hcont0
          rw [if_neg (by decide)] at hcont
          have HCONT := hide hcont
          have HKW := hide hK
          have d34 := hall 34 (by decide) (by decide) (hdep ⟨34, Ground.data⟩ (by simp) rfl)
          clear hcont hK hall hdep hJ hSi
          have e34 : y9 34 = .pointer (some ⟨w.heap.size, 0, none⟩) := d34
          obtain xs0 := ((unhide HC).x.kept (unhide HKW) (one_ne (by omega))).cell 0
          rw [if_pos (by rfl)]
          simp only [e34]
          go_simp
          exact unhide HCONT _ _ _ (by (try simp only [e34]); rfl) (Kept.refl No _) rfl
        · refine ⟨fun x v => rfl, fun y9 S W hK hJ hSi hall hdep K hcont0 => ?_⟩
          have hcont := hcont0
          clear hcont0
          rw [if_neg (by decide)] at hcont
          have HCONT := hide hcont
          have HKW := hide hK
          have d35 := hall 35 (by decide) (by decide) (hdep ⟨35, Ground.data⟩ (by simp) rfl)
          clear hcont hK hall hdep hJ hSi
          have e35 : y9 35 = .int .i64 1 := d35
          rw [if_pos (by rfl)]
          simp only [e35]
          go_simp
          exact unhide HCONT _ _ _ (by (try simp only [e35]); rfl) (Kept.refl No _) rfl
        · refine ⟨fun x v => rfl, fun y9 S W hK hJ hSi hall hdep K hcont0 => ?_⟩
          have hcont := hcont0
          clear hcont0
          rw [if_pos rfl] at hcont
          have HCONT := hide hcont
          have HKW := hide hK
          have d33 := hall 33 (by decide) (by decide) (hdep ⟨33, Ground.data⟩ (by simp) rfl)
          have HJ := hide (hJ hSi)
          clear hcont hK hall hdep hJ hSi
          obtain ⟨k33, n33, A33, l33, c33, e33, r33⟩ := d33
          obtain ⟨f0, f1, f2, z0, z1, z2, hlt⟩ : _ ∧ _ ∧ _ ∧ _ ∧ _ ∧ _ ∧ _ := ⟨(unhide HJ).frozen 0, (unhide HJ).frozen 1, (unhide HJ).frozen 2, (unhide HJ).cell 0, (unhide HJ).cell 1, (unhide HJ).cell 2, (unhide HJ).lt⟩
          rw [if_pos (by rfl)]
          simp only [e33]
          go_simp
          exact unhide HCONT undef _ _ (by (try simp only [e33]); rfl) ((((Kept.refl _ _).one 0 _).one 1 _).one 2 _) ⟨_, _, _, _, _, (((unhide HJ).set_ 0 _).set_ 1 _).set_ 2 _, r33.kept ((((Kept.refl (One (w.heap.size + 1)) _).one 0 _).one 1 _).one 2 _) (fun i _ hi => one_ne hi.ne)⟩
      · intro y9 W hK hZ hx
        have e36 : y9 36 = .bool true := hx 36 (by decide) (by decide)
        obtain ⟨k4, n4, A4, l4, c4, hBz, hr4⟩ := hZ
        have hKw := (unhide HC).kept.trans hK (fun i hi h => by unfold One at h; omega)
        have HBZ := hide hBz
        have HR4 := hide hr4
        have HKw := hide hKw
        have z0 : W.cell? ⟨w.heap.size + 1, 0, none⟩ = some (.int .i64 k4) := hBz.cell 0
        have z1 : W.cell? ⟨w.heap.size + 1, 1, none⟩ = some (.int .i64 n4) := hBz.cell 1
        have z2 : W.cell? ⟨w.heap.size + 1, 2, none⟩ = some (.slice A4 l4 c4) := hBz.cell 2
        simp only [e36, List.drop]
        clear hK hx e36 hBz hr4 hKw
        go_wp2_with fail
        refine bodyPost_ret (v := .tuple #[.agg #[.int .i64 k4, .int .i64 n4, .slice A4 l4 c4], .bool true]) (by simp [results, Tryd.results32, go_sem, z0, z1, z2]) rfl ?_
        exact ⟨k4, n4, A4, l4, c4, rfl, unhide HKw, (unhide HR4).mono (fun _ _ h => h.out)⟩
set_option maxRecDepth 100000 in
set_option maxHeartbeats 4000000 in
theorem part_oth0 (hw bv : Int) (hb1 hb2 : Nat) (w0 w : World) (F : Nat → Prop) (k n : Int) (A : Option Addr) (l c : Nat) (m d : Int) (tr : Bool) (hK0 : Kept No w0 w) (hH1 : Blk w0 hb1 3 #[.int .i64 hw]) (hH2 : Blk w0 hb2 3 #[.int .i64 bv]) (hn0 : 0 ≤ n) (hnm : n ≤ 2147483647) (hm : pickF bv (n + 1) = m) (hd : pickF bv 20 = d - 1) (hp : pickF hw 7 = 0) (hk : k ≠ 1) :
    Calls Tryd.prog 32 #[.agg #[.int .i64 k, .int .i64 n, .slice A l c], .bool tr, .pointer (some ⟨hb1, 0, none⟩), .pointer (some ⟨hb2, 0, none⟩)] w (MadeB w F (numE 0 m d n (.num n)) false) := by
  have dk : (k == 1) = false := by rw [beq_eq_false_iff_ne]; exact hk
  clear hk
  have hB1 := hH1.kept hK0 id
  have hB2 := hH2.kept hK0 id
  have h1 : w.cell? ⟨hb1, 0, none⟩ = some (.int .i64 hw) := hB1.cell 0
  have h2 : w.cell? ⟨hb2, 0, none⟩ = some (.int .i64 bv) := hB2.cell 0
  have hbw1 := hB1.lt
  have hbw2 := hB2.lt
  have HB1 := hide hB1
  have HB2 := hide hB2
  have HP := hide hp
  have HM := hide hm
  have HD := hide hd
  have hm0 : 0 ≤ m ∧ m ≤ n := by have := pickF_range (x := bv) (n := n + 1) (by omega); omega
  have hd0 : 1 ≤ d ∧ d ≤ 20 := by have := pickF_range (x := bv) (n := 20) (by omega); omega
  obtain ⟨hm1, hm2⟩ := hm0
  obtain ⟨hd1, hd2⟩ := hd0
  have hn1 : (1 : Int) ≤ n + 1 := by omega
  have hn2 : n + 1 ≤ 9223372036854775807 := by omega
  have EW1 := hide (show IntKind.i64.wrap (n + 1) = n + 1 from IntWalk.i64_in _ (by omega))
  have EW2 := hide (show IntKind.i64.wrap d = d from IntWalk.i64_in _ (by omega))
  have EW3 := hide (show IntKind.i64.wrap (n - m) = n - m from IntWalk.i64_in _ (by omega))
  have EW4 := hide (show IntKind.i64.wrap (n + d) = n + d from IntWalk.i64_in _ (by omega))
  have htd : 0 ≤ n.tdiv d ∧ n.tdiv d ≤ n := by
    rw [Int.tdiv_eq_ediv_of_nonneg hn0]
    exact ⟨Int.ediv_nonneg hn0 (by omega), Int.ediv_le_self _ hn0⟩
  have htm : 0 ≤ n.tmod d ∧ n.tmod d ≤ 20 := by
    rw [Int.tmod_eq_emod_of_nonneg hn0]
    have h3 := Int.emod_nonneg n (show d ≠ 0 by omega)
    have h4 := Int.emod_lt_of_pos n (show 0 < d by omega)
    omega
  have EW5 := hide (show IntKind.i64.wrap (n.tdiv d) = n.tdiv d from IntWalk.i64_in _ (by omega))
  have EW6 := hide (show IntKind.i64.wrap (n.tmod d) = n.tmod d from IntWalk.i64_in _ (by omega))
  clear htd htm
  have HN1 := hide hn1
  have HN2 := hide hn2
  have hd0 : ¬ d = 0 := by omega
  have hd3 : (d == 0) = false := by rw [beq_eq_false_iff_ne]; exact hd0
  clear hK0 hH1 hH2 hp hm hd hB1 hB2
  go_enter Tryd.func32, Tryd.ntmps32
  go_wp2_with fail
  have HC := hide (Ctx.start w k n A l c)
  generalize (w.alloc (.cells #[.int .i64 k, .int .i64 n, .slice A l c] 24)).alloc (.cells #[.int .i64 0, .int .i64 0, .slice none 0 0] 24) = V at HC ⊢
  refine wp_region_inv 4 [] (by kernel_rfl) (by kernel_rfl) (fun y1 => { tmps := #[Value.agg #[Value.int IntKind.i64 k, Value.int IntKind.i64 n, Value.slice A l c], Value.bool tr, Value.pointer (some { block := hb1, off := 0 }), Value.pointer (some { block := hb2, off := 0 }), Value.pointer (some { block := w.heap.size, off := 0 }), undef, Value.pointer (some { block := w.heap.size + 1, off := 0 }), Value.bool false, undef, undef, undef, undef, y1 0, y1 1, y1 2, y1 3, undef, undef, undef, undef, undef, undef, undef, undef, undef, undef, undef, undef, undef, undef, undef, undef, undef, undef, undef, undef, undef, undef, undef, undef, undef, undef, undef, undef, undef, undef, undef, undef, undef, undef, undef, undef, undef, undef, undef, undef, undef, undef, undef, undef, undef, undef, undef, undef, undef, undef, undef, undef, undef, undef, undef, undef, undef, undef, undef, undef, undef, undef, undef, undef, undef, undef, undef], defers := [] }) (fun _ => undef) (fun i v W => Sh.ok (FN F w) W (([Sh.val (.pointer (some ⟨w.heap.size, 1, none⟩)), Sh.val (.int .i64 n), Sh.val (.int .i64 hw), Sh.val (.int .i64 0)] : List Sh).getD i .any) v) (fun i v W W' hK h => Sh.kept hK _ _ h) ?_ ?_
  · refine ⟨?_, ?_, ?_, ?_, trivial⟩
    · refine ⟨fun x v => rfl, fun y1 S W hK hall hdep K hcont => ?_⟩
      have HCONT := hide hcont
      have HKW := hide hK
      clear hcont hK hall hdep
      rw [if_pos (by rfl)]
      go_simp
      exact unhide HCONT _ _ _ rfl (Kept.refl No _) rfl (fun h => absurd h (by decide))
    · refine ⟨fun x v => rfl, fun y1 S W hK hall hdep K hcont => ?_⟩
      have HCONT := hide hcont
      have HKW := hide hK
      have d0 := hall 0 (by decide) (hdep ⟨0, Ground.data⟩ (by simp) rfl)
      clear hcont hK hall hdep
      have e0 : y1 0 = .pointer (some ⟨w.heap.size, 1, none⟩) := d0
      obtain ⟨xs0, xs1, xs2⟩ := ((unhide HC).go (unhide HKW)).xs
      rw [if_pos (by rfl)]
      simp only [e0]
      go_simp
      exact unhide HCONT _ _ _ (by (try simp only [e0]); rfl) (Kept.refl No _) rfl (fun h => absurd h (by decide))
    · refine ⟨fun x v => rfl, fun y1 S W hK hall hdep K hcont => ?_⟩
      have HCONT := hide hcont
      have HKW := hide hK
      clear hcont hK hall hdep
      have hq := (((unhide HB1).kept (unhide HC).kept id).kept (unhide HKW) id).cell 0
      rw [if_pos (by rfl)]
      go_simp
      exact unhide HCONT _ _ _ rfl (Kept.refl No _) rfl (fun h => absurd h (by decide))
    · refine ⟨fun x v => rfl, fun y1 S W hK hall hdep K hcont => ?_⟩
      have HCONT := hide hcont
      have HKW := hide hK
      have d2 := hall 2 (by decide) (hdep ⟨2, Ground.data⟩ (by simp) rfl)
      clear hcont hK hall hdep
      have e2 : y1 2 = .int .i64 hw := d2
      rw [if_pos (by rfl)]
      simp only [e2]
      go_simp
      refine (pick_any hw 7 (by omega) (by omega) _).mono ?_
      rintro e w4 ⟨rfl, rfl⟩
      rw [unhide HP]
      exact unhide HCONT _ _ _ (by (try simp only [e2]); rfl) (Kept.refl No _) rfl (fun h => absurd h (by decide))
  · intro y1 W1 hK hx hD
    have en : y1 1 = .int .i64 n := hx 1 (by decide)
    have ep : y1 3 = .int .i64 0 := hx 3 (by decide)
    have hvz := (unhide HC).z.lt
    have HC := hide ((unhide HC).go hK)
    simp only [en, ep, List.drop]
    clear hK hx hD hvz en ep
    go_wp2_with fail
    refine wp_region_inv 8 [] (by kernel_rfl) (by kernel_rfl) (fun y2 => { tmps := #[Value.agg #[Value.int IntKind.i64 k, Value.int IntKind.i64 n, Value.slice A l c], Value.bool tr, Value.pointer (some { block := hb1, off := 0 }), Value.pointer (some { block := hb2, off := 0 }), Value.pointer (some { block := w.heap.size, off := 0 }), undef, Value.pointer (some { block := w.heap.size + 1, off := 0 }), Value.bool false, Value.int IntKind.i64 n, Value.int IntKind.i64 0, y2 7, undef, y1 0, Value.int IntKind.i64 n, y1 2, Value.int IntKind.i64 0, y2 0, y2 1, y2 2, y2 3, y2 4, y2 5, y2 6, undef, undef, undef, undef, undef, undef, undef, undef, undef, undef, undef, undef, undef, undef, undef, undef, undef, undef, undef, undef, undef, undef, undef, undef, undef, undef, undef, undef, undef, undef, undef, undef, undef, undef, undef, undef, undef, undef, undef, undef, undef, undef, undef, undef, undef, undef, undef, undef, undef, undef, undef, undef, undef, undef, undef, undef, undef, undef, undef, undef], defers := [] }) (fun _ => undef) (fun i v W => Sh.ok (FN F w) W (([Sh.val (.int .i64 bv), Sh.val (Value.int IntKind.i64 n), Sh.val (.int .i64 (n + 1)), Sh.val (.int .i64 m), Sh.val (.int .i64 bv), Sh.val (.int .i64 (d - 1)), Sh.val (.int .i64 d), Sh.val (.int .i64 m)] : List Sh).getD i .any) v) (fun i v W W' hK h => Sh.kept hK _ _ h) ?_ ?_
    · refine ⟨?_, ?_, ?_, ?_, ?_, ?_, ?_, ?_, trivial⟩
      · refine ⟨fun x v => rfl, fun y2 S W hK hall hdep K hcont => ?_⟩
        have HCONT := hide hcont
        have HKW := hide hK
        clear hcont hK hall hdep
        have hq := (((unhide HB2).kept (unhide HC).kept id).kept (unhide HKW) id).cell 0
        rw [if_pos (by rfl)]
        go_simp
        exact unhide HCONT _ _ _ rfl (Kept.refl No _) rfl (fun h => absurd h (by decide))
      · refine ⟨fun x v => rfl, fun y2 S W hK hall hdep K hcont => ?_⟩
        have HCONT := hide hcont
        have HKW := hide hK
        clear hcont hK hall hdep
        rw [if_pos (by rfl)]
        go_simp
        exact unhide HCONT _ _ _ rfl (Kept.refl No _) rfl (fun h => absurd h (by decide))
      · refine ⟨fun x v => rfl, fun y2 S W hK hall hdep K hcont => ?_⟩
        have HCONT := hide hcont
        have HKW := hide hK
        have d1 := hall 1 (by decide) (hdep ⟨1, Ground.data⟩ (by simp) rfl)
        clear hcont hK hall hdep
        have e1 : y2 1 = Value.int IntKind.i64 n := d1
        rw [if_pos (by rfl)]
        simp only [e1]
        go_simp
        rw [unhide EW1]
        exact unhide HCONT _ _ _ (by (try simp only [e1]); rfl) (Kept.refl No _) rfl (fun h => absurd h (by decide))
      · refine ⟨fun x v => rfl, fun y2 S W hK hall hdep K hcont => ?_⟩
        have HCONT := hide hcont
        have HKW := hide hK
        have d0 := hall 0 (by decide) (hdep ⟨0, Ground.data⟩ (by simp) rfl)
        have d2 := hall 2 (by decide) (hdep ⟨2, Ground.data⟩ (by simp) rfl)
        clear hcont hK hall hdep
        have e0 : y2 0 = .int .i64 bv := d0
        have e2 : y2 2 = .int .i64 (n + 1) := d2
        rw [if_pos (by rfl)]
        simp only [e0, e2]
        go_simp
        refine (pick_any bv (n + 1) (unhide HN1) (unhide HN2) _).mono ?_
        rintro e w4 ⟨rfl, rfl⟩
        rw [unhide HM]
        exact unhide HCONT _ _ _ (by (try simp only [e0, e2]); rfl) (Kept.refl No _) rfl (fun h => absurd h (by decide))
      · refine ⟨fun x v => rfl, fun y2 S W hK hall hdep K hcont => ?_⟩
        have HCONT := hide hcont
        have HKW := hide hK
        clear hcont hK hall hdep
        have hq := (((unhide HB2).kept (unhide HC).kept id).kept (unhide HKW) id).cell 0
        rw [if_pos (by rfl)]
        go_simp
        exact unhide HCONT _ _ _ rfl (Kept.refl No _) rfl (fun h => absurd h (by decide))
      · refine ⟨fun x v => rfl, fun y2 S W hK hall hdep K hcont => ?_⟩
        have HCONT := hide hcont
        have HKW := hide hK
        have d4 := hall 4 (by decide) (hdep ⟨4, Ground.data⟩ (by simp) rfl)
        clear hcont hK hall hdep
        have e4 : y2 4 = .int .i64 bv := d4
        rw [if_pos (by rfl)]
        simp only [e4]
        go_simp
        refine (pick_any bv 20 (by omega) (by omega) _).mono ?_
        rintro e w4 ⟨rfl, rfl⟩
        rw [unhide HD]
        exact unhide HCONT _ _ _ (by (try simp only [e4]); rfl) (Kept.refl No _) rfl (fun h => absurd h (by decide))
      · refine ⟨fun x v => rfl, fun y2 S W hK hall hdep K hcont => ?_⟩
        have HCONT := hide hcont
        have HKW := hide hK
        have d5 := hall 5 (by decide) (hdep ⟨5, Ground.data⟩ (by simp) rfl)
        clear hcont hK hall hdep
        have e5 : y2 5 = .int .i64 (d - 1) := d5
        rw [if_pos (by rfl)]
        simp only [e5]
        go_simp
        rw [unhide EW2]
        exact unhide HCONT _ _ _ (by (try simp only [e5]); rfl) (Kept.refl No _) rfl (fun h => absurd h (by decide))
      · refine ⟨fun x v => rfl, fun y2 S W hK hall hdep K hcont => ?_⟩
        have HCONT := hide hcont
        have HKW := hide hK
        have d3 := hall 3 (by decide) (hdep ⟨3, Ground.data⟩ (by simp) rfl)
        clear hcont hK hall hdep
        have e3 : y2 3 = .int .i64 m := d3
        rw [if_pos (by rfl)]
        simp only [e3]
        go_simp
        exact unhide HCONT _ _ _ (by (try simp only [e3]); rfl) (Kept.refl No _) rfl (fun h => absurd h (by decide))
    · intro y2 W2 hK hx hD
      have ed : y2 6 = .int .i64 d := hx 6 (by decide)
      have em : y2 7 = .int .i64 m := hx 7 (by decide)
      have hvz := (unhide HC).z.lt
      have HC := hide ((unhide HC).go hK)
      simp only [ed, em, List.drop]
      clear hK hx hD hvz ed em
      go_wp2_with fail
      refine wp_region_store 38 37 (w.heap.size + 1) (FN F w) (.bin .add (.num m) (.num (n - m))) [Sh.val (.int .i64 m), Sh.tree (.num m), Sh.val (.int .i64 n), Sh.val (.int .i64 m), Sh.val (.int .i64 (n - m)), Sh.tree (.num (n - m)), Sh.row [(.num m), (.num (n - m))], Sh.tree (.bin .add (.num m) (.num (n - m))), Sh.val (.int .i64 n), Sh.val (.int .i64 d), Sh.val (.int .i64 (n + d)), Sh.tree (.num (n + d)), Sh.val (.int .i64 d), Sh.tree (.num d), Sh.row [(.num (n + d)), (.num d)], Sh.tree (.bin .sub (.num (n + d)) (.num d)), Sh.val (.int .i64 n), Sh.val (.int .i64 d), Sh.val (.int .i64 (n.tdiv d)), Sh.tree (.num (n.tdiv d)), Sh.val (.int .i64 d), Sh.tree (.num d), Sh.row [(.num (n.tdiv d)), (.num d)], Sh.tree (.bin .mul (.num (n.tdiv d)) (.num d)), Sh.val (.int .i64 n), Sh.val (.int .i64 d), Sh.val (.int .i64 (n.tmod d)), Sh.tree (.num (n.tmod d)), Sh.row [(.bin .mul (.num (n.tdiv d)) (.num d)), (.num (n.tmod d))], Sh.tree (.bin .add (.bin .mul (.num (n.tdiv d)) (.num d)) (.num (n.tmod d))), Sh.row [(.bin .add (.num m) (.num (n - m))), (.bin .sub (.num (n + d)) (.num d)), (.bin .add (.bin .mul (.num (n.tdiv d)) (.num d)) (.num (n.tmod d)))], Sh.val (.int .i64 0), Sh.addr (.bin .add (.num m) (.num (n - m))), Sh.tree (.bin .add (.num m) (.num (n - m))), Sh.val (.pointer (some ⟨w.heap.size, 0, none⟩)), Sh.val (.int .i64 k), Sh.val (.bool false), Sh.any] (by decide) (fun _ h => h.ne) (unhide HC).z (by kernel_rfl) (by kernel_rfl) (fun y9 => { tmps := #[Value.agg #[Value.int IntKind.i64 k, Value.int IntKind.i64 n, Value.slice A l c], Value.bool tr, Value.pointer (some { block := hb1, off := 0 }), Value.pointer (some { block := hb2, off := 0 }), Value.pointer (some { block := w.heap.size, off := 0 }), undef, Value.pointer (some { block := w.heap.size + 1, off := 0 }), Value.bool false, Value.int IntKind.i64 n, Value.int IntKind.i64 0, Value.int IntKind.i64 m, Value.int IntKind.i64 d, y1 0, Value.int IntKind.i64 n, y1 2, Value.int IntKind.i64 0, y2 0, y2 1, y2 2, y2 3, y2 4, y2 5, Value.int IntKind.i64 d, Value.int IntKind.i64 0, Value.bool false, undef, undef, undef, undef, undef, undef, undef, undef, undef, undef, undef, undef, undef, undef, undef, undef, undef, undef, undef, undef, undef, y9 0, y9 1, y9 2, y9 3, y9 4, y9 5, y9 6, y9 7, y9 8, y9 9, y9 10, y9 11, y9 12, y9 13, y9 14, y9 15, y9 16, y9 17, y9 18, y9 19, y9 20, y9 21, y9 22, y9 23, y9 24, y9 25, y9 26, y9 27, y9 28, y9 29, y9 30, y9 31, y9 32, y9 33, y9 34, y9 35, y9 36], defers := [] }) (fun _ => undef) ?_ ?_
      · refine ⟨?_, ?_, ?_, ?_, ?_, ?_, ?_, ?_, ?_, ?_, ?_, ?_, ?_, ?_, ?_, ?_, ?_, ?_, ?_, ?_, ?_, ?_, ?_, ?_, ?_, ?_, ?_, ?_, ?_, ?_, ?_, ?_, ?_, ?_, ?_, ?_, ?_, ?_, trivial⟩
        · refine ⟨fun x v => rfl, fun y9 S W hK hJ hSi hall hdep K hcont0 => ?_⟩
          have hcont := hcont0
          clear hcont0
          rw [if_neg (by decide)] at hcont
          have HCONT := hide hcont
          have HKW := hide hK
          clear hcont hK hall hdep hJ hSi
          rw [if_pos (by rfl)]
          go_simp
          exact unhide HCONT _ _ _ rfl (Kept.refl No _) rfl
        · refine ⟨fun x v => rfl, fun y9 S W hK hJ hSi hall hdep K hcont0 => ?_⟩
          have hcont := hcont0
          clear hcont0
          rw [if_neg (by decide)] at hcont
          have HCONT := hide hcont
          have HKW := hide hK
          have d0 := hall 0 (by decide) (by decide) (hdep ⟨0, Ground.data⟩ (by simp) rfl)
          clear hcont hK hall hdep hJ hSi
          have e0 : y9 0 = .int .i64 m := d0
          rw [if_pos (by rfl)]
          simp only [e0]
          go_simp
          refine (num_any _ _).mono ?_
          rintro e w1 ⟨rfl, hK1⟩
          exact unhide HCONT _ _ _ (by (try simp only [e0]); rfl) hK1 ⟨_, _, _, _, _, rfl, num_rd _ _ _⟩
        · refine ⟨fun x v => rfl, fun y9 S W hK hJ hSi hall hdep K hcont0 => ?_⟩
          have hcont := hcont0
          clear hcont0
          rw [if_neg (by decide)] at hcont
          have HCONT := hide hcont
          have HKW := hide hK
          clear hcont hK hall hdep hJ hSi
          rw [if_pos (by rfl)]
          go_simp
          exact unhide HCONT _ _ _ rfl (Kept.refl No _) rfl
        · refine ⟨fun x v => rfl, fun y9 S W hK hJ hSi hall hdep K hcont0 => ?_⟩
          have hcont := hcont0
          clear hcont0
          rw [if_neg (by decide)] at hcont
          have HCONT := hide hcont
          have HKW := hide hK
          clear hcont hK hall hdep hJ hSi
          rw [if_pos (by rfl)]
          go_simp
          exact unhide HCONT _ _ _ rfl (Kept.refl No _) rfl
        · refine ⟨fun x v => rfl, fun y9 S W hK hJ hSi hall hdep K hcont0 => ?_⟩
          have hcont := hcont0
          clear hcont0
          rw [if_neg (by decide)] at hcont
          have HCONT := hide hcont
          have HKW := hide hK
          have d2 := hall 2 (by decide) (by decide) (hdep ⟨2, Ground.data⟩ (by simp) rfl)
          have d3 := hall 3 (by decide) (by decide) (hdep ⟨3, Ground.data⟩ (by simp) rfl)
          clear hcont hK hall hdep hJ hSi
          have e2 : y9 2 = .int .i64 n := d2
          have e3 : y9 3 = .int .i64 m := d3
          rw [if_pos (by rfl)]
          simp only [e2, e3]
          go_simp
          rw [unhide EW3]
          exact unhide HCONT _ _ _ (by (try simp only [e2, e3]); rfl) (Kept.refl No _) rfl
        · refine ⟨fun x v => rfl, fun y9 S W hK hJ hSi hall hdep K hcont0 => ?_⟩
          have hcont := hcont0
          clear hcont0
          rw [if_neg (by decide)] at hcont
          have HCONT := hide hcont
          have HKW := hide hK
          have d4 := hall 4 (by decide) (by decide) (hdep ⟨4, Ground.data⟩ (by simp) rfl)
          clear hcont hK hall hdep hJ hSi
          have e4 : y9 4 = .int .i64 (n - m) := d4
          rw [if_pos (by rfl)]
          simp only [e4]
          go_simp
          refine (num_any _ _).mono ?_
          rintro e w1 ⟨rfl, hK1⟩
          exact unhide HCONT _ _ _ (by (try simp only [e4]); rfl) hK1 ⟨_, _, _, _, _, rfl, num_rd _ _ _⟩
        · refine ⟨fun x v => rfl, fun y9 S W hK hJ hSi hall hdep K hcont0 => ?_⟩
          have hcont := hcont0
          clear hcont0
          rw [if_neg (by decide)] at hcont
          have HCONT := hide hcont
          have HKW := hide hK
          have d1 := hall 1 (by decide) (by decide) (hdep ⟨1, Ground.data⟩ (by simp) rfl)
          have d5 := hall 5 (by decide) (by decide) (hdep ⟨5, Ground.data⟩ (by simp) rfl)
          clear hcont hK hall hdep hJ hSi
          obtain ⟨k1, n1, A1, l1, c1, e1, r1⟩ := d1
          obtain ⟨k5, n5, A5, l5, c5, e5, r5⟩ := d5
          rw [if_pos (by rfl)]
          simp only [e1, e5]
          go_simp
          exact unhide HCONT _ _ _ (by (try simp only [e1, e5]); rfl) ((Kept.refl No _).alloc _) (row2_new r1 r5 (fun i hi => .inr (by have h1_ := (unhide HC).z.lt; have h2_ := (unhide HKW).size; omega)))
        · refine ⟨fun x v => rfl, fun y9 S W hK hJ hSi hall hdep K hcont0 => ?_⟩
          have hcont := hcont0
          clear hcont0
          rw [if_neg (by decide)] at hcont
          have HCONT := hide hcont
          have HKW := hide hK
          have d6 := hall 6 (by decide) (by decide) (hdep ⟨6, Ground.data⟩ (by simp) rfl)
          clear hcont hK hall hdep hJ hSi
          obtain ⟨b6, e6, f6, r6⟩ := d6
          rw [if_pos (by rfl)]
          simp only [e6]
          go_simp
          refine (op2_row .add (by rfl) _ b6 (.num m) (.num (n - m)) r6 f6).mono ?_
          rintro e w1 ⟨k_, n_, A_, l_, c_, rfl, hR1, hK1⟩
          exact unhide HCONT _ _ _ (by (try simp only [e6]); rfl) hK1 ⟨_, _, _, _, _, rfl, hR1⟩
        · refine ⟨fun x v => rfl, fun y9 S W hK hJ hSi hall hdep K hcont0 => ?_⟩
          have hcont := hcont0
          clear hcont0
          rw [if_neg (by decide)] at hcont
          have HCONT := hide hcont
          have HKW := hide hK
          clear hcont hK hall hdep hJ hSi
          rw [if_pos (by rfl)]
          go_simp
          exact unhide HCONT _ _ _ rfl (Kept.refl No _) rfl
        · refine ⟨fun x v => rfl, fun y9 S W hK hJ hSi hall hdep K hcont0 => ?_⟩
          have hcont := hcont0
          clear hcont0
          rw [if_neg (by decide)] at hcont
          have HCONT := hide hcont
          have HKW := hide hK
          clear hcont hK hall hdep hJ hSi
          rw [if_pos (by rfl)]
          go_simp
          exact unhide HCONT _ _ _ rfl (Kept.refl No _) rfl
        · refine ⟨fun x v => rfl, fun y9 S W hK hJ hSi hall hdep K hcont0 => ?_⟩
          have hcont := hcont0
          clear hcont0
          rw [if_neg (by decide)] at hcont
          have HCONT := hide hcont
          have HKW := hide hK
          have d8 := hall 8 (by decide) (by decide) (hdep ⟨8, Ground.data⟩ (by simp) rfl)
          have d9 := hall 9 (by decide) (by decide) (hdep ⟨9, Ground.data⟩ (by simp) rfl)
          clear hcont hK hall hdep hJ hSi
          have e8 : y9 8 = .int .i64 n := d8
          have e9 : y9 9 = .int .i64 d := d9
          rw [if_pos (by rfl)]
          simp only [e8, e9]
          go_simp
          rw [unhide EW4]
          exact unhide HCONT _ _ _ (by (try simp only [e8, e9]); rfl) (Kept.refl No _) rfl
        · refine ⟨fun x v => rfl, fun y9 S W hK hJ hSi hall hdep K hcont0 => ?_⟩
          have hcont := hcont0
          clear hcont0
          rw [if_neg (by decide)] at hcont
          have HCONT := hide hcont
          have HKW := hide hK
          have d10 := hall 10 (by decide) (by decide) (hdep ⟨10, Ground.data⟩ (by simp) rfl)
          clear hcont hK hall hdep hJ hSi
          have e10 : y9 10 = .int .i64 (n + d) := d10
          rw [if_pos (by rfl)]
          simp only [e10]
          go_simp
          refine (num_any _ _).mono ?_
          rintro e w1 ⟨rfl, hK1⟩
          exact unhide HCONT _ _ _ (by (try simp only [e10]); rfl) hK1 ⟨_, _, _, _, _, rfl, num_rd _ _ _⟩
        · refine ⟨fun x v => rfl, fun y9 S W hK hJ hSi hall hdep K hcont0 => ?_⟩
          have hcont := hcont0
          clear hcont0
          rw [if_neg (by decide)] at hcont
          have HCONT := hide hcont
          have HKW := hide hK
          clear hcont hK hall hdep hJ hSi
          rw [if_pos (by rfl)]
          go_simp
          exact unhide HCONT _ _ _ rfl (Kept.refl No _) rfl
        · refine ⟨fun x v => rfl, fun y9 S W hK hJ hSi hall hdep K hcont0 => ?_⟩
          have hcont := hcont0
          clear hcont0
          rw [if_neg (by decide)] at hcont
          have HCONT := hide hcont
          have HKW := hide hK
          have d12 := hall 12 (by decide) (by decide) (hdep ⟨12, Ground.data⟩ (by simp) rfl)
          clear hcont hK hall hdep hJ hSi
          have e12 : y9 12 = .int .i64 d := d12
          rw [if_pos (by rfl)]
          simp only [e12]
          go_simp
          refine (num_any _ _).mono ?_
          rintro e w1 ⟨rfl, hK1⟩
          exact unhide HCONT _ _ _ (by (try simp only [e12]); rfl) hK1 ⟨_, _, _, _, _, rfl, num_rd _ _ _⟩
        · refine ⟨fun x v => rfl, fun y9 S W hK hJ hSi hall hdep K hcont0 => ?_⟩
          have hcont := hcont0
          clear hcont0
          rw [if_neg (by decide)] at hcont
          have HCONT := hide hcont
          have HKW := hide hK
          have d11 := hall 11 (by decide) (by decide) (hdep ⟨11, Ground.data⟩ (by simp) rfl)
          have d13 := hall 13 (by decide) (by decide) (hdep ⟨13, Ground.data⟩ (by simp) rfl)
          clear hcont hK hall hdep hJ hSi
          obtain ⟨k11, n11, A11, l11, c11, e11, r11⟩ := d11
          obtain ⟨k13, n13, A13, l13, c13, e13, r13⟩ := d13
          rw [if_pos (by rfl)]
          simp only [e11, e13]
          go_simp
          exact unhide HCONT _ _ _ (by (try simp only [e11, e13]); rfl) ((Kept.refl No _).alloc _) (row2_new r11 r13 (fun i hi => .inr (by have h1_ := (unhide HC).z.lt; have h2_ := (unhide HKW).size; omega)))
        · refine ⟨fun x v => rfl, fun y9 S W hK hJ hSi hall hdep K hcont0 => ?_⟩
          have hcont := hcont0
          clear hcont0
          rw [if_neg (by decide)] at hcont
          have HCONT := hide hcont
          have HKW := hide hK
          have d14 := hall 14 (by decide) (by decide) (hdep ⟨14, Ground.data⟩ (by simp) rfl)
          clear hcont hK hall hdep hJ hSi
          obtain ⟨b14, e14, f14, r14⟩ := d14
          rw [if_pos (by rfl)]
          simp only [e14]
          go_simp
          refine (op2_row .sub (by rfl) _ b14 (.num (n + d)) (.num d) r14 f14).mono ?_
          rintro e w1 ⟨k_, n_, A_, l_, c_, rfl, hR1, hK1⟩
          exact unhide HCONT _ _ _ (by (try simp only [e14]); rfl) hK1 ⟨_, _, _, _, _, rfl, hR1⟩
        · refine ⟨fun x v => rfl, fun y9 S W hK hJ hSi hall hdep K hcont0 => ?_⟩
          have hcont := hcont0
          clear hcont0
          rw [if_neg (by decide)] at hcont
          have HCONT := hide hcont
          have HKW := hide hK
          clear hcont hK hall hdep hJ hSi
          rw [if_pos (by rfl)]
          go_simp
          exact unhide HCONT _ _ _ rfl (Kept.refl No _) rfl
        · refine ⟨fun x v => rfl, fun y9 S W hK hJ hSi hall hdep K hcont0 => ?_⟩
          have hcont := hcont0
          clear hcont0
          rw [if_neg (by decide)] at hcont
          have HCONT := hide hcont
          have HKW := hide hK
          clear hcont hK hall hdep hJ hSi
          rw [if_pos (by rfl)]
          go_simp
          exact unhide HCONT _ _ _ rfl (Kept.refl No _) rfl
        · refine ⟨fun x v => rfl, fun y9 S W hK hJ hSi hall hdep K hcont0 => ?_⟩
          have hcont := hcont0
          clear hcont0
          rw [if_neg (by decide)] at hcont
          have HCONT := hide hcont
          have HKW := hide hK
          have d16 := hall 16 (by decide) (by decide) (hdep ⟨16, Ground.data⟩ (by simp) rfl)
          have d17 := hall 17 (by decide) (by decide) (hdep ⟨17, Ground.data⟩ (by simp) rfl)
          clear hcont hK hall hdep hJ hSi
          have e16 : y9 16 = .int .i64 n := d16
          have e17 : y9 17 = .int .i64 d := d17
          rw [if_pos (by rfl)]
          simp only [e16, e17]
          go_simp
          rw [unhide EW5]
          exact unhide HCONT _ _ _ (by (try simp only [e16, e17]); rfl) (Kept.refl No _) rfl
        · refine ⟨fun x v => rfl, fun y9 S W hK hJ hSi hall hdep K hcont0 => ?_⟩
          have hcont := hcont0
          clear hcont0
          rw [if_neg (by decide)] at hcont
          have HCONT := hide hcont
          have HKW := hide hK
          have d18 := hall 18 (by decide) (by decide) (hdep ⟨18, Ground.data⟩ (by simp) rfl)
          clear hcont hK hall hdep hJ hSi
          have e18 : y9 18 = .int .i64 (n.tdiv d) := d18
          rw [if_pos (by rfl)]
          simp only [e18]
          go_simp
          refine (num_any _ _).mono ?_
          rintro e w1 ⟨rfl, hK1⟩
          exact unhide HCONT _ _ _ (by (try simp only [e18]); rfl) hK1 ⟨_, _, _, _, _, rfl, num_rd _ _ _⟩
        · refine ⟨fun x v => rfl, fun y9 S W hK hJ hSi hall hdep K hcont0 => ?_⟩
          have hcont := hcont0
          clear hcont0
          rw [if_neg (by decide)] at hcont
          have HCONT := hide hcont
          have HKW := hide hK
          clear hcont hK hall hdep hJ hSi
          rw [if_pos (by rfl)]
          go_simp
          exact unhide HCONT _ _ _ rfl (Kept.refl No _) rfl
        · refine ⟨fun x v => rfl, fun y9 S W hK hJ hSi hall hdep K hcont0 => ?_⟩
          have hcont := hcont0
          clear hcont0
          rw [if_neg (by decide)] at hcont
          have HCONT := hide hcont
          have HKW := hide hK
          have d20 := hall 20 (by decide) (by decide) (hdep ⟨20, Ground.data⟩ (by simp) rfl)
          clear hcont hK hall hdep hJ hSi
          have e20 : y9 20 = .int .i64 d := d20
          rw [if_pos (by rfl)]
          simp only [e20]
          go_simp
          refine (num_any _ _).mono ?_
          rintro e w1 ⟨rfl, hK1⟩
          exact unhide HCONT _ _ _ (by (try simp only [e20]); rfl) hK1 ⟨_, _, _, _, _, rfl, num_rd _ _ _⟩
        · refine ⟨fun x v => rfl, fun y9 S W hK hJ hSi hall hdep K hcont0 => ?_⟩
          have hcont := hcont0
          clear hcont0
          rw [if_neg (by decide)] at hcont
          have HCONT := hide hcont
          have HKW := hide hK
          have d19 := hall 19 (by decide) (by decide) (hdep ⟨19, Ground.data⟩ (by simp) rfl)
          have d21 := hall 21 (by decide) (by decide) (hdep ⟨21, Ground.data⟩ (by simp) rfl)
          clear hcont hK hall hdep hJ hSi
          obtain ⟨k19, n19, A19, l19, c19, e19, r19⟩ := d19
          obtain ⟨k21, n21, A21, l21, c21, e21, r21⟩ := d21
          rw [if_pos (by rfl)]
          simp only [e19, e21]
          go_simp
          exact unhide HCONT _ _ _ (by (try simp only [e19, e21]); rfl) ((Kept.refl No _).alloc _) (row2_new r19 r21 (fun i hi => .inr (by have h1_ := (unhide HC).z.lt; have h2_ := (unhide HKW).size; omega)))
        · refine ⟨fun x v => rfl, fun y9 S W hK hJ hSi hall hdep K hcont0 => ?_⟩
          have hcont := hcont0
          clear hcont0
          rw [if_neg (by decide)] at hcont
          have HCONT := hide hcont
          have HKW := hide hK
          have d22 := hall 22 (by decide) (by decide) (hdep ⟨22, Ground.data⟩ (by simp) rfl)
          clear hcont hK hall hdep hJ hSi
          obtain ⟨b22, e22, f22, r22⟩ := d22
          rw [if_pos (by rfl)]
          simp only [e22]
          go_simp
          refine (op2_row .mul (by rfl) _ b22 (.num (n.tdiv d)) (.num d) r22 f22).mono ?_
          rintro e w1 ⟨k_, n_, A_, l_, c_, rfl, hR1, hK1⟩
          exact unhide HCONT _ _ _ (by (try simp only [e22]); rfl) hK1 ⟨_, _, _, _, _, rfl, hR1⟩
        · refine ⟨fun x v => rfl, fun y9 S W hK hJ hSi hall hdep K hcont0 => ?_⟩
          have hcont := hcont0
          clear hcont0
          rw [if_neg (by decide)] at hcont
          have HCONT := hide hcont
          have HKW := hide hK
          clear hcont hK hall hdep hJ hSi
          rw [if_pos (by rfl)]
          go_simp
          exact unhide HCONT _ _ _ rfl (Kept.refl No _) rfl
        · refine ⟨fun x v => rfl, fun y9 S W hK hJ hSi hall hdep K hcont0 => ?_⟩
          have hcont := hcont0
          clear hcont0
          rw [if_neg (by decide)] at hcont
          have HCONT := hide hcont
          have HKW := hide hK
          clear hcont hK hall hdep hJ hSi
          rw [if_pos (by rfl)]
          go_simp
          exact unhide HCONT _ _ _ rfl (Kept.refl No _) rfl
        · refine ⟨fun x v => rfl, fun y9 S W hK hJ hSi hall hdep K hcont0 => ?_⟩
          have hcont := hcont0
          clear hcont0
          rw [if_neg (by decide)] at hcont
          have HCONT := hide hcont
          have HKW := hide hK
          have d24 := hall 24 (by decide) (by decide) (hdep ⟨24, Ground.data⟩ (by simp) rfl)
          have d25 := hall 25 (by decide) (by decide) (hdep ⟨25, Ground.data⟩ (by simp) rfl)
          clear hcont hK hall hdep hJ hSi
          have e24 : y9 24 = .int .i64 n := d24
          have e25 : y9 25 = .int .i64 d := d25
          rw [if_pos (by rfl)]
          simp only [e24, e25]
          go_simp
          exact unhide HCONT _ _ _ (by (try simp only [e24, e25]); rfl) (Kept.refl No _) rfl
        · refine ⟨fun x v => rfl, fun y9 S W hK hJ hSi hall hdep K hcont0 => ?_⟩
          have hcont := hcont0
          clear hcont0
          rw [if_neg (by decide)] at hcont
          have HCONT := hide hcont
          have HKW := hide hK
          have d26 := hall 26 (by decide) (by decide) (hdep ⟨26, Ground.data⟩ (by simp) rfl)
          clear hcont hK hall hdep hJ hSi
          have e26 : y9 26 = .int .i64 (n.tmod d) := d26
          rw [if_pos (by rfl)]
          simp only [e26]
          go_simp
          refine (num_any _ _).mono ?_
          rintro e w1 ⟨rfl, hK1⟩
          exact unhide HCONT _ _ _ (by (try simp only [e26]); rfl) hK1 ⟨_, _, _, _, _, rfl, num_rd _ _ _⟩
        · refine ⟨fun x v => rfl, fun y9 S W hK hJ hSi hall hdep K hcont0 => ?_⟩
          have hcont := hcont0
          clear hcont0
          rw [if_neg (by decide)] at hcont
          have HCONT := hide hcont
          have HKW := hide hK
          have d23 := hall 23 (by decide) (by decide) (hdep ⟨23, Ground.data⟩ (by simp) rfl)
          have d27 := hall 27 (by decide) (by decide) (hdep ⟨27, Ground.data⟩ (by simp) rfl)
          clear hcont hK hall hdep hJ hSi
          obtain ⟨k23, n23, A23, l23, c23, e23, r23⟩ := d23
          obtain ⟨k27, n27, A27, l27, c27, e27, r27⟩ := d27
          rw [if_pos (by rfl)]
          simp only [e23, e27]
          go_simp
          exact unhide HCONT _ _ _ (by (try simp only [e23, e27]); rfl) ((Kept.refl No _).alloc _) (row2_new r23 r27 (fun i hi => .inr (by have h1_ := (unhide HC).z.lt; have h2_ := (unhide HKW).size; omega)))
        · refine ⟨fun x v => rfl, fun y9 S W hK hJ hSi hall hdep K hcont0 => ?_⟩
          have hcont := hcont0
          clear hcont0
          rw [if_neg (by decide)] at hcont
          have HCONT := hide hcont
          have HKW := hide hK
          have d28 := hall 28 (by decide) (by decide) (hdep ⟨28, Ground.data⟩ (by simp) rfl)
          clear hcont hK hall hdep hJ hSi
          obtain ⟨b28, e28, f28, r28⟩ := d28
          rw [if_pos (by rfl)]
          simp only [e28]
          go_simp
          refine (op2_row .add (by rfl) _ b28 (.bin .mul (.num (n.tdiv d)) (.num d)) (.num (n.tmod d)) r28 f28).mono ?_
          rintro e w1 ⟨k_, n_, A_, l_, c_, rfl, hR1, hK1⟩
          exact unhide HCONT _ _ _ (by (try simp only [e28]); rfl) hK1 ⟨_, _, _, _, _, rfl, hR1⟩
        · refine ⟨fun x v => rfl, fun y9 S W hK hJ hSi hall hdep K hcont0 => ?_⟩
          have hcont := hcont0
          clear hcont0
          rw [if_neg (by decide)] at hcont
          have HCONT := hide hcont
          have HKW := hide hK
          have d7 := hall 7 (by decide) (by decide) (hdep ⟨7, Ground.data⟩ (by simp) rfl)
          have d15 := hall 15 (by decide) (by decide) (hdep ⟨15, Ground.data⟩ (by simp) rfl)
          have d29 := hall 29 (by decide) (by decide) (hdep ⟨29, Ground.data⟩ (by simp) rfl)
          clear hcont hK hall hdep hJ hSi
          obtain ⟨k7, n7, A7, l7, c7, e7, r7⟩ := d7
          obtain ⟨k15, n15, A15, l15, c15, e15, r15⟩ := d15
          obtain ⟨k29, n29, A29, l29, c29, e29, r29⟩ := d29
          rw [if_pos (by rfl)]
          simp only [e7, e15, e29]
          go_simp
          exact unhide HCONT _ _ _ (by (try simp only [e7, e15, e29]); rfl) ((Kept.refl No _).alloc _) (row3_new r7 r15 r29 (fun i hi => .inr (by have h1_ := (unhide HC).z.lt; have h2_ := (unhide HKW).size; omega)))
        · refine ⟨fun x v => rfl, fun y9 S W hK hJ hSi hall hdep K hcont0 => ?_⟩
          have hcont := hcont0
          clear hcont0
          rw [if_neg (by decide)] at hcont
          have HCONT := hide hcont
          have HKW := hide hK
          clear hcont hK hall hdep hJ hSi
          rw [if_pos (by rfl)]
          go_simp
          exact unhide HCONT _ _ _ rfl (Kept.refl No _) rfl
        · refine ⟨fun x v => rfl, fun y9 S W hK hJ hSi hall hdep K hcont0 => ?_⟩
          have hcont := hcont0
          clear hcont0
          rw [if_neg (by decide)] at hcont
          have HCONT := hide hcont
          have HKW := hide hK
          have d30 := hall 30 (by decide) (by decide) (hdep ⟨30, Ground.data⟩ (by simp) rfl)
          have d31 := hall 31 (by decide) (by decide) (hdep ⟨31, Ground.data⟩ (by simp) rfl)
          clear hcont hK hall hdep hJ hSi
          obtain ⟨b30, e30, f30, r30⟩ := d30
          have e31 : y9 31 = .int .i64 0 := d31
          rw [if_pos (by rfl)]
          simp only [e30, e31]
          go_simp
          exact unhide HCONT _ _ _ (by (try simp only [e30, e31]); rfl) (Kept.refl No _) ⟨b30, _, rfl, f30, r30 0 _ rfl⟩
        · refine ⟨fun x v => rfl, fun y9 S W hK hJ hSi hall hdep K hcont0 => ?_⟩
          have hcont := hcont0
          clear hcont0
          rw [if_neg (by decide)] at hcont
          have HCONT := hide hcont
          have HKW := hide hK
          have d32 := hall 32 (by decide) (by decide) (hdep ⟨32, Ground.data⟩ (by simp) rfl)
          clear hcont hK hall hdep hJ hSi
          obtain ⟨b32, o32, e32, ff32, kk32, nn32, AA32, ll32, cc32, ⟨yy032, yy132, yy232⟩, r32⟩ := d32
          rw [if_pos (by rfl)]
          simp only [e32]
          go_simp
          exact unhide HCONT _ _ _ (by (try simp only [e32]); rfl) (Kept.refl No _) ⟨_, _, _, _, _, rfl, r32⟩
        · refine ⟨fun x v => rfl, fun y9 S W hK hJ hSi hall hdep K hcont0 => ?_⟩
          have hcont := hcont0
          clear hcont0
          rw [if_neg (by decide)] at hcont
          have HCONT := hide hcont
          have HKW := hide hK
          clear hcont hK hall hdep hJ hSi
          rw [if_pos (by rfl)]
          go_simp
          exact unhide HCONT _ _ _ rfl (Kept.refl No _) rfl
        · refine ⟨fun x v => rfl, fun y9 S W hK hJ hSi hall hdep K hcont0 => ?_⟩
          have hcont := hcont0
          clear hcont0
          rw [if_neg (by decide)] at hcont
          have HCONT := hide hcont
          have HKW := hide hK
          have d34 := hall 34 (by decide) (by decide) (hdep ⟨34, Ground.data⟩ (by simp) rfl)
          clear hcont hK hall hdep hJ hSi
          have e34 : y9 34 = .pointer (some ⟨w.heap.size, 0, none⟩) := d34
          obtain xs0 := ((unhide HC).x.kept (unhide HKW) (one_ne (by omega))).cell 0
          rw [if_pos (by rfl)]
          simp only [e34]
          go_simp
          exact unhide HCONT _ _ _ (by (try simp only [e34]); rfl) (Kept.refl No _) rfl
        · refine ⟨fun x v => rfl, fun y9 S W hK hJ hSi hall hdep K hcont0 => ?_⟩
          have hcont := hcont0
          clear hcont0
          rw [if_neg (by decide)] at hcont
          have HCONT := hide hcont
          have HKW := hide hK
          have d35 := hall 35 (by decide) (by decide) (hdep ⟨35, Ground.data⟩ (by simp) rfl)
          clear hcont hK hall hdep hJ hSi
          have e35 : y9 35 = .int .i64 k := d35
          rw [if_pos (by rfl)]
          simp only [e35]
          go_simp
          exact unhide HCONT _ _ _ (by (try simp only [e35]); rfl) (Kept.refl No _) rfl
        · refine ⟨fun x v => rfl, fun y9 S W hK hJ hSi hall hdep K hcont0 => ?_⟩
          have hcont := hcont0
          clear hcont0
          rw [if_pos rfl] at hcont
          have HCONT := hide hcont
          have HKW := hide hK
          have d33 := hall 33 (by decide) (by decide) (hdep ⟨33, Ground.data⟩ (by simp) rfl)
          have HJ := hide (hJ hSi)
          clear hcont hK hall hdep hJ hSi
          obtain ⟨k33, n33, A33, l33, c33, e33, r33⟩ := d33
          obtain ⟨f0, f1, f2, z0, z1, z2, hlt⟩ : _ ∧ _ ∧ _ ∧ _ ∧ _ ∧ _ ∧ _ := ⟨(unhide HJ).frozen 0, (unhide HJ).frozen 1, (unhide HJ).frozen 2, (unhide HJ).cell 0, (unhide HJ).cell 1, (unhide HJ).cell 2, (unhide HJ).lt⟩
          rw [if_pos (by rfl)]
          simp only [e33]
          go_simp
          exact unhide HCONT undef _ _ (by (try simp only [e33]); rfl) ((((Kept.refl _ _).one 0 _).one 1 _).one 2 _) ⟨_, _, _, _, _, (((unhide HJ).set_ 0 _).set_ 1 _).set_ 2 _, r33.kept ((((Kept.refl (One (w.heap.size + 1)) _).one 0 _).one 1 _).one 2 _) (fun i _ hi => one_ne hi.ne)⟩
      · intro y9 W hK hZ hx
        have e36 : y9 36 = .bool false := hx 36 (by decide) (by decide)
        obtain ⟨k4, n4, A4, l4, c4, hBz, hr4⟩ := hZ
        have hKw := (unhide HC).kept.trans hK (fun i hi h => by unfold One at h; omega)
        have HBZ := hide hBz
        have HR4 := hide hr4
        have HKw := hide hKw
        have z0 : W.cell? ⟨w.heap.size + 1, 0, none⟩ = some (.int .i64 k4) := hBz.cell 0
        have z1 : W.cell? ⟨w.heap.size + 1, 1, none⟩ = some (.int .i64 n4) := hBz.cell 1
        have z2 : W.cell? ⟨w.heap.size + 1, 2, none⟩ = some (.slice A4 l4 c4) := hBz.cell 2
        simp only [e36, List.drop]
        clear hK hx e36 hBz hr4 hKw
        go_wp2_with fail
        refine bodyPost_ret (v := .tuple #[.agg #[.int .i64 k4, .int .i64 n4, .slice A4 l4 c4], .bool false]) (by simp [results, Tryd.results32, go_sem, z0, z1, z2]) rfl ?_
        exact ⟨k4, n4, A4, l4, c4, rfl, unhide HKw, (unhide HR4).mono (fun _ _ h => h.out)⟩
set_option maxRecDepth 100000 in
set_option maxHeartbeats 4000000 in
theorem part_oth1 (hw bv : Int) (hb1 hb2 : Nat) (w0 w : World) (F : Nat → Prop) (k n : Int) (A : Option Addr) (l c : Nat) (m d : Int) (tr : Bool) (hK0 : Kept No w0 w) (hH1 : Blk w0 hb1 3 #[.int .i64 hw]) (hH2 : Blk w0 hb2 3 #[.int .i64 bv]) (hn0 : 0 ≤ n) (hnm : n ≤ 2147483647) (hm : pickF bv (n + 1) = m) (hd : pickF bv 20 = d - 1) (hp : pickF hw 7 = 1) (hk : k ≠ 1) :
    Calls Tryd.prog 32 #[.agg #[.int .i64 k, .int .i64 n, .slice A l c], .bool tr, .pointer (some ⟨hb1, 0, none⟩), .pointer (some ⟨hb2, 0, none⟩)] w (MadeB w F (numE 1 m d n (.num n)) false) := by
  have dk : (k == 1) = false := by rw [beq_eq_false_iff_ne]; exact hk
  clear hk
  have hB1 := hH1.kept hK0 id
  have hB2 := hH2.kept hK0 id
  have h1 : w.cell? ⟨hb1, 0, none⟩ = some (.int .i64 hw) := hB1.cell 0
  have h2 : w.cell? ⟨hb2, 0, none⟩ = some (.int .i64 bv) := hB2.cell 0
  have hbw1 := hB1.lt
  have hbw2 := hB2.lt
  have HB1 := hide hB1
  have HB2 := hide hB2
  have HP := hide hp
  have HM := hide hm
  have HD := hide hd
  have hm0 : 0 ≤ m ∧ m ≤ n := by have := pickF_range (x := bv) (n := n + 1) (by omega); omega
  have hd0 : 1 ≤ d ∧ d ≤ 20 := by have := pickF_range (x := bv) (n := 20) (by omega); omega
  obtain ⟨hm1, hm2⟩ := hm0
  obtain ⟨hd1, hd2⟩ := hd0
  have hn1 : (1 : Int) ≤ n + 1 := by omega
  have hn2 : n + 1 ≤ 9223372036854775807 := by omega
  have EW1 := hide (show IntKind.i64.wrap (n + 1) = n + 1 from IntWalk.i64_in _ (by omega))
  have EW2 := hide (show IntKind.i64.wrap d = d from IntWalk.i64_in _ (by omega))
  have EW3 := hide (show IntKind.i64.wrap (n - m) = n - m from IntWalk.i64_in _ (by omega))
  have EW4 := hide (show IntKind.i64.wrap (n + d) = n + d from IntWalk.i64_in _ (by omega))
  have htd : 0 ≤ n.tdiv d ∧ n.tdiv d ≤ n := by
    rw [Int.tdiv_eq_ediv_of_nonneg hn0]
    exact ⟨Int.ediv_nonneg hn0 (by omega), Int.ediv_le_self _ hn0⟩
  have htm : 0 ≤ n.tmod d ∧ n.tmod d ≤ 20 := by
    rw [Int.tmod_eq_emod_of_nonneg hn0]
    have h3 := Int.emod_nonneg n (show d ≠ 0 by omega)
    have h4 := Int.emod_lt_of_pos n (show 0 < d by omega)
    omega
  have EW5 := hide (show IntKind.i64.wrap (n.tdiv d) = n.tdiv d from IntWalk.i64_in _ (by omega))
  have EW6 := hide (show IntKind.i64.wrap (n.tmod d) = n.tmod d from IntWalk.i64_in _ (by omega))
  clear htd htm
  have HN1 := hide hn1
  have HN2 := hide hn2
  have hd0 : ¬ d = 0 := by omega
  have hd3 : (d == 0) = false := by rw [beq_eq_false_iff_ne]; exact hd0
  clear hK0 hH1 hH2 hp hm hd hB1 hB2
  go_enter Tryd.func32, Tryd.ntmps32
  go_wp2_with fail
  have HC := hide (Ctx.start w k n A l c)
  generalize (w.alloc (.cells #[.int .i64 k, .int .i64 n, .slice A l c] 24)).alloc (.cells #[.int .i64 0, .int .i64 0, .slice none 0 0] 24) = V at HC ⊢
  refine wp_region_inv 4 [] (by kernel_rfl) (by kernel_rfl) (fun y1 => { tmps := #[Value.agg #[Value.int IntKind.i64 k, Value.int IntKind.i64 n, Value.slice A l c], Value.bool tr, Value.pointer (some { block := hb1, off := 0 }), Value.pointer (some { block := hb2, off := 0 }), Value.pointer (some { block := w.heap.size, off := 0 }), undef, Value.pointer (some { block := w.heap.size + 1, off := 0 }), Value.bool false, undef, undef, undef, undef, y1 0, y1 1, y1 2, y1 3, undef, undef, undef, undef, undef, undef, undef, undef, undef, undef, undef, undef, undef, undef, undef, undef, undef, undef, undef, undef, undef, undef, undef, undef, undef, undef, undef, undef, undef, undef, undef, undef, undef, undef, undef, undef, undef, undef, undef, undef, undef, undef, undef, undef, undef, undef, undef, undef, undef, undef, undef, undef, undef, undef, undef, undef, undef, undef, undef, undef, undef, undef, undef, undef, undef, undef, undef], defers := [] }) (fun _ => undef) (fun i v W => Sh.ok (FN F w) W (([Sh.val (.pointer (some ⟨w.heap.size, 1, none⟩)), Sh.val (.int .i64 n), Sh.val (.int .i64 hw), Sh.val (.int .i64 1)] : List Sh).getD i .any) v) (fun i v W W' hK h => Sh.kept hK _ _ h) ?_ ?_
  · refine ⟨?_, ?_, ?_, ?_, trivial⟩
    · refine ⟨fun x v => rfl, fun y1 S W hK hall hdep K hcont => ?_⟩
      have HCONT := hide hcont
      have HKW := hide hK
      clear hcont hK hall hdep
      rw [if_pos (by rfl)]
      go_simp
      exact unhide HCONT _ _ _ rfl (Kept.refl No _) rfl (fun h => absurd h (by decide))
    · refine ⟨fun x v => rfl, fun y1 S W hK hall hdep K hcont => ?_⟩
      have HCONT := hide hcont
      have HKW := hide hK
      have d0 := hall 0 (by decide) (hdep ⟨0, Ground.data⟩ (by simp) rfl)
      clear hcont hK hall hdep
      have e0 : y1 0 = .pointer (some ⟨w.heap.size, 1, none⟩) := d0
      obtain ⟨xs0, xs1, xs2⟩ := ((unhide HC).go (unhide HKW)).xs
      rw [if_pos (by rfl)]
      simp only [e0]
      go_simp
      exact unhide HCONT _ _ _ (by (try simp only [e0]); rfl) (Kept.refl No _) rfl (fun h => absurd h (by decide))
    · refine ⟨fun x v => rfl, fun y1 S W hK hall hdep K hcont => ?_⟩
      have HCONT := hide hcont
      have HKW := hide hK
      clear hcont hK hall hdep
      have hq := (((unhide HB1).kept (unhide HC).kept id).kept (unhide HKW) id).cell 0
      rw [if_pos (by rfl)]
      go_simp
      exact unhide HCONT _ _ _ rfl (Kept.refl No _) rfl (fun h => absurd h (by decide))
    · refine ⟨fun x v => rfl, fun y1 S W hK hall hdep K hcont => ?_⟩
      have HCONT := hide hcont
      have HKW := hide hK
      have d2 := hall 2 (by decide) (hdep ⟨2, Ground.data⟩ (by simp) rfl)
      clear hcont hK hall hdep
      have e2 : y1 2 = .int .i64 hw := d2
      rw [if_pos (by rfl)]
      simp only [e2]
      go_simp
      refine (pick_any hw 7 (by omega) (by omega) _).mono ?_
      rintro e w4 ⟨rfl, rfl⟩
      rw [unhide HP]
      exact unhide HCONT _ _ _ (by (try simp only [e2]); rfl) (Kept.refl No _) rfl (fun h => absurd h (by decide))
  · intro y1 W1 hK hx hD
    have en : y1 1 = .int .i64 n := hx 1 (by decide)
    have ep : y1 3 = .int .i64 1 := hx 3 (by decide)
    have hvz := (unhide HC).z.lt
    have HC := hide ((unhide HC).go hK)
    simp only [en, ep, List.drop]
    clear hK hx hD hvz en ep
    go_wp2_with fail
    refine wp_region_inv 8 [] (by kernel_rfl) (by kernel_rfl) (fun y2 => { tmps := #[Value.agg #[Value.int IntKind.i64 k, Value.int IntKind.i64 n, Value.slice A l c], Value.bool tr, Value.pointer (some { block := hb1, off := 0 }), Value.pointer (some { block := hb2, off := 0 }), Value.pointer (some { block := w.heap.size, off := 0 }), undef, Value.pointer (some { block := w.heap.size + 1, off := 0 }), Value.bool false, Value.int IntKind.i64 n, Value.int IntKind.i64 1, y2 7, undef, y1 0, Value.int IntKind.i64 n, y1 2, Value.int IntKind.i64 1, y2 0, y2 1, y2 2, y2 3, y2 4, y2 5, y2 6, undef, undef, undef, undef, undef, undef, undef, undef, undef, undef, undef, undef, undef, undef, undef, undef, undef, undef, undef, undef, undef, undef, undef, undef, undef, undef, undef, undef, undef, undef, undef, undef, undef, undef, undef, undef, undef, undef, undef, undef, undef, undef, undef, undef, undef, undef, undef, undef, undef, undef, undef, undef, undef, undef, undef, undef, undef, undef, undef, undef], defers := [] }) (fun _ => undef) (fun i v W => Sh.ok (FN F w) W (([Sh.val (.int .i64 bv), Sh.val (Value.int IntKind.i64 n), Sh.val (.int .i64 (n + 1)), Sh.val (.int .i64 m), Sh.val (.int .i64 bv), Sh.val (.int .i64 (d - 1)), Sh.val (.int .i64 d), Sh.val (.int .i64 m)] : List Sh).getD i .any) v) (fun i v W W' hK h => Sh.kept hK _ _ h) ?_ ?_
    · refine ⟨?_, ?_, ?_, ?_, ?_, ?_, ?_, ?_, trivial⟩
      · refine ⟨fun x v => rfl, fun y2 S W hK hall hdep K hcont => ?_⟩
        have HCONT := hide hcont
        have HKW := hide hK
        clear hcont hK hall hdep
        have hq := (((unhide HB2).kept (unhide HC).kept id).kept (unhide HKW) id).cell 0
        rw [if_pos (by rfl)]
        go_simp
        exact unhide HCONT _ _ _ rfl (Kept.refl No _) rfl (fun h => absurd h (by decide))
      · refine ⟨fun x v => rfl, fun y2 S W hK hall hdep K hcont => ?_⟩
        have HCONT := hide hcont
        have HKW := hide hK
        clear hcont hK hall hdep
        rw [if_pos (by rfl)]
        go_simp
        exact unhide HCONT _ _ _ rfl (Kept.refl No _) rfl (fun h => absurd h (by decide))
      · refine ⟨fun x v => rfl, fun y2 S W hK hall hdep K hcont => ?_⟩
        have HCONT := hide hcont
        have HKW := hide hK
        have d1 := hall 1 (by decide) (hdep ⟨1, Ground.data⟩ (by simp) rfl)
        clear hcont hK hall hdep
        have e1 : y2 1 = Value.int IntKind.i64 n := d1
        rw [if_pos (by rfl)]
        simp only [e1]
        go_simp
        rw [unhide EW1]
        exact unhide HCONT _ _ _ (by (try simp only [e1]); rfl) (Kept.refl No _) rfl (fun h => absurd h (by decide))
      · refine ⟨fun x v => rfl, fun y2 S W hK hall hdep K hcont => ?_⟩
        have HCONT := hide hcont
        have HKW := hide hK
        have d0 := hall 0 (by decide) (hdep ⟨0, Ground.data⟩ (by simp) rfl)
        have d2 := hall 2 (by decide) (hdep ⟨2, Ground.data⟩ (by simp) rfl)
        clear hcont hK hall hdep
        have e0 : y2 0 = .int .i64 bv := d0
        have e2 : y2 2 = .int .i64 (n + 1) := d2
        rw [if_pos (by rfl)]
        simp only [e0, e2]
        go_simp
        refine (pick_any bv (n + 1) (unhide HN1) (unhide HN2) _).mono ?_
        rintro e w4 ⟨rfl, rfl⟩
        rw [unhide HM]
        exact unhide HCONT _ _ _ (by (try simp only [e0, e2]); rfl) (Kept.refl No _) rfl (fun h => absurd h (by decide))
      · refine ⟨fun x v => rfl, fun y2 S W hK hall hdep K hcont => ?_⟩
        have HCONT := hide hcont
        have HKW := hide hK
        clear hcont hK hall hdep
        have hq := (((unhide HB2).kept (unhide HC).kept id).kept (unhide HKW) id).cell 0
        rw [if_pos (by rfl)]
        go_simp
        exact unhide HCONT _ _ _ rfl (Kept.refl No _) rfl (fun h => absurd h (by decide))
      · refine ⟨fun x v => rfl, fun y2 S W hK hall hdep K hcont => ?_⟩
        have HCONT := hide hcont
        have HKW := hide hK
        have d4 := hall 4 (by decide) (hdep ⟨4, Ground.data⟩ (by simp) rfl)
        clear hcont hK hall hdep
        have e4 : y2 4 = .int .i64 bv := d4
        rw [if_pos (by rfl)]
        simp only [e4]
        go_simp
        refine (pick_any bv 20 (by omega) (by omega) _).mono ?_
        rintro e w4 ⟨rfl, rfl⟩
        rw [unhide HD]
        exact unhide HCONT _ _ _ (by (try simp only [e4]); rfl) (Kept.refl No _) rfl (fun h => absurd h (by decide))
      · refine ⟨fun x v => rfl, fun y2 S W hK hall hdep K hcont => ?_⟩
        have HCONT := hide hcont
        have HKW := hide hK
        have d5 := hall 5 (by decide) (hdep ⟨5, Ground.data⟩ (by simp) rfl)
        clear hcont hK hall hdep
        have e5 : y2 5 = .int .i64 (d - 1) := d5
        rw [if_pos (by rfl)]
        simp only [e5]
        go_simp
        rw [unhide EW2]
        exact unhide HCONT _ _ _ (by (try simp only [e5]); rfl) (Kept.refl No _) rfl (fun h => absurd h (by decide))
      · refine ⟨fun x v => rfl, fun y2 S W hK hall hdep K hcont => ?_⟩
        have HCONT := hide hcont
        have HKW := hide hK
        have d3 := hall 3 (by decide) (hdep ⟨3, Ground.data⟩ (by simp) rfl)
        clear hcont hK hall hdep
        have e3 : y2 3 = .int .i64 m := d3
        rw [if_pos (by rfl)]
        simp only [e3]
        go_simp
        exact unhide HCONT _ _ _ (by (try simp only [e3]); rfl) (Kept.refl No _) rfl (fun h => absurd h (by decide))
    · intro y2 W2 hK hx hD
      have ed : y2 6 = .int .i64 d := hx 6 (by decide)
      have em : y2 7 = .int .i64 m := hx 7 (by decide)
      have hvz := (unhide HC).z.lt
      have HC := hide ((unhide HC).go hK)
      simp only [ed, em, List.drop]
      clear hK hx hD hvz ed em
      go_wp2_with fail
      refine wp_region_store 38 37 (w.heap.size + 1) (FN F w) (.bin .sub (.num (n + d)) (.num d)) [Sh.val (.int .i64 m), Sh.tree (.num m), Sh.val (.int .i64 n), Sh.val (.int .i64 m), Sh.val (.int .i64 (n - m)), Sh.tree (.num (n - m)), Sh.row [(.num m), (.num (n - m))], Sh.tree (.bin .add (.num m) (.num (n - m))), Sh.val (.int .i64 n), Sh.val (.int .i64 d), Sh.val (.int .i64 (n + d)), Sh.tree (.num (n + d)), Sh.val (.int .i64 d), Sh.tree (.num d), Sh.row [(.num (n + d)), (.num d)], Sh.tree (.bin .sub (.num (n + d)) (.num d)), Sh.val (.int .i64 n), Sh.val (.int .i64 d), Sh.val (.int .i64 (n.tdiv d)), Sh.tree (.num (n.tdiv d)), Sh.val (.int .i64 d), Sh.tree (.num d), Sh.row [(.num (n.tdiv d)), (.num d)], Sh.tree (.bin .mul (.num (n.tdiv d)) (.num d)), Sh.val (.int .i64 n), Sh.val (.int .i64 d), Sh.val (.int .i64 (n.tmod d)), Sh.tree (.num (n.tmod d)), Sh.row [(.bin .mul (.num (n.tdiv d)) (.num d)), (.num (n.tmod d))], Sh.tree (.bin .add (.bin .mul (.num (n.tdiv d)) (.num d)) (.num (n.tmod d))), Sh.row [(.bin .add (.num m) (.num (n - m))), (.bin .sub (.num (n + d)) (.num d)), (.bin .add (.bin .mul (.num (n.tdiv d)) (.num d)) (.num (n.tmod d)))], Sh.val (.int .i64 1), Sh.addr (.bin .sub (.num (n + d)) (.num d)), Sh.tree (.bin .sub (.num (n + d)) (.num d)), Sh.val (.pointer (some ⟨w.heap.size, 0, none⟩)), Sh.val (.int .i64 k), Sh.val (.bool false), Sh.any] (by decide) (fun _ h => h.ne) (unhide HC).z (by kernel_rfl) (by kernel_rfl) (fun y9 => { tmps := #[Value.agg #[Value.int IntKind.i64 k, Value.int IntKind.i64 n, Value.slice A l c], Value.bool tr, Value.pointer (some { block := hb1, off := 0 }), Value.pointer (some { block := hb2, off := 0 }), Value.pointer (some { block := w.heap.size, off := 0 }), undef, Value.pointer (some { block := w.heap.size + 1, off := 0 }), Value.bool false, Value.int IntKind.i64 n, Value.int IntKind.i64 1, Value.int IntKind.i64 m, Value.int IntKind.i64 d, y1 0, Value.int IntKind.i64 n, y1 2, Value.int IntKind.i64 1, y2 0, y2 1, y2 2, y2 3, y2 4, y2 5, Value.int IntKind.i64 d, Value.int IntKind.i64 1, Value.bool false, undef, undef, undef, undef, undef, undef, undef, undef, undef, undef, undef, undef, undef, undef, undef, undef, undef, undef, undef, undef, undef, y9 0, y9 1, y9 2, y9 3, y9 4, y9 5, y9 6, y9 7, y9 8, y9 9, y9 10, y9 11, y9 12, y9 13, y9 14, y9 15, y9 16, y9 17, y9 18, y9 19, y9 20, y9 21, y9 22, y9 23, y9 24, y9 25, y9 26, y9 27, y9 28, y9 29, y9 30, y9 31, y9 32, y9 33, y9 34, y9 35, y9 36], defers := [] }) (fun _ => undef) ?_ ?_
      · refine ⟨?_, ?_, ?_, ?_, ?_, ?_, ?_, ?_, ?_, ?_, ?_, ?_, ?_, ?_, ?_, ?_, ?_, ?_, ?_, ?_, ?_, ?_, ?_, ?_, ?_, ?_, ?_, ?_, ?_, ?_, ?_, ?_, ?_, ?_, ?_, ?_, ?_, ?_, trivial⟩
        · refine ⟨fun x v => rfl, fun y9 S W hK hJ hSi hall hdep K hcont0 => ?_⟩
          have hcont := hcont0
          clear hcont0
          rw [if_neg (by decide)] at hcont
          have HCONT := hide hcont
          have HKW := hide hK
          clear hcont hK hall hdep hJ hSi
          rw [if_pos (by rfl)]
          go_simp
          exact unhide HCONT _ _ _ rfl (Kept.refl No _) rfl
        · refine ⟨fun x v => rfl, fun y9 S W hK hJ hSi hall hdep K hcont0 => ?_⟩
          have hcont := hcont0
          clear hcont0
          rw [if_neg (by decide)] at hcont
          have HCONT := hide hcont
          have HKW := hide hK
          have d0 := hall 0 (by decide) (by decide) (hdep ⟨0, Ground.data⟩ (by simp) rfl)
          clear hcont hK hall hdep hJ hSi
          have e0 : y9 0 = .int .i64 m := d0
          rw [if_pos (by rfl)]
          simp only [e0]
          go_simp
          refine (num_any _ _).mono ?_
          rintro e w1 ⟨rfl, hK1⟩
          exact unhide HCONT _ _ _ (by (try simp only [e0]); rfl) hK1 ⟨_, _, _, _, _, rfl, num_rd _ _ _⟩
        · refine ⟨fun x v => rfl, fun y9 S W hK hJ hSi hall hdep K hcont0 => ?_⟩
          have hcont := hcont0
          clear hcont0
          rw [if_neg (by decide)] at hcont
          have HCONT := hide hcont
          have HKW := hide hK
          clear hcont hK hall hdep hJ hSi
          rw [if_pos (by rfl)]
          go_simp
          exact unhide HCONT _ _ _ rfl (Kept.refl No _) rfl
        · refine ⟨fun x v => rfl, fun y9 S W hK hJ hSi hall hdep K hcont0 => ?_⟩
          have hcont := hcont0
          clear hcont0
          rw [if_neg (by decide)] at hcont
          have HCONT := hide hcont
          have HKW := hide hK
          clear hcont hK hall hdep hJ hSi
          rw [if_pos (by rfl)]
          go_simp
          exact unhide HCONT _ _ _ rfl (Kept.refl No _) rfl
        · refine ⟨fun x v => rfl, fun y9 S W hK hJ hSi hall hdep K hcont0 => ?_⟩
          have hcont := hcont0
          clear hcont0
          rw [if_neg (by decide)] at hcont
          have HCONT := hide hcont
          have HKW := hide hK
          have d2 := hall 2 (by decide) (by decide) (hdep ⟨2, Ground.data⟩ (by simp) rfl)
          have d3 := hall 3 (by decide) (by decide) (hdep ⟨3, Ground.data⟩ (by simp) rfl)
          clear hcont hK hall hdep hJ hSi
          have e2 : y9 2 = .int .i64 n := d2
          have e3 : y9 3 = .int .i64 m := d3
          rw [if_pos (by rfl)]
          simp only [e2, e3]
          go_simp
          rw [unhide EW3]
          exact unhide HCONT _ _ _ (by (try simp only [e2, e3]); rfl) (Kept.refl No _) rfl
        · refine ⟨fun x v => rfl, fun y9 S W hK hJ hSi hall hdep K hcont0 => ?_⟩
          have hcont := hcont0
          clear hcont0
          rw [if_neg (by decide)] at hcont
          have HCONT := hide hcont
          have HKW := hide hK
          have d4 := hall 4 (by decide) (by decide) (hdep ⟨4, Ground.data⟩ (by simp) rfl)
          clear hcont hK hall hdep hJ hSi
          have e4 : y9 4 = .int .i64 (n - m) := d4
          rw [if_pos (by rfl)]
          simp only [e4]
          go_simp
          refine (num_any _ _).mono ?_
          rintro e w1 ⟨rfl, hK1⟩
          exact unhide HCONT _ _ _ (by (try simp only [e4]); rfl) hK1 ⟨_, _, _, _, _, rfl, num_rd _ _ _⟩
        · refine ⟨fun x v => rfl, fun y9 S W hK hJ hSi hall hdep K hcont0 => ?_⟩
          have hcont := hcont0
          clear hcont0
          rw [if_neg (by decide)] at hcont
          have HCONT := hide hcont
          have HKW := hide hK
          have d1 := hall 1 (by decide) (by decide) (hdep ⟨1, Ground.data⟩ (by simp) rfl)
          have d5 := hall 5 (by decide) (by decide) (hdep ⟨5, Ground.data⟩ (by simp) rfl)
          clear hcont hK hall hdep hJ hSi
          obtain ⟨k1, n1, A1, l1, c1, e1, r1⟩ := d1
          obtain ⟨k5, n5, A5, l5, c5, e5, r5⟩ := d5
          rw [if_pos (by rfl)]
          simp only [e1, e5]
          go_simp
          exact unhide HCONT _ _ _ (by (try simp only [e1, e5]); rfl) ((Kept.refl No _).alloc _) (row2_new r1 r5 (fun i hi => .inr (by have h1_ := (unhide HC).z.lt; have h2_ := (unhide HKW).size; omega)))
        · refine ⟨fun x v => rfl, fun y9 S W hK hJ hSi hall hdep K hcont0 => ?_⟩
          have hcont := hcont0
          clear hcont0
          rw [if_neg (by decide)] at hcont
          have HCONT := hide hcont
          have HKW := hide hK
          have d6 := hall 6 (by decide) (by decide) (hdep ⟨6, Ground.data⟩ (by simp) rfl)
          clear hcont hK hall hdep hJ hSi
          obtain ⟨b6, e6, f6, r6⟩ := d6
          rw [if_pos (by rfl)]
          simp only [e6]
          go_simp
          refine (op2_row .add (by rfl) _ b6 (.num m) (.num (n - m)) r6 f6).mono ?_
          rintro e w1 ⟨k_, n_, A_, l_, c_, rfl, hR1, hK1⟩
          exact unhide HCONT _ _ _ (by (try simp only [e6]); rfl) hK1 ⟨_, _, _, _, _, rfl, hR1⟩
        · refine ⟨fun x v => rfl, fun y9 S W hK hJ hSi hall hdep K hcont0 => ?_⟩
          have hcont := hcont0
          clear hcont0
          rw [if_neg (by decide)] at hcont
          have HCONT := hide hcont
          have HKW := hide hK
          clear hcont hK hall hdep hJ hSi
          rw [if_pos (by rfl)]
          go_simp
          exact unhide HCONT _ _ _ rfl (Kept.refl No _) rfl
        · refine ⟨fun x v => rfl, fun y9 S W hK hJ hSi hall hdep K hcont0 => ?_⟩
          have hcont := hcont0
          clear hcont0
          rw [if_neg (by decide)] at hcont
          have HCONT := hide hcont
          have HKW := hide hK
          clear hcont hK hall hdep hJ hSi
          rw [if_pos (by rfl)]
          go_simp
          exact unhide HCONT _ _ _ rfl (Kept.refl No _) rfl
        · refine ⟨fun x v => rfl, fun y9 S W hK hJ hSi hall hdep K hcont0 => ?_⟩
          have hcont := hcont0
          clear hcont0
          rw [if_neg (by decide)] at hcont
          have HCONT := hide hcont
          have HKW := hide hK
          have d8 := hall 8 (by decide) (by decide) (hdep ⟨8, Ground.data⟩ (by simp) rfl)
          have d9 := hall 9 (by decide) (by decide) (hdep ⟨9, Ground.data⟩ (by simp) rfl)
          clear hcont hK hall hdep hJ hSi
          have e8 : y9 8 = .int .i64 n := d8
          have e9 : y9 9 = .int .i64 d := d9
          rw [if_pos (by rfl)]
          simp only [e8, e9]
          go_simp
          rw [unhide EW4]
          exact unhide HCONT _ _ _ (by (try simp only [e8, e9]); rfl) (Kept.refl No _) rfl
        · refine ⟨fun x v => rfl, fun y9 S W hK hJ hSi hall hdep K hcont0 => ?_⟩
          have hcont := hcont0
          clear hcont0
          rw [if_neg (by decide)] at hcont
          have HCONT := hide hcont
          have HKW := hide hK
          have d10 := hall 10 (by decide) (by decide) (hdep ⟨10, Ground.data⟩ (by simp) rfl)
          clear hcont hK hall hdep hJ hSi
          have e10 : y9 10 = .int .i64 (n + d) := d10
          rw [if_pos (by rfl)]
          simp only [e10]
          go_simp
          refine (num_any _ _).mono ?_
          rintro e w1 ⟨rfl, hK1⟩
          exact unhide HCONT _ _ _ (by (try simp only [e10]); rfl) hK1 ⟨_, _, _, _, _, rfl, num_rd _ _ _⟩
        · refine ⟨fun x v => rfl, fun y9 S W hK hJ hSi hall hdep K hcont0 => ?_⟩
          have hcont := hcont0
          clear hcont0
          rw [if_neg (by decide)] at hcont
          have HCONT := hide hcont
          have HKW := hide hK
          clear hcont hK hall hdep hJ hSi
          rw [if_pos (by rfl)]
          go_simp
          exact unhide HCONT _ _ _ rfl (Kept.refl No _) rfl
        · refine ⟨fun x v => rfl, fun y9 S W hK hJ hSi hall hdep K hcont0 => ?_⟩
          have hcont := hcont0
          clear hcont0
          rw [if_neg (by decide)] at hcont
          have HCONT := hide hcont
          have HKW := hide hK
          have d12 := hall 12 (by decide) (by decide) (hdep ⟨12, Ground.data⟩ (by simp) rfl)
          clear hcont hK hall hdep hJ hSi
          have e12 : y9 12 = .int .i64 d := d12
          rw [if_pos (by rfl)]
          simp only [e12]
          go_simp
          refine (num_any _ _).mono ?_
          rintro e w1 ⟨rfl, hK1⟩
          exact unhide HCONT _ _ _ (by (try simp only [e12]); rfl) hK1 ⟨_, _, _, _, _, rfl, num_rd _ _ _⟩
        · refine ⟨fun x v => rfl, fun y9 S W hK hJ hSi hall hdep K hcont0 => ?_⟩
          have hcont := hcont0
          clear hcont0
          rw [if_neg (by decide)] at hcont
          have HCONT := hide hcont
          have HKW := hide hK
          have d11 := hall 11 (by decide) (by decide) (hdep ⟨11, Ground.data⟩ (by simp) rfl)
          have d13 := hall 13 (by decide) (by decide) (hdep ⟨13, Ground.data⟩ (by simp) rfl)
          clear hcont hK hall hdep hJ hSi
          obtain ⟨k11, n11, A11, l11, c11, e11, r11⟩ := d11
          obtain ⟨k13, n13, A13, l13, c13, e13, r13⟩ := d13
          rw [if_pos (by rfl)]
          simp only [e11, e13]
          go_simp
          exact unhide HCONT _ _ _ (by (try simp only [e11, e13]); rfl) ((Kept.refl No _).alloc _) (row2_new r11 r13 (fun i hi => .inr (by have h1_ := (unhide HC).z.lt; have h2_ := (unhide HKW).size; omega)))
        · refine ⟨fun x v => rfl, fun y9 S W hK hJ hSi hall hdep K hcont0 => ?_⟩
          have hcont := hcont0
          clear hcont0
          rw [if_neg (by decide)] at hcont
          have HCONT := hide hcont
          have HKW := hide hK
          have d14 := hall 14 (by decide) (by decide) (hdep ⟨14, Ground.data⟩ (by simp) rfl)
          clear hcont hK hall hdep hJ hSi
          obtain ⟨b14, e14, f14, r14⟩ := d14
          rw [if_pos (by rfl)]
          simp only [e14]
          go_simp
          refine (op2_row .sub (by rfl) _ b14 (.num (n + d)) (.num d) r14 f14).mono ?_
          rintro e w1 ⟨k_, n_, A_, l_, c_, rfl, hR1, hK1⟩
          exact unhide HCONT _ _ _ (by (try simp only [e14]); rfl) hK1 ⟨_, _, _, _, _, rfl, hR1⟩
        · refine ⟨fun x v => rfl, fun y9 S W hK hJ hSi hall hdep K hcont0 => ?_⟩
          have hcont := hcont0
          clear hcont0
          rw [if_neg (by decide)] at hcont
          have HCONT := hide hcont
          have HKW := hide hK
          clear hcont hK hall hdep hJ hSi
          rw [if_pos (by rfl)]
          go_simp
          exact unhide HCONT _ _ _ rfl (Kept.refl No _) rfl
        · refine ⟨fun x v => rfl, fun y9 S W hK hJ hSi hall hdep K hcont0 => ?_⟩
          have hcont := hcont0
          clear hcont0
          rw [if_neg (by decide)] at hcont
          have HCONT := hide hcont
          have HKW := hide hK
          clear hcont hK hall hdep hJ hSi
          rw [if_pos (by rfl)]
          go_simp
          exact unhide HCONT _ _ _ rfl (Kept.refl No _) rfl
        · refine ⟨fun x v => rfl, fun y9 S W hK hJ hSi hall hdep K hcont0 => ?_⟩
          have hcont := hcont0
          clear hcont0
          rw [if_neg (by decide)] at hcont
          have HCONT := hide hcont
          have HKW := hide hK
          have d16 := hall 16 (by decide) (by decide) (hdep ⟨16, Ground.data⟩ (by simp) rfl)
          have d17 := hall 17 (by decide) (by decide) (hdep ⟨17, Ground.data⟩ (by simp) rfl)
          clear hcont hK hall hdep hJ hSi
          have e16 : y9 16 = .int .i64 n := d16
          have e17 : y9 17 = .int .i64 d := d17
          rw [if_pos (by rfl)]
          simp only [e16, e17]
          go_simp
          rw [unhide EW5]
          exact unhide HCONT _ _ _ (by (try simp only [e16, e17]); rfl) (Kept.refl No _) rfl
        · refine ⟨fun x v => rfl, fun y9 S W hK hJ hSi hall hdep K hcont0 => ?_⟩
          have hcont := hcont0
          clear hcont0
          rw [if_neg (by decide)] at hcont
          have HCONT := hide hcont
          have HKW := hide hK
          have d18 := hall 18 (by decide) (by decide) (hdep ⟨18, Ground.data⟩ (by simp) rfl)
          clear hcont hK hall hdep hJ hSi
          have e18 : y9 18 = .int .i64 (n.tdiv d) := d18
          rw [if_pos (by rfl)]
          simp only [e18]
          go_simp
          refine (num_any _ _).mono ?_
          rintro e w1 ⟨rfl, hK1⟩
          exact unhide HCONT _ _ _ (by (try simp only [e18]); rfl) hK1 ⟨_, _, _, _, _, rfl, num_rd _ _ _⟩
        · refine ⟨fun x v => rfl, fun y9 S W hK hJ hSi hall hdep K hcont0 => ?_⟩
          have hcont := hcont0
          clear hcont0
          rw [if_neg (by decide)] at hcont
          have HCONT := hide hcont
          have HKW := hide hK
          clear hcont hK hall hdep hJ hSi
          rw [if_pos (by rfl)]
          go_simp
          exact unhide HCONT _ _ _ rfl (Kept.refl No _) rfl
        · refine ⟨fun x v => rfl, fun y9 S W hK hJ hSi hall hdep K hcont0 => ?_⟩
          have hcont := hcont0
          clear hcont0
          rw [if_neg (by decide)] at hcont
          have HCONT := hide hcont
          have HKW := hide hK
          have d20 := hall 20 (by decide) (by decide) (hdep ⟨20, Ground.data⟩ (by simp) rfl)
          clear hcont hK hall hdep hJ hSi
          have e20 : y9 20 = .int .i64 d := d20
          rw [if_pos (by rfl)]
          simp only [e20]
          go_simp
          refine (num_any _ _).mono ?_
          rintro e w1 ⟨rfl, hK1⟩
          exact unhide HCONT _ _ _ (by (try simp only [e20]); rfl) hK1 ⟨_, _, _, _, _, rfl, num_rd _ _ _⟩
        · refine ⟨fun x v => rfl, fun y9 S W hK hJ hSi hall hdep K hcont0 => ?_⟩
          have hcont := hcont0
          clear hcont0
          rw [if_neg (by decide)] at hcont
          have HCONT := hide hcont
          have HKW := hide hK
          have d19 := hall 19 (by decide) (by decide) (hdep ⟨19, Ground.data⟩ (by simp) rfl)
          have d21 := hall 21 (by decide) (by decide) (hdep ⟨21, Ground.data⟩ (by simp) rfl)
          clear hcont hK hall hdep hJ hSi
          obtain ⟨k19, n19, A19, l19, c19, e19, r19⟩ := d19
          obtain ⟨k21, n21, A21, l21, c21, e21, r21⟩ := d21
          rw [if_pos (by rfl)]
          simp only [e19, e21]
          go_simp
          exact unhide HCONT _ _ _ (by (try simp only [e19, e21]); rfl) ((Kept.refl No _).alloc _) (row2_new r19 r21 (fun i hi => .inr (by have h1_ := (unhide HC).z.lt; have h2_ := (unhide HKW).size; omega)))
        · refine ⟨fun x v => rfl, fun y9 S W hK hJ hSi hall hdep K hcont0 => ?_⟩
          have hcont := hcont0
          clear hcont0
          rw [if_neg (by decide)] at hcont
          have HCONT := hide hcont
          have HKW := hide hK
          have d22 := hall 22 (by decide) (by decide) (hdep ⟨22, Ground.data⟩ (by simp) rfl)
          clear hcont hK hall hdep hJ hSi
          obtain ⟨b22, e22, f22, r22⟩ := d22
          rw [if_pos (by rfl)]
          simp only [e22]
          go_simp
          refine (op2_row .mul (by rfl) _ b22 (.num (n.tdiv d)) (.num d) r22 f22).mono ?_
          rintro e w1 ⟨k_, n_, A_, l_, c_, rfl, hR1, hK1⟩
          exact unhide HCONT _ _ _ (by (try simp only [e22]); rfl) hK1 ⟨_, _, _, _, _, rfl, hR1⟩
        · refine ⟨fun x v => rfl, fun y9 S W hK hJ hSi hall hdep K hcont0 => ?_⟩
          have hcont := hcont0
          clear hcont0
          rw [if_neg (by decide)] at hcont
          have HCONT := hide hcont
          have HKW := hide hK
          clear hcont hK hall hdep hJ hSi
          rw [if_pos (by rfl)]
          go_simp
          exact unhide HCONT _ _ _ rfl (Kept.refl No _) rfl
        · refine ⟨fun x v => rfl, fun y9 S W hK hJ hSi hall hdep K hcont0 => ?_⟩
          have hcont := hcont0
          clear hcont0
          rw [if_neg (by decide)] at hcont
          have HCONT := hide hcont
          have HKW := hide hK
          clear hcont hK hall hdep hJ hSi
          rw [if_pos (by rfl)]
          go_simp
          exact unhide HCONT _ _ _ rfl (Kept.refl No _) rfl
        · refine ⟨fun x v => rfl, fun y9 S W hK hJ hSi hall hdep K hcont0 => ?_⟩
          have hcont := hcont0
          clear hcont0
          rw [if_neg (by decide)] at hcont
          have HCONT := hide hcont
          have HKW := hide hK
          have d24 := hall 24 (by decide) (by decide) (hdep ⟨24, Ground.data⟩ (by simp) rfl)
          have d25 := hall 25 (by decide) (by decide) (hdep ⟨25, Ground.data⟩ (by simp) rfl)
          clear hcont hK hall hdep hJ hSi
          have e24 : y9 24 = .int .i64 n := d24
          have e25 : y9 25 = .int .i64 d := d25
          rw [if_pos (by rfl)]
          simp only [e24, e25]
          go_simp
          exact unhide HCONT _ _ _ (by (try simp only [e24, e25]); rfl) (Kept.refl No _) rfl
        · refine ⟨fun x v => rfl, fun y9 S W hK hJ hSi hall hdep K hcont0 => ?_⟩
          have hcont := hcont0
          clear hcont0
          rw [if_neg (by decide)] at hcont
          have HCONT := hide hcont
          have HKW := hide hK
          have d26 := hall 26 (by decide) (by decide) (hdep ⟨26, Ground.data⟩ (by simp) rfl)
          clear hcont hK hall hdep hJ hSi
          have e26 : y9 26 = .int .i64 (n.tmod d) := d26
          rw [if_pos (by rfl)]
          simp only [e26]
          go_simp
          refine (num_any _ _).mono ?_
          rintro e w1 ⟨rfl, hK1⟩
          exact unhide HCONT _ _ _ (by (try simp only [e26]); rfl) hK1 ⟨_, _, _, _, _, rfl, num_rd _ _ _⟩
        · refine ⟨fun x v => rfl, fun y9 S W hK hJ hSi hall hdep K hcont0 => ?_⟩
          have hcont := hcont0
          clear hcont0
          rw [if_neg (by decide)] at hcont
          have HCONT := hide hcont
          have HKW := hide hK
          have d23 := hall 23 (by decide) (by decide) (hdep ⟨23, Ground.data⟩ (by simp) rfl)
          have d27 := hall 27 (by decide) (by decide) (hdep ⟨27, Ground.data⟩ (by simp) rfl)
          clear hcont hK hall hdep hJ hSi
          obtain ⟨k23, n23, A23, l23, c23, e23, r23⟩ := d23
          obtain ⟨k27, n27, A27, l27, c27, e27, r27⟩ := d27
          rw [if_pos (by rfl)]
          simp only [e23, e27]
          go_simp
          exact unhide HCONT _ _ _ (by (try simp only [e23, e27]); rfl) ((Kept.refl No _).alloc _) (row2_new r23 r27 (fun i hi => .inr (by have h1_ := (unhide HC).z.lt; have h2_ := (unhide HKW).size; omega)))
        · refine ⟨fun x v => rfl, fun y9 S W hK hJ hSi hall hdep K hcont0 => ?_⟩
          have hcont := hcont0
          clear hcont0
          rw [if_neg (by decide)] at hcont
          have HCONT := hide hcont
          have HKW := hide hK
          have d28 := hall 28 (by decide) (by decide) (hdep ⟨28, Ground.data⟩ (by simp) rfl)
          clear hcont hK hall hdep hJ hSi
          obtain ⟨b28, e28, f28, r28⟩ := d28
          rw [if_pos (by rfl)]
          simp only [e28]
          go_simp
          refine (op2_row .add (by rfl) _ b28 (.bin .mul (.num (n.tdiv d)) (.num d)) (.num (n.tmod d)) r28 f28).mono ?_
          rintro e w1 ⟨k_, n_, A_, l_, c_, rfl, hR1, hK1⟩
          exact unhide HCONT _ _ _ (by (try simp only [e28]); rfl) hK1 ⟨_, _, _, _, _, rfl, hR1⟩
        · refine ⟨fun x v => rfl, fun y9 S W hK hJ hSi hall hdep K hcont0 => ?_⟩
          have hcont := hcont0
          clear hcont0
          rw [if_neg (by decide)] at hcont
          have HCONT := hide hcont
          have HKW := hide hK
          have d7 := hall 7 (by decide) (by decide) (hdep ⟨7, Ground.data⟩ (by simp) rfl)
          have d15 := hall 15 (by decide) (by decide) (hdep ⟨15, Ground.data⟩ (by simp) rfl)
          have d29 := hall 29 (by decide) (by decide) (hdep ⟨29, Ground.data⟩ (by simp) rfl)
          clear hcont hK hall hdep hJ hSi
          obtain ⟨k7, n7, A7, l7, c7, e7, r7⟩ := d7
          obtain ⟨k15, n15, A15, l15, c15, e15, r15⟩ := d15
          obtain ⟨k29, n29, A29, l29, c29, e29, r29⟩ := d29
          rw [if_pos (by rfl)]
          simp only [e7, e15, e29]
          go_simp
          exact unhide HCONT _ _ _ (by (try simp only [e7, e15, e29]); rfl) ((Kept.refl No _).alloc _) (row3_new r7 r15 r29 (fun i hi => .inr (by have h1_ := (unhide HC).z.lt; have h2_ := (unhide HKW).size; omega)))
        · refine ⟨fun x v => rfl, fun y9 S W hK hJ hSi hall hdep K hcont0 => ?_⟩
          have hcont := hcont0
          clear hcont0
          rw [if_neg (by decide)] at hcont
          have HCONT := hide hcont
          have HKW := hide hK
          clear hcont hK hall hdep hJ hSi
          rw [if_pos (by rfl)]
          go_simp
          exact unhide HCONT _ _ _ rfl (Kept.refl No _) rfl
        · refine ⟨fun x v => rfl, fun y9 S W hK hJ hSi hall hdep K hcont0 => ?_⟩
          have hcont := hcont0
          clear hcont0
          rw [if_neg (by decide)] at hcont
          have HCONT := hide hcont
          have HKW := hide hK
          have d30 := hall 30 (by decide) (by decide) (hdep ⟨30, Ground.data⟩ (by simp) rfl)
          have d31 := hall 31 (by decide) (by decide) (hdep ⟨31, Ground.data⟩ (by simp) rfl)
          clear hcont hK hall hdep hJ hSi
          obtain ⟨b30, e30, f30, r30⟩ := d30
          have e31 : y9 31 = .int .i64 1 := d31
          rw [if_pos (by rfl)]
          simp only [e30, e31]
          go_simp
          exact unhide HCONT _ _ _ (by (try simp only [e30, e31]); rfl) (Kept.refl No _) ⟨b30, _, rfl, f30, r30 1 _ rfl⟩
        · refine ⟨fun x v => rfl, fun y9 S W hK hJ hSi hall hdep K hcont0 => ?_⟩
          have hcont := hcont0
          clear hcont0
          rw [if_neg (by decide)] at hcont
          have HCONT := hide hcont
          have HKW := hide hK
          have d32 := hall 32 (by decide) (by decide) (hdep ⟨32, Ground.data⟩ (by simp) rfl)
          clear hcont hK hall hdep hJ hSi
          obtain ⟨b32, o32, e32, ff32, kk32, nn32, AA32, ll32, cc32, ⟨yy032, yy132, yy232⟩, r32⟩ := d32
          rw [if_pos (by rfl)]
          simp only [e32]
          go_simp
          exact unhide HCONT _ _ _ (by (try simp only [e32]); rfl) (Kept.refl No _) ⟨_, _, _, _, _, rfl, r32⟩
        · refine ⟨fun x v => rfl, fun y9 S W hK hJ hSi hall hdep K hcont0 => ?_⟩
          have hcont := hcont0
          clear hcont0
          rw [if_neg (by decide)] at hcont
          have HCONT := hide hcont
          have HKW := hide hK
          clear hcont hK hall hdep hJ hSi
          rw [if_pos (by rfl)]
          go_simp
          exact unhide HCONT _ _ _ rfl (Kept.refl No _) rfl
        · refine ⟨fun x v => rfl, fun y9 S W hK hJ hSi hall hdep K hcont0 => ?_⟩
          have hcont := hcont0
          clear hcont0
          rw [if_neg (by decide)] at hcont
          have HCONT := hide hcont
          have HKW := hide hK
          have d34 := hall 34 (by decide) (by decide) (hdep ⟨34, Ground.data⟩ (by simp) rfl)
          clear hcont hK hall hdep hJ hSi
          have e34 : y9 34 = .pointer (some ⟨w.heap.size, 0, none⟩) := d34
          obtain xs0 := ((unhide HC).x.kept (unhide HKW) (one_ne (by omega))).cell 0
          rw [if_pos (by rfl)]
          simp only [e34]
          go_simp
          exact unhide HCONT _ _ _ (by (try simp only [e34]); rfl) (Kept.refl No _) rfl
        · refine ⟨fun x v => rfl, fun y9 S W hK hJ hSi hall hdep K hcont0 => ?_⟩
          have hcont := hcont0
          clear hcont0
          rw [if_neg (by decide)] at hcont
          have HCONT := hide hcont
          have HKW := hide hK
          have d35 := hall 35 (by decide) (by decide) (hdep ⟨35, Ground.data⟩ (by simp) rfl)
          clear hcont hK hall hdep hJ hSi
          have e35 : y9 35 = .int .i64 k := d35
          rw [if_pos (by rfl)]
          simp only [e35]
          go_simp
          exact unhide HCONT _ _ _ (by (try simp only [e35]); rfl) (Kept.refl No _) rfl
        · refine ⟨fun x v => rfl, fun y9 S W hK hJ hSi hall hdep K hcont0 => ?_⟩
          have hcont := hcont0
          clear hcont0
          rw [if_pos rfl] at hcont
          have HCONT := hide hcont
          have HKW := hide hK
          have d33 := hall 33 (by decide) (by decide) (hdep ⟨33, Ground.data⟩ (by simp) rfl)
          have HJ := hide (hJ hSi)
          clear hcont hK hall hdep hJ hSi
          obtain ⟨k33, n33, A33, l33, c33, e33, r33⟩ := d33
          obtain ⟨f0, f1, f2, z0, z1, z2, hlt⟩ : _ ∧ _ ∧ _ ∧ _ ∧ _ ∧ _ ∧ _ := ⟨(unhide HJ).frozen 0, (unhide HJ).frozen 1, (unhide HJ).frozen 2, (unhide HJ).cell 0, (unhide HJ).cell 1, (unhide HJ).cell 2, (unhide HJ).lt⟩
          rw [if_pos (by rfl)]
          simp only [e33]
          go_simp
          exact unhide HCONT undef _ _ (by (try simp only [e33]); rfl) ((((Kept.refl _ _).one 0 _).one 1 _).one 2 _) ⟨_, _, _, _, _, (((unhide HJ).set_ 0 _).set_ 1 _).set_ 2 _, r33.kept ((((Kept.refl (One (w.heap.size + 1)) _).one 0 _).one 1 _).one 2 _) (fun i _ hi => one_ne hi.ne)⟩
      · intro y9 W hK hZ hx
        have e36 : y9 36 = .bool false := hx 36 (by decide) (by decide)
        obtain ⟨k4, n4, A4, l4, c4, hBz, hr4⟩ := hZ
        have hKw := (unhide HC).kept.trans hK (fun i hi h => by unfold One at h; omega)
        have HBZ := hide hBz
        have HR4 := hide hr4
        have HKw := hide hKw
        have z0 : W.cell? ⟨w.heap.size + 1, 0, none⟩ = some (.int .i64 k4) := hBz.cell 0
        have z1 : W.cell? ⟨w.heap.size + 1, 1, none⟩ = some (.int .i64 n4) := hBz.cell 1
        have z2 : W.cell? ⟨w.heap.size + 1, 2, none⟩ = some (.slice A4 l4 c4) := hBz.cell 2
        simp only [e36, List.drop]
        clear hK hx e36 hBz hr4 hKw
        go_wp2_with fail
        refine bodyPost_ret (v := .tuple #[.agg #[.int .i64 k4, .int .i64 n4, .slice A4 l4 c4], .bool false]) (by simp [results, Tryd.results32, go_sem, z0, z1, z2]) rfl ?_
        exact ⟨k4, n4, A4, l4, c4, rfl, unhide HKw, (unhide HR4).mono (fun _ _ h => h.out)⟩
set_option maxRecDepth 100000 in
set_option maxHeartbeats 4000000 in
theorem part_oth2 (hw bv : Int) (hb1 hb2 : Nat) (w0 w : World) (F : Nat → Prop) (k n : Int) (A : Option Addr) (l c : Nat) (m d : Int) (tr : Bool) (hK0 : Kept No w0 w) (hH1 : Blk w0 hb1 3 #[.int .i64 hw]) (hH2 : Blk w0 hb2 3 #[.int .i64 bv]) (hn0 : 0 ≤ n) (hnm : n ≤ 2147483647) (hm : pickF bv (n + 1) = m) (hd : pickF bv 20 = d - 1) (hp : pickF hw 7 = 2) (hk : k ≠ 1) :
    Calls Tryd.prog 32 #[.agg #[.int .i64 k, .int .i64 n, .slice A l c], .bool tr, .pointer (some ⟨hb1, 0, none⟩), .pointer (some ⟨hb2, 0, none⟩)] w (MadeB w F (numE 2 m d n (.num n)) false) := by
  have dk : (k == 1) = false := by rw [beq_eq_false_iff_ne]; exact hk
  clear hk
  have hB1 := hH1.kept hK0 id
  have hB2 := hH2.kept hK0 id
  have h1 : w.cell? ⟨hb1, 0, none⟩ = some (.int .i64 hw) := hB1.cell 0
  have h2 : w.cell? ⟨hb2, 0, none⟩ = some (.int .i64 bv) := hB2.cell 0
  have hbw1 := hB1.lt
  have hbw2 := hB2.lt
  have HB1 := hide hB1
  have HB2 := hide hB2
  have HP := hide hp
  have HM := hide hm
  have HD := hide hd
  have hm0 : 0 ≤ m ∧ m ≤ n := by have := pickF_range (x := bv) (n := n + 1) (by omega); omega
  have hd0 : 1 ≤ d ∧ d ≤ 20 := by have := pickF_range (x := bv) (n := 20) (by omega); omega
  obtain ⟨hm1, hm2⟩ := hm0
  obtain ⟨hd1, hd2⟩ := hd0
  have hn1 : (1 : Int) ≤ n + 1 := by omega
  have hn2 : n + 1 ≤ 9223372036854775807 := by omega
  have EW1 := hide (show IntKind.i64.wrap (n + 1) = n + 1 from IntWalk.i64_in _ (by omega))
  have EW2 := hide (show IntKind.i64.wrap d = d from IntWalk.i64_in _ (by omega))
  have EW3 := hide (show IntKind.i64.wrap (n - m) = n - m from IntWalk.i64_in _ (by omega))
  have EW4 := hide (show IntKind.i64.wrap (n + d) = n + d from IntWalk.i64_in _ (by omega))
  have htd : 0 ≤ n.tdiv d ∧ n.tdiv d ≤ n := by
    rw [Int.tdiv_eq_ediv_of_nonneg hn0]
    exact ⟨Int.ediv_nonneg hn0 (by omega), Int.ediv_le_self _ hn0⟩
  have htm : 0 ≤ n.tmod d ∧ n.tmod d ≤ 20 := by
    rw [Int.tmod_eq_emod_of_nonneg hn0]
    have h3 := Int.emod_nonneg n (show d ≠ 0 by omega)
    have h4 := Int.emod_lt_of_pos n (show 0 < d by omega)
    omega
  have EW5 := hide (show IntKind.i64.wrap (n.tdiv d) = n.tdiv d from IntWalk.i64_in _ (by omega))
  have EW6 := hide (show IntKind.i64.wrap (n.tmod d) = n.tmod d from IntWalk.i64_in _ (by omega))
  clear htd htm
  have HN1 := hide hn1
  have HN2 := hide hn2
  have hd0 : ¬ d = 0 := by omega
  have hd3 : (d == 0) = false := by rw [beq_eq_false_iff_ne]; exact hd0
  clear hK0 hH1 hH2 hp hm hd hB1 hB2
  go_enter Tryd.func32, Tryd.ntmps32
  go_wp2_with fail
  have HC := hide (Ctx.start w k n A l c)
  generalize (w.alloc (.cells #[.int .i64 k, .int .i64 n, .slice A l c] 24)).alloc (.cells #[.int .i64 0, .int .i64 0, .slice none 0 0] 24) = V at HC ⊢
  refine wp_region_inv 4 [] (by kernel_rfl) (by kernel_rfl) (fun y1 => { tmps := #[Value.agg #[Value.int IntKind.i64 k, Value.int IntKind.i64 n, Value.slice A l c], Value.bool tr, Value.pointer (some { block := hb1, off := 0 }), Value.pointer (some { block := hb2, off := 0 }), Value.pointer (some { block := w.heap.size, off := 0 }), undef, Value.pointer (some { block := w.heap.size + 1, off := 0 }), Value.bool false, undef, undef, undef, undef, y1 0, y1 1, y1 2, y1 3, undef, undef, undef, undef, undef, undef, undef, undef, undef, undef, undef, undef, undef, undef, undef, undef, undef, undef, undef, undef, undef, undef, undef, undef, undef, undef, undef, undef, undef, undef, undef, undef, undef, undef, undef, undef, undef, undef, undef, undef, undef, undef, undef, undef, undef, undef, undef, undef, undef, undef, undef, undef, undef, undef, undef, undef, undef, undef, undef, undef, undef, undef, undef, undef, undef, undef, undef], defers := [] }) (fun _ => undef) (fun i v W => Sh.ok (FN F w) W (([Sh.val (.pointer (some ⟨w.heap.size, 1, none⟩)), Sh.val (.int .i64 n), Sh.val (.int .i64 hw), Sh.val (.int .i64 2)] : List Sh).getD i .any) v) (fun i v W W' hK h => Sh.kept hK _ _ h) ?_ ?_
  · refine ⟨?_, ?_, ?_, ?_, trivial⟩
    · refine ⟨fun x v => rfl, fun y1 S W hK hall hdep K hcont => ?_⟩
      have HCONT := hide hcont
      have HKW := hide hK
      clear hcont hK hall hdep
      rw [if_pos (by rfl)]
      go_simp
      exact unhide HCONT _ _ _ rfl (Kept.refl No _) rfl (fun h => absurd h (by decide))
    · refine ⟨fun x v => rfl, fun y1 S W hK hall hdep K hcont => ?_⟩
      have HCONT := hide hcont
      have HKW := hide hK
      have d0 := hall 0 (by decide) (hdep ⟨0, Ground.data⟩ (by simp) rfl)
      clear hcont hK hall hdep
      have e0 : y1 0 = .pointer (some ⟨w.heap.size, 1, none⟩) := d0
      obtain ⟨xs0, xs1, xs2⟩ := ((unhide HC).go (unhide HKW)).xs
      rw [if_pos (by rfl)]
      simp only [e0]
      go_simp
      exact unhide HCONT _ _ _ (by (try simp only [e0]); rfl) (Kept.refl No _) rfl (fun h => absurd h (by decide))
    · refine ⟨fun x v => rfl, fun y1 S W hK hall hdep K hcont => ?_⟩
      have HCONT := hide hcont
      have HKW := hide hK
      clear hcont hK hall hdep
      have hq := (((unhide HB1).kept (unhide HC).kept id).kept (unhide HKW) id).cell 0
      rw [if_pos (by rfl)]
      go_simp
      exact unhide HCONT _ _ _ rfl (Kept.refl No _) rfl (fun h => absurd h (by decide))
    · refine ⟨fun x v => rfl, fun y1 S W hK hall hdep K hcont => ?_⟩
      have HCONT := hide hcont
      have HKW := hide hK
      have d2 := hall 2 (by decide) (hdep ⟨2, Ground.data⟩ (by simp) rfl)
      clear hcont hK hall hdep
      have e2 : y1 2 = .int .i64 hw := d2
      rw [if_pos (by rfl)]
      simp only [e2]
      go_simp
      refine (pick_any hw 7 (by omega) (by omega) _).mono ?_
      rintro e w4 ⟨rfl, rfl⟩
      rw [unhide HP]
      exact unhide HCONT _ _ _ (by (try simp only [e2]); rfl) (Kept.refl No _) rfl (fun h => absurd h (by decide))
  · intro y1 W1 hK hx hD
    have en : y1 1 = .int .i64 n := hx 1 (by decide)
    have ep : y1 3 = .int .i64 2 := hx 3 (by decide)
    have hvz := (unhide HC).z.lt
    have HC := hide ((unhide HC).go hK)
    simp only [en, ep, List.drop]
    clear hK hx hD hvz en ep
    go_wp2_with fail
    refine wp_region_inv 8 [] (by kernel_rfl) (by kernel_rfl) (fun y2 => { tmps := #[Value.agg #[Value.int IntKind.i64 k, Value.int IntKind.i64 n, Value.slice A l c], Value.bool tr, Value.pointer (some { block := hb1, off := 0 }), Value.pointer (some { block := hb2, off := 0 }), Value.pointer (some { block := w.heap.size, off := 0 }), undef, Value.pointer (some { block := w.heap.size + 1, off := 0 }), Value.bool false, Value.int IntKind.i64 n, Value.int IntKind.i64 2, y2 7, undef, y1 0, Value.int IntKind.i64 n, y1 2, Value.int IntKind.i64 2, y2 0, y2 1, y2 2, y2 3, y2 4, y2 5, y2 6, undef, undef, undef, undef, undef, undef, undef, undef, undef, undef, undef, undef, undef, undef, undef, undef, undef, undef, undef, undef, undef, undef, undef, undef, undef, undef, undef, undef, undef, undef, undef, undef, undef, undef, undef, undef, undef, undef, undef, undef, undef, undef, undef, undef, undef, undef, undef, undef, undef, undef, undef, undef, undef, undef, undef, undef, undef, undef, undef, undef], defers := [] }) (fun _ => undef) (fun i v W => Sh.ok (FN F w) W (([Sh.val (.int .i64 bv), Sh.val (Value.int IntKind.i64 n), Sh.val (.int .i64 (n + 1)), Sh.val (.int .i64 m), Sh.val (.int .i64 bv), Sh.val (.int .i64 (d - 1)), Sh.val (.int .i64 d), Sh.val (.int .i64 m)] : List Sh).getD i .any) v) (fun i v W W' hK h => Sh.kept hK _ _ h) ?_ ?_
    · refine ⟨?_, ?_, ?_, ?_, ?_, ?_, ?_, ?_, trivial⟩
      · refine ⟨fun x v => rfl, fun y2 S W hK hall hdep K hcont => ?_⟩
        have HCONT := hide hcont
        have HKW := hide hK
        clear hcont hK hall hdep
        have hq := (((unhide HB2).kept (unhide HC).kept id).kept (unhide HKW) id).cell 0
        rw [if_pos (by rfl)]
        go_simp
        exact unhide HCONT _ _ _ rfl (Kept.refl No _) rfl (fun h => absurd h (by decide))
      · refine ⟨fun x v => rfl, fun y2 S W hK hall hdep K hcont => ?_⟩
        have HCONT := hide hcont
        have HKW := hide hK
        clear hcont hK hall hdep
        rw [if_pos (by rfl)]
        go_simp
        exact unhide HCONT _ _ _ rfl (Kept.refl No _) rfl (fun h => absurd h (by decide))
      · refine ⟨fun x v => rfl, fun y2 S W hK hall hdep K hcont => ?_⟩
        have HCONT := hide hcont
        have HKW := hide hK
        have d1 := hall 1 (by decide) (hdep ⟨1, Ground.data⟩ (by simp) rfl)
        clear hcont hK hall hdep
        have e1 : y2 1 = Value.int IntKind.i64 n := d1
        rw [if_pos (by rfl)]
        simp only [e1]
        go_simp
        rw [unhide EW1]
        exact unhide HCONT _ _ _ (by (try simp only [e1]); rfl) (Kept.refl No _) rfl (fun h => absurd h (by decide))
      · refine ⟨fun x v => rfl, fun y2 S W hK hall hdep K hcont => ?_⟩
        have HCONT := hide hcont
        have HKW := hide hK
        have d0 := hall 0 (by decide) (hdep ⟨0, Ground.data⟩ (by simp) rfl)
        have d2 := hall 2 (by decide) (hdep ⟨2, Ground.data⟩ (by simp) rfl)
        clear hcont hK hall hdep
        have e0 : y2 0 = .int .i64 bv := d0
        have e2 : y2 2 = .int .i64 (n + 1) := d2
        rw [if_pos (by rfl)]
        simp only [e0, e2]
        go_simp
        refine (pick_any bv (n + 1) (unhide HN1) (unhide HN2) _).mono ?_
        rintro e w4 ⟨rfl, rfl⟩
        rw [unhide HM]
        exact unhide HCONT _ _ _ (by (try simp only [e0, e2]); rfl) (Kept.refl No _) rfl (fun h => absurd h (by decide))
      · refine ⟨fun x v => rfl, fun y2 S W hK hall hdep K hcont => ?_⟩
        have HCONT := hide hcont
        have HKW := hide hK
        clear hcont hK hall hdep
        have hq := (((unhide HB2).kept (unhide HC).kept id).kept (unhide HKW) id).cell 0
        rw [if_pos (by rfl)]
        go_simp
        exact unhide HCONT _ _ _ rfl (Kept.refl No _) rfl (fun h => absurd h (by decide))
      · refine ⟨fun x v => rfl, fun y2 S W hK hall hdep K hcont => ?_⟩
        have HCONT := hide hcont
        have HKW := hide hK
        have d4 := hall 4 (by decide) (hdep ⟨4, Ground.data⟩ (by simp) rfl)
        clear hcont hK hall hdep
        have e4 : y2 4 = .int .i64 bv := d4
        rw [if_pos (by rfl)]
        simp only [e4]
        go_simp
        refine (pick_any bv 20 (by omega) (by omega) _).mono ?_
        rintro e w4 ⟨rfl, rfl⟩
        rw [unhide HD]
        exact unhide HCONT _ _ _ (by (try simp only [e4]); rfl) (Kept.refl No _) rfl (fun h => absurd h (by decide))
      · refine ⟨fun x v => rfl, fun y2 S W hK hall hdep K hcont => ?_⟩
        have HCONT := hide hcont
        have HKW := hide hK
        have d5 := hall 5 (by decide) (hdep ⟨5, Ground.data⟩ (by simp) rfl)
        clear hcont hK hall hdep
        have e5 : y2 5 = .int .i64 (d - 1) := d5
        rw [if_pos (by rfl)]
        simp only [e5]
        go_simp
        rw [unhide EW2]
        exact unhide HCONT _ _ _ (by (try simp only [e5]); rfl) (Kept.refl No _) rfl (fun h => absurd h (by decide))
      · refine ⟨fun x v => rfl, fun y2 S W hK hall hdep K hcont => ?_⟩
        have HCONT := hide hcont
        have HKW := hide hK
        have d3 := hall 3 (by decide) (hdep ⟨3, Ground.data⟩ (by simp) rfl)
        clear hcont hK hall hdep
        have e3 : y2 3 = .int .i64 m := d3
        rw [if_pos (by rfl)]
        simp only [e3]
        go_simp
        exact unhide HCONT _ _ _ (by (try simp only [e3]); rfl) (Kept.refl No _) rfl (fun h => absurd h (by decide))
    · intro y2 W2 hK hx hD
      have ed : y2 6 = .int .i64 d := hx 6 (by decide)
      have em : y2 7 = .int .i64 m := hx 7 (by decide)
      have hvz := (unhide HC).z.lt
      have HC := hide ((unhide HC).go hK)
      simp only [ed, em, List.drop]
      clear hK hx hD hvz ed em
      go_wp2_with fail
      refine wp_region_store 38 37 (w.heap.size + 1) (FN F w) (.bin .add (.bin .mul (.num (n.tdiv d)) (.num d)) (.num (n.tmod d))) [Sh.val (.int .i64 m), Sh.tree (.num m), Sh.val (.int .i64 n), Sh.val (.int .i64 m), Sh.val (.int .i64 (n - m)), Sh.tree (.num (n - m)), Sh.row [(.num m), (.num (n - m))], Sh.tree (.bin .add (.num m) (.num (n - m))), Sh.val (.int .i64 n), Sh.val (.int .i64 d), Sh.val (.int .i64 (n + d)), Sh.tree (.num (n + d)), Sh.val (.int .i64 d), Sh.tree (.num d), Sh.row [(.num (n + d)), (.num d)], Sh.tree (.bin .sub (.num (n + d)) (.num d)), Sh.val (.int .i64 n), Sh.val (.int .i64 d), Sh.val (.int .i64 (n.tdiv d)), Sh.tree (.num (n.tdiv d)), Sh.val (.int .i64 d), Sh.tree (.num d), Sh.row [(.num (n.tdiv d)), (.num d)], Sh.tree (.bin .mul (.num (n.tdiv d)) (.num d)), Sh.val (.int .i64 n), Sh.val (.int .i64 d), Sh.val (.int .i64 (n.tmod d)), Sh.tree (.num (n.tmod d)), Sh.row [(.bin .mul (.num (n.tdiv d)) (.num d)), (.num (n.tmod d))], Sh.tree (.bin .add (.bin .mul (.num (n.tdiv d)) (.num d)) (.num (n.tmod d))), Sh.row [(.bin .add (.num m) (.num (n - m))), (.bin .sub (.num (n + d)) (.num d)), (.bin .add (.bin .mul (.num (n.tdiv d)) (.num d)) (.num (n.tmod d)))], Sh.val (.int .i64 2), Sh.addr (.bin .add (.bin .mul (.num (n.tdiv d)) (.num d)) (.num (n.tmod d))), Sh.tree (.bin .add (.bin .mul (.num (n.tdiv d)) (.num d)) (.num (n.tmod d))), Sh.val (.pointer (some ⟨w.heap.size, 0, none⟩)), Sh.val (.int .i64 k), Sh.val (.bool false), Sh.any] (by decide) (fun _ h => h.ne) (unhide HC).z (by kernel_rfl) (by kernel_rfl) (fun y9 => { tmps := #[Value.agg #[Value.int IntKind.i64 k, Value.int IntKind.i64 n, Value.slice A l c], Value.bool tr, Value.pointer (some { block := hb1, off := 0 }), Value.pointer (some { block := hb2, off := 0 }), Value.pointer (some { block := w.heap.size, off := 0 }), undef, Value.pointer (some { block := w.heap.size + 1, off := 0 }), Value.bool false, Value.int IntKind.i64 n, Value.int IntKind.i64 2, Value.int IntKind.i64 m, Value.int IntKind.i64 d, y1 0, Value.int IntKind.i64 n, y1 2, Value.int IntKind.i64 2, y2 0, y2 1, y2 2, y2 3, y2 4, y2 5, Value.int IntKind.i64 d, Value.int IntKind.i64 2, Value.bool false, undef, undef, undef, undef, undef, undef, undef, undef, undef, undef, undef, undef, undef, undef, undef, undef, undef, undef, undef, undef, undef, y9 0, y9 1, y9 2, y9 3, y9 4, y9 5, y9 6, y9 7, y9 8, y9 9, y9 10, y9 11, y9 12, y9 13, y9 14, y9 15, y9 16, y9 17, y9 18, y9 19, y9 20, y9 21, y9 22, y9 23, y9 24, y9 25, y9 26, y9 27, y9 28, y9 29, y9 30, y9 31, y9 32, y9 33, y9 34, y9 35, y9 36], defers := [] }) (fun _ => undef) ?_ ?_
      · refine ⟨?_, ?_, ?_, ?_, ?_, ?_, ?_, ?_, ?_, ?_, ?_, ?_, ?_, ?_, ?_, ?_, ?_, ?_, ?_, ?_, ?_, ?_, ?_, ?_, ?_, ?_, ?_, ?_, ?_, ?_, ?_, ?_, ?_, ?_, ?_, ?_, ?_, ?_, trivial⟩
        · refine ⟨fun x v => rfl, fun y9 S W hK hJ hSi hall hdep K hcont0 => ?_⟩
          have hcont := hcont0
          clear hcont0
          rw [if_neg (by decide)] at hcont
          have HCONT := hide hcont
          have HKW := hide hK
          clear hcont hK hall hdep hJ hSi
          rw [if_pos (by rfl)]
          go_simp
          exact unhide HCONT _ _ _ rfl (Kept.refl No _) rfl
        · refine ⟨fun x v => rfl, fun y9 S W hK hJ hSi hall hdep K hcont0 => ?_⟩
          have hcont := hcont0
          clear hcont0
          rw [if_neg (by decide)] at hcont
          have HCONT := hide hcont
          have HKW := hide hK
          have d0 := hall 0 (by decide) (by decide) (hdep ⟨0, Ground.data⟩ (by simp) rfl)
          clear hcont hK hall hdep hJ hSi
          have e0 : y9 0 = .int .i64 m := d0
          rw [if_pos (by rfl)]
          simp only [e0]
          go_simp
          refine (num_any _ _).mono ?_
          rintro e w1 ⟨rfl, hK1⟩
          exact unhide HCONT _ _ _ (by (try simp only [e0]); rfl) hK1 ⟨_, _, _, _, _, rfl, num_rd _ _ _⟩
        · refine ⟨fun x v => rfl, fun y9 S W hK hJ hSi hall hdep K hcont0 => ?_⟩
          have hcont := hcont0
          clear hcont0
          rw [if_neg (by decide)] at hcont
          have HCONT := hide hcont
          have HKW := hide hK
          clear hcont hK hall hdep hJ hSi
          rw [if_pos (by rfl)]
          go_simp
          exact unhide HCONT _ _ _ rfl (Kept.refl No _) rfl
        · refine ⟨fun x v => rfl, fun y9 S W hK hJ hSi hall hdep K hcont0 => ?_⟩
          have hcont := hcont0
          clear hcont0
          rw [if_neg (by decide)] at hcont
          have HCONT := hide hcont
          have HKW := hide hK
          clear hcont hK hall hdep hJ hSi
          rw [if_pos (by rfl)]
          go_simp
          exact unhide HCONT _ _ _ rfl (Kept.refl No _) rfl
        · refine ⟨fun x v => rfl, fun y9 S W hK hJ hSi hall hdep K hcont0 => ?_⟩
          have hcont := hcont0
          clear hcont0
          rw [if_neg (by decide)] at hcont
          have HCONT := hide hcont
          have HKW := hide hK
          have d2 := hall 2 (by decide) (by decide) (hdep ⟨2, Ground.data⟩ (by simp) rfl)
          have d3 := hall 3 (by decide) (by decide) (hdep ⟨3, Ground.data⟩ (by simp) rfl)
          clear hcont hK hall hdep hJ hSi
          have e2 : y9 2 = .int .i64 n := d2
          have e3 : y9 3 = .int .i64 m := d3
          rw [if_pos (by rfl)]
          simp only [e2, e3]
          go_simp
          rw [unhide EW3]
          exact unhide HCONT _ _ _ (by (try simp only [e2, e3]); rfl) (Kept.refl No _) rfl
        · refine ⟨fun x v => rfl, fun y9 S W hK hJ hSi hall hdep K hcont0 => ?_⟩
          have hcont := hcont0
          clear hcont0
          rw [if_neg (by decide)] at hcont
          have HCONT := hide hcont
          have HKW := hide hK
          have d4 := hall 4 (by decide) (by decide) (hdep ⟨4, Ground.data⟩ (by simp) rfl)
          clear hcont hK hall hdep hJ hSi
          have e4 : y9 4 = .int .i64 (n - m) := d4
          rw [if_pos (by rfl)]
          simp only [e4]
          go_simp
          refine (num_any _ _).mono ?_
          rintro e w1 ⟨rfl, hK1⟩
          exact unhide HCONT _ _ _ (by (try simp only [e4]); rfl) hK1 ⟨_, _, _, _, _, rfl, num_rd _ _ _⟩
        · refine ⟨fun x v => rfl, fun y9 S W hK hJ hSi hall hdep K hcont0 => ?_⟩
          have hcont := hcont0
          clear hcont0
          rw [if_neg (by decide)] at hcont
          have HCONT := hide hcont
          have HKW := hide hK
          have d1 := hall 1 (by decide) (by decide) (hdep ⟨1, Ground.data⟩ (by simp) rfl)
          have d5 := hall 5 (by decide) (by decide) (hdep ⟨5, Ground.data⟩ (by simp) rfl)
          clear hcont hK hall hdep hJ hSi
          obtain ⟨k1, n1, A1, l1, c1, e1, r1⟩ := d1
          obtain ⟨k5, n5, A5, l5, c5, e5, r5⟩ := d5
          rw [if_pos (by rfl)]
          simp only [e1, e5]
          go_simp
          exact unhide HCONT _ _ _ (by (try simp only [e1, e5]); rfl) ((Kept.refl No _).alloc _) (row2_new r1 r5 (fun i hi => .inr (by have h1_ := (unhide HC).z.lt; have h2_ := (unhide HKW).size; omega)))
        · refine ⟨fun x v => rfl, fun y9 S W hK hJ hSi hall hdep K hcont0 => ?_⟩
          have hcont := hcont0
          clear hcont0
          rw [if_neg (by decide)] at hcont
          have HCONT := hide hcont
          have HKW := hide hK
          have d6 := hall 6 (by decide) (by decide) (hdep ⟨6, Ground.data⟩ (by simp) rfl)
          clear hcont hK hall hdep hJ hSi
          obtain ⟨b6, e6, f6, r6⟩ := d6
          rw [if_pos (by rfl)]
          simp only [e6]
          go_simp
          refine (op2_row .add (by rfl) _ b6 (.num m) (.num (n - m)) r6 f6).mono ?_
          rintro e w1 ⟨k_, n_, A_, l_, c_, rfl, hR1, hK1⟩
          exact unhide HCONT _ _ _ (by (try simp only [e6]); rfl) hK1 ⟨_, _, _, _, _, rfl, hR1⟩
        · refine ⟨fun x v => rfl, fun y9 S W hK hJ hSi hall hdep K hcont0 => ?_⟩
          have hcont := hcont0
          clear hcont0
          rw [if_neg (by decide)] at hcont
          have HCONT := hide hcont
          have HKW := hide hK
          clear hcont hK hall hdep hJ hSi
          rw [if_pos (by rfl)]
          go_simp
          exact unhide HCONT _ _ _ rfl (Kept.refl No _) rfl
        · refine ⟨fun x v => rfl, fun y9 S W hK hJ hSi hall hdep K hcont0 => ?_⟩
          have hcont := hcont0
          clear hcont0
          rw [if_neg (by decide)] at hcont
          have HCONT := hide hcont
          have HKW := hide hK
          clear hcont hK hall hdep hJ hSi
          rw [if_pos (by rfl)]
          go_simp
          exact unhide HCONT _ _ _ rfl (Kept.refl No _) rfl
        · refine ⟨fun x v => rfl, fun y9 S W hK hJ hSi hall hdep K hcont0 => ?_⟩
          have hcont := hcont0
          clear hcont0
          rw [if_neg (by decide)] at hcont
          have HCONT := hide hcont
          have HKW := hide hK
          have d8 := hall 8 (by decide) (by decide) (hdep ⟨8, Ground.data⟩ (by simp) rfl)
          have d9 := hall 9 (by decide) (by decide) (hdep ⟨9, Ground.data⟩ (by simp) rfl)
          clear hcont hK hall hdep hJ hSi
          have e8 : y9 8 = .int .i64 n := d8
          have e9 : y9 9 = .int .i64 d := d9
          rw [if_pos (by rfl)]
          simp only [e8, e9]
          go_simp
          rw [unhide EW4]
          exact unhide HCONT _ _ _ (by (try simp only [e8, e9]); rfl) (Kept.refl No _) rfl
        · refine ⟨fun x v => rfl, fun y9 S W hK hJ hSi hall hdep K hcont0 => ?_⟩
          have hcont := hcont0
          clear hcont0
          rw [if_neg (by decide)] at hcont
          have HCONT := hide hcont
          have HKW := hide hK
          have d10 := hall 10 (by decide) (by decide) (hdep ⟨10, Ground.data⟩ (by simp) rfl)
          clear hcont hK hall hdep hJ hSi
          have e10 : y9 10 = .int .i64 (n + d) := d10
          rw [if_pos (by rfl)]
          simp only [e10]
          go_simp
          refine (num_any _ _).mono ?_
          rintro e w1 ⟨rfl, hK1⟩
          exact unhide HCONT _ _ _ (by (try simp only [e10]); rfl) hK1 ⟨_, _, _, _, _, rfl, num_rd _ _ _⟩
        · refine ⟨fun x v => rfl, fun y9 S W hK hJ hSi hall hdep K hcont0 => ?_⟩
          have hcont := hcont0
          clear hcont0
          rw [if_neg (by decide)] at hcont
          have HCONT := hide hcont
          have HKW := hide hK
          clear hcont hK hall hdep hJ hSi
          rw [if_pos (by rfl)]
          go_simp
          exact unhide HCONT _ _ _ rfl (Kept.refl No _) rfl
        · refine ⟨fun x v => rfl, fun y9 S W hK hJ hSi hall hdep K hcont0 => ?_⟩
          have hcont := hcont0
          clear hcont0
          rw [if_neg (by decide)] at hcont
          have HCONT := hide hcont
          have HKW := hide hK
          have d12 := hall 12 (by decide) (by decide) (hdep ⟨12, Ground.data⟩ (by simp) rfl)
          clear hcont hK hall hdep hJ hSi
          have e12 : y9 12 = .int .i64 d := d12
          rw [if_pos (by rfl)]
          simp only [e12]
          go_simp
          refine (num_any _ _).mono ?_
          rintro e w1 ⟨rfl, hK1⟩
          exact unhide HCONT _ _ _ (by (try simp only [e12]); rfl) hK1 ⟨_, _, _, _, _, rfl, num_rd _ _ _⟩
        · refine ⟨fun x v => rfl, fun y9 S W hK hJ hSi hall hdep K hcont0 => ?_⟩
          have hcont := hcont0
          clear hcont0
          rw [if_neg (by decide)] at hcont
          have HCONT := hide hcont
          have HKW := hide hK
          have d11 := hall 11 (by decide) (by decide) (hdep ⟨11, Ground.data⟩ (by simp) rfl)
          have d13 := hall 13 (by decide) (by decide) (hdep ⟨13, Ground.data⟩ (by simp) rfl)
          clear hcont hK hall hdep hJ hSi
          obtain ⟨k11, n11, A11, l11, c11, e11, r11⟩ := d11
          obtain ⟨k13, n13, A13, l13, c13, e13, r13⟩ := d13
          rw [if_pos (by rfl)]
          simp only [e11, e13]
          go_simp
          exact unhide HCONT _ _ _ (by (try simp only [e11, e13]); rfl) ((Kept.refl No _).alloc _) (row2_new r11 r13 (fun i hi => .inr (by have h1_ := (unhide HC).z.lt; have h2_ := (unhide HKW).size; omega)))
        · refine ⟨fun x v => rfl, fun y9 S W hK hJ hSi hall hdep K hcont0 => ?_⟩
          have hcont := hcont0
          clear hcont0
          rw [if_neg (by decide)] at hcont
          have HCONT := hide hcont
          have HKW := hide hK
          have d14 := hall 14 (by decide) (by decide) (hdep ⟨14, Ground.data⟩ (by simp) rfl)
          clear hcont hK hall hdep hJ hSi
          obtain ⟨b14, e14, f14, r14⟩ := d14
          rw [if_pos (by rfl)]
          simp only [e14]
          go_simp
          refine (op2_row .sub (by rfl) _ b14 (.num (n + d)) (.num d) r14 f14).mono ?_
          rintro e w1 ⟨k_, n_, A_, l_, c_, rfl, hR1, hK1⟩
          exact unhide HCONT _ _ _ (by (try simp only [e14]); rfl) hK1 ⟨_, _, _, _, _, rfl, hR1⟩
        · refine ⟨fun x v => rfl, fun y9 S W hK hJ hSi hall hdep K hcont0 => ?_⟩
          have hcont := hcont0
          clear hcont0
          rw [if_neg (by decide)] at hcont
          have HCONT := hide hcont
          have HKW := hide hK
          clear hcont hK hall hdep hJ hSi
          rw [if_pos (by rfl)]
          go_simp
          exact unhide HCONT _ _ _ rfl (Kept.refl No _) rfl
        · refine ⟨fun x v => rfl, fun y9 S W hK hJ hSi hall hdep K hcont0 => ?_⟩
          have hcont := hcont0
          clear hcont0
          rw [if_neg (by decide)] at hcont
          have HCONT := hide hcont
          have HKW := hide hK
          clear hcont hK hall hdep hJ hSi
          rw [if_pos (by rfl)]
          go_simp
          exact unhide HCONT _ _ _ rfl (Kept.refl No _) rfl
        · refine ⟨fun x v => rfl, fun y9 S W hK hJ hSi hall hdep K hcont0 => ?_⟩
          have hcont := hcont0
          clear hcont0
          rw [if_neg (by decide)] at hcont
          have HCONT := hide hcont
          have HKW := hide hK
          have d16 := hall 16 (by decide) (by decide) (hdep ⟨16, Ground.data⟩ (by simp) rfl)
          have d17 := hall 17 (by decide) (by decide) (hdep ⟨17, Ground.data⟩ (by simp) rfl)
          clear hcont hK hall hdep hJ hSi
          have e16 : y9 16 = .int .i64 n := d16
          have e17 : y9 17 = .int .i64 d := d17
          rw [if_pos (by rfl)]
          simp only [e16, e17]
          go_simp
          rw [unhide EW5]
          exact unhide HCONT _ _ _ (by (try simp only [e16, e17]); rfl) (Kept.refl No _) rfl
        · refine ⟨fun x v => rfl, fun y9 S W hK hJ hSi hall hdep K hcont0 => ?_⟩
          have hcont := hcont0
          clear hcont0
          rw [if_neg (by decide)] at hcont
          have HCONT := hide hcont
          have HKW := hide hK
          have d18 := hall 18 (by decide) (by decide) (hdep ⟨18, Ground.data⟩ (by simp) rfl)
          clear hcont hK hall hdep hJ hSi
          have e18 : y9 18 = .int .i64 (n.tdiv d) := d18
          rw [if_pos (by rfl)]
          simp only [e18]
          go_simp
          refine (num_any _ _).mono ?_
          rintro e w1 ⟨rfl, hK1⟩
          exact unhide HCONT _ _ _ (by (try simp only [e18]); rfl) hK1 ⟨_, _, _, _, _, rfl, num_rd _ _ _⟩
        · refine ⟨fun x v => rfl, fun y9 S W hK hJ hSi hall hdep K hcont0 => ?_⟩
          have hcont := hcont0
          clear hcont0
          rw [if_neg (by decide)] at hcont
          have HCONT := hide hcont
          have HKW := hide hK
          clear hcont hK hall hdep hJ hSi
          rw [if_pos (by rfl)]
          go_simp
          exact unhide HCONT _ _ _ rfl (Kept.refl No _) rfl
        · refine ⟨fun x v => rfl, fun y9 S W hK hJ hSi hall hdep K hcont0 => ?_⟩
          have hcont := hcont0
          clear hcont0
          rw [if_neg (by decide)] at hcont
          have HCONT := hide hcont
          have HKW := hide hK
          have d20 := hall 20 (by decide) (by decide) (hdep ⟨20, Ground.data⟩ (by simp) rfl)
          clear hcont hK hall hdep hJ hSi
          have e20 : y9 20 = .int .i64 d := d20
          rw [if_pos (by rfl)]
          simp only [e20]
          go_simp
          refine (num_any _ _).mono ?_
          rintro e w1 ⟨rfl, hK1⟩
          exact unhide HCONT _ _ _ (by (try simp only [e20]); rfl) hK1 ⟨_, _, _, _, _, rfl, num_rd _ _ _⟩
        · refine ⟨fun x v => rfl, fun y9 S W hK hJ hSi hall hdep K hcont0 => ?_⟩
          have hcont := hcont0
          clear hcont0
          rw [if_neg (by decide)] at hcont
          have HCONT := hide hcont
          have HKW := hide hK
          have d19 := hall 19 (by decide) (by decide) (hdep ⟨19, Ground.data⟩ (by simp) rfl)
          have d21 := hall 21 (by decide) (by decide) (hdep ⟨21, Ground.data⟩ (by simp) rfl)
          clear hcont hK hall hdep hJ hSi
          obtain ⟨k19, n19, A19, l19, c19, e19, r19⟩ := d19
          obtain ⟨k21, n21, A21, l21, c21, e21, r21⟩ := d21
          rw [if_pos (by rfl)]
          simp only [e19, e21]
          go_simp
          exact unhide HCONT _ _ _ (by (try simp only [e19, e21]); rfl) ((Kept.refl No _).alloc _) (row2_new r19 r21 (fun i hi => .inr (by have h1_ := (unhide HC).z.lt; have h2_ := (unhide HKW).size; omega)))
        · refine ⟨fun x v => rfl, fun y9 S W hK hJ hSi hall hdep K hcont0 => ?_⟩
          have hcont := hcont0
          clear hcont0
          rw [if_neg (by decide)] at hcont
          have HCONT := hide hcont
          have HKW := hide hK
          have d22 := hall 22 (by decide) (by decide) (hdep ⟨22, Ground.data⟩ (by simp) rfl)
          clear hcont hK hall hdep hJ hSi
          obtain ⟨b22, e22, f22, r22⟩ := d22
          rw [if_pos (by rfl)]
          simp only [e22]
          go_simp
          refine (op2_row .mul (by rfl) _ b22 (.num (n.tdiv d)) (.num d) r22 f22).mono ?_
          rintro e w1 ⟨k_, n_, A_, l_, c_, rfl, hR1, hK1⟩
          exact unhide HCONT _ _ _ (by (try simp only [e22]); rfl) hK1 ⟨_, _, _, _, _, rfl, hR1⟩
        · refine ⟨fun x v => rfl, fun y9 S W hK hJ hSi hall hdep K hcont0 => ?_⟩
          have hcont := hcont0
          clear hcont0
          rw [if_neg (by decide)] at hcont
          have HCONT := hide hcont
          have HKW := hide hK
          clear hcont hK hall hdep hJ hSi
          rw [if_pos (by rfl)]
          go_simp
          exact unhide HCONT _ _ _ rfl (Kept.refl No _) rfl
        · refine ⟨fun x v => rfl, fun y9 S W hK hJ hSi hall hdep K hcont0 => ?_⟩
          have hcont := hcont0
          clear hcont0
          rw [if_neg (by decide)] at hcont
          have HCONT := hide hcont
          have HKW := hide hK
          clear hcont hK hall hdep hJ hSi
          rw [if_pos (by rfl)]
          go_simp
          exact unhide HCONT _ _ _ rfl (Kept.refl No _) rfl
        · refine ⟨fun x v => rfl, fun y9 S W hK hJ hSi hall hdep K hcont0 => ?_⟩
          have hcont := hcont0
          clear hcont0
          rw [if_neg (by decide)] at hcont
          have HCONT := hide hcont
          have HKW := hide hK
          have d24 := hall 24 (by decide) (by decide) (hdep ⟨24, Ground.data⟩ (by simp) rfl)
          have d25 := hall 25 (by decide) (by decide) (hdep ⟨25, Ground.data⟩ (by simp) rfl)
          clear hcont hK hall hdep hJ hSi
          have e24 : y9 24 = .int .i64 n := d24
          have e25 : y9 25 = .int .i64 d := d25
          rw [if_pos (by rfl)]
          simp only [e24, e25]
          go_simp
          exact unhide HCONT _ _ _ (by (try simp only [e24, e25]); rfl) (Kept.refl No _) rfl
        · refine ⟨fun x v => rfl, fun y9 S W hK hJ hSi hall hdep K hcont0 => ?_⟩
          have hcont := hcont0
          clear hcont0
          rw [if_neg (by decide)] at hcont
          have HCONT := hide hcont
          have HKW := hide hK
          have d26 := hall 26 (by decide) (by decide) (hdep ⟨26, Ground.data⟩ (by simp) rfl)
          clear hcont hK hall hdep hJ hSi
          have e26 : y9 26 = .int .i64 (n.tmod d) := d26
          rw [if_pos (by rfl)]
          simp only [e26]
          go_simp
          refine (num_any _ _).mono ?_
          rintro e w1 ⟨rfl, hK1⟩
          exact unhide HCONT _ _ _ (by (try simp only [e26]); rfl) hK1 ⟨_, _, _, _, _, rfl, num_rd _ _ _⟩
        · refine ⟨fun x v => rfl, fun y9 S W hK hJ hSi hall hdep K hcont0 => ?_⟩
          have hcont := hcont0
          clear hcont0
          rw [if_neg (by decide)] at hcont
          have HCONT := hide hcont
          have HKW := hide hK
          have d23 := hall 23 (by decide) (by decide) (hdep ⟨23, Ground.data⟩ (by simp) rfl)
          have d27 := hall 27 (by decide) (by decide) (hdep ⟨27, Ground.data⟩ (by simp) rfl)
          clear hcont hK hall hdep hJ hSi
          obtain ⟨k23, n23, A23, l23, c23, e23, r23⟩ := d23
          obtain ⟨k27, n27, A27, l27, c27, e27, r27⟩ := d27
          rw [if_pos (by rfl)]
          simp only [e23, e27]
          go_simp
          exact unhide HCONT _ _ _ (by (try simp only [e23, e27]); rfl) ((Kept.refl No _).alloc _) (row2_new r23 r27 (fun i hi => .inr (by have h1_ := (unhide HC).z.lt; have h2_ := (unhide HKW).size; omega)))
        · refine ⟨fun x v => rfl, fun y9 S W hK hJ hSi hall hdep K hcont0 => ?_⟩
          have hcont := hcont0
          clear hcont0
          rw [if_neg (by decide)] at hcont
          have HCONT := hide hcont
          have HKW := hide hK
          have d28 := hall 28 (by decide) (by decide) (hdep ⟨28, Ground.data⟩ (by simp) rfl)
          clear hcont hK hall hdep hJ hSi
          obtain ⟨b28, e28, f28, r28⟩ := d28
          rw [if_pos (by rfl)]
          simp only [e28]
          go_simp
          refine (op2_row .add (by rfl) _ b28 (.bin .mul (.num (n.tdiv d)) (.num d)) (.num (n.tmod d)) r28 f28).mono ?_
          rintro e w1 ⟨k_, n_, A_, l_, c_, rfl, hR1, hK1⟩
          exact unhide HCONT _ _ _ (by (try simp only [e28]); rfl) hK1 ⟨_, _, _, _, _, rfl, hR1⟩
        · refine ⟨fun x v => rfl, fun y9 S W hK hJ hSi hall hdep K hcont0 => ?_⟩
          have hcont := hcont0
          clear hcont0
          rw [if_neg (by decide)] at hcont
          have HCONT := hide hcont
          have HKW := hide hK
          have d7 := hall 7 (by decide) (by decide) (hdep ⟨7, Ground.data⟩ (by simp) rfl)
          have d15 := hall 15 (by decide) (by decide) (hdep ⟨15, Ground.data⟩ (by simp) rfl)
          have d29 := hall 29 (by decide) (by decide) (hdep ⟨29, Ground.data⟩ (by simp) rfl)
          clear hcont hK hall hdep hJ hSi
          obtain ⟨k7, n7, A7, l7, c7, e7, r7⟩ := d7
          obtain ⟨k15, n15, A15, l15, c15, e15, r15⟩ := d15
          obtain ⟨k29, n29, A29, l29, c29, e29, r29⟩ := d29
          rw [if_pos (by rfl)]
          simp only [e7, e15, e29]
          go_simp
          exact unhide HCONT _ _ _ (by (try simp only [e7, e15, e29]); rfl) ((Kept.refl No _).alloc _) (row3_new r7 r15 r29 (fun i hi => .inr (by have h1_ := (unhide HC).z.lt; have h2_ := (unhide HKW).size; omega)))
        · refine ⟨fun x v => rfl, fun y9 S W hK hJ hSi hall hdep K hcont0 => ?_⟩
          have hcont := hcont0
          clear hcont0
          rw [if_neg (by decide)] at hcont
          have HCONT := hide hcont
          have HKW := hide hK
          clear hcont hK hall hdep hJ hSi
          rw [if_pos (by rfl)]
          go_simp
          exact unhide HCONT _ _ _ rfl (Kept.refl No _) rfl
        · refine ⟨fun x v => rfl, fun y9 S W hK hJ hSi hall hdep K hcont0 => ?_⟩
          have hcont := hcont0
          clear hcont0
          rw [if_neg (by decide)] at hcont
          have HCONT := hide hcont
          have HKW := hide hK
          have d30 := hall 30 (by decide) (by decide) (hdep ⟨30, Ground.data⟩ (by simp) rfl)
          have d31 := hall 31 (by decide) (by decide) (hdep ⟨31, Ground.data⟩ (by simp) rfl)
          clear hcont hK hall hdep hJ hSi
          obtain ⟨b30, e30, f30, r30⟩ := d30
          have e31 : y9 31 = .int .i64 2 := d31
          rw [if_pos (by rfl)]
          simp only [e30, e31]
          go_simp
          exact unhide HCONT _ _ _ (by (try simp only [e30, e31]); rfl) (Kept.refl No _) ⟨b30, _, rfl, f30, r30 2 _ rfl⟩
        · refine ⟨fun x v => rfl, fun y9 S W hK hJ hSi hall hdep K hcont0 => ?_⟩
          have hcont := hcont0
          clear hcont0
          rw [if_neg (by decide)] at hcont
          have HCONT := hide hcont
          have HKW := hide hK
          have d32 := hall 32 (by decide) (by decide) (hdep ⟨32, Ground.data⟩ (by simp) rfl)
          clear hcont hK hall hdep hJ hSi
          obtain ⟨b32, o32, e32, ff32, kk32, nn32, AA32, ll32, cc32, ⟨yy032, yy132, yy232⟩, r32⟩ := d32
          rw [if_pos (by rfl)]
          simp only [e32]
          go_simp
          exact unhide HCONT _ _ _ (by (try simp only [e32]); rfl) (Kept.refl No _) ⟨_, _, _, _, _, rfl, r32⟩
        · refine ⟨fun x v => rfl, fun y9 S W hK hJ hSi hall hdep K hcont0 => ?_⟩
          have hcont := hcont0
          clear hcont0
          rw [if_neg (by decide)] at hcont
          have HCONT := hide hcont
          have HKW := hide hK
          clear hcont hK hall hdep hJ hSi
          rw [if_pos (by rfl)]
          go_simp
          exact unhide HCONT _ _ _ rfl (Kept.refl No _) rfl
        · refine ⟨fun x v => rfl, fun y9 S W hK hJ hSi hall hdep K hcont0 => ?_⟩
          have hcont := hcont0
          clear hcont0
          rw [if_neg (by decide)] at hcont
          have HCONT := hide hcont
          have HKW := hide hK
          have d34 := hall 34 (by decide) (by decide) (hdep ⟨34, Ground.data⟩ (by simp) rfl)
          clear hcont hK hall hdep hJ hSi
          have e34 : y9 34 = .pointer (some ⟨w.heap.size, 0, none⟩) := d34
          obtain xs0 := ((unhide HC).x.kept (unhide HKW) (one_ne (by omega))).cell 0
          rw [if_pos (by rfl)]
          simp only [e34]
          go_simp
          exact unhide HCONT _ _ _ (by (try simp only [e34]); rfl) (Kept.refl No _) rfl
        · refine ⟨fun x v => rfl, fun y9 S W hK hJ hSi hall hdep K hcont0 => ?_⟩
          have hcont := hcont0
          clear hcont0
          rw [if_neg (by decide)] at hcont
          have HCONT := hide hcont
          have HKW := hide hK
          have d35 := hall 35 (by decide) (by decide) (hdep ⟨35, Ground.data⟩ (by simp) rfl)
          clear hcont hK hall hdep hJ hSi
          have e35 : y9 35 = .int .i64 k := d35
          rw [if_pos (by rfl)]
          simp only [e35]
          go_simp
          exact unhide HCONT _ _ _ (by (try simp only [e35]); rfl) (Kept.refl No _) rfl
        · refine ⟨fun x v => rfl, fun y9 S W hK hJ hSi hall hdep K hcont0 => ?_⟩
          have hcont := hcont0
          clear hcont0
          rw [if_pos rfl] at hcont
          have HCONT := hide hcont
          have HKW := hide hK
          have d33 := hall 33 (by decide) (by decide) (hdep ⟨33, Ground.data⟩ (by simp) rfl)
          have HJ := hide (hJ hSi)
          clear hcont hK hall hdep hJ hSi
          obtain ⟨k33, n33, A33, l33, c33, e33, r33⟩ := d33
          obtain ⟨f0, f1, f2, z0, z1, z2, hlt⟩ : _ ∧ _ ∧ _ ∧ _ ∧ _ ∧ _ ∧ _ := ⟨(unhide HJ).frozen 0, (unhide HJ).frozen 1, (unhide HJ).frozen 2, (unhide HJ).cell 0, (unhide HJ).cell 1, (unhide HJ).cell 2, (unhide HJ).lt⟩
          rw [if_pos (by rfl)]
          simp only [e33]
          go_simp
          exact unhide HCONT undef _ _ (by (try simp only [e33]); rfl) ((((Kept.refl _ _).one 0 _).one 1 _).one 2 _) ⟨_, _, _, _, _, (((unhide HJ).set_ 0 _).set_ 1 _).set_ 2 _, r33.kept ((((Kept.refl (One (w.heap.size + 1)) _).one 0 _).one 1 _).one 2 _) (fun i _ hi => one_ne hi.ne)⟩
      · intro y9 W hK hZ hx
        have e36 : y9 36 = .bool false := hx 36 (by decide) (by decide)
        obtain ⟨k4, n4, A4, l4, c4, hBz, hr4⟩ := hZ
        have hKw := (unhide HC).kept.trans hK (fun i hi h => by unfold One at h; omega)
        have HBZ := hide hBz
        have HR4 := hide hr4
        have HKw := hide hKw
        have z0 : W.cell? ⟨w.heap.size + 1, 0, none⟩ = some (.int .i64 k4) := hBz.cell 0
        have z1 : W.cell? ⟨w.heap.size + 1, 1, none⟩ = some (.int .i64 n4) := hBz.cell 1
        have z2 : W.cell? ⟨w.heap.size + 1, 2, none⟩ = some (.slice A4 l4 c4) := hBz.cell 2
        simp only [e36, List.drop]
        clear hK hx e36 hBz hr4 hKw
        go_wp2_with fail
        refine bodyPost_ret (v := .tuple #[.agg #[.int .i64 k4, .int .i64 n4, .slice A4 l4 c4], .bool false]) (by simp [results, Tryd.results32, go_sem, z0, z1, z2]) rfl ?_
        exact ⟨k4, n4, A4, l4, c4, rfl, unhide HKw, (unhide HR4).mono (fun _ _ h => h.out)⟩

end Go.Proofs.YtmjmcjcckncplaaDoor
