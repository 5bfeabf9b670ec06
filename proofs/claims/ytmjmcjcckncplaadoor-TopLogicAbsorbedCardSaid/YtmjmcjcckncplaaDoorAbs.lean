/- TopLogicAbsorbed: the change (function 29), the root (function 9). -/
import Derived.Test.YtmjmcjcckncplaaDoorAbsC
import Derived.Test.YtmjmcjcckncplaaDoorPutB
import Derived.Test.YtmjmcjcckncplaaDoorAll
import Derived.Deep.RegionHeld3
namespace Go.Proofs.YtmjmcjcckncplaaDoor
open Go.RowKit Go.BigFrame

/-- A part of what has a value has one. -/
theorem part_val {y : Int} (a : An) : ∀ (p o : Nat) (tr : Bool) (w : World), At w p o a → a.blocks.Nodup → p ∉ a.blocks → (∃ v, valF y a.e = .ok v) → ∀ e, e ∈ nodes a p o tr → ∃ s : An, At w e.1 e.2.1 s ∧ ∃ v, valF y s.e = .ok v := by
  induction a with
  | num m => intro p o tr w hA _ _ hv e he; simp only [nodes, List.mem_singleton] at he; subst he; exact ⟨_, hA, hv⟩
  | year => intro p o tr w hA _ _ hv e he; simp only [nodes, List.mem_singleton] at he; subst he; exact ⟨_, hA, hv⟩
  | neg b a ih =>
    intro p o tr w hA hnd hp hv e he
    rcases List.mem_cons.1 he with rfl | he
    · exact ⟨_, hA, hv⟩
    · obtain ⟨k, n, A, l, c, hc, rfl, rfl, rfl, rfl, k1, n1, A1, l1, c1, hrow, hT⟩ := hA
      simp only [An.blocks, List.nodup_cons] at hnd
      obtain ⟨v, hv⟩ := hv
      obtain ⟨u, hu, _⟩ := valF_neg hv
      exact ih b 0 false w ⟨k1, n1, A1, l1, c1, row_c3 hrow, hT⟩ hnd.2 hnd.1 ⟨u, hu⟩ e he
  | not b a ih =>
    intro p o tr w hA hnd hp hv e he
    rcases List.mem_cons.1 he with rfl | he
    · exact ⟨_, hA, hv⟩
    · obtain ⟨k, n, A, l, c, hc, rfl, rfl, rfl, rfl, k1, n1, A1, l1, c1, hrow, hT⟩ := hA
      simp only [An.blocks, List.nodup_cons] at hnd
      obtain ⟨v, hv⟩ := hv
      obtain ⟨u, hu, _⟩ := valF_not hv
      exact ih b 0 true w ⟨k1, n1, A1, l1, c1, row_c3 hrow, hT⟩ hnd.2 hnd.1 ⟨u, hu⟩ e he
  | bin op b x y ihx ihy =>
    intro p o tr w hA hnd hp hv e he
    rcases List.mem_cons.1 he with rfl | he
    · exact ⟨_, hA, hv⟩
    · obtain ⟨k, n, A, l, c, hc, rfl, rfl, rfl, rfl, k1, n1, A1, l1, c1, k2, n2, A2, l2, c2, hrow, hTx, hTy⟩ := hA
      simp only [An.blocks, List.nodup_cons, List.mem_append, not_or, List.nodup_append] at hnd
      obtain ⟨⟨hbx, hby⟩, hndx, hndy, hxy⟩ := hnd
      obtain ⟨v, hv⟩ := hv
      obtain ⟨u, z, hu, hz, _⟩ := valF_bin hv
      rcases List.mem_append.1 he with he | he
      · exact ihx b 0 _ w ⟨k1, n1, A1, l1, c1, row_c3l hrow, hTx⟩ hndx hbx ⟨u, hu⟩ e he
      · exact ihy b 3 _ w ⟨k2, n2, A2, l2, c2, row_c3r hrow, hTy⟩ hndy hby ⟨z, hz⟩ e he

set_option maxRecDepth 100000 in
set_option maxHeartbeats 4000000 in
theorem abs_chg (wi wh ho : Int) (b2 b3 b4 : Nat) (w0 : World) (t : E) (y v : Int) (h2 : Blk w0 b2 3 #[.int .i64 wi]) (h3 : Blk w0 b3 3 #[.int .i64 wh]) (h4 : Blk w0 b4 3 #[.int .i64 ho]) (hev : evalF t y = (v, 0)) :
    ChgOk 29 #[.pointer (some ⟨b2, 0, none⟩), .pointer (some ⟨b3, 0, none⟩), .pointer (some ⟨b4, 0, none⟩)] w0 t y v := by
  intro w b q k n A l c a hK0 hB hQ hbq hb0 hq0 hT hae hnd hbl
  have hent31 : ∀ (args : Array Value) (w : World), (callFunc 31 args).run Tryd.prog w = .ok (.enter 31 args) w := by intro args w; go_simp
  have hent43 : ∀ (args : Array Value) (w : World), (callFunc 43 args).run Tryd.prog w = .ok (.enter 43 args) w := by intro args w; go_simp
  have hmf : ∀ (fn : Fn) (first cap : Array Value) (w : World), (Instr.makeFunc fn first cap).run Tryd.prog w = .ok (.func fn first cap) w := fun _ _ _ _ => rfl
  have HE1 := hide hent31
  have H2 := hide (h2.kept hK0 id)
  have H3 := hide (h3.kept hK0 id)
  have H4 := hide (h4.kept hK0 id)
  have HK0 := hide hK0
  have HB := hide hB
  have HQ := hide hQ
  have HT := hide hT
  have HAE := hide hae
  have HND := hide hnd
  have HBL := hide hbl
  have HEV := hide hev
  have hsz : a.sz ≤ 60 := by rw [An.sz_e, hae]; exact sz_le hev
  have HSZ := hide hsz
  have hbw := hB.lt
  have HPN := hide (show b ∉ a.blocks from fun h => (hbl b h).2.1 rfl)
  clear h2 h3 h4 hK0 hB hQ hT hae hnd hbl hev hsz hent31 hent43
  go_enter Tryd.func29, Tryd.ntmps29
  go_wp2_with fail
  have HAt := hide (show At (w.alloc (.cells #[.slice none 0 0] 38)) b 0 a from
    ⟨k, n, A, l, c, ⟨((unhide HB).alloc _).cell 0, ((unhide HB).alloc _).cell 1, ((unhide HB).alloc _).cell 2⟩, (unhide HT).kept ((Kept.refl No w).alloc _) (fun _ _ => id)⟩)
  refine (rules_any a _ b 0 false w.heap.size w.heap.size 0 (.slice none 0 0) [] (unhide HAt) hbw (fun i hi => (unhide HT).lt i hi) (Blk.new w 38 _) (Nat.le_refl _) (World.ownsRow_nil _ _ _ _) (by simp [Value.ownBlock]) (by have := unhide HSZ; omega)).mono ?_
  rintro e w2 ⟨rfl, va, hO2, hown2, hvo2, hK2⟩
  have hK2b : Kept (fun i => w.heap.size ≤ i) w w2 := ((Kept.refl _ w).alloc _).trans hK2 (fun _ _ h => h)
  have hKn : Kept No w w2 := hK2b.more (fun i hi h => by omega)
  have hLn : (nodes a b 0 false).length = a.sz := nodes_len a b 0 false
  have hLp : 0 < (nodes a b 0 false).length := by rw [hLn]; cases a <;> simp [An.sz]
  have hL60 : (nodes a b 0 false).length ≤ 60 := by rw [hLn]; exact unhide HSZ
  have HPV := hide (part_val (y := y) a b 0 false w ⟨k, n, A, l, c, ⟨(unhide HB).cell 0, (unhide HB).cell 1, (unhide HB).cell 2⟩, unhide HT⟩ (unhide HND) (unhide HPN) ⟨v, by rw [unhide HAE]; exact (evalF_ok (unhide HEV)).2.2.2⟩)
  rw [Nat.zero_add, List.nil_append] at hown2
  generalize nodes a b 0 false = L at *
  have hva : ¬ va = .slice none 0 0 := by
    rintro rfl
    rcases hown2.2 with ⟨_, h2⟩ | ⟨g, cap, cur, hv, _⟩
    · omega
    · cases hv
  obtain ⟨ga, cap, rfl, hga⟩ := own_form hown2 hva
  have HCA := hide (fun (i : Nat) (hi : i < L.length * 2) => World.ownsRow.cellAt hown2 i hi)
  have o0 : w2.cell? ⟨w.heap.size, 0, none⟩ = some (.slice (some ⟨ga, 0, none⟩) L.length cap) := by rw [hO2.cell]; rfl
  obtain ⟨hz1a, hz2a⟩ := pickF_range (x := wi) (n := (L.length : Int)) (by omega)
  obtain ⟨z, hz⟩ : ∃ z : Nat, pickF wi (L.length : Int) = (z : Int) := ⟨(pickF wi (L.length : Int)).toNat, by omega⟩
  have hzl : z < L.length := by omega
  have HZ := hide hz
  obtain ⟨⟨ep, eo, et⟩, hez⟩ : ∃ e, L[z]? = some e := ⟨_, List.getElem?_eq_getElem hzl⟩
  obtain ⟨he1, he2⟩ := flat_at L z _ hez
  have a0 : w2.cell? ⟨ga, z * 2, none⟩ = some (.pointer (some ⟨ep, eo, none⟩)) := by rw [Nat.mul_comm]; exact (unhide HCA (2 * z) (by omega)).trans he1
  obtain ⟨sN, ⟨kd, nd, Ad, ld, cd, hc3, hTs⟩, hvs⟩ := unhide HPV _ (List.mem_of_getElem? hez)
  have HVS := hide hvs
  have HC3 := hide hc3
  have HDR := hide (show RT w kd nd Ad ld sN.e from TV.rd hTs (fun _ _ => trivial))
  have HKN := hide hKn
  have HO2 := hide hO2
  have HA0 := hide a0
  have KS := hide (show ∀ w', Kept No w2 w' → (w'.cell? ⟨w.heap.size, 0, none⟩ = some (.slice (some ⟨ga, 0, none⟩) L.length cap) ∧ w'.cell? ⟨b2, 0, none⟩ = some (.int .i64 wi) ∧ w'.cell? ⟨ga, z * 2, none⟩ = some (.pointer (some ⟨ep, eo, none⟩)) ∧
    w'.cell? ⟨ep, eo, none⟩ = some (.int .i64 kd) ∧ w'.cell? ⟨ep, eo + 1, none⟩ = some (.int .i64 nd) ∧ w'.cell? ⟨ep, eo + 2, none⟩ = some (.slice Ad ld cd)) from fun w' hk =>
    ⟨hk.cell o0 id, (((unhide H2).kept (unhide HKN) id).kept hk id).cell 0, hk.cell (unhide HA0) id, (hKn.trans hk (fun _ _ h => h)).cell (unhide HC3).1 id, (hKn.trans hk (fun _ _ h => h)).cell (unhide HC3).2.1 id, (hKn.trans hk (fun _ _ h => h)).cell (unhide HC3).2.2 id⟩)
  have HV := hide (Kept.refl No w2).drew
  have HLP := hide hLp
  have hzi : (z : Int) < (L.length : Int) := by omega
  have hzi0 : (0 : Int) ≤ (z : Int) := by omega
  have dz : decide ((z : Int) < (L.length : Int)) = true := by simp; omega
  have dz2 : decide (z < L.length) = true := by simp; omega
  clear hO2 hown2 hvo2 hK2 hK2b hKn hva hLn hz hz1a hz2a hez he1 he2 a0 hvs hc3 hTs
  go_wp2_with fail
  refine wp_region_inv 12 [11] (by kernel_rfl) (by kernel_rfl) (fun x => { tmps := #[.pointer (some ⟨b, 0, none⟩), .pointer (some ⟨q, 0, none⟩), .pointer (some ⟨b2, 0, none⟩), .pointer (some ⟨b3, 0, none⟩), .pointer (some ⟨b4, 0, none⟩), undef, undef, .bool false, .pointer (some ⟨w.heap.size, 0, none⟩), x 11, .pointer (some ⟨b, 0, none⟩), .tuple #[], x 0, x 1, x 2, x 3, x 4, x 5, x 6, x 7, x 8, x 9, x 10, undef, undef, undef, undef, undef, undef], defers := [] }) (fun _ => undef) (fun i v W => Sh.ok (fun _ => True) W (([Sh.val (.slice (some ⟨ga, 0, none⟩) L.length cap), Sh.val (.int .i64 wi), Sh.val (.slice (some ⟨ga, 0, none⟩) L.length cap), Sh.val (.int .i64 (L.length : Int)), Sh.val (.int .i64 (z : Int)), Sh.val (.pointer (some ⟨ga, z * 2, none⟩)), Sh.val (.pointer (some ⟨ga, z * 2, none⟩)), Sh.val (.pointer (some ⟨ep, eo, none⟩)), Sh.val (.pointer (some ⟨ep, eo, none⟩)), Sh.val (.agg #[.int .i64 kd, .int .i64 nd, .slice Ad ld cd]), Sh.tree sN.e, Sh.fresh w2.heap.size] : List Sh).getD i .any) v) (fun i v W W' hK h => Sh.kept hK _ _ h) ?_ ?_
  · refine ⟨?_, ?_, ?_, ?_, ?_, ?_, ?_, ?_, ?_, ?_, ?_, ?_, trivial⟩
    · refine ⟨fun x v => rfl, fun x S W hK hall hdep K hcont => ?_⟩
      have HCONT := hide hcont
      have HKW := hide hK
      clear hcont hK hall hdep
      obtain ⟨q0, q1, q2, q3, q4, q5⟩ := unhide KS W (unhide HKW)
      rw [if_pos (by rfl)]
      go_simp
      exact unhide HCONT _ _ _ rfl (Kept.refl No _) rfl (fun h => absurd h (by decide))
    · refine ⟨fun x v => rfl, fun x S W hK hall hdep K hcont => ?_⟩
      have HCONT := hide hcont
      have HKW := hide hK
      clear hcont hK hall hdep
      obtain ⟨q0, q1, q2, q3, q4, q5⟩ := unhide KS W (unhide HKW)
      rw [if_pos (by rfl)]
      go_simp
      exact unhide HCONT _ _ _ rfl (Kept.refl No _) rfl (fun h => absurd h (by decide))
    · refine ⟨fun x v => rfl, fun x S W hK hall hdep K hcont => ?_⟩
      have HCONT := hide hcont
      have HKW := hide hK
      clear hcont hK hall hdep
      obtain ⟨q0, q1, q2, q3, q4, q5⟩ := unhide KS W (unhide HKW)
      rw [if_pos (by rfl)]
      go_simp
      exact unhide HCONT _ _ _ rfl (Kept.refl No _) rfl (fun h => absurd h (by decide))
    · refine ⟨fun x v => rfl, fun x S W hK hall hdep K hcont => ?_⟩
      have HCONT := hide hcont
      have HKW := hide hK
      have d2 := hall 2 (by decide) (hdep ⟨2, Ground.data⟩ (by simp) rfl)
      clear hcont hK hall hdep
      have e2 : x 2 = (.slice (some ⟨ga, 0, none⟩) L.length cap) := d2
      rw [if_pos (by rfl)]
      simp only [e2]
      go_simp
      exact unhide HCONT _ _ _ (by (try simp only [e2]); rfl) (Kept.refl No _) rfl (fun h => absurd h (by decide))
    · refine ⟨fun x v => rfl, fun x S W hK hall hdep K hcont => ?_⟩
      have HCONT := hide hcont
      have HKW := hide hK
      have d1 := hall 1 (by decide) (hdep ⟨1, Ground.data⟩ (by simp) rfl)
      have d3 := hall 3 (by decide) (hdep ⟨3, Ground.data⟩ (by simp) rfl)
      clear hcont hK hall hdep
      have e1 : x 1 = (.int .i64 wi) := d1
      have e3 : x 3 = (.int .i64 (L.length : Int)) := d3
      rw [if_pos (by rfl)]
      simp only [e1, e3]
      go_simp
      refine (pick_any wi (L.length : Int) (by omega) (by omega) _).mono ?_
      rintro e w4 ⟨rfl, rfl⟩
      rw [unhide HZ]
      exact unhide HCONT _ _ _ (by (try simp only [e1, e3]); rfl) (Kept.refl No _) rfl (fun h => absurd h (by decide))
    · refine ⟨fun x v => rfl, fun x S W hK hall hdep K hcont => ?_⟩
      have HCONT := hide hcont
      have HKW := hide hK
      have d0 := hall 0 (by decide) (hdep ⟨0, Ground.data⟩ (by simp) rfl)
      have d4 := hall 4 (by decide) (hdep ⟨4, Ground.data⟩ (by simp) rfl)
      clear hcont hK hall hdep
      have e0 : x 0 = (.slice (some ⟨ga, 0, none⟩) L.length cap) := d0
      have e4 : x 4 = (.int .i64 (z : Int)) := d4
      rw [if_pos (by rfl)]
      simp only [e0, e4]
      go_simp
      exact unhide HCONT _ _ _ (by (try simp only [e0, e4]); rfl) (Kept.refl No _) rfl (fun h => absurd h (by decide))
    · refine ⟨fun x v => rfl, fun x S W hK hall hdep K hcont => ?_⟩
      have HCONT := hide hcont
      have HKW := hide hK
      have d5 := hall 5 (by decide) (hdep ⟨5, Ground.data⟩ (by simp) rfl)
      clear hcont hK hall hdep
      have e5 : x 5 = (.pointer (some ⟨ga, z * 2, none⟩)) := d5
      rw [if_pos (by rfl)]
      simp only [e5]
      go_simp
      exact unhide HCONT _ _ _ (by (try simp only [e5]); rfl) (Kept.refl No _) rfl (fun h => absurd h (by decide))
    · refine ⟨fun x v => rfl, fun x S W hK hall hdep K hcont => ?_⟩
      have HCONT := hide hcont
      have HKW := hide hK
      have d6 := hall 6 (by decide) (hdep ⟨6, Ground.data⟩ (by simp) rfl)
      clear hcont hK hall hdep
      have e6 : x 6 = (.pointer (some ⟨ga, z * 2, none⟩)) := d6
      obtain ⟨q0, q1, q2, q3, q4, q5⟩ := unhide KS W (unhide HKW)
      rw [if_pos (by rfl)]
      simp only [e6]
      go_simp
      exact unhide HCONT _ _ _ (by (try simp only [e6]); rfl) (Kept.refl No _) rfl (fun h => absurd h (by decide))
    · refine ⟨fun x v => rfl, fun x S W hK hall hdep K hcont => ?_⟩
      have HCONT := hide hcont
      have HKW := hide hK
      have d7 := hall 7 (by decide) (hdep ⟨7, Ground.data⟩ (by simp) rfl)
      clear hcont hK hall hdep
      have e7 : x 7 = (.pointer (some ⟨ep, eo, none⟩)) := d7
      rw [if_pos (by rfl)]
      simp only [e7]
      go_simp
      exact unhide HCONT _ _ _ (by (try simp only [e7]); rfl) (Kept.refl No _) rfl (fun h => absurd h (by decide))
    · refine ⟨fun x v => rfl, fun x S W hK hall hdep K hcont => ?_⟩
      have HCONT := hide hcont
      have HKW := hide hK
      have d8 := hall 8 (by decide) (hdep ⟨8, Ground.data⟩ (by simp) rfl)
      clear hcont hK hall hdep
      have e8 : x 8 = (.pointer (some ⟨ep, eo, none⟩)) := d8
      obtain ⟨q0, q1, q2, q3, q4, q5⟩ := unhide KS W (unhide HKW)
      rw [if_pos (by rfl)]
      simp only [e8]
      go_simp
      exact unhide HCONT _ _ _ (by (try simp only [e8]); rfl) (Kept.refl No _) rfl (fun h => absurd h (by decide))
    · refine ⟨fun x v => rfl, fun x S W hK hall hdep K hcont => ?_⟩
      have HCONT := hide hcont
      have HKW := hide hK
      have d9 := hall 9 (by decide) (hdep ⟨9, Ground.data⟩ (by simp) rfl)
      clear hcont hK hall hdep
      have e9 : x 9 = (.agg #[.int .i64 kd, .int .i64 nd, .slice Ad ld cd]) := d9
      rw [if_pos (by rfl)]
      simp only [e9]
      go_simp
      refine (rule_F2 (F := fun _ => True) sN.e kd nd Ad ld cd _ (show Rd _ (fun _ => True) kd nd Ad ld sN.e.r from ((unhide HDR).kept (unhide HKN)).kept (unhide HKW)) (fun _ _ => trivial)).mono ?_
      rintro e w1 ⟨k_, n_, A_, l_, c_, rfl, hR1, hK1⟩
      exact unhide HCONT _ _ _ (by (try simp only [e9]); rfl) hK1 ⟨_, _, _, _, _, rfl, hR1⟩ (fun h => absurd h (by decide))
    · refine ⟨fun x v => rfl, fun x S W hK hall hdep K hcont => ?_⟩
      have HCONT := hide hcont
      have HKW := hide hK
      have HALL := hide hall
      clear hcont hK hall hdep
      rw [if_pos (by rfl)]
      go_simp
      exact unhide HCONT _ _ _ rfl ((Kept.refl No _).alloc _) ⟨_, rfl, (unhide HKW).size, Blk.new _ _ _⟩ (fun _ j hj hS hjD h => by
        have hj2 : j = 11 := by simpa using hjD
        subst hj2
        obtain ⟨b_, hb_, _, hB_⟩ := unhide HALL 11 (by decide) hS
        exact blk_ne_new hB_ (hb_.symm.trans h))
  · intro x W hK hx hD
    obtain ⟨kc, nc, Ac, lc, cc, e10, r10⟩ := hx 10 (by decide)
    obtain ⟨p9, e11, hp9, hB9⟩ := hx 11 (by decide)
    have HKW := hide hK
    have HB9 := hide hB9
    have HR10 := hide r10
    have h9w := hB9.lt
    have hw2s := (unhide HKN).size
    have H3W := hide (((unhide H3).kept (unhide HKN) id).kept hK id)
    have H4W := hide (((unhide H4).kept (unhide HKN) id).kept hK id)
    have HP9 := hide hp9
    have h3l := (unhide H3).lt
    have n39 : b3 ≠ p9 := by omega
    have h3c : W.cell? ⟨b3, 0, none⟩ = some (.int .i64 wh) := (unhide H3W).cell 0
    have u0 : W.cell? ⟨p9, 0, none⟩ = some (.int .i64 0) := hB9.cell 0
    have u1 : W.cell? ⟨p9, 1, none⟩ = some (.int .i64 0) := hB9.cell 1
    have u2 : W.cell? ⟨p9, 2, none⟩ = some (.slice none 0 0) := hB9.cell 2
    have g0 : W.frozen? ⟨p9, 0, none⟩ = false := hB9.frozen 0
    have g1 : W.frozen? ⟨p9, 1, none⟩ = false := hB9.frozen 1
    have g2 : W.frozen? ⟨p9, 2, none⟩ = false := hB9.frozen 2
    simp only [e10, e11, List.drop]
    clear hK hx hD e10 e11 r10 hB9 hp9
    go_wp2_with fail
    have h1 : Kept (One p9) W (((W.setCell ⟨p9, 0, none⟩ (.int .i64 kc)).setCell ⟨p9, 1, none⟩ (.int .i64 nc)).setCell ⟨p9, 2, none⟩ (.slice Ac lc cc)) := (((Kept.refl _ W).one _ _).one _ _).one _ _
    have hD9 := (((unhide HB9).set_ 0 (.int .i64 kc)).set_ 1 (.int .i64 nc)).set_ 2 (.slice Ac lc cc)
    have hR9 : Rd (((W.setCell ⟨p9, 0, none⟩ (.int .i64 kc)).setCell ⟨p9, 1, none⟩ (.int .i64 nc)).setCell ⟨p9, 2, none⟩ (.slice Ac lc cc)) (fun _ => True) kc nc Ac lc sN.e.r := ((rd_nz (unhide HB9) sN.e (unhide HR10)).kept h1 (fun i _ hi => one_ne hi.2)).mono (fun _ _ _ => trivial)
    have HK1 := hide (((unhide HKN).trans (unhide HKW) (fun _ _ h => h)).trans h1 (fun i hi h => by have := unhide HP9; unfold One at h; omega))
    have HD9 := hide hD9
    have HR9 := hide hR9
    have H4Z := hide ((unhide H4W).kept h1 (one_ne (by have := (unhide H4).lt; have := unhide HP9; omega)))
    clear h1 hD9 hR9 u0 u1 u2 g0 g1 g2 h3c
    generalize ((W.setCell ⟨p9, 0, none⟩ (.int .i64 kc)).setCell ⟨p9, 1, none⟩ (.int .i64 nc)).setCell ⟨p9, 2, none⟩ (.slice Ac lc cc) = WZ at HK1 HD9 HR9 H4Z ⊢
    refine (put_any wh 31 _ _).mono ?_
    rintro e w5 ⟨fb, xb, rfl, hfb, hxb, hK5⟩
    have HFB := hide hfb
    have HXB := hide hxb
    have HK5 := hide ((unhide HK1).trans hK5 (fun _ _ h => h))
    have HD5 := hide ((unhide HD9).kept hK5 id)
    have HR5 := hide ((unhide HR9).kept hK5 (fun _ _ _ => id))
    have H45 := hide ((unhide H4Z).kept hK5 id)
    clear hfb hxb hK5
    go_wp2_with fail
    refine (put_at rules_any 31 _ w0 _ fb xb wh (byAbs (pickF ho 3) sN.e) t y v b q k n A l c a (unhide HFB) (unhide HXB) (unhide HE1) (abs_by ho b4 p9 sN.e kc nc Ac lc cc _ (unhide H45) (unhide HD5) (unhide HR5)) (fun a ha => by rw [An.sz_e, ha]; exact sz_le (unhide HEV)) (walk_small t (evalF_ok (unhide HEV)).1).1
      (fun t' hR => same_of_law (law_abs _ _ (unhide HVS)) (unhide HEV) hR) ((unhide HK0).trans (unhide HK5) (fun _ _ h => h)) ((unhide HB).kept (unhide HK5) id) ((unhide HQ).kept (unhide HK5) id) hbq hb0 hq0 ((unhide HT).kept (unhide HK5) (fun _ _ => id)) (unhide HAE) (unhide HND) (unhide HBL)).mono ?_
    rintro e w6 ⟨ok, rfl, hK6, hok⟩
    have HK6 := hide hK6
    have HOK := hide hok
    clear hK6 hok
    go_wp2_with fail
    go_ret
    exact ⟨ok, rfl, unhide HK6, unhide HOK⟩

set_option maxRecDepth 100000 in
set_option maxHeartbeats 4000000 in
theorem abs_top (r : R) (k n : Int) (A : Option Addr) (l c : Nat) (y which with_ how : Int) (GB : Nat) (w : World) (F : Nat → Prop) (hr : Rd w F k n A l r) (hG : Glob GB w) (hGB : GB ≤ w.heap.size) :
    Calls Tryd.prog 9 #[.agg #[.int .i64 k, .int .i64 n, .slice A l c], .int .i64 y, .int .i64 which, .int .i64 with_, .int .i64 how] w (YearPost w) := by
  have hent29 : ∀ (args : Array Value) (w : World), (callFunc 29 args).run Tryd.prog w = .ok (.enter 29 args) w := by intro args w; go_simp
  have hmf : ∀ (fn : Fn) (first cap : Array Value) (w : World), (Instr.makeFunc fn first cap).run Tryd.prog w = .ok (.func fn first cap) w := fun _ _ _ _ => rfl
  have HR := hide hr
  have HG := hide hG
  have HE1 := hide hent29
  clear hr hG hent29
  go_enter Tryd.func9, Tryd.ntmps9
  go_wp2_with fail
  have HK := hide (((((Kept.refl No w).alloc (.cells #[.int .i64 k, .int .i64 n, .slice A l c] 24)).alloc (.cells #[.int .i64 which] 3)).alloc (.cells #[.int .i64 with_] 3)).alloc (.cells #[.int .i64 how] 3))
  have HW := hide (((Blk.at_ (w := w.alloc (.cells #[.int .i64 k, .int .i64 n, .slice A l c] 24)) (t := 3) (cs := #[.int .i64 which]) (n := w.heap.size + 1) (by simp)).alloc (.cells #[.int .i64 with_] 3)).alloc (.cells #[.int .i64 how] 3))
  have HI := hide ((Blk.at_ (w := (w.alloc (.cells #[.int .i64 k, .int .i64 n, .slice A l c] 24)).alloc (.cells #[.int .i64 which] 3)) (t := 3) (cs := #[.int .i64 with_]) (n := w.heap.size + 1 + 1) (by simp)).alloc (.cells #[.int .i64 how] 3))
  have HH := hide (Blk.at_ (w := ((w.alloc (.cells #[.int .i64 k, .int .i64 n, .slice A l c] 24)).alloc (.cells #[.int .i64 which] 3)).alloc (.cells #[.int .i64 with_] 3)) (t := 3) (cs := #[.int .i64 how]) (n := w.heap.size + 1 + 1 + 1) (by simp))
  generalize (((w.alloc (.cells #[.int .i64 k, .int .i64 n, .slice A l c] 24)).alloc (.cells #[.int .i64 which] 3)).alloc (.cells #[.int .i64 with_] 3)).alloc (.cells #[.int .i64 how] 3) = V at HK HW HI HH ⊢
  refine (year_any r k n A l c y 29 GB _ _ F ((unhide HR).kept (unhide HK) (fun _ _ _ => id)) ((unhide HG).kept0 (unhide HK) hGB) (Nat.le_trans hGB (unhide HK).size) (fun t v _ hev => abs_chg with_ which how _ _ _ _ t y v (unhide HI) (unhide HW) (unhide HH) hev) (unhide HE1)).mono ?_
  rintro e w2 ⟨rfl, hK2⟩
  have HK := hide ((unhide HK).trans hK2 (fun _ _ h => h))
  clear hK2
  go_wp2_with fail
  go_ret
  exact ⟨rfl, unhide HK⟩

end Go.Proofs.YtmjmcjcckncplaaDoor
