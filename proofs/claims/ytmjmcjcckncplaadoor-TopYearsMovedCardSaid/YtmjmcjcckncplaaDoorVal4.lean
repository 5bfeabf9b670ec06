/- (machine).value: quotient, remainder. -/
import Derived.Test.YtmjmcjcckncplaaDoorVal2

namespace Go.Proofs.YtmjmcjcckncplaaDoor
open Go.RowKit Go.BigFrame

set_option maxHeartbeats 4000000 in
theorem val_div (y : Int) (ta tb : E) (iha : ValOk y ta) (ihb : ValOk y tb) : ValOk y (.bin .div ta tb) := by
  rintro k n A l c g w F ⟨hk, rfl, rfl, b, o, k1, n1, A1, l1, c1, k2, n2, A2, l2, c2, rfl, hFb, a0, a1, a2, hr, a3, a4, a5, hr'⟩ hF hB
  obtain rfl : k = 7 := hk
  have hc1 : w.cell? ⟨g, 1, none⟩ = some (.int .i64 0) := by rw [hB.cell]; rfl
  have hlt := hB.lt
  have hblt : b < w.heap.size := World.block_lt_of_cell? w _ a0
  have hbg : ¬ One g b := hF b hFb
  have HB := hide hB
  clear hB
  go_enter Tryd.func46, Tryd.ntmps46
  go_wp2
  refine wp_loop_rounds 3 ?_
  rw [rounds_succ]
  go_wp2_with fail
  clear hc1
  have hK0 : Kept (One g) w (((w.alloc (.cells #[.int .i64 7, .int .i64 0, .slice (some ⟨b, o, none⟩) 2 c] 24)).alloc (.cells #[.int .i64 0, .int .i64 0] 84)).alloc (.cells #[.int .i64 k1, .int .i64 n1, .slice A1 l1 c1] 24)) :=
    (((Kept.refl (One g) w).alloc _).alloc _).alloc _
  refine (iha k1 n1 A1 l1 c1 g _ F (hr.kept hK0 (fun i _ h => hF i h)) hF ((((unhide HB).alloc _).alloc _).alloc _)).mono ?_
  rintro e w1 ⟨rfl, hB1, hK1⟩
  have hv : Blk w1 (w.heap.size + 1) 84 #[.int .i64 0, .int .i64 0] := ((Blk.at_ (w := w.alloc (.cells #[.int .i64 7, .int .i64 0, .slice (some ⟨b, o, none⟩) 2 c] 24)) (by simp)).alloc _).kept hK1 (one_ne (by omega))
  have hx : Blk w1 w.heap.size 24 #[.int .i64 7, .int .i64 0, .slice (some ⟨b, o, none⟩) 2 c] := (((Blk.new w 24 #[.int .i64 7, .int .i64 0, .slice (some ⟨b, o, none⟩) 2 c]).alloc _).alloc _).kept hK1 (one_ne (by omega))
  have v0 : w1.cell? ⟨w.heap.size + 1, 0, none⟩ = some (.int .i64 0) := by rw [hv.cell]; rfl
  have v0f : w1.frozen? ⟨w.heap.size + 1, 0, none⟩ = false := hv.frozen 0
  have hsz := hK1.size
  simp at hsz
  generalize hr1 : valF y ta = r1 at hB1
  have HR1 := hide hr1
  have HB1 := hide hB1
  have HK0 := hide (hK0.trans hK1 (fun _ _ h => h))
  have HV := hide hv
  have HX := hide hx
  clear hr1 hK0 hK1 hv hx
  cases r1 with
  | error e1 =>
    have he : e1 = 1 ∨ e1 = 14 := valF_err (unhide HR1)
    have he' : (e1 != 0) = true := by rw [bne_iff_ne]; omega
    have g1 : w1.cell? ⟨g, 1, none⟩ = some (.int .i64 e1) := by rw [hB1.cell]; rfl
    clear hB1 he a0 a1 a2 a3 a4 a5
    simp only [resV]
    go_wp2_with fail
    go_ret
    have e : valF y (.bin .div ta tb) = .error e1 := by simp only [valF]; rw [unhide HR1]
    rw [e]
    exact ⟨rfl, (unhide HB1).far (by simp; omega) _, (unhide HK0).new (by omega) _ _⟩
  | ok va =>
    have ga := valF_range (unhide HR1)
    have g1 : w1.cell? ⟨g, 1, none⟩ = some (.int .i64 0) := by rw [hB1.cell]; rfl
    clear hB1
    simp only [resV]
    go_wp2_with fail
    rw [rounds_succ]
    have d3 : w1.cell? ⟨b, o + 3, none⟩ = some (.int .i64 k2) := (unhide HK0).cell a3 hbg
    have d4 : w1.cell? ⟨b, o + 4, none⟩ = some (.int .i64 n2) := (unhide HK0).cell a4 hbg
    have d5 : w1.cell? ⟨b, o + 5, none⟩ = some (.slice A2 l2 c2) := (unhide HK0).cell a5 hbg
    have hbN : ¬ w.heap.size + 1 = b := by omega
    have hbw : b < w1.heap.size := by omega
    clear a0 a1 a2 a3 a4 a5
    go_wp2_with fail
    clear d3 d4 d5 g1 v0 v0f
    have hK2 : Kept (One g) w ((w1.setCell ⟨w.heap.size + 1, 0, none⟩ (.int .i64 va)).alloc (.cells #[.int .i64 k2, .int .i64 n2, .slice A2 l2 c2] 24)) :=
      ((unhide HK0).new (by omega) _ _).alloc _
    refine (ihb k2 n2 A2 l2 c2 g _ F (hr'.kept hK2 (fun i _ h => hF i h)) hF (((unhide HB1).far (by simp; omega) _).alloc _)).mono ?_
    rintro e w2 ⟨rfl, hB2, hK3⟩
    have hv : Blk w2 (w.heap.size + 1) 84 #[.int .i64 va, .int .i64 0] := (((unhide HV).set_ 0 (.int .i64 va)).alloc _).kept hK3 (one_ne (by omega))
    have hx : Blk w2 w.heap.size 24 #[.int .i64 7, .int .i64 0, .slice (some ⟨b, o, none⟩) 2 c] := (((unhide HX).far (by simp) _).alloc _).kept hK3 (one_ne (by omega))
    have v0 : w2.cell? ⟨w.heap.size + 1, 0, none⟩ = some (.int .i64 va) := by rw [hv.cell]; rfl
    have v1 : w2.cell? ⟨w.heap.size + 1, 1, none⟩ = some (.int .i64 0) := by rw [hv.cell]; rfl
    have v1f : w2.frozen? ⟨w.heap.size + 1, 1, none⟩ = false := hv.frozen 1
    have x0 : w2.cell? ⟨w.heap.size, 0, none⟩ = some (.int .i64 7) := by rw [hx.cell]; rfl
    have hsz2 := hK3.size
    simp at hsz2
    generalize hr2 : valF y tb = r2 at hB2
    have HR2 := hide hr2
    have HB2 := hide hB2
    have HK2 := hide (hK2.trans hK3 (fun _ _ h => h))
    clear hr2 hK2 hK3 hv hx
    have hN1 : ¬ w.heap.size + 1 = g := by omega
    cases r2 with
    | error e2 =>
      have he : e2 = 1 ∨ e2 = 14 := valF_err (unhide HR2)
      have he' : (e2 != 0) = true := by rw [bne_iff_ne]; omega
      have g1 : w2.cell? ⟨g, 1, none⟩ = some (.int .i64 e2) := by rw [hB2.cell]; rfl
      clear hB2 he
      simp only [resV]
      go_wp2_with fail
      go_ret
      have e : valF y (.bin .div ta tb) = .error e2 := by simp only [valF]; rw [unhide HR1]; simp only; rw [unhide HR2]
      rw [e]
      exact ⟨rfl, (unhide HB2).far (by simp; omega) _, (unhide HK2).new (by omega) _ _⟩
    | ok vb =>
      have gb := valF_range (unhide HR2)
      have g1 : w2.cell? ⟨g, 1, none⟩ = some (.int .i64 0) := by rw [hB2.cell]; rfl
      have g1f : w2.frozen? ⟨g, 1, none⟩ = false := hB2.frozen 1
      clear hB2
      simp only [resV]
      have e : valF y (.bin .div ta tb) = op2 .div va vb := by simp only [valF]; rw [unhide HR1]; simp only; rw [unhide HR2]
      have HE := hide e
      clear e
      have HF := hide (((unhide HB2).far (p := ⟨w.heap.size + 1, 1, none⟩) (by simp; omega) (.int .i64 vb)))
      have HL := hide ((unhide HK2).new (b := w.heap.size + 1) (by omega) 1 (.int .i64 vb))
      go_wp2_with fail
      rw [rounds_succ]
      by_cases h0 : vb = 0
      · subst h0
        go_wp2_with fail
        refine (div_zero va _).mono ?_
        rintro e w3 ⟨rfl, rfl⟩
        go_wp2_with fail
        go_ret
        rw [unhide HE, show op2 .div va 0 = .error 1 from rfl]
        exact ⟨rfl, (unhide HF).set_ 1 _, (unhide HL).one _ _⟩
      by_cases h1 : va.fdiv vb < -2147483647
      · have E := hide (fit_bad (n := va.fdiv vb) (.inl h1))
        go_wp2_with fail
        refine (div_any va vb h0 ga.1 ga.2 gb.1 gb.2 _).mono ?_
        rintro e w3 ⟨rfl, nd, rfl⟩
        go_wp2_with fail
        go_ret
        rw [unhide HE, show op2 .div va vb = .error 14 from (if_neg h0).trans (unhide E)]
        exact ⟨rfl, (((unhide HF)).drewN nd).set_ 1 _, (((unhide HL)).drewN nd).one _ _⟩
      · by_cases h2 : 2147483647 < va.fdiv vb
        · have E := hide (fit_bad (n := va.fdiv vb) (.inr h2))
          go_wp2_with fail
          refine (div_any va vb h0 ga.1 ga.2 gb.1 gb.2 _).mono ?_
          rintro e w3 ⟨rfl, nd, rfl⟩
          go_wp2_with fail
          go_ret
          rw [unhide HE, show op2 .div va vb = .error 14 from (if_neg h0).trans (unhide E)]
          exact ⟨rfl, (((unhide HF)).drewN nd).set_ 1 _, (((unhide HL)).drewN nd).one _ _⟩
        · have E := hide (fit_good (n := va.fdiv vb) (by omega))
          go_wp2_with fail
          refine (div_any va vb h0 ga.1 ga.2 gb.1 gb.2 _).mono ?_
          rintro e w3 ⟨rfl, nd, rfl⟩
          go_wp2_with fail
          go_ret
          rw [unhide HE, show op2 .div va vb = .ok (va.fdiv vb) from (if_neg h0).trans (unhide E)]
          exact ⟨rfl, (((unhide HF)).drewN nd), (((unhide HL)).drewN nd)⟩

set_option maxHeartbeats 4000000 in
theorem val_mod (y : Int) (ta tb : E) (iha : ValOk y ta) (ihb : ValOk y tb) : ValOk y (.bin .mod ta tb) := by
  rintro k n A l c g w F ⟨hk, rfl, rfl, b, o, k1, n1, A1, l1, c1, k2, n2, A2, l2, c2, rfl, hFb, a0, a1, a2, hr, a3, a4, a5, hr'⟩ hF hB
  obtain rfl : k = 8 := hk
  have hc1 : w.cell? ⟨g, 1, none⟩ = some (.int .i64 0) := by rw [hB.cell]; rfl
  have hlt := hB.lt
  have hblt : b < w.heap.size := World.block_lt_of_cell? w _ a0
  have hbg : ¬ One g b := hF b hFb
  have HB := hide hB
  clear hB
  go_enter Tryd.func46, Tryd.ntmps46
  go_wp2
  refine wp_loop_rounds 3 ?_
  rw [rounds_succ]
  go_wp2_with fail
  clear hc1
  have hK0 : Kept (One g) w (((w.alloc (.cells #[.int .i64 8, .int .i64 0, .slice (some ⟨b, o, none⟩) 2 c] 24)).alloc (.cells #[.int .i64 0, .int .i64 0] 84)).alloc (.cells #[.int .i64 k1, .int .i64 n1, .slice A1 l1 c1] 24)) :=
    (((Kept.refl (One g) w).alloc _).alloc _).alloc _
  refine (iha k1 n1 A1 l1 c1 g _ F (hr.kept hK0 (fun i _ h => hF i h)) hF ((((unhide HB).alloc _).alloc _).alloc _)).mono ?_
  rintro e w1 ⟨rfl, hB1, hK1⟩
  have hv : Blk w1 (w.heap.size + 1) 84 #[.int .i64 0, .int .i64 0] := ((Blk.at_ (w := w.alloc (.cells #[.int .i64 8, .int .i64 0, .slice (some ⟨b, o, none⟩) 2 c] 24)) (by simp)).alloc _).kept hK1 (one_ne (by omega))
  have hx : Blk w1 w.heap.size 24 #[.int .i64 8, .int .i64 0, .slice (some ⟨b, o, none⟩) 2 c] := (((Blk.new w 24 #[.int .i64 8, .int .i64 0, .slice (some ⟨b, o, none⟩) 2 c]).alloc _).alloc _).kept hK1 (one_ne (by omega))
  have v0 : w1.cell? ⟨w.heap.size + 1, 0, none⟩ = some (.int .i64 0) := by rw [hv.cell]; rfl
  have v0f : w1.frozen? ⟨w.heap.size + 1, 0, none⟩ = false := hv.frozen 0
  have hsz := hK1.size
  simp at hsz
  generalize hr1 : valF y ta = r1 at hB1
  have HR1 := hide hr1
  have HB1 := hide hB1
  have HK0 := hide (hK0.trans hK1 (fun _ _ h => h))
  have HV := hide hv
  have HX := hide hx
  clear hr1 hK0 hK1 hv hx
  cases r1 with
  | error e1 =>
    have he : e1 = 1 ∨ e1 = 14 := valF_err (unhide HR1)
    have he' : (e1 != 0) = true := by rw [bne_iff_ne]; omega
    have g1 : w1.cell? ⟨g, 1, none⟩ = some (.int .i64 e1) := by rw [hB1.cell]; rfl
    clear hB1 he a0 a1 a2 a3 a4 a5
    simp only [resV]
    go_wp2_with fail
    go_ret
    have e : valF y (.bin .mod ta tb) = .error e1 := by simp only [valF]; rw [unhide HR1]
    rw [e]
    exact ⟨rfl, (unhide HB1).far (by simp; omega) _, (unhide HK0).new (by omega) _ _⟩
  | ok va =>
    have ga := valF_range (unhide HR1)
    have g1 : w1.cell? ⟨g, 1, none⟩ = some (.int .i64 0) := by rw [hB1.cell]; rfl
    clear hB1
    simp only [resV]
    go_wp2_with fail
    rw [rounds_succ]
    have d3 : w1.cell? ⟨b, o + 3, none⟩ = some (.int .i64 k2) := (unhide HK0).cell a3 hbg
    have d4 : w1.cell? ⟨b, o + 4, none⟩ = some (.int .i64 n2) := (unhide HK0).cell a4 hbg
    have d5 : w1.cell? ⟨b, o + 5, none⟩ = some (.slice A2 l2 c2) := (unhide HK0).cell a5 hbg
    have hbN : ¬ w.heap.size + 1 = b := by omega
    have hbw : b < w1.heap.size := by omega
    clear a0 a1 a2 a3 a4 a5
    go_wp2_with fail
    clear d3 d4 d5 g1 v0 v0f
    have hK2 : Kept (One g) w ((w1.setCell ⟨w.heap.size + 1, 0, none⟩ (.int .i64 va)).alloc (.cells #[.int .i64 k2, .int .i64 n2, .slice A2 l2 c2] 24)) :=
      ((unhide HK0).new (by omega) _ _).alloc _
    refine (ihb k2 n2 A2 l2 c2 g _ F (hr'.kept hK2 (fun i _ h => hF i h)) hF (((unhide HB1).far (by simp; omega) _).alloc _)).mono ?_
    rintro e w2 ⟨rfl, hB2, hK3⟩
    have hv : Blk w2 (w.heap.size + 1) 84 #[.int .i64 va, .int .i64 0] := (((unhide HV).set_ 0 (.int .i64 va)).alloc _).kept hK3 (one_ne (by omega))
    have hx : Blk w2 w.heap.size 24 #[.int .i64 8, .int .i64 0, .slice (some ⟨b, o, none⟩) 2 c] := (((unhide HX).far (by simp) _).alloc _).kept hK3 (one_ne (by omega))
    have v0 : w2.cell? ⟨w.heap.size + 1, 0, none⟩ = some (.int .i64 va) := by rw [hv.cell]; rfl
    have v1 : w2.cell? ⟨w.heap.size + 1, 1, none⟩ = some (.int .i64 0) := by rw [hv.cell]; rfl
    have v1f : w2.frozen? ⟨w.heap.size + 1, 1, none⟩ = false := hv.frozen 1
    have x0 : w2.cell? ⟨w.heap.size, 0, none⟩ = some (.int .i64 8) := by rw [hx.cell]; rfl
    have hsz2 := hK3.size
    simp at hsz2
    generalize hr2 : valF y tb = r2 at hB2
    have HR2 := hide hr2
    have HB2 := hide hB2
    have HK2 := hide (hK2.trans hK3 (fun _ _ h => h))
    clear hr2 hK2 hK3 hv hx
    have hN1 : ¬ w.heap.size + 1 = g := by omega
    cases r2 with
    | error e2 =>
      have he : e2 = 1 ∨ e2 = 14 := valF_err (unhide HR2)
      have he' : (e2 != 0) = true := by rw [bne_iff_ne]; omega
      have g1 : w2.cell? ⟨g, 1, none⟩ = some (.int .i64 e2) := by rw [hB2.cell]; rfl
      clear hB2 he
      simp only [resV]
      go_wp2_with fail
      go_ret
      have e : valF y (.bin .mod ta tb) = .error e2 := by simp only [valF]; rw [unhide HR1]; simp only; rw [unhide HR2]
      rw [e]
      exact ⟨rfl, (unhide HB2).far (by simp; omega) _, (unhide HK2).new (by omega) _ _⟩
    | ok vb =>
      have gb := valF_range (unhide HR2)
      have g1 : w2.cell? ⟨g, 1, none⟩ = some (.int .i64 0) := by rw [hB2.cell]; rfl
      have g1f : w2.frozen? ⟨g, 1, none⟩ = false := hB2.frozen 1
      clear hB2
      simp only [resV]
      have e : valF y (.bin .mod ta tb) = op2 .mod va vb := by simp only [valF]; rw [unhide HR1]; simp only; rw [unhide HR2]
      have HE := hide e
      clear e
      have HF := hide (((unhide HB2).far (p := ⟨w.heap.size + 1, 1, none⟩) (by simp; omega) (.int .i64 vb)))
      have HL := hide ((unhide HK2).new (b := w.heap.size + 1) (by omega) 1 (.int .i64 vb))
      go_wp2_with fail
      rw [rounds_succ]
      by_cases h0 : vb = 0
      · subst h0
        go_wp2_with fail
        refine (div_zero va _).mono ?_
        rintro e w3 ⟨rfl, rfl⟩
        go_wp2_with fail
        go_ret
        rw [unhide HE, show op2 .mod va 0 = .error 1 from rfl]
        exact ⟨rfl, (unhide HF).set_ 1 _, (unhide HL).one _ _⟩
      by_cases h1 : va.fmod vb < -2147483647
      · have E := hide (fit_bad (n := va.fmod vb) (.inl h1))
        go_wp2_with fail
        refine (div_any va vb h0 ga.1 ga.2 gb.1 gb.2 _).mono ?_
        rintro e w3 ⟨rfl, nd, rfl⟩
        go_wp2_with fail
        go_ret
        rw [unhide HE, show op2 .mod va vb = .error 14 from (if_neg h0).trans (unhide E)]
        exact ⟨rfl, (((unhide HF)).drewN nd).set_ 1 _, (((unhide HL)).drewN nd).one _ _⟩
      · by_cases h2 : 2147483647 < va.fmod vb
        · have E := hide (fit_bad (n := va.fmod vb) (.inr h2))
          go_wp2_with fail
          refine (div_any va vb h0 ga.1 ga.2 gb.1 gb.2 _).mono ?_
          rintro e w3 ⟨rfl, nd, rfl⟩
          go_wp2_with fail
          go_ret
          rw [unhide HE, show op2 .mod va vb = .error 14 from (if_neg h0).trans (unhide E)]
          exact ⟨rfl, (((unhide HF)).drewN nd).set_ 1 _, (((unhide HL)).drewN nd).one _ _⟩
        · have E := hide (fit_good (n := va.fmod vb) (by omega))
          go_wp2_with fail
          refine (div_any va vb h0 ga.1 ga.2 gb.1 gb.2 _).mono ?_
          rintro e w3 ⟨rfl, nd, rfl⟩
          go_wp2_with fail
          go_ret
          rw [unhide HE, show op2 .mod va vb = .ok (va.fmod vb) from (if_neg h0).trans (unhide E)]
          exact ⟨rfl, (((unhide HF)).drewN nd), (((unhide HL)).drewN nd)⟩

end Go.Proofs.YtmjmcjcckncplaaDoor
