/- (parser).level (function 67) at the levels of the operations with two operands. -/
import Derived.Test.YtmjmcjcckncplaaDoorLevel
import Derived.Deep.RegionWith
import Derived.IntWalk
namespace Go.Proofs.YtmjmcjcckncplaaDoor
open Go.RowKit Go.BigFrame

/-- The sign without its blanks. -/
def O2.sym : O2 → List UInt8
  | .add => [43] | .sub => [45] | .mul => [42] | .div => [47] | .mod => [37] | .less => [60] | .same => [61] | .and => [97, 110, 100] | .or => [111, 114]

theorem sym_code (o : O2) (j : Nat) (h : (symsOf o.lev)[j]? = some o.sym) : (foundOf o.lev)[j]? = some o.code := by
  cases o <;> (rcases j with _ | _ | _ | j) <;> first | rfl | (exfalso; revert h; decide) | (exfalso; simp [symsOf, O2.lev, O2.sym] at h)
theorem sym_in (o : O2) : ∃ j : Nat, j < (symsOf o.lev).length ∧ (symsOf o.lev)[j]? = some o.sym := by
  cases o
  · exact ⟨0, by decide, rfl⟩
  · exact ⟨1, by decide, rfl⟩
  · exact ⟨0, by decide, rfl⟩
  · exact ⟨1, by decide, rfl⟩
  · exact ⟨2, by decide, rfl⟩
  · exact ⟨0, by decide, rfl⟩
  · exact ⟨1, by decide, rfl⟩
  · exact ⟨0, by decide, rfl⟩
  · exact ⟨0, by decide, rfl⟩
theorem tk_eq {S : ByteArray} {a b : Nat} (h : sk S a = sk S b) : tk S a = tk S b := by
  have ha : tk S a = tok (S.data.toList.drop (sk S a)) := rfl
  rw [ha, h]
  rfl

theorem syms_pos (n : Nat) (h1 : 1 ≤ n) (h6 : n ≤ 6) (h3 : n ≠ 3) : 0 < (symsOf n).length := by
  obtain rfl | rfl | rfl | rfl | rfl : n = 1 ∨ n = 2 ∨ n = 4 ∨ n = 5 ∨ n = 6 := by omega
  all_goals decide
theorem syms_len (n : Nat) : (symsOf n).length ≤ 3 := by unfold symsOf; (repeat' split) <;> simp

/-- What the loop of level n reads behind X: k operations. -/
inductive Steps (GB : Nat) (S : ByteArray) (n : Nat) (op : Int) : Nat → E → Nat → E → Nat → Prop where
  | stop (X : E) (a : Nat) (h : ∀ s ∈ symsOf n, tk S a ≠ s) (ha : a ≤ S.size) : Steps GB S n op 0 X a X (sk S a)
  | four (X Y : E) (o : O2) (a a1 : Nat) (hn : n = 4) (ho : o.lev = n) (ht : tk S a = o.sym) (ha : a ≤ S.size) (h : LOK GB S (n + 1) op (sk S a + o.sym.length) Y a1) : Steps GB S n op 0 X a (.bin o X Y) a1
  | step (X Y T : E) (o : O2) (a a1 a2 : Nat) (k : Nat) (hn : n ≠ 4) (ho : o.lev = n) (ht : tk S a = o.sym) (ha : a ≤ S.size) (h : LOK GB S (n + 1) op (sk S a + o.sym.length) Y a1)
      (r : Steps GB S n op k (.bin o X Y) a1 T a2) : Steps GB S n op (k + 1) X a T a2

theorem Steps.le {GB : Nat} {S : ByteArray} {n : Nat} {op : Int} {k : Nat} {X : E} {a : Nat} {T : E} {a' : Nat} (h : Steps GB S n op k X a T a') : a ≤ S.size ∧ a' ≤ S.size := by
  induction h with
  | stop X a h ha => exact ⟨ha, sk_le ha⟩
  | four X Y o a a1 hn ho ht ha h => exact ⟨ha, h.1⟩
  | step X Y T o a a1 a2 k hn ho ht ha h r ih => exact ⟨ha, ih.2⟩

set_option maxRecDepth 100000 in
set_option maxHeartbeats 4000000 in
theorem lok_bin (GB : Nat) (S : ByteArray) (n : Nat) (op : Int) (k at_ a1 a2 : Nat) (X T : E) (hS : S.size ≤ 100000) (hn1 : 1 ≤ n) (hn6 : n ≤ 6) (hn3 : n ≠ 3)
    (h : LOK GB S (n + 1) op at_ X a1) (hs : Steps GB S n op k X a1 T a2) : LOK GB S n op at_ T a2 := by
  refine ⟨hs.le.2, fun p w hP hG hp => ?_⟩
  have hpw : p < w.heap.size := hP.lt
  have HP := hide hP
  have HG := hide hG
  have HL := hide h.2
  have HS := hide hs
  have hGB : 11 ≤ GB := hG.lo
  have d3 : ((n : Int) == 3) = false := by rw [beq_eq_false_iff_ne]; omega
  have d7 : ((n : Int) == 7) = false := by rw [beq_eq_false_iff_ne]; omega
  have d8 : ((n : Int) == 8) = false := by rw [beq_eq_false_iff_ne]; omega
  clear hP hG h hs
  go_enter Tryd.func67, Tryd.ntmps67
  go_wp2_with fail
  have hK0 : Kept (One p) w (w.alloc (.cells #[.int .i64 0, .int .i64 0, .slice none 0 0] 24)) := (Kept.refl _ w).alloc _
  refine (unhide HL p _ ((unhide HP).alloc _) ((unhide HG).one hK0 hp hpw) hp).mono ?_
  rintro e w1 ⟨k1, n1, A1, l1, c1, rfl, hR, hP1, hK1⟩
  have hsz := hK1.size
  simp at hsz
  have hX : Blk w1 w.heap.size 24 #[.int .i64 0, .int .i64 0, .slice none 0 0] := (Blk.new w 24 _).kept hK1 (one_ne (by omega))
  have HX := hide hX
  have HR := hide (hR.all.mono (F' := fun i => w.heap.size < i ∧ i ≠ w1.heap.size) (fun i _ hi => by simp at hi; omega))
  have HP1 := hide hP1
  have HK := hide (hK0.trans hK1 (fun _ _ h => h))
  clear hK0 hX hR hP1 hK1
  go_wp2_with fail
  go_loopg [] k (fun k' wr => ∃ X' a' kx nx Ax lx cx, Steps GB S n op k' X' a' T a2 ∧ PS wr p S a' op ∧ Kept (One p) w wr ∧ w1.heap.size < wr.heap.size ∧ Blk wr w.heap.size 24 #[.int .i64 0, .int .i64 0, .slice none 0 0] ∧
    Blk wr w1.heap.size 24 #[.int .i64 kx, .int .i64 nx, .slice Ax lx cx] ∧ Rd wr (fun i => w.heap.size < i ∧ i ≠ w1.heap.size) kx nx Ax lx X'.r)
  case atStart =>
    exact ⟨X, a1, k1, n1, A1, l1, c1, unhide HS, (unhide HP1).alloc _, (unhide HK).alloc _, by simp, (unhide HX).alloc _, Blk.new _ _ _, (unhide HR).alloc _⟩
  case round =>
    obtain ⟨X', a', kx, nx, Ax, lx, cx, hs, hPr, hKr, hsz1, hXr, hYr, hRr⟩ := hrel
    have HSt := hide hs
    have HPr := hide hPr
    have HKr := hide hKr
    have HXr := hide hXr
    have HYr := hide hYr
    have HRr := hide hRr
    obtain ⟨sb, so, sc, hsb, hsy, hsi⟩ := ((unhide HG).one hKr hp hpw).syms n hn1 hn6 hn3
    have HSI := hide hsi
    obtain ⟨fb, fo, fc, hfb, hfy, hfi⟩ := ((unhide HG).one hKr hp hpw).found n hn1 hn6 hn3
    have HFI := hide hfi
    have HFY := hide hfy
    have har := hs.le.1
    clear hs hPr hKr hXr hYr hRr hsi hfi hfy
    obtain ⟨wo, hwo⟩ : ∃ x, x = wr := ⟨_, rfl⟩
    subst hwo
    obtain ⟨ko, hko⟩ : ∃ x, x = gk := ⟨_, rfl⟩
    subst hko
    go_wp2_with fail
    go_loopg [8, 92] (symsOf n).length (fun k' v8 v92 wq => ∃ j aq : Nat, v8 = .int .i64 0 ∧ v92 = .int .i64 j ∧ j ≤ (symsOf n).length ∧ (symsOf n).length - j = k' ∧ (∀ i s, i < j → (symsOf n)[i]? = some s → tk S a' ≠ s) ∧ aq ≤ S.size ∧ sk S aq = sk S a' ∧ (0 < j → aq = sk S a') ∧ PS wq p S aq op ∧ Kept (One p) wo wq)
    case atStart => exact ⟨0, a', rfl, rfl, Nat.zero_le _, rfl, fun i s h => absurd h (Nat.not_lt_zero _), har, rfl, fun h => absurd h (Nat.lt_irrefl 0), unhide HPr, Kept.refl _ _⟩
    case round =>
      obtain ⟨j, aq, rfl, rfl, hj, hjk, hno, haq, hska, hpos, hPq, hKq⟩ := hrel
      have HPOS := hide hpos
      have HNO := hide hno
      have HSKA := hide hska
      have HPq := hide hPq
      have HKq := hide hKq
      have HJK := hide hjk
      clear hno hska hpos hPq hKq hjk
      by_cases hjl : j < (symsOf n).length
      · have dj : decide ((j : Int) < ((symsOf n).length : Int)) = true := by simp; omega
        have HJL := hide hjl
        have dj2 : decide (j < (symsOf n).length) = true := by simp; omega
        obtain ⟨sj, hsj⟩ : ∃ s, (symsOf n)[j]? = some s := ⟨_, List.getElem?_eq_getElem hjl⟩
        have cj : wr.cell? ⟨sb, so + j, none⟩ = some (.string ⟨sj.toArray⟩) := (unhide HKq).cell (unhide HSI j sj hsj) (one_ne (by show sb ≠ p; omega))
        have HSJ := hide hsj
        clear hsj
        by_cases hts : tk S aq = sj
        · have HTS := hide hts
          clear hts
          obtain ⟨o, Y, aY, ho, hos, hLY, hTail⟩ : ∃ (o : O2) (Y : E) (aY : Nat), o.lev = n ∧ o.sym = sj ∧ LOK GB S (n + 1) op (sk S aq + sj.length) Y aY ∧ ((n = 4 ∧ T = .bin o X' Y ∧ a2 = aY) ∨ (n ≠ 4 ∧ ∃ k2, k2 < ko ∧ Steps GB S n op k2 (.bin o X' Y) aY T a2)) := by
            have hso := unhide HSt
            have hsk := unhide HSKA
            have htk := (tk_eq (unhide HSKA)).symm.trans (unhide HTS)
            cases hso with
            | stop _ _ h ha => exact absurd htk (h sj (List.mem_of_getElem? (unhide HSJ)))
            | four _ Y o _ _ h4 ho ht ha h =>
              have hos := ht.symm.trans htk
              exact ⟨o, Y, a2, ho, hos, by rw [hsk, ← hos]; exact h, .inl ⟨h4, rfl, rfl⟩⟩
            | step _ Y _ o _ aY _ k2 h4 ho ht ha h r =>
              have hos := ht.symm.trans htk
              exact ⟨o, Y, aY, ho, hos, by rw [hsk, ← hos]; exact h, .inr ⟨h4, k2, Nat.lt_succ_self _, r⟩⟩
          have HLY := hide hLY.2
          have haY := hLY.1
          have HTail := hide hTail
          clear hLY hTail
          have hoc : (foundOf n)[j]? = some o.code := by rw [← ho]; exact sym_code o j (by rw [ho, hos]; exact unhide HSJ)
          have HOC := hide hoc
          have HO := hide ho
          have HOS := hide hos
          clear ho hos hoc
          have dz : (o.code == 0) = false := by cases o <;> rfl
          have hsl : sk S aq + sj.length ≤ S.size := got_le haq (unhide HTS) rfl
          go_wp2_with (go_at_call 73; refine (take_yes p S aq (sk S aq + sj.length) op _ sj (unhide HPq) haq hS (unhide HTS) rfl).mono ?_; rintro e wt ⟨rfl, hPt, hKt⟩; have HPt := hide hPt; have HKt := hide ((unhide HKq).trans hKt (fun _ _ h => h)); have cf : wt.cell? ⟨4, n, none⟩ = some (.slice (some ⟨fb, fo, none⟩) (symsOf n).length fc) := (unhide HKt).cell (unhide HFY) (one_ne (by simp; omega)); have cg : wt.cell? ⟨fb, fo + j, none⟩ = some (.int .i64 o.code) := (unhide HKt).cell (unhide HFI j o.code (unhide HOC)) (one_ne (by simp; omega)); clear hPt hKt)
          have hX : Blk wt w.heap.size 24 #[.int .i64 0, .int .i64 0, .slice none 0 0] := (unhide HXr).kept (unhide HKt) (one_ne (by omega))
          have hY : Blk wt w1.heap.size 24 #[.int .i64 kx, .int .i64 nx, .slice Ax lx cx] := (unhide HYr).kept (unhide HKt) (one_ne (by omega))
          have HX := hide hX
          have HY := hide hY
          have HRt := hide ((unhide HRr).kept (unhide HKt) (fun i _ hi => one_ne (by omega)))
          have HKw := hide ((unhide HKr).trans (unhide HKt) (fun _ _ h => h))
          have hszt := (unhide HKt).size
          have hne1 : ¬ One p w1.heap.size := one_ne (by omega)
          have HNE := hide hne1
          have HYd := hide (unhide HY).drew
          have hGt := (unhide HG).one (unhide HKw) hp hpw
          have hGd : Glob GB wt.drew := hGt.one (Kept.refl (One p) wt).drew hp (unhide HPt).lt
          have HGd := hide hGd
          have HPd := hide (unhide HPt).drew
          have hws : IntKind.i64.wrap ((n : Int) + 1) = (n : Int) + 1 := IntWalk.i64_in _ (by omega)
          clear hX hY cf cg hGt hGd hne1
          have d0 : wt.cell? ⟨w1.heap.size, 0, none⟩ = some (.int .i64 kx) := (unhide HYd).cell 0
          have d1 : wt.cell? ⟨w1.heap.size, 1, none⟩ = some (.int .i64 nx) := (unhide HYd).cell 1
          have d2 : wt.cell? ⟨w1.heap.size, 2, none⟩ = some (.slice Ax lx cx) := (unhide HYd).cell 2
          go_region_with
            (first
              | (go_at_call 67; refine (unhide HLY p _ ?_ ?_ hp).mono ?_; exact unhide HPd; exact unhide HGd; rintro e w2 ⟨ky, ny, Ay, ly, cy, rfl, hRy, hPy, hKy⟩; have hY2 := (unhide HYd).kept hKy (unhide HNE); have hlt2 := hY2.lt; have g0 := hY2.frozen 0; have g1 := hY2.frozen 1; have g2 := hY2.frozen 2; have y0 := (show w2.cell? ⟨w1.heap.size, 0, none⟩ = some (.int .i64 kx) from hY2.cell 0); have y1 := (show w2.cell? ⟨w1.heap.size, 1, none⟩ = some (.int .i64 nx) from hY2.cell 1); have y2 := (show w2.cell? ⟨w1.heap.size, 2, none⟩ = some (.slice Ax lx cx) from hY2.cell 2); have HY2 := hide hY2; have HRy := hide hRy; have HPy := hide hPy; have HKJ := hide hKy; clear hRy hPy hKy hY2))
          all_goals
            have hKw2 : Kept (One p) w w2 := ((unhide HKw).drew).trans (unhide HKJ) (fun _ _ h => h)
            have hs2 := (unhide HKJ).size
            simp at hs2
            have hKs : Kept (One w1.heap.size) w2 ((((w2.setCell ⟨w1.heap.size, 0, none⟩ (.int .i64 o.code)).setCell ⟨w1.heap.size, 1, none⟩ (.int .i64 0)).setCell ⟨w1.heap.size, 2, none⟩ (.slice (some ⟨w2.heap.size, 0, none⟩) 2 2)).alloc
              (.cells #[.int .i64 kx, .int .i64 nx, .slice Ax lx cx, .int .i64 ky, .int .i64 ny, .slice Ay ly cy] 24)) := ((((Kept.refl _ w2).one _ _).one _ _).one _ _).alloc _
            have hYW : Blk ((((w2.setCell ⟨w1.heap.size, 0, none⟩ (.int .i64 o.code)).setCell ⟨w1.heap.size, 1, none⟩ (.int .i64 0)).setCell ⟨w1.heap.size, 2, none⟩ (.slice (some ⟨w2.heap.size, 0, none⟩) 2 2)).alloc
              (.cells #[.int .i64 kx, .int .i64 nx, .slice Ax lx cx, .int .i64 ky, .int .i64 ny, .slice Ay ly cy] 24)) w1.heap.size 24 #[.int .i64 o.code, .int .i64 0, .slice (some ⟨w2.heap.size, 0, none⟩) 2 2] := ((((unhide HY2).set_ 0 _).set_ 1 _).set_ 2 _).alloc _
            have hNW : Blk ((((w2.setCell ⟨w1.heap.size, 0, none⟩ (.int .i64 o.code)).setCell ⟨w1.heap.size, 1, none⟩ (.int .i64 0)).setCell ⟨w1.heap.size, 2, none⟩ (.slice (some ⟨w2.heap.size, 0, none⟩) 2 2)).alloc
              (.cells #[.int .i64 kx, .int .i64 nx, .slice Ax lx cx, .int .i64 ky, .int .i64 ny, .slice Ay ly cy] 24)) w2.heap.size 24 #[.int .i64 kx, .int .i64 nx, .slice Ax lx cx, .int .i64 ky, .int .i64 ny, .slice Ay ly cy] := Blk.at_ (by simp)
            generalize (((w2.setCell ⟨w1.heap.size, 0, none⟩ (.int .i64 o.code)).setCell ⟨w1.heap.size, 1, none⟩ (.int .i64 0)).setCell ⟨w1.heap.size, 2, none⟩ (.slice (some ⟨w2.heap.size, 0, none⟩) 2 2)).alloc
              (.cells #[.int .i64 kx, .int .i64 nx, .slice Ax lx cx, .int .i64 ky, .int .i64 ny, .slice Ay ly cy] 24) = W at hKs hYW hNW ⊢
            have hPW := (unhide HPy).kept hKs (one_ne (by omega))
            have hKW := hKw2.trans hKs (fun i hi h => by unfold One at h; omega)
            have hXW : Blk W w.heap.size 24 #[.int .i64 0, .int .i64 0, .slice none 0 0] := (((unhide HX).drew).kept (unhide HKJ) (one_ne (by omega))).kept hKs (one_ne (by omega))
            have hRx : Rd W (fun i => w.heap.size < i ∧ i ≠ w1.heap.size) kx nx Ax lx X'.r := ((unhide HRt).kept (((Kept.refl (One p) wt).drew).trans (unhide HKJ) (fun _ _ h => h)) (fun i _ hi => one_ne (by omega))).kept hKs (fun i _ hi => one_ne (by omega))
            have hRy : Rd W (fun i => w.heap.size < i ∧ i ≠ w1.heap.size) ky ny Ay ly Y.r := ((unhide HRy).mono (fun i _ hi => by simp at hi; omega)).kept hKs (fun i _ hi => one_ne (by omega))
            have hRW : Rd W (fun i => w.heap.size < i ∧ i ≠ w1.heap.size) o.code 0 (some ⟨w2.heap.size, 0, none⟩) 2 (E.bin o X' Y).r :=
              ⟨rfl, rfl, rfl, w2.heap.size, 0, kx, nx, Ax, lx, cx, ky, ny, Ay, ly, cy, rfl, by omega, by rw [hNW.cell]; rfl, by rw [hNW.cell]; rfl, by rw [hNW.cell]; rfl, hRx, by rw [hNW.cell]; rfl, by rw [hNW.cell]; rfl, by rw [hNW.cell]; rfl, hRy⟩
            have hsW := hKW.size
            have hsW2 := hKs.size
            have HPW := hide hPW
            have HKW := hide hKW
            have HXW := hide hXW
            have HYW := hide hYW
            have HRW := hide hRW
            clear hKs hNW hPW hKW hRx hRy hRW hKw2 d0 d1 d2 g0 g1 g2 y0 y1 y2
            rcases unhide HTail with ⟨h4, hT, ha2⟩ | ⟨h4, k2, hk2, hst⟩
            · have HT := hide hT
              have HA := hide ha2
              have d4 : ((n : Int) == 4) = true := by rw [beq_iff_eq]; omega
              have y0 : W.cell? ⟨w1.heap.size, 0, none⟩ = some (.int .i64 o.code) := by rw [hYW.cell]; rfl
              have y1 : W.cell? ⟨w1.heap.size, 1, none⟩ = some (.int .i64 0) := by rw [hYW.cell]; rfl
              have y2 : W.cell? ⟨w1.heap.size, 2, none⟩ = some (.slice (some ⟨w2.heap.size, 0, none⟩) 2 2) := by rw [hYW.cell]; rfl
              have x0 : W.cell? ⟨w.heap.size, 0, none⟩ = some (.int .i64 0) := by rw [hXW.cell]; rfl
              have x1 : W.cell? ⟨w.heap.size, 1, none⟩ = some (.int .i64 0) := by rw [hXW.cell]; rfl
              have x2 : W.cell? ⟨w.heap.size, 2, none⟩ = some (.slice none 0 0) := by rw [hXW.cell]; rfl
              have f0 : W.frozen? ⟨w.heap.size, 0, none⟩ = false := hXW.frozen 0
              have f1 : W.frozen? ⟨w.heap.size, 1, none⟩ = false := hXW.frozen 1
              have f2 : W.frozen? ⟨w.heap.size, 2, none⟩ = false := hXW.frozen 2
              clear hT ha2 h4 hXW hYW
              go_wp2_with fail
              refine bodyPost_ret (v := .agg #[.int .i64 o.code, .int .i64 0, .slice (some ⟨w2.heap.size, 0, none⟩) 2 2]) (by simp [results, Tryd.results67, go_sem, x0, x1, x2]) rfl ?_
              rw [unhide HT, unhide HA]
              refine ⟨o.code, 0, some ⟨w2.heap.size, 0, none⟩, 2, 2, rfl, ((unhide HRW).kept (((((Kept.refl (One w.heap.size) W).one _ _).one _ _).one _ _)) (fun i _ hi => one_ne (by omega))).mono (fun i _ hi => by omega), ?_, (((unhide HKW).new (by omega) _ _).new (by omega) _ _).new (by omega) _ _⟩
              exact (((unhide HPW).far (by simp; omega) _).far (by simp; omega) _).far (by simp; omega) _
            · have d4 : ((n : Int) == 4) = false := by rw [beq_eq_false_iff_ne]; omega
              have HST := hide hst
              clear h4 hst hXW hYW
              go_wp2_with fail
              go_roundg k2
              case measure => exact hk2
              case rel => exact ⟨.bin o X' Y, aY, o.code, 0, some ⟨w2.heap.size, 0, none⟩, 2, 2, unhide HST, unhide HPW, unhide HKW, by omega, unhide HXW, unhide HYW, unhide HRW⟩
        · have HTS := hide hts
          clear hts
          go_wp2_with (go_at_call 73; refine (take_no p S aq op _ sj (unhide HPq) haq hS (unhide HTS)).mono ?_; rintro e wt ⟨rfl, hPt, hKt⟩; have HPt := hide hPt; have HKt := hide hKt; clear hPt hKt)
          go_roundg (gk - 1)
          case measure => have h1 := unhide HJK; have h2 := unhide HJL; omega
          case rel =>
            have hl3 := syms_len n
            have hj3 := unhide HJL
            have hske : sk S (sk S aq) = sk S a' := (sk_sk S aq).trans (unhide HSKA)
            refine ⟨j + 1, sk S aq, rfl, congrArg (Value.int .i64) (by rw [wrap_in _ (by omega)]; omega), by have h2 := unhide HJL; omega, by have h1 := unhide HJK; have h2 := unhide HJL; omega, ?_, sk_le haq, hske, fun _ => unhide HSKA, unhide HPt, (unhide HKq).trans (unhide HKt) (fun _ _ h => h)⟩
            intro i s hi his
            by_cases hij : i = j
            · subst hij
              have h1 : s = sj := Option.some.inj (his.symm.trans (unhide HSJ))
              rw [h1, ← tk_eq (unhide HSKA)]
              exact unhide HTS
            · exact unhide HNO i s (by omega) his
      · have dj : decide ((j : Int) < ((symsOf n).length : Int)) = false := by simp; omega
        have dj2 : decide (j < (symsOf n).length) = false := by simp; omega
        have hX : Blk wr w.heap.size 24 #[.int .i64 0, .int .i64 0, .slice none 0 0] := (unhide HXr).kept (unhide HKq) (one_ne (by omega))
        have hY : Blk wr w1.heap.size 24 #[.int .i64 kx, .int .i64 nx, .slice Ax lx cx] := (unhide HYr).kept (unhide HKq) (one_ne (by omega))
        have f0 : wr.frozen? ⟨w.heap.size, 0, none⟩ = false := hX.frozen 0
        have f1 : wr.frozen? ⟨w.heap.size, 1, none⟩ = false := hX.frozen 1
        have f2 : wr.frozen? ⟨w.heap.size, 2, none⟩ = false := hX.frozen 2
        have x0 : wr.cell? ⟨w.heap.size, 0, none⟩ = some (.int .i64 0) := by rw [hX.cell]; rfl
        have x1 : wr.cell? ⟨w.heap.size, 1, none⟩ = some (.int .i64 0) := by rw [hX.cell]; rfl
        have x2 : wr.cell? ⟨w.heap.size, 2, none⟩ = some (.slice none 0 0) := by rw [hX.cell]; rfl
        have y0 : wr.cell? ⟨w1.heap.size, 0, none⟩ = some (.int .i64 kx) := by rw [hY.cell]; rfl
        have y1 : wr.cell? ⟨w1.heap.size, 1, none⟩ = some (.int .i64 nx) := by rw [hY.cell]; rfl
        have y2 : wr.cell? ⟨w1.heap.size, 2, none⟩ = some (.slice Ax lx cx) := by rw [hY.cell]; rfl
        clear hX hY
        have hjn : j = (symsOf n).length := by omega
        have HJN := hide hjn
        clear hjn
        go_wp2_with fail
        refine bodyPost_ret (v := .agg #[.int .i64 kx, .int .i64 nx, .slice Ax lx cx]) (by simp [results, Tryd.results67, go_sem, x0, x1, x2]) rfl ?_
        have hjn := unhide HJN
        have hend : X' = T ∧ sk S a' = a2 := by
          have hso := unhide HSt
          have hnn := unhide HNO
          cases hso with
          | stop _ _ h ha => exact ⟨rfl, rfl⟩
          | four _ Y o _ _ h4 ho ht ha h =>
            obtain ⟨i, h1, h2⟩ := sym_in o
            rw [ho] at h1 h2
            exact absurd ht (hnn i o.sym (by omega) h2)
          | step _ Y _ o _ _ _ _ h4 ho ht ha h r =>
            obtain ⟨i, h1, h2⟩ := sym_in o
            rw [ho] at h1 h2
            exact absurd ht (hnn i o.sym (by omega) h2)
        have hsp := syms_pos n hn1 hn6 hn3
        have hqa := unhide HPOS (by omega)
        have hPf := unhide HPq
        rw [← hend.1, ← hend.2, ← hqa]
        refine ⟨kx, nx, Ax, lx, cx, rfl, (((unhide HRr).kept (unhide HKq) (fun i _ hi => one_ne (by omega))).kept (((((Kept.refl (One w.heap.size) wr).one _ _).one _ _).one _ _)) (fun i _ hi => one_ne (by omega))).mono (fun i _ hi => by omega), ?_, ((((unhide HKr).trans (unhide HKq) (fun _ _ h => h)).new (by omega) _ _).new (by omega) _ _).new (by omega) _ _⟩
        exact ((hPf.far (by simp; omega) _).far (by simp; omega) _).far (by simp; omega) _
end Go.Proofs.YtmjmcjcckncplaaDoor
