/- (parser).level (function 67), level by level: each of its cases on what the calls in it leave. -/
import Derived.Test.YtmjmcjcckncplaaDoorTake
import Derived.Test.YtmjmcjcckncplaaDoorTV
namespace Go.Proofs.YtmjmcjcckncplaaDoor
open Go.RowKit Go.BigFrame

/-- What level leaves: the expression T has been read, the parser stands at 'at'. -/
def LevelPost (p : Nat) (S : ByteArray) (at_ : Nat) (op : Int) (T : E) (w : World) (e : Ending) (w' : World) : Prop :=
  ∃ k n A l c, e = .returned (.agg #[.int .i64 k, .int .i64 n, .slice A l c]) ∧ Rd w' (fun i => w.heap.size ≤ i) k n A l T.r ∧ PS w' p S at_ op ∧ Kept (One p) w w'

/-- Level n reads T between the two places. -/
def LOK (GB : Nat) (S : ByteArray) (n : Int) (op : Int) (at_ : Nat) (T : E) (at' : Nat) : Prop :=
  at' ≤ S.size ∧ ∀ p w, PS w p S at_ op → Glob GB w → GB ≤ p → Calls Tryd.prog 67 #[.pointer (some ⟨p, 0, none⟩), .int .i64 n] w (LevelPost p S at' op T w)

/-- The next word, and where it begins. -/
def tk (S : ByteArray) (n : Nat) : List UInt8 := tok (S.data.toList.drop (skipTo S.data.toList n))
def sk (S : ByteArray) (n : Nat) : Nat := skipTo S.data.toList n
theorem sk_le {S : ByteArray} {n : Nat} (h : n ≤ S.size) : sk S n ≤ S.size := by have := skipTo_le (l := S.data.toList) (n := n) (by simpa using h); simpa [sk] using this
theorem tk_sk (S : ByteArray) (n : Nat) : tk S (sk S n) = tk S n := by unfold tk sk; rw [skipTo_idem]
theorem sk_sk (S : ByteArray) (n : Nat) : sk S (sk S n) = sk S n := by unfold sk; rw [skipTo_idem]

theorem Glob.one {GB p : Nat} {w w' : World} (h : Glob GB w) (hk : Kept (One p) w w') (hp : GB ≤ p) (hpw : p < w.heap.size) : Glob GB w' :=
  h.kept hk (by omega) (fun i hi => by unfold One at hi; omega)

/-- An operand in a new block. -/
theorem rd_un {w w1 w2 W : World} {k1 n1 : Int} {A1 : Option Addr} {l1 c1 : Nat} {t : R} (hlt : w.heap.size + 1 ≤ w1.heap.size) (h12 : w1.heap.size ≤ w2.heap.size)
    (hR : Rd w2 (fun i => w1.heap.size ≤ i) k1 n1 A1 l1 t) (hK : Kept (One w.heap.size) w2 W) (hB : Blk W w2.heap.size 24 #[.int .i64 k1, .int .i64 n1, .slice A1 l1 c1]) (k : Int) :
    Rd W (fun i => w.heap.size ≤ i) k 0 (some ⟨w2.heap.size, 0, none⟩) 1 (.n1 k 0 t) :=
  ⟨rfl, rfl, rfl, w2.heap.size, 0, k1, n1, A1, l1, c1, rfl, by omega, by rw [hB.cell]; rfl, by rw [hB.cell]; rfl, by rw [hB.cell]; rfl,
    (hR.kept hK (fun i _ hi => one_ne (by omega))).mono (fun i _ hi => by omega)⟩

set_option maxRecDepth 100000 in
set_option maxHeartbeats 2000000 in
theorem lok_not (GB : Nat) (S : ByteArray) (op : Int) (n m at' : Nat) (T : E) (hn : n ≤ S.size) (hS : S.size ≤ 100000) (ht : tk S n = [110, 111, 116]) (hm : sk S n + 3 = m)
    (h : LOK GB S 3 op m T at') : LOK GB S 3 op n (.not T) at' := by
  refine ⟨h.1, fun p w hP hG hp => ?_⟩
  have HP := hide hP
  have HG := hide hG
  have HL := hide h.2
  have hpw : p < w.heap.size := hP.lt
  have HT := hide ht
  have HM := hide hm
  clear hP hG ht hm h
  go_enter Tryd.func67, Tryd.ntmps67
  go_wp2_with fail
  have HP0 := hide ((unhide HP).alloc (.cells #[.int .i64 0, .int .i64 0, .slice none 0 0] 24))
  refine (take_yes p S n m op _ [110, 111, 116] (unhide HP0) hn hS (unhide HT) (unhide HM)).mono ?_
  rintro e w1 ⟨rfl, hP1, hK1⟩
  have hX : Blk w1 w.heap.size 24 #[.int .i64 0, .int .i64 0, .slice none 0 0] := (Blk.new w 24 _).kept hK1 (one_ne (by omega))
  have hK : Kept (One p) w w1 := ((Kept.refl (One p) w).alloc _).trans hK1 (fun _ _ h => h)
  have hsz := hK1.size
  simp at hsz
  have HX := hide hX
  have HP1 := hide hP1
  have HK := hide hK
  have HG1 := hide ((unhide HG).one hK hp hpw)
  clear hX hP1 hK1 hK
  go_wp2_with fail
  refine (unhide HL p w1 (unhide HP1) (unhide HG1) hp).mono ?_
  rintro e w2 ⟨k1, n1, A1, l1, c1, rfl, hR, hP2, hK2⟩
  have hsz2 := hK2.size
  have hlt2 : w.heap.size < w2.heap.size := by omega
  have hX : Blk w2 w.heap.size 24 #[.int .i64 0, .int .i64 0, .slice none 0 0] := (unhide HX).kept hK2 (one_ne (by omega))
  have f0 : w2.frozen? ⟨w.heap.size, 0, none⟩ = false := hX.frozen 0
  have f1 : w2.frozen? ⟨w.heap.size, 1, none⟩ = false := hX.frozen 1
  have f2 : w2.frozen? ⟨w.heap.size, 2, none⟩ = false := hX.frozen 2
  have x0 : w2.cell? ⟨w.heap.size, 0, none⟩ = some (.int .i64 0) := by rw [hX.cell]; rfl
  have x1 : w2.cell? ⟨w.heap.size, 1, none⟩ = some (.int .i64 0) := by rw [hX.cell]; rfl
  have x2 : w2.cell? ⟨w.heap.size, 2, none⟩ = some (.slice none 0 0) := by rw [hX.cell]; rfl
  have HX2 := hide hX
  have HR := hide hR
  have HP2 := hide hP2
  have HK2 := hide ((unhide HK).trans hK2 (fun _ _ h => h))
  clear hX hR hP2 hK2
  go_wp2_with fail
  refine bodyPost_ret (v := .agg #[.int .i64 11, .int .i64 0, .slice (some ⟨w2.heap.size, 0, none⟩) 1 1]) (by simp [results, Tryd.results67, go_sem, x0, x1, x2, hlt2]) rfl ?_
  have hN : ∀ W : World, W.heap.size = w2.heap.size → Blk (W.alloc (.cells #[.int .i64 k1, .int .i64 n1, .slice A1 l1 c1] 24)) w2.heap.size 24 #[.int .i64 k1, .int .i64 n1, .slice A1 l1 c1] := fun W h => Blk.at_ h.symm
  refine ⟨11, 0, some ⟨w2.heap.size, 0, none⟩, 1, 1, rfl, rd_un hsz hsz2 (unhide HR) (((((Kept.refl _ w2).one _ _).one _ _).one _ _).alloc _) (hN _ (by simp)) 11, ?_, ((((unhide HK2).new (by omega) _ _).new (by omega) _ _).new (by omega) _ _).alloc _⟩
  exact ((((unhide HP2).far (by simp; omega) _).far (by simp; omega) _).far (by simp; omega) _).alloc _

set_option maxRecDepth 100000 in
set_option maxHeartbeats 2000000 in
theorem lok_not_no (GB : Nat) (S : ByteArray) (op : Int) (n at' : Nat) (T : E) (hn : n ≤ S.size) (hS : S.size ≤ 100000) (ht : tk S n ≠ [110, 111, 116])
    (h : LOK GB S 4 op (sk S n) T at') : LOK GB S 3 op n T at' := by
  refine ⟨h.1, fun p w hP hG hp => ?_⟩
  have HP := hide hP
  have HG := hide hG
  have HL := hide h.2
  have hpw : p < w.heap.size := hP.lt
  have HT := hide ht
  clear hP hG ht h
  go_enter Tryd.func67, Tryd.ntmps67
  go_wp2_with fail
  have HP0 := hide ((unhide HP).alloc (.cells #[.int .i64 0, .int .i64 0, .slice none 0 0] 24))
  refine (take_no p S n op _ [110, 111, 116] (unhide HP0) hn hS (unhide HT)).mono ?_
  rintro e w1 ⟨rfl, hP1, hK1⟩
  have hX : Blk w1 w.heap.size 24 #[.int .i64 0, .int .i64 0, .slice none 0 0] := (Blk.new w 24 _).kept hK1 (one_ne (by omega))
  have hK : Kept (One p) w w1 := ((Kept.refl (One p) w).alloc _).trans hK1 (fun _ _ h => h)
  have hsz := hK1.size
  simp at hsz
  have HX := hide hX
  have HP1 := hide hP1
  have HK := hide hK
  have HG1 := hide ((unhide HG).one hK hp hpw)
  clear hX hP1 hK1 hK
  go_wp2_with fail
  refine (unhide HL p w1 (unhide HP1) (unhide HG1) hp).mono ?_
  rintro e w2 ⟨k1, n1, A1, l1, c1, rfl, hR, hP2, hK2⟩
  have hsz2 := hK2.size
  have hlt2 : w.heap.size < w2.heap.size := by omega
  have hX : Blk w2 w.heap.size 24 #[.int .i64 0, .int .i64 0, .slice none 0 0] := (unhide HX).kept hK2 (one_ne (by omega))
  have f0 : w2.frozen? ⟨w.heap.size, 0, none⟩ = false := hX.frozen 0
  have f1 : w2.frozen? ⟨w.heap.size, 1, none⟩ = false := hX.frozen 1
  have f2 : w2.frozen? ⟨w.heap.size, 2, none⟩ = false := hX.frozen 2
  have x0 : w2.cell? ⟨w.heap.size, 0, none⟩ = some (.int .i64 0) := by rw [hX.cell]; rfl
  have x1 : w2.cell? ⟨w.heap.size, 1, none⟩ = some (.int .i64 0) := by rw [hX.cell]; rfl
  have x2 : w2.cell? ⟨w.heap.size, 2, none⟩ = some (.slice none 0 0) := by rw [hX.cell]; rfl
  have HX2 := hide hX
  have HR := hide hR
  have HP2 := hide hP2
  have HK2 := hide ((unhide HK).trans hK2 (fun _ _ h => h))
  clear hX hR hP2 hK2
  go_wp2_with fail
  refine bodyPost_ret (v := .agg #[.int .i64 k1, .int .i64 n1, .slice A1 l1 c1]) (by simp [results, Tryd.results67, go_sem, x0, x1, x2]) rfl ?_
  refine ⟨k1, n1, A1, l1, c1, rfl, ((unhide HR).kept (((((Kept.refl (One w.heap.size) w2).one _ _).one _ _).one _ _)) (fun i _ hi => one_ne (by omega))).mono (fun i _ hi => by omega), ?_, (((unhide HK2).new (by omega) _ _).new (by omega) _ _).new (by omega) _ _⟩
  exact (((unhide HP2).far (by simp; omega) _).far (by simp; omega) _).far (by simp; omega) _

set_option maxRecDepth 100000 in
set_option maxHeartbeats 2000000 in
theorem lok_neg (GB : Nat) (S : ByteArray) (op : Int) (n m at' : Nat) (T : E) (hn : n ≤ S.size) (hS : S.size ≤ 100000) (ht : tk S n = [45]) (hm : sk S n + 1 = m)
    (h : LOK GB S 7 op m T at') : LOK GB S 7 op n (.neg T) at' := by
  refine ⟨h.1, fun p w hP hG hp => ?_⟩
  have HP := hide hP
  have HG := hide hG
  have HL := hide h.2
  have hpw : p < w.heap.size := hP.lt
  have HT := hide ht
  have HM := hide hm
  clear hP hG ht hm h
  go_enter Tryd.func67, Tryd.ntmps67
  go_wp2_with fail
  have HP0 := hide ((unhide HP).alloc (.cells #[.int .i64 0, .int .i64 0, .slice none 0 0] 24))
  refine (take_yes p S n m op _ [45] (unhide HP0) hn hS (unhide HT) (unhide HM)).mono ?_
  rintro e w1 ⟨rfl, hP1, hK1⟩
  have hX : Blk w1 w.heap.size 24 #[.int .i64 0, .int .i64 0, .slice none 0 0] := (Blk.new w 24 _).kept hK1 (one_ne (by omega))
  have hK : Kept (One p) w w1 := ((Kept.refl (One p) w).alloc _).trans hK1 (fun _ _ h => h)
  have hsz := hK1.size
  simp at hsz
  have HX := hide hX
  have HP1 := hide hP1
  have HK := hide hK
  have HG1 := hide ((unhide HG).one hK hp hpw)
  clear hX hP1 hK1 hK
  go_wp2_with fail
  refine (unhide HL p w1 (unhide HP1) (unhide HG1) hp).mono ?_
  rintro e w2 ⟨k1, n1, A1, l1, c1, rfl, hR, hP2, hK2⟩
  have hsz2 := hK2.size
  have hlt2 : w.heap.size < w2.heap.size := by omega
  have hX : Blk w2 w.heap.size 24 #[.int .i64 0, .int .i64 0, .slice none 0 0] := (unhide HX).kept hK2 (one_ne (by omega))
  have f0 : w2.frozen? ⟨w.heap.size, 0, none⟩ = false := hX.frozen 0
  have f1 : w2.frozen? ⟨w.heap.size, 1, none⟩ = false := hX.frozen 1
  have f2 : w2.frozen? ⟨w.heap.size, 2, none⟩ = false := hX.frozen 2
  have x0 : w2.cell? ⟨w.heap.size, 0, none⟩ = some (.int .i64 0) := by rw [hX.cell]; rfl
  have x1 : w2.cell? ⟨w.heap.size, 1, none⟩ = some (.int .i64 0) := by rw [hX.cell]; rfl
  have x2 : w2.cell? ⟨w.heap.size, 2, none⟩ = some (.slice none 0 0) := by rw [hX.cell]; rfl
  have HX2 := hide hX
  have HR := hide hR
  have HP2 := hide hP2
  have HK2 := hide ((unhide HK).trans hK2 (fun _ _ h => h))
  clear hX hR hP2 hK2
  go_wp2_with fail
  refine bodyPost_ret (v := .agg #[.int .i64 3, .int .i64 0, .slice (some ⟨w2.heap.size, 0, none⟩) 1 1]) (by simp [results, Tryd.results67, go_sem, x0, x1, x2, hlt2]) rfl ?_
  have hN : ∀ W : World, W.heap.size = w2.heap.size → Blk (W.alloc (.cells #[.int .i64 k1, .int .i64 n1, .slice A1 l1 c1] 24)) w2.heap.size 24 #[.int .i64 k1, .int .i64 n1, .slice A1 l1 c1] := fun W h => Blk.at_ h.symm
  refine ⟨3, 0, some ⟨w2.heap.size, 0, none⟩, 1, 1, rfl, rd_un hsz hsz2 (unhide HR) (((((Kept.refl _ w2).one _ _).one _ _).one _ _).alloc _) (hN _ (by simp)) 3, ?_, ((((unhide HK2).new (by omega) _ _).new (by omega) _ _).new (by omega) _ _).alloc _⟩
  exact ((((unhide HP2).far (by simp; omega) _).far (by simp; omega) _).far (by simp; omega) _).alloc _

set_option maxRecDepth 100000 in
set_option maxHeartbeats 2000000 in
theorem lok_neg_no (GB : Nat) (S : ByteArray) (op : Int) (n at' : Nat) (T : E) (hn : n ≤ S.size) (hS : S.size ≤ 100000) (ht : tk S n ≠ [45])
    (h : LOK GB S 8 op (sk S n) T at') : LOK GB S 7 op n T at' := by
  refine ⟨h.1, fun p w hP hG hp => ?_⟩
  have HP := hide hP
  have HG := hide hG
  have HL := hide h.2
  have hpw : p < w.heap.size := hP.lt
  have HT := hide ht
  clear hP hG ht h
  go_enter Tryd.func67, Tryd.ntmps67
  go_wp2_with fail
  have HP0 := hide ((unhide HP).alloc (.cells #[.int .i64 0, .int .i64 0, .slice none 0 0] 24))
  refine (take_no p S n op _ [45] (unhide HP0) hn hS (unhide HT)).mono ?_
  rintro e w1 ⟨rfl, hP1, hK1⟩
  have hX : Blk w1 w.heap.size 24 #[.int .i64 0, .int .i64 0, .slice none 0 0] := (Blk.new w 24 _).kept hK1 (one_ne (by omega))
  have hK : Kept (One p) w w1 := ((Kept.refl (One p) w).alloc _).trans hK1 (fun _ _ h => h)
  have hsz := hK1.size
  simp at hsz
  have HX := hide hX
  have HP1 := hide hP1
  have HK := hide hK
  have HG1 := hide ((unhide HG).one hK hp hpw)
  clear hX hP1 hK1 hK
  go_wp2_with fail
  refine (unhide HL p w1 (unhide HP1) (unhide HG1) hp).mono ?_
  rintro e w2 ⟨k1, n1, A1, l1, c1, rfl, hR, hP2, hK2⟩
  have hsz2 := hK2.size
  have hlt2 : w.heap.size < w2.heap.size := by omega
  have hX : Blk w2 w.heap.size 24 #[.int .i64 0, .int .i64 0, .slice none 0 0] := (unhide HX).kept hK2 (one_ne (by omega))
  have f0 : w2.frozen? ⟨w.heap.size, 0, none⟩ = false := hX.frozen 0
  have f1 : w2.frozen? ⟨w.heap.size, 1, none⟩ = false := hX.frozen 1
  have f2 : w2.frozen? ⟨w.heap.size, 2, none⟩ = false := hX.frozen 2
  have x0 : w2.cell? ⟨w.heap.size, 0, none⟩ = some (.int .i64 0) := by rw [hX.cell]; rfl
  have x1 : w2.cell? ⟨w.heap.size, 1, none⟩ = some (.int .i64 0) := by rw [hX.cell]; rfl
  have x2 : w2.cell? ⟨w.heap.size, 2, none⟩ = some (.slice none 0 0) := by rw [hX.cell]; rfl
  have HX2 := hide hX
  have HR := hide hR
  have HP2 := hide hP2
  have HK2 := hide ((unhide HK).trans hK2 (fun _ _ h => h))
  clear hX hR hP2 hK2
  go_wp2_with fail
  refine bodyPost_ret (v := .agg #[.int .i64 k1, .int .i64 n1, .slice A1 l1 c1]) (by simp [results, Tryd.results67, go_sem, x0, x1, x2]) rfl ?_
  refine ⟨k1, n1, A1, l1, c1, rfl, ((unhide HR).kept (((((Kept.refl (One w.heap.size) w2).one _ _).one _ _).one _ _)) (fun i _ hi => one_ne (by omega))).mono (fun i _ hi => by omega), ?_, (((unhide HK2).new (by omega) _ _).new (by omega) _ _).new (by omega) _ _⟩
  exact (((unhide HP2).far (by simp; omega) _).far (by simp; omega) _).far (by simp; omega) _

set_option maxRecDepth 100000 in
set_option maxHeartbeats 2000000 in
theorem lok_year (GB : Nat) (S : ByteArray) (op : Int) (n m : Nat) (hn : n ≤ S.size) (hS : S.size ≤ 100000) (ht : tk S n = [121]) (hm : sk S n + 1 = m) :
    LOK GB S 8 op n .year m := by
  have hml : m ≤ S.size := got_le hn ht hm
  refine ⟨hml, fun p w hP hG hp => ?_⟩
  have HP := hide hP
  have HG := hide hG
  have hpw : p < w.heap.size := hP.lt
  have HT := hide (show tok (S.data.toList.drop (sk S n)) = [121] from ht)
  have HM := hide hm
  clear hP hG ht hm
  go_enter Tryd.func67, Tryd.ntmps67
  go_wp2_with fail
  have HP0 := hide ((unhide HP).alloc (.cells #[.int .i64 0, .int .i64 0, .slice none 0 0] 24))
  refine (word_any p S n op _ (unhide HP0) hn hS).mono ?_
  rintro e w1 ⟨rfl, hP1, hK1⟩
  rw [show skipTo S.data.toList n = sk S n from rfl] at hP1 ⊢
  have p1 : w1.cell? ⟨p, 1, none⟩ = some (.int .i64 (sk S n)) := by rw [Blk.cell hP1]; rfl
  have p1f : w1.frozen? ⟨p, 1, none⟩ = false := Blk.frozen hP1 1
  have hX : Blk w1 w.heap.size 24 #[.int .i64 0, .int .i64 0, .slice none 0 0] := (Blk.new w 24 _).kept hK1 (one_ne (by omega))
  have hK : Kept (One p) w w1 := ((Kept.refl (One p) w).alloc _).trans hK1 (fun _ _ h => h)
  have hsz := hK1.size
  simp at hsz
  have f0 : w1.frozen? ⟨w.heap.size, 0, none⟩ = false := hX.frozen 0
  have f1 : w1.frozen? ⟨w.heap.size, 1, none⟩ = false := hX.frozen 1
  have f2 : w1.frozen? ⟨w.heap.size, 2, none⟩ = false := hX.frozen 2
  have x0 : w1.cell? ⟨w.heap.size, 0, none⟩ = some (.int .i64 0) := by rw [hX.cell]; rfl
  have x1 : w1.cell? ⟨w.heap.size, 1, none⟩ = some (.int .i64 0) := by rw [hX.cell]; rfl
  have x2 : w1.cell? ⟨w.heap.size, 2, none⟩ = some (.slice none 0 0) := by rw [hX.cell]; rfl
  have HX := hide hX
  have HP1 := hide hP1
  have HK := hide hK
  have HG1 := hide ((unhide HG).one hK hp hpw)
  clear hX hP1 hK1 hK
  rw [unhide HT]
  have hpn : ¬ p = w.heap.size := by omega
  have hpn' : ¬ w.heap.size = p := by omega
  go_wp2_with fail
  rw [show wrap64 ((sk S n : Int) + 1) = (m : Int) by have := unhide HM; rw [wrap_in _ (by omega)]; omega]
  refine bodyPost_ret (v := .agg #[.int .i64 2, .int .i64 0, .slice none 0 0]) (by simp [results, Tryd.results67, go_sem, x0, x1, x2]) rfl ?_
  refine ⟨2, 0, none, 0, 0, rfl, ⟨rfl, rfl, rfl⟩, ?_, ((((unhide HK).one _ _).new (by omega) _ _).new (by omega) _ _).new (by omega) _ _⟩
  exact ((((unhide HP1).set_ 1 _).far (by simp; omega) _).far (by simp; omega) _).far (by simp; omega) _

set_option maxRecDepth 100000 in
set_option maxHeartbeats 2000000 in
theorem lok_num (GB : Nat) (S : ByteArray) (op : Int) (n m : Nat) (c : UInt8) (r : List UInt8) (v : Int) (hn : n ≤ S.size) (hS : S.size ≤ 100000) (ht : tk S n = c :: r) (hm : sk S n + (c :: r).length = m)
    (hc : isD c = true) (hl : r.length ≤ 9) (hv : Lib.atoiAll (c :: r) = .ok v) : LOK GB S 8 op n (.num v) m := by
  have hml : m ≤ S.size := got_le hn ht hm
  refine ⟨hml, fun p w hP hG hp => ?_⟩
  have HP := hide hP
  have HG := hide hG
  have hpw : p < w.heap.size := hP.lt
  have hsl := sk_le hn
  have HT := hide (show tok (S.data.toList.drop (sk S n)) = c :: r from ht)
  have HM := hide hm
  have HV := hide hv
  have HC := hide hc
  have d1 : (c :: r == [121]) = false := by
    rw [beq_eq_false_iff_ne]; intro h; injection h with h1 h2; rw [h1] at hc; exact absurd hc (by decide)
  have d2 : (c :: r == [40]) = false := by
    rw [beq_eq_false_iff_ne]; intro h; injection h with h1 h2; rw [h1] at hc; exact absurd hc (by decide)
  clear hP hG ht hm hv hc
  go_enter Tryd.func67, Tryd.ntmps67
  go_wp2_with fail
  have HP0 := hide ((unhide HP).alloc (.cells #[.int .i64 0, .int .i64 0, .slice none 0 0] 24))
  refine (word_any p S n op _ (unhide HP0) hn hS).mono ?_
  rintro e w1 ⟨rfl, hP1, hK1⟩
  rw [show skipTo S.data.toList n = sk S n from rfl] at hP1 ⊢
  have hX : Blk w1 w.heap.size 24 #[.int .i64 0, .int .i64 0, .slice none 0 0] := (Blk.new w 24 _).kept hK1 (one_ne (by omega))
  have hK : Kept (One p) w w1 := ((Kept.refl (One p) w).alloc _).trans hK1 (fun _ _ h => h)
  have hsz := hK1.size
  simp at hsz
  have HX := hide hX
  have HP1 := hide hP1
  have HK := hide hK
  have HG1 := hide ((unhide HG).one hK hp hpw)
  clear hX hP1 hK1 hK
  rw [unhide HT]
  generalize hlq : c :: r = l at *
  have HQ := hide hlq
  clear hlq
  go_wp2_with fail
  obtain rfl := unhide HQ
  refine (number_any p S (sk S n) m op w1 c r v (unhide HP1) hsl hS ((tk_sk S n).trans (unhide HT)) (by rw [show skipTo S.data.toList (sk S n) = sk S n from sk_sk S n]; exact unhide HM) (unhide HC) hl (unhide HV)).mono ?_
  rintro e w2 ⟨rfl, hP2, hK2⟩
  have hsz2 := hK2.size
  have hX : Blk w2 w.heap.size 24 #[.int .i64 0, .int .i64 0, .slice none 0 0] := (unhide HX).kept hK2 (one_ne (by omega))
  have f0 : w2.frozen? ⟨w.heap.size, 0, none⟩ = false := hX.frozen 0
  have f1 : w2.frozen? ⟨w.heap.size, 1, none⟩ = false := hX.frozen 1
  have f2 : w2.frozen? ⟨w.heap.size, 2, none⟩ = false := hX.frozen 2
  have x0 : w2.cell? ⟨w.heap.size, 0, none⟩ = some (.int .i64 0) := by rw [hX.cell]; rfl
  have x1 : w2.cell? ⟨w.heap.size, 1, none⟩ = some (.int .i64 0) := by rw [hX.cell]; rfl
  have x2 : w2.cell? ⟨w.heap.size, 2, none⟩ = some (.slice none 0 0) := by rw [hX.cell]; rfl
  have HP2 := hide hP2
  have HK2 := hide ((unhide HK).trans hK2 (fun _ _ h => h))
  clear hX hP2 hK2
  go_wp2_with fail
  refine bodyPost_ret (v := .agg #[.int .i64 1, .int .i64 v, .slice none 0 0]) (by simp [results, Tryd.results67, go_sem, x0, x1, x2]) rfl ?_
  refine ⟨1, v, none, 0, 0, rfl, ⟨rfl, rfl, rfl⟩, ?_, (((unhide HK2).new (by omega) _ _).new (by omega) _ _).new (by omega) _ _⟩
  exact (((unhide HP2).far (by simp; omega) _).far (by simp; omega) _).far (by simp; omega) _

set_option maxRecDepth 100000 in
set_option maxHeartbeats 2000000 in
theorem lok_paren (GB : Nat) (S : ByteArray) (op : Int) (n m at1 at' : Nat) (T : E) (hn : n ≤ S.size) (hS : S.size ≤ 100000) (ht : tk S n = [40]) (hm : sk S n + 1 = m) (h0 : 0 ≤ op) (h12 : op + 1 ≤ 12)
    (h : LOK GB S 1 (op + 1) m T at1) (ht1 : tk S at1 = [41]) (hm1 : sk S at1 + 1 = at') : LOK GB S 8 op n T at' := by
  have hml : m ≤ S.size := got_le hn ht hm
  have hml1 : at' ≤ S.size := got_le h.1 ht1 hm1
  have ha1 := h.1
  refine ⟨hml1, fun p w hP hG hp => ?_⟩
  have HP := hide hP
  have HG := hide hG
  have HL := hide h.2
  have hpw : p < w.heap.size := hP.lt
  have hsl := sk_le hn
  have HT := hide (show tok (S.data.toList.drop (sk S n)) = [40] from ht)
  have HM := hide hm
  have HT1 := hide ht1
  have HM1 := hide hm1
  clear hP hG ht hm ht1 hm1 h
  go_enter Tryd.func67, Tryd.ntmps67
  go_wp2_with fail
  have HP0 := hide ((unhide HP).alloc (.cells #[.int .i64 0, .int .i64 0, .slice none 0 0] 24))
  refine (word_any p S n op _ (unhide HP0) hn hS).mono ?_
  rintro e w1 ⟨rfl, hP1, hK1⟩
  rw [show skipTo S.data.toList n = sk S n from rfl] at hP1 ⊢
  have p1 : w1.cell? ⟨p, 1, none⟩ = some (.int .i64 (sk S n)) := by rw [Blk.cell hP1]; rfl
  have p1f : w1.frozen? ⟨p, 1, none⟩ = false := Blk.frozen hP1 1
  have p2 : w1.cell? ⟨p, 2, none⟩ = some (.int .i64 (op)) := by rw [Blk.cell hP1]; rfl
  have p2f : w1.frozen? ⟨p, 2, none⟩ = false := Blk.frozen hP1 2
  have hX : Blk w1 w.heap.size 24 #[.int .i64 0, .int .i64 0, .slice none 0 0] := (Blk.new w 24 _).kept hK1 (one_ne (by omega))
  have hK : Kept (One p) w w1 := ((Kept.refl (One p) w).alloc _).trans hK1 (fun _ _ h => h)
  have hsz := hK1.size
  simp at hsz
  have HX := hide hX
  have HP1 := hide hP1
  have HK := hide hK
  have HG1 := hide ((unhide HG).one hK hp hpw)
  clear hX hP1 hK1 hK
  rw [unhide HT]
  have e1 : wrap64 (op + 1) = op + 1 := wrap_in _ (by omega)
  have e2 : ¬ 12 < op + 1 := by omega
  have e3 : ((sk S n : Int) + 1) = (m : Int) := by have := unhide HM; omega
  go_wp2_with fail
  have hKa : Kept (One p) w ((w1.setCell ⟨p, 2, none⟩ (.int .i64 (op + 1))).setCell ⟨p, 1, none⟩ (.int .i64 m)) := ((unhide HK).one _ _).one _ _
  refine (unhide HL p _ (((unhide HP1).set_ 2 _).set_ 1 _) ((unhide HG).one hKa hp hpw) hp).mono ?_
  rintro e w2 ⟨k1, n1, A1, l1, c1, rfl, hR, hP2, hK2⟩
  have hsz2 := hK2.size
  simp at hsz2
  have hlt2 : w.heap.size < w2.heap.size := by omega
  have hX : Blk w2 w.heap.size 24 #[.int .i64 0, .int .i64 0, .slice none 0 0] := (((unhide HX).far (by simp; omega) _).far (by simp; omega) _).kept hK2 (one_ne (by omega))
  have HX2 := hide hX
  have HR2 := hide (show Rd w2 (fun i => w1.heap.size ≤ i) k1 n1 A1 l1 T.r from hR.mono (fun i _ hi => by simpa using hi))
  have HP2 := hide hP2
  have HK2 := hide (hKa.trans hK2 (fun _ _ h => h))
  clear hX hR hP2 hK2 hKa p1 p2 p1f p2f
  go_wp2_with fail
  have hK3 : Kept (One p) w (w2.alloc (.cells #[.int .i64 k1, .int .i64 n1, .slice A1 l1 c1] 24)) := (unhide HK2).alloc _
  refine (need_yes p S at1 at' (op + 1) _ [41] ((unhide HP2).alloc _) ha1 hS (unhide HT1) (unhide HM1)).mono ?_
  rintro e w3 ⟨rfl, hP3, hK4⟩
  have hsz3 := hK4.size
  simp at hsz3
  have hlt3 : w.heap.size < w3.heap.size := by omega
  have hK5 : Kept (One p) w2 w3 := ((Kept.refl _ w2).alloc _).trans hK4 (fun _ _ h => h)
  have hX : Blk w3 w.heap.size 24 #[.int .i64 0, .int .i64 0, .slice none 0 0] := (unhide HX2).kept hK5 (one_ne (by omega))
  have hY : Blk w3 w2.heap.size 24 #[.int .i64 k1, .int .i64 n1, .slice A1 l1 c1] := (Blk.new w2 24 _).kept hK4 (one_ne (by omega))
  have y0 : w3.cell? ⟨w2.heap.size, 0, none⟩ = some (.int .i64 k1) := by rw [hY.cell]; rfl
  have y1 : w3.cell? ⟨w2.heap.size, 1, none⟩ = some (.int .i64 n1) := by rw [hY.cell]; rfl
  have y2 : w3.cell? ⟨w2.heap.size, 2, none⟩ = some (.slice A1 l1 c1) := by rw [hY.cell]; rfl
  have f0 : w3.frozen? ⟨w.heap.size, 0, none⟩ = false := hX.frozen 0
  have f1 : w3.frozen? ⟨w.heap.size, 1, none⟩ = false := hX.frozen 1
  have f2 : w3.frozen? ⟨w.heap.size, 2, none⟩ = false := hX.frozen 2
  have x0 : w3.cell? ⟨w.heap.size, 0, none⟩ = some (.int .i64 0) := by rw [hX.cell]; rfl
  have x1 : w3.cell? ⟨w.heap.size, 1, none⟩ = some (.int .i64 0) := by rw [hX.cell]; rfl
  have x2 : w3.cell? ⟨w.heap.size, 2, none⟩ = some (.slice none 0 0) := by rw [hX.cell]; rfl
  have p2 : w3.cell? ⟨p, 2, none⟩ = some (.int .i64 (op + 1)) := by rw [Blk.cell hP3]; rfl
  have p2f : w3.frozen? ⟨p, 2, none⟩ = false := Blk.frozen hP3 2
  have HP3 := hide hP3
  have HR3 := hide ((unhide HR2).kept hK5 (fun i _ hi => one_ne (by omega)))
  have HK5 := hide ((unhide HK2).trans hK5 (fun _ _ h => h))
  have e4 : wrap64 (op + 1 - 1) = op := by rw [wrap_in _ (by omega)]; omega
  have hpn : ¬ p = w2.heap.size := by omega
  have hpn2 : ¬ p = w.heap.size := by omega
  clear hX hY hP3 hK5 hK4 hK3
  go_wp2_with fail
  refine bodyPost_ret (v := .agg #[.int .i64 k1, .int .i64 n1, .slice A1 l1 c1]) (by simp [results, Tryd.results67, go_sem, x0, x1, x2]) rfl ?_
  refine ⟨k1, n1, A1, l1, c1, rfl, ?_, ?_, ((((unhide HK5).one _ _).new (by omega) _ _).new (by omega) _ _).new (by omega) _ _⟩
  · exact ((unhide HR3).kept (S := fun i => i = p ∨ i = w.heap.size) (((((Kept.refl _ w3).setCell (p := ⟨p, 2, none⟩) (fun _ => .inl rfl) _).setCell (p := ⟨w.heap.size, 0, none⟩) (fun _ => .inr rfl) _).setCell (p := ⟨w.heap.size, 1, none⟩) (fun _ => .inr rfl) _).setCell (p := ⟨w.heap.size, 2, none⟩) (fun _ => .inr rfl) _) (fun i _ hi => by omega)).mono (fun i _ hi => by omega)
  · exact ((((unhide HP3).set_ 2 _).far (by simp; omega) _).far (by simp; omega) _).far (by simp; omega) _
end Go.Proofs.YtmjmcjcckncplaaDoor
