/- one (function 53) at the line of the expression. -/
import Derived.Test.YtmjmcjcckncplaaDoorOne
namespace Go.Proofs.YtmjmcjcckncplaaDoor
open Go.RowKit Go.BigFrame

def leapWord : List UInt8 := [108, 101, 97, 112]
def leapLine (t : E) : List UInt8 := leapWord ++ (32 :: wr t)
theorem nt_leap (x : List UInt8) : nt (108 :: 101 :: 97 :: 112 :: 32 :: x) = [108, 101, 97, 112] := by
  simp [nt, tok, tokLen, isL]

/-- What the line leaves: the expression stands in the rule. -/
def LeapLeft (g : Nat) (w : World) (nm : ByteArray) (E0 C : Int) (M : Value) (t : E) (w' : World) : Prop :=
  ∃ k n A l c, Blk w' g 54 #[.string nm, .int .i64 E0, .int .i64 C, .int .i64 k, .int .i64 n, .slice A l c, M] ∧ Rd w' (fun i => w.heap.size ≤ i) k n A l t.r ∧ Kept (One g) w w'

/-- What is read behind the word. -/
theorem leap_reads (GB : Nat) (t : E) (hN : NumOk t) (ht : t.ht ≤ 12) (hl : (wr t).length ≤ 3000) :
    tk ⟨(leapLine t).toArray⟩ 0 = leapWord ∧ sk ⟨(leapLine t).toArray⟩ 0 = 0 ∧ ∃ a', LOK GB ⟨(leapLine t).toArray⟩ 1 0 4 t a' ∧ sk ⟨(leapLine t).toArray⟩ a' = (leapLine t).length := by
  obtain ⟨c, r, hwr, hc, _⟩ := wr_head t hN
  have hL : (⟨(leapLine t).toArray⟩ : ByteArray).data.toList = leapLine t := by simp
  have hsz : (⟨(leapLine t).toArray⟩ : ByteArray).size = (leapLine t).length := by show (leapLine t).toArray.size = _; simp
  have hll : (leapLine t).length = 5 + (wr t).length := by simp [leapLine, leapWord]; omega
  have hd0 : (⟨(leapLine t).toArray⟩ : ByteArray).data.toList.drop 0 = 108 :: 101 :: 97 :: 112 :: 32 :: wr t := by rw [hL]; rfl
  have hd4 : (⟨(leapLine t).toArray⟩ : ByteArray).data.toList.drop 4 = 32 :: c :: r := by rw [hL, ← hwr]; rfl
  have hd5 : (⟨(leapLine t).toArray⟩ : ByteArray).data.toList.drop 5 = wr t ++ [] := by rw [hL, List.append_nil]; rfl
  refine ⟨by rw [tk_nt, hd0]; exact nt_leap _, sk_self hd0 (by decide), ?_⟩
  obtain ⟨a', h1, h2⟩ := (reads (GB := GB) (S := ⟨(leapLine t).toArray⟩) (by rw [hsz, hll]; omega) t).1 hN 1 (Nat.le_refl _) (lev_range t).1 5 0 [] hd5 (.inl rfl) (by omega) (by omega) 4 (by rw [hsz, hll]; omega) (sk_blank hd4 hc)
  refine ⟨a', h1, ?_⟩
  rw [h2, hll]
  show skipTo _ _ = _
  exact skipTo_end (by rw [hL, hll]; omega)

set_option maxRecDepth 100000 in
set_option maxHeartbeats 4000000 in
theorem one_leap (t : E) (g GB : Nat) (E0 C k0 n0 : Int) (A0 : Option Addr) (l0 c0 : Nat) (M : Value) (nm : ByteArray) (w : World) (hT : Blk w g 54 #[.string nm, .int .i64 E0, .int .i64 C, .int .i64 k0, .int .i64 n0, .slice A0 l0 c0, M])
    (hN : NumOk t) (ht : t.ht ≤ 12) (hl : (wr t).length ≤ 3000) (hG : Glob GB w) (hGB : GB ≤ g) :
    Calls Tryd.prog 53 #[.pointer (some ⟨g, 0, none⟩), .int .i64 3, .string ⟨(leapLine t).toArray⟩] w fun e w' => e = .returned (.int .i64 0) ∧ LeapLeft g w nm E0 C M t w' := by
  obtain ⟨hr1, hr2, a', hr3, hr4⟩ := leap_reads GB t hN ht hl
  have hsz : (⟨(leapLine t).toArray⟩ : ByteArray).size = (leapLine t).length := by show (leapLine t).toArray.size = _; simp
  have hll : (leapLine t).length = 5 + (wr t).length := by simp [leapLine, leapWord]; omega
  generalize hline : (⟨(leapLine t).toArray⟩ : ByteArray) = S at *
  have HSZ := hide (show S.size = 5 + (wr t).length by rw [hsz, hll])
  have HSL := hide (show S.size = (leapLine t).length from hsz)
  have hS : S.size ≤ 100000 := by omega
  have hS0 : 4 ≤ S.size := by omega
  have HR1 := hide hr1
  have HR2 := hide hr2
  have HR4 := hide hr4
  have HR3 := hide hr3.2
  have ha' := hr3.1
  have HG := hide hG
  clear hline hsz hll hr1 hr2 hr3 hr4 hG hN ht
  have hmf : ∀ (fn : Fn) (first cap : Array Value) (w : World), (Instr.makeFunc fn first cap).run Tryd.prog w = .ok (.func fn first cap) w := fun _ _ _ _ => rfl
  have HT := hide hT
  have hgw := hT.lt
  clear hT
  go_enter_defers Tryd.func53, Tryd.ntmps53
  go_wp2_with fail
  have HP0 := hide (Blk.at_ (w := w.alloc (.cells #[.int .i64 0] 47)) (t := 98) (cs := #[.string S, .int .i64 0, .int .i64 0]) (n := w.heap.size + 1) (by simp))
  have HE0 := hide ((Blk.new w 47 #[.int .i64 0]).alloc (.cells #[.string S, .int .i64 0, .int .i64 0] 98))
  have HT0 := hide (((unhide HT).alloc (.cells #[.int .i64 0] 47)).alloc (.cells #[.string S, .int .i64 0, .int .i64 0] 98))
  have HK0 := hide (((Kept.refl (One g) w).alloc (.cells #[.int .i64 0] 47)).alloc (.cells #[.string S, .int .i64 0, .int .i64 0] 98))
  generalize (w.alloc (.cells #[.int .i64 0] 47)).alloc (.cells #[.string S, .int .i64 0, .int .i64 0] 98) = W0 at HP0 HE0 HT0 HK0 ⊢
  have hG0 := (unhide HG).kept (unhide HK0) (by omega) (fun i hi => by unfold One at hi; omega)
  have HG0 := hide hG0
  have hG2 : GB ≤ w.heap.size + 1 := by omega
  clear hG0
  refine (need_yes (w.heap.size + 1) S 0 4 0 W0 [108, 101, 97, 112] (unhide HP0) (by omega) hS (unhide HR1) (by rw [show skipTo S.data.toList 0 = 0 from unhide HR2]; rfl)).mono ?_
  rintro e w1 ⟨rfl, hP1, hK1⟩
  have HP1 := hide hP1
  have HE1 := hide ((unhide HE0).kept hK1 (one_ne (by omega)))
  have HT1 := hide ((unhide HT0).kept hK1 (one_ne (by omega)))
  have HK1 := hide ((unhide HK0).trans hK1 (fun i hi h => by unfold One at h; omega))
  have HG1 := hide ((unhide HG0).one hK1 hG2 (unhide HP0).lt)
  have hs1 := hK1.size
  clear hP1 hK1
  go_wp2_with fail
  refine (unhide HR3 (w.heap.size + 1) w1 (unhide HP1) (unhide HG1) hG2).mono ?_
  rintro e w2 ⟨k, n, A, l, c, rfl, hRd, hP2, hK2⟩
  have HP2 := hide hP2
  have HE2 := hide ((unhide HE1).kept hK2 (one_ne (by omega)))
  have HT2 := hide ((unhide HT1).kept hK2 (one_ne (by omega)))
  have HK2 := hide ((unhide HK1).trans hK2 (fun i hi h => by unfold One at h; omega))
  have HRd := hide hRd
  have hs0 := (unhide HP0).lt
  have t3 : w2.cell? ⟨g, 3, none⟩ = some (.int .i64 k0) := by rw [(unhide HT2).cell]; rfl
  have tf3 : w2.frozen? ⟨g, 3, none⟩ = false := (unhide HT2).frozen 3
  have t4 : w2.cell? ⟨g, 4, none⟩ = some (.int .i64 n0) := by rw [(unhide HT2).cell]; rfl
  have tf4 : w2.frozen? ⟨g, 4, none⟩ = false := (unhide HT2).frozen 4
  have t5 : w2.cell? ⟨g, 5, none⟩ = some (.slice A0 l0 c0) := by rw [(unhide HT2).cell]; rfl
  have tf5 : w2.frozen? ⟨g, 5, none⟩ = false := (unhide HT2).frozen 5
  clear hP2 hK2 hRd
  go_wp2_with fail
  have HP3 := hide ((unhide HP2).far (p := ⟨g, 3, none⟩) (by simp; omega) (.int .i64 k))
  have HE3 := hide ((unhide HE2).far (p := ⟨g, 3, none⟩) (by simp; omega) (.int .i64 k))
  have HT3 := hide ((unhide HT2).set_ 3 (.int .i64 k))
  have HK3 := hide ((unhide HK2).one 3 (.int .i64 k))
  have HP4 := hide ((unhide HP3).far (p := ⟨g, 4, none⟩) (by simp; omega) (.int .i64 n))
  have HE4 := hide ((unhide HE3).far (p := ⟨g, 4, none⟩) (by simp; omega) (.int .i64 n))
  have HT4 := hide ((unhide HT3).set_ 4 (.int .i64 n))
  have HK4 := hide ((unhide HK3).one 4 (.int .i64 n))
  have HP5 := hide ((unhide HP4).far (p := ⟨g, 5, none⟩) (by simp; omega) (.slice A l c))
  have HE5 := hide ((unhide HE4).far (p := ⟨g, 5, none⟩) (by simp; omega) (.slice A l c))
  have HT5 := hide ((unhide HT4).set_ 5 (.slice A l c))
  have HK5 := hide ((unhide HK4).one 5 (.slice A l c))
  have HRe := hide ((unhide HRd).kept (((((Kept.refl (One g) w2).one 3 (.int .i64 k)).one 4 (.int .i64 n)).one 5 (.slice A l c))) (fun i _ hi => one_ne (by omega)))
  clear t3 tf3 t4 tf4 t5 tf5
  generalize ((w2.setCell ⟨g, 3, none⟩ (.int .i64 k)).setCell ⟨g, 4, none⟩ (.int .i64 n)).setCell ⟨g, 5, none⟩ (.slice A l c) = w3 at HP5 HE5 HT5 HK5 HRe ⊢
  refine (end_yes (w.heap.size + 1) S a' 0 w3 (unhide HP5) ha' hS (by rw [show skipTo S.data.toList a' = (leapLine t).length from unhide HR4, ← unhide HSL]; exact Nat.le_refl _)).mono ?_
  rintro e w9 ⟨rfl, hP9, hK9⟩
  have HP9 := hide hP9
  have HE9 := hide ((unhide HE5).kept hK9 (one_ne (by omega)))
  have HT9 := hide ((unhide HT5).kept hK9 (one_ne (by omega)))
  have HK9 := hide ((unhide HK5).trans hK9 (fun i hi h => by unfold One at h; omega))
  have x0 : w9.cell? ⟨w.heap.size, 0, none⟩ = some (.int .i64 0) := by rw [(unhide HE9).cell]; rfl
  have f0 : w9.frozen? ⟨w.heap.size, 0, none⟩ = false := (unhide HE9).frozen 0
  have hKK := hK9
  have hs9 := hK9.size
  clear hP9 hK9
  go_wp2_with fail
  refine leaves_cons (f := 63) (args := #[.pointer (some ⟨w.heap.size, 0, none⟩)]) (by simp) (by simp [go_sem]) ?_
  refine (catch_idle ⟨w.heap.size, 0, none⟩ _).mono ?_
  rintro e u' w'' ⟨rfl, rfl, rfl⟩
  have HE10 := hide ((unhide HE9).set_ 0 (.int .i64 0))
  have x1 : (w9.setCell ⟨w.heap.size, 0, none⟩ (.int .i64 0)).cell? ⟨w.heap.size, 0, none⟩ = some (.int .i64 0) := by rw [(unhide HE10).cell]; rfl
  have HF := hide (show LeapLeft g w nm E0 C M t (w9.setCell ⟨w.heap.size, 0, none⟩ (.int .i64 0)) from ⟨k, n, A, l, c, (unhide HT9).far (by simp; omega) _, (((unhide HRe).kept hKK (fun i _ hi => one_ne (by omega))).kept ((Kept.refl (One w.heap.size) w9).one 0 (.int .i64 0)) (fun i _ hi => one_ne (by omega))).mono (fun i _ hi => by omega), (unhide HK9).new (by omega) _ _⟩)
  clear hKK
  clear x0 f0
  generalize w9.setCell ⟨w.heap.size, 0, none⟩ (.int .i64 0) = WF at x1 HF HE10 ⊢
  simp [Leaves, settle, results, Tryd.results53, go_sem, x1]
  exact unhide HF

end Go.Proofs.YtmjmcjcckncplaaDoor
