/- one (function 53) at the line of the month. -/
import Derived.Test.YtmjmcjcckncplaaDoorOne
import Derived.Test.YtmjmcjcckncplaaDoorCopy
import Derived.Deep.RegionLaw
import Derived.Deep.RegionHeld3
import Derived.Deep.AppendLies
namespace Go.Proofs.YtmjmcjcckncplaaDoor
open Go.RowKit Go.BigFrame

theorem info51 : (Tryd.prog.info? 51).map (fun i => (i.zero, i.size, i.bytes)) = some (some (.agg #[.string ⟨#[]⟩, .int .i64 0, .int .i64 0]), 3, 32) := by kernel_rfl

/-- What the line leaves: one month. -/
def MonthLeft (g : Nat) (w : World) (nm : ByteArray) (E0 C k n : Int) (A : Option Addr) (l c : Nat) (w' : World) : Prop :=
  ∃ mb mo mc, Blk w' g 54 #[.string nm, .int .i64 E0, .int .i64 C, .int .i64 k, .int .i64 n, .slice A l c, .slice (some ⟨mb, mo, none⟩) 1 mc] ∧ w.heap.size + 1 < mb ∧
    w'.cell? ⟨mb, mo, none⟩ = some (.string ⟨#[109]⟩) ∧ w'.cell? ⟨mb, mo + 1, none⟩ = some (.int .i64 30) ∧ w'.cell? ⟨mb, mo + 2, none⟩ = some (.int .i64 30) ∧ Kept (One g) w w'

theorem MonthLeft.kept {g p : Nat} {w w1 w2 : World} {nm : ByteArray} {E0 C k n : Int} {A : Option Addr} {l c : Nat} (h : MonthLeft g w nm E0 C k n A l c w1) (hk : Kept (One p) w1 w2) (hp : w.heap.size ≤ p ∧ p ≤ w.heap.size + 1 ∧ g < w.heap.size) : MonthLeft g w nm E0 C k n A l c w2 := by
  obtain ⟨mb, mo, mc, h1, h2, h3, h4, h5, h6⟩ := h
  have hne : ¬ One p mb := one_ne (by omega)
  exact ⟨mb, mo, mc, h1.kept hk (one_ne (by omega)), h2, hk.cell h3 hne, hk.cell h4 hne, hk.cell h5 hne, h6.trans hk (fun i hi h => by unfold One at h; omega)⟩
theorem two_le_30 : Lib.atoiAll [51, 48] = .ok 30 := by decide +kernel

set_option maxRecDepth 100000 in
set_option maxHeartbeats 4000000 in
theorem one_month (g : Nat) (E0 C k n : Int) (A : Option Addr) (l c : Nat) (nm : ByteArray) (w : World) (hT : Blk w g 54 #[.string nm, .int .i64 E0, .int .i64 C, .int .i64 k, .int .i64 n, .slice A l c, .slice none 0 0]) :
    Calls Tryd.prog 53 #[.pointer (some ⟨g, 0, none⟩), .int .i64 4, .string ⟨#[109, 111, 110, 116, 104, 32, 109, 32, 51, 48]⟩] w fun e w' => e = .returned (.int .i64 0) ∧ MonthLeft g w nm E0 C k n A l c w' := by
  have hmf : ∀ (fn : Fn) (first cap : Array Value) (w : World), (Instr.makeFunc fn first cap).run Tryd.prog w = .ok (.func fn first cap) w := fun _ _ _ _ => rfl
  have HT := hide hT
  have hgw := hT.lt
  clear hT
  go_enter_defers Tryd.func53, Tryd.ntmps53
  go_wp2_with fail
  have HP0 := hide (Blk.at_ (w := w.alloc (.cells #[.int .i64 0] 47)) (t := 98) (cs := #[.string ⟨#[109, 111, 110, 116, 104, 32, 109, 32, 51, 48]⟩, .int .i64 0, .int .i64 0]) (n := w.heap.size + 1) (by simp))
  have HE0 := hide ((Blk.new w 47 #[.int .i64 0]).alloc (.cells #[.string ⟨#[109, 111, 110, 116, 104, 32, 109, 32, 51, 48]⟩, .int .i64 0, .int .i64 0] 98))
  have HT0 := hide (((unhide HT).alloc (.cells #[.int .i64 0] 47)).alloc (.cells #[.string ⟨#[109, 111, 110, 116, 104, 32, 109, 32, 51, 48]⟩, .int .i64 0, .int .i64 0] 98))
  have HK0 := hide (((Kept.refl (One g) w).alloc (.cells #[.int .i64 0] 47)).alloc (.cells #[.string ⟨#[109, 111, 110, 116, 104, 32, 109, 32, 51, 48]⟩, .int .i64 0, .int .i64 0] 98))
  generalize (w.alloc (.cells #[.int .i64 0] 47)).alloc (.cells #[.string ⟨#[109, 111, 110, 116, 104, 32, 109, 32, 51, 48]⟩, .int .i64 0, .int .i64 0] 98) = W0 at HP0 HE0 HT0 HK0 ⊢
  refine (need_yes (w.heap.size + 1) ⟨#[109, 111, 110, 116, 104, 32, 109, 32, 51, 48]⟩ 0 5 0 W0 [109, 111, 110, 116, 104] (unhide HP0) (by decide) (by decide) (by decide +kernel) (by decide +kernel)).mono ?_
  rintro e w1 ⟨rfl, hP1, hK1⟩
  have HP1 := hide hP1
  have HE1 := hide ((unhide HE0).kept hK1 (one_ne (by omega)))
  have HT1 := hide ((unhide HT0).kept hK1 (one_ne (by omega)))
  have HK1 := hide ((unhide HK0).trans hK1 (fun i hi h => by unfold One at h; omega))
  have hs1 := hK1.size
  have hs0 := (unhide HP0).lt
  clear hP1 hK1
  go_wp2_with fail
  refine (name_any (w.heap.size + 1) ⟨#[109, 111, 110, 116, 104, 32, 109, 32, 51, 48]⟩ 5 7 0 w1 109 [] (unhide HP1) (by decide) (by decide) (by decide +kernel) (by decide +kernel) (by decide)).mono ?_
  rintro e w2 ⟨rfl, hP2, hK2⟩
  have HP2 := hide hP2
  have HE2 := hide ((unhide HE1).kept hK2 (one_ne (by omega)))
  have HT2 := hide ((unhide HT1).kept hK2 (one_ne (by omega)))
  have HK2 := hide ((unhide HK1).trans hK2 (fun i hi h => by unfold One at h; omega))
  have hs2 := hK2.size
  clear hP2 hK2
  go_wp2_with fail
  have HM3 := hide (Blk.new w2 51 #[.string ⟨#[109]⟩, .int .i64 0, .int .i64 0])
  have HP3 := hide ((unhide HP2).alloc (.cells #[.string ⟨#[109]⟩, .int .i64 0, .int .i64 0] 51))
  have HE3 := hide ((unhide HE2).alloc (.cells #[.string ⟨#[109]⟩, .int .i64 0, .int .i64 0] 51))
  have HT3 := hide ((unhide HT2).alloc (.cells #[.string ⟨#[109]⟩, .int .i64 0, .int .i64 0] 51))
  have HK3 := hide ((unhide HK2).alloc (.cells #[.string ⟨#[109]⟩, .int .i64 0, .int .i64 0] 51))
  generalize w2.alloc (.cells #[.string ⟨#[109]⟩, .int .i64 0, .int .i64 0] 51) = w3 at HM3 HP3 HE3 HT3 HK3 ⊢
  refine (signed_any (w.heap.size + 1) ⟨#[109, 111, 110, 116, 104, 32, 109, 32, 51, 48]⟩ 7 10 0 w3 51 [48] 30 (unhide HP3) (by decide) (by decide) (by decide +kernel) (by decide +kernel) (by decide) (by decide) two_le_30).mono ?_
  rintro e w4 ⟨rfl, hP4, hK4⟩
  have HP4 := hide hP4
  have HE4 := hide ((unhide HE3).kept hK4 (one_ne (by omega)))
  have HT4 := hide ((unhide HT3).kept hK4 (one_ne (by omega)))
  have HK4 := hide ((unhide HK3).trans hK4 (fun i hi h => by unfold One at h; omega))
  have HM4 := hide ((unhide HM3).kept hK4 (one_ne (by omega)))
  have hm3 := (unhide HM3).lt
  have hs4 := hK4.size
  have m1 : w4.cell? ⟨w2.heap.size, 1, none⟩ = some (.int .i64 0) := by rw [(unhide HM4).cell]; rfl
  have m2 : w4.cell? ⟨w2.heap.size, 2, none⟩ = some (.int .i64 0) := by rw [(unhide HM4).cell]; rfl
  have mf1 : w4.frozen? ⟨w2.heap.size, 1, none⟩ = false := (unhide HM4).frozen 1
  have mf2 : w4.frozen? ⟨w2.heap.size, 2, none⟩ = false := (unhide HM4).frozen 2
  clear hP4 hK4
  go_wp2_with fail
  have HP5 := hide (((unhide HP4).far (p := ⟨w2.heap.size, 1, none⟩) (by simp; omega) (.int .i64 30)).far (p := ⟨w2.heap.size, 2, none⟩) (by simp; omega) (.int .i64 30))
  have HE5 := hide (((unhide HE4).far (p := ⟨w2.heap.size, 1, none⟩) (by simp; omega) (.int .i64 30)).far (p := ⟨w2.heap.size, 2, none⟩) (by simp; omega) (.int .i64 30))
  have HT5 := hide (((unhide HT4).far (p := ⟨w2.heap.size, 1, none⟩) (by simp; omega) (.int .i64 30)).far (p := ⟨w2.heap.size, 2, none⟩) (by simp; omega) (.int .i64 30))
  have HK5 := hide (((unhide HK4).new (b := w2.heap.size) (by omega) 1 (.int .i64 30)).new (b := w2.heap.size) (by omega) 2 (.int .i64 30))
  have HM5 := hide (((unhide HM4).set_ 1 (.int .i64 30)).set_ 2 (.int .i64 30))
  have hz5 : (w4.setCell ⟨w2.heap.size, 1, none⟩ (.int .i64 30)).setCell ⟨w2.heap.size, 2, none⟩ (.int .i64 30) = (w4.setCell ⟨w2.heap.size, 1, none⟩ (.int .i64 30)).setCell ⟨w2.heap.size, 2, none⟩ (.int .i64 30) := rfl
  have hs5 : w4.heap.size ≤ ((w4.setCell ⟨w2.heap.size, 1, none⟩ (.int .i64 30)).setCell ⟨w2.heap.size, 2, none⟩ (.int .i64 30)).heap.size := by simp
  clear m1 m2 mf1 mf2 hz5
  generalize (w4.setCell ⟨w2.heap.size, 1, none⟩ (.int .i64 30)).setCell ⟨w2.heap.size, 2, none⟩ (.int .i64 30) = w5 at HP5 HE5 HT5 HK5 HM5 hs5 ⊢
  refine (word_any (w.heap.size + 1) ⟨#[109, 111, 110, 116, 104, 32, 109, 32, 51, 48]⟩ 10 0 w5 (unhide HP5) (by decide) (by decide)).mono ?_
  rintro e w6 ⟨rfl, hP6, hK6⟩
  have HP6 := hide hP6
  have HE6 := hide ((unhide HE5).kept hK6 (one_ne (by omega)))
  have HT6 := hide ((unhide HT5).kept hK6 (one_ne (by omega)))
  have HK6 := hide ((unhide HK5).trans hK6 (fun i hi h => by unfold One at h; omega))
  have HM6 := hide ((unhide HM5).kept hK6 (one_ne (by omega)))
  have hs6 := hK6.size
  rw [show tok (List.drop (skipTo (⟨#[109, 111, 110, 116, 104, 32, 109, 32, 51, 48]⟩ : ByteArray).data.toList 10) (⟨#[109, 111, 110, 116, 104, 32, 109, 32, 51, 48]⟩ : ByteArray).data.toList) = [] by decide +kernel]
  clear hP6 hK6
  go_wp2_with fail
  obtain ⟨i0, hi, hz0, hz1, hz2⟩ := info_parts info51
  have q0 : w6.cell? ⟨w2.heap.size, 0, none⟩ = some (.string ⟨#[109]⟩) := by rw [(unhide HM6).cell]; rfl
  have q1 : w6.cell? ⟨w2.heap.size, 1, none⟩ = some (.int .i64 30) := by rw [(unhide HM6).cell]; rfl
  have q2 : w6.cell? ⟨w2.heap.size, 2, none⟩ = some (.int .i64 30) := by rw [(unhide HM6).cell]; rfl
  have t6 : w6.cell? ⟨g, 6, none⟩ = some (.slice none 0 0) := by rw [(unhide HT6).cell]; rfl
  have tf6 : w6.frozen? ⟨g, 6, none⟩ = false := (unhide HT6).frozen 6
  refine wp_region_noPanic ?_
  have hgw6 : g < w6.heap.size := (unhide HT6).lt
  go_region_law ((refine step_append_lies _ (by rfl) _ _ _ (by rfl) w.heap.size 51 i0 _ 3 32 Tryd.underlying52 hi hz0 hz1 hz2 rfl (by omega) (.slice none 0 0) 0 [] (by rfl) (World.ownsRow_nil _ _ _ _) ⟨w6.heap.size, 0, none⟩ 1 1 [.string ⟨#[109]⟩, .int .i64 30, .int .i64 30] (by rfl) (by rfl) (World.news_of_block (cs := #[.string ⟨#[109]⟩, .int .i64 30, .int .i64 30]) (t := 51) (fr := (0, 0)) (heap_alloc_new w6 _)) (by simp [Value.oneCell']) (by omega) (by unfold maxLen; omega) (by omega) (by simp; omega) (w6.heap.size + 1) (by simp) ?_; intro gg cap w7 hown hgrow hat hlt; have hK7 := (((Kept.refl No w6).drew.alloc (.cells #[.string ⟨#[109]⟩, .int .i64 30, .int .i64 30] 51))).grown hgrow (fun k hk => by simp [Value.ownBlock] at hk); have HT7 := hide ((unhide HT6).kept hK7 id); have t7 : w7.cell? ⟨g, 6, none⟩ = some (.slice none 0 0) := (unhide HT7).cell 6; have tf7 : w7.frozen? ⟨g, 6, none⟩ = false := (unhide HT7).frozen 6))
  all_goals
    have e0 := World.ownsRow.cellAt hown 0 (by omega)
    have e1 := World.ownsRow.cellAt hown 1 (by omega)
    have e2 := World.ownsRow.cellAt hown 2 (by omega)
    have hgg : gg = w6.heap.size + 1 := by simpa [Value.ownBlock] using hat
    have hkx : Kept (One g) w (w7.setCell ⟨g, 6, none⟩ (.slice (some ⟨gg, 0, none⟩) 1 cap)) := ((unhide HK6).trans hK7 (fun _ _ h => h.elim)).one _ _
    have hs7 := hK7.size
    have HF8 := hide (show MonthLeft g w nm E0 C k n A l c (w7.setCell ⟨g, 6, none⟩ (.slice (some ⟨gg, 0, none⟩) 1 cap)) from
      ⟨gg, 0, cap, (unhide HT7).set_ 6 _, by omega, by rw [World.cell?_setCell_other _ _ _ _ (by simp)]; exact e0, by rw [World.cell?_setCell_other _ _ _ _ (by simp)]; exact e1, by rw [World.cell?_setCell_other _ _ _ _ (by simp)]; exact e2, hkx⟩)
    have HP8 := hide (((unhide HP6).kept hK7 id).far (p := ⟨g, 6, none⟩) (by simp; omega) (.slice (some ⟨gg, 0, none⟩) 1 cap))
    have HE8 := hide (((unhide HE6).kept hK7 id).far (p := ⟨g, 6, none⟩) (by simp; omega) (.slice (some ⟨gg, 0, none⟩) 1 cap))
    have hs8 : w6.heap.size ≤ (w7.setCell ⟨g, 6, none⟩ (.slice (some ⟨gg, 0, none⟩) 1 cap)).heap.size := by simpa using hs7
    clear e0 e1 e2 hat hown hgrow hlt hgg hkx hK7 t6 tf6 t7 tf7 HT7 q0 q1 q2
    refine NoPanic.normal ?_
    generalize w7.setCell ⟨g, 6, none⟩ (.slice (some ⟨gg, 0, none⟩) 1 cap) = w8 at HF8 HP8 HE8 hs8 ⊢
    go_wp2_with fail
    refine (end_yes (w.heap.size + 1) ⟨#[109, 111, 110, 116, 104, 32, 109, 32, 51, 48]⟩ (skipTo (⟨#[109, 111, 110, 116, 104, 32, 109, 32, 51, 48]⟩ : ByteArray).data.toList 10) 0 w8 (unhide HP8) (by decide +kernel) (by decide) (by decide +kernel)).mono ?_
    rintro e w9 ⟨rfl, hP9, hK9⟩
    have HE9 := hide ((unhide HE8).kept hK9 (one_ne (by omega)))
    have hF9 : MonthLeft g w nm E0 C k n A l c w9 := (unhide HF8).kept (p := w.heap.size + 1) hK9 ⟨by omega, by omega, hgw⟩
    have x0 : w9.cell? ⟨w.heap.size, 0, none⟩ = some (.int .i64 0) := by rw [(unhide HE9).cell]; rfl
    have f0 : w9.frozen? ⟨w.heap.size, 0, none⟩ = false := (unhide HE9).frozen 0
    have HF9 := hide hF9
    clear hP9 hK9 hF9
    go_wp2_with fail
    refine leaves_cons (f := 63) (args := #[.pointer (some ⟨w.heap.size, 0, none⟩)]) (by simp) (by simp [go_sem]) ?_
    refine (catch_idle ⟨w.heap.size, 0, none⟩ _).mono ?_
    rintro e u' w'' ⟨rfl, rfl, rfl⟩
    have HE10 := hide ((unhide HE9).set_ 0 (.int .i64 0))
    have x1 : (w9.setCell ⟨w.heap.size, 0, none⟩ (.int .i64 0)).cell? ⟨w.heap.size, 0, none⟩ = some (.int .i64 0) := by rw [(unhide HE10).cell]; rfl
    have HF := hide ((unhide HF9).kept (p := w.heap.size) ((Kept.refl (One w.heap.size) w9).one 0 (.int .i64 0)) ⟨by omega, by omega, hgw⟩)
    clear x0 f0
    generalize w9.setCell ⟨w.heap.size, 0, none⟩ (.int .i64 0) = WF at x1 HF HE10 ⊢
    simp [Leaves, settle, results, Tryd.results53, go_sem, x1]
    exact unhide HF
end Go.Proofs.YtmjmcjcckncplaaDoor
