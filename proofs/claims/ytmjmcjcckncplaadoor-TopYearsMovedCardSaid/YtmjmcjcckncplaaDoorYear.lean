/- wYear (function 15): whatever the change, if it leaves an expression of the same value. -/
import Derived.Test.YtmjmcjcckncplaaDoorParse
import Derived.Test.YtmjmcjcckncplaaDoorWalked
namespace Go.Proofs.YtmjmcjcckncplaaDoor
open Go.RowKit Go.BigFrame

/-- The changed expression has the value, or is too large, or has a part that is. -/
def Same (t : E) (y v : Int) : Prop := evalF t y = (v, 0) ∨ (evalF t y).2 = 2 ∨ (evalF t y).2 = 8 ∨ (evalF t y).2 = 3 ∨ (evalF t y).2 = 14

/-- What a change leaves. -/
def ChgPost (w0 : World) (b q : Nat) (v : Int) (e : Ending) (w' : World) : Prop :=
  ∃ ok : Bool, e = .returned (.bool ok) ∧ Kept No w0 w' ∧ (ok = true → ∃ k n A l c t y, Blk w' b 24 #[.int .i64 k, .int .i64 n, .slice A l c] ∧ Blk w' q 3 #[.int .i64 y] ∧ Rd w' (fun _ => True) k n A l t.r ∧ Same t y v)

/-- The change by function N with what it has captured. -/
def ChgOk (N : Nat) (caps : Array Value) (w0 : World) (t : E) (y v : Int) : Prop :=
  ∀ w b q k n A l c a, Kept No w0 w → Blk w b 24 #[.int .i64 k, .int .i64 n, .slice A l c] → Blk w q 3 #[.int .i64 y] → b ≠ q → w0.heap.size ≤ b → w0.heap.size ≤ q → TV w k n A l a → a.e = t → a.blocks.Nodup → (∀ i, i ∈ a.blocks → w0.heap.size ≤ i ∧ i ≠ b ∧ i ≠ q) →
    Calls Tryd.prog N (#[.pointer (some ⟨b, 0, none⟩), .pointer (some ⟨q, 0, none⟩)] ++ caps) w (ChgPost w0 b q v)

theorem eval_year : evalF .year 7 = (7, 0) := by decide
/-- No part of a division by zero: then one of the four, or the value. -/
theorem same_cases {t : E} {y v : Int} (h : Same t y v) : ∃ a b, evalF t y = (a, b) ∧ ((b = 0 ∧ a = v) ∨ b = 2 ∨ b = 8 ∨ b = 3 ∨ b = 14) := by
  refine ⟨(evalF t y).1, (evalF t y).2, rfl, ?_⟩
  rcases h with h | h | h | h | h
  · exact .inl ⟨by rw [h], by rw [h]⟩
  · exact .inr (.inl h)
  · exact .inr (.inr (.inl h))
  · exact .inr (.inr (.inr (.inl h)))
  · exact .inr (.inr (.inr (.inr h)))

/-- What wYear leaves. -/
def YearPost (w : World) (e : Ending) (w' : World) : Prop := e = .returned (.bool true) ∧ Kept No w w'

set_option maxRecDepth 100000 in
set_option maxHeartbeats 8000000 in
theorem year_ok (t : E) (k n : Int) (A : Option Addr) (l c : Nat) (y v : Int) (N GB : Nat) (caps : Array Value) (w : World) (F : Nat → Prop) (hr : Rd w F k n A l t.r) (hG : Glob GB w) (hGB : GB ≤ w.heap.size) (hv : evalF t y = (v, 0)) (hc : ChgOk N caps w t y v) (hent : ∀ (args : Array Value) (w : World), (callFunc N args).run Tryd.prog w = .ok (.enter N args) w) :
    Calls Tryd.prog 15 #[.agg #[.int .i64 k, .int .i64 n, .slice A l c], .int .i64 y, .func (Fn.func N) #[] caps] w (YearPost w) := by
  have HR := hide hr
  have HG := hide hG
  have HV := hide hv
  have HC := hide hc
  clear hr hG hv hc
  go_enter Tryd.func15, Tryd.ntmps15
  go_wp2_with fail
  have HK0 := hide ((Kept.refl No w).alloc (.cells #[.int .i64 k, .int .i64 n, .slice A l c] 24))
  have HX0 := hide (Blk.new w 24 #[.int .i64 k, .int .i64 n, .slice A l c])
  generalize w.alloc (.cells #[.int .i64 k, .int .i64 n, .slice A l c] 24) = W0 at HK0 HX0 ⊢
  refine (eval_any .year 2 0 none 0 0 7 W0 No ⟨rfl, rfl, rfl⟩ ((unhide HG).kept0 (unhide HK0) hGB).kids).mono ?_
  rintro e w1 ⟨rfl, hK1⟩
  rw [eval_year]
  have HX1 := hide ((unhide HX0).kept hK1 id)
  have HK1 := hide ((unhide HK0).trans hK1 (fun _ _ h => h))
  have x0 : w1.cell? ⟨w.heap.size, 0, none⟩ = some (.int .i64 k) := by rw [(unhide HX1).cell]; rfl
  have x1 : w1.cell? ⟨w.heap.size, 1, none⟩ = some (.int .i64 n) := by rw [(unhide HX1).cell]; rfl
  have x2 : w1.cell? ⟨w.heap.size, 2, none⟩ = some (.slice A l c) := by rw [(unhide HX1).cell]; rfl
  clear hK1
  go_wp2_with fail
  refine (eval_any t k n A l c y w1 _ ((unhide HR).kept (unhide HK1) (fun _ _ _ => id)) ((unhide HG).kept0 (unhide HK1) hGB).kids).mono ?_
  rintro e w2 ⟨rfl, hK2⟩
  rw [unhide HV]
  have HX2 := hide ((unhide HX1).kept hK2 id)
  have HK2 := hide ((unhide HK1).trans hK2 (fun _ _ h => h))
  have x0 : w2.cell? ⟨w.heap.size, 0, none⟩ = some (.int .i64 k) := by rw [(unhide HX2).cell]; rfl
  have x1 : w2.cell? ⟨w.heap.size, 1, none⟩ = some (.int .i64 n) := by rw [(unhide HX2).cell]; rfl
  have x2 : w2.cell? ⟨w.heap.size, 2, none⟩ = some (.slice A l c) := by rw [(unhide HX2).cell]; rfl
  clear hK2
  go_wp2_with fail
  refine (rule_any t k n A l c w2 _ ((unhide HR).kept (unhide HK2) (fun _ _ _ => id))).mono ?_
  rintro e w3 ⟨a, k3, n3, A3, l3, c3, hae, rfl, hTV, hnd, hbl, hK3⟩
  have HAE := hide hae
  have HTV := hide hTV
  have HND := hide hnd
  have HBL := hide hbl
  have hs2 := (unhide HX2).lt
  have hs3 := hK3.size
  have HK3 := hide ((unhide HK2).trans hK3 (fun _ _ h => h))
  clear hae hTV hnd hbl hK3
  go_wp2_with fail
  have HK4 := hide (((unhide HK3).alloc (.cells #[.int .i64 k3, .int .i64 n3, .slice A3 l3 c3] 24)).alloc (.cells #[.int .i64 y] 3))
  have HB4 := hide ((Blk.new w3 24 #[.int .i64 k3, .int .i64 n3, .slice A3 l3 c3]).alloc (.cells #[.int .i64 y] 3))
  have HQ4 := hide (Blk.at_ (w := w3.alloc (.cells #[.int .i64 k3, .int .i64 n3, .slice A3 l3 c3] 24)) (t := 3) (cs := #[.int .i64 y]) (n := w3.heap.size + 1) (by simp))
  have HT4 := hide ((unhide HTV).kept (((Kept.refl No w3).alloc (.cells #[.int .i64 k3, .int .i64 n3, .slice A3 l3 c3] 24)).alloc (.cells #[.int .i64 y] 3)) (fun _ _ => id))
  have HBS := hide (show ∀ i, i ∈ a.blocks → w.heap.size ≤ i ∧ i ≠ w3.heap.size ∧ i ≠ w3.heap.size + 1 from fun i hi => by have h1 := unhide HBL i hi; have h2 := (unhide HTV).lt i hi; omega)
  generalize (w3.alloc (.cells #[.int .i64 k3, .int .i64 n3, .slice A3 l3 c3] 24)).alloc (.cells #[.int .i64 y] 3) = W4 at HK4 HB4 HQ4 HT4 ⊢
  refine (unhide HC W4 w3.heap.size (w3.heap.size + 1) k3 n3 A3 l3 c3 a (unhide HK4) (unhide HB4) (unhide HQ4) (by omega) (by omega) (by omega) (unhide HT4) (unhide HAE) (unhide HND) (unhide HBS)).mono ?_
  rintro e w4 ⟨ok, rfl, hK5, hok⟩
  cases ok with
  | false =>
    have HK5 := hide hK5
    clear hK5 hok
    go_wp2_with fail
    go_ret
    exact ⟨rfl, unhide HK5⟩
  | true =>
    obtain ⟨k5, n5, A5, l5, c5, t5, y5, hB5, hQ5, hR5, hS5⟩ := hok rfl
    have b0 : w4.cell? ⟨w3.heap.size, 0, none⟩ = some (.int .i64 k5) := by rw [hB5.cell]; rfl
    have b1 : w4.cell? ⟨w3.heap.size, 1, none⟩ = some (.int .i64 n5) := by rw [hB5.cell]; rfl
    have b2 : w4.cell? ⟨w3.heap.size, 2, none⟩ = some (.slice A5 l5 c5) := by rw [hB5.cell]; rfl
    have hlt3 : w3.heap.size < w4.heap.size := hB5.lt
    have HK5 := hide hK5
    have HB5 := hide hB5
    have HQ5 := hide hQ5
    have HR5 := hide hR5
    have HS5 := hide hS5
    clear hok hK5 hB5 hQ5 hR5 hS5
    go_wp2_with fail
    have HK6 := hide (((unhide HK5).alloc (.cells #[.string ⟨#[109]⟩, .int .i64 30, .int .i64 30] 51)).alloc (.cells #[.string ⟨#[97]⟩, .int .i64 1, .int .i64 1, .int .i64 k5, .int .i64 n5, .slice A5 l5 c5, .slice (some ⟨w4.heap.size, 0, none⟩) 1 1] 54))
    have HB6 := hide (((unhide HB5).alloc (.cells #[.string ⟨#[109]⟩, .int .i64 30, .int .i64 30] 51)).alloc (.cells #[.string ⟨#[97]⟩, .int .i64 1, .int .i64 1, .int .i64 k5, .int .i64 n5, .slice A5 l5 c5, .slice (some ⟨w4.heap.size, 0, none⟩) 1 1] 54))
    have HQ6 := hide (((unhide HQ5).alloc (.cells #[.string ⟨#[109]⟩, .int .i64 30, .int .i64 30] 51)).alloc (.cells #[.string ⟨#[97]⟩, .int .i64 1, .int .i64 1, .int .i64 k5, .int .i64 n5, .slice A5 l5 c5, .slice (some ⟨w4.heap.size, 0, none⟩) 1 1] 54))
    have HR6 := hide (((unhide HR5).alloc (.cells #[.string ⟨#[109]⟩, .int .i64 30, .int .i64 30] 51)).alloc (.cells #[.string ⟨#[97]⟩, .int .i64 1, .int .i64 1, .int .i64 k5, .int .i64 n5, .slice A5 l5 c5, .slice (some ⟨w4.heap.size, 0, none⟩) 1 1] 54))
    have HM6 := hide ((Blk.new w4 51 #[.string ⟨#[109]⟩, .int .i64 30, .int .i64 30]).alloc (.cells #[.string ⟨#[97]⟩, .int .i64 1, .int .i64 1, .int .i64 k5, .int .i64 n5, .slice A5 l5 c5, .slice (some ⟨w4.heap.size, 0, none⟩) 1 1] 54))
    clear b0 b1 b2
    generalize (w4.alloc (.cells #[.string ⟨#[109]⟩, .int .i64 30, .int .i64 30] 51)).alloc (.cells #[.string ⟨#[97]⟩, .int .i64 1, .int .i64 1, .int .i64 k5, .int .i64 n5, .slice A5 l5 c5, .slice (some ⟨w4.heap.size, 0, none⟩) 1 1] 54) = W6 at HK6 HB6 HQ6 HR6 HM6 ⊢
    have hGB6 : GB ≤ W6.heap.size := by have := (unhide HK6).size; omega
    refine (print_any t5 k5 n5 A5 l5 c5 w4.heap.size 0 1 GB W6 _ (unhide HR6) ((unhide HG).kept0 (unhide HK6) hGB) hGB6 (fun h => ⟨(walk_small t5 h).1, (walk_small t5 h).2.2⟩) (by rw [(unhide HM6).cell]; rfl) (by rw [(unhide HM6).cell]; rfl) (by rw [(unhide HM6).cell]; rfl)).mono ?_
    rintro e w6 ⟨rfl, hK6⟩
    have HK7 := hide ((unhide HK6).trans hK6 (fun _ _ h => h))
    have HB7 := hide ((unhide HB6).kept hK6 id)
    have HQ7 := hide ((unhide HQ6).kept hK6 id)
    have HR7 := hide ((unhide HR6).kept hK6 (fun _ _ _ => id))
    clear hK6
    by_cases hw : (walkF t5.r 1 0).1 = 0
    · rw [if_pos hw]
      obtain ⟨hn5, hh5, hl5⟩ := walk_small t5 hw
      have HW5 := hide hw
      clear hw
      go_wp2_with fail
      have hGB7 : GB ≤ w6.heap.size := by have := (unhide HK7).size; omega
      refine (parse_any t5 GB w6 hn5 hh5 hl5 (unhide HW5) ((unhide HG).kept0 (unhide HK7) hGB) hGB7).mono ?_
      rintro e w7 ⟨k7, n7, A7, l7, c7, mb, mo, mc, rfl, hR8, hK8⟩
      have HK8 := hide ((unhide HK7).trans hK8 (fun _ _ h => h))
      have hB8 := (unhide HB7).kept hK8 id
      have HB8 := hide hB8
      have HQ8 := hide ((unhide HQ7).kept hK8 id)
      have HR8 := hide hR8
      have hlt7 : w3.heap.size < w7.heap.size := hB8.lt
      have hlt6 := (unhide HB7).lt
      have hsz7 := hK8.size
      have fb0 : w7.frozen? ⟨w3.heap.size, 0, none⟩ = false := hB8.frozen 0
      have fb1 : w7.frozen? ⟨w3.heap.size, 1, none⟩ = false := hB8.frozen 1
      have fb2 : w7.frozen? ⟨w3.heap.size, 2, none⟩ = false := hB8.frozen 2
      have b0 : w7.cell? ⟨w3.heap.size, 0, none⟩ = some (.int .i64 k5) := by rw [hB8.cell]; rfl
      have b1 : w7.cell? ⟨w3.heap.size, 1, none⟩ = some (.int .i64 n5) := by rw [hB8.cell]; rfl
      have b2 : w7.cell? ⟨w3.heap.size, 2, none⟩ = some (.slice A5 l5 c5) := by rw [hB8.cell]; rfl
      have q0 : w7.cell? ⟨w3.heap.size + 1, 0, none⟩ = some (.int .i64 y5) := by rw [(unhide HQ8).cell]; rfl
      have hq7 := (unhide HQ8).lt
      have HLT6 := hide hlt6
      clear hB8 hR8 hK8 hlt6
      go_wp2_with fail
      have hKs : Kept (One w3.heap.size) w7 ((((w7.setCell ⟨w3.heap.size, 0, none⟩ (.int .i64 k7)).setCell ⟨w3.heap.size, 1, none⟩ (.int .i64 n7)).setCell ⟨w3.heap.size, 2, none⟩ (.slice A7 l7 c7)).alloc
        (.cells #[.string ⟨#[97]⟩, .int .i64 1, .int .i64 1, .int .i64 k7, .int .i64 n7, .slice A7 l7 c7, .slice (some ⟨mb, mo, none⟩) 1 mc] 54)) := ((((Kept.refl _ w7).one _ _).one _ _).one _ _).alloc _
      have HRz := hide ((unhide HR8).kept hKs (fun i _ hi => one_ne (by have := unhide HLT6; omega)))
      have HKz := hide ((unhide HK8).trans hKs (fun i hi h => by unfold One at h; have := (unhide HK3).size; omega))
      clear hKs b0 b1 b2 q0 fb0 fb1 fb2
      refine (eval_any t5 k7 n7 A7 l7 c7 y5 _ _ (unhide HRz) ((unhide HG).kept0 (unhide HKz) hGB).kids).mono ?_
      rintro e wz ⟨rfl, hKz⟩
      have HKZ := hide ((unhide HKz).trans hKz (fun _ _ h => h))
      obtain ⟨va, vb, hev, hcs⟩ := same_cases (unhide HS5)
      rw [hev]
      clear hKz hev
      rcases hcs with ⟨rfl, rfl⟩ | rfl | rfl | rfl | rfl
      all_goals
        go_wp2_with fail
        go_ret
        exact ⟨by simp, unhide HKZ⟩
    · rw [if_neg hw]
      have hw2 : ((walkF t5.r 1 0).1 == 0) = false := by rw [beq_eq_false_iff_ne]; exact hw
      generalize (walkF t5.r 1 0).1 = ew at hw2 ⊢
      clear hw
      have b0 : w6.cell? ⟨w3.heap.size, 0, none⟩ = some (.int .i64 k5) := by rw [(unhide HB7).cell]; rfl
      have b1 : w6.cell? ⟨w3.heap.size, 1, none⟩ = some (.int .i64 n5) := by rw [(unhide HB7).cell]; rfl
      have b2 : w6.cell? ⟨w3.heap.size, 2, none⟩ = some (.slice A5 l5 c5) := by rw [(unhide HB7).cell]; rfl
      have q0 : w6.cell? ⟨w3.heap.size + 1, 0, none⟩ = some (.int .i64 y5) := by rw [(unhide HQ7).cell]; rfl
      go_wp2_with fail
      refine (eval_any t5 k5 n5 A5 l5 c5 y5 w6 _ (unhide HR7) ((unhide HG).kept0 (unhide HK7) hGB).kids).mono ?_
      rintro e wz ⟨rfl, hKz⟩
      have HKZ := hide ((unhide HK7).trans hKz (fun _ _ h => h))
      obtain ⟨va, vb, hev, hcs⟩ := same_cases (unhide HS5)
      rw [hev]
      clear hKz hev
      rcases hcs with ⟨rfl, rfl⟩ | rfl | rfl | rfl | rfl
      all_goals
        go_wp2_with fail
        go_ret
        exact ⟨by simp, unhide HKZ⟩

set_option maxRecDepth 100000 in
set_option maxHeartbeats 4000000 in
/-- Where x has no value. -/
theorem year_none (r : R) (k n : Int) (A : Option Addr) (l c : Nat) (y ve : Int) (GB : Nat) (fv : Value) (w : World) (F : Nat → Prop) (hr : Rd w F k n A l r) (hG : Glob GB w) (hGB : GB ≤ w.heap.size) (hve : ve ≠ 0)
    (hev : ∀ w', Rd w' F k n A l r → Glob GB w' → Calls Tryd.prog 40 #[.agg #[.int .i64 k, .int .i64 n, .slice A l c], .int .i64 y] w' (EvalPost w' (0, ve))) :
    Calls Tryd.prog 15 #[.agg #[.int .i64 k, .int .i64 n, .slice A l c], .int .i64 y, fv] w (YearPost w) := by
  have HR := hide hr
  have HG := hide hG
  have HE := hide hev
  have d : (ve != 0) = true := by rw [bne_iff_ne]; exact hve
  clear hr hG hve hev
  go_enter Tryd.func15, Tryd.ntmps15
  go_wp2_with fail
  have HK0 := hide ((Kept.refl No w).alloc (.cells #[.int .i64 k, .int .i64 n, .slice A l c] 24))
  have HX0 := hide (Blk.new w 24 #[.int .i64 k, .int .i64 n, .slice A l c])
  generalize w.alloc (.cells #[.int .i64 k, .int .i64 n, .slice A l c] 24) = W0 at HK0 HX0 ⊢
  refine (eval_any .year 2 0 none 0 0 7 W0 No ⟨rfl, rfl, rfl⟩ ((unhide HG).kept0 (unhide HK0) hGB).kids).mono ?_
  rintro e w1 ⟨rfl, hK1⟩
  rw [eval_year]
  have HX1 := hide ((unhide HX0).kept hK1 id)
  have HK1 := hide ((unhide HK0).trans hK1 (fun _ _ h => h))
  have x0 : w1.cell? ⟨w.heap.size, 0, none⟩ = some (.int .i64 k) := by rw [(unhide HX1).cell]; rfl
  have x1 : w1.cell? ⟨w.heap.size, 1, none⟩ = some (.int .i64 n) := by rw [(unhide HX1).cell]; rfl
  have x2 : w1.cell? ⟨w.heap.size, 2, none⟩ = some (.slice A l c) := by rw [(unhide HX1).cell]; rfl
  clear hK1
  go_wp2_with fail
  refine (unhide HE w1 ((unhide HR).kept (unhide HK1) (fun _ _ _ => id)) ((unhide HG).kept0 (unhide HK1) hGB)).mono ?_
  rintro e w2 ⟨rfl, hK2⟩
  have HK2 := hide ((unhide HK1).trans hK2 (fun _ _ h => h))
  clear hK2
  go_wp2_with fail
  go_ret
  exact ⟨rfl, unhide HK2⟩

/-- wYear answers true. -/
theorem year_any (r : R) (k n : Int) (A : Option Addr) (l c : Nat) (y : Int) (N GB : Nat) (caps : Array Value) (w : World) (F : Nat → Prop) (hr : Rd w F k n A l r) (hG : Glob GB w) (hGB : GB ≤ w.heap.size)
    (hc : ∀ t v, r = t.r → evalF t y = (v, 0) → ChgOk N caps w t y v) (hent : ∀ (args : Array Value) (w : World), (callFunc N args).run Tryd.prog w = .ok (.enter N args) w) :
    Calls Tryd.prog 15 #[.agg #[.int .i64 k, .int .i64 n, .slice A l c], .int .i64 y, .func (Fn.func N) #[] caps] w (YearPost w) := by
  by_cases hw : (walkF r 1 0).1 = 0
  · obtain ⟨t, rfl⟩ := walkF_e (r := r) (d := 1) (c := 0) (c' := (walkF r 1 0).2) (Prod.ext hw rfl)
    by_cases hv : (evalF t y).2 = 0
    · have he : evalF t y = ((evalF t y).1, 0) := Prod.ext rfl hv
      exact year_ok t k n A l c y _ N GB caps w F hr hG hGB he (hc t _ rfl he) hent
    · have h0 : (evalF t y).1 = 0 := by
        revert hv
        unfold evalF
        split
        · intro _; rfl
        · split
          · intro _; rfl
          · split
            · intro h; exact absurd rfl h
            · intro _; rfl
      have he : evalF t y = (0, (evalF t y).2) := Prod.ext h0 rfl
      exact year_none t.r k n A l c y _ GB _ w F hr hG hGB hv (fun w' hr' hG' => by rw [← he]; exact eval_any t k n A l c y w' F hr' hG'.kids)
  · exact year_none r k n A l c y _ GB _ w F hr hG hGB hw (fun w' hr' hG' => eval_bad r k n A l c y w' F hr' hG'.kids hw)

end Go.Proofs.YtmjmcjcckncplaaDoor
