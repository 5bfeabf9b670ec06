/- rule.walk (function 45): what it answers about whatever lies in memory as an expression is what 'walkF' answers about the tree that it reads as; it writes the count alone. -/
import Derived.Test.YtmjmcjcckncplaaDoorProg
import Derived.Test.YtmjmcjcckncplaaDoorMem
import Derived.Deep.QuietTactic
import Derived.BigQuiet
namespace Go.Proofs.YtmjmcjcckncplaaDoor
open Go.RowKit Go.BigFrame

/-- The variable kids of package rule. -/
def KidsVar (w : World) : Prop := ∀ i : Nat, 1 ≤ i → i ≤ 13 → w.cell? ⟨0, i, none⟩ = some (.int .i64 (kidsOf i))
theorem KidsVar.kept {S : Nat → Prop} {w w' : World} (h : KidsVar w) (hk : Kept S w w') (hs : ¬ S 0) : KidsVar w' := fun i h1 h2 => hk.cell (h i h1 h2) hs

/-- What a call of walk leaves: the error number e, the count c, all else as it was. -/
def WalkPost (w : World) (g : Nat) (r : Int × Int) (e : Ending) (w' : World) : Prop :=
  e = .returned (.int .i64 r.1) ∧ Blk w' g 3 #[.int .i64 r.2] ∧ Kept (One g) w w'

theorem walk_end {w : World} {g : Nat} {cnt : Int} (hB : Blk w g 3 #[.int .i64 cnt]) (x : Int) (v : Array Value) (r : Int) (n : Nat) :
    WalkPost w g (r, x) (.returned (.int .i64 r)) (((w.setCell ⟨g, 0, none⟩ (.int .i64 x)).alloc (.cells v 24)).drewN n) :=
  ⟨rfl, ((hB.set_ 0 (.int .i64 x)).alloc _).drewN n, (((Kept.refl (One g) w).setCell (p := ⟨g, 0, none⟩) (fun _ => rfl) _).alloc _).drewN n⟩

set_option maxHeartbeats 1000000 in
theorem walk_large (k n : Int) (A : Option Addr) (l c : Nat) (d cnt : Int) (g : Nat) (w : World) (hB : Blk w g 3 #[.int .i64 cnt]) (hc0 : 0 ≤ cnt) (hc1 : cnt ≤ 1000)
    (h : 60 < cnt + 1 ∨ 12 < d) :
    Calls Tryd.prog 45 #[.agg #[.int .i64 k, .int .i64 n, .slice A l c], .int .i64 d, .pointer (some ⟨g, 0, none⟩)] w (WalkPost w g (2, cnt + 1)) := by
  have hcell : w.cell? ⟨g, 0, none⟩ = some (.int .i64 cnt) := by rw [hB.cell]; rfl
  have hfz : w.frozen? ⟨g, 0, none⟩ = false := hB.frozen 0
  have hlt := hB.lt
  have H := walk_end hB (cnt + 1) #[.int .i64 k, .int .i64 n, .slice A l c] 2 0
  clear hB
  by_cases h1 : 60 < cnt + 1
  · go_enter Tryd.func45, Tryd.ntmps45
    go_wp2
    go_ret
    exact H
  · have h2 : 12 < d := by omega
    go_enter Tryd.func45, Tryd.ntmps45
    go_wp2
    go_ret
    exact H

set_option maxHeartbeats 2000000 in
theorem walk_bad (k n : Int) (A : Option Addr) (l c : Nat) (d cnt : Int) (g : Nat) (w : World) (hB : Blk w g 3 #[.int .i64 cnt]) (hc0 : 0 ≤ cnt) (hc1 : cnt ≤ 1000)
    (hG : KidsVar w) (hg : 0 < g) (hl : l ≤ 9223372036854775807) (h : ¬ (60 < cnt + 1 ∨ 12 < d)) (hbad : badNode k n l) :
    Calls Tryd.prog 45 #[.agg #[.int .i64 k, .int .i64 n, .slice A l c], .int .i64 d, .pointer (some ⟨g, 0, none⟩)] w (WalkPost w g (8, cnt + 1)) := by
  have hcell : w.cell? ⟨g, 0, none⟩ = some (.int .i64 cnt) := by rw [hB.cell]; rfl
  have hfz : w.frozen? ⟨g, 0, none⟩ = false := hB.frozen 0
  have hlt := hB.lt
  have H := hide (walk_end hB (cnt + 1) #[.int .i64 k, .int .i64 n, .slice A l c] 8)
  clear hB
  have h1 : ¬ 60 < cnt + 1 := by omega
  have h2 : ¬ 12 < d := by omega
  clear h
  have hg1 : ¬ g = 0 := by omega
  have hz : 0 < w.heap.size := by omega
  by_cases h3 : k < 1
  · clear hG hbad
    have h3' : decide (k < 1) = true := by simp; omega
    go_enter Tryd.func45, Tryd.ntmps45
    go_wp2
    go_quiet (fail)
    go_wp2
    go_ret
    exact unhide H nq
  · by_cases h4 : 13 < k
    · clear hG hbad
      have h3' : decide (k < 1) = false := by simp; omega
      have h4' : decide (13 < k) = true := by simp; omega
      go_enter Tryd.func45, Tryd.ntmps45
      go_wp2
      go_quiet (fail)
      go_wp2
      go_ret
      exact unhide H nq
    · obtain ⟨i, rfl⟩ := Int.eq_ofNat_of_zero_le (show 0 ≤ k by omega)
      have hGi := hG i (by omega) (by omega)
      clear hG
      have hb : 0 ≤ (i : Int) ∧ (i : Int) < 14 := ⟨by omega, by omega⟩
      have h3' : decide ((i : Int) < 1) = false := by simp; omega
      have h4' : decide ((13 : Int) < i) = false := by simp; omega
      by_cases h5 : l = kidsOf i
      · subst h5
        have h5' : ((kidsOf i : Int) != (kidsOf i : Int)) = false := by simp
        unfold badNode at hbad
        by_cases h6 : (i : Int) = 1
        · have h6' : ((i : Int) == 1) = true := by rw [beq_iff_eq]; omega
          by_cases h7 : n < 0
          · clear hbad h6
            go_enter Tryd.func45, Tryd.ntmps45
            go_wp2
            go_quiet (fail)
            go_wp2
            go_ret
            exact unhide H nq
          · have h8 : 2147483647 < n := by omega
            clear hbad h6
            go_enter Tryd.func45, Tryd.ntmps45
            go_wp2
            go_quiet (fail)
            go_wp2
            go_ret
            exact unhide H nq
        · have h6' : ((i : Int) == 1) = false := by rw [beq_eq_false_iff_ne]; omega
          have h6n : ((i : Int) != 1) = true := by rw [bne_iff_ne]; omega
          have h7 : (n != 0) = true := by rw [bne_iff_ne]; omega
          clear hbad h6
          go_enter Tryd.func45, Tryd.ntmps45
          go_wp2
          go_quiet (fail)
          go_wp2
          go_ret
          exact unhide H nq
      · have h5' : ((l : Int) != (kidsOf i : Int)) = true := by rw [bne_iff_ne]; omega
        clear hbad
        go_enter Tryd.func45, Tryd.ntmps45
        go_wp2
        go_quiet (fail)
        go_wp2
        go_ret
        exact unhide H nq


/-- What is proved of walk at an expression that reads as t. -/
def WalkOk (t : R) : Prop := ∀ (k n : Int) (A : Option Addr) (l c : Nat) (d cnt : Int) (g : Nat) (w : World) (F : Nat → Prop), Rd w F k n A l t → (∀ i, F i → i ≠ g) → Blk w g 3 #[.int .i64 cnt] → 0 ≤ cnt → cnt ≤ 60 → 0 ≤ d → d ≤ 100 →
    KidsVar w → 0 < g →
    Calls Tryd.prog 45 #[.agg #[.int .i64 k, .int .i64 n, .slice A l c], .int .i64 d, .pointer (some ⟨g, 0, none⟩)] w (WalkPost w g (walkF t d cnt))

set_option maxHeartbeats 2000000 in
theorem walk_n0 (k' n' : Int) : WalkOk (.n0 k' n') := by
  rintro k n A l c d cnt g w F ⟨rfl, rfl, rfl⟩ hF hB hc0 hc1 hd0 hd1 hG hg
  by_cases h1 : 60 < cnt + 1 ∨ 12 < d
  · simp only [walkF]; rw [if_pos h1]; exact walk_large k n A 0 c d cnt g w hB hc0 (by omega) h1
  · by_cases h2 : badNode k n 0
    · simp only [walkF]; rw [if_neg h1, if_pos h2]; exact walk_bad k n A 0 c d cnt g w hB hc0 (by omega) hG hg (by omega) h1 h2
    · have e : walkF (.n0 k n) d cnt = (0, cnt + 1) := by simp only [walkF]; rw [if_neg h1, if_neg h2]
      rw [e]
      clear e
      have hcell : w.cell? ⟨g, 0, none⟩ = some (.int .i64 cnt) := by rw [hB.cell]; rfl
      have hfz : w.frozen? ⟨g, 0, none⟩ = false := hB.frozen 0
      have hlt := hB.lt
      have H := hide (walk_end hB (cnt + 1) #[.int .i64 k, .int .i64 n, .slice A 0 c] 0)
      clear hB
      have h3 : ¬ 60 < cnt + 1 := by omega
      have h4 : ¬ 12 < d := by omega
      clear h1
      have hg1 : ¬ g = 0 := by omega
      have hz : 0 < w.heap.size := by omega
      unfold badNode at h2
      obtain ⟨i, rfl⟩ := Int.eq_ofNat_of_zero_le (show 0 ≤ k by omega)
      have hGi := hG i (by omega) (by omega)
      rw [show kidsOf i = 0 from by omega] at hGi
      clear hG
      have hb : 0 ≤ (i : Int) ∧ (i : Int) < 14 := ⟨by omega, by omega⟩
      have h3' : decide ((i : Int) < 1) = false := by simp; omega
      have h4' : decide ((13 : Int) < i) = false := by simp; omega
      have hq : ((0 : Int) != 0) = false := rfl
      by_cases h6 : (i : Int) = 1
      · have h6' : ((i : Int) == 1) = true := by rw [beq_iff_eq]; omega
        have h6n : ((i : Int) != 1) = false := by simp [h6]
        have h7 : ¬ n < 0 := by omega
        have h8 : ¬ 2147483647 < n := by omega
        clear h2 h6
        go_enter Tryd.func45, Tryd.ntmps45
        go_wp2
        go_quiet (fail)
        go_wp2
        refine wp_loop_rounds 1 ?_
        rw [rounds_succ]
        go_wp2
        go_ret
        exact unhide H nq
      · have h6' : ((i : Int) == 1) = false := by rw [beq_eq_false_iff_ne]; omega
        have h6n : ((i : Int) != 1) = true := by rw [bne_iff_ne]; omega
        obtain rfl : n = 0 := by omega
        clear h2 h6
        go_enter Tryd.func45, Tryd.ntmps45
        go_wp2
        go_quiet (fail)
        go_wp2
        refine wp_loop_rounds 1 ?_
        rw [rounds_succ]
        go_wp2
        go_ret
        exact unhide H nq

theorem walk_big (k' n' : Int) (l' : Nat) : WalkOk (.big k' n' l') := by
  rintro k n A l c d cnt g w F ⟨rfl, rfl, rfl, h3, hl⟩ hF hB hc0 hc1 hd0 hd1 hG hg
  by_cases h1 : 60 < cnt + 1 ∨ 12 < d
  · simp only [walkF]; rw [if_pos h1]; exact walk_large k n A l c d cnt g w hB hc0 (by omega) h1
  · have h2 : badNode k n l := by unfold badNode kidsOf; right; right; left; split; omega; split <;> omega
    simp only [walkF]; rw [if_neg h1]; exact walk_bad k n A l c d cnt g w hB hc0 (by omega) hG hg hl h1 h2

end Go.Proofs.YtmjmcjcckncplaaDoor
