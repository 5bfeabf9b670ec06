/- rule.Name, rule.Months, line.Check and rule.Check (functions 56, 58, 57, 47) at the rule that the laws write an expression in. -/
import Derived.Test.YtmjmcjcckncplaaDoorEval
import Derived.Test.YtmjmcjcckncplaaDoorTail
import Derived.Laws.IdiomStrings
namespace Go.Proofs.YtmjmcjcckncplaaDoor
open Go.RowKit Go.BigFrame

/-- []byte of a string of one byte: a slice over a new row. -/
theorem bytes_one (w : World) (c : UInt8) (x : Int) (hx : x = c.toNat) : ∃ cap W, (convert 9 68 (.string ⟨#[c]⟩)).run Tryd.prog w = .ok (.slice (some ⟨w.heap.size, 0, none⟩) 1 cap) W ∧ W.cell? ⟨w.heap.size, 0, none⟩ = some (.int .u8 x) ∧ Kept No w W := by
  refine ⟨_, _, run_bytes_of_string w 9 68 5 ⟨#[c]⟩ Tryd.underlying9 Tryd.underlying68 Tryd.underlying5, ?_, ((Kept.refl No w).drew.alloc _)⟩
  have h := World.cell?_alloc_mark w.drew (bytesRow ⟨#[c]⟩ (grownCap w (ByteArray.size ⟨#[c]⟩) 0 5)) 5 ((bytesRow ⟨#[c]⟩ (grownCap w (ByteArray.size ⟨#[c]⟩) 0 5)).size, (bytesRow ⟨#[c]⟩ (grownCap w (ByteArray.size ⟨#[c]⟩) 0 5)).size + 1) 0
  refine h.trans ?_
  rw [hx]
  unfold bytesRow
  rw [Array.getElem?_append_left (by simp)]
  simp

set_option maxRecDepth 100000 in
set_option maxHeartbeats 2000000 in
theorem name_a (w : World) : Calls Tryd.prog 56 #[.string ⟨#[97]⟩] w fun e w' => e = .returned (.bool true) ∧ Kept No w w' := by
  obtain ⟨cap, W, hc, hx, hK⟩ := bytes_one w 97 97 rfl
  go_enter Tryd.func56, Tryd.ntmps56
  go_wp2
  have HK := hide hK
  clear hK hc
  refine wp_loop_rounds 2 ?_
  rw [rounds_succ]
  go_wp2
  rw [rounds_succ]
  go_wp2
  go_ret
  exact ⟨rfl, unhide HK⟩

set_option maxRecDepth 100000 in
set_option maxHeartbeats 2000000 in
theorem name_m (w : World) : Calls Tryd.prog 56 #[.string ⟨#[109]⟩] w fun e w' => e = .returned (.bool true) ∧ Kept No w w' := by
  obtain ⟨cap, W, hc, hx, hK⟩ := bytes_one w 109 109 rfl
  go_enter Tryd.func56, Tryd.ntmps56
  go_wp2
  have HK := hide hK
  clear hK hc
  refine wp_loop_rounds 2 ?_
  rw [rounds_succ]
  go_wp2
  rw [rounds_succ]
  go_wp2
  go_ret
  exact ⟨rfl, unhide HK⟩

set_option maxHeartbeats 400000 in
theorem lineCheck_one (w : World) : Calls Tryd.prog 57 #[.int .i64 1] w fun e w' => e = .returned (.int .i64 0) ∧ w = w' := by
  go_enter Tryd.func57, Tryd.ntmps57
  go_wp2
  go_ret
  exact ⟨rfl, rfl⟩

set_option maxRecDepth 100000 in
set_option maxHeartbeats 2000000 in
theorem months_any (b o c : Nat) (w : World) (h0 : w.cell? ⟨b, o, none⟩ = some (.string ⟨#[109]⟩)) (h1 : w.cell? ⟨b, o + 1, none⟩ = some (.int .i64 30)) (h2 : w.cell? ⟨b, o + 2, none⟩ = some (.int .i64 30)) :
    Calls Tryd.prog 58 #[.slice (some ⟨b, o, none⟩) 1 c] w fun e w' => e = .returned (.int .i64 0) ∧ Kept No w w' := by
  have hlt : b < w.heap.size := World.block_lt_of_cell? w _ h0
  go_enter Tryd.func58, Tryd.ntmps58
  go_wp2
  refine wp_loop_rounds 2 ?_
  rw [rounds_succ]
  go_wp2_with fail
  have hK0 : Kept No w (w.alloc (.cells #[.string ⟨#[109]⟩, .int .i64 30, .int .i64 30] 51)) := (Kept.refl No w).alloc _
  refine (name_m _).mono ?_
  rintro e w1 ⟨rfl, hK1⟩
  have hX : Blk w1 w.heap.size 51 #[.string ⟨#[109]⟩, .int .i64 30, .int .i64 30] := (Blk.new w _ _).kept hK1 id
  have x0 : w1.cell? ⟨w.heap.size, 0, none⟩ = some (.string ⟨#[109]⟩) := by rw [hX.cell]; rfl
  have x1 : w1.cell? ⟨w.heap.size, 1, none⟩ = some (.int .i64 30) := by rw [hX.cell]; rfl
  have x2 : w1.cell? ⟨w.heap.size, 2, none⟩ = some (.int .i64 30) := by rw [hX.cell]; rfl
  have HK := hide (hK0.trans hK1 (fun _ _ h => h))
  clear hK0 hK1 hX h0 h1 h2
  go_wp2_with fail
  refine wp_loop_rounds 1 ?_
  rw [rounds_succ]
  go_wp2_with fail
  go_quiet (fail)
  go_wp2_with fail
  rw [rounds_succ]
  go_wp2_with fail
  go_ret
  exact ⟨rfl, (unhide HK).drewN _⟩

/-- What a call of Check leaves. -/
def CheckPost (w : World) (t : E) (e : Ending) (w' : World) : Prop := e = .returned (.int .i64 (walkF t.r 1 0).1) ∧ Kept No w w'

set_option maxRecDepth 100000 in
set_option maxHeartbeats 2000000 in
theorem check_any (t : E) (k n : Int) (A : Option Addr) (l c b o mc : Nat) (w : World) (F : Nat → Prop) (hr : Rd w F k n A l t.r) (hG : KidsVar w)
    (m0 : w.cell? ⟨b, o, none⟩ = some (.string ⟨#[109]⟩)) (m1 : w.cell? ⟨b, o + 1, none⟩ = some (.int .i64 30)) (m2 : w.cell? ⟨b, o + 2, none⟩ = some (.int .i64 30)) :
    Calls Tryd.prog 47 #[.agg #[.string ⟨#[97]⟩, .int .i64 1, .int .i64 1, .int .i64 k, .int .i64 n, .slice A l c, .slice (some ⟨b, o, none⟩) 1 mc]] w (CheckPost w t) := by
  have HG := hide hG
  have HM := hide (And.intro m0 (And.intro m1 m2))
  clear hG m0 m1 m2
  generalize hw : walkF t.r 1 0 = r
  have HW := hide hw
  have HP : ∀ (e : Ending) (w' : World), e = .returned (.int .i64 r.1) → Kept No w w' → CheckPost w t e w' := fun e w' h1 h2 => ⟨by rw [h1, hw], h2⟩
  have HP := hide HP
  clear hw
  go_enter Tryd.func47, Tryd.ntmps47
  go_wp2_with fail
  have hK0 : Kept No w (w.alloc (.cells #[.string ⟨#[97]⟩, .int .i64 1, .int .i64 1, .int .i64 k, .int .i64 n, .slice A l c, .slice (some ⟨b, o, none⟩) 1 mc] 54)) := (Kept.refl No w).alloc _
  refine (name_a _).mono ?_
  rintro e w1 ⟨rfl, hK1⟩
  have hX : Blk w1 w.heap.size 54 #[.string ⟨#[97]⟩, .int .i64 1, .int .i64 1, .int .i64 k, .int .i64 n, .slice A l c, .slice (some ⟨b, o, none⟩) 1 mc] := (Blk.new w _ _).kept hK1 id
  have x1 : w1.cell? ⟨w.heap.size, 1, none⟩ = some (.int .i64 1) := by rw [hX.cell]; rfl
  have x2 : w1.cell? ⟨w.heap.size, 2, none⟩ = some (.int .i64 1) := by rw [hX.cell]; rfl
  have x3 : w1.cell? ⟨w.heap.size, 3, none⟩ = some (.int .i64 k) := by rw [hX.cell]; rfl
  have x4 : w1.cell? ⟨w.heap.size, 4, none⟩ = some (.int .i64 n) := by rw [hX.cell]; rfl
  have x5 : w1.cell? ⟨w.heap.size, 5, none⟩ = some (.slice A l c) := by rw [hX.cell]; rfl
  have hK2 := hK0.trans hK1 (fun _ _ h => h)
  have hs1 := hK1.size
  simp at hs1
  have hlt1 : w.heap.size < w1.heap.size := by omega
  have HX := hide hX
  have HK := hide hK2
  clear hK0 hK1 hK2 hX
  go_wp2_with fail
  refine (lineCheck_one _).mono ?_
  rintro e w2 ⟨rfl, rfl⟩
  go_wp2_with fail
  have hK3 : Kept No w (w1.alloc (.cells #[.int .i64 0] 3)) := (unhide HK).alloc _
  refine (walk_any t.r k n A l c 1 0 w1.heap.size _ _ (hr.all.kept hK3 (fun _ _ _ => id)) (fun i hi => by omega) (Blk.new _ _ _) (by omega) (by omega) (by omega) (by omega) ((unhide HG).kept hK3 id) (by omega)).mono ?_
  rintro e w3 ⟨rfl, hB3, hK4⟩
  have H := hide (One.fresh hK3 hK4 (by omega))
  have hX3 : Blk w3 w.heap.size 54 #[.string ⟨#[97]⟩, .int .i64 1, .int .i64 1, .int .i64 k, .int .i64 n, .slice A l c, .slice (some ⟨b, o, none⟩) 1 mc] := ((unhide HX).alloc _).kept hK4 (one_ne (by omega))
  have y6 : w3.cell? ⟨w.heap.size, 6, none⟩ = some (.slice (some ⟨b, o, none⟩) 1 mc) := by rw [hX3.cell]; rfl
  clear hK3 hK4 hB3 hX3 x1 x2 x3 x4 x5
  rw [unhide HW]
  by_cases h : r.1 = 0
  · have hn : (r.1 != 0) = false := by rw [bne_eq_false_iff_eq]; exact h
    have HH := hide h
    clear h
    go_wp2_with fail
    obtain ⟨m0, m1, m2⟩ := unhide HM
    refine (months_any b o mc _ ((unhide H).cell m0 id) ((unhide H).cell m1 id) ((unhide H).cell m2 id)).mono ?_
    rintro e w4 ⟨rfl, hK5⟩
    have H2 := hide ((unhide H).trans hK5 (fun _ _ h => h))
    clear hK5 m0 m1 m2
    go_wp2_with fail
    go_ret
    exact unhide HP _ _ (by rw [unhide HH]; rfl) (unhide H2)
  · have hn : (r.1 != 0) = true := by rw [bne_iff_ne]; exact h
    clear h
    go_wp2_with fail
    go_ret
    exact unhide HP _ _ rfl (unhide H)

end Go.Proofs.YtmjmcjcckncplaaDoor
