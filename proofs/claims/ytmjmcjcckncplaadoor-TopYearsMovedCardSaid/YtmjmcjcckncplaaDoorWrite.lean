/- rule.write (function 50) and its closure (function 61): they write the text of an expression behind what the builder holds. -/
import Derived.Test.YtmjmcjcckncplaaDoorGlob
import Derived.Test.YtmjmcjcckncplaaDoorBuild
import Derived.Test.YtmjmcjcckncplaaDoorShelf
import Derived.Deep.QuietTactic
import Derived.BigQuiet
import Derived.Lib.AppendIntMem
namespace Go.Proofs.YtmjmcjcckncplaaDoor
open Go.RowKit Go.BigFrame

def WrPost (B b : Nat) (s : List UInt8) (w : World) (e : Ending) (w' : World) : Prop := e = .returned (.tuple #[]) ∧ WrotePost B b (Lib.byteCells s) w w'

/-- The numbers are in their bounds. -/
def NumOk : E → Prop
  | .num n => 0 ≤ n ∧ n ≤ 2147483647
  | .year => True
  | .neg a => NumOk a
  | .not a => NumOk a
  | .bin _ a b => NumOk a ∧ NumOk b

def WrOk (t : E) : Prop := ∀ (k n : Int) (A : Option Addr) (l c : Nat) (GB B b : Nat) (s : List UInt8) (w : World) (F : Nat → Prop), Rd w F k n A l t.r → (∀ i, F i → i < B) → Glob GB w → GB ≤ B →
    Lib.IsBuilderF 70 5 B b (Lib.byteCells s) w → B ≤ w.heap.size → s.length + (wr t).length ≤ 140737488355328 → NumOk t →
    Calls Tryd.prog 50 #[.pointer (some ⟨b, 0, none⟩), .agg #[.int .i64 k, .int .i64 n, .slice A l c]] w (WrPost B b (s ++ wr t) w)

theorem Blk.others {w w' : World} {g b : Nat} {t : TypeId} {cs : Array Value} (h : Blk w g t cs) (hk : Lib.OthersKept 5 (some b) w w') (hg : g ≠ b) (ht : t ≠ 5) : Blk w' g t cs :=
  hk g _ h (by simpa using hg) (fun c fz e => by injection e with _ e; exact ht e)

theorem cells_append (s t : List UInt8) : Lib.byteCells s ++ Lib.strCells ⟨t.toArray⟩ = Lib.byteCells (s ++ t) := by
  rw [Lib.strCells_eq]; simp [Lib.byteCells]

/-- A literal written. -/
theorem write_lit (B b : Nat) (s t : List UInt8) (w : World) (h : Lib.IsBuilderF 70 5 B b (Lib.byteCells s) w) (hlen : s.length + t.length ≤ 140737488355328) (hBw : B ≤ w.heap.size) :
    Calls Tryd.prog 48 #[.pointer (some ⟨b, 0, none⟩), .string ⟨t.toArray⟩] w fun e w' => e = .returned (.tuple #[.int .i64 t.length, .nilIface]) ∧ WrotePost B b (Lib.byteCells (s ++ t)) w w' := by
  refine (writeString_any B b (Lib.byteCells s) ⟨t.toArray⟩ w h (by rw [Lib.byteCells_length]; exact hlen) hBw).mono ?_
  rintro e w' ⟨rfl, h1⟩
  exact ⟨rfl, by rw [← cells_append]; exact h1⟩

theorem WrotePost.trans {B b : Nat} {bs cs : List Value} {w w1 w2 : World} (h : WrotePost B b bs w w1) (k : WrotePost B b cs w1 w2) : WrotePost B b cs w w2 := ⟨k.1, h.2.1.trans k.2.1, h.2.2.trans k.2.2⟩
theorem WrotePost.is {B b : Nat} {bs : List Value} {w w1 : World} (h : WrotePost B b bs w w1) : Lib.IsBuilderF 70 5 B b bs w1 := .inr h.1
/-- What is laid or drawn ahead of a writing. -/
theorem WrotePost.from {B b : Nat} {bs : List Value} {w w0 w1 : World} (hb : Below B w w0) (hk : Lib.OthersKept 5 (some b) w w0) (h : WrotePost B b bs w0 w1) : WrotePost B b bs w w1 := ⟨h.1, hb.trans h.2.1, hk.trans h.2.2⟩

theorem isB_kept {B b : Nat} {bs : List Value} {w w' : World} (h : Lib.IsBuilderF 70 5 B b bs w) (hk : ∀ k, k < w.heap.size → w'.heap[k]? = w.heap[k]?) : Lib.IsBuilderF 70 5 B b bs w' := by
  have h1 : ∀ {p : Value}, Lib.BuilderAtF 70 5 B b p bs w → Lib.BuilderAtF 70 5 B b p bs w' := by
    rintro p ⟨hB, v, hb, hown, hne⟩
    refine ⟨hB, v, (hk b (Array.getElem?_eq_some_iff.1 hb).1).trans hb, ?_, hne⟩
    rcases hown with ⟨h0, ⟨rfl, h1⟩ | ⟨g, cap, cur, fz, rfl, hb, hh, h1⟩⟩
    · exact ⟨h0, .inl ⟨rfl, h1⟩⟩
    · exact ⟨h0, .inr ⟨g, cap, cur, fz, rfl, hb, (hk g (Array.getElem?_eq_some_iff.1 hh).1).trans hh, h1⟩⟩
  exact h.elim (fun x => .inl (h1 x)) (fun x => .inr (h1 x))
theorem isB_alloc {B b : Nat} {bs : List Value} {w : World} (h : Lib.IsBuilderF 70 5 B b bs w) (o : Obj) : Lib.IsBuilderF 70 5 B b bs (w.alloc o) := isB_kept h fun k hk => Below.heap_alloc w o k hk
theorem isB_drewN {B b : Nat} {bs : List Value} {w : World} (h : Lib.IsBuilderF 70 5 B b bs w) (n : Nat) : Lib.IsBuilderF 70 5 B b bs (w.drewN n) := isB_kept h fun _ _ => rfl

theorem keptB {B : Nat} {w w' : World} (h : Below B w w') : Kept (fun i => B ≤ i) w w' := ⟨h.os, h.tape, h.output, h.size, fun k _ hn => h.block k (by simpa using hn)⟩
theorem Rd.low {w w' : World} {F : Nat → Prop} {B : Nat} {k n : Int} {A : Option Addr} {l : Nat} {t : R} (h : Rd w F k n A l t) (hb : Below B w w') (hF : ∀ i, F i → i < B) : Rd w' F k n A l t :=
  h.kept (keptB hb) (fun i _ hi hB => by have := hF i hi; omega)
theorem isB_lt {B b : Nat} {bs : List Value} {w : World} (h : Lib.IsBuilderF 70 5 B b bs w) : b < w.heap.size := h.elim (fun x => x.lt) (fun x => x.lt)
theorem othersAD (w : World) (b : Option Nat) (o : Obj) (n : Nat) : Lib.OthersKept 5 b w ((w.alloc o).drewN n) := (Lib.OthersKept.refl 5 b w).alloc o
theorem belowAD {B : Nat} (w : World) (hB : B ≤ w.heap.size) (o : Obj) (n : Nat) : Below B w ((w.alloc o).drewN n) := below_drewN ((Below.refl B w).alloc hB o) n

set_option maxHeartbeats 2000000 in
theorem operand_any (t : E) (ih : WrOk t) (k n : Int) (A : Option Addr) (l c : Nat) (strict : Bool) (pc X Y : Nat) (nx sx : Value) (GB B b : Nat) (s : List UInt8) (w : World) (F : Nat → Prop) (hr : Rd w F k n A l t.r) (hF : ∀ i, F i → i < B) (hG : Glob GB w) (hGB : GB ≤ B)
    (hI : Lib.IsBuilderF 70 5 B b (Lib.byteCells s) w) (hBw : B ≤ w.heap.size) (hlen : s.length + (par (decide (t.lev < levOf pc) || (strict && decide (t.lev = levOf pc))) (wr t)).length ≤ 140737488355328) (hN : NumOk t) (hp1 : 1 ≤ pc) (hp2 : pc ≤ 13)
    (hX : Blk w X 24 #[.int .i64 pc, nx, sx]) (hY : Blk w Y 67 #[.pointer (some ⟨b, 0, none⟩)]) (hYb : Y ≠ b) :
    Calls Tryd.prog 61 #[.agg #[.int .i64 k, .int .i64 n, .slice A l c], .bool strict, .pointer (some ⟨X, 0, none⟩), .pointer (some ⟨Y, 0, none⟩)] w
      (WrPost B b (s ++ par (decide (t.lev < levOf pc) || (strict && decide (t.lev = levOf pc))) (wr t)) w) := by
  have hk := hr.k_eq.1
  rw [E.r_k] at hk
  have hcr := code_range t
  obtain ⟨kc, rfl⟩ := Int.eq_ofNat_of_zero_le (show 0 ≤ k by omega)
  have hlk : levOf kc = t.lev := by rw [← levOf_e t, ← hk]; rfl
  have hl1 := hG.lev kc (by omega) (by omega)
  have hl2 := hG.lev pc hp1 hp2
  rw [hlk] at hl1
  generalize hq : levOf pc = lp at *
  generalize hq2 : t.lev = lk at *
  have h11 := hG.lo
  have hz1 : 1 < w.heap.size := by omega
  have hXlt := hX.lt
  have hYlt := hY.lt
  have x0 : w.cell? ⟨X, 0, none⟩ = some (.int .i64 pc) := by rw [hX.cell]; rfl
  have y0 : w.cell? ⟨Y, 0, none⟩ = some (.pointer (some ⟨b, 0, none⟩)) := by rw [hY.cell]; rfl
  have hb1 : 0 ≤ (kc : Int) ∧ (kc : Int) < 14 := ⟨by omega, by omega⟩
  have hb2 : 0 ≤ (pc : Int) ∧ (pc : Int) < 14 := ⟨by omega, by omega⟩
  have HG := hide hG
  have HI := hide hI
  have HX := hide hX
  have HY := hide hY
  have HR := hide hr
  have HF := hide hF
  clear hq hq2 hlk hcr hk hG hI hX hY hF
  have hblt := isB_lt (unhide HI)
  by_cases h1 : lk < lp
  · have h1' : decide (lk < lp) = true := by simp; omega
    have h1'' : decide ((lk : Int) < (lp : Int)) = true := by simp; omega
    rw [show (decide (lk < lp) || (strict && decide (lk = lp))) = true by rw [h1']; rfl] at hlen ⊢
    simp only [par, if_true, List.length_cons, List.length_append, List.length_nil] at hlen
    go_enter Tryd.func61, Tryd.ntmps61
    go_wp2_with fail
    go_quiet (fail)
    go_wp2_with fail
    have hb0 := belowAD w hBw (.cells #[.int .i64 kc, .int .i64 n, .slice A l c] 24) nq
    have ho0 := othersAD w (some b) (.cells #[.int .i64 kc, .int .i64 n, .slice A l c] 24) nq
    refine (write_lit B b s [40] _ (isB_drewN (isB_alloc (unhide HI) _) _) (by simp; omega) (by simp; omega)).mono ?_
    rintro e w1 ⟨rfl, hw1⟩
    have hY1 : Blk w1 Y 67 #[.pointer (some ⟨b, 0, none⟩)] := (((unhide HY).alloc _).drewN _).others hw1.2.2 hYb (by decide)
    have hZ1 : Blk w1 w.heap.size 24 #[.int .i64 kc, .int .i64 n, .slice A l c] := ((Blk.new w _ _).drewN _).others hw1.2.2 (by omega) (by decide)
    have y0 : w1.cell? ⟨Y, 0, none⟩ = some (.pointer (some ⟨b, 0, none⟩)) := by rw [hY1.cell]; rfl
    have z0 : w1.cell? ⟨w.heap.size, 0, none⟩ = some (.int .i64 kc) := by rw [hZ1.cell]; rfl
    have z1 : w1.cell? ⟨w.heap.size, 1, none⟩ = some (.int .i64 n) := by rw [hZ1.cell]; rfl
    have z2 : w1.cell? ⟨w.heap.size, 2, none⟩ = some (.slice A l c) := by rw [hZ1.cell]; rfl
    have HW1 := hide (WrotePost.from hb0 ho0 hw1)
    have HY1 := hide hY1
    have hs1 := hw1.2.1.size
    simp at hs1
    clear hw1 hY1 hZ1 x0 hl1 hl2 hb0 ho0
    go_wp2_with fail
    refine (ih kc n A l c GB B b (s ++ [40]) w1 F ((unhide HR).low (unhide HW1).2.1 (unhide HF)) (unhide HF) ((unhide HG).below (unhide HW1).2.1 hGB) hGB (unhide HW1).is (by omega) (by simp; omega) hN).mono ?_
    rintro e w2 ⟨rfl, hw2⟩
    have hY2 : Blk w2 Y 67 #[.pointer (some ⟨b, 0, none⟩)] := (unhide HY1).others hw2.2.2 hYb (by decide)
    have y0 : w2.cell? ⟨Y, 0, none⟩ = some (.pointer (some ⟨b, 0, none⟩)) := by rw [hY2.cell]; rfl
    have HW2 := hide ((unhide HW1).trans hw2)
    have hs2 := hw2.2.1.size
    clear hw2 hY2 z0 z1 z2
    go_wp2_with fail
    refine (write_lit B b _ [41] _ (unhide HW2).is (by simp; omega) (by omega)).mono ?_
    rintro e w3 ⟨rfl, hw3⟩
    have HW3 := hide ((unhide HW2).trans hw3)
    clear hw3
    go_wp2_with fail
    first | go_end0 | refine bodyPost_ret (results_none rfl _ _ _) rfl ?_
    exact ⟨rfl, by have h := unhide HW3; rw [show s ++ par true (wr t) = s ++ [40] ++ wr t ++ [41] by simp [par]]; exact h⟩
  · have h1' : decide (lk < lp) = false := by simp; omega
    have h1'' : decide ((lk : Int) < (lp : Int)) = false := by simp; omega
    cases strict with
    | false =>
      rw [show (decide (lk < lp) || (false && decide (lk = lp))) = false by rw [h1']; rfl] at hlen ⊢
      simp only [par, Bool.false_eq_true, if_false] at hlen
      go_enter Tryd.func61, Tryd.ntmps61
      go_wp2_with fail
      go_quiet (fail)
      go_wp2_with fail
      have hb0 := belowAD w hBw (.cells #[.int .i64 kc, .int .i64 n, .slice A l c] 24) nq
      have ho0 := othersAD w (some b) (.cells #[.int .i64 kc, .int .i64 n, .slice A l c] 24) nq
      refine (ih kc n A l c GB B b s _ F ((unhide HR).low hb0 (unhide HF)) (unhide HF) ((unhide HG).below hb0 hGB) hGB (isB_drewN (isB_alloc (unhide HI) _) _) (by simp; omega) (by omega) hN).mono ?_
      rintro e w2 ⟨rfl, hw2⟩
      have HW2 := hide (WrotePost.from hb0 ho0 hw2)
      clear hw2 hb0 ho0
      go_wp2_with fail
      go_end0
      exact ⟨rfl, unhide HW2⟩
    | true =>
      by_cases h2 : lk = lp
      · have h2' : ((lk : Int) == (lp : Int)) = true := by rw [beq_iff_eq]; omega
        rw [show (decide (lk < lp) || (true && decide (lk = lp))) = true by rw [h1']; simp [h2]] at hlen ⊢
        simp only [par, if_true, List.length_cons, List.length_append, List.length_nil] at hlen
        clear h2
        go_enter Tryd.func61, Tryd.ntmps61
        go_wp2_with fail
        go_quiet (fail)
        go_wp2_with fail
        have hb0 := belowAD w hBw (.cells #[.int .i64 kc, .int .i64 n, .slice A l c] 24) nq
        have ho0 := othersAD w (some b) (.cells #[.int .i64 kc, .int .i64 n, .slice A l c] 24) nq
        refine (write_lit B b s [40] _ (isB_drewN (isB_alloc (unhide HI) _) _) (by simp; omega) (by simp; omega)).mono ?_
        rintro e w1 ⟨rfl, hw1⟩
        have hY1 : Blk w1 Y 67 #[.pointer (some ⟨b, 0, none⟩)] := (((unhide HY).alloc _).drewN _).others hw1.2.2 hYb (by decide)
        have hZ1 : Blk w1 w.heap.size 24 #[.int .i64 kc, .int .i64 n, .slice A l c] := ((Blk.new w _ _).drewN _).others hw1.2.2 (by omega) (by decide)
        have y0 : w1.cell? ⟨Y, 0, none⟩ = some (.pointer (some ⟨b, 0, none⟩)) := by rw [hY1.cell]; rfl
        have z0 : w1.cell? ⟨w.heap.size, 0, none⟩ = some (.int .i64 kc) := by rw [hZ1.cell]; rfl
        have z1 : w1.cell? ⟨w.heap.size, 1, none⟩ = some (.int .i64 n) := by rw [hZ1.cell]; rfl
        have z2 : w1.cell? ⟨w.heap.size, 2, none⟩ = some (.slice A l c) := by rw [hZ1.cell]; rfl
        have HW1 := hide (WrotePost.from hb0 ho0 hw1)
        have HY1 := hide hY1
        have hs1 := hw1.2.1.size
        simp at hs1
        clear hw1 hY1 hZ1 x0 hl1 hl2 hb0 ho0
        go_wp2_with fail
        refine (ih kc n A l c GB B b (s ++ [40]) w1 F ((unhide HR).low (unhide HW1).2.1 (unhide HF)) (unhide HF) ((unhide HG).below (unhide HW1).2.1 hGB) hGB (unhide HW1).is (by omega) (by simp; omega) hN).mono ?_
        rintro e w2 ⟨rfl, hw2⟩
        have hY2 : Blk w2 Y 67 #[.pointer (some ⟨b, 0, none⟩)] := (unhide HY1).others hw2.2.2 hYb (by decide)
        have y0 : w2.cell? ⟨Y, 0, none⟩ = some (.pointer (some ⟨b, 0, none⟩)) := by rw [hY2.cell]; rfl
        have HW2 := hide ((unhide HW1).trans hw2)
        have hs2 := hw2.2.1.size
        clear hw2 hY2 z0 z1 z2
        go_wp2_with fail
        refine (write_lit B b _ [41] _ (unhide HW2).is (by simp; omega) (by omega)).mono ?_
        rintro e w3 ⟨rfl, hw3⟩
        have HW3 := hide ((unhide HW2).trans hw3)
        clear hw3
        go_wp2_with fail
        first | go_end0 | refine bodyPost_ret (results_none rfl _ _ _) rfl ?_
        exact ⟨rfl, by have h := unhide HW3; rw [show s ++ par true (wr t) = s ++ [40] ++ wr t ++ [41] by simp [par]]; exact h⟩
      · have h2' : ((lk : Int) == (lp : Int)) = false := by rw [beq_eq_false_iff_ne]; omega
        rw [show (decide (lk < lp) || (true && decide (lk = lp))) = false by rw [h1']; simp [h2]] at hlen ⊢
        simp only [par, Bool.false_eq_true, if_false] at hlen
        clear h2
        go_enter Tryd.func61, Tryd.ntmps61
        go_wp2_with fail
        go_quiet (fail)
        go_wp2_with fail
        have hb0 := belowAD w hBw (.cells #[.int .i64 kc, .int .i64 n, .slice A l c] 24) nq
        have ho0 := othersAD w (some b) (.cells #[.int .i64 kc, .int .i64 n, .slice A l c] 24) nq
        refine (ih kc n A l c GB B b s _ F ((unhide HR).low hb0 (unhide HF)) (unhide HF) ((unhide HG).below hb0 hGB) hGB (isB_drewN (isB_alloc (unhide HI) _) _) (by simp; omega) (by omega) hN).mono ?_
        rintro e w2 ⟨rfl, hw2⟩
        have HW2 := hide (WrotePost.from hb0 ho0 hw2)
        clear hw2 hb0 ho0
        go_wp2_with fail
        go_end0
        exact ⟨rfl, unhide HW2⟩

theorem Kept.grow {S : Nat → Prop} {a w : World} (h : Kept S a w) (k : Nat) (os : Array Obj) : Kept S a (Go.Sort.grow (w.drewN k) os) := h.below (Lib.below_grow _ w (Nat.le_refl _) k os)
/-- strconv.Itoa, met in any world: nothing that was there is turned. -/
theorem itoa_any (n : Int) (h0 : 0 ≤ n) (h1 : n ≤ 2147483647) (GB : Nat) (w : World) (hG : Glob GB w) :
    Calls Tryd.prog 49 #[.int .i64 n] w fun e w' => e = .returned (.string ⟨(Lib.itoa n).toArray⟩) ∧ Kept No w w' := by
  refine (Tryd.strconv_Itoa n (by omega) (by omega) w hG.pow).mono ?_
  rintro e w' ⟨rfl, k, os, rfl⟩
  exact ⟨rfl, (Kept.refl No w).grow k os⟩
theorem Glob.kept0 {B : Nat} {w w' : World} (h : Glob B w) (hk : Kept No w w') (hB : B ≤ w.heap.size) : Glob B w' := h.kept hk hB (fun _ h => h.elim)
theorem isB_keep {B b : Nat} {bs : List Value} {w w' : World} (h : Lib.IsBuilderF 70 5 B b bs w) (hk : Kept No w w') : Lib.IsBuilderF 70 5 B b bs w' := isB_kept h fun k hlt => hk.block k hlt id
theorem WrotePost.keep {B b : Nat} {bs : List Value} {w w0 w1 : World} (hB : B ≤ w.heap.size) (hk : Kept No w w0) (h : WrotePost B b bs w0 w1) : WrotePost B b bs w w1 :=
  ⟨h.1, (hk.toBelow.mono hB).trans h.2.1, Lib.OthersKept.trans (b := some b) (fun k _ hk' _ _ => (hk.block k (Array.getElem?_eq_some_iff.1 hk').1 id).trans hk') h.2.2⟩

end Go.Proofs.YtmjmcjcckncplaaDoor
