/- Words for the walks through the closures of the laws: what the small functions make (18, 25, 19, 21); what stands where; a region that draws its order, walked once by an invariant. -/
import Derived.Test.YtmjmcjcckncplaaDoorEnt
import Derived.StillTail
import Derived.RegionTactic
import Derived.Test.YtmjmcjcckncplaaDoorMemB
namespace Go.Proofs.YtmjmcjcckncplaaDoor
open Go.RowKit Go.BigFrame

/-- What a function leaves that answers with an expression whose parts lie in blocks of F. -/
def ExprF (w : World) (F : Nat → Prop) (t : E) (e : Ending) (w' : World) : Prop :=
  ∃ k n A l c, e = .returned (.agg #[.int .i64 k, .int .i64 n, .slice A l c]) ∧ Rd w' F k n A l t.r ∧ Kept No w w'

theorem un_case (kk : Int) (mk : E → E) (hmk : ∀ t, (mk t).r = .n1 kk 0 t.r) {F : Nat → Prop} (t : E) (k n : Int) (A : Option Addr) (l c : Nat) (w w1 : World) (hr : Rd w F k n A l t.r) (hF : ∀ i, w.heap.size ≤ i → F i)
    (hB : Blk w1 (w.heap.size + 2) 24 #[.int .i64 k, .int .i64 n, .slice A l c]) (hK : Kept No w w1) :
    Rd w1 F kk 0 (some ⟨w.heap.size + 2, 0, none⟩) 1 (mk t).r := by
  rw [hmk]
  exact Rd.mk1 (hF _ (by omega)) (by rw [hB.cell]; rfl) (by rw [hB.cell]; rfl) (by rw [hB.cell]; rfl) (hr.kept hK (fun _ _ _ => id))

set_option maxHeartbeats 1000000 in
theorem none_F {F : Nat → Prop} (t : E) (k n : Int) (A : Option Addr) (l c : Nat) (w : World) (hr : Rd w F k n A l t.r) (hF : ∀ i, w.heap.size ≤ i → F i) : Calls Tryd.prog 25 #[.agg #[.int .i64 k, .int .i64 n, .slice A l c]] w (ExprF w F (.not t)) := by
  have HR := hide hr
  have HF := hide hF
  clear hr hF
  go_enter Tryd.func25, Tryd.ntmps25
  go_wp2_with fail
  refine (op_any _ _ _ _ _).mono ?_
  rintro e w1 ⟨rfl, hK1⟩
  have hZ : Blk w1 (w.heap.size + 1) 24 #[.int .i64 0, .int .i64 0, .slice none 0 0] := ((Blk.at_ (w := w.alloc (.cells #[.int .i64 k, .int .i64 n, .slice A l c] 24)) (by simp)).alloc _).kept hK1 id
  have hY : Blk w1 (w.heap.size + 2) 24 #[.int .i64 k, .int .i64 n, .slice A l c] := (Blk.at_ (by simp)).kept hK1 id
  have hK : Kept No w w1 := ((((Kept.refl No w).alloc _).alloc _).alloc _).trans hK1 (fun _ _ h => h)
  have hlt := hZ.lt
  have f0 : w1.frozen? ⟨w.heap.size + 1, 0, none⟩ = false := hZ.frozen 0
  have f1 : w1.frozen? ⟨w.heap.size + 1, 1, none⟩ = false := hZ.frozen 1
  have f2 : w1.frozen? ⟨w.heap.size + 1, 2, none⟩ = false := hZ.frozen 2
  have x0 : w1.cell? ⟨w.heap.size + 1, 0, none⟩ = some (.int .i64 0) := by rw [hZ.cell]; rfl
  have x1 : w1.cell? ⟨w.heap.size + 1, 1, none⟩ = some (.int .i64 0) := by rw [hZ.cell]; rfl
  have x2 : w1.cell? ⟨w.heap.size + 1, 2, none⟩ = some (.slice none 0 0) := by rw [hZ.cell]; rfl
  have HY := hide hY
  have HK := hide hK
  clear hZ hY hK hK1
  go_wp2_with fail
  refine bodyPost_ret (v := .agg #[.int .i64 11, .int .i64 0, .slice (some ⟨w.heap.size + 2, 0, none⟩) 1 1]) (by simp [results, Tryd.results25, go_sem, x0, x1, x2]) rfl ?_
  have hKs : Kept (One (w.heap.size + 1)) w1 (((w1.setCell ⟨w.heap.size + 1, 0, none⟩ (.int .i64 11)).setCell ⟨w.heap.size + 1, 1, none⟩ (.int .i64 0)).setCell ⟨w.heap.size + 1, 2, none⟩ (.slice (some ⟨w.heap.size + 2, 0, none⟩) 1 1)) := (((Kept.refl _ w1).one _ _).one _ _).one _ _
  have hKf := (unhide HK).trans hKs (fun i hi h => by unfold One at h; omega)
  have hB := (unhide HY).kept hKs (one_ne (by omega))
  exact ⟨11, 0, _, 1, 1, rfl, un_case 11 .not (fun _ => rfl) t k n A l c w _ (unhide HR) (unhide HF) hB hKf, hKf⟩

set_option maxHeartbeats 1000000 in
theorem neg_F {F : Nat → Prop} (t : E) (k n : Int) (A : Option Addr) (l c : Nat) (w : World) (hr : Rd w F k n A l t.r) (hF : ∀ i, w.heap.size ≤ i → F i) : Calls Tryd.prog 18 #[.agg #[.int .i64 k, .int .i64 n, .slice A l c]] w (ExprF w F (.neg t)) := by
  have HR := hide hr
  have HF := hide hF
  clear hr hF
  go_enter Tryd.func18, Tryd.ntmps18
  go_wp2_with fail
  refine (op_any _ _ _ _ _).mono ?_
  rintro e w1 ⟨rfl, hK1⟩
  have hZ : Blk w1 (w.heap.size + 1) 24 #[.int .i64 0, .int .i64 0, .slice none 0 0] := ((Blk.at_ (w := w.alloc (.cells #[.int .i64 k, .int .i64 n, .slice A l c] 24)) (by simp)).alloc _).kept hK1 id
  have hY : Blk w1 (w.heap.size + 2) 24 #[.int .i64 k, .int .i64 n, .slice A l c] := (Blk.at_ (by simp)).kept hK1 id
  have hK : Kept No w w1 := ((((Kept.refl No w).alloc _).alloc _).alloc _).trans hK1 (fun _ _ h => h)
  have hlt := hZ.lt
  have f0 : w1.frozen? ⟨w.heap.size + 1, 0, none⟩ = false := hZ.frozen 0
  have f1 : w1.frozen? ⟨w.heap.size + 1, 1, none⟩ = false := hZ.frozen 1
  have f2 : w1.frozen? ⟨w.heap.size + 1, 2, none⟩ = false := hZ.frozen 2
  have x0 : w1.cell? ⟨w.heap.size + 1, 0, none⟩ = some (.int .i64 0) := by rw [hZ.cell]; rfl
  have x1 : w1.cell? ⟨w.heap.size + 1, 1, none⟩ = some (.int .i64 0) := by rw [hZ.cell]; rfl
  have x2 : w1.cell? ⟨w.heap.size + 1, 2, none⟩ = some (.slice none 0 0) := by rw [hZ.cell]; rfl
  have HY := hide hY
  have HK := hide hK
  clear hZ hY hK hK1
  go_wp2_with fail
  refine bodyPost_ret (v := .agg #[.int .i64 3, .int .i64 0, .slice (some ⟨w.heap.size + 2, 0, none⟩) 1 1]) (by simp [results, Tryd.results18, go_sem, x0, x1, x2]) rfl ?_
  have hKs : Kept (One (w.heap.size + 1)) w1 (((w1.setCell ⟨w.heap.size + 1, 0, none⟩ (.int .i64 3)).setCell ⟨w.heap.size + 1, 1, none⟩ (.int .i64 0)).setCell ⟨w.heap.size + 1, 2, none⟩ (.slice (some ⟨w.heap.size + 2, 0, none⟩) 1 1)) := (((Kept.refl _ w1).one _ _).one _ _).one _ _
  have hKf := (unhide HK).trans hKs (fun i hi h => by unfold One at h; omega)
  have hB := (unhide HY).kept hKs (one_ne (by omega))
  exact ⟨3, 0, _, 1, 1, rfl, un_case 3 .neg (fun _ => rfl) t k n A l c w _ (unhide HR) (unhide HF) hB hKf, hKf⟩

/-- An operation with two operands that stand in a new row. -/
theorem op2_at (o : O2) {F : Nat → Prop} {k : Int} (hk : k = o.code) (W : World) (t1 t2 : E) (k1 n1 : Int) (A1 : Option Addr) (l1 c1 : Nat) (k2 n2 : Int) (A2 : Option Addr) (l2 c2 : Nat)
    (h1 : Rd W F k1 n1 A1 l1 t1.r) (h2 : Rd W F k2 n2 A2 l2 t2.r) (hF : F W.heap.size) :
    Calls Tryd.prog 19 #[.int .i64 k, .slice (some ⟨W.heap.size, 0, none⟩) 2 2] (W.alloc (.cells #[.int .i64 k1, .int .i64 n1, .slice A1 l1 c1, .int .i64 k2, .int .i64 n2, .slice A2 l2 c2] 24)) (ExprF W F (.bin o t1 t2)) := by
  subst hk
  refine (op_any _ _ _ _ _).mono ?_
  rintro e w1 ⟨rfl, hK⟩
  have hB := (Blk.new W 24 #[.int .i64 k1, .int .i64 n1, .slice A1 l1 c1, .int .i64 k2, .int .i64 n2, .slice A2 l2 c2]).kept hK id
  have hKf := ((Kept.refl No W).alloc _).trans hK (fun _ _ h => h)
  exact ⟨o.code, 0, _, 2, 2, rfl, Rd.mk2 hF (by rw [hB.cell]; rfl) (by rw [hB.cell]; rfl) (by rw [hB.cell]; rfl) (h1.kept hKf (fun _ _ _ => id)) (by rw [hB.cell]; rfl) (by rw [hB.cell]; rfl) (by rw [hB.cell]; rfl) (h2.kept hKf (fun _ _ _ => id)), hKf⟩

theorem num_rd (w : World) (F : Nat → Prop) (n : Int) : Rd w F 1 n none 0 (E.num n).r := ⟨rfl, rfl, rfl⟩

end Go.Proofs.YtmjmcjcckncplaaDoor

namespace Go.Proofs.YtmjmcjcckncplaaDoor
open Go.RowKit

section
variable {P : Program} {ops : Array Oper} {Q : Exit → Act → World → Prop}

/-- Each operation waits for earlier ones alone. -/
def topoB (ops : Array Oper) (n : Nat) : Bool := (List.range n).all fun i => match ops[i]? with | some o => o.after.all fun e => !Region.binds .any e || decide (e.on < i) | none => false
/-- The heads are all listed, the tail is not. -/
def headsDone (n m : Nat) : Array Bool := ((List.range m).map fun i => decide (i < n)).toArray
def invB (ops : Array Oper) (n : Nat) : Bool :=
  decide (n < ops.size) && Region.sinkB .any ops n && Region.chainB .any ops n && topoB ops n && Region.seqB .any ops (ops.size - n) n (headsDone n ops.size)

theorem least_un {n : Nat} {listed : Array Bool} : ∀ i, i < n → listed.getD i true = false → ∃ j, j < n ∧ listed.getD j true = false ∧ ∀ k, k < j → listed.getD k true = true := by
  intro i
  induction i using Nat.strongRecOn with
  | _ i ih =>
    intro hi hun
    by_cases h : ∃ k, k < i ∧ listed.getD k true = false
    · obtain ⟨k, hk, hk2⟩ := h
      exact ih k hk (by omega) hk2
    · refine ⟨i, hi, hun, fun k hk => ?_⟩
      cases hb : listed.getD k true with
      | true => rfl
      | false => exact absurd ⟨k, hk, hb⟩ h

theorem ready_some {n : Nat} {listed : Array Bool} (ht : topoB ops n = true) (hn : n < ops.size) (inv : HeadInv .any ops n listed) {i : Nat} (hi : i < n) (hun : listed.getD i true = false) : Region.ready .any ops listed ≠ [] := by
  obtain ⟨j, hj, hjun, hlow⟩ := least_un i hi hun
  have h1 := List.all_eq_true.1 ht j (List.mem_range.2 hj)
  have hoj : ∃ o, ops[j]? = some o := ⟨ops[j]'(by omega), by simp [show j < ops.size by omega]⟩
  obtain ⟨o, ho⟩ := hoj
  rw [ho] at h1
  have hmem : j ∈ Region.ready .any ops listed := by
    refine mem_ready.2 ⟨hjun, o, ho, fun e he hb => ?_⟩
    have h2 := Array.all_eq_true'.1 h1 e he
    simp only [Bool.or_eq_true, Bool.not_eq_true', decide_eq_true_eq] at h2
    have hlt : e.on < j := by
      rcases h2 with h2 | h2
      · rw [hb] at h2; cases h2
      · exact h2
    have h3 := hlow _ hlt
    have hs : e.on < listed.size := by rw [inv.size]; omega
    simpa [hs] using h3
  intro h
  rw [h] at hmem
  cases hmem

/-- How many heads are still to come. -/
def left (n : Nat) (listed : Array Bool) : Nat := ((List.range n).filter fun i => !listed.getD i true).length
theorem left_set {n i : Nat} {listed : Array Bool} (hi : i < n) (hs : i < listed.size) (hun : listed.getD i true = false) : left n listed = left n (listed.setIfInBounds i true) + 1 := by
  unfold left
  have key : ∀ (l : List Nat), l.Nodup → i ∈ l → (l.filter fun j => !listed.getD j true).length = (l.filter fun j => !(listed.setIfInBounds i true).getD j true).length + 1 := by
    intro l
    induction l with
    | nil => intro _ h; cases h
    | cons a l ih =>
      intro hn hm
      have hna := (List.nodup_cons.1 hn).1
      have hnl := (List.nodup_cons.1 hn).2
      by_cases hai : a = i
      · subst hai
        have e : (l.filter fun j => !(listed.setIfInBounds a true).getD j true) = l.filter fun j => !listed.getD j true := by
          apply List.filter_congr
          intro j hj
          rw [getD_set_ne true (by rintro rfl; exact hna hj)]
        have e1 : (!listed.getD a true) = true := by rw [hun]; rfl
        have e2 : (!(listed.setIfInBounds a true).getD a true) = false := by simp [hs]
        rw [List.filter_cons_of_pos (p := fun j => !listed.getD j true) e1, List.filter_cons_of_neg (p := fun j => !(listed.setIfInBounds a true).getD j true) (by rw [e2]; exact Bool.false_ne_true), e, List.length_cons]
      · have hil : i ∈ l := by
          rcases List.mem_cons.1 hm with h | h
          · exact absurd h.symm hai
          · exact h
        have h1 := ih hnl hil
        have e : (listed.setIfInBounds i true).getD a true = listed.getD a true := getD_set_ne true (fun h => hai h.symm)
        cases hb : listed.getD a true with
        | true =>
          rw [List.filter_cons_of_neg (p := fun j => !listed.getD j true) (by simp [hb]), List.filter_cons_of_neg (p := fun j => !(listed.setIfInBounds i true).getD j true) (by rw [e, hb]; simp)]
          exact h1
        | false =>
          rw [List.filter_cons_of_pos (p := fun j => !listed.getD j true) (by simp [hb]), List.filter_cons_of_pos (p := fun j => !(listed.setIfInBounds i true).getD j true) (by rw [e, hb]; rfl), List.length_cons, List.length_cons, h1]
  exact key _ List.nodup_range (List.mem_range.2 hi)

theorem heads_all {n : Nat} {listed : Array Bool} (inv : HeadInv .any ops n listed) (h : ∀ i, i < n → listed.getD i true = true) : listed = headsDone n ops.size := by
  apply Array.ext_getElem?
  intro i
  by_cases hi : i < ops.size
  · have hs : i < listed.size := by rw [inv.size]; exact hi
    by_cases hin : i < n
    · have := h i hin
      simp [hs] at this
      simp [headsDone, hs, hi, hin, this]
    · have := inv.tail i (by omega) hi
      simp [hs] at this
      simp [headsDone, hs, hi, hin, this]
  · rw [Array.getElem?_eq_none (by rw [inv.size]; omega), Array.getElem?_eq_none (by simp [headsDone]; omega)]

theorem wpAny_inv {l : List Oper} {n : Nat} (hn : n < l.toArray.size) (hs : Region.sinkB .any l.toArray n = true) (hc : Region.chainB .any l.toArray n = true) (ht : topoB l.toArray n = true) (hq : Region.seqB .any l.toArray (l.toArray.size - n) n (headsDone n l.toArray.size) = true)
    (Φ : (Nat → Bool) → Act → World → Prop)
    (hstep : ∀ (i : Nat) (o : Oper) (S : Nat → Bool) (a : Act) (w : World), i < n → l[i]? = some o → (∀ e ∈ o.after, Region.binds .any e = true → S e.on = true ∧ e.on < n) → Φ S a w → wpOp P l.toArray Q i (fun a' w' => Φ (fun j => decide (j = i) || S j) a' w') a w)
    (hend : ∀ (S : Nat → Bool) (a : Act) (w : World), (∀ i, i < n → S i = true) → Φ S a w → wpList P l.toArray Q (l.drop n) a w) :
    ∀ (u : Nat) (listed : Array Bool) (a : Act) (w : World), left n listed = u → HeadInv .any l.toArray n listed → Φ (fun j => listed.getD j false) a w → wpAny P .any l.toArray Q (u + (l.toArray.size - n)) listed a w
  | 0, listed, a, w, hu, inv, h => by
    have hall : ∀ i, i < n → listed.getD i true = true := by
      intro i hi
      cases hb : listed.getD i true with
      | true => rfl
      | false =>
        have : i ∈ (List.range n).filter fun i => !listed.getD i true := List.mem_filter.2 ⟨List.mem_range.2 hi, by simp [hb]⟩
        rw [List.length_eq_zero_iff.1 hu] at this
        cases this
    have hl := heads_all inv hall
    subst hl
    rw [Nat.zero_add]
    have hlen : (l.drop n).length = l.toArray.size - n := by simp
    have := wpAny_of_seq (P := P) (md := .any) (Q' := Q) (ops := l.toArray) (l.drop n) n (headsDone n l.toArray.size) a w (fun j => by simp [List.getElem?_drop]) (by rw [hlen]; exact hq)
      (hend (fun j => (headsDone n l.toArray.size).getD j false) a w (fun i hi => by
        have hi3 : i < l.toArray.size := by omega
        simp only [headsDone, Array.getD_eq_getD_getElem?, List.getElem?_toArray, List.getElem?_map, List.getElem?_range hi3, Option.map_some, Option.getD_some, decide_eq_true hi]) h)
    rwa [hlen] at this
  | u + 1, listed, a, w, hu, inv, h => by
    have hex : ∃ i, i < n ∧ listed.getD i true = false := by
      cases hf : (List.range n).filter fun i => !listed.getD i true with
      | nil => unfold left at hu; rw [hf] at hu; cases hu
      | cons i r =>
        have : i ∈ (List.range n).filter fun i => !listed.getD i true := by rw [hf]; exact List.mem_cons_self ..
        obtain ⟨h1, h2⟩ := List.mem_filter.1 this
        exact ⟨i, List.mem_range.1 h1, by simpa using h2⟩
    obtain ⟨i0, hi0, hun0⟩ := hex
    rw [show u + 1 + (l.toArray.size - n) = (u + (l.toArray.size - n)) + 1 by omega]
    refine ⟨fun h0 => absurd h0 (ready_some ht hn inv hi0 hun0), fun i hi => ?_⟩
    have hin : i < n := by
      rcases Nat.lt_or_ge i n with h | h
      · exact h
      · exact absurd hi (tail_waits hs hc hn inv _ i0 rfl hi0 hun0 i h)
    obtain ⟨hun, o, ho, hall⟩ := mem_ready.1 hi
    have hsz : i < listed.size := by rw [inv.size]; omega
    have ho' : l[i]? = some o := by simpa using ho
    refine wpOp_mono (fun a' w' h' => ?_) (hstep i o (fun j => listed.getD j false) a w hin ho' (fun e he hb => ⟨hall e he hb, ?_⟩) h)
    · refine wpAny_inv hn hs hc ht hq Φ hstep hend u _ a' w' (by have := left_set hin hsz hun; omega) (inv.set hi hin) ?_
      have : (fun j => (listed.setIfInBounds i true).getD j false) = fun j => decide (j = i) || listed.getD j false := by
        funext j
        by_cases hj : j = i
        · subst hj; simp [hsz]
        · rw [getD_set_ne false (fun h => hj h.symm)]; simp [hj]
      rw [this]; exact h'
    · have h1 := List.all_eq_true.1 ht i (List.mem_range.2 hin)
      rw [ho] at h1
      have h2 := Array.all_eq_true'.1 h1 e he
      simp only [Bool.or_eq_true, Bool.not_eq_true', decide_eq_true_eq] at h2
      rcases h2 with h2 | h2
      · rw [hb] at h2; cases h2
      · omega
end

/-- Slot i of the region holds v. -/
def put1 (x : Nat → Value) (i : Nat) (v : Value) : Nat → Value := fun j => if j = i then v else x j

/-- One operation of the region: S tells which are done; D are those that lay a new block. -/
def StepOk (P : Program) (ops : Array Oper) (Q : Exit → Act → World → Prop) (n : Nat) (D : List Nat) (fr : (Nat → Value) → Act) (I : Nat → Value → World → Prop) (w0 : World) (i : Nat) (o : Oper) : Prop :=
  (∀ x v, (fr x).put o.dst v = fr (put1 x i v)) ∧
  ∀ (x : Nat → Value) (S : Nat → Bool) (W : World), Kept No w0 W → (∀ j, j < n → S j = true → I j (x j) W) → (∀ e ∈ o.after, Region.binds .any e = true → S e.on = true) →
    ∀ K : Act → World → Prop, (∀ v W' a', a' = (fr x).put o.dst v → Kept No W W' → I i v W' → (i ∈ D → ∀ j, j < n → S j = true → j ∈ D → x j ≠ v) → K a' W') →
    if Region.wanted o (yielded ops (fr x).tmps) = true then Oper.wp P o (fr x) W K Q else K ((fr x).put o.dst undef) W

def StepsOk (P : Program) (ops : Array Oper) (Q : Exit → Act → World → Prop) (n : Nat) (D : List Nat) (fr : (Nat → Value) → Act) (I : Nat → Value → World → Prop) (w0 : World) : Nat → List Oper → Prop
  | _, [] => True
  | i, o :: r => StepOk P ops Q n D fr I w0 i o ∧ StepsOk P ops Q n D fr I w0 (i + 1) r

theorem StepsOk.at {P : Program} {ops : Array Oper} {Q : Exit → Act → World → Prop} {n : Nat} {D : List Nat} {fr : (Nat → Value) → Act} {I : Nat → Value → World → Prop} {w0 : World} : ∀ {l : List Oper} {k : Nat}, StepsOk P ops Q n D fr I w0 k l → ∀ (i : Nat) (o : Oper), l[i]? = some o → StepOk P ops Q n D fr I w0 (k + i) o
  | [], _, _, i, o, h => by simp at h
  | a :: l, k, hs, i, o, h => by
    cases i with
    | zero => simp at h; subst h; exact hs.1
    | succ i =>
      have := StepsOk.at hs.2 i o (by simpa using h)
      rwa [show k + 1 + i = k + (i + 1) by omega] at this

theorem wp_region_inv {P : Program} {id : Nat} {Q : Exit → Act → World → Prop} {w : World} {l : List Oper} (n : Nat) (D : List Nat) (hm : P.follows .mixedOrders = true) (hB : invB l.toArray n = true)
    (fr : (Nat → Value) → Act) (x0 : Nat → Value) (I : Nat → Value → World → Prop) (hmono : ∀ i v w w', Kept No w w' → I i v w → I i v w')
    (hsteps : StepsOk P l.toArray Q n D fr I w 0 (l.take n))
    (hend : ∀ (x : Nat → Value) (W : World), Kept No w W → (∀ i, i < n → I i (x i) W) → (∀ i j, i < n → j < n → i ∈ D → j ∈ D → i ≠ j → x i ≠ x j) → wpList P l.toArray Q (l.drop n) (fr x) W) :
    (Code.region id l.toArray true).wp P Q (fr x0) w := by
  simp only [invB, Bool.and_eq_true, decide_eq_true_eq] at hB
  obtain ⟨⟨⟨⟨hn, hs⟩, hc⟩, ht⟩, hq⟩ := hB
  refine wp_region_any hm ?_
  have inv0 : HeadInv .any l.toArray n (Array.replicate l.toArray.size false) :=
    ⟨by simp, fun j oj _ hl => (by rw [getD_replicate_false] at hl; cases hl), fun t _ ht => getD_in (by simpa using ht) (getD_replicate_false _ _)⟩
  have hleft : left n (Array.replicate l.toArray.size false) = n := by
    unfold left
    have : ((List.range n).filter fun i => !(Array.replicate l.toArray.size false).getD i true) = List.range n := by
      rw [List.filter_eq_self]
      intro i hi
      have hi := List.mem_range.1 hi
      have : i < l.length := by have : n < l.length := by simpa using hn
                                omega
      simp [this]
    rw [this, List.length_range]
  have none : ∀ j, (fun j => (Array.replicate l.toArray.size false).getD j false) j = true → False := fun j hS => by
    have h1 := getD_replicate_false l.toArray.size j
    exact absurd (hS.symm.trans h1) (by simp)
  have H := wpAny_inv (P := P) (Q := Q) hn hs hc ht hq (fun S a W => ∃ x, a = fr x ∧ Kept No w W ∧ (∀ j, j < n → S j = true → I j (x j) W) ∧ ∀ i j, i < n → j < n → S i = true → S j = true → i ∈ D → j ∈ D → i ≠ j → x i ≠ x j)
    (fun i o S a W hi ho hdep h => by
      obtain ⟨x, rfl, hK, hx, hD⟩ := h
      have hst := StepsOk.at hsteps i o (by rw [List.getElem?_take_of_lt hi]; exact ho)
      rw [Nat.zero_add] at hst
      refine wpOp_step (by simpa using ho) (fun K' hK' => ?_)
      refine hst.2 x S W hK hx (fun e he hb => (hdep e he hb).1) K' (fun v W' a' ha hKW hI hv => hK' _ _ ⟨put1 x i v, by rw [ha, hst.1], hK.trans hKW (fun _ _ h => h), fun j hj hS => ?_, fun p q hp hq hSp hSq hDp hDq hpq => ?_⟩)
      · unfold put1
        by_cases hji : j = i
        · subst hji; rw [if_pos rfl]; exact hI
        · rw [if_neg hji]
          exact hmono j _ _ _ hKW (hx j hj (by simpa [hji] using hS))
      · unfold put1
        by_cases hpi : p = i
        · subst hpi
          rw [if_pos rfl, if_neg (Ne.symm hpq)]
          exact (hv hDp q hq (by simpa [Ne.symm hpq] using hSq) hDq).symm
        · by_cases hqi : q = i
          · subst hqi
            rw [if_neg hpi, if_pos rfl]
            exact hv hDq p hp (by simpa [hpi] using hSp) hDp
          · rw [if_neg hpi, if_neg hqi]
            exact hD p q hp hq (by simpa [hpi] using hSp) (by simpa [hqi] using hSq) hDp hDq hpq)
    (fun S a W hall h => by
      obtain ⟨x, rfl, hK, hx, hD⟩ := h
      exact hend x W hK (fun i hi => hx i hi (hall i hi)) (fun i j hi hj => hD i j hi hj (hall i hi) (hall j hj)))
    n (Array.replicate l.toArray.size false) (fr x0) { w with drawn := w.drawn + 1 } hleft inv0 ⟨x0, rfl, (Kept.refl No w).drew, fun j _ hS => (none j hS).elim, fun i _ _ _ hS => (none i hS).elim⟩
  rw [show n + (l.toArray.size - n) = l.toArray.size by omega] at H
  exact H

/-- What a slot of a region holds. -/
inductive Sh where
  | val (v : Value)
  | tree (t : E)
  | row (l : List E)
  | fresh (lo : Nat)
  | addr (t : E)
  | any
/-- The tree t stands at (b, o). -/
def Tr (W : World) (F : Nat → Prop) (b o : Nat) (t : E) : Prop := ∃ k n A l c, C3 W b o k n A l c ∧ Rd W F k n A l t.r
def Sh.ok (F : Nat → Prop) (W : World) : Sh → Value → Prop
  | .val u, v => v = u
  | .tree t, v => ∃ k n A l c, v = .agg #[.int .i64 k, .int .i64 n, .slice A l c] ∧ Rd W F k n A l t.r
  | .row l, v => ∃ b, v = .slice (some ⟨b, 0, none⟩) l.length l.length ∧ F b ∧ ∀ j t, l[j]? = some t → Tr W F b (3 * j) t
  | .fresh lo, v => ∃ b, v = .pointer (some ⟨b, 0, none⟩) ∧ lo ≤ b ∧ Blk W b 24 #[.int .i64 0, .int .i64 0, .slice none 0 0]
  | .addr t, v => ∃ b o, v = .pointer (some ⟨b, o, none⟩) ∧ Tr W F b o t
  | .any, _ => True
theorem Tr.kept {F : Nat → Prop} {W W' : World} {b o : Nat} {t : E} (h : Tr W F b o t) (hK : Kept No W W') : Tr W' F b o t := by
  obtain ⟨k, n, A, l, c, ⟨h0, h1, h2⟩, hr⟩ := h
  exact ⟨k, n, A, l, c, ⟨hK.cell h0 id, hK.cell h1 id, hK.cell h2 id⟩, hr.kept hK (fun _ _ _ => id)⟩
theorem Sh.kept {F : Nat → Prop} {W W' : World} (hK : Kept No W W') : ∀ (s : Sh) (v : Value), s.ok F W v → s.ok F W' v
  | .val _, _, h => h
  | .tree _, _, ⟨k, n, A, l, c, h, hr⟩ => ⟨k, n, A, l, c, h, hr.kept hK (fun _ _ _ => id)⟩
  | .row _, _, ⟨b, h, hF, hr⟩ => ⟨b, h, hF, fun j t hj => (hr j t hj).kept hK⟩
  | .fresh _, _, ⟨b, h, hlo, hB⟩ => ⟨b, h, hlo, hB.kept hK id⟩
  | .addr _, _, ⟨b, o, h, hr⟩ => ⟨b, o, h, hr.kept hK⟩
  | .any, _, _ => trivial

/-- What a closure leaves that has another expression. -/
def Made (w : World) (F : Nat → Prop) (t : E) (e : Ending) (w' : World) : Prop := ∃ k n A l c, e = .returned (.tuple #[.agg #[.int .i64 k, .int .i64 n, .slice A l c], .bool true]) ∧ Kept No w w' ∧ Rd w' (fun i => F i ∨ w.heap.size ≤ i) k n A l t.r
/-- .. and that has none. -/
def MadeNo (w : World) (e : Ending) (w' : World) : Prop := ∃ k n A l c, e = .returned (.tuple #[.agg #[.int .i64 k, .int .i64 n, .slice A l c], .bool false]) ∧ Kept No w w'

/-- The blocks in which the parts of what is made lie: not those of the closure's own variables. -/
def FN (F : Nat → Prop) (w : World) : Nat → Prop := fun i => (F i ∧ i < w.heap.size) ∨ w.heap.size + 2 ≤ i
theorem FN.ne {F : Nat → Prop} {w : World} {i : Nat} (h : FN F w i) : i ≠ w.heap.size + 1 := by rcases h with h | h <;> omega
theorem FN.out {F : Nat → Prop} {w : World} {i : Nat} (h : FN F w i) : F i ∨ w.heap.size ≤ i := by rcases h with h | h; exact .inl h.1; exact .inr (by omega)
theorem rd_in {F : Nat → Prop} {w W : World} {k n : Int} {A : Option Addr} {l : Nat} {t : R} (h : Rd w F k n A l t) (hK : Kept No w W) : Rd W (FN F w) k n A l t :=
  (h.all.mono (F' := FN F w) (fun _ _ h => .inl h)).kept hK (fun _ _ _ => id)

/-- The closure's argument and its result variable. -/
structure Ctx (w W : World) (k n : Int) (A : Option Addr) (l c : Nat) : Prop where
  kept : Kept No w W
  x : Blk W w.heap.size 24 #[.int .i64 k, .int .i64 n, .slice A l c]
  z : Blk W (w.heap.size + 1) 24 #[.int .i64 0, .int .i64 0, .slice none 0 0]
section
variable {w W W' : World} {k n : Int} {A : Option Addr} {l c : Nat} {F : Nat → Prop}
theorem Ctx.start (w : World) (k n : Int) (A : Option Addr) (l c : Nat) : Ctx w ((w.alloc (.cells #[.int .i64 k, .int .i64 n, .slice A l c] 24)).alloc (.cells #[.int .i64 0, .int .i64 0, .slice none 0 0] 24)) k n A l c :=
  ⟨((Kept.refl No w).alloc _).alloc _, (Blk.new w 24 _).alloc _, Blk.at_ (by simp)⟩
theorem Ctx.go (h : Ctx w W k n A l c) (hK : Kept No W W') : Ctx w W' k n A l c := ⟨h.kept.trans hK (fun _ _ h => h), h.x.kept hK id, h.z.kept hK id⟩
theorem Ctx.hF (h : Ctx w W k n A l c) : ∀ i, W.heap.size ≤ i → FN F w i := fun i hi => .inr (by have := h.z.lt; omega)
theorem Ctx.xs (h : Ctx w W k n A l c) : W.cell? ⟨w.heap.size, 0, none⟩ = some (.int .i64 k) ∧ W.cell? ⟨w.heap.size, 1, none⟩ = some (.int .i64 n) ∧ W.cell? ⟨w.heap.size, 2, none⟩ = some (.slice A l c) := ⟨h.x.cell 0, h.x.cell 1, h.x.cell 2⟩
theorem Ctx.zs (h : Ctx w W k n A l c) : W.frozen? ⟨w.heap.size + 1, 0, none⟩ = false ∧ W.frozen? ⟨w.heap.size + 1, 1, none⟩ = false ∧ W.frozen? ⟨w.heap.size + 1, 2, none⟩ = false ∧
    W.cell? ⟨w.heap.size + 1, 0, none⟩ = some (.int .i64 0) ∧ W.cell? ⟨w.heap.size + 1, 1, none⟩ = some (.int .i64 0) ∧ W.cell? ⟨w.heap.size + 1, 2, none⟩ = some (.slice none 0 0) ∧ w.heap.size + 1 < W.heap.size :=
  ⟨h.z.frozen 0, h.z.frozen 1, h.z.frozen 2, h.z.cell 0, h.z.cell 1, h.z.cell 2, h.z.lt⟩
theorem Ctx.made {k1 n1 : Int} {A1 : Option Addr} {l1 c1 : Nat} {t : E} (h : Ctx w W k n A l c) (hr : Rd W (FN F w) k1 n1 A1 l1 t.r) :
    Made w F t (.returned (.tuple #[.agg #[.int .i64 k1, .int .i64 n1, .slice A1 l1 c1], .bool true])) (((W.setCell ⟨w.heap.size + 1, 0, none⟩ (.int .i64 k1)).setCell ⟨w.heap.size + 1, 1, none⟩ (.int .i64 n1)).setCell ⟨w.heap.size + 1, 2, none⟩ (.slice A1 l1 c1)) :=
  ⟨k1, n1, A1, l1, c1, rfl, ((h.kept.new (b := w.heap.size + 1) (by omega) 0 _).new (b := w.heap.size + 1) (by omega) 1 _).new (b := w.heap.size + 1) (by omega) 2 _,
    (hr.kept ((((Kept.refl (One (w.heap.size + 1)) W).one 0 _).one 1 _).one 2 _) (fun j _ hj => one_ne hj.ne)).mono (fun _ _ h => h.out)⟩
theorem Ctx.no {k1 n1 : Int} {A1 : Option Addr} {l1 c1 : Nat} (h : Ctx w W k n A l c) :
    MadeNo w (.returned (.tuple #[.agg #[.int .i64 k1, .int .i64 n1, .slice A1 l1 c1], .bool false])) (((W.setCell ⟨w.heap.size + 1, 0, none⟩ (.int .i64 k1)).setCell ⟨w.heap.size + 1, 1, none⟩ (.int .i64 n1)).setCell ⟨w.heap.size + 1, 2, none⟩ (.slice A1 l1 c1)) :=
  ⟨k1, n1, A1, l1, c1, rfl, ((h.kept.new (b := w.heap.size + 1) (by omega) 0 _).new (b := w.heap.size + 1) (by omega) 1 _).new (b := w.heap.size + 1) (by omega) 2 _⟩

/-- The cells of two operands. -/
def K6 (W : World) (b o : Nat) (k1 n1 : Int) (A1 : Option Addr) (l1 c1 : Nat) (k2 n2 : Int) (A2 : Option Addr) (l2 c2 : Nat) : Prop :=
  W.cell? ⟨b, o, none⟩ = some (.int .i64 k1) ∧ W.cell? ⟨b, o + 1, none⟩ = some (.int .i64 n1) ∧ W.cell? ⟨b, o + 2, none⟩ = some (.slice A1 l1 c1) ∧
  W.cell? ⟨b, o + 3, none⟩ = some (.int .i64 k2) ∧ W.cell? ⟨b, o + 4, none⟩ = some (.int .i64 n2) ∧ W.cell? ⟨b, o + 5, none⟩ = some (.slice A2 l2 c2)
theorem K6.kept {S : Nat → Prop} {b o : Nat} {k1 n1 : Int} {A1 : Option Addr} {l1 c1 : Nat} {k2 n2 : Int} {A2 : Option Addr} {l2 c2 : Nat} (h : K6 W b o k1 n1 A1 l1 c1 k2 n2 A2 l2 c2) (hK : Kept S W W') (hS : ¬ S b) : K6 W' b o k1 n1 A1 l1 c1 k2 n2 A2 l2 c2 := by
  obtain ⟨h0, h1, h2, h3, h4, h5⟩ := h
  exact ⟨hK.cell h0 hS, hK.cell h1 hS, hK.cell h2 hS, hK.cell h3 hS, hK.cell h4 hS, hK.cell h5 hS⟩
theorem K6.lt {b o : Nat} {k1 n1 : Int} {A1 : Option Addr} {l1 c1 : Nat} {k2 n2 : Int} {A2 : Option Addr} {l2 c2 : Nat} (h : K6 W b o k1 n1 A1 l1 c1 k2 n2 A2 l2 c2) : b < W.heap.size := World.block_lt_of_cell? W _ h.1
theorem C3.kept {S : Nat → Prop} {b o : Nat} {k1 n1 : Int} {A1 : Option Addr} {l1 c1 : Nat} (h : W.cell? ⟨b, o, none⟩ = some (.int .i64 k1) ∧ W.cell? ⟨b, o + 1, none⟩ = some (.int .i64 n1) ∧ W.cell? ⟨b, o + 2, none⟩ = some (.slice A1 l1 c1)) (hK : Kept S W W') (hS : ¬ S b) :
    W'.cell? ⟨b, o, none⟩ = some (.int .i64 k1) ∧ W'.cell? ⟨b, o + 1, none⟩ = some (.int .i64 n1) ∧ W'.cell? ⟨b, o + 2, none⟩ = some (.slice A1 l1 c1) := ⟨hK.cell h.1 hS, hK.cell h.2.1 hS, hK.cell h.2.2 hS⟩

/-- An expression with two operands, opened. -/
theorem open_bin {o : O2} {kc : Int} (ho : o.code = kc) {a b : E} (h : Rd w F k n A l (E.bin o a b).r) : k = kc ∧ n = 0 ∧ l = 2 ∧ ∃ kb ko k1 n1 A1 l1 c1 k2 n2 A2 l2 c2, A = some ⟨kb, ko, none⟩ ∧ K6 w kb ko k1 n1 A1 l1 c1 k2 n2 A2 l2 c2 ∧ Rd w F k1 n1 A1 l1 a.r ∧ Rd w F k2 n2 A2 l2 b.r := by
  subst ho
  obtain ⟨rfl, rfl, rfl, kb, ko, k1, n1, A1, l1, c1, k2, n2, A2, l2, c2, rfl, hF, h0, h1, h2, hr1, h3, h4, h5, hr2⟩ := h
  exact ⟨rfl, rfl, rfl, kb, ko, k1, n1, A1, l1, c1, k2, n2, A2, l2, c2, rfl, ⟨h0, h1, h2, h3, h4, h5⟩, hr1, hr2⟩
theorem open_neg {a : E} (h : Rd w F k n A l (E.neg a).r) : k = 3 ∧ n = 0 ∧ l = 1 ∧ ∃ kb ko k1 n1 A1 l1 c1, A = some ⟨kb, ko, none⟩ ∧ (w.cell? ⟨kb, ko, none⟩ = some (.int .i64 k1) ∧ w.cell? ⟨kb, ko + 1, none⟩ = some (.int .i64 n1) ∧ w.cell? ⟨kb, ko + 2, none⟩ = some (.slice A1 l1 c1)) ∧ Rd w F k1 n1 A1 l1 a.r := by
  obtain ⟨rfl, rfl, rfl, kb, ko, k1, n1, A1, l1, c1, rfl, hF, h0, h1, h2, hr1⟩ := h
  exact ⟨rfl, rfl, rfl, kb, ko, k1, n1, A1, l1, c1, rfl, ⟨h0, h1, h2⟩, hr1⟩
theorem open_not {a : E} (h : Rd w F k n A l (E.not a).r) : k = 11 ∧ n = 0 ∧ l = 1 ∧ ∃ kb ko k1 n1 A1 l1 c1, A = some ⟨kb, ko, none⟩ ∧ (w.cell? ⟨kb, ko, none⟩ = some (.int .i64 k1) ∧ w.cell? ⟨kb, ko + 1, none⟩ = some (.int .i64 n1) ∧ w.cell? ⟨kb, ko + 2, none⟩ = some (.slice A1 l1 c1)) ∧ Rd w F k1 n1 A1 l1 a.r := by
  obtain ⟨rfl, rfl, rfl, kb, ko, k1, n1, A1, l1, c1, rfl, hF, h0, h1, h2, hr1⟩ := h
  exact ⟨rfl, rfl, rfl, kb, ko, k1, n1, A1, l1, c1, rfl, ⟨h0, h1, h2⟩, hr1⟩
end

/-- No part of an expression lies in a variable that still holds nothing. -/
theorem rd_nz {W : World} {p : Nat} (hB : Blk W p 24 #[.int .i64 0, .int .i64 0, .slice none 0 0]) (t : E) : ∀ {F : Nat → Prop} {k n : Int} {A : Option Addr} {l : Nat}, Rd W F k n A l t.r → Rd W (fun i => F i ∧ i ≠ p) k n A l t.r := by
  have hne : ∀ {b o : Nat} {F : Nat → Prop} {k1 n1 : Int} {A1 : Option Addr} {l1 c1 : Nat} {u : E}, W.cell? ⟨b, o, none⟩ = some (.int .i64 k1) → W.cell? ⟨b, o + 2, none⟩ = some (.slice A1 l1 c1) → Rd W F k1 n1 A1 l1 u.r → b ≠ p := by
    rintro b o F k1 n1 A1 l1 c1 u h0 h2 hr rfl
    have hk := hr.k_eq.1
    rw [E.r_k] at hk
    have hc := code_range u
    rw [hB.cell] at h0 h2
    match o, h0, h2 with
    | 0, h0, _ => simp at h0; omega
    | 1, h0, h2 => simp at h2
    | o + 2, h0, h2 => simp at h2
  induction t with
  | num m => intro F k n A l h; exact h
  | year => intro F k n A l h; exact h
  | neg a ih =>
    rintro F k n A l ⟨rfl, rfl, rfl, b, o, k1, n1, A1, l1, c1, rfl, hF, h0, h1, h2, hr⟩
    exact ⟨rfl, rfl, rfl, b, o, k1, n1, A1, l1, c1, rfl, ⟨hF, hne h0 h2 hr⟩, h0, h1, h2, ih hr⟩
  | not a ih =>
    rintro F k n A l ⟨rfl, rfl, rfl, b, o, k1, n1, A1, l1, c1, rfl, hF, h0, h1, h2, hr⟩
    exact ⟨rfl, rfl, rfl, b, o, k1, n1, A1, l1, c1, rfl, ⟨hF, hne h0 h2 hr⟩, h0, h1, h2, ih hr⟩
  | bin op x y ihx ihy =>
    rintro F k n A l ⟨rfl, rfl, rfl, b, o, k1, n1, A1, l1, c1, k2, n2, A2, l2, c2, rfl, hF, h0, h1, h2, hr, h3, h4, h5, hr2⟩
    exact ⟨rfl, rfl, rfl, b, o, k1, n1, A1, l1, c1, k2, n2, A2, l2, c2, rfl, ⟨hF, hne h0 h2 hr⟩, h0, h1, h2, ihx hr, h3, h4, h5, ihy hr2⟩

/-- Two variables of a closure, filled. -/
theorem st2 {w W : World} {k n : Int} {A : Option Addr} {l c : Nat} {p q : Nat} (hC : Ctx w W k n A l c) (hp : w.heap.size + 1 < p) (hq : w.heap.size + 1 < q) (hBp : Blk W p 24 #[.int .i64 0, .int .i64 0, .slice none 0 0]) (hBq : Blk W q 24 #[.int .i64 0, .int .i64 0, .slice none 0 0]) (hne : p ≠ q)
    (k1 n1 : Int) (A1 : Option Addr) (l1 c1 : Nat) (k2 n2 : Int) (A2 : Option Addr) (l2 c2 : Nat) :
    Ctx w ((((((W.setCell ⟨p, 0, none⟩ (.int .i64 k1)).setCell ⟨p, 1, none⟩ (.int .i64 n1)).setCell ⟨p, 2, none⟩ (.slice A1 l1 c1)).setCell ⟨q, 0, none⟩ (.int .i64 k2)).setCell ⟨q, 1, none⟩ (.int .i64 n2)).setCell ⟨q, 2, none⟩ (.slice A2 l2 c2)) k n A l c ∧
    ((((((W.setCell ⟨p, 0, none⟩ (.int .i64 k1)).setCell ⟨p, 1, none⟩ (.int .i64 n1)).setCell ⟨p, 2, none⟩ (.slice A1 l1 c1)).setCell ⟨q, 0, none⟩ (.int .i64 k2)).setCell ⟨q, 1, none⟩ (.int .i64 n2)).setCell ⟨q, 2, none⟩ (.slice A2 l2 c2)).heap.size = W.heap.size ∧
    Blk ((((((W.setCell ⟨p, 0, none⟩ (.int .i64 k1)).setCell ⟨p, 1, none⟩ (.int .i64 n1)).setCell ⟨p, 2, none⟩ (.slice A1 l1 c1)).setCell ⟨q, 0, none⟩ (.int .i64 k2)).setCell ⟨q, 1, none⟩ (.int .i64 n2)).setCell ⟨q, 2, none⟩ (.slice A2 l2 c2)) p 24 #[.int .i64 k1, .int .i64 n1, .slice A1 l1 c1] ∧
    Blk ((((((W.setCell ⟨p, 0, none⟩ (.int .i64 k1)).setCell ⟨p, 1, none⟩ (.int .i64 n1)).setCell ⟨p, 2, none⟩ (.slice A1 l1 c1)).setCell ⟨q, 0, none⟩ (.int .i64 k2)).setCell ⟨q, 1, none⟩ (.int .i64 n2)).setCell ⟨q, 2, none⟩ (.slice A2 l2 c2)) q 24 #[.int .i64 k2, .int .i64 n2, .slice A2 l2 c2] ∧
    ∀ (F : Nat → Prop) (k n : Int) (A : Option Addr) (l : Nat) (t : E), Rd W F k n A l t.r → Rd ((((((W.setCell ⟨p, 0, none⟩ (.int .i64 k1)).setCell ⟨p, 1, none⟩ (.int .i64 n1)).setCell ⟨p, 2, none⟩ (.slice A1 l1 c1)).setCell ⟨q, 0, none⟩ (.int .i64 k2)).setCell ⟨q, 1, none⟩ (.int .i64 n2)).setCell ⟨q, 2, none⟩ (.slice A2 l2 c2)) F k n A l t.r := by
  have h1 : Kept (One p) W (((W.setCell ⟨p, 0, none⟩ (.int .i64 k1)).setCell ⟨p, 1, none⟩ (.int .i64 n1)).setCell ⟨p, 2, none⟩ (.slice A1 l1 c1)) := (((Kept.refl _ W).one _ _).one _ _).one _ _
  have h2 : Kept (One q) (((W.setCell ⟨p, 0, none⟩ (.int .i64 k1)).setCell ⟨p, 1, none⟩ (.int .i64 n1)).setCell ⟨p, 2, none⟩ (.slice A1 l1 c1)) ((((((W.setCell ⟨p, 0, none⟩ (.int .i64 k1)).setCell ⟨p, 1, none⟩ (.int .i64 n1)).setCell ⟨p, 2, none⟩ (.slice A1 l1 c1)).setCell ⟨q, 0, none⟩ (.int .i64 k2)).setCell ⟨q, 1, none⟩ (.int .i64 n2)).setCell ⟨q, 2, none⟩ (.slice A2 l2 c2)) := (((Kept.refl _ _).one _ _).one _ _).one _ _
  have hP := ((hBp.set_ 0 (.int .i64 k1)).set_ 1 (.int .i64 n1)).set_ 2 (.slice A1 l1 c1)
  have hQ := (((hBq.kept h1 (one_ne (Ne.symm hne))).set_ 0 (.int .i64 k2)).set_ 1 (.int .i64 n2)).set_ 2 (.slice A2 l2 c2)
  refine ⟨⟨(hC.kept.trans h1 (fun i hi h => by unfold One at h; omega)).trans h2 (fun i hi h => by unfold One at h; omega), (hC.x.kept h1 (one_ne (by omega))).kept h2 (one_ne (by omega)), (hC.z.kept h1 (one_ne (by omega))).kept h2 (one_ne (by omega))⟩, by simp, hP.kept h2 (one_ne hne), hQ, ?_⟩
  intro F k n A l t hr
  have hr1 := rd_nz hBq t (rd_nz hBp t hr)
  have hr2 := (hr1.kept h1 (fun i _ hi => one_ne hi.1.2)).kept h2 (fun i _ hi => one_ne hi.2)
  exact hr2.mono (fun _ _ h => h.1.1)

/-- One variable of a closure, filled. -/
theorem st1 {w W : World} {k n : Int} {A : Option Addr} {l c : Nat} {p : Nat} (hC : Ctx w W k n A l c) (hp : w.heap.size + 1 < p) (hBp : Blk W p 24 #[.int .i64 0, .int .i64 0, .slice none 0 0])
    (k1 n1 : Int) (A1 : Option Addr) (l1 c1 : Nat) :
    Ctx w (((W.setCell ⟨p, 0, none⟩ (.int .i64 k1)).setCell ⟨p, 1, none⟩ (.int .i64 n1)).setCell ⟨p, 2, none⟩ (.slice A1 l1 c1)) k n A l c ∧
    Blk (((W.setCell ⟨p, 0, none⟩ (.int .i64 k1)).setCell ⟨p, 1, none⟩ (.int .i64 n1)).setCell ⟨p, 2, none⟩ (.slice A1 l1 c1)) p 24 #[.int .i64 k1, .int .i64 n1, .slice A1 l1 c1] ∧
    ∀ (F : Nat → Prop) (k n : Int) (A : Option Addr) (l : Nat) (t : E), Rd W F k n A l t.r → Rd (((W.setCell ⟨p, 0, none⟩ (.int .i64 k1)).setCell ⟨p, 1, none⟩ (.int .i64 n1)).setCell ⟨p, 2, none⟩ (.slice A1 l1 c1)) F k n A l t.r := by
  have h1 : Kept (One p) W (((W.setCell ⟨p, 0, none⟩ (.int .i64 k1)).setCell ⟨p, 1, none⟩ (.int .i64 n1)).setCell ⟨p, 2, none⟩ (.slice A1 l1 c1)) := (((Kept.refl _ W).one _ _).one _ _).one _ _
  refine ⟨⟨hC.kept.trans h1 (fun i hi h => by unfold One at h; omega), hC.x.kept h1 (one_ne (by omega)), hC.z.kept h1 (one_ne (by omega))⟩, ((hBp.set_ 0 (.int .i64 k1)).set_ 1 (.int .i64 n1)).set_ 2 (.slice A1 l1 c1), ?_⟩
  intro F k n A l t hr
  exact ((rd_nz hBp t hr).kept h1 (fun i _ hi => one_ne hi.2)).mono (fun _ _ h => h.1)

/-- An operation with two operands that stand in a row. -/
theorem op2_row (o : O2) {F : Nat → Prop} {k : Int} (hk : k = o.code) (W : World) (b : Nat) (t1 t2 : E) (hr : ∀ (j : Nat) (t : E), [t1, t2][j]? = some t → Tr W F b (3 * j) t) (hF : F b) :
    Calls Tryd.prog 19 #[.int .i64 k, .slice (some ⟨b, 0, none⟩) 2 2] W (ExprF W F (.bin o t1 t2)) := by
  subst hk
  refine (op_any _ _ _ _ _).mono ?_
  rintro e w1 ⟨rfl, hK⟩
  obtain ⟨k1, n1, A1, l1, c1, ⟨h0, h1, h2⟩, r1⟩ := hr 0 t1 rfl
  obtain ⟨k2, n2, A2, l2, c2, ⟨h3, h4, h5⟩, r2⟩ := hr 1 t2 rfl
  exact ⟨o.code, 0, _, 2, 2, rfl, Rd.mk2 hF (hK.cell h0 id) (hK.cell h1 id) (hK.cell h2 id) (r1.kept hK (fun _ _ _ => id)) (hK.cell h3 id) (hK.cell h4 id) (hK.cell h5 id) (r2.kept hK (fun _ _ _ => id)), hK⟩

/-- A copy. -/
theorem rule_F {F : Nat → Prop} (t : E) (k n : Int) (A : Option Addr) (l c : Nat) (w : World) (hr : Rd w F k n A l t.r) (hF : ∀ i, w.heap.size ≤ i → F i) : Calls Tryd.prog 23 #[.agg #[.int .i64 k, .int .i64 n, .slice A l c]] w (ExprF w F t) := by
  refine (rule_any t k n A l c w _ hr).mono ?_
  rintro e w1 ⟨a, k1, n1, A1, l1, c1, rfl, rfl, hT, _, hb, hK⟩
  exact ⟨k1, n1, A1, l1, c1, rfl, TV.rd hT (fun b hbm => hF b (hb b hbm)), hK⟩

/-- A row just built reads as its elements. -/
theorem row2_new {F : Nat → Prop} {W : World} {t1 t2 : E} {k1 n1 : Int} {A1 : Option Addr} {l1 c1 : Nat} {k2 n2 : Int} {A2 : Option Addr} {l2 c2 : Nat} (h1 : Rd W F k1 n1 A1 l1 t1.r) (h2 : Rd W F k2 n2 A2 l2 t2.r) (hF : ∀ i, W.heap.size ≤ i → F i) :
    Sh.ok F (W.alloc (.cells #[.int .i64 k1, .int .i64 n1, .slice A1 l1 c1, .int .i64 k2, .int .i64 n2, .slice A2 l2 c2] 24)) (.row [t1, t2]) (.slice (some ⟨W.heap.size, 0, none⟩) 2 2) := by
  have hB := Blk.new W 24 #[.int .i64 k1, .int .i64 n1, .slice A1 l1 c1, .int .i64 k2, .int .i64 n2, .slice A2 l2 c2]
  refine ⟨W.heap.size, rfl, hF _ (Nat.le_refl _), fun j t hj => ?_⟩
  match j, hj with
  | 0, hj => simp at hj; subst hj; exact ⟨k1, n1, A1, l1, c1, ⟨by rw [hB.cell]; rfl, by rw [hB.cell]; rfl, by rw [hB.cell]; rfl⟩, h1.alloc _⟩
  | 1, hj => simp at hj; subst hj; exact ⟨k2, n2, A2, l2, c2, ⟨by rw [hB.cell]; rfl, by rw [hB.cell]; rfl, by rw [hB.cell]; rfl⟩, h2.alloc _⟩
theorem blk_ne_new {W : World} {b : Nat} {t : TypeId} {cs : Array Value} (h : Blk W b t cs) : Value.pointer (some ⟨b, 0, none⟩) ≠ .pointer (some ⟨W.heap.size, 0, none⟩) := by
  have := h.lt
  intro h
  injection h with h
  injection h with h
  injection h with h
  omega

/-- An operation with two operands that stand in a new row, the row's number by another name. -/
theorem op2_at' (o : O2) {F : Nat → Prop} {k : Int} (hk : k = o.code) (W : World) {N : Nat} (hN : N = W.heap.size) (t1 t2 : E) (k1 n1 : Int) (A1 : Option Addr) (l1 c1 : Nat) (k2 n2 : Int) (A2 : Option Addr) (l2 c2 : Nat)
    (h1 : Rd W F k1 n1 A1 l1 t1.r) (h2 : Rd W F k2 n2 A2 l2 t2.r) (hF : F W.heap.size) :
    Calls Tryd.prog 19 #[.int .i64 k, .slice (some ⟨N, 0, none⟩) 2 2] (W.alloc (.cells #[.int .i64 k1, .int .i64 n1, .slice A1 l1 c1, .int .i64 k2, .int .i64 n2, .slice A2 l2 c2] 24)) (ExprF W F (.bin o t1 t2)) := by
  subst hN
  exact op2_at o hk W t1 t2 k1 n1 A1 l1 c1 k2 n2 A2 l2 c2 h1 h2 hF

end Go.Proofs.YtmjmcjcckncplaaDoor
