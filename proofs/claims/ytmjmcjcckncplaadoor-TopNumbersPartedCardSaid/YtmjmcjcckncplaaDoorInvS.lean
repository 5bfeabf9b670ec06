/- A region that draws its order, walked once: one pure operation taken first; the store of the result among the operations whose order is open. -/
import Derived.Test.YtmjmcjcckncplaaDoorCtx
namespace Go.Proofs.YtmjmcjcckncplaaDoor
open Go.RowKit Go.BigFrame

section
variable {P : Program} {ops : Array Oper} {Q : Exit → Act → World → Prop}

/-- Each head but q has a later one, or the tail's first, that waits for it. -/
def sinkQ (ops : Array Oper) (n q : Nat) : Bool := (List.range n).all fun i => decide (i = q) || (List.range (n + 1)).any fun j => decide (i < j) && Region.waitsFor .any ops j i
def invBq (ops : Array Oper) (n q : Nat) : Bool :=
  decide (n < ops.size) && sinkQ ops n q && Region.chainB .any ops n && topoB ops n && Region.seqB .any ops (ops.size - n) n (headsDone n ops.size)

theorem ready_needs {listed : Array Bool} {t : Nat} (hr : t ∈ Region.ready .any ops listed) {i : Nat} (hw : Region.waitsFor .any ops t i = true) (hun : listed.getD i false = false) : False := by
  obtain ⟨_, ot, hot, hall⟩ := mem_ready.1 hr
  obtain ⟨o', ho', e, he, hb, hon⟩ := Region.waitsFor_spec hw
  obtain rfl := Option.some.inj (ho'.symm.trans hot)
  have h1 := hall e he hb
  rw [hon, hun] at h1
  cases h1
theorem tail_late {n q : Nat} {listed : Array Bool} (hs : sinkQ ops n q = true) (hc : Region.chainB .any ops n = true) (inv : HeadInv .any ops n listed) (hn : n < ops.size) :
    ∀ (d i : Nat), n - i = d → i < n → i ≠ q → listed.getD i true = false → (q < n → listed.getD q true = true) → ∀ t, n ≤ t → t ∉ Region.ready .any ops listed := by
  intro d
  induction d using Nat.strongRecOn with
  | _ d ih =>
    intro i hd hi hiq hun hq t ht hr
    have htl : t < ops.size := (Array.getElem?_eq_some_iff.1 (mem_ready.1 hr).2.choose_spec.1).1
    by_cases htn : t = n
    · subst htn
      have h1 := List.all_eq_true.1 hs i (List.mem_range.2 hi)
      simp only [Bool.or_eq_true, decide_eq_true_eq, hiq, false_or] at h1
      obtain ⟨j, hj, hj2⟩ := List.any_eq_true.1 h1
      simp only [Bool.and_eq_true, decide_eq_true_eq] at hj2
      have hjt := List.mem_range.1 hj
      by_cases hjn : j = t
      · subst hjn
        exact ready_needs hr hj2.2 (getD_both hun)
      · have hjun : listed.getD j true = false := by
          cases hb : listed.getD j true with
          | false => rfl
          | true =>
            obtain ⟨oj, hoj, e, he, hbd, hon⟩ := Region.waitsFor_spec hj2.2
            have hs2 : j < listed.size := by rw [inv.size]; omega
            have h2 := inv.closed j oj hoj (by simpa [hs2] using hb) e he hbd
            rw [hon, getD_both hun] at h2
            cases h2
        by_cases hjq : j = q
        · subst hjq
          rw [hq (by omega)] at hjun
          cases hjun
        · exact ih (t - j) (by omega) j rfl (by omega) hjq hjun hq t (Nat.le_refl _) hr
    · have h1 := List.all_eq_true.1 hc t (List.mem_range.2 htl)
      simp only [Bool.or_eq_true, decide_eq_true_eq] at h1
      rcases h1 with h1 | h1
      · omega
      · exact ready_needs hr h1 (getD_both (inv.tail (t - 1) (by omega) (by omega)))

theorem wpAny_invq {l : List Oper} {n q : Nat} (hn : n < l.toArray.size) (hs : sinkQ l.toArray n q = true) (hc : Region.chainB .any l.toArray n = true) (ht : topoB l.toArray n = true) (hq : Region.seqB .any l.toArray (l.toArray.size - n) n (headsDone n l.toArray.size) = true)
    (Φ : (Nat → Bool) → Act → World → Prop)
    (hstep : ∀ (i : Nat) (o : Oper) (S : Nat → Bool) (a : Act) (w : World), i < n → l[i]? = some o → S i = false → (∀ e ∈ o.after, Region.binds .any e = true → S e.on = true ∧ e.on < n) → Φ S a w → wpOp P l.toArray Q i (fun a' w' => Φ (fun j => decide (j = i) || S j) a' w') a w)
    (hend : ∀ (S : Nat → Bool) (a : Act) (w : World), (∀ i, i < n → S i = true) → Φ S a w → wpList P l.toArray Q (l.drop n) a w) :
    ∀ (u : Nat) (listed : Array Bool) (a : Act) (w : World), left n listed = u → HeadInv .any l.toArray n listed → (q < n → listed.getD q true = true) → Φ (fun j => listed.getD j false) a w → wpAny P .any l.toArray Q (u + (l.toArray.size - n)) listed a w
  | 0, listed, a, w, hu, inv, _, h => by
    have hall : ∀ i, i < n → listed.getD i true = true := by
      intro i hi
      cases hb : listed.getD i true with
      | true => rfl
      | false =>
        have : i ∈ (List.range n).filter fun i => !listed.getD i true := List.mem_filter.2 ⟨List.mem_range.2 hi, by simp [hb]⟩
        rw [List.length_eq_zero_iff.1 hu] at this
        cases this
    have hl := heads_all inv hall
    subst hl
    rw [Nat.zero_add]
    have hlen : (l.drop n).length = l.toArray.size - n := by simp
    have := wpAny_of_seq (P := P) (md := .any) (Q' := Q) (ops := l.toArray) (l.drop n) n (headsDone n l.toArray.size) a w (fun j => by simp [List.getElem?_drop]) (by rw [hlen]; exact hq)
      (hend (fun j => (headsDone n l.toArray.size).getD j false) a w (fun i hi => by
        have hi3 : i < l.toArray.size := by omega
        simp only [headsDone, Array.getD_eq_getD_getElem?, List.getElem?_toArray, List.getElem?_map, List.getElem?_range hi3, Option.map_some, Option.getD_some, decide_eq_true hi]) h)
    rwa [hlen] at this
  | u + 1, listed, a, w, hu, inv, hqd, h => by
    have hex : ∃ i, i < n ∧ listed.getD i true = false := by
      cases hf : (List.range n).filter fun i => !listed.getD i true with
      | nil => unfold left at hu; rw [hf] at hu; cases hu
      | cons i r =>
        have : i ∈ (List.range n).filter fun i => !listed.getD i true := by rw [hf]; exact List.mem_cons_self ..
        obtain ⟨h1, h2⟩ := List.mem_filter.1 this
        exact ⟨i, List.mem_range.1 h1, by simpa using h2⟩
    obtain ⟨i0, hi0, hun0⟩ := hex
    rw [show u + 1 + (l.toArray.size - n) = (u + (l.toArray.size - n)) + 1 by omega]
    refine ⟨fun h0 => absurd h0 (ready_some ht hn inv hi0 hun0), fun i hi => ?_⟩
    have hin : i < n := by
      rcases Nat.lt_or_ge i n with h | h
      · exact h
      · have hi0q : i0 ≠ q := by
          rintro rfl
          rw [hqd hi0] at hun0
          cases hun0
        exact absurd hi (tail_late hs hc inv hn _ i0 rfl hi0 hi0q hun0 hqd i h)
    obtain ⟨hun, o, ho, hall⟩ := mem_ready.1 hi
    have hsz : i < listed.size := by rw [inv.size]; omega
    have ho' : l[i]? = some o := by simpa using ho
    refine wpOp_mono (fun a' w' h' => ?_) (hstep i o (fun j => listed.getD j false) a w hin ho' (getD_both hun) (fun e he hb => ⟨hall e he hb, ?_⟩) h)
    · refine wpAny_invq hn hs hc ht hq Φ hstep hend u _ a' w' (by have := left_set hin hsz hun; omega) (inv.set hi hin) (fun hqn => by
        by_cases hiq : i = q
        · subst hiq; simp [hsz]
        · rw [getD_set_ne true hiq]; exact hqd hqn) ?_
      have : (fun j => (listed.setIfInBounds i true).getD j false) = fun j => decide (j = i) || listed.getD j false := by
        funext j
        by_cases hj : j = i
        · subst hj; simp [hsz]
        · rw [getD_set_ne false (fun h => hj h.symm)]; simp [hj]
      rw [this]; exact h'
    · have h1 := List.all_eq_true.1 ht i (List.mem_range.2 hin)
      rw [ho] at h1
      have h2 := Array.all_eq_true'.1 h1 e he
      simp only [Bool.or_eq_true, Bool.not_eq_true', decide_eq_true_eq] at h2
      rcases h2 with h2 | h2
      · rw [hb] at h2; cases h2
      · omega
end

theorem none_listed (m j : Nat) : (fun j => (Array.replicate m false).getD j false) j = true → False := fun hS => by
  have h1 := getD_replicate_false m j
  exact absurd (hS.symm.trans h1) (by simp)
theorem left_all {n m : Nat} (hn : n < m) : left n (Array.replicate m false) = n := by
  unfold left
  have : ((List.range n).filter fun i => !(Array.replicate m false).getD i true) = List.range n := by
    rw [List.filter_eq_self]
    intro i hi
    have hi := List.mem_range.1 hi
    have : i < m := by omega
    simp [this]
  rw [this, List.length_range]
theorem inv0 (ops : Array Oper) (n : Nat) : HeadInv .any ops n (Array.replicate ops.size false) :=
  ⟨by simp, fun j oj _ hl => (by rw [getD_replicate_false] at hl; cases hl), fun t _ ht => getD_in (by simpa using ht) (getD_replicate_false _ _)⟩

theorem wp_inv_core {P : Program} {Q : Exit → Act → World → Prop} {w : World} {l : List Oper} (n q : Nat) (D : List Nat) (hB : invBq l.toArray n q = true)
    (fr : (Nat → Value) → Act) (x0 : Nat → Value) (I : Nat → Value → World → Prop) (hmono : ∀ i v w w', Kept No w w' → I i v w → I i v w')
    (hsteps : StepsOk P l.toArray Q n D fr I w 0 (l.take n))
    (hend : ∀ (x : Nat → Value) (W : World), Kept No w W → (∀ i, i < n → I i (x i) W) → (∀ i j, i < n → j < n → i ∈ D → j ∈ D → i ≠ j → x i ≠ x j) → wpList P l.toArray Q (l.drop n) (fr x) W)
    (listed : Array Bool) (inv : HeadInv .any l.toArray n listed) (hqd : q < n → listed.getD q true = true) (w1 : World) (hK : Kept No w w1) (hI : ∀ j, j < n → listed.getD j false = true → I j (x0 j) w1) (hD : ∀ i j, i < n → j < n → listed.getD i false = true → listed.getD j false = true → i ∈ D → j ∈ D → i ≠ j → x0 i ≠ x0 j) :
    wpAny P .any l.toArray Q (left n listed + (l.toArray.size - n)) listed (fr x0) w1 := by
  simp only [invBq, Bool.and_eq_true, decide_eq_true_eq] at hB
  obtain ⟨⟨⟨⟨hn, hs⟩, hc⟩, ht⟩, hq⟩ := hB
  exact wpAny_invq (P := P) (Q := Q) hn hs hc ht hq (fun S a W => ∃ x, a = fr x ∧ Kept No w W ∧ (∀ j, j < n → S j = true → I j (x j) W) ∧ ∀ i j, i < n → j < n → S i = true → S j = true → i ∈ D → j ∈ D → i ≠ j → x i ≠ x j)
    (fun i o S a W hi ho _ hdep h => by
      obtain ⟨x, rfl, hK, hx, hD⟩ := h
      have hst := StepsOk.at hsteps i o (by rw [List.getElem?_take_of_lt hi]; exact ho)
      rw [Nat.zero_add] at hst
      refine wpOp_step (by simpa using ho) (fun K' hK' => ?_)
      refine hst.2 x S W hK hx (fun e he hb => (hdep e he hb).1) K' (fun v W' a' ha hKW hI hv => hK' _ _ ⟨put1 x i v, by rw [ha, hst.1], hK.trans hKW (fun _ _ h => h), fun j hj hS => ?_, fun p q hp hq hSp hSq hDp hDq hpq => ?_⟩)
      · unfold put1
        by_cases hji : j = i
        · subst hji; rw [if_pos rfl]; exact hI
        · rw [if_neg hji]
          exact hmono j _ _ _ hKW (hx j hj (by simpa [hji] using hS))
      · unfold put1
        by_cases hpi : p = i
        · subst hpi
          rw [if_pos rfl, if_neg (Ne.symm hpq)]
          exact (hv hDp q hq (by simpa [Ne.symm hpq] using hSq) hDq).symm
        · by_cases hqi : q = i
          · subst hqi
            rw [if_neg hpi, if_pos rfl]
            exact hv hDq p hp (by simpa [hpi] using hSp) hDp
          · rw [if_neg hpi, if_neg hqi]
            exact hD p q hp hq (by simpa [hpi] using hSp) (by simpa [hqi] using hSq) hDp hDq hpq)
    (fun S a W hall h => by
      obtain ⟨x, rfl, hK, hx, hD⟩ := h
      exact hend x W hK (fun i hi => hx i hi (hall i hi)) (fun i j hi hj => hD i j hi hj (hall i hi) (hall j hj)))
    _ listed (fr x0) w1 rfl inv hqd ⟨x0, rfl, hK, hI, hD⟩

/-- .. where one operation (q), that no other waits for in time, is taken first: it only hands a value on. -/
theorem wp_region_inv1 {P : Program} {id : Nat} {Q : Exit → Act → World → Prop} {w : World} {l : List Oper} (n q : Nat) (oq : Oper) (vq : Value) (hqn : q < n) (hm : P.follows .mixedOrders = true) (hB : invBq l.toArray n q = true) (hoq : l.toArray[q]? = some oq)
    (hs : Region.noSelect l.toArray = true) (hf : Region.free .any l.toArray (Array.replicate l.toArray.size false) q = true) (hrd : (Region.ready .any l.toArray (Array.replicate l.toArray.size false)).contains q = true)
    (fr : (Nat → Value) → Act) (x0 : Nat → Value) (I : Nat → Value → World → Prop) (hmono : ∀ i v w w', Kept No w w' → I i v w → I i v w')
    (hput : (fr x0).put oq.dst vq = fr (put1 x0 q vq)) (hQ : ∀ c a w, Q (.panic c) (a.put oq.dst vq) w → Q (.panic c) a w) (hy : Yields P l.toArray oq vq (fr x0)) (hIq : ∀ W, I q vq W)
    (hsteps : StepsOk P l.toArray Q n [] fr I w 0 (l.take n))
    (hend : ∀ (x : Nat → Value) (W : World), Kept No w W → (∀ i, i < n → I i (x i) W) → wpList P l.toArray Q (l.drop n) (fr x) W) :
    (Code.region id l.toArray true).wp P Q (fr x0) w := by
  have hn : n < l.toArray.size := by
    have := hB
    simp only [invBq, Bool.and_eq_true, decide_eq_true_eq] at this
    exact this.1.1.1.1
  refine wp_region_any hm ?_
  have hsz : q < (Array.replicate l.toArray.size false).size := by
    rw [Array.size_replicate]
    omega
  have hun : (Array.replicate l.toArray.size false).getD q true = false := getD_in hsz (getD_replicate_false _ _)
  have only : ∀ j, ((Array.replicate l.toArray.size false).setIfInBounds q true).getD j false = true → j = q := by
    intro j hj
    by_cases hjq : j = q
    · exact hjq
    · rw [getD_set_ne false (fun h => hjq h.symm), getD_replicate_false] at hj
      cases hj
  have hl1 := left_set hqn hsz hun
  rw [left_all hn] at hl1
  have H := wp_inv_core n q [] hB fr (put1 x0 q vq) I hmono hsteps (fun x W hK hx _ => hend x W hK hx) ((Array.replicate l.toArray.size false).setIfInBounds q true)
    ((inv0 _ n).set (by simpa using hrd) hqn) (fun _ => by simp at hsz; simp [hsz]) { w with drawn := w.drawn + 1 } (Kept.refl No w).drew
    (fun j _ hj => by obtain rfl := only j hj; unfold put1; rw [if_pos rfl]; exact hIq _) (fun i _ _ _ _ _ hi => by cases hi)
  have H2 := wpAny_take (P := P) (md := .any) hoq hs hf hrd hQ hy (by rw [hput]; exact H)
  rw [show left n ((Array.replicate l.toArray.size false).setIfInBounds q true) + (l.toArray.size - n) + 1 = l.toArray.size by omega] at H2
  exact H2

end Go.Proofs.YtmjmcjcckncplaaDoor

namespace Go.Proofs.YtmjmcjcckncplaaDoor
open Go.RowKit Go.BigFrame

/-- What a slot holds, in blocks of F alone. -/
def ok2 (F : Nat → Prop) (W : World) : Sh → Value → Prop
  | .addr t, v => ∃ b o, v = .pointer (some ⟨b, o, none⟩) ∧ F b ∧ Tr W F b o t
  | .fresh _, _ => False
  | s, v => s.ok F W v
theorem Tr.kept1 {F : Nat → Prop} {W W' : World} {z b o : Nat} {t : E} (hF : ∀ i, F i → i ≠ z) (hb : F b) (h : Tr W F b o t) (hK : Kept (One z) W W') : Tr W' F b o t := by
  obtain ⟨k, n, A, l, c, ⟨h0, h1, h2⟩, hr⟩ := h
  have hbz := one_ne (hF b hb)
  exact ⟨k, n, A, l, c, ⟨hK.cell h0 hbz, hK.cell h1 hbz, hK.cell h2 hbz⟩, hr.kept hK (fun i _ hi => one_ne (hF i hi))⟩
theorem ok2.kept {F : Nat → Prop} {W W' : World} {z : Nat} (hF : ∀ i, F i → i ≠ z) (hK : Kept (One z) W W') : ∀ (s : Sh) (v : Value), ok2 F W s v → ok2 F W' s v
  | .val _, _, h => h
  | .tree _, _, ⟨k, n, A, l, c, h, hr⟩ => ⟨k, n, A, l, c, h, hr.kept hK (fun i _ hi => one_ne (hF i hi))⟩
  | .row _, _, ⟨b, h, hb, hr⟩ => ⟨b, h, hb, fun j t hj => (hr j t hj).kept1 hF hb hK⟩
  | .fresh _, _, h => h
  | .addr _, _, ⟨b, o, h, hb, hr⟩ => ⟨b, o, h, hb, hr.kept1 hF hb hK⟩
  | .any, _, _ => trivial
/-- The result variable holds the tree. -/
def ZT (F : Nat → Prop) (z : Nat) (t : E) (W : World) : Prop := ∃ k n A l c, Blk W z 24 #[.int .i64 k, .int .i64 n, .slice A l c] ∧ Rd W F k n A l t.r
theorem ZT.kept {F : Nat → Prop} {z : Nat} {t : E} {W W' : World} (h : ZT F z t W) (hK : Kept No W W') : ZT F z t W' := by
  obtain ⟨k, n, A, l, c, hB, hr⟩ := h
  exact ⟨k, n, A, l, c, hB.kept hK id, hr.kept hK (fun _ _ _ => id)⟩

def StoreStep (P : Program) (ops : Array Oper) (Q : Exit → Act → World → Prop) (n q z : Nat) (F : Nat → Prop) (t : E) (sh : List Sh) (fr : (Nat → Value) → Act) (V : World) (i : Nat) (o : Oper) : Prop :=
  (∀ x v, (fr x).put o.dst v = fr (put1 x i v)) ∧
  ∀ (x : Nat → Value) (S : Nat → Bool) (W : World), Kept (One z) V W → (S q = false → Blk W z 24 #[.int .i64 0, .int .i64 0, .slice none 0 0]) → S i = false → (∀ j, j < n → j ≠ q → S j = true → ok2 F W (sh.getD j .any) (x j)) →
    (∀ e ∈ o.after, Region.binds .any e = true → S e.on = true) →
    ∀ K : Act → World → Prop, (if i = q then (∀ v W' a', a' = (fr x).put o.dst v → Kept (One z) W W' → ZT F z t W' → K a' W') else (∀ v W' a', a' = (fr x).put o.dst v → Kept No W W' → ok2 F W' (sh.getD i .any) v → K a' W')) →
    if Region.wanted o (yielded ops (fr x).tmps) = true then Oper.wp P o (fr x) W K Q else K ((fr x).put o.dst undef) W
def StoreSteps (P : Program) (ops : Array Oper) (Q : Exit → Act → World → Prop) (n q z : Nat) (F : Nat → Prop) (t : E) (sh : List Sh) (fr : (Nat → Value) → Act) (V : World) : Nat → List Oper → Prop
  | _, [] => True
  | i, o :: r => StoreStep P ops Q n q z F t sh fr V i o ∧ StoreSteps P ops Q n q z F t sh fr V (i + 1) r
theorem StoreSteps.at {P : Program} {ops : Array Oper} {Q : Exit → Act → World → Prop} {n q z : Nat} {F : Nat → Prop} {t : E} {sh : List Sh} {fr : (Nat → Value) → Act} {V : World} : ∀ {l : List Oper} {k : Nat}, StoreSteps P ops Q n q z F t sh fr V k l → ∀ (i : Nat) (o : Oper), l[i]? = some o → StoreStep P ops Q n q z F t sh fr V (k + i) o
  | [], _, _, i, o, h => by simp at h
  | a :: l, k, hs, i, o, h => by
    cases i with
    | zero => simp at h; subst h; exact hs.1
    | succ i =>
      have := StoreSteps.at hs.2 i o (by simpa using h)
      rwa [show k + 1 + i = k + (i + 1) by omega] at this

theorem wp_region_store {P : Program} {id : Nat} {Q : Exit → Act → World → Prop} {V : World} {l : List Oper} (n q z : Nat) (F : Nat → Prop) (t : E) (sh : List Sh) (hqn : q < n) (hF : ∀ i, F i → i ≠ z) (hz : Blk V z 24 #[.int .i64 0, .int .i64 0, .slice none 0 0])
    (hm : P.follows .mixedOrders = true) (hB : invBq l.toArray n n = true) (fr : (Nat → Value) → Act) (x0 : Nat → Value)
    (hsteps : StoreSteps P l.toArray Q n q z F t sh fr V 0 (l.take n))
    (hend : ∀ (x : Nat → Value) (W : World), Kept (One z) V W → ZT F z t W → (∀ i, i < n → i ≠ q → ok2 F W (sh.getD i .any) (x i)) → wpList P l.toArray Q (l.drop n) (fr x) W) :
    (Code.region id l.toArray true).wp P Q (fr x0) V := by
  simp only [invBq, Bool.and_eq_true, decide_eq_true_eq] at hB
  obtain ⟨⟨⟨⟨hn, hs⟩, hc⟩, ht⟩, hq⟩ := hB
  refine wp_region_any hm ?_
  have H := wpAny_invq (P := P) (Q := Q) hn hs hc ht hq (fun S a W => ∃ x, a = fr x ∧ Kept (One z) V W ∧ (S q = false → Blk W z 24 #[.int .i64 0, .int .i64 0, .slice none 0 0]) ∧ (S q = true → ZT F z t W) ∧ ∀ j, j < n → j ≠ q → S j = true → ok2 F W (sh.getD j .any) (x j))
    (fun i o S a W hi ho hSi hdep h => by
      obtain ⟨x, rfl, hK, hJ, hZ, hx⟩ := h
      have hst := StoreSteps.at hsteps i o (by rw [List.getElem?_take_of_lt hi]; exact ho)
      rw [Nat.zero_add] at hst
      refine wpOp_step (by simpa using ho) (fun K' hK' => ?_)
      refine hst.2 x S W hK hJ hSi hx (fun e he hb => (hdep e he hb).1) K' ?_
      by_cases hiq : i = q
      · rw [if_pos hiq]
        subst hiq
        refine fun v W' a' ha hKW hT => hK' _ _ ⟨put1 x i v, by rw [ha, hst.1], hK.trans hKW (fun _ _ h => h), fun h => by simp at h, fun _ => hT, fun j hj hji hS => ?_⟩
        unfold put1
        rw [if_neg hji]
        exact ok2.kept hF hKW _ _ (hx j hj hji (by simpa [hji] using hS))
      · rw [if_neg hiq]
        refine fun v W' a' ha hKW hI => hK' _ _ ⟨put1 x i v, by rw [ha, hst.1], hK.trans hKW (fun _ _ h => h.elim), fun h => (hJ (by simpa [Ne.symm hiq] using h)).kept hKW (fun h => h), fun h => (hZ (by simpa [Ne.symm hiq] using h)).kept hKW, fun j hj hjq hS => ?_⟩
        unfold put1
        by_cases hji : j = i
        · subst hji; rw [if_pos rfl]; exact hI
        · rw [if_neg hji]
          exact ok2.kept hF (hKW.more (fun _ _ h => h.elim)) _ _ (hx j hj hjq (by simpa [hji] using hS)))
    (fun S a W hall h => by
      obtain ⟨x, rfl, hK, _, hZ, hx⟩ := h
      exact hend x W hK (hZ (hall q hqn)) (fun i hi hiq => hx i hi hiq (hall i hi)))
    _ (Array.replicate l.toArray.size false) (fr x0) { V with drawn := V.drawn + 1 } rfl (inv0 _ n) (fun h => absurd h (Nat.lt_irrefl _)) ⟨x0, rfl, (Kept.refl _ V).drew, fun _ => hz.drew, fun h => (none_listed _ q h).elim, fun j _ _ hS => (none_listed _ j hS).elim⟩
  rw [left_all hn, show n + (l.toArray.size - n) = l.toArray.size by omega] at H
  exact H

end Go.Proofs.YtmjmcjcckncplaaDoor
