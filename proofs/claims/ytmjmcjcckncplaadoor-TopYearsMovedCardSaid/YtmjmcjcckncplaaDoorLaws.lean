/- What each law puts in the place of a part, and that it may stand for it. No program in sight. -/
import Derived.Test.YtmjmcjcckncplaaDoorFol
namespace Go.Proofs.YtmjmcjcckncplaaDoor

def byNeg (h : Int) (t : E) (_ : Bool) : Option E :=
  if h = 0 then some (.neg (.neg t)) else match t with
  | .bin .sub a b => if h = 1 then some (.bin .add a (.neg b)) else some (.neg (.bin .sub b a))
  | .neg a => some (.bin .sub (.num 0) a)
  | _ => none
def byRest (t : E) (_ : Bool) : Option E := match t with
  | .bin .mod a b => some (.bin .sub a (.bin .mul (.bin .div a b) b))
  | _ => none
def byCmp (d : Bool) (t : E) (_ : Bool) : Option E := match t with
  | .bin .less a b => some (if d then .bin .less (.num 0) (.bin .sub b a) else .not (.bin .or (.bin .less b a) (.bin .same a b)))
  | .bin .same a b => some (if d then .bin .same (.bin .sub a b) (.num 0) else .not (.bin .or (.bin .less a b) (.bin .less b a)))
  | _ => none
def byDen (t : E) (_ : Bool) : Option E := match t with
  | .not a => some (.bin .same a (.num 0))
  | .bin .and a b => some (.not (.bin .or (.not a) (.not b)))
  | .bin .or a b => some (.not (.bin .and (.not a) (.not b)))
  | _ => none
def byCnt (t : E) (_ : Bool) : Option E := match t with
  | .bin .and a b => some (.bin .mul (.not (.not a)) (.not (.not b)))
  | .bin .or a b => some (.bin .less (.num 0) (.bin .add (.not (.not a)) (.not (.not b))))
  | _ => none
def truthE (h : Int) (x : E) : E :=
  if h = 0 then .not (.not x) else if h = 1 then .bin .and x (.num 1) else if h = 2 then .bin .or (.num 0) x else if h = 3 then .bin .and x x else if h = 4 then .bin .or x x else if h = 5 then .not (.bin .same x (.num 0)) else .bin .mul x (.num 2)
def byTru (h : Int) (t : E) (tr : Bool) : Option E := if tr then some (truthE h t) else none
def absE (h : Int) (d x : E) : E :=
  if h = 0 then .bin .and x (.bin .or x d) else if h = 1 then .bin .or (.bin .and d x) x else .bin .and (.bin .or d (.not d)) x
def byAbs (h : Int) (d : E) (t : E) (tr : Bool) : Option E := if tr then some (absE h d t) else none
def numE (k m d n : Int) (x : E) : E :=
  if k = 0 then .bin .add (.num m) (.num (n - m)) else if k = 1 then .bin .sub (.num (n + d)) (.num d) else if k = 2 then .bin .add (.bin .mul (.num (n.tdiv d)) (.num d)) (.num (n.tmod d))
  else if k = 3 then .bin .add (.num 0) x else if k = 4 then .bin .sub x (.num 0) else if k = 5 then .bin .mul x (.num 1) else .bin .div x (.num 1)
/-- m: what is picked of n + 1 numbers. -/
def byNum (k d : Int) (m : Int → Int) (t : E) (_ : Bool) : Option E :=
  if 2 < k then some (numE k 0 0 0 t) else match t with
  | .num n => some (numE k (m n) d n t)
  | _ => none
def turns : O2 → Bool
  | .add => true | .mul => true | .same => true | .and => true | .or => true | _ => false
/-- The parts of an expression of the operation o. -/
def isOp (o : O2) : E → Option (E × E)
  | .bin p c d => if p = o then some (c, d) else none
  | _ => none
def turnE (g : Bool) (o : O2) (a b : E) : E :=
  if g = true ∧ o ≠ .same then (match isOp o a with
    | some (c, d) => .bin o c (.bin o d b)
    | none => match isOp o b with
      | some (c, d) => .bin o (.bin o a c) d
      | none => .bin o b a)
  else .bin o b a
def byTurn (g : Bool) (t : E) (_ : Bool) : Option E := match t with
  | .bin o a b => if turns o = true then some (turnE g o a b) else none
  | _ => none
/-- Whether o spreads over p. -/
def spreads : O2 → O2 → Bool
  | .mul, .add => true | .mul, .sub => true | .and, .or => true | .or, .and => true | _, _ => false
def spreadOver (o : O2) : E → Option (O2 × E × E)
  | .bin p c d => if spreads o p = true then some (p, c, d) else none
  | _ => none
def byDist (t : E) (_ : Bool) : Option E := match t with
  | .bin o a b => (match spreadOver o b with
    | some (p, c, d) => some (.bin p (.bin o a c) (.bin o a d))
    | none => match spreadOver o a with
      | some (p, c, d) => some (.bin p (.bin o b c) (.bin o b d))
      | none => none)
  | _ => none

section
variable {y : Int}

theorem two_truths {p q : Prop} [Decidable p] [Decidable q] {v : Int} (h : truth p = v) (hpq : q ↔ p) : (.ok (truth q) : Except Int Int) = .ok v := by rw [truth_congr hpq, h]

theorem law_neg (h : Int) : LawOk y (byNeg h) := by
  intro s s' tr x hb hx
  unfold byNeg at hb
  split at hb
  · injection hb with hb; subst hb
    rcases fit_cases (-x) with h1 | h1
    · exact .inl (neg_e (by rw [neg_ok hx, h1]))
    · rw [neg_ok (by rw [neg_ok hx, h1])]
      exact good_fit (by omega)
  · split at hb
    · obtain ⟨p, q, hp, hq, hf⟩ := valF_bin hx
      have hxx := fit_eq hf
      split at hb
      · injection hb with hb; subst hb
        rcases fit_cases (-q) with h1 | h1
        · exact .inl (bin_er hp (by rw [neg_ok hq, h1]))
        · rw [bin_ok hp (by rw [neg_ok hq, h1])]
          exact good_fit (by omega)
      · injection hb with hb; subst hb
        rcases fit_cases (q - p) with h1 | h1
        · exact .inl (neg_e (by rw [bin_ok hq hp]; exact h1))
        · rw [neg_ok (by rw [bin_ok hq hp]; exact h1)]
          exact good_fit (by omega)
    · obtain ⟨p, hp, hf⟩ := valF_neg hx
      have hxx := fit_eq hf
      injection hb with hb; subst hb
      rw [bin_ok (p := 0) (by simp [valF, fit]) hp]
      exact good_fit (by omega)
    · cases hb

theorem law_rest : LawOk y byRest := by
  intro s s' tr x hb hx
  unfold byRest at hb
  split at hb
  · rename_i a b
    injection hb with hb; subst hb
    obtain ⟨p, q, hp, hq, hf⟩ := valF_bin hx
    simp only [op2] at hf
    split at hf
    · cases hf
    · rename_i hq0
      have hxx := fit_eq hf
      have hd : valF y (.bin .div a b) = fit (p.fdiv q) := by rw [bin_ok hp hq]; simp only [op2, if_neg hq0]
      rcases fit_cases (p.fdiv q) with h1 | h1
      · exact .inl (bin_er hp (bin_el (by rw [hd, h1])))
      · have hm : valF y (.bin .mul (.bin .div a b) b) = fit (p.fdiv q * q) := by rw [bin_ok (by rw [hd, h1]) hq]; rfl
        rcases fit_cases (p.fdiv q * q) with h2 | h2
        · exact .inl (bin_er hp (by rw [hm, h2]))
        · rw [bin_ok hp (by rw [hm, h2])]
          exact good_fit (by rw [hxx, Int.fmod_def, Int.mul_comm])
  · cases hb

theorem law_cmp (d : Bool) : LawOk y (byCmp d) := by
  intro s s' tr x hb hx
  have h0 : valF y (.num 0) = .ok 0 := by simp [valF, fit]
  unfold byCmp at hb
  split at hb
  · injection hb with hb; subst hb
    obtain ⟨p, q, hp, hq, hf⟩ := valF_bin hx
    simp only [op2] at hf
    injection hf with hf
    split
    · rcases fit_cases (q - p) with h1 | h1
      · exact .inl (bin_er h0 (by rw [bin_ok hq hp]; exact h1))
      · rw [bin_ok h0 (by rw [bin_ok hq hp]; exact h1)]
        exact good_eq (two_truths hf (by omega))
    · rw [not_ok (bin_ok (bin_ok hq hp) (bin_ok hp hq))]
      exact good_eq (two_truths hf (by simp only [truth_eq, ne_eq]; omega))
  · injection hb with hb; subst hb
    obtain ⟨p, q, hp, hq, hf⟩ := valF_bin hx
    simp only [op2] at hf
    injection hf with hf
    split
    · rcases fit_cases (p - q) with h1 | h1
      · exact .inl (bin_el (by rw [bin_ok hp hq]; exact h1))
      · rw [bin_ok (by rw [bin_ok hp hq]; exact h1) h0]
        exact good_eq (two_truths hf (by omega))
    · rw [not_ok (bin_ok (bin_ok hp hq) (bin_ok hq hp))]
      exact good_eq (two_truths hf (by simp only [truth_eq, ne_eq]; omega))
  · cases hb

theorem law_den : LawOk y byDen := by
  intro s s' tr x hb hx
  have h0 : valF y (.num 0) = .ok 0 := by simp [valF, fit]
  unfold byDen at hb
  split at hb
  · injection hb with hb; subst hb
    obtain ⟨p, hp, hf⟩ := valF_not hx
    rw [bin_ok hp h0]
    exact good_eq (two_truths hf Iff.rfl)
  · injection hb with hb; subst hb
    obtain ⟨p, q, hp, hq, hf⟩ := valF_bin hx
    simp only [op2] at hf
    injection hf with hf
    rw [not_ok (bin_ok (not_ok hp) (not_ok hq))]
    exact good_eq (two_truths hf (by simp only [truth_eq, ne_eq]; omega))
  · injection hb with hb; subst hb
    obtain ⟨p, q, hp, hq, hf⟩ := valF_bin hx
    simp only [op2] at hf
    injection hf with hf
    rw [not_ok (bin_ok (not_ok hp) (not_ok hq))]
    exact good_eq (two_truths hf (by simp only [truth_eq, ne_eq]; omega))
  · cases hb

theorem truth_cases (p : Prop) [Decidable p] : (p ∧ truth p = 1) ∨ (¬ p ∧ truth p = 0) := by unfold truth; split <;> simp [*]

theorem law_cnt : LawOk y byCnt := by
  intro s s' tr x hb hx
  have h0 : valF y (.num 0) = .ok 0 := by simp [valF, fit]
  have hnn : ∀ {a : E} {p : Int}, valF y a = .ok p → ∃ u, valF y (.not (.not a)) = .ok u ∧ (u = 0 ∨ u = 1) ∧ (u = 0 ↔ p = 0) := by
    intro a p hp
    refine ⟨_, not_ok (not_ok hp), truth_range _, ?_⟩
    simp only [truth_eq]; omega
  unfold byCnt at hb
  split at hb
  · injection hb with hb; subst hb
    obtain ⟨p, q, hp, hq, hf⟩ := valF_bin hx
    simp only [op2] at hf
    injection hf with hf
    obtain ⟨u, hu, hu1, hu2⟩ := hnn hp
    obtain ⟨v, hv, hv1, hv2⟩ := hnn hq
    rw [bin_ok hu hv]
    refine good_fit ?_
    rcases truth_cases (p ≠ 0 ∧ q ≠ 0) with ⟨h1, h2⟩ | ⟨h1, h2⟩
    · have e1 : u = 1 := by omega
      have e2 : v = 1 := by omega
      subst e1 e2; omega
    · have : u = 0 ∨ v = 0 := by omega
      rcases this with rfl | rfl <;> simp <;> omega
  · injection hb with hb; subst hb
    obtain ⟨p, q, hp, hq, hf⟩ := valF_bin hx
    simp only [op2] at hf
    injection hf with hf
    obtain ⟨u, hu, hu1, hu2⟩ := hnn hp
    obtain ⟨v, hv, hv1, hv2⟩ := hnn hq
    rcases fit_cases (u + v) with h1 | h1
    · exact .inl (bin_er h0 (by rw [bin_ok hu hv]; exact h1))
    · rw [bin_ok h0 (by rw [bin_ok hu hv]; exact h1)]
      exact good_eq (two_truths hf (by omega))
  · cases hb

theorem good_truth {tr : Bool} (htr : tr = true) {x x' : Int} {r : Except Int Int} (h : r = .ok x') (h2 : x' = 0 ↔ x = 0) : Good tr x r := .inr ⟨x', h, .inr ⟨htr, h2⟩⟩

theorem law_tru (h : Int) : LawOk y (byTru h) := by
  intro s s' tr x hb hx
  have h0 : valF y (.num 0) = .ok 0 := by simp [valF, fit]
  have h1 : valF y (.num 1) = .ok 1 := by simp [valF, fit]
  have h2 : valF y (.num 2) = .ok 2 := by simp [valF, fit]
  unfold byTru at hb
  split at hb
  · rename_i htr
    injection hb with hb; subst hb
    unfold truthE
    split
    · exact good_truth htr (not_ok (not_ok hx)) (by simp only [truth_eq]; omega)
    split
    · exact good_truth htr (bin_ok hx h1) (by simp only [truth_eq]; omega)
    split
    · exact good_truth htr (bin_ok h0 hx) (by simp only [truth_eq]; omega)
    split
    · exact good_truth htr (bin_ok hx hx) (by simp only [truth_eq]; omega)
    split
    · exact good_truth htr (bin_ok hx hx) (by simp only [truth_eq]; omega)
    split
    · exact good_truth htr (not_ok (bin_ok hx h0)) (by simp only [truth_eq]; omega)
    · rcases fit_cases (x * 2) with h3 | h3
      · exact .inl (by rw [bin_ok hx h2]; exact h3)
      · exact good_truth htr (by rw [bin_ok hx h2]; exact h3) (by omega)
  · cases hb

theorem law_abs (h : Int) (d : E) (hd : ∃ p, valF y d = .ok p) : LawOk y (byAbs h d) := by
  intro s s' tr x hb hx
  obtain ⟨p, hp⟩ := hd
  unfold byAbs at hb
  split at hb
  · rename_i htr
    injection hb with hb; subst hb
    unfold absE
    split
    · exact good_truth htr (bin_ok hx (bin_ok hx hp)) (by simp only [truth_eq, ne_eq]; omega)
    split
    · exact good_truth htr (bin_ok (bin_ok hp hx) hx) (by simp only [truth_eq, ne_eq]; omega)
    · exact good_truth htr (bin_ok (bin_ok hp (not_ok hp)) hx) (by simp only [truth_eq, ne_eq]; omega)
  · cases hb

theorem num_cases (n : Int) : valF y (.num n) = .error 14 ∨ valF y (.num n) = .ok n := fit_cases n

theorem law_num (k d : Int) (m : Int → Int) : LawOk y (byNum k d m) := by
  intro s s' tr x hb hx
  have h0 : valF y (.num 0) = .ok 0 := by simp [valF, fit]
  have h1 : valF y (.num 1) = .ok 1 := by simp [valF, fit]
  unfold byNum at hb
  split at hb
  · rename_i hk
    injection hb with hb; subst hb
    unfold numE
    rw [if_neg (by omega), if_neg (by omega), if_neg (by omega)]
    split
    · rw [bin_ok h0 hx]; exact good_fit (by omega)
    split
    · rw [bin_ok hx h0]; exact good_fit (by omega)
    split
    · rw [bin_ok hx h1]; exact good_fit (by omega)
    · rw [bin_ok hx h1]; simp only [op2]; exact good_fit (by simp)
  · split at hb
    · rename_i n
      injection hb with hb; subst hb
      have hn : x = n := fit_eq hx
      subst hn
      unfold numE
      have pair : ∀ (o : O2) (a b : Int), Good tr x (op2 o a b) → Good tr x (valF y (.bin o (.num a) (.num b))) := by
        intro o a b hg
        rcases num_cases (y := y) a with h3 | h3
        · exact .inl (bin_el h3)
        · rcases num_cases (y := y) b with h4 | h4
          · exact .inl (bin_er h3 h4)
          · rw [bin_ok h3 h4]; exact hg
      split
      · exact pair _ _ _ (good_fit (by omega))
      split
      · exact pair _ _ _ (good_fit (by omega))
      split
      · have hdm : x.tdiv d * d + x.tmod d = x := by rw [Int.mul_comm]; exact Int.mul_tdiv_add_tmod x d
        rcases num_cases (y := y) (x.tdiv d) with h3 | h3
        · exact .inl (bin_el (bin_el h3))
        · rcases num_cases (y := y) d with h4 | h4
          · exact .inl (bin_el (bin_er h3 h4))
          · rcases fit_cases (x.tdiv d * d) with h5 | h5
            · exact .inl (bin_el (by rw [bin_ok h3 h4]; exact h5))
            · have h6 : valF y (.bin .mul (.num (x.tdiv d)) (.num d)) = .ok (x.tdiv d * d) := by rw [bin_ok h3 h4]; exact h5
              rcases num_cases (y := y) (x.tmod d) with h7 | h7
              · exact .inl (bin_er h6 h7)
              · rw [bin_ok h6 h7]; exact good_fit hdm
      · rename_i g1 g2 g3 g4
        have hk : k < 0 := by omega
        rw [if_neg (by omega), if_neg (by omega), if_neg (by omega), bin_ok hx h1]
        simp only [op2]; exact good_fit (by simp)
    · cases hb

theorem op2_err (o : O2) (p q : Int) (ho : turns o = true ∨ o = .sub) : op2 o p q = .error 14 ∨ ∃ u, op2 o p q = .ok u := by
  have hf : ∀ n, fit n = .error 14 ∨ ∃ u, fit n = .ok u := fun n => (fit_cases n).imp id (fun h => ⟨_, h⟩)
  cases o <;> simp [turns] at ho <;> simp only [op2] <;> first | exact hf _ | exact .inr ⟨_, rfl⟩

theorem op2_comm {o : O2} (ho : turns o = true) (p q : Int) : op2 o q p = op2 o p q := by
  cases o <;> simp [turns] at ho <;> simp only [op2]
  · rw [Int.add_comm]
  · rw [Int.mul_comm]
  · exact congrArg _ (truth_congr (by omega))
  · exact congrArg _ (truth_congr (by omega))
  · exact congrArg _ (truth_congr (by omega))

theorem op2_assoc_r {o : O2} (ho : turns o = true) (hs : o ≠ .same) {r s q p x u : Int} {tr : Bool} (h1 : op2 o r s = .ok p) (h2 : op2 o p q = .ok x) (h3 : op2 o s q = .ok u) : Good tr x (op2 o r u) := by
  cases o <;> simp [turns] at ho <;> simp only [op2] at h1 h2 h3 ⊢
  · have e1 := fit_eq h1; have e2 := fit_eq h2; have e3 := fit_eq h3
    exact good_fit (by omega)
  · have e1 := fit_eq h1; have e2 := fit_eq h2; have e3 := fit_eq h3
    exact good_fit (by rw [e2, e1, e3, Int.mul_assoc])
  · exact absurd rfl hs
  · injection h1 with h1; injection h2 with h2; injection h3 with h3
    subst h1 h3
    exact good_eq (two_truths h2 (by simp only [truth_eq, ne_eq]; omega))
  · injection h1 with h1; injection h2 with h2; injection h3 with h3
    subst h1 h3
    exact good_eq (two_truths h2 (by simp only [truth_eq, ne_eq]; omega))

theorem op2_assoc_l {o : O2} (ho : turns o = true) (hs : o ≠ .same) {r s q p x u : Int} {tr : Bool} (h1 : op2 o r s = .ok q) (h2 : op2 o p q = .ok x) (h3 : op2 o p r = .ok u) : Good tr x (op2 o u s) := by
  cases o <;> simp [turns] at ho <;> simp only [op2] at h1 h2 h3 ⊢
  · have e1 := fit_eq h1; have e2 := fit_eq h2; have e3 := fit_eq h3
    exact good_fit (by omega)
  · have e1 := fit_eq h1; have e2 := fit_eq h2; have e3 := fit_eq h3
    exact good_fit (by rw [e2, e1, e3, Int.mul_assoc])
  · exact absurd rfl hs
  · injection h1 with h1; injection h2 with h2; injection h3 with h3
    subst h1 h3
    exact good_eq (two_truths h2 (by simp only [truth_eq, ne_eq]; omega))
  · injection h1 with h1; injection h2 with h2; injection h3 with h3
    subst h1 h3
    exact good_eq (two_truths h2 (by simp only [truth_eq, ne_eq]; omega))

theorem isOp_some {o : O2} {a c d : E} (h : isOp o a = some (c, d)) : a = .bin o c d := by
  unfold isOp at h
  split at h
  · split at h
    · rename_i hp
      injection h with h; injection h with h1 h2
      rw [hp, h1, h2]
    · cases h
  · cases h
theorem spreadOver_some {o p : O2} {a c d : E} (h : spreadOver o a = some (p, c, d)) : a = .bin p c d ∧ spreads o p = true := by
  unfold spreadOver at h
  split at h
  · split at h
    · rename_i hp
      injection h with h; injection h with h0 h; injection h with h1 h2
      subst h0 h1 h2
      exact ⟨rfl, hp⟩
    · cases h
  · cases h

theorem law_turn (g : Bool) : LawOk y (byTurn g) := by
  intro s s' tr x hb hx
  unfold byTurn at hb
  split at hb
  · rename_i o a b
    split at hb
    · rename_i ho
      injection hb with hb; subst hb
      obtain ⟨p, q, hp, hq, hf⟩ := valF_bin hx
      have hsw : Good tr x (valF y (.bin o b a)) := good_eq (by rw [bin_ok hq hp, op2_comm ho, hf])
      unfold turnE
      split
      · rename_i hg
        split
        · rename_i c d hi
          have := isOp_some hi
          subst this
          obtain ⟨r, s, hr, hs, hf2⟩ := valF_bin hp
          rcases op2_err o s q (.inl ho) with h1 | ⟨u, h1⟩
          · exact .inl (bin_er hr (by rw [bin_ok hs hq, h1]))
          · rw [bin_ok hr (by rw [bin_ok hs hq, h1])]
            exact op2_assoc_r ho hg.2 hf2 hf h1
        · split
          · rename_i c d hi
            have := isOp_some hi
            subst this
            obtain ⟨r, s, hr, hs, hf2⟩ := valF_bin hq
            rcases op2_err o p r (.inl ho) with h1 | ⟨u, h1⟩
            · exact .inl (bin_el (by rw [bin_ok hp hr, h1]))
            · rw [bin_ok (by rw [bin_ok hp hr, h1]) hs]
              exact op2_assoc_l ho hg.2 hf2 hf h1
          · exact hsw
      · exact hsw
    · cases hb
  · cases hb

theorem dist {o p : O2} (h : spreads o p = true) {a c d : E} {u r s v x : Int} {tr : Bool} (ha : valF y a = .ok u) (hc : valF y c = .ok r) (hd : valF y d = .ok s) (h1 : op2 p r s = .ok v) (h2 : op2 o u v = .ok x) : Good tr x (valF y (.bin p (.bin o a c) (.bin o a d))) := by
  have ho : turns o = true := by cases o <;> cases p <;> simp [spreads] at h <;> rfl
  rcases op2_err o u r (.inl ho) with h3 | ⟨m, h3⟩
  · exact .inl (bin_el (by rw [bin_ok ha hc, h3]))
  · rcases op2_err o u s (.inl ho) with h4 | ⟨n, h4⟩
    · exact .inl (bin_er (by rw [bin_ok ha hc, h3]) (by rw [bin_ok ha hd, h4]))
    · rw [bin_ok (by rw [bin_ok ha hc, h3]) (by rw [bin_ok ha hd, h4])]
      cases o <;> cases p <;> simp [spreads] at h <;> simp only [op2] at h1 h2 h3 h4 ⊢
      · have e1 := fit_eq h1; have e2 := fit_eq h2; have e3 := fit_eq h3; have e4 := fit_eq h4
        exact good_fit (by rw [e2, e1, e3, e4, Int.mul_add])
      · have e1 := fit_eq h1; have e2 := fit_eq h2; have e3 := fit_eq h3; have e4 := fit_eq h4
        exact good_fit (by rw [e2, e1, e3, e4, Int.mul_sub])
      · injection h1 with h1; injection h2 with h2; injection h3 with h3; injection h4 with h4
        subst h1 h3 h4
        exact good_eq (two_truths h2 (by simp only [truth_eq, ne_eq]; omega))
      · injection h1 with h1; injection h2 with h2; injection h3 with h3; injection h4 with h4
        subst h1 h3 h4
        exact good_eq (two_truths h2 (by simp only [truth_eq, ne_eq]; omega))

theorem law_dist : LawOk y byDist := by
  intro s s' tr x hb hx
  unfold byDist at hb
  split at hb
  · rename_i o a b
    obtain ⟨p, q, hp, hq, hf⟩ := valF_bin hx
    split at hb
    · rename_i o2 c d hs
      injection hb with hb; subst hb
      obtain ⟨rfl, hsp⟩ := spreadOver_some hs
      obtain ⟨r, s, hr, hs2, hf2⟩ := valF_bin hq
      exact dist hsp hp hr hs2 hf2 hf
    · split at hb
      · rename_i o2 c d hs
        injection hb with hb; subst hb
        obtain ⟨rfl, hsp⟩ := spreadOver_some hs
        obtain ⟨r, s, hr, hs2, hf2⟩ := valF_bin hp
        have ho : turns o = true := by cases o <;> cases o2 <;> simp [spreads] at hsp <;> rfl
        exact dist hsp hq hr hs2 hf2 (by rw [op2_comm ho, hf])
      · cases hb
  · cases hb

/-! ### The years -/

/-- c in the place of each y. -/
def E.subst : E → E → E
  | .num n, _ => .num n
  | .year, c => c
  | .neg a, c => .neg (a.subst c)
  | .not a, c => .not (a.subst c)
  | .bin o a b, c => .bin o (a.subst c) (b.subst c)

theorem subst_good {y y' : Int} {c : E} (hc : Good false y (valF y' c)) (t : E) : ∀ v, valF y t = .ok v → Good false v (valF y' (t.subst c)) := by
  induction t with
  | num n => intro v hv; exact good_eq hv
  | year =>
    intro v hv
    have := fit_eq hv
    subst this; exact hc
  | neg a ih =>
    intro v hv
    obtain ⟨p, hp, hf⟩ := valF_neg hv
    rcases ih p hp with h | ⟨x', h, h2⟩
    · exact .inl (neg_e h)
    · have : x' = p := by rcases h2 with h2 | ⟨h2, _⟩; exact h2; cases h2
      subst this
      exact good_eq (by rw [E.subst, neg_ok h, hf])
  | not a ih =>
    intro v hv
    obtain ⟨p, hp, hf⟩ := valF_not hv
    rcases ih p hp with h | ⟨x', h, h2⟩
    · exact .inl (not_e h)
    · have : x' = p := by rcases h2 with h2 | ⟨h2, _⟩; exact h2; cases h2
      subst this
      exact good_eq (by rw [E.subst, not_ok h, hf])
  | bin o a b iha ihb =>
    intro v hv
    obtain ⟨p, q, hp, hq, hf⟩ := valF_bin hv
    rcases iha p hp with h | ⟨x', h, h2⟩
    · exact .inl (bin_el h)
    · have : x' = p := by rcases h2 with h2 | ⟨h2, _⟩; exact h2; cases h2
      subst this
      rcases ihb q hq with h3 | ⟨x2, h3, h4⟩
      · exact .inl (bin_er h h3)
      · have : x2 = q := by rcases h4 with h4 | ⟨h4, _⟩; exact h4; cases h4
        subst this
        exact good_eq (by rw [E.subst, bin_ok h h3, hf])

/-- What stands in the place of y when the year is moved. -/
def moved (later : Bool) (n : Int) : E := if later then .bin .sub .year (.num n) else .bin .add .year (.num n)
def movedYear (later : Bool) (n y : Int) : Int := if later then y + n else y - n
theorem same_moved {t : E} {y v n : Int} (later : Bool) (h : evalF t y = (v, 0)) : Same (t.subst (moved later n)) (movedYear later n y) v := by
  refine same_of_good (subst_good ?_ t v (evalF_ok h).2.2.2)
  cases later with
  | false =>
    show Good false y (valF (y - n) (.bin .add .year (.num n)))
    have h1 : valF (y - n) .year = fit (y - n) := rfl
    rcases fit_cases (y - n) with h2 | h2
    · exact .inl (bin_el (by rw [h1, h2]))
    · rcases num_cases (y := y - n) n with h3 | h3
      · exact .inl (bin_er (by rw [h1, h2]) h3)
      · rw [bin_ok (by rw [h1, h2]) h3]
        exact good_fit (by omega)
  | true =>
    show Good false y (valF (y + n) (.bin .sub .year (.num n)))
    have h1 : valF (y + n) .year = fit (y + n) := rfl
    rcases fit_cases (y + n) with h2 | h2
    · exact .inl (bin_el (by rw [h1, h2]))
    · rcases num_cases (y := y + n) n with h3 | h3
      · exact .inl (bin_er (by rw [h1, h2]) h3)
      · rw [bin_ok (by rw [h1, h2]) h3]
        exact good_fit (by omega)

/-- A year as an expression. -/
def yearE (y : Int) : E := if y < 0 then .neg (.num (-y)) else .num y
theorem same_written {t : E} {y v : Int} (other : Int) (h : evalF t y = (v, 0)) : Same (t.subst (yearE y)) other v := by
  obtain ⟨_, h1, h2, hv⟩ := evalF_ok h
  refine same_of_good (subst_good ?_ t v hv)
  unfold yearE
  split
  · rcases num_cases (y := other) (-y) with h3 | h3
    · exact .inl (neg_e h3)
    · rw [neg_ok h3]; exact good_fit (by omega)
  · exact good_fit rfl

end
end Go.Proofs.YtmjmcjcckncplaaDoor
