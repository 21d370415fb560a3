/- The plain laws that FnExactDropShadowed leans on. -/
import Derived.Test.YtflogiopajppiaaHDs
import Derived.Test.YtflogiopajppiaaPFnExactDropShadowedx3
import Derived.Test.YtflogiopajppiaaPFnExactDropShadowedx4
import Derived.Test.YtflogiopajppiaaPFnExactDropShadowedx5
import Derived.Test.YtflogiopajppiaaPFnExactDropShadowedx6
import Derived.Test.YtflogiopajppiaaPFnExactDropShadowedx7
import Derived.Test.YtflogiopajppiaaPFnExactDropShadowedx8
import Derived.Test.YtflogiopajppiaaPFnExactDropShadowedx9
namespace Go.Proofs.Ytflogiopajppiaa
open Go Go.RowKit Go.Proofs.YtflogiopajppiaaW.PrintWords Go.Proofs.YtflogiopajppiaaW.PrintLast Go.Proofs.YtflogiopajppiaaW.PrintMore Go.Proofs.Ytflogiopajppiaa.PFnExactDropShadowed
set_option linter.unusedVariables false
set_option linter.unusedSimpArgs false

/-- The order of texts, of numbers, of items. -/
def cmpS (a b : ByteArray) : Int := if Op.bytesLess a.toList b.toList = true then -1 else if a.toList = b.toList then 0 else 1
def cmpZ (a b : Int) : Int := if a < b then -1 else if a > b then 1 else 0
def cmpI (x y : S73) : Int := if cmpS x.f0 y.f0 = 0 then cmpZ y.f1 x.f1 else cmpS x.f0 y.f0

theorem cmpS_f (a b : ByteArray) : cmp_Compare_string.f a b = some (cmpS a b) := by
  unfold cmp_Compare_string.f cmp_isNaN_string.f cmpS
  simp only [Option.bind_some, bne_self_eq_false, if_false, Bool.false_eq_true]
  by_cases h : Op.bytesLess a.toList b.toList = true
  · rw [if_pos h, if_pos h]
  · rw [if_neg h, if_neg h]
    have h' := Bool.eq_false_iff.2 h
    by_cases q : a.toList = b.toList
    · rw [if_pos q, if_pos (by simp [q])]
    · rw [if_neg q, if_neg (by simp [h', q])]
theorem cmpZ_f (a b : Int) : cmp_Compare_int.f a b = some (cmpZ a b) := by
  unfold cmp_Compare_int.f cmp_isNaN_int.f cmpZ
  simp only [Option.bind_some, bne_self_eq_false, if_false, Bool.false_eq_true]
  by_cases h : a < b
  · rw [if_pos h, if_pos h]
  · rw [if_neg h, if_neg h]
    by_cases q : a > b
    · rw [if_pos q, if_pos q]
    · rw [if_neg q, if_neg q]
theorem or_f (x y : Int) : Alw fun k => cmp_Or_int.f k [x, y] = some (if x = 0 then y else x) := by
  refine ⟨3, fun k hk => ?_⟩
  obtain ⟨k, rfl⟩ : ∃ j, k = j + 3 := ⟨k - 3, by omega⟩
  unfold cmp_Or_int.f
  simp only [List.length_cons, List.length_nil, Nat.zero_add, Nat.reduceAdd]
  rw [show (((2 : Nat) : Int)) = 2 from rfl, cmp_Or_int.l0, if_pos (by decide), if_pos (by decide), if_pos (by simp)]
  by_cases hx : x = 0
  · rw [if_pos hx, if_pos (show rd [x, y] 0 = 0 from hx), show wrap64 (0 + 1) = 1 by unfold wrap64; omega, cmp_Or_int.l0, if_pos (by decide), if_pos (by decide), if_pos (by simp)]
    by_cases hy : y = 0
    · rw [if_pos (show rd [x, y] 1 = 0 from hy), show wrap64 (1 + 1) = 2 by unfold wrap64; omega, cmp_Or_int.l0, if_neg (by decide), hy]
    · rw [if_neg (show ¬ rd [x, y] 1 = 0 from hy)]
      rfl
  · rw [if_neg hx, if_neg (show ¬ rd [x, y] 0 = 0 from hx)]
    rfl
theorem order_i (x y : S73) : Alw fun k => impl_itemOrder.f k x.f0 x.f1 x.f2 x.f3 y.f0 y.f1 y.f2 y.f3 = some (cmpI x y) := by
  refine (or_f (cmpS x.f0 y.f0) (cmpZ y.f1 x.f1)).imp fun k h => ?_
  unfold impl_itemOrder.f cmpI
  rw [cmpS_f, cmpZ_f]
  simp only [Option.bind_some]
  rw [h]
  rfl

theorem order_s (x y : S73) : Alw fun k => spec_l4Compare.f k x.f0 x.f1 x.f2 x.f3 y.f0 y.f1 y.f2 y.f3 = some (cmpI x y) := by
  refine Alw.one fun k => ?_
  unfold spec_l4Compare.f cmpI cmpS
  by_cases h : Op.bytesLess x.f0.toList y.f0.toList = true
  · simp [h, spec_l4Compare.j0]
  · by_cases q : x.f0.toList = y.f0.toList
    · simp only [if_neg h, if_pos q, if_true, spec_l4Compare.j0, cmpZ, decide_eq_true_eq]
      by_cases h1 : x.f1 > y.f1
      · rw [if_pos h1, if_pos h1]
      · by_cases h2 : x.f1 = y.f1
        · rw [if_neg h1, if_pos h2, if_neg h1, if_neg (by omega)]
        · rw [if_neg h1, if_neg h2, if_neg h1, if_pos (by omega)]
    · simp [h, q, spec_l4Compare.j0]

def goodI (x : S73) : Bool := decide (1 ≤ (x.f0.size : Int) ∧ (x.f0.size : Int) ≤ 16) && decide (0 ≤ x.f1 ∧ x.f1 ≤ 1000000000) && decide (0 ≤ x.f2 ∧ x.f2 ≤ 1) && decide ((x.f3.size : Int) ≤ 40) && (decide (x.f2 = 1) || x.f3.toList == ([] : List UInt8))
/-- Item i is good, and above the one ahead of it. -/
def runOkAt (l : List S73) (i : Nat) : Bool := match l[i]? with
  | none => true
  | some x => goodI x && (if i = 0 then true else match l[i - 1]? with | none => true | some p => decide (cmpI p x < 0))
/-- From the i-th on. -/
def runFrom (l : List S73) : Nat → Nat → Bool
  | 0, _ => true
  | d + 1, i => runOkAt l i && runFrom l d (i + 1)
def goodR (l : List S73) : Bool := runFrom l l.length 0
theorem runOkAt_zero {l : List S73} (h : 0 < l.length) : runOkAt l 0 = goodI l[0] := by
  rw [runOkAt, List.getElem?_eq_getElem h]; simp
theorem runOkAt_succ {l : List S73} {j : Nat} (h : j + 1 < l.length) : runOkAt l (j + 1) = (goodI l[j + 1] && decide (cmpI l[j] l[j + 1] < 0)) := by
  rw [runOkAt, List.getElem?_eq_getElem h]
  simp only [Nat.add_sub_cancel, List.getElem?_eq_getElem (show j < l.length by omega)]
  simp

theorem in_s (a lo hi : Int) : spec_l1In.f a lo hi = some (decide (lo ≤ a ∧ a ≤ hi)) := by
  unfold spec_l1In.f
  by_cases h : a ≥ lo
  · rw [if_pos h]; congr 1; simp; omega
  · rw [if_neg h]; congr 1; simp; omega

theorem in_i (a lo hi : Int) : impl_in.f a lo hi = some (decide (lo ≤ a ∧ a ≤ hi)) := by
  unfold impl_in.f
  by_cases h : a ≥ lo
  · rw [if_pos h]; congr 1; simp; omega
  · rw [if_neg h]; congr 1; simp; omega

theorem good_s (x : S73) : spec_GoodItem.f x.f0 x.f1 x.f2 x.f3 = some (goodI x) := by
  unfold spec_GoodItem.f spec_l4Key.f spec_l4Seq.f goodI
  simp only [in_s, Option.bind_some]
  cases h1 : decide (1 ≤ (x.f0.size : Int) ∧ (x.f0.size : Int) ≤ 16) <;> cases h2 : decide (0 ≤ x.f1 ∧ x.f1 ≤ 1000000000) <;> cases h3 : decide (0 ≤ x.f2 ∧ x.f2 ≤ 1) <;> simp only [Bool.false_eq_true, if_false, if_true, Bool.false_and, Bool.true_and, Bool.and_false]
  by_cases h4 : (x.f3.size : Int) ≤ 40
  · by_cases h5 : x.f2 = 1
    · simp [h4, h5]
    · simp [h4, h5]
  · simp [h4]

theorem good_i (x : S73) : impl_GoodItem.f x.f0 x.f1 x.f2 x.f3 = some (goodI x) := by
  unfold impl_GoodItem.f impl_isKey.f impl_isSeq.f impl_isValue.f goodI
  simp only [in_i, Option.bind_some]
  cases h1 : decide (1 ≤ (x.f0.size : Int) ∧ (x.f0.size : Int) ≤ 16) <;> cases h2 : decide (0 ≤ x.f1 ∧ x.f1 ≤ 1000000000) <;> cases h3 : decide (0 ≤ x.f2 ∧ x.f2 ≤ 1) <;> simp only [Bool.false_eq_true, if_false, if_true, Bool.false_and, Bool.true_and, Bool.and_false]
  by_cases h4 : (x.f3.size : Int) ≤ 40
  · by_cases h5 : x.f2 = 1
    · simp [h4, h5]
    · simp [h4, h5]
  · simp [h4]

set_option maxHeartbeats 1000000 in
theorem goodR_s_go (l : List S73) (hl : l.length ≤ 4611686018427387904) : ∀ (d i : Nat), i + d = l.length → Alw fun k => spec_GoodRun.l0 k l l (l.length : Int) (i : Int) = some (runFrom l d i)
  | 0, i, h => Alw.one fun k => by rw [spec_GoodRun.l0, if_neg (by omega)]; rfl
  | d + 1, i, h => by
    have hi : i < l.length := by omega
    have ih := goodR_s_go l hl d (i + 1) (by omega)
    rw [runFrom]
    rcases i with _ | j
    · refine ih.succ fun k ih => ?_
      rw [spec_GoodRun.l0, if_pos (by omega), if_pos (by omega), if_pos (by omega), rdItemi_at hi, good_s, Option.bind_some, runOkAt_zero hi]
      cases hg : goodI l[0]
      · rw [if_neg (by decide)]; rfl
      · rw [if_pos rfl, if_neg (by omega), wS (by omega), ih]; rfl
    · have hj : j < l.length := by omega
      refine (ih.and (order_s l[j] l[j + 1])).succ fun k ⟨ih, ho⟩ => ?_
      rw [spec_GoodRun.l0, if_pos (by omega), if_pos (by omega), if_pos (by omega), rdItemi_at hi, good_s, Option.bind_some, runOkAt_succ hi]
      cases hg : goodI l[j + 1]
      · rw [if_neg (by decide)]; rfl
      · rw [if_pos rfl, if_pos (by omega), wP (by omega) (by omega), if_pos (by omega), if_pos (by omega)]
        simp only [Nat.add_sub_cancel]
        rw [rdItemi_at hj, ho, Option.bind_some]
        by_cases hc : cmpI l[j] l[j + 1] ≥ 0
        · rw [if_pos hc, decide_eq_false (by omega)]; rfl
        · rw [if_neg hc, decide_eq_true (by omega), wS (by omega), ih]; rfl
theorem goodR_s (l : List S73) (hl : l.length ≤ 4611686018427387904) : Alw fun k => spec_GoodRun.f k l = some (goodR l) := goodR_s_go l hl l.length 0 (by omega)

set_option maxHeartbeats 1000000 in
theorem goodR_i_go (l : List S73) (hl : l.length ≤ 4611686018427387904) : ∀ (d i : Nat), i + d = l.length → Alw fun k => impl_GoodRun.l0 k l l (l.length : Int) (i : Int) = some (runFrom l d i)
  | 0, i, h => Alw.one fun k => by rw [impl_GoodRun.l0, if_neg (by omega)]; rfl
  | d + 1, i, h => by
    have hi : i < l.length := by omega
    have ih := goodR_i_go l hl d (i + 1) (by omega)
    rw [runFrom]
    rcases i with _ | j
    · refine ih.succ fun k ih => ?_
      rw [impl_GoodRun.l0, if_pos (by omega), if_pos (by omega), if_pos (by omega), rdItemi_at hi, good_i, Option.bind_some, runOkAt_zero hi]
      cases hg : goodI l[0]
      · rw [if_neg (by decide)]; rfl
      · rw [if_pos rfl, if_neg (by omega), wS (by omega), ih]; rfl
    · have hj : j < l.length := by omega
      refine (ih.and (order_i l[j] l[j + 1])).succ fun k ⟨ih, ho⟩ => ?_
      rw [impl_GoodRun.l0, if_pos (by omega), if_pos (by omega), if_pos (by omega), rdItemi_at hi, good_i, Option.bind_some, runOkAt_succ hi]
      cases hg : goodI l[j + 1]
      · rw [if_neg (by decide)]; rfl
      · rw [if_pos rfl, if_pos (by omega), wP (by omega) (by omega), if_pos (by omega), if_pos (by omega)]
        simp only [Nat.add_sub_cancel]
        rw [rdItemi_at hj, ho, Option.bind_some]
        by_cases hc : cmpI l[j] l[j + 1] ≥ 0
        · rw [if_pos hc, decide_eq_false (by omega)]; rfl
        · rw [if_neg hc, decide_eq_true (by omega), wS (by omega), ih]; rfl
theorem goodR_i (l : List S73) (hl : l.length ≤ 4611686018427387904) : Alw fun k => impl_GoodRun.f k l = some (goodR l) := goodR_i_go l hl l.length 0 (by omega)

def okR (l : List S73) : Bool := goodR l && decide ((l.length : Int) ≤ 400)

theorem okR_s (l : List S73) (hl : l.length ≤ 4611686018427387904) : Alw fun k => spec_l8Run.f k l = some (okR l) := by
  refine (goodR_s l hl).imp fun k h => ?_
  unfold spec_l8Run.f okR
  rw [h]
  cases goodR l <;> simp

theorem okR_i (l : List S73) (hl : l.length ≤ 4611686018427387904) : Alw fun k => impl_runOk.f k l = some (okR l) := by
  refine (goodR_i l hl).imp fun k h => ?_
  unfold impl_runOk.f okR
  rw [h]
  by_cases hc : (l.length : Int) ≤ 400
  · rw [if_pos hc, decide_eq_true hc]; simp
  · rw [if_neg hc, decide_eq_false hc]; simp

theorem less_lt : ∀ a b : List UInt8, Op.bytesLess a b = decide (a < b)
  | [], [] => by simp [Op.bytesLess]
  | [], _ :: _ => by simp [Op.bytesLess]
  | _ :: _, [] => by simp [Op.bytesLess]
  | x :: a, y :: b => by
    rw [Op.bytesLess, less_lt a b]
    simp only [List.cons_lt_cons_iff]
    by_cases h1 : x < y <;> by_cases h2 : x = y <;> by_cases h3 : a < b <;> simp [h1, h2, h3]
theorem less_irrefl (a : List UInt8) : Op.bytesLess a a = false := by
  rw [less_lt]
  simp [List.lt_irrefl]
theorem less_trans {a b c : List UInt8} (h1 : Op.bytesLess a b = true) (h2 : Op.bytesLess b c = true) : Op.bytesLess a c = true := by
  rw [less_lt] at *
  simp at *
  exact List.lt_trans h1 h2
theorem less_asymm {a b : List UInt8} (h1 : Op.bytesLess a b = true) : Op.bytesLess b a = false := by
  cases h : Op.bytesLess b a
  · rfl
  · have := less_trans h1 h
    rw [less_irrefl] at this
    cases this
theorem less_total : ∀ {a b : List UInt8}, Op.bytesLess a b = false → a ≠ b → Op.bytesLess b a = true
  | [], [], _, h => absurd rfl h
  | [], _ :: _, h, _ => by simp [Op.bytesLess] at h
  | _ :: _, [], _, _ => by simp [Op.bytesLess]
  | x :: a, y :: b, h, hn => by
    simp only [Op.bytesLess, Bool.or_eq_false_iff, Bool.and_eq_false_iff, decide_eq_false_iff_not, UInt8.lt_iff_toNat_lt] at h
    simp only [Op.bytesLess, Bool.or_eq_true, Bool.and_eq_true, decide_eq_true_eq, beq_iff_eq, UInt8.lt_iff_toNat_lt]
    by_cases hxy : x = y
    · subst hxy
      have h2 : Op.bytesLess a b = false := by simpa using h.2
      exact .inr ⟨rfl, less_total h2 fun e => hn (by rw [e])⟩
    · have : x.toNat ≠ y.toNat := fun e => hxy (UInt8.toNat_inj.1 e)
      exact .inl (by omega)

/-- An item lies ahead of another one. -/
theorem cmpI_lt {x y : S73} : cmpI x y < 0 ↔ Op.bytesLess x.f0.toList y.f0.toList = true ∨ x.f0.toList = y.f0.toList ∧ y.f1 < x.f1 := by
  unfold cmpI cmpS cmpZ
  by_cases h : Op.bytesLess x.f0.toList y.f0.toList = true
  · simp [h]
  · by_cases q : x.f0.toList = y.f0.toList
    · by_cases g : y.f1 < x.f1
      · simp only [if_neg h, if_pos q, if_true, if_pos g]
        exact ⟨fun _ => .inr ⟨q, g⟩, fun _ => by decide⟩
      · by_cases g2 : y.f1 > x.f1
        · simp only [if_neg h, if_pos q, if_true, if_neg g, if_pos g2]
          simp [h, g]
        · simp only [if_neg h, if_pos q, if_true, if_neg g, if_neg g2]
          simp [h, g]
    · simp [h, q]
theorem cmpI_zero {x y : S73} : cmpI x y = 0 ↔ x.f0.toList = y.f0.toList ∧ x.f1 = y.f1 := by
  unfold cmpI cmpS cmpZ
  by_cases h : Op.bytesLess x.f0.toList y.f0.toList = true
  · have : x.f0.toList ≠ y.f0.toList := fun e => by rw [e, less_irrefl] at h; cases h
    simp [h, this]
  · by_cases q : x.f0.toList = y.f0.toList
    · by_cases g : y.f1 < x.f1
      · simp only [if_neg h, if_pos q, if_true, if_pos g]
        constructor
        · intro h; cases h
        · intro h; omega
      · by_cases g2 : y.f1 > x.f1
        · simp only [if_neg h, if_pos q, if_true, if_neg g, if_pos g2]
          constructor
          · intro h; cases h
          · intro h; omega
        · simp only [if_neg h, if_pos q, if_true, if_neg g, if_neg g2]
          simp [q]; omega
    · simp [h, q]
theorem cmpI_trans {x y z : S73} (h1 : cmpI x y < 0) (h2 : cmpI y z < 0) : cmpI x z < 0 := by
  rw [cmpI_lt] at *
  rcases h1 with h1 | ⟨h1, g1⟩ <;> rcases h2 with h2 | ⟨h2, g2⟩
  · exact .inl (less_trans h1 h2)
  · exact .inl (by rw [← h2]; exact h1)
  · exact .inl (by rw [h1]; exact h2)
  · exact .inr ⟨h1.trans h2, by omega⟩
def upI (p x : S73) : Bool := decide (cmpI p x < 0)
theorem up_lt {l : List S73} (h : ∀ j (hj : j + 1 < l.length), upI l[j] l[j + 1] = true) : ∀ (b a : Nat) (ha : a < b) (hb : b < l.length), cmpI (l[a]'(by omega)) l[b] < 0
  | 0, a, ha, hb => by omega
  | b + 1, a, ha, hb => by
    have h1 : cmpI l[b] l[b + 1] < 0 := by simpa [upI] using h b hb
    rcases Nat.lt_or_ge a b with h2 | h2
    · exact cmpI_trans (up_lt h b a h2 (by omega)) h1
    · obtain rfl : a = b := by omega
      exact h1

theorem runFrom_at {l : List S73} : ∀ (d i : Nat), runFrom l d i = true → ∀ j, i ≤ j → j < i + d → runOkAt l j = true
  | 0, i, _, j, h1, h2 => by omega
  | d + 1, i, h, j, h1, h2 => by
    rw [runFrom, Bool.and_eq_true] at h
    rcases Nat.eq_or_lt_of_le h1 with rfl | h3
    · exact h.1
    · exact runFrom_at d (i + 1) h.2 j h3 (by omega)
theorem goodR_good {l : List S73} (h : goodR l = true) (i : Nat) (hi : i < l.length) : goodI l[i] = true := by
  have h1 := runFrom_at _ _ h i (Nat.zero_le _) (by omega)
  rcases i with _ | j
  · rwa [runOkAt_zero hi] at h1
  · rw [runOkAt_succ hi, Bool.and_eq_true] at h1
    exact h1.1
theorem goodR_next {l : List S73} (h : goodR l = true) (j : Nat) (hj : j + 1 < l.length) : cmpI l[j] l[j + 1] < 0 := by
  have h1 := runFrom_at _ _ h (j + 1) (Nat.zero_le _) (by omega)
  rw [runOkAt_succ hj, Bool.and_eq_true] at h1
  simpa using h1.2
theorem goodR_lt {l : List S73} (h : goodR l = true) : ∀ (b a : Nat) (ha : a < b) (hb : b < l.length), cmpI (l[a]'(by omega)) l[b] < 0
  | 0, a, ha, _ => by omega
  | b + 1, a, ha, hb => by
    rcases Nat.lt_or_ge a b with h1 | h1
    · exact cmpI_trans (goodR_lt h b a h1 (by omega)) (goodR_next h b hb)
    · obtain rfl : a = b := by omega
      exact goodR_next h a hb
theorem eqI_refl (x : S73) : eqI x x = true := by simp [eqI]
theorem eqI_cmp {x y : S73} (h : eqI x y = true) : cmpI x y = 0 := by
  simp only [eqI, Bool.and_eq_true, beq_iff_eq] at h
  exact cmpI_zero.2 ⟨h.1, h.2.1⟩
theorem cmpI_flip {x y : S73} (h : cmpI x y < 0) : eqI y x = false := by
  cases hc : eqI y x
  · rfl
  · have h1 := cmpI_zero.1 (eqI_cmp hc)
    have h2 := cmpI_zero.2 ⟨h1.1.symm, h1.2.symm⟩
    omega
theorem cmpI_ne {x y : S73} (h : cmpI x y < 0) : eqI x y = false := by
  cases hc : eqI x y
  · rfl
  · have := eqI_cmp hc
    omega
theorem seen_ext (a : Int) : ∀ (l x : List S73), ∃ t, seenFrom a x l = x ++ t ∧ ∀ z ∈ t, z ∈ l
  | [], x => ⟨[], by simp [seenFrom], by simp⟩
  | y :: l, x => by
    have skip : ∃ t, seenFrom a x l = x ++ t ∧ ∀ z ∈ t, z ∈ y :: l := by
      obtain ⟨t, h1, h2⟩ := seen_ext a l x
      exact ⟨t, h1, fun z hz => List.mem_cons_of_mem _ (h2 z hz)⟩
    have take : ∃ t, seenFrom a (x ++ [y]) l = x ++ t ∧ ∀ z ∈ t, z ∈ y :: l := by
      obtain ⟨t, h1, h2⟩ := seen_ext a l (x ++ [y])
      refine ⟨y :: t, by rw [h1]; simp, fun z hz => ?_⟩
      rcases List.mem_cons.1 hz with rfl | hz
      · exact List.mem_cons_self
      · exact List.mem_cons_of_mem _ (h2 z hz)
    unfold seenFrom
    split
    · split
      · exact take
      · split
        · exact skip
        · exact take
    · exact skip
theorem seen_step (a : Int) (y : S73) (l x : List S73) (h : y.f1 ≤ a) : seenFrom a x (y :: l) = seenFrom a (x ++ [y]) l ∨ seenFrom a x (y :: l) = seenFrom a x l := by
  conv => rw [seenFrom, if_pos h]
  split
  · exact .inl rfl
  · split
    · rename_i z hz hc
      exact .inr rfl
    · exact .inl rfl
theorem hasI_mem {s : List S73} {y : S73} (h : y ∈ s) : hasI s y = true := by
  unfold hasI
  rw [List.any_eq_true]
  exact ⟨y, h, eqI_refl y⟩
theorem hasI_none {s : List S73} {y : S73} (h : ∀ z ∈ s, eqI y z = false) : hasI s y = false := by
  unfold hasI
  rw [List.any_eq_false]
  intro z hz
  rw [h z hz]
  decide
set_option maxHeartbeats 1000000 in
theorem drop_go (a : Int) (b : Bool) (l s : List S73) (hl : l.length ≤ 400) (hg : goodR l = true) (hs : s.length ≤ 400) : ∀ (d i : Nat) (x out : List S73), i + d = l.length → seenFrom a x (l.drop i) = s → (∀ z ∈ x, ∀ j (hj : j < l.length), i ≤ j → cmpI z l[j] < 0) → out.length ≤ i →
    Alw fun k => spec_l8Drop.l0 k a b out s (x.length : Int) l (l.length : Int) (i : Int) = some (out ++ (l.drop i).filter (fun z => !delI s a b z))
  | 0, i, x, out, h, hx, hz, ho => Alw.one fun k => by
    rw [spec_l8Drop.l0, if_neg (by omega), List.drop_eq_nil_of_le (by omega)]
    simp
  | d + 1, i, x, out, h, hx, hz, ho => by
    have hi : i < l.length := by omega
    have hgi := goodR_good hg i hi
    have hlt : ∀ j (hj : j < l.length), i < j → cmpI l[i] l[j] < 0 := fun j hj hij => goodR_lt hg j i hij hj
    rw [List.drop_eq_getElem_cons hi] at hx ⊢
    generalize hy : l[i] = y at *
    have hrest : ∀ z ∈ l.drop (i + 1), cmpI y z < 0 := fun z hz => by
      obtain ⟨n, hn, rfl⟩ := List.mem_iff_getElem.1 hz
      rw [List.getElem_drop]
      exact hlt _ _ (by omega)
    by_cases h1 : y.f1 > a
    · have e1 : delI s a b y = false := by unfold delI; rw [decide_eq_false (by omega)]; rfl
      have hx2 : seenFrom a x (l.drop (i + 1)) = s := by
        rw [← hx, seenFrom, if_neg (by omega)]
      refine (drop_go a b l s hl hg hs d (i + 1) x (out ++ [y]) (by omega) hx2 (fun z hz2 j hj hij => hz z hz2 j hj (by omega)) (by simp; omega)).succ fun k ih => ?_
      rw [spec_l8Drop.l0, if_pos (by omega), if_pos (by omega), if_pos (by omega), rdItemi_at hi, hy, if_pos h1, if_pos (by omega), wS (by omega), List.filter_cons, e1]
      refine Eq.trans ih ?_
      simp
    · have h1' : y.f1 ≤ a := by omega
      rcases seen_step a y (l.drop (i + 1)) x h1' with hp | hp
      · -- it is seen
        rw [hp] at hx
        obtain ⟨t, ht, _⟩ := seen_ext a (l.drop (i + 1)) (x ++ [y])
        have hst : s = x ++ y :: t := by rw [← hx, ht]; simp
        have hxl : x.length < s.length := by rw [hst]; simp
        have hsx : s[x.length] = y := by simp [hst]
        have hm : hasI s y = true := hasI_mem (by rw [hst]; simp)
        have hz2 : ∀ z ∈ x ++ [y], ∀ j (hj : j < l.length), i + 1 ≤ j → cmpI z l[j] < 0 := fun z hz3 j hj hij => by
          rcases List.mem_append.1 hz3 with h2 | h2
          · exact hz z h2 j hj (by omega)
          · rw [List.mem_singleton.1 h2]
            exact hlt j hj (by omega)
        have heq := eqI_refl y
        have ih1 := drop_go a b l s hl hg hs d (i + 1) (x ++ [y]) (out ++ [y]) (by omega) hx hz2 (by simp; omega)
        have ih2 := drop_go a b l s hl hg hs d (i + 1) (x ++ [y]) out (by omega) hx hz2 (by omega)
        have hJ : Alw fun k => spec_l8Drop.j1 k a b out s (x.length : Int) l (l.length : Int) (i : Int) true y.f0 y.f1 y.f2 y.f3 = some (out ++ (y :: l.drop (i + 1)).filter (fun z => !delI s a b z)) := by
          refine (ih1.and ih2).succ fun k ⟨g1, g2⟩ => ?_
          have hw : wrap64 ((x.length : Int) + 1) = ((x ++ [y]).length : Int) := by rw [wS (by omega)]; simp
          rw [spec_l8Drop.j1, if_pos rfl, hw, wS (by omega), List.filter_cons]
          cases b
          · have e1 : delI s a false y = false := by unfold delI; rw [hm]; simp
            rw [if_neg (by decide), if_pos (by omega), e1]
            refine Eq.trans g1 ?_
            simp
          · rw [if_pos rfl]
            by_cases hk : y.f2 = 1
            · have e1 : delI s a true y = false := by unfold delI; rw [hm, hk]; simp
              rw [if_pos hk, if_pos (by omega), e1]
              refine Eq.trans g1 ?_
              simp
            · have hk0 : y.f2 = 0 := by simp [goodI] at hgi; omega
              have e1 : delI s a true y = true := by unfold delI; rw [hm, hk0, decide_eq_true h1']; simp
              rw [if_neg hk, e1]
              exact g2
        refine hJ.succ fun k hJ => ?_
        unfold eqI at heq
        rw [spec_l8Drop.l0, if_pos (by omega), if_pos (by omega), if_pos (by omega), rdItemi_at hi, hy, if_neg h1, if_pos (by omega), if_pos (by omega), rdItemi_at hxl, hsx, heq]
        exact hJ
      · -- it is shadowed
        rw [hp] at hx
        obtain ⟨t, ht, htm⟩ := seen_ext a (l.drop (i + 1)) x
        have hst : s = x ++ t := by rw [← hx, ht]
        have hm : hasI s y = false := hasI_none fun z hz3 => by
          rw [hst] at hz3
          rcases List.mem_append.1 hz3 with h2 | h2
          · have := hz z h2 i hi (Nat.le_refl _)
            rw [hy] at this
            exact cmpI_flip this
          · exact cmpI_ne (hrest z (htm z h2))
        have e1 : delI s a b y = true := by unfold delI; rw [hm, decide_eq_true h1']; rfl
        have ih := drop_go a b l s hl hg hs d (i + 1) x out (by omega) hx (fun z hz2 j hj hij => hz z hz2 j hj (by omega)) (by omega)
        have hJ : Alw fun k => spec_l8Drop.j1 k a b out s (x.length : Int) l (l.length : Int) (i : Int) false y.f0 y.f1 y.f2 y.f3 = some (out ++ (y :: l.drop (i + 1)).filter (fun z => !delI s a b z)) := by
          refine ih.succ fun k g => ?_
          rw [spec_l8Drop.j1, if_neg (by decide), wS (by omega), List.filter_cons, e1]
          exact g
        refine hJ.succ fun k hJ => ?_
        rw [spec_l8Drop.l0, if_pos (by omega), if_pos (by omega), if_pos (by omega), rdItemi_at hi, hy, if_neg h1]
        by_cases hk : x.length < s.length
        · have hsm : s[x.length] ∈ t := by
            rw [List.mem_iff_getElem]
            refine ⟨0, by rw [hst, List.length_append] at hk; omega, ?_⟩
            simp [hst]
          have hne : eqI s[x.length] y = false := cmpI_flip (hrest _ (htm _ hsm))
          unfold eqI at hne
          rw [if_pos (by omega), if_pos (by omega), rdItemi_at hk, hne]
          exact hJ
        · rw [if_neg (by omega)]
          exact hJ
theorem drop_s (a : Int) (b : Bool) (l : List S73) (hr : okR l = true) : Alw fun k => spec_l8Drop.f k l a b = some (dropL l a b) := by
  have hr2 : goodR l = true ∧ l.length ≤ 400 := by
    unfold okR at hr
    simp at hr
    exact ⟨hr.1, by omega⟩
  have hs := seenL_len a l
  refine ((seen_s a l (by omega)).and (drop_go a b l (seenL a l) hr2.2 hr2.1 (by omega) l.length 0 [] [] (by omega) rfl (by simp) (by simp))).imp fun k ⟨h, g⟩ => ?_
  unfold spec_l8Drop.f
  rw [h, Option.bind_some]
  exact g
theorem isSeq_f (a : Int) : spec_l4Seq.f a = some (decide (0 ≤ a ∧ a ≤ 1000000000)) ∧ impl_isSeq.f a = some (decide (0 ≤ a ∧ a ≤ 1000000000)) := by
  unfold spec_l4Seq.f impl_isSeq.f
  rw [in_s, in_i]
  exact ⟨rfl, rfl⟩
def ansD (l : List S73) (a : Int) (b : Bool) : List S73 × Bool := if okR l = true ∧ 0 ≤ a ∧ a ≤ 1000000000 then (dropL l a b, true) else ([], false)
theorem okR_len {l : List S73} (h : okR l = true) : l.length ≤ 400 := by
  unfold okR at h
  simp at h
  omega
theorem ans_len (l : List S73) (a : Int) (b : Bool) : (ansD l a b).1.length ≤ 400 := by
  unfold ansD
  split
  · rename_i h
    have h1 := okR_len h.1
    have h2 := dropL_len l a b
    simp only
    omega
  · simp
theorem ans_s (l : List S73) (a : Int) (b : Bool) (hl : l.length ≤ 4611686018427387904) : Alw fun k => spec_DropShadowed.f k l a b = some (ansD l a b) := by
  have h1 := okR_s l hl
  cases hr : okR l
  · refine h1.imp fun k h => ?_
    unfold spec_DropShadowed.f ansD
    rw [h, hr]
    simp
  · by_cases hs : 0 ≤ a ∧ a ≤ 1000000000
    · refine (h1.and (drop_s a b l hr)).imp fun k ⟨h, g⟩ => ?_
      unfold spec_DropShadowed.f ansD
      rw [h, hr, Option.bind_some, if_pos rfl, (isSeq_f a).1, Option.bind_some, if_pos (by simpa using hs), g, Option.bind_some, if_pos ⟨rfl, hs⟩]
    · refine h1.imp fun k h => ?_
      unfold spec_DropShadowed.f ansD
      rw [h, hr, Option.bind_some, if_pos rfl, (isSeq_f a).1, Option.bind_some, if_neg (by simpa using hs), if_neg (fun h => hs h.2)]
theorem ans_i (l : List S73) (a : Int) (b : Bool) (hl : l.length ≤ 4611686018427387904) : Alw fun k => impl_DropShadowed.f k l a b = some (ansD l a b) := by
  have h1 := okR_i l hl
  cases hr : okR l
  · refine h1.imp fun k h => ?_
    unfold impl_DropShadowed.f ansD
    rw [h, hr]
    simp
  · by_cases hs : 0 ≤ a ∧ a ≤ 1000000000
    · refine h1.imp fun k h => ?_
      unfold impl_DropShadowed.f ansD
      rw [h, hr, Option.bind_some, if_pos rfl, (isSeq_f a).2, Option.bind_some, if_pos (by simpa using hs), impl_dropped.f, if_pos (by have := okR_len hr; omega), Option.bind_some, if_pos ⟨rfl, hs⟩]
    · refine h1.imp fun k h => ?_
      unfold impl_DropShadowed.f ansD
      rw [h, hr, Option.bind_some, if_pos rfl, (isSeq_f a).2, Option.bind_some, if_neg (by simpa using hs), if_neg (fun h => hs h.2)]

end Go.Proofs.Ytflogiopajppiaa
