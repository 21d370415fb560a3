/- The plain laws that FnShadowed leans on. -/
import Derived.Test.YthfhhfnimffpdaaPuBShad
import Derived.Test.YthfhhfnimffpdaaPFnShadowedx3
import Derived.Test.YthfhhfnimffpdaaPFnShadowedx4
import Derived.Test.YthfhhfnimffpdaaPFnShadowedx5
import Derived.Test.YthfhhfnimffpdaaPFnShadowedx6
import Derived.Test.YthfhhfnimffpdaaPFnShadowedx7
import Derived.Test.YthfhhfnimffpdaaPFnShadowedx8
import Derived.Test.YthfhhfnimffpdaaPFnShadowedx9
import Derived.Test.YthfhhfnimffpdaaPFnShadowedx10
namespace Go.Proofs.Ythfhhfnimffpdaa
open Go Go.RowKit Go.Proofs.YthfhhfnimffpdaaW.PrintWords Go.Proofs.YthfhhfnimffpdaaW.PrintLast Go.Proofs.YthfhhfnimffpdaaW.PrintMore Go.Proofs.Ythfhhfnimffpdaa.PFnShadowed
set_option linter.unusedVariables false
set_option linter.unusedSimpArgs false

theorem rdItemi_at {l : List S50} {i : Nat} (h : i < l.length) : rd_T50 l (i : Int) = l[i] := getD_nat h _

theorem rdPairi_at {l : List S53} {i : Nat} (h : i < l.length) : rd_T53 l (i : Int) = l[i] := getD_nat h _

/-- The order of texts, of numbers, of items. -/
def cmpS (a b : ByteArray) : Int := if Op.bytesLess a.toList b.toList = true then -1 else if a.toList = b.toList then 0 else 1
def cmpZ (a b : Int) : Int := if a < b then -1 else if a > b then 1 else 0
def cmpI (x y : S50) : Int := if cmpS x.f0 y.f0 = 0 then cmpZ y.f1 x.f1 else cmpS x.f0 y.f0

theorem cmpS_f (a b : ByteArray) : cmp_Compare_string.f a b = some (cmpS a b) := by
  unfold cmp_Compare_string.f cmp_isNaN_string.f cmpS
  simp only [Option.bind_some, bne_self_eq_false, if_false, Bool.false_eq_true]
  by_cases h : Op.bytesLess a.toList b.toList = true
  · rw [if_pos h, if_pos h]
  · rw [if_neg h, if_neg h]
    have h' := Bool.eq_false_iff.2 h
    by_cases q : a.toList = b.toList
    · rw [if_pos q, if_pos (by simp [q])]
    · rw [if_neg q, if_neg (by simp [h', q])]
theorem cmpZ_f (a b : Int) : cmp_Compare_int.f a b = some (cmpZ a b) := by
  unfold cmp_Compare_int.f cmp_isNaN_int.f cmpZ
  simp only [Option.bind_some, bne_self_eq_false, if_false, Bool.false_eq_true]
  by_cases h : a < b
  · rw [if_pos h, if_pos h]
  · rw [if_neg h, if_neg h]
    by_cases q : a > b
    · rw [if_pos q, if_pos q]
    · rw [if_neg q, if_neg q]
theorem or_f (x y : Int) : Alw fun k => cmp_Or_int.f k [x, y] = some (if x = 0 then y else x) := by
  refine ⟨3, fun k hk => ?_⟩
  obtain ⟨k, rfl⟩ : ∃ j, k = j + 3 := ⟨k - 3, by omega⟩
  unfold cmp_Or_int.f
  simp only [List.length_cons, List.length_nil, Nat.zero_add, Nat.reduceAdd]
  rw [show (((2 : Nat) : Int)) = 2 from rfl, cmp_Or_int.l0, if_pos (by decide), if_pos (by decide), if_pos (by simp)]
  by_cases hx : x = 0
  · rw [if_pos hx, if_pos (show rd [x, y] 0 = 0 from hx), show wrap64 (0 + 1) = 1 by unfold wrap64; omega, cmp_Or_int.l0, if_pos (by decide), if_pos (by decide), if_pos (by simp)]
    by_cases hy : y = 0
    · rw [if_pos (show rd [x, y] 1 = 0 from hy), show wrap64 (1 + 1) = 2 by unfold wrap64; omega, cmp_Or_int.l0, if_neg (by decide), hy]
    · rw [if_neg (show ¬ rd [x, y] 1 = 0 from hy)]
      rfl
  · rw [if_neg hx, if_neg (show ¬ rd [x, y] 0 = 0 from hx)]
    rfl
theorem order_i (x y : S50) : Alw fun k => impl_itemOrder.f k x.f0 x.f1 x.f2 x.f3 y.f0 y.f1 y.f2 y.f3 = some (cmpI x y) := by
  refine (or_f (cmpS x.f0 y.f0) (cmpZ y.f1 x.f1)).imp fun k h => ?_
  unfold impl_itemOrder.f cmpI
  rw [cmpS_f, cmpZ_f]
  simp only [Option.bind_some]
  rw [h]
  rfl

theorem order_s (x y : S50) : Alw fun k => spec_l4Compare.f k x.f0 x.f1 x.f2 x.f3 y.f0 y.f1 y.f2 y.f3 = some (cmpI x y) := by
  refine Alw.one fun k => ?_
  unfold spec_l4Compare.f cmpI cmpS
  by_cases h : Op.bytesLess x.f0.toList y.f0.toList = true
  · simp [h, spec_l4Compare.j0]
  · by_cases q : x.f0.toList = y.f0.toList
    · simp only [if_neg h, if_pos q, if_true, spec_l4Compare.j0, cmpZ, decide_eq_true_eq]
      by_cases h1 : x.f1 > y.f1
      · rw [if_pos h1, if_pos h1]
      · by_cases h2 : x.f1 = y.f1
        · rw [if_neg h1, if_pos h2, if_neg h1, if_neg (by omega)]
        · rw [if_neg h1, if_neg h2, if_neg h1, if_pos (by omega)]
    · simp [h, q, spec_l4Compare.j0]

def goodI (x : S50) : Bool := decide (1 ≤ (x.f0.size : Int) ∧ (x.f0.size : Int) ≤ 16) && decide (0 ≤ x.f1 ∧ x.f1 ≤ 1000000000) && decide (0 ≤ x.f2 ∧ x.f2 ≤ 1) && decide ((x.f3.size : Int) ≤ 40) && (decide (x.f2 = 1) || x.f3.toList == ([] : List UInt8))
/-- Item i is good, and above the one ahead of it. -/
def runOkAt (l : List S50) (i : Nat) : Bool := match l[i]? with
  | none => true
  | some x => goodI x && (if i = 0 then true else match l[i - 1]? with | none => true | some p => decide (cmpI p x < 0))
/-- From the i-th on. -/
def runFrom (l : List S50) : Nat → Nat → Bool
  | 0, _ => true
  | d + 1, i => runOkAt l i && runFrom l d (i + 1)
def goodR (l : List S50) : Bool := runFrom l l.length 0
theorem runOkAt_zero {l : List S50} (h : 0 < l.length) : runOkAt l 0 = goodI l[0] := by
  rw [runOkAt, List.getElem?_eq_getElem h]; simp
theorem runOkAt_succ {l : List S50} {j : Nat} (h : j + 1 < l.length) : runOkAt l (j + 1) = (goodI l[j + 1] && decide (cmpI l[j] l[j + 1] < 0)) := by
  rw [runOkAt, List.getElem?_eq_getElem h]
  simp only [Nat.add_sub_cancel, List.getElem?_eq_getElem (show j < l.length by omega)]
  simp

theorem in_s (a lo hi : Int) : spec_l1In.f a lo hi = some (decide (lo ≤ a ∧ a ≤ hi)) := by
  unfold spec_l1In.f
  by_cases h : a ≥ lo
  · rw [if_pos h]; congr 1; simp; omega
  · rw [if_neg h]; congr 1; simp; omega

theorem in_i (a lo hi : Int) : impl_in.f a lo hi = some (decide (lo ≤ a ∧ a ≤ hi)) := by
  unfold impl_in.f
  by_cases h : a ≥ lo
  · rw [if_pos h]; congr 1; simp; omega
  · rw [if_neg h]; congr 1; simp; omega

theorem good_s (x : S50) : spec_GoodItem.f x.f0 x.f1 x.f2 x.f3 = some (goodI x) := by
  unfold spec_GoodItem.f spec_l4Key.f spec_l4Seq.f goodI
  simp only [in_s, Option.bind_some]
  cases h1 : decide (1 ≤ (x.f0.size : Int) ∧ (x.f0.size : Int) ≤ 16) <;> cases h2 : decide (0 ≤ x.f1 ∧ x.f1 ≤ 1000000000) <;> cases h3 : decide (0 ≤ x.f2 ∧ x.f2 ≤ 1) <;> simp only [Bool.false_eq_true, if_false, if_true, Bool.false_and, Bool.true_and, Bool.and_false]
  by_cases h4 : (x.f3.size : Int) ≤ 40
  · by_cases h5 : x.f2 = 1
    · simp [h4, h5]
    · simp [h4, h5]
  · simp [h4]

theorem good_i (x : S50) : impl_GoodItem.f x.f0 x.f1 x.f2 x.f3 = some (goodI x) := by
  unfold impl_GoodItem.f impl_isKey.f impl_isSeq.f impl_isValue.f goodI
  simp only [in_i, Option.bind_some]
  cases h1 : decide (1 ≤ (x.f0.size : Int) ∧ (x.f0.size : Int) ≤ 16) <;> cases h2 : decide (0 ≤ x.f1 ∧ x.f1 ≤ 1000000000) <;> cases h3 : decide (0 ≤ x.f2 ∧ x.f2 ≤ 1) <;> simp only [Bool.false_eq_true, if_false, if_true, Bool.false_and, Bool.true_and, Bool.and_false]
  by_cases h4 : (x.f3.size : Int) ≤ 40
  · by_cases h5 : x.f2 = 1
    · simp [h4, h5]
    · simp [h4, h5]
  · simp [h4]

set_option maxHeartbeats 1000000 in
theorem goodR_s_go (l : List S50) (hl : l.length ≤ 4611686018427387904) : ∀ (d i : Nat), i + d = l.length → Alw fun k => spec_GoodRun.l0 k l l (l.length : Int) (i : Int) = some (runFrom l d i)
  | 0, i, h => Alw.one fun k => by rw [spec_GoodRun.l0, if_neg (by omega)]; rfl
  | d + 1, i, h => by
    have hi : i < l.length := by omega
    have ih := goodR_s_go l hl d (i + 1) (by omega)
    rw [runFrom]
    rcases i with _ | j
    · refine ih.succ fun k ih => ?_
      rw [spec_GoodRun.l0, if_pos (by omega), if_pos (by omega), if_pos (by omega), rdItemi_at hi, good_s, Option.bind_some, runOkAt_zero hi]
      cases hg : goodI l[0]
      · rw [if_neg (by decide)]; rfl
      · rw [if_pos rfl, if_neg (by omega), wS (by omega), ih]; rfl
    · have hj : j < l.length := by omega
      refine (ih.and (order_s l[j] l[j + 1])).succ fun k ⟨ih, ho⟩ => ?_
      rw [spec_GoodRun.l0, if_pos (by omega), if_pos (by omega), if_pos (by omega), rdItemi_at hi, good_s, Option.bind_some, runOkAt_succ hi]
      cases hg : goodI l[j + 1]
      · rw [if_neg (by decide)]; rfl
      · rw [if_pos rfl, if_pos (by omega), wP (by omega) (by omega), if_pos (by omega), if_pos (by omega)]
        simp only [Nat.add_sub_cancel]
        rw [rdItemi_at hj, ho, Option.bind_some]
        by_cases hc : cmpI l[j] l[j + 1] ≥ 0
        · rw [if_pos hc, decide_eq_false (by omega)]; rfl
        · rw [if_neg hc, decide_eq_true (by omega), wS (by omega), ih]; rfl
theorem goodR_s (l : List S50) (hl : l.length ≤ 4611686018427387904) : Alw fun k => spec_GoodRun.f k l = some (goodR l) := goodR_s_go l hl l.length 0 (by omega)

set_option maxHeartbeats 1000000 in
theorem goodR_i_go (l : List S50) (hl : l.length ≤ 4611686018427387904) : ∀ (d i : Nat), i + d = l.length → Alw fun k => impl_GoodRun.l0 k l l (l.length : Int) (i : Int) = some (runFrom l d i)
  | 0, i, h => Alw.one fun k => by rw [impl_GoodRun.l0, if_neg (by omega)]; rfl
  | d + 1, i, h => by
    have hi : i < l.length := by omega
    have ih := goodR_i_go l hl d (i + 1) (by omega)
    rw [runFrom]
    rcases i with _ | j
    · refine ih.succ fun k ih => ?_
      rw [impl_GoodRun.l0, if_pos (by omega), if_pos (by omega), if_pos (by omega), rdItemi_at hi, good_i, Option.bind_some, runOkAt_zero hi]
      cases hg : goodI l[0]
      · rw [if_neg (by decide)]; rfl
      · rw [if_pos rfl, if_neg (by omega), wS (by omega), ih]; rfl
    · have hj : j < l.length := by omega
      refine (ih.and (order_i l[j] l[j + 1])).succ fun k ⟨ih, ho⟩ => ?_
      rw [impl_GoodRun.l0, if_pos (by omega), if_pos (by omega), if_pos (by omega), rdItemi_at hi, good_i, Option.bind_some, runOkAt_succ hi]
      cases hg : goodI l[j + 1]
      · rw [if_neg (by decide)]; rfl
      · rw [if_pos rfl, if_pos (by omega), wP (by omega) (by omega), if_pos (by omega), if_pos (by omega)]
        simp only [Nat.add_sub_cancel]
        rw [rdItemi_at hj, ho, Option.bind_some]
        by_cases hc : cmpI l[j] l[j + 1] ≥ 0
        · rw [if_pos hc, decide_eq_false (by omega)]; rfl
        · rw [if_neg hc, decide_eq_true (by omega), wS (by omega), ih]; rfl
theorem goodR_i (l : List S50) (hl : l.length ≤ 4611686018427387904) : Alw fun k => impl_GoodRun.f k l = some (goodR l) := goodR_i_go l hl l.length 0 (by omega)

def okR (l : List S50) : Bool := goodR l && decide ((l.length : Int) ≤ 400)

theorem okR_s (l : List S50) (hl : l.length ≤ 4611686018427387904) : Alw fun k => spec_l8Run.f k l = some (okR l) := by
  refine (goodR_s l hl).imp fun k h => ?_
  unfold spec_l8Run.f okR
  rw [h]
  cases goodR l <;> simp

theorem okR_i (l : List S50) (hl : l.length ≤ 4611686018427387904) : Alw fun k => impl_runOk.f k l = some (okR l) := by
  refine (goodR_i l hl).imp fun k h => ?_
  unfold impl_runOk.f okR
  rw [h]
  by_cases hc : (l.length : Int) ≤ 400
  · rw [if_pos hc, decide_eq_true hc]; simp
  · rw [if_neg hc, decide_eq_false hc]; simp

def pairI (x : S50) : S53 := ⟨x.f0, x.f3⟩
def visL (l : List S50) : List S53 := (l.filter fun x => decide (x.f2 = 1)).map pairI
theorem visL_pos {x : S50} {l : List S50} (h : x.f2 = 1) : visL (x :: l) = pairI x :: visL l := by simp [visL, h]
theorem visL_neg {x : S50} {l : List S50} (h : ¬ x.f2 = 1) : visL (x :: l) = visL l := by simp [visL, h]
theorem app_one {α : Type} (x : List α) (a : α) (r : List α) : some (x ++ [a] ++ r) = some (x ++ a :: r) := by simp
theorem visL_len (l : List S50) : (visL l).length ≤ l.length := by
  rw [visL, List.length_map]
  exact List.length_filter_le _ _

def inB (lo hi : ByteArray) (s : ByteArray) : Bool := !(Op.bytesLess s.toList lo.toList) && (hi.toList == ([] : List UInt8) || Op.bytesLess s.toList hi.toList)
def scanL (lo hi : ByteArray) (l : List S53) : List S53 := l.filter fun p => inB lo hi p.f0
theorem scanL_pos {lo hi : ByteArray} {p : S53} {l : List S53} (h : inB lo hi p.f0 = true) : scanL lo hi (p :: l) = p :: scanL lo hi l := by simp [scanL, h]
theorem scanL_neg {lo hi : ByteArray} {p : S53} {l : List S53} (h : inB lo hi p.f0 = false) : scanL lo hi (p :: l) = scanL lo hi l := by simp [scanL, h]
theorem scan_go (lo hi : ByteArray) (l : List S50) (hl : l.length ≤ 1000000) : ∀ (d i : Nat) (x : List S53), i + d = l.length → x.length ≤ i → Alw fun k => impl_scan.l0 k lo hi x l (l.length : Int) (i : Int) = some (x ++ scanL lo hi (visL (l.drop i)))
  | 0, i, x, h, hx => Alw.one fun k => by rw [impl_scan.l0, if_neg (by omega), List.drop_eq_nil_of_le (by omega)]; simp [visL, scanL]
  | d + 1, i, x, h, hx => by
    have hi' : i < l.length := by omega
    have ih1 := scan_go lo hi l hl d (i + 1) x (by omega) (by omega)
    have ih2 := scan_go lo hi l hl d (i + 1) (x ++ [pairI l[i]]) (by omega) (by simp; omega)
    refine (ih1.and ih2).succ fun k ⟨ih1, ih2⟩ => ?_
    rw [impl_scan.l0, if_pos (by omega), if_pos (by omega), if_pos (by omega), rdItemi_at hi', wS (by omega), List.drop_eq_getElem_cons hi']
    by_cases h1 : l[i].f2 = 1
    · rw [if_pos h1, visL_pos h1]
      by_cases h2 : Op.bytesLess l[i].f0.toList lo.toList = true
      · rw [if_pos h2, scanL_neg (by simp [inB, pairI, h2])]
        exact ih1
      · rw [if_neg h2]
        have h2' := Bool.eq_false_iff.2 h2
        by_cases h3 : hi.toList = ([] : List UInt8)
        · rw [if_pos h3, if_pos (by omega), scanL_pos (by simp [inB, pairI, h2', h3])]
          exact Eq.trans ih2 (app_one _ _ _)
        · rw [if_neg h3]
          by_cases h4 : Op.bytesLess l[i].f0.toList hi.toList = true
          · rw [if_pos h4, if_pos (by omega), scanL_pos (by simp [inB, pairI, h2', h4])]
            exact Eq.trans ih2 (app_one _ _ _)
          · rw [if_neg h4, scanL_neg (by simp [inB, pairI, Bool.eq_false_iff.2 h4]; simp [beq_eq_false_iff_ne, h3])]
            exact ih1
    · rw [if_neg h1, visL_neg h1]
      exact ih1
theorem scan_i (a : Int) (lo hi : ByteArray) (l : List S50) (hl : l.length ≤ 1000000) : Alw fun k => impl_scan.f k l lo hi a = some (scanL lo hi (visL (seenL a l))) := by
  have hs := seenL_len a l
  refine ((seen_i a l hl).and (scan_go lo hi (seenL a l) (by omega) (seenL a l).length 0 [] (by omega) (by simp))).imp fun k ⟨h, g⟩ => ?_
  unfold impl_scan.f
  rw [h, Option.bind_some]
  exact g
theorem scanL_len (lo hi : ByteArray) (l : List S53) : (scanL lo hi l).length ≤ l.length := List.length_filter_le _ _
theorem less_nil (a : List UInt8) : Op.bytesLess a [] = false := by cases a <;> rfl
theorem scanL_all (l : List S53) : scanL ⟨#[]⟩ ⟨#[]⟩ l = l := by
  rw [scanL, List.filter_eq_self]
  intro p _
  simp [inB, less_nil]

theorem less_lt : ∀ a b : List UInt8, Op.bytesLess a b = decide (a < b)
  | [], [] => by simp [Op.bytesLess]
  | [], _ :: _ => by simp [Op.bytesLess]
  | _ :: _, [] => by simp [Op.bytesLess]
  | x :: a, y :: b => by
    rw [Op.bytesLess, less_lt a b]
    simp only [List.cons_lt_cons_iff]
    by_cases h1 : x < y <;> by_cases h2 : x = y <;> by_cases h3 : a < b <;> simp [h1, h2, h3]
theorem less_irrefl (a : List UInt8) : Op.bytesLess a a = false := by
  rw [less_lt]
  simp [List.lt_irrefl]
theorem less_trans {a b c : List UInt8} (h1 : Op.bytesLess a b = true) (h2 : Op.bytesLess b c = true) : Op.bytesLess a c = true := by
  rw [less_lt] at *
  simp at *
  exact List.lt_trans h1 h2
theorem less_asymm {a b : List UInt8} (h1 : Op.bytesLess a b = true) : Op.bytesLess b a = false := by
  cases h : Op.bytesLess b a
  · rfl
  · have := less_trans h1 h
    rw [less_irrefl] at this
    cases this
theorem less_total : ∀ {a b : List UInt8}, Op.bytesLess a b = false → a ≠ b → Op.bytesLess b a = true
  | [], [], _, h => absurd rfl h
  | [], _ :: _, h, _ => by simp [Op.bytesLess] at h
  | _ :: _, [], _, _ => by simp [Op.bytesLess]
  | x :: a, y :: b, h, hn => by
    simp only [Op.bytesLess, Bool.or_eq_false_iff, Bool.and_eq_false_iff, decide_eq_false_iff_not, UInt8.lt_iff_toNat_lt] at h
    simp only [Op.bytesLess, Bool.or_eq_true, Bool.and_eq_true, decide_eq_true_eq, beq_iff_eq, UInt8.lt_iff_toNat_lt]
    by_cases hxy : x = y
    · subst hxy
      have h2 : Op.bytesLess a b = false := by simpa using h.2
      exact .inr ⟨rfl, less_total h2 fun e => hn (by rw [e])⟩
    · have : x.toNat ≠ y.toNat := fun e => hxy (UInt8.toNat_inj.1 e)
      exact .inl (by omega)

/-- An item lies ahead of another one. -/
theorem cmpI_lt {x y : S50} : cmpI x y < 0 ↔ Op.bytesLess x.f0.toList y.f0.toList = true ∨ x.f0.toList = y.f0.toList ∧ y.f1 < x.f1 := by
  unfold cmpI cmpS cmpZ
  by_cases h : Op.bytesLess x.f0.toList y.f0.toList = true
  · simp [h]
  · by_cases q : x.f0.toList = y.f0.toList
    · by_cases g : y.f1 < x.f1
      · simp only [if_neg h, if_pos q, if_true, if_pos g]
        exact ⟨fun _ => .inr ⟨q, g⟩, fun _ => by decide⟩
      · by_cases g2 : y.f1 > x.f1
        · simp only [if_neg h, if_pos q, if_true, if_neg g, if_pos g2]
          simp [h, g]
        · simp only [if_neg h, if_pos q, if_true, if_neg g, if_neg g2]
          simp [h, g]
    · simp [h, q]
theorem cmpI_zero {x y : S50} : cmpI x y = 0 ↔ x.f0.toList = y.f0.toList ∧ x.f1 = y.f1 := by
  unfold cmpI cmpS cmpZ
  by_cases h : Op.bytesLess x.f0.toList y.f0.toList = true
  · have : x.f0.toList ≠ y.f0.toList := fun e => by rw [e, less_irrefl] at h; cases h
    simp [h, this]
  · by_cases q : x.f0.toList = y.f0.toList
    · by_cases g : y.f1 < x.f1
      · simp only [if_neg h, if_pos q, if_true, if_pos g]
        constructor
        · intro h; cases h
        · intro h; omega
      · by_cases g2 : y.f1 > x.f1
        · simp only [if_neg h, if_pos q, if_true, if_neg g, if_pos g2]
          constructor
          · intro h; cases h
          · intro h; omega
        · simp only [if_neg h, if_pos q, if_true, if_neg g, if_neg g2]
          simp [q]; omega
    · simp [h, q]
theorem cmpI_trans {x y z : S50} (h1 : cmpI x y < 0) (h2 : cmpI y z < 0) : cmpI x z < 0 := by
  rw [cmpI_lt] at *
  rcases h1 with h1 | ⟨h1, g1⟩ <;> rcases h2 with h2 | ⟨h2, g2⟩
  · exact .inl (less_trans h1 h2)
  · exact .inl (by rw [← h2]; exact h1)
  · exact .inl (by rw [h1]; exact h2)
  · exact .inr ⟨h1.trans h2, by omega⟩
def upI (p x : S50) : Bool := decide (cmpI p x < 0)
theorem up_lt {l : List S50} (h : ∀ j (hj : j + 1 < l.length), upI l[j] l[j + 1] = true) : ∀ (b a : Nat) (ha : a < b) (hb : b < l.length), cmpI (l[a]'(by omega)) l[b] < 0
  | 0, a, ha, hb => by omega
  | b + 1, a, ha, hb => by
    have h1 : cmpI l[b] l[b + 1] < 0 := by simpa [upI] using h b hb
    rcases Nat.lt_or_ge a b with h2 | h2
    · exact cmpI_trans (up_lt h b a h2 (by omega)) h1
    · obtain rfl : a = b := by omega
      exact h1

theorem runFrom_at {l : List S50} : ∀ (d i : Nat), runFrom l d i = true → ∀ j, i ≤ j → j < i + d → runOkAt l j = true
  | 0, i, _, j, h1, h2 => by omega
  | d + 1, i, h, j, h1, h2 => by
    rw [runFrom, Bool.and_eq_true] at h
    rcases Nat.eq_or_lt_of_le h1 with rfl | h3
    · exact h.1
    · exact runFrom_at d (i + 1) h.2 j h3 (by omega)
theorem goodR_good {l : List S50} (h : goodR l = true) (i : Nat) (hi : i < l.length) : goodI l[i] = true := by
  have h1 := runFrom_at _ _ h i (Nat.zero_le _) (by omega)
  rcases i with _ | j
  · rwa [runOkAt_zero hi] at h1
  · rw [runOkAt_succ hi, Bool.and_eq_true] at h1
    exact h1.1
theorem goodR_next {l : List S50} (h : goodR l = true) (j : Nat) (hj : j + 1 < l.length) : cmpI l[j] l[j + 1] < 0 := by
  have h1 := runFrom_at _ _ h (j + 1) (Nat.zero_le _) (by omega)
  rw [runOkAt_succ hj, Bool.and_eq_true] at h1
  simpa using h1.2
theorem goodR_lt {l : List S50} (h : goodR l = true) : ∀ (b a : Nat) (ha : a < b) (hb : b < l.length), cmpI (l[a]'(by omega)) l[b] < 0
  | 0, a, ha, _ => by omega
  | b + 1, a, ha, hb => by
    rcases Nat.lt_or_ge a b with h1 | h1
    · exact cmpI_trans (goodR_lt h b a h1 (by omega)) (goodR_next h b hb)
    · obtain rfl : a = b := by omega
      exact goodR_next h a hb
theorem eqI_refl (x : S50) : eqI x x = true := by simp [eqI]
theorem eqI_cmp {x y : S50} (h : eqI x y = true) : cmpI x y = 0 := by
  simp only [eqI, Bool.and_eq_true, beq_iff_eq] at h
  exact cmpI_zero.2 ⟨h.1, h.2.1⟩
theorem cmpI_flip {x y : S50} (h : cmpI x y < 0) : eqI y x = false := by
  cases hc : eqI y x
  · rfl
  · have h1 := cmpI_zero.1 (eqI_cmp hc)
    have h2 := cmpI_zero.2 ⟨h1.1.symm, h1.2.symm⟩
    omega
theorem cmpI_ne {x y : S50} (h : cmpI x y < 0) : eqI x y = false := by
  cases hc : eqI x y
  · rfl
  · have := eqI_cmp hc
    omega
theorem seen_ext (a : Int) : ∀ (l x : List S50), ∃ t, seenFrom a x l = x ++ t ∧ ∀ z ∈ t, z ∈ l
  | [], x => ⟨[], by simp [seenFrom], by simp⟩
  | y :: l, x => by
    have skip : ∃ t, seenFrom a x l = x ++ t ∧ ∀ z ∈ t, z ∈ y :: l := by
      obtain ⟨t, h1, h2⟩ := seen_ext a l x
      exact ⟨t, h1, fun z hz => List.mem_cons_of_mem _ (h2 z hz)⟩
    have take : ∃ t, seenFrom a (x ++ [y]) l = x ++ t ∧ ∀ z ∈ t, z ∈ y :: l := by
      obtain ⟨t, h1, h2⟩ := seen_ext a l (x ++ [y])
      refine ⟨y :: t, by rw [h1]; simp, fun z hz => ?_⟩
      rcases List.mem_cons.1 hz with rfl | hz
      · exact List.mem_cons_self
      · exact List.mem_cons_of_mem _ (h2 z hz)
    unfold seenFrom
    split
    · split
      · exact take
      · split
        · exact skip
        · exact take
    · exact skip
theorem seen_step (a : Int) (y : S50) (l x : List S50) (h : y.f1 ≤ a) : seenFrom a x (y :: l) = seenFrom a (x ++ [y]) l ∨ seenFrom a x (y :: l) = seenFrom a x l := by
  conv => rw [seenFrom, if_pos h]
  split
  · exact .inl rfl
  · split
    · rename_i z hz hc
      exact .inr rfl
    · exact .inl rfl
theorem hasI_mem {s : List S50} {y : S50} (h : y ∈ s) : hasI s y = true := by
  unfold hasI
  rw [List.any_eq_true]
  exact ⟨y, h, eqI_refl y⟩
theorem hasI_none {s : List S50} {y : S50} (h : ∀ z ∈ s, eqI y z = false) : hasI s y = false := by
  unfold hasI
  rw [List.any_eq_false]
  intro z hz
  rw [h z hz]
  decide
set_option maxHeartbeats 1000000 in
theorem drop_go (a : Int) (b : Bool) (l s : List S50) (hl : l.length ≤ 400) (hg : goodR l = true) (hs : s.length ≤ 400) : ∀ (d i : Nat) (x out : List S50), i + d = l.length → seenFrom a x (l.drop i) = s → (∀ z ∈ x, ∀ j (hj : j < l.length), i ≤ j → cmpI z l[j] < 0) → out.length ≤ i →
    Alw fun k => spec_l8Drop.l0 k a b out s (x.length : Int) l (l.length : Int) (i : Int) = some (out ++ (l.drop i).filter (fun z => !delI s a b z))
  | 0, i, x, out, h, hx, hz, ho => Alw.one fun k => by
    rw [spec_l8Drop.l0, if_neg (by omega), List.drop_eq_nil_of_le (by omega)]
    simp
  | d + 1, i, x, out, h, hx, hz, ho => by
    have hi : i < l.length := by omega
    have hgi := goodR_good hg i hi
    have hlt : ∀ j (hj : j < l.length), i < j → cmpI l[i] l[j] < 0 := fun j hj hij => goodR_lt hg j i hij hj
    rw [List.drop_eq_getElem_cons hi] at hx ⊢
    generalize hy : l[i] = y at *
    have hrest : ∀ z ∈ l.drop (i + 1), cmpI y z < 0 := fun z hz => by
      obtain ⟨n, hn, rfl⟩ := List.mem_iff_getElem.1 hz
      rw [List.getElem_drop]
      exact hlt _ _ (by omega)
    by_cases h1 : y.f1 > a
    · have e1 : delI s a b y = false := by unfold delI; rw [decide_eq_false (by omega)]; rfl
      have hx2 : seenFrom a x (l.drop (i + 1)) = s := by
        rw [← hx, seenFrom, if_neg (by omega)]
      refine (drop_go a b l s hl hg hs d (i + 1) x (out ++ [y]) (by omega) hx2 (fun z hz2 j hj hij => hz z hz2 j hj (by omega)) (by simp; omega)).succ fun k ih => ?_
      rw [spec_l8Drop.l0, if_pos (by omega), if_pos (by omega), if_pos (by omega), rdItemi_at hi, hy, if_pos h1, if_pos (by omega), wS (by omega), List.filter_cons, e1]
      refine Eq.trans ih ?_
      simp
    · have h1' : y.f1 ≤ a := by omega
      rcases seen_step a y (l.drop (i + 1)) x h1' with hp | hp
      · -- it is seen
        rw [hp] at hx
        obtain ⟨t, ht, _⟩ := seen_ext a (l.drop (i + 1)) (x ++ [y])
        have hst : s = x ++ y :: t := by rw [← hx, ht]; simp
        have hxl : x.length < s.length := by rw [hst]; simp
        have hsx : s[x.length] = y := by simp [hst]
        have hm : hasI s y = true := hasI_mem (by rw [hst]; simp)
        have hz2 : ∀ z ∈ x ++ [y], ∀ j (hj : j < l.length), i + 1 ≤ j → cmpI z l[j] < 0 := fun z hz3 j hj hij => by
          rcases List.mem_append.1 hz3 with h2 | h2
          · exact hz z h2 j hj (by omega)
          · rw [List.mem_singleton.1 h2]
            exact hlt j hj (by omega)
        have heq := eqI_refl y
        have ih1 := drop_go a b l s hl hg hs d (i + 1) (x ++ [y]) (out ++ [y]) (by omega) hx hz2 (by simp; omega)
        have ih2 := drop_go a b l s hl hg hs d (i + 1) (x ++ [y]) out (by omega) hx hz2 (by omega)
        have hJ : Alw fun k => spec_l8Drop.j1 k a b out s (x.length : Int) l (l.length : Int) (i : Int) true y.f0 y.f1 y.f2 y.f3 = some (out ++ (y :: l.drop (i + 1)).filter (fun z => !delI s a b z)) := by
          refine (ih1.and ih2).succ fun k ⟨g1, g2⟩ => ?_
          have hw : wrap64 ((x.length : Int) + 1) = ((x ++ [y]).length : Int) := by rw [wS (by omega)]; simp
          rw [spec_l8Drop.j1, if_pos rfl, hw, wS (by omega), List.filter_cons]
          cases b
          · have e1 : delI s a false y = false := by unfold delI; rw [hm]; simp
            rw [if_neg (by decide), if_pos (by omega), e1]
            refine Eq.trans g1 ?_
            simp
          · rw [if_pos rfl]
            by_cases hk : y.f2 = 1
            · have e1 : delI s a true y = false := by unfold delI; rw [hm, hk]; simp
              rw [if_pos hk, if_pos (by omega), e1]
              refine Eq.trans g1 ?_
              simp
            · have hk0 : y.f2 = 0 := by simp [goodI] at hgi; omega
              have e1 : delI s a true y = true := by unfold delI; rw [hm, hk0, decide_eq_true h1']; simp
              rw [if_neg hk, e1]
              exact g2
        refine hJ.succ fun k hJ => ?_
        unfold eqI at heq
        rw [spec_l8Drop.l0, if_pos (by omega), if_pos (by omega), if_pos (by omega), rdItemi_at hi, hy, if_neg h1, if_pos (by omega), if_pos (by omega), rdItemi_at hxl, hsx, heq]
        exact hJ
      · -- it is shadowed
        rw [hp] at hx
        obtain ⟨t, ht, htm⟩ := seen_ext a (l.drop (i + 1)) x
        have hst : s = x ++ t := by rw [← hx, ht]
        have hm : hasI s y = false := hasI_none fun z hz3 => by
          rw [hst] at hz3
          rcases List.mem_append.1 hz3 with h2 | h2
          · have := hz z h2 i hi (Nat.le_refl _)
            rw [hy] at this
            exact cmpI_flip this
          · exact cmpI_ne (hrest z (htm z h2))
        have e1 : delI s a b y = true := by unfold delI; rw [hm, decide_eq_true h1']; rfl
        have ih := drop_go a b l s hl hg hs d (i + 1) x out (by omega) hx (fun z hz2 j hj hij => hz z hz2 j hj (by omega)) (by omega)
        have hJ : Alw fun k => spec_l8Drop.j1 k a b out s (x.length : Int) l (l.length : Int) (i : Int) false y.f0 y.f1 y.f2 y.f3 = some (out ++ (y :: l.drop (i + 1)).filter (fun z => !delI s a b z)) := by
          refine ih.succ fun k g => ?_
          rw [spec_l8Drop.j1, if_neg (by decide), wS (by omega), List.filter_cons, e1]
          exact g
        refine hJ.succ fun k hJ => ?_
        rw [spec_l8Drop.l0, if_pos (by omega), if_pos (by omega), if_pos (by omega), rdItemi_at hi, hy, if_neg h1]
        by_cases hk : x.length < s.length
        · have hsm : s[x.length] ∈ t := by
            rw [List.mem_iff_getElem]
            refine ⟨0, by rw [hst, List.length_append] at hk; omega, ?_⟩
            simp [hst]
          have hne : eqI s[x.length] y = false := cmpI_flip (hrest _ (htm _ hsm))
          unfold eqI at hne
          rw [if_pos (by omega), if_pos (by omega), rdItemi_at hk, hne]
          exact hJ
        · rw [if_neg (by omega)]
          exact hJ
theorem drop_s (a : Int) (b : Bool) (l : List S50) (hr : okR l = true) : Alw fun k => spec_l8Drop.f k l a b = some (dropL l a b) := by
  have hr2 : goodR l = true ∧ l.length ≤ 400 := by
    unfold okR at hr
    simp at hr
    exact ⟨hr.1, by omega⟩
  have hs := seenL_len a l
  refine ((seen_s a l (by omega)).and (drop_go a b l (seenL a l) hr2.2 hr2.1 (by omega) l.length 0 [] [] (by omega) rfl (by simp) (by simp))).imp fun k ⟨h, g⟩ => ?_
  unfold spec_l8Drop.f
  rw [h, Option.bind_some]
  exact g
theorem isSeq_f (a : Int) : spec_l4Seq.f a = some (decide (0 ≤ a ∧ a ≤ 1000000000)) ∧ impl_isSeq.f a = some (decide (0 ≤ a ∧ a ≤ 1000000000)) := by
  unfold spec_l4Seq.f impl_isSeq.f
  rw [in_s, in_i]
  exact ⟨rfl, rfl⟩
def ansD (l : List S50) (a : Int) (b : Bool) : List S50 × Bool := if okR l = true ∧ 0 ≤ a ∧ a ≤ 1000000000 then (dropL l a b, true) else ([], false)
theorem okR_len {l : List S50} (h : okR l = true) : l.length ≤ 400 := by
  unfold okR at h
  simp at h
  omega
theorem ans_len (l : List S50) (a : Int) (b : Bool) : (ansD l a b).1.length ≤ 400 := by
  unfold ansD
  split
  · rename_i h
    have h1 := okR_len h.1
    have h2 := dropL_len l a b
    simp only
    omega
  · simp
theorem ans_s (l : List S50) (a : Int) (b : Bool) (hl : l.length ≤ 4611686018427387904) : Alw fun k => spec_DropShadowed.f k l a b = some (ansD l a b) := by
  have h1 := okR_s l hl
  cases hr : okR l
  · refine h1.imp fun k h => ?_
    unfold spec_DropShadowed.f ansD
    rw [h, hr]
    simp
  · by_cases hs : 0 ≤ a ∧ a ≤ 1000000000
    · refine (h1.and (drop_s a b l hr)).imp fun k ⟨h, g⟩ => ?_
      unfold spec_DropShadowed.f ansD
      rw [h, hr, Option.bind_some, if_pos rfl, (isSeq_f a).1, Option.bind_some, if_pos (by simpa using hs), g, Option.bind_some, if_pos ⟨rfl, hs⟩]
    · refine h1.imp fun k h => ?_
      unfold spec_DropShadowed.f ansD
      rw [h, hr, Option.bind_some, if_pos rfl, (isSeq_f a).1, Option.bind_some, if_neg (by simpa using hs), if_neg (fun h => hs h.2)]
theorem ans_i (l : List S50) (a : Int) (b : Bool) (hl : l.length ≤ 4611686018427387904) : Alw fun k => impl_DropShadowed.f k l a b = some (ansD l a b) := by
  have h1 := okR_i l hl
  cases hr : okR l
  · refine h1.imp fun k h => ?_
    unfold impl_DropShadowed.f ansD
    rw [h, hr]
    simp
  · by_cases hs : 0 ≤ a ∧ a ≤ 1000000000
    · refine h1.imp fun k h => ?_
      unfold impl_DropShadowed.f ansD
      rw [h, hr, Option.bind_some, if_pos rfl, (isSeq_f a).2, Option.bind_some, if_pos (by simpa using hs), impl_dropped.f, if_pos (by have := okR_len hr; omega), Option.bind_some, if_pos ⟨rfl, hs⟩]
    · refine h1.imp fun k h => ?_
      unfold impl_DropShadowed.f ansD
      rw [h, hr, Option.bind_some, if_pos rfl, (isSeq_f a).2, Option.bind_some, if_neg (by simpa using hs), if_neg (fun h => hs h.2)]

def visA (l : List S50) (a : Int) : List S53 × Bool := if okR l = true ∧ 0 ≤ a ∧ a ≤ 1000000000 then (visL (seenL a l), true) else ([], false)
theorem visA_len (l : List S50) (a : Int) : (visA l a).1.length ≤ 400 := by
  unfold visA
  split
  · rename_i h
    have h1 := okR_len h.1
    have h2 := visL_len (seenL a l)
    have h3 := seenL_len a l
    simp only
    omega
  · simp
theorem visA_i (l : List S50) (a : Int) (hl : l.length ≤ 4611686018427387904) : Alw fun k => impl_VisibleAt.f k l a = some (visA l a) := by
  have h1 := okR_i l hl
  have hb : impl_boundsOk.f ⟨#[]⟩ ⟨#[]⟩ = some true := by
    unfold impl_boundsOk.f
    rw [if_pos (by decide)]
    rfl
  cases hr : okR l
  · refine h1.imp fun k h => ?_
    unfold impl_VisibleAt.f impl_ScanAt.f visA
    rw [h, hr]
    simp
  · by_cases hs : 0 ≤ a ∧ a ≤ 1000000000
    · have h2 := scan_i a ⟨#[]⟩ ⟨#[]⟩ l (by have := okR_len hr; omega)
      rw [scanL_all] at h2
      refine (h1.and h2).imp fun k ⟨h, g⟩ => ?_
      unfold impl_VisibleAt.f impl_ScanAt.f visA
      rw [h, hr, Option.bind_some, if_pos rfl, hb, Option.bind_some, if_pos rfl, (isSeq_f a).2, Option.bind_some, if_pos (by simpa using hs), g, Option.bind_some, if_pos ⟨rfl, hs⟩]
      rfl
    · refine h1.imp fun k h => ?_
      unfold impl_VisibleAt.f impl_ScanAt.f visA
      rw [h, hr, Option.bind_some, if_pos rfl, hb, Option.bind_some, if_pos rfl, (isSeq_f a).2, Option.bind_some, if_neg (by simpa using hs), if_neg (fun h => hs h.2)]
      rfl

theorem same_go (l : List S53) (hl : l.length ≤ 4611686018427387904) : ∀ (d i : Nat), i + d = l.length → Alw fun k => laws_samePairs.l0 k l l (l.length : Int) (i : Int) = some true
  | 0, i, h => Alw.one fun k => by rw [laws_samePairs.l0, if_neg (by omega)]
  | d + 1, i, h => by
    have hi : i < l.length := by omega
    refine (same_go l hl d (i + 1) (by omega)).succ fun k ih => ?_
    rw [laws_samePairs.l0, if_pos (by omega), if_pos (by omega), if_pos (by omega), if_pos (by omega), rdPairi_at hi, if_neg (by simp), wS (by omega)]
    exact ih
theorem same_alw (l : List S53) (hl : l.length ≤ 4611686018427387904) : Alw fun k => laws_samePairs.f k l l = some true := by
  refine (same_go l hl l.length 0 (by omega)).imp fun k h => ?_
  unfold laws_samePairs.f
  rw [if_pos rfl]
  exact h

/-- Keys rise. -/
def keyUp (x y : S50) : Prop := Op.bytesLess x.f0.toList y.f0.toList = true
theorem seenFrom_up (a : Int) : ∀ (l x : List S50), (l.Pairwise fun x y => cmpI x y < 0) → x.Pairwise keyUp → (∀ z ∈ x, ∀ y ∈ l, keyUp z y ∨ z.f0.toList = y.f0.toList ∧ x.getLast? = some z) → (seenFrom a x l).Pairwise keyUp
  | [], x, _, hx, _ => by rw [seenFrom]; exact hx
  | y :: l, x, hl, hx, hq => by
    rw [List.pairwise_cons] at hl
    have hstay : ∀ z ∈ x, ∀ y' ∈ l, keyUp z y' ∨ z.f0.toList = y'.f0.toList ∧ x.getLast? = some z := fun z hz y' hy' => hq z hz y' (List.mem_cons_of_mem _ hy')
    unfold seenFrom
    split
    · split
      · rename_i hn
        rw [List.getLast?_eq_none_iff] at hn
        subst hn
        refine seenFrom_up a l _ hl.2 (by simp) fun z hz y' hy' => ?_
        simp only [List.nil_append, List.mem_singleton] at hz
        subst hz
        rcases cmpI_lt.1 (hl.1 y' hy') with h | ⟨h, _⟩
        · exact .inl h
        · exact .inr ⟨h, by simp⟩
      · rename_i z0 hz0
        split
        · exact seenFrom_up a l x hl.2 hx hstay
        · rename_i hne
          have hall : ∀ z ∈ x, keyUp z y := fun z hz => by
            rcases hq z hz y List.mem_cons_self with h | ⟨h, g⟩
            · exact h
            · rw [hz0] at g
              obtain rfl := Option.some.inj g
              exact absurd h hne
          refine seenFrom_up a l _ hl.2 ?_ fun z hz y' hy' => ?_
          · rw [List.pairwise_append]
            exact ⟨hx, by simp, fun z hz w hw => by
              rw [List.mem_singleton] at hw
              subst hw
              exact hall z hz⟩
          · have hyy := cmpI_lt.1 (hl.1 y' hy')
            rcases List.mem_append.1 hz with hz | hz
            · left
              rcases hyy with h | ⟨h, _⟩
              · exact less_trans (hall z hz) h
              · have := hall z hz
                unfold keyUp at *
                rw [← h]
                exact this
            · rw [List.mem_singleton] at hz
              subst hz
              rcases hyy with h | ⟨h, _⟩
              · exact .inl h
              · exact .inr ⟨h, by simp⟩
    · exact seenFrom_up a l x hl.2 hx hstay
theorem seenL_up (a : Int) (l : List S50) (h : l.Pairwise fun x y => cmpI x y < 0) : (seenL a l).Pairwise keyUp := seenFrom_up a l [] h List.Pairwise.nil (by simp)
theorem keyUp_uniq : ∀ {l : List S50}, l.Pairwise keyUp → ∀ x ∈ l, ∀ y ∈ l, x.f0.toList = y.f0.toList → x = y
  | [], _, x, hx, _, _, _ => by cases hx
  | z :: l, h, x, hx, y, hy, he => by
    rw [List.pairwise_cons] at h
    rcases List.mem_cons.1 hx with rfl | hx2
    · rcases List.mem_cons.1 hy with rfl | hy2
      · rfl
      · have := h.1 y hy2
        unfold keyUp at this
        rw [he, less_irrefl] at this
        cases this
    · rcases List.mem_cons.1 hy with rfl | hy2
      · have := h.1 x hx2
        unfold keyUp at this
        rw [he, less_irrefl] at this
        cases this
      · exact keyUp_uniq h.2 x hx2 y hy2 he

theorem sameI_go (l : List S50) (hl : l.length ≤ 4611686018427387904) : ∀ (d i : Nat), i + d = l.length → Alw fun k => laws_sameItems.l0 k l l (l.length : Int) (i : Int) = some true
  | 0, i, h => Alw.one fun k => by rw [laws_sameItems.l0, if_neg (by omega)]
  | d + 1, i, h => by
    have hi : i < l.length := by omega
    refine (sameI_go l hl d (i + 1) (by omega)).succ fun k ih => ?_
    rw [laws_sameItems.l0, if_pos (by omega), if_pos (by omega), if_pos (by omega), if_pos (by omega), rdItemi_at hi, if_neg (by simp), wS (by omega)]
    exact ih
theorem sameI_alw (l : List S50) (hl : l.length ≤ 4611686018427387904) : Alw fun k => laws_sameItems.f k l l = some true := by
  refine (sameI_go l hl l.length 0 (by omega)).imp fun k h => ?_
  unfold laws_sameItems.f
  rw [if_pos rfl]
  exact h

theorem number_go (l : List Int) (hb : ∀ x ∈ l, 0 ≤ x ∧ x ≤ 255) (hl : l.length ≤ 4611686018427387904) : ∀ (d i : Nat) (n : Int), i + d = l.length → 0 ≤ n → n < 1000003 → ∃ r : Int, 0 ≤ r ∧ r < 1000003 ∧ Alw fun k => laws_numberOf.l0 k n l (l.length : Int) (i : Int) = some r
  | 0, i, n, h, h0, h1 => ⟨n, h0, h1, Alw.one fun k => by rw [laws_numberOf.l0, if_neg (by omega)]⟩
  | d + 1, i, n, h, h0, h1 => by
    have hi : i < l.length := by omega
    obtain ⟨x0, x1⟩ := hb l[i] (List.getElem_mem _)
    have hr : rd l (i : Int) = l[i] := getD_nat hi _
    have e1 : wrap64 (31 * n) = 31 * n := by unfold wrap64; omega
    have e2 : wrap64 l[i] = l[i] := by unfold wrap64; omega
    have e3 : wrap64 (31 * n + l[i]) = 31 * n + l[i] := by unfold wrap64; omega
    have e4 : Int.tmod (31 * n + l[i]) 1000003 = (31 * n + l[i]) % 1000003 := Int.tmod_eq_emod_of_nonneg (by omega)
    obtain ⟨r, r0, r1, ih⟩ := number_go l hb hl d (i + 1) ((31 * n + l[i]) % 1000003) (by omega) (by omega) (by omega)
    refine ⟨r, r0, r1, ih.succ fun k ih => ?_⟩
    rw [laws_numberOf.l0, if_pos (by omega), if_pos (by omega), if_pos (by omega), hr, e1, e2, e3, e4, wS (by omega)]
    exact ih
theorem number_alw (l : List Int) (hb : ∀ x ∈ l, 0 ≤ x ∧ x ≤ 255) (hl : l.length ≤ 4611686018427387904) : ∃ r : Int, 0 ≤ r ∧ r < 1000003 ∧ Alw fun k => laws_numberOf.f k l = some r :=
  number_go l hb hl l.length 0 0 (by omega) (by decide) (by decide)

theorem cmpI_asymm {x y : S50} (h : cmpI x y < 0) : ¬ cmpI y x < 0 := fun h2 => by
  have h3 := cmpI_trans h h2
  rw [cmpI_lt, less_irrefl] at h3
  rcases h3 with h3 | ⟨_, h3⟩
  · cases h3
  · omega
theorem mem_seenFrom (a : Int) (x : S50) : ∀ (l acc : List S50), (l.Pairwise fun x y => cmpI x y < 0) → (∀ z ∈ acc, ∀ y ∈ l, keyUp z y ∨ z.f0.toList = y.f0.toList ∧ acc.getLast? = some z) →
    (x ∈ seenFrom a acc l ↔ x ∈ acc ∨ (x ∈ l ∧ x.f1 ≤ a ∧ (∀ z ∈ acc, z.f0.toList ≠ x.f0.toList) ∧ ∀ y ∈ l, y.f1 ≤ a → y.f0.toList = x.f0.toList → ¬ cmpI y x < 0))
  | [], acc, _, _ => by simp [seenFrom]
  | y :: l, acc, hl, hq => by
    rw [List.pairwise_cons] at hl
    have hstay : ∀ z ∈ acc, ∀ y' ∈ l, keyUp z y' ∨ z.f0.toList = y'.f0.toList ∧ acc.getLast? = some z := fun z hz y' hy' => hq z hz y' (List.mem_cons_of_mem _ hy')
    by_cases hya : y.f1 ≤ a
    · -- y is seen just where its key is new
      have take : (∀ z ∈ acc, keyUp z y) → (x ∈ seenFrom a (acc ++ [y]) l ↔ x ∈ acc ∨ (x ∈ y :: l ∧ x.f1 ≤ a ∧ (∀ z ∈ acc, z.f0.toList ≠ x.f0.toList) ∧ ∀ y' ∈ y :: l, y'.f1 ≤ a → y'.f0.toList = x.f0.toList → ¬ cmpI y' x < 0)) := by
        intro hall
        have hne : ∀ z ∈ acc, z.f0.toList ≠ y.f0.toList := fun z hz he => by
          have := hall z hz
          unfold keyUp at this
          rw [he, less_irrefl] at this
          cases this
        rw [mem_seenFrom a x l (acc ++ [y]) hl.2 (fun z hz y' hy' => by
          have hyy := cmpI_lt.1 (hl.1 y' hy')
          rcases List.mem_append.1 hz with hz | hz
          · left
            rcases hyy with h | ⟨h, _⟩
            · exact less_trans (hall z hz) h
            · have := hall z hz
              unfold keyUp at *
              rw [← h]
              exact this
          · rw [List.mem_singleton] at hz
            subst hz
            rcases hyy with h | ⟨h, _⟩
            · exact .inl h
            · exact .inr ⟨h, by simp⟩)]
        constructor
        · rintro (h | ⟨h1, h2, h3, h4⟩)
          · rcases List.mem_append.1 h with h | h
            · exact .inl h
            · rw [List.mem_singleton] at h
              subst h
              refine .inr ⟨List.mem_cons_self, hya, hne, fun y' hy' _ _ => ?_⟩
              rcases List.mem_cons.1 hy' with rfl | hy'
              · exact fun h => cmpI_asymm h h
              · exact cmpI_asymm (hl.1 y' hy')
          · refine .inr ⟨List.mem_cons_of_mem _ h1, h2, fun z hz => h3 z (List.mem_append_left _ hz), fun y' hy' h5 h6 => ?_⟩
            rcases List.mem_cons.1 hy' with rfl | hy'
            · exact absurd h6 (h3 y' (List.mem_append_right _ (List.mem_singleton.2 rfl)))
            · exact h4 y' hy' h5 h6
        · rintro (h | ⟨h1, h2, h3, h4⟩)
          · exact .inl (List.mem_append_left _ h)
          · rcases List.mem_cons.1 h1 with rfl | h1b
            · exact .inl (List.mem_append_right _ (List.mem_singleton.2 rfl))
            · right
              refine ⟨h1b, h2, fun z hz => ?_, fun y' hy' => h4 y' (List.mem_cons_of_mem _ hy')⟩
              rcases List.mem_append.1 hz with hz | hz
              · exact h3 z hz
              · rw [List.mem_singleton] at hz
                subst hz
                intro he
                exact h4 z List.mem_cons_self hya he (hl.1 x h1b)
      have skip : (∃ z ∈ acc, z.f0.toList = y.f0.toList) → (x ∈ seenFrom a acc l ↔ x ∈ acc ∨ (x ∈ y :: l ∧ x.f1 ≤ a ∧ (∀ z ∈ acc, z.f0.toList ≠ x.f0.toList) ∧ ∀ y' ∈ y :: l, y'.f1 ≤ a → y'.f0.toList = x.f0.toList → ¬ cmpI y' x < 0)) := by
        rintro ⟨z0, hz0, he0⟩
        rw [mem_seenFrom a x l acc hl.2 hstay]
        constructor
        · rintro (h | ⟨h1, h2, h3, h4⟩)
          · exact .inl h
          · refine .inr ⟨List.mem_cons_of_mem _ h1, h2, h3, fun y' hy' h5 h6 => ?_⟩
            rcases List.mem_cons.1 hy' with rfl | hy'
            · exact absurd (he0.trans h6) (h3 z0 hz0)
            · exact h4 y' hy' h5 h6
        · rintro (h | ⟨h1, h2, h3, h4⟩)
          · exact .inl h
          · rcases List.mem_cons.1 h1 with rfl | h1
            · exact absurd he0 (h3 z0 hz0)
            · exact .inr ⟨h1, h2, h3, fun y' hy' => h4 y' (List.mem_cons_of_mem _ hy')⟩
      unfold seenFrom
      rw [if_pos hya]
      split
      · rename_i hn
        rw [List.getLast?_eq_none_iff] at hn
        subst hn
        exact take (by simp)
      · rename_i z0 hz0
        split
        · rename_i he
          exact skip ⟨z0, List.mem_of_getLast? hz0, he⟩
        · rename_i hne
          refine take fun z hz => ?_
          rcases hq z hz y List.mem_cons_self with h | ⟨h, g⟩
          · exact h
          · rw [hz0] at g
            obtain rfl := Option.some.inj g
            exact absurd h hne
    · unfold seenFrom
      rw [if_neg hya, mem_seenFrom a x l acc hl.2 hstay]
      constructor
      · rintro (h | ⟨h1, h2, h3, h4⟩)
        · exact .inl h
        · refine .inr ⟨List.mem_cons_of_mem _ h1, h2, h3, fun y' hy' h5 h6 => ?_⟩
          rcases List.mem_cons.1 hy' with rfl | hy'
          · exact absurd h5 hya
          · exact h4 y' hy' h5 h6
      · rintro (h | ⟨h1, h2, h3, h4⟩)
        · exact .inl h
        · rcases List.mem_cons.1 h1 with rfl | h1
          · exact absurd h2 hya
          · exact .inr ⟨h1, h2, h3, fun y' hy' => h4 y' (List.mem_cons_of_mem _ hy')⟩
theorem mem_seen {a : Int} {l : List S50} (h : l.Pairwise fun x y => cmpI x y < 0) (x : S50) : x ∈ seenL a l ↔ x ∈ l ∧ x.f1 ≤ a ∧ ∀ y ∈ l, y.f1 ≤ a → y.f0.toList = x.f0.toList → ¬ cmpI y x < 0 := by
  unfold seenL
  rw [mem_seenFrom a x l [] h (by simp)]
  simp
theorem eq_of_mem {α : Type} {R : α → α → Prop} (hi : ∀ x, ¬ R x x) (ha : ∀ x y, R x y → ¬ R y x) : ∀ {l m : List α}, l.Pairwise R → m.Pairwise R → (∀ x, x ∈ l ↔ x ∈ m) → l = m
  | [], [], _, _, _ => rfl
  | [], y :: m, _, _, h => by have := (h y).2 List.mem_cons_self; cases this
  | x :: l, [], _, _, h => by have := (h x).1 List.mem_cons_self; cases this
  | x :: l, y :: m, hl, hm, h => by
    rw [List.pairwise_cons] at hl hm
    have hxy : x = y := by
      rcases List.mem_cons.1 ((h x).1 List.mem_cons_self) with h1 | h1
      · exact h1
      · rcases List.mem_cons.1 ((h y).2 List.mem_cons_self) with h2 | h2
        · exact h2.symm
        · exact absurd (hm.1 x h1) (ha _ _ (hl.1 y h2))
    subst hxy
    rw [eq_of_mem hi ha hl.2 hm.2 fun z => ?_]
    constructor
    · intro hz
      rcases List.mem_cons.1 ((h z).1 (List.mem_cons_of_mem _ hz)) with rfl | h1
      · exact absurd (hl.1 z hz) (hi z)
      · exact h1
    · intro hz
      rcases List.mem_cons.1 ((h z).2 (List.mem_cons_of_mem _ hz)) with rfl | h1
      · exact absurd (hm.1 z hz) (hi z)
      · exact h1

theorem goodR_pairS {l : List S50} (h : goodR l = true) : l.Pairwise fun x y => cmpI x y < 0 :=
  List.pairwise_iff_getElem.2 fun i j hi hj hij => goodR_lt h j i hij hj
theorem goodR_all {l : List S50} (h : goodR l = true) : ∀ x ∈ l, goodI x = true := fun x hx => by
  obtain ⟨n, hn, rfl⟩ := List.mem_iff_getElem.1 hx
  exact goodR_good h n hn
theorem runFrom_of {l : List S50} (h : ∀ j, j < l.length → runOkAt l j = true) : ∀ (d i : Nat), i + d ≤ l.length → runFrom l d i = true
  | 0, _, _ => rfl
  | d + 1, i, hi => by rw [runFrom, h i (by omega), runFrom_of h d (i + 1) (by omega)]; rfl
theorem goodR_of {l : List S50} (h1 : ∀ x ∈ l, goodI x = true) (h2 : l.Pairwise fun x y => cmpI x y < 0) : goodR l = true := by
  refine runFrom_of (fun j hj => ?_) _ _ (by omega)
  rcases j with _ | j
  · rw [runOkAt_zero hj]
    exact h1 _ (List.getElem_mem _)
  · rw [runOkAt_succ hj, h1 _ (List.getElem_mem _), decide_eq_true (List.pairwise_iff_getElem.1 h2 j (j + 1) (by omega) hj (by omega))]
    rfl
theorem cmp_uniq : ∀ {l : List S50}, (l.Pairwise fun x y => cmpI x y < 0) → ∀ x ∈ l, ∀ y ∈ l, eqI x y = true → x = y
  | [], _, x, hx, _, _, _ => by cases hx
  | z :: l, h, x, hx, y, hy, he => by
    rw [List.pairwise_cons] at h
    rcases List.mem_cons.1 hx with rfl | hx2
    · rcases List.mem_cons.1 hy with rfl | hy2
      · rfl
      · rw [cmpI_ne (h.1 y hy2)] at he
        cases he
    · rcases List.mem_cons.1 hy with rfl | hy2
      · rw [cmpI_flip (h.1 x hx2)] at he
        cases he
      · exact cmp_uniq h.2 x hx2 y hy2 he
theorem hasI_iff {l : List S50} (h : l.Pairwise fun x y => cmpI x y < 0) (a : Int) {x : S50} (hx : x ∈ l) : hasI (seenL a l) x = true ↔ x ∈ seenL a l := by
  constructor
  · intro h1
    unfold hasI at h1
    rw [List.any_eq_true] at h1
    obtain ⟨y, hy, he⟩ := h1
    rw [cmp_uniq h x hx y ((mem_seen h y).1 hy).1 he]
    exact hy
  · exact hasI_mem
theorem mem_drop {l : List S50} (h : l.Pairwise fun x y => cmpI x y < 0) (a : Int) (b : Bool) (x : S50) : x ∈ dropL l a b ↔ x ∈ l ∧ (x.f1 ≤ a → x ∈ seenL a l ∧ (b = true → ¬ x.f2 = 0)) := by
  unfold dropL
  rw [List.mem_filter]
  refine and_congr_right fun hx => ?_
  unfold delI
  by_cases h1 : x.f1 ≤ a
  · cases hh : hasI (seenL a l) x
    · have hn : ¬ x ∈ seenL a l := fun hm => by rw [hasI_mem hm] at hh; cases hh
      simp [h1, hn]
    · have hm := (hasI_iff h a hx).1 hh
      cases b <;> simp [h1, hm]
  · simp [h1]
theorem drop_pair {l : List S50} (h : l.Pairwise fun x y => cmpI x y < 0) (a : Int) (b : Bool) : (dropL l a b).Pairwise fun x y => cmpI x y < 0 := List.Pairwise.filter _ h
theorem drop_ok {l : List S50} (h : okR l = true) (a : Int) (b : Bool) : okR (dropL l a b) = true := by
  have hl := okR_len h
  have hg : goodR l = true := by unfold okR at h; simp at h; exact h.1
  have h2 := dropL_len l a b
  have h3 : goodR (dropL l a b) = true := goodR_of (fun x hx => goodR_all hg x (List.mem_filter.1 hx).1) (drop_pair (goodR_pairS hg) a b)
  unfold okR
  rw [h3, decide_eq_true (by omega)]
  rfl
/-- At that number and at later ones the same is seen. -/
theorem drop_seen {l : List S50} (hg : okR l = true) {a a' : Int} (b : Bool) (h : a ≤ a') : visL (seenL a' (dropL l a b)) = visL (seenL a' l) := by
  have hgr : goodR l = true := by unfold okR at hg; simp at hg; exact hg.1
  have hp := goodR_pairS hgr
  have hp2 := drop_pair hp a b
  have hup : ∀ {m : List S50}, m.Pairwise keyUp → (visL m).Pairwise fun p q => Op.bytesLess p.f0.toList q.f0.toList = true := fun hm => by
    rw [visL, List.pairwise_map]
    exact List.Pairwise.imp (fun h => h) (List.Pairwise.filter _ hm)
  refine eq_of_mem (R := fun p q : S53 => Op.bytesLess p.f0.toList q.f0.toList = true) (fun p => by rw [less_irrefl]; simp) (fun p q h1 h2 => by rw [less_asymm h1] at h2; cases h2) (hup (seenL_up a' _ hp2)) (hup (seenL_up a' _ hp)) fun p => ?_
  have key : ∀ x : S50, x.f2 = 1 → (x ∈ seenL a' (dropL l a b) ↔ x ∈ seenL a' l) := by
    intro x hx1
    rw [mem_seen hp2, mem_seen hp]
    constructor
    · rintro ⟨h1, h2, h3⟩
      have hx := (mem_drop hp a b x).1 h1
      refine ⟨hx.1, h2, fun y hy hya hk hc => ?_⟩
      by_cases hyX : y ∈ dropL l a b
      · exact h3 y hyX hya hk hc
      · have hyn : ¬ (y.f1 ≤ a → y ∈ seenL a l ∧ (b = true → ¬ y.f2 = 0)) := fun hh => hyX ((mem_drop hp a b y).2 ⟨hy, hh⟩)
        have hya2 : y.f1 ≤ a := by
          by_cases hh : y.f1 ≤ a
          · exact hh
          · exact absurd (fun h => absurd h hh) hyn
        have hlt : x.f1 < y.f1 := by
          rcases cmpI_lt.1 hc with h4 | ⟨_, h4⟩
          · rw [hk, less_irrefl] at h4
            cases h4
          · exact h4
        have hxs := (hx.2 (by omega)).1
        exact ((mem_seen hp x).1 hxs).2.2 y hy hya2 hk hc
    · rintro ⟨h1, h2, h3⟩
      refine ⟨(mem_drop hp a b x).2 ⟨h1, fun hxa => ⟨(mem_seen hp x).2 ⟨h1, hxa, fun y hy hya hk => h3 y hy (by omega) hk⟩, fun _ => by omega⟩⟩, h2, fun y hy hya hk => ?_⟩
      exact h3 y ((mem_drop hp a b y).1 hy).1 hya hk
  unfold visL
  simp only [List.mem_map, List.mem_filter, decide_eq_true_eq]
  constructor
  · rintro ⟨x, ⟨h1, h2⟩, rfl⟩
    exact ⟨x, ⟨(key x h2).1 h1, h2⟩, rfl⟩
  · rintro ⟨x, ⟨h1, h2⟩, rfl⟩
    exact ⟨x, ⟨(key x h2).2 h1, h2⟩, rfl⟩
theorem drop_vis {l : List S50} (hg : okR l = true) {a a' : Int} (b : Bool) (h0 : 0 ≤ a) (h : a ≤ a') (h9 : a' ≤ 1000000000) : visA (dropL l a b) a' = visA l a' ∧ (visA l a').2 = true := by
  unfold visA
  rw [if_pos ⟨drop_ok hg a b, by omega, h9⟩, if_pos ⟨hg, by omega, h9⟩, drop_seen hg b h]
  exact ⟨rfl, rfl⟩
/-- The greatest number of all, 0 where there is none. -/
def newIs (l : List S50) (r : Int) : Prop := (l = [] ∧ r = 0) ∨ ∃ m ∈ l, r = m.f1 ∧ ∀ y ∈ l, y.f1 ≤ r
theorem drop_new {l : List S50} (hg : okR l = true) {a : Int} (b : Bool) (h0 : 0 ≤ a) {top left : Int} (ht : newIs l top) (hl : newIs (dropL l a b) left) : left ≤ top ∧ (top ≤ a ∨ left = top) := by
  have hgr : goodR l = true := by unfold okR at hg; simp at hg; exact hg.1
  have hp := goodR_pairS hgr
  have hnn : ∀ x ∈ l, 0 ≤ x.f1 := fun x hx => by
    have := goodR_all hgr x hx
    simp only [goodI, Bool.and_eq_true, decide_eq_true_eq] at this
    omega
  have hsub : ∀ x ∈ dropL l a b, x ∈ l := fun x hx => ((mem_drop hp a b x).1 hx).1
  have hle : left ≤ top := by
    rcases hl with ⟨hn, rfl⟩ | ⟨m, hm, rfl, hall⟩
    · rcases ht with ⟨_, rfl⟩ | ⟨m, hm, rfl, _⟩
      · exact Int.le_refl _
      · exact hnn m hm
    · rcases ht with ⟨hn, rfl⟩ | ⟨n, hn, rfl, hall2⟩
      · have := hsub m hm
        rw [hn] at this
        cases this
      · exact hall2 m (hsub m hm)
  refine ⟨hle, ?_⟩
  rcases ht with ⟨_, rfl⟩ | ⟨n, hn, rfl, hall2⟩
  · exact .inl h0
  · by_cases hna : n.f1 ≤ a
    · exact .inl hna
    · right
      have hnX : n ∈ dropL l a b := (mem_drop hp a b n).2 ⟨hn, fun h => absurd h hna⟩
      rcases hl with ⟨hX, _⟩ | ⟨m, hm, rfl, hall⟩
      · rw [hX] at hnX
        cases hnX
      · have := hall n hnX
        omega
theorem ansD_ok {l : List S50} {a : Int} {b : Bool} (h : (ansD l a b).2 = true) : okR l = true ∧ 0 ≤ a ∧ a ≤ 1000000000 ∧ (ansD l a b).1 = dropL l a b := by
  unfold ansD at *
  split at h
  · rename_i hc
    rw [if_pos hc]
    exact ⟨hc.1, hc.2.1, hc.2.2, rfl⟩
  · cases h
theorem ansD_no {l : List S50} {a : Int} {b : Bool} (h : (ansD l a b).2 = false) : (ansD l a b).1 = [] := by
  unfold ansD at *
  split at h
  · cases h
  · rename_i hc
    rw [if_neg hc]

end Go.Proofs.Ythfhhfnimffpdaa
