/- The plain laws that FnExactScanAt leans on. -/
import Derived.Test.YtflogiopajppiaaHScan
import Derived.Test.YtflogiopajppiaaPFnExactScanAtx3
import Derived.Test.YtflogiopajppiaaPFnExactScanAtx4
import Derived.Test.YtflogiopajppiaaPFnExactScanAtx5
import Derived.Test.YtflogiopajppiaaPFnExactScanAtx6
import Derived.Test.YtflogiopajppiaaPFnExactScanAtx7
import Derived.Test.YtflogiopajppiaaPFnExactScanAtx8
import Derived.Test.YtflogiopajppiaaPFnExactScanAtx9
namespace Go.Proofs.Ytflogiopajppiaa
open Go Go.RowKit Go.Proofs.YtflogiopajppiaaW.PrintWords Go.Proofs.YtflogiopajppiaaW.PrintLast Go.Proofs.YtflogiopajppiaaW.PrintMore Go.Proofs.Ytflogiopajppiaa.PFnExactScanAt
set_option linter.unusedVariables false
set_option linter.unusedSimpArgs false

/-- The order of texts, of numbers, of items. -/
def cmpS (a b : ByteArray) : Int := if Op.bytesLess a.toList b.toList = true then -1 else if a.toList = b.toList then 0 else 1
def cmpZ (a b : Int) : Int := if a < b then -1 else if a > b then 1 else 0
def cmpI (x y : S73) : Int := if cmpS x.f0 y.f0 = 0 then cmpZ y.f1 x.f1 else cmpS x.f0 y.f0

theorem cmpS_f (a b : ByteArray) : cmp_Compare_string.f a b = some (cmpS a b) := by
  unfold cmp_Compare_string.f cmp_isNaN_string.f cmpS
  simp only [Option.bind_some, bne_self_eq_false, if_false, Bool.false_eq_true]
  by_cases h : Op.bytesLess a.toList b.toList = true
  · rw [if_pos h, if_pos h]
  · rw [if_neg h, if_neg h]
    have h' := Bool.eq_false_iff.2 h
    by_cases q : a.toList = b.toList
    · rw [if_pos q, if_pos (by simp [q])]
    · rw [if_neg q, if_neg (by simp [h', q])]
theorem cmpZ_f (a b : Int) : cmp_Compare_int.f a b = some (cmpZ a b) := by
  unfold cmp_Compare_int.f cmp_isNaN_int.f cmpZ
  simp only [Option.bind_some, bne_self_eq_false, if_false, Bool.false_eq_true]
  by_cases h : a < b
  · rw [if_pos h, if_pos h]
  · rw [if_neg h, if_neg h]
    by_cases q : a > b
    · rw [if_pos q, if_pos q]
    · rw [if_neg q, if_neg q]
theorem or_f (x y : Int) : Alw fun k => cmp_Or_int.f k [x, y] = some (if x = 0 then y else x) := by
  refine ⟨3, fun k hk => ?_⟩
  obtain ⟨k, rfl⟩ : ∃ j, k = j + 3 := ⟨k - 3, by omega⟩
  unfold cmp_Or_int.f
  simp only [List.length_cons, List.length_nil, Nat.zero_add, Nat.reduceAdd]
  rw [show (((2 : Nat) : Int)) = 2 from rfl, cmp_Or_int.l0, if_pos (by decide), if_pos (by decide), if_pos (by simp)]
  by_cases hx : x = 0
  · rw [if_pos hx, if_pos (show rd [x, y] 0 = 0 from hx), show wrap64 (0 + 1) = 1 by unfold wrap64; omega, cmp_Or_int.l0, if_pos (by decide), if_pos (by decide), if_pos (by simp)]
    by_cases hy : y = 0
    · rw [if_pos (show rd [x, y] 1 = 0 from hy), show wrap64 (1 + 1) = 2 by unfold wrap64; omega, cmp_Or_int.l0, if_neg (by decide), hy]
    · rw [if_neg (show ¬ rd [x, y] 1 = 0 from hy)]
      rfl
  · rw [if_neg hx, if_neg (show ¬ rd [x, y] 0 = 0 from hx)]
    rfl
theorem order_i (x y : S73) : Alw fun k => impl_itemOrder.f k x.f0 x.f1 x.f2 x.f3 y.f0 y.f1 y.f2 y.f3 = some (cmpI x y) := by
  refine (or_f (cmpS x.f0 y.f0) (cmpZ y.f1 x.f1)).imp fun k h => ?_
  unfold impl_itemOrder.f cmpI
  rw [cmpS_f, cmpZ_f]
  simp only [Option.bind_some]
  rw [h]
  rfl

theorem order_s (x y : S73) : Alw fun k => spec_l4Compare.f k x.f0 x.f1 x.f2 x.f3 y.f0 y.f1 y.f2 y.f3 = some (cmpI x y) := by
  refine Alw.one fun k => ?_
  unfold spec_l4Compare.f cmpI cmpS
  by_cases h : Op.bytesLess x.f0.toList y.f0.toList = true
  · simp [h, spec_l4Compare.j0]
  · by_cases q : x.f0.toList = y.f0.toList
    · simp only [if_neg h, if_pos q, if_true, spec_l4Compare.j0, cmpZ, decide_eq_true_eq]
      by_cases h1 : x.f1 > y.f1
      · rw [if_pos h1, if_pos h1]
      · by_cases h2 : x.f1 = y.f1
        · rw [if_neg h1, if_pos h2, if_neg h1, if_neg (by omega)]
        · rw [if_neg h1, if_neg h2, if_neg h1, if_pos (by omega)]
    · simp [h, q, spec_l4Compare.j0]

def goodI (x : S73) : Bool := decide (1 ≤ (x.f0.size : Int) ∧ (x.f0.size : Int) ≤ 16) && decide (0 ≤ x.f1 ∧ x.f1 ≤ 1000000000) && decide (0 ≤ x.f2 ∧ x.f2 ≤ 1) && decide ((x.f3.size : Int) ≤ 40) && (decide (x.f2 = 1) || x.f3.toList == ([] : List UInt8))
/-- Item i is good, and above the one ahead of it. -/
def runOkAt (l : List S73) (i : Nat) : Bool := match l[i]? with
  | none => true
  | some x => goodI x && (if i = 0 then true else match l[i - 1]? with | none => true | some p => decide (cmpI p x < 0))
/-- From the i-th on. -/
def runFrom (l : List S73) : Nat → Nat → Bool
  | 0, _ => true
  | d + 1, i => runOkAt l i && runFrom l d (i + 1)
def goodR (l : List S73) : Bool := runFrom l l.length 0
theorem runOkAt_zero {l : List S73} (h : 0 < l.length) : runOkAt l 0 = goodI l[0] := by
  rw [runOkAt, List.getElem?_eq_getElem h]; simp
theorem runOkAt_succ {l : List S73} {j : Nat} (h : j + 1 < l.length) : runOkAt l (j + 1) = (goodI l[j + 1] && decide (cmpI l[j] l[j + 1] < 0)) := by
  rw [runOkAt, List.getElem?_eq_getElem h]
  simp only [Nat.add_sub_cancel, List.getElem?_eq_getElem (show j < l.length by omega)]
  simp
theorem in_s (a lo hi : Int) : spec_l1In.f a lo hi = some (decide (lo ≤ a ∧ a ≤ hi)) := by
  unfold spec_l1In.f
  by_cases h : a ≥ lo
  · rw [if_pos h]; congr 1; simp; omega
  · rw [if_neg h]; congr 1; simp; omega
theorem in_i (a lo hi : Int) : impl_in.f a lo hi = some (decide (lo ≤ a ∧ a ≤ hi)) := in_s a lo hi
theorem good_s (x : S73) : spec_GoodItem.f x.f0 x.f1 x.f2 x.f3 = some (goodI x) := by
  unfold spec_GoodItem.f spec_l4Key.f spec_l4Seq.f goodI
  simp only [in_s, Option.bind_some]
  cases h1 : decide (1 ≤ (x.f0.size : Int) ∧ (x.f0.size : Int) ≤ 16) <;> cases h2 : decide (0 ≤ x.f1 ∧ x.f1 ≤ 1000000000) <;> cases h3 : decide (0 ≤ x.f2 ∧ x.f2 ≤ 1) <;> simp only [Bool.false_eq_true, if_false, if_true, Bool.false_and, Bool.true_and, Bool.and_false]
  by_cases h4 : (x.f3.size : Int) ≤ 40
  · by_cases h5 : x.f2 = 1
    · simp [h4, h5]
    · simp [h4, h5]
  · simp [h4]
theorem good_i (x : S73) : impl_GoodItem.f x.f0 x.f1 x.f2 x.f3 = some (goodI x) := by
  unfold impl_GoodItem.f impl_isKey.f impl_isSeq.f impl_isValue.f goodI
  simp only [in_i, Option.bind_some]
  cases h1 : decide (1 ≤ (x.f0.size : Int) ∧ (x.f0.size : Int) ≤ 16) <;> cases h2 : decide (0 ≤ x.f1 ∧ x.f1 ≤ 1000000000) <;> cases h3 : decide (0 ≤ x.f2 ∧ x.f2 ≤ 1) <;> simp only [Bool.false_eq_true, if_false, if_true, Bool.false_and, Bool.true_and, Bool.and_false]
  by_cases h4 : (x.f3.size : Int) ≤ 40
  · by_cases h5 : x.f2 = 1
    · simp [h4, h5]
    · simp [h4, h5]
  · simp [h4]

set_option maxHeartbeats 1000000 in
theorem goodR_s_go (l : List S73) (hl : l.length ≤ 4611686018427387904) : ∀ (d i : Nat), i + d = l.length → Alw fun k => spec_GoodRun.l0 k l l (l.length : Int) (i : Int) = some (runFrom l d i)
  | 0, i, h => Alw.one fun k => by rw [spec_GoodRun.l0, if_neg (by omega)]; rfl
  | d + 1, i, h => by
    have hi : i < l.length := by omega
    have ih := goodR_s_go l hl d (i + 1) (by omega)
    rw [runFrom]
    rcases i with _ | j
    · refine ih.succ fun k ih => ?_
      rw [spec_GoodRun.l0, if_pos (by omega), if_pos (by omega), if_pos (by omega), rdItemi_at hi, good_s, Option.bind_some, runOkAt_zero hi]
      cases hg : goodI l[0]
      · rw [if_neg (by decide)]; rfl
      · rw [if_pos rfl, if_neg (by omega), wS (by omega), ih]; rfl
    · have hj : j < l.length := by omega
      refine (ih.and (order_s l[j] l[j + 1])).succ fun k ⟨ih, ho⟩ => ?_
      rw [spec_GoodRun.l0, if_pos (by omega), if_pos (by omega), if_pos (by omega), rdItemi_at hi, good_s, Option.bind_some, runOkAt_succ hi]
      cases hg : goodI l[j + 1]
      · rw [if_neg (by decide)]; rfl
      · rw [if_pos rfl, if_pos (by omega), wP (by omega) (by omega), if_pos (by omega), if_pos (by omega)]
        simp only [Nat.add_sub_cancel]
        rw [rdItemi_at hj, ho, Option.bind_some]
        by_cases hc : cmpI l[j] l[j + 1] ≥ 0
        · rw [if_pos hc, decide_eq_false (by omega)]; rfl
        · rw [if_neg hc, decide_eq_true (by omega), wS (by omega), ih]; rfl
theorem goodR_s (l : List S73) (hl : l.length ≤ 4611686018427387904) : Alw fun k => spec_GoodRun.f k l = some (goodR l) := goodR_s_go l hl l.length 0 (by omega)

set_option maxHeartbeats 1000000 in
theorem goodR_i_go (l : List S73) (hl : l.length ≤ 4611686018427387904) : ∀ (d i : Nat), i + d = l.length → Alw fun k => impl_GoodRun.l0 k l l (l.length : Int) (i : Int) = some (runFrom l d i)
  | 0, i, h => Alw.one fun k => by rw [impl_GoodRun.l0, if_neg (by omega)]; rfl
  | d + 1, i, h => by
    have hi : i < l.length := by omega
    have ih := goodR_i_go l hl d (i + 1) (by omega)
    rw [runFrom]
    rcases i with _ | j
    · refine ih.succ fun k ih => ?_
      rw [impl_GoodRun.l0, if_pos (by omega), if_pos (by omega), if_pos (by omega), rdItemi_at hi, good_i, Option.bind_some, runOkAt_zero hi]
      cases hg : goodI l[0]
      · rw [if_neg (by decide)]; rfl
      · rw [if_pos rfl, if_neg (by omega), wS (by omega), ih]; rfl
    · have hj : j < l.length := by omega
      refine (ih.and (order_i l[j] l[j + 1])).succ fun k ⟨ih, ho⟩ => ?_
      rw [impl_GoodRun.l0, if_pos (by omega), if_pos (by omega), if_pos (by omega), rdItemi_at hi, good_i, Option.bind_some, runOkAt_succ hi]
      cases hg : goodI l[j + 1]
      · rw [if_neg (by decide)]; rfl
      · rw [if_pos rfl, if_pos (by omega), wP (by omega) (by omega), if_pos (by omega), if_pos (by omega)]
        simp only [Nat.add_sub_cancel]
        rw [rdItemi_at hj, ho, Option.bind_some]
        by_cases hc : cmpI l[j] l[j + 1] ≥ 0
        · rw [if_pos hc, decide_eq_false (by omega)]; rfl
        · rw [if_neg hc, decide_eq_true (by omega), wS (by omega), ih]; rfl
theorem goodR_i (l : List S73) (hl : l.length ≤ 4611686018427387904) : Alw fun k => impl_GoodRun.f k l = some (goodR l) := goodR_i_go l hl l.length 0 (by omega)

def okR (l : List S73) : Bool := goodR l && decide ((l.length : Int) ≤ 400)
theorem okR_s (l : List S73) (hl : l.length ≤ 4611686018427387904) : Alw fun k => spec_l8Run.f k l = some (okR l) := by
  refine (goodR_s l hl).imp fun k h => ?_
  unfold spec_l8Run.f okR
  rw [h]
  cases goodR l <;> simp

theorem okR_i (l : List S73) (hl : l.length ≤ 4611686018427387904) : Alw fun k => impl_runOk.f k l = some (okR l) := by
  refine (goodR_i l hl).imp fun k h => ?_
  unfold impl_runOk.f okR
  rw [h]
  by_cases hc : (l.length : Int) ≤ 400
  · rw [if_pos hc, decide_eq_true hc]; simp
  · rw [if_neg hc, decide_eq_false hc]; simp

theorem seen_eq : ∀ (k : Nat) (a : Int) (x l : List S73) (n i : Int), impl_seen.l0 k a x l n i = spec_l8Seen.l0 k a x l n i
  | 0, _, _, _, _, _ => rfl
  | k + 1, a, x, l, n, i => by
    rw [impl_seen.l0, spec_l8Seen.l0]
    simp only [seen_eq k]
/-- What is seen at a number, behind what is there already. -/
def seenFrom (a : Int) : List S73 → List S73 → List S73
  | x, [] => x
  | x, y :: l => if y.f1 ≤ a then (match x.getLast? with | none => seenFrom a (x ++ [y]) l | some z => if z.f0.toList = y.f0.toList then seenFrom a x l else seenFrom a (x ++ [y]) l) else seenFrom a x l
def seenL (a : Int) (l : List S73) : List S73 := seenFrom a [] l
theorem seenFrom_len (a : Int) : ∀ (l x : List S73), (seenFrom a x l).length ≤ x.length + l.length
  | [], x => by simp [seenFrom]
  | y :: l, x => by
    unfold seenFrom
    split
    · split
      · have := seenFrom_len a l (x ++ [y]); simp at this ⊢; omega
      · split
        · have := seenFrom_len a l x; simp at this ⊢; omega
        · have := seenFrom_len a l (x ++ [y]); simp at this ⊢; omega
    · have := seenFrom_len a l x; simp at this ⊢; omega
theorem rd_lastI (y : List S73) (z : S73) : rd_T73 (y ++ [z]) (((y ++ [z]).length - 1 : Nat) : Int) = z := by
  rw [rdItemi_at (by simp)]
  simp
set_option maxHeartbeats 1000000 in
theorem seen_go (a : Int) (l : List S73) (hl : l.length ≤ 1000000) : ∀ (d i : Nat) (x : List S73), i + d = l.length → x.length ≤ i → Alw fun k => spec_l8Seen.l0 k a x l (l.length : Int) (i : Int) = some (seenFrom a x (l.drop i))
  | 0, i, x, h, hx => Alw.one fun k => by rw [spec_l8Seen.l0, if_neg (by omega), List.drop_eq_nil_of_le (by omega), seenFrom]
  | d + 1, i, x, h, hx => by
    have hi : i < l.length := by omega
    have ih1 := seen_go a l hl d (i + 1) x (by omega) (by omega)
    have ih2 := seen_go a l hl d (i + 1) (x ++ [l[i]]) (by omega) (by simp; omega)
    refine (ih1.and ih2).succ fun k ⟨ih1, ih2⟩ => ?_
    rw [spec_l8Seen.l0, if_pos (by omega), if_pos (by omega), if_pos (by omega), rdItemi_at hi, wS (by omega), List.drop_eq_getElem_cons hi, seenFrom]
    by_cases h1 : l[i].f1 ≤ a
    · rw [if_pos h1, if_pos h1]
      rcases List.eq_nil_or_concat x with rfl | ⟨y, z, hyz⟩
      · rw [if_pos (by simp), if_pos (by simp)]
        exact ih2
      · obtain rfl : x = y ++ [z] := by simpa using hyz
        have hz : 0 < (y ++ [z]).length := by simp
        have hx' : (y ++ [z]).length ≤ i := by simpa using hx
        rw [if_neg (by omega), wP hz (by omega), if_pos (by omega), if_pos (by omega), rd_lastI]
        simp only [List.getLast?_append, List.getLast?_singleton, Option.some_or]
        by_cases h2 : z.f0.toList = l[i].f0.toList
        · rw [if_pos h2, if_pos h2]
          exact ih1
        · rw [if_neg h2, if_neg h2, if_pos (by omega)]
          exact ih2
    · rw [if_neg h1, if_neg h1]
      exact ih1
theorem seen_s (a : Int) (l : List S73) (hl : l.length ≤ 1000000) : Alw fun k => spec_l8Seen.f k l a = some (seenL a l) := seen_go a l hl l.length 0 [] (by omega) (by simp)
theorem seen_i (a : Int) (l : List S73) (hl : l.length ≤ 1000000) : Alw fun k => impl_seen.f k l a = some (seenL a l) := by
  refine (seen_s a l hl).imp fun k h => ?_
  rw [← h]
  exact seen_eq _ _ _ _ _ _
theorem seenL_len (a : Int) (l : List S73) : (seenL a l).length ≤ l.length := by
  have := seenFrom_len a l []
  simpa [seenL] using this

def pairI (x : S73) : S58 := ⟨x.f0, x.f3⟩
def visL (l : List S73) : List S58 := (l.filter fun x => decide (x.f2 = 1)).map pairI
theorem visL_pos {x : S73} {l : List S73} (h : x.f2 = 1) : visL (x :: l) = pairI x :: visL l := by simp [visL, h]
theorem visL_neg {x : S73} {l : List S73} (h : ¬ x.f2 = 1) : visL (x :: l) = visL l := by simp [visL, h]
theorem app_one {α : Type} (x : List α) (a : α) (r : List α) : some (x ++ [a] ++ r) = some (x ++ a :: r) := by simp
theorem vis_go (l : List S73) (hl : l.length ≤ 1000000) : ∀ (d i : Nat) (x : List S58), i + d = l.length → x.length ≤ i → Alw fun k => spec_l8Visible.l0 k x l (l.length : Int) (i : Int) = some (x ++ visL (l.drop i))
  | 0, i, x, h, hx => Alw.one fun k => by rw [spec_l8Visible.l0, if_neg (by omega), List.drop_eq_nil_of_le (by omega)]; simp [visL]
  | d + 1, i, x, h, hx => by
    have hi : i < l.length := by omega
    have ih1 := vis_go l hl d (i + 1) x (by omega) (by omega)
    have ih2 := vis_go l hl d (i + 1) (x ++ [pairI l[i]]) (by omega) (by simp; omega)
    refine (ih1.and ih2).succ fun k ⟨ih1, ih2⟩ => ?_
    rw [spec_l8Visible.l0, if_pos (by omega), if_pos (by omega), if_pos (by omega), rdItemi_at hi, wS (by omega), List.drop_eq_getElem_cons hi]
    by_cases h1 : l[i].f2 = 1
    · rw [if_pos h1, if_pos (by omega)]
      rw [visL_pos h1]
      exact Eq.trans ih2 (app_one _ _ _)
    · rw [if_neg h1, visL_neg h1]
      exact ih1
theorem vis_s (a : Int) (l : List S73) (hl : l.length ≤ 1000000) : Alw fun k => spec_l8Visible.f k l a = some (visL (seenL a l)) := by
  have hs := seenL_len a l
  refine ((seen_s a l hl).and (vis_go (seenL a l) (by omega) (seenL a l).length 0 [] (by omega) (by simp))).imp fun k ⟨h, g⟩ => ?_
  unfold spec_l8Visible.f
  rw [h, Option.bind_some]
  exact g
theorem visL_len (l : List S73) : (visL l).length ≤ l.length := by
  rw [visL, List.length_map]
  exact List.length_filter_le _ _

def inB (lo hi : ByteArray) (s : ByteArray) : Bool := !(Op.bytesLess s.toList lo.toList) && (hi.toList == ([] : List UInt8) || Op.bytesLess s.toList hi.toList)
def scanL (lo hi : ByteArray) (l : List S58) : List S58 := l.filter fun p => inB lo hi p.f0
theorem scanL_pos {lo hi : ByteArray} {p : S58} {l : List S58} (h : inB lo hi p.f0 = true) : scanL lo hi (p :: l) = p :: scanL lo hi l := by simp [scanL, h]
theorem scanL_neg {lo hi : ByteArray} {p : S58} {l : List S58} (h : inB lo hi p.f0 = false) : scanL lo hi (p :: l) = scanL lo hi l := by simp [scanL, h]
theorem scan_go (lo hi : ByteArray) (l : List S73) (hl : l.length ≤ 1000000) : ∀ (d i : Nat) (x : List S58), i + d = l.length → x.length ≤ i → Alw fun k => impl_scan.l0 k lo hi x l (l.length : Int) (i : Int) = some (x ++ scanL lo hi (visL (l.drop i)))
  | 0, i, x, h, hx => Alw.one fun k => by rw [impl_scan.l0, if_neg (by omega), List.drop_eq_nil_of_le (by omega)]; simp [visL, scanL]
  | d + 1, i, x, h, hx => by
    have hi' : i < l.length := by omega
    have ih1 := scan_go lo hi l hl d (i + 1) x (by omega) (by omega)
    have ih2 := scan_go lo hi l hl d (i + 1) (x ++ [pairI l[i]]) (by omega) (by simp; omega)
    refine (ih1.and ih2).succ fun k ⟨ih1, ih2⟩ => ?_
    rw [impl_scan.l0, if_pos (by omega), if_pos (by omega), if_pos (by omega), rdItemi_at hi', wS (by omega), List.drop_eq_getElem_cons hi']
    by_cases h1 : l[i].f2 = 1
    · rw [if_pos h1, visL_pos h1]
      by_cases h2 : Op.bytesLess l[i].f0.toList lo.toList = true
      · rw [if_pos h2, scanL_neg (by simp [inB, pairI, h2])]
        exact ih1
      · rw [if_neg h2]
        have h2' := Bool.eq_false_iff.2 h2
        by_cases h3 : hi.toList = ([] : List UInt8)
        · rw [if_pos h3, if_pos (by omega), scanL_pos (by simp [inB, pairI, h2', h3])]
          exact Eq.trans ih2 (app_one _ _ _)
        · rw [if_neg h3]
          by_cases h4 : Op.bytesLess l[i].f0.toList hi.toList = true
          · rw [if_pos h4, if_pos (by omega), scanL_pos (by simp [inB, pairI, h2', h4])]
            exact Eq.trans ih2 (app_one _ _ _)
          · rw [if_neg h4, scanL_neg (by simp [inB, pairI, Bool.eq_false_iff.2 h4]; simp [beq_eq_false_iff_ne, h3])]
            exact ih1
    · rw [if_neg h1, visL_neg h1]
      exact ih1
theorem scan_i (a : Int) (lo hi : ByteArray) (l : List S73) (hl : l.length ≤ 1000000) : Alw fun k => impl_scan.f k l lo hi a = some (scanL lo hi (visL (seenL a l))) := by
  have hs := seenL_len a l
  refine ((seen_i a l hl).and (scan_go lo hi (seenL a l) (by omega) (seenL a l).length 0 [] (by omega) (by simp))).imp fun k ⟨h, g⟩ => ?_
  unfold impl_scan.f
  rw [h, Option.bind_some]
  exact g
theorem scanL_len (lo hi : ByteArray) (l : List S58) : (scanL lo hi l).length ≤ l.length := List.length_filter_le _ _
theorem less_nil (a : List UInt8) : Op.bytesLess a [] = false := by cases a <;> rfl
theorem scanL_all (l : List S58) : scanL ⟨#[]⟩ ⟨#[]⟩ l = l := by
  rw [scanL, List.filter_eq_self]
  intro p _
  simp [inB, less_nil]

theorem sscan_go (lo hi : ByteArray) (l : List S58) (hl : l.length ≤ 1000000) : ∀ (d i : Nat) (x : List S58), i + d = l.length → x.length ≤ i → Alw fun k => spec_l8Scan.l0 k lo hi x l (l.length : Int) (i : Int) = some (x ++ scanL lo hi (l.drop i))
  | 0, i, x, h, hx => Alw.one fun k => by rw [spec_l8Scan.l0, if_neg (by omega), List.drop_eq_nil_of_le (by omega)]; simp [scanL]
  | d + 1, i, x, h, hx => by
    have hi' : i < l.length := by omega
    have ih1 := sscan_go lo hi l hl d (i + 1) x (by omega) (by omega)
    have ih2 := sscan_go lo hi l hl d (i + 1) (x ++ [l[i]]) (by omega) (by simp; omega)
    refine (ih1.and ih2).succ fun k ⟨ih1, ih2⟩ => ?_
    rw [spec_l8Scan.l0, if_pos (by omega), if_pos (by omega), if_pos (by omega), rdPairi_at hi', wS (by omega), List.drop_eq_getElem_cons hi']
    by_cases h2 : Op.bytesLess l[i].f0.toList lo.toList = true
    · rw [if_pos h2, scanL_neg (by simp [inB, h2])]
      exact ih1
    · rw [if_neg h2]
      have h2' := Bool.eq_false_iff.2 h2
      by_cases h3 : hi.toList = ([] : List UInt8)
      · rw [if_pos h3, if_pos (by omega), scanL_pos (by simp [inB, h2', h3])]
        exact Eq.trans ih2 (app_one _ _ _)
      · rw [if_neg h3]
        by_cases h4 : Op.bytesLess l[i].f0.toList hi.toList = true
        · rw [if_pos h4, if_pos (by omega), scanL_pos (by simp [inB, h2', h4])]
          exact Eq.trans ih2 (app_one _ _ _)
        · rw [if_neg h4, scanL_neg (by simp [inB, Bool.eq_false_iff.2 h4]; simp [beq_eq_false_iff_ne, h3])]
          exact ih1
theorem scan_s (lo hi : ByteArray) (l : List S58) (hl : l.length ≤ 1000000) : Alw fun k => spec_l8Scan.f k l lo hi = some (scanL lo hi l) := sscan_go lo hi l hl l.length 0 [] (by omega) (by simp)

end Go.Proofs.Ytflogiopajppiaa
