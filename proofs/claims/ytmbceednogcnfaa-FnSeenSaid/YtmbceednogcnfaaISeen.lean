/- The plain laws that FnSeen leans on. -/
import Derived.Test.YtmbceednogcnfaaPuBSeen
import Derived.Test.YtmbceednogcnfaaPFnSeenx2
import Derived.Test.YtmbceednogcnfaaPFnSeenx3
import Derived.Test.YtmbceednogcnfaaPFnSeenx4
import Derived.Test.YtmbceednogcnfaaPFnSeenx5
import Derived.Test.YtmbceednogcnfaaPFnSeenx6
import Derived.Test.YtmbceednogcnfaaPFnSeenx7
import Derived.Test.YtmbceednogcnfaaPFnSeenx8
import Derived.Test.YtmbceednogcnfaaPFnSeenx9
namespace Go.Proofs.Ytmbceednogcnfaa
open Go Go.RowKit Go.Proofs.YtmbceednogcnfaaW.PrintWords Go.Proofs.YtmbceednogcnfaaW.PrintLast Go.Proofs.YtmbceednogcnfaaW.PrintMore Go.Proofs.Ytmbceednogcnfaa.PFnSeen
set_option linter.unusedVariables false
set_option linter.unusedSimpArgs false

theorem rdItemi_at {l : List S52} {i : Nat} (h : i < l.length) : rd_T52 l (i : Int) = l[i] := getD_nat h _

theorem rdPairi_at {l : List S34} {i : Nat} (h : i < l.length) : rd_T34 l (i : Int) = l[i] := getD_nat h _

theorem order_s (x y : S52) : Alw fun k => spec_l4Compare.f k x.f0 x.f1 x.f2 x.f3 y.f0 y.f1 y.f2 y.f3 = some (cmpI x y) := by
  refine Alw.one fun k => ?_
  unfold spec_l4Compare.f cmpI cmpS
  by_cases h : Op.bytesLess x.f0.toList y.f0.toList = true
  · simp [h, spec_l4Compare.j0]
  · by_cases q : x.f0.toList = y.f0.toList
    · simp only [if_neg h, if_pos q, if_true, spec_l4Compare.j0, cmpZ, decide_eq_true_eq]
      by_cases h1 : x.f1 > y.f1
      · rw [if_pos h1, if_pos h1]
      · by_cases h2 : x.f1 = y.f1
        · rw [if_neg h1, if_pos h2, if_neg h1, if_neg (by omega)]
        · rw [if_neg h1, if_neg h2, if_neg h1, if_pos (by omega)]
    · simp [h, q, spec_l4Compare.j0]

def goodI (x : S52) : Bool := decide (1 ≤ (x.f0.size : Int) ∧ (x.f0.size : Int) ≤ 16) && decide (0 ≤ x.f1 ∧ x.f1 ≤ 1000000000) && decide (0 ≤ x.f2 ∧ x.f2 ≤ 1) && decide ((x.f3.size : Int) ≤ 40) && (decide (x.f2 = 1) || x.f3.toList == ([] : List UInt8))
/-- Item i is good, and above the one ahead of it. -/
def runOkAt (l : List S52) (i : Nat) : Bool := match l[i]? with
  | none => true
  | some x => goodI x && (if i = 0 then true else match l[i - 1]? with | none => true | some p => decide (cmpI p x < 0))
/-- From the i-th on. -/
def runFrom (l : List S52) : Nat → Nat → Bool
  | 0, _ => true
  | d + 1, i => runOkAt l i && runFrom l d (i + 1)
def goodR (l : List S52) : Bool := runFrom l l.length 0
theorem runOkAt_zero {l : List S52} (h : 0 < l.length) : runOkAt l 0 = goodI l[0] := by
  rw [runOkAt, List.getElem?_eq_getElem h]; simp
theorem runOkAt_succ {l : List S52} {j : Nat} (h : j + 1 < l.length) : runOkAt l (j + 1) = (goodI l[j + 1] && decide (cmpI l[j] l[j + 1] < 0)) := by
  rw [runOkAt, List.getElem?_eq_getElem h]
  simp only [Nat.add_sub_cancel, List.getElem?_eq_getElem (show j < l.length by omega)]
  simp

theorem in_s (a lo hi : Int) : spec_l1In.f a lo hi = some (decide (lo ≤ a ∧ a ≤ hi)) := by
  unfold spec_l1In.f
  by_cases h : a ≥ lo
  · rw [if_pos h]; congr 1; simp; omega
  · rw [if_neg h]; congr 1; simp; omega

theorem in_i (a lo hi : Int) : impl_in.f a lo hi = some (decide (lo ≤ a ∧ a ≤ hi)) := by
  unfold impl_in.f
  by_cases h : a ≥ lo
  · rw [if_pos h]; congr 1; simp; omega
  · rw [if_neg h]; congr 1; simp; omega

theorem good_s (x : S52) : spec_GoodItem.f x.f0 x.f1 x.f2 x.f3 = some (goodI x) := by
  unfold spec_GoodItem.f spec_l4Key.f spec_l4Seq.f goodI
  simp only [in_s, Option.bind_some]
  cases h1 : decide (1 ≤ (x.f0.size : Int) ∧ (x.f0.size : Int) ≤ 16) <;> cases h2 : decide (0 ≤ x.f1 ∧ x.f1 ≤ 1000000000) <;> cases h3 : decide (0 ≤ x.f2 ∧ x.f2 ≤ 1) <;> simp only [Bool.false_eq_true, if_false, if_true, Bool.false_and, Bool.true_and, Bool.and_false]
  by_cases h4 : (x.f3.size : Int) ≤ 40
  · by_cases h5 : x.f2 = 1
    · simp [h4, h5]
    · simp [h4, h5]
  · simp [h4]

theorem good_i (x : S52) : impl_GoodItem.f x.f0 x.f1 x.f2 x.f3 = some (goodI x) := by
  unfold impl_GoodItem.f impl_isKey.f impl_isSeq.f impl_isValue.f goodI
  simp only [in_i, Option.bind_some]
  cases h1 : decide (1 ≤ (x.f0.size : Int) ∧ (x.f0.size : Int) ≤ 16) <;> cases h2 : decide (0 ≤ x.f1 ∧ x.f1 ≤ 1000000000) <;> cases h3 : decide (0 ≤ x.f2 ∧ x.f2 ≤ 1) <;> simp only [Bool.false_eq_true, if_false, if_true, Bool.false_and, Bool.true_and, Bool.and_false]
  by_cases h4 : (x.f3.size : Int) ≤ 40
  · by_cases h5 : x.f2 = 1
    · simp [h4, h5]
    · simp [h4, h5]
  · simp [h4]

set_option maxHeartbeats 1000000 in
theorem goodR_s_go (l : List S52) (hl : l.length ≤ 4611686018427387904) : ∀ (d i : Nat), i + d = l.length → Alw fun k => spec_GoodRun.l0 k l l (l.length : Int) (i : Int) = some (runFrom l d i)
  | 0, i, h => Alw.one fun k => by rw [spec_GoodRun.l0, if_neg (by omega)]; rfl
  | d + 1, i, h => by
    have hi : i < l.length := by omega
    have ih := goodR_s_go l hl d (i + 1) (by omega)
    rw [runFrom]
    rcases i with _ | j
    · refine ih.succ fun k ih => ?_
      rw [spec_GoodRun.l0, if_pos (by omega), if_pos (by omega), if_pos (by omega), rdItemi_at hi, good_s, Option.bind_some, runOkAt_zero hi]
      cases hg : goodI l[0]
      · rw [if_neg (by decide)]; rfl
      · rw [if_pos rfl, if_neg (by omega), wS (by omega), ih]; rfl
    · have hj : j < l.length := by omega
      refine (ih.and (order_s l[j] l[j + 1])).succ fun k ⟨ih, ho⟩ => ?_
      rw [spec_GoodRun.l0, if_pos (by omega), if_pos (by omega), if_pos (by omega), rdItemi_at hi, good_s, Option.bind_some, runOkAt_succ hi]
      cases hg : goodI l[j + 1]
      · rw [if_neg (by decide)]; rfl
      · rw [if_pos rfl, if_pos (by omega), wP (by omega) (by omega), if_pos (by omega), if_pos (by omega)]
        simp only [Nat.add_sub_cancel]
        rw [rdItemi_at hj, ho, Option.bind_some]
        by_cases hc : cmpI l[j] l[j + 1] ≥ 0
        · rw [if_pos hc, decide_eq_false (by omega)]; rfl
        · rw [if_neg hc, decide_eq_true (by omega), wS (by omega), ih]; rfl
theorem goodR_s (l : List S52) (hl : l.length ≤ 4611686018427387904) : Alw fun k => spec_GoodRun.f k l = some (goodR l) := goodR_s_go l hl l.length 0 (by omega)

set_option maxHeartbeats 1000000 in
theorem goodR_i_go (l : List S52) (hl : l.length ≤ 4611686018427387904) : ∀ (d i : Nat), i + d = l.length → Alw fun k => impl_GoodRun.l0 k l l (l.length : Int) (i : Int) = some (runFrom l d i)
  | 0, i, h => Alw.one fun k => by rw [impl_GoodRun.l0, if_neg (by omega)]; rfl
  | d + 1, i, h => by
    have hi : i < l.length := by omega
    have ih := goodR_i_go l hl d (i + 1) (by omega)
    rw [runFrom]
    rcases i with _ | j
    · refine ih.succ fun k ih => ?_
      rw [impl_GoodRun.l0, if_pos (by omega), if_pos (by omega), if_pos (by omega), rdItemi_at hi, good_i, Option.bind_some, runOkAt_zero hi]
      cases hg : goodI l[0]
      · rw [if_neg (by decide)]; rfl
      · rw [if_pos rfl, if_neg (by omega), wS (by omega), ih]; rfl
    · have hj : j < l.length := by omega
      refine (ih.and (order_i l[j] l[j + 1])).succ fun k ⟨ih, ho⟩ => ?_
      rw [impl_GoodRun.l0, if_pos (by omega), if_pos (by omega), if_pos (by omega), rdItemi_at hi, good_i, Option.bind_some, runOkAt_succ hi]
      cases hg : goodI l[j + 1]
      · rw [if_neg (by decide)]; rfl
      · rw [if_pos rfl, if_pos (by omega), wP (by omega) (by omega), if_pos (by omega), if_pos (by omega)]
        simp only [Nat.add_sub_cancel]
        rw [rdItemi_at hj, ho, Option.bind_some]
        by_cases hc : cmpI l[j] l[j + 1] ≥ 0
        · rw [if_pos hc, decide_eq_false (by omega)]; rfl
        · rw [if_neg hc, decide_eq_true (by omega), wS (by omega), ih]; rfl
theorem goodR_i (l : List S52) (hl : l.length ≤ 4611686018427387904) : Alw fun k => impl_GoodRun.f k l = some (goodR l) := goodR_i_go l hl l.length 0 (by omega)

def okR (l : List S52) : Bool := goodR l && decide ((l.length : Int) ≤ 400)

theorem okR_s (l : List S52) (hl : l.length ≤ 4611686018427387904) : Alw fun k => spec_l8Run.f k l = some (okR l) := by
  refine (goodR_s l hl).imp fun k h => ?_
  unfold spec_l8Run.f okR
  rw [h]
  cases goodR l <;> simp

theorem okR_i (l : List S52) (hl : l.length ≤ 4611686018427387904) : Alw fun k => impl_runOk.f k l = some (okR l) := by
  refine (goodR_i l hl).imp fun k h => ?_
  unfold impl_runOk.f okR
  rw [h]
  by_cases hc : (l.length : Int) ≤ 400
  · rw [if_pos hc, decide_eq_true hc]; simp
  · rw [if_neg hc, decide_eq_false hc]; simp

/-- What is seen at a number, behind what is there already. -/
def seenFrom (a : Int) : List S52 → List S52 → List S52
  | x, [] => x
  | x, y :: l => if y.f1 ≤ a then (match x.getLast? with | none => seenFrom a (x ++ [y]) l | some z => if z.f0.toList = y.f0.toList then seenFrom a x l else seenFrom a (x ++ [y]) l) else seenFrom a x l
def seenL (a : Int) (l : List S52) : List S52 := seenFrom a [] l
theorem seenFrom_len (a : Int) : ∀ (l x : List S52), (seenFrom a x l).length ≤ x.length + l.length
  | [], x => by simp [seenFrom]
  | y :: l, x => by
    unfold seenFrom
    split
    · split
      · have := seenFrom_len a l (x ++ [y]); simp at this ⊢; omega
      · split
        · have := seenFrom_len a l x; simp at this ⊢; omega
        · have := seenFrom_len a l (x ++ [y]); simp at this ⊢; omega
    · have := seenFrom_len a l x; simp at this ⊢; omega
theorem seenL_len (a : Int) (l : List S52) : (seenL a l).length ≤ l.length := by
  have := seenFrom_len a l []
  simpa [seenL] using this

theorem rd_lastI (y : List S52) (z : S52) : rd_T52 (y ++ [z]) (((y ++ [z]).length - 1 : Nat) : Int) = z := by
  rw [rdItemi_at (by simp)]
  simp
set_option maxHeartbeats 1000000 in
theorem seen_go (a : Int) (l : List S52) (hl : l.length ≤ 1000000) : ∀ (d i : Nat) (x : List S52), i + d = l.length → x.length ≤ i → Alw fun k => spec_l8Seen.l0 k a x l (l.length : Int) (i : Int) = some (seenFrom a x (l.drop i))
  | 0, i, x, h, hx => Alw.one fun k => by rw [spec_l8Seen.l0, if_neg (by omega), List.drop_eq_nil_of_le (by omega), seenFrom]
  | d + 1, i, x, h, hx => by
    have hi : i < l.length := by omega
    have ih1 := seen_go a l hl d (i + 1) x (by omega) (by omega)
    have ih2 := seen_go a l hl d (i + 1) (x ++ [l[i]]) (by omega) (by simp; omega)
    refine (ih1.and ih2).succ fun k ⟨ih1, ih2⟩ => ?_
    rw [spec_l8Seen.l0, if_pos (by omega), if_pos (by omega), if_pos (by omega), rdItemi_at hi, wS (by omega), List.drop_eq_getElem_cons hi, seenFrom]
    by_cases h1 : l[i].f1 ≤ a
    · rw [if_pos h1, if_pos h1]
      rcases List.eq_nil_or_concat x with rfl | ⟨y, z, hyz⟩
      · rw [if_pos (by simp), if_pos (by simp)]
        exact ih2
      · obtain rfl : x = y ++ [z] := by simpa using hyz
        have hz : 0 < (y ++ [z]).length := by simp
        have hx' : (y ++ [z]).length ≤ i := by simpa using hx
        rw [if_neg (by omega), wP hz (by omega), if_pos (by omega), if_pos (by omega), rd_lastI]
        simp only [List.getLast?_append, List.getLast?_singleton, Option.some_or]
        by_cases h2 : z.f0.toList = l[i].f0.toList
        · rw [if_pos h2, if_pos h2]
          exact ih1
        · rw [if_neg h2, if_neg h2, if_pos (by omega)]
          exact ih2
    · rw [if_neg h1, if_neg h1]
      exact ih1
theorem seen_s (a : Int) (l : List S52) (hl : l.length ≤ 1000000) : Alw fun k => spec_l8Seen.f k l a = some (seenL a l) := seen_go a l hl l.length 0 [] (by omega) (by simp)

theorem seen_eq : ∀ (k : Nat) (a : Int) (x l : List S52) (n i : Int), impl_seen.l0 k a x l n i = spec_l8Seen.l0 k a x l n i
  | 0, _, _, _, _, _ => rfl
  | k + 1, a, x, l, n, i => by
    rw [impl_seen.l0, spec_l8Seen.l0]
    simp only [seen_eq k]
theorem seen_i (a : Int) (l : List S52) (hl : l.length ≤ 1000000) : Alw fun k => impl_seen.f k l a = some (seenL a l) := by
  refine (seen_s a l hl).imp fun k h => ?_
  rw [← h]
  exact seen_eq _ _ _ _ _ _

def pairI (x : S52) : S34 := ⟨x.f0, x.f3⟩
def visL (l : List S52) : List S34 := (l.filter fun x => decide (x.f2 = 1)).map pairI
theorem visL_pos {x : S52} {l : List S52} (h : x.f2 = 1) : visL (x :: l) = pairI x :: visL l := by simp [visL, h]
theorem visL_neg {x : S52} {l : List S52} (h : ¬ x.f2 = 1) : visL (x :: l) = visL l := by simp [visL, h]
theorem app_one {α : Type} (x : List α) (a : α) (r : List α) : some (x ++ [a] ++ r) = some (x ++ a :: r) := by simp
theorem vis_go (l : List S52) (hl : l.length ≤ 1000000) : ∀ (d i : Nat) (x : List S34), i + d = l.length → x.length ≤ i → Alw fun k => spec_l8Visible.l0 k x l (l.length : Int) (i : Int) = some (x ++ visL (l.drop i))
  | 0, i, x, h, hx => Alw.one fun k => by rw [spec_l8Visible.l0, if_neg (by omega), List.drop_eq_nil_of_le (by omega)]; simp [visL]
  | d + 1, i, x, h, hx => by
    have hi : i < l.length := by omega
    have ih1 := vis_go l hl d (i + 1) x (by omega) (by omega)
    have ih2 := vis_go l hl d (i + 1) (x ++ [pairI l[i]]) (by omega) (by simp; omega)
    refine (ih1.and ih2).succ fun k ⟨ih1, ih2⟩ => ?_
    rw [spec_l8Visible.l0, if_pos (by omega), if_pos (by omega), if_pos (by omega), rdItemi_at hi, wS (by omega), List.drop_eq_getElem_cons hi]
    by_cases h1 : l[i].f2 = 1
    · rw [if_pos h1, if_pos (by omega)]
      rw [visL_pos h1]
      exact Eq.trans ih2 (app_one _ _ _)
    · rw [if_neg h1, visL_neg h1]
      exact ih1
theorem vis_s (a : Int) (l : List S52) (hl : l.length ≤ 1000000) : Alw fun k => spec_l8Visible.f k l a = some (visL (seenL a l)) := by
  have hs := seenL_len a l
  refine ((seen_s a l hl).and (vis_go (seenL a l) (by omega) (seenL a l).length 0 [] (by omega) (by simp))).imp fun k ⟨h, g⟩ => ?_
  unfold spec_l8Visible.f
  rw [h, Option.bind_some]
  exact g
theorem visL_len (l : List S52) : (visL l).length ≤ l.length := by
  rw [visL, List.length_map]
  exact List.length_filter_le _ _

def inB (lo hi : ByteArray) (s : ByteArray) : Bool := !(Op.bytesLess s.toList lo.toList) && (hi.toList == ([] : List UInt8) || Op.bytesLess s.toList hi.toList)
def scanL (lo hi : ByteArray) (l : List S34) : List S34 := l.filter fun p => inB lo hi p.f0
theorem scanL_pos {lo hi : ByteArray} {p : S34} {l : List S34} (h : inB lo hi p.f0 = true) : scanL lo hi (p :: l) = p :: scanL lo hi l := by simp [scanL, h]
theorem scanL_neg {lo hi : ByteArray} {p : S34} {l : List S34} (h : inB lo hi p.f0 = false) : scanL lo hi (p :: l) = scanL lo hi l := by simp [scanL, h]
theorem scan_go (lo hi : ByteArray) (l : List S52) (hl : l.length ≤ 1000000) : ∀ (d i : Nat) (x : List S34), i + d = l.length → x.length ≤ i → Alw fun k => impl_scan.l0 k lo hi x l (l.length : Int) (i : Int) = some (x ++ scanL lo hi (visL (l.drop i)))
  | 0, i, x, h, hx => Alw.one fun k => by rw [impl_scan.l0, if_neg (by omega), List.drop_eq_nil_of_le (by omega)]; simp [visL, scanL]
  | d + 1, i, x, h, hx => by
    have hi' : i < l.length := by omega
    have ih1 := scan_go lo hi l hl d (i + 1) x (by omega) (by omega)
    have ih2 := scan_go lo hi l hl d (i + 1) (x ++ [pairI l[i]]) (by omega) (by simp; omega)
    refine (ih1.and ih2).succ fun k ⟨ih1, ih2⟩ => ?_
    rw [impl_scan.l0, if_pos (by omega), if_pos (by omega), if_pos (by omega), rdItemi_at hi', wS (by omega), List.drop_eq_getElem_cons hi']
    by_cases h1 : l[i].f2 = 1
    · rw [if_pos h1, visL_pos h1]
      by_cases h2 : Op.bytesLess l[i].f0.toList lo.toList = true
      · rw [if_pos h2, scanL_neg (by simp [inB, pairI, h2])]
        exact ih1
      · rw [if_neg h2]
        have h2' := Bool.eq_false_iff.2 h2
        by_cases h3 : hi.toList = ([] : List UInt8)
        · rw [if_pos h3, if_pos (by omega), scanL_pos (by simp [inB, pairI, h2', h3])]
          exact Eq.trans ih2 (app_one _ _ _)
        · rw [if_neg h3]
          by_cases h4 : Op.bytesLess l[i].f0.toList hi.toList = true
          · rw [if_pos h4, if_pos (by omega), scanL_pos (by simp [inB, pairI, h2', h4])]
            exact Eq.trans ih2 (app_one _ _ _)
          · rw [if_neg h4, scanL_neg (by simp [inB, pairI, Bool.eq_false_iff.2 h4]; simp [beq_eq_false_iff_ne, h3])]
            exact ih1
    · rw [if_neg h1, visL_neg h1]
      exact ih1
theorem scan_i (a : Int) (lo hi : ByteArray) (l : List S52) (hl : l.length ≤ 1000000) : Alw fun k => impl_scan.f k l lo hi a = some (scanL lo hi (visL (seenL a l))) := by
  have hs := seenL_len a l
  refine ((seen_i a l hl).and (scan_go lo hi (seenL a l) (by omega) (seenL a l).length 0 [] (by omega) (by simp))).imp fun k ⟨h, g⟩ => ?_
  unfold impl_scan.f
  rw [h, Option.bind_some]
  exact g
theorem scanL_len (lo hi : ByteArray) (l : List S34) : (scanL lo hi l).length ≤ l.length := List.length_filter_le _ _
theorem less_nil (a : List UInt8) : Op.bytesLess a [] = false := by cases a <;> rfl
theorem scanL_all (l : List S34) : scanL ⟨#[]⟩ ⟨#[]⟩ l = l := by
  rw [scanL, List.filter_eq_self]
  intro p _
  simp [inB, less_nil]

theorem sscan_go (lo hi : ByteArray) (l : List S34) (hl : l.length ≤ 1000000) : ∀ (d i : Nat) (x : List S34), i + d = l.length → x.length ≤ i → Alw fun k => spec_l8Scan.l0 k lo hi x l (l.length : Int) (i : Int) = some (x ++ scanL lo hi (l.drop i))
  | 0, i, x, h, hx => Alw.one fun k => by rw [spec_l8Scan.l0, if_neg (by omega), List.drop_eq_nil_of_le (by omega)]; simp [scanL]
  | d + 1, i, x, h, hx => by
    have hi' : i < l.length := by omega
    have ih1 := sscan_go lo hi l hl d (i + 1) x (by omega) (by omega)
    have ih2 := sscan_go lo hi l hl d (i + 1) (x ++ [l[i]]) (by omega) (by simp; omega)
    refine (ih1.and ih2).succ fun k ⟨ih1, ih2⟩ => ?_
    rw [spec_l8Scan.l0, if_pos (by omega), if_pos (by omega), if_pos (by omega), rdPairi_at hi', wS (by omega), List.drop_eq_getElem_cons hi']
    by_cases h2 : Op.bytesLess l[i].f0.toList lo.toList = true
    · rw [if_pos h2, scanL_neg (by simp [inB, h2])]
      exact ih1
    · rw [if_neg h2]
      have h2' := Bool.eq_false_iff.2 h2
      by_cases h3 : hi.toList = ([] : List UInt8)
      · rw [if_pos h3, if_pos (by omega), scanL_pos (by simp [inB, h2', h3])]
        exact Eq.trans ih2 (app_one _ _ _)
      · rw [if_neg h3]
        by_cases h4 : Op.bytesLess l[i].f0.toList hi.toList = true
        · rw [if_pos h4, if_pos (by omega), scanL_pos (by simp [inB, h2', h4])]
          exact Eq.trans ih2 (app_one _ _ _)
        · rw [if_neg h4, scanL_neg (by simp [inB, Bool.eq_false_iff.2 h4]; simp [beq_eq_false_iff_ne, h3])]
          exact ih1
theorem scan_s (lo hi : ByteArray) (l : List S34) (hl : l.length ≤ 1000000) : Alw fun k => spec_l8Scan.f k l lo hi = some (scanL lo hi l) := sscan_go lo hi l hl l.length 0 [] (by omega) (by simp)

theorem runFrom_at {l : List S52} : ∀ (d i : Nat), runFrom l d i = true → ∀ j, i ≤ j → j < i + d → runOkAt l j = true
  | 0, i, _, j, h1, h2 => by omega
  | d + 1, i, h, j, h1, h2 => by
    rw [runFrom, Bool.and_eq_true] at h
    rcases Nat.eq_or_lt_of_le h1 with rfl | h3
    · exact h.1
    · exact runFrom_at d (i + 1) h.2 j h3 (by omega)
theorem goodR_next {l : List S52} (h : goodR l = true) (j : Nat) (hj : j + 1 < l.length) : upI l[j] l[j + 1] = true := by
  have := runFrom_at _ _ h (j + 1) (Nat.zero_le _) (by omega)
  rw [runOkAt_succ hj, Bool.and_eq_true] at this
  exact this.2
theorem goodR_pair {l : List S52} (h : goodR l = true) : l.Pairwise fun x y => cmpI x y < 0 :=
  List.pairwise_iff_getElem.2 fun i j hi hj hij => up_lt (goodR_next h) j i hij hj
theorem ups_of {l : List S52} (h : ∀ j (hj : j + 1 < l.length), upI l[j] l[j + 1] = true) : ∀ (d i : Nat), okFrom (fun _ => true) upI l d i = true
  | 0, _ => rfl
  | d + 1, i => by
    rw [okFrom, ups_of h d (i + 1), Bool.and_true]
    by_cases hi : i < l.length
    · rcases i with _ | j
      · rw [okAt_zero hi]
      · rw [okAt_succ hi, h j hi]; rfl
    · rw [okAt, List.getElem?_eq_none (by omega)]

def keyIs (key : ByteArray) (x : S52) : Bool := x.f0.toList == key.toList
theorem find_seen (key : ByteArray) (a : Int) : ∀ (l x : List S52), (seenFrom a x l).find? (keyIs key) = (x.find? (keyIs key)).or (l.find? fun y => keyIs key y && decide (y.f1 ≤ a))
  | [], x => by simp [seenFrom]
  | y :: l, x => by
    unfold seenFrom
    by_cases h : y.f1 ≤ a
    · rw [if_pos h]
      have e : (y :: l).find? (fun y => keyIs key y && decide (y.f1 ≤ a)) = if keyIs key y = true then some y else l.find? fun y => keyIs key y && decide (y.f1 ≤ a) := by
        rw [List.find?_cons]
        cases hk : keyIs key y <;> simp [h]
      rw [e]
      split
      · rename_i hx
        rw [List.getLast?_eq_none_iff] at hx
        subst hx
        rw [find_seen key a l ([] ++ [y])]
        cases hk : keyIs key y <;> simp [hk]
      · rename_i z hz
        have hzm : z ∈ x := List.mem_of_getLast? hz
        by_cases hq : z.f0.toList = y.f0.toList
        · rw [if_pos hq, find_seen key a l x]
          by_cases hk : keyIs key y = true
          · have hkz : keyIs key z = true := by simpa [keyIs, hq] using hk
            cases hf : x.find? (keyIs key) with
            | some w => simp
            | none =>
              rw [List.find?_eq_none] at hf
              exact absurd hkz (hf z hzm)
          · rw [if_neg hk]
        · rw [if_neg hq, find_seen key a l (x ++ [y]), List.find?_append]
          cases hk : keyIs key y <;> simp [hk]
    · rw [if_neg h, find_seen key a l x, List.find?_cons]
      simp [h]
/-- How many lie ahead of a key and a number. -/
def seekN (key : ByteArray) (a : Int) (l : List S52) : Nat := l.countP fun z => decide (cmpI z ⟨key, a, 0, ⟨#[]⟩⟩ < 0)
theorem find_sorted (key : ByteArray) (a : Int) : ∀ (l : List S52), (l.Pairwise fun x y => cmpI x y < 0) →
    l.find? (fun y => keyIs key y && decide (y.f1 ≤ a)) = (match l[seekN key a l]? with | none => none | some z => if keyIs key z = true then some z else none)
  | [], _ => rfl
  | x :: l, h => by
    rw [List.pairwise_cons] at h
    have ih := find_sorted key a l h.2
    by_cases hq : cmpI x ⟨key, a, 0, ⟨#[]⟩⟩ < 0
    · have hn : seekN key a (x :: l) = seekN key a l + 1 := by
        unfold seekN
        rw [List.countP_cons_of_pos (by simpa using hq)]
      rw [hn, List.getElem?_cons_succ, ← ih, List.find?_cons]
      have : (keyIs key x && decide (x.f1 ≤ a)) = false := by
        rw [cmpI_lt] at hq
        rcases hq with hq | ⟨hq, hs⟩
        · have : keyIs key x = false := by
            rw [keyIs, beq_eq_false_iff_ne]
            intro e
            rw [e, less_irrefl] at hq
            cases hq
          rw [this]; rfl
        · have hs' : a < x.f1 := hs
          have : ¬ x.f1 ≤ a := by omega
          simp [this]
      rw [this]
    · have hall : ∀ y ∈ l, ¬ cmpI y ⟨key, a, 0, ⟨#[]⟩⟩ < 0 := fun y hy hc => hq (cmpI_trans (h.1 y hy) hc)
      have hn : seekN key a (x :: l) = 0 := by
        unfold seekN
        rw [List.countP_eq_zero]
        intro y hy
        rcases List.mem_cons.1 hy with rfl | hy
        · simpa using hq
        · simpa using hall y hy
      rw [hn, List.getElem?_cons_zero, List.find?_cons]
      rw [cmpI_lt, not_or] at hq
      by_cases hk : keyIs key x = true
      · have hs : x.f1 ≤ a := by
          rcases Int.lt_or_le a x.f1 with h1 | h1
          · exact absurd ⟨by simpa [keyIs] using hk, h1⟩ hq.2
          · exact h1
        simp [hk, hs]
      · have hk' : keyIs key x = false := Bool.eq_false_iff.2 hk
        simp only [hk', Bool.false_and, if_neg hk]
        rw [if_neg (by decide), List.find?_eq_none]
        intro y hy hc
        have hky : y.f0.toList = key.toList := by simp [keyIs] at hc; exact hc.1
        have hxy := h.1 y hy
        rw [cmpI_lt, hky] at hxy
        rcases hxy with h1 | ⟨h1, _⟩
        · exact hq.1 h1
        · rw [keyIs, h1] at hk'
          simp at hk'
def lookO : Option S52 → ByteArray × Int × Bool
  | none => (⟨#[]⟩, 0, false)
  | some z => (z.f3, z.f2, true)
theorem look_go (key : ByteArray) (l : List S52) (hl : l.length ≤ 1000000) : ∀ (d i : Nat), i + d = l.length → Alw fun k => spec_l8Look.l0 k key l (l.length : Int) (i : Int) = some (lookO ((l.drop i).find? (keyIs key)))
  | 0, i, h => Alw.one fun k => by rw [spec_l8Look.l0, if_neg (by omega), List.drop_eq_nil_of_le (by omega)]; rfl
  | d + 1, i, h => by
    have hi : i < l.length := by omega
    refine (look_go key l hl d (i + 1) (by omega)).succ fun k ih => ?_
    rw [spec_l8Look.l0, if_pos (by omega), if_pos (by omega), if_pos (by omega), rdItemi_at hi, List.drop_eq_getElem_cons hi, List.find?_cons]
    by_cases hk : l[i].f0.toList = key.toList
    · rw [if_pos hk, show keyIs key l[i] = true by simpa [keyIs] using hk]
      rfl
    · rw [if_neg hk, wS (by omega), ih, show keyIs key l[i] = false by simpa [keyIs] using hk]
def lookL (key : ByteArray) (a : Int) (l : List S52) : ByteArray × Int × Bool := lookO ((seenL a l).find? (keyIs key))
theorem look_s (key : ByteArray) (a : Int) (l : List S52) (hl : l.length ≤ 1000000) : Alw fun k => spec_l8Look.f k l key a = some (lookL key a l) := by
  have hs := seenL_len a l
  refine ((seen_s a l hl).and (look_go key (seenL a l) (by omega) (seenL a l).length 0 (by omega))).imp fun k ⟨h, g⟩ => ?_
  unfold spec_l8Look.f
  rw [h, Option.bind_some]
  exact g
theorem lookL_sorted (key : ByteArray) (a : Int) (l : List S52) (h : l.Pairwise fun x y => cmpI x y < 0) : lookL key a l = lookO (match l[seekN key a l]? with | none => none | some z => if keyIs key z = true then some z else none) := by
  rw [lookL, seenL, find_seen, ← find_sorted key a l h]
  rfl

def inK (key : ByteArray) : Prop := 1 ≤ (key.size : Int) ∧ (key.size : Int) ≤ 16
instance (key : ByteArray) : Decidable (inK key) := by unfold inK; exact inferInstance
def ansL (l : List S52) (key : ByteArray) (a : Int) : ByteArray × Int × Bool := if okR l = true ∧ inK key ∧ 0 ≤ a ∧ a ≤ 1000000000 then lookL key a l else (⟨#[]⟩, 0, false)
theorem okR_len {l : List S52} (h : okR l = true) : l.length ≤ 400 := by
  unfold okR at h
  simp at h
  omega
theorem okR_good {l : List S52} (h : okR l = true) : goodR l = true := by
  unfold okR at h
  simp at h
  exact h.1
theorem ans_s (l : List S52) (key : ByteArray) (a : Int) (hl : l.length ≤ 4611686018427387904) : Alw fun k => spec_LookIn.f k l key a = some (ansL l key a) := by
  have h1 := okR_s l hl
  have e1 : spec_l4Key.f key = some (decide (inK key)) := by unfold spec_l4Key.f; rw [in_s]; rfl
  have e2 : spec_l4Seq.f a = some (decide (0 ≤ a ∧ a ≤ 1000000000)) := by unfold spec_l4Seq.f; rw [in_s]; rfl
  cases hr : okR l
  · refine h1.imp fun k h => ?_
    unfold spec_LookIn.f ansL
    rw [h, hr]
    simp
  · have h2 := look_s key a l (by have := okR_len hr; omega)
    refine (h1.and h2).imp fun k ⟨h, g⟩ => ?_
    unfold spec_LookIn.f ansL
    rw [h, hr, Option.bind_some, if_pos rfl, e1, Option.bind_some]
    by_cases hk : inK key
    · rw [if_pos (by simpa using hk), e2, Option.bind_some]
      by_cases hs : 0 ≤ a ∧ a ≤ 1000000000
      · rw [if_pos (by simpa using hs), g, Option.bind_some, if_pos ⟨rfl, hk, hs⟩]
      · rw [if_neg (by simpa using hs), if_neg (fun h => hs h.2.2)]
    · rw [if_neg (by simpa using hk), if_neg (fun h => hk h.2.1)]
theorem ans_i (l : List S52) (key : ByteArray) (a : Int) (hl : l.length ≤ 4611686018427387904) : Alw fun k => impl_LookIn.f k l key a = some (ansL l key a) := by
  have h1 := (okR_i l hl).up
  have e1 : impl_isKey.f key = some (decide (inK key)) := by unfold impl_isKey.f; rw [in_i]; rfl
  have e2 : impl_isSeq.f a = some (decide (0 ≤ a ∧ a ≤ 1000000000)) := by unfold impl_isSeq.f; rw [in_i]; rfl
  refine h1.succ fun k h => ?_
  unfold impl_LookIn.f ansL
  rw [h, Option.bind_some]
  cases hr : okR l
  · rw [if_neg (by decide), impl_LookIn.j0, if_pos rfl, if_neg (fun h => by cases h.1)]
  · rw [if_pos rfl, e1, Option.bind_some]
    by_cases hk : inK key
    · rw [if_pos (by simpa using hk), e2, Option.bind_some]
      by_cases hs : 0 ≤ a ∧ a ≤ 1000000000
      · have hlen := okR_len hr
        have hg := okR_good hr
        rw [show (!decide (0 ≤ a ∧ a ≤ 1000000000)) = false by rw [decide_eq_true hs]; rfl, impl_LookIn.j0, if_neg (by decide), if_pos ⟨rfl, hk, hs⟩, lookL_sorted key a l (goodR_pair hg), impl_seekRun.f, if_pos ⟨by omega, ups_of (goodR_next hg) _ _⟩, Option.bind_some]
        simp only [show (List.countP (fun z => decide (cmpI z ⟨key, a, 0, ⟨#[]⟩⟩ < 0)) l) = seekN key a l from rfl]
        have hn : seekN key a l ≤ l.length := List.countP_le_length
        by_cases hz : seekN key a l = l.length
        · rw [if_pos (by omega), List.getElem?_eq_none (by omega)]
          rfl
        · have hz2 : seekN key a l < l.length := by omega
          rw [if_neg (by omega), if_pos (by omega), if_pos (by omega), rdItemi_at hz2, List.getElem?_eq_getElem hz2]
          by_cases hq : l[seekN key a l].f0.toList = key.toList
          · rw [if_pos hq]
            simp only [show keyIs key l[seekN key a l] = true by simpa [keyIs] using hq, if_true]
            rfl
          · rw [if_neg hq]
            simp only [show keyIs key l[seekN key a l] = false by simpa [keyIs] using hq]
            rfl
      · rw [show (!decide (0 ≤ a ∧ a ≤ 1000000000)) = true by rw [decide_eq_false hs]; rfl, impl_LookIn.j0, if_pos rfl, if_neg (fun h => hs h.2.2)]
    · rw [if_neg (by simpa using hk), impl_LookIn.j0, if_pos rfl, if_neg (fun h => hk h.2.1)]

theorem isSeq_f (a : Int) : spec_l4Seq.f a = some (decide (0 ≤ a ∧ a ≤ 1000000000)) ∧ impl_isSeq.f a = some (decide (0 ≤ a ∧ a ≤ 1000000000)) := by
  unfold spec_l4Seq.f impl_isSeq.f
  rw [in_s, in_i]
  exact ⟨rfl, rfl⟩

def visA (l : List S52) (a : Int) : List S34 × Bool := if okR l = true ∧ 0 ≤ a ∧ a ≤ 1000000000 then (visL (seenL a l), true) else ([], false)
theorem visA_len (l : List S52) (a : Int) : (visA l a).1.length ≤ 400 := by
  unfold visA
  split
  · rename_i h
    have h1 := okR_len h.1
    have h2 := visL_len (seenL a l)
    have h3 := seenL_len a l
    simp only
    omega
  · simp
theorem visA_i (l : List S52) (a : Int) (hl : l.length ≤ 4611686018427387904) : Alw fun k => impl_VisibleAt.f k l a = some (visA l a) := by
  have h1 := okR_i l hl
  have hb : impl_boundsOk.f ⟨#[]⟩ ⟨#[]⟩ = some true := by
    unfold impl_boundsOk.f
    rw [if_pos (by decide)]
    rfl
  cases hr : okR l
  · refine h1.imp fun k h => ?_
    unfold impl_VisibleAt.f impl_ScanAt.f visA
    rw [h, hr]
    simp
  · by_cases hs : 0 ≤ a ∧ a ≤ 1000000000
    · have h2 := scan_i a ⟨#[]⟩ ⟨#[]⟩ l (by have := okR_len hr; omega)
      rw [scanL_all] at h2
      refine (h1.and h2).imp fun k ⟨h, g⟩ => ?_
      unfold impl_VisibleAt.f impl_ScanAt.f visA
      rw [h, hr, Option.bind_some, if_pos rfl, hb, Option.bind_some, if_pos rfl, (isSeq_f a).2, Option.bind_some, if_pos (by simpa using hs), g, Option.bind_some, if_pos ⟨rfl, hs⟩]
      rfl
    · refine h1.imp fun k h => ?_
      unfold impl_VisibleAt.f impl_ScanAt.f visA
      rw [h, hr, Option.bind_some, if_pos rfl, hb, Option.bind_some, if_pos rfl, (isSeq_f a).2, Option.bind_some, if_neg (by simpa using hs), if_neg (fun h => hs h.2)]
      rfl

def inA (lo hi : ByteArray) (a : Int) : Prop := ((lo.size : Int) ≤ 16 ∧ (hi.size : Int) ≤ 16) ∧ 0 ≤ a ∧ a ≤ 1000000000
instance (lo hi : ByteArray) (a : Int) : Decidable (inA lo hi a) := by unfold inA; exact inferInstance
def scanA (l : List S52) (lo hi : ByteArray) (a : Int) : List S34 × Bool := if okR l = true ∧ inA lo hi a then (scanL lo hi (visL (seenL a l)), true) else ([], false)
theorem scanA_len (l : List S52) (lo hi : ByteArray) (a : Int) : (scanA l lo hi a).1.length ≤ 400 := by
  unfold scanA
  split
  · rename_i h
    have h1 := okR_len h.1
    have h2 := visL_len (seenL a l)
    have h3 := seenL_len a l
    have h4 := scanL_len lo hi (visL (seenL a l))
    simp only
    omega
  · simp
theorem scanA_s (l : List S52) (lo hi : ByteArray) (a : Int) (hl : l.length ≤ 4611686018427387904) : Alw fun k => spec_ScanAt.f k l lo hi a = some (scanA l lo hi a) := by
  have h1 := (okR_s l hl).up
  cases hr : okR l
  · refine h1.succ fun k h => ?_
    unfold spec_ScanAt.f scanA
    rw [h, hr]
    simp [spec_ScanAt.j0]
  · by_cases hs : 0 ≤ a ∧ a ≤ 1000000000
    · have hlen := okR_len hr
      have h2 := (vis_s a l (by omega)).and (scan_s lo hi (visL (seenL a l)) (by have := visL_len (seenL a l); have := seenL_len a l; omega))
      refine (h1.and h2).succ fun k ⟨h, g, g2⟩ => ?_
      unfold spec_ScanAt.f scanA inA
      rw [h, hr, Option.bind_some, if_pos rfl, (isSeq_f a).1, Option.bind_some, if_pos (by simpa using hs)]
      by_cases q1 : (lo.size : Int) > 16
      · rw [if_pos q1, spec_ScanAt.j0, if_pos rfl, if_neg (fun h => by omega)]
      · rw [if_neg q1, spec_ScanAt.j0]
        by_cases q2 : (hi.size : Int) > 16
        · rw [if_pos (by simpa using q2), if_neg (fun h => by omega)]
        · rw [if_neg (by simpa using q2), g, Option.bind_some, g2, Option.bind_some, if_pos ⟨rfl, by omega⟩]
    · refine h1.succ fun k h => ?_
      unfold spec_ScanAt.f scanA inA
      rw [h, hr, Option.bind_some, if_pos rfl, (isSeq_f a).1, Option.bind_some, if_neg (by simpa using hs), if_neg (fun h => hs h.2.2)]
      simp [spec_ScanAt.j0]
theorem scanA_i (l : List S52) (lo hi : ByteArray) (a : Int) (hl : l.length ≤ 4611686018427387904) : Alw fun k => impl_ScanAt.f k l lo hi a = some (scanA l lo hi a) := by
  have h1 := okR_i l hl
  have hb : impl_boundsOk.f lo hi = some (decide ((lo.size : Int) ≤ 16 ∧ (hi.size : Int) ≤ 16)) := by
    unfold impl_boundsOk.f
    by_cases q : (lo.size : Int) ≤ 16
    · rw [if_pos q]; simp [q]
    · rw [if_neg q]; simp [q]
  cases hr : okR l
  · refine h1.imp fun k h => ?_
    unfold impl_ScanAt.f scanA
    rw [h, hr]
    simp
  · by_cases hq : (lo.size : Int) ≤ 16 ∧ (hi.size : Int) ≤ 16
    · by_cases hs : 0 ≤ a ∧ a ≤ 1000000000
      · have h2 := scan_i a lo hi l (by have := okR_len hr; omega)
        refine (h1.and h2).imp fun k ⟨h, g⟩ => ?_
        unfold impl_ScanAt.f scanA inA
        rw [h, hr, Option.bind_some, if_pos rfl, hb, Option.bind_some, if_pos (by simpa using hq), (isSeq_f a).2, Option.bind_some, if_pos (by simpa using hs), g, Option.bind_some, if_pos ⟨rfl, hq, hs⟩]
      · refine h1.imp fun k h => ?_
        unfold impl_ScanAt.f scanA inA
        rw [h, hr, Option.bind_some, if_pos rfl, hb, Option.bind_some, if_pos (by simpa using hq), (isSeq_f a).2, Option.bind_some, if_neg (by simpa using hs), if_neg (fun h => hs h.2.2)]
    · refine h1.imp fun k h => ?_
      unfold impl_ScanAt.f scanA inA
      rw [h, hr, Option.bind_some, if_pos rfl, hb, Option.bind_some, if_neg (by simpa using hq), if_neg (fun h => hq h.2.1)]

theorem same_go (l : List S34) (hl : l.length ≤ 4611686018427387904) : ∀ (d i : Nat), i + d = l.length → Alw fun k => laws_samePairs.l0 k l l (l.length : Int) (i : Int) = some true
  | 0, i, h => Alw.one fun k => by rw [laws_samePairs.l0, if_neg (by omega)]
  | d + 1, i, h => by
    have hi : i < l.length := by omega
    refine (same_go l hl d (i + 1) (by omega)).succ fun k ih => ?_
    rw [laws_samePairs.l0, if_pos (by omega), if_pos (by omega), if_pos (by omega), if_pos (by omega), rdPairi_at hi, if_neg (by simp), wS (by omega)]
    exact ih
theorem same_alw (l : List S34) (hl : l.length ≤ 4611686018427387904) : Alw fun k => laws_samePairs.f k l l = some true := by
  refine (same_go l hl l.length 0 (by omega)).imp fun k h => ?_
  unfold laws_samePairs.f
  rw [if_pos rfl]
  exact h

/-- Keys rise. -/
def keyUp (x y : S52) : Prop := Op.bytesLess x.f0.toList y.f0.toList = true
theorem seenFrom_up (a : Int) : ∀ (l x : List S52), (l.Pairwise fun x y => cmpI x y < 0) → x.Pairwise keyUp → (∀ z ∈ x, ∀ y ∈ l, keyUp z y ∨ z.f0.toList = y.f0.toList ∧ x.getLast? = some z) → (seenFrom a x l).Pairwise keyUp
  | [], x, _, hx, _ => by rw [seenFrom]; exact hx
  | y :: l, x, hl, hx, hq => by
    rw [List.pairwise_cons] at hl
    have hstay : ∀ z ∈ x, ∀ y' ∈ l, keyUp z y' ∨ z.f0.toList = y'.f0.toList ∧ x.getLast? = some z := fun z hz y' hy' => hq z hz y' (List.mem_cons_of_mem _ hy')
    unfold seenFrom
    split
    · split
      · rename_i hn
        rw [List.getLast?_eq_none_iff] at hn
        subst hn
        refine seenFrom_up a l _ hl.2 (by simp) fun z hz y' hy' => ?_
        simp only [List.nil_append, List.mem_singleton] at hz
        subst hz
        rcases cmpI_lt.1 (hl.1 y' hy') with h | ⟨h, _⟩
        · exact .inl h
        · exact .inr ⟨h, by simp⟩
      · rename_i z0 hz0
        split
        · exact seenFrom_up a l x hl.2 hx hstay
        · rename_i hne
          have hall : ∀ z ∈ x, keyUp z y := fun z hz => by
            rcases hq z hz y List.mem_cons_self with h | ⟨h, g⟩
            · exact h
            · rw [hz0] at g
              obtain rfl := Option.some.inj g
              exact absurd h hne
          refine seenFrom_up a l _ hl.2 ?_ fun z hz y' hy' => ?_
          · rw [List.pairwise_append]
            exact ⟨hx, by simp, fun z hz w hw => by
              rw [List.mem_singleton] at hw
              subst hw
              exact hall z hz⟩
          · have hyy := cmpI_lt.1 (hl.1 y' hy')
            rcases List.mem_append.1 hz with hz | hz
            · left
              rcases hyy with h | ⟨h, _⟩
              · exact less_trans (hall z hz) h
              · have := hall z hz
                unfold keyUp at *
                rw [← h]
                exact this
            · rw [List.mem_singleton] at hz
              subst hz
              rcases hyy with h | ⟨h, _⟩
              · exact .inl h
              · exact .inr ⟨h, by simp⟩
    · exact seenFrom_up a l x hl.2 hx hstay
theorem seenL_up (a : Int) (l : List S52) (h : l.Pairwise fun x y => cmpI x y < 0) : (seenL a l).Pairwise keyUp := seenFrom_up a l [] h List.Pairwise.nil (by simp)
theorem keyUp_uniq : ∀ {l : List S52}, l.Pairwise keyUp → ∀ x ∈ l, ∀ y ∈ l, x.f0.toList = y.f0.toList → x = y
  | [], _, x, hx, _, _, _ => by cases hx
  | z :: l, h, x, hx, y, hy, he => by
    rw [List.pairwise_cons] at h
    rcases List.mem_cons.1 hx with rfl | hx2
    · rcases List.mem_cons.1 hy with rfl | hy2
      · rfl
      · have := h.1 y hy2
        unfold keyUp at this
        rw [he, less_irrefl] at this
        cases this
    · rcases List.mem_cons.1 hy with rfl | hy2
      · have := h.1 x hx2
        unfold keyUp at this
        rw [he, less_irrefl] at this
        cases this
      · exact keyUp_uniq h.2 x hx2 y hy2 he

/-- Among what is seen a key's own value stands just where it was put. -/
def hasP (key v : ByteArray) (p : S34) : Bool := (p.f0.toList == key.toList) && (p.f1.toList == v.toList)
theorem seen_has {l : List S52} {key : ByteArray} {a : Int} (h : (ansL l key a).2.2 = true) (h1 : (visA l a).2 = true) : (visA l a).1.any (hasP key (ansL l key a).1) = decide ((ansL l key a).2.1 = 1) := by
  unfold ansL at *
  split at h
  · rename_i hc
    rw [if_pos hc]
    unfold visA
    rw [if_pos ⟨hc.1, hc.2.2⟩]
    have hu := seenL_up a l (goodR_pair (okR_good hc.1))
    unfold lookL at *
    cases hf : (seenL a l).find? (keyIs key) with
    | none => rw [hf] at h; cases h
    | some z =>
      have hz := List.mem_of_find?_eq_some hf
      have hk := List.find?_some hf
      simp only [keyIs, beq_iff_eq] at hk
      show (visL (seenL a l)).any (hasP key z.f3) = decide (z.f2 = 1)
      by_cases hz1 : z.f2 = 1
      · rw [decide_eq_true hz1, List.any_eq_true]
        refine ⟨pairI z, ?_, by simp [hasP, pairI, hk]⟩
        rw [visL]
        exact List.mem_map_of_mem (List.mem_filter.2 ⟨hz, by simp [hz1]⟩)
      · rw [decide_eq_false hz1, Bool.eq_false_iff]
        intro ha
        rw [List.any_eq_true] at ha
        obtain ⟨p, hp, hq⟩ := ha
        rw [visL] at hp
        obtain ⟨y, hy, rfl⟩ := List.mem_map.1 hp
        obtain ⟨hy1, hy2⟩ := List.mem_filter.1 hy
        simp only [hasP, pairI, Bool.and_eq_true, beq_iff_eq] at hq
        have := keyUp_uniq hu y hy1 z hz (hq.1.trans hk.symm)
        subst this
        exact hz1 (by simpa using hy2)
  · cases h
theorem ans_vis {l : List S52} {key : ByteArray} {a : Int} (h : (ansL l key a).2.2 = true) : (visA l a).2 = true := by
  unfold ansL at h
  split at h
  · rename_i hc
    unfold visA
    rw [if_pos ⟨hc.1, hc.2.2⟩]
  · cases h
/-- What is scanned lies in its range, and rises. -/
theorem scanA_in {l : List S52} {lo hi : ByteArray} {a : Int} {p : S34} (h : p ∈ (scanA l lo hi a).1) : inB lo hi p.f0 = true := by
  unfold scanA at h
  split at h
  · exact (List.mem_filter.1 h).2
  · cases h
theorem scanA_up (l : List S52) (lo hi : ByteArray) (a : Int) : (scanA l lo hi a).1.Pairwise fun p q => Op.bytesLess p.f0.toList q.f0.toList = true := by
  unfold scanA
  split
  · rename_i hc
    refine List.Pairwise.filter _ ?_
    rw [visL, List.pairwise_map]
    exact List.Pairwise.imp (fun h => h) (List.Pairwise.filter _ (seenL_up a l (goodR_pair (okR_good hc.1))))
  · exact List.Pairwise.nil
theorem scanA_next {l : List S52} {lo hi : ByteArray} {a : Int} {i : Nat} (h : i + 1 < (scanA l lo hi a).1.length) : Op.bytesLess (scanA l lo hi a).1[i].f0.toList (scanA l lo hi a).1[i + 1].f0.toList = true :=
  List.pairwise_iff_getElem.1 (scanA_up l lo hi a) i (i + 1) (by omega) h (by omega)

end Go.Proofs.Ytmbceednogcnfaa
