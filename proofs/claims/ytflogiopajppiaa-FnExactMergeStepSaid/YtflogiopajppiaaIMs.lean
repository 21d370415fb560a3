/- The plain laws that FnExactMergeStep leans on. -/
import Derived.Test.YtflogiopajppiaaHMs
import Derived.Test.YtflogiopajppiaaERMs
import Derived.Test.YtflogiopajppiaaPFnExactMergeStepx1
import Derived.Test.YtflogiopajppiaaPFnExactMergeStepx2
import Derived.Test.YtflogiopajppiaaPFnExactMergeStepx3
import Derived.Test.YtflogiopajppiaaPFnExactMergeStepx4
import Derived.Test.YtflogiopajppiaaPFnExactMergeStepx5
import Derived.Test.YtflogiopajppiaaPFnExactMergeStepx8
import Derived.Test.YtflogiopajppiaaPFnExactMergeStepx9
namespace Go.Proofs.Ytflogiopajppiaa
open Go Go.RowKit Go.Proofs.YtflogiopajppiaaW.PrintWords Go.Proofs.YtflogiopajppiaaW.PrintLast Go.Proofs.YtflogiopajppiaaW.PrintMore Go.Proofs.Ytflogiopajppiaa.PFnExactMergeStep
set_option linter.unusedVariables false
set_option linter.unusedSimpArgs false

theorem order_s (x y : S73) : Alw fun k => spec_l4Compare.f k x.f0 x.f1 x.f2 x.f3 y.f0 y.f1 y.f2 y.f3 = some (cmpI x y) := by
  refine Alw.one fun k => ?_
  unfold spec_l4Compare.f cmpI cmpS
  by_cases h : Op.bytesLess x.f0.toList y.f0.toList = true
  · simp [h, spec_l4Compare.j0]
  · by_cases q : x.f0.toList = y.f0.toList
    · simp only [if_neg h, if_pos q, if_true, spec_l4Compare.j0, cmpZ, decide_eq_true_eq]
      by_cases h1 : x.f1 > y.f1
      · rw [if_pos h1, if_pos h1]
      · by_cases h2 : x.f1 = y.f1
        · rw [if_neg h1, if_pos h2, if_neg h1, if_neg (by omega)]
        · rw [if_neg h1, if_neg h2, if_neg h1, if_pos (by omega)]
    · simp [h, q, spec_l4Compare.j0]

theorem in_s (a lo hi : Int) : spec_l1In.f a lo hi = some (decide (lo ≤ a ∧ a ≤ hi)) := by
  unfold spec_l1In.f
  by_cases h : a ≥ lo
  · rw [if_pos h]; congr 1; simp; omega
  · rw [if_neg h]; congr 1; simp; omega

theorem good_s (x : S73) : spec_GoodItem.f x.f0 x.f1 x.f2 x.f3 = some (goodI x) := by
  unfold spec_GoodItem.f spec_l4Key.f spec_l4Seq.f goodI
  simp only [in_s, Option.bind_some]
  cases h1 : decide (1 ≤ (x.f0.size : Int) ∧ (x.f0.size : Int) ≤ 16) <;> cases h2 : decide (0 ≤ x.f1 ∧ x.f1 ≤ 1000000000) <;> cases h3 : decide (0 ≤ x.f2 ∧ x.f2 ≤ 1) <;> simp only [Bool.false_eq_true, if_false, if_true, Bool.false_and, Bool.true_and, Bool.and_false]
  by_cases h4 : (x.f3.size : Int) ≤ 40
  · by_cases h5 : x.f2 = 1
    · simp [h4, h5]
    · simp [h4, h5]
  · simp [h4]

set_option maxHeartbeats 1000000 in
theorem goodR_s_go (l : List S73) (hl : l.length ≤ 4611686018427387904) : ∀ (d i : Nat), i + d = l.length → Alw fun k => spec_GoodRun.l0 k l l (l.length : Int) (i : Int) = some (runFrom l d i)
  | 0, i, h => Alw.one fun k => by rw [spec_GoodRun.l0, if_neg (by omega)]; rfl
  | d + 1, i, h => by
    have hi : i < l.length := by omega
    have ih := goodR_s_go l hl d (i + 1) (by omega)
    rw [runFrom]
    rcases i with _ | j
    · refine ih.succ fun k ih => ?_
      rw [spec_GoodRun.l0, if_pos (by omega), if_pos (by omega), if_pos (by omega), rdItemi_at hi, good_s, Option.bind_some, runOkAt_zero hi]
      cases hg : goodI l[0]
      · rw [if_neg (by decide)]; rfl
      · rw [if_pos rfl, if_neg (by omega), wS (by omega), ih]; rfl
    · have hj : j < l.length := by omega
      refine (ih.and (order_s l[j] l[j + 1])).succ fun k ⟨ih, ho⟩ => ?_
      rw [spec_GoodRun.l0, if_pos (by omega), if_pos (by omega), if_pos (by omega), rdItemi_at hi, good_s, Option.bind_some, runOkAt_succ hi]
      cases hg : goodI l[j + 1]
      · rw [if_neg (by decide)]; rfl
      · rw [if_pos rfl, if_pos (by omega), wP (by omega) (by omega), if_pos (by omega), if_pos (by omega)]
        simp only [Nat.add_sub_cancel]
        rw [rdItemi_at hj, ho, Option.bind_some]
        by_cases hc : cmpI l[j] l[j + 1] ≥ 0
        · rw [if_pos hc, decide_eq_false (by omega)]; rfl
        · rw [if_neg hc, decide_eq_true (by omega), wS (by omega), ih]; rfl
theorem goodR_s (l : List S73) (hl : l.length ≤ 4611686018427387904) : Alw fun k => spec_GoodRun.f k l = some (goodR l) := goodR_s_go l hl l.length 0 (by omega)

theorem okR_s (l : List S73) (hl : l.length ≤ 4611686018427387904) : Alw fun k => spec_l8Run.f k l = some (okR l) := by
  refine (goodR_s l hl).imp fun k h => ?_
  unfold spec_l8Run.f okR
  rw [h]
  cases goodR l <;> simp

/-- What is seen at a number, behind what is there already. -/
def seenFrom (a : Int) : List S73 → List S73 → List S73
  | x, [] => x
  | x, y :: l => if y.f1 ≤ a then (match x.getLast? with | none => seenFrom a (x ++ [y]) l | some z => if z.f0.toList = y.f0.toList then seenFrom a x l else seenFrom a (x ++ [y]) l) else seenFrom a x l
def seenL (a : Int) (l : List S73) : List S73 := seenFrom a [] l
theorem seenFrom_len (a : Int) : ∀ (l x : List S73), (seenFrom a x l).length ≤ x.length + l.length
  | [], x => by simp [seenFrom]
  | y :: l, x => by
    unfold seenFrom
    split
    · split
      · have := seenFrom_len a l (x ++ [y]); simp at this ⊢; omega
      · split
        · have := seenFrom_len a l x; simp at this ⊢; omega
        · have := seenFrom_len a l (x ++ [y]); simp at this ⊢; omega
    · have := seenFrom_len a l x; simp at this ⊢; omega
theorem seenL_len (a : Int) (l : List S73) : (seenL a l).length ≤ l.length := by
  have := seenFrom_len a l []
  simpa [seenL] using this

theorem szItem_le {x : S114} {n r : Int} (hw : wfItem x) (h0 : 0 ≤ n) (h2 : n ≤ 1048576) (h : laws_szItem.f x.f0 x.f1 x.f2 x.f3 n = some r) (hr : 0 ≤ r) : r ≤ n := by
  obtain ⟨w0, _, _, w3⟩ := hw
  unfold laws_szItem.f at h
  unfold wrap64 at h
  split at h
  · have := Option.some.inj h; omega
  · split at h
    · have := Option.some.inj h; omega
    · have := Option.some.inj h; omega
theorem szItemS_le_go (l : List S114) (hl : l.length ≤ 4611686018427387904) (hw : ∀ y ∈ l, wfItem y) : ∀ (d i : Nat) (n : Int), i + d = l.length → 0 ≤ n → n ≤ 1048576 → ∃ r, (0 ≤ r → r ≤ n) ∧ Alw fun k => laws_szItemS.l0 k l n (i : Int) = some r
  | 0, i, n, h, h0, h2 => ⟨n, fun _ => Int.le_refl _, Alw.one fun k => by rw [laws_szItemS.l0, if_neg (by omega)]⟩
  | d + 1, i, n, h, h0, h2 => by
    have hi : i < l.length := by omega
    obtain ⟨t, ht⟩ := szItem_some l[i].f0 l[i].f1 l[i].f2 l[i].f3 n
    by_cases q : t < 0
    · exact ⟨-1, fun h => by omega, Alw.one fun k => by rw [laws_szItemS.l0, if_pos (by omega), if_pos (by omega), rdIteml_at hi, ht, Option.bind_some, if_pos q]⟩
    · have hle := szItem_le (hw _ (List.getElem_mem hi)) h0 h2 ht (by omega)
      obtain ⟨r, hr, ha⟩ := szItemS_le_go l hl hw d (i + 1) t (by omega) (by omega) (by omega)
      exact ⟨r, fun h => by have := hr h; omega, ha.succ fun k hr => by rw [laws_szItemS.l0, if_pos (by omega), if_pos (by omega), rdIteml_at hi, ht, Option.bind_some, if_neg q, wS (by omega)]; exact hr⟩
theorem szRun_le (l : List S114) (n : Int) (hl : l.length ≤ 2932031007402) (hw : ∀ y ∈ l, wfItem y) (h0 : 0 ≤ n) (h2 : n ≤ 1048576) : ∃ r, (0 ≤ r → r + l.length ≤ n) ∧ Alw fun k => laws_szRun.f k l n = some r := by
  by_cases q : wrap64 (n - (l.length : Int)) < 0
  · refine ⟨-1, fun h => by omega, Alw.now fun k => ?_⟩
    unfold laws_szRun.f laws_szItemS.f
    rw [if_pos q]
    rfl
  · have e : wrap64 (n - (l.length : Int)) = n - l.length := by unfold wrap64; omega
    obtain ⟨r, hr, ha⟩ := szItemS_le_go l (by omega) hw l.length 0 (n - l.length) (by omega) (by omega) (by omega)
    refine ⟨if r < 0 then -1 else r, fun h => ?_, ha.imp fun k ha => ?_⟩
    · by_cases hn : r < 0
      · rw [if_pos hn] at h; omega
      · rw [if_neg hn] at h ⊢
        have := hr h
        omega
    · unfold laws_szRun.f laws_szItemS.f
      rw [if_neg q, e]
      rw [show laws_szItemS.l0 k l (n - (l.length : Int)) 0 = some r from ha, Option.bind_some]
      split <;> rfl
def lensL (l : List S24) : Nat := (l.map fun x => x.f0.length).sum
theorem lensL_cons (x : S24) (l : List S24) : lensL (x :: l) = x.f0.length + lensL l := by simp [lensL]
theorem szRunS_le_go (l : List S24) (hl : l.length ≤ 4611686018427387904) (hb : ∀ y ∈ l, y.f0.length ≤ 2932031007402) (hw : ∀ y ∈ l, ∀ z ∈ y.f0, wfItem z) : ∀ (d i : Nat) (n : Int), i + d = l.length → 0 ≤ n → n ≤ 1048576 → ∃ r, (0 ≤ r → (lensL (l.drop i) : Int) ≤ n) ∧ Alw fun k => laws_szRunS.l0 k l n (i : Int) = some r
  | 0, i, n, h, h0, h2 => ⟨n, fun _ => by rw [List.drop_eq_nil_of_le (by omega)]; simpa [lensL] using h0, Alw.one fun k => by rw [laws_szRunS.l0, if_neg (by omega)]⟩
  | d + 1, i, n, h, h0, h2 => by
    have hi : i < l.length := by omega
    obtain ⟨t, ht0, ht⟩ := szRun_le l[i].f0 n (hb _ (List.getElem_mem hi)) (hw _ (List.getElem_mem hi)) h0 h2
    by_cases q : t < 0
    · exact ⟨-1, fun h => by omega, ht.succ fun k ht => by rw [laws_szRunS.l0, if_pos (by omega), if_pos (by omega), rdRunl_at hi, ht, Option.bind_some, if_pos q]⟩
    · obtain ⟨r, hr, ha⟩ := szRunS_le_go l hl hb hw d (i + 1) t (by omega) (by omega) (by omega)
      refine ⟨r, fun h => ?_, (ht.and ha).succ fun k ⟨ht, hr⟩ => by rw [laws_szRunS.l0, if_pos (by omega), if_pos (by omega), rdRunl_at hi, ht, Option.bind_some, if_neg q, wS (by omega)]; exact hr⟩
      rw [List.drop_eq_getElem_cons hi, lensL_cons]
      have := hr h
      omega
theorem szRunS_le (l : List S24) (hl : l.length ≤ 5864062014805) (hb : ∀ y ∈ l, y.f0.length ≤ 2932031007402) (hw : ∀ y ∈ l, ∀ z ∈ y.f0, wfItem z) : ∃ r, (0 ≤ r → lensL l ≤ 1048576) ∧ Alw fun k => laws_szRunS.f k l 1048576 = some r := by
  by_cases q : wrap64 (1048576 - (l.length : Int)) < 0
  · refine ⟨-1, fun h => by omega, Alw.now fun k => ?_⟩
    unfold laws_szRunS.f
    rw [if_pos q]
  · have e : wrap64 (1048576 - (l.length : Int)) = 1048576 - l.length := by unfold wrap64; omega
    obtain ⟨r, hr, ha⟩ := szRunS_le_go l (by omega) hb hw l.length 0 (1048576 - l.length) (by omega) (by omega) (by omega)
    refine ⟨r, fun h => by have := hr h; rw [List.drop_zero] at this; omega, ha.imp fun k ha => ?_⟩
    unfold laws_szRunS.f
    rw [if_neg q, e]
    exact ha

theorem okR_len {l : List S73} (h : okR l = true) : l.length ≤ 400 := by
  unfold okR at h
  simp at h
  omega
def lens (l : List S30) : Nat := (l.map fun x => x.f0.length).sum
def runsO (l : List S30) : Bool := l.all (fun x => okR x.f0) && (decide ((l.length : Int) ≤ 12) && decide ((lens l : Int) ≤ 400))
theorem lens_cons (x : S30) (l : List S30) : lens (x :: l) = x.f0.length + lens l := by simp [lens]
set_option maxHeartbeats 1000000 in
theorem runs_go (l : List S30) (hl : l.length ≤ 5864062014805) (hb : ∀ y ∈ l, y.f0.length ≤ 4611686018427387904) : ∀ (d i : Nat) (s : Nat), i + d = l.length → s ≤ 400 * i →
    Alw fun k => spec_l8Runs.l0 k l (s : Int) l (l.length : Int) (i : Int) = some ((l.drop i).all (fun x => okR x.f0) && (decide ((l.length : Int) ≤ 12) && decide (((s + lens (l.drop i) : Nat) : Int) ≤ 400)))
  | 0, i, s, h, hs => Alw.one fun k => by
    rw [spec_l8Runs.l0, if_neg (by omega), List.drop_eq_nil_of_le (by omega)]
    by_cases hc : (l.length : Int) ≤ 12
    · rw [if_pos hc, decide_eq_true hc]; simp [lens]
    · rw [if_neg hc, decide_eq_false hc]; simp
  | d + 1, i, s, h, hs => by
    have hi : i < l.length := by omega
    have ho := okR_s l[i].f0 (hb _ (List.getElem_mem hi))
    rw [List.drop_eq_getElem_cons hi, List.all_cons, lens_cons]
    cases hr : okR l[i].f0
    · refine ho.succ fun k ho => ?_
      rw [spec_l8Runs.l0, if_pos (by omega), if_pos (by omega), if_pos (by omega), rdRuni_at hi, ho, hr, Option.bind_some, if_neg (by decide)]
      rfl
    · have hlen := okR_len hr
      refine (ho.and (runs_go l hl hb d (i + 1) (s + l[i].f0.length) (by omega) (by omega))).succ fun k ⟨ho, ih⟩ => ?_
      rw [spec_l8Runs.l0, if_pos (by omega), if_pos (by omega), if_pos (by omega), rdRuni_at hi, ho, hr, Option.bind_some, if_pos rfl, wS (by omega), show wrap64 ((s : Int) + (l[i].f0.length : Int)) = ((s + l[i].f0.length : Nat) : Int) by unfold wrap64; omega, ih, Nat.add_assoc]
      rfl
theorem runs_s (l : List S30) (hl : l.length ≤ 5864062014805) (hb : ∀ y ∈ l, y.f0.length ≤ 4611686018427387904) : Alw fun k => spec_l8Runs.f k l = some (runsO l) := by
  refine (runs_go l hl hb l.length 0 0 (by omega) (by omega)).imp fun k h => ?_
  unfold spec_l8Runs.f runsO
  refine Eq.trans h ?_
  rw [List.drop_zero, Nat.zero_add]
theorem lens_drop (l : List S30) : ∀ i, lens (l.drop i) ≤ lens l
  | 0 => Nat.le_refl _
  | i + 1 => by
    by_cases hi : i < l.length
    · have := lens_drop l i
      rw [List.drop_eq_getElem_cons hi, lens_cons] at this
      omega
    · rw [List.drop_eq_nil_of_le (by omega)]
      exact Nat.zero_le _
theorem mrg_go (l : List S30) (hl : l.length ≤ 5864062014805) (hs : lens l ≤ 1048576) : ∀ (d i s : Nat), i + d = l.length → s + lens (l.drop i) = lens l →
    Alw fun k => impl_mergeable.l0 k l (s : Int) l (l.length : Int) (i : Int) = some (runsO l)
  | 0, i, s, h, h2 => Alw.one fun k => by
    rw [List.drop_eq_nil_of_le (by omega)] at h2
    have h3 : s = lens l := by simpa [lens] using h2
    have e : (!l.any badRun) = l.all fun x => okR x.f0 := by
      rw [List.not_any_eq_all_not]
      congr
      funext x
      simp [badRun]
    rw [impl_mergeable.l0, if_neg (by omega)]
    unfold runsO
    by_cases hc : (l.length : Int) ≤ 12
    · rw [if_pos hc, decide_eq_true hc]
      by_cases hd : (s : Int) ≤ 400
      · rw [if_pos hd, ← h3, decide_eq_true hd, impl_runsOk.f, if_pos (by omega), e]
        simp
      · rw [if_neg hd, ← h3, decide_eq_false hd]
        simp
    · rw [if_neg hc, decide_eq_false hc]; simp
  | d + 1, i, s, h, h2 => by
    have hi : i < l.length := by omega
    rw [List.drop_eq_getElem_cons hi, lens_cons] at h2
    refine (mrg_go l hl hs d (i + 1) (s + l[i].f0.length) (by omega) (by omega)).succ fun k ih => ?_
    rw [impl_mergeable.l0, if_pos (by omega), if_pos (by omega), if_pos (by omega), rdRuni_at hi, wS (by omega), show wrap64 ((s : Int) + (l[i].f0.length : Int)) = ((s + l[i].f0.length : Nat) : Int) by unfold wrap64; omega]
    exact ih
theorem mrg_i (l : List S30) (hl : l.length ≤ 5864062014805) (hs : lens l ≤ 1048576) : Alw fun k => impl_mergeable.f k l = some (runsO l) := mrg_go l hl hs l.length 0 0 (by omega) (by simp)

/-- Which has the least item, from run i on; b: the best of those ahead (-1: none). -/
def leastFrom (l : List S30) (a : List Int) : Nat → Nat → Int → Int
  | 0, _, b => b
  | d + 1, i, b => leastFrom l a d (i + 1) (if rd a i < (((rd_T30 l i).f0).length : Int) then (if b < 0 then (i : Int) else (if cmpI (rd_T73 ((rd_T30 l i).f0) (rd a i)) (rd_T73 ((rd_T30 l b).f0) (rd a b)) < 0 then (i : Int) else b)) else b)
def ansB (b : Int) : Int × Bool := if b < 0 then (0, false) else (b, true)
/-- The numbers lie in their runs. -/
def atOk (l : List S30) (a : List Int) : Prop := ∀ i : Nat, i < l.length → 0 ≤ rd a i ∧ rd a i ≤ (((rd_T30 l i).f0).length : Int)
/-- What the search has: none, or a run whose item lies in it. -/
def bOk (l : List S30) (a : List Int) (b : Int) (i : Nat) : Prop := b = -1 ∨ 0 ≤ b ∧ b < i ∧ rd a b < (((rd_T30 l b).f0).length : Int)
theorem bOk_step {l : List S30} {a : List Int} {b : Int} {i : Nat} (h : bOk l a b i) : bOk l a (if rd a i < (((rd_T30 l i).f0).length : Int) then (if b < 0 then (i : Int) else (if cmpI (rd_T73 ((rd_T30 l i).f0) (rd a i)) (rd_T73 ((rd_T30 l b).f0) (rd a b)) < 0 then (i : Int) else b)) else b) (i + 1) := by
  have hk : bOk l a b (i + 1) := by
    rcases h with h | h
    · exact .inl h
    · exact .inr ⟨h.1, by omega, h.2.2⟩
  split
  · rename_i hc
    have hi : bOk l a (i : Int) (i + 1) := .inr ⟨by omega, by omega, hc⟩
    split
    · exact hi
    · split
      · exact hi
      · exact hk
  · exact hk
set_option maxHeartbeats 1000000 in
theorem least_go (l : List S30) (a : List Int) (hl : l.length ≤ 4611686018427387904) (ha : a.length = l.length) (ho : atOk l a) : ∀ (d i : Nat) (b : Int), i + d = l.length → bOk l a b i →
    Alw fun k => spec_l8Least.l0 k l a b l (l.length : Int) (i : Int) = some (ansB (leastFrom l a d i b))
  | 0, i, b, h, hb => Alw.one fun k => by
    rw [spec_l8Least.l0, if_neg (by omega)]
    unfold leastFrom ansB
    by_cases q : b < 0 <;> simp [q]
  | d + 1, i, b, h, hb => by
    have hi : i < l.length := by omega
    obtain ⟨o1, o2⟩ := ho i hi
    have ih := least_go l a hl ha ho d (i + 1) _ (by omega) (bOk_step hb)
    refine (ih.and (order_s (rd_T73 ((rd_T30 l i).f0) (rd a i)) (rd_T73 ((rd_T30 l b).f0) (rd a b)))).succ fun k ⟨ih, hc⟩ => ?_
    rw [spec_l8Least.l0, if_pos (by omega), if_pos (by omega), if_pos (by omega), if_pos (by omega), leastFrom]
    by_cases h1 : rd a i < (((rd_T30 l i).f0).length : Int)
    · rw [if_pos h1] at ih ⊢
      rw [if_pos h1]
      by_cases h2 : b < 0
      · rw [if_pos h2] at ih ⊢
        rw [if_pos h2, wS (by omega)]
        exact ih
      · rw [if_neg h2] at ih ⊢
        rcases hb with hb | ⟨b1, b2, b3⟩
        · omega
        obtain ⟨p1, p2⟩ := ho b.toNat (by omega)
        rw [Int.toNat_of_nonneg b1] at p1 p2
        rw [if_neg h2, if_pos o1, if_pos b1, if_pos (by omega), if_pos (by omega), if_pos p1, if_pos b3, hc, Option.bind_some, wS (by omega)]
        split <;> rename_i h3
        · rw [if_pos h3] at ih; exact ih
        · rw [if_neg h3] at ih; exact ih
    · rw [if_neg h1] at ih ⊢
      rw [if_neg h1, wS (by omega)]
      exact ih
/-- All numbers lie in their runs, from i on. -/
def atsFrom (l : List S30) (a : List Int) : Nat → Nat → Bool
  | 0, _ => true
  | d + 1, i => decide (0 ≤ rd a i ∧ rd a i ≤ (((rd_T30 l i).f0).length : Int)) && atsFrom l a d (i + 1)
theorem atsFrom_at {l : List S30} {a : List Int} : ∀ (d i : Nat), atsFrom l a d i = true → ∀ j, i ≤ j → j < i + d → 0 ≤ rd a j ∧ rd a j ≤ (((rd_T30 l j).f0).length : Int)
  | 0, i, _, j, h1, h2 => by omega
  | d + 1, i, h, j, h1, h2 => by
    rw [atsFrom, Bool.and_eq_true] at h
    rcases Nat.eq_or_lt_of_le h1 with rfl | h3
    · simpa using h.1
    · exact atsFrom_at d (i + 1) h.2 j h3 (by omega)
def ansM (l : List S30) (a : List Int) : Int × Bool := if runsO l = true ∧ a.length = l.length ∧ atsFrom l a l.length 0 = true then ansB (leastFrom l a l.length 0 (-1)) else (0, false)
theorem ats_s (l : List S30) (a : List Int) (hl : l.length ≤ 4611686018427387904) (ha : a.length = l.length) : ∀ (d i : Nat), i + d = l.length → (atsFrom l a l.length 0 = (atsFrom l a d i)) →
    Alw fun k => spec_MergeStep.l0 k l a a (a.length : Int) (i : Int) = some (if atsFrom l a d i = true then ansB (leastFrom l a l.length 0 (-1)) else (0, false))
  | 0, i, h, hs => by
    have ho : atOk l a := fun j hj => atsFrom_at l.length 0 (by rw [hs]; rfl) j (by omega) (by omega)
    refine (least_go l a hl ha ho l.length 0 (-1) (by omega) (.inl rfl)).succ fun k hk => ?_
    rw [spec_MergeStep.l0, if_neg (by omega), show spec_l8Least.f k l a = _ from hk, Option.bind_some]
    rfl
  | d + 1, i, h, hs => by
    have hi : i < l.length := by omega
    by_cases hc : 0 ≤ rd a i ∧ rd a i ≤ (((rd_T30 l i).f0).length : Int)
    · have e : atsFrom l a (d + 1) i = atsFrom l a d (i + 1) := by rw [atsFrom, decide_eq_true hc, Bool.true_and]
      refine (ats_s l a hl ha d (i + 1) (by omega) (by rw [hs, e])).succ fun k ih => ?_
      rw [spec_MergeStep.l0, if_pos (by omega), if_pos (by omega), if_pos (by omega), if_pos (by omega), in_s, Option.bind_some, if_pos (by simpa using hc), wS (by omega), e]
      exact ih
    · have e : atsFrom l a (d + 1) i = false := by rw [atsFrom, decide_eq_false hc, Bool.false_and]
      refine Alw.one fun k => ?_
      rw [spec_MergeStep.l0, if_pos (by omega), if_pos (by omega), if_pos (by omega), if_pos (by omega), in_s, Option.bind_some, if_neg (by simpa using hc), e, if_neg (by decide)]
theorem ans_s (l : List S30) (a : List Int) (hl : l.length ≤ 5864062014805) (hb : ∀ y ∈ l, y.f0.length ≤ 4611686018427387904) : Alw fun k => spec_MergeStep.f k l a = some (ansM l a) := by
  have h1 := (runs_s l hl hb).up
  by_cases ha : a.length = l.length
  · refine (h1.and (ats_s l a (by omega) ha l.length 0 (by omega) rfl)).succ fun k ⟨h, g⟩ => ?_
    unfold spec_MergeStep.f ansM
    rw [h, Option.bind_some]
    cases hr : runsO l
    · rw [if_neg (by decide), spec_MergeStep.j0, if_pos rfl, if_neg (fun h => by cases h.1)]
    · rw [if_pos rfl, show ((a.length : Int) != (l.length : Int)) = false by simp [ha], spec_MergeStep.j0, if_neg (by decide)]
      refine Eq.trans g ?_
      by_cases hs : atsFrom l a l.length 0 = true
      · rw [if_pos hs, if_pos ⟨rfl, ha, hs⟩]
      · rw [if_neg hs, if_neg (fun h => hs h.2.2)]
  · refine h1.succ fun k h => ?_
    have ea : ansM l a = (0, false) := if_neg (fun h => ha h.2.1)
    unfold spec_MergeStep.f
    rw [h, Option.bind_some, ea]
    cases hr : runsO l
    · rw [if_neg (by decide), spec_MergeStep.j0, if_pos rfl]
    · rw [if_pos rfl, show ((a.length : Int) != (l.length : Int)) = true by simp; omega, spec_MergeStep.j0, if_pos rfl]
set_option maxHeartbeats 1000000 in
theorem ats_i (l : List S30) (a : List Int) (hl : l.length ≤ 4611686018427387904) (ha : a.length = l.length) : ∀ (d i : Nat) (b : Int), i + d = l.length → bOk l a b i → (∀ j : Nat, j < i → 0 ≤ rd a j) →
    Alw fun k => impl_MergeStep.l0 k l a b l (l.length : Int) (i : Int) = some (if atsFrom l a d i = true then ansB (leastFrom l a d i b) else (0, false))
  | 0, i, b, h, hb, hp => Alw.one fun k => by
    rw [impl_MergeStep.l0, if_neg (by omega)]
    unfold atsFrom leastFrom ansB
    by_cases q : b < 0 <;> simp [q]
  | d + 1, i, b, h, hb, hp => by
    have hi : i < l.length := by omega
    by_cases hc : 0 ≤ rd a i ∧ rd a i ≤ (((rd_T30 l i).f0).length : Int)
    · have e : atsFrom l a (d + 1) i = atsFrom l a d (i + 1) := by rw [atsFrom, decide_eq_true hc, Bool.true_and]
      have ih := ats_i l a hl ha d (i + 1) _ (by omega) (bOk_step hb) (fun j hj => by
        rcases Nat.lt_or_ge j i with h1 | h1
        · exact hp j h1
        · obtain rfl : j = i := by omega
          exact hc.1)
      refine (ih.and (order_i (rd_T73 ((rd_T30 l i).f0) (rd a i)) (rd_T73 ((rd_T30 l b).f0) (rd a b)))).succ fun k ⟨ih, ho⟩ => ?_
      rw [impl_MergeStep.l0, if_pos (by omega), if_pos (by omega), if_pos (by omega), if_pos (by omega), in_i, Option.bind_some, if_pos (by simpa using hc), leastFrom, e]
      by_cases h1 : rd a i < (((rd_T30 l i).f0).length : Int)
      · rw [if_pos h1] at ih ⊢
        rw [if_pos h1]
        by_cases h2 : b < 0
        · rw [if_pos h2] at ih ⊢
          rw [if_pos h2, wS (by omega)]
          exact ih
        · rw [if_neg h2] at ih ⊢
          rcases hb with hb | ⟨b1, b2, b3⟩
          · omega
          have p1 := hp b.toNat (by omega)
          rw [Int.toNat_of_nonneg b1] at p1
          rw [if_neg h2, if_pos hc.1, if_pos b1, if_pos (by omega), if_pos (by omega), if_pos p1, if_pos b3, ho, Option.bind_some, wS (by omega)]
          split <;> rename_i h3
          · rw [if_pos h3] at ih; exact ih
          · rw [if_neg h3] at ih; exact ih
      · rw [if_neg h1] at ih ⊢
        rw [if_neg h1, wS (by omega)]
        exact ih
    · have e : atsFrom l a (d + 1) i = false := by rw [atsFrom, decide_eq_false hc, Bool.false_and]
      refine Alw.one fun k => ?_
      rw [impl_MergeStep.l0, if_pos (by omega), if_pos (by omega), if_pos (by omega), if_pos (by omega), in_i, Option.bind_some, if_neg (by simpa using hc), e, if_neg (by decide)]
theorem ans_i (l : List S30) (a : List Int) (hl : l.length ≤ 5864062014805) (hs : lens l ≤ 1048576) : Alw fun k => impl_MergeStep.f k l a = some (ansM l a) := by
  by_cases ha : a.length = l.length
  · refine ((mrg_i l hl hs).up.and (ats_i l a (by omega) ha l.length 0 (-1) (by omega) (.inl rfl) (fun j hj => by omega))).succ fun k ⟨h, g⟩ => ?_
    unfold impl_MergeStep.f ansM
    rw [if_pos (by omega), h, Option.bind_some, impl_MergeStep.j0]
    cases hr : runsO l
    · rw [if_pos (show (!false) = true from rfl), if_neg (fun h => by cases h.1)]
    · rw [if_neg (show ¬ (!true) = true by decide)]
      refine Eq.trans g ?_
      by_cases hs : atsFrom l a l.length 0 = true
      · rw [if_pos hs, if_pos ⟨rfl, ha, hs⟩]
      · rw [if_neg hs, if_neg (fun h => hs h.2.2)]
  · refine Alw.one fun k => ?_
    unfold impl_MergeStep.f ansM
    rw [if_neg (by omega), impl_MergeStep.j0, if_pos rfl, if_neg (fun h => ha h.2.1)]

end Go.Proofs.Ytflogiopajppiaa
