/- The laws' own functions of FnExactMergeStep, over numbers and lists alone. -/
import Derived.Test.YtflogiopajppiaaPuBMs
import Derived.Test.YtflogiopajppiaaPFnExactMergeStepx1
import Derived.Test.YtflogiopajppiaaPFnExactMergeStepx5
import Derived.Test.YtflogiopajppiaaPFnExactMergeStepx10
import Derived.Test.YtflogiopajppiaaPFnExactMergeStepx11
namespace Go.Proofs.Ytflogiopajppiaa
open Go Go.RowKit Go.Proofs.YtflogiopajppiaaW.PrintWords Go.Proofs.YtflogiopajppiaaW.PrintLast Go.Proofs.YtflogiopajppiaaW.PrintMore Go.Proofs.Ytflogiopajppiaa.PFnExactMergeStep
set_option linter.unusedVariables false
set_option linter.unusedSimpArgs false

theorem rdIntl_at {l : List (Int)} {i : Nat} (h : i < l.length) : rd l (i : Int) = l[i] := getD_nat h _
theorem rdIntl_set {l : List (Int)} {i : Nat} (h : i < l.length) (v : Int) : rd (l.set i v) (i : Int) = v := by
  rw [rdIntl_at (by simpa using h), List.getElem_set_self]
set_option maxHeartbeats 2000000 in
theorem toIntS_go (l : List (Int)) (hl : l.length ≤ 4611686018427387904) : ∀ (d i : Nat) (x : List (Int)), i + d = l.length → x.length = l.length → Alw fun k => laws_toIntS.l0 k l x (i : Int) = some (x.take i ++ (l.drop i))
  | 0, i, x, h, hx => Alw.one fun k => by
    rw [laws_toIntS.l0, if_neg (by omega), List.drop_eq_nil_of_le (by omega), List.take_of_length_le (by omega)]; simp
  | d + 1, i, x, h, hx => by
    have hi : i < l.length := by omega
    have hx2 : i < x.length := by omega
    have ih := toIntS_go l hl d (i + 1) (x.set i l[i]) (by omega) (by simpa using hx)
    refine ih.succ fun k ih => ?_
    rw [laws_toIntS.l0, if_pos (by omega), if_pos (by omega)]
    simp only [rdIntl_at hi, Option.bind_some, Int.toNat_natCast]
    rw [if_pos (by omega), wS (by omega)]
    refine Eq.trans ih ?_
    rw [take_set_succ hx2, List.drop_eq_getElem_cons hi]
    simp only [List.map_cons, List.append_assoc, List.cons_append, List.nil_append]
theorem toIntS_alw (l : List (Int)) (hl : l.length ≤ 35184372088832) : Alw fun k => laws_toIntS.f k l = some (l) := by
  refine (toIntS_go l (by omega) l.length 0 (List.replicate l.length 0) (by omega) (by simp)).imp fun k h => ?_
  unfold laws_toIntS.f
  rw [if_pos (by omega), if_pos (by omega)]
  rw [Int.toNat_natCast]
  refine Eq.trans h ?_
  simp
theorem rdInti_at {l : List (Int)} {i : Nat} (h : i < l.length) : rd l (i : Int) = l[i] := getD_nat h _
theorem rdInti_set {l : List (Int)} {i : Nat} (h : i < l.length) (v : Int) : rd (l.set i v) (i : Int) = v := by
  rw [rdInti_at (by simpa using h), List.getElem_set_self]
set_option maxHeartbeats 2000000 in
theorem eqIntS_go (l : List (Int)) (hl : l.length ≤ 4611686018427387904) : ∀ (d i : Nat), i + d = l.length → Alw fun k => laws_eqIntS.l0 k l l (i : Int) = some true
  | 0, i, h => Alw.one fun k => by rw [laws_eqIntS.l0, if_neg (by omega)]
  | d + 1, i, h => by
    have hi : i < l.length := by omega
    have ih := eqIntS_go l hl d (i + 1) (by omega)
    refine ih.succ fun k ih => ?_
    rw [laws_eqIntS.l0, if_pos (by omega), if_pos (by omega), if_pos (by omega)]
    simp only [rdInti_at hi, if_true, Option.bind_some]
    rw [wS (by omega)]
    exact ih
theorem eqIntS_alw (l : List (Int)) (hl : l.length ≤ 4611686018427387904) : Alw fun k => laws_eqIntS.f k l l = some true := by
  refine (eqIntS_go l hl l.length 0 (by omega)).imp fun k h => ?_
  unfold laws_eqIntS.f
  rw [if_pos rfl]
  exact h
theorem szItem_some (a0 : ByteArray) (a1 : Int) (a2 : Int) (a3 : ByteArray) (n : Int) : ∃ r, laws_szItem.f a0 a1 a2 a3 n = some r := by
  unfold laws_szItem.f
  repeat' split
  all_goals exact ⟨_, rfl⟩
theorem rdIteml_at {l : List (S114)} {i : Nat} (h : i < l.length) : rd_T114 l (i : Int) = l[i] := getD_nat h _
theorem rdIteml_set {l : List (S114)} {i : Nat} (h : i < l.length) (v : S114) : rd_T114 (l.set i v) (i : Int) = v := by
  rw [rdIteml_at (by simpa using h), List.getElem_set_self]
set_option maxHeartbeats 2000000 in
theorem szItemS_go (l : List (S114)) (hl : l.length ≤ 4611686018427387904) : ∀ (d i : Nat) (n : Int), i + d = l.length → ∃ r, Alw fun k => laws_szItemS.l0 k l n (i : Int) = some r
  | 0, i, n, h => ⟨n, Alw.one fun k => by rw [laws_szItemS.l0, if_neg (by omega)]⟩
  | d + 1, i, n, h => by
    have hi : i < l.length := by omega
    obtain ⟨t, ht0⟩ := szItem_some (l[i].f0) (l[i].f1) (l[i].f2) (l[i].f3) n
    have ht := Alw.now fun _ : Nat => ht0
    by_cases q : t < 0
    · exact ⟨-1, ht.succ fun k ht => by rw [laws_szItemS.l0, if_pos (by omega), if_pos (by omega), rdIteml_at hi, ht, Option.bind_some, if_pos q]⟩
    · obtain ⟨r, hr⟩ := szItemS_go l hl d (i + 1) t (by omega)
      exact ⟨r, (ht.and hr).succ fun k ⟨ht, hr⟩ => by rw [laws_szItemS.l0, if_pos (by omega), if_pos (by omega), rdIteml_at hi, ht, Option.bind_some, if_neg q, wS (by omega)]; exact hr⟩
theorem szItemS_some (l : List (S114)) (n : Int) (hl : l.length ≤ 4611686018427387904) : ∃ r, Alw fun k => laws_szItemS.f k l n = some r := by
  unfold laws_szItemS.f
  split
  · exact ⟨_, Alw.now fun _ => rfl⟩
  · exact szItemS_go l hl l.length 0 _ (by omega)
def cvItem (x : S114) : S73 := ⟨x.f0, x.f1, x.f2, x.f3⟩
set_option maxHeartbeats 2000000 in
theorem toItemS_go (l : List (S114)) (hl : l.length ≤ 4611686018427387904) : ∀ (d i : Nat) (x : List (S73)), i + d = l.length → x.length = l.length → Alw fun k => laws_toItemS.l0 k l x (i : Int) = some (x.take i ++ (l.drop i).map cvItem)
  | 0, i, x, h, hx => Alw.one fun k => by
    rw [laws_toItemS.l0, if_neg (by omega), List.drop_eq_nil_of_le (by omega), List.take_of_length_le (by omega)]; simp
  | d + 1, i, x, h, hx => by
    have hi : i < l.length := by omega
    have hx2 : i < x.length := by omega
    have ih := toItemS_go l hl d (i + 1) (x.set i (cvItem l[i])) (by omega) (by simpa using hx)
    refine ih.succ fun k ih => ?_
    rw [laws_toItemS.l0, if_pos (by omega), if_pos (by omega)]
    simp only [rdIteml_at hi, laws_toItem.f, Option.bind_some, Int.toNat_natCast]
    rw [if_pos (by omega), wS (by omega)]
    refine Eq.trans ih ?_
    rw [take_set_succ hx2, List.drop_eq_getElem_cons hi]
    simp only [List.map_cons, List.append_assoc, List.cons_append, List.nil_append]
theorem toItemS_alw (l : List (S114)) (hl : l.length ≤ 5864062014805) : Alw fun k => laws_toItemS.f k l = some (l.map cvItem) := by
  refine (toItemS_go l (by omega) l.length 0 (List.replicate l.length z73) (by omega) (by simp)).imp fun k h => ?_
  unfold laws_toItemS.f
  rw [if_pos (by omega), if_pos (by omega)]
  rw [Int.toNat_natCast]
  refine Eq.trans h ?_
  simp
theorem rdItemi_at {l : List (S73)} {i : Nat} (h : i < l.length) : rd_T73 l (i : Int) = l[i] := getD_nat h _
theorem rdItemi_set {l : List (S73)} {i : Nat} (h : i < l.length) (v : S73) : rd_T73 (l.set i v) (i : Int) = v := by
  rw [rdItemi_at (by simpa using h), List.getElem_set_self]
set_option maxHeartbeats 2000000 in
theorem eqItemS_go (l : List (S73)) (hl : l.length ≤ 4611686018427387904) : ∀ (d i : Nat), i + d = l.length → Alw fun k => laws_eqItemS.l0 k l l (i : Int) = some true
  | 0, i, h => Alw.one fun k => by rw [laws_eqItemS.l0, if_neg (by omega)]
  | d + 1, i, h => by
    have hi : i < l.length := by omega
    have ih := eqItemS_go l hl d (i + 1) (by omega)
    refine ih.succ fun k ih => ?_
    rw [laws_eqItemS.l0, if_pos (by omega), if_pos (by omega), if_pos (by omega)]
    simp only [rdItemi_at hi, laws_eqItem.f, if_true, Option.bind_some]
    rw [wS (by omega)]
    exact ih
theorem eqItemS_alw (l : List (S73)) (hl : l.length ≤ 4611686018427387904) : Alw fun k => laws_eqItemS.f k l l = some true := by
  refine (eqItemS_go l hl l.length 0 (by omega)).imp fun k h => ?_
  unfold laws_eqItemS.f
  rw [if_pos rfl]
  exact h
theorem szRun_some (a0 : List (S114)) (n : Int) (h0 : a0.length ≤ 4611686018427387904) : ∃ r, Alw fun k => laws_szRun.f k a0 n = some r := by
  obtain ⟨r0, g0⟩ := szItemS_some a0 n h0
  by_cases q0 : r0 < 0
  · exact ⟨-1, (g0).imp fun k g0 => by simp only [laws_szRun.f, Option.bind_some, if_true, if_false, g0, q0]⟩
  exact ⟨r0, (g0).imp fun k g0 => by simp only [laws_szRun.f, Option.bind_some, if_true, if_false, g0, q0]⟩
theorem toRun_alw (a0 : List (S114)) (h0 : a0.length ≤ 5864062014805) : Alw fun k => laws_toRun.f k a0 = some (a0.map cvItem) := by
  exact (toItemS_alw a0 h0).imp fun k g0 => by simp only [laws_toRun.f, Option.bind_some, g0]
theorem eqRun_alw (a0 : List (S73)) (h0 : a0.length ≤ 4611686018427387904) : Alw fun k => laws_eqRun.f k a0 a0 = some true := by
  exact (eqItemS_alw a0 h0).imp fun k g0 => by simp only [laws_eqRun.f, Option.bind_some, if_true, g0]
def okRun (x : S24) : Prop := x.f0.length ≤ 5864062014805
def okiRun (x : S30) : Prop := x.f0.length ≤ 4611686018427387904
def cvRun (x : S24) : S30 := ⟨(x.f0.map cvItem)⟩
theorem rdRunl_at {l : List (S24)} {i : Nat} (h : i < l.length) : rd_T24 l (i : Int) = l[i] := getD_nat h _
theorem rdRunl_set {l : List (S24)} {i : Nat} (h : i < l.length) (v : S24) : rd_T24 (l.set i v) (i : Int) = v := by
  rw [rdRunl_at (by simpa using h), List.getElem_set_self]
set_option maxHeartbeats 2000000 in
theorem szRunS_go (l : List (S24)) (hl : l.length ≤ 4611686018427387904) (hb : ∀ y ∈ l, okRun y) : ∀ (d i : Nat) (n : Int), i + d = l.length → ∃ r, Alw fun k => laws_szRunS.l0 k l n (i : Int) = some r
  | 0, i, n, h => ⟨n, Alw.one fun k => by rw [laws_szRunS.l0, if_neg (by omega)]⟩
  | d + 1, i, n, h => by
    have hi : i < l.length := by omega
    have b0 := hb l[i] (List.getElem_mem hi)
    unfold okRun at b0
    obtain ⟨t, ht⟩ := szRun_some (l[i].f0) n (by omega)
    by_cases q : t < 0
    · exact ⟨-1, ht.succ fun k ht => by rw [laws_szRunS.l0, if_pos (by omega), if_pos (by omega), rdRunl_at hi, ht, Option.bind_some, if_pos q]⟩
    · obtain ⟨r, hr⟩ := szRunS_go l hl hb d (i + 1) t (by omega)
      exact ⟨r, (ht.and hr).succ fun k ⟨ht, hr⟩ => by rw [laws_szRunS.l0, if_pos (by omega), if_pos (by omega), rdRunl_at hi, ht, Option.bind_some, if_neg q, wS (by omega)]; exact hr⟩
theorem szRunS_some (l : List (S24)) (n : Int) (hl : l.length ≤ 4611686018427387904) (hb : ∀ y ∈ l, okRun y) : ∃ r, Alw fun k => laws_szRunS.f k l n = some r := by
  unfold laws_szRunS.f
  split
  · exact ⟨_, Alw.now fun _ => rfl⟩
  · exact szRunS_go l hl hb l.length 0 _ (by omega)
set_option maxHeartbeats 2000000 in
theorem toRunS_go (l : List (S24)) (hl : l.length ≤ 4611686018427387904) (hb : ∀ y ∈ l, okRun y) : ∀ (d i : Nat) (x : List (S30)), i + d = l.length → x.length = l.length → Alw fun k => laws_toRunS.l0 k l x (i : Int) = some (x.take i ++ (l.drop i).map cvRun)
  | 0, i, x, h, hx => Alw.one fun k => by
    rw [laws_toRunS.l0, if_neg (by omega), List.drop_eq_nil_of_le (by omega), List.take_of_length_le (by omega)]; simp
  | d + 1, i, x, h, hx => by
    have hi : i < l.length := by omega
    have hx2 : i < x.length := by omega
    have ih := toRunS_go l hl hb d (i + 1) (x.set i (cvRun l[i])) (by omega) (by simpa using hx)
    have b0 := hb l[i] (List.getElem_mem hi)
    have ht := toRun_alw (l[i].f0) b0
    refine (ih.and ht).succ fun k ⟨ih, ht⟩ => ?_
    rw [laws_toRunS.l0, if_pos (by omega), if_pos (by omega)]
    simp only [rdRunl_at hi, ht, Option.bind_some, Int.toNat_natCast]
    rw [if_pos (by omega), wS (by omega)]
    refine Eq.trans ih ?_
    rw [take_set_succ hx2, List.drop_eq_getElem_cons hi]
    simp only [List.map_cons, List.append_assoc, List.cons_append, List.nil_append]
theorem toRunS_alw (l : List (S24)) (hl : l.length ≤ 11728124029610) (hb : ∀ y ∈ l, okRun y) : Alw fun k => laws_toRunS.f k l = some (l.map cvRun) := by
  refine (toRunS_go l (by omega) hb l.length 0 (List.replicate l.length z30) (by omega) (by simp)).imp fun k h => ?_
  unfold laws_toRunS.f
  rw [if_pos (by omega), if_pos (by omega)]
  rw [Int.toNat_natCast]
  refine Eq.trans h ?_
  simp
theorem rdRuni_at {l : List (S30)} {i : Nat} (h : i < l.length) : rd_T30 l (i : Int) = l[i] := getD_nat h _
theorem rdRuni_set {l : List (S30)} {i : Nat} (h : i < l.length) (v : S30) : rd_T30 (l.set i v) (i : Int) = v := by
  rw [rdRuni_at (by simpa using h), List.getElem_set_self]
set_option maxHeartbeats 2000000 in
theorem eqRunS_go (l : List (S30)) (hl : l.length ≤ 4611686018427387904) (hb : ∀ y ∈ l, okiRun y) : ∀ (d i : Nat), i + d = l.length → Alw fun k => laws_eqRunS.l0 k l l (i : Int) = some true
  | 0, i, h => Alw.one fun k => by rw [laws_eqRunS.l0, if_neg (by omega)]
  | d + 1, i, h => by
    have hi : i < l.length := by omega
    have ih := eqRunS_go l hl hb d (i + 1) (by omega)
    have b0 := hb l[i] (List.getElem_mem hi)
    refine (ih.and (eqRun_alw (l[i].f0) b0)).succ fun k ⟨ih, ht⟩ => ?_
    rw [laws_eqRunS.l0, if_pos (by omega), if_pos (by omega), if_pos (by omega)]
    simp only [rdRuni_at hi, ht, if_true, Option.bind_some]
    rw [wS (by omega)]
    exact ih
theorem eqRunS_alw (l : List (S30)) (hl : l.length ≤ 4611686018427387904) (hb : ∀ y ∈ l, okiRun y) : Alw fun k => laws_eqRunS.f k l l = some true := by
  refine (eqRunS_go l hl hb l.length 0 (by omega)).imp fun k h => ?_
  unfold laws_eqRunS.f
  rw [if_pos rfl]
  exact h
end Go.Proofs.Ytflogiopajppiaa
