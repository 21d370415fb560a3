/- The laws' own functions of FnExactEditBytes, over numbers and lists alone. -/
import Derived.Test.YtioelmhikablcaaPuBEb
import Derived.Test.YtioelmhikablcaaPFnExactEditBytesx1
import Derived.Test.YtioelmhikablcaaPFnExactEditBytesx5
import Derived.Test.YtioelmhikablcaaPFnExactEditBytesx9
namespace Go.Proofs.Ytioelmhikablcaa
open Go Go.RowKit Go.Proofs.YtioelmhikablcaaW.PrintWords Go.Proofs.YtioelmhikablcaaW.PrintLast Go.Proofs.YtioelmhikablcaaW.PrintMore Go.Proofs.Ytioelmhikablcaa.PFnExactEditBytes
set_option linter.unusedVariables false
set_option linter.unusedSimpArgs false

theorem szIntS_some (l : List (Int)) (n : Int) : ∃ r, Alw fun k => laws_szIntS.f l n = some r := by
  unfold laws_szIntS.f
  repeat' split
  all_goals exact ⟨_, Alw.now fun _ => rfl⟩
theorem rdIntl_at {l : List (Int)} {i : Nat} (h : i < l.length) : rd l (i : Int) = l[i] := getD_nat h _
theorem rdIntl_set {l : List (Int)} {i : Nat} (h : i < l.length) (v : Int) : rd (l.set i v) (i : Int) = v := by
  rw [rdIntl_at (by simpa using h), List.getElem_set_self]
set_option maxHeartbeats 2000000 in
theorem toIntS_go (l : List (Int)) (hl : l.length ≤ 4611686018427387904) : ∀ (d i : Nat) (x : List (Int)), i + d = l.length → x.length = l.length → Alw fun k => laws_toIntS.l0 k l x (i : Int) = some (x.take i ++ (l.drop i))
  | 0, i, x, h, hx => Alw.one fun k => by
    rw [laws_toIntS.l0, if_neg (by omega), List.drop_eq_nil_of_le (by omega), List.take_of_length_le (by omega)]; simp
  | d + 1, i, x, h, hx => by
    have hi : i < l.length := by omega
    have hx2 : i < x.length := by omega
    have ih := toIntS_go l hl d (i + 1) (x.set i l[i]) (by omega) (by simpa using hx)
    refine ih.succ fun k ih => ?_
    rw [laws_toIntS.l0, if_pos (by omega), if_pos (by omega)]
    simp only [rdIntl_at hi, Option.bind_some, Int.toNat_natCast]
    rw [if_pos (by omega), wS (by omega)]
    refine Eq.trans ih ?_
    rw [take_set_succ hx2, List.drop_eq_getElem_cons hi]
    simp only [List.map_cons, List.append_assoc, List.cons_append, List.nil_append]
theorem toIntS_alw (l : List (Int)) (hl : l.length ≤ 35184372088832) : Alw fun k => laws_toIntS.f k l = some (l) := by
  refine (toIntS_go l (by omega) l.length 0 (List.replicate l.length 0) (by omega) (by simp)).imp fun k h => ?_
  unfold laws_toIntS.f
  rw [if_pos (by omega), if_pos (by omega)]
  rw [Int.toNat_natCast]
  refine Eq.trans h ?_
  simp
theorem rdInti_at {l : List (Int)} {i : Nat} (h : i < l.length) : rd l (i : Int) = l[i] := getD_nat h _
theorem rdInti_set {l : List (Int)} {i : Nat} (h : i < l.length) (v : Int) : rd (l.set i v) (i : Int) = v := by
  rw [rdInti_at (by simpa using h), List.getElem_set_self]
set_option maxHeartbeats 2000000 in
theorem eqIntS_go (l : List (Int)) (hl : l.length ≤ 4611686018427387904) : ∀ (d i : Nat), i + d = l.length → Alw fun k => laws_eqIntS.l0 k l l (i : Int) = some true
  | 0, i, h => Alw.one fun k => by rw [laws_eqIntS.l0, if_neg (by omega)]
  | d + 1, i, h => by
    have hi : i < l.length := by omega
    have ih := eqIntS_go l hl d (i + 1) (by omega)
    refine ih.succ fun k ih => ?_
    rw [laws_eqIntS.l0, if_pos (by omega), if_pos (by omega), if_pos (by omega)]
    simp only [rdInti_at hi, if_true, Option.bind_some]
    rw [wS (by omega)]
    exact ih
theorem eqIntS_alw (l : List (Int)) (hl : l.length ≤ 4611686018427387904) : Alw fun k => laws_eqIntS.f k l l = some true := by
  refine (eqIntS_go l hl l.length 0 (by omega)).imp fun k h => ?_
  unfold laws_eqIntS.f
  rw [if_pos rfl]
  exact h
theorem szMeta_some (a0 : Int) (a1 : Int) (a2 : ByteArray) (a3 : ByteArray) (n : Int) : ∃ r, laws_szMeta.f a0 a1 a2 a3 n = some r := by
  unfold laws_szMeta.f
  repeat' split
  all_goals exact ⟨_, rfl⟩
theorem rdMetal_at {l : List (S217)} {i : Nat} (h : i < l.length) : rd_T217 l (i : Int) = l[i] := getD_nat h _
theorem rdMetal_set {l : List (S217)} {i : Nat} (h : i < l.length) (v : S217) : rd_T217 (l.set i v) (i : Int) = v := by
  rw [rdMetal_at (by simpa using h), List.getElem_set_self]
set_option maxHeartbeats 2000000 in
theorem szMetaS_go (l : List (S217)) (hl : l.length ≤ 4611686018427387904) : ∀ (d i : Nat) (n : Int), i + d = l.length → ∃ r, Alw fun k => laws_szMetaS.l0 k l n (i : Int) = some r
  | 0, i, n, h => ⟨n, Alw.one fun k => by rw [laws_szMetaS.l0, if_neg (by omega)]⟩
  | d + 1, i, n, h => by
    have hi : i < l.length := by omega
    obtain ⟨t, ht0⟩ := szMeta_some (l[i].f0) (l[i].f1) (l[i].f2) (l[i].f3) n
    have ht := Alw.now fun _ : Nat => ht0
    by_cases q : t < 0
    · exact ⟨-1, ht.succ fun k ht => by rw [laws_szMetaS.l0, if_pos (by omega), if_pos (by omega), rdMetal_at hi, ht, Option.bind_some, if_pos q]⟩
    · obtain ⟨r, hr⟩ := szMetaS_go l hl d (i + 1) t (by omega)
      exact ⟨r, (ht.and hr).succ fun k ⟨ht, hr⟩ => by rw [laws_szMetaS.l0, if_pos (by omega), if_pos (by omega), rdMetal_at hi, ht, Option.bind_some, if_neg q, wS (by omega)]; exact hr⟩
theorem szMetaS_some (l : List (S217)) (n : Int) (hl : l.length ≤ 4611686018427387904) : ∃ r, Alw fun k => laws_szMetaS.f k l n = some r := by
  unfold laws_szMetaS.f
  split
  · exact ⟨_, Alw.now fun _ => rfl⟩
  · exact szMetaS_go l hl l.length 0 _ (by omega)
def cvMeta (x : S217) : S175 := ⟨x.f0, x.f1, x.f2, x.f3⟩
set_option maxHeartbeats 2000000 in
theorem toMetaS_go (l : List (S217)) (hl : l.length ≤ 4611686018427387904) : ∀ (d i : Nat) (x : List (S175)), i + d = l.length → x.length = l.length → Alw fun k => laws_toMetaS.l0 k l x (i : Int) = some (x.take i ++ (l.drop i).map cvMeta)
  | 0, i, x, h, hx => Alw.one fun k => by
    rw [laws_toMetaS.l0, if_neg (by omega), List.drop_eq_nil_of_le (by omega), List.take_of_length_le (by omega)]; simp
  | d + 1, i, x, h, hx => by
    have hi : i < l.length := by omega
    have hx2 : i < x.length := by omega
    have ih := toMetaS_go l hl d (i + 1) (x.set i (cvMeta l[i])) (by omega) (by simpa using hx)
    refine ih.succ fun k ih => ?_
    rw [laws_toMetaS.l0, if_pos (by omega), if_pos (by omega)]
    simp only [rdMetal_at hi, laws_toMeta.f, Option.bind_some, Int.toNat_natCast]
    rw [if_pos (by omega), wS (by omega)]
    refine Eq.trans ih ?_
    rw [take_set_succ hx2, List.drop_eq_getElem_cons hi]
    simp only [List.map_cons, List.append_assoc, List.cons_append, List.nil_append]
theorem toMetaS_alw (l : List (S217)) (hl : l.length ≤ 5864062014805) : Alw fun k => laws_toMetaS.f k l = some (l.map cvMeta) := by
  refine (toMetaS_go l (by omega) l.length 0 (List.replicate l.length z175) (by omega) (by simp)).imp fun k h => ?_
  unfold laws_toMetaS.f
  rw [if_pos (by omega), if_pos (by omega)]
  rw [Int.toNat_natCast]
  refine Eq.trans h ?_
  simp
theorem rdMetai_at {l : List (S175)} {i : Nat} (h : i < l.length) : rd_T175 l (i : Int) = l[i] := getD_nat h _
theorem rdMetai_set {l : List (S175)} {i : Nat} (h : i < l.length) (v : S175) : rd_T175 (l.set i v) (i : Int) = v := by
  rw [rdMetai_at (by simpa using h), List.getElem_set_self]
set_option maxHeartbeats 2000000 in
theorem eqMetaS_go (l : List (S175)) (hl : l.length ≤ 4611686018427387904) : ∀ (d i : Nat), i + d = l.length → Alw fun k => laws_eqMetaS.l0 k l l (i : Int) = some true
  | 0, i, h => Alw.one fun k => by rw [laws_eqMetaS.l0, if_neg (by omega)]
  | d + 1, i, h => by
    have hi : i < l.length := by omega
    have ih := eqMetaS_go l hl d (i + 1) (by omega)
    refine ih.succ fun k ih => ?_
    rw [laws_eqMetaS.l0, if_pos (by omega), if_pos (by omega), if_pos (by omega)]
    simp only [rdMetai_at hi, laws_eqMeta.f, if_true, Option.bind_some]
    rw [wS (by omega)]
    exact ih
theorem eqMetaS_alw (l : List (S175)) (hl : l.length ≤ 4611686018427387904) : Alw fun k => laws_eqMetaS.f k l l = some true := by
  refine (eqMetaS_go l hl l.length 0 (by omega)).imp fun k h => ?_
  unfold laws_eqMetaS.f
  rw [if_pos rfl]
  exact h
theorem szEdit_some (a0 : Int) (a1 : Int) (a2 : List (Int)) (a3 : List (S217)) (n : Int) (h2 : a2.length ≤ 4611686018427387904) (h3 : a3.length ≤ 4611686018427387904) : ∃ r, Alw fun k => laws_szEdit.f k a0 a1 a2 a3 n = some r := by
  obtain ⟨r0, g0⟩ := szIntS_some a2 n
  by_cases q0 : r0 < 0
  · exact ⟨-1, (g0).imp fun k g0 => by simp only [laws_szEdit.f, Option.bind_some, if_true, if_false, g0, q0]⟩
  obtain ⟨r1, g1⟩ := szMetaS_some a3 r0 h3
  by_cases q1 : r1 < 0
  · exact ⟨-1, ((g0).and g1).imp fun k ⟨g0, g1⟩ => by simp only [laws_szEdit.f, Option.bind_some, if_true, if_false, g0, q0, g1, q1]⟩
  exact ⟨r1, ((g0).and g1).imp fun k ⟨g0, g1⟩ => by simp only [laws_szEdit.f, Option.bind_some, if_true, if_false, g0, q0, g1, q1]⟩
theorem toEdit_alw (a0 : Int) (a1 : Int) (a2 : List (Int)) (a3 : List (S217)) (h2 : a2.length ≤ 35184372088832) (h3 : a3.length ≤ 5864062014805) : Alw fun k => laws_toEdit.f k a0 a1 a2 a3 = some (a0, a1, a2, a3.map cvMeta) := by
  exact ((toIntS_alw a2 h2).and (toMetaS_alw a3 h3)).imp fun k ⟨g0, g1⟩ => by simp only [laws_toEdit.f, Option.bind_some, g0, g1]
theorem eqEdit_alw (a0 : Int) (a1 : Int) (a2 : List (Int)) (a3 : List (S175)) (h2 : a2.length ≤ 4611686018427387904) (h3 : a3.length ≤ 4611686018427387904) : Alw fun k => laws_eqEdit.f k a0 a1 a2 a3 a0 a1 a2 a3 = some true := by
  exact ((eqIntS_alw a2 h2).and (eqMetaS_alw a3 h3)).imp fun k ⟨g0, g1⟩ => by simp only [laws_eqEdit.f, Option.bind_some, if_true, g0, g1]
end Go.Proofs.Ytioelmhikablcaa
