/- The laws' own functions of FnExactDropShadowed, over numbers and lists alone. -/
import Derived.Test.YtflogiopajppiaaPuBDs
import Derived.Test.YtflogiopajppiaaPFnExactDropShadowedx2
import Derived.Test.YtflogiopajppiaaPFnExactDropShadowedx3
import Derived.Test.YtflogiopajppiaaPFnExactDropShadowedx10
import Derived.Test.YtflogiopajppiaaPFnExactDropShadowedx11
namespace Go.Proofs.Ytflogiopajppiaa
open Go Go.RowKit Go.Proofs.YtflogiopajppiaaW.PrintWords Go.Proofs.YtflogiopajppiaaW.PrintLast Go.Proofs.YtflogiopajppiaaW.PrintMore Go.Proofs.Ytflogiopajppiaa.PFnExactDropShadowed
set_option linter.unusedVariables false
set_option linter.unusedSimpArgs false

theorem szItem_some (a0 : ByteArray) (a1 : Int) (a2 : Int) (a3 : ByteArray) (n : Int) : ∃ r, laws_szItem.f a0 a1 a2 a3 n = some r := by
  unfold laws_szItem.f
  repeat' split
  all_goals exact ⟨_, rfl⟩
theorem rdIteml_at {l : List (S114)} {i : Nat} (h : i < l.length) : rd_T114 l (i : Int) = l[i] := getD_nat h _
theorem rdIteml_set {l : List (S114)} {i : Nat} (h : i < l.length) (v : S114) : rd_T114 (l.set i v) (i : Int) = v := by
  rw [rdIteml_at (by simpa using h), List.getElem_set_self]
set_option maxHeartbeats 2000000 in
theorem szItemS_go (l : List (S114)) (hl : l.length ≤ 4611686018427387904) : ∀ (d i : Nat) (n : Int), i + d = l.length → ∃ r, Alw fun k => laws_szItemS.l0 k l n (i : Int) = some r
  | 0, i, n, h => ⟨n, Alw.one fun k => by rw [laws_szItemS.l0, if_neg (by omega)]⟩
  | d + 1, i, n, h => by
    have hi : i < l.length := by omega
    obtain ⟨t, ht0⟩ := szItem_some (l[i].f0) (l[i].f1) (l[i].f2) (l[i].f3) n
    have ht := Alw.now fun _ : Nat => ht0
    by_cases q : t < 0
    · exact ⟨-1, ht.succ fun k ht => by rw [laws_szItemS.l0, if_pos (by omega), if_pos (by omega), rdIteml_at hi, ht, Option.bind_some, if_pos q]⟩
    · obtain ⟨r, hr⟩ := szItemS_go l hl d (i + 1) t (by omega)
      exact ⟨r, (ht.and hr).succ fun k ⟨ht, hr⟩ => by rw [laws_szItemS.l0, if_pos (by omega), if_pos (by omega), rdIteml_at hi, ht, Option.bind_some, if_neg q, wS (by omega)]; exact hr⟩
theorem szItemS_some (l : List (S114)) (n : Int) (hl : l.length ≤ 4611686018427387904) : ∃ r, Alw fun k => laws_szItemS.f k l n = some r := by
  unfold laws_szItemS.f
  split
  · exact ⟨_, Alw.now fun _ => rfl⟩
  · exact szItemS_go l hl l.length 0 _ (by omega)
def cvItem (x : S114) : S73 := ⟨x.f0, x.f1, x.f2, x.f3⟩
set_option maxHeartbeats 2000000 in
theorem toItemS_go (l : List (S114)) (hl : l.length ≤ 4611686018427387904) : ∀ (d i : Nat) (x : List (S73)), i + d = l.length → x.length = l.length → Alw fun k => laws_toItemS.l0 k l x (i : Int) = some (x.take i ++ (l.drop i).map cvItem)
  | 0, i, x, h, hx => Alw.one fun k => by
    rw [laws_toItemS.l0, if_neg (by omega), List.drop_eq_nil_of_le (by omega), List.take_of_length_le (by omega)]; simp
  | d + 1, i, x, h, hx => by
    have hi : i < l.length := by omega
    have hx2 : i < x.length := by omega
    have ih := toItemS_go l hl d (i + 1) (x.set i (cvItem l[i])) (by omega) (by simpa using hx)
    refine ih.succ fun k ih => ?_
    rw [laws_toItemS.l0, if_pos (by omega), if_pos (by omega)]
    simp only [rdIteml_at hi, laws_toItem.f, Option.bind_some, Int.toNat_natCast]
    rw [if_pos (by omega), wS (by omega)]
    refine Eq.trans ih ?_
    rw [take_set_succ hx2, List.drop_eq_getElem_cons hi]
    simp only [List.map_cons, List.append_assoc, List.cons_append, List.nil_append]
theorem toItemS_alw (l : List (S114)) (hl : l.length ≤ 5864062014805) : Alw fun k => laws_toItemS.f k l = some (l.map cvItem) := by
  refine (toItemS_go l (by omega) l.length 0 (List.replicate l.length z73) (by omega) (by simp)).imp fun k h => ?_
  unfold laws_toItemS.f
  rw [if_pos (by omega), if_pos (by omega)]
  rw [Int.toNat_natCast]
  refine Eq.trans h ?_
  simp
theorem rdItemi_at {l : List (S73)} {i : Nat} (h : i < l.length) : rd_T73 l (i : Int) = l[i] := getD_nat h _
theorem rdItemi_set {l : List (S73)} {i : Nat} (h : i < l.length) (v : S73) : rd_T73 (l.set i v) (i : Int) = v := by
  rw [rdItemi_at (by simpa using h), List.getElem_set_self]
set_option maxHeartbeats 2000000 in
theorem eqItemS_go (l : List (S73)) (hl : l.length ≤ 4611686018427387904) : ∀ (d i : Nat), i + d = l.length → Alw fun k => laws_eqItemS.l0 k l l (i : Int) = some true
  | 0, i, h => Alw.one fun k => by rw [laws_eqItemS.l0, if_neg (by omega)]
  | d + 1, i, h => by
    have hi : i < l.length := by omega
    have ih := eqItemS_go l hl d (i + 1) (by omega)
    refine ih.succ fun k ih => ?_
    rw [laws_eqItemS.l0, if_pos (by omega), if_pos (by omega), if_pos (by omega)]
    simp only [rdItemi_at hi, laws_eqItem.f, if_true, Option.bind_some]
    rw [wS (by omega)]
    exact ih
theorem eqItemS_alw (l : List (S73)) (hl : l.length ≤ 4611686018427387904) : Alw fun k => laws_eqItemS.f k l l = some true := by
  refine (eqItemS_go l hl l.length 0 (by omega)).imp fun k h => ?_
  unfold laws_eqItemS.f
  rw [if_pos rfl]
  exact h
theorem mText_go : ∀ (d : Nat) (c : Int) (x : ByteArray), c < 10 ^ d → 0 ≤ c → c ≤ 4611686018427387904 → x.size + d ≤ 1000 → ∃ t, Alw fun k => laws_markText.l0 k c x = some t
  | 0, c, x, h, h0, h2, hx => by
    have : c = 0 := by simp at h; omega
    subst this
    exact ⟨_, Alw.one fun k => by rw [laws_markText.l0, if_neg (by decide), if_pos (by omega)]⟩
  | d + 1, c, x, h, h0, h2, hx => by
    by_cases hc : c > 0
    · have e1 : wrap64 (Int.tdiv c 10) = c / 10 := by
        rw [Int.tdiv_eq_ediv_of_nonneg h0]
        unfold wrap64; omega
      have hz : ∀ z : Int, (strOfNums [z]).size = 1 := fun z => by rw [strOfNums_size]; rfl
      obtain ⟨t, ht⟩ := mText_go d (c / 10) (strOfNums [(wrap64 (48 + (Int.tmod c 10))) % 256] ++ x) (by rw [Int.pow_succ] at h; omega) (by omega) (by omega) (by rw [ByteArray.size_append, hz]; omega)
      refine ⟨t, ht.succ fun k ht => ?_⟩
      rw [laws_markText.l0, if_pos hc]
      simp only [Option.bind_some]
      rw [if_pos (by rw [hz]; omega), e1]
      exact ht
    · exact ⟨_, Alw.one fun k => by rw [laws_markText.l0, if_neg hc, if_pos (by omega)]⟩
theorem mText_some (c : Int) (h0 : 0 ≤ c) (h2 : c ≤ 4611686018427387904) : ∃ t, Alw fun k => laws_markText.f k c = some t := by
  by_cases hc : c ≤ 0
  · exact ⟨_, Alw.now fun k => by rw [laws_markText.f, if_pos hc]⟩
  · obtain ⟨t, ht⟩ := mText_go 20 c ⟨#[]⟩ (Int.lt_of_le_of_lt h2 (by decide)) h0 h2 (by decide)
    exact ⟨t, ht.imp fun k h => by rw [laws_markText.f, if_neg hc]; exact h⟩
open Classical in
/-- The text of a mark. -/
noncomputable def mT (c : Int) : ByteArray := if h : 0 ≤ c ∧ c ≤ 4611686018427387904 then (mText_some c h.1 h.2).choose else ⟨#[]⟩
theorem mT_alw {c : Int} (h0 : 0 ≤ c) (h2 : c ≤ 4611686018427387904) : Alw fun k => laws_markText.f k c = some (mT c) := by
  unfold mT
  rw [dif_pos ⟨h0, h2⟩]
  exact (mText_some c h0 h2).choose_spec
noncomputable def mkItem (c : Int) : S73 := ⟨(mT c), (c + 1), ((c + 1) + 1), (mT (((c + 1) + 1) + 1))⟩
/-- So many of them, marked in order. -/
noncomputable def mkLItem : Nat → Int → List (S73)
  | 0, _ => []
  | d + 1, c => mkItem c :: mkLItem d ((((c + 1) + 1) + 1) + 1)
theorem mkLItem_len : ∀ (d : Nat) (c : Int), (mkLItem d c).length = d
  | 0, _ => rfl
  | d + 1, c => by rw [mkLItem, List.length_cons, mkLItem_len]
set_option maxHeartbeats 2000000 in
theorem markItemS_go : ∀ (d : Nat) (l : List (S73)) (c : Int) (i : Nat), i + d = l.length → 0 ≤ c → c + 4 * d ≤ 4611686018427387904 → l.length ≤ 4611686018427387904 → Alw fun k => laws_markItemS.l0 k l c (i : Int) = some (c + 4 * d, l.take i ++ mkLItem d c)
  | 0, l, c, i, h, h0, h2, hl => Alw.one fun k => by
    rw [laws_markItemS.l0, if_neg (by omega), List.take_of_length_le (by omega), mkLItem]; simp
  | d + 1, l, c, i, h, h0, h2, hl => by
    have hi : i < l.length := by omega
    have ih := markItemS_go d (l.set i (mkItem c)) ((((c + 1) + 1) + 1) + 1) (i + 1) (by simp; omega) (by omega) (by omega) (by simpa using hl)
    have e1 : wrap64 (c + 1) = (c + 1) := w1 (by omega) (by omega)
    have e2 : wrap64 ((c + 1) + 1) = ((c + 1) + 1) := w1 (by omega) (by omega)
    have e3 : wrap64 (((c + 1) + 1) + 1) = (((c + 1) + 1) + 1) := w1 (by omega) (by omega)
    have e4 : wrap64 ((((c + 1) + 1) + 1) + 1) = ((((c + 1) + 1) + 1) + 1) := w1 (by omega) (by omega)
    have t0 := mT_alw (c := c) (by omega) (by omega)
    have t3 := mT_alw (c := (((c + 1) + 1) + 1)) (by omega) (by omega)
    refine (((ih).and t0).and t3).succ fun k ⟨⟨ih, t0⟩, t3⟩ => ?_
    have hlt : ((i : Int) < (l.length : Int)) := by omega
    have hp : (0 : Int) ≤ (i : Int) := by omega
    have e0 := wS (i := i) (by omega)
    rw [laws_markItemS.l0]
    simp only [hlt, hp, e1, e2, e3, e4, t0, t3, e0, if_true, Option.bind_some, Int.toNat_natCast, rdItemi_set hi, List.set_set]
    refine Eq.trans ih ?_
    rw [take_set_succ hi, mkLItem]
    simp only [List.append_assoc, List.singleton_append]
    congr 2
    omega
theorem markItemS_alw (l : List (S73)) (c : Int) (h0 : 0 ≤ c) (h2 : c + 4 * l.length ≤ 4611686018427387904) : Alw fun k => laws_markItemS.f k l c = some (c + 4 * l.length, mkLItem l.length c) := by
  refine (markItemS_go l.length l c 0 (by omega) h0 h2 (by omega)).imp fun k h => ?_
  exact Eq.trans h (by simp)
set_option maxHeartbeats 2000000 in
theorem heldItemS_go : ∀ (d : Nat) (l : List (S73)) (c : Int) (i : Nat), l.drop i = mkLItem d c → i + d = l.length → 0 ≤ c → c + 4 * d ≤ 4611686018427387904 → l.length ≤ 4611686018427387904 → Alw fun k => laws_heldItemS.l0 k l c (i : Int) = some (c + 4 * d)
  | 0, l, c, i, hd, h, h0, h2, hl => Alw.one fun k => by
    rw [laws_heldItemS.l0, if_neg (by omega)]; simp
  | d + 1, l, c, i, hd, h, h0, h2, hl => by
    have hi : i < l.length := by omega
    rw [List.drop_eq_getElem_cons hi, mkLItem] at hd
    obtain ⟨hd1, hd2⟩ := List.cons.inj hd
    have ih := heldItemS_go d l ((((c + 1) + 1) + 1) + 1) (i + 1) hd2 (by omega) (by omega) (by omega) hl
    have e1 : wrap64 (c + 1) = (c + 1) := w1 (by omega) (by omega)
    have e2 : wrap64 ((c + 1) + 1) = ((c + 1) + 1) := w1 (by omega) (by omega)
    have e3 : wrap64 (((c + 1) + 1) + 1) = (((c + 1) + 1) + 1) := w1 (by omega) (by omega)
    have e4 : wrap64 ((((c + 1) + 1) + 1) + 1) = ((((c + 1) + 1) + 1) + 1) := w1 (by omega) (by omega)
    have t0 := mT_alw (c := c) (by omega) (by omega)
    have t3 := mT_alw (c := (((c + 1) + 1) + 1)) (by omega) (by omega)
    refine (((ih).and t0).and t3).succ fun k ⟨⟨ih, t0⟩, t3⟩ => ?_
    have hlt : ((i : Int) < (l.length : Int)) := by omega
    have hp : (0 : Int) ≤ (i : Int) := by omega
    have e0 := wS (i := i) (by omega)
    have hr := rdItemi_at hi
    rw [hd1] at hr
    rw [laws_heldItemS.l0]
    simp only [hlt, hp, hr, mkItem, e1, e2, e3, e4, t0, t3, e0, if_true, Option.bind_some]
    refine Eq.trans ih ?_
    congr 1
    omega
theorem heldItemS_alw (n : Nat) (c : Int) (h0 : 0 ≤ c) (h2 : c + 4 * n ≤ 4611686018427387904) : Alw fun k => laws_heldItemS.f k (mkLItem n c) c = some (c + 4 * n) := by
  refine (heldItemS_go n (mkLItem n c) c 0 rfl (by rw [mkLItem_len]; omega) h0 h2 (by rw [mkLItem_len]; omega)).imp fun k h => ?_
  exact h
theorem szRun_some (a0 : List (S114)) (n : Int) (h0 : a0.length ≤ 4611686018427387904) : ∃ r, Alw fun k => laws_szRun.f k a0 n = some r := by
  obtain ⟨r0, g0⟩ := szItemS_some a0 n h0
  by_cases q0 : r0 < 0
  · exact ⟨-1, (g0).imp fun k g0 => by simp only [laws_szRun.f, Option.bind_some, if_true, if_false, g0, q0]⟩
  exact ⟨r0, (g0).imp fun k g0 => by simp only [laws_szRun.f, Option.bind_some, if_true, if_false, g0, q0]⟩
theorem toRun_alw (a0 : List (S114)) (h0 : a0.length ≤ 5864062014805) : Alw fun k => laws_toRun.f k a0 = some (a0.map cvItem) := by
  exact (toItemS_alw a0 h0).imp fun k g0 => by simp only [laws_toRun.f, Option.bind_some, g0]
theorem eqRun_alw (a0 : List (S73)) (h0 : a0.length ≤ 4611686018427387904) : Alw fun k => laws_eqRun.f k a0 a0 = some true := by
  exact (eqItemS_alw a0 h0).imp fun k g0 => by simp only [laws_eqRun.f, Option.bind_some, if_true, g0]
theorem markRun_alw (a0 : List (S73)) (c : Int) (h0 : 0 ≤ c) (h2 : c + 4 * a0.length ≤ 4611686018427387904) : Alw fun k => laws_markRun.f k a0 c = some (c + 4 * a0.length, mkLItem a0.length (c)) := by
  exact (markItemS_alw a0 (c) (by omega) (by omega)).imp fun k g0 => by simp only [laws_markRun.f, Option.bind_some, g0]
theorem heldRun_alw (n0 : Nat) (c : Int) (h0 : 0 ≤ c) (h2 : c + 4 * n0 ≤ 4611686018427387904) : Alw fun k => laws_heldRun.f k (mkLItem n0 (c)) c = some (c + 4 * n0) := by
  exact (heldItemS_alw n0 (c) (by omega) (by omega)).imp fun k g0 => by simp only [laws_heldRun.f, Option.bind_some, if_false, g0, (show ¬ (c + 4 * n0 < 0) by omega)]
end Go.Proofs.Ytflogiopajppiaa
