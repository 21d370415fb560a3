/- Law FnWal: the plain law. -/
import Derived.Test.YtjigbmgfjmghcaaCurH
import Derived.Test.YtjigbmgfjmghcaaWalK
namespace Go.Proofs.Ytjigbmgfjmghcaa
open Go Go.RowKit Go.Sort
set_option linter.unusedVariables false
set_option linter.unusedSimpArgs false

theorem app_facts {x X : DWal} {y : DEntry} (hX : X = appendW x y) (h : appendB x y = true) : X.fFirst = x.fFirst ∧ X.fEntries = x.fEntries ++ [y] ∧ goodWal X = true ∧ termW X = y.fTerm ∧ cutB X (X.fFirst + X.fEntries.length - 1) = true ∧ cutW X (X.fFirst + X.fEntries.length - 1) = x := by
  have h1 : X = ⟨x.fFirst, x.fBefore, x.fEntries ++ [y]⟩ := by rw [hX, appendW, if_pos h]; rfl
  have hg : goodWal X = true := by
    simp only [appendB, Bool.and_eq_true] at h
    rw [h1]
    exact h.2
  have hl : X.fEntries.length = x.fEntries.length + 1 := by rw [h1]; simp
  have hc : cutB X (X.fFirst + X.fEntries.length - 1) = true := by
    rw [cutB, hg, Bool.true_and]
    exact inB_yes (by omega) (by omega)
  refine ⟨by rw [h1], by rw [h1], hg, by rw [h1]; exact termW_snoc _ _ _ _, hc, ?_⟩
  rw [cutW, if_pos hc]
  have e : X.fFirst + (X.fEntries.length : Int) - 1 = X.fFirst + (x.fEntries.length : Int) := by omega
  rw [e, takeW]
  have e2 : (X.fFirst + (x.fEntries.length : Int) - X.fFirst).toNat = x.fEntries.length := by omega
  rw [e2, h1]
  simp
theorem drop_facts {u V : DWal} {n : Int} (hV : V = dropW u n) (h : dropB u n = true) : ∃ k : Nat, k ≤ u.fEntries.length ∧ V.fFirst = u.fFirst + k ∧ V.fEntries = u.fEntries.drop k ∧ goodWal u = true ∧ goodWal V = true ∧ V.fFirst = n + 1 ∧ termW V = termW u := by
  have h0 := h
  simp only [dropB, Bool.and_eq_true, decide_eq_true_eq] at h
  obtain ⟨⟨hg, hi⟩, hn⟩ := h
  obtain ⟨i1, i2⟩ := inB_iff.1 hi
  obtain ⟨k, hk⟩ : ∃ k : Nat, (n - u.fFirst + 1).toNat = k := ⟨_, rfl⟩
  have h1 : V = restW u k := by rw [hV, dropW, if_pos h0, hk]
  have hkl : k ≤ u.fEntries.length := by omega
  have hf : V.fFirst = u.fFirst + k := by
    rw [h1, restW]
    split
    · rename_i h; rw [h]; simp
    · rfl
  have he : V.fEntries = u.fEntries.drop k := by
    rw [h1, restW]
    split
    · rename_i h; rw [h]; rfl
    · rfl
  refine ⟨k, hkl, hf, he, hg, ?_, by omega, ?_⟩
  · rw [h1, goodWal_rest hg hkl]
    simp
    omega
  · rcases Nat.eq_zero_or_pos k with h0 | h0
    · rw [h1, h0]; rfl
    · by_cases hlt : k < u.fEntries.length
      · have hvl : V.fEntries.length = u.fEntries.length - k := by rw [he, List.length_drop]
        rw [termW_some (x := V) (by omega), termW_some (x := u) (by omega)]
        congr 1
        have : ∀ (l : List DEntry) (hl : l = u.fEntries.drop k) (h3 : l.length - 1 < l.length), l[l.length - 1] = u.fEntries[u.fEntries.length - 1]'(by omega) := by
          intro l hl h3
          subst hl
          rw [List.getElem_drop]
          congr 1
          rw [List.length_drop]
          omega
        exact this _ he _
      · have hke : k = u.fEntries.length := by omega
        have hvl : V.fEntries.length = 0 := by rw [he, List.length_drop]; omega
        rw [termW_none hvl, termW_some (x := u) (by omega), h1, restW, if_neg (by omega)]
        show ((u.fEntries[k - 1]?).map (·.fTerm)).getD 0 = _
        subst hke
        rw [List.getElem?_eq_getElem (by omega)]
        rfl
theorem entL_calls (X : DWal) (y : DEntry) (v2 : Value) (w : World) (hg : goodWal X = true) (es : List DEntry) (he : X.fEntries = es ++ [y]) (g2 : kEntry.S w X.fEntries v2) : Calls Try.prog 9 #[.agg #[.int .i64 X.fFirst, .int .i64 X.fBefore, v2], .int .i64 (X.fFirst + X.fEntries.length - 1)] w
    fun e w' => e = .returned (.tuple #[.agg #[.int .i64 y.fTerm, .string y.fData], .bool true]) ∧ Below w.heap.size w w' := by
  have hl : X.fEntries.length = es.length + 1 := by rw [he]; simp
  have h := entryAt_calls X es.length v2 w hg (by omega) g2
  have e1 : X.fFirst + ((es.length : Nat) : Int) = X.fFirst + X.fEntries.length - 1 := by omega
  have e2 : ∀ (l : List DEntry) (hl : l = es ++ [y]) (h3 : es.length < l.length), l[es.length] = y := by
    intro l hl h3
    subst hl
    simp
  rw [e1, e2 _ he] at h
  exact h
theorem drop_at {u V : DWal} {k j : Nat} (he : V.fEntries = u.fEntries.drop k) (hj : j < V.fEntries.length) (hk : k + j < u.fEntries.length) : V.fEntries[j] = u.fEntries[k + j] := by
  have : ∀ (l : List DEntry) (hl : l = u.fEntries.drop k) (h3 : j < l.length), l[j] = u.fEntries[k + j] := by
    intro l hl h3
    subst hl
    rw [List.getElem_drop]
  exact this _ he hj
end Go.Proofs.Ytjigbmgfjmghcaa
