/- Finished files: the plain law of putting pieces together. -/
import Derived.Test.YtioelmhikablcaaMsD
import Derived.Test.YtioelmhikablcaaStrH
namespace Go.Proofs.Ytioelmhikablcaa
open Go Go.RowKit Go.Sort
set_option linter.unusedVariables false
set_option linter.unusedSimpArgs false

/-- The files behind k pieces. -/
def finG (n : Nat) (xs : List DChunk) : Nat → List ByteArray
  | 0 => List.replicate n ⟨#[]⟩
  | k + 1 => match xs[k]? with
    | some z => (finG n xs k).set z.fFile.toNat ((finG n xs k).getD z.fFile.toNat ⟨#[]⟩ ++ z.fData)
    | none => finG n xs k
theorem finG_succ {n : Nat} {xs : List DChunk} {k : Nat} (h : k < xs.length) : finG n xs (k + 1) = (finG n xs k).set xs[k].fFile.toNat ((finG n xs k).getD xs[k].fFile.toNat ⟨#[]⟩ ++ xs[k].fData) := by
  rw [finG, List.getElem?_eq_getElem h]
theorem finG_len (n : Nat) (xs : List DChunk) : ∀ k, (finG n xs k).length = n
  | 0 => by simp [finG]
  | k + 1 => by
    rw [finG]
    split
    · rw [List.length_set, finG_len n xs k]
    · exact finG_len n xs k
/-- Each file is short. -/
theorem finG_size (n : Nat) (xs : List DChunk) (h : ∀ z ∈ xs, z.fData.size ≤ 64) : ∀ k i, ((finG n xs k).getD i ⟨#[]⟩).size ≤ 64 * k
  | 0, i => by
    have : (finG n xs 0).getD i ⟨#[]⟩ = ⟨#[]⟩ := by
      by_cases hi : i < n <;> simp [finG, List.getD, hi]
    rw [this]
    decide
  | k + 1, i => by
    by_cases hk : k < xs.length
    · rw [finG_succ hk]
      have h1 := finG_size n xs h k
      have h2 := h _ (List.getElem_mem hk)
      by_cases hi : i < (finG n xs k).length
      · by_cases he : xs[k].fFile.toNat = i
        · subst he
          rw [List.getD, List.getElem?_set_self hi]
          have := h1 xs[k].fFile.toNat
          simp only [Option.getD_some, ByteArray.size_append]
          omega
        · rw [List.getD, List.getElem?_set_ne he]
          have := h1 i
          rw [List.getD] at this
          omega
      · rw [List.getD, List.getElem?_eq_none (by rw [List.length_set]; omega)]
        exact Nat.zero_le _
    · rw [finG, List.getElem?_eq_none (by omega)]
      have := finG_size n xs h k i
      show ((finG n xs k).getD i ⟨#[]⟩).size ≤ 64 * (k + 1)
      omega
def finSumOk (ws : List DWanted) (fs : List ByteArray) : Nat → Bool
  | 0 => true
  | k + 1 => finSumOk ws fs k && decide (sumT (fs.getD k ⟨#[]⟩) = (ws.getD k ⟨0, 0⟩).fSum)
end Go.Proofs.Ytioelmhikablcaa
