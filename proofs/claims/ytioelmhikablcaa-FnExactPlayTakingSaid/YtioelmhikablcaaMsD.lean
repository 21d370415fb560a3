/- What is missing. -/
import Derived.Test.YtioelmhikablcaaMsC
namespace Go.Proofs.Ytioelmhikablcaa
open Go Go.RowKit Go.Sort
set_option linter.unusedVariables false
set_option linter.unusedSimpArgs false

def miV (ws : List DWanted) (xs : List DChunk) : List DChunk := if tkOk ws xs then misA ws xs ws.length else []
theorem tk_open {ws : List DWanted} {xs : List DChunk} (h : tkOk ws xs = true) : (ws.length ≤ 12 ∧ ∀ m ∈ ws, wantB m = false) ∧ xs.length ≤ 200 ∧ Ord xs ∧ ∀ z ∈ xs, chGood ws z = true := by
  rw [tkOk, Bool.and_eq_true, Bool.and_eq_true, decide_eq_true_eq] at h
  have g := got_ord xs none h.2
  exact ⟨wantOk_le h.1.1, h.1.2, g.1, g.2.2⟩
theorem miV_sm {ws : List DWanted} {xs : List DChunk} {k : Nat} (hk : 1000 ≤ k) : smChunkS k (miV ws xs) := by
  unfold smChunkS miV
  split
  · rename_i h
    have h1 := (tk_open h).1
    have := misA_len ws xs h1.2 ws.length
    omega
  · exact Nat.zero_le _
end Go.Proofs.Ytioelmhikablcaa
