/- Playing pieces: both in one form. -/
import Derived.Test.YtioelmhikablcaaPlD
import Derived.Test.YtioelmhikablcaaIntK
namespace Go.Proofs.Ytioelmhikablcaa
open Go Go.RowKit Go.Sort
set_option linter.unusedVariables false

theorem iPlayTaking_k {x : List ByteArray} {y z : List Int} {v0 v1 v2 : Value} {w : World} (k0 : kStringS.K w x [v0]) (h0 : wfStringS x) (s0 : smStringS 1048576 x) (k1 : kIntS.K w y [v1]) (h1 : wfIntS y) (s1 : smIntS 1048576 y) (k2 : kIntS.K w z [v2]) (h2 : wfIntS z) (s2 : smIntS 1048576 z) : Calls Try.prog 31 #[v0, v1, v2] w
    fun e w' => ∃ v F, e = .returned (.tuple #[v, .int .i64 (plM x y z), .bool (plOk x y z)]) ∧ kStringS.M w' F (plV x y z) [v] ∧ (∀ b ∈ F, w.heap.size ≤ b) ∧ F.Nodup ∧ Below w.heap.size w w' := by
  obtain ⟨_, e0, g0⟩ := kStringS_read k0
  obtain rfl := (List.cons.inj e0).1
  obtain ⟨_, e1, g1⟩ := kIntS_read k1
  obtain rfl := (List.cons.inj e1).1
  obtain ⟨_, e2, g2⟩ := kIntS_read k2
  obtain rfl := (List.cons.inj e2).1
  refine (iPlay_calls x y z v0 v1 v2 w g0 g1 g2 s0 s1 s2).mono ?_
  rintro e w' ⟨v, rfl, F, h1, h2, h3, h4⟩
  exact ⟨v, F, rfl, kStringS_make h1, h2, h3, h4⟩
theorem sPlayTaking_k {x : List ByteArray} {y z : List Int} {v0 v1 v2 : Value} {w : World} (k0 : kStringS.K w x [v0]) (h0 : wfStringS x) (s0 : smStringS 1048576 x) (k1 : kIntS.K w y [v1]) (h1 : wfIntS y) (s1 : smIntS 1048576 y) (k2 : kIntS.K w z [v2]) (h2 : wfIntS z) (s2 : smIntS 1048576 z) : Calls Try.prog 28 #[v0, v1, v2] w
    fun e w' => ∃ v F, e = .returned (.tuple #[v, .int .i64 (plM x y z), .bool (plOk x y z)]) ∧ kStringS.M w' F (plV x y z) [v] ∧ (∀ b ∈ F, w.heap.size ≤ b) ∧ F.Nodup ∧ Below w.heap.size w w' := by
  obtain ⟨_, e0, g0⟩ := kStringS_read k0
  obtain rfl := (List.cons.inj e0).1
  obtain ⟨_, e1, g1⟩ := kIntS_read k1
  obtain rfl := (List.cons.inj e1).1
  obtain ⟨_, e2, g2⟩ := kIntS_read k2
  obtain rfl := (List.cons.inj e2).1
  refine (sPlay_calls x y z v0 v1 v2 w g0 g1 g2 s0 s1 s2).mono ?_
  rintro e w' ⟨v, rfl, F, h1, h2, h3, h4⟩
  exact ⟨v, F, rfl, kStringS_make h1, h2, h3, h4⟩
theorem plV_sm {x : List ByteArray} {y z : List Int} {n : Nat} (h : smStringS n x) : smStringS n (plV x y z) := by
  have h2 : x.length ≤ n := h
  unfold plV smStringS
  split
  · unfold finR
    split
    · rw [finG_len, List.length_map]; exact h2
    · exact Nat.zero_le _
  · exact Nat.zero_le _
end Go.Proofs.Ytioelmhikablcaa
