/- The laws' own functions, all in one form. -/
import Derived.Test.YtioelmhikablcaaInt
import Derived.Test.YtioelmhikablcaaKitB
namespace Go.Proofs.Ytioelmhikablcaa
open Go Go.RowKit Go.Sort
set_option linter.unusedVariables false
set_option linter.unusedSimpArgs false

def kIntS : Rp (List Int) := Rp.slice 3 kInt
theorem kIntS_read {w : World} {xs : List Int} {cs : List Value} (h : kIntS.K w xs cs) : ∃ v, cs = [v] ∧ kInt.S w xs v := by
  obtain ⟨A, c, rfl, h1, h2⟩ := h
  exact ⟨_, rfl, A, c, rfl, h1, h2⟩
theorem kIntS_open {w : World} {F : List Nat} {xs : List Int} {cs : List Value} (h : kIntS.M w F xs cs) : ∃ v, cs = [v] ∧ kInt.Row 3 w F xs v := h
theorem kIntS_make {w : World} {F : List Nat} {xs : List Int} {v : Value} (h : kInt.Row 3 w F xs v) : kIntS.M w F xs [v] := ⟨v, rfl, h⟩
def szNIntS (x : List Int) : Nat := szL (fun _ => 0) x
def wfIntS (x : List Int) : Prop := (∀ y ∈ x, (fun _ => True) y) ∧ x.length ≤ 140737488355328
def smIntS (n : Nat) (x : List Int) : Prop := x.length ≤ n
def mkIntS (x : List Int) (k : Int) : List Int × Int := mkL mkInt x k
theorem mkIntS_le (x : List Int) (k : Int) : k ≤ (mkIntS x k).2 := mkL_le mkInt_le x k
theorem smIntS_le {n m : Nat} {x : List Int} (h : smIntS n x) (hn : n ≤ m) : smIntS m x := Nat.le_trans h hn
theorem szIntS_sm {n : Nat} {x : List Int} (h : szNIntS x ≤ n) : smIntS n x := by unfold szNIntS szL at h; unfold smIntS; omega
theorem mkIntS_sm {n : Nat} {x : List Int} {k : Int} (h : smIntS n x) : (mkIntS x k).2 ≤ k + 1 * n := by
  have h1 := mkL_top (mk := mkInt) (c := 1) (fun _ _ => Int.le_refl _) x k
  unfold smIntS at h
  unfold mkIntS
  omega
theorem szIntS_k {x : List Int} {v : Value} {left : Int} {w : World} (hk : kIntS.K w x [v]) (h0 : 0 ≤ left) (h1 : left ≤ 140737488355328) (hw : wfIntS x) : Calls Try.prog 123 #[v, .int .i64 left] w
    fun e w' => e = .returned (.int .i64 (szR (szNIntS x) left)) ∧ Below w.heap.size w w' := by
  obtain ⟨_, h, g⟩ := kIntS_read hk
  obtain rfl := (List.cons.inj h).1
  exact szIntS_calls x left v w g h0 h1 hw.1 hw.2
theorem eqIntS_k {x : List Int} {v u : Value} {w : World} (hk : kIntS.K w x [v]) (hd : kIntS.K w x [u]) (hs : smIntS 140737488355328 x) : Calls Try.prog 32 #[v, u] w
    fun e w' => e = .returned (.bool true) ∧ Below w.heap.size w w' := by
  obtain ⟨_, h, g⟩ := kIntS_read hk
  obtain rfl := (List.cons.inj h).1
  obtain ⟨_, h, d⟩ := kIntS_read hd
  obtain rfl := (List.cons.inj h).1
  exact eqIntS_calls x v u w g d hs
theorem toIntS_k {x : List Int} {v : Value} {w : World} (hk : kIntS.K w x [v]) (hs : smIntS 1048576 x) : Calls Try.prog 30 #[v] w
    fun e w' => ∃ u F, e = .returned u ∧ kIntS.M w' F x [u] ∧ (∀ b ∈ F, w.heap.size ≤ b) ∧ F.Nodup ∧ Below w.heap.size w w' := by
  obtain ⟨_, h, g⟩ := kIntS_read hk
  obtain rfl := (List.cons.inj h).1
  refine (toIntS_calls x v w g hs).mono ?_
  rintro e w' ⟨u, F, rfl, h1, h2, h3, h4⟩
  exact ⟨_, _, rfl, ⟨_, rfl, h1⟩, h2, h3, h4⟩
theorem markIntS_k {x : List Int} {v : Value} {F : List Nat} {k : Int} {w : World} (hm : kIntS.M w F x [v]) (hn : F.Nodup) (h0 : 0 ≤ k) (h1 : (mkIntS x k).2 ≤ 4611686018427387904) (hs : smIntS 140737488355328 x) : Calls Try.prog 33 #[v, .int .i64 k] w
    fun e w' => e = .returned (.int .i64 (mkIntS x k).2) ∧ kIntS.M w' F (mkIntS x k).1 [v] ∧ KeptF F w w' := by
  obtain ⟨_, h, g⟩ := kIntS_open hm
  obtain rfl := (List.cons.inj h).1
  refine (markIntS_calls x k F v w g hn h0 h1 hs).mono ?_
  rintro e w' ⟨rfl, h1, h2⟩
  exact ⟨rfl, ⟨_, rfl, h1⟩, h2⟩
theorem heldIntS_k {x : List Int} {v : Value} {k : Int} {w : World} (hk : kIntS.K w (mkIntS x k).1 [v]) (h0 : 0 ≤ k) (h1 : (mkIntS x k).2 ≤ 4611686018427387904) (hs : smIntS 140737488355328 x) : Calls Try.prog 135 #[v, .int .i64 k] w
    fun e w' => e = .returned (.int .i64 (mkIntS x k).2) ∧ Below w.heap.size w w' := by
  obtain ⟨_, h, g⟩ := kIntS_read hk
  obtain rfl := (List.cons.inj h).1
  exact heldIntS_calls x k v w g h0 h1 hs

end Go.Proofs.Ytioelmhikablcaa
