/- The laws' own functions, all in one form. -/
import Derived.Test.YtiliaijgkedhnaaV1
import Derived.Test.YtiliaijgkedhnaaKitB
namespace Go.Proofs.Ytiliaijgkedhnaa
open Go Go.RowKit Go.Sort
set_option linter.unusedVariables false
set_option linter.unusedSimpArgs false

def smMeta (n : Nat) (x : DMeta) : Prop := True
theorem szMeta_sm {n : Nat} {x : DMeta} (h : szNMeta x ≤ n) : smMeta n x := trivial
theorem szMeta_k {x : DMeta} {cs : List Value} {left : Int} {w : World} (hk : kMeta.K w x cs) (h0 : 0 ≤ left) (h1 : left ≤ 140737488355328) (hw : wfMeta x) : Calls Try.prog 34 #[.agg cs.toArray, .int .i64 left] w
    fun e w' => e = .returned (.int .i64 (szR (szNMeta x) left)) ∧ Below w.heap.size w w' := by
  obtain rfl := kMeta_K hk
  exact szMeta_calls x left w h0 h1 hw
theorem eqMeta_k {x : DMeta} {cs ds : List Value} {w : World} (hk : kMeta.K w x cs) (hd : kMeta.K w x ds) (hs : smMeta 140737488355328 x) : Calls Try.prog 50 #[.agg cs.toArray, .agg ds.toArray] w
    fun e w' => e = .returned (.bool true) ∧ Below w.heap.size w w' := by
  obtain rfl := kMeta_K hk
  obtain rfl := kMeta_K hd
  exact eqMeta_calls x w
theorem toMeta_k {x : DMeta} {cs : List Value} {w : World} (hk : kMeta.K w x cs) (hs : smMeta 1048576 x) : Calls Try.prog 38 #[.agg cs.toArray] w
    fun e w' => ∃ ds F, e = .returned (.agg ds.toArray) ∧ kMeta.M w' F x ds ∧ (∀ b ∈ F, w.heap.size ≤ b) ∧ F.Nodup ∧ Below w.heap.size w w' := by
  obtain rfl := kMeta_K hk
  refine (toMeta_calls x w).mono ?_
  rintro e w' ⟨rfl, hb⟩
  exact ⟨_, [], rfl, kMeta_mk w' x, by simp, by simp, hb⟩

def smVersion (n : Nat) (x : DVersion) : Prop := x.fMetas.length ≤ n
theorem smVersion_le {n m : Nat} {x : DVersion} (h : smVersion n x) (hn : n ≤ m) : smVersion m x := by unfold smVersion at *; omega
theorem szVersion_sm {n : Nat} {x : DVersion} (h : szNVersion x ≤ n) : smVersion n x := by unfold szNVersion szL at h; unfold smVersion; omega
theorem szVersion_k {x : DVersion} {cs : List Value} {left : Int} {w : World} (hk : kVersion.K w x cs) (h0 : 0 ≤ left) (h1 : left ≤ 140737488355328) (hw : wfVersion x) : Calls Try.prog 4 #[.agg cs.toArray, .int .i64 left] w
    fun e w' => e = .returned (.int .i64 (szR (szNVersion x) left)) ∧ Below w.heap.size w w' := by
  obtain ⟨v2, rfl, g2⟩ := kVersion_read hk
  exact szVersion_calls x v2 left w g2 h0 h1 hw
theorem eqVersion_k {x : DVersion} {cs ds : List Value} {w : World} (hk : kVersion.K w x cs) (hd : kVersion.K w x ds) (hs : smVersion 140737488355328 x) : Calls Try.prog 10 #[.agg cs.toArray, .agg ds.toArray] w
    fun e w' => e = .returned (.bool true) ∧ Below w.heap.size w w' := by
  obtain ⟨v2, rfl, g2⟩ := kVersion_read hk
  obtain ⟨u2, rfl, d2⟩ := kVersion_read hd
  exact eqVersion_calls x v2 u2 w g2 d2 hs
theorem toVersion_k {x : DVersion} {cs : List Value} {w : World} (hk : kVersion.K w x cs) (hs : smVersion 1048576 x) : Calls Try.prog 7 #[.agg cs.toArray] w
    fun e w' => ∃ ds F, e = .returned (.agg ds.toArray) ∧ kVersion.M w' F x ds ∧ (∀ b ∈ F, w.heap.size ≤ b) ∧ F.Nodup ∧ Below w.heap.size w w' := by
  obtain ⟨v2, rfl, g2⟩ := kVersion_read hk
  exact toVersion_calls x v2 w g2 hs
theorem markVersion_k {x : DVersion} {cs : List Value} {F : List Nat} {k : Int} {w : World} (hm : kVersion.M w F x cs) (hn : F.Nodup) (h0 : 0 ≤ k) (h1 : (mkVersion x k).2 ≤ 4611686018427387904) (hs : smVersion 140737488355328 x) : Calls Try.prog 12 #[.agg cs.toArray, .int .i64 k] w
    fun e w' => e = .returned (.int .i64 (mkVersion x k).2) ∧ kVersion.M w' F (mkVersion x k).1 cs ∧ KeptF F w w' := by
  obtain ⟨v2, F2, rfl, rfl, r2⟩ := kVersion_open hm
  refine (markVersion_calls x v2 _ k w r2 hn h0 h1 hs).mono ?_
  rintro e w' ⟨rfl, q2, hk⟩
  exact ⟨rfl, kVersion_make q2, hk⟩
theorem heldVersion_k {x : DVersion} {cs : List Value} {k : Int} {w : World} (hk : kVersion.K w (mkVersion x k).1 cs) (h0 : 0 ≤ k) (h1 : (mkVersion x k).2 ≤ 4611686018427387904) (hs : smVersion 140737488355328 x) : Calls Try.prog 14 #[.agg cs.toArray, .int .i64 k] w
    fun e w' => e = .returned (.int .i64 (mkVersion x k).2) ∧ Below w.heap.size w w' := by
  obtain ⟨v2, rfl, g2⟩ := kVersion_read hk
  exact heldVersion_calls x v2 k w g2 h0 h1 hs
theorem mkVersion_sm {n : Nat} {x : DVersion} {k : Int} (h : smVersion n x) : (mkVersion x k).2 ≤ k + 4 * n := by
  have l2 : x.fMetas.length ≤ n := h
  have h2 := mkL_top (mk := mkMeta) (c := 4) (fun _ _ => Int.le_refl _) x.fMetas (k)
  simp only [mkVersion]
  omega

def kIntS : Rp (List Int) := Rp.slice 3 kInt
theorem kIntS_read {w : World} {xs : List Int} {cs : List Value} (h : kIntS.K w xs cs) : ∃ v, cs = [v] ∧ kInt.S w xs v := by
  obtain ⟨A, c, rfl, h1, h2⟩ := h
  exact ⟨_, rfl, A, c, rfl, h1, h2⟩
theorem kIntS_open {w : World} {F : List Nat} {xs : List Int} {cs : List Value} (h : kIntS.M w F xs cs) : ∃ v, cs = [v] ∧ kInt.Row 3 w F xs v := h
theorem kIntS_make {w : World} {F : List Nat} {xs : List Int} {v : Value} (h : kInt.Row 3 w F xs v) : kIntS.M w F xs [v] := ⟨v, rfl, h⟩
def szNIntS (x : List Int) : Nat := szL (fun _ => 0) x
def wfIntS (x : List Int) : Prop := (∀ y ∈ x, (fun _ => True) y) ∧ x.length ≤ 140737488355328
def smIntS (n : Nat) (x : List Int) : Prop := x.length ≤ n
def mkIntS (x : List Int) (k : Int) : List Int × Int := mkL mkInt x k
theorem mkIntS_le (x : List Int) (k : Int) : k ≤ (mkIntS x k).2 := mkL_le mkInt_le x k
theorem smIntS_le {n m : Nat} {x : List Int} (h : smIntS n x) (hn : n ≤ m) : smIntS m x := Nat.le_trans h hn
theorem szIntS_sm {n : Nat} {x : List Int} (h : szNIntS x ≤ n) : smIntS n x := by unfold szNIntS szL at h; unfold smIntS; omega
theorem mkIntS_sm {n : Nat} {x : List Int} {k : Int} (h : smIntS n x) : (mkIntS x k).2 ≤ k + 1 * n := by
  have h1 := mkL_top (mk := mkInt) (c := 1) (fun _ _ => Int.le_refl _) x k
  unfold smIntS at h
  unfold mkIntS
  omega
theorem szIntS_k {x : List Int} {v : Value} {left : Int} {w : World} (hk : kIntS.K w x [v]) (h0 : 0 ≤ left) (h1 : left ≤ 140737488355328) (hw : wfIntS x) : Calls Try.prog 16 #[v, .int .i64 left] w
    fun e w' => e = .returned (.int .i64 (szR (szNIntS x) left)) ∧ Below w.heap.size w w' := by
  obtain ⟨_, h, g⟩ := kIntS_read hk
  obtain rfl := (List.cons.inj h).1
  exact szIntS_calls x left v w g h0 h1 hw.1 hw.2
theorem eqIntS_k {x : List Int} {v u : Value} {w : World} (hk : kIntS.K w x [v]) (hd : kIntS.K w x [u]) (hs : smIntS 140737488355328 x) : Calls Try.prog 30 #[v, u] w
    fun e w' => e = .returned (.bool true) ∧ Below w.heap.size w w' := by
  obtain ⟨_, h, g⟩ := kIntS_read hk
  obtain rfl := (List.cons.inj h).1
  obtain ⟨_, h, d⟩ := kIntS_read hd
  obtain rfl := (List.cons.inj h).1
  exact eqIntS_calls x v u w g d hs
theorem toIntS_k {x : List Int} {v : Value} {w : World} (hk : kIntS.K w x [v]) (hs : smIntS 1048576 x) : Calls Try.prog 20 #[v] w
    fun e w' => ∃ u F, e = .returned u ∧ kIntS.M w' F x [u] ∧ (∀ b ∈ F, w.heap.size ≤ b) ∧ F.Nodup ∧ Below w.heap.size w w' := by
  obtain ⟨_, h, g⟩ := kIntS_read hk
  obtain rfl := (List.cons.inj h).1
  refine (toIntS_calls x v w g hs).mono ?_
  rintro e w' ⟨u, F, rfl, h1, h2, h3, h4⟩
  exact ⟨_, _, rfl, ⟨_, rfl, h1⟩, h2, h3, h4⟩
theorem markIntS_k {x : List Int} {v : Value} {F : List Nat} {k : Int} {w : World} (hm : kIntS.M w F x [v]) (hn : F.Nodup) (h0 : 0 ≤ k) (h1 : (mkIntS x k).2 ≤ 4611686018427387904) (hs : smIntS 140737488355328 x) : Calls Try.prog 32 #[v, .int .i64 k] w
    fun e w' => e = .returned (.int .i64 (mkIntS x k).2) ∧ kIntS.M w' F (mkIntS x k).1 [v] ∧ KeptF F w w' := by
  obtain ⟨_, h, g⟩ := kIntS_open hm
  obtain rfl := (List.cons.inj h).1
  refine (markIntS_calls x k F v w g hn h0 h1 hs).mono ?_
  rintro e w' ⟨rfl, h1, h2⟩
  exact ⟨rfl, ⟨_, rfl, h1⟩, h2⟩
end Go.Proofs.Ytiliaijgkedhnaa
