/- The laws' own functions, all in one form. -/
import Derived.Test.YtiliaijgkedhnaaE1
namespace Go.Proofs.Ytiliaijgkedhnaa
open Go Go.RowKit Go.Sort
set_option linter.unusedVariables false
set_option linter.unusedSimpArgs false

def smEdit (n : Nat) (x : DEdit) : Prop := x.fDrop.length ≤ n ∧ x.fAdd.length ≤ n
theorem smEdit_le {n m : Nat} {x : DEdit} (h : smEdit n x) (hn : n ≤ m) : smEdit m x := by unfold smEdit at *; omega
theorem szEdit_sm {n : Nat} {x : DEdit} (h : szNEdit x ≤ n) : smEdit n x := by unfold szNEdit szL at h; unfold smEdit; omega
theorem szEdit_k {x : DEdit} {cs : List Value} {left : Int} {w : World} (hk : kEdit.K w x cs) (h0 : 0 ≤ left) (h1 : left ≤ 140737488355328) (hw : wfEdit x) : Calls Try.prog 5 #[.agg cs.toArray, .int .i64 left] w
    fun e w' => e = .returned (.int .i64 (szR (szNEdit x) left)) ∧ Below w.heap.size w w' := by
  obtain ⟨v2, v3, rfl, g2, g3⟩ := kEdit_read hk
  exact szEdit_calls x v2 v3 left w g2 g3 h0 h1 hw
theorem eqEdit_k {x : DEdit} {cs ds : List Value} {w : World} (hk : kEdit.K w x cs) (hd : kEdit.K w x ds) (hs : smEdit 140737488355328 x) : Calls Try.prog 11 #[.agg cs.toArray, .agg ds.toArray] w
    fun e w' => e = .returned (.bool true) ∧ Below w.heap.size w w' := by
  obtain ⟨v2, v3, rfl, g2, g3⟩ := kEdit_read hk
  obtain ⟨u2, u3, rfl, d2, d3⟩ := kEdit_read hd
  exact eqEdit_calls x v2 v3 u2 u3 w g2 g3 d2 d3 hs
theorem toEdit_k {x : DEdit} {cs : List Value} {w : World} (hk : kEdit.K w x cs) (hs : smEdit 1048576 x) : Calls Try.prog 8 #[.agg cs.toArray] w
    fun e w' => ∃ ds F, e = .returned (.agg ds.toArray) ∧ kEdit.M w' F x ds ∧ (∀ b ∈ F, w.heap.size ≤ b) ∧ F.Nodup ∧ Below w.heap.size w w' := by
  obtain ⟨v2, v3, rfl, g2, g3⟩ := kEdit_read hk
  exact toEdit_calls x v2 v3 w g2 g3 hs
theorem markEdit_k {x : DEdit} {cs : List Value} {F : List Nat} {k : Int} {w : World} (hm : kEdit.M w F x cs) (hn : F.Nodup) (h0 : 0 ≤ k) (h1 : (mkEdit x k).2 ≤ 4611686018427387904) (hs : smEdit 140737488355328 x) : Calls Try.prog 13 #[.agg cs.toArray, .int .i64 k] w
    fun e w' => e = .returned (.int .i64 (mkEdit x k).2) ∧ kEdit.M w' F (mkEdit x k).1 cs ∧ KeptF F w w' := by
  obtain ⟨v2, v3, F2, F3, rfl, rfl, r2, r3⟩ := kEdit_open hm
  refine (markEdit_calls x v2 v3 _ _ k w r2 r3 hn h0 h1 hs).mono ?_
  rintro e w' ⟨rfl, q2, q3, hk⟩
  exact ⟨rfl, kEdit_make q2 q3, hk⟩
theorem mkEdit_sm {n : Nat} {x : DEdit} {k : Int} (h : smEdit n x) : (mkEdit x k).2 ≤ k + 5 * n := by
  obtain ⟨l2, l3⟩ := h
  have h2 := mkL_top (mk := mkInt) (c := 1) (fun _ _ => Int.le_refl _) x.fDrop (k)
  have h3 := mkL_top (mk := mkMeta) (c := 4) (fun _ _ => Int.le_refl _) x.fAdd ((mkL mkInt x.fDrop (k)).2)
  simp only [mkEdit]
  omega

def kMetaS : Rp (List DMeta) := Rp.slice 52 kMeta
theorem kMetaS_read {w : World} {xs : List DMeta} {cs : List Value} (h : kMetaS.K w xs cs) : ∃ v, cs = [v] ∧ kMeta.S w xs v := by
  obtain ⟨A, c, rfl, h1, h2⟩ := h
  exact ⟨_, rfl, A, c, rfl, h1, h2⟩
theorem kMetaS_open {w : World} {F : List Nat} {xs : List DMeta} {cs : List Value} (h : kMetaS.M w F xs cs) : ∃ v, cs = [v] ∧ kMeta.Row 52 w F xs v := h
theorem kMetaS_make {w : World} {F : List Nat} {xs : List DMeta} {v : Value} (h : kMeta.Row 52 w F xs v) : kMetaS.M w F xs [v] := ⟨v, rfl, h⟩
def szNMetaS (x : List DMeta) : Nat := szL szNMeta x
def wfMetaS (x : List DMeta) : Prop := (∀ y ∈ x, wfMeta y) ∧ x.length ≤ 140737488355328
def smMetaS (n : Nat) (x : List DMeta) : Prop := x.length ≤ n
def mkMetaS (x : List DMeta) (k : Int) : List DMeta × Int := mkL mkMeta x k
theorem mkMetaS_le (x : List DMeta) (k : Int) : k ≤ (mkMetaS x k).2 := mkL_le mkMeta_le x k
theorem smMetaS_le {n m : Nat} {x : List DMeta} (h : smMetaS n x) (hn : n ≤ m) : smMetaS m x := Nat.le_trans h hn
theorem szMetaS_sm {n : Nat} {x : List DMeta} (h : szNMetaS x ≤ n) : smMetaS n x := by unfold szNMetaS szL at h; unfold smMetaS; omega
theorem mkMetaS_sm {n : Nat} {x : List DMeta} {k : Int} (h : smMetaS n x) : (mkMetaS x k).2 ≤ k + 4 * n := by
  have h1 := mkL_top (mk := mkMeta) (c := 4) (fun _ _ => Int.le_refl _) x k
  unfold smMetaS at h
  unfold mkMetaS
  omega
theorem szMetaS_k {x : List DMeta} {v : Value} {left : Int} {w : World} (hk : kMetaS.K w x [v]) (h0 : 0 ≤ left) (h1 : left ≤ 140737488355328) (hw : wfMetaS x) : Calls Try.prog 15 #[v, .int .i64 left] w
    fun e w' => e = .returned (.int .i64 (szR (szNMetaS x) left)) ∧ Below w.heap.size w w' := by
  obtain ⟨_, h, g⟩ := kMetaS_read hk
  obtain rfl := (List.cons.inj h).1
  exact szMetaS_calls x left v w g h0 h1 hw.1 hw.2
theorem eqMetaS_k {x : List DMeta} {v u : Value} {w : World} (hk : kMetaS.K w x [v]) (hd : kMetaS.K w x [u]) (hs : smMetaS 140737488355328 x) : Calls Try.prog 29 #[v, u] w
    fun e w' => e = .returned (.bool true) ∧ Below w.heap.size w w' := by
  obtain ⟨_, h, g⟩ := kMetaS_read hk
  obtain rfl := (List.cons.inj h).1
  obtain ⟨_, h, d⟩ := kMetaS_read hd
  obtain rfl := (List.cons.inj h).1
  exact eqMetaS_calls x v u w g d hs
theorem toMetaS_k {x : List DMeta} {v : Value} {w : World} (hk : kMetaS.K w x [v]) (hs : smMetaS 1048576 x) : Calls Try.prog 19 #[v] w
    fun e w' => ∃ u F, e = .returned u ∧ kMetaS.M w' F x [u] ∧ (∀ b ∈ F, w.heap.size ≤ b) ∧ F.Nodup ∧ Below w.heap.size w w' := by
  obtain ⟨_, h, g⟩ := kMetaS_read hk
  obtain rfl := (List.cons.inj h).1
  refine (toMetaS_calls x v w g hs).mono ?_
  rintro e w' ⟨u, F, rfl, h1, h2, h3, h4⟩
  exact ⟨_, _, rfl, ⟨_, rfl, h1⟩, h2, h3, h4⟩
theorem markMetaS_k {x : List DMeta} {v : Value} {F : List Nat} {k : Int} {w : World} (hm : kMetaS.M w F x [v]) (hn : F.Nodup) (h0 : 0 ≤ k) (h1 : (mkMetaS x k).2 ≤ 4611686018427387904) (hs : smMetaS 140737488355328 x) : Calls Try.prog 31 #[v, .int .i64 k] w
    fun e w' => e = .returned (.int .i64 (mkMetaS x k).2) ∧ kMetaS.M w' F (mkMetaS x k).1 [v] ∧ KeptF F w w' := by
  obtain ⟨_, h, g⟩ := kMetaS_open hm
  obtain rfl := (List.cons.inj h).1
  refine (markMetaS_calls x k F v w g hn h0 h1 hs).mono ?_
  rintro e w' ⟨rfl, h1, h2⟩
  exact ⟨rfl, ⟨_, rfl, h1⟩, h2⟩
theorem heldMetaS_k {x : List DMeta} {v : Value} {k : Int} {w : World} (hk : kMetaS.K w (mkMetaS x k).1 [v]) (h0 : 0 ≤ k) (h1 : (mkMetaS x k).2 ≤ 4611686018427387904) (hs : smMetaS 140737488355328 x) : Calls Try.prog 33 #[v, .int .i64 k] w
    fun e w' => e = .returned (.int .i64 (mkMetaS x k).2) ∧ Below w.heap.size w w' := by
  obtain ⟨_, h, g⟩ := kMetaS_read hk
  obtain rfl := (List.cons.inj h).1
  exact heldMetaS_calls x k v w g h0 h1 hs

end Go.Proofs.Ytiliaijgkedhnaa
