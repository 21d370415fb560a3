/- The laws' own functions, all in one form. -/
import Derived.Test.YthnjcolbdoaabaaC2
namespace Go.Proofs.Ythnjcolbdoaabaa
open Go Go.RowKit Go.Sort
set_option linter.unusedVariables false
set_option linter.unusedSimpArgs false

def smLead (n : Nat) (x : DLead) : Prop := True
theorem szLead_sm {n : Nat} {x : DLead} (h : szNLead x ≤ n) : smLead n x := trivial
theorem eqLead_k {x : DLead} {cs ds : List Value} {w : World} (hk : kLead.K w x cs) (hd : kLead.K w x ds) (hs : smLead 140737488355328 x) : Calls Try.prog 95 #[.agg cs.toArray, .agg ds.toArray] w
    fun e w' => e = .returned (.bool true) ∧ Below w.heap.size w w' := by
  obtain rfl := kLead_K hk
  obtain rfl := kLead_K hd
  exact eqLead_calls x w
theorem toLead_k {x : DLead} {cs : List Value} {w : World} (hk : kLead.K w x cs) (hs : smLead 1048576 x) : Calls Try.prog 127 #[.agg cs.toArray] w
    fun e w' => ∃ ds F, e = .returned (.agg ds.toArray) ∧ kLead.M w' F x ds ∧ (∀ b ∈ F, w.heap.size ≤ b) ∧ F.Nodup ∧ Below w.heap.size w w' := by
  obtain rfl := kLead_K hk
  refine (toLead_calls x w).mono ?_
  rintro e w' ⟨rfl, hb⟩
  exact ⟨_, [], rfl, kLead_mk w' x, by simp, by simp, hb⟩

def kLeadS : Rp (List DLead) := Rp.slice 109 kLead
theorem kLeadS_read {w : World} {xs : List DLead} {cs : List Value} (h : kLeadS.K w xs cs) : ∃ v, cs = [v] ∧ kLead.S w xs v := by
  obtain ⟨A, c, rfl, h1, h2⟩ := h
  exact ⟨_, rfl, A, c, rfl, h1, h2⟩
theorem kLeadS_open {w : World} {F : List Nat} {xs : List DLead} {cs : List Value} (h : kLeadS.M w F xs cs) : ∃ v, cs = [v] ∧ kLead.Row 109 w F xs v := h
theorem kLeadS_make {w : World} {F : List Nat} {xs : List DLead} {v : Value} (h : kLead.Row 109 w F xs v) : kLeadS.M w F xs [v] := ⟨v, rfl, h⟩
def szNLeadS (x : List DLead) : Nat := szL szNLead x
def wfLeadS (x : List DLead) : Prop := (∀ y ∈ x, wfLead y) ∧ x.length ≤ 140737488355328
def smLeadS (n : Nat) (x : List DLead) : Prop := x.length ≤ n
def mkLeadS (x : List DLead) (k : Int) : List DLead × Int := mkL mkLead x k
theorem mkLeadS_le (x : List DLead) (k : Int) : k ≤ (mkLeadS x k).2 := mkL_le mkLead_le x k
theorem smLeadS_le {n m : Nat} {x : List DLead} (h : smLeadS n x) (hn : n ≤ m) : smLeadS m x := Nat.le_trans h hn
theorem szLeadS_sm {n : Nat} {x : List DLead} (h : szNLeadS x ≤ n) : smLeadS n x := by unfold szNLeadS szL at h; unfold smLeadS; omega
theorem mkLeadS_sm {n : Nat} {x : List DLead} {k : Int} (h : smLeadS n x) : (mkLeadS x k).2 ≤ k + 2 * n := by
  have h1 := mkL_top (mk := mkLead) (c := 2) (fun _ _ => Int.le_refl _) x k
  unfold smLeadS at h
  unfold mkLeadS
  omega
theorem szLeadS_k {x : List DLead} {v : Value} {left : Int} {w : World} (hk : kLeadS.K w x [v]) (h0 : 0 ≤ left) (h1 : left ≤ 140737488355328) (hw : wfLeadS x) : Calls Try.prog 87 #[v, .int .i64 left] w
    fun e w' => e = .returned (.int .i64 (szR (szNLeadS x) left)) ∧ Below w.heap.size w w' := by
  obtain ⟨_, h, g⟩ := kLeadS_read hk
  obtain rfl := (List.cons.inj h).1
  exact szLeadS_calls x left v w g h0 h1 hw.1 hw.2
theorem eqLeadS_k {x : List DLead} {v u : Value} {w : World} (hk : kLeadS.K w x [v]) (hd : kLeadS.K w x [u]) (hs : smLeadS 140737488355328 x) : Calls Try.prog 37 #[v, u] w
    fun e w' => e = .returned (.bool true) ∧ Below w.heap.size w w' := by
  obtain ⟨_, h, g⟩ := kLeadS_read hk
  obtain rfl := (List.cons.inj h).1
  obtain ⟨_, h, d⟩ := kLeadS_read hd
  obtain rfl := (List.cons.inj h).1
  exact eqLeadS_calls x v u w g d hs
theorem toLeadS_k {x : List DLead} {v : Value} {w : World} (hk : kLeadS.K w x [v]) (hs : smLeadS 1048576 x) : Calls Try.prog 90 #[v] w
    fun e w' => ∃ u F, e = .returned u ∧ kLeadS.M w' F x [u] ∧ (∀ b ∈ F, w.heap.size ≤ b) ∧ F.Nodup ∧ Below w.heap.size w w' := by
  obtain ⟨_, h, g⟩ := kLeadS_read hk
  obtain rfl := (List.cons.inj h).1
  refine (toLeadS_calls x v w g hs).mono ?_
  rintro e w' ⟨u, F, rfl, h1, h2, h3, h4⟩
  exact ⟨_, _, rfl, ⟨_, rfl, h1⟩, h2, h3, h4⟩
theorem markLeadS_k {x : List DLead} {v : Value} {F : List Nat} {k : Int} {w : World} (hm : kLeadS.M w F x [v]) (hn : F.Nodup) (h0 : 0 ≤ k) (h1 : (mkLeadS x k).2 ≤ 4611686018427387904) (hs : smLeadS 140737488355328 x) : Calls Try.prog 40 #[v, .int .i64 k] w
    fun e w' => e = .returned (.int .i64 (mkLeadS x k).2) ∧ kLeadS.M w' F (mkLeadS x k).1 [v] ∧ KeptF F w w' := by
  obtain ⟨_, h, g⟩ := kLeadS_open hm
  obtain rfl := (List.cons.inj h).1
  refine (markLeadS_calls x k F v w g hn h0 h1 hs).mono ?_
  rintro e w' ⟨rfl, h1, h2⟩
  exact ⟨rfl, ⟨_, rfl, h1⟩, h2⟩
theorem heldLeadS_k {x : List DLead} {v : Value} {k : Int} {w : World} (hk : kLeadS.K w (mkLeadS x k).1 [v]) (h0 : 0 ≤ k) (h1 : (mkLeadS x k).2 ≤ 4611686018427387904) (hs : smLeadS 140737488355328 x) : Calls Try.prog 41 #[v, .int .i64 k] w
    fun e w' => e = .returned (.int .i64 (mkLeadS x k).2) ∧ Below w.heap.size w w' := by
  obtain ⟨_, h, g⟩ := kLeadS_read hk
  obtain rfl := (List.cons.inj h).1
  exact heldLeadS_calls x k v w g h0 h1 hs

def smCluster (n : Nat) (x : DCluster) : Prop := smRaftNodeS n x.fNodes ∧ smRaftMsgS n x.fNet ∧ x.fLeads.length ≤ n
theorem smCluster_le {n m : Nat} {x : DCluster} (h : smCluster n x) (hn : n ≤ m) : smCluster m x := ⟨smRaftNodeS_le h.1 hn, smRaftMsgS_le h.2.1 hn, Nat.le_trans h.2.2 hn⟩
theorem szCluster_sm {n : Nat} {x : DCluster} (h : szNCluster x ≤ n) : smCluster n x := by
  unfold szNCluster at h
  refine ⟨?_, ?_, ?_⟩
  · exact szRaftNodeS_sm (by unfold szNRaftNodeS; omega)
  · exact szRaftMsgS_sm (by unfold szNRaftMsgS; omega)
  · unfold szL at h; omega
theorem szCluster_k {x : DCluster} {cs : List Value} {left : Int} {w : World} (hk : kCluster.K w x cs) (h0 : 0 ≤ left) (h1 : left ≤ 140737488355328) (hw : wfCluster x) : Calls Try.prog 33 #[.agg cs.toArray, .int .i64 left] w
    fun e w' => e = .returned (.int .i64 (szR (szNCluster x) left)) ∧ Below w.heap.size w w' := by
  obtain ⟨v0, v1, v2, rfl, g0, g1, g2⟩ := kCluster_read hk
  exact szCluster_calls x v0 v1 v2 left w g0 g1 g2 h0 h1 hw
theorem eqCluster_k {x : DCluster} {cs ds : List Value} {w : World} (hk : kCluster.K w x cs) (hd : kCluster.K w x ds) (hs : smCluster 140737488355328 x) : Calls Try.prog 38 #[.agg cs.toArray, .agg ds.toArray] w
    fun e w' => e = .returned (.bool true) ∧ Below w.heap.size w w' := by
  obtain ⟨v0, v1, v2, rfl, g0, g1, g2⟩ := kCluster_read hk
  obtain ⟨u0, u1, u2, rfl, d0, d1, d2⟩ := kCluster_read hd
  exact eqCluster_calls x v0 v1 v2 u0 u1 u2 w g0 g1 g2 d0 d1 d2 hs
theorem toCluster_k {x : DCluster} {cs : List Value} {w : World} (hk : kCluster.K w x cs) (hs : smCluster 1048576 x) : Calls Try.prog 35 #[.agg cs.toArray] w
    fun e w' => ∃ ds F, e = .returned (.agg ds.toArray) ∧ kCluster.M w' F x ds ∧ (∀ b ∈ F, w.heap.size ≤ b) ∧ F.Nodup ∧ Below w.heap.size w w' := by
  obtain ⟨v0, v1, v2, rfl, g0, g1, g2⟩ := kCluster_read hk
  exact toCluster_calls x v0 v1 v2 w g0 g1 g2 hs

end Go.Proofs.Ythnjcolbdoaabaa
