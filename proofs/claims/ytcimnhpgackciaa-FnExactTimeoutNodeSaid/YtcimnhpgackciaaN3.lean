/- The laws' own functions, all in one form. -/
import Derived.Test.YtcimnhpgackciaaN2
import Derived.Test.YtcimnhpgackciaaKitB
namespace Go.Proofs.Ytcimnhpgackciaa
open Go Go.RowKit Go.Sort
set_option linter.unusedVariables false
set_option linter.unusedSimpArgs false

def smEntry (n : Nat) (x : DEntry) : Prop := True
theorem szEntry_sm {n : Nat} {x : DEntry} (h : szNEntry x ≤ n) : smEntry n x := trivial
theorem szEntry_k {x : DEntry} {cs : List Value} {left : Int} {w : World} (hk : kEntry.K w x cs) (h0 : 0 ≤ left) (h1 : left ≤ 140737488355328) (hw : wfEntry x) : Calls Try.prog 33 #[.agg cs.toArray, .int .i64 left] w
    fun e w' => e = .returned (.int .i64 (szR (szNEntry x) left)) ∧ Below w.heap.size w w' := by
  obtain rfl := kEntry_K hk
  exact szEntry_calls x left w h0 h1 hw
theorem eqEntry_k {x : DEntry} {cs ds : List Value} {w : World} (hk : kEntry.K w x cs) (hd : kEntry.K w x ds) (hs : smEntry 140737488355328 x) : Calls Try.prog 48 #[.agg cs.toArray, .agg ds.toArray] w
    fun e w' => e = .returned (.bool true) ∧ Below w.heap.size w w' := by
  obtain rfl := kEntry_K hk
  obtain rfl := kEntry_K hd
  exact eqEntry_calls x w
theorem toEntry_k {x : DEntry} {cs : List Value} {w : World} (hk : kEntry.K w x cs) (hs : smEntry 1048576 x) : Calls Try.prog 39 #[.agg cs.toArray] w
    fun e w' => ∃ ds F, e = .returned (.agg ds.toArray) ∧ kEntry.M w' F x ds ∧ (∀ b ∈ F, w.heap.size ≤ b) ∧ F.Nodup ∧ Below w.heap.size w w' := by
  obtain rfl := kEntry_K hk
  refine (toEntry_calls x w).mono ?_
  rintro e w' ⟨rfl, hb⟩
  exact ⟨_, [], rfl, kEntry_mk w' x, by simp, by simp, hb⟩

def smRaftMsg (n : Nat) (x : DRaftMsg) : Prop := x.fEntries.length ≤ n
theorem smRaftMsg_le {n m : Nat} {x : DRaftMsg} (h : smRaftMsg n x) (hn : n ≤ m) : smRaftMsg m x := by unfold smRaftMsg at *; omega
theorem szRaftMsg_sm {n : Nat} {x : DRaftMsg} (h : szNRaftMsg x ≤ n) : smRaftMsg n x := by unfold szNRaftMsg szL at h; unfold smRaftMsg; omega
theorem eqRaftMsg_k {x : DRaftMsg} {cs ds : List Value} {w : World} (hk : kRaftMsg.K w x cs) (hd : kRaftMsg.K w x ds) (hs : smRaftMsg 140737488355328 x) : Calls Try.prog 28 #[.agg cs.toArray, .agg ds.toArray] w
    fun e w' => e = .returned (.bool true) ∧ Below w.heap.size w w' := by
  obtain ⟨v6, rfl, g6⟩ := kRaftMsg_read hk
  obtain ⟨u6, rfl, d6⟩ := kRaftMsg_read hd
  exact eqRaftMsg_calls x v6 u6 w g6 d6 hs
theorem mkRaftMsg_sm {n : Nat} {x : DRaftMsg} {k : Int} (h : smRaftMsg n x) : (mkRaftMsg x k).2 ≤ k + 2 * n := by
  have l6 : x.fEntries.length ≤ n := h
  have h6 := mkL_top (mk := mkEntry) (c := 2) (fun _ _ => Int.le_refl _) x.fEntries (k)
  simp only [mkRaftMsg]
  omega

def smRaftNode (n : Nat) (x : DRaftNode) : Prop := x.fLog.length ≤ n ∧ x.fVotes.length ≤ n ∧ x.fMatch.length ≤ n
theorem smRaftNode_le {n m : Nat} {x : DRaftNode} (h : smRaftNode n x) (hn : n ≤ m) : smRaftNode m x := by unfold smRaftNode at *; omega
theorem szRaftNode_sm {n : Nat} {x : DRaftNode} (h : szNRaftNode x ≤ n) : smRaftNode n x := by unfold szNRaftNode szL at h; unfold smRaftNode; omega
theorem szRaftNode_k {x : DRaftNode} {cs : List Value} {left : Int} {w : World} (hk : kRaftNode.K w x cs) (h0 : 0 ≤ left) (h1 : left ≤ 140737488355328) (hw : wfRaftNode x) : Calls Try.prog 4 #[.agg cs.toArray, .int .i64 left] w
    fun e w' => e = .returned (.int .i64 (szR (szNRaftNode x) left)) ∧ Below w.heap.size w w' := by
  obtain ⟨v4, v7, v8, rfl, g4, g7, g8⟩ := kRaftNode_read hk
  exact szRaftNode_calls x v4 v7 v8 left w g4 g7 g8 h0 h1 hw
theorem eqRaftNode_k {x : DRaftNode} {cs ds : List Value} {w : World} (hk : kRaftNode.K w x cs) (hd : kRaftNode.K w x ds) (hs : smRaftNode 140737488355328 x) : Calls Try.prog 8 #[.agg cs.toArray, .agg ds.toArray] w
    fun e w' => e = .returned (.bool true) ∧ Below w.heap.size w w' := by
  obtain ⟨v4, v7, v8, rfl, g4, g7, g8⟩ := kRaftNode_read hk
  obtain ⟨u4, u7, u8, rfl, d4, d7, d8⟩ := kRaftNode_read hd
  exact eqRaftNode_calls x v4 v7 v8 u4 u7 u8 w g4 g7 g8 d4 d7 d8 hs
theorem toRaftNode_k {x : DRaftNode} {cs : List Value} {w : World} (hk : kRaftNode.K w x cs) (hs : smRaftNode 1048576 x) : Calls Try.prog 6 #[.agg cs.toArray] w
    fun e w' => ∃ ds F, e = .returned (.agg ds.toArray) ∧ kRaftNode.M w' F x ds ∧ (∀ b ∈ F, w.heap.size ≤ b) ∧ F.Nodup ∧ Below w.heap.size w w' := by
  obtain ⟨v4, v7, v8, rfl, g4, g7, g8⟩ := kRaftNode_read hk
  exact toRaftNode_calls x v4 v7 v8 w g4 g7 g8 hs
theorem markRaftNode_k {x : DRaftNode} {cs : List Value} {F : List Nat} {k : Int} {w : World} (hm : kRaftNode.M w F x cs) (hn : F.Nodup) (h0 : 0 ≤ k) (h1 : (mkRaftNode x k).2 ≤ 4611686018427387904) (hs : smRaftNode 140737488355328 x) : Calls Try.prog 10 #[.agg cs.toArray, .int .i64 k] w
    fun e w' => e = .returned (.int .i64 (mkRaftNode x k).2) ∧ kRaftNode.M w' F (mkRaftNode x k).1 cs ∧ KeptF F w w' := by
  obtain ⟨v4, v7, v8, F4, F7, F8, rfl, rfl, r4, r7, r8⟩ := kRaftNode_open hm
  refine (markRaftNode_calls x v4 v7 v8 _ _ _ k w r4 r7 r8 hn h0 h1 hs).mono ?_
  rintro e w' ⟨rfl, q4, q7, q8, hk⟩
  exact ⟨rfl, kRaftNode_make q4 q7 q8, hk⟩
theorem heldRaftNode_k {x : DRaftNode} {cs : List Value} {k : Int} {w : World} (hk : kRaftNode.K w (mkRaftNode x k).1 cs) (h0 : 0 ≤ k) (h1 : (mkRaftNode x k).2 ≤ 4611686018427387904) (hs : smRaftNode 140737488355328 x) : Calls Try.prog 12 #[.agg cs.toArray, .int .i64 k] w
    fun e w' => e = .returned (.int .i64 (mkRaftNode x k).2) ∧ Below w.heap.size w w' := by
  obtain ⟨v4, v7, v8, rfl, g4, g7, g8⟩ := kRaftNode_read hk
  exact heldRaftNode_calls x v4 v7 v8 k w g4 g7 g8 h0 h1 hs
theorem mkRaftNode_sm {n : Nat} {x : DRaftNode} {k : Int} (h : smRaftNode n x) : (mkRaftNode x k).2 ≤ k + 4 * n := by
  obtain ⟨l4, l7, l8⟩ := h
  have h4 := mkL_top (mk := mkEntry) (c := 2) (fun _ _ => Int.le_refl _) x.fLog (k)
  have h7 := mkL_top (mk := mkInt) (c := 1) (fun _ _ => Int.le_refl _) x.fVotes ((mkL mkEntry x.fLog (k)).2)
  have h8 := mkL_top (mk := mkInt) (c := 1) (fun _ _ => Int.le_refl _) x.fMatch ((mkL mkInt x.fVotes ((mkL mkEntry x.fLog (k)).2)).2)
  simp only [mkRaftNode]
  omega

def kEntryS : Rp (List DEntry) := Rp.slice 59 kEntry
theorem kEntryS_read {w : World} {xs : List DEntry} {cs : List Value} (h : kEntryS.K w xs cs) : ∃ v, cs = [v] ∧ kEntry.S w xs v := by
  obtain ⟨A, c, rfl, h1, h2⟩ := h
  exact ⟨_, rfl, A, c, rfl, h1, h2⟩
theorem kEntryS_open {w : World} {F : List Nat} {xs : List DEntry} {cs : List Value} (h : kEntryS.M w F xs cs) : ∃ v, cs = [v] ∧ kEntry.Row 59 w F xs v := h
theorem kEntryS_make {w : World} {F : List Nat} {xs : List DEntry} {v : Value} (h : kEntry.Row 59 w F xs v) : kEntryS.M w F xs [v] := ⟨v, rfl, h⟩
def szNEntryS (x : List DEntry) : Nat := szL szNEntry x
def wfEntryS (x : List DEntry) : Prop := (∀ y ∈ x, wfEntry y) ∧ x.length ≤ 140737488355328
def smEntryS (n : Nat) (x : List DEntry) : Prop := x.length ≤ n
def mkEntryS (x : List DEntry) (k : Int) : List DEntry × Int := mkL mkEntry x k
theorem mkEntryS_le (x : List DEntry) (k : Int) : k ≤ (mkEntryS x k).2 := mkL_le mkEntry_le x k
theorem smEntryS_le {n m : Nat} {x : List DEntry} (h : smEntryS n x) (hn : n ≤ m) : smEntryS m x := Nat.le_trans h hn
theorem szEntryS_sm {n : Nat} {x : List DEntry} (h : szNEntryS x ≤ n) : smEntryS n x := by unfold szNEntryS szL at h; unfold smEntryS; omega
theorem mkEntryS_sm {n : Nat} {x : List DEntry} {k : Int} (h : smEntryS n x) : (mkEntryS x k).2 ≤ k + 2 * n := by
  have h1 := mkL_top (mk := mkEntry) (c := 2) (fun _ _ => Int.le_refl _) x k
  unfold smEntryS at h
  unfold mkEntryS
  omega
theorem szEntryS_k {x : List DEntry} {v : Value} {left : Int} {w : World} (hk : kEntryS.K w x [v]) (h0 : 0 ≤ left) (h1 : left ≤ 140737488355328) (hw : wfEntryS x) : Calls Try.prog 14 #[v, .int .i64 left] w
    fun e w' => e = .returned (.int .i64 (szR (szNEntryS x) left)) ∧ Below w.heap.size w w' := by
  obtain ⟨_, h, g⟩ := kEntryS_read hk
  obtain rfl := (List.cons.inj h).1
  exact szEntryS_calls x left v w g h0 h1 hw.1 hw.2
theorem eqEntryS_k {x : List DEntry} {v u : Value} {w : World} (hk : kEntryS.K w x [v]) (hd : kEntryS.K w x [u]) (hs : smEntryS 140737488355328 x) : Calls Try.prog 26 #[v, u] w
    fun e w' => e = .returned (.bool true) ∧ Below w.heap.size w w' := by
  obtain ⟨_, h, g⟩ := kEntryS_read hk
  obtain rfl := (List.cons.inj h).1
  obtain ⟨_, h, d⟩ := kEntryS_read hd
  obtain rfl := (List.cons.inj h).1
  exact eqEntryS_calls x v u w g d hs
theorem toEntryS_k {x : List DEntry} {v : Value} {w : World} (hk : kEntryS.K w x [v]) (hs : smEntryS 1048576 x) : Calls Try.prog 20 #[v] w
    fun e w' => ∃ u F, e = .returned u ∧ kEntryS.M w' F x [u] ∧ (∀ b ∈ F, w.heap.size ≤ b) ∧ F.Nodup ∧ Below w.heap.size w w' := by
  obtain ⟨_, h, g⟩ := kEntryS_read hk
  obtain rfl := (List.cons.inj h).1
  refine (toEntryS_calls x v w g hs).mono ?_
  rintro e w' ⟨u, F, rfl, h1, h2, h3, h4⟩
  exact ⟨_, _, rfl, ⟨_, rfl, h1⟩, h2, h3, h4⟩
theorem markEntryS_k {x : List DEntry} {v : Value} {F : List Nat} {k : Int} {w : World} (hm : kEntryS.M w F x [v]) (hn : F.Nodup) (h0 : 0 ≤ k) (h1 : (mkEntryS x k).2 ≤ 4611686018427387904) (hs : smEntryS 140737488355328 x) : Calls Try.prog 29 #[v, .int .i64 k] w
    fun e w' => e = .returned (.int .i64 (mkEntryS x k).2) ∧ kEntryS.M w' F (mkEntryS x k).1 [v] ∧ KeptF F w w' := by
  obtain ⟨_, h, g⟩ := kEntryS_open hm
  obtain rfl := (List.cons.inj h).1
  refine (markEntryS_calls x k F v w g hn h0 h1 hs).mono ?_
  rintro e w' ⟨rfl, h1, h2⟩
  exact ⟨rfl, ⟨_, rfl, h1⟩, h2⟩
theorem heldEntryS_k {x : List DEntry} {v : Value} {k : Int} {w : World} (hk : kEntryS.K w (mkEntryS x k).1 [v]) (h0 : 0 ≤ k) (h1 : (mkEntryS x k).2 ≤ 4611686018427387904) (hs : smEntryS 140737488355328 x) : Calls Try.prog 31 #[v, .int .i64 k] w
    fun e w' => e = .returned (.int .i64 (mkEntryS x k).2) ∧ Below w.heap.size w w' := by
  obtain ⟨_, h, g⟩ := kEntryS_read hk
  obtain rfl := (List.cons.inj h).1
  exact heldEntryS_calls x k v w g h0 h1 hs

def kIntS : Rp (List Int) := Rp.slice 3 kInt
theorem kIntS_read {w : World} {xs : List Int} {cs : List Value} (h : kIntS.K w xs cs) : ∃ v, cs = [v] ∧ kInt.S w xs v := by
  obtain ⟨A, c, rfl, h1, h2⟩ := h
  exact ⟨_, rfl, A, c, rfl, h1, h2⟩
theorem kIntS_open {w : World} {F : List Nat} {xs : List Int} {cs : List Value} (h : kIntS.M w F xs cs) : ∃ v, cs = [v] ∧ kInt.Row 3 w F xs v := h
theorem kIntS_make {w : World} {F : List Nat} {xs : List Int} {v : Value} (h : kInt.Row 3 w F xs v) : kIntS.M w F xs [v] := ⟨v, rfl, h⟩
def szNIntS (x : List Int) : Nat := szL (fun _ => 0) x
def wfIntS (x : List Int) : Prop := (∀ y ∈ x, (fun _ => True) y) ∧ x.length ≤ 140737488355328
def smIntS (n : Nat) (x : List Int) : Prop := x.length ≤ n
def mkIntS (x : List Int) (k : Int) : List Int × Int := mkL mkInt x k
theorem mkIntS_le (x : List Int) (k : Int) : k ≤ (mkIntS x k).2 := mkL_le mkInt_le x k
theorem smIntS_le {n m : Nat} {x : List Int} (h : smIntS n x) (hn : n ≤ m) : smIntS m x := Nat.le_trans h hn
theorem szIntS_sm {n : Nat} {x : List Int} (h : szNIntS x ≤ n) : smIntS n x := by unfold szNIntS szL at h; unfold smIntS; omega
theorem mkIntS_sm {n : Nat} {x : List Int} {k : Int} (h : smIntS n x) : (mkIntS x k).2 ≤ k + 1 * n := by
  have h1 := mkL_top (mk := mkInt) (c := 1) (fun _ _ => Int.le_refl _) x k
  unfold smIntS at h
  unfold mkIntS
  omega
theorem szIntS_k {x : List Int} {v : Value} {left : Int} {w : World} (hk : kIntS.K w x [v]) (h0 : 0 ≤ left) (h1 : left ≤ 140737488355328) (hw : wfIntS x) : Calls Try.prog 15 #[v, .int .i64 left] w
    fun e w' => e = .returned (.int .i64 (szR (szNIntS x) left)) ∧ Below w.heap.size w w' := by
  obtain ⟨_, h, g⟩ := kIntS_read hk
  obtain rfl := (List.cons.inj h).1
  exact szIntS_calls x left v w g h0 h1 hw.1 hw.2
theorem eqIntS_k {x : List Int} {v u : Value} {w : World} (hk : kIntS.K w x [v]) (hd : kIntS.K w x [u]) (hs : smIntS 140737488355328 x) : Calls Try.prog 27 #[v, u] w
    fun e w' => e = .returned (.bool true) ∧ Below w.heap.size w w' := by
  obtain ⟨_, h, g⟩ := kIntS_read hk
  obtain rfl := (List.cons.inj h).1
  obtain ⟨_, h, d⟩ := kIntS_read hd
  obtain rfl := (List.cons.inj h).1
  exact eqIntS_calls x v u w g d hs
theorem toIntS_k {x : List Int} {v : Value} {w : World} (hk : kIntS.K w x [v]) (hs : smIntS 1048576 x) : Calls Try.prog 21 #[v] w
    fun e w' => ∃ u F, e = .returned u ∧ kIntS.M w' F x [u] ∧ (∀ b ∈ F, w.heap.size ≤ b) ∧ F.Nodup ∧ Below w.heap.size w w' := by
  obtain ⟨_, h, g⟩ := kIntS_read hk
  obtain rfl := (List.cons.inj h).1
  refine (toIntS_calls x v w g hs).mono ?_
  rintro e w' ⟨u, F, rfl, h1, h2, h3, h4⟩
  exact ⟨_, _, rfl, ⟨_, rfl, h1⟩, h2, h3, h4⟩
theorem markIntS_k {x : List Int} {v : Value} {F : List Nat} {k : Int} {w : World} (hm : kIntS.M w F x [v]) (hn : F.Nodup) (h0 : 0 ≤ k) (h1 : (mkIntS x k).2 ≤ 4611686018427387904) (hs : smIntS 140737488355328 x) : Calls Try.prog 30 #[v, .int .i64 k] w
    fun e w' => e = .returned (.int .i64 (mkIntS x k).2) ∧ kIntS.M w' F (mkIntS x k).1 [v] ∧ KeptF F w w' := by
  obtain ⟨_, h, g⟩ := kIntS_open hm
  obtain rfl := (List.cons.inj h).1
  refine (markIntS_calls x k F v w g hn h0 h1 hs).mono ?_
  rintro e w' ⟨rfl, h1, h2⟩
  exact ⟨rfl, ⟨_, rfl, h1⟩, h2⟩
theorem heldIntS_k {x : List Int} {v : Value} {k : Int} {w : World} (hk : kIntS.K w (mkIntS x k).1 [v]) (h0 : 0 ≤ k) (h1 : (mkIntS x k).2 ≤ 4611686018427387904) (hs : smIntS 140737488355328 x) : Calls Try.prog 32 #[v, .int .i64 k] w
    fun e w' => e = .returned (.int .i64 (mkIntS x k).2) ∧ Below w.heap.size w w' := by
  obtain ⟨_, h, g⟩ := kIntS_read hk
  obtain rfl := (List.cons.inj h).1
  exact heldIntS_calls x k v w g h0 h1 hs

end Go.Proofs.Ytcimnhpgackciaa
