/- The laws' own functions, all in one form. -/
import Derived.Test.YtfcodelfgjnkhaaG6b
import Derived.Test.YtfcodelfgjnkhaaKitB
namespace Go.Proofs.Ytfcodelfgjnkhaa
open Go Go.RowKit Go.Sort
set_option linter.unusedVariables false
set_option linter.unusedSimpArgs false

def smPair (n : Nat) (x : DPair) : Prop := True
theorem szPair_sm {n : Nat} {x : DPair} (h : szNPair x ≤ n) : smPair n x := trivial
theorem szPair_k {x : DPair} {cs : List Value} {left : Int} {w : World} (hk : kPair.K w x cs) (h0 : 0 ≤ left) (h1 : left ≤ 140737488355328) (hw : wfPair x) : Calls Try.prog 93 #[.agg cs.toArray, .int .i64 left] w
    fun e w' => e = .returned (.int .i64 (szR (szNPair x) left)) ∧ Below w.heap.size w w' := by
  obtain rfl := kPair_K hk
  exact szPair_calls x left w h0 h1 hw
theorem eqPair_k {x : DPair} {cs ds : List Value} {w : World} (hk : kPair.K w x cs) (hd : kPair.K w x ds) (hs : smPair 140737488355328 x) : Calls Try.prog 97 #[.agg cs.toArray, .agg ds.toArray] w
    fun e w' => e = .returned (.bool true) ∧ Below w.heap.size w w' := by
  obtain rfl := kPair_K hk
  obtain rfl := kPair_K hd
  exact eqPair_calls x w
theorem toPair_k {x : DPair} {cs : List Value} {w : World} (hk : kPair.K w x cs) (hs : smPair 1048576 x) : Calls Try.prog 95 #[.agg cs.toArray] w
    fun e w' => ∃ ds F, e = .returned (.agg ds.toArray) ∧ kPair.M w' F x ds ∧ (∀ b ∈ F, w.heap.size ≤ b) ∧ F.Nodup ∧ Below w.heap.size w w' := by
  obtain rfl := kPair_K hk
  refine (toPair_calls x w).mono ?_
  rintro e w' ⟨rfl, hb⟩
  exact ⟨_, [], rfl, kPair_mk w' x, by simp, by simp, hb⟩

def smReply (n : Nat) (x : DReply) : Prop := True
theorem szReply_sm {n : Nat} {x : DReply} (h : szNReply x ≤ n) : smReply n x := trivial
theorem szReply_k {x : DReply} {cs : List Value} {left : Int} {w : World} (hk : kReply.K w x cs) (h0 : 0 ≤ left) (h1 : left ≤ 140737488355328) (hw : wfReply x) : Calls Try.prog 104 #[.agg cs.toArray, .int .i64 left] w
    fun e w' => e = .returned (.int .i64 (szR (szNReply x) left)) ∧ Below w.heap.size w w' := by
  obtain rfl := kReply_K hk
  exact szReply_calls x left w h0 h1 hw
theorem eqReply_k {x : DReply} {cs ds : List Value} {w : World} (hk : kReply.K w x cs) (hd : kReply.K w x ds) (hs : smReply 140737488355328 x) : Calls Try.prog 84 #[.agg cs.toArray, .agg ds.toArray] w
    fun e w' => e = .returned (.bool true) ∧ Below w.heap.size w w' := by
  obtain rfl := kReply_K hk
  obtain rfl := kReply_K hd
  exact eqReply_calls x w
theorem toReply_k {x : DReply} {cs : List Value} {w : World} (hk : kReply.K w x cs) (hs : smReply 1048576 x) : Calls Try.prog 105 #[.agg cs.toArray] w
    fun e w' => ∃ ds F, e = .returned (.agg ds.toArray) ∧ kReply.M w' F x ds ∧ (∀ b ∈ F, w.heap.size ≤ b) ∧ F.Nodup ∧ Below w.heap.size w w' := by
  obtain rfl := kReply_K hk
  refine (toReply_calls x w).mono ?_
  rintro e w' ⟨rfl, hb⟩
  exact ⟨_, [], rfl, kReply_mk w' x, by simp, by simp, hb⟩

def smSession (n : Nat) (x : DSession) : Prop := True
theorem szSession_sm {n : Nat} {x : DSession} (h : szNSession x ≤ n) : smSession n x := trivial
theorem szSession_k {x : DSession} {cs : List Value} {left : Int} {w : World} (hk : kSession.K w x cs) (h0 : 0 ≤ left) (h1 : left ≤ 140737488355328) (hw : wfSession x) : Calls Try.prog 94 #[.agg cs.toArray, .int .i64 left] w
    fun e w' => e = .returned (.int .i64 (szR (szNSession x) left)) ∧ Below w.heap.size w w' := by
  obtain rfl := kSession_K hk
  exact szSession_calls x left w h0 h1 hw
theorem eqSession_k {x : DSession} {cs ds : List Value} {w : World} (hk : kSession.K w x cs) (hd : kSession.K w x ds) (hs : smSession 140737488355328 x) : Calls Try.prog 46 #[.agg cs.toArray, .agg ds.toArray] w
    fun e w' => e = .returned (.bool true) ∧ Below w.heap.size w w' := by
  obtain rfl := kSession_K hk
  obtain rfl := kSession_K hd
  exact eqSession_calls x w
theorem toSession_k {x : DSession} {cs : List Value} {w : World} (hk : kSession.K w x cs) (hs : smSession 1048576 x) : Calls Try.prog 96 #[.agg cs.toArray] w
    fun e w' => ∃ ds F, e = .returned (.agg ds.toArray) ∧ kSession.M w' F x ds ∧ (∀ b ∈ F, w.heap.size ≤ b) ∧ F.Nodup ∧ Below w.heap.size w w' := by
  obtain rfl := kSession_K hk
  refine (toSession_calls x w).mono ?_
  rintro e w' ⟨rfl, hb⟩
  exact ⟨_, [], rfl, kSession_mk w' x, by simp, by simp, hb⟩

def smKvState (n : Nat) (x : DKvState) : Prop := x.fCells.length ≤ n ∧ x.fSessions.length ≤ n
theorem smKvState_le {n m : Nat} {x : DKvState} (h : smKvState n x) (hn : n ≤ m) : smKvState m x := by unfold smKvState at *; omega
theorem szKvState_sm {n : Nat} {x : DKvState} (h : szNKvState x ≤ n) : smKvState n x := by unfold szNKvState szL at h; unfold smKvState; omega
theorem szKvState_k {x : DKvState} {cs : List Value} {left : Int} {w : World} (hk : kKvState.K w x cs) (h0 : 0 ≤ left) (h1 : left ≤ 140737488355328) (hw : wfKvState x) : Calls Try.prog 37 #[.agg cs.toArray, .int .i64 left] w
    fun e w' => e = .returned (.int .i64 (szR (szNKvState x) left)) ∧ Below w.heap.size w w' := by
  obtain ⟨v0, v1, rfl, g0, g1⟩ := kKvState_read hk
  exact szKvState_calls x v0 v1 left w g0 g1 h0 h1 hw
theorem eqKvState_k {x : DKvState} {cs ds : List Value} {w : World} (hk : kKvState.K w x cs) (hd : kKvState.K w x ds) (hs : smKvState 140737488355328 x) : Calls Try.prog 41 #[.agg cs.toArray, .agg ds.toArray] w
    fun e w' => e = .returned (.bool true) ∧ Below w.heap.size w w' := by
  obtain ⟨v0, v1, rfl, g0, g1⟩ := kKvState_read hk
  obtain ⟨u0, u1, rfl, d0, d1⟩ := kKvState_read hd
  exact eqKvState_calls x v0 v1 u0 u1 w g0 g1 d0 d1 hs
theorem toKvState_k {x : DKvState} {cs : List Value} {w : World} (hk : kKvState.K w x cs) (hs : smKvState 1048576 x) : Calls Try.prog 39 #[.agg cs.toArray] w
    fun e w' => ∃ ds F, e = .returned (.agg ds.toArray) ∧ kKvState.M w' F x ds ∧ (∀ b ∈ F, w.heap.size ≤ b) ∧ F.Nodup ∧ Below w.heap.size w w' := by
  obtain ⟨v0, v1, rfl, g0, g1⟩ := kKvState_read hk
  exact toKvState_calls x v0 v1 w g0 g1 hs
theorem mkKvState_sm {n : Nat} {x : DKvState} {k : Int} (h : smKvState n x) : (mkKvState x k).2 ≤ k + 6 * n := by
  obtain ⟨l0, l1⟩ := h
  have h0 := mkL_top (mk := mkPair) (c := 2) (fun _ _ => Int.le_refl _) x.fCells (k)
  have h1 := mkL_top (mk := mkSession) (c := 4) (fun _ _ => Int.le_refl _) x.fSessions ((mkL mkPair x.fCells (k)).2)
  simp only [mkKvState]
  omega

end Go.Proofs.Ytfcodelfgjnkhaa
