/- The laws' own functions of slices of structs that hold slices. -/
import Derived.Test.YtcimnhpgackciaaN3
import Derived.Test.YtcimnhpgackciaaKitB
namespace Go.Proofs.Ytcimnhpgackciaa
open Go Go.RowKit Go.Sort
set_option linter.unusedVariables false
set_option linter.unusedSimpArgs false

theorem kRaftNode_sz : kRaftNode.sz = 9 := rfl
theorem infoRaftNode : (Try.prog.info? 29).map (fun i => (i.zero, i.size, i.bytes)) = some (some (.agg #[.int .i64 0, .int .i64 0, .int .i64 0, .int .i64 0, .slice none 0 0, .int .i64 0, .int .i64 0, .slice none 0 0, .slice none 0 0]), 9, 120) := by kernel_rfl
def zzRaftNode : DRaftNode := ⟨0, 0, 0, 0, [], 0, 0, [], []⟩
theorem kRaftNode_zero (w : World) : kRaftNode.M w [] zzRaftNode [.int .i64 0, .int .i64 0, .int .i64 0, .int .i64 0, .slice none 0 0, .int .i64 0, .int .i64 0, .slice none 0 0, .slice none 0 0] := by
  have h := kRaftNode_make (w := w) (x := zzRaftNode) (F4 := []) (F7 := []) (F8 := []) (Rp.Row_nil _ _ _) (Rp.Row_nil _ _ _) (Rp.Row_nil _ _ _)
  exact h
def smRaftNodeS (n : Nat) (xs : List DRaftNode) : Prop := xs.length ≤ n ∧ ∀ x ∈ xs, smRaftNode n x
theorem smRaftNodeS_le {n m : Nat} {x : List DRaftNode} (h : smRaftNodeS n x) (hn : n ≤ m) : smRaftNodeS m x := ⟨Nat.le_trans h.1 hn, fun y hy => smRaftNode_le (h.2 y hy) hn⟩
def szNRaftNodeS (x : List DRaftNode) : Nat := szL szNRaftNode x
theorem sum_memRaftNode : ∀ {xs : List DRaftNode} {x : DRaftNode}, x ∈ xs → szNRaftNode x ≤ sumN szNRaftNode xs
  | y :: ys, x, h => by
    rcases List.mem_cons.1 h with rfl | h
    · simp only [sumN]; omega
    · have := sum_memRaftNode h
      simp only [sumN]; omega
theorem szRaftNodeS_sm {n : Nat} {x : List DRaftNode} (h : szNRaftNodeS x ≤ n) : smRaftNodeS n x := by
  unfold szNRaftNodeS szL at h
  exact ⟨by omega, fun y hy => szRaftNode_sm (by have := sum_memRaftNode hy; omega)⟩
def wfRaftNodeS (x : List DRaftNode) : Prop := (∀ y ∈ x, wfRaftNode y) ∧ x.length ≤ 140737488355328
def kRaftNodeS : Rp (List DRaftNode) := Rp.slice 29 kRaftNode
theorem kRaftNodeS_read {w : World} {xs : List DRaftNode} {cs : List Value} (h : kRaftNodeS.K w xs cs) : ∃ v, cs = [v] ∧ kRaftNode.S w xs v := by
  obtain ⟨A, c, rfl, h1, h2⟩ := h
  exact ⟨_, rfl, A, c, rfl, h1, h2⟩
theorem kRaftNodeS_open {w : World} {F : List Nat} {xs : List DRaftNode} {cs : List Value} (h : kRaftNodeS.M w F xs cs) : ∃ v, cs = [v] ∧ kRaftNode.Row 29 w F xs v := h
theorem kRaftNodeS_make {w : World} {F : List Nat} {xs : List DRaftNode} {v : Value} (h : kRaftNode.Row 29 w F xs v) : kRaftNodeS.M w F xs [v] := ⟨v, rfl, h⟩

theorem kRaftMsg_sz : kRaftMsg.sz = 9 := rfl
theorem infoRaftMsg : (Try.prog.info? 44).map (fun i => (i.zero, i.size, i.bytes)) = some (some (.agg #[.int .i64 0, .int .i64 0, .int .i64 0, .int .i64 0, .int .i64 0, .int .i64 0, .slice none 0 0, .int .i64 0, .bool false]), 9, 88) := by kernel_rfl
def zzRaftMsg : DRaftMsg := ⟨0, 0, 0, 0, 0, 0, [], 0, false⟩
theorem kRaftMsg_zero (w : World) : kRaftMsg.M w [] zzRaftMsg [.int .i64 0, .int .i64 0, .int .i64 0, .int .i64 0, .int .i64 0, .int .i64 0, .slice none 0 0, .int .i64 0, .bool false] := by
  have h := kRaftMsg_make (w := w) (x := zzRaftMsg) (F6 := []) (Rp.Row_nil _ _ _)
  exact h
def smRaftMsgS (n : Nat) (xs : List DRaftMsg) : Prop := xs.length ≤ n ∧ ∀ x ∈ xs, smRaftMsg n x
theorem smRaftMsgS_le {n m : Nat} {x : List DRaftMsg} (h : smRaftMsgS n x) (hn : n ≤ m) : smRaftMsgS m x := ⟨Nat.le_trans h.1 hn, fun y hy => smRaftMsg_le (h.2 y hy) hn⟩
def szNRaftMsgS (x : List DRaftMsg) : Nat := szL szNRaftMsg x
theorem sum_memRaftMsg : ∀ {xs : List DRaftMsg} {x : DRaftMsg}, x ∈ xs → szNRaftMsg x ≤ sumN szNRaftMsg xs
  | y :: ys, x, h => by
    rcases List.mem_cons.1 h with rfl | h
    · simp only [sumN]; omega
    · have := sum_memRaftMsg h
      simp only [sumN]; omega
theorem szRaftMsgS_sm {n : Nat} {x : List DRaftMsg} (h : szNRaftMsgS x ≤ n) : smRaftMsgS n x := by
  unfold szNRaftMsgS szL at h
  exact ⟨by omega, fun y hy => szRaftMsg_sm (by have := sum_memRaftMsg hy; omega)⟩
def wfRaftMsgS (x : List DRaftMsg) : Prop := (∀ y ∈ x, wfRaftMsg y) ∧ x.length ≤ 140737488355328
def kRaftMsgS : Rp (List DRaftMsg) := Rp.slice 44 kRaftMsg
theorem kRaftMsgS_read {w : World} {xs : List DRaftMsg} {cs : List Value} (h : kRaftMsgS.K w xs cs) : ∃ v, cs = [v] ∧ kRaftMsg.S w xs v := by
  obtain ⟨A, c, rfl, h1, h2⟩ := h
  exact ⟨_, rfl, A, c, rfl, h1, h2⟩
theorem kRaftMsgS_open {w : World} {F : List Nat} {xs : List DRaftMsg} {cs : List Value} (h : kRaftMsgS.M w F xs cs) : ∃ v, cs = [v] ∧ kRaftMsg.Row 44 w F xs v := h
theorem kRaftMsgS_make {w : World} {F : List Nat} {xs : List DRaftMsg} {v : Value} (h : kRaftMsg.Row 44 w F xs v) : kRaftMsgS.M w F xs [v] := ⟨v, rfl, h⟩

set_option maxHeartbeats 2000000 in
set_option maxRecDepth 100000 in
theorem eqRaftMsgS_calls (xs : List DRaftMsg) (v1 v2 : Value) (w : World) (h1 : kRaftMsg.S w xs v1) (h2 : kRaftMsg.S w xs v2) (hl : smRaftMsgS 140737488355328 xs) :
    Calls Try.prog 9 #[v1, v2] w fun e w' => e = .returned (.bool true) ∧ Below w.heap.size w w' := by
  obtain ⟨A1, c1, rfl, hc1, h1⟩ := h1
  obtain ⟨A2, c2, rfl, hc2, h2⟩ := h2
  have H1 := Lib.hid h1; clear h1
  have H2 := Lib.hid h2; clear h2
  have HL := Lib.hid hl
  have hl1 := hl.1
  clear hl
  go_enter Try.func9, Try.ntmps9
  go_wp2
  go_loopw [5] (fun i wr => ∃ k : Nat, k ≤ xs.length ∧ i = .int .i64 k ∧ Hid (Below w.heap.size w wr)) (fun i _ => xs.length - (intOf i).toNat)
  case atStart => exact ⟨0, Nat.zero_le _, rfl, Below.refl _ _⟩
  case round =>
    obtain ⟨k, hk, rfl, HB⟩ := hrel
    by_cases hlt : k < xs.length
    · obtain ⟨b1, o1, cs1, rfl, k1, q1⟩ := Rp.C_get H1.out k hlt
      obtain ⟨b2, o2, cs2, rfl, k2, q2⟩ := Rp.C_get H2.out k hlt
      have KK1 := Lib.hid k1
      have KK2 := Lib.hid k2
      obtain ⟨v6, rfl, _⟩ := kRaftMsg_read k1
      obtain ⟨u6, rfl, _⟩ := kRaftMsg_read k2
      have hsm := HL.out.2 xs[k] (List.getElem_mem hlt)
      generalize he : xs[k] = x at *
      have HE := Lib.hid he; clear he
      have a10 := regr HB.out (World.block_lt_of_cell? w _ (q1 0 _ rfl)) (q1 0 _ rfl)
      simp only [kRaftMsg_sz, Nat.add_zero] at a10
      have a11 := regr HB.out (World.block_lt_of_cell? w _ (q1 1 _ rfl)) (q1 1 _ rfl)
      simp only [kRaftMsg_sz, Nat.add_zero] at a11
      have a12 := regr HB.out (World.block_lt_of_cell? w _ (q1 2 _ rfl)) (q1 2 _ rfl)
      simp only [kRaftMsg_sz, Nat.add_zero] at a12
      have a13 := regr HB.out (World.block_lt_of_cell? w _ (q1 3 _ rfl)) (q1 3 _ rfl)
      simp only [kRaftMsg_sz, Nat.add_zero] at a13
      have a14 := regr HB.out (World.block_lt_of_cell? w _ (q1 4 _ rfl)) (q1 4 _ rfl)
      simp only [kRaftMsg_sz, Nat.add_zero] at a14
      have a15 := regr HB.out (World.block_lt_of_cell? w _ (q1 5 _ rfl)) (q1 5 _ rfl)
      simp only [kRaftMsg_sz, Nat.add_zero] at a15
      have a16 := regr HB.out (World.block_lt_of_cell? w _ (q1 6 _ rfl)) (q1 6 _ rfl)
      simp only [kRaftMsg_sz, Nat.add_zero] at a16
      have a17 := regr HB.out (World.block_lt_of_cell? w _ (q1 7 _ rfl)) (q1 7 _ rfl)
      simp only [kRaftMsg_sz, Nat.add_zero] at a17
      have a18 := regr HB.out (World.block_lt_of_cell? w _ (q1 8 _ rfl)) (q1 8 _ rfl)
      simp only [kRaftMsg_sz, Nat.add_zero] at a18
      have a20 := regr HB.out (World.block_lt_of_cell? w _ (q2 0 _ rfl)) (q2 0 _ rfl)
      simp only [kRaftMsg_sz, Nat.add_zero] at a20
      have a21 := regr HB.out (World.block_lt_of_cell? w _ (q2 1 _ rfl)) (q2 1 _ rfl)
      simp only [kRaftMsg_sz, Nat.add_zero] at a21
      have a22 := regr HB.out (World.block_lt_of_cell? w _ (q2 2 _ rfl)) (q2 2 _ rfl)
      simp only [kRaftMsg_sz, Nat.add_zero] at a22
      have a23 := regr HB.out (World.block_lt_of_cell? w _ (q2 3 _ rfl)) (q2 3 _ rfl)
      simp only [kRaftMsg_sz, Nat.add_zero] at a23
      have a24 := regr HB.out (World.block_lt_of_cell? w _ (q2 4 _ rfl)) (q2 4 _ rfl)
      simp only [kRaftMsg_sz, Nat.add_zero] at a24
      have a25 := regr HB.out (World.block_lt_of_cell? w _ (q2 5 _ rfl)) (q2 5 _ rfl)
      simp only [kRaftMsg_sz, Nat.add_zero] at a25
      have a26 := regr HB.out (World.block_lt_of_cell? w _ (q2 6 _ rfl)) (q2 6 _ rfl)
      simp only [kRaftMsg_sz, Nat.add_zero] at a26
      have a27 := regr HB.out (World.block_lt_of_cell? w _ (q2 7 _ rfl)) (q2 7 _ rfl)
      simp only [kRaftMsg_sz, Nat.add_zero] at a27
      have a28 := regr HB.out (World.block_lt_of_cell? w _ (q2 8 _ rfl)) (q2 8 _ rfl)
      simp only [kRaftMsg_sz, Nat.add_zero] at a28
      clear q1 q2 k1 k2
      have i1 : (0 : Int) ≤ (k : Int) := by omega
      have i2 : (k : Int) < (xs.length : Int) := by omega
      have c_e : ∀ W : World, Below wr.heap.size wr W → Calls Try.prog 28 #[.agg #[.int .i64 x.fKind, .int .i64 x.fFrom, .int .i64 x.fTo, .int .i64 x.fTerm, .int .i64 x.fIndex, .int .i64 x.fBefore, v6, .int .i64 x.fCommit, .bool x.fYes], .agg #[.int .i64 x.fKind, .int .i64 x.fFrom, .int .i64 x.fTo, .int .i64 x.fTerm, .int .i64 x.fIndex, .int .i64 x.fBefore, u6, .int .i64 x.fCommit, .bool x.fYes]] W (fun e w' => e = .returned (.bool true) ∧ Below W.heap.size W w') := fun W hW => eqRaftMsg_k (kRaftMsg.K_below (HB.out.trans (hW.mono HB.out.size)).block KK1.out) (kRaftMsg.K_below (HB.out.trans (hW.mono HB.out.size)).block KK2.out) hsm
      go_wp2
      refine wp_region_quiet_below (by kernel_rfl) (by kernel_rfl) ?_
      repeat (go_big_quiet_step (with_reducible exact Calls.regrown_of (c_e _ (below_regrown _ _ _))))
      refine wpQuiet_nil ?_
      rintro w1 ⟨p, rfl⟩
      go_wp2
      exact ⟨⟨k + 1, by omega, by go_num, HB.out.trans ((below_regrown _ _ _).mono HB.out.size)⟩, by simp [intOf]; omega⟩
    · go_wp2
      go_ret
      exact ⟨rfl, HB.out⟩

theorem eqRaftMsgS_k {x : List DRaftMsg} {v u : Value} {w : World} (hk : kRaftMsgS.K w x [v]) (hd : kRaftMsgS.K w x [u]) (hs : smRaftMsgS 140737488355328 x) : Calls Try.prog 9 #[v, u] w
    fun e w' => e = .returned (.bool true) ∧ Below w.heap.size w w' := by
  obtain ⟨_, h, g⟩ := kRaftMsgS_read hk
  obtain rfl := (List.cons.inj h).1
  obtain ⟨_, h', g'⟩ := kRaftMsgS_read hd
  obtain rfl := (List.cons.inj h').1
  exact eqRaftMsgS_calls x v u w g g' hs

end Go.Proofs.Ytcimnhpgackciaa
