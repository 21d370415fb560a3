/- The laws' own functions of slices of structs that hold slices. -/
import Derived.Test.YthnjcolbdoaabaaN3
import Derived.Test.YthnjcolbdoaabaaKitB
namespace Go.Proofs.Ythnjcolbdoaabaa
open Go Go.RowKit Go.Sort
set_option linter.unusedVariables false
set_option linter.unusedSimpArgs false

theorem kRaftNode_sz : kRaftNode.sz = 9 := rfl
theorem infoRaftNode : (Try.prog.info? 29).map (fun i => (i.zero, i.size, i.bytes)) = some (some (.agg #[.int .i64 0, .int .i64 0, .int .i64 0, .int .i64 0, .slice none 0 0, .int .i64 0, .int .i64 0, .slice none 0 0, .slice none 0 0]), 9, 120) := by kernel_rfl
def zzRaftNode : DRaftNode := ⟨0, 0, 0, 0, [], 0, 0, [], []⟩
theorem kRaftNode_zero (w : World) : kRaftNode.M w [] zzRaftNode [.int .i64 0, .int .i64 0, .int .i64 0, .int .i64 0, .slice none 0 0, .int .i64 0, .int .i64 0, .slice none 0 0, .slice none 0 0] := by
  have h := kRaftNode_make (w := w) (x := zzRaftNode) (F4 := []) (F7 := []) (F8 := []) (Rp.Row_nil _ _ _) (Rp.Row_nil _ _ _) (Rp.Row_nil _ _ _)
  exact h
def smRaftNodeS (n : Nat) (xs : List DRaftNode) : Prop := xs.length ≤ n ∧ ∀ x ∈ xs, smRaftNode n x
theorem smRaftNodeS_le {n m : Nat} {x : List DRaftNode} (h : smRaftNodeS n x) (hn : n ≤ m) : smRaftNodeS m x := ⟨Nat.le_trans h.1 hn, fun y hy => smRaftNode_le (h.2 y hy) hn⟩
def szNRaftNodeS (x : List DRaftNode) : Nat := szL szNRaftNode x
theorem sum_memRaftNode : ∀ {xs : List DRaftNode} {x : DRaftNode}, x ∈ xs → szNRaftNode x ≤ sumN szNRaftNode xs
  | y :: ys, x, h => by
    rcases List.mem_cons.1 h with rfl | h
    · simp only [sumN]; omega
    · have := sum_memRaftNode h
      simp only [sumN]; omega
theorem szRaftNodeS_sm {n : Nat} {x : List DRaftNode} (h : szNRaftNodeS x ≤ n) : smRaftNodeS n x := by
  unfold szNRaftNodeS szL at h
  exact ⟨by omega, fun y hy => szRaftNode_sm (by have := sum_memRaftNode hy; omega)⟩
def wfRaftNodeS (x : List DRaftNode) : Prop := (∀ y ∈ x, wfRaftNode y) ∧ x.length ≤ 140737488355328
def kRaftNodeS : Rp (List DRaftNode) := Rp.slice 29 kRaftNode
theorem kRaftNodeS_read {w : World} {xs : List DRaftNode} {cs : List Value} (h : kRaftNodeS.K w xs cs) : ∃ v, cs = [v] ∧ kRaftNode.S w xs v := by
  obtain ⟨A, c, rfl, h1, h2⟩ := h
  exact ⟨_, rfl, A, c, rfl, h1, h2⟩
theorem kRaftNodeS_open {w : World} {F : List Nat} {xs : List DRaftNode} {cs : List Value} (h : kRaftNodeS.M w F xs cs) : ∃ v, cs = [v] ∧ kRaftNode.Row 29 w F xs v := h
theorem kRaftNodeS_make {w : World} {F : List Nat} {xs : List DRaftNode} {v : Value} (h : kRaftNode.Row 29 w F xs v) : kRaftNodeS.M w F xs [v] := ⟨v, rfl, h⟩

set_option maxHeartbeats 2000000 in
set_option maxRecDepth 100000 in
theorem szRaftNodeS_calls (xs : List DRaftNode) (left : Int) (v : Value) (w : World) (h : kRaftNode.S w xs v) (h0 : 0 ≤ left) (h1 : left ≤ 140737488355328) (hw : ∀ x ∈ xs, wfRaftNode x) (hl : xs.length ≤ 140737488355328) :
    Calls Try.prog 85 #[v, .int .i64 left] w fun e w' => e = .returned (.int .i64 (szR (szL szNRaftNode xs) left)) ∧ Below w.heap.size w w' := by
  obtain ⟨A, c, rfl, hc, h⟩ := h
  have H := Lib.hid h; clear h
  have HW := Lib.hid hw; clear hw
  have HF := Lib.hid (show ((szL szNRaftNode xs : Nat) : Int) = xs.length + sumN szNRaftNode xs by unfold szL; omega)
  by_cases hq : (xs.length : Int) ≤ left
  · go_enter Try.func85, Try.ntmps85
    go_wp2
    go_loopw [1, 5] (fun l i wr => ∃ k : Nat, k ≤ xs.length ∧ i = .int .i64 k ∧ l = .int .i64 (left - xs.length - sumN szNRaftNode (xs.take k)) ∧ 0 ≤ left - xs.length - sumN szNRaftNode (xs.take k) ∧ Hid (Below w.heap.size w wr)) (fun _ i _ => xs.length - (intOf i).toNat)
    case atStart => exact ⟨0, Nat.zero_le _, rfl, by simp [sumN], by simp [sumN]; omega, Below.refl _ _⟩
    case round =>
      obtain ⟨k, hk, rfl, rfl, hs, HB⟩ := hrel
      by_cases hlt : k < xs.length
      · obtain ⟨b, o, cs, rfl, k1, q1⟩ := Rp.C_get H.out k hlt
        have KK := Lib.hid k1
        obtain ⟨v4, v7, v8, rfl, _, _, _⟩ := kRaftNode_read k1
        have hx := HW.out xs[k] (List.getElem_mem hlt)
        have hs2 := sumN_take (f := szNRaftNode) hlt
        have hs3 := sumN_le (f := szNRaftNode) (xs := xs) (k + 1)
        generalize he : xs[k] = x at *
        generalize hs4 : sumN szNRaftNode (xs.take (k + 1)) = s1 at *
        generalize hs5 : sumN szNRaftNode (xs.take k) = s0 at *
        have HE := Lib.hid he; clear he
        have HS4 := Lib.hid hs4; clear hs4
        have HS5 := Lib.hid hs5; clear hs5
        have HS2 := Lib.hid hs2; clear hs2
        have a0 := (World.cell?_of_block (HB.out.block b (World.block_lt_of_cell? w _ (q1 0 _ rfl)))).trans (q1 0 _ rfl)
        simp only [kRaftNode_sz, Nat.add_zero] at a0
        have a1 := (World.cell?_of_block (HB.out.block b (World.block_lt_of_cell? w _ (q1 0 _ rfl)))).trans (q1 1 _ rfl)
        simp only [kRaftNode_sz, Nat.add_zero] at a1
        have a2 := (World.cell?_of_block (HB.out.block b (World.block_lt_of_cell? w _ (q1 0 _ rfl)))).trans (q1 2 _ rfl)
        simp only [kRaftNode_sz, Nat.add_zero] at a2
        have a3 := (World.cell?_of_block (HB.out.block b (World.block_lt_of_cell? w _ (q1 0 _ rfl)))).trans (q1 3 _ rfl)
        simp only [kRaftNode_sz, Nat.add_zero] at a3
        have a4 := (World.cell?_of_block (HB.out.block b (World.block_lt_of_cell? w _ (q1 0 _ rfl)))).trans (q1 4 _ rfl)
        simp only [kRaftNode_sz, Nat.add_zero] at a4
        have a5 := (World.cell?_of_block (HB.out.block b (World.block_lt_of_cell? w _ (q1 0 _ rfl)))).trans (q1 5 _ rfl)
        simp only [kRaftNode_sz, Nat.add_zero] at a5
        have a6 := (World.cell?_of_block (HB.out.block b (World.block_lt_of_cell? w _ (q1 0 _ rfl)))).trans (q1 6 _ rfl)
        simp only [kRaftNode_sz, Nat.add_zero] at a6
        have a7 := (World.cell?_of_block (HB.out.block b (World.block_lt_of_cell? w _ (q1 0 _ rfl)))).trans (q1 7 _ rfl)
        simp only [kRaftNode_sz, Nat.add_zero] at a7
        have a8 := (World.cell?_of_block (HB.out.block b (World.block_lt_of_cell? w _ (q1 0 _ rfl)))).trans (q1 8 _ rfl)
        simp only [kRaftNode_sz, Nat.add_zero] at a8
        clear q1 k1
        have i1 : (0 : Int) ≤ (k : Int) := by omega
        have i2 : (k : Int) < (xs.length : Int) := by omega
        go_wp2_with fail
        (with_reducible refine (szRaftNode_k (kRaftNode.K_below HB.out.block KK.out) (by omega) (by omega) hx).mono ?_)
        rintro e w1 ⟨rfl, hb⟩
        have HB1 := Lib.hid (HB.out.trans (hb.mono HB.out.size)); clear hb
        by_cases hy : (szNRaftNode x : Int) ≤ left - xs.length - s0
        · rw [szR_yes hy]
          go_wp2
          exact ⟨⟨k + 1, by omega, by go_num, by rw [HS4.out, HS2.out]; go_num, by rw [HS4.out, HS2.out]; omega, HB1.out⟩, by simp [intOf]; omega⟩
        · rw [szR_no hy]
          go_wp2
          go_ret
          exact ⟨ret_int (by rw [szR_of HF.out, if_neg (by have := HS2.out; omega)]), HB1.out⟩
      · go_wp2
        go_ret
        obtain rfl : k = xs.length := by omega
        rw [sumN_all] at hs
        exact ⟨ret_int (by rw [szR_of HF.out, if_pos (by omega), sumN_all]; omega), HB.out⟩
  · go_enter Try.func85, Try.ntmps85
    go_wp2
    go_ret
    exact ⟨ret_int (by rw [szR_of HF.out, if_neg (by omega)]), Below.refl _ _⟩

set_option maxHeartbeats 2000000 in
set_option maxRecDepth 100000 in
theorem eqRaftNodeS_calls (xs : List DRaftNode) (v1 v2 : Value) (w : World) (h1 : kRaftNode.S w xs v1) (h2 : kRaftNode.S w xs v2) (hl : smRaftNodeS 140737488355328 xs) :
    Calls Try.prog 96 #[v1, v2] w fun e w' => e = .returned (.bool true) ∧ Below w.heap.size w w' := by
  obtain ⟨A1, c1, rfl, hc1, h1⟩ := h1
  obtain ⟨A2, c2, rfl, hc2, h2⟩ := h2
  have H1 := Lib.hid h1; clear h1
  have H2 := Lib.hid h2; clear h2
  have HL := Lib.hid hl
  have hl1 := hl.1
  clear hl
  go_enter Try.func96, Try.ntmps96
  go_wp2
  go_loopw [5] (fun i wr => ∃ k : Nat, k ≤ xs.length ∧ i = .int .i64 k ∧ Hid (Below w.heap.size w wr)) (fun i _ => xs.length - (intOf i).toNat)
  case atStart => exact ⟨0, Nat.zero_le _, rfl, Below.refl _ _⟩
  case round =>
    obtain ⟨k, hk, rfl, HB⟩ := hrel
    by_cases hlt : k < xs.length
    · obtain ⟨b1, o1, cs1, rfl, k1, q1⟩ := Rp.C_get H1.out k hlt
      obtain ⟨b2, o2, cs2, rfl, k2, q2⟩ := Rp.C_get H2.out k hlt
      have KK1 := Lib.hid k1
      have KK2 := Lib.hid k2
      obtain ⟨v4, v7, v8, rfl, _, _, _⟩ := kRaftNode_read k1
      obtain ⟨u4, u7, u8, rfl, _, _, _⟩ := kRaftNode_read k2
      have hsm := HL.out.2 xs[k] (List.getElem_mem hlt)
      generalize he : xs[k] = x at *
      have HE := Lib.hid he; clear he
      have a10 := regr HB.out (World.block_lt_of_cell? w _ (q1 0 _ rfl)) (q1 0 _ rfl)
      simp only [kRaftNode_sz, Nat.add_zero] at a10
      have a11 := regr HB.out (World.block_lt_of_cell? w _ (q1 1 _ rfl)) (q1 1 _ rfl)
      simp only [kRaftNode_sz, Nat.add_zero] at a11
      have a12 := regr HB.out (World.block_lt_of_cell? w _ (q1 2 _ rfl)) (q1 2 _ rfl)
      simp only [kRaftNode_sz, Nat.add_zero] at a12
      have a13 := regr HB.out (World.block_lt_of_cell? w _ (q1 3 _ rfl)) (q1 3 _ rfl)
      simp only [kRaftNode_sz, Nat.add_zero] at a13
      have a14 := regr HB.out (World.block_lt_of_cell? w _ (q1 4 _ rfl)) (q1 4 _ rfl)
      simp only [kRaftNode_sz, Nat.add_zero] at a14
      have a15 := regr HB.out (World.block_lt_of_cell? w _ (q1 5 _ rfl)) (q1 5 _ rfl)
      simp only [kRaftNode_sz, Nat.add_zero] at a15
      have a16 := regr HB.out (World.block_lt_of_cell? w _ (q1 6 _ rfl)) (q1 6 _ rfl)
      simp only [kRaftNode_sz, Nat.add_zero] at a16
      have a17 := regr HB.out (World.block_lt_of_cell? w _ (q1 7 _ rfl)) (q1 7 _ rfl)
      simp only [kRaftNode_sz, Nat.add_zero] at a17
      have a18 := regr HB.out (World.block_lt_of_cell? w _ (q1 8 _ rfl)) (q1 8 _ rfl)
      simp only [kRaftNode_sz, Nat.add_zero] at a18
      have a20 := regr HB.out (World.block_lt_of_cell? w _ (q2 0 _ rfl)) (q2 0 _ rfl)
      simp only [kRaftNode_sz, Nat.add_zero] at a20
      have a21 := regr HB.out (World.block_lt_of_cell? w _ (q2 1 _ rfl)) (q2 1 _ rfl)
      simp only [kRaftNode_sz, Nat.add_zero] at a21
      have a22 := regr HB.out (World.block_lt_of_cell? w _ (q2 2 _ rfl)) (q2 2 _ rfl)
      simp only [kRaftNode_sz, Nat.add_zero] at a22
      have a23 := regr HB.out (World.block_lt_of_cell? w _ (q2 3 _ rfl)) (q2 3 _ rfl)
      simp only [kRaftNode_sz, Nat.add_zero] at a23
      have a24 := regr HB.out (World.block_lt_of_cell? w _ (q2 4 _ rfl)) (q2 4 _ rfl)
      simp only [kRaftNode_sz, Nat.add_zero] at a24
      have a25 := regr HB.out (World.block_lt_of_cell? w _ (q2 5 _ rfl)) (q2 5 _ rfl)
      simp only [kRaftNode_sz, Nat.add_zero] at a25
      have a26 := regr HB.out (World.block_lt_of_cell? w _ (q2 6 _ rfl)) (q2 6 _ rfl)
      simp only [kRaftNode_sz, Nat.add_zero] at a26
      have a27 := regr HB.out (World.block_lt_of_cell? w _ (q2 7 _ rfl)) (q2 7 _ rfl)
      simp only [kRaftNode_sz, Nat.add_zero] at a27
      have a28 := regr HB.out (World.block_lt_of_cell? w _ (q2 8 _ rfl)) (q2 8 _ rfl)
      simp only [kRaftNode_sz, Nat.add_zero] at a28
      clear q1 q2 k1 k2
      have i1 : (0 : Int) ≤ (k : Int) := by omega
      have i2 : (k : Int) < (xs.length : Int) := by omega
      have c_e : ∀ W : World, Below wr.heap.size wr W → Calls Try.prog 14 #[.agg #[.int .i64 x.fId, .int .i64 x.fPeers, .int .i64 x.fTerm, .int .i64 x.fVote, v4, .int .i64 x.fCommit, .int .i64 x.fRole, v7, v8], .agg #[.int .i64 x.fId, .int .i64 x.fPeers, .int .i64 x.fTerm, .int .i64 x.fVote, u4, .int .i64 x.fCommit, .int .i64 x.fRole, u7, u8]] W (fun e w' => e = .returned (.bool true) ∧ Below W.heap.size W w') := fun W hW => eqRaftNode_k (kRaftNode.K_below (HB.out.trans (hW.mono HB.out.size)).block KK1.out) (kRaftNode.K_below (HB.out.trans (hW.mono HB.out.size)).block KK2.out) hsm
      go_wp2
      refine wp_region_quiet_below (by kernel_rfl) (by kernel_rfl) ?_
      repeat (go_big_quiet_step (with_reducible exact Calls.regrown_of (c_e _ (below_regrown _ _ _))))
      refine wpQuiet_nil ?_
      rintro w1 ⟨p, rfl⟩
      go_wp2
      exact ⟨⟨k + 1, by omega, by go_num, HB.out.trans ((below_regrown _ _ _).mono HB.out.size)⟩, by simp [intOf]; omega⟩
    · go_wp2
      go_ret
      exact ⟨rfl, HB.out⟩

set_option maxHeartbeats 2000000 in
set_option maxRecDepth 100000 in
theorem toRaftNodeS_calls (xs : List DRaftNode) (v : Value) (w : World) (h : kRaftNode.S w xs v) (hl : smRaftNodeS 1048576 xs) :
    Calls Try.prog 88 #[v] w fun e w' => ∃ v' F, e = .returned v' ∧ kRaftNode.Row 29 w' F xs v' ∧ (∀ b ∈ F, w.heap.size ≤ b) ∧ F.Nodup ∧ Below w.heap.size w w' := by
  obtain ⟨A, c, rfl, hc, h⟩ := h
  have H := Lib.hid h; clear h
  have HL := Lib.hid hl
  have hl1 := hl.1
  clear hl
  obtain ⟨w0, hmk, hR, hB, hlt0⟩ := mk_full w 66 29 kRaftNode zzRaftNode Try.underlying66 infoRaftNode rfl (fun w => kRaftNode_zero w) xs.length hl1 (by decide)
  have HR := Lib.hid hR; clear hR
  have HB := Lib.hid hB; clear hB
  go_enter Try.func88, Try.ntmps88
  go_wp2
  clear hmk
  go_loopw [4] (fun i wr => ∃ k : Nat, k ≤ xs.length ∧ i = .int .i64 k ∧ (∃ F, Hid (kRaftNode.Row 29 wr F (fillL xs zzRaftNode k) (.slice (some ⟨w.heap.size, 0, none⟩) xs.length xs.length)) ∧ Hid (F.Nodup ∧ ∀ b ∈ F, w.heap.size ≤ b)) ∧ Hid (Below w.heap.size w wr)) (fun i _ => xs.length - (intOf i).toNat)
  case atStart => exact ⟨0, Nat.zero_le _, rfl, ⟨_, by rw [fillL_zero]; exact HR.out, by simp [Hid]⟩, HB.out⟩
  case round =>
    clear HR HB hlt0
    obtain ⟨k, hk, rfl, ⟨F, HR, HF⟩, HB⟩ := hrel
    by_cases hlt : k < xs.length
    · obtain ⟨b, o, cs, rfl, k1, q1⟩ := Rp.C_get H.out k hlt
      have KK := Lib.hid k1
      obtain ⟨v4, v7, v8, rfl, _, _, _⟩ := kRaftNode_read k1
      have hs := fillL_set (z := zzRaftNode) hlt
      have hsm := HL.out.2 xs[k] (List.getElem_mem hlt)
      generalize he : xs[k] = x at *
      have HS := Lib.hid hs; clear hs
      have HE := Lib.hid he; clear he
      have a0 := (World.cell?_of_block (HB.out.block b (World.block_lt_of_cell? w _ (q1 0 _ rfl)))).trans (q1 0 _ rfl)
      simp only [kRaftNode_sz, Nat.add_zero] at a0
      have a1 := (World.cell?_of_block (HB.out.block b (World.block_lt_of_cell? w _ (q1 0 _ rfl)))).trans (q1 1 _ rfl)
      simp only [kRaftNode_sz, Nat.add_zero] at a1
      have a2 := (World.cell?_of_block (HB.out.block b (World.block_lt_of_cell? w _ (q1 0 _ rfl)))).trans (q1 2 _ rfl)
      simp only [kRaftNode_sz, Nat.add_zero] at a2
      have a3 := (World.cell?_of_block (HB.out.block b (World.block_lt_of_cell? w _ (q1 0 _ rfl)))).trans (q1 3 _ rfl)
      simp only [kRaftNode_sz, Nat.add_zero] at a3
      have a4 := (World.cell?_of_block (HB.out.block b (World.block_lt_of_cell? w _ (q1 0 _ rfl)))).trans (q1 4 _ rfl)
      simp only [kRaftNode_sz, Nat.add_zero] at a4
      have a5 := (World.cell?_of_block (HB.out.block b (World.block_lt_of_cell? w _ (q1 0 _ rfl)))).trans (q1 5 _ rfl)
      simp only [kRaftNode_sz, Nat.add_zero] at a5
      have a6 := (World.cell?_of_block (HB.out.block b (World.block_lt_of_cell? w _ (q1 0 _ rfl)))).trans (q1 6 _ rfl)
      simp only [kRaftNode_sz, Nat.add_zero] at a6
      have a7 := (World.cell?_of_block (HB.out.block b (World.block_lt_of_cell? w _ (q1 0 _ rfl)))).trans (q1 7 _ rfl)
      simp only [kRaftNode_sz, Nat.add_zero] at a7
      have a8 := (World.cell?_of_block (HB.out.block b (World.block_lt_of_cell? w _ (q1 0 _ rfl)))).trans (q1 8 _ rfl)
      simp only [kRaftNode_sz, Nat.add_zero] at a8
      clear q1 k1
      have i1 : (0 : Int) ≤ (k : Int) := by omega
      have i2 : (k : Int) < (xs.length : Int) := by omega
      go_wp2_with fail
      (with_reducible refine (toRaftNode_k (kRaftNode.K_below HB.out.block KK.out) hsm).mono ?_)
      rintro e w1 ⟨ds, F1', rfl, m1, m2, m3, hb⟩
      have FL := Lib.hid (Rp.Row_lt HR.out)
      have HR1 := Rp.Row_below HR.out hb
      have HB1 := HB.out.trans (hb.mono HB.out.size)
      have HBs := Lib.hid HB.out.size
      clear hb HB HR
      have hk2 : k < (fillL xs zzRaftNode k).length := by rw [fillL_len hk]; exact hlt
      obtain ⟨g, cap, cz, F1, q0, hgF, hgl, q2, _, _, q3, q4⟩ := Rp.Row_open HR1 HF.out.1 k hk2
      rw [fillL_get hlt hk2] at q2
      obtain ⟨zv4, zv7, zv8, zF4, zF7, zF8, rfl, rfl, _, _, _⟩ := kRaftNode_open q2
      obtain rfl : w.heap.size = g := by simp at q0; exact q0.1
      have z0 : w1.cell? ⟨w.heap.size, k * 9, none⟩ = some (.int .i64 0) := q3 0 _ rfl
      have z1 : w1.cell? ⟨w.heap.size, k * 9 + 1, none⟩ = some (.int .i64 0) := q3 1 _ rfl
      have z2 : w1.cell? ⟨w.heap.size, k * 9 + 2, none⟩ = some (.int .i64 0) := q3 2 _ rfl
      have z3 : w1.cell? ⟨w.heap.size, k * 9 + 3, none⟩ = some (.int .i64 0) := q3 3 _ rfl
      have z4 : w1.cell? ⟨w.heap.size, k * 9 + 4, none⟩ = some (zv4) := q3 4 _ rfl
      have z5 : w1.cell? ⟨w.heap.size, k * 9 + 5, none⟩ = some (.int .i64 0) := q3 5 _ rfl
      have z6 : w1.cell? ⟨w.heap.size, k * 9 + 6, none⟩ = some (.int .i64 0) := q3 6 _ rfl
      have z7 : w1.cell? ⟨w.heap.size, k * 9 + 7, none⟩ = some (zv7) := q3 7 _ rfl
      have z8 : w1.cell? ⟨w.heap.size, k * 9 + 8, none⟩ = some (zv8) := q3 8 _ rfl
      have y0 : w1.frozen? ⟨w.heap.size, k * 9, none⟩ = false := q4 _
      have y1 : w1.frozen? ⟨w.heap.size, k * 9 + 1, none⟩ = false := q4 _
      have y2 : w1.frozen? ⟨w.heap.size, k * 9 + 2, none⟩ = false := q4 _
      have y3 : w1.frozen? ⟨w.heap.size, k * 9 + 3, none⟩ = false := q4 _
      have y4 : w1.frozen? ⟨w.heap.size, k * 9 + 4, none⟩ = false := q4 _
      have y5 : w1.frozen? ⟨w.heap.size, k * 9 + 5, none⟩ = false := q4 _
      have y6 : w1.frozen? ⟨w.heap.size, k * 9 + 6, none⟩ = false := q4 _
      have y7 : w1.frozen? ⟨w.heap.size, k * 9 + 7, none⟩ = false := q4 _
      have y8 : w1.frozen? ⟨w.heap.size, k * 9 + 8, none⟩ = false := q4 _
      have HP := Rp.Row_put HR1 HF.out.1 k hk2 x _ _ m1 (fun b hb hF => by have := m2 b hb; have := FL.out b hF; omega) m3
      rw [HS.out] at HP
      obtain ⟨p4, p7, p8, pF4, pF7, pF8, rfl, rfl, pr4, pr7, pr8⟩ := kRaftNode_open m1
      obtain ⟨pA4, pC4, rfl, _, _⟩ := Rp.Row_K pr4
      obtain ⟨pA7, pC7, rfl, _, _⟩ := Rp.Row_K pr7
      obtain ⟨pA8, pC8, rfl, _, _⟩ := Rp.Row_K pr8
      have HP := Lib.hid HP
      have HB1 := Lib.hid HB1
      have M2 := Lib.hid m2
      clear q0 q2 q3 q4 hgF hgl hk2 HR1 m1 m2 m3 pr4 pr7 pr8
      go_wp2
      obtain ⟨F', p1, p2, p3, p4⟩ := HP.out
      exact ⟨⟨k + 1, by omega, by go_num, ⟨F', p1, p2, fun b hb => by rcases p3 b hb with h | h; exact HF.out.2 b h; have := M2.out b h; have := HB1.out.size; have h5 := FL.out; exact Nat.le_trans (show w.heap.size ≤ wr.heap.size from HBs.out) (M2.out b h)⟩, (Rp.setN_kept (F := F) p4 [.int .i64 x.fId, .int .i64 x.fPeers, .int .i64 x.fTerm, .int .i64 x.fVote, .slice pA4 x.fLog.length pC4, .int .i64 x.fCommit, .int .i64 x.fRole, .slice pA7 x.fVotes.length pC7, .slice pA8 x.fMatch.length pC8] w1 (k * 9) (KeptF.refl _ _) |>.toBelow HB1.out.size HF.out.2 |> HB1.out.trans)⟩, by simp [intOf]; omega⟩
    · go_wp2
      go_ret
      obtain rfl : k = xs.length := by omega
      exact ⟨_, _, rfl, by simpa [fillL_all] using HR.out, HF.out.2, HF.out.1, HB.out⟩

theorem szRaftNodeS_k {x : List DRaftNode} {v : Value} {left : Int} {w : World} (hk : kRaftNodeS.K w x [v]) (h0 : 0 ≤ left) (h1 : left ≤ 140737488355328) (hw : wfRaftNodeS x) : Calls Try.prog 85 #[v, .int .i64 left] w
    fun e w' => e = .returned (.int .i64 (szR (szNRaftNodeS x) left)) ∧ Below w.heap.size w w' := by
  obtain ⟨_, h, g⟩ := kRaftNodeS_read hk
  obtain rfl := (List.cons.inj h).1
  exact szRaftNodeS_calls x left v w g h0 h1 hw.1 hw.2
theorem eqRaftNodeS_k {x : List DRaftNode} {v u : Value} {w : World} (hk : kRaftNodeS.K w x [v]) (hd : kRaftNodeS.K w x [u]) (hs : smRaftNodeS 140737488355328 x) : Calls Try.prog 96 #[v, u] w
    fun e w' => e = .returned (.bool true) ∧ Below w.heap.size w w' := by
  obtain ⟨_, h, g⟩ := kRaftNodeS_read hk
  obtain rfl := (List.cons.inj h).1
  obtain ⟨_, h', g'⟩ := kRaftNodeS_read hd
  obtain rfl := (List.cons.inj h').1
  exact eqRaftNodeS_calls x v u w g g' hs

theorem kRaftMsg_sz : kRaftMsg.sz = 9 := rfl
theorem infoRaftMsg : (Try.prog.info? 50).map (fun i => (i.zero, i.size, i.bytes)) = some (some (.agg #[.int .i64 0, .int .i64 0, .int .i64 0, .int .i64 0, .int .i64 0, .int .i64 0, .slice none 0 0, .int .i64 0, .bool false]), 9, 88) := by kernel_rfl
def zzRaftMsg : DRaftMsg := ⟨0, 0, 0, 0, 0, 0, [], 0, false⟩
theorem kRaftMsg_zero (w : World) : kRaftMsg.M w [] zzRaftMsg [.int .i64 0, .int .i64 0, .int .i64 0, .int .i64 0, .int .i64 0, .int .i64 0, .slice none 0 0, .int .i64 0, .bool false] := by
  have h := kRaftMsg_make (w := w) (x := zzRaftMsg) (F6 := []) (Rp.Row_nil _ _ _)
  exact h
def smRaftMsgS (n : Nat) (xs : List DRaftMsg) : Prop := xs.length ≤ n ∧ ∀ x ∈ xs, smRaftMsg n x
theorem smRaftMsgS_le {n m : Nat} {x : List DRaftMsg} (h : smRaftMsgS n x) (hn : n ≤ m) : smRaftMsgS m x := ⟨Nat.le_trans h.1 hn, fun y hy => smRaftMsg_le (h.2 y hy) hn⟩
def szNRaftMsgS (x : List DRaftMsg) : Nat := szL szNRaftMsg x
theorem sum_memRaftMsg : ∀ {xs : List DRaftMsg} {x : DRaftMsg}, x ∈ xs → szNRaftMsg x ≤ sumN szNRaftMsg xs
  | y :: ys, x, h => by
    rcases List.mem_cons.1 h with rfl | h
    · simp only [sumN]; omega
    · have := sum_memRaftMsg h
      simp only [sumN]; omega
theorem szRaftMsgS_sm {n : Nat} {x : List DRaftMsg} (h : szNRaftMsgS x ≤ n) : smRaftMsgS n x := by
  unfold szNRaftMsgS szL at h
  exact ⟨by omega, fun y hy => szRaftMsg_sm (by have := sum_memRaftMsg hy; omega)⟩
def wfRaftMsgS (x : List DRaftMsg) : Prop := (∀ y ∈ x, wfRaftMsg y) ∧ x.length ≤ 140737488355328
def kRaftMsgS : Rp (List DRaftMsg) := Rp.slice 50 kRaftMsg
theorem kRaftMsgS_read {w : World} {xs : List DRaftMsg} {cs : List Value} (h : kRaftMsgS.K w xs cs) : ∃ v, cs = [v] ∧ kRaftMsg.S w xs v := by
  obtain ⟨A, c, rfl, h1, h2⟩ := h
  exact ⟨_, rfl, A, c, rfl, h1, h2⟩
theorem kRaftMsgS_open {w : World} {F : List Nat} {xs : List DRaftMsg} {cs : List Value} (h : kRaftMsgS.M w F xs cs) : ∃ v, cs = [v] ∧ kRaftMsg.Row 50 w F xs v := h
theorem kRaftMsgS_make {w : World} {F : List Nat} {xs : List DRaftMsg} {v : Value} (h : kRaftMsg.Row 50 w F xs v) : kRaftMsgS.M w F xs [v] := ⟨v, rfl, h⟩

set_option maxHeartbeats 2000000 in
set_option maxRecDepth 100000 in
theorem szRaftMsgS_calls (xs : List DRaftMsg) (left : Int) (v : Value) (w : World) (h : kRaftMsg.S w xs v) (h0 : 0 ≤ left) (h1 : left ≤ 140737488355328) (hw : ∀ x ∈ xs, wfRaftMsg x) (hl : xs.length ≤ 140737488355328) :
    Calls Try.prog 86 #[v, .int .i64 left] w fun e w' => e = .returned (.int .i64 (szR (szL szNRaftMsg xs) left)) ∧ Below w.heap.size w w' := by
  obtain ⟨A, c, rfl, hc, h⟩ := h
  have H := Lib.hid h; clear h
  have HW := Lib.hid hw; clear hw
  have HF := Lib.hid (show ((szL szNRaftMsg xs : Nat) : Int) = xs.length + sumN szNRaftMsg xs by unfold szL; omega)
  by_cases hq : (xs.length : Int) ≤ left
  · go_enter Try.func86, Try.ntmps86
    go_wp2
    go_loopw [1, 5] (fun l i wr => ∃ k : Nat, k ≤ xs.length ∧ i = .int .i64 k ∧ l = .int .i64 (left - xs.length - sumN szNRaftMsg (xs.take k)) ∧ 0 ≤ left - xs.length - sumN szNRaftMsg (xs.take k) ∧ Hid (Below w.heap.size w wr)) (fun _ i _ => xs.length - (intOf i).toNat)
    case atStart => exact ⟨0, Nat.zero_le _, rfl, by simp [sumN], by simp [sumN]; omega, Below.refl _ _⟩
    case round =>
      obtain ⟨k, hk, rfl, rfl, hs, HB⟩ := hrel
      by_cases hlt : k < xs.length
      · obtain ⟨b, o, cs, rfl, k1, q1⟩ := Rp.C_get H.out k hlt
        have KK := Lib.hid k1
        obtain ⟨v6, rfl, _⟩ := kRaftMsg_read k1
        have hx := HW.out xs[k] (List.getElem_mem hlt)
        have hs2 := sumN_take (f := szNRaftMsg) hlt
        have hs3 := sumN_le (f := szNRaftMsg) (xs := xs) (k + 1)
        generalize he : xs[k] = x at *
        generalize hs4 : sumN szNRaftMsg (xs.take (k + 1)) = s1 at *
        generalize hs5 : sumN szNRaftMsg (xs.take k) = s0 at *
        have HE := Lib.hid he; clear he
        have HS4 := Lib.hid hs4; clear hs4
        have HS5 := Lib.hid hs5; clear hs5
        have HS2 := Lib.hid hs2; clear hs2
        have a0 := (World.cell?_of_block (HB.out.block b (World.block_lt_of_cell? w _ (q1 0 _ rfl)))).trans (q1 0 _ rfl)
        simp only [kRaftMsg_sz, Nat.add_zero] at a0
        have a1 := (World.cell?_of_block (HB.out.block b (World.block_lt_of_cell? w _ (q1 0 _ rfl)))).trans (q1 1 _ rfl)
        simp only [kRaftMsg_sz, Nat.add_zero] at a1
        have a2 := (World.cell?_of_block (HB.out.block b (World.block_lt_of_cell? w _ (q1 0 _ rfl)))).trans (q1 2 _ rfl)
        simp only [kRaftMsg_sz, Nat.add_zero] at a2
        have a3 := (World.cell?_of_block (HB.out.block b (World.block_lt_of_cell? w _ (q1 0 _ rfl)))).trans (q1 3 _ rfl)
        simp only [kRaftMsg_sz, Nat.add_zero] at a3
        have a4 := (World.cell?_of_block (HB.out.block b (World.block_lt_of_cell? w _ (q1 0 _ rfl)))).trans (q1 4 _ rfl)
        simp only [kRaftMsg_sz, Nat.add_zero] at a4
        have a5 := (World.cell?_of_block (HB.out.block b (World.block_lt_of_cell? w _ (q1 0 _ rfl)))).trans (q1 5 _ rfl)
        simp only [kRaftMsg_sz, Nat.add_zero] at a5
        have a6 := (World.cell?_of_block (HB.out.block b (World.block_lt_of_cell? w _ (q1 0 _ rfl)))).trans (q1 6 _ rfl)
        simp only [kRaftMsg_sz, Nat.add_zero] at a6
        have a7 := (World.cell?_of_block (HB.out.block b (World.block_lt_of_cell? w _ (q1 0 _ rfl)))).trans (q1 7 _ rfl)
        simp only [kRaftMsg_sz, Nat.add_zero] at a7
        have a8 := (World.cell?_of_block (HB.out.block b (World.block_lt_of_cell? w _ (q1 0 _ rfl)))).trans (q1 8 _ rfl)
        simp only [kRaftMsg_sz, Nat.add_zero] at a8
        clear q1 k1
        have i1 : (0 : Int) ≤ (k : Int) := by omega
        have i2 : (k : Int) < (xs.length : Int) := by omega
        go_wp2_with fail
        (with_reducible refine (szRaftMsg_k (kRaftMsg.K_below HB.out.block KK.out) (by omega) (by omega) hx).mono ?_)
        rintro e w1 ⟨rfl, hb⟩
        have HB1 := Lib.hid (HB.out.trans (hb.mono HB.out.size)); clear hb
        by_cases hy : (szNRaftMsg x : Int) ≤ left - xs.length - s0
        · rw [szR_yes hy]
          go_wp2
          exact ⟨⟨k + 1, by omega, by go_num, by rw [HS4.out, HS2.out]; go_num, by rw [HS4.out, HS2.out]; omega, HB1.out⟩, by simp [intOf]; omega⟩
        · rw [szR_no hy]
          go_wp2
          go_ret
          exact ⟨ret_int (by rw [szR_of HF.out, if_neg (by have := HS2.out; omega)]), HB1.out⟩
      · go_wp2
        go_ret
        obtain rfl : k = xs.length := by omega
        rw [sumN_all] at hs
        exact ⟨ret_int (by rw [szR_of HF.out, if_pos (by omega), sumN_all]; omega), HB.out⟩
  · go_enter Try.func86, Try.ntmps86
    go_wp2
    go_ret
    exact ⟨ret_int (by rw [szR_of HF.out, if_neg (by omega)]), Below.refl _ _⟩

set_option maxHeartbeats 2000000 in
set_option maxRecDepth 100000 in
theorem eqRaftMsgS_calls (xs : List DRaftMsg) (v1 v2 : Value) (w : World) (h1 : kRaftMsg.S w xs v1) (h2 : kRaftMsg.S w xs v2) (hl : smRaftMsgS 140737488355328 xs) :
    Calls Try.prog 15 #[v1, v2] w fun e w' => e = .returned (.bool true) ∧ Below w.heap.size w w' := by
  obtain ⟨A1, c1, rfl, hc1, h1⟩ := h1
  obtain ⟨A2, c2, rfl, hc2, h2⟩ := h2
  have H1 := Lib.hid h1; clear h1
  have H2 := Lib.hid h2; clear h2
  have HL := Lib.hid hl
  have hl1 := hl.1
  clear hl
  go_enter Try.func15, Try.ntmps15
  go_wp2
  go_loopw [5] (fun i wr => ∃ k : Nat, k ≤ xs.length ∧ i = .int .i64 k ∧ Hid (Below w.heap.size w wr)) (fun i _ => xs.length - (intOf i).toNat)
  case atStart => exact ⟨0, Nat.zero_le _, rfl, Below.refl _ _⟩
  case round =>
    obtain ⟨k, hk, rfl, HB⟩ := hrel
    by_cases hlt : k < xs.length
    · obtain ⟨b1, o1, cs1, rfl, k1, q1⟩ := Rp.C_get H1.out k hlt
      obtain ⟨b2, o2, cs2, rfl, k2, q2⟩ := Rp.C_get H2.out k hlt
      have KK1 := Lib.hid k1
      have KK2 := Lib.hid k2
      obtain ⟨v6, rfl, _⟩ := kRaftMsg_read k1
      obtain ⟨u6, rfl, _⟩ := kRaftMsg_read k2
      have hsm := HL.out.2 xs[k] (List.getElem_mem hlt)
      generalize he : xs[k] = x at *
      have HE := Lib.hid he; clear he
      have a10 := regr HB.out (World.block_lt_of_cell? w _ (q1 0 _ rfl)) (q1 0 _ rfl)
      simp only [kRaftMsg_sz, Nat.add_zero] at a10
      have a11 := regr HB.out (World.block_lt_of_cell? w _ (q1 1 _ rfl)) (q1 1 _ rfl)
      simp only [kRaftMsg_sz, Nat.add_zero] at a11
      have a12 := regr HB.out (World.block_lt_of_cell? w _ (q1 2 _ rfl)) (q1 2 _ rfl)
      simp only [kRaftMsg_sz, Nat.add_zero] at a12
      have a13 := regr HB.out (World.block_lt_of_cell? w _ (q1 3 _ rfl)) (q1 3 _ rfl)
      simp only [kRaftMsg_sz, Nat.add_zero] at a13
      have a14 := regr HB.out (World.block_lt_of_cell? w _ (q1 4 _ rfl)) (q1 4 _ rfl)
      simp only [kRaftMsg_sz, Nat.add_zero] at a14
      have a15 := regr HB.out (World.block_lt_of_cell? w _ (q1 5 _ rfl)) (q1 5 _ rfl)
      simp only [kRaftMsg_sz, Nat.add_zero] at a15
      have a16 := regr HB.out (World.block_lt_of_cell? w _ (q1 6 _ rfl)) (q1 6 _ rfl)
      simp only [kRaftMsg_sz, Nat.add_zero] at a16
      have a17 := regr HB.out (World.block_lt_of_cell? w _ (q1 7 _ rfl)) (q1 7 _ rfl)
      simp only [kRaftMsg_sz, Nat.add_zero] at a17
      have a18 := regr HB.out (World.block_lt_of_cell? w _ (q1 8 _ rfl)) (q1 8 _ rfl)
      simp only [kRaftMsg_sz, Nat.add_zero] at a18
      have a20 := regr HB.out (World.block_lt_of_cell? w _ (q2 0 _ rfl)) (q2 0 _ rfl)
      simp only [kRaftMsg_sz, Nat.add_zero] at a20
      have a21 := regr HB.out (World.block_lt_of_cell? w _ (q2 1 _ rfl)) (q2 1 _ rfl)
      simp only [kRaftMsg_sz, Nat.add_zero] at a21
      have a22 := regr HB.out (World.block_lt_of_cell? w _ (q2 2 _ rfl)) (q2 2 _ rfl)
      simp only [kRaftMsg_sz, Nat.add_zero] at a22
      have a23 := regr HB.out (World.block_lt_of_cell? w _ (q2 3 _ rfl)) (q2 3 _ rfl)
      simp only [kRaftMsg_sz, Nat.add_zero] at a23
      have a24 := regr HB.out (World.block_lt_of_cell? w _ (q2 4 _ rfl)) (q2 4 _ rfl)
      simp only [kRaftMsg_sz, Nat.add_zero] at a24
      have a25 := regr HB.out (World.block_lt_of_cell? w _ (q2 5 _ rfl)) (q2 5 _ rfl)
      simp only [kRaftMsg_sz, Nat.add_zero] at a25
      have a26 := regr HB.out (World.block_lt_of_cell? w _ (q2 6 _ rfl)) (q2 6 _ rfl)
      simp only [kRaftMsg_sz, Nat.add_zero] at a26
      have a27 := regr HB.out (World.block_lt_of_cell? w _ (q2 7 _ rfl)) (q2 7 _ rfl)
      simp only [kRaftMsg_sz, Nat.add_zero] at a27
      have a28 := regr HB.out (World.block_lt_of_cell? w _ (q2 8 _ rfl)) (q2 8 _ rfl)
      simp only [kRaftMsg_sz, Nat.add_zero] at a28
      clear q1 q2 k1 k2
      have i1 : (0 : Int) ≤ (k : Int) := by omega
      have i2 : (k : Int) < (xs.length : Int) := by omega
      have c_e : ∀ W : World, Below wr.heap.size wr W → Calls Try.prog 67 #[.agg #[.int .i64 x.fKind, .int .i64 x.fFrom, .int .i64 x.fTo, .int .i64 x.fTerm, .int .i64 x.fIndex, .int .i64 x.fBefore, v6, .int .i64 x.fCommit, .bool x.fYes], .agg #[.int .i64 x.fKind, .int .i64 x.fFrom, .int .i64 x.fTo, .int .i64 x.fTerm, .int .i64 x.fIndex, .int .i64 x.fBefore, u6, .int .i64 x.fCommit, .bool x.fYes]] W (fun e w' => e = .returned (.bool true) ∧ Below W.heap.size W w') := fun W hW => eqRaftMsg_k (kRaftMsg.K_below (HB.out.trans (hW.mono HB.out.size)).block KK1.out) (kRaftMsg.K_below (HB.out.trans (hW.mono HB.out.size)).block KK2.out) hsm
      go_wp2
      refine wp_region_quiet_below (by kernel_rfl) (by kernel_rfl) ?_
      repeat (go_big_quiet_step (with_reducible exact Calls.regrown_of (c_e _ (below_regrown _ _ _))))
      refine wpQuiet_nil ?_
      rintro w1 ⟨p, rfl⟩
      go_wp2
      exact ⟨⟨k + 1, by omega, by go_num, HB.out.trans ((below_regrown _ _ _).mono HB.out.size)⟩, by simp [intOf]; omega⟩
    · go_wp2
      go_ret
      exact ⟨rfl, HB.out⟩

set_option maxHeartbeats 2000000 in
set_option maxRecDepth 100000 in
theorem toRaftMsgS_calls (xs : List DRaftMsg) (v : Value) (w : World) (h : kRaftMsg.S w xs v) (hl : smRaftMsgS 1048576 xs) :
    Calls Try.prog 89 #[v] w fun e w' => ∃ v' F, e = .returned v' ∧ kRaftMsg.Row 50 w' F xs v' ∧ (∀ b ∈ F, w.heap.size ≤ b) ∧ F.Nodup ∧ Below w.heap.size w w' := by
  obtain ⟨A, c, rfl, hc, h⟩ := h
  have H := Lib.hid h; clear h
  have HL := Lib.hid hl
  have hl1 := hl.1
  clear hl
  obtain ⟨w0, hmk, hR, hB, hlt0⟩ := mk_full w 30 50 kRaftMsg zzRaftMsg Try.underlying30 infoRaftMsg rfl (fun w => kRaftMsg_zero w) xs.length hl1 (by decide)
  have HR := Lib.hid hR; clear hR
  have HB := Lib.hid hB; clear hB
  go_enter Try.func89, Try.ntmps89
  go_wp2
  clear hmk
  go_loopw [4] (fun i wr => ∃ k : Nat, k ≤ xs.length ∧ i = .int .i64 k ∧ (∃ F, Hid (kRaftMsg.Row 50 wr F (fillL xs zzRaftMsg k) (.slice (some ⟨w.heap.size, 0, none⟩) xs.length xs.length)) ∧ Hid (F.Nodup ∧ ∀ b ∈ F, w.heap.size ≤ b)) ∧ Hid (Below w.heap.size w wr)) (fun i _ => xs.length - (intOf i).toNat)
  case atStart => exact ⟨0, Nat.zero_le _, rfl, ⟨_, by rw [fillL_zero]; exact HR.out, by simp [Hid]⟩, HB.out⟩
  case round =>
    clear HR HB hlt0
    obtain ⟨k, hk, rfl, ⟨F, HR, HF⟩, HB⟩ := hrel
    by_cases hlt : k < xs.length
    · obtain ⟨b, o, cs, rfl, k1, q1⟩ := Rp.C_get H.out k hlt
      have KK := Lib.hid k1
      obtain ⟨v6, rfl, _⟩ := kRaftMsg_read k1
      have hs := fillL_set (z := zzRaftMsg) hlt
      have hsm := HL.out.2 xs[k] (List.getElem_mem hlt)
      generalize he : xs[k] = x at *
      have HS := Lib.hid hs; clear hs
      have HE := Lib.hid he; clear he
      have a0 := (World.cell?_of_block (HB.out.block b (World.block_lt_of_cell? w _ (q1 0 _ rfl)))).trans (q1 0 _ rfl)
      simp only [kRaftMsg_sz, Nat.add_zero] at a0
      have a1 := (World.cell?_of_block (HB.out.block b (World.block_lt_of_cell? w _ (q1 0 _ rfl)))).trans (q1 1 _ rfl)
      simp only [kRaftMsg_sz, Nat.add_zero] at a1
      have a2 := (World.cell?_of_block (HB.out.block b (World.block_lt_of_cell? w _ (q1 0 _ rfl)))).trans (q1 2 _ rfl)
      simp only [kRaftMsg_sz, Nat.add_zero] at a2
      have a3 := (World.cell?_of_block (HB.out.block b (World.block_lt_of_cell? w _ (q1 0 _ rfl)))).trans (q1 3 _ rfl)
      simp only [kRaftMsg_sz, Nat.add_zero] at a3
      have a4 := (World.cell?_of_block (HB.out.block b (World.block_lt_of_cell? w _ (q1 0 _ rfl)))).trans (q1 4 _ rfl)
      simp only [kRaftMsg_sz, Nat.add_zero] at a4
      have a5 := (World.cell?_of_block (HB.out.block b (World.block_lt_of_cell? w _ (q1 0 _ rfl)))).trans (q1 5 _ rfl)
      simp only [kRaftMsg_sz, Nat.add_zero] at a5
      have a6 := (World.cell?_of_block (HB.out.block b (World.block_lt_of_cell? w _ (q1 0 _ rfl)))).trans (q1 6 _ rfl)
      simp only [kRaftMsg_sz, Nat.add_zero] at a6
      have a7 := (World.cell?_of_block (HB.out.block b (World.block_lt_of_cell? w _ (q1 0 _ rfl)))).trans (q1 7 _ rfl)
      simp only [kRaftMsg_sz, Nat.add_zero] at a7
      have a8 := (World.cell?_of_block (HB.out.block b (World.block_lt_of_cell? w _ (q1 0 _ rfl)))).trans (q1 8 _ rfl)
      simp only [kRaftMsg_sz, Nat.add_zero] at a8
      clear q1 k1
      have i1 : (0 : Int) ≤ (k : Int) := by omega
      have i2 : (k : Int) < (xs.length : Int) := by omega
      go_wp2_with fail
      (with_reducible refine (toRaftMsg_k (kRaftMsg.K_below HB.out.block KK.out) hsm).mono ?_)
      rintro e w1 ⟨ds, F1', rfl, m1, m2, m3, hb⟩
      have FL := Lib.hid (Rp.Row_lt HR.out)
      have HR1 := Rp.Row_below HR.out hb
      have HB1 := HB.out.trans (hb.mono HB.out.size)
      have HBs := Lib.hid HB.out.size
      clear hb HB HR
      have hk2 : k < (fillL xs zzRaftMsg k).length := by rw [fillL_len hk]; exact hlt
      obtain ⟨g, cap, cz, F1, q0, hgF, hgl, q2, _, _, q3, q4⟩ := Rp.Row_open HR1 HF.out.1 k hk2
      rw [fillL_get hlt hk2] at q2
      obtain ⟨zv6, zF6, rfl, rfl, _⟩ := kRaftMsg_open q2
      obtain rfl : w.heap.size = g := by simp at q0; exact q0.1
      have z0 : w1.cell? ⟨w.heap.size, k * 9, none⟩ = some (.int .i64 0) := q3 0 _ rfl
      have z1 : w1.cell? ⟨w.heap.size, k * 9 + 1, none⟩ = some (.int .i64 0) := q3 1 _ rfl
      have z2 : w1.cell? ⟨w.heap.size, k * 9 + 2, none⟩ = some (.int .i64 0) := q3 2 _ rfl
      have z3 : w1.cell? ⟨w.heap.size, k * 9 + 3, none⟩ = some (.int .i64 0) := q3 3 _ rfl
      have z4 : w1.cell? ⟨w.heap.size, k * 9 + 4, none⟩ = some (.int .i64 0) := q3 4 _ rfl
      have z5 : w1.cell? ⟨w.heap.size, k * 9 + 5, none⟩ = some (.int .i64 0) := q3 5 _ rfl
      have z6 : w1.cell? ⟨w.heap.size, k * 9 + 6, none⟩ = some (zv6) := q3 6 _ rfl
      have z7 : w1.cell? ⟨w.heap.size, k * 9 + 7, none⟩ = some (.int .i64 0) := q3 7 _ rfl
      have z8 : w1.cell? ⟨w.heap.size, k * 9 + 8, none⟩ = some (.bool false) := q3 8 _ rfl
      have y0 : w1.frozen? ⟨w.heap.size, k * 9, none⟩ = false := q4 _
      have y1 : w1.frozen? ⟨w.heap.size, k * 9 + 1, none⟩ = false := q4 _
      have y2 : w1.frozen? ⟨w.heap.size, k * 9 + 2, none⟩ = false := q4 _
      have y3 : w1.frozen? ⟨w.heap.size, k * 9 + 3, none⟩ = false := q4 _
      have y4 : w1.frozen? ⟨w.heap.size, k * 9 + 4, none⟩ = false := q4 _
      have y5 : w1.frozen? ⟨w.heap.size, k * 9 + 5, none⟩ = false := q4 _
      have y6 : w1.frozen? ⟨w.heap.size, k * 9 + 6, none⟩ = false := q4 _
      have y7 : w1.frozen? ⟨w.heap.size, k * 9 + 7, none⟩ = false := q4 _
      have y8 : w1.frozen? ⟨w.heap.size, k * 9 + 8, none⟩ = false := q4 _
      have HP := Rp.Row_put HR1 HF.out.1 k hk2 x _ _ m1 (fun b hb hF => by have := m2 b hb; have := FL.out b hF; omega) m3
      rw [HS.out] at HP
      obtain ⟨p6, pF6, rfl, rfl, pr6⟩ := kRaftMsg_open m1
      obtain ⟨pA6, pC6, rfl, _, _⟩ := Rp.Row_K pr6
      have HP := Lib.hid HP
      have HB1 := Lib.hid HB1
      have M2 := Lib.hid m2
      clear q0 q2 q3 q4 hgF hgl hk2 HR1 m1 m2 m3 pr6
      go_wp2
      obtain ⟨F', p1, p2, p3, p4⟩ := HP.out
      exact ⟨⟨k + 1, by omega, by go_num, ⟨F', p1, p2, fun b hb => by rcases p3 b hb with h | h; exact HF.out.2 b h; have := M2.out b h; have := HB1.out.size; have h5 := FL.out; exact Nat.le_trans (show w.heap.size ≤ wr.heap.size from HBs.out) (M2.out b h)⟩, (Rp.setN_kept (F := F) p4 [.int .i64 x.fKind, .int .i64 x.fFrom, .int .i64 x.fTo, .int .i64 x.fTerm, .int .i64 x.fIndex, .int .i64 x.fBefore, .slice pA6 x.fEntries.length pC6, .int .i64 x.fCommit, .bool x.fYes] w1 (k * 9) (KeptF.refl _ _) |>.toBelow HB1.out.size HF.out.2 |> HB1.out.trans)⟩, by simp [intOf]; omega⟩
    · go_wp2
      go_ret
      obtain rfl : k = xs.length := by omega
      exact ⟨_, _, rfl, by simpa [fillL_all] using HR.out, HF.out.2, HF.out.1, HB.out⟩

theorem szRaftMsgS_k {x : List DRaftMsg} {v : Value} {left : Int} {w : World} (hk : kRaftMsgS.K w x [v]) (h0 : 0 ≤ left) (h1 : left ≤ 140737488355328) (hw : wfRaftMsgS x) : Calls Try.prog 86 #[v, .int .i64 left] w
    fun e w' => e = .returned (.int .i64 (szR (szNRaftMsgS x) left)) ∧ Below w.heap.size w w' := by
  obtain ⟨_, h, g⟩ := kRaftMsgS_read hk
  obtain rfl := (List.cons.inj h).1
  exact szRaftMsgS_calls x left v w g h0 h1 hw.1 hw.2
theorem eqRaftMsgS_k {x : List DRaftMsg} {v u : Value} {w : World} (hk : kRaftMsgS.K w x [v]) (hd : kRaftMsgS.K w x [u]) (hs : smRaftMsgS 140737488355328 x) : Calls Try.prog 15 #[v, u] w
    fun e w' => e = .returned (.bool true) ∧ Below w.heap.size w w' := by
  obtain ⟨_, h, g⟩ := kRaftMsgS_read hk
  obtain rfl := (List.cons.inj h).1
  obtain ⟨_, h', g'⟩ := kRaftMsgS_read hd
  obtain rfl := (List.cons.inj h').1
  exact eqRaftMsgS_calls x v u w g g' hs

end Go.Proofs.Ythnjcolbdoaabaa
