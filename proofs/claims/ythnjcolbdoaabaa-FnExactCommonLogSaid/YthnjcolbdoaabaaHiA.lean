/- The highest node by slices.MaxFunc. -/
import Derived.Test.YthnjcolbdoaabaaCluK
namespace Go.Proofs.Ythnjcolbdoaabaa
open Go Go.RowKit Go.Sort
set_option linter.unusedVariables false
set_option linter.unusedSimpArgs false

def cmpI (a b : Int) : Int := if a < b then -1 else if a = b then 0 else 1
def topT (xs : List DRaftNode) : Int := xs.foldl (fun a x => if a < x.fTerm then x.fTerm else a) 0
theorem topT_take {xs : List DRaftNode} {k : Nat} (h : k < xs.length) : topT (xs.take (k + 1)) = if topT (xs.take k) < xs[k].fTerm then xs[k].fTerm else topT (xs.take k) := by
  unfold topT
  rw [List.take_add_one, List.getElem?_eq_getElem h, List.foldl_append]
  rfl
set_option maxHeartbeats 1000000 in
theorem nanI_calls (a : Int) (w : World) : Calls Try.prog 130 #[.int .i64 a] w fun e w' => e = .returned (.bool false) ∧ w' = w := by
  go_enter Try.func130, Try.ntmps130
  go_wp2
  go_ret
  exact ⟨by simp, rfl⟩
set_option maxHeartbeats 1000000 in
theorem cmpI_calls (a b : Int) (w : World) : Calls Try.prog 94 #[.int .i64 a, .int .i64 b] w fun e w' => e = .returned (.int .i64 (cmpI a b)) ∧ w' = w := by
  rcases Int.lt_trichotomy a b with h | h | h
  all_goals
    go_enter Try.func94, Try.ntmps94
    go_wp2_with (with_reducible refine (nanI_calls _ _).mono ?_; rintro e w1 ⟨rfl, rfl⟩)
  all_goals (go_ret; exact ⟨ret_int (by unfold cmpI; split <;> (try split) <;> omega), rfl⟩)
set_option maxHeartbeats 4000000 in
set_option maxRecDepth 100000 in
theorem cloMax_calls (y z : DRaftNode) (A4 A7 A8 B4 B7 B8 : Option Addr) (c4 c7 c8 e4 e7 e8 : Nat) (w : World) : Calls Try.prog 108 #[.agg #[.int .i64 y.fId, .int .i64 y.fPeers, .int .i64 y.fTerm, .int .i64 y.fVote, .slice A4 y.fLog.length c4, .int .i64 y.fCommit, .int .i64 y.fRole, .slice A7 y.fVotes.length c7, .slice A8 y.fMatch.length c8], .agg #[.int .i64 z.fId, .int .i64 z.fPeers, .int .i64 z.fTerm, .int .i64 z.fVote, .slice B4 z.fLog.length e4, .int .i64 z.fCommit, .int .i64 z.fRole, .slice B7 z.fVotes.length e7, .slice B8 z.fMatch.length e8]] w
    fun e w' => e = .returned (.int .i64 (cmpI y.fTerm z.fTerm)) ∧ Below w.heap.size w w' := by
  go_enter Try.func108, Try.ntmps108
  go_wp2_with (with_reducible refine (cmpI_calls y.fTerm z.fTerm _).mono ?_; rintro e wq ⟨rfl, rfl⟩)
  go_ret
  exact ⟨rfl, (Below.alloc ((Below.refl w.heap.size w).alloc (Nat.le_refl _) _) (by simp) _)⟩
set_option maxHeartbeats 4000000 in
set_option maxRecDepth 100000 in
theorem maxN_calls (xs : List DRaftNode) (v : Value) (w : World) (g : kRaftNode.S w xs v) (hl : xs.length ≤ 140737488355328) (hn : 1 ≤ xs.length) (h0 : 0 ≤ xs[0].fTerm) :
    Calls Try.prog 107 #[v, (.func (.func 108) #[] #[])] w
    fun e w' => ∃ (z : DRaftNode) (B4 B7 B8 : Option Addr) (e4 e7 e8 : Nat), e = .returned (.agg #[.int .i64 z.fId, .int .i64 z.fPeers, .int .i64 z.fTerm, .int .i64 z.fVote, .slice B4 z.fLog.length e4, .int .i64 z.fCommit, .int .i64 z.fRole, .slice B7 z.fVotes.length e7, .slice B8 z.fMatch.length e8]) ∧ z.fTerm = topT xs ∧ Below w.heap.size w w' := by
  obtain ⟨A, c, rfl, hc, h⟩ := g
  have H := Lib.hid h; clear h
  obtain ⟨b, o, cs, rfl, k1, q1⟩ := Rp.C_get H.out 0 (by omega)
  obtain ⟨v4, v7, v8, rfl, g4, g7, g8⟩ := kRaftNode_read k1
  obtain ⟨A4, c4, rfl, _, _⟩ := g4; obtain ⟨A7, c7, rfl, _, _⟩ := g7; obtain ⟨A8, c8, rfl, _, _⟩ := g8
  have ht : topT (xs.take 1) = xs[0].fTerm := by
    rw [topT_take (k := 0) (by omega)]
    simp only [List.take_zero]
    show (if (0 : Int) < xs[0].fTerm then xs[0].fTerm else 0) = _
    split <;> omega
  have HT := Lib.hid ht; clear ht h0 k1
  generalize he : xs[0] = y at *
  clear he
  have Q := Lib.hid q1; clear q1
  have a0 := (World.cell?_of_block ((Below.refl w.heap.size w).block b (World.block_lt_of_cell? w _ (Q.out 0 _ rfl)))).trans (Q.out 0 _ rfl)
  simp only [kRaftNode_sz, Nat.add_zero, Nat.zero_mul] at a0
  have a1 := (World.cell?_of_block ((Below.refl w.heap.size w).block b (World.block_lt_of_cell? w _ (Q.out 0 _ rfl)))).trans (Q.out 1 _ rfl)
  simp only [kRaftNode_sz, Nat.add_zero, Nat.zero_mul] at a1
  have a2 := (World.cell?_of_block ((Below.refl w.heap.size w).block b (World.block_lt_of_cell? w _ (Q.out 0 _ rfl)))).trans (Q.out 2 _ rfl)
  simp only [kRaftNode_sz, Nat.add_zero, Nat.zero_mul] at a2
  have a3 := (World.cell?_of_block ((Below.refl w.heap.size w).block b (World.block_lt_of_cell? w _ (Q.out 0 _ rfl)))).trans (Q.out 3 _ rfl)
  simp only [kRaftNode_sz, Nat.add_zero, Nat.zero_mul] at a3
  have a4 := (World.cell?_of_block ((Below.refl w.heap.size w).block b (World.block_lt_of_cell? w _ (Q.out 0 _ rfl)))).trans (Q.out 4 _ rfl)
  simp only [kRaftNode_sz, Nat.add_zero, Nat.zero_mul] at a4
  have a5 := (World.cell?_of_block ((Below.refl w.heap.size w).block b (World.block_lt_of_cell? w _ (Q.out 0 _ rfl)))).trans (Q.out 5 _ rfl)
  simp only [kRaftNode_sz, Nat.add_zero, Nat.zero_mul] at a5
  have a6 := (World.cell?_of_block ((Below.refl w.heap.size w).block b (World.block_lt_of_cell? w _ (Q.out 0 _ rfl)))).trans (Q.out 6 _ rfl)
  simp only [kRaftNode_sz, Nat.add_zero, Nat.zero_mul] at a6
  have a7 := (World.cell?_of_block ((Below.refl w.heap.size w).block b (World.block_lt_of_cell? w _ (Q.out 0 _ rfl)))).trans (Q.out 7 _ rfl)
  simp only [kRaftNode_sz, Nat.add_zero, Nat.zero_mul] at a7
  have a8 := (World.cell?_of_block ((Below.refl w.heap.size w).block b (World.block_lt_of_cell? w _ (Q.out 0 _ rfl)))).trans (Q.out 8 _ rfl)
  simp only [kRaftNode_sz, Nat.add_zero, Nat.zero_mul] at a8
  have BB0 : Box ((w.alloc (.cells #[.int .i64 0, .int .i64 0, .int .i64 0, .int .i64 0, .slice none 0 0, .int .i64 0, .int .i64 0, .slice none 0 0, .slice none 0 0] 29)).alloc (.cells #[.int .i64 y.fId, .int .i64 y.fPeers, .int .i64 y.fTerm, .int .i64 y.fVote, .slice A4 y.fLog.length c4, .int .i64 y.fCommit, .int .i64 y.fRole, .slice A7 y.fVotes.length c7, .slice A8 y.fMatch.length c8] 29)) w.heap.size #[.int .i64 0, .int .i64 0, .int .i64 0, .int .i64 0, .slice none 0 0, .int .i64 0, .int .i64 0, .slice none 0 0, .slice none 0 0] 29 := Box.alloc (Box.new rfl)
  have BB1 : Box ((w.alloc (.cells #[.int .i64 0, .int .i64 0, .int .i64 0, .int .i64 0, .slice none 0 0, .int .i64 0, .int .i64 0, .slice none 0 0, .slice none 0 0] 29)).alloc (.cells #[.int .i64 y.fId, .int .i64 y.fPeers, .int .i64 y.fTerm, .int .i64 y.fVote, .slice A4 y.fLog.length c4, .int .i64 y.fCommit, .int .i64 y.fRole, .slice A7 y.fVotes.length c7, .slice A8 y.fMatch.length c8] 29)) (w.heap.size + 1) #[.int .i64 y.fId, .int .i64 y.fPeers, .int .i64 y.fTerm, .int .i64 y.fVote, .slice A4 y.fLog.length c4, .int .i64 y.fCommit, .int .i64 y.fRole, .slice A7 y.fVotes.length c7, .slice A8 y.fMatch.length c8] 29 := Box.new (by simp)
  have HBB := ((Below.refl w.heap.size w).alloc (Nat.le_refl _) (.cells #[.int .i64 0, .int .i64 0, .int .i64 0, .int .i64 0, .slice none 0 0, .int .i64 0, .int .i64 0, .slice none 0 0, .slice none 0 0] 29)).alloc (by simp) (.cells #[.int .i64 y.fId, .int .i64 y.fPeers, .int .i64 y.fTerm, .int .i64 y.fVote, .slice A4 y.fLog.length c4, .int .i64 y.fCommit, .int .i64 y.fRole, .slice A7 y.fVotes.length c7, .slice A8 y.fMatch.length c8] 29)
  have X0 := Lib.hid BB0; have X1 := Lib.hid BB1; have HBX := Lib.hid HBB
  clear BB0 BB1 HBB
  have ub : b < w.heap.size := World.block_lt_of_cell? w _ a0
  have i0 : ¬ (xs.length : Int) < 1 := by omega
  have i1 : (0 : Int) < (xs.length : Int) := by omega
  go_enter Try.func107, Try.ntmps107
  go_wp2
  go_loopw [6] (fun i wr => ∃ (k : Nat) (z : DRaftNode) (B4 B7 B8 : Option Addr) (e4 e7 e8 : Nat), 1 ≤ k ∧ k ≤ xs.length ∧ i = .int .i64 k ∧ Hid (z.fTerm = topT (xs.take k)) ∧ Hid (Below w.heap.size w wr) ∧ Hid (Box wr w.heap.size #[.int .i64 0, .int .i64 0, .int .i64 0, .int .i64 0, .slice none 0 0, .int .i64 0, .int .i64 0, .slice none 0 0, .slice none 0 0] 29) ∧ Hid (Box wr (w.heap.size + 1) #[.int .i64 z.fId, .int .i64 z.fPeers, .int .i64 z.fTerm, .int .i64 z.fVote, .slice B4 z.fLog.length e4, .int .i64 z.fCommit, .int .i64 z.fRole, .slice B7 z.fVotes.length e7, .slice B8 z.fMatch.length e8] 29)) (fun i _ => xs.length - (intOf i).toNat)
  case atStart => exact ⟨1, y, A4, A7, A8, c4, c7, c8, Nat.le_refl _, hn, rfl, HT.out.symm, HBX.out, X0.out, X1.out⟩
  case round =>
    clear HT X0 X1 HBX Q a0 a1 a2 a3 a4 a5 a6 a7 a8
    obtain ⟨k, z, B4, B7, B8, e4, e7, e8, hk1, hk, rfl, HT, HB, X0, X1⟩ := hrel
    by_cases hlt : k < xs.length
    · obtain ⟨b_, o_, cs, eb, k1, q1⟩ := Rp.C_get H.out k hlt
      obtain ⟨rfl, rfl⟩ : b = b_ ∧ o = o_ := by simpa using eb
      clear eb
      obtain ⟨v4, v7, v8, rfl, g4, g7, g8⟩ := kRaftNode_read k1
      obtain ⟨A4, c4, rfl, _, _⟩ := g4; obtain ⟨A7, c7, rfl, _, _⟩ := g7; obtain ⟨A8, c8, rfl, _, _⟩ := g8
      have hta := topT_take hlt
      rw [← HT.out] at hta
      generalize he : xs[k] = y at *
      clear he k1
      have HTA := Lib.hid hta; clear hta
      have Q := Lib.hid q1; clear q1
      have a0 := regr HB.out (World.block_lt_of_cell? w _ (Q.out 0 _ rfl)) (Q.out 0 _ rfl)
      simp only [kRaftNode_sz, Nat.add_zero] at a0
      have a1 := regr HB.out (World.block_lt_of_cell? w _ (Q.out 1 _ rfl)) (Q.out 1 _ rfl)
      simp only [kRaftNode_sz, Nat.add_zero] at a1
      have a2 := regr HB.out (World.block_lt_of_cell? w _ (Q.out 2 _ rfl)) (Q.out 2 _ rfl)
      simp only [kRaftNode_sz, Nat.add_zero] at a2
      have a3 := regr HB.out (World.block_lt_of_cell? w _ (Q.out 3 _ rfl)) (Q.out 3 _ rfl)
      simp only [kRaftNode_sz, Nat.add_zero] at a3
      have a4 := regr HB.out (World.block_lt_of_cell? w _ (Q.out 4 _ rfl)) (Q.out 4 _ rfl)
      simp only [kRaftNode_sz, Nat.add_zero] at a4
      have a5 := regr HB.out (World.block_lt_of_cell? w _ (Q.out 5 _ rfl)) (Q.out 5 _ rfl)
      simp only [kRaftNode_sz, Nat.add_zero] at a5
      have a6 := regr HB.out (World.block_lt_of_cell? w _ (Q.out 6 _ rfl)) (Q.out 6 _ rfl)
      simp only [kRaftNode_sz, Nat.add_zero] at a6
      have a7 := regr HB.out (World.block_lt_of_cell? w _ (Q.out 7 _ rfl)) (Q.out 7 _ rfl)
      simp only [kRaftNode_sz, Nat.add_zero] at a7
      have a8 := regr HB.out (World.block_lt_of_cell? w _ (Q.out 8 _ rfl)) (Q.out 8 _ rfl)
      simp only [kRaftNode_sz, Nat.add_zero] at a8
      have r0 := regr (Below.refl _ _) X1.out.lt (X1.out.cell 0 (v := .int .i64 z.fId) rfl)
      have r1 := regr (Below.refl _ _) X1.out.lt (X1.out.cell 1 (v := .int .i64 z.fPeers) rfl)
      have r2 := regr (Below.refl _ _) X1.out.lt (X1.out.cell 2 (v := .int .i64 z.fTerm) rfl)
      have r3 := regr (Below.refl _ _) X1.out.lt (X1.out.cell 3 (v := .int .i64 z.fVote) rfl)
      have r4 := regr (Below.refl _ _) X1.out.lt (X1.out.cell 4 (v := .slice B4 z.fLog.length e4) rfl)
      have r5 := regr (Below.refl _ _) X1.out.lt (X1.out.cell 5 (v := .int .i64 z.fCommit) rfl)
      have r6 := regr (Below.refl _ _) X1.out.lt (X1.out.cell 6 (v := .int .i64 z.fRole) rfl)
      have r7 := regr (Below.refl _ _) X1.out.lt (X1.out.cell 7 (v := .slice B7 z.fVotes.length e7) rfl)
      have r8 := regr (Below.refl _ _) X1.out.lt (X1.out.cell 8 (v := .slice B8 z.fMatch.length e8) rfl)
      have i2 : (0 : Int) ≤ (k : Int) := by omega
      have i3 : (k : Int) < (xs.length : Int) := by omega
      have c_m : ∀ W : World, Calls Try.prog 108 #[.agg #[.int .i64 y.fId, .int .i64 y.fPeers, .int .i64 y.fTerm, .int .i64 y.fVote, .slice A4 y.fLog.length c4, .int .i64 y.fCommit, .int .i64 y.fRole, .slice A7 y.fVotes.length c7, .slice A8 y.fMatch.length c8], .agg #[.int .i64 z.fId, .int .i64 z.fPeers, .int .i64 z.fTerm, .int .i64 z.fVote, .slice B4 z.fLog.length e4, .int .i64 z.fCommit, .int .i64 z.fRole, .slice B7 z.fVotes.length e7, .slice B8 z.fMatch.length e8]] W (fun e w' => e = .returned (.int .i64 (cmpI y.fTerm z.fTerm)) ∧ Below W.heap.size W w') := fun W => cloMax_calls y z A4 A7 A8 B4 B7 B8 c4 c7 c8 e4 e7 e8 W
      by_cases hgt : z.fTerm < y.fTerm
      · have hcm : cmpI y.fTerm z.fTerm = 1 := by unfold cmpI; rw [if_neg (by omega), if_neg (by omega)]
        rw [hcm] at c_m
        have HGT := Lib.hid hgt; clear hgt hcm
        go_wp2
        refine wp_region_quiet_below (by kernel_rfl) (by kernel_rfl) ?_
        repeat (go_big_quiet_step (with_reducible exact Calls.regrown_of (c_m _)))
        refine wpQuiet_nil ?_
        rintro w1 ⟨p, rfl⟩
        have HB1 := Lib.hid (HB.out.trans ((below_regrown wr p.d p.os).mono HB.out.size))
        have Y0 := Lib.hid (X0.out.below (below_regrown wr p.d p.os))
        have Y1 := Lib.hid (X1.out.below (below_regrown wr p.d p.os))
        clear X0 X1 a0 r0 a1 r1 a2 r2 a3 r3 a4 r4 a5 r5 a6 r6 a7 r7 a8 r8
        generalize grow (redrawn wr p.d) p.os = w1 at *
        have a0 := (World.cell?_of_block (HB1.out.block b (World.block_lt_of_cell? w _ (Q.out 0 _ rfl)))).trans (Q.out 0 _ rfl)
        simp only [kRaftNode_sz, Nat.add_zero, Nat.zero_mul] at a0
        have a1 := (World.cell?_of_block (HB1.out.block b (World.block_lt_of_cell? w _ (Q.out 0 _ rfl)))).trans (Q.out 1 _ rfl)
        simp only [kRaftNode_sz, Nat.add_zero, Nat.zero_mul] at a1
        have a2 := (World.cell?_of_block (HB1.out.block b (World.block_lt_of_cell? w _ (Q.out 0 _ rfl)))).trans (Q.out 2 _ rfl)
        simp only [kRaftNode_sz, Nat.add_zero, Nat.zero_mul] at a2
        have a3 := (World.cell?_of_block (HB1.out.block b (World.block_lt_of_cell? w _ (Q.out 0 _ rfl)))).trans (Q.out 3 _ rfl)
        simp only [kRaftNode_sz, Nat.add_zero, Nat.zero_mul] at a3
        have a4 := (World.cell?_of_block (HB1.out.block b (World.block_lt_of_cell? w _ (Q.out 0 _ rfl)))).trans (Q.out 4 _ rfl)
        simp only [kRaftNode_sz, Nat.add_zero, Nat.zero_mul] at a4
        have a5 := (World.cell?_of_block (HB1.out.block b (World.block_lt_of_cell? w _ (Q.out 0 _ rfl)))).trans (Q.out 5 _ rfl)
        simp only [kRaftNode_sz, Nat.add_zero, Nat.zero_mul] at a5
        have a6 := (World.cell?_of_block (HB1.out.block b (World.block_lt_of_cell? w _ (Q.out 0 _ rfl)))).trans (Q.out 6 _ rfl)
        simp only [kRaftNode_sz, Nat.add_zero, Nat.zero_mul] at a6
        have a7 := (World.cell?_of_block (HB1.out.block b (World.block_lt_of_cell? w _ (Q.out 0 _ rfl)))).trans (Q.out 7 _ rfl)
        simp only [kRaftNode_sz, Nat.add_zero, Nat.zero_mul] at a7
        have a8 := (World.cell?_of_block (HB1.out.block b (World.block_lt_of_cell? w _ (Q.out 0 _ rfl)))).trans (Q.out 8 _ rfl)
        simp only [kRaftNode_sz, Nat.add_zero, Nat.zero_mul] at a8
        have r0 := Y1.out.cell 0 (v := .int .i64 z.fId) rfl
        have r1 := Y1.out.cell 1 (v := .int .i64 z.fPeers) rfl
        have r2 := Y1.out.cell 2 (v := .int .i64 z.fTerm) rfl
        have r3 := Y1.out.cell 3 (v := .int .i64 z.fVote) rfl
        have r4 := Y1.out.cell 4 (v := .slice B4 z.fLog.length e4) rfl
        have r5 := Y1.out.cell 5 (v := .int .i64 z.fCommit) rfl
        have r6 := Y1.out.cell 6 (v := .int .i64 z.fRole) rfl
        have r7 := Y1.out.cell 7 (v := .slice B7 z.fVotes.length e7) rfl
        have r8 := Y1.out.cell 8 (v := .slice B8 z.fMatch.length e8) rfl
        have fz := Y1.out.fro
        have ul := Y1.out.lt
        go_wp2
        have hk : KeptF [w.heap.size + 1] w1 (Rp.setN w1 (w.heap.size + 1) 0 [.int .i64 y.fId, .int .i64 y.fPeers, .int .i64 y.fTerm, .int .i64 y.fVote, .slice A4 y.fLog.length c4, .int .i64 y.fCommit, .int .i64 y.fRole, .slice A7 y.fVotes.length c7, .slice A8 y.fMatch.length c8]) := Rp.setN_kept (by simp) _ _ _ (KeptF.refl _ _)
        have bf : Box (Rp.setN w1 (w.heap.size + 1) 0 [.int .i64 y.fId, .int .i64 y.fPeers, .int .i64 y.fTerm, .int .i64 y.fVote, .slice A4 y.fLog.length c4, .int .i64 y.fCommit, .int .i64 y.fRole, .slice A7 y.fVotes.length c7, .slice A8 y.fMatch.length c8]) (w.heap.size + 1) #[.int .i64 y.fId, .int .i64 y.fPeers, .int .i64 y.fTerm, .int .i64 y.fVote, .slice A4 y.fLog.length c4, .int .i64 y.fCommit, .int .i64 y.fRole, .slice A7 y.fVotes.length c7, .slice A8 y.fMatch.length c8] 29 := by
          have h := Box.setN [.int .i64 y.fId, .int .i64 y.fPeers, .int .i64 y.fTerm, .int .i64 y.fVote, .slice A4 y.fLog.length c4, .int .i64 y.fCommit, .int .i64 y.fRole, .slice A7 y.fVotes.length c7, .slice A8 y.fMatch.length c8] Y1.out 0
          rw [setA_all (by rfl)] at h
          exact h
        have bz : Box (Rp.setN w1 (w.heap.size + 1) 0 [.int .i64 y.fId, .int .i64 y.fPeers, .int .i64 y.fTerm, .int .i64 y.fVote, .slice A4 y.fLog.length c4, .int .i64 y.fCommit, .int .i64 y.fRole, .slice A7 y.fVotes.length c7, .slice A8 y.fMatch.length c8]) w.heap.size #[.int .i64 0, .int .i64 0, .int .i64 0, .int .i64 0, .slice none 0 0, .int .i64 0, .int .i64 0, .slice none 0 0, .slice none 0 0] 29 := Box.setN_other Y0.out _ _ _ (by omega)
        exact ⟨⟨k + 1, y, A4, A7, A8, c4, c7, c8, by omega, by omega, by go_num, by rw [Hid, HTA.out, if_pos HGT.out], HB1.out.trans (hk.toBelow HB1.out.size (by simp)), bz, bf⟩, by simp [intOf]; omega⟩
      · have hcm : cmpI y.fTerm z.fTerm = -1 ∨ cmpI y.fTerm z.fTerm = 0 := by unfold cmpI; split; exact .inl rfl; rw [if_pos (by omega)]; exact .inr rfl
        have HGT := Lib.hid (Int.not_lt.1 hgt); clear hgt
        rcases hcm with hcm | hcm
        all_goals
          rw [hcm] at c_m
          clear hcm
          go_wp2
          refine wp_region_quiet_below (by kernel_rfl) (by kernel_rfl) ?_
          repeat (go_big_quiet_step (with_reducible exact Calls.regrown_of (c_m _)))
          refine wpQuiet_nil ?_
          rintro w1 ⟨p, rfl⟩
          have HB1 := Lib.hid (HB.out.trans ((below_regrown wr p.d p.os).mono HB.out.size))
          have Y0 := Lib.hid (X0.out.below (below_regrown wr p.d p.os))
          have Y1 := Lib.hid (X1.out.below (below_regrown wr p.d p.os))
          clear X0 X1 a0 r0 a1 r1 a2 r2 a3 r3 a4 r4 a5 r5 a6 r6 a7 r7 a8 r8
          generalize grow (redrawn wr p.d) p.os = w1 at *
          go_wp2
          exact ⟨⟨k + 1, z, B4, B7, B8, e4, e7, e8, by omega, by omega, by go_num, by rw [Hid, HTA.out, if_neg (Int.not_lt.2 HGT.out)], HB1.out, Y0.out, Y1.out⟩, by simp [intOf]; omega⟩
    · obtain rfl : k = xs.length := by omega
      have r0 := X1.out.cell 0 (v := .int .i64 z.fId) rfl
      have r1 := X1.out.cell 1 (v := .int .i64 z.fPeers) rfl
      have r2 := X1.out.cell 2 (v := .int .i64 z.fTerm) rfl
      have r3 := X1.out.cell 3 (v := .int .i64 z.fVote) rfl
      have r4 := X1.out.cell 4 (v := .slice B4 z.fLog.length e4) rfl
      have r5 := X1.out.cell 5 (v := .int .i64 z.fCommit) rfl
      have r6 := X1.out.cell 6 (v := .int .i64 z.fRole) rfl
      have r7 := X1.out.cell 7 (v := .slice B7 z.fVotes.length e7) rfl
      have r8 := X1.out.cell 8 (v := .slice B8 z.fMatch.length e8) rfl
      have s0 := X0.out.cell 0 (v := .int .i64 0) rfl
      have s1 := X0.out.cell 1 (v := .int .i64 0) rfl
      have s2 := X0.out.cell 2 (v := .int .i64 0) rfl
      have s3 := X0.out.cell 3 (v := .int .i64 0) rfl
      have s4 := X0.out.cell 4 (v := .slice none 0 0) rfl
      have s5 := X0.out.cell 5 (v := .int .i64 0) rfl
      have s6 := X0.out.cell 6 (v := .int .i64 0) rfl
      have s7 := X0.out.cell 7 (v := .slice none 0 0) rfl
      have s8 := X0.out.cell 8 (v := .slice none 0 0) rfl
      have fz := X0.out.fro
      go_wp2
      have hk : KeptF [w.heap.size] wr (Rp.setN wr w.heap.size 0 [.int .i64 z.fId, .int .i64 z.fPeers, .int .i64 z.fTerm, .int .i64 z.fVote, .slice B4 z.fLog.length e4, .int .i64 z.fCommit, .int .i64 z.fRole, .slice B7 z.fVotes.length e7, .slice B8 z.fMatch.length e8]) := Rp.setN_kept (by simp) _ _ _ (KeptF.refl _ _)
      have bf : Box (Rp.setN wr w.heap.size 0 [.int .i64 z.fId, .int .i64 z.fPeers, .int .i64 z.fTerm, .int .i64 z.fVote, .slice B4 z.fLog.length e4, .int .i64 z.fCommit, .int .i64 z.fRole, .slice B7 z.fVotes.length e7, .slice B8 z.fMatch.length e8]) w.heap.size #[.int .i64 z.fId, .int .i64 z.fPeers, .int .i64 z.fTerm, .int .i64 z.fVote, .slice B4 z.fLog.length e4, .int .i64 z.fCommit, .int .i64 z.fRole, .slice B7 z.fVotes.length e7, .slice B8 z.fMatch.length e8] 29 := by
        have h := Box.setN [.int .i64 z.fId, .int .i64 z.fPeers, .int .i64 z.fTerm, .int .i64 z.fVote, .slice B4 z.fLog.length e4, .int .i64 z.fCommit, .int .i64 z.fRole, .slice B7 z.fVotes.length e7, .slice B8 z.fMatch.length e8] X0.out 0
        rw [setA_all (by rfl)] at h
        exact h
      have hT := HT.out
      rw [List.take_length] at hT
      change bodyPost _ _ _ _ _ (Rp.setN wr w.heap.size 0 [.int .i64 z.fId, .int .i64 z.fPeers, .int .i64 z.fTerm, .int .i64 z.fVote, .slice B4 z.fLog.length e4, .int .i64 z.fCommit, .int .i64 z.fRole, .slice B7 z.fVotes.length e7, .slice B8 z.fMatch.length e8])
      clear fz r0 s0 r1 s1 r2 s2 r3 s3 r4 s4 r5 s5 r6 s6 r7 s7 r8 s8
      generalize Rp.setN wr w.heap.size 0 [.int .i64 z.fId, .int .i64 z.fPeers, .int .i64 z.fTerm, .int .i64 z.fVote, .slice B4 z.fLog.length e4, .int .i64 z.fCommit, .int .i64 z.fRole, .slice B7 z.fVotes.length e7, .slice B8 z.fMatch.length e8] = wf at *
      have d0 := bf.cell 0 (v := .int .i64 z.fId) rfl
      have d1 := bf.cell 1 (v := .int .i64 z.fPeers) rfl
      have d2 := bf.cell 2 (v := .int .i64 z.fTerm) rfl
      have d3 := bf.cell 3 (v := .int .i64 z.fVote) rfl
      have d4 := bf.cell 4 (v := .slice B4 z.fLog.length e4) rfl
      have d5 := bf.cell 5 (v := .int .i64 z.fCommit) rfl
      have d6 := bf.cell 6 (v := .int .i64 z.fRole) rfl
      have d7 := bf.cell 7 (v := .slice B7 z.fVotes.length e7) rfl
      have d8 := bf.cell 8 (v := .slice B8 z.fMatch.length e8) rfl
      exact bodyPost_ret (v := .agg #[.int .i64 z.fId, .int .i64 z.fPeers, .int .i64 z.fTerm, .int .i64 z.fVote, .slice B4 z.fLog.length e4, .int .i64 z.fCommit, .int .i64 z.fRole, .slice B7 z.fVotes.length e7, .slice B8 z.fMatch.length e8]) (by simp [results, Try.results107, go_sem, d0, d1, d2, d3, d4, d5, d6, d7, d8]) rfl ⟨z, B4, B7, B8, e4, e7, e8, rfl, hT, HB.out.trans (hk.toBelow HB.out.size (by simp))⟩
end Go.Proofs.Ythnjcolbdoaabaa
