/- The laws' own functions of some types, one by one. -/
import Derived.Test.YtcimnhpgackciaaN1
import Derived.Test.YtcimnhpgackciaaKitB
namespace Go.Proofs.Ytcimnhpgackciaa
open Go Go.RowKit Go.Sort
set_option linter.unusedVariables false
set_option linter.unusedSimpArgs false

structure DRaftNode where
  fId : Int
  fPeers : Int
  fTerm : Int
  fVote : Int
  fLog : List (DEntry)
  fCommit : Int
  fRole : Int
  fVotes : List (Int)
  fMatch : List (Int)
def kRaftNode : Rp DRaftNode := Rp.iso (Rp.pair (Rp.int .i64) (Rp.pair (Rp.int .i64) (Rp.pair (Rp.int .i64) (Rp.pair (Rp.int .i64) (Rp.pair (Rp.slice 59 kEntry) (Rp.pair (Rp.int .i64) (Rp.pair (Rp.int .i64) (Rp.pair (Rp.slice 3 (Rp.int .i64)) (Rp.slice 3 (Rp.int .i64)))))))))) (fun x => (x.fId, x.fPeers, x.fTerm, x.fVote, x.fLog, x.fCommit, x.fRole, x.fVotes, x.fMatch))
def szNRaftNode (x : DRaftNode) : Nat := szL szNEntry x.fLog + szL (fun _ => 0) x.fVotes + szL (fun _ => 0) x.fMatch
def wfRaftNode (x : DRaftNode) : Prop := ((∀ y ∈ x.fLog, wfEntry y) ∧ x.fLog.length ≤ 140737488355328) ∧ ((∀ y ∈ x.fVotes, (fun _ => True) y) ∧ x.fVotes.length ≤ 140737488355328) ∧ ((∀ y ∈ x.fMatch, (fun _ => True) y) ∧ x.fMatch.length ≤ 140737488355328)

set_option maxHeartbeats 1000000 in
set_option maxRecDepth 100000 in
theorem szRaftNode_calls (x : DRaftNode) (v4 v7 v8 : Value) (left : Int) (w : World) (g4 : kEntry.S w x.fLog v4) (g7 : (Rp.int .i64).S w x.fVotes v7) (g8 : (Rp.int .i64).S w x.fMatch v8) (h0 : 0 ≤ left) (h1 : left ≤ 140737488355328) (hw : wfRaftNode x) : Calls Try.prog 4 #[.agg #[.int .i64 x.fId, .int .i64 x.fPeers, .int .i64 x.fTerm, .int .i64 x.fVote, v4, .int .i64 x.fCommit, .int .i64 x.fRole, v7, v8], .int .i64 left] w
    fun e w' => e = .returned (.int .i64 (szR (szNRaftNode x) left)) ∧ Below w.heap.size w w' := by
  have HF := Lib.hid (show (szNRaftNode x : Int) = (szL szNEntry x.fLog : Int) + (szL (fun _ => 0) x.fVotes : Int) + (szL (fun _ => 0) x.fMatch : Int) by unfold szNRaftNode; omega)
  obtain ⟨⟨u4, l4⟩, ⟨u7, l7⟩, ⟨u8, l8⟩⟩ := hw
  have G4 := Lib.hid g4; clear g4
  have U4 := Lib.hid u4; clear u4
  have G7 := Lib.hid g7; clear g7
  have U7 := Lib.hid u7; clear u7
  have G8 := Lib.hid g8; clear g8
  have U8 := Lib.hid u8; clear u8
  go_enter Try.func4, Try.ntmps4
  go_wp2_with fail
  (with_reducible refine (szEntryS_calls x.fLog _ v4 _ (by first | exact Rp.S_below G4.out (Below.alloc (Below.refl _ _) (Nat.le_refl _) _) | exact Rp.S_below G4.out HB.out) (by omega) (by omega) U4.out l4).mono ?_)
  rintro e w4 ⟨rfl, hb⟩
  have B0 : Box _ w.heap.size #[.int .i64 x.fId, .int .i64 x.fPeers, .int .i64 x.fTerm, .int .i64 x.fVote, v4, .int .i64 x.fCommit, .int .i64 x.fRole, v7, v8] 25 := Box.below (Box.new rfl) hb
  have HB4 := Lib.hid (Below.trans (Below.alloc (Below.refl w.heap.size w) (Nat.le_refl _) _) (hb.mono (by simp)))
  clear hb
  have e4 := Int.natCast_nonneg (szL szNEntry x.fLog)
  by_cases q4 : (szL szNEntry x.fLog : Int) ≤ left
  · rw [szR_yes q4]
    have c4_7 := B0.cell 7 (v := v7) rfl
    have c4_8 := B0.cell 8 (v := v8) rfl
    go_wp2_with fail
    (with_reducible refine (szIntS_calls x.fVotes _ v7 _ (by first | exact Rp.S_below G7.out (Below.alloc (Below.refl _ _) (Nat.le_refl _) _) | exact Rp.S_below G7.out HB4.out) (by omega) (by omega) U7.out l7).mono ?_)
    rintro e w7 ⟨rfl, hb⟩
    have B0 := Box.below B0 hb
    have HB7 := Lib.hid (HB4.out.trans (hb.mono HB4.out.size))
    clear hb
    have e7 := Int.natCast_nonneg (szL (fun _ => 0) x.fVotes)
    by_cases q7 : (szL (fun _ => 0) x.fVotes : Int) ≤ left - szL szNEntry x.fLog
    · rw [szR_yes q7]
      have c7_8 := B0.cell 8 (v := v8) rfl
      go_wp2_with fail
      (with_reducible refine (szIntS_calls x.fMatch _ v8 _ (by first | exact Rp.S_below G8.out (Below.alloc (Below.refl _ _) (Nat.le_refl _) _) | exact Rp.S_below G8.out HB7.out) (by omega) (by omega) U8.out l8).mono ?_)
      rintro e w8 ⟨rfl, hb⟩
      have B0 := Box.below B0 hb
      have HB8 := Lib.hid (HB7.out.trans (hb.mono HB7.out.size))
      clear hb
      have e8 := Int.natCast_nonneg (szL (fun _ => 0) x.fMatch)
      by_cases q8 : (szL (fun _ => 0) x.fMatch : Int) ≤ left - szL szNEntry x.fLog - szL (fun _ => 0) x.fVotes
      · rw [szR_yes q8]
        clear B0
        go_wp2
        all_goals (go_ret; exact ⟨ret_int (by rw [szR_of HF.out]; first | (rw [if_pos (by omega)]; try omega) | (rw [if_neg (by omega)])), HB8.out⟩)
      · rw [szR_no q8]
        go_wp2
        all_goals (go_ret; exact ⟨ret_int (by rw [szR_of HF.out]; first | (rw [if_pos (by omega)]; try omega) | (rw [if_neg (by omega)])), HB8.out⟩)
    · rw [szR_no q7]
      go_wp2
      all_goals (go_ret; exact ⟨ret_int (by rw [szR_of HF.out]; first | (rw [if_pos (by omega)]; try omega) | (rw [if_neg (by omega)])), HB7.out⟩)
  · rw [szR_no q4]
    go_wp2
    all_goals (go_ret; exact ⟨ret_int (by rw [szR_of HF.out]; first | (rw [if_pos (by omega)]; try omega) | (rw [if_neg (by omega)])), HB4.out⟩)

set_option maxHeartbeats 1000000 in
set_option maxRecDepth 100000 in
theorem eqRaftNode_calls (x : DRaftNode) (v4 v7 v8 u4 u7 u8 : Value) (w : World) (g4 : kEntry.S w x.fLog v4) (g7 : (Rp.int .i64).S w x.fVotes v7) (g8 : (Rp.int .i64).S w x.fMatch v8) (d4 : kEntry.S w x.fLog u4) (d7 : (Rp.int .i64).S w x.fVotes u7) (d8 : (Rp.int .i64).S w x.fMatch u8) (hl : x.fLog.length ≤ 140737488355328 ∧ x.fVotes.length ≤ 140737488355328 ∧ x.fMatch.length ≤ 140737488355328) : Calls Try.prog 8 #[.agg #[.int .i64 x.fId, .int .i64 x.fPeers, .int .i64 x.fTerm, .int .i64 x.fVote, v4, .int .i64 x.fCommit, .int .i64 x.fRole, v7, v8], .agg #[.int .i64 x.fId, .int .i64 x.fPeers, .int .i64 x.fTerm, .int .i64 x.fVote, u4, .int .i64 x.fCommit, .int .i64 x.fRole, u7, u8]] w
    fun e w' => e = .returned (.bool true) ∧ Below w.heap.size w w' := by
  obtain ⟨l4, l7, l8⟩ := hl
  have G4 := Lib.hid g4; clear g4
  have D4 := Lib.hid d4; clear d4
  have G7 := Lib.hid g7; clear g7
  have D7 := Lib.hid d7; clear d7
  have G8 := Lib.hid g8; clear g8
  have D8 := Lib.hid d8; clear d8
  go_enter Try.func8, Try.ntmps8
  go_wp2_with fail
  (with_reducible refine (eqEntryS_calls x.fLog v4 u4 _ (by first | exact Rp.S_below G4.out (((Below.refl _ _).alloc (Nat.le_refl _) _).alloc (by simp) _) | exact Rp.S_below G4.out HB.out) (by first | exact Rp.S_below D4.out (((Below.refl _ _).alloc (Nat.le_refl _) _).alloc (by simp) _) | exact Rp.S_below D4.out HB.out) l4).mono ?_)
  rintro e w4 ⟨rfl, hb⟩
  have B0 : Box _ w.heap.size #[.int .i64 x.fId, .int .i64 x.fPeers, .int .i64 x.fTerm, .int .i64 x.fVote, v4, .int .i64 x.fCommit, .int .i64 x.fRole, v7, v8] 29 := Box.below (Box.alloc (Box.new rfl)) hb
  have B1 : Box _ (w.heap.size + 1) #[.int .i64 x.fId, .int .i64 x.fPeers, .int .i64 x.fTerm, .int .i64 x.fVote, u4, .int .i64 x.fCommit, .int .i64 x.fRole, u7, u8] 29 := Box.below (Box.new (by simp)) hb
  have HB4 := Lib.hid (Below.trans (((Below.refl w.heap.size w).alloc (Nat.le_refl _) _).alloc (by simp) _) (hb.mono (by simp; omega)))
  clear hb
  have c4_0_5 := B0.cell 5 (v := .int .i64 x.fCommit) rfl
  have c4_1_5 := B1.cell 5 (v := .int .i64 x.fCommit) rfl
  have c4_0_6 := B0.cell 6 (v := .int .i64 x.fRole) rfl
  have c4_1_6 := B1.cell 6 (v := .int .i64 x.fRole) rfl
  have c4_0_7 := B0.cell 7 (v := v7) rfl
  have c4_1_7 := B1.cell 7 (v := u7) rfl
  have c4_0_8 := B0.cell 8 (v := v8) rfl
  have c4_1_8 := B1.cell 8 (v := u8) rfl
  go_wp2_with fail
  (with_reducible refine (eqIntS_calls x.fVotes v7 u7 _ (by first | exact Rp.S_below G7.out (((Below.refl _ _).alloc (Nat.le_refl _) _).alloc (by simp) _) | exact Rp.S_below G7.out HB4.out) (by first | exact Rp.S_below D7.out (((Below.refl _ _).alloc (Nat.le_refl _) _).alloc (by simp) _) | exact Rp.S_below D7.out HB4.out) l7).mono ?_)
  rintro e w7 ⟨rfl, hb⟩
  have B0 := Box.below B0 hb
  have B1 := Box.below B1 hb
  have HB7 := Lib.hid (HB4.out.trans (hb.mono HB4.out.size))
  clear hb
  have c7_0_8 := B0.cell 8 (v := v8) rfl
  have c7_1_8 := B1.cell 8 (v := u8) rfl
  go_wp2_with fail
  (with_reducible refine (eqIntS_calls x.fMatch v8 u8 _ (by first | exact Rp.S_below G8.out (((Below.refl _ _).alloc (Nat.le_refl _) _).alloc (by simp) _) | exact Rp.S_below G8.out HB7.out) (by first | exact Rp.S_below D8.out (((Below.refl _ _).alloc (Nat.le_refl _) _).alloc (by simp) _) | exact Rp.S_below D8.out HB7.out) l8).mono ?_)
  rintro e w8 ⟨rfl, hb⟩
  have B0 := Box.below B0 hb
  have B1 := Box.below B1 hb
  have HB8 := Lib.hid (HB7.out.trans (hb.mono HB7.out.size))
  clear hb
  clear B0 B1
  go_wp2
  go_ret
  exact ⟨rfl, HB8.out⟩

theorem kRaftNode_open {w : World} {F : List Nat} {x : DRaftNode} {cs : List Value} (h : kRaftNode.M w F x cs) : ∃ v4 v7 v8 F4 F7 F8, cs = [.int .i64 x.fId, .int .i64 x.fPeers, .int .i64 x.fTerm, .int .i64 x.fVote, v4, .int .i64 x.fCommit, .int .i64 x.fRole, v7, v8] ∧ F = F4 ++ (F7 ++ (F8)) ∧ kEntry.Row 59 w F4 x.fLog v4 ∧ (Rp.int .i64).Row 3 w F7 x.fVotes v7 ∧ (Rp.int .i64).Row 3 w F8 x.fMatch v8 := by
  obtain ⟨_, _, _, _, rfl, rfl, ⟨rfl, rfl⟩, ⟨_, _, _, _, rfl, rfl, ⟨rfl, rfl⟩, ⟨_, _, _, _, rfl, rfl, ⟨rfl, rfl⟩, ⟨_, _, _, _, rfl, rfl, ⟨rfl, rfl⟩, ⟨_, _, _, _, rfl, rfl, ⟨v4, rfl, r4⟩, ⟨_, _, _, _, rfl, rfl, ⟨rfl, rfl⟩, ⟨_, _, _, _, rfl, rfl, ⟨rfl, rfl⟩, ⟨_, _, _, _, rfl, rfl, ⟨v7, rfl, r7⟩, ⟨v8, rfl, r8⟩⟩⟩⟩⟩⟩⟩⟩⟩ := h
  exact ⟨v4, v7, v8, _, _, _, rfl, by simp, r4, r7, r8⟩
theorem kRaftNode_read {w : World} {x : DRaftNode} {cs : List Value} (h : kRaftNode.K w x cs) : ∃ v4 v7 v8, cs = [.int .i64 x.fId, .int .i64 x.fPeers, .int .i64 x.fTerm, .int .i64 x.fVote, v4, .int .i64 x.fCommit, .int .i64 x.fRole, v7, v8] ∧ kEntry.S w x.fLog v4 ∧ (Rp.int .i64).S w x.fVotes v7 ∧ (Rp.int .i64).S w x.fMatch v8 := by
  obtain ⟨_, _, rfl, rfl, ⟨_, _, rfl, rfl, ⟨_, _, rfl, rfl, ⟨_, _, rfl, rfl, ⟨_, _, rfl, ⟨A4, c4, rfl, e4, r4⟩, ⟨_, _, rfl, rfl, ⟨_, _, rfl, rfl, ⟨_, _, rfl, ⟨A7, c7, rfl, e7, r7⟩, ⟨A8, c8, rfl, e8, r8⟩⟩⟩⟩⟩⟩⟩⟩⟩ := h
  exact ⟨_, _, _, rfl, ⟨A4, c4, rfl, e4, r4⟩, ⟨A7, c7, rfl, e7, r7⟩, ⟨A8, c8, rfl, e8, r8⟩⟩
theorem kRaftNode_make {w : World} {x : DRaftNode} {v4 v7 v8 : Value} {F4 F7 F8 : List Nat} (r4 : kEntry.Row 59 w F4 x.fLog v4) (r7 : (Rp.int .i64).Row 3 w F7 x.fVotes v7) (r8 : (Rp.int .i64).Row 3 w F8 x.fMatch v8) : kRaftNode.M w (F4 ++ (F7 ++ (F8))) x [.int .i64 x.fId, .int .i64 x.fPeers, .int .i64 x.fTerm, .int .i64 x.fVote, v4, .int .i64 x.fCommit, .int .i64 x.fRole, v7, v8] :=
  ⟨[.int .i64 x.fId], [.int .i64 x.fPeers, .int .i64 x.fTerm, .int .i64 x.fVote, v4, .int .i64 x.fCommit, .int .i64 x.fRole, v7, v8], [], F4 ++ F7 ++ F8, rfl, by simp, ⟨rfl, rfl⟩, ⟨[.int .i64 x.fPeers], [.int .i64 x.fTerm, .int .i64 x.fVote, v4, .int .i64 x.fCommit, .int .i64 x.fRole, v7, v8], [], F4 ++ F7 ++ F8, rfl, by simp, ⟨rfl, rfl⟩, ⟨[.int .i64 x.fTerm], [.int .i64 x.fVote, v4, .int .i64 x.fCommit, .int .i64 x.fRole, v7, v8], [], F4 ++ F7 ++ F8, rfl, by simp, ⟨rfl, rfl⟩, ⟨[.int .i64 x.fVote], [v4, .int .i64 x.fCommit, .int .i64 x.fRole, v7, v8], [], F4 ++ F7 ++ F8, rfl, by simp, ⟨rfl, rfl⟩, ⟨[v4], [.int .i64 x.fCommit, .int .i64 x.fRole, v7, v8], F4, F7 ++ F8, rfl, by simp, ⟨v4, rfl, r4⟩, ⟨[.int .i64 x.fCommit], [.int .i64 x.fRole, v7, v8], [], F7 ++ F8, rfl, by simp, ⟨rfl, rfl⟩, ⟨[.int .i64 x.fRole], [v7, v8], [], F7 ++ F8, rfl, by simp, ⟨rfl, rfl⟩, ⟨[v7], [v8], F7, F8, rfl, by simp, ⟨v7, rfl, r7⟩, ⟨v8, rfl, r8⟩⟩⟩⟩⟩⟩⟩⟩⟩

set_option maxHeartbeats 1000000 in
set_option maxRecDepth 100000 in
theorem toRaftNode_calls (x : DRaftNode) (v4 v7 v8 : Value) (w : World) (g4 : kEntry.S w x.fLog v4) (g7 : (Rp.int .i64).S w x.fVotes v7) (g8 : (Rp.int .i64).S w x.fMatch v8) (hl : x.fLog.length ≤ 1048576 ∧ x.fVotes.length ≤ 1048576 ∧ x.fMatch.length ≤ 1048576) : Calls Try.prog 6 #[.agg #[.int .i64 x.fId, .int .i64 x.fPeers, .int .i64 x.fTerm, .int .i64 x.fVote, v4, .int .i64 x.fCommit, .int .i64 x.fRole, v7, v8]] w
    fun e w' => ∃ cs F, e = .returned (.agg cs.toArray) ∧ kRaftNode.M w' F x cs ∧ (∀ b ∈ F, w.heap.size ≤ b) ∧ F.Nodup ∧ Below w.heap.size w w' := by
  obtain ⟨l4, l7, l8⟩ := hl
  have G4 := Lib.hid g4; clear g4
  have G7 := Lib.hid g7; clear g7
  have G8 := Lib.hid g8; clear g8
  go_enter Try.func6, Try.ntmps6
  go_wp2_with fail
  (with_reducible refine (toEntryS_calls x.fLog v4 _ (Rp.S_below G4.out ((((Below.refl _ _).alloc (Nat.le_refl _) _).alloc (by simp) _).alloc (by simp; omega) _)) l4).mono ?_)
  rintro e w4 ⟨p4, F4, rfl, hr, hfr, hnd, hb⟩
  have B0 : Box _ w.heap.size #[.int .i64 x.fId, .int .i64 x.fPeers, .int .i64 x.fTerm, .int .i64 x.fVote, v4, .int .i64 x.fCommit, .int .i64 x.fRole, v7, v8] 25 := Box.below (Box.alloc (Box.alloc (Box.new rfl))) hb
  have B1 : Box _ (w.heap.size + 1) #[.int .i64 0, .int .i64 0, .int .i64 0, .int .i64 0, .slice none 0 0, .int .i64 0, .int .i64 0, .slice none 0 0, .slice none 0 0] 29 := Box.below (Box.alloc (Box.new (by simp))) hb
  have B2 : Box _ (w.heap.size + 1 + 1) #[.int .i64 x.fId, .int .i64 x.fPeers, .int .i64 x.fTerm, .int .i64 x.fVote, .slice none 0 0, .int .i64 0, .int .i64 0, .slice none 0 0, .slice none 0 0] 29 := Box.below (Box.new (by simp)) hb
  have SZB := Lib.hid (show w.heap.size + 1 + 1 + 1 ≤ w4.heap.size by simpa using hb.size)
  have hB4 := Below.trans ((((Below.refl w.heap.size w).alloc (Nat.le_refl _) _).alloc (by simp) _).alloc (by simp; omega) _) (hb.mono (by simp; omega))
  have hf4 : ∀ b ∈ F4, w.heap.size + 1 + 1 + 1 ≤ b := by simpa using hfr
  have HB4 := Lib.hid hB4; clear hB4
  have Lt4 : ∀ b ∈ F4, b < w4.heap.size := Rp.Row_lt hr
  have LT4 := Lib.hid Lt4; clear Lt4
  obtain ⟨pa4, pc4, rfl, _, _⟩ := Rp.Row_K hr
  have hr4 := hr; clear hr
  have hn4 := Lib.hid hnd; clear hnd hfr hb
  have HF4 := Lib.hid hf4
  have c4_1_0 := B1.cell 0 (v := .int .i64 0) rfl
  have c4_2_0 := B2.cell 0 (v := .int .i64 x.fId) rfl
  have c4_1_1 := B1.cell 1 (v := .int .i64 0) rfl
  have c4_2_1 := B2.cell 1 (v := .int .i64 x.fPeers) rfl
  have c4_1_2 := B1.cell 2 (v := .int .i64 0) rfl
  have c4_2_2 := B2.cell 2 (v := .int .i64 x.fTerm) rfl
  have c4_1_3 := B1.cell 3 (v := .int .i64 0) rfl
  have c4_2_3 := B2.cell 3 (v := .int .i64 x.fVote) rfl
  have c4_1_4 := B1.cell 4 (v := .slice none 0 0) rfl
  have c4_2_4 := B2.cell 4 (v := .slice none 0 0) rfl
  have c4_0_5 := B0.cell 5 (v := .int .i64 x.fCommit) rfl
  have c4_1_5 := B1.cell 5 (v := .int .i64 0) rfl
  have c4_2_5 := B2.cell 5 (v := .int .i64 0) rfl
  have c4_0_6 := B0.cell 6 (v := .int .i64 x.fRole) rfl
  have c4_1_6 := B1.cell 6 (v := .int .i64 0) rfl
  have c4_2_6 := B2.cell 6 (v := .int .i64 0) rfl
  have c4_0_7 := B0.cell 7 (v := v7) rfl
  have c4_1_7 := B1.cell 7 (v := .slice none 0 0) rfl
  have c4_2_7 := B2.cell 7 (v := .slice none 0 0) rfl
  have c4_0_8 := B0.cell 8 (v := v8) rfl
  have c4_1_8 := B1.cell 8 (v := .slice none 0 0) rfl
  have c4_2_8 := B2.cell 8 (v := .slice none 0 0) rfl
  have f4_1 := B1.fro
  have f4_2 := B2.fro
  have HX0 := Lib.hid B0; have HX1 := Lib.hid B1; have HX2 := Lib.hid B2; clear B0 B1 B2
  have HR4 := Lib.hid hr4; clear hr4 hf4
  go_wp2_with fail
  have B0 := HX0.out; have B1 := HX1.out; have B2 := HX2.out; clear HX0 HX1 HX2
  have hr4 := HR4.out; clear HR4; have hf4 := HF4.out
  clear c4_0_5 c4_0_6 c4_0_7 c4_0_8 c4_1_0 c4_1_1 c4_1_2 c4_1_3 c4_1_4 c4_1_5 c4_1_6 c4_1_7 c4_1_8 c4_2_0 c4_2_1 c4_2_2 c4_2_3 c4_2_4 c4_2_5 c4_2_6 c4_2_7 c4_2_8 f4_1 f4_2
  go_wp2_with fail
  (with_reducible refine (toIntS_calls x.fVotes v7 _ (by refine Rp.S_below G7.out ?_; exact (by repeat (first | exact HB4.out | (refine Below.setCell ?_ (by simp; omega) _)))) l7).mono ?_)
  rintro e w7 ⟨p7, F7, rfl, hr, hfr, hnd, hb⟩
  have hk : KeptF [w.heap.size + 1 + 1] w4 w7 := KeptF.below (by repeat (first | exact KeptF.refl _ _ | (refine KeptF.set ?_ (by simp) _))) hb
  have B2 : Box w7 (w.heap.size + 1 + 1) #[.int .i64 x.fId, .int .i64 x.fPeers, .int .i64 x.fTerm, .int .i64 x.fVote, .slice pa4 x.fLog.length pc4, .int .i64 x.fCommit, .int .i64 x.fRole, .slice none 0 0, .slice none 0 0] 29 := Box.below (((B2.set 4 (.slice pa4 x.fLog.length pc4)).set 5 (.int .i64 x.fCommit)).set 6 (.int .i64 x.fRole)) hb
  have B0 := B0.kept hk (by simp; omega)
  have B1 := B1.kept hk (by simp)
  have hr4 := Rp.Row_kept hr4 hk (fun b hb => by have := hf4 b hb; have := SZB.out; simp; omega)
  have hf7 : ∀ b ∈ F7, w4.heap.size ≤ b := by simpa [World.setCell] using hfr
  have hB7 : Below w.heap.size w w7 := HB4.out.trans (hk.toBelow HB4.out.size (by simp; omega))
  have HB7 := Lib.hid hB7; clear hB7
  have SZ7 := Lib.hid hk.size
  have Lt7 : ∀ b ∈ F7, b < w7.heap.size := Rp.Row_lt hr
  have LT7 := Lib.hid Lt7; clear Lt7
  obtain ⟨pa7, pc7, rfl, _, _⟩ := Rp.Row_K hr
  have hr7 := hr; clear hr
  have hn7 := Lib.hid hnd; clear hnd hfr hb hk
  have HF7 := Lib.hid hf7
  have c7_1_0 := B1.cell 0 (v := .int .i64 0) rfl
  have c7_2_0 := B2.cell 0 (v := .int .i64 x.fId) rfl
  have c7_1_1 := B1.cell 1 (v := .int .i64 0) rfl
  have c7_2_1 := B2.cell 1 (v := .int .i64 x.fPeers) rfl
  have c7_1_2 := B1.cell 2 (v := .int .i64 0) rfl
  have c7_2_2 := B2.cell 2 (v := .int .i64 x.fTerm) rfl
  have c7_1_3 := B1.cell 3 (v := .int .i64 0) rfl
  have c7_2_3 := B2.cell 3 (v := .int .i64 x.fVote) rfl
  have c7_1_4 := B1.cell 4 (v := .slice none 0 0) rfl
  have c7_2_4 := B2.cell 4 (v := .slice pa4 x.fLog.length pc4) rfl
  have c7_1_5 := B1.cell 5 (v := .int .i64 0) rfl
  have c7_2_5 := B2.cell 5 (v := .int .i64 x.fCommit) rfl
  have c7_1_6 := B1.cell 6 (v := .int .i64 0) rfl
  have c7_2_6 := B2.cell 6 (v := .int .i64 x.fRole) rfl
  have c7_1_7 := B1.cell 7 (v := .slice none 0 0) rfl
  have c7_2_7 := B2.cell 7 (v := .slice none 0 0) rfl
  have c7_0_8 := B0.cell 8 (v := v8) rfl
  have c7_1_8 := B1.cell 8 (v := .slice none 0 0) rfl
  have c7_2_8 := B2.cell 8 (v := .slice none 0 0) rfl
  have f7_1 := B1.fro
  have f7_2 := B2.fro
  have HX0 := Lib.hid B0; have HX1 := Lib.hid B1; have HX2 := Lib.hid B2; clear B0 B1 B2
  have HR4 := Lib.hid hr4; clear hr4 hf4
  have HR7 := Lib.hid hr7; clear hr7 hf7
  go_wp2_with fail
  have B0 := HX0.out; have B1 := HX1.out; have B2 := HX2.out; clear HX0 HX1 HX2
  have hr4 := HR4.out; clear HR4; have hf4 := HF4.out
  have hr7 := HR7.out; clear HR7; have hf7 := HF7.out
  clear c7_0_8 c7_1_0 c7_1_1 c7_1_2 c7_1_3 c7_1_4 c7_1_5 c7_1_6 c7_1_7 c7_1_8 c7_2_0 c7_2_1 c7_2_2 c7_2_3 c7_2_4 c7_2_5 c7_2_6 c7_2_7 c7_2_8 f7_1 f7_2
  go_wp2_with fail
  (with_reducible refine (toIntS_calls x.fMatch v8 _ (by refine Rp.S_below G8.out ?_; exact (by repeat (first | exact HB7.out | (refine Below.setCell ?_ (by simp; omega) _)))) l8).mono ?_)
  rintro e w8 ⟨p8, F8, rfl, hr, hfr, hnd, hb⟩
  have hk : KeptF [w.heap.size + 1 + 1] w7 w8 := KeptF.below (by repeat (first | exact KeptF.refl _ _ | (refine KeptF.set ?_ (by simp) _))) hb
  have B2 : Box w8 (w.heap.size + 1 + 1) #[.int .i64 x.fId, .int .i64 x.fPeers, .int .i64 x.fTerm, .int .i64 x.fVote, .slice pa4 x.fLog.length pc4, .int .i64 x.fCommit, .int .i64 x.fRole, .slice pa7 x.fVotes.length pc7, .slice none 0 0] 29 := Box.below (B2.set 7 (.slice pa7 x.fVotes.length pc7)) hb
  have B0 := B0.kept hk (by simp; omega)
  have B1 := B1.kept hk (by simp)
  have hr4 := Rp.Row_kept hr4 hk (fun b hb => by have := hf4 b hb; have := SZB.out; have := SZ7.out; simp; omega)
  have hr7 := Rp.Row_kept hr7 hk (fun b hb => by have := hf7 b hb; have := SZB.out; have := SZ7.out; simp; omega)
  have hf8 : ∀ b ∈ F8, w7.heap.size ≤ b := by simpa [World.setCell] using hfr
  have hB8 : Below w.heap.size w w8 := HB7.out.trans (hk.toBelow HB7.out.size (by simp; omega))
  have HB8 := Lib.hid hB8; clear hB8
  have SZ8 := Lib.hid hk.size
  have Lt8 : ∀ b ∈ F8, b < w8.heap.size := Rp.Row_lt hr
  have LT8 := Lib.hid Lt8; clear Lt8
  obtain ⟨pa8, pc8, rfl, _, _⟩ := Rp.Row_K hr
  have hr8 := hr; clear hr
  have hn8 := Lib.hid hnd; clear hnd hfr hb hk
  have HF8 := Lib.hid hf8
  have c8_1_0 := B1.cell 0 (v := .int .i64 0) rfl
  have c8_2_0 := B2.cell 0 (v := .int .i64 x.fId) rfl
  have c8_1_1 := B1.cell 1 (v := .int .i64 0) rfl
  have c8_2_1 := B2.cell 1 (v := .int .i64 x.fPeers) rfl
  have c8_1_2 := B1.cell 2 (v := .int .i64 0) rfl
  have c8_2_2 := B2.cell 2 (v := .int .i64 x.fTerm) rfl
  have c8_1_3 := B1.cell 3 (v := .int .i64 0) rfl
  have c8_2_3 := B2.cell 3 (v := .int .i64 x.fVote) rfl
  have c8_1_4 := B1.cell 4 (v := .slice none 0 0) rfl
  have c8_2_4 := B2.cell 4 (v := .slice pa4 x.fLog.length pc4) rfl
  have c8_1_5 := B1.cell 5 (v := .int .i64 0) rfl
  have c8_2_5 := B2.cell 5 (v := .int .i64 x.fCommit) rfl
  have c8_1_6 := B1.cell 6 (v := .int .i64 0) rfl
  have c8_2_6 := B2.cell 6 (v := .int .i64 x.fRole) rfl
  have c8_1_7 := B1.cell 7 (v := .slice none 0 0) rfl
  have c8_2_7 := B2.cell 7 (v := .slice pa7 x.fVotes.length pc7) rfl
  have c8_1_8 := B1.cell 8 (v := .slice none 0 0) rfl
  have c8_2_8 := B2.cell 8 (v := .slice none 0 0) rfl
  have f8_1 := B1.fro
  have f8_2 := B2.fro
  have HX0 := Lib.hid B0; have HX1 := Lib.hid B1; have HX2 := Lib.hid B2; clear B0 B1 B2
  have HR4 := Lib.hid hr4; clear hr4 hf4
  have HR7 := Lib.hid hr7; clear hr7 hf7
  have HR8 := Lib.hid hr8; clear hr8 hf8
  go_upto_region 11 with fail
  have hkm : KeptF [(w.heap.size + 1 + 1)] w8 (Rp.setN w8 (w.heap.size + 1 + 1) 8 [.slice pa8 x.fMatch.length pc8]) := Rp.setN_kept (by simp) _ _ _ (KeptF.refl _ _)
  have B2m : Box (Rp.setN w8 (w.heap.size + 1 + 1) 8 [.slice pa8 x.fMatch.length pc8]) (w.heap.size + 1 + 1) #[.int .i64 x.fId, .int .i64 x.fPeers, .int .i64 x.fTerm, .int .i64 x.fVote, .slice pa4 x.fLog.length pc4, .int .i64 x.fCommit, .int .i64 x.fRole, .slice pa7 x.fVotes.length pc7, .slice pa8 x.fMatch.length pc8] 29 := Box.setN _ HX2.out 8
  have B1m : Box (Rp.setN w8 (w.heap.size + 1 + 1) 8 [.slice pa8 x.fMatch.length pc8]) (w.heap.size + 1) #[.int .i64 0, .int .i64 0, .int .i64 0, .int .i64 0, .slice none 0 0, .int .i64 0, .int .i64 0, .slice none 0 0, .slice none 0 0] 29 := Box.setN_other HX1.out _ _ _ (by omega)
  have q4 := Rp.Row_kept HR4.out hkm (fun b hb => by have := HF4.out b hb; have := HB4.out.size; have := SZB.out; have := SZ7.out; have := SZ8.out; simp; omega)
  have q7 := Rp.Row_kept HR7.out hkm (fun b hb => by have := HF7.out b hb; have := HB4.out.size; have := SZB.out; have := SZ7.out; have := SZ8.out; simp; omega)
  have q8 := Rp.Row_kept HR8.out hkm (fun b hb => by have := HF8.out b hb; have := HB4.out.size; have := SZB.out; have := SZ7.out; have := SZ8.out; simp; omega)
  have HBm := Lib.hid (HB8.out.trans (hkm.toBelow HB8.out.size (by simp; omega)))
  change Code.wp _ _ _ _ (Rp.setN w8 (w.heap.size + 1 + 1) 8 [.slice pa8 x.fMatch.length pc8])
  clear c8_1_0 c8_1_1 c8_1_2 c8_1_3 c8_1_4 c8_1_5 c8_1_6 c8_1_7 c8_1_8 c8_2_0 c8_2_1 c8_2_2 c8_2_3 c8_2_4 c8_2_5 c8_2_6 c8_2_7 c8_2_8 f8_1 f8_2 hkm
  generalize (Rp.setN w8 (w.heap.size + 1 + 1) 8 [.slice pa8 x.fMatch.length pc8]) = wm at *
  have m0 := B2m.cell 0 (v := .int .i64 x.fId) rfl
  have m1 := B2m.cell 1 (v := .int .i64 x.fPeers) rfl
  have m2 := B2m.cell 2 (v := .int .i64 x.fTerm) rfl
  have m3 := B2m.cell 3 (v := .int .i64 x.fVote) rfl
  have m4 := B2m.cell 4 (v := .slice pa4 x.fLog.length pc4) rfl
  have m5 := B2m.cell 5 (v := .int .i64 x.fCommit) rfl
  have m6 := B2m.cell 6 (v := .int .i64 x.fRole) rfl
  have m7 := B2m.cell 7 (v := .slice pa7 x.fVotes.length pc7) rfl
  have m8 := B2m.cell 8 (v := .slice pa8 x.fMatch.length pc8) rfl
  have n0 := B1m.cell 0 (v := .int .i64 0) rfl
  have n1 := B1m.cell 1 (v := .int .i64 0) rfl
  have n2 := B1m.cell 2 (v := .int .i64 0) rfl
  have n3 := B1m.cell 3 (v := .int .i64 0) rfl
  have n4 := B1m.cell 4 (v := .slice none 0 0) rfl
  have n5 := B1m.cell 5 (v := .int .i64 0) rfl
  have n6 := B1m.cell 6 (v := .int .i64 0) rfl
  have n7 := B1m.cell 7 (v := .slice none 0 0) rfl
  have n8 := B1m.cell 8 (v := .slice none 0 0) rfl
  have fm := B1m.fro
  have HXm := Lib.hid B1m
  clear B1m B2m
  have Q4 := Lib.hid q4; clear q4
  have Q7 := Lib.hid q7; clear q7
  have Q8 := Lib.hid q8; clear q8
  go_wp2
  have hk : KeptF [(w.heap.size + 1)] wm (Rp.setN wm (w.heap.size + 1) 0 [.int .i64 x.fId, .int .i64 x.fPeers, .int .i64 x.fTerm, .int .i64 x.fVote, .slice pa4 x.fLog.length pc4, .int .i64 x.fCommit, .int .i64 x.fRole, .slice pa7 x.fVotes.length pc7, .slice pa8 x.fMatch.length pc8]) := Rp.setN_kept (by simp) _ _ _ (KeptF.refl _ _)
  have bf : Box (Rp.setN wm (w.heap.size + 1) 0 [.int .i64 x.fId, .int .i64 x.fPeers, .int .i64 x.fTerm, .int .i64 x.fVote, .slice pa4 x.fLog.length pc4, .int .i64 x.fCommit, .int .i64 x.fRole, .slice pa7 x.fVotes.length pc7, .slice pa8 x.fMatch.length pc8]) (w.heap.size + 1) #[.int .i64 x.fId, .int .i64 x.fPeers, .int .i64 x.fTerm, .int .i64 x.fVote, .slice pa4 x.fLog.length pc4, .int .i64 x.fCommit, .int .i64 x.fRole, .slice pa7 x.fVotes.length pc7, .slice pa8 x.fMatch.length pc8] 29 := by
    have h := Box.setN [.int .i64 x.fId, .int .i64 x.fPeers, .int .i64 x.fTerm, .int .i64 x.fVote, .slice pa4 x.fLog.length pc4, .int .i64 x.fCommit, .int .i64 x.fRole, .slice pa7 x.fVotes.length pc7, .slice pa8 x.fMatch.length pc8] HXm.out 0
    rw [setA_all (by rfl)] at h
    exact h
  have q4 := Rp.Row_kept Q4.out hk (fun b hb => by have := HF4.out b hb; have := HB4.out.size; have := SZB.out; have := SZ7.out; have := SZ8.out; simp; omega)
  have q7 := Rp.Row_kept Q7.out hk (fun b hb => by have := HF7.out b hb; have := HB4.out.size; have := SZB.out; have := SZ7.out; have := SZ8.out; simp; omega)
  have q8 := Rp.Row_kept Q8.out hk (fun b hb => by have := HF8.out b hb; have := HB4.out.size; have := SZB.out; have := SZ7.out; have := SZ8.out; simp; omega)
  change bodyPost _ _ _ _ _ (Rp.setN wm (w.heap.size + 1) 0 [.int .i64 x.fId, .int .i64 x.fPeers, .int .i64 x.fTerm, .int .i64 x.fVote, .slice pa4 x.fLog.length pc4, .int .i64 x.fCommit, .int .i64 x.fRole, .slice pa7 x.fVotes.length pc7, .slice pa8 x.fMatch.length pc8])
  clear m0 n0 m1 n1 m2 n2 m3 n3 m4 n4 m5 n5 m6 n6 m7 n7 m8 n8 fm
  generalize Rp.setN wm (w.heap.size + 1) 0 [.int .i64 x.fId, .int .i64 x.fPeers, .int .i64 x.fTerm, .int .i64 x.fVote, .slice pa4 x.fLog.length pc4, .int .i64 x.fCommit, .int .i64 x.fRole, .slice pa7 x.fVotes.length pc7, .slice pa8 x.fMatch.length pc8] = wf at *
  have d0 := bf.cell 0 (v := .int .i64 x.fId) rfl
  have d1 := bf.cell 1 (v := .int .i64 x.fPeers) rfl
  have d2 := bf.cell 2 (v := .int .i64 x.fTerm) rfl
  have d3 := bf.cell 3 (v := .int .i64 x.fVote) rfl
  have d4 := bf.cell 4 (v := .slice pa4 x.fLog.length pc4) rfl
  have d5 := bf.cell 5 (v := .int .i64 x.fCommit) rfl
  have d6 := bf.cell 6 (v := .int .i64 x.fRole) rfl
  have d7 := bf.cell 7 (v := .slice pa7 x.fVotes.length pc7) rfl
  have d8 := bf.cell 8 (v := .slice pa8 x.fMatch.length pc8) rfl
  exact bodyPost_ret (v := .agg #[.int .i64 x.fId, .int .i64 x.fPeers, .int .i64 x.fTerm, .int .i64 x.fVote, .slice pa4 x.fLog.length pc4, .int .i64 x.fCommit, .int .i64 x.fRole, .slice pa7 x.fVotes.length pc7, .slice pa8 x.fMatch.length pc8]) (by simp [results, Try.results6, go_sem, d0, d1, d2, d3, d4, d5, d6, d7, d8]) rfl ⟨_, _, rfl, kRaftNode_make q4 q7 q8, (fun b hb => by simp only [List.mem_append] at hb; rcases hb with hb | hb | hb <;> (first | (have := HF4.out b hb; have := HB4.out.size; have := HB7.out.size; have := HB8.out.size; omega) | (have := HF7.out b hb; have := HB4.out.size; have := HB7.out.size; have := HB8.out.size; omega) | (have := HF8.out b hb; have := HB4.out.size; have := HB7.out.size; have := HB8.out.size; omega))), (List.nodup_append.2 ⟨hn4.out, (List.nodup_append.2 ⟨hn7.out, hn8.out, fun a ha b hb hab => by have h1 := LT7.out a ha; have := SZ7.out; have := SZ8.out; (try simp only [List.mem_append] at hb); (first | (have h2 := HF8.out b hb; omega))⟩), fun a ha b hb hab => by have h1 := LT4.out a ha; have := SZ7.out; have := SZ8.out; (try simp only [List.mem_append] at hb); rcases hb with hb | hb <;> (first | (have h2 := HF7.out b hb; omega) | (have h2 := HF8.out b hb; omega))⟩), HBm.out.trans (hk.toBelow HBm.out.size (by simp))⟩

def mkRaftNode (x : DRaftNode) (k : Int) : DRaftNode × Int :=
  let a4 := mkL mkEntry x.fLog k
  let a7 := mkL mkInt x.fVotes a4.2
  let a8 := mkL mkInt x.fMatch a7.2
  (⟨x.fId, x.fPeers, x.fTerm, x.fVote, a4.1, x.fCommit, x.fRole, a7.1, a8.1⟩, a8.2)
theorem mkRaftNode_le (x : DRaftNode) (k : Int) : k ≤ (mkRaftNode x k).2 := by
  have h4 := mkL_le mkEntry_le x.fLog (k)
  have h7 := mkL_le mkInt_le x.fVotes ((mkL mkEntry x.fLog (k)).2)
  have h8 := mkL_le mkInt_le x.fMatch ((mkL mkInt x.fVotes ((mkL mkEntry x.fLog (k)).2)).2)
  simp only [mkRaftNode]
  omega

set_option maxHeartbeats 1000000 in
set_option maxRecDepth 100000 in
theorem markRaftNode_calls (x : DRaftNode) (v4 v7 v8 : Value) (F4 F7 F8 : List Nat) (k : Int) (w : World) (r4 : kEntry.Row 59 w F4 x.fLog v4) (r7 : (Rp.int .i64).Row 3 w F7 x.fVotes v7) (r8 : (Rp.int .i64).Row 3 w F8 x.fMatch v8) (hn : (F4 ++ (F7 ++ (F8))).Nodup) (h0 : 0 ≤ k) (h1 : (mkRaftNode x k).2 ≤ 4611686018427387904) (hl : x.fLog.length ≤ 140737488355328 ∧ x.fVotes.length ≤ 140737488355328 ∧ x.fMatch.length ≤ 140737488355328) :
    Calls Try.prog 10 #[.agg #[.int .i64 x.fId, .int .i64 x.fPeers, .int .i64 x.fTerm, .int .i64 x.fVote, v4, .int .i64 x.fCommit, .int .i64 x.fRole, v7, v8], .int .i64 k] w fun e w' => e = .returned (.int .i64 (mkRaftNode x k).2) ∧ kEntry.Row 59 w' F4 (mkRaftNode x k).1.fLog v4 ∧ (Rp.int .i64).Row 3 w' F7 (mkRaftNode x k).1.fVotes v7 ∧ (Rp.int .i64).Row 3 w' F8 (mkRaftNode x k).1.fMatch v8 ∧ KeptF (F4 ++ (F7 ++ (F8))) w w' := by
  obtain ⟨l4, l7, l8⟩ := hl
  have m4 := mkL_le mkEntry_le x.fLog k
  have m7 := mkL_le mkInt_le x.fVotes ((mkL mkEntry x.fLog k).2)
  have m8 := mkL_le mkInt_le x.fMatch ((mkL mkInt x.fVotes (mkL mkEntry x.fLog k).2).2)
  have h2 : (mkL mkInt x.fMatch (mkL mkInt x.fVotes (mkL mkEntry x.fLog k).2).2).2 ≤ 4611686018427387904 := h1
  have M4 := Lib.hid m4
  have z4 : (mkL mkEntry x.fLog k).2 ≤ 4611686018427387904 := by omega
  have Z4 := Lib.hid z4
  have n4 : 0 ≤ k := by omega
  have N4 := Lib.hid n4
  have M7 := Lib.hid m7
  have z7 : (mkL mkInt x.fVotes (mkL mkEntry x.fLog k).2).2 ≤ 4611686018427387904 := by omega
  have Z7 := Lib.hid z7
  have n7 : 0 ≤ (mkL mkEntry x.fLog k).2 := by omega
  have N7 := Lib.hid n7
  have M8 := Lib.hid m8
  have z8 : (mkL mkInt x.fMatch (mkL mkInt x.fVotes (mkL mkEntry x.fLog k).2).2).2 ≤ 4611686018427387904 := by omega
  have Z8 := Lib.hid z8
  have n8 : 0 ≤ (mkL mkInt x.fVotes (mkL mkEntry x.fLog k).2).2 := by omega
  have N8 := Lib.hid n8
  clear h1 h2 m4 z4 n4 m7 z7 n7 m8 z8 n8
  have R4 := Lib.hid r4
  have L4 := Lib.hid (fun b hb => Nat.ne_of_lt (Rp.Row_lt r4 b hb) : ∀ b ∈ F4, b ≠ w.heap.size)
  clear r4
  have R7 := Lib.hid r7
  have L7 := Lib.hid (fun b hb => Nat.ne_of_lt (Rp.Row_lt r7 b hb) : ∀ b ∈ F7, b ≠ w.heap.size)
  clear r7
  have R8 := Lib.hid r8
  have L8 := Lib.hid (fun b hb => Nat.ne_of_lt (Rp.Row_lt r8 b hb) : ∀ b ∈ F8, b ≠ w.heap.size)
  clear r8
  have HN := Lib.hid hn
  clear hn
  go_enter Try.func10, Try.ntmps10
  go_wp2_with fail
  (with_reducible refine (markEntryS_calls x.fLog _ F4 v4 _ (Rp.Row_below R4.out ((Below.refl _ _).alloc (Nat.le_refl _) _)) (List.nodup_append.1 HN.out).1 N4.out Z4.out l4).mono ?_)
  rintro e w4 ⟨rfl, hr, hk⟩
  have B0 : Box _ w.heap.size #[.int .i64 x.fId, .int .i64 x.fPeers, .int .i64 x.fTerm, .int .i64 x.fVote, v4, .int .i64 x.fCommit, .int .i64 x.fRole, v7, v8] 29 := Box.kept (Box.new rfl) hk (fun hm => L4.out _ hm rfl)
  have hK : KeptF (F4 ++ (F7 ++ (F8))) w w4 := ((KeptF.refl _ _).alloc _).trans (hk.mono (by intro b hb; simp [hb]))
  have S7 := Lib.hid (Rp.Row_kept (Rp.Row_below R7.out ((Below.refl _ _).alloc (Nat.le_refl _) _)) hk (fun b hb hc => (List.nodup_append.1 HN.out).2.2 b (by simp [hc]) b (by simp [hb]) rfl))
  have S8 := Lib.hid (Rp.Row_kept (Rp.Row_below R8.out ((Below.refl _ _).alloc (Nat.le_refl _) _)) hk (fun b hb hc => (List.nodup_append.1 HN.out).2.2 b (by simp [hc]) b (by simp [hb]) rfl))
  have R7 := S7; clear S7
  have R8 := S8; clear S8
  have Q4 := Lib.hid hr
  have HK4 := Lib.hid hK
  clear hr hk hK
  have c4_7 := B0.cell 7 (v := v7) rfl
  have c4_8 := B0.cell 8 (v := v8) rfl
  have BX := Lib.hid B0; clear B0
  go_wp2_with fail
  (with_reducible refine (markIntS_calls x.fVotes _ F7 v7 _ R7.out (List.nodup_append.1 (List.nodup_append.1 HN.out).2.1).1 N7.out Z7.out l7).mono ?_)
  rintro e w7 ⟨rfl, hr, hk⟩
  have B0 := BX.out.kept hk (fun hm => L7.out _ hm rfl)
  clear BX
  have hK : KeptF (F4 ++ (F7 ++ (F8))) w w7 := HK4.out.trans (hk.mono (by intro b hb; simp [hb]))
  have S8 := Lib.hid (Rp.Row_kept R8.out hk (fun b hb hc => (List.nodup_append.1 (List.nodup_append.1 HN.out).2.1).2.2 b (by simp [hc]) b (by simp [hb]) rfl))
  have T4 := Lib.hid (Rp.Row_kept Q4.out hk (fun b hb hc => (List.nodup_append.1 HN.out).2.2 b (by simp [hb]) b (by simp [hc]) rfl))
  have Q4 := T4; clear T4
  have R8 := S8; clear S8
  have Q7 := Lib.hid hr
  have HK7 := Lib.hid hK
  clear hr hk hK
  have c7_8 := B0.cell 8 (v := v8) rfl
  have BX := Lib.hid B0; clear B0
  clear c4_7 c4_8
  go_wp2_with fail
  (with_reducible refine (markIntS_calls x.fMatch _ F8 v8 _ R8.out (List.nodup_append.1 (List.nodup_append.1 HN.out).2.1).2.1 N8.out Z8.out l8).mono ?_)
  rintro e w8 ⟨rfl, hr, hk⟩
  have B0 := BX.out.kept hk (fun hm => L8.out _ hm rfl)
  clear BX
  have hK : KeptF (F4 ++ (F7 ++ (F8))) w w8 := HK7.out.trans (hk.mono (by intro b hb; simp [hb]))
  have T4 := Lib.hid (Rp.Row_kept Q4.out hk (fun b hb hc => (List.nodup_append.1 HN.out).2.2 b (by simp [hb]) b (by simp [hc]) rfl))
  have T7 := Lib.hid (Rp.Row_kept Q7.out hk (fun b hb hc => (List.nodup_append.1 (List.nodup_append.1 HN.out).2.1).2.2 b (by simp [hb]) b (by simp [hc]) rfl))
  have Q4 := T4; clear T4
  have Q7 := T7; clear T7
  have Q8 := Lib.hid hr
  have HK8 := Lib.hid hK
  clear hr hk hK
  have BX := Lib.hid B0; clear B0
  clear c7_8
  go_wp2
  go_ret
  exact ⟨rfl, Q4.out, Q7.out, Q8.out, HK8.out⟩

set_option maxHeartbeats 1000000 in
set_option maxRecDepth 100000 in
theorem heldRaftNode_calls (x : DRaftNode) (v4 v7 v8 : Value) (k : Int) (w : World) (g4 : kEntry.S w (mkRaftNode x k).1.fLog v4) (g7 : (Rp.int .i64).S w (mkRaftNode x k).1.fVotes v7) (g8 : (Rp.int .i64).S w (mkRaftNode x k).1.fMatch v8) (h0 : 0 ≤ k) (h1 : (mkRaftNode x k).2 ≤ 4611686018427387904) (hl : x.fLog.length ≤ 140737488355328 ∧ x.fVotes.length ≤ 140737488355328 ∧ x.fMatch.length ≤ 140737488355328) :
    Calls Try.prog 12 #[.agg #[.int .i64 x.fId, .int .i64 x.fPeers, .int .i64 x.fTerm, .int .i64 x.fVote, v4, .int .i64 x.fCommit, .int .i64 x.fRole, v7, v8], .int .i64 k] w fun e w' => e = .returned (.int .i64 (mkRaftNode x k).2) ∧ Below w.heap.size w w' := by
  obtain ⟨l4, l7, l8⟩ := hl
  have m4 := mkL_le mkEntry_le x.fLog k
  have m7 := mkL_le mkInt_le x.fVotes ((mkL mkEntry x.fLog k).2)
  have m8 := mkL_le mkInt_le x.fMatch ((mkL mkInt x.fVotes (mkL mkEntry x.fLog k).2).2)
  have h2 : (mkL mkInt x.fMatch (mkL mkInt x.fVotes (mkL mkEntry x.fLog k).2).2).2 ≤ 4611686018427387904 := h1
  have z4 : (mkL mkEntry x.fLog k).2 ≤ 4611686018427387904 := by omega
  have Z4 := Lib.hid z4
  have n4 : 0 ≤ k := by omega
  have N4 := Lib.hid n4
  have y4 : 0 ≤ (mkL mkEntry x.fLog k).2 := by omega
  have z7 : (mkL mkInt x.fVotes (mkL mkEntry x.fLog k).2).2 ≤ 4611686018427387904 := by omega
  have Z7 := Lib.hid z7
  have n7 : 0 ≤ (mkL mkEntry x.fLog k).2 := by omega
  have N7 := Lib.hid n7
  have y7 : 0 ≤ (mkL mkInt x.fVotes (mkL mkEntry x.fLog k).2).2 := by omega
  have z8 : (mkL mkInt x.fMatch (mkL mkInt x.fVotes (mkL mkEntry x.fLog k).2).2).2 ≤ 4611686018427387904 := by omega
  have Z8 := Lib.hid z8
  have n8 : 0 ≤ (mkL mkInt x.fVotes (mkL mkEntry x.fLog k).2).2 := by omega
  have N8 := Lib.hid n8
  have y8 : 0 ≤ (mkL mkInt x.fMatch (mkL mkInt x.fVotes (mkL mkEntry x.fLog k).2).2).2 := by omega
  clear h1 h2 m4 z4 n4 m7 z7 n7 m8 z8 n8
  have G4 : Hid (kEntry.S w (mkL mkEntry x.fLog k).1 v4) := Lib.hid g4
  clear g4
  have G7 : Hid ((Rp.int .i64).S w (mkL mkInt x.fVotes (mkL mkEntry x.fLog k).2).1 v7) := Lib.hid g7
  clear g7
  have G8 : Hid ((Rp.int .i64).S w (mkL mkInt x.fMatch (mkL mkInt x.fVotes (mkL mkEntry x.fLog k).2).2).1 v8) := Lib.hid g8
  clear g8
  go_enter Try.func12, Try.ntmps12
  go_wp2_with fail
  (with_reducible refine (heldEntryS_calls x.fLog _ v4 _ (by first | exact Rp.S_below G4.out ((Below.refl _ _).alloc (Nat.le_refl _) _) | exact Rp.S_below G4.out HB.out) N4.out Z4.out l4).mono ?_)
  rintro e w4 ⟨rfl, hb⟩
  have B0 : Box _ w.heap.size #[.int .i64 x.fId, .int .i64 x.fPeers, .int .i64 x.fTerm, .int .i64 x.fVote, v4, .int .i64 x.fCommit, .int .i64 x.fRole, v7, v8] 29 := Box.below (Box.new rfl) hb
  have HB4 := Lib.hid (Below.trans ((Below.refl w.heap.size w).alloc (Nat.le_refl _) _) (hb.mono (by simp)))
  clear hb
  have c4_7 := B0.cell 7 (v := v7) rfl
  have c4_8 := B0.cell 8 (v := v8) rfl
  have BX := Lib.hid B0; clear B0
  go_wp2_with fail
  (with_reducible refine (heldIntS_calls x.fVotes _ v7 _ (by first | exact Rp.S_below G7.out ((Below.refl _ _).alloc (Nat.le_refl _) _) | exact Rp.S_below G7.out HB4.out) N7.out Z7.out l7).mono ?_)
  rintro e w7 ⟨rfl, hb⟩
  have B0 := BX.out.below hb; clear BX
  have HB7 := Lib.hid (HB4.out.trans (hb.mono HB4.out.size))
  clear hb
  have c7_8 := B0.cell 8 (v := v8) rfl
  have BX := Lib.hid B0; clear B0
  clear c4_7 c4_8
  go_wp2_with fail
  (with_reducible refine (heldIntS_calls x.fMatch _ v8 _ (by first | exact Rp.S_below G8.out ((Below.refl _ _).alloc (Nat.le_refl _) _) | exact Rp.S_below G8.out HB7.out) N8.out Z8.out l8).mono ?_)
  rintro e w8 ⟨rfl, hb⟩
  have B0 := BX.out.below hb; clear BX
  have HB8 := Lib.hid (HB7.out.trans (hb.mono HB7.out.size))
  clear hb
  have BX := Lib.hid B0; clear B0
  clear c7_8
  go_wp2
  go_ret
  exact ⟨rfl, HB8.out⟩

end Go.Proofs.Ytcimnhpgackciaa
