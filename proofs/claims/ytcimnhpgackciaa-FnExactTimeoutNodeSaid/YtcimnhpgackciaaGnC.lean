/- Nodes: which are good, walked. -/
import Derived.Test.YtcimnhpgackciaaGnB
namespace Go.Proofs.Ytcimnhpgackciaa
open Go Go.RowKit Go.Sort
set_option linter.unusedVariables false
set_option linter.unusedSimpArgs false

set_option maxHeartbeats 8000000 in
set_option maxRecDepth 100000 in
theorem iGoodNode_calls (x : DRaftNode) (v4 v7 v8 : Value) (w : World) (g4 : kEntry.S w x.fLog v4) (g7 : kInt.S w x.fVotes v7) (g8 : kInt.S w x.fMatch v8) (hl : smRaftNode 1048576 x) : Calls Try.prog 22 #[.agg #[.int .i64 x.fId, .int .i64 x.fPeers, .int .i64 x.fTerm, .int .i64 x.fVote, v4, .int .i64 x.fCommit, .int .i64 x.fRole, v7, v8]] w
    fun e w' => e = .returned (.bool (nodeOk x)) ∧ Below w.heap.size w w' := by
  have G4 := Lib.hid g4; have G7 := Lib.hid g7; have G8 := Lib.hid g8
  obtain ⟨A4, d4, rfl, _, _⟩ := g4
  obtain ⟨A7, d7, rfl, _, _⟩ := g7
  obtain ⟨A8, d8, rfl, _, _⟩ := g8
  obtain ⟨l4, l7, l8⟩ := hl
  have HP : Hid (inR x.fPeers 1 7 = false ∨ inR x.fPeers 1 7 = true ∧ IntKind.i64.wrap (x.fPeers - 1) = x.fPeers - 1) := by
    show _ ∨ _
    cases h : inR x.fPeers 1 7
    · exact .inl rfl
    · have h2 : 1 ≤ x.fPeers ∧ x.fPeers ≤ 7 := by simpa [inR] using h
      exact .inr ⟨rfl, by rw [IntKind.wrap_i64]; omega⟩
  go_enter Try.func22, Try.ntmps22
  go_upto_region 1 with fail
  have XB := Lib.hid (Box.new (w := w) (cs := #[.int .i64 x.fId, .int .i64 x.fPeers, .int .i64 x.fTerm, .int .i64 x.fVote, .slice A4 x.fLog.length d4, .int .i64 x.fCommit, .int .i64 x.fRole, .slice A7 x.fVotes.length d7, .slice A8 x.fMatch.length d8]) (T := 29) (b := w.heap.size) rfl)
  have HC := Lib.hid ((Below.refl w.heap.size w).alloc (Nat.le_refl _) (.cells #[.int .i64 x.fId, .int .i64 x.fPeers, .int .i64 x.fTerm, .int .i64 x.fVote, .slice A4 x.fLog.length d4, .int .i64 x.fCommit, .int .i64 x.fRole, .slice A7 x.fVotes.length d7, .slice A8 x.fMatch.length d8] 29))
  generalize w.alloc (.cells #[.int .i64 x.fId, .int .i64 x.fPeers, .int .i64 x.fTerm, .int .i64 x.fVote, .slice A4 x.fLog.length d4, .int .i64 x.fCommit, .int .i64 x.fRole, .slice A7 x.fVotes.length d7, .slice A8 x.fMatch.length d8] 29) = w1 at *
  have c0 := XB.out.cell 0 (v := .int .i64 x.fId) rfl; have c1 := XB.out.cell 1 (v := .int .i64 x.fPeers) rfl; have c2 := XB.out.cell 2 (v := .int .i64 x.fTerm) rfl; have c3 := XB.out.cell 3 (v := .int .i64 x.fVote) rfl; have c4 := XB.out.cell 4 (v := .slice A4 x.fLog.length d4) rfl; have c5 := XB.out.cell 5 (v := .int .i64 x.fCommit) rfl; have c6 := XB.out.cell 6 (v := .int .i64 x.fRole) rfl; have c7 := XB.out.cell 7 (v := .slice A7 x.fVotes.length d7) rfl; have c8 := XB.out.cell 8 (v := .slice A8 x.fMatch.length d8) rfl
  go_wp2_with (first | (go_at_call 40; (with_reducible refine (iPeers_calls x.fPeers _).mono ?_); rintro e wq ⟨rfl, rfl⟩; refine HP.out.elim (fun h1 => ?_) (fun ⟨h1, hwr⟩ => ?_) <;> rw [h1]) | (with_reducible refine (iInR_calls x.fId _ _ _).mono ?_; rintro e wq ⟨rfl, rfl⟩; cases h2 : inR x.fId 0 (x.fPeers - 1)) | (with_reducible refine (iInR_calls x.fTerm _ _ _).mono ?_; rintro e wq ⟨rfl, rfl⟩; cases h3 : inR x.fTerm 0 1000) | (with_reducible refine (iInR_calls x.fVote _ _ _).mono ?_; rintro e wq ⟨rfl, rfl⟩; cases h4 : inR x.fVote (-1) (x.fPeers - 1)) | (go_at_call 42; (with_reducible refine (iEntries_calls x.fLog x.fTerm _ _ (Rp.S_below G4.out HC.out) (by omega)).mono ?_); rintro e wq ⟨rfl, hb⟩; cases h5 : entFrom x.fTerm none x.fLog <;> (have XB := Lib.hid (XB.out.below hb); have HC := Lib.hid (HC.out.trans (hb.mono HC.out.size)); clear hb c0 c1 c2 c3 c4 c5 c6 c7 c8; have c0 := XB.out.cell 0 (v := .int .i64 x.fId) rfl; have c1 := XB.out.cell 1 (v := .int .i64 x.fPeers) rfl; have c2 := XB.out.cell 2 (v := .int .i64 x.fTerm) rfl; have c3 := XB.out.cell 3 (v := .int .i64 x.fVote) rfl; have c4 := XB.out.cell 4 (v := .slice A4 x.fLog.length d4) rfl; have c5 := XB.out.cell 5 (v := .int .i64 x.fCommit) rfl; have c6 := XB.out.cell 6 (v := .int .i64 x.fRole) rfl; have c7 := XB.out.cell 7 (v := .slice A7 x.fVotes.length d7) rfl; have c8 := XB.out.cell 8 (v := .slice A8 x.fMatch.length d8) rfl)) | (with_reducible refine (iInR_calls x.fCommit _ _ _).mono ?_; rintro e wq ⟨rfl, rfl⟩; cases h6 : inR x.fCommit 0 x.fLog.length) | (with_reducible refine (iInR_calls x.fRole _ _ _).mono ?_; rintro e wq ⟨rfl, rfl⟩; cases h7 : inR x.fRole 0 2) | (go_at_call 43; (with_reducible refine (iVotes_calls x w.heap.size _ _ _ _ XB.out (Rp.S_below G7.out HC.out) h1 l7).mono ?_); rintro e wq ⟨rfl, hb⟩; cases h8 : votesN x <;> (have XB := Lib.hid (XB.out.below hb); have HC := Lib.hid (HC.out.trans (hb.mono HC.out.size)); clear hb c0 c1 c2 c3 c4 c5 c6 c7 c8; have c0 := XB.out.cell 0 (v := .int .i64 x.fId) rfl; have c1 := XB.out.cell 1 (v := .int .i64 x.fPeers) rfl; have c2 := XB.out.cell 2 (v := .int .i64 x.fTerm) rfl; have c3 := XB.out.cell 3 (v := .int .i64 x.fVote) rfl; have c4 := XB.out.cell 4 (v := .slice A4 x.fLog.length d4) rfl; have c5 := XB.out.cell 5 (v := .int .i64 x.fCommit) rfl; have c6 := XB.out.cell 6 (v := .int .i64 x.fRole) rfl; have c7 := XB.out.cell 7 (v := .slice A7 x.fVotes.length d7) rfl; have c8 := XB.out.cell 8 (v := .slice A8 x.fMatch.length d8) rfl)) | (go_at_call 44; (with_reducible refine (iMatch_calls x w.heap.size _ _ _ _ XB.out (Rp.S_below G4.out HC.out) (Rp.S_below G8.out HC.out) h2 l8).mono ?_); rintro e wq ⟨rfl, hb⟩; cases h9 : matchN x <;> (have XB := Lib.hid (XB.out.below hb); have HC := Lib.hid (HC.out.trans (hb.mono HC.out.size)); clear hb c0 c1 c2 c3 c4 c5 c6 c7 c8; have c0 := XB.out.cell 0 (v := .int .i64 x.fId) rfl; have c1 := XB.out.cell 1 (v := .int .i64 x.fPeers) rfl; have c2 := XB.out.cell 2 (v := .int .i64 x.fTerm) rfl; have c3 := XB.out.cell 3 (v := .int .i64 x.fVote) rfl; have c4 := XB.out.cell 4 (v := .slice A4 x.fLog.length d4) rfl; have c5 := XB.out.cell 5 (v := .int .i64 x.fCommit) rfl; have c6 := XB.out.cell 6 (v := .int .i64 x.fRole) rfl; have c7 := XB.out.cell 7 (v := .slice A7 x.fVotes.length d7) rfl; have c8 := XB.out.cell 8 (v := .slice A8 x.fMatch.length d8) rfl)))
  all_goals go_ret
  all_goals refine ⟨ret_bool ?_, HC.out⟩
  all_goals clear c0 c1 c2 c3 c4 c5 c6 c7 c8 XB HC
  all_goals first
    | (simp [nodeOk, headN, logN, roleN, *]; done)
    | (simp_all [nodeOk, headN, logN, roleN]; done)
    | (simp_all [nodeOk, headN, logN, roleN]; omega)
end Go.Proofs.Ytcimnhpgackciaa
