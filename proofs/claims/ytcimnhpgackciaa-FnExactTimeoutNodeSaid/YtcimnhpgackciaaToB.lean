/- Nodes whose time is up, walked. -/
import Derived.Test.YtcimnhpgackciaaToA
import Derived.Test.YtcimnhpgackciaaMade
import Derived.Test.YtcimnhpgackciaaC1
namespace Go.Proofs.Ytcimnhpgackciaa
open Go Go.RowKit Go.Sort
set_option linter.unusedVariables false
set_option linter.unusedSimpArgs false

theorem Row_one {w : World} {g : Nat} {x : Int} (h : Box w g #[.int .i64 x] 3) : kInt.Row 3 w [g] [x] (.slice (some ⟨g, 0, none⟩) 1 1) :=
  ⟨[.int .i64 x], [], ⟨rfl, .inr ⟨g, 1, _, rfl, Nat.zero_le _, h, Nat.le_refl _, by simp [maxLen], rfl, rfl⟩⟩, ⟨[.int .i64 x], [], [], [], rfl, rfl, ⟨rfl, rfl⟩, rfl, rfl⟩, by simp [Rp.ofOwn, Value.ownBlock]⟩
def TmMade (x : DRaftNode) (w w' : World) (v u : Value) : Prop := ∃ cs F G, v = .agg cs.toArray ∧ kRaftNode.M w' F (tmV x) cs ∧ kRaftMsg.Row 44 w' G (tmM x) u ∧ (∀ b ∈ F ++ G, w.heap.size ≤ b) ∧ (F ++ G).Nodup ∧ Below w.heap.size w w'
theorem TmMade.no {x : DRaftNode} {w w' : World} (ho : tmOk x = false) (hb : Below w.heap.size w w') : TmMade x w w' (.agg #[.int .i64 0, .int .i64 0, .int .i64 0, .int .i64 0, .slice none 0 0, .int .i64 0, .int .i64 0, .slice none 0 0, .slice none 0 0]) (.slice none 0 0) := by
  refine ⟨_, [] ++ ([] ++ []), [], rfl, ?_, ?_, by simp, by simp, hb⟩
  · rw [tmV, ho]
    exact kRaftNode_make (x := zRaftNode) (Rp.Row_nil _ _ _) (Rp.Row_nil _ _ _) (Rp.Row_nil _ _ _)
  · rw [tmM, ho]
    exact Rp.Row_nil _ _ _
theorem TmMade.lead {x : DRaftNode} {w w' : World} {N : Nat} {F4 F8 : List Nat} {v4 v8 : Value} (ho : tmOk x = true) (hp : x.fPeers = 1) (hi : x.fId = 0) (r4 : kEntry.Row 59 w' F4 x.fLog v4) (r8 : kInt.Row 3 w' F8 [(x.fLog.length : Int)] v8)
    (t4 : ∀ b ∈ F4, N ≤ b) (t8 : ∀ b ∈ F8, N ≤ b) (hN : w.heap.size ≤ N) (n4 : F4.Nodup) (n8 : F8.Nodup) (d : ∀ b ∈ F8, b ∉ F4) (hb : Below w.heap.size w w') :
    TmMade x w w' (.agg #[.int .i64 0, .int .i64 1, .int .i64 (x.fTerm + 1), .int .i64 0, v4, .int .i64 x.fCommit, .int .i64 2, .slice none 0 0, v8]) (.slice none 0 0) := by
  have hpb : (x.fPeers == 1) = true := by rw [hp]; rfl
  refine ⟨_, F4 ++ ([] ++ F8), [], rfl, ?_, ?_, ?_, ?_, hb⟩
  · rw [tmV, ho, if_pos rfl, tmN, if_pos hpb]
    have h := kRaftNode_make (x := tmL x) r4 (Rp.Row_nil _ _ _) r8
    simpa only [tmL, hi, hp] using h
  · rw [tmM, ho, hpb]
    exact Rp.Row_nil _ _ _
  · rw [List.append_nil]
    exact bound3 hN t4 (by simp) t8
  · rw [List.append_nil]
    exact nodup3 n4 (by simp) n8 (by simp) d (by simp)
theorem TmMade.ask {x : DRaftNode} {w w' : World} {N : Nat} {F4 F7 F8 G : List Nat} {v4 v7 v8 u : Value} (ho : tmOk x = true) (hp : (x.fPeers == 1) = false) (r4 : kEntry.Row 59 w' F4 x.fLog v4) (r7 : kInt.Row 3 w' F7 [x.fId] v7) (r8 : kInt.Row 3 w' F8 x.fMatch v8)
    (rm : kAsk.Row 44 w' G (tmMk x x.fPeers.toNat) u)
    (t4 : ∀ b ∈ F4, N ≤ b) (t7 : ∀ b ∈ F7, N ≤ b) (t8 : ∀ b ∈ F8, N ≤ b) (tm : ∀ b ∈ G, N ≤ b) (hN : w.heap.size ≤ N) (n : (F4 ++ (F7 ++ F8)).Nodup) (nm : G.Nodup) (d4 : ∀ b ∈ F4, b ∉ G) (d7 : ∀ b ∈ F7, b ∉ G) (d8 : ∀ b ∈ F8, b ∉ G) (hb : Below w.heap.size w w') :
    TmMade x w w' (.agg #[.int .i64 x.fId, .int .i64 x.fPeers, .int .i64 (x.fTerm + 1), .int .i64 x.fId, v4, .int .i64 x.fCommit, .int .i64 1, v7, v8]) u := by
  refine ⟨_, F4 ++ (F7 ++ F8), G, rfl, ?_, ?_, ?_, ?_, hb⟩
  · rw [tmV, ho, if_pos rfl, tmN, hp]
    exact kRaftNode_make (x := tmA x) r4 r7 r8
  · rw [tmM, ho, hp]
    exact RowA_to rm
  · intro b h
    rcases List.mem_append.1 h with h | h
    · exact bound3 hN t4 t7 t8 b h
    · have := tm b h
      omega
  · refine List.nodup_append.2 ⟨n, nm, ?_⟩
    rintro a ha b hb rfl
    rcases List.mem_append.1 ha with h | h
    · exact d4 a h hb
    · rcases List.mem_append.1 h with h | h
      · exact d7 a h hb
      · exact d8 a h hb
set_option maxHeartbeats 8000000 in
set_option maxRecDepth 100000 in
theorem iTm_calls (x : DRaftNode) (v4 v7 v8 : Value) (w : World) (g4 : kEntry.S w x.fLog v4) (g7 : kInt.S w x.fVotes v7) (g8 : kInt.S w x.fMatch v8) (hl : smRaftNode 1048576 x) : Calls Try.prog 7 #[.agg #[.int .i64 x.fId, .int .i64 x.fPeers, .int .i64 x.fTerm, .int .i64 x.fVote, v4, .int .i64 x.fCommit, .int .i64 x.fRole, v7, v8]] w
    fun e w' => ∃ v u, e = .returned (.tuple #[v, u, .bool (tmOk x)]) ∧ TmMade x w w' v u := by
  have G4 := Lib.hid g4; have G7 := Lib.hid g7; have G8 := Lib.hid g8
  obtain ⟨A4, d4, rfl, _, _⟩ := g4
  obtain ⟨A7, d7, rfl, _, _⟩ := g7
  obtain ⟨A8, d8, rfl, _, _⟩ := g8
  go_enter Try.func7, Try.ntmps7
  go_upto_region 1 with fail
  have HC := Lib.hid (show Below w.heap.size w ((w.alloc (.cells #[.int .i64 x.fId, .int .i64 x.fPeers, .int .i64 x.fTerm, .int .i64 x.fVote, .slice A4 x.fLog.length d4, .int .i64 x.fCommit, .int .i64 x.fRole, .slice A7 x.fVotes.length d7, .slice A8 x.fMatch.length d8] 29)).alloc (.cells #[.int .i64 0, .int .i64 0, .int .i64 0, .int .i64 0, .slice none 0 0, .int .i64 0, .int .i64 0, .slice none 0 0, .slice none 0 0] 29)) from Below.alloc (Below.alloc (Below.refl w.heap.size w) (by first | exact Nat.le_refl _ | (simp; done) | (simp; omega)) (.cells #[.int .i64 x.fId, .int .i64 x.fPeers, .int .i64 x.fTerm, .int .i64 x.fVote, .slice A4 x.fLog.length d4, .int .i64 x.fCommit, .int .i64 x.fRole, .slice A7 x.fVotes.length d7, .slice A8 x.fMatch.length d8] 29)) (by first | exact Nat.le_refl _ | (simp; done) | (simp; omega)) (.cells #[.int .i64 0, .int .i64 0, .int .i64 0, .int .i64 0, .slice none 0 0, .int .i64 0, .int .i64 0, .slice none 0 0, .slice none 0 0] 29))
  have Xn := Lib.hid (show Box ((w.alloc (.cells #[.int .i64 x.fId, .int .i64 x.fPeers, .int .i64 x.fTerm, .int .i64 x.fVote, .slice A4 x.fLog.length d4, .int .i64 x.fCommit, .int .i64 x.fRole, .slice A7 x.fVotes.length d7, .slice A8 x.fMatch.length d8] 29)).alloc (.cells #[.int .i64 0, .int .i64 0, .int .i64 0, .int .i64 0, .slice none 0 0, .int .i64 0, .int .i64 0, .slice none 0 0, .slice none 0 0] 29)) (w.heap.size) #[.int .i64 x.fId, .int .i64 x.fPeers, .int .i64 x.fTerm, .int .i64 x.fVote, .slice A4 x.fLog.length d4, .int .i64 x.fCommit, .int .i64 x.fRole, .slice A7 x.fVotes.length d7, .slice A8 x.fMatch.length d8] 29 from Box.alloc (Box.new rfl))
  have Xr := Lib.hid (show Box ((w.alloc (.cells #[.int .i64 x.fId, .int .i64 x.fPeers, .int .i64 x.fTerm, .int .i64 x.fVote, .slice A4 x.fLog.length d4, .int .i64 x.fCommit, .int .i64 x.fRole, .slice A7 x.fVotes.length d7, .slice A8 x.fMatch.length d8] 29)).alloc (.cells #[.int .i64 0, .int .i64 0, .int .i64 0, .int .i64 0, .slice none 0 0, .int .i64 0, .int .i64 0, .slice none 0 0, .slice none 0 0] 29)) (w.heap.size + 1) #[.int .i64 0, .int .i64 0, .int .i64 0, .int .i64 0, .slice none 0 0, .int .i64 0, .int .i64 0, .slice none 0 0, .slice none 0 0] 29 from Box.new (by simp))
  have hsz : w.heap.size + 2 ≤ ((w.alloc (.cells #[.int .i64 x.fId, .int .i64 x.fPeers, .int .i64 x.fTerm, .int .i64 x.fVote, .slice A4 x.fLog.length d4, .int .i64 x.fCommit, .int .i64 x.fRole, .slice A7 x.fVotes.length d7, .slice A8 x.fMatch.length d8] 29)).alloc (.cells #[.int .i64 0, .int .i64 0, .int .i64 0, .int .i64 0, .slice none 0 0, .int .i64 0, .int .i64 0, .slice none 0 0, .slice none 0 0] 29)).heap.size := by simp
  generalize (w.alloc (.cells #[.int .i64 x.fId, .int .i64 x.fPeers, .int .i64 x.fTerm, .int .i64 x.fVote, .slice A4 x.fLog.length d4, .int .i64 x.fCommit, .int .i64 x.fRole, .slice A7 x.fVotes.length d7, .slice A8 x.fMatch.length d8] 29)).alloc (.cells #[.int .i64 0, .int .i64 0, .int .i64 0, .int .i64 0, .slice none 0 0, .int .i64 0, .int .i64 0, .slice none 0 0, .slice none 0 0] 29) = w1 at *
  have cn_0 := Xn.out.cell 0 (v := .int .i64 x.fId) rfl; have cn_1 := Xn.out.cell 1 (v := .int .i64 x.fPeers) rfl; have cn_2 := Xn.out.cell 2 (v := .int .i64 x.fTerm) rfl; have cn_3 := Xn.out.cell 3 (v := .int .i64 x.fVote) rfl; have cn_4 := Xn.out.cell 4 (v := .slice A4 x.fLog.length d4) rfl; have cn_5 := Xn.out.cell 5 (v := .int .i64 x.fCommit) rfl; have cn_6 := Xn.out.cell 6 (v := .int .i64 x.fRole) rfl; have cn_7 := Xn.out.cell 7 (v := .slice A7 x.fVotes.length d7) rfl; have cn_8 := Xn.out.cell 8 (v := .slice A8 x.fMatch.length d8) rfl; have cr_0 := Xr.out.cell 0 (v := .int .i64 0) rfl; have cr_1 := Xr.out.cell 1 (v := .int .i64 0) rfl; have cr_2 := Xr.out.cell 2 (v := .int .i64 0) rfl; have cr_3 := Xr.out.cell 3 (v := .int .i64 0) rfl; have cr_4 := Xr.out.cell 4 (v := .slice none 0 0) rfl; have cr_5 := Xr.out.cell 5 (v := .int .i64 0) rfl; have cr_6 := Xr.out.cell 6 (v := .int .i64 0) rfl; have cr_7 := Xr.out.cell 7 (v := .slice none 0 0) rfl; have cr_8 := Xr.out.cell 8 (v := .slice none 0 0) rfl
  go_cut [21] from 9 to 21 (fun s1 wx => (Below w.heap.size w wx ∧ w.heap.size + 2 ≤ wx.heap.size ∧ Box wx w.heap.size #[.int .i64 x.fId, .int .i64 x.fPeers, .int .i64 x.fTerm, .int .i64 x.fVote, .slice A4 x.fLog.length d4, .int .i64 x.fCommit, .int .i64 x.fRole, .slice A7 x.fVotes.length d7, .slice A8 x.fMatch.length d8] 29 ∧ Box wx (w.heap.size + 1) #[.int .i64 0, .int .i64 0, .int .i64 0, .int .i64 0, .slice none 0 0, .int .i64 0, .int .i64 0, .slice none 0 0, .slice none 0 0] 29) ∧ s1 = .bool (!tmOk x))
  case first =>
    cases e1 : (x.fRole == 2)
    all_goals cases e3 : (x.fTerm == 1000)
    all_goals go_wp2_with (first | (go_at_call 22; (with_reducible refine (iGoodNode_calls x _ _ _ _ (Rp.S_below G4.out HC.out) (Rp.S_below G7.out HC.out) (Rp.S_below G8.out HC.out) hl).mono ?_); rintro e wq ⟨rfl, hb⟩; cases hg : nodeOk x <;> (have HC := Lib.hid (HC.out.trans (hb.mono (by first | exact HC.out.size | (have := HC.out.size; omega)))); have hsz := Nat.le_trans hsz hb.size; have Xn := Lib.hid (Xn.out.below hb); have Xr := Lib.hid (Xr.out.below hb); clear cn_0 cn_1 cn_2 cn_3 cn_4 cn_5 cn_6 cn_7 cn_8 cr_0 cr_1 cr_2 cr_3 cr_4 cr_5 cr_6 cr_7 cr_8; clear hb; have cn_0 := Xn.out.cell 0 (v := .int .i64 x.fId) rfl; have cn_1 := Xn.out.cell 1 (v := .int .i64 x.fPeers) rfl; have cn_2 := Xn.out.cell 2 (v := .int .i64 x.fTerm) rfl; have cn_3 := Xn.out.cell 3 (v := .int .i64 x.fVote) rfl; have cn_4 := Xn.out.cell 4 (v := .slice A4 x.fLog.length d4) rfl; have cn_5 := Xn.out.cell 5 (v := .int .i64 x.fCommit) rfl; have cn_6 := Xn.out.cell 6 (v := .int .i64 x.fRole) rfl; have cn_7 := Xn.out.cell 7 (v := .slice A7 x.fVotes.length d7) rfl; have cn_8 := Xn.out.cell 8 (v := .slice A8 x.fMatch.length d8) rfl; have cr_0 := Xr.out.cell 0 (v := .int .i64 0) rfl; have cr_1 := Xr.out.cell 1 (v := .int .i64 0) rfl; have cr_2 := Xr.out.cell 2 (v := .int .i64 0) rfl; have cr_3 := Xr.out.cell 3 (v := .int .i64 0) rfl; have cr_4 := Xr.out.cell 4 (v := .slice none 0 0) rfl; have cr_5 := Xr.out.cell 5 (v := .int .i64 0) rfl; have cr_6 := Xr.out.cell 6 (v := .int .i64 0) rfl; have cr_7 := Xr.out.cell 7 (v := .slice none 0 0) rfl; have cr_8 := Xr.out.cell 8 (v := .slice none 0 0) rfl)))
    all_goals (go_meet; go_light)
    all_goals refine ⟨⟨HC.out, hsz, Xn.out, Xr.out⟩, ?_⟩
    all_goals (congr 1; rw [tmOk]; simp [*])
  case rest =>
    obtain ⟨⟨hcc, hsz2, hxn, hxr⟩, rfl⟩ := hcut
    clear HC hsz Xn Xr cn_0 cn_1 cn_2 cn_3 cn_4 cn_5 cn_6 cn_7 cn_8 cr_0 cr_1 cr_2 cr_3 cr_4 cr_5 cr_6 cr_7 cr_8
    have hsz := hsz2; have HC := Lib.hid hcc; have Xn := Lib.hid hxn; have Xr := Lib.hid hxr
    clear hsz2 hcc hxn hxr
    have cn_0 := Xn.out.cell 0 (v := .int .i64 x.fId) rfl; have cn_1 := Xn.out.cell 1 (v := .int .i64 x.fPeers) rfl; have cn_2 := Xn.out.cell 2 (v := .int .i64 x.fTerm) rfl; have cn_3 := Xn.out.cell 3 (v := .int .i64 x.fVote) rfl; have cn_4 := Xn.out.cell 4 (v := .slice A4 x.fLog.length d4) rfl; have cn_5 := Xn.out.cell 5 (v := .int .i64 x.fCommit) rfl; have cn_6 := Xn.out.cell 6 (v := .int .i64 x.fRole) rfl; have cn_7 := Xn.out.cell 7 (v := .slice A7 x.fVotes.length d7) rfl; have cn_8 := Xn.out.cell 8 (v := .slice A8 x.fMatch.length d8) rfl; have cr_0 := Xr.out.cell 0 (v := .int .i64 0) rfl; have cr_1 := Xr.out.cell 1 (v := .int .i64 0) rfl; have cr_2 := Xr.out.cell 2 (v := .int .i64 0) rfl; have cr_3 := Xr.out.cell 3 (v := .int .i64 0) rfl; have cr_4 := Xr.out.cell 4 (v := .slice none 0 0) rfl; have cr_5 := Xr.out.cell 5 (v := .int .i64 0) rfl; have cr_6 := Xr.out.cell 6 (v := .int .i64 0) rfl; have cr_7 := Xr.out.cell 7 (v := .slice none 0 0) rfl; have cr_8 := Xr.out.cell 8 (v := .slice none 0 0) rfl
    cases ho : tmOk x <;> simp only [Bool.not_true, Bool.not_false]
    case false =>
      have fr_ := Xr.out.fro
      go_wp2
      obtain ⟨hk, bf⟩ := Xr.out.stored [.int .i64 0, .int .i64 0, .int .i64 0, .int .i64 0, .slice none 0 0, .int .i64 0, .int .i64 0, .slice none 0 0, .slice none 0 0] 0
      rw [setA_all (by rfl)] at bf
      change bodyPost _ _ _ _ _ (Rp.setN wc (w.heap.size + 1) 0 [.int .i64 0, .int .i64 0, .int .i64 0, .int .i64 0, .slice none 0 0, .int .i64 0, .int .i64 0, .slice none 0 0, .slice none 0 0])
      clear fr_ cn_0 cn_1 cn_2 cn_3 cn_4 cn_5 cn_6 cn_7 cn_8 cr_0 cr_1 cr_2 cr_3 cr_4 cr_5 cr_6 cr_7 cr_8
      have HK := Lib.hid hk; clear hk
      generalize Rp.setN wc (w.heap.size + 1) 0 [.int .i64 0, .int .i64 0, .int .i64 0, .int .i64 0, .slice none 0 0, .int .i64 0, .int .i64 0, .slice none 0 0, .slice none 0 0] = wf at *
      have df0 := bf.cell 0 (v := .int .i64 0) rfl; have df1 := bf.cell 1 (v := .int .i64 0) rfl; have df2 := bf.cell 2 (v := .int .i64 0) rfl; have df3 := bf.cell 3 (v := .int .i64 0) rfl; have df4 := bf.cell 4 (v := .slice none 0 0) rfl; have df5 := bf.cell 5 (v := .int .i64 0) rfl; have df6 := bf.cell 6 (v := .int .i64 0) rfl; have df7 := bf.cell 7 (v := .slice none 0 0) rfl; have df8 := bf.cell 8 (v := .slice none 0 0) rfl
      refine bodyPost_ret (v := .tuple #[.agg #[.int .i64 0, .int .i64 0, .int .i64 0, .int .i64 0, .slice none 0 0, .int .i64 0, .int .i64 0, .slice none 0 0, .slice none 0 0], .slice none 0 0, .bool false]) (by simp [results, Try.results7, go_sem, df0, df1, df2, df3, df4, df5, df6, df7, df8]) rfl ⟨_, _, by rw [ho], TmMade.no ho (HC.out.trans (HK.out.toBelow HC.out.size (by simp)))⟩
    case true =>
      have ho2 := ho
      simp only [tmOk, Bool.and_eq_true, Bool.not_eq_true'] at ho2
      obtain ⟨⟨hg, hr⟩, ht⟩ := ho2
      have hne : ¬ x.fTerm = 1000 := by simpa using ht
      have hcm := tmL_com hg
      obtain ⟨f1, f2, f3, f4, f5, f6, f7, f8, f9, _, _⟩ := nodeOk_facts hg
      have HOB := Lib.hid ho; have HCM := Lib.hid hcm
      clear ho hg hr ht hcm
      go_wp2_with fail
      (with_reducible refine (iClone_calls x _ _ _ _ (Rp.S_below G4.out HC.out) (Rp.S_below G7.out HC.out) (Rp.S_below G8.out HC.out) hl).mono ?_)
      rintro e w3 ⟨cs, F, rfl, hm, hF, hnd, hb⟩
      obtain ⟨v4, v7, v8, F4, F7, F8, rfl, rfl, r4, r7, r8⟩ := kRaftNode_open hm
      obtain ⟨P4, C4, rfl, _, _⟩ := Rp.Row_K r4
      obtain ⟨P7, C7, rfl, _, _⟩ := Rp.Row_K r7
      obtain ⟨P8, C8, rfl, _, _⟩ := Rp.Row_K r8
      have T4 := Lib.hid (fun b h => Nat.le_trans hsz (hF b (by simp [h])) : ∀ b ∈ F4, w.heap.size + 2 ≤ b)
      have T8 := Lib.hid (fun b h => Nat.le_trans hsz (hF b (by simp [h])) : ∀ b ∈ F8, w.heap.size + 2 ≤ b)
      have U4 := Lib.hid (Rp.Row_lt r4); have U8 := Lib.hid (Rp.Row_lt r8)
      have R4 := Lib.hid r4; have R8 := Lib.hid r8
      have ND := Lib.hid hnd
      clear r4 r7 r8 hF hnd hm
      have HC := Lib.hid (HC.out.trans (hb.mono (by first | exact HC.out.size | (have := HC.out.size; omega)))); have hsz := Nat.le_trans hsz hb.size; have Xn := Lib.hid (Xn.out.below hb); have Xr := Lib.hid (Xr.out.below hb); clear cn_0 cn_1 cn_2 cn_3 cn_4 cn_5 cn_6 cn_7 cn_8 cr_0 cr_1 cr_2 cr_3 cr_4 cr_5 cr_6 cr_7 cr_8; clear hb; have cn_0 := Xn.out.cell 0 (v := .int .i64 x.fId) rfl; have cn_1 := Xn.out.cell 1 (v := .int .i64 x.fPeers) rfl; have cn_2 := Xn.out.cell 2 (v := .int .i64 x.fTerm) rfl; have cn_3 := Xn.out.cell 3 (v := .int .i64 x.fVote) rfl; have cn_4 := Xn.out.cell 4 (v := .slice A4 x.fLog.length d4) rfl; have cn_5 := Xn.out.cell 5 (v := .int .i64 x.fCommit) rfl; have cn_6 := Xn.out.cell 6 (v := .int .i64 x.fRole) rfl; have cn_7 := Xn.out.cell 7 (v := .slice A7 x.fVotes.length d7) rfl; have cn_8 := Xn.out.cell 8 (v := .slice A8 x.fMatch.length d8) rfl; have cr_0 := Xr.out.cell 0 (v := .int .i64 0) rfl; have cr_1 := Xr.out.cell 1 (v := .int .i64 0) rfl; have cr_2 := Xr.out.cell 2 (v := .int .i64 0) rfl; have cr_3 := Xr.out.cell 3 (v := .int .i64 0) rfl; have cr_4 := Xr.out.cell 4 (v := .slice none 0 0) rfl; have cr_5 := Xr.out.cell 5 (v := .int .i64 0) rfl; have cr_6 := Xr.out.cell 6 (v := .int .i64 0) rfl; have cr_7 := Xr.out.cell 7 (v := .slice none 0 0) rfl; have cr_8 := Xr.out.cell 8 (v := .slice none 0 0) rfl
      obtain ⟨gl, hgl⟩ : ∃ g, w3.heap.size = g := ⟨_, rfl⟩
      have Bza : Box ((w3.alloc (.cells #[] 44)).alloc (.cells #[.int .i64 0, .int .i64 0, .int .i64 0, .int .i64 0, .slice none 0 0, .int .i64 0, .int .i64 0, .slice none 0 0, .slice none 0 0] 29)) (w3.alloc (.cells #[] 44)).heap.size #[.int .i64 0, .int .i64 0, .int .i64 0, .int .i64 0, .slice none 0 0, .int .i64 0, .int .i64 0, .slice none 0 0, .slice none 0 0] 29 := Box.new rfl
      have za0 := Bza.cell 0 (v := .int .i64 0) rfl; have za1 := Bza.cell 1 (v := .int .i64 0) rfl; have za2 := Bza.cell 2 (v := .int .i64 0) rfl; have za3 := Bza.cell 3 (v := .int .i64 0) rfl; have za4 := Bza.cell 4 (v := .slice none 0 0) rfl; have za5 := Bza.cell 5 (v := .int .i64 0) rfl; have za6 := Bza.cell 6 (v := .int .i64 0) rfl; have za7 := Bza.cell 7 (v := .slice none 0 0) rfl; have za8 := Bza.cell 8 (v := .slice none 0 0) rfl
      have zaf := Bza.fro
      clear Bza
      go_upto_region 4 with fail
      clear za0 za1 za2 za3 za4 za5 za6 za7 za8 zaf
      have hs3 := hsz
      have RL := Lib.hid (Rp.Row_made0 kAsk 44 w3 hgl.symm)
      have hb := (Below.refl w3.heap.size w3).alloc (Nat.le_refl _) (.cells #[] 44)
      have hz0 : (w3.alloc (.cells #[] 44)).heap.size = gl + 1 := by rw [← hgl]; simp
      have R4 := Lib.hid (Rp.Row_below R4.out hb); have R8 := Lib.hid (Rp.Row_below R8.out hb)
      skip
      generalize w3.alloc (.cells #[] 44) = w3b at *
      have HC := Lib.hid (HC.out.trans (hb.mono (by first | exact HC.out.size | (have := HC.out.size; omega)))); have hsz := Nat.le_trans hsz hb.size; have Xn := Lib.hid (Xn.out.below hb); have Xr := Lib.hid (Xr.out.below hb); clear cn_0 cn_1 cn_2 cn_3 cn_4 cn_5 cn_6 cn_7 cn_8 cr_0 cr_1 cr_2 cr_3 cr_4 cr_5 cr_6 cr_7 cr_8; clear hb; have cn_0 := Xn.out.cell 0 (v := .int .i64 x.fId) rfl; have cn_1 := Xn.out.cell 1 (v := .int .i64 x.fPeers) rfl; have cn_2 := Xn.out.cell 2 (v := .int .i64 x.fTerm) rfl; have cn_3 := Xn.out.cell 3 (v := .int .i64 x.fVote) rfl; have cn_4 := Xn.out.cell 4 (v := .slice A4 x.fLog.length d4) rfl; have cn_5 := Xn.out.cell 5 (v := .int .i64 x.fCommit) rfl; have cn_6 := Xn.out.cell 6 (v := .int .i64 x.fRole) rfl; have cn_7 := Xn.out.cell 7 (v := .slice A7 x.fVotes.length d7) rfl; have cn_8 := Xn.out.cell 8 (v := .slice A8 x.fMatch.length d8) rfl; have cr_0 := Xr.out.cell 0 (v := .int .i64 0) rfl; have cr_1 := Xr.out.cell 1 (v := .int .i64 0) rfl; have cr_2 := Xr.out.cell 2 (v := .int .i64 0) rfl; have cr_3 := Xr.out.cell 3 (v := .int .i64 0) rfl; have cr_4 := Xr.out.cell 4 (v := .slice none 0 0) rfl; have cr_5 := Xr.out.cell 5 (v := .int .i64 0) rfl; have cr_6 := Xr.out.cell 6 (v := .int .i64 0) rfl; have cr_7 := Xr.out.cell 7 (v := .slice none 0 0) rfl; have cr_8 := Xr.out.cell 8 (v := .slice none 0 0) rfl
      have R4 := Lib.hid (Rp.Row_below R4.out ((Below.refl w3b.heap.size w3b).alloc (Nat.le_refl _) (.cells #[.int .i64 x.fId, .int .i64 x.fPeers, .int .i64 x.fTerm, .int .i64 x.fVote, .slice P4 x.fLog.length C4, .int .i64 x.fCommit, .int .i64 x.fRole, .slice P7 x.fVotes.length C7, .slice P8 x.fMatch.length C8] 29))); have R8 := Lib.hid (Rp.Row_below R8.out ((Below.refl w3b.heap.size w3b).alloc (Nat.le_refl _) (.cells #[.int .i64 x.fId, .int .i64 x.fPeers, .int .i64 x.fTerm, .int .i64 x.fVote, .slice P4 x.fLog.length C4, .int .i64 x.fCommit, .int .i64 x.fRole, .slice P7 x.fVotes.length C7, .slice P8 x.fMatch.length C8] 29))); have RL := Lib.hid (Rp.Row_below RL.out ((Below.refl w3b.heap.size w3b).alloc (Nat.le_refl _) (.cells #[.int .i64 x.fId, .int .i64 x.fPeers, .int .i64 x.fTerm, .int .i64 x.fVote, .slice P4 x.fLog.length C4, .int .i64 x.fCommit, .int .i64 x.fRole, .slice P7 x.fVotes.length C7, .slice P8 x.fMatch.length C8] 29)))
      have hb := (Below.refl w3b.heap.size w3b).alloc (Nat.le_refl _) (.cells #[.int .i64 x.fId, .int .i64 x.fPeers, .int .i64 x.fTerm, .int .i64 x.fVote, .slice P4 x.fLog.length C4, .int .i64 x.fCommit, .int .i64 x.fRole, .slice P7 x.fVotes.length C7, .slice P8 x.fMatch.length C8] 29)
      have hsc : w3b.heap.size + 1 ≤ (w3b.alloc (.cells #[.int .i64 x.fId, .int .i64 x.fPeers, .int .i64 x.fTerm, .int .i64 x.fVote, .slice P4 x.fLog.length C4, .int .i64 x.fCommit, .int .i64 x.fRole, .slice P7 x.fVotes.length C7, .slice P8 x.fMatch.length C8] 29)).heap.size := by simp
      have Xc := Lib.hid (show Box (w3b.alloc (.cells #[.int .i64 x.fId, .int .i64 x.fPeers, .int .i64 x.fTerm, .int .i64 x.fVote, .slice P4 x.fLog.length C4, .int .i64 x.fCommit, .int .i64 x.fRole, .slice P7 x.fVotes.length C7, .slice P8 x.fMatch.length C8] 29)) w3b.heap.size #[.int .i64 x.fId, .int .i64 x.fPeers, .int .i64 x.fTerm, .int .i64 x.fVote, .slice P4 x.fLog.length C4, .int .i64 x.fCommit, .int .i64 x.fRole, .slice P7 x.fVotes.length C7, .slice P8 x.fMatch.length C8] 29 from Box.new rfl)
      generalize w3b.alloc (.cells #[.int .i64 x.fId, .int .i64 x.fPeers, .int .i64 x.fTerm, .int .i64 x.fVote, .slice P4 x.fLog.length C4, .int .i64 x.fCommit, .int .i64 x.fRole, .slice P7 x.fVotes.length C7, .slice P8 x.fMatch.length C8] 29) = w4 at *
      have HC := Lib.hid (HC.out.trans (hb.mono (by first | exact HC.out.size | (have := HC.out.size; omega)))); have hsz := Nat.le_trans hsz hb.size; have Xn := Lib.hid (Xn.out.below hb); have Xr := Lib.hid (Xr.out.below hb); clear cn_0 cn_1 cn_2 cn_3 cn_4 cn_5 cn_6 cn_7 cn_8 cr_0 cr_1 cr_2 cr_3 cr_4 cr_5 cr_6 cr_7 cr_8; clear hb; have cn_0 := Xn.out.cell 0 (v := .int .i64 x.fId) rfl; have cn_1 := Xn.out.cell 1 (v := .int .i64 x.fPeers) rfl; have cn_2 := Xn.out.cell 2 (v := .int .i64 x.fTerm) rfl; have cn_3 := Xn.out.cell 3 (v := .int .i64 x.fVote) rfl; have cn_4 := Xn.out.cell 4 (v := .slice A4 x.fLog.length d4) rfl; have cn_5 := Xn.out.cell 5 (v := .int .i64 x.fCommit) rfl; have cn_6 := Xn.out.cell 6 (v := .int .i64 x.fRole) rfl; have cn_7 := Xn.out.cell 7 (v := .slice A7 x.fVotes.length d7) rfl; have cn_8 := Xn.out.cell 8 (v := .slice A8 x.fMatch.length d8) rfl; have cr_0 := Xr.out.cell 0 (v := .int .i64 0) rfl; have cr_1 := Xr.out.cell 1 (v := .int .i64 0) rfl; have cr_2 := Xr.out.cell 2 (v := .int .i64 0) rfl; have cr_3 := Xr.out.cell 3 (v := .int .i64 0) rfl; have cr_4 := Xr.out.cell 4 (v := .slice none 0 0) rfl; have cr_5 := Xr.out.cell 5 (v := .int .i64 0) rfl; have cr_6 := Xr.out.cell 6 (v := .int .i64 0) rfl; have cr_7 := Xr.out.cell 7 (v := .slice none 0 0) rfl; have cr_8 := Xr.out.cell 8 (v := .slice none 0 0) rfl
      have cc_0 := Xc.out.cell 0 (v := .int .i64 x.fId) rfl; have cc_1 := Xc.out.cell 1 (v := .int .i64 x.fPeers) rfl; have cc_2 := Xc.out.cell 2 (v := .int .i64 x.fTerm) rfl; have cc_3 := Xc.out.cell 3 (v := .int .i64 x.fVote) rfl; have cc_4 := Xc.out.cell 4 (v := .slice P4 x.fLog.length C4) rfl; have cc_5 := Xc.out.cell 5 (v := .int .i64 x.fCommit) rfl; have cc_6 := Xc.out.cell 6 (v := .int .i64 x.fRole) rfl; have cc_7 := Xc.out.cell 7 (v := .slice P7 x.fVotes.length C7) rfl; have cc_8 := Xc.out.cell 8 (v := .slice P8 x.fMatch.length C8) rfl
      have hgc : w3b.heap.size = gl + 1 := hz0
      have Xc := Lib.hid (show Box w4 (gl + 1) #[.int .i64 x.fId, .int .i64 x.fPeers, .int .i64 x.fTerm, .int .i64 x.fVote, .slice P4 x.fLog.length C4, .int .i64 x.fCommit, .int .i64 x.fRole, .slice P7 x.fVotes.length C7, .slice P8 x.fMatch.length C8] 29 by have h := Xc.out; rw [hgc] at h; exact h)
      clear cc_0 cc_1 cc_2 cc_3 cc_4 cc_5 cc_6 cc_7 cc_8
      have cc_0 := Xc.out.cell 0 (v := .int .i64 x.fId) rfl; have cc_1 := Xc.out.cell 1 (v := .int .i64 x.fPeers) rfl; have cc_2 := Xc.out.cell 2 (v := .int .i64 x.fTerm) rfl; have cc_3 := Xc.out.cell 3 (v := .int .i64 x.fVote) rfl; have cc_4 := Xc.out.cell 4 (v := .slice P4 x.fLog.length C4) rfl; have cc_5 := Xc.out.cell 5 (v := .int .i64 x.fCommit) rfl; have cc_6 := Xc.out.cell 6 (v := .int .i64 x.fRole) rfl; have cc_7 := Xc.out.cell 7 (v := .slice P7 x.fVotes.length C7) rfl; have cc_8 := Xc.out.cell 8 (v := .slice P8 x.fMatch.length C8) rfl
      have hsc2 : gl + 2 ≤ w4.heap.size := by omega
      clear hsc
      have U4 := Lib.hid (fun b h => (by have := U4.out b h; omega) : ∀ b ∈ F4, b < gl); have U8 := Lib.hid (fun b h => (by have := U8.out b h; omega) : ∀ b ∈ F8, b < gl)
      have N4 := Lib.hid (show (gl + 1) ∉ F4 from fun h => by have := U4.out _ h; omega); have N8 := Lib.hid (show (gl + 1) ∉ F8 from fun h => by have := U8.out _ h; omega); have NL := Lib.hid (show (gl + 1) ∉ [gl] by simp)
      have hgl2 : w.heap.size + 2 ≤ gl := by omega
      clear hz0 hgc hgl hs3
      have fb := Xc.out.fro
      go_upto_region 5 with fail
      clear fb
      have hk := kept_set w4 ((gl + 1)) 2 (.int .i64 (x.fTerm + 1))
      have R4 := Lib.hid (Row_ne R4.out hk (fun h => by exact N4.out h))
      have R8 := Lib.hid (Row_ne R8.out hk (fun h => by exact N8.out h))
      have RL := Lib.hid (Row_ne RL.out hk (fun h => by exact NL.out h))
      have Xn := Lib.hid (Xn.out.set_other (a := ⟨(gl + 1), 2, none⟩) (.int .i64 (x.fTerm + 1)) (by first | (simp; done) | (simp; omega)))
      have Xr := Lib.hid (Xr.out.set_other (a := ⟨(gl + 1), 2, none⟩) (.int .i64 (x.fTerm + 1)) (by first | (simp; done) | (simp; omega)))
      have Xc := Lib.hid (show Box (w4.setCell ⟨(gl + 1), 2, none⟩ (.int .i64 (x.fTerm + 1))) ((gl + 1)) #[.int .i64 x.fId, .int .i64 x.fPeers, .int .i64 (x.fTerm + 1), .int .i64 x.fVote, .slice P4 x.fLog.length C4, .int .i64 x.fCommit, .int .i64 x.fRole, .slice P7 x.fVotes.length C7, .slice P8 x.fMatch.length C8] 29 from Xc.out.set 2 (.int .i64 (x.fTerm + 1)))
      have HC := Lib.hid (HC.out.setCell (p := ⟨(gl + 1), 2, none⟩) (by first | (simp; done) | (simp; omega)) (.int .i64 (x.fTerm + 1)))
      replace hsz := Nat.le_trans hsz hk.size
      replace hsc2 := Nat.lt_of_lt_of_le hsc2 hk.size
      clear hk cn_0 cn_1 cn_2 cn_3 cn_4 cn_5 cn_6 cn_7 cn_8 cr_0 cr_1 cr_2 cr_3 cr_4 cr_5 cr_6 cr_7 cr_8 cc_0 cc_1 cc_2 cc_3 cc_4 cc_5 cc_6 cc_7 cc_8
      generalize w4.setCell ⟨(gl + 1), 2, none⟩ (.int .i64 (x.fTerm + 1)) = w5 at *
      have cn_0 := Xn.out.cell 0 (v := .int .i64 x.fId) rfl; have cn_1 := Xn.out.cell 1 (v := .int .i64 x.fPeers) rfl; have cn_2 := Xn.out.cell 2 (v := .int .i64 x.fTerm) rfl; have cn_3 := Xn.out.cell 3 (v := .int .i64 x.fVote) rfl; have cn_4 := Xn.out.cell 4 (v := .slice A4 x.fLog.length d4) rfl; have cn_5 := Xn.out.cell 5 (v := .int .i64 x.fCommit) rfl; have cn_6 := Xn.out.cell 6 (v := .int .i64 x.fRole) rfl; have cn_7 := Xn.out.cell 7 (v := .slice A7 x.fVotes.length d7) rfl; have cn_8 := Xn.out.cell 8 (v := .slice A8 x.fMatch.length d8) rfl; have cr_0 := Xr.out.cell 0 (v := .int .i64 0) rfl; have cr_1 := Xr.out.cell 1 (v := .int .i64 0) rfl; have cr_2 := Xr.out.cell 2 (v := .int .i64 0) rfl; have cr_3 := Xr.out.cell 3 (v := .int .i64 0) rfl; have cr_4 := Xr.out.cell 4 (v := .slice none 0 0) rfl; have cr_5 := Xr.out.cell 5 (v := .int .i64 0) rfl; have cr_6 := Xr.out.cell 6 (v := .int .i64 0) rfl; have cr_7 := Xr.out.cell 7 (v := .slice none 0 0) rfl; have cr_8 := Xr.out.cell 8 (v := .slice none 0 0) rfl; have cc_0 := Xc.out.cell 0 (v := .int .i64 x.fId) rfl; have cc_1 := Xc.out.cell 1 (v := .int .i64 x.fPeers) rfl; have cc_2 := Xc.out.cell 2 (v := .int .i64 (x.fTerm + 1)) rfl; have cc_3 := Xc.out.cell 3 (v := .int .i64 x.fVote) rfl; have cc_4 := Xc.out.cell 4 (v := .slice P4 x.fLog.length C4) rfl; have cc_5 := Xc.out.cell 5 (v := .int .i64 x.fCommit) rfl; have cc_6 := Xc.out.cell 6 (v := .int .i64 x.fRole) rfl; have cc_7 := Xc.out.cell 7 (v := .slice P7 x.fVotes.length C7) rfl; have cc_8 := Xc.out.cell 8 (v := .slice P8 x.fMatch.length C8) rfl
      obtain ⟨ka, kb⟩ := acell w5
      have fb := Xc.out.fro
      have s0 : gl + 1 < w5.heap.size := by omega
      go_upto_region 6 with fail
      clear ka kb fb s0
      obtain ⟨gv, hgv⟩ : ∃ g, w5.heap.size = g := ⟨_, rfl⟩
      simp only [hgv]
      have he : (((w5.setCell ⟨(gl + 1), 3, none⟩ (.int .i64 x.fId)).setCell ⟨(gl + 1), 7, none⟩ (.slice (some ⟨gv, 0, none⟩) 1 1)).setCell ⟨(gl + 1), 6, none⟩ (.int .i64 1)).heap.size = gv := by rw [← hgv]; simp
      have hgv2 : gl + 1 < gv := by omega
      clear hgv
      have hk := kept_set w5 ((gl + 1)) 3 (.int .i64 x.fId)
      have R4 := Lib.hid (Row_ne R4.out hk (fun h => by exact N4.out h))
      have R8 := Lib.hid (Row_ne R8.out hk (fun h => by exact N8.out h))
      have RL := Lib.hid (Row_ne RL.out hk (fun h => by exact NL.out h))
      have Xn := Lib.hid (Xn.out.set_other (a := ⟨(gl + 1), 3, none⟩) (.int .i64 x.fId) (by first | (simp; done) | (simp; omega)))
      have Xr := Lib.hid (Xr.out.set_other (a := ⟨(gl + 1), 3, none⟩) (.int .i64 x.fId) (by first | (simp; done) | (simp; omega)))
      have Xc := Lib.hid (show Box (w5.setCell ⟨(gl + 1), 3, none⟩ (.int .i64 x.fId)) ((gl + 1)) #[.int .i64 x.fId, .int .i64 x.fPeers, .int .i64 (x.fTerm + 1), .int .i64 x.fId, .slice P4 x.fLog.length C4, .int .i64 x.fCommit, .int .i64 x.fRole, .slice P7 x.fVotes.length C7, .slice P8 x.fMatch.length C8] 29 from Xc.out.set 3 (.int .i64 x.fId))
      have HC := Lib.hid (HC.out.setCell (p := ⟨(gl + 1), 3, none⟩) (by first | (simp; done) | (simp; omega)) (.int .i64 x.fId))
      replace hsz := Nat.le_trans hsz hk.size
      replace hsc2 := Nat.lt_of_lt_of_le hsc2 hk.size
      clear hk cn_0 cn_1 cn_2 cn_3 cn_4 cn_5 cn_6 cn_7 cn_8 cr_0 cr_1 cr_2 cr_3 cr_4 cr_5 cr_6 cr_7 cr_8 cc_0 cc_1 cc_2 cc_3 cc_4 cc_5 cc_6 cc_7 cc_8
      generalize w5.setCell ⟨(gl + 1), 3, none⟩ (.int .i64 x.fId) = w6 at *
      have cn_0 := Xn.out.cell 0 (v := .int .i64 x.fId) rfl; have cn_1 := Xn.out.cell 1 (v := .int .i64 x.fPeers) rfl; have cn_2 := Xn.out.cell 2 (v := .int .i64 x.fTerm) rfl; have cn_3 := Xn.out.cell 3 (v := .int .i64 x.fVote) rfl; have cn_4 := Xn.out.cell 4 (v := .slice A4 x.fLog.length d4) rfl; have cn_5 := Xn.out.cell 5 (v := .int .i64 x.fCommit) rfl; have cn_6 := Xn.out.cell 6 (v := .int .i64 x.fRole) rfl; have cn_7 := Xn.out.cell 7 (v := .slice A7 x.fVotes.length d7) rfl; have cn_8 := Xn.out.cell 8 (v := .slice A8 x.fMatch.length d8) rfl; have cr_0 := Xr.out.cell 0 (v := .int .i64 0) rfl; have cr_1 := Xr.out.cell 1 (v := .int .i64 0) rfl; have cr_2 := Xr.out.cell 2 (v := .int .i64 0) rfl; have cr_3 := Xr.out.cell 3 (v := .int .i64 0) rfl; have cr_4 := Xr.out.cell 4 (v := .slice none 0 0) rfl; have cr_5 := Xr.out.cell 5 (v := .int .i64 0) rfl; have cr_6 := Xr.out.cell 6 (v := .int .i64 0) rfl; have cr_7 := Xr.out.cell 7 (v := .slice none 0 0) rfl; have cr_8 := Xr.out.cell 8 (v := .slice none 0 0) rfl; have cc_0 := Xc.out.cell 0 (v := .int .i64 x.fId) rfl; have cc_1 := Xc.out.cell 1 (v := .int .i64 x.fPeers) rfl; have cc_2 := Xc.out.cell 2 (v := .int .i64 (x.fTerm + 1)) rfl; have cc_3 := Xc.out.cell 3 (v := .int .i64 x.fId) rfl; have cc_4 := Xc.out.cell 4 (v := .slice P4 x.fLog.length C4) rfl; have cc_5 := Xc.out.cell 5 (v := .int .i64 x.fCommit) rfl; have cc_6 := Xc.out.cell 6 (v := .int .i64 x.fRole) rfl; have cc_7 := Xc.out.cell 7 (v := .slice P7 x.fVotes.length C7) rfl; have cc_8 := Xc.out.cell 8 (v := .slice P8 x.fMatch.length C8) rfl
      have hk := kept_set w6 ((gl + 1)) 7 (.slice (some ⟨gv, 0, none⟩) 1 1)
      have R4 := Lib.hid (Row_ne R4.out hk (fun h => by exact N4.out h))
      have R8 := Lib.hid (Row_ne R8.out hk (fun h => by exact N8.out h))
      have RL := Lib.hid (Row_ne RL.out hk (fun h => by exact NL.out h))
      have Xn := Lib.hid (Xn.out.set_other (a := ⟨(gl + 1), 7, none⟩) (.slice (some ⟨gv, 0, none⟩) 1 1) (by first | (simp; done) | (simp; omega)))
      have Xr := Lib.hid (Xr.out.set_other (a := ⟨(gl + 1), 7, none⟩) (.slice (some ⟨gv, 0, none⟩) 1 1) (by first | (simp; done) | (simp; omega)))
      have Xc := Lib.hid (show Box (w6.setCell ⟨(gl + 1), 7, none⟩ (.slice (some ⟨gv, 0, none⟩) 1 1)) ((gl + 1)) #[.int .i64 x.fId, .int .i64 x.fPeers, .int .i64 (x.fTerm + 1), .int .i64 x.fId, .slice P4 x.fLog.length C4, .int .i64 x.fCommit, .int .i64 x.fRole, .slice (some ⟨gv, 0, none⟩) 1 1, .slice P8 x.fMatch.length C8] 29 from Xc.out.set 7 (.slice (some ⟨gv, 0, none⟩) 1 1))
      have HC := Lib.hid (HC.out.setCell (p := ⟨(gl + 1), 7, none⟩) (by first | (simp; done) | (simp; omega)) (.slice (some ⟨gv, 0, none⟩) 1 1))
      replace hsz := Nat.le_trans hsz hk.size
      replace hsc2 := Nat.lt_of_lt_of_le hsc2 hk.size
      clear hk cn_0 cn_1 cn_2 cn_3 cn_4 cn_5 cn_6 cn_7 cn_8 cr_0 cr_1 cr_2 cr_3 cr_4 cr_5 cr_6 cr_7 cr_8 cc_0 cc_1 cc_2 cc_3 cc_4 cc_5 cc_6 cc_7 cc_8
      generalize w6.setCell ⟨(gl + 1), 7, none⟩ (.slice (some ⟨gv, 0, none⟩) 1 1) = w7 at *
      have cn_0 := Xn.out.cell 0 (v := .int .i64 x.fId) rfl; have cn_1 := Xn.out.cell 1 (v := .int .i64 x.fPeers) rfl; have cn_2 := Xn.out.cell 2 (v := .int .i64 x.fTerm) rfl; have cn_3 := Xn.out.cell 3 (v := .int .i64 x.fVote) rfl; have cn_4 := Xn.out.cell 4 (v := .slice A4 x.fLog.length d4) rfl; have cn_5 := Xn.out.cell 5 (v := .int .i64 x.fCommit) rfl; have cn_6 := Xn.out.cell 6 (v := .int .i64 x.fRole) rfl; have cn_7 := Xn.out.cell 7 (v := .slice A7 x.fVotes.length d7) rfl; have cn_8 := Xn.out.cell 8 (v := .slice A8 x.fMatch.length d8) rfl; have cr_0 := Xr.out.cell 0 (v := .int .i64 0) rfl; have cr_1 := Xr.out.cell 1 (v := .int .i64 0) rfl; have cr_2 := Xr.out.cell 2 (v := .int .i64 0) rfl; have cr_3 := Xr.out.cell 3 (v := .int .i64 0) rfl; have cr_4 := Xr.out.cell 4 (v := .slice none 0 0) rfl; have cr_5 := Xr.out.cell 5 (v := .int .i64 0) rfl; have cr_6 := Xr.out.cell 6 (v := .int .i64 0) rfl; have cr_7 := Xr.out.cell 7 (v := .slice none 0 0) rfl; have cr_8 := Xr.out.cell 8 (v := .slice none 0 0) rfl; have cc_0 := Xc.out.cell 0 (v := .int .i64 x.fId) rfl; have cc_1 := Xc.out.cell 1 (v := .int .i64 x.fPeers) rfl; have cc_2 := Xc.out.cell 2 (v := .int .i64 (x.fTerm + 1)) rfl; have cc_3 := Xc.out.cell 3 (v := .int .i64 x.fId) rfl; have cc_4 := Xc.out.cell 4 (v := .slice P4 x.fLog.length C4) rfl; have cc_5 := Xc.out.cell 5 (v := .int .i64 x.fCommit) rfl; have cc_6 := Xc.out.cell 6 (v := .int .i64 x.fRole) rfl; have cc_7 := Xc.out.cell 7 (v := .slice (some ⟨gv, 0, none⟩) 1 1) rfl; have cc_8 := Xc.out.cell 8 (v := .slice P8 x.fMatch.length C8) rfl
      have hk := kept_set w7 ((gl + 1)) 6 (.int .i64 1)
      have R4 := Lib.hid (Row_ne R4.out hk (fun h => by exact N4.out h))
      have R8 := Lib.hid (Row_ne R8.out hk (fun h => by exact N8.out h))
      have RL := Lib.hid (Row_ne RL.out hk (fun h => by exact NL.out h))
      have Xn := Lib.hid (Xn.out.set_other (a := ⟨(gl + 1), 6, none⟩) (.int .i64 1) (by first | (simp; done) | (simp; omega)))
      have Xr := Lib.hid (Xr.out.set_other (a := ⟨(gl + 1), 6, none⟩) (.int .i64 1) (by first | (simp; done) | (simp; omega)))
      have Xc := Lib.hid (show Box (w7.setCell ⟨(gl + 1), 6, none⟩ (.int .i64 1)) ((gl + 1)) #[.int .i64 x.fId, .int .i64 x.fPeers, .int .i64 (x.fTerm + 1), .int .i64 x.fId, .slice P4 x.fLog.length C4, .int .i64 x.fCommit, .int .i64 1, .slice (some ⟨gv, 0, none⟩) 1 1, .slice P8 x.fMatch.length C8] 29 from Xc.out.set 6 (.int .i64 1))
      have HC := Lib.hid (HC.out.setCell (p := ⟨(gl + 1), 6, none⟩) (by first | (simp; done) | (simp; omega)) (.int .i64 1))
      replace hsz := Nat.le_trans hsz hk.size
      replace hsc2 := Nat.lt_of_lt_of_le hsc2 hk.size
      clear hk cn_0 cn_1 cn_2 cn_3 cn_4 cn_5 cn_6 cn_7 cn_8 cr_0 cr_1 cr_2 cr_3 cr_4 cr_5 cr_6 cr_7 cr_8 cc_0 cc_1 cc_2 cc_3 cc_4 cc_5 cc_6 cc_7 cc_8
      generalize w7.setCell ⟨(gl + 1), 6, none⟩ (.int .i64 1) = w8 at *
      have cn_0 := Xn.out.cell 0 (v := .int .i64 x.fId) rfl; have cn_1 := Xn.out.cell 1 (v := .int .i64 x.fPeers) rfl; have cn_2 := Xn.out.cell 2 (v := .int .i64 x.fTerm) rfl; have cn_3 := Xn.out.cell 3 (v := .int .i64 x.fVote) rfl; have cn_4 := Xn.out.cell 4 (v := .slice A4 x.fLog.length d4) rfl; have cn_5 := Xn.out.cell 5 (v := .int .i64 x.fCommit) rfl; have cn_6 := Xn.out.cell 6 (v := .int .i64 x.fRole) rfl; have cn_7 := Xn.out.cell 7 (v := .slice A7 x.fVotes.length d7) rfl; have cn_8 := Xn.out.cell 8 (v := .slice A8 x.fMatch.length d8) rfl; have cr_0 := Xr.out.cell 0 (v := .int .i64 0) rfl; have cr_1 := Xr.out.cell 1 (v := .int .i64 0) rfl; have cr_2 := Xr.out.cell 2 (v := .int .i64 0) rfl; have cr_3 := Xr.out.cell 3 (v := .int .i64 0) rfl; have cr_4 := Xr.out.cell 4 (v := .slice none 0 0) rfl; have cr_5 := Xr.out.cell 5 (v := .int .i64 0) rfl; have cr_6 := Xr.out.cell 6 (v := .int .i64 0) rfl; have cr_7 := Xr.out.cell 7 (v := .slice none 0 0) rfl; have cr_8 := Xr.out.cell 8 (v := .slice none 0 0) rfl; have cc_0 := Xc.out.cell 0 (v := .int .i64 x.fId) rfl; have cc_1 := Xc.out.cell 1 (v := .int .i64 x.fPeers) rfl; have cc_2 := Xc.out.cell 2 (v := .int .i64 (x.fTerm + 1)) rfl; have cc_3 := Xc.out.cell 3 (v := .int .i64 x.fId) rfl; have cc_4 := Xc.out.cell 4 (v := .slice P4 x.fLog.length C4) rfl; have cc_5 := Xc.out.cell 5 (v := .int .i64 x.fCommit) rfl; have cc_6 := Xc.out.cell 6 (v := .int .i64 1) rfl; have cc_7 := Xc.out.cell 7 (v := .slice (some ⟨gv, 0, none⟩) 1 1) rfl; have cc_8 := Xc.out.cell 8 (v := .slice P8 x.fMatch.length C8) rfl
      have hb := (Below.refl w8.heap.size w8).alloc (Nat.le_refl _) (.cells #[.int .i64 x.fId] 3)
      have Xv := Lib.hid (show Box (w8.alloc (.cells #[.int .i64 x.fId] 3)) gv #[.int .i64 x.fId] 3 from Box.new he.symm)
      have hv9 : gv < (w8.alloc (.cells #[.int .i64 x.fId] 3)).heap.size := by rw [← he]; simp
      have R4 := Lib.hid (Rp.Row_below R4.out hb); have R8 := Lib.hid (Rp.Row_below R8.out hb); have RL := Lib.hid (Rp.Row_below RL.out hb)
      generalize w8.alloc (.cells #[.int .i64 x.fId] 3) = w9 at *
      replace hsc2 := Nat.lt_of_lt_of_le hsc2 hb.size
      clear he
      have HC := Lib.hid (HC.out.trans (hb.mono (by first | exact HC.out.size | (have := HC.out.size; omega)))); have hsz := Nat.le_trans hsz hb.size; have Xn := Lib.hid (Xn.out.below hb); have Xr := Lib.hid (Xr.out.below hb); have Xc := Lib.hid (Xc.out.below hb); clear cn_0 cn_1 cn_2 cn_3 cn_4 cn_5 cn_6 cn_7 cn_8 cr_0 cr_1 cr_2 cr_3 cr_4 cr_5 cr_6 cr_7 cr_8 cc_0 cc_1 cc_2 cc_3 cc_4 cc_5 cc_6 cc_7 cc_8; clear hb; have cn_0 := Xn.out.cell 0 (v := .int .i64 x.fId) rfl; have cn_1 := Xn.out.cell 1 (v := .int .i64 x.fPeers) rfl; have cn_2 := Xn.out.cell 2 (v := .int .i64 x.fTerm) rfl; have cn_3 := Xn.out.cell 3 (v := .int .i64 x.fVote) rfl; have cn_4 := Xn.out.cell 4 (v := .slice A4 x.fLog.length d4) rfl; have cn_5 := Xn.out.cell 5 (v := .int .i64 x.fCommit) rfl; have cn_6 := Xn.out.cell 6 (v := .int .i64 x.fRole) rfl; have cn_7 := Xn.out.cell 7 (v := .slice A7 x.fVotes.length d7) rfl; have cn_8 := Xn.out.cell 8 (v := .slice A8 x.fMatch.length d8) rfl; have cr_0 := Xr.out.cell 0 (v := .int .i64 0) rfl; have cr_1 := Xr.out.cell 1 (v := .int .i64 0) rfl; have cr_2 := Xr.out.cell 2 (v := .int .i64 0) rfl; have cr_3 := Xr.out.cell 3 (v := .int .i64 0) rfl; have cr_4 := Xr.out.cell 4 (v := .slice none 0 0) rfl; have cr_5 := Xr.out.cell 5 (v := .int .i64 0) rfl; have cr_6 := Xr.out.cell 6 (v := .int .i64 0) rfl; have cr_7 := Xr.out.cell 7 (v := .slice none 0 0) rfl; have cr_8 := Xr.out.cell 8 (v := .slice none 0 0) rfl; have cc_0 := Xc.out.cell 0 (v := .int .i64 x.fId) rfl; have cc_1 := Xc.out.cell 1 (v := .int .i64 x.fPeers) rfl; have cc_2 := Xc.out.cell 2 (v := .int .i64 (x.fTerm + 1)) rfl; have cc_3 := Xc.out.cell 3 (v := .int .i64 x.fId) rfl; have cc_4 := Xc.out.cell 4 (v := .slice P4 x.fLog.length C4) rfl; have cc_5 := Xc.out.cell 5 (v := .int .i64 x.fCommit) rfl; have cc_6 := Xc.out.cell 6 (v := .int .i64 1) rfl; have cc_7 := Xc.out.cell 7 (v := .slice (some ⟨gv, 0, none⟩) 1 1) rfl; have cc_8 := Xc.out.cell 8 (v := .slice P8 x.fMatch.length C8) rfl
      have cv_0 := Xv.out.cell 0 (v := .int .i64 x.fId) rfl
      have hnd4 := (List.nodup_append.1 ND.out).1; have hnd8 := (List.nodup_append.1 (List.nodup_append.1 ND.out).2.1).2.1
      have hd48 : ∀ b ∈ F8, b ∉ F4 := fun b h hm => (List.nodup_append.1 ND.out).2.2 b hm b (List.mem_append_right _ h) rfl
      have DN := Lib.hid (And.intro hnd4 (And.intro hnd8 hd48))
      clear hnd4 hnd8 hd48 ND
      cases hp : (x.fPeers == 1)
      case false =>
        have hp1 : ¬ x.fPeers = 1 := by simpa using hp
        have hp2 : 2 ≤ x.fPeers := by omega
        have HP := Lib.hid hp
        clear hp1
        clear hp
        go_upto_region 7 with ((with_reducible refine (iLeadN_calls (b := gl + 1) hp2 Xc.out).mono ?_); rintro e wq ⟨rfl, hq⟩; obtain rfl : w9 = wq := hq.symm)
        obtain ⟨n, hn⟩ : ∃ n : Nat, x.fPeers = n := ⟨x.fPeers.toNat, by omega⟩
        have HN := Lib.hid hn; clear hn
        have HC9 := HC; have hsz9 := hsz
        go_wp2
        go_loopw [6, 48] (fun l i wr => ∃ (k : Nat) (v : Value), k ≤ n ∧ l = v ∧ i = .int .i64 k ∧ Hid (kAsk.Row 44 wr (Rp.ofOwn v) (tmMk x k) v) ∧ Hid (∀ b ∈ Rp.ofOwn v, b = gl ∨ w9.heap.size ≤ b) ∧ Hid (Below w.heap.size w wr) ∧ w9.heap.size ≤ wr.heap.size ∧ Hid (Box wr (gl + 1) #[.int .i64 x.fId, .int .i64 x.fPeers, .int .i64 (x.fTerm + 1), .int .i64 x.fId, .slice P4 x.fLog.length C4, .int .i64 x.fCommit, .int .i64 1, .slice (some ⟨gv, 0, none⟩) 1 1, .slice P8 x.fMatch.length C8] 29) ∧ Hid (Box wr (w.heap.size + 1) #[.int .i64 0, .int .i64 0, .int .i64 0, .int .i64 0, .slice none 0 0, .int .i64 0, .int .i64 0, .slice none 0 0, .slice none 0 0] 29) ∧ Hid (Box wr gv #[.int .i64 x.fId] 3) ∧ Hid (kEntry.Row 59 wr F4 x.fLog (.slice P4 x.fLog.length C4)) ∧ Hid (kInt.Row 3 wr F8 x.fMatch (.slice P8 x.fMatch.length C8))) (fun _ i _ => n - (intOf i).toNat)
        case atStart => exact ⟨0, .slice (some ⟨gl, 0, none⟩) 0 0, Nat.zero_le _, rfl, rfl, RL.out, (fun b h => .inl (by simpa [Rp.ofOwn, Value.ownBlock] using h)), HC.out, Nat.le_refl _, Xc.out, Xr.out, Xv.out, R4.out, R8.out⟩
        case round =>
          clear HC9 hsz9 HC Xc Xr Xv R4 R8 RL Xn cn_0 cn_1 cn_2 cn_3 cn_4 cn_5 cn_6 cn_7 cn_8 cr_0 cr_1 cr_2 cr_3 cr_4 cr_5 cr_6 cr_7 cr_8 cc_0 cc_1 cc_2 cc_3 cc_4 cc_5 cc_6 cc_7 cc_8 cv_0
          obtain ⟨k, v_, hk, rfl, rfl, HR, HF, HC, hs9, Xc, Xr, Xv, R4, R8⟩ := hrel
          obtain ⟨A, c, e1, _, _⟩ := Rp.Row_K HR.out
          subst e1
          have D4 := Lib.hid (fun b h hm => (by have := U4.out b h; have := HF.out b hm; omega) : ∀ b ∈ F4, b ∉ Rp.ofOwn (.slice A (tmMk x k).length c)); have D8 := Lib.hid (fun b h hm => (by have := U8.out b h; have := HF.out b hm; omega) : ∀ b ∈ F8, b ∉ Rp.ofOwn (.slice A (tmMk x k).length c))
          have DC := Lib.hid (fun hm => (by have := HF.out _ hm; omega) : ((gl + 1)) ∉ Rp.ofOwn (.slice A (tmMk x k).length c)); have DR := Lib.hid (fun hm => (by have := HF.out _ hm; omega) : (w.heap.size + 1) ∉ Rp.ofOwn (.slice A (tmMk x k).length c)); have DV := Lib.hid (fun hm => (by have := HF.out _ hm; omega) : gv ∉ Rp.ofOwn (.slice A (tmMk x k).length c))
          have cc_0 := Xc.out.cell 0 (v := .int .i64 x.fId) rfl; have cc_1 := Xc.out.cell 1 (v := .int .i64 x.fPeers) rfl; have cc_2 := Xc.out.cell 2 (v := .int .i64 (x.fTerm + 1)) rfl; have cc_3 := Xc.out.cell 3 (v := .int .i64 x.fId) rfl; have cc_4 := Xc.out.cell 4 (v := .slice P4 x.fLog.length C4) rfl; have cc_5 := Xc.out.cell 5 (v := .int .i64 x.fCommit) rfl; have cc_6 := Xc.out.cell 6 (v := .int .i64 1) rfl; have cc_7 := Xc.out.cell 7 (v := .slice (some ⟨gv, 0, none⟩) 1 1) rfl; have cc_8 := Xc.out.cell 8 (v := .slice P8 x.fMatch.length C8) rfl
          by_cases hlk : k < n
          case pos =>
            have i3 : (k : Int) < x.fPeers := by have := HN.out; omega
            cases hid : ((k : Int) == x.fId)
            case true =>
              have hid2 : ((k : Int) != x.fId) = false := by simp [bne, hid]
              have HI := Lib.hid hid; clear hid
              go_wp2
              exact ⟨⟨k + 1, _, by omega, rfl, by go_num, by rw [tmMk_no HI.out]; exact HR.out, HF.out, HC.out, hs9, Xc.out, Xr.out, Xv.out, R4.out, R8.out⟩, by simp [intOf]; omega⟩
            case false =>
              have hid2 : ((k : Int) != x.fId) = true := by simp [bne, hid]
              have HI := Lib.hid hid; clear hid
              go_upto_region 14 with fail
              refine wp_region_tab (G := Nat × Value) (fun g => [(6, 12, g.2), (48, 0, .slice A (tmMk x k).length c), (0, 1, .pointer (some ⟨(gl + 1), 0, none⟩)), (0, 2, .int .i64 x.fId), (0, 3, .int .i64 (k : Int)), (0, 4, .pointer (some ⟨(gl + 1), 2, none⟩)), (0, 5, .int .i64 (x.fTerm + 1)), (0, 6, .int .i64 (x.fLog.length : Int)), (0, 7, .int .i64 (x.fLog.length : Int)), (0, 8, .int .i64 (termV x.fLog x.fLog.length)), (0, 9, .agg #[.int .i64 1, .int .i64 x.fId, .int .i64 (k : Int), .int .i64 (x.fTerm + 1), .int .i64 (x.fLog.length : Int), .int .i64 (termV x.fLog x.fLog.length), .slice none 0 0, .int .i64 0, .bool false]), (0, 10, .slice (some ⟨g.1, 0, none⟩) 1 1), (0, 11, g.2)])
                  (fun L g W => (KeptF (Rp.ofOwn (.slice A (tmMk x k).length c)) wr W) ∧
                    (L 11 = false → kAsk.Row 44 W (Rp.ofOwn (.slice A (tmMk x k).length c)) (tmMk x k) (.slice A (tmMk x k).length c)) ∧
                    (L 10 = true → L 11 = false → Box W g.1 #[.int .i64 1, .int .i64 x.fId, .int .i64 (k : Int), .int .i64 (x.fTerm + 1), .int .i64 (x.fLog.length : Int), .int .i64 (termV x.fLog x.fLog.length), .slice none 0 0, .int .i64 0, .bool false] 44) ∧
                    (L 11 = true → kAsk.Row 44 W (Rp.ofOwn g.2) ((tmMk x k) ++ [(⟨x.fId, (k : Int), x.fTerm + 1, (x.fLog.length : Int), termV x.fLog x.fLog.length⟩ : DAsk)]) g.2 ∧ ∀ b ∈ Rp.ofOwn g.2, b ∈ Rp.ofOwn (.slice A (tmMk x k).length c) ∨ wr.heap.size ≤ b) ∧
                    (Box W ((gl + 1)) #[.int .i64 x.fId, .int .i64 x.fPeers, .int .i64 (x.fTerm + 1), .int .i64 x.fId, .slice P4 x.fLog.length C4, .int .i64 x.fCommit, .int .i64 1, .slice (some ⟨gv, 0, none⟩) 1 1, .slice P8 x.fMatch.length C8] 29) ∧
                    ((L 12 = true → L 11 = true)) ∧
                    ((L 11 = true → L 0 = true)))
                  (0, undef) (by kernel_rfl) (by kernel_rfl) (fun _ => rfl) ?_ ?_ ?_
              · exact ⟨KeptF.of_below (Below.refl _ _).drew, fun _ => Rp.Row_below HR.out (Below.refl _ _).drew, nofun, nofun, Xc.out.drew, nofun, nofun⟩
              · simp (config := { maxSteps := 4000000 }) only [StepsT, layT, Nat.reduceAdd, Nat.reduceBEq, cond_true, cond_false]
                refine ⟨?_, ?_, ?_, ?_, ?_, ?_, ?_, ?_, ?_, ?_, ?_, ?_, ?_, trivial⟩
                · rintro L ⟨gs, va⟩ W hL hd ⟨q0, q1, q2, q3, q4, q5, q6⟩
                  try dsimp only at q0 q1 q2 q3 q4 q5 q6
                  try simp only [depsT, Region.binds, forall_const, and_true, beq_iff_eq, reduceCtorEq, false_implies, true_and] at hd
                  intro K hK; refine do_wanted rfl ?_
                  have HK := Lib.hid hK; clear hK
                  try simp only [hd, cond_true]
                  have E11 : L 11 = false := (by cases h : L 11 with | false => rfl | true => exact absurd (q6 h) (by rw [hL]; simp))
                  have E12 : L 12 = false := (by cases h : L 12 with | false => rfl | true => exact absurd (q5 h) (by rw [E11]; simp))
                  simp only [E12, cond_false]
                  have Q0 := Lib.hid q0; have Q1 := Lib.hid q1; have Q2 := Lib.hid q2; have Q3 := Lib.hid q3; have Q4 := Lib.hid q4; have Q5 := Lib.hid q5; have Q6 := Lib.hid q6
                  clear q0 q1 q2 q3 q4 q5 q6
                  go_wp2
                  exact HK.out _ _ ⟨⟨gs, va⟩, by (simp only [upd, Nat.reduceBEq, cond_true, cond_false, hd, E12]; try rfl), ⟨Q0.out, Q1.out, Q2.out, Q3.out, Q4.out, Q5.out, fun h => rfl⟩⟩
                · rintro L ⟨gs, va⟩ W hL hd ⟨q0, q1, q2, q3, q4, q5, q6⟩
                  try dsimp only at q0 q1 q2 q3 q4 q5 q6
                  try simp only [depsT, Region.binds, forall_const, and_true, beq_iff_eq, reduceCtorEq, false_implies, true_and] at hd
                  intro K hK; refine do_wanted rfl ?_
                  have HK := Lib.hid hK; clear hK
                  try simp only [hd, cond_true]
                  have Q0 := Lib.hid q0; have Q1 := Lib.hid q1; have Q2 := Lib.hid q2; have Q3 := Lib.hid q3; have Q4 := Lib.hid q4; have Q5 := Lib.hid q5; have Q6 := Lib.hid q6
                  clear q0 q1 q2 q3 q4 q5 q6
                  go_wp2
                  exact HK.out _ _ ⟨⟨gs, va⟩, by simp only [upd, Nat.reduceBEq, cond_true, cond_false, hd], ⟨Q0.out, Q1.out, Q2.out, Q3.out, Q4.out, Q5.out, Q6.out⟩⟩
                · rintro L ⟨gs, va⟩ W hL hd ⟨q0, q1, q2, q3, q4, q5, q6⟩
                  try dsimp only at q0 q1 q2 q3 q4 q5 q6
                  try simp only [depsT, Region.binds, forall_const, and_true, beq_iff_eq, reduceCtorEq, false_implies, true_and] at hd
                  intro K hK; refine do_wanted rfl ?_
                  have HK := Lib.hid hK; clear hK
                  try simp only [hd, cond_true]
                  have cc := q4.cell 0 (v := .int .i64 x.fId) rfl
                  have Q0 := Lib.hid q0; have Q1 := Lib.hid q1; have Q2 := Lib.hid q2; have Q3 := Lib.hid q3; have Q4 := Lib.hid q4; have Q5 := Lib.hid q5; have Q6 := Lib.hid q6
                  clear q0 q1 q2 q3 q4 q5 q6
                  go_wp2
                  exact HK.out _ _ ⟨⟨gs, va⟩, by simp only [upd, Nat.reduceBEq, cond_true, cond_false, hd], ⟨Q0.out, Q1.out, Q2.out, Q3.out, Q4.out, Q5.out, Q6.out⟩⟩
                · rintro L ⟨gs, va⟩ W hL hd ⟨q0, q1, q2, q3, q4, q5, q6⟩
                  try dsimp only at q0 q1 q2 q3 q4 q5 q6
                  try simp only [depsT, Region.binds, forall_const, and_true, beq_iff_eq, reduceCtorEq, false_implies, true_and] at hd
                  intro K hK; refine do_wanted rfl ?_
                  have HK := Lib.hid hK; clear hK
                  try simp only [hd, cond_true]
                  have Q0 := Lib.hid q0; have Q1 := Lib.hid q1; have Q2 := Lib.hid q2; have Q3 := Lib.hid q3; have Q4 := Lib.hid q4; have Q5 := Lib.hid q5; have Q6 := Lib.hid q6
                  clear q0 q1 q2 q3 q4 q5 q6
                  go_wp2
                  exact HK.out _ _ ⟨⟨gs, va⟩, by simp only [upd, Nat.reduceBEq, cond_true, cond_false, hd], ⟨Q0.out, Q1.out, Q2.out, Q3.out, Q4.out, Q5.out, Q6.out⟩⟩
                · rintro L ⟨gs, va⟩ W hL hd ⟨q0, q1, q2, q3, q4, q5, q6⟩
                  try dsimp only at q0 q1 q2 q3 q4 q5 q6
                  try simp only [depsT, Region.binds, forall_const, and_true, beq_iff_eq, reduceCtorEq, false_implies, true_and] at hd
                  intro K hK; refine do_wanted rfl ?_
                  have HK := Lib.hid hK; clear hK
                  try simp only [hd, cond_true]
                  have Q0 := Lib.hid q0; have Q1 := Lib.hid q1; have Q2 := Lib.hid q2; have Q3 := Lib.hid q3; have Q4 := Lib.hid q4; have Q5 := Lib.hid q5; have Q6 := Lib.hid q6
                  clear q0 q1 q2 q3 q4 q5 q6
                  go_wp2
                  exact HK.out _ _ ⟨⟨gs, va⟩, by simp only [upd, Nat.reduceBEq, cond_true, cond_false, hd], ⟨Q0.out, Q1.out, Q2.out, Q3.out, Q4.out, Q5.out, Q6.out⟩⟩
                · rintro L ⟨gs, va⟩ W hL hd ⟨q0, q1, q2, q3, q4, q5, q6⟩
                  try dsimp only at q0 q1 q2 q3 q4 q5 q6
                  try simp only [depsT, Region.binds, forall_const, and_true, beq_iff_eq, reduceCtorEq, false_implies, true_and] at hd
                  intro K hK; refine do_wanted rfl ?_
                  have HK := Lib.hid hK; clear hK
                  try simp only [hd, cond_true]
                  have cc := q4.cell 2 (v := .int .i64 (x.fTerm + 1)) rfl
                  have Q0 := Lib.hid q0; have Q1 := Lib.hid q1; have Q2 := Lib.hid q2; have Q3 := Lib.hid q3; have Q4 := Lib.hid q4; have Q5 := Lib.hid q5; have Q6 := Lib.hid q6
                  clear q0 q1 q2 q3 q4 q5 q6
                  go_wp2
                  exact HK.out _ _ ⟨⟨gs, va⟩, by simp only [upd, Nat.reduceBEq, cond_true, cond_false, hd], ⟨Q0.out, Q1.out, Q2.out, Q3.out, Q4.out, Q5.out, Q6.out⟩⟩
                · rintro L ⟨gs, va⟩ W hL hd ⟨q0, q1, q2, q3, q4, q5, q6⟩
                  try dsimp only at q0 q1 q2 q3 q4 q5 q6
                  try simp only [depsT, Region.binds, forall_const, and_true, beq_iff_eq, reduceCtorEq, false_implies, true_and] at hd
                  intro K hK; refine do_wanted rfl ?_
                  have HK := Lib.hid hK; clear hK
                  try simp only [hd, cond_true]
                  have Q0 := Lib.hid q0; have Q1 := Lib.hid q1; have Q2 := Lib.hid q2; have Q3 := Lib.hid q3; have Q4 := Lib.hid q4; have Q5 := Lib.hid q5; have Q6 := Lib.hid q6
                  clear q0 q1 q2 q3 q4 q5 q6
                  go_wp2
                  exact HK.out _ _ ⟨⟨gs, va⟩, by simp only [upd, Nat.reduceBEq, cond_true, cond_false, hd], ⟨Q0.out, Q1.out, Q2.out, Q3.out, Q4.out, Q5.out, Q6.out⟩⟩
                · rintro L ⟨gs, va⟩ W hL hd ⟨q0, q1, q2, q3, q4, q5, q6⟩
                  try dsimp only at q0 q1 q2 q3 q4 q5 q6
                  try simp only [depsT, Region.binds, forall_const, and_true, beq_iff_eq, reduceCtorEq, false_implies, true_and] at hd
                  intro K hK; refine do_wanted rfl ?_
                  have HK := Lib.hid hK; clear hK
                  try simp only [hd, cond_true]
                  have Q0 := Lib.hid q0; have Q1 := Lib.hid q1; have Q2 := Lib.hid q2; have Q3 := Lib.hid q3; have Q4 := Lib.hid q4; have Q5 := Lib.hid q5; have Q6 := Lib.hid q6
                  clear q0 q1 q2 q3 q4 q5 q6
                  go_wp2
                  exact HK.out _ _ ⟨⟨gs, va⟩, by simp only [upd, Nat.reduceBEq, cond_true, cond_false, hd], ⟨Q0.out, Q1.out, Q2.out, Q3.out, Q4.out, Q5.out, Q6.out⟩⟩
                · rintro L ⟨gs, va⟩ W hL hd ⟨q0, q1, q2, q3, q4, q5, q6⟩
                  try dsimp only at q0 q1 q2 q3 q4 q5 q6
                  try simp only [depsT, Region.binds, forall_const, and_true, beq_iff_eq, reduceCtorEq, false_implies, true_and] at hd
                  intro K hK; refine do_wanted rfl ?_
                  have HK := Lib.hid hK; clear hK
                  try simp only [hd, cond_true]
                  have cc := q4.cell 4 (v := .slice P4 x.fLog.length C4) rfl
                  have rr := Rp.Row_S (Rp.Row_kept R4.out q0 D4.out)
                  have HCL := Lib.hid (iTerm_calls x.fLog x.fLog.length ((gl + 1)) (.slice P4 x.fLog.length C4) W rr cc (Nat.le_refl _) (by omega))
                  clear rr cc
                  have Q0 := Lib.hid q0; have Q1 := Lib.hid q1; have Q2 := Lib.hid q2; have Q3 := Lib.hid q3; have Q4 := Lib.hid q4; have Q5 := Lib.hid q5; have Q6 := Lib.hid q6
                  clear q0 q1 q2 q3 q4 q5 q6
                  go_wp2_with ((with_reducible refine HCL.out.mono ?_); rintro ee we ⟨rfl, rfl⟩)
                  exact HK.out _ _ ⟨⟨gs, va⟩, by simp only [upd, Nat.reduceBEq, cond_true, cond_false, hd], ⟨Q0.out, Q1.out, Q2.out, Q3.out, Q4.out, Q5.out, Q6.out⟩⟩
                · rintro L ⟨gs, va⟩ W hL hd ⟨q0, q1, q2, q3, q4, q5, q6⟩
                  try dsimp only at q0 q1 q2 q3 q4 q5 q6
                  try simp only [depsT, Region.binds, forall_const, and_true, beq_iff_eq, reduceCtorEq, false_implies, true_and] at hd
                  intro K hK; refine do_wanted rfl ?_
                  have HK := Lib.hid hK; clear hK
                  try simp only [hd, cond_true]
                  have Q0 := Lib.hid q0; have Q1 := Lib.hid q1; have Q2 := Lib.hid q2; have Q3 := Lib.hid q3; have Q4 := Lib.hid q4; have Q5 := Lib.hid q5; have Q6 := Lib.hid q6
                  clear q0 q1 q2 q3 q4 q5 q6
                  go_wp2
                  exact HK.out _ _ ⟨⟨gs, va⟩, by simp only [upd, Nat.reduceBEq, cond_true, cond_false, hd], ⟨Q0.out, Q1.out, Q2.out, Q3.out, Q4.out, Q5.out, Q6.out⟩⟩
                · rintro L ⟨gs, va⟩ W hL hd ⟨q0, q1, q2, q3, q4, q5, q6⟩
                  try dsimp only at q0 q1 q2 q3 q4 q5 q6
                  try simp only [depsT, Region.binds, forall_const, and_true, beq_iff_eq, reduceCtorEq, false_implies, true_and] at hd
                  intro K hK; refine do_wanted rfl ?_
                  have HK := Lib.hid hK; clear hK
                  try simp only [hd, cond_true]
                  have Q0 := Lib.hid q0; have Q1 := Lib.hid q1; have Q2 := Lib.hid q2; have Q3 := Lib.hid q3; have Q4 := Lib.hid q4; have Q5 := Lib.hid q5; have Q6 := Lib.hid q6
                  clear q0 q1 q2 q3 q4 q5 q6
                  go_wp2
                  have HB := Lib.hid ((Below.refl W.heap.size W).alloc (Nat.le_refl _) (.cells #[.int .i64 1, .int .i64 x.fId, .int .i64 (k : Int), .int .i64 (x.fTerm + 1), .int .i64 (x.fLog.length : Int), .int .i64 (termV x.fLog x.fLog.length), .slice none 0 0, .int .i64 0, .bool false] 44))
                  exact HK.out _ _ ⟨⟨W.heap.size, va⟩, by simp only [upd, Nat.reduceBEq, cond_true, cond_false, hd], ⟨Q0.out.below HB.out, fun h => Rp.Row_below (Q1.out h) HB.out, fun _ _ => Box.new rfl, fun h => ⟨Rp.Row_below (Q3.out h).1 HB.out, (Q3.out h).2⟩, Q4.out.below HB.out, Q5.out, Q6.out⟩⟩
                · rintro L ⟨gs, va⟩ W hL hd ⟨q0, q1, q2, q3, q4, q5, q6⟩
                  try dsimp only at q0 q1 q2 q3 q4 q5 q6
                  try simp only [depsT, Region.binds, forall_const, and_true, beq_iff_eq, reduceCtorEq, false_implies, true_and] at hd
                  intro K hK; refine do_wanted rfl ?_
                  have HK := Lib.hid hK; clear hK
                  try simp only [hd, cond_true]
                  have E9 : L 12 = false := (by cases h : L 12 with | false => rfl | true => exact absurd (q5 h) (by rw [hL]; simp))
                  simp only [E9, cond_false]
                  have Q0 := Lib.hid q0; have Q1 := Lib.hid q1; have Q2 := Lib.hid q2; have Q3 := Lib.hid q3; have Q4 := Lib.hid q4; have Q5 := Lib.hid q5; have Q6 := Lib.hid q6
                  clear q0 q1 q2 q3 q4 q5 q6
                  refine wp_append_op (d := kAsk) _ _ 30 44 rfl Try.underlying30 infoRaftMsg rfl (by decide) rfl (by decide) kAsk_flat (xs := (tmMk x k)) (ys := [⟨x.fId, (k : Int), x.fTerm + 1, (x.fLog.length : Int), termV x.fLog x.fLog.length⟩]) rfl rfl (Q1.out hL) (Rp.S_one (Q2.out (show L 10 = true by simp only [hd]) hL) rfl) (by have := tmMk_len x k; simp; omega) ?_
                  intro va wa r1 r2 r3 _
                  have hq0 := Q0.out
                  exact HK.out _ _ ⟨⟨gs, va⟩, by (simp only [upd, Nat.reduceBEq, cond_true, cond_false, hd, E9]; rfl), ⟨hq0.trans r2, fun h => absurd (show true = false from h) (by simp), fun _ h => absurd (show true = false from h) (by simp), fun _ => ⟨r1, fun b h => (r3 b h).imp id fun h2 => Nat.le_trans hq0.size h2⟩, Q4.out.kept r2 DC.out, fun h => rfl, fun _ => (show L 0 = true by simp only [hd])⟩⟩
                · rintro L ⟨gs, va⟩ W hL hd ⟨q0, q1, q2, q3, q4, q5, q6⟩
                  try dsimp only at q0 q1 q2 q3 q4 q5 q6
                  try simp only [depsT, Region.binds, forall_const, and_true, beq_iff_eq, reduceCtorEq, false_implies, true_and] at hd
                  intro K hK; refine do_wanted rfl ?_
                  have HK := Lib.hid hK; clear hK
                  try simp only [hd, cond_true]
                  have Q0 := Lib.hid q0; have Q1 := Lib.hid q1; have Q2 := Lib.hid q2; have Q3 := Lib.hid q3; have Q4 := Lib.hid q4; have Q5 := Lib.hid q5; have Q6 := Lib.hid q6
                  clear q0 q1 q2 q3 q4 q5 q6
                  go_wp2
                  exact HK.out _ _ ⟨⟨gs, va⟩, by simp only [upd, Nat.reduceBEq, cond_true, cond_false, hd], ⟨Q0.out, Q1.out, Q2.out, Q3.out, Q4.out, fun _ => (show L 11 = true by simp only [hd]), Q6.out⟩⟩
              · simp (config := { maxSteps := 4000000 }) only [layT, Nat.reduceAdd, Nat.reduceBEq, cond_true, cond_false]
                rintro L ⟨gs, va⟩ W hd ⟨q0, q1, q2, q3, q4, q5, q6⟩
                simp only [doneT, true_and, List.length_cons, List.length_nil, Nat.reduceAdd] at hd
                obtain ⟨⟨⟨⟨⟨⟨⟨⟨⟨⟨⟨⟨e0, e1⟩, e2⟩, e3⟩, e4⟩, e5⟩, e6⟩, e7⟩, e8⟩, e9⟩, e10⟩, e11⟩, e12⟩ := hd
                try dsimp only at q0 q1 q2 q3 q4 q5 q6
                simp only [e0, e1, e2, e3, e4, e5, e6, e7, e8, e9, e10, e11, e12, cond_true]
                obtain ⟨y1, y2⟩ := q3 e11
                have HR2 := Lib.hid y1; have HF2 := Lib.hid (fun b h => (y2 b h).elim (fun h2 => HF.out b h2) (fun h2 => .inr (Nat.le_trans hs9 h2)) : ∀ b ∈ Rp.ofOwn va, b = gl ∨ w9.heap.size ≤ b)
                have K0 := Lib.hid q0; have hs2 := Nat.le_trans hs9 q0.size
                have HC2 := Lib.hid (HC.out.trans (q0.toBelow HC.out.size (fun b h => by have := HF.out b h; omega)))
                clear q0 q1 q2 q3 q4 q5 q6 y1 y2
                go_wp2
                exact ⟨⟨k + 1, va, by omega, rfl, by go_num, by rw [tmMk_yes HI.out]; exact HR2.out, HF2.out, HC2.out, hs2, Xc.out.kept K0.out DC.out, Xr.out.kept K0.out DR.out, Xv.out.kept K0.out DV.out, Rp.Row_kept R4.out K0.out D4.out, Rp.Row_kept R8.out K0.out D8.out⟩, by simp [intOf]; omega⟩
          case neg =>
            obtain rfl : k = n := by omega
            have i3 : ¬ (k : Int) < x.fPeers := by have := HN.out; omega
            have T7 := Lib.hid (show ∀ b ∈ [gv], w.heap.size + 2 ≤ b by simp; omega); have TM_ := Lib.hid (fun b h => (by have := HF.out b h; omega) : ∀ b ∈ Rp.ofOwn (.slice A (tmMk x k).length c), w.heap.size + 2 ≤ b)
            have cr_0 := Xr.out.cell 0 (v := .int .i64 0) rfl; have cr_1 := Xr.out.cell 1 (v := .int .i64 0) rfl; have cr_2 := Xr.out.cell 2 (v := .int .i64 0) rfl; have cr_3 := Xr.out.cell 3 (v := .int .i64 0) rfl; have cr_4 := Xr.out.cell 4 (v := .slice none 0 0) rfl; have cr_5 := Xr.out.cell 5 (v := .int .i64 0) rfl; have cr_6 := Xr.out.cell 6 (v := .int .i64 0) rfl; have cr_7 := Xr.out.cell 7 (v := .slice none 0 0) rfl; have cr_8 := Xr.out.cell 8 (v := .slice none 0 0) rfl; have cv_0 := Xv.out.cell 0 (v := .int .i64 x.fId) rfl
            have fr_ := Xr.out.fro
            go_wp2
            obtain ⟨hk, bf⟩ := Xr.out.stored [.int .i64 x.fId, .int .i64 x.fPeers, .int .i64 (x.fTerm + 1), .int .i64 x.fId, .slice P4 x.fLog.length C4, .int .i64 x.fCommit, .int .i64 1, .slice (some ⟨gv, 0, none⟩) 1 1, .slice P8 x.fMatch.length C8] 0
            rw [setA_all (by rfl)] at bf
            have q4 := Row_ne R4.out hk (fun h => by have h_0 := T4.out _ h; omega)
            have q8 := Row_ne R8.out hk (fun h => by have h_0 := T8.out _ h; omega)
            have qm := Row_ne HR.out hk (fun h => by have h_0 := TM_.out _ h; omega)
            change bodyPost _ _ _ _ _ (Rp.setN wr (w.heap.size + 1) 0 [.int .i64 x.fId, .int .i64 x.fPeers, .int .i64 (x.fTerm + 1), .int .i64 x.fId, .slice P4 x.fLog.length C4, .int .i64 x.fCommit, .int .i64 1, .slice (some ⟨gv, 0, none⟩) 1 1, .slice P8 x.fMatch.length C8])
            clear fr_ cr_0 cr_1 cr_2 cr_3 cr_4 cr_5 cr_6 cr_7 cr_8 cc_0 cc_1 cc_2 cc_3 cc_4 cc_5 cc_6 cc_7 cc_8 cv_0
            have HK := Lib.hid hk; clear hk
            generalize Rp.setN wr (w.heap.size + 1) 0 [.int .i64 x.fId, .int .i64 x.fPeers, .int .i64 (x.fTerm + 1), .int .i64 x.fId, .slice P4 x.fLog.length C4, .int .i64 x.fCommit, .int .i64 1, .slice (some ⟨gv, 0, none⟩) 1 1, .slice P8 x.fMatch.length C8] = wf at *
            have df0 := bf.cell 0 (v := .int .i64 x.fId) rfl; have df1 := bf.cell 1 (v := .int .i64 x.fPeers) rfl; have df2 := bf.cell 2 (v := .int .i64 (x.fTerm + 1)) rfl; have df3 := bf.cell 3 (v := .int .i64 x.fId) rfl; have df4 := bf.cell 4 (v := .slice P4 x.fLog.length C4) rfl; have df5 := bf.cell 5 (v := .int .i64 x.fCommit) rfl; have df6 := bf.cell 6 (v := .int .i64 1) rfl; have df7 := bf.cell 7 (v := .slice (some ⟨gv, 0, none⟩) 1 1) rfl; have df8 := bf.cell 8 (v := .slice P8 x.fMatch.length C8) rfl
            refine bodyPost_ret (v := .tuple #[.agg #[.int .i64 x.fId, .int .i64 x.fPeers, .int .i64 (x.fTerm + 1), .int .i64 x.fId, .slice P4 x.fLog.length C4, .int .i64 x.fCommit, .int .i64 1, .slice (some ⟨gv, 0, none⟩) 1 1, .slice P8 x.fMatch.length C8], .slice A (tmMk x k).length c, .bool true]) (by simp [results, Try.results7, go_sem, df0, df1, df2, df3, df4, df5, df6, df7, df8]) rfl ⟨_, _, by rw [HOB.out], TmMade.ask (N := w.heap.size + 2) (F7 := [gv]) HOB.out HP.out q4 (Row_one (Box_ne Xv.out HK.out (by omega))) q8 (by rw [HN.out, Int.toNat_natCast]; exact qm) T4.out T7.out T8.out TM_.out (by omega) (nodup3 DN.out.1 (by simp) DN.out.2.1 (fun b h hm => by have := U4.out b hm; simp at h; omega) DN.out.2.2 (fun b h hm => by have := U8.out b h; simp at hm; omega)) (ofOwn_nodup _) D4.out (fun b h hm => DV.out (by simp at h; subst h; exact hm)) D8.out (HC.out.trans (HK.out.toBelow HC.out.size (by simp)))⟩
      case true =>
        have hp1 : x.fPeers = 1 := by simpa using hp
        have hi0 : x.fId = 0 := by omega
        have Xc := Lib.hid (show Box w9 (gl + 1) #[.int .i64 0, .int .i64 1, .int .i64 (x.fTerm + 1), .int .i64 0, .slice P4 x.fLog.length C4, .int .i64 x.fCommit, .int .i64 1, .slice (some ⟨gv, 0, none⟩) 1 1, .slice P8 x.fMatch.length C8] 29 by have h := Xc.out; rw [hp1, hi0] at h; exact h)
        clear cc_0 cc_1 cc_2 cc_3 cc_4 cc_5 cc_6 cc_7 cc_8
        have cc_0 := Xc.out.cell 0 (v := .int .i64 0) rfl; have cc_1 := Xc.out.cell 1 (v := .int .i64 1) rfl; have cc_2 := Xc.out.cell 2 (v := .int .i64 (x.fTerm + 1)) rfl; have cc_3 := Xc.out.cell 3 (v := .int .i64 0) rfl; have cc_4 := Xc.out.cell 4 (v := .slice P4 x.fLog.length C4) rfl; have cc_5 := Xc.out.cell 5 (v := .int .i64 x.fCommit) rfl; have cc_6 := Xc.out.cell 6 (v := .int .i64 1) rfl; have cc_7 := Xc.out.cell 7 (v := .slice (some ⟨gv, 0, none⟩) 1 1) rfl; have cc_8 := Xc.out.cell 8 (v := .slice P8 x.fMatch.length C8) rfl
        have HP1 := Lib.hid hp1; have HI0 := Lib.hid hi0
        clear hp1 hi0 hp
        go_wp2_with fail
        (with_reducible refine (iLeadY_calls (b := gl + 1) Xc.out).mono ?_)
        rintro e wl ⟨rfl, gm, hgm, hk, hbx, hbm⟩
        have XM := Lib.hid hbm; clear hbm
        have hgm2 : gv < gm := by omega
        have R4 := Lib.hid (Row_ne R4.out hk (fun h => by exact N4.out h))
        have Xn := Lib.hid (Box_ne Xn.out hk (by omega))
        have Xr := Lib.hid (Box_ne Xr.out hk (by omega))
        have Xv := Lib.hid (Box_ne Xv.out hk (by omega))
        have Xc := Lib.hid hbx
        have HC := Lib.hid (HC.out.trans (hk.toBelow HC.out.size (fun b h => by have h2 : b = (gl + 1) := (by simpa using h); omega)))
        replace hsz := Nat.le_trans hsz hk.size
        replace hsc2 := Nat.lt_of_lt_of_le hsc2 hk.size
        replace hv9 := Nat.lt_of_lt_of_le hv9 hk.size
        clear hk hbx cn_0 cn_1 cn_2 cn_3 cn_4 cn_5 cn_6 cn_7 cn_8 cr_0 cr_1 cr_2 cr_3 cr_4 cr_5 cr_6 cr_7 cr_8 cc_0 cc_1 cc_2 cc_3 cc_4 cc_5 cc_6 cc_7 cc_8 cv_0
        have cn_0 := Xn.out.cell 0 (v := .int .i64 x.fId) rfl; have cn_1 := Xn.out.cell 1 (v := .int .i64 x.fPeers) rfl; have cn_2 := Xn.out.cell 2 (v := .int .i64 x.fTerm) rfl; have cn_3 := Xn.out.cell 3 (v := .int .i64 x.fVote) rfl; have cn_4 := Xn.out.cell 4 (v := .slice A4 x.fLog.length d4) rfl; have cn_5 := Xn.out.cell 5 (v := .int .i64 x.fCommit) rfl; have cn_6 := Xn.out.cell 6 (v := .int .i64 x.fRole) rfl; have cn_7 := Xn.out.cell 7 (v := .slice A7 x.fVotes.length d7) rfl; have cn_8 := Xn.out.cell 8 (v := .slice A8 x.fMatch.length d8) rfl; have cr_0 := Xr.out.cell 0 (v := .int .i64 0) rfl; have cr_1 := Xr.out.cell 1 (v := .int .i64 0) rfl; have cr_2 := Xr.out.cell 2 (v := .int .i64 0) rfl; have cr_3 := Xr.out.cell 3 (v := .int .i64 0) rfl; have cr_4 := Xr.out.cell 4 (v := .slice none 0 0) rfl; have cr_5 := Xr.out.cell 5 (v := .int .i64 0) rfl; have cr_6 := Xr.out.cell 6 (v := .int .i64 0) rfl; have cr_7 := Xr.out.cell 7 (v := .slice none 0 0) rfl; have cr_8 := Xr.out.cell 8 (v := .slice none 0 0) rfl; have cc_0 := Xc.out.cell 0 (v := .int .i64 0) rfl; have cc_1 := Xc.out.cell 1 (v := .int .i64 1) rfl; have cc_2 := Xc.out.cell 2 (v := .int .i64 (x.fTerm + 1)) rfl; have cc_3 := Xc.out.cell 3 (v := .int .i64 0) rfl; have cc_4 := Xc.out.cell 4 (v := .slice P4 x.fLog.length C4) rfl; have cc_5 := Xc.out.cell 5 (v := .int .i64 x.fCommit) rfl; have cc_6 := Xc.out.cell 6 (v := .int .i64 2) rfl; have cc_7 := Xc.out.cell 7 (v := .slice none 0 0) rfl; have cc_8 := Xc.out.cell 8 (v := .slice (some ⟨gm, 0, none⟩) 1 1) rfl; have cv_0 := Xv.out.cell 0 (v := .int .i64 x.fId) rfl
        have fr_ := Xr.out.fro
        go_wp2
        obtain ⟨hk, bf⟩ := Xr.out.stored [.int .i64 0, .int .i64 1, .int .i64 (x.fTerm + 1), .int .i64 0, .slice P4 x.fLog.length C4, .int .i64 x.fCommit, .int .i64 2, .slice none 0 0, .slice (some ⟨gm, 0, none⟩) 1 1] 0
        rw [setA_all (by rfl)] at bf
        have q4 := Row_ne R4.out hk (fun h => by have h_0 := T4.out _ h; omega)
        change bodyPost _ _ _ _ _ (Rp.setN wl (w.heap.size + 1) 0 [.int .i64 0, .int .i64 1, .int .i64 (x.fTerm + 1), .int .i64 0, .slice P4 x.fLog.length C4, .int .i64 x.fCommit, .int .i64 2, .slice none 0 0, .slice (some ⟨gm, 0, none⟩) 1 1])
        clear fr_ cn_0 cn_1 cn_2 cn_3 cn_4 cn_5 cn_6 cn_7 cn_8 cr_0 cr_1 cr_2 cr_3 cr_4 cr_5 cr_6 cr_7 cr_8 cc_0 cc_1 cc_2 cc_3 cc_4 cc_5 cc_6 cc_7 cc_8 cv_0
        have HK := Lib.hid hk; clear hk
        generalize Rp.setN wl (w.heap.size + 1) 0 [.int .i64 0, .int .i64 1, .int .i64 (x.fTerm + 1), .int .i64 0, .slice P4 x.fLog.length C4, .int .i64 x.fCommit, .int .i64 2, .slice none 0 0, .slice (some ⟨gm, 0, none⟩) 1 1] = wf at *
        have df0 := bf.cell 0 (v := .int .i64 0) rfl; have df1 := bf.cell 1 (v := .int .i64 1) rfl; have df2 := bf.cell 2 (v := .int .i64 (x.fTerm + 1)) rfl; have df3 := bf.cell 3 (v := .int .i64 0) rfl; have df4 := bf.cell 4 (v := .slice P4 x.fLog.length C4) rfl; have df5 := bf.cell 5 (v := .int .i64 x.fCommit) rfl; have df6 := bf.cell 6 (v := .int .i64 2) rfl; have df7 := bf.cell 7 (v := .slice none 0 0) rfl; have df8 := bf.cell 8 (v := .slice (some ⟨gm, 0, none⟩) 1 1) rfl
        refine bodyPost_ret (v := .tuple #[.agg #[.int .i64 0, .int .i64 1, .int .i64 (x.fTerm + 1), .int .i64 0, .slice P4 x.fLog.length C4, .int .i64 x.fCommit, .int .i64 2, .slice none 0 0, .slice (some ⟨gm, 0, none⟩) 1 1], .slice none 0 0, .bool true]) (by simp [results, Try.results7, go_sem, df0, df1, df2, df3, df4, df5, df6, df7, df8]) rfl ⟨_, _, by rw [HOB.out], TmMade.lead (N := w.heap.size + 2) HOB.out HP1.out HI0.out q4 (Row_one (Box_ne XM.out HK.out (by omega))) T4.out (by simp; omega) (by omega) DN.out.1 (by simp) (fun b h hm => by have := U4.out b hm; simp at h; omega) (HC.out.trans (HK.out.toBelow HC.out.size (by simp)))⟩
set_option maxHeartbeats 8000000 in
set_option maxRecDepth 100000 in
theorem sTm_calls (x : DRaftNode) (v4 v7 v8 : Value) (w : World) (g4 : kEntry.S w x.fLog v4) (g7 : kInt.S w x.fVotes v7) (g8 : kInt.S w x.fMatch v8) (hl : smRaftNode 1048576 x) : Calls Try.prog 5 #[.agg #[.int .i64 x.fId, .int .i64 x.fPeers, .int .i64 x.fTerm, .int .i64 x.fVote, v4, .int .i64 x.fCommit, .int .i64 x.fRole, v7, v8]] w
    fun e w' => ∃ v u, e = .returned (.tuple #[v, u, .bool (tmOk x)]) ∧ TmMade x w w' v u := by
  have G4 := Lib.hid g4; have G7 := Lib.hid g7; have G8 := Lib.hid g8
  obtain ⟨A4, d4, rfl, _, _⟩ := g4
  obtain ⟨A7, d7, rfl, _, _⟩ := g7
  obtain ⟨A8, d8, rfl, _, _⟩ := g8
  go_enter Try.func5, Try.ntmps5
  go_upto_region 1 with fail
  have HC := Lib.hid (show Below w.heap.size w ((w.alloc (.cells #[.int .i64 x.fId, .int .i64 x.fPeers, .int .i64 x.fTerm, .int .i64 x.fVote, .slice A4 x.fLog.length d4, .int .i64 x.fCommit, .int .i64 x.fRole, .slice A7 x.fVotes.length d7, .slice A8 x.fMatch.length d8] 29)).alloc (.cells #[.int .i64 0, .int .i64 0, .int .i64 0, .int .i64 0, .slice none 0 0, .int .i64 0, .int .i64 0, .slice none 0 0, .slice none 0 0] 29)) from Below.alloc (Below.alloc (Below.refl w.heap.size w) (by first | exact Nat.le_refl _ | (simp; done) | (simp; omega)) (.cells #[.int .i64 x.fId, .int .i64 x.fPeers, .int .i64 x.fTerm, .int .i64 x.fVote, .slice A4 x.fLog.length d4, .int .i64 x.fCommit, .int .i64 x.fRole, .slice A7 x.fVotes.length d7, .slice A8 x.fMatch.length d8] 29)) (by first | exact Nat.le_refl _ | (simp; done) | (simp; omega)) (.cells #[.int .i64 0, .int .i64 0, .int .i64 0, .int .i64 0, .slice none 0 0, .int .i64 0, .int .i64 0, .slice none 0 0, .slice none 0 0] 29))
  have Xn := Lib.hid (show Box ((w.alloc (.cells #[.int .i64 x.fId, .int .i64 x.fPeers, .int .i64 x.fTerm, .int .i64 x.fVote, .slice A4 x.fLog.length d4, .int .i64 x.fCommit, .int .i64 x.fRole, .slice A7 x.fVotes.length d7, .slice A8 x.fMatch.length d8] 29)).alloc (.cells #[.int .i64 0, .int .i64 0, .int .i64 0, .int .i64 0, .slice none 0 0, .int .i64 0, .int .i64 0, .slice none 0 0, .slice none 0 0] 29)) (w.heap.size) #[.int .i64 x.fId, .int .i64 x.fPeers, .int .i64 x.fTerm, .int .i64 x.fVote, .slice A4 x.fLog.length d4, .int .i64 x.fCommit, .int .i64 x.fRole, .slice A7 x.fVotes.length d7, .slice A8 x.fMatch.length d8] 29 from Box.alloc (Box.new rfl))
  have Xr := Lib.hid (show Box ((w.alloc (.cells #[.int .i64 x.fId, .int .i64 x.fPeers, .int .i64 x.fTerm, .int .i64 x.fVote, .slice A4 x.fLog.length d4, .int .i64 x.fCommit, .int .i64 x.fRole, .slice A7 x.fVotes.length d7, .slice A8 x.fMatch.length d8] 29)).alloc (.cells #[.int .i64 0, .int .i64 0, .int .i64 0, .int .i64 0, .slice none 0 0, .int .i64 0, .int .i64 0, .slice none 0 0, .slice none 0 0] 29)) (w.heap.size + 1) #[.int .i64 0, .int .i64 0, .int .i64 0, .int .i64 0, .slice none 0 0, .int .i64 0, .int .i64 0, .slice none 0 0, .slice none 0 0] 29 from Box.new (by simp))
  have hsz : w.heap.size + 2 ≤ ((w.alloc (.cells #[.int .i64 x.fId, .int .i64 x.fPeers, .int .i64 x.fTerm, .int .i64 x.fVote, .slice A4 x.fLog.length d4, .int .i64 x.fCommit, .int .i64 x.fRole, .slice A7 x.fVotes.length d7, .slice A8 x.fMatch.length d8] 29)).alloc (.cells #[.int .i64 0, .int .i64 0, .int .i64 0, .int .i64 0, .slice none 0 0, .int .i64 0, .int .i64 0, .slice none 0 0, .slice none 0 0] 29)).heap.size := by simp
  generalize (w.alloc (.cells #[.int .i64 x.fId, .int .i64 x.fPeers, .int .i64 x.fTerm, .int .i64 x.fVote, .slice A4 x.fLog.length d4, .int .i64 x.fCommit, .int .i64 x.fRole, .slice A7 x.fVotes.length d7, .slice A8 x.fMatch.length d8] 29)).alloc (.cells #[.int .i64 0, .int .i64 0, .int .i64 0, .int .i64 0, .slice none 0 0, .int .i64 0, .int .i64 0, .slice none 0 0, .slice none 0 0] 29) = w1 at *
  have cn_0 := Xn.out.cell 0 (v := .int .i64 x.fId) rfl; have cn_1 := Xn.out.cell 1 (v := .int .i64 x.fPeers) rfl; have cn_2 := Xn.out.cell 2 (v := .int .i64 x.fTerm) rfl; have cn_3 := Xn.out.cell 3 (v := .int .i64 x.fVote) rfl; have cn_4 := Xn.out.cell 4 (v := .slice A4 x.fLog.length d4) rfl; have cn_5 := Xn.out.cell 5 (v := .int .i64 x.fCommit) rfl; have cn_6 := Xn.out.cell 6 (v := .int .i64 x.fRole) rfl; have cn_7 := Xn.out.cell 7 (v := .slice A7 x.fVotes.length d7) rfl; have cn_8 := Xn.out.cell 8 (v := .slice A8 x.fMatch.length d8) rfl; have cr_0 := Xr.out.cell 0 (v := .int .i64 0) rfl; have cr_1 := Xr.out.cell 1 (v := .int .i64 0) rfl; have cr_2 := Xr.out.cell 2 (v := .int .i64 0) rfl; have cr_3 := Xr.out.cell 3 (v := .int .i64 0) rfl; have cr_4 := Xr.out.cell 4 (v := .slice none 0 0) rfl; have cr_5 := Xr.out.cell 5 (v := .int .i64 0) rfl; have cr_6 := Xr.out.cell 6 (v := .int .i64 0) rfl; have cr_7 := Xr.out.cell 7 (v := .slice none 0 0) rfl; have cr_8 := Xr.out.cell 8 (v := .slice none 0 0) rfl
  go_cut [19] from 7 to 19 (fun s1 wx => (Below w.heap.size w wx ∧ w.heap.size + 2 ≤ wx.heap.size ∧ Box wx w.heap.size #[.int .i64 x.fId, .int .i64 x.fPeers, .int .i64 x.fTerm, .int .i64 x.fVote, .slice A4 x.fLog.length d4, .int .i64 x.fCommit, .int .i64 x.fRole, .slice A7 x.fVotes.length d7, .slice A8 x.fMatch.length d8] 29 ∧ Box wx (w.heap.size + 1) #[.int .i64 0, .int .i64 0, .int .i64 0, .int .i64 0, .slice none 0 0, .int .i64 0, .int .i64 0, .slice none 0 0, .slice none 0 0] 29) ∧ s1 = .bool (!tmOk x))
  case first =>
    cases e1 : (x.fRole == 2)
    all_goals cases e3 : (x.fTerm == 1000)
    all_goals go_wp2_with (first | (go_at_call 16; (with_reducible refine (sGoodNode_calls x _ _ _ _ (Rp.S_below G4.out HC.out) (Rp.S_below G7.out HC.out) (Rp.S_below G8.out HC.out) hl).mono ?_); rintro e wq ⟨rfl, hb⟩; cases hg : nodeOk x <;> (have HC := Lib.hid (HC.out.trans (hb.mono (by first | exact HC.out.size | (have := HC.out.size; omega)))); have hsz := Nat.le_trans hsz hb.size; have Xn := Lib.hid (Xn.out.below hb); have Xr := Lib.hid (Xr.out.below hb); clear cn_0 cn_1 cn_2 cn_3 cn_4 cn_5 cn_6 cn_7 cn_8 cr_0 cr_1 cr_2 cr_3 cr_4 cr_5 cr_6 cr_7 cr_8; clear hb; have cn_0 := Xn.out.cell 0 (v := .int .i64 x.fId) rfl; have cn_1 := Xn.out.cell 1 (v := .int .i64 x.fPeers) rfl; have cn_2 := Xn.out.cell 2 (v := .int .i64 x.fTerm) rfl; have cn_3 := Xn.out.cell 3 (v := .int .i64 x.fVote) rfl; have cn_4 := Xn.out.cell 4 (v := .slice A4 x.fLog.length d4) rfl; have cn_5 := Xn.out.cell 5 (v := .int .i64 x.fCommit) rfl; have cn_6 := Xn.out.cell 6 (v := .int .i64 x.fRole) rfl; have cn_7 := Xn.out.cell 7 (v := .slice A7 x.fVotes.length d7) rfl; have cn_8 := Xn.out.cell 8 (v := .slice A8 x.fMatch.length d8) rfl; have cr_0 := Xr.out.cell 0 (v := .int .i64 0) rfl; have cr_1 := Xr.out.cell 1 (v := .int .i64 0) rfl; have cr_2 := Xr.out.cell 2 (v := .int .i64 0) rfl; have cr_3 := Xr.out.cell 3 (v := .int .i64 0) rfl; have cr_4 := Xr.out.cell 4 (v := .slice none 0 0) rfl; have cr_5 := Xr.out.cell 5 (v := .int .i64 0) rfl; have cr_6 := Xr.out.cell 6 (v := .int .i64 0) rfl; have cr_7 := Xr.out.cell 7 (v := .slice none 0 0) rfl; have cr_8 := Xr.out.cell 8 (v := .slice none 0 0) rfl)))
    all_goals (go_meet; go_light)
    all_goals refine ⟨⟨HC.out, hsz, Xn.out, Xr.out⟩, ?_⟩
    all_goals (congr 1; rw [tmOk]; simp [*])
  case rest =>
    obtain ⟨⟨hcc, hsz2, hxn, hxr⟩, rfl⟩ := hcut
    clear HC hsz Xn Xr cn_0 cn_1 cn_2 cn_3 cn_4 cn_5 cn_6 cn_7 cn_8 cr_0 cr_1 cr_2 cr_3 cr_4 cr_5 cr_6 cr_7 cr_8
    have hsz := hsz2; have HC := Lib.hid hcc; have Xn := Lib.hid hxn; have Xr := Lib.hid hxr
    clear hsz2 hcc hxn hxr
    have cn_0 := Xn.out.cell 0 (v := .int .i64 x.fId) rfl; have cn_1 := Xn.out.cell 1 (v := .int .i64 x.fPeers) rfl; have cn_2 := Xn.out.cell 2 (v := .int .i64 x.fTerm) rfl; have cn_3 := Xn.out.cell 3 (v := .int .i64 x.fVote) rfl; have cn_4 := Xn.out.cell 4 (v := .slice A4 x.fLog.length d4) rfl; have cn_5 := Xn.out.cell 5 (v := .int .i64 x.fCommit) rfl; have cn_6 := Xn.out.cell 6 (v := .int .i64 x.fRole) rfl; have cn_7 := Xn.out.cell 7 (v := .slice A7 x.fVotes.length d7) rfl; have cn_8 := Xn.out.cell 8 (v := .slice A8 x.fMatch.length d8) rfl; have cr_0 := Xr.out.cell 0 (v := .int .i64 0) rfl; have cr_1 := Xr.out.cell 1 (v := .int .i64 0) rfl; have cr_2 := Xr.out.cell 2 (v := .int .i64 0) rfl; have cr_3 := Xr.out.cell 3 (v := .int .i64 0) rfl; have cr_4 := Xr.out.cell 4 (v := .slice none 0 0) rfl; have cr_5 := Xr.out.cell 5 (v := .int .i64 0) rfl; have cr_6 := Xr.out.cell 6 (v := .int .i64 0) rfl; have cr_7 := Xr.out.cell 7 (v := .slice none 0 0) rfl; have cr_8 := Xr.out.cell 8 (v := .slice none 0 0) rfl
    cases ho : tmOk x <;> simp only [Bool.not_true, Bool.not_false]
    case false =>
      have fr_ := Xr.out.fro
      go_wp2
      obtain ⟨hk, bf⟩ := Xr.out.stored [.int .i64 0, .int .i64 0, .int .i64 0, .int .i64 0, .slice none 0 0, .int .i64 0, .int .i64 0, .slice none 0 0, .slice none 0 0] 0
      rw [setA_all (by rfl)] at bf
      change bodyPost _ _ _ _ _ (Rp.setN wc (w.heap.size + 1) 0 [.int .i64 0, .int .i64 0, .int .i64 0, .int .i64 0, .slice none 0 0, .int .i64 0, .int .i64 0, .slice none 0 0, .slice none 0 0])
      clear fr_ cn_0 cn_1 cn_2 cn_3 cn_4 cn_5 cn_6 cn_7 cn_8 cr_0 cr_1 cr_2 cr_3 cr_4 cr_5 cr_6 cr_7 cr_8
      have HK := Lib.hid hk; clear hk
      generalize Rp.setN wc (w.heap.size + 1) 0 [.int .i64 0, .int .i64 0, .int .i64 0, .int .i64 0, .slice none 0 0, .int .i64 0, .int .i64 0, .slice none 0 0, .slice none 0 0] = wf at *
      have df0 := bf.cell 0 (v := .int .i64 0) rfl; have df1 := bf.cell 1 (v := .int .i64 0) rfl; have df2 := bf.cell 2 (v := .int .i64 0) rfl; have df3 := bf.cell 3 (v := .int .i64 0) rfl; have df4 := bf.cell 4 (v := .slice none 0 0) rfl; have df5 := bf.cell 5 (v := .int .i64 0) rfl; have df6 := bf.cell 6 (v := .int .i64 0) rfl; have df7 := bf.cell 7 (v := .slice none 0 0) rfl; have df8 := bf.cell 8 (v := .slice none 0 0) rfl
      refine bodyPost_ret (v := .tuple #[.agg #[.int .i64 0, .int .i64 0, .int .i64 0, .int .i64 0, .slice none 0 0, .int .i64 0, .int .i64 0, .slice none 0 0, .slice none 0 0], .slice none 0 0, .bool false]) (by simp [results, Try.results5, go_sem, df0, df1, df2, df3, df4, df5, df6, df7, df8]) rfl ⟨_, _, by rw [ho], TmMade.no ho (HC.out.trans (HK.out.toBelow HC.out.size (by simp)))⟩
    case true =>
      have ho2 := ho
      simp only [tmOk, Bool.and_eq_true, Bool.not_eq_true'] at ho2
      obtain ⟨⟨hg, hr⟩, ht⟩ := ho2
      have hne : ¬ x.fTerm = 1000 := by simpa using ht
      have hcm := tmL_com hg
      obtain ⟨f1, f2, f3, f4, f5, f6, f7, f8, f9, _, _⟩ := nodeOk_facts hg
      have HOB := Lib.hid ho; have HCM := Lib.hid hcm
      clear ho hg hr ht hcm
      go_wp2_with fail
      (with_reducible refine (sOwn_calls x _ _ _ _ (Rp.S_below G4.out HC.out) (Rp.S_below G7.out HC.out) (Rp.S_below G8.out HC.out) hl).mono ?_)
      rintro e w3 ⟨v, rfl, cs, F, e1, hm, hF, hnd, hb⟩
      subst e1
      obtain ⟨v4, v7, v8, F4, F7, F8, rfl, rfl, r4, r7, r8⟩ := kRaftNode_open hm
      obtain ⟨P4, C4, rfl, _, _⟩ := Rp.Row_K r4
      obtain ⟨P7, C7, rfl, _, _⟩ := Rp.Row_K r7
      obtain ⟨P8, C8, rfl, _, _⟩ := Rp.Row_K r8
      have T4 := Lib.hid (fun b h => Nat.le_trans hsz (hF b (by simp [h])) : ∀ b ∈ F4, w.heap.size + 2 ≤ b)
      have T8 := Lib.hid (fun b h => Nat.le_trans hsz (hF b (by simp [h])) : ∀ b ∈ F8, w.heap.size + 2 ≤ b)
      have U4 := Lib.hid (Rp.Row_lt r4); have U8 := Lib.hid (Rp.Row_lt r8)
      have R4 := Lib.hid r4; have R8 := Lib.hid r8
      have ND := Lib.hid hnd
      clear r4 r7 r8 hF hnd hm
      have HC := Lib.hid (HC.out.trans (hb.mono (by first | exact HC.out.size | (have := HC.out.size; omega)))); have hsz := Nat.le_trans hsz hb.size; have Xn := Lib.hid (Xn.out.below hb); have Xr := Lib.hid (Xr.out.below hb); clear cn_0 cn_1 cn_2 cn_3 cn_4 cn_5 cn_6 cn_7 cn_8 cr_0 cr_1 cr_2 cr_3 cr_4 cr_5 cr_6 cr_7 cr_8; clear hb; have cn_0 := Xn.out.cell 0 (v := .int .i64 x.fId) rfl; have cn_1 := Xn.out.cell 1 (v := .int .i64 x.fPeers) rfl; have cn_2 := Xn.out.cell 2 (v := .int .i64 x.fTerm) rfl; have cn_3 := Xn.out.cell 3 (v := .int .i64 x.fVote) rfl; have cn_4 := Xn.out.cell 4 (v := .slice A4 x.fLog.length d4) rfl; have cn_5 := Xn.out.cell 5 (v := .int .i64 x.fCommit) rfl; have cn_6 := Xn.out.cell 6 (v := .int .i64 x.fRole) rfl; have cn_7 := Xn.out.cell 7 (v := .slice A7 x.fVotes.length d7) rfl; have cn_8 := Xn.out.cell 8 (v := .slice A8 x.fMatch.length d8) rfl; have cr_0 := Xr.out.cell 0 (v := .int .i64 0) rfl; have cr_1 := Xr.out.cell 1 (v := .int .i64 0) rfl; have cr_2 := Xr.out.cell 2 (v := .int .i64 0) rfl; have cr_3 := Xr.out.cell 3 (v := .int .i64 0) rfl; have cr_4 := Xr.out.cell 4 (v := .slice none 0 0) rfl; have cr_5 := Xr.out.cell 5 (v := .int .i64 0) rfl; have cr_6 := Xr.out.cell 6 (v := .int .i64 0) rfl; have cr_7 := Xr.out.cell 7 (v := .slice none 0 0) rfl; have cr_8 := Xr.out.cell 8 (v := .slice none 0 0) rfl
      have fn_ := Xn.out.fro
      go_upto_region 4 with fail
      clear fn_
      obtain ⟨gl, hgl⟩ : ∃ g, w3.heap.size = g + 1 := ⟨w3.heap.size - 1, by omega⟩
      have hsc2 : gl < w3.heap.size := by omega
      have hgl2 : w.heap.size + 1 ≤ gl := by omega
      change Code.wp _ _ _ _ (Rp.setN w3 (w.heap.size) 0 [.int .i64 x.fId, .int .i64 x.fPeers, .int .i64 x.fTerm, .int .i64 x.fVote, .slice P4 x.fLog.length C4, .int .i64 x.fCommit, .int .i64 x.fRole, .slice P7 x.fVotes.length C7, .slice P8 x.fMatch.length C8])
      obtain ⟨hk, hbx⟩ := Xn.out.stored [.int .i64 x.fId, .int .i64 x.fPeers, .int .i64 x.fTerm, .int .i64 x.fVote, .slice P4 x.fLog.length C4, .int .i64 x.fCommit, .int .i64 x.fRole, .slice P7 x.fVotes.length C7, .slice P8 x.fMatch.length C8] 0
      rw [setA_all (by rfl)] at hbx
      generalize Rp.setN w3 (w.heap.size) 0 [.int .i64 x.fId, .int .i64 x.fPeers, .int .i64 x.fTerm, .int .i64 x.fVote, .slice P4 x.fLog.length C4, .int .i64 x.fCommit, .int .i64 x.fRole, .slice P7 x.fVotes.length C7, .slice P8 x.fMatch.length C8] = w4 at *
      have R4 := Lib.hid (Row_ne R4.out hk (fun h => by have h_0 := T4.out _ h; omega))
      have R8 := Lib.hid (Row_ne R8.out hk (fun h => by have h_0 := T8.out _ h; omega))
      have Xr := Lib.hid (Box_ne Xr.out hk (by omega))
      have Xn := Lib.hid hbx
      have HC := Lib.hid (HC.out.trans (hk.toBelow HC.out.size (fun b h => by have h2 : b = w.heap.size := (by simpa using h); omega)))
      replace hsz := Nat.le_trans hsz hk.size
      replace hsc2 := Nat.lt_of_lt_of_le hsc2 hk.size
      clear hk hbx cn_0 cn_1 cn_2 cn_3 cn_4 cn_5 cn_6 cn_7 cn_8 cr_0 cr_1 cr_2 cr_3 cr_4 cr_5 cr_6 cr_7 cr_8
      have cn_0 := Xn.out.cell 0 (v := .int .i64 x.fId) rfl; have cn_1 := Xn.out.cell 1 (v := .int .i64 x.fPeers) rfl; have cn_2 := Xn.out.cell 2 (v := .int .i64 x.fTerm) rfl; have cn_3 := Xn.out.cell 3 (v := .int .i64 x.fVote) rfl; have cn_4 := Xn.out.cell 4 (v := .slice P4 x.fLog.length C4) rfl; have cn_5 := Xn.out.cell 5 (v := .int .i64 x.fCommit) rfl; have cn_6 := Xn.out.cell 6 (v := .int .i64 x.fRole) rfl; have cn_7 := Xn.out.cell 7 (v := .slice P7 x.fVotes.length C7) rfl; have cn_8 := Xn.out.cell 8 (v := .slice P8 x.fMatch.length C8) rfl; have cr_0 := Xr.out.cell 0 (v := .int .i64 0) rfl; have cr_1 := Xr.out.cell 1 (v := .int .i64 0) rfl; have cr_2 := Xr.out.cell 2 (v := .int .i64 0) rfl; have cr_3 := Xr.out.cell 3 (v := .int .i64 0) rfl; have cr_4 := Xr.out.cell 4 (v := .slice none 0 0) rfl; have cr_5 := Xr.out.cell 5 (v := .int .i64 0) rfl; have cr_6 := Xr.out.cell 6 (v := .int .i64 0) rfl; have cr_7 := Xr.out.cell 7 (v := .slice none 0 0) rfl; have cr_8 := Xr.out.cell 8 (v := .slice none 0 0) rfl
      have U4 := Lib.hid (fun b h => (by have := U4.out b h; omega) : ∀ b ∈ F4, b ≤ gl); have U8 := Lib.hid (fun b h => (by have := U8.out b h; omega) : ∀ b ∈ F8, b ≤ gl)
      have N4 := Lib.hid (show w.heap.size ∉ F4 from fun h => by have := T4.out _ h; omega); have N8 := Lib.hid (show w.heap.size ∉ F8 from fun h => by have := T8.out _ h; omega)
      clear hgl
      have fb := Xn.out.fro
      go_upto_region 5 with fail
      clear fb
      have hk := kept_set w4 (w.heap.size) 2 (.int .i64 (x.fTerm + 1))
      have R4 := Lib.hid (Row_ne R4.out hk (fun h => by exact N4.out h))
      have R8 := Lib.hid (Row_ne R8.out hk (fun h => by exact N8.out h))
      have Xr := Lib.hid (Xr.out.set_other (a := ⟨w.heap.size, 2, none⟩) (.int .i64 (x.fTerm + 1)) (by first | (simp; done) | (simp; omega)))
      have Xn := Lib.hid (show Box (w4.setCell ⟨w.heap.size, 2, none⟩ (.int .i64 (x.fTerm + 1))) (w.heap.size) #[.int .i64 x.fId, .int .i64 x.fPeers, .int .i64 (x.fTerm + 1), .int .i64 x.fVote, .slice P4 x.fLog.length C4, .int .i64 x.fCommit, .int .i64 x.fRole, .slice P7 x.fVotes.length C7, .slice P8 x.fMatch.length C8] 29 from Xn.out.set 2 (.int .i64 (x.fTerm + 1)))
      have HC := Lib.hid (HC.out.setCell (p := ⟨w.heap.size, 2, none⟩) (by first | (simp; done) | (simp; omega)) (.int .i64 (x.fTerm + 1)))
      replace hsz := Nat.le_trans hsz hk.size
      replace hsc2 := Nat.lt_of_lt_of_le hsc2 hk.size
      clear hk cn_0 cn_1 cn_2 cn_3 cn_4 cn_5 cn_6 cn_7 cn_8 cr_0 cr_1 cr_2 cr_3 cr_4 cr_5 cr_6 cr_7 cr_8
      generalize w4.setCell ⟨w.heap.size, 2, none⟩ (.int .i64 (x.fTerm + 1)) = w5 at *
      have cn_0 := Xn.out.cell 0 (v := .int .i64 x.fId) rfl; have cn_1 := Xn.out.cell 1 (v := .int .i64 x.fPeers) rfl; have cn_2 := Xn.out.cell 2 (v := .int .i64 (x.fTerm + 1)) rfl; have cn_3 := Xn.out.cell 3 (v := .int .i64 x.fVote) rfl; have cn_4 := Xn.out.cell 4 (v := .slice P4 x.fLog.length C4) rfl; have cn_5 := Xn.out.cell 5 (v := .int .i64 x.fCommit) rfl; have cn_6 := Xn.out.cell 6 (v := .int .i64 x.fRole) rfl; have cn_7 := Xn.out.cell 7 (v := .slice P7 x.fVotes.length C7) rfl; have cn_8 := Xn.out.cell 8 (v := .slice P8 x.fMatch.length C8) rfl; have cr_0 := Xr.out.cell 0 (v := .int .i64 0) rfl; have cr_1 := Xr.out.cell 1 (v := .int .i64 0) rfl; have cr_2 := Xr.out.cell 2 (v := .int .i64 0) rfl; have cr_3 := Xr.out.cell 3 (v := .int .i64 0) rfl; have cr_4 := Xr.out.cell 4 (v := .slice none 0 0) rfl; have cr_5 := Xr.out.cell 5 (v := .int .i64 0) rfl; have cr_6 := Xr.out.cell 6 (v := .int .i64 0) rfl; have cr_7 := Xr.out.cell 7 (v := .slice none 0 0) rfl; have cr_8 := Xr.out.cell 8 (v := .slice none 0 0) rfl
      have fb := Xn.out.fro
      go_upto_region 6 with fail
      clear fb
      have hk := kept_set w5 (w.heap.size) 3 (.int .i64 x.fId)
      have R4 := Lib.hid (Row_ne R4.out hk (fun h => by exact N4.out h))
      have R8 := Lib.hid (Row_ne R8.out hk (fun h => by exact N8.out h))
      have Xr := Lib.hid (Xr.out.set_other (a := ⟨w.heap.size, 3, none⟩) (.int .i64 x.fId) (by first | (simp; done) | (simp; omega)))
      have Xn := Lib.hid (show Box (w5.setCell ⟨w.heap.size, 3, none⟩ (.int .i64 x.fId)) (w.heap.size) #[.int .i64 x.fId, .int .i64 x.fPeers, .int .i64 (x.fTerm + 1), .int .i64 x.fId, .slice P4 x.fLog.length C4, .int .i64 x.fCommit, .int .i64 x.fRole, .slice P7 x.fVotes.length C7, .slice P8 x.fMatch.length C8] 29 from Xn.out.set 3 (.int .i64 x.fId))
      have HC := Lib.hid (HC.out.setCell (p := ⟨w.heap.size, 3, none⟩) (by first | (simp; done) | (simp; omega)) (.int .i64 x.fId))
      replace hsz := Nat.le_trans hsz hk.size
      replace hsc2 := Nat.lt_of_lt_of_le hsc2 hk.size
      clear hk cn_0 cn_1 cn_2 cn_3 cn_4 cn_5 cn_6 cn_7 cn_8 cr_0 cr_1 cr_2 cr_3 cr_4 cr_5 cr_6 cr_7 cr_8
      generalize w5.setCell ⟨w.heap.size, 3, none⟩ (.int .i64 x.fId) = w6 at *
      have cn_0 := Xn.out.cell 0 (v := .int .i64 x.fId) rfl; have cn_1 := Xn.out.cell 1 (v := .int .i64 x.fPeers) rfl; have cn_2 := Xn.out.cell 2 (v := .int .i64 (x.fTerm + 1)) rfl; have cn_3 := Xn.out.cell 3 (v := .int .i64 x.fId) rfl; have cn_4 := Xn.out.cell 4 (v := .slice P4 x.fLog.length C4) rfl; have cn_5 := Xn.out.cell 5 (v := .int .i64 x.fCommit) rfl; have cn_6 := Xn.out.cell 6 (v := .int .i64 x.fRole) rfl; have cn_7 := Xn.out.cell 7 (v := .slice P7 x.fVotes.length C7) rfl; have cn_8 := Xn.out.cell 8 (v := .slice P8 x.fMatch.length C8) rfl; have cr_0 := Xr.out.cell 0 (v := .int .i64 0) rfl; have cr_1 := Xr.out.cell 1 (v := .int .i64 0) rfl; have cr_2 := Xr.out.cell 2 (v := .int .i64 0) rfl; have cr_3 := Xr.out.cell 3 (v := .int .i64 0) rfl; have cr_4 := Xr.out.cell 4 (v := .slice none 0 0) rfl; have cr_5 := Xr.out.cell 5 (v := .int .i64 0) rfl; have cr_6 := Xr.out.cell 6 (v := .int .i64 0) rfl; have cr_7 := Xr.out.cell 7 (v := .slice none 0 0) rfl; have cr_8 := Xr.out.cell 8 (v := .slice none 0 0) rfl
      have fb := Xn.out.fro
      go_upto_region 7 with fail
      clear fb
      have hk := kept_set w6 (w.heap.size) 6 (.int .i64 1)
      have R4 := Lib.hid (Row_ne R4.out hk (fun h => by exact N4.out h))
      have R8 := Lib.hid (Row_ne R8.out hk (fun h => by exact N8.out h))
      have Xr := Lib.hid (Xr.out.set_other (a := ⟨w.heap.size, 6, none⟩) (.int .i64 1) (by first | (simp; done) | (simp; omega)))
      have Xn := Lib.hid (show Box (w6.setCell ⟨w.heap.size, 6, none⟩ (.int .i64 1)) (w.heap.size) #[.int .i64 x.fId, .int .i64 x.fPeers, .int .i64 (x.fTerm + 1), .int .i64 x.fId, .slice P4 x.fLog.length C4, .int .i64 x.fCommit, .int .i64 1, .slice P7 x.fVotes.length C7, .slice P8 x.fMatch.length C8] 29 from Xn.out.set 6 (.int .i64 1))
      have HC := Lib.hid (HC.out.setCell (p := ⟨w.heap.size, 6, none⟩) (by first | (simp; done) | (simp; omega)) (.int .i64 1))
      replace hsz := Nat.le_trans hsz hk.size
      replace hsc2 := Nat.lt_of_lt_of_le hsc2 hk.size
      clear hk cn_0 cn_1 cn_2 cn_3 cn_4 cn_5 cn_6 cn_7 cn_8 cr_0 cr_1 cr_2 cr_3 cr_4 cr_5 cr_6 cr_7 cr_8
      generalize w6.setCell ⟨w.heap.size, 6, none⟩ (.int .i64 1) = w7 at *
      have cn_0 := Xn.out.cell 0 (v := .int .i64 x.fId) rfl; have cn_1 := Xn.out.cell 1 (v := .int .i64 x.fPeers) rfl; have cn_2 := Xn.out.cell 2 (v := .int .i64 (x.fTerm + 1)) rfl; have cn_3 := Xn.out.cell 3 (v := .int .i64 x.fId) rfl; have cn_4 := Xn.out.cell 4 (v := .slice P4 x.fLog.length C4) rfl; have cn_5 := Xn.out.cell 5 (v := .int .i64 x.fCommit) rfl; have cn_6 := Xn.out.cell 6 (v := .int .i64 1) rfl; have cn_7 := Xn.out.cell 7 (v := .slice P7 x.fVotes.length C7) rfl; have cn_8 := Xn.out.cell 8 (v := .slice P8 x.fMatch.length C8) rfl; have cr_0 := Xr.out.cell 0 (v := .int .i64 0) rfl; have cr_1 := Xr.out.cell 1 (v := .int .i64 0) rfl; have cr_2 := Xr.out.cell 2 (v := .int .i64 0) rfl; have cr_3 := Xr.out.cell 3 (v := .int .i64 0) rfl; have cr_4 := Xr.out.cell 4 (v := .slice none 0 0) rfl; have cr_5 := Xr.out.cell 5 (v := .int .i64 0) rfl; have cr_6 := Xr.out.cell 6 (v := .int .i64 0) rfl; have cr_7 := Xr.out.cell 7 (v := .slice none 0 0) rfl; have cr_8 := Xr.out.cell 8 (v := .slice none 0 0) rfl
      obtain ⟨ka, kb⟩ := acell w7
      have fb := Xn.out.fro
      have s0 : w.heap.size < w7.heap.size := by omega
      have s1 : w.heap.size + 1 < w7.heap.size := by omega
      go_upto_region 8 with fail
      clear ka kb fb s0 s1
      obtain ⟨gv, hgv⟩ : ∃ g, w7.heap.size = g := ⟨_, rfl⟩
      simp only [hgv]
      have he : (w7.setCell ⟨w.heap.size, 7, none⟩ (.slice (some ⟨gv, 0, none⟩) 1 1)).heap.size = gv := by rw [← hgv]; simp
      have hgv2 : gl + 0 < gv := by omega
      clear hgv
      have hk := kept_set w7 (w.heap.size) 7 (.slice (some ⟨gv, 0, none⟩) 1 1)
      have R4 := Lib.hid (Row_ne R4.out hk (fun h => by exact N4.out h))
      have R8 := Lib.hid (Row_ne R8.out hk (fun h => by exact N8.out h))
      have Xr := Lib.hid (Xr.out.set_other (a := ⟨w.heap.size, 7, none⟩) (.slice (some ⟨gv, 0, none⟩) 1 1) (by first | (simp; done) | (simp; omega)))
      have Xn := Lib.hid (show Box (w7.setCell ⟨w.heap.size, 7, none⟩ (.slice (some ⟨gv, 0, none⟩) 1 1)) (w.heap.size) #[.int .i64 x.fId, .int .i64 x.fPeers, .int .i64 (x.fTerm + 1), .int .i64 x.fId, .slice P4 x.fLog.length C4, .int .i64 x.fCommit, .int .i64 1, .slice (some ⟨gv, 0, none⟩) 1 1, .slice P8 x.fMatch.length C8] 29 from Xn.out.set 7 (.slice (some ⟨gv, 0, none⟩) 1 1))
      have HC := Lib.hid (HC.out.setCell (p := ⟨w.heap.size, 7, none⟩) (by first | (simp; done) | (simp; omega)) (.slice (some ⟨gv, 0, none⟩) 1 1))
      replace hsz := Nat.le_trans hsz hk.size
      replace hsc2 := Nat.lt_of_lt_of_le hsc2 hk.size
      clear hk cn_0 cn_1 cn_2 cn_3 cn_4 cn_5 cn_6 cn_7 cn_8 cr_0 cr_1 cr_2 cr_3 cr_4 cr_5 cr_6 cr_7 cr_8
      generalize w7.setCell ⟨w.heap.size, 7, none⟩ (.slice (some ⟨gv, 0, none⟩) 1 1) = w8 at *
      have cn_0 := Xn.out.cell 0 (v := .int .i64 x.fId) rfl; have cn_1 := Xn.out.cell 1 (v := .int .i64 x.fPeers) rfl; have cn_2 := Xn.out.cell 2 (v := .int .i64 (x.fTerm + 1)) rfl; have cn_3 := Xn.out.cell 3 (v := .int .i64 x.fId) rfl; have cn_4 := Xn.out.cell 4 (v := .slice P4 x.fLog.length C4) rfl; have cn_5 := Xn.out.cell 5 (v := .int .i64 x.fCommit) rfl; have cn_6 := Xn.out.cell 6 (v := .int .i64 1) rfl; have cn_7 := Xn.out.cell 7 (v := .slice (some ⟨gv, 0, none⟩) 1 1) rfl; have cn_8 := Xn.out.cell 8 (v := .slice P8 x.fMatch.length C8) rfl; have cr_0 := Xr.out.cell 0 (v := .int .i64 0) rfl; have cr_1 := Xr.out.cell 1 (v := .int .i64 0) rfl; have cr_2 := Xr.out.cell 2 (v := .int .i64 0) rfl; have cr_3 := Xr.out.cell 3 (v := .int .i64 0) rfl; have cr_4 := Xr.out.cell 4 (v := .slice none 0 0) rfl; have cr_5 := Xr.out.cell 5 (v := .int .i64 0) rfl; have cr_6 := Xr.out.cell 6 (v := .int .i64 0) rfl; have cr_7 := Xr.out.cell 7 (v := .slice none 0 0) rfl; have cr_8 := Xr.out.cell 8 (v := .slice none 0 0) rfl
      have hb := (Below.refl w8.heap.size w8).alloc (Nat.le_refl _) (.cells #[.int .i64 x.fId] 3)
      have Xv := Lib.hid (show Box (w8.alloc (.cells #[.int .i64 x.fId] 3)) gv #[.int .i64 x.fId] 3 from Box.new he.symm)
      have hv9 : gv < (w8.alloc (.cells #[.int .i64 x.fId] 3)).heap.size := by rw [← he]; simp
      have R4 := Lib.hid (Rp.Row_below R4.out hb); have R8 := Lib.hid (Rp.Row_below R8.out hb)
      generalize w8.alloc (.cells #[.int .i64 x.fId] 3) = w9 at *
      replace hsc2 := Nat.lt_of_lt_of_le hsc2 hb.size
      clear he
      have HC := Lib.hid (HC.out.trans (hb.mono (by first | exact HC.out.size | (have := HC.out.size; omega)))); have hsz := Nat.le_trans hsz hb.size; have Xn := Lib.hid (Xn.out.below hb); have Xr := Lib.hid (Xr.out.below hb); clear cn_0 cn_1 cn_2 cn_3 cn_4 cn_5 cn_6 cn_7 cn_8 cr_0 cr_1 cr_2 cr_3 cr_4 cr_5 cr_6 cr_7 cr_8; clear hb; have cn_0 := Xn.out.cell 0 (v := .int .i64 x.fId) rfl; have cn_1 := Xn.out.cell 1 (v := .int .i64 x.fPeers) rfl; have cn_2 := Xn.out.cell 2 (v := .int .i64 (x.fTerm + 1)) rfl; have cn_3 := Xn.out.cell 3 (v := .int .i64 x.fId) rfl; have cn_4 := Xn.out.cell 4 (v := .slice P4 x.fLog.length C4) rfl; have cn_5 := Xn.out.cell 5 (v := .int .i64 x.fCommit) rfl; have cn_6 := Xn.out.cell 6 (v := .int .i64 1) rfl; have cn_7 := Xn.out.cell 7 (v := .slice (some ⟨gv, 0, none⟩) 1 1) rfl; have cn_8 := Xn.out.cell 8 (v := .slice P8 x.fMatch.length C8) rfl; have cr_0 := Xr.out.cell 0 (v := .int .i64 0) rfl; have cr_1 := Xr.out.cell 1 (v := .int .i64 0) rfl; have cr_2 := Xr.out.cell 2 (v := .int .i64 0) rfl; have cr_3 := Xr.out.cell 3 (v := .int .i64 0) rfl; have cr_4 := Xr.out.cell 4 (v := .slice none 0 0) rfl; have cr_5 := Xr.out.cell 5 (v := .int .i64 0) rfl; have cr_6 := Xr.out.cell 6 (v := .int .i64 0) rfl; have cr_7 := Xr.out.cell 7 (v := .slice none 0 0) rfl; have cr_8 := Xr.out.cell 8 (v := .slice none 0 0) rfl
      have cv_0 := Xv.out.cell 0 (v := .int .i64 x.fId) rfl
      have hnd4 := (List.nodup_append.1 ND.out).1; have hnd8 := (List.nodup_append.1 (List.nodup_append.1 ND.out).2.1).2.1
      have hd48 : ∀ b ∈ F8, b ∉ F4 := fun b h hm => (List.nodup_append.1 ND.out).2.2 b hm b (List.mem_append_right _ h) rfl
      have DN := Lib.hid (And.intro hnd4 (And.intro hnd8 hd48))
      clear hnd4 hnd8 hd48 ND
      cases hp : (x.fPeers == 1)
      case false =>
        have hp1 : ¬ x.fPeers = 1 := by simpa using hp
        have hp2 : 2 ≤ x.fPeers := by omega
        have HP := Lib.hid hp
        clear hp1
        obtain ⟨n, hn⟩ : ∃ n : Nat, x.fPeers = n := ⟨x.fPeers.toNat, by omega⟩
        have HN := Lib.hid hn; clear hn
        have HC9 := HC; have hsz9 := hsz
        go_wp2
        go_loopw [5, 6] (fun l i wr => ∃ (k : Nat) (v : Value), k ≤ n ∧ l = v ∧ i = .int .i64 k ∧ Hid (kAsk.Row 44 wr (Rp.ofOwn v) (tmMk x k) v) ∧ Hid (∀ b ∈ Rp.ofOwn v, w9.heap.size ≤ b) ∧ Hid (Below w.heap.size w wr) ∧ w9.heap.size ≤ wr.heap.size ∧ Hid (Box wr w.heap.size #[.int .i64 x.fId, .int .i64 x.fPeers, .int .i64 (x.fTerm + 1), .int .i64 x.fId, .slice P4 x.fLog.length C4, .int .i64 x.fCommit, .int .i64 1, .slice (some ⟨gv, 0, none⟩) 1 1, .slice P8 x.fMatch.length C8] 29) ∧ Hid (Box wr (w.heap.size + 1) #[.int .i64 0, .int .i64 0, .int .i64 0, .int .i64 0, .slice none 0 0, .int .i64 0, .int .i64 0, .slice none 0 0, .slice none 0 0] 29) ∧ Hid (Box wr gv #[.int .i64 x.fId] 3) ∧ Hid (kEntry.Row 59 wr F4 x.fLog (.slice P4 x.fLog.length C4)) ∧ Hid (kInt.Row 3 wr F8 x.fMatch (.slice P8 x.fMatch.length C8))) (fun _ i _ => n - (intOf i).toNat)
        case atStart => exact ⟨0, .slice none 0 0, Nat.zero_le _, rfl, rfl, Rp.Row_nil _ _ _, by simp [Hid, Rp.ofOwn, Value.ownBlock], HC.out, Nat.le_refl _, Xn.out, Xr.out, Xv.out, R4.out, R8.out⟩
        case round =>
          clear HC9 hsz9 HC Xn Xr Xv R4 R8  cn_0 cn_1 cn_2 cn_3 cn_4 cn_5 cn_6 cn_7 cn_8 cr_0 cr_1 cr_2 cr_3 cr_4 cr_5 cr_6 cr_7 cr_8 cv_0
          obtain ⟨k, v_, hk, rfl, rfl, HR, HF, HC, hs9, Xn, Xr, Xv, R4, R8⟩ := hrel
          obtain ⟨A, c, e1, _, _⟩ := Rp.Row_K HR.out
          subst e1
          have D4 := Lib.hid (fun b h hm => (by have := U4.out b h; have := HF.out b hm; omega) : ∀ b ∈ F4, b ∉ Rp.ofOwn (.slice A (tmMk x k).length c)); have D8 := Lib.hid (fun b h hm => (by have := U8.out b h; have := HF.out b hm; omega) : ∀ b ∈ F8, b ∉ Rp.ofOwn (.slice A (tmMk x k).length c))
          have DC := Lib.hid (fun hm => (by have := HF.out _ hm; omega) : (w.heap.size) ∉ Rp.ofOwn (.slice A (tmMk x k).length c)); have DR := Lib.hid (fun hm => (by have := HF.out _ hm; omega) : (w.heap.size + 1) ∉ Rp.ofOwn (.slice A (tmMk x k).length c)); have DV := Lib.hid (fun hm => (by have := HF.out _ hm; omega) : gv ∉ Rp.ofOwn (.slice A (tmMk x k).length c))
          have cn_0 := Xn.out.cell 0 (v := .int .i64 x.fId) rfl; have cn_1 := Xn.out.cell 1 (v := .int .i64 x.fPeers) rfl; have cn_2 := Xn.out.cell 2 (v := .int .i64 (x.fTerm + 1)) rfl; have cn_3 := Xn.out.cell 3 (v := .int .i64 x.fId) rfl; have cn_4 := Xn.out.cell 4 (v := .slice P4 x.fLog.length C4) rfl; have cn_5 := Xn.out.cell 5 (v := .int .i64 x.fCommit) rfl; have cn_6 := Xn.out.cell 6 (v := .int .i64 1) rfl; have cn_7 := Xn.out.cell 7 (v := .slice (some ⟨gv, 0, none⟩) 1 1) rfl; have cn_8 := Xn.out.cell 8 (v := .slice P8 x.fMatch.length C8) rfl
          by_cases hlk : k < n
          case pos =>
            have i3 : (k : Int) < x.fPeers := by have := HN.out; omega
            cases hid : ((k : Int) == x.fId)
            case true =>
              have hid2 : ((k : Int) != x.fId) = false := by simp [bne, hid]
              have HI := Lib.hid hid; clear hid
              go_wp2
              exact ⟨⟨k + 1, _, by omega, rfl, by go_num, by rw [tmMk_no HI.out]; exact HR.out, HF.out, HC.out, hs9, Xn.out, Xr.out, Xv.out, R4.out, R8.out⟩, by simp [intOf]; omega⟩
            case false =>
              have hid2 : ((k : Int) != x.fId) = true := by simp [bne, hid]
              have HI := Lib.hid hid; clear hid
              go_upto_region 15 with fail
              refine wp_region_tab (G := Nat × Value) (fun g => [(5, 17, g.2), (44, 0, .slice A (tmMk x k).length c), (0, 1, .pointer (some ⟨w.heap.size, 0, none⟩)), (0, 2, .int .i64 x.fId), (0, 3, .int .i64 (k : Int)), (0, 4, .pointer (some ⟨w.heap.size, 2, none⟩)), (0, 5, .int .i64 (x.fTerm + 1)), (0, 6, .pointer (some ⟨w.heap.size, 4, none⟩)), (0, 7, .slice P4 x.fLog.length C4), (0, 8, .int .i64 (x.fLog.length : Int)), (0, 9, .agg #[.int .i64 x.fId, .int .i64 x.fPeers, .int .i64 (x.fTerm + 1), .int .i64 x.fId, .slice P4 x.fLog.length C4, .int .i64 x.fCommit, .int .i64 1, .slice (some ⟨gv, 0, none⟩) 1 1, .slice P8 x.fMatch.length C8]), (0, 10, .pointer (some ⟨w.heap.size, 4, none⟩)), (0, 11, .slice P4 x.fLog.length C4), (0, 12, .int .i64 (x.fLog.length : Int)), (0, 13, .int .i64 (termV x.fLog x.fLog.length)), (0, 14, .agg #[.int .i64 1, .int .i64 x.fId, .int .i64 (k : Int), .int .i64 (x.fTerm + 1), .int .i64 (x.fLog.length : Int), .int .i64 (termV x.fLog x.fLog.length), .slice none 0 0, .int .i64 0, .bool false]), (0, 15, .slice (some ⟨g.1, 0, none⟩) 1 1), (0, 16, g.2)])
                  (fun L g W => (KeptF (Rp.ofOwn (.slice A (tmMk x k).length c)) wr W) ∧
                    (L 16 = false → kAsk.Row 44 W (Rp.ofOwn (.slice A (tmMk x k).length c)) (tmMk x k) (.slice A (tmMk x k).length c)) ∧
                    (L 15 = true → L 16 = false → Box W g.1 #[.int .i64 1, .int .i64 x.fId, .int .i64 (k : Int), .int .i64 (x.fTerm + 1), .int .i64 (x.fLog.length : Int), .int .i64 (termV x.fLog x.fLog.length), .slice none 0 0, .int .i64 0, .bool false] 44) ∧
                    (L 16 = true → kAsk.Row 44 W (Rp.ofOwn g.2) ((tmMk x k) ++ [(⟨x.fId, (k : Int), x.fTerm + 1, (x.fLog.length : Int), termV x.fLog x.fLog.length⟩ : DAsk)]) g.2 ∧ ∀ b ∈ Rp.ofOwn g.2, b ∈ Rp.ofOwn (.slice A (tmMk x k).length c) ∨ wr.heap.size ≤ b) ∧
                    (Box W (w.heap.size) #[.int .i64 x.fId, .int .i64 x.fPeers, .int .i64 (x.fTerm + 1), .int .i64 x.fId, .slice P4 x.fLog.length C4, .int .i64 x.fCommit, .int .i64 1, .slice (some ⟨gv, 0, none⟩) 1 1, .slice P8 x.fMatch.length C8] 29) ∧
                    ((L 17 = true → L 16 = true)) ∧
                    ((L 16 = true → L 0 = true)))
                  (0, undef) (by kernel_rfl) (by kernel_rfl) (fun _ => rfl) ?_ ?_ ?_
              · exact ⟨KeptF.of_below (Below.refl _ _).drew, fun _ => Rp.Row_below HR.out (Below.refl _ _).drew, nofun, nofun, Xn.out.drew, nofun, nofun⟩
              · simp (config := { maxSteps := 4000000 }) only [StepsT, layT, Nat.reduceAdd, Nat.reduceBEq, cond_true, cond_false]
                refine ⟨?_, ?_, ?_, ?_, ?_, ?_, ?_, ?_, ?_, ?_, ?_, ?_, ?_, ?_, ?_, ?_, ?_, ?_, trivial⟩
                · rintro L ⟨gs, va⟩ W hL hd ⟨q0, q1, q2, q3, q4, q5, q6⟩
                  try dsimp only at q0 q1 q2 q3 q4 q5 q6
                  try simp only [depsT, Region.binds, forall_const, and_true, beq_iff_eq, reduceCtorEq, false_implies, true_and] at hd
                  intro K hK; refine do_wanted rfl ?_
                  have HK := Lib.hid hK; clear hK
                  try simp only [hd, cond_true]
                  have E11 : L 16 = false := (by cases h : L 16 with | false => rfl | true => exact absurd (q6 h) (by rw [hL]; simp))
                  have E12 : L 17 = false := (by cases h : L 17 with | false => rfl | true => exact absurd (q5 h) (by rw [E11]; simp))
                  simp only [E12, cond_false]
                  have Q0 := Lib.hid q0; have Q1 := Lib.hid q1; have Q2 := Lib.hid q2; have Q3 := Lib.hid q3; have Q4 := Lib.hid q4; have Q5 := Lib.hid q5; have Q6 := Lib.hid q6
                  clear q0 q1 q2 q3 q4 q5 q6
                  go_wp2
                  exact HK.out _ _ ⟨⟨gs, va⟩, by (simp only [upd, Nat.reduceBEq, cond_true, cond_false, hd, E12]; try rfl), ⟨Q0.out, Q1.out, Q2.out, Q3.out, Q4.out, Q5.out, fun h => rfl⟩⟩
                · rintro L ⟨gs, va⟩ W hL hd ⟨q0, q1, q2, q3, q4, q5, q6⟩
                  try dsimp only at q0 q1 q2 q3 q4 q5 q6
                  try simp only [depsT, Region.binds, forall_const, and_true, beq_iff_eq, reduceCtorEq, false_implies, true_and] at hd
                  intro K hK; refine do_wanted rfl ?_
                  have HK := Lib.hid hK; clear hK
                  try simp only [hd, cond_true]
                  have Q0 := Lib.hid q0; have Q1 := Lib.hid q1; have Q2 := Lib.hid q2; have Q3 := Lib.hid q3; have Q4 := Lib.hid q4; have Q5 := Lib.hid q5; have Q6 := Lib.hid q6
                  clear q0 q1 q2 q3 q4 q5 q6
                  go_wp2
                  exact HK.out _ _ ⟨⟨gs, va⟩, by simp only [upd, Nat.reduceBEq, cond_true, cond_false, hd], ⟨Q0.out, Q1.out, Q2.out, Q3.out, Q4.out, Q5.out, Q6.out⟩⟩
                · rintro L ⟨gs, va⟩ W hL hd ⟨q0, q1, q2, q3, q4, q5, q6⟩
                  try dsimp only at q0 q1 q2 q3 q4 q5 q6
                  try simp only [depsT, Region.binds, forall_const, and_true, beq_iff_eq, reduceCtorEq, false_implies, true_and] at hd
                  intro K hK; refine do_wanted rfl ?_
                  have HK := Lib.hid hK; clear hK
                  try simp only [hd, cond_true]
                  have cc := q4.cell 0 (v := .int .i64 x.fId) rfl
                  have Q0 := Lib.hid q0; have Q1 := Lib.hid q1; have Q2 := Lib.hid q2; have Q3 := Lib.hid q3; have Q4 := Lib.hid q4; have Q5 := Lib.hid q5; have Q6 := Lib.hid q6
                  clear q0 q1 q2 q3 q4 q5 q6
                  go_wp2
                  exact HK.out _ _ ⟨⟨gs, va⟩, by simp only [upd, Nat.reduceBEq, cond_true, cond_false, hd], ⟨Q0.out, Q1.out, Q2.out, Q3.out, Q4.out, Q5.out, Q6.out⟩⟩
                · rintro L ⟨gs, va⟩ W hL hd ⟨q0, q1, q2, q3, q4, q5, q6⟩
                  try dsimp only at q0 q1 q2 q3 q4 q5 q6
                  try simp only [depsT, Region.binds, forall_const, and_true, beq_iff_eq, reduceCtorEq, false_implies, true_and] at hd
                  intro K hK; refine do_wanted rfl ?_
                  have HK := Lib.hid hK; clear hK
                  try simp only [hd, cond_true]
                  have Q0 := Lib.hid q0; have Q1 := Lib.hid q1; have Q2 := Lib.hid q2; have Q3 := Lib.hid q3; have Q4 := Lib.hid q4; have Q5 := Lib.hid q5; have Q6 := Lib.hid q6
                  clear q0 q1 q2 q3 q4 q5 q6
                  go_wp2
                  exact HK.out _ _ ⟨⟨gs, va⟩, by simp only [upd, Nat.reduceBEq, cond_true, cond_false, hd], ⟨Q0.out, Q1.out, Q2.out, Q3.out, Q4.out, Q5.out, Q6.out⟩⟩
                · rintro L ⟨gs, va⟩ W hL hd ⟨q0, q1, q2, q3, q4, q5, q6⟩
                  try dsimp only at q0 q1 q2 q3 q4 q5 q6
                  try simp only [depsT, Region.binds, forall_const, and_true, beq_iff_eq, reduceCtorEq, false_implies, true_and] at hd
                  intro K hK; refine do_wanted rfl ?_
                  have HK := Lib.hid hK; clear hK
                  try simp only [hd, cond_true]
                  have Q0 := Lib.hid q0; have Q1 := Lib.hid q1; have Q2 := Lib.hid q2; have Q3 := Lib.hid q3; have Q4 := Lib.hid q4; have Q5 := Lib.hid q5; have Q6 := Lib.hid q6
                  clear q0 q1 q2 q3 q4 q5 q6
                  go_wp2
                  exact HK.out _ _ ⟨⟨gs, va⟩, by simp only [upd, Nat.reduceBEq, cond_true, cond_false, hd], ⟨Q0.out, Q1.out, Q2.out, Q3.out, Q4.out, Q5.out, Q6.out⟩⟩
                · rintro L ⟨gs, va⟩ W hL hd ⟨q0, q1, q2, q3, q4, q5, q6⟩
                  try dsimp only at q0 q1 q2 q3 q4 q5 q6
                  try simp only [depsT, Region.binds, forall_const, and_true, beq_iff_eq, reduceCtorEq, false_implies, true_and] at hd
                  intro K hK; refine do_wanted rfl ?_
                  have HK := Lib.hid hK; clear hK
                  try simp only [hd, cond_true]
                  have cc := q4.cell 2 (v := .int .i64 (x.fTerm + 1)) rfl
                  have Q0 := Lib.hid q0; have Q1 := Lib.hid q1; have Q2 := Lib.hid q2; have Q3 := Lib.hid q3; have Q4 := Lib.hid q4; have Q5 := Lib.hid q5; have Q6 := Lib.hid q6
                  clear q0 q1 q2 q3 q4 q5 q6
                  go_wp2
                  exact HK.out _ _ ⟨⟨gs, va⟩, by simp only [upd, Nat.reduceBEq, cond_true, cond_false, hd], ⟨Q0.out, Q1.out, Q2.out, Q3.out, Q4.out, Q5.out, Q6.out⟩⟩
                · rintro L ⟨gs, va⟩ W hL hd ⟨q0, q1, q2, q3, q4, q5, q6⟩
                  try dsimp only at q0 q1 q2 q3 q4 q5 q6
                  try simp only [depsT, Region.binds, forall_const, and_true, beq_iff_eq, reduceCtorEq, false_implies, true_and] at hd
                  intro K hK; refine do_wanted rfl ?_
                  have HK := Lib.hid hK; clear hK
                  try simp only [hd, cond_true]
                  have Q0 := Lib.hid q0; have Q1 := Lib.hid q1; have Q2 := Lib.hid q2; have Q3 := Lib.hid q3; have Q4 := Lib.hid q4; have Q5 := Lib.hid q5; have Q6 := Lib.hid q6
                  clear q0 q1 q2 q3 q4 q5 q6
                  go_wp2
                  exact HK.out _ _ ⟨⟨gs, va⟩, by simp only [upd, Nat.reduceBEq, cond_true, cond_false, hd], ⟨Q0.out, Q1.out, Q2.out, Q3.out, Q4.out, Q5.out, Q6.out⟩⟩
                · rintro L ⟨gs, va⟩ W hL hd ⟨q0, q1, q2, q3, q4, q5, q6⟩
                  try dsimp only at q0 q1 q2 q3 q4 q5 q6
                  try simp only [depsT, Region.binds, forall_const, and_true, beq_iff_eq, reduceCtorEq, false_implies, true_and] at hd
                  intro K hK; refine do_wanted rfl ?_
                  have HK := Lib.hid hK; clear hK
                  try simp only [hd, cond_true]
                  have cc := q4.cell 4 (v := .slice P4 x.fLog.length C4) rfl
                  have Q0 := Lib.hid q0; have Q1 := Lib.hid q1; have Q2 := Lib.hid q2; have Q3 := Lib.hid q3; have Q4 := Lib.hid q4; have Q5 := Lib.hid q5; have Q6 := Lib.hid q6
                  clear q0 q1 q2 q3 q4 q5 q6
                  go_wp2
                  exact HK.out _ _ ⟨⟨gs, va⟩, by simp only [upd, Nat.reduceBEq, cond_true, cond_false, hd], ⟨Q0.out, Q1.out, Q2.out, Q3.out, Q4.out, Q5.out, Q6.out⟩⟩
                · rintro L ⟨gs, va⟩ W hL hd ⟨q0, q1, q2, q3, q4, q5, q6⟩
                  try dsimp only at q0 q1 q2 q3 q4 q5 q6
                  try simp only [depsT, Region.binds, forall_const, and_true, beq_iff_eq, reduceCtorEq, false_implies, true_and] at hd
                  intro K hK; refine do_wanted rfl ?_
                  have HK := Lib.hid hK; clear hK
                  try simp only [hd, cond_true]
                  have Q0 := Lib.hid q0; have Q1 := Lib.hid q1; have Q2 := Lib.hid q2; have Q3 := Lib.hid q3; have Q4 := Lib.hid q4; have Q5 := Lib.hid q5; have Q6 := Lib.hid q6
                  clear q0 q1 q2 q3 q4 q5 q6
                  go_wp2
                  exact HK.out _ _ ⟨⟨gs, va⟩, by simp only [upd, Nat.reduceBEq, cond_true, cond_false, hd], ⟨Q0.out, Q1.out, Q2.out, Q3.out, Q4.out, Q5.out, Q6.out⟩⟩
                · rintro L ⟨gs, va⟩ W hL hd ⟨q0, q1, q2, q3, q4, q5, q6⟩
                  try dsimp only at q0 q1 q2 q3 q4 q5 q6
                  try simp only [depsT, Region.binds, forall_const, and_true, beq_iff_eq, reduceCtorEq, false_implies, true_and] at hd
                  intro K hK; refine do_wanted rfl ?_
                  have HK := Lib.hid hK; clear hK
                  try simp only [hd, cond_true]
                  have cc0 := q4.cell 0 (v := .int .i64 x.fId) rfl; have cc1 := q4.cell 1 (v := .int .i64 x.fPeers) rfl; have cc2 := q4.cell 2 (v := .int .i64 (x.fTerm + 1)) rfl; have cc3 := q4.cell 3 (v := .int .i64 x.fId) rfl; have cc4 := q4.cell 4 (v := .slice P4 x.fLog.length C4) rfl; have cc5 := q4.cell 5 (v := .int .i64 x.fCommit) rfl; have cc6 := q4.cell 6 (v := .int .i64 1) rfl; have cc7 := q4.cell 7 (v := .slice (some ⟨gv, 0, none⟩) 1 1) rfl; have cc8 := q4.cell 8 (v := .slice P8 x.fMatch.length C8) rfl
                  have Q0 := Lib.hid q0; have Q1 := Lib.hid q1; have Q2 := Lib.hid q2; have Q3 := Lib.hid q3; have Q4 := Lib.hid q4; have Q5 := Lib.hid q5; have Q6 := Lib.hid q6
                  clear q0 q1 q2 q3 q4 q5 q6
                  go_wp2
                  exact HK.out _ _ ⟨⟨gs, va⟩, by simp only [upd, Nat.reduceBEq, cond_true, cond_false, hd], ⟨Q0.out, Q1.out, Q2.out, Q3.out, Q4.out, Q5.out, Q6.out⟩⟩
                · rintro L ⟨gs, va⟩ W hL hd ⟨q0, q1, q2, q3, q4, q5, q6⟩
                  try dsimp only at q0 q1 q2 q3 q4 q5 q6
                  try simp only [depsT, Region.binds, forall_const, and_true, beq_iff_eq, reduceCtorEq, false_implies, true_and] at hd
                  intro K hK; refine do_wanted rfl ?_
                  have HK := Lib.hid hK; clear hK
                  try simp only [hd, cond_true]
                  have Q0 := Lib.hid q0; have Q1 := Lib.hid q1; have Q2 := Lib.hid q2; have Q3 := Lib.hid q3; have Q4 := Lib.hid q4; have Q5 := Lib.hid q5; have Q6 := Lib.hid q6
                  clear q0 q1 q2 q3 q4 q5 q6
                  go_wp2
                  exact HK.out _ _ ⟨⟨gs, va⟩, by simp only [upd, Nat.reduceBEq, cond_true, cond_false, hd], ⟨Q0.out, Q1.out, Q2.out, Q3.out, Q4.out, Q5.out, Q6.out⟩⟩
                · rintro L ⟨gs, va⟩ W hL hd ⟨q0, q1, q2, q3, q4, q5, q6⟩
                  try dsimp only at q0 q1 q2 q3 q4 q5 q6
                  try simp only [depsT, Region.binds, forall_const, and_true, beq_iff_eq, reduceCtorEq, false_implies, true_and] at hd
                  intro K hK; refine do_wanted rfl ?_
                  have HK := Lib.hid hK; clear hK
                  try simp only [hd, cond_true]
                  have cc := q4.cell 4 (v := .slice P4 x.fLog.length C4) rfl
                  have Q0 := Lib.hid q0; have Q1 := Lib.hid q1; have Q2 := Lib.hid q2; have Q3 := Lib.hid q3; have Q4 := Lib.hid q4; have Q5 := Lib.hid q5; have Q6 := Lib.hid q6
                  clear q0 q1 q2 q3 q4 q5 q6
                  go_wp2
                  exact HK.out _ _ ⟨⟨gs, va⟩, by simp only [upd, Nat.reduceBEq, cond_true, cond_false, hd], ⟨Q0.out, Q1.out, Q2.out, Q3.out, Q4.out, Q5.out, Q6.out⟩⟩
                · rintro L ⟨gs, va⟩ W hL hd ⟨q0, q1, q2, q3, q4, q5, q6⟩
                  try dsimp only at q0 q1 q2 q3 q4 q5 q6
                  try simp only [depsT, Region.binds, forall_const, and_true, beq_iff_eq, reduceCtorEq, false_implies, true_and] at hd
                  intro K hK; refine do_wanted rfl ?_
                  have HK := Lib.hid hK; clear hK
                  try simp only [hd, cond_true]
                  have Q0 := Lib.hid q0; have Q1 := Lib.hid q1; have Q2 := Lib.hid q2; have Q3 := Lib.hid q3; have Q4 := Lib.hid q4; have Q5 := Lib.hid q5; have Q6 := Lib.hid q6
                  clear q0 q1 q2 q3 q4 q5 q6
                  go_wp2
                  exact HK.out _ _ ⟨⟨gs, va⟩, by simp only [upd, Nat.reduceBEq, cond_true, cond_false, hd], ⟨Q0.out, Q1.out, Q2.out, Q3.out, Q4.out, Q5.out, Q6.out⟩⟩
                · rintro L ⟨gs, va⟩ W hL hd ⟨q0, q1, q2, q3, q4, q5, q6⟩
                  try dsimp only at q0 q1 q2 q3 q4 q5 q6
                  try simp only [depsT, Region.binds, forall_const, and_true, beq_iff_eq, reduceCtorEq, false_implies, true_and] at hd
                  intro K hK; refine do_wanted rfl ?_
                  have HK := Lib.hid hK; clear hK
                  try simp only [hd, cond_true]
                  have rr := Rp.Row_S (Rp.Row_kept R4.out q0 D4.out)
                  have r7 := Rp.Row_S (Row_one (Xv.out.kept q0 DV.out))
                  have r8 := Rp.Row_S (Rp.Row_kept R8.out q0 D8.out)
                  have HCL := Lib.hid (show Calls Try.prog 19 #[.agg #[.int .i64 x.fId, .int .i64 x.fPeers, .int .i64 (x.fTerm + 1), .int .i64 x.fId, .slice P4 x.fLog.length C4, .int .i64 x.fCommit, .int .i64 1, .slice (some ⟨gv, 0, none⟩) 1 1, .slice P8 x.fMatch.length C8], .int .i64 (x.fLog.length : Int)] W _ from sTerm_calls (tmA x) x.fLog.length _ _ _ W rr r7 r8 (Nat.le_refl _) (by show x.fLog.length ≤ _; omega))
                  clear rr r7 r8
                  have Q0 := Lib.hid q0; have Q1 := Lib.hid q1; have Q2 := Lib.hid q2; have Q3 := Lib.hid q3; have Q4 := Lib.hid q4; have Q5 := Lib.hid q5; have Q6 := Lib.hid q6
                  clear q0 q1 q2 q3 q4 q5 q6
                  go_wp2_with ((with_reducible refine HCL.out.mono ?_); rintro ee we ⟨rfl, hb⟩; have HB := Lib.hid hb; clear hb)
                  exact HK.out _ _ ⟨⟨gs, va⟩, by (simp only [upd, Nat.reduceBEq, cond_true, cond_false, hd]; rfl), ⟨Q0.out.below HB.out, fun h => Rp.Row_below (Q1.out h) HB.out, fun h k => (Q2.out h k).below HB.out, fun h => ⟨Rp.Row_below (Q3.out h).1 HB.out, (Q3.out h).2⟩, Q4.out.below HB.out, Q5.out, Q6.out⟩⟩
                · rintro L ⟨gs, va⟩ W hL hd ⟨q0, q1, q2, q3, q4, q5, q6⟩
                  try dsimp only at q0 q1 q2 q3 q4 q5 q6
                  try simp only [depsT, Region.binds, forall_const, and_true, beq_iff_eq, reduceCtorEq, false_implies, true_and] at hd
                  intro K hK; refine do_wanted rfl ?_
                  have HK := Lib.hid hK; clear hK
                  try simp only [hd, cond_true]
                  have Q0 := Lib.hid q0; have Q1 := Lib.hid q1; have Q2 := Lib.hid q2; have Q3 := Lib.hid q3; have Q4 := Lib.hid q4; have Q5 := Lib.hid q5; have Q6 := Lib.hid q6
                  clear q0 q1 q2 q3 q4 q5 q6
                  go_wp2
                  exact HK.out _ _ ⟨⟨gs, va⟩, by simp only [upd, Nat.reduceBEq, cond_true, cond_false, hd], ⟨Q0.out, Q1.out, Q2.out, Q3.out, Q4.out, Q5.out, Q6.out⟩⟩
                · rintro L ⟨gs, va⟩ W hL hd ⟨q0, q1, q2, q3, q4, q5, q6⟩
                  try dsimp only at q0 q1 q2 q3 q4 q5 q6
                  try simp only [depsT, Region.binds, forall_const, and_true, beq_iff_eq, reduceCtorEq, false_implies, true_and] at hd
                  intro K hK; refine do_wanted rfl ?_
                  have HK := Lib.hid hK; clear hK
                  try simp only [hd, cond_true]
                  have Q0 := Lib.hid q0; have Q1 := Lib.hid q1; have Q2 := Lib.hid q2; have Q3 := Lib.hid q3; have Q4 := Lib.hid q4; have Q5 := Lib.hid q5; have Q6 := Lib.hid q6
                  clear q0 q1 q2 q3 q4 q5 q6
                  go_wp2
                  have HB := Lib.hid ((Below.refl W.heap.size W).alloc (Nat.le_refl _) (.cells #[.int .i64 1, .int .i64 x.fId, .int .i64 (k : Int), .int .i64 (x.fTerm + 1), .int .i64 (x.fLog.length : Int), .int .i64 (termV x.fLog x.fLog.length), .slice none 0 0, .int .i64 0, .bool false] 44))
                  exact HK.out _ _ ⟨⟨W.heap.size, va⟩, by simp only [upd, Nat.reduceBEq, cond_true, cond_false, hd], ⟨Q0.out.below HB.out, fun h => Rp.Row_below (Q1.out h) HB.out, fun _ _ => Box.new rfl, fun h => ⟨Rp.Row_below (Q3.out h).1 HB.out, (Q3.out h).2⟩, Q4.out.below HB.out, Q5.out, Q6.out⟩⟩
                · rintro L ⟨gs, va⟩ W hL hd ⟨q0, q1, q2, q3, q4, q5, q6⟩
                  try dsimp only at q0 q1 q2 q3 q4 q5 q6
                  try simp only [depsT, Region.binds, forall_const, and_true, beq_iff_eq, reduceCtorEq, false_implies, true_and] at hd
                  intro K hK; refine do_wanted rfl ?_
                  have HK := Lib.hid hK; clear hK
                  try simp only [hd, cond_true]
                  have E9 : L 17 = false := (by cases h : L 17 with | false => rfl | true => exact absurd (q5 h) (by rw [hL]; simp))
                  simp only [E9, cond_false]
                  have Q0 := Lib.hid q0; have Q1 := Lib.hid q1; have Q2 := Lib.hid q2; have Q3 := Lib.hid q3; have Q4 := Lib.hid q4; have Q5 := Lib.hid q5; have Q6 := Lib.hid q6
                  clear q0 q1 q2 q3 q4 q5 q6
                  refine wp_append_op (d := kAsk) _ _ 30 44 rfl Try.underlying30 infoRaftMsg rfl (by decide) rfl (by decide) kAsk_flat (xs := (tmMk x k)) (ys := [⟨x.fId, (k : Int), x.fTerm + 1, (x.fLog.length : Int), termV x.fLog x.fLog.length⟩]) rfl rfl (Q1.out hL) (Rp.S_one (Q2.out (show L 15 = true by simp only [hd]) hL) rfl) (by have := tmMk_len x k; simp; omega) ?_
                  intro va wa r1 r2 r3 _
                  have hq0 := Q0.out
                  exact HK.out _ _ ⟨⟨gs, va⟩, by (simp only [upd, Nat.reduceBEq, cond_true, cond_false, hd, E9]; rfl), ⟨hq0.trans r2, fun h => absurd (show true = false from h) (by simp), fun _ h => absurd (show true = false from h) (by simp), fun _ => ⟨r1, fun b h => (r3 b h).imp id fun h2 => Nat.le_trans hq0.size h2⟩, Q4.out.kept r2 DC.out, fun h => rfl, fun _ => (show L 0 = true by simp only [hd])⟩⟩
                · rintro L ⟨gs, va⟩ W hL hd ⟨q0, q1, q2, q3, q4, q5, q6⟩
                  try dsimp only at q0 q1 q2 q3 q4 q5 q6
                  try simp only [depsT, Region.binds, forall_const, and_true, beq_iff_eq, reduceCtorEq, false_implies, true_and] at hd
                  intro K hK; refine do_wanted rfl ?_
                  have HK := Lib.hid hK; clear hK
                  try simp only [hd, cond_true]
                  have Q0 := Lib.hid q0; have Q1 := Lib.hid q1; have Q2 := Lib.hid q2; have Q3 := Lib.hid q3; have Q4 := Lib.hid q4; have Q5 := Lib.hid q5; have Q6 := Lib.hid q6
                  clear q0 q1 q2 q3 q4 q5 q6
                  go_wp2
                  exact HK.out _ _ ⟨⟨gs, va⟩, by simp only [upd, Nat.reduceBEq, cond_true, cond_false, hd], ⟨Q0.out, Q1.out, Q2.out, Q3.out, Q4.out, fun _ => (show L 16 = true by simp only [hd]), Q6.out⟩⟩
              · simp (config := { maxSteps := 4000000 }) only [layT, Nat.reduceAdd, Nat.reduceBEq, cond_true, cond_false]
                rintro L ⟨gs, va⟩ W hd ⟨q0, q1, q2, q3, q4, q5, q6⟩
                simp only [doneT, true_and, List.length_cons, List.length_nil, Nat.reduceAdd] at hd
                obtain ⟨⟨⟨⟨⟨⟨⟨⟨⟨⟨⟨⟨⟨⟨⟨⟨⟨e0, e1⟩, e2⟩, e3⟩, e4⟩, e5⟩, e6⟩, e7⟩, e8⟩, e9⟩, e10⟩, e11⟩, e12⟩, e13⟩, e14⟩, e15⟩, e16⟩, e17⟩ := hd
                try dsimp only at q0 q1 q2 q3 q4 q5 q6
                simp only [e0, e1, e2, e3, e4, e5, e6, e7, e8, e9, e10, e11, e12, e13, e14, e15, e16, e17, cond_true]
                obtain ⟨y1, y2⟩ := q3 e16
                have HR2 := Lib.hid y1; have HF2 := Lib.hid (fun b h => (y2 b h).elim (fun h2 => HF.out b h2) (fun h2 => Nat.le_trans hs9 h2) : ∀ b ∈ Rp.ofOwn va, w9.heap.size ≤ b)
                have K0 := Lib.hid q0; have hs2 := Nat.le_trans hs9 q0.size
                have HC2 := Lib.hid (HC.out.trans (q0.toBelow HC.out.size (fun b h => by have := HF.out b h; omega)))
                clear q0 q1 q2 q3 q4 q5 q6 y1 y2
                go_wp2
                exact ⟨⟨k + 1, va, by omega, rfl, by go_num, by rw [tmMk_yes HI.out]; exact HR2.out, HF2.out, HC2.out, hs2, Xn.out.kept K0.out DC.out, Xr.out.kept K0.out DR.out, Xv.out.kept K0.out DV.out, Rp.Row_kept R4.out K0.out D4.out, Rp.Row_kept R8.out K0.out D8.out⟩, by simp [intOf]; omega⟩
          case neg =>
            obtain rfl : k = n := by omega
            have i3 : ¬ (k : Int) < x.fPeers := by have := HN.out; omega
            have T7 := Lib.hid (show ∀ b ∈ [gv], w.heap.size + 2 ≤ b by simp; omega); have TM_ := Lib.hid (fun b h => (by have := HF.out b h; omega) : ∀ b ∈ Rp.ofOwn (.slice A (tmMk x k).length c), w.heap.size + 2 ≤ b)
            have cr_0 := Xr.out.cell 0 (v := .int .i64 0) rfl; have cr_1 := Xr.out.cell 1 (v := .int .i64 0) rfl; have cr_2 := Xr.out.cell 2 (v := .int .i64 0) rfl; have cr_3 := Xr.out.cell 3 (v := .int .i64 0) rfl; have cr_4 := Xr.out.cell 4 (v := .slice none 0 0) rfl; have cr_5 := Xr.out.cell 5 (v := .int .i64 0) rfl; have cr_6 := Xr.out.cell 6 (v := .int .i64 0) rfl; have cr_7 := Xr.out.cell 7 (v := .slice none 0 0) rfl; have cr_8 := Xr.out.cell 8 (v := .slice none 0 0) rfl; have cv_0 := Xv.out.cell 0 (v := .int .i64 x.fId) rfl
            have fr_ := Xr.out.fro
            go_wp2
            obtain ⟨hk, bf⟩ := Xr.out.stored [.int .i64 x.fId, .int .i64 x.fPeers, .int .i64 (x.fTerm + 1), .int .i64 x.fId, .slice P4 x.fLog.length C4, .int .i64 x.fCommit, .int .i64 1, .slice (some ⟨gv, 0, none⟩) 1 1, .slice P8 x.fMatch.length C8] 0
            rw [setA_all (by rfl)] at bf
            have q4 := Row_ne R4.out hk (fun h => by have h_0 := T4.out _ h; omega)
            have q8 := Row_ne R8.out hk (fun h => by have h_0 := T8.out _ h; omega)
            have qm := Row_ne HR.out hk (fun h => by have h_0 := TM_.out _ h; omega)
            change bodyPost _ _ _ _ _ (Rp.setN wr (w.heap.size + 1) 0 [.int .i64 x.fId, .int .i64 x.fPeers, .int .i64 (x.fTerm + 1), .int .i64 x.fId, .slice P4 x.fLog.length C4, .int .i64 x.fCommit, .int .i64 1, .slice (some ⟨gv, 0, none⟩) 1 1, .slice P8 x.fMatch.length C8])
            clear fr_ cn_0 cn_1 cn_2 cn_3 cn_4 cn_5 cn_6 cn_7 cn_8 cr_0 cr_1 cr_2 cr_3 cr_4 cr_5 cr_6 cr_7 cr_8 cv_0
            have HK := Lib.hid hk; clear hk
            generalize Rp.setN wr (w.heap.size + 1) 0 [.int .i64 x.fId, .int .i64 x.fPeers, .int .i64 (x.fTerm + 1), .int .i64 x.fId, .slice P4 x.fLog.length C4, .int .i64 x.fCommit, .int .i64 1, .slice (some ⟨gv, 0, none⟩) 1 1, .slice P8 x.fMatch.length C8] = wf at *
            have df0 := bf.cell 0 (v := .int .i64 x.fId) rfl; have df1 := bf.cell 1 (v := .int .i64 x.fPeers) rfl; have df2 := bf.cell 2 (v := .int .i64 (x.fTerm + 1)) rfl; have df3 := bf.cell 3 (v := .int .i64 x.fId) rfl; have df4 := bf.cell 4 (v := .slice P4 x.fLog.length C4) rfl; have df5 := bf.cell 5 (v := .int .i64 x.fCommit) rfl; have df6 := bf.cell 6 (v := .int .i64 1) rfl; have df7 := bf.cell 7 (v := .slice (some ⟨gv, 0, none⟩) 1 1) rfl; have df8 := bf.cell 8 (v := .slice P8 x.fMatch.length C8) rfl
            refine bodyPost_ret (v := .tuple #[.agg #[.int .i64 x.fId, .int .i64 x.fPeers, .int .i64 (x.fTerm + 1), .int .i64 x.fId, .slice P4 x.fLog.length C4, .int .i64 x.fCommit, .int .i64 1, .slice (some ⟨gv, 0, none⟩) 1 1, .slice P8 x.fMatch.length C8], .slice A (tmMk x k).length c, .bool true]) (by simp [results, Try.results5, go_sem, df0, df1, df2, df3, df4, df5, df6, df7, df8]) rfl ⟨_, _, by rw [HOB.out], TmMade.ask (N := w.heap.size + 2) (F7 := [gv]) HOB.out HP.out q4 (Row_one (Box_ne Xv.out HK.out (by omega))) q8 (by rw [HN.out, Int.toNat_natCast]; exact qm) T4.out T7.out T8.out TM_.out (by omega) (nodup3 DN.out.1 (by simp) DN.out.2.1 (fun b h hm => by have := U4.out b hm; simp at h; omega) DN.out.2.2 (fun b h hm => by have := U8.out b h; simp at hm; omega)) (ofOwn_nodup _) D4.out (fun b h hm => DV.out (by simp at h; subst h; exact hm)) D8.out (HC.out.trans (HK.out.toBelow HC.out.size (by simp)))⟩
      case true =>
        have hp1 : x.fPeers = 1 := by simpa using hp
        have hi0 : x.fId = 0 := by omega
        have Xn := Lib.hid (show Box w9 w.heap.size #[.int .i64 0, .int .i64 1, .int .i64 (x.fTerm + 1), .int .i64 0, .slice P4 x.fLog.length C4, .int .i64 x.fCommit, .int .i64 1, .slice (some ⟨gv, 0, none⟩) 1 1, .slice P8 x.fMatch.length C8] 29 by have h := Xn.out; rw [hp1, hi0] at h; exact h)
        clear cn_0 cn_1 cn_2 cn_3 cn_4 cn_5 cn_6 cn_7 cn_8
        have cn_0 := Xn.out.cell 0 (v := .int .i64 0) rfl; have cn_1 := Xn.out.cell 1 (v := .int .i64 1) rfl; have cn_2 := Xn.out.cell 2 (v := .int .i64 (x.fTerm + 1)) rfl; have cn_3 := Xn.out.cell 3 (v := .int .i64 0) rfl; have cn_4 := Xn.out.cell 4 (v := .slice P4 x.fLog.length C4) rfl; have cn_5 := Xn.out.cell 5 (v := .int .i64 x.fCommit) rfl; have cn_6 := Xn.out.cell 6 (v := .int .i64 1) rfl; have cn_7 := Xn.out.cell 7 (v := .slice (some ⟨gv, 0, none⟩) 1 1) rfl; have cn_8 := Xn.out.cell 8 (v := .slice P8 x.fMatch.length C8) rfl
        have HP1 := Lib.hid hp1; have HI0 := Lib.hid hi0
        have HCL := Lib.hid (fun W (hb : Below w9.heap.size w9 W) => sLead_calls (te := x.fTerm + 1) (vo := 0) (co := x.fCommit) (ro := 1) (lg := x.fLog) (A4 := P4) (A7 := some ⟨gv, 0, none⟩) (A8 := P8) (d4 := C4) (n7 := 1) (d7 := 1) (n8 := x.fMatch.length) (d8 := C8) (Rp.Row_S (Rp.Row_below R4.out hb)) (by omega) f7 f8 (by have h := HCM.out; simp only [tmL, hi0, hp1] at h; exact h))
        clear hp1 hi0
        have fr_ := Xr.out.fro
        go_upto_region 9 with fail
        have hk0 := Below.refl w9.heap.size w9
        go_wp2_with fail
        (with_reducible refine (HCL.out _ hk0).mono ?_)
        rintro e wl ⟨gm, rfl, hgm, hbm, hb⟩
        have XM := Lib.hid hbm; have R4 := Lib.hid (Rp.Row_below R4.out hb); clear hbm hk0 fr_ HCL
        have hgm2 : gv < gm := by omega
        have HC := Lib.hid (HC.out.trans (hb.mono (by first | exact HC.out.size | (have := HC.out.size; omega)))); have hsz := Nat.le_trans hsz hb.size; have Xn := Lib.hid (Xn.out.below hb); have Xr := Lib.hid (Xr.out.below hb); have Xv := Lib.hid (Xv.out.below hb); clear cn_0 cn_1 cn_2 cn_3 cn_4 cn_5 cn_6 cn_7 cn_8 cr_0 cr_1 cr_2 cr_3 cr_4 cr_5 cr_6 cr_7 cr_8 cv_0; clear hb; have cn_0 := Xn.out.cell 0 (v := .int .i64 0) rfl; have cn_1 := Xn.out.cell 1 (v := .int .i64 1) rfl; have cn_2 := Xn.out.cell 2 (v := .int .i64 (x.fTerm + 1)) rfl; have cn_3 := Xn.out.cell 3 (v := .int .i64 0) rfl; have cn_4 := Xn.out.cell 4 (v := .slice P4 x.fLog.length C4) rfl; have cn_5 := Xn.out.cell 5 (v := .int .i64 x.fCommit) rfl; have cn_6 := Xn.out.cell 6 (v := .int .i64 1) rfl; have cn_7 := Xn.out.cell 7 (v := .slice (some ⟨gv, 0, none⟩) 1 1) rfl; have cn_8 := Xn.out.cell 8 (v := .slice P8 x.fMatch.length C8) rfl; have cr_0 := Xr.out.cell 0 (v := .int .i64 0) rfl; have cr_1 := Xr.out.cell 1 (v := .int .i64 0) rfl; have cr_2 := Xr.out.cell 2 (v := .int .i64 0) rfl; have cr_3 := Xr.out.cell 3 (v := .int .i64 0) rfl; have cr_4 := Xr.out.cell 4 (v := .slice none 0 0) rfl; have cr_5 := Xr.out.cell 5 (v := .int .i64 0) rfl; have cr_6 := Xr.out.cell 6 (v := .int .i64 0) rfl; have cr_7 := Xr.out.cell 7 (v := .slice none 0 0) rfl; have cr_8 := Xr.out.cell 8 (v := .slice none 0 0) rfl; have cv_0 := Xv.out.cell 0 (v := .int .i64 x.fId) rfl
        have fr_ := Xr.out.fro
        go_wp2
        obtain ⟨hk, bf⟩ := Xr.out.stored [.int .i64 0, .int .i64 1, .int .i64 (x.fTerm + 1), .int .i64 0, .slice P4 x.fLog.length C4, .int .i64 x.fCommit, .int .i64 2, .slice none 0 0, .slice (some ⟨gm, 0, none⟩) 1 1] 0
        rw [setA_all (by rfl)] at bf
        have q4 := Row_ne R4.out hk (fun h => by have h_0 := T4.out _ h; omega)
        change bodyPost _ _ _ _ _ (Rp.setN wl (w.heap.size + 1) 0 [.int .i64 0, .int .i64 1, .int .i64 (x.fTerm + 1), .int .i64 0, .slice P4 x.fLog.length C4, .int .i64 x.fCommit, .int .i64 2, .slice none 0 0, .slice (some ⟨gm, 0, none⟩) 1 1])
        clear fr_ cn_0 cn_1 cn_2 cn_3 cn_4 cn_5 cn_6 cn_7 cn_8 cr_0 cr_1 cr_2 cr_3 cr_4 cr_5 cr_6 cr_7 cr_8 cv_0
        have HK := Lib.hid hk; clear hk
        generalize Rp.setN wl (w.heap.size + 1) 0 [.int .i64 0, .int .i64 1, .int .i64 (x.fTerm + 1), .int .i64 0, .slice P4 x.fLog.length C4, .int .i64 x.fCommit, .int .i64 2, .slice none 0 0, .slice (some ⟨gm, 0, none⟩) 1 1] = wf at *
        have df0 := bf.cell 0 (v := .int .i64 0) rfl; have df1 := bf.cell 1 (v := .int .i64 1) rfl; have df2 := bf.cell 2 (v := .int .i64 (x.fTerm + 1)) rfl; have df3 := bf.cell 3 (v := .int .i64 0) rfl; have df4 := bf.cell 4 (v := .slice P4 x.fLog.length C4) rfl; have df5 := bf.cell 5 (v := .int .i64 x.fCommit) rfl; have df6 := bf.cell 6 (v := .int .i64 2) rfl; have df7 := bf.cell 7 (v := .slice none 0 0) rfl; have df8 := bf.cell 8 (v := .slice (some ⟨gm, 0, none⟩) 1 1) rfl
        refine bodyPost_ret (v := .tuple #[.agg #[.int .i64 0, .int .i64 1, .int .i64 (x.fTerm + 1), .int .i64 0, .slice P4 x.fLog.length C4, .int .i64 x.fCommit, .int .i64 2, .slice none 0 0, .slice (some ⟨gm, 0, none⟩) 1 1], .slice none 0 0, .bool true]) (by simp [results, Try.results5, go_sem, df0, df1, df2, df3, df4, df5, df6, df7, df8]) rfl ⟨_, _, by rw [HOB.out], TmMade.lead (N := w.heap.size + 2) HOB.out HP1.out HI0.out q4 (Row_one (Box_ne XM.out HK.out (by omega))) T4.out (by simp; omega) (by omega) DN.out.1 (by simp) (fun b h hm => by have := U4.out b hm; simp at h; omega) (HC.out.trans (HK.out.toBelow HC.out.size (by simp)))⟩
end Go.Proofs.Ytcimnhpgackciaa
