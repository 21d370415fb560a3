/- Nodes: what is proposed. -/
import Derived.Test.YtljkcmbebdbnaaaGnK
namespace Go.Proofs.Ytljkcmbebdbnaaa
open Go Go.RowKit Go.Sort
set_option linter.unusedVariables false
set_option linter.unusedSimpArgs false

def proOk (x : DRaftNode) (s : ByteArray) : Bool := nodeOk x && (x.fRole == 2) && !((x.fLog.length : Int) == 60) && decide ((s.size : Int) ≤ 100)
def addN (x : DRaftNode) (s : ByteArray) : DRaftNode := { x with fLog := x.fLog ++ [⟨x.fTerm, s⟩], fMatch := x.fMatch.set x.fId.toNat ((x.fLog.length + 1 : Nat) : Int) }
def proN (x : DRaftNode) (s : ByteArray) : DRaftNode := { addN x s with fCommit := comFrom (addN x s) (x.fLog.length + 1) }
def proV (x : DRaftNode) (s : ByteArray) : DRaftNode := if proOk x s then proN x s else zRaftNode
def proI (x : DRaftNode) (s : ByteArray) : Int := if proOk x s then ((x.fLog.length + 1 : Nat) : Int) else 0
set_option maxHeartbeats 8000000 in
set_option maxRecDepth 100000 in
theorem iPro_calls (x : DRaftNode) (s : ByteArray) (v4 v7 v8 : Value) (w : World) (g4 : kEntry.S w x.fLog v4) (g7 : kInt.S w x.fVotes v7) (g8 : kInt.S w x.fMatch v8) (hl : smRaftNode 1048576 x) : Calls Try.prog 35 #[.agg #[.int .i64 x.fId, .int .i64 x.fPeers, .int .i64 x.fTerm, .int .i64 x.fVote, v4, .int .i64 x.fCommit, .int .i64 x.fRole, v7, v8], .string s] w
    fun e w' => ∃ v, e = .returned (.tuple #[v, .int .i64 (proI x s), .bool (proOk x s)]) ∧ Made kRaftNode (proV x s) w w' v := by
  have G4 := Lib.hid g4; have G7 := Lib.hid g7; have G8 := Lib.hid g8
  obtain ⟨A4, d4, rfl, _, _⟩ := g4
  obtain ⟨A7, d7, rfl, _, _⟩ := g7
  obtain ⟨A8, d8, rfl, _, _⟩ := g8
  go_enter Try.func35, Try.ntmps35
  go_upto_region 1 with fail
  have HC := Lib.hid (show Below w.heap.size w ((w.alloc (.cells #[.int .i64 x.fId, .int .i64 x.fPeers, .int .i64 x.fTerm, .int .i64 x.fVote, .slice A4 x.fLog.length d4, .int .i64 x.fCommit, .int .i64 x.fRole, .slice A7 x.fVotes.length d7, .slice A8 x.fMatch.length d8] 30)).alloc (.cells #[.int .i64 0, .int .i64 0, .int .i64 0, .int .i64 0, .slice none 0 0, .int .i64 0, .int .i64 0, .slice none 0 0, .slice none 0 0] 30)) from Below.alloc (Below.alloc (Below.refl w.heap.size w) (by first | exact Nat.le_refl _ | (simp; done) | (simp; omega)) (.cells #[.int .i64 x.fId, .int .i64 x.fPeers, .int .i64 x.fTerm, .int .i64 x.fVote, .slice A4 x.fLog.length d4, .int .i64 x.fCommit, .int .i64 x.fRole, .slice A7 x.fVotes.length d7, .slice A8 x.fMatch.length d8] 30)) (by first | exact Nat.le_refl _ | (simp; done) | (simp; omega)) (.cells #[.int .i64 0, .int .i64 0, .int .i64 0, .int .i64 0, .slice none 0 0, .int .i64 0, .int .i64 0, .slice none 0 0, .slice none 0 0] 30))
  have Xn := Lib.hid (show Box ((w.alloc (.cells #[.int .i64 x.fId, .int .i64 x.fPeers, .int .i64 x.fTerm, .int .i64 x.fVote, .slice A4 x.fLog.length d4, .int .i64 x.fCommit, .int .i64 x.fRole, .slice A7 x.fVotes.length d7, .slice A8 x.fMatch.length d8] 30)).alloc (.cells #[.int .i64 0, .int .i64 0, .int .i64 0, .int .i64 0, .slice none 0 0, .int .i64 0, .int .i64 0, .slice none 0 0, .slice none 0 0] 30)) (w.heap.size) #[.int .i64 x.fId, .int .i64 x.fPeers, .int .i64 x.fTerm, .int .i64 x.fVote, .slice A4 x.fLog.length d4, .int .i64 x.fCommit, .int .i64 x.fRole, .slice A7 x.fVotes.length d7, .slice A8 x.fMatch.length d8] 30 from Box.alloc (Box.new rfl))
  have Xr := Lib.hid (show Box ((w.alloc (.cells #[.int .i64 x.fId, .int .i64 x.fPeers, .int .i64 x.fTerm, .int .i64 x.fVote, .slice A4 x.fLog.length d4, .int .i64 x.fCommit, .int .i64 x.fRole, .slice A7 x.fVotes.length d7, .slice A8 x.fMatch.length d8] 30)).alloc (.cells #[.int .i64 0, .int .i64 0, .int .i64 0, .int .i64 0, .slice none 0 0, .int .i64 0, .int .i64 0, .slice none 0 0, .slice none 0 0] 30)) (w.heap.size + 1) #[.int .i64 0, .int .i64 0, .int .i64 0, .int .i64 0, .slice none 0 0, .int .i64 0, .int .i64 0, .slice none 0 0, .slice none 0 0] 30 from Box.new (by simp))
  have hsz : w.heap.size + 2 ≤ ((w.alloc (.cells #[.int .i64 x.fId, .int .i64 x.fPeers, .int .i64 x.fTerm, .int .i64 x.fVote, .slice A4 x.fLog.length d4, .int .i64 x.fCommit, .int .i64 x.fRole, .slice A7 x.fVotes.length d7, .slice A8 x.fMatch.length d8] 30)).alloc (.cells #[.int .i64 0, .int .i64 0, .int .i64 0, .int .i64 0, .slice none 0 0, .int .i64 0, .int .i64 0, .slice none 0 0, .slice none 0 0] 30)).heap.size := by simp
  generalize (w.alloc (.cells #[.int .i64 x.fId, .int .i64 x.fPeers, .int .i64 x.fTerm, .int .i64 x.fVote, .slice A4 x.fLog.length d4, .int .i64 x.fCommit, .int .i64 x.fRole, .slice A7 x.fVotes.length d7, .slice A8 x.fMatch.length d8] 30)).alloc (.cells #[.int .i64 0, .int .i64 0, .int .i64 0, .int .i64 0, .slice none 0 0, .int .i64 0, .int .i64 0, .slice none 0 0, .slice none 0 0] 30) = w1 at *
  have cn_0 := Xn.out.cell 0 (v := .int .i64 x.fId) rfl; have cn_1 := Xn.out.cell 1 (v := .int .i64 x.fPeers) rfl; have cn_2 := Xn.out.cell 2 (v := .int .i64 x.fTerm) rfl; have cn_3 := Xn.out.cell 3 (v := .int .i64 x.fVote) rfl; have cn_4 := Xn.out.cell 4 (v := .slice A4 x.fLog.length d4) rfl; have cn_5 := Xn.out.cell 5 (v := .int .i64 x.fCommit) rfl; have cn_6 := Xn.out.cell 6 (v := .int .i64 x.fRole) rfl; have cn_7 := Xn.out.cell 7 (v := .slice A7 x.fVotes.length d7) rfl; have cn_8 := Xn.out.cell 8 (v := .slice A8 x.fMatch.length d8) rfl; have cr_0 := Xr.out.cell 0 (v := .int .i64 0) rfl; have cr_1 := Xr.out.cell 1 (v := .int .i64 0) rfl; have cr_2 := Xr.out.cell 2 (v := .int .i64 0) rfl; have cr_3 := Xr.out.cell 3 (v := .int .i64 0) rfl; have cr_4 := Xr.out.cell 4 (v := .slice none 0 0) rfl; have cr_5 := Xr.out.cell 5 (v := .int .i64 0) rfl; have cr_6 := Xr.out.cell 6 (v := .int .i64 0) rfl; have cr_7 := Xr.out.cell 7 (v := .slice none 0 0) rfl; have cr_8 := Xr.out.cell 8 (v := .slice none 0 0) rfl
  go_cut [26] from 8 to 26 (fun s1 wx => (Below w.heap.size w wx ∧ w.heap.size + 2 ≤ wx.heap.size ∧ Box wx w.heap.size #[.int .i64 x.fId, .int .i64 x.fPeers, .int .i64 x.fTerm, .int .i64 x.fVote, .slice A4 x.fLog.length d4, .int .i64 x.fCommit, .int .i64 x.fRole, .slice A7 x.fVotes.length d7, .slice A8 x.fMatch.length d8] 30 ∧ Box wx (w.heap.size + 1) #[.int .i64 0, .int .i64 0, .int .i64 0, .int .i64 0, .slice none 0 0, .int .i64 0, .int .i64 0, .slice none 0 0, .slice none 0 0] 30) ∧ s1 = .bool (!proOk x s))
  case first =>
    cases e1 : (x.fRole == 2)
    all_goals have e2 : (x.fRole != 2) = !(x.fRole == 2) := rfl
    all_goals rw [e1] at e2
    all_goals simp only [Bool.not_true, Bool.not_false] at e2
    all_goals cases e3 : ((x.fLog.length : Int) == 60)
    all_goals go_wp2_with (first | (go_at_call 16; (with_reducible refine (iGoodNode_calls x _ _ _ _ (Rp.S_below G4.out HC.out) (Rp.S_below G7.out HC.out) (Rp.S_below G8.out HC.out) hl).mono ?_); rintro e wq ⟨rfl, hb⟩; cases hg : nodeOk x <;> (have HC := Lib.hid (HC.out.trans (hb.mono (by first | exact HC.out.size | (have := HC.out.size; omega)))); have hsz := Nat.le_trans hsz hb.size; have Xn := Lib.hid (Xn.out.below hb); have Xr := Lib.hid (Xr.out.below hb); clear cn_0 cn_1 cn_2 cn_3 cn_4 cn_5 cn_6 cn_7 cn_8 cr_0 cr_1 cr_2 cr_3 cr_4 cr_5 cr_6 cr_7 cr_8; clear hb; have cn_0 := Xn.out.cell 0 (v := .int .i64 x.fId) rfl; have cn_1 := Xn.out.cell 1 (v := .int .i64 x.fPeers) rfl; have cn_2 := Xn.out.cell 2 (v := .int .i64 x.fTerm) rfl; have cn_3 := Xn.out.cell 3 (v := .int .i64 x.fVote) rfl; have cn_4 := Xn.out.cell 4 (v := .slice A4 x.fLog.length d4) rfl; have cn_5 := Xn.out.cell 5 (v := .int .i64 x.fCommit) rfl; have cn_6 := Xn.out.cell 6 (v := .int .i64 x.fRole) rfl; have cn_7 := Xn.out.cell 7 (v := .slice A7 x.fVotes.length d7) rfl; have cn_8 := Xn.out.cell 8 (v := .slice A8 x.fMatch.length d8) rfl; have cr_0 := Xr.out.cell 0 (v := .int .i64 0) rfl; have cr_1 := Xr.out.cell 1 (v := .int .i64 0) rfl; have cr_2 := Xr.out.cell 2 (v := .int .i64 0) rfl; have cr_3 := Xr.out.cell 3 (v := .int .i64 0) rfl; have cr_4 := Xr.out.cell 4 (v := .slice none 0 0) rfl; have cr_5 := Xr.out.cell 5 (v := .int .i64 0) rfl; have cr_6 := Xr.out.cell 6 (v := .int .i64 0) rfl; have cr_7 := Xr.out.cell 7 (v := .slice none 0 0) rfl; have cr_8 := Xr.out.cell 8 (v := .slice none 0 0) rfl)))
    all_goals (go_meet; go_light)
    all_goals refine ⟨⟨HC.out, hsz, Xn.out, Xr.out⟩, ?_⟩
    all_goals (congr 1; rw [proOk]; first | (simp [*]; done) | (simp [*]; by_cases hh : (s.size : Int) ≤ 100 <;> simp [hh] <;> omega))
  case rest =>
    obtain ⟨⟨hcc, hsz2, hxn, hxr⟩, rfl⟩ := hcut
    clear HC hsz Xn Xr cn_0 cn_1 cn_2 cn_3 cn_4 cn_5 cn_6 cn_7 cn_8 cr_0 cr_1 cr_2 cr_3 cr_4 cr_5 cr_6 cr_7 cr_8
    have hsz := hsz2; have HC := Lib.hid hcc; have Xn := Lib.hid hxn; have Xr := Lib.hid hxr
    clear hsz2 hcc hxn hxr
    have cn_0 := Xn.out.cell 0 (v := .int .i64 x.fId) rfl; have cn_1 := Xn.out.cell 1 (v := .int .i64 x.fPeers) rfl; have cn_2 := Xn.out.cell 2 (v := .int .i64 x.fTerm) rfl; have cn_3 := Xn.out.cell 3 (v := .int .i64 x.fVote) rfl; have cn_4 := Xn.out.cell 4 (v := .slice A4 x.fLog.length d4) rfl; have cn_5 := Xn.out.cell 5 (v := .int .i64 x.fCommit) rfl; have cn_6 := Xn.out.cell 6 (v := .int .i64 x.fRole) rfl; have cn_7 := Xn.out.cell 7 (v := .slice A7 x.fVotes.length d7) rfl; have cn_8 := Xn.out.cell 8 (v := .slice A8 x.fMatch.length d8) rfl; have cr_0 := Xr.out.cell 0 (v := .int .i64 0) rfl; have cr_1 := Xr.out.cell 1 (v := .int .i64 0) rfl; have cr_2 := Xr.out.cell 2 (v := .int .i64 0) rfl; have cr_3 := Xr.out.cell 3 (v := .int .i64 0) rfl; have cr_4 := Xr.out.cell 4 (v := .slice none 0 0) rfl; have cr_5 := Xr.out.cell 5 (v := .int .i64 0) rfl; have cr_6 := Xr.out.cell 6 (v := .int .i64 0) rfl; have cr_7 := Xr.out.cell 7 (v := .slice none 0 0) rfl; have cr_8 := Xr.out.cell 8 (v := .slice none 0 0) rfl
    cases ho : proOk x s <;> simp only [Bool.not_true, Bool.not_false]
    case false =>
      have fr_ := Xr.out.fro
      go_wp2
      obtain ⟨hk, bf⟩ := Xr.out.stored [.int .i64 0, .int .i64 0, .int .i64 0, .int .i64 0, .slice none 0 0, .int .i64 0, .int .i64 0, .slice none 0 0, .slice none 0 0] 0
      rw [setA_all (by rfl)] at bf
      change bodyPost _ _ _ _ _ (Rp.setN wc (w.heap.size + 1) 0 [.int .i64 0, .int .i64 0, .int .i64 0, .int .i64 0, .slice none 0 0, .int .i64 0, .int .i64 0, .slice none 0 0, .slice none 0 0])
      clear fr_ cn_0 cn_1 cn_2 cn_3 cn_4 cn_5 cn_6 cn_7 cn_8 cr_0 cr_1 cr_2 cr_3 cr_4 cr_5 cr_6 cr_7 cr_8
      have HK := Lib.hid hk; clear hk
      generalize Rp.setN wc (w.heap.size + 1) 0 [.int .i64 0, .int .i64 0, .int .i64 0, .int .i64 0, .slice none 0 0, .int .i64 0, .int .i64 0, .slice none 0 0, .slice none 0 0] = wf at *
      have df0 := bf.cell 0 (v := .int .i64 0) rfl; have df1 := bf.cell 1 (v := .int .i64 0) rfl; have df2 := bf.cell 2 (v := .int .i64 0) rfl; have df3 := bf.cell 3 (v := .int .i64 0) rfl; have df4 := bf.cell 4 (v := .slice none 0 0) rfl; have df5 := bf.cell 5 (v := .int .i64 0) rfl; have df6 := bf.cell 6 (v := .int .i64 0) rfl; have df7 := bf.cell 7 (v := .slice none 0 0) rfl; have df8 := bf.cell 8 (v := .slice none 0 0) rfl
      refine bodyPost_ret (v := .tuple #[.agg #[.int .i64 0, .int .i64 0, .int .i64 0, .int .i64 0, .slice none 0 0, .int .i64 0, .int .i64 0, .slice none 0 0, .slice none 0 0], .int .i64 0, .bool false]) (by simp [results, Try.results35, go_sem, df0, df1, df2, df3, df4, df5, df6, df7, df8]) rfl ⟨_, (by first | rw [proI, ho]; rfl | rfl), by rw [proV, ho]; exact Made.node0 (HC.out.trans (HK.out.toBelow HC.out.size (by simp)))⟩
    case true =>
      have ho2 := ho
      simp only [proOk, Bool.and_eq_true, Bool.not_eq_true', decide_eq_true_eq] at ho2
      obtain ⟨⟨⟨hg, hr⟩, hl60⟩, hs⟩ := ho2
      have hne60 : ¬ (x.fLog.length : Int) = 60 := by simpa using hl60
      obtain ⟨f1, f2, f3, f4, f5, f6, f7, f8, f9, _, _⟩ := nodeOk_facts hg
      have hml : (x.fMatch.length : Int) = x.fPeers := by
        simp only [nodeOk, Bool.and_eq_true] at hg
        have h2 := hg.2
        rw [matchN, if_pos hr] at h2
        simp only [Bool.and_eq_true, decide_eq_true_eq] at h2
        exact h2.1.1
      have hov : proV x s = proN x s := by rw [proV, ho]; rfl
      have hoi : proI x s = ((x.fLog.length + 1 : Nat) : Int) := by rw [proI, ho]; rfl
      obtain ⟨ik, hik⟩ : ∃ k : Nat, x.fId = k := ⟨x.fId.toNat, by omega⟩
      have hil : ik < x.fMatch.length := by omega
      have HIK := Lib.hid hik
      have HOB := Lib.hid ho
      clear ho hg hl60 hik
      go_wp2_with fail
      (with_reducible refine (iClone_calls x _ _ _ _ (Rp.S_below G4.out HC.out) (Rp.S_below G7.out HC.out) (Rp.S_below G8.out HC.out) hl).mono ?_)
      rintro e w3 ⟨cs, F, rfl, hm, hF, hnd, hb⟩
      obtain ⟨v4, v7, v8, F4, F7, F8, rfl, rfl, r4, r7, r8⟩ := kRaftNode_open hm
      obtain ⟨P4, C4, rfl, _, _⟩ := Rp.Row_K r4
      obtain ⟨P7, C7, rfl, _, _⟩ := Rp.Row_K r7
      obtain ⟨P8, C8, rfl, _, _⟩ := Rp.Row_K r8
      have T4 := Lib.hid (fun b h => Nat.le_trans hsz (hF b (by simp [h])) : ∀ b ∈ F4, w.heap.size + 2 ≤ b)
      have T7 := Lib.hid (fun b h => Nat.le_trans hsz (hF b (by simp [h])) : ∀ b ∈ F7, w.heap.size + 2 ≤ b)
      have T8 := Lib.hid (fun b h => Nat.le_trans hsz (hF b (by simp [h])) : ∀ b ∈ F8, w.heap.size + 2 ≤ b)
      have U4 := Lib.hid (Rp.Row_lt r4); have U7 := Lib.hid (Rp.Row_lt r7); have U8 := Lib.hid (Rp.Row_lt r8)
      have R4 := Lib.hid r4; have R7 := Lib.hid r7; have R8 := Lib.hid r8; have ND := Lib.hid hnd
      clear r4 r7 r8 hF hnd hm
      have HC := Lib.hid (HC.out.trans (hb.mono (by first | exact HC.out.size | (have := HC.out.size; omega)))); have hsz := Nat.le_trans hsz hb.size; have Xn := Lib.hid (Xn.out.below hb); have Xr := Lib.hid (Xr.out.below hb); clear cn_0 cn_1 cn_2 cn_3 cn_4 cn_5 cn_6 cn_7 cn_8 cr_0 cr_1 cr_2 cr_3 cr_4 cr_5 cr_6 cr_7 cr_8; clear hb; have cn_0 := Xn.out.cell 0 (v := .int .i64 x.fId) rfl; have cn_1 := Xn.out.cell 1 (v := .int .i64 x.fPeers) rfl; have cn_2 := Xn.out.cell 2 (v := .int .i64 x.fTerm) rfl; have cn_3 := Xn.out.cell 3 (v := .int .i64 x.fVote) rfl; have cn_4 := Xn.out.cell 4 (v := .slice A4 x.fLog.length d4) rfl; have cn_5 := Xn.out.cell 5 (v := .int .i64 x.fCommit) rfl; have cn_6 := Xn.out.cell 6 (v := .int .i64 x.fRole) rfl; have cn_7 := Xn.out.cell 7 (v := .slice A7 x.fVotes.length d7) rfl; have cn_8 := Xn.out.cell 8 (v := .slice A8 x.fMatch.length d8) rfl; have cr_0 := Xr.out.cell 0 (v := .int .i64 0) rfl; have cr_1 := Xr.out.cell 1 (v := .int .i64 0) rfl; have cr_2 := Xr.out.cell 2 (v := .int .i64 0) rfl; have cr_3 := Xr.out.cell 3 (v := .int .i64 0) rfl; have cr_4 := Xr.out.cell 4 (v := .slice none 0 0) rfl; have cr_5 := Xr.out.cell 5 (v := .int .i64 0) rfl; have cr_6 := Xr.out.cell 6 (v := .int .i64 0) rfl; have cr_7 := Xr.out.cell 7 (v := .slice none 0 0) rfl; have cr_8 := Xr.out.cell 8 (v := .slice none 0 0) rfl
      have Bza : Box (w3.alloc (.cells #[.int .i64 0, .int .i64 0, .int .i64 0, .int .i64 0, .slice none 0 0, .int .i64 0, .int .i64 0, .slice none 0 0, .slice none 0 0] 30)) w3.heap.size #[.int .i64 0, .int .i64 0, .int .i64 0, .int .i64 0, .slice none 0 0, .int .i64 0, .int .i64 0, .slice none 0 0, .slice none 0 0] 30 := Box.new rfl
      have za0 := Bza.cell 0 (v := .int .i64 0) rfl; have za1 := Bza.cell 1 (v := .int .i64 0) rfl; have za2 := Bza.cell 2 (v := .int .i64 0) rfl; have za3 := Bza.cell 3 (v := .int .i64 0) rfl; have za4 := Bza.cell 4 (v := .slice none 0 0) rfl; have za5 := Bza.cell 5 (v := .int .i64 0) rfl; have za6 := Bza.cell 6 (v := .int .i64 0) rfl; have za7 := Bza.cell 7 (v := .slice none 0 0) rfl; have za8 := Bza.cell 8 (v := .slice none 0 0) rfl
      have zaf := Bza.fro
      clear Bza
      go_upto_region 4 with fail
      clear za0 za1 za2 za3 za4 za5 za6 za7 za8 zaf
      have hs3 := hsz
      have R4 := Lib.hid (Rp.Row_below R4.out ((Below.refl w3.heap.size w3).alloc (Nat.le_refl _) (.cells #[.int .i64 x.fId, .int .i64 x.fPeers, .int .i64 x.fTerm, .int .i64 x.fVote, .slice P4 x.fLog.length C4, .int .i64 x.fCommit, .int .i64 x.fRole, .slice P7 x.fVotes.length C7, .slice P8 x.fMatch.length C8] 30))); have R7 := Lib.hid (Rp.Row_below R7.out ((Below.refl w3.heap.size w3).alloc (Nat.le_refl _) (.cells #[.int .i64 x.fId, .int .i64 x.fPeers, .int .i64 x.fTerm, .int .i64 x.fVote, .slice P4 x.fLog.length C4, .int .i64 x.fCommit, .int .i64 x.fRole, .slice P7 x.fVotes.length C7, .slice P8 x.fMatch.length C8] 30))); have R8 := Lib.hid (Rp.Row_below R8.out ((Below.refl w3.heap.size w3).alloc (Nat.le_refl _) (.cells #[.int .i64 x.fId, .int .i64 x.fPeers, .int .i64 x.fTerm, .int .i64 x.fVote, .slice P4 x.fLog.length C4, .int .i64 x.fCommit, .int .i64 x.fRole, .slice P7 x.fVotes.length C7, .slice P8 x.fMatch.length C8] 30)))
      have hb := (Below.refl w3.heap.size w3).alloc (Nat.le_refl _) (.cells #[.int .i64 x.fId, .int .i64 x.fPeers, .int .i64 x.fTerm, .int .i64 x.fVote, .slice P4 x.fLog.length C4, .int .i64 x.fCommit, .int .i64 x.fRole, .slice P7 x.fVotes.length C7, .slice P8 x.fMatch.length C8] 30)
      have hsc : w3.heap.size + 1 ≤ (w3.alloc (.cells #[.int .i64 x.fId, .int .i64 x.fPeers, .int .i64 x.fTerm, .int .i64 x.fVote, .slice P4 x.fLog.length C4, .int .i64 x.fCommit, .int .i64 x.fRole, .slice P7 x.fVotes.length C7, .slice P8 x.fMatch.length C8] 30)).heap.size := by simp
      have Xc := Lib.hid (show Box (w3.alloc (.cells #[.int .i64 x.fId, .int .i64 x.fPeers, .int .i64 x.fTerm, .int .i64 x.fVote, .slice P4 x.fLog.length C4, .int .i64 x.fCommit, .int .i64 x.fRole, .slice P7 x.fVotes.length C7, .slice P8 x.fMatch.length C8] 30)) w3.heap.size #[.int .i64 x.fId, .int .i64 x.fPeers, .int .i64 x.fTerm, .int .i64 x.fVote, .slice P4 x.fLog.length C4, .int .i64 x.fCommit, .int .i64 x.fRole, .slice P7 x.fVotes.length C7, .slice P8 x.fMatch.length C8] 30 from Box.new rfl)
      generalize w3.alloc (.cells #[.int .i64 x.fId, .int .i64 x.fPeers, .int .i64 x.fTerm, .int .i64 x.fVote, .slice P4 x.fLog.length C4, .int .i64 x.fCommit, .int .i64 x.fRole, .slice P7 x.fVotes.length C7, .slice P8 x.fMatch.length C8] 30) = w4 at *
      have HC := Lib.hid (HC.out.trans (hb.mono (by first | exact HC.out.size | (have := HC.out.size; omega)))); have hsz := Nat.le_trans hsz hb.size; have Xn := Lib.hid (Xn.out.below hb); have Xr := Lib.hid (Xr.out.below hb); clear cn_0 cn_1 cn_2 cn_3 cn_4 cn_5 cn_6 cn_7 cn_8 cr_0 cr_1 cr_2 cr_3 cr_4 cr_5 cr_6 cr_7 cr_8; clear hb; have cn_0 := Xn.out.cell 0 (v := .int .i64 x.fId) rfl; have cn_1 := Xn.out.cell 1 (v := .int .i64 x.fPeers) rfl; have cn_2 := Xn.out.cell 2 (v := .int .i64 x.fTerm) rfl; have cn_3 := Xn.out.cell 3 (v := .int .i64 x.fVote) rfl; have cn_4 := Xn.out.cell 4 (v := .slice A4 x.fLog.length d4) rfl; have cn_5 := Xn.out.cell 5 (v := .int .i64 x.fCommit) rfl; have cn_6 := Xn.out.cell 6 (v := .int .i64 x.fRole) rfl; have cn_7 := Xn.out.cell 7 (v := .slice A7 x.fVotes.length d7) rfl; have cn_8 := Xn.out.cell 8 (v := .slice A8 x.fMatch.length d8) rfl; have cr_0 := Xr.out.cell 0 (v := .int .i64 0) rfl; have cr_1 := Xr.out.cell 1 (v := .int .i64 0) rfl; have cr_2 := Xr.out.cell 2 (v := .int .i64 0) rfl; have cr_3 := Xr.out.cell 3 (v := .int .i64 0) rfl; have cr_4 := Xr.out.cell 4 (v := .slice none 0 0) rfl; have cr_5 := Xr.out.cell 5 (v := .int .i64 0) rfl; have cr_6 := Xr.out.cell 6 (v := .int .i64 0) rfl; have cr_7 := Xr.out.cell 7 (v := .slice none 0 0) rfl; have cr_8 := Xr.out.cell 8 (v := .slice none 0 0) rfl
      have cc_0 := Xc.out.cell 0 (v := .int .i64 x.fId) rfl; have cc_1 := Xc.out.cell 1 (v := .int .i64 x.fPeers) rfl; have cc_2 := Xc.out.cell 2 (v := .int .i64 x.fTerm) rfl; have cc_3 := Xc.out.cell 3 (v := .int .i64 x.fVote) rfl; have cc_4 := Xc.out.cell 4 (v := .slice P4 x.fLog.length C4) rfl; have cc_5 := Xc.out.cell 5 (v := .int .i64 x.fCommit) rfl; have cc_6 := Xc.out.cell 6 (v := .int .i64 x.fRole) rfl; have cc_7 := Xc.out.cell 7 (v := .slice P7 x.fVotes.length C7) rfl; have cc_8 := Xc.out.cell 8 (v := .slice P8 x.fMatch.length C8) rfl
      have N4 := Lib.hid (show w3.heap.size ∉ F4 from fun h => by have := U4.out _ h; omega); have N7 := Lib.hid (show w3.heap.size ∉ F7 from fun h => by have := U7.out _ h; omega); have N8 := Lib.hid (show w3.heap.size ∉ F8 from fun h => by have := U8.out _ h; omega)
      have hbl : w3.heap.size < w4.heap.size := by omega
      have ND2 := List.nodup_append.1 ND.out
      have ND3 := List.nodup_append.1 ND2.2.1
      have D74 := Lib.hid (fun b h hm => ND2.2.2 b hm b (by simp [h]) rfl : ∀ b ∈ F7, b ∉ F4)
      have D84 := Lib.hid (fun b h hm => ND2.2.2 b hm b (by simp [h]) rfl : ∀ b ∈ F8, b ∉ F4)
      have D87 := Lib.hid (fun b h hm => ND3.2.2 b hm b h rfl : ∀ b ∈ F8, b ∉ F7)
      have M7 := Lib.hid ND3.1; have M8 := Lib.hid ND3.2.1
      clear ND2 ND3
      have L7 := Lib.hid (Rp.Row_lt R7.out); have L8 := Lib.hid (Rp.Row_lt R8.out)
      obtain ⟨ka, kb⟩ := acell w4
      have s0 : w.heap.size < w4.heap.size := by omega
      have s1 : w.heap.size + 1 < w4.heap.size := by omega
      go_upto_region 5 with (at_builtin; go_loud (refine wp_append (d := kEntry) rfl _ _ 28 73 rfl Try.underlying28 infoEntry rfl (by decide) rfl (by decide) kEntry_flat (xs := x.fLog) (ys := [⟨x.fTerm, s⟩]) rfl rfl (Rp.Row_below R4.out ((Below.refl _ _).alloc (Nat.le_refl _) _)) (Rp.S_one (Box.new (by simp)) (kEntry.M_K (kEntry_mk _ ⟨x.fTerm, s⟩))) (by simp; omega) ?_; intro va wa r1 r2 r3 _; have hk := ((KeptF.refl F4 w4).alloc _).trans r2; have R4x := Lib.hid r1; have T4x := Lib.hid (fun b h => (r3 b h).elim (fun h => T4.out b h) (fun h => by simp at h; omega) : ∀ b ∈ Rp.ofOwn va, w.heap.size + 2 ≤ b); have N4x := Lib.hid (fun h => (r3 _ h).elim (fun h => N4.out h) (fun h => by simp at h; omega) : w3.heap.size ∉ Rp.ofOwn va); have D74x := Lib.hid (fun b h hm => (r3 b hm).elim (fun h2 => D74.out b h h2) (fun h2 => by have := L7.out b h; simp at h2; omega) : ∀ b ∈ F7, b ∉ Rp.ofOwn va); have D84x := Lib.hid (fun b h hm => (r3 b hm).elim (fun h2 => D84.out b h h2) (fun h2 => by have := L8.out b h; simp at h2; omega) : ∀ b ∈ F8, b ∉ Rp.ofOwn va); have R7 := Lib.hid (Rp.Row_kept R7.out hk D74.out); have R8 := Lib.hid (Rp.Row_kept R8.out hk D84.out); have Xn := Lib.hid (Xn.out.kept hk (fun h => by have := T4.out _ h; omega)); have Xr := Lib.hid (Xr.out.kept hk (fun h => by have := T4.out _ h; omega)); have Xc := Lib.hid (Xc.out.kept hk N4.out); have HC := Lib.hid (HC.out.trans (hk.toBelow HC.out.size (fun b h => by have := T4.out b h; omega))); have hsz := Nat.le_trans hsz hk.size; have hbl := Nat.lt_of_lt_of_le hbl hk.size; clear hk r1 r2 r3 R4 T4 N4 D74 D84 L7 L8 cn_0 cn_1 cn_2 cn_3 cn_4 cn_5 cn_6 cn_7 cn_8 cr_0 cr_1 cr_2 cr_3 cr_4 cr_5 cr_6 cr_7 cr_8 cc_0 cc_1 cc_2 cc_3 cc_4 cc_5 cc_6 cc_7 cc_8; have cn_0 := Xn.out.cell 0 (v := .int .i64 x.fId) rfl; have cn_1 := Xn.out.cell 1 (v := .int .i64 x.fPeers) rfl; have cn_2 := Xn.out.cell 2 (v := .int .i64 x.fTerm) rfl; have cn_3 := Xn.out.cell 3 (v := .int .i64 x.fVote) rfl; have cn_4 := Xn.out.cell 4 (v := .slice A4 x.fLog.length d4) rfl; have cn_5 := Xn.out.cell 5 (v := .int .i64 x.fCommit) rfl; have cn_6 := Xn.out.cell 6 (v := .int .i64 x.fRole) rfl; have cn_7 := Xn.out.cell 7 (v := .slice A7 x.fVotes.length d7) rfl; have cn_8 := Xn.out.cell 8 (v := .slice A8 x.fMatch.length d8) rfl; have cr_0 := Xr.out.cell 0 (v := .int .i64 0) rfl; have cr_1 := Xr.out.cell 1 (v := .int .i64 0) rfl; have cr_2 := Xr.out.cell 2 (v := .int .i64 0) rfl; have cr_3 := Xr.out.cell 3 (v := .int .i64 0) rfl; have cr_4 := Xr.out.cell 4 (v := .slice none 0 0) rfl; have cr_5 := Xr.out.cell 5 (v := .int .i64 0) rfl; have cr_6 := Xr.out.cell 6 (v := .int .i64 0) rfl; have cr_7 := Xr.out.cell 7 (v := .slice none 0 0) rfl; have cr_8 := Xr.out.cell 8 (v := .slice none 0 0) rfl; have cc_0 := Xc.out.cell 0 (v := .int .i64 x.fId) rfl; have cc_1 := Xc.out.cell 1 (v := .int .i64 x.fPeers) rfl; have cc_2 := Xc.out.cell 2 (v := .int .i64 x.fTerm) rfl; have cc_3 := Xc.out.cell 3 (v := .int .i64 x.fVote) rfl; have cc_4 := Xc.out.cell 4 (v := .slice P4 x.fLog.length C4) rfl; have cc_5 := Xc.out.cell 5 (v := .int .i64 x.fCommit) rfl; have cc_6 := Xc.out.cell 6 (v := .int .i64 x.fRole) rfl; have cc_7 := Xc.out.cell 7 (v := .slice P7 x.fVotes.length C7) rfl; have cc_8 := Xc.out.cell 8 (v := .slice P8 x.fMatch.length C8) rfl; have fb := Xc.out.fro; obtain ⟨P9, C9, e9, _, _⟩ := Rp.Row_K R4x.out; subst e9; rw [List.length_append, List.length_singleton] at R4x T4x N4x D74x D84x ⊢))
      clear fb ka kb s0 s1
      have hk := kept_set wa (w3.heap.size) 4 (.slice P9 (x.fLog.length + 1) C9)
      have R4x := Lib.hid (Row_ne R4x.out hk (fun h => by exact N4x.out h))
      have R7 := Lib.hid (Row_ne R7.out hk (fun h => by exact N7.out h))
      have R8 := Lib.hid (Row_ne R8.out hk (fun h => by exact N8.out h))
      have Xn := Lib.hid (Xn.out.set_other (a := ⟨w3.heap.size, 4, none⟩) (.slice P9 (x.fLog.length + 1) C9) (by first | (simp; done) | (simp; omega)))
      have Xr := Lib.hid (Xr.out.set_other (a := ⟨w3.heap.size, 4, none⟩) (.slice P9 (x.fLog.length + 1) C9) (by first | (simp; done) | (simp; omega)))
      have Xc := Lib.hid (show Box (wa.setCell ⟨w3.heap.size, 4, none⟩ (.slice P9 (x.fLog.length + 1) C9)) (w3.heap.size) #[.int .i64 x.fId, .int .i64 x.fPeers, .int .i64 x.fTerm, .int .i64 x.fVote, .slice P9 (x.fLog.length + 1) C9, .int .i64 x.fCommit, .int .i64 x.fRole, .slice P7 x.fVotes.length C7, .slice P8 x.fMatch.length C8] 30 from Xc.out.set 4 (.slice P9 (x.fLog.length + 1) C9))
      have HC := Lib.hid (HC.out.setCell (p := ⟨w3.heap.size, 4, none⟩) (by first | (simp; done) | (simp; omega)) (.slice P9 (x.fLog.length + 1) C9))
      replace hsz := Nat.le_trans hsz hk.size
      replace hbl := Nat.lt_of_lt_of_le hbl hk.size
      clear hk cn_0 cn_1 cn_2 cn_3 cn_4 cn_5 cn_6 cn_7 cn_8 cr_0 cr_1 cr_2 cr_3 cr_4 cr_5 cr_6 cr_7 cr_8 cc_0 cc_1 cc_2 cc_3 cc_4 cc_5 cc_6 cc_7 cc_8
      generalize wa.setCell ⟨w3.heap.size, 4, none⟩ (.slice P9 (x.fLog.length + 1) C9) = wb at *
      have cn_0 := Xn.out.cell 0 (v := .int .i64 x.fId) rfl; have cn_1 := Xn.out.cell 1 (v := .int .i64 x.fPeers) rfl; have cn_2 := Xn.out.cell 2 (v := .int .i64 x.fTerm) rfl; have cn_3 := Xn.out.cell 3 (v := .int .i64 x.fVote) rfl; have cn_4 := Xn.out.cell 4 (v := .slice A4 x.fLog.length d4) rfl; have cn_5 := Xn.out.cell 5 (v := .int .i64 x.fCommit) rfl; have cn_6 := Xn.out.cell 6 (v := .int .i64 x.fRole) rfl; have cn_7 := Xn.out.cell 7 (v := .slice A7 x.fVotes.length d7) rfl; have cn_8 := Xn.out.cell 8 (v := .slice A8 x.fMatch.length d8) rfl; have cr_0 := Xr.out.cell 0 (v := .int .i64 0) rfl; have cr_1 := Xr.out.cell 1 (v := .int .i64 0) rfl; have cr_2 := Xr.out.cell 2 (v := .int .i64 0) rfl; have cr_3 := Xr.out.cell 3 (v := .int .i64 0) rfl; have cr_4 := Xr.out.cell 4 (v := .slice none 0 0) rfl; have cr_5 := Xr.out.cell 5 (v := .int .i64 0) rfl; have cr_6 := Xr.out.cell 6 (v := .int .i64 0) rfl; have cr_7 := Xr.out.cell 7 (v := .slice none 0 0) rfl; have cr_8 := Xr.out.cell 8 (v := .slice none 0 0) rfl; have cc_0 := Xc.out.cell 0 (v := .int .i64 x.fId) rfl; have cc_1 := Xc.out.cell 1 (v := .int .i64 x.fPeers) rfl; have cc_2 := Xc.out.cell 2 (v := .int .i64 x.fTerm) rfl; have cc_3 := Xc.out.cell 3 (v := .int .i64 x.fVote) rfl; have cc_4 := Xc.out.cell 4 (v := .slice P9 (x.fLog.length + 1) C9) rfl; have cc_5 := Xc.out.cell 5 (v := .int .i64 x.fCommit) rfl; have cc_6 := Xc.out.cell 6 (v := .int .i64 x.fRole) rfl; have cc_7 := Xc.out.cell 7 (v := .slice P7 x.fVotes.length C7) rfl; have cc_8 := Xc.out.cell 8 (v := .slice P8 x.fMatch.length C8) rfl
      obtain ⟨g8, cap8, c8, F8', e8, gm8, gl8, m8, _, _, q3, q4⟩ := Rp.Row_open R8.out M8.out ik hil
      simp only [Value.slice.injEq] at e8
      obtain ⟨rfl, _, rfl⟩ := e8
      obtain ⟨rfl, rfl⟩ := m8
      have z0 : wb.cell? ⟨g8, ik, none⟩ = some (.int .i64 x.fMatch[ik]) := by have := q3 0 _ rfl; simpa [Rp.int, Rp.scalar] using this
      have y0 : wb.frozen? ⟨g8, ik, none⟩ = false := q4 _
      have r8 := Rp.Row_store R8.out M8.out ik hil 0 (by decide) (.int .i64 ((x.fLog.length : Int) + 1)) ((x.fLog.length : Int) + 1) (fun c F1 hM => by obtain ⟨rfl, rfl⟩ := hM; exact ⟨rfl, rfl⟩)
      have es8 : (⟨g8, ik * (kInt).sz + 0, none⟩ : Addr) = ⟨g8, ik, none⟩ := by simp [Rp.int, Rp.scalar]
      rw [es8] at r8
      have R8x := Lib.hid r8
      have GM := Lib.hid gm8
      have hg8 := T8.out g8 gm8
      have hg8n : g8 ≠ w3.heap.size := fun h => N8.out (h ▸ gm8)
      generalize x.fMatch[ik] = zm at *
      clear q3 q4 r8 es8 gm8 R8
      have c0_ := Xc.out.cell 0 (v := .int .i64 ik) (by rw [← HIK.out]; rfl)
      clear cc_0
      have i1 : (0 : Int) ≤ (ik : Int) := by omega
      have i2 : (ik : Int) < (x.fMatch.length : Int) := by omega
      go_upto_region 6 with fail
      have hk := kept_set wb g8 ik (.int .i64 ((x.fLog.length : Int) + 1))
      have R4x := Lib.hid (Row_ne R4x.out hk (fun h => D84x.out _ GM.out h))
      have R7 := Lib.hid (Row_ne R7.out hk (fun h => D87.out _ GM.out h))
      have Xn := Lib.hid (Box_ne Xn.out hk (by omega))
      have Xr := Lib.hid (Box_ne Xr.out hk (by omega))
      have Xc := Lib.hid (Box_ne Xc.out hk (by omega))
      have HC := Lib.hid (HC.out.trans (hk.toBelow HC.out.size (fun b h => by have h2 : b = g8 := (by simpa using h); omega)))
      replace hsz := Nat.le_trans hsz hk.size; replace hbl := Nat.lt_of_lt_of_le hbl hk.size
      clear hk z0 y0 c0_ cn_0 cn_1 cn_2 cn_3 cn_4 cn_5 cn_6 cn_7 cn_8 cr_0 cr_1 cr_2 cr_3 cr_4 cr_5 cr_6 cr_7 cr_8 cc_1 cc_2 cc_3 cc_4 cc_5 cc_6 cc_7 cc_8
      generalize wb.setCell ⟨g8, ik, none⟩ (.int .i64 ((x.fLog.length : Int) + 1)) = wd at *
      have cn_0 := Xn.out.cell 0 (v := .int .i64 x.fId) rfl; have cn_1 := Xn.out.cell 1 (v := .int .i64 x.fPeers) rfl; have cn_2 := Xn.out.cell 2 (v := .int .i64 x.fTerm) rfl; have cn_3 := Xn.out.cell 3 (v := .int .i64 x.fVote) rfl; have cn_4 := Xn.out.cell 4 (v := .slice A4 x.fLog.length d4) rfl; have cn_5 := Xn.out.cell 5 (v := .int .i64 x.fCommit) rfl; have cn_6 := Xn.out.cell 6 (v := .int .i64 x.fRole) rfl; have cn_7 := Xn.out.cell 7 (v := .slice A7 x.fVotes.length d7) rfl; have cn_8 := Xn.out.cell 8 (v := .slice A8 x.fMatch.length d8) rfl; have cr_0 := Xr.out.cell 0 (v := .int .i64 0) rfl; have cr_1 := Xr.out.cell 1 (v := .int .i64 0) rfl; have cr_2 := Xr.out.cell 2 (v := .int .i64 0) rfl; have cr_3 := Xr.out.cell 3 (v := .int .i64 0) rfl; have cr_4 := Xr.out.cell 4 (v := .slice none 0 0) rfl; have cr_5 := Xr.out.cell 5 (v := .int .i64 0) rfl; have cr_6 := Xr.out.cell 6 (v := .int .i64 0) rfl; have cr_7 := Xr.out.cell 7 (v := .slice none 0 0) rfl; have cr_8 := Xr.out.cell 8 (v := .slice none 0 0) rfl; have cc_0 := Xc.out.cell 0 (v := .int .i64 x.fId) rfl; have cc_1 := Xc.out.cell 1 (v := .int .i64 x.fPeers) rfl; have cc_2 := Xc.out.cell 2 (v := .int .i64 x.fTerm) rfl; have cc_3 := Xc.out.cell 3 (v := .int .i64 x.fVote) rfl; have cc_4 := Xc.out.cell 4 (v := .slice P9 (x.fLog.length + 1) C9) rfl; have cc_5 := Xc.out.cell 5 (v := .int .i64 x.fCommit) rfl; have cc_6 := Xc.out.cell 6 (v := .int .i64 x.fRole) rfl; have cc_7 := Xc.out.cell 7 (v := .slice P7 x.fVotes.length C7) rfl; have cc_8 := Xc.out.cell 8 (v := .slice (some ⟨g8, 0, none⟩) x.fMatch.length C8) rfl
      have hyl : (addN x s).fLog.length = x.fLog.length + 1 := by simp [addN]
      have hym : (addN x s).fMatch.length = x.fMatch.length := by simp [addN]
      have hid : x.fId.toNat = ik := by have := HIK.out; omega
      have hyM : (addN x s).fMatch = x.fMatch.set ik ((x.fLog.length : Int) + 1) := by simp only [addN, hid]; rfl
      have S4 := Lib.hid (show kEntry.S wd (addN x s).fLog (.slice P9 (addN x s).fLog.length C9) by rw [hyl]; exact Rp.Row_S R4x.out)
      have hr' : ((addN x s).fRole == 2) = true := hr
      have f7' : 0 ≤ (addN x s).fCommit := f7
      have f8' : (addN x s).fCommit ≤ (addN x s).fLog.length := by rw [hyl]; show x.fCommit ≤ _; omega
      have l4' : (addN x s).fLog.length ≤ 1048576 := by rw [hyl]; omega
      have l8' : (addN x s).fMatch.length ≤ 1048576 := by rw [hym]; omega
      have S8 := Lib.hid (show kInt.S wd (addN x s).fMatch (.slice (some ⟨g8, 0, none⟩) (addN x s).fMatch.length C8) by rw [hym, hyM]; exact Rp.Row_S R8x.out)
      have XY := Lib.hid (show Box wd w3.heap.size #[.int .i64 x.fId, .int .i64 x.fPeers, .int .i64 x.fTerm, .int .i64 x.fVote, .slice P9 (addN x s).fLog.length C9, .int .i64 x.fCommit, .int .i64 x.fRole, .slice P7 x.fVotes.length C7, .slice (some ⟨g8, 0, none⟩) (addN x s).fMatch.length C8] 30 by rw [hyl, hym]; exact Xc.out)
      go_wp2_with fail
      (with_reducible refine (iCommit_calls (addN x s) w3.heap.size P9 P7 (some ⟨g8, 0, none⟩) C9 x.fVotes.length C7 C8 _ XY.out S4.out S8.out (Row_ne_block R4x.out N4x.out) (fun a h => by cases h; exact hg8n) hr' l4' l8' f7' f8').mono ?_)
      rintro e we ⟨rfl, hk, hbx⟩
      rw [hyl, hym] at hbx
      clear S4 S8 XY
      have R4x := Lib.hid (Row_ne R4x.out hk (fun h => by exact N4x.out h))
      have R7 := Lib.hid (Row_ne R7.out hk (fun h => by exact N7.out h))
      have R8x := Lib.hid (Row_ne R8x.out hk (fun h => by exact N8.out h))
      have Xn := Lib.hid (Box_ne Xn.out hk (by omega))
      have Xr := Lib.hid (Box_ne Xr.out hk (by omega))
      have Xc := Lib.hid hbx
      have HC := Lib.hid (HC.out.trans (hk.toBelow HC.out.size (fun b h => by have h2 : b = w3.heap.size := (by simpa using h); omega)))
      replace hsz := Nat.le_trans hsz hk.size
      replace hbl := Nat.lt_of_lt_of_le hbl hk.size
      clear hk hbx cn_0 cn_1 cn_2 cn_3 cn_4 cn_5 cn_6 cn_7 cn_8 cr_0 cr_1 cr_2 cr_3 cr_4 cr_5 cr_6 cr_7 cr_8 cc_0 cc_1 cc_2 cc_3 cc_4 cc_5 cc_6 cc_7 cc_8
      have cn_0 := Xn.out.cell 0 (v := .int .i64 x.fId) rfl; have cn_1 := Xn.out.cell 1 (v := .int .i64 x.fPeers) rfl; have cn_2 := Xn.out.cell 2 (v := .int .i64 x.fTerm) rfl; have cn_3 := Xn.out.cell 3 (v := .int .i64 x.fVote) rfl; have cn_4 := Xn.out.cell 4 (v := .slice A4 x.fLog.length d4) rfl; have cn_5 := Xn.out.cell 5 (v := .int .i64 x.fCommit) rfl; have cn_6 := Xn.out.cell 6 (v := .int .i64 x.fRole) rfl; have cn_7 := Xn.out.cell 7 (v := .slice A7 x.fVotes.length d7) rfl; have cn_8 := Xn.out.cell 8 (v := .slice A8 x.fMatch.length d8) rfl; have cr_0 := Xr.out.cell 0 (v := .int .i64 0) rfl; have cr_1 := Xr.out.cell 1 (v := .int .i64 0) rfl; have cr_2 := Xr.out.cell 2 (v := .int .i64 0) rfl; have cr_3 := Xr.out.cell 3 (v := .int .i64 0) rfl; have cr_4 := Xr.out.cell 4 (v := .slice none 0 0) rfl; have cr_5 := Xr.out.cell 5 (v := .int .i64 0) rfl; have cr_6 := Xr.out.cell 6 (v := .int .i64 0) rfl; have cr_7 := Xr.out.cell 7 (v := .slice none 0 0) rfl; have cr_8 := Xr.out.cell 8 (v := .slice none 0 0) rfl; have cc_0 := Xc.out.cell 0 (v := .int .i64 x.fId) rfl; have cc_1 := Xc.out.cell 1 (v := .int .i64 x.fPeers) rfl; have cc_2 := Xc.out.cell 2 (v := .int .i64 x.fTerm) rfl; have cc_3 := Xc.out.cell 3 (v := .int .i64 x.fVote) rfl; have cc_4 := Xc.out.cell 4 (v := .slice P9 (x.fLog.length + 1) C9) rfl; have cc_5 := Xc.out.cell 5 (v := .int .i64 (comFrom (addN x s) (x.fLog.length + 1))) rfl; have cc_6 := Xc.out.cell 6 (v := .int .i64 x.fRole) rfl; have cc_7 := Xc.out.cell 7 (v := .slice P7 x.fVotes.length C7) rfl; have cc_8 := Xc.out.cell 8 (v := .slice (some ⟨g8, 0, none⟩) x.fMatch.length C8) rfl
      go_upto_region 7 with fail
      refine wp_region_tab (G := Unit) (fun g => [(5, 5, .int .i64 ((x.fLog.length : Int) + 1)), (0, 6, .bool true), (41, 0, .agg #[.int .i64 x.fId, .int .i64 x.fPeers, .int .i64 x.fTerm, .int .i64 x.fVote, .slice P9 (x.fLog.length + 1) C9, .int .i64 (comFrom (addN x s) (x.fLog.length + 1)), .int .i64 x.fRole, .slice P7 x.fVotes.length C7, .slice (some ⟨g8, 0, none⟩) x.fMatch.length C8]), (0, 1, .pointer (some ⟨w3.heap.size, 4, none⟩)), (0, 2, .slice P9 (x.fLog.length + 1) C9), (0, 3, .int .i64 ((x.fLog.length : Int) + 1))])
          (fun L g W => (Below w.heap.size w W) ∧
            (w.heap.size + 2 ≤ W.heap.size) ∧
            (Box W w3.heap.size #[.int .i64 x.fId, .int .i64 x.fPeers, .int .i64 x.fTerm, .int .i64 x.fVote, .slice P9 (x.fLog.length + 1) C9, .int .i64 (comFrom (addN x s) (x.fLog.length + 1)), .int .i64 x.fRole, .slice P7 x.fVotes.length C7, .slice (some ⟨g8, 0, none⟩) x.fMatch.length C8] 30) ∧
            (L 4 = false → Box W (w.heap.size + 1) #[.int .i64 0, .int .i64 0, .int .i64 0, .int .i64 0, .slice none 0 0, .int .i64 0, .int .i64 0, .slice none 0 0, .slice none 0 0] 30) ∧
            (L 4 = true → Box W (w.heap.size + 1) #[.int .i64 x.fId, .int .i64 x.fPeers, .int .i64 x.fTerm, .int .i64 x.fVote, .slice P9 (x.fLog.length + 1) C9, .int .i64 (comFrom (addN x s) (x.fLog.length + 1)), .int .i64 x.fRole, .slice P7 x.fVotes.length C7, .slice (some ⟨g8, 0, none⟩) x.fMatch.length C8] 30) ∧
            (kEntry.Row 73 W (Rp.ofOwn (.slice P9 (x.fLog.length + 1) C9)) (x.fLog ++ [⟨x.fTerm, s⟩]) (.slice P9 (x.fLog.length + 1) C9)) ∧
            (kInt.Row 3 W F7 x.fVotes (.slice P7 x.fVotes.length C7)) ∧
            (kInt.Row 3 W F8 (x.fMatch.set ik ((x.fLog.length : Int) + 1)) (.slice (some ⟨g8, 0, none⟩) x.fMatch.length C8)))
          (()) (by kernel_rfl) (by kernel_rfl) (fun _ => rfl) ?_ ?_ ?_
      · exact ⟨HC.out.drew, hsz, Xc.out.drew, fun _ => Xr.out.drew, nofun, Rp.Row_below R4x.out (Below.refl _ _).drew, Rp.Row_below R7.out (Below.refl _ _).drew, Rp.Row_below R8x.out (Below.refl _ _).drew⟩
      · simp (config := { maxSteps := 4000000 }) only [StepsT, layT, Nat.reduceAdd, Nat.reduceBEq, cond_true, cond_false]
        refine ⟨?_, ?_, ?_, ?_, ?_, ?_, ?_, trivial⟩
        · rintro L g0 W hL hd ⟨q0, q1, q2, q3, q4, q5, q6, q7⟩
          try dsimp only at q0 q1 q2 q3 q4 q5 q6 q7
          try simp only [depsT, Region.binds, forall_const, and_true, beq_iff_eq, reduceCtorEq, false_implies, true_and] at hd
          intro K hK; refine do_wanted rfl ?_
          have HK := Lib.hid hK; clear hK
          try simp only [hd, cond_true]
          have cc0 := q2.cell 0 (v := .int .i64 x.fId) rfl; have cc1 := q2.cell 1 (v := .int .i64 x.fPeers) rfl; have cc2 := q2.cell 2 (v := .int .i64 x.fTerm) rfl; have cc3 := q2.cell 3 (v := .int .i64 x.fVote) rfl; have cc4 := q2.cell 4 (v := .slice P9 (x.fLog.length + 1) C9) rfl; have cc5 := q2.cell 5 (v := .int .i64 (comFrom (addN x s) (x.fLog.length + 1))) rfl; have cc6 := q2.cell 6 (v := .int .i64 x.fRole) rfl; have cc7 := q2.cell 7 (v := .slice P7 x.fVotes.length C7) rfl; have cc8 := q2.cell 8 (v := .slice (some ⟨g8, 0, none⟩) x.fMatch.length C8) rfl
          have Q0 := Lib.hid q0; have Q1 := Lib.hid q1; have Q2 := Lib.hid q2; have Q3 := Lib.hid q3; have Q4 := Lib.hid q4; have Q5 := Lib.hid q5; have Q6 := Lib.hid q6; have Q7 := Lib.hid q7
          clear q0 q1 q2 q3 q4 q5 q6 q7
          go_wp2
          exact HK.out _ _ ⟨(), by simp only [upd, Nat.reduceBEq, cond_true, cond_false, hd], ⟨Q0.out, Q1.out, Q2.out, Q3.out, Q4.out, Q5.out, Q6.out, Q7.out⟩⟩
        · rintro L g0 W hL hd ⟨q0, q1, q2, q3, q4, q5, q6, q7⟩
          try dsimp only at q0 q1 q2 q3 q4 q5 q6 q7
          try simp only [depsT, Region.binds, forall_const, and_true, beq_iff_eq, reduceCtorEq, false_implies, true_and] at hd
          intro K hK; refine do_wanted rfl ?_
          have HK := Lib.hid hK; clear hK
          try simp only [hd, cond_true]
          have Q0 := Lib.hid q0; have Q1 := Lib.hid q1; have Q2 := Lib.hid q2; have Q3 := Lib.hid q3; have Q4 := Lib.hid q4; have Q5 := Lib.hid q5; have Q6 := Lib.hid q6; have Q7 := Lib.hid q7
          clear q0 q1 q2 q3 q4 q5 q6 q7
          go_wp2
          exact HK.out _ _ ⟨(), by simp only [upd, Nat.reduceBEq, cond_true, cond_false, hd], ⟨Q0.out, Q1.out, Q2.out, Q3.out, Q4.out, Q5.out, Q6.out, Q7.out⟩⟩
        · rintro L g0 W hL hd ⟨q0, q1, q2, q3, q4, q5, q6, q7⟩
          try dsimp only at q0 q1 q2 q3 q4 q5 q6 q7
          try simp only [depsT, Region.binds, forall_const, and_true, beq_iff_eq, reduceCtorEq, false_implies, true_and] at hd
          intro K hK; refine do_wanted rfl ?_
          have HK := Lib.hid hK; clear hK
          try simp only [hd, cond_true]
          have cc := q2.cell 4 (v := .slice P9 (x.fLog.length + 1) C9) rfl
          have Q0 := Lib.hid q0; have Q1 := Lib.hid q1; have Q2 := Lib.hid q2; have Q3 := Lib.hid q3; have Q4 := Lib.hid q4; have Q5 := Lib.hid q5; have Q6 := Lib.hid q6; have Q7 := Lib.hid q7
          clear q0 q1 q2 q3 q4 q5 q6 q7
          go_wp2
          exact HK.out _ _ ⟨(), by simp only [upd, Nat.reduceBEq, cond_true, cond_false, hd], ⟨Q0.out, Q1.out, Q2.out, Q3.out, Q4.out, Q5.out, Q6.out, Q7.out⟩⟩
        · rintro L g0 W hL hd ⟨q0, q1, q2, q3, q4, q5, q6, q7⟩
          try dsimp only at q0 q1 q2 q3 q4 q5 q6 q7
          try simp only [depsT, Region.binds, forall_const, and_true, beq_iff_eq, reduceCtorEq, false_implies, true_and] at hd
          intro K hK; refine do_wanted rfl ?_
          have HK := Lib.hid hK; clear hK
          try simp only [hd, cond_true]
          have Q0 := Lib.hid q0; have Q1 := Lib.hid q1; have Q2 := Lib.hid q2; have Q3 := Lib.hid q3; have Q4 := Lib.hid q4; have Q5 := Lib.hid q5; have Q6 := Lib.hid q6; have Q7 := Lib.hid q7
          clear q0 q1 q2 q3 q4 q5 q6 q7
          go_wp2
          exact HK.out _ _ ⟨(), by simp only [upd, Nat.reduceBEq, cond_true, cond_false, hd], ⟨Q0.out, Q1.out, Q2.out, Q3.out, Q4.out, Q5.out, Q6.out, Q7.out⟩⟩
        · rintro L g0 W hL hd ⟨q0, q1, q2, q3, q4, q5, q6, q7⟩
          try dsimp only at q0 q1 q2 q3 q4 q5 q6 q7
          try simp only [depsT, Region.binds, forall_const, and_true, beq_iff_eq, reduceCtorEq, false_implies, true_and] at hd
          intro K hK; refine do_wanted rfl ?_
          have HK := Lib.hid hK; clear hK
          try simp only [hd, cond_true]
          have hz := q3 hL
          have cz0 := hz.cell 0 (v := .int .i64 0) rfl; have cz1 := hz.cell 1 (v := .int .i64 0) rfl; have cz2 := hz.cell 2 (v := .int .i64 0) rfl; have cz3 := hz.cell 3 (v := .int .i64 0) rfl; have cz4 := hz.cell 4 (v := .slice none 0 0) rfl; have cz5 := hz.cell 5 (v := .int .i64 0) rfl; have cz6 := hz.cell 6 (v := .int .i64 0) rfl; have cz7 := hz.cell 7 (v := .slice none 0 0) rfl; have cz8 := hz.cell 8 (v := .slice none 0 0) rfl
          have fz := hz.fro
          have HZ := Lib.hid hz; clear hz
          have Q0 := Lib.hid q0; have Q1 := Lib.hid q1; have Q2 := Lib.hid q2; have Q3 := Lib.hid q3; have Q4 := Lib.hid q4; have Q5 := Lib.hid q5; have Q6 := Lib.hid q6; have Q7 := Lib.hid q7
          clear q0 q1 q2 q3 q4 q5 q6 q7
          go_wp2
          change K _ (Rp.setN W (w.heap.size + 1) 0 [.int .i64 x.fId, .int .i64 x.fPeers, .int .i64 x.fTerm, .int .i64 x.fVote, .slice P9 (x.fLog.length + 1) C9, .int .i64 (comFrom (addN x s) (x.fLog.length + 1)), .int .i64 x.fRole, .slice P7 x.fVotes.length C7, .slice (some ⟨g8, 0, none⟩) x.fMatch.length C8])
          obtain ⟨hk, hbx⟩ := HZ.out.stored [.int .i64 x.fId, .int .i64 x.fPeers, .int .i64 x.fTerm, .int .i64 x.fVote, .slice P9 (x.fLog.length + 1) C9, .int .i64 (comFrom (addN x s) (x.fLog.length + 1)), .int .i64 x.fRole, .slice P7 x.fVotes.length C7, .slice (some ⟨g8, 0, none⟩) x.fMatch.length C8] 0
          rw [setA_all (by rfl)] at hbx
          have hq1 := Q1.out
          exact HK.out _ _ ⟨(), by simp only [upd, Nat.reduceBEq, cond_true, cond_false, hd], ⟨Q0.out.trans (hk.toBelow Q0.out.size (by simp)), Nat.le_trans Q1.out hk.size, Box_ne Q2.out hk (by omega), fun h => absurd (show true = false from h) (by simp), fun _ => hbx, Row_ne Q5.out hk (fun h => by have := T4x.out _ h; omega), Row_ne Q6.out hk (fun h => by have := T7.out _ h; omega), Row_ne Q7.out hk (fun h => by have := T8.out _ h; omega)⟩⟩
        · rintro L g0 W hL hd ⟨q0, q1, q2, q3, q4, q5, q6, q7⟩
          try dsimp only at q0 q1 q2 q3 q4 q5 q6 q7
          try simp only [depsT, Region.binds, forall_const, and_true, beq_iff_eq, reduceCtorEq, false_implies, true_and] at hd
          intro K hK; refine do_wanted rfl ?_
          have HK := Lib.hid hK; clear hK
          try simp only [hd, cond_true]
          have Q0 := Lib.hid q0; have Q1 := Lib.hid q1; have Q2 := Lib.hid q2; have Q3 := Lib.hid q3; have Q4 := Lib.hid q4; have Q5 := Lib.hid q5; have Q6 := Lib.hid q6; have Q7 := Lib.hid q7
          clear q0 q1 q2 q3 q4 q5 q6 q7
          go_wp2
          exact HK.out _ _ ⟨(), by simp only [upd, Nat.reduceBEq, cond_true, cond_false, hd], ⟨Q0.out, Q1.out, Q2.out, Q3.out, Q4.out, Q5.out, Q6.out, Q7.out⟩⟩
        · rintro L g0 W hL hd ⟨q0, q1, q2, q3, q4, q5, q6, q7⟩
          try dsimp only at q0 q1 q2 q3 q4 q5 q6 q7
          try simp only [depsT, Region.binds, forall_const, and_true, beq_iff_eq, reduceCtorEq, false_implies, true_and] at hd
          intro K hK; refine do_wanted rfl ?_
          have HK := Lib.hid hK; clear hK
          try simp only [hd, cond_true]
          have Q0 := Lib.hid q0; have Q1 := Lib.hid q1; have Q2 := Lib.hid q2; have Q3 := Lib.hid q3; have Q4 := Lib.hid q4; have Q5 := Lib.hid q5; have Q6 := Lib.hid q6; have Q7 := Lib.hid q7
          clear q0 q1 q2 q3 q4 q5 q6 q7
          go_wp2
          exact HK.out _ _ ⟨(), by simp only [upd, Nat.reduceBEq, cond_true, cond_false, hd], ⟨Q0.out, Q1.out, Q2.out, Q3.out, Q4.out, Q5.out, Q6.out, Q7.out⟩⟩
      · simp (config := { maxSteps := 4000000 }) only [layT, Nat.reduceAdd, Nat.reduceBEq, cond_true, cond_false]
        rintro L g0 W hd ⟨q0, q1, q2, q3, q4, q5, q6, q7⟩
        simp only [doneT, true_and, List.length_cons, List.length_nil, Nat.reduceAdd] at hd
        obtain ⟨⟨⟨⟨⟨⟨e0, e1⟩, e2⟩, e3⟩, e4⟩, e5⟩, e6⟩ := hd
        try dsimp only at q0 q1 q2 q3 q4 q5 q6 q7
        simp only [e0, e1, e2, e3, e4, e5, e6, cond_true]
        have hb4 := q4 e4
        have dz0 := hb4.cell 0 (v := .int .i64 x.fId) rfl; have dz1 := hb4.cell 1 (v := .int .i64 x.fPeers) rfl; have dz2 := hb4.cell 2 (v := .int .i64 x.fTerm) rfl; have dz3 := hb4.cell 3 (v := .int .i64 x.fVote) rfl; have dz4 := hb4.cell 4 (v := .slice P9 (x.fLog.length + 1) C9) rfl; have dz5 := hb4.cell 5 (v := .int .i64 (comFrom (addN x s) (x.fLog.length + 1))) rfl; have dz6 := hb4.cell 6 (v := .int .i64 x.fRole) rfl; have dz7 := hb4.cell 7 (v := .slice P7 x.fVotes.length C7) rfl; have dz8 := hb4.cell 8 (v := .slice (some ⟨g8, 0, none⟩) x.fMatch.length C8) rfl
        have HQ := Lib.hid (And.intro q0 (And.intro q5 (And.intro q6 q7)))
        clear q0 q1 q2 q3 q4 q5 q6 q7 hb4 HC hsz Xn Xr Xc cn_0 cn_1 cn_2 cn_3 cn_4 cn_5 cn_6 cn_7 cn_8 cr_0 cr_1 cr_2 cr_3 cr_4 cr_5 cr_6 cr_7 cr_8 cc_0 cc_1 cc_2 cc_3 cc_4 cc_5 cc_6 cc_7 cc_8
        go_wp2
        refine bodyPost_ret (v := .tuple #[.agg #[.int .i64 x.fId, .int .i64 x.fPeers, .int .i64 x.fTerm, .int .i64 x.fVote, .slice P9 (x.fLog.length + 1) C9, .int .i64 (comFrom (addN x s) (x.fLog.length + 1)), .int .i64 x.fRole, .slice P7 x.fVotes.length C7, .slice (some ⟨g8, 0, none⟩) x.fMatch.length C8], .int .i64 ((x.fLog.length : Int) + 1), .bool true]) (by simp [results, Try.results35, go_sem, dz0, dz1, dz2, dz3, dz4, dz5, dz6, dz7, dz8]) rfl ⟨_, (by rw [hoi, HOB.out]; rfl), ?_⟩
        rw [hov]
        exact Made.node (x := proN x s) (N := w.heap.size + 2) (by omega) HQ.out.2.1 HQ.out.2.2.1 (by rw [show (proN x s).fMatch = x.fMatch.set ik ((x.fLog.length : Int) + 1) from hyM]; exact HQ.out.2.2.2) T4x.out T7.out T8.out (nodup3 (ofOwn_nodup _) M7.out M8.out D74x.out D84x.out D87.out) HQ.out.1
set_option maxHeartbeats 8000000 in
set_option maxRecDepth 100000 in
theorem sPro_calls (x : DRaftNode) (s : ByteArray) (v4 v7 v8 : Value) (w : World) (g4 : kEntry.S w x.fLog v4) (g7 : kInt.S w x.fVotes v7) (g8 : kInt.S w x.fMatch v8) (hl : smRaftNode 1048576 x) : Calls Try.prog 34 #[.agg #[.int .i64 x.fId, .int .i64 x.fPeers, .int .i64 x.fTerm, .int .i64 x.fVote, v4, .int .i64 x.fCommit, .int .i64 x.fRole, v7, v8], .string s] w
    fun e w' => ∃ v, e = .returned (.tuple #[v, .int .i64 (proI x s), .bool (proOk x s)]) ∧ Made kRaftNode (proV x s) w w' v := by
  have G4 := Lib.hid g4; have G7 := Lib.hid g7; have G8 := Lib.hid g8
  obtain ⟨A4, d4, rfl, _, _⟩ := g4
  obtain ⟨A7, d7, rfl, _, _⟩ := g7
  obtain ⟨A8, d8, rfl, _, _⟩ := g8
  go_enter Try.func34, Try.ntmps34
  go_upto_region 1 with fail
  have HC := Lib.hid (show Below w.heap.size w ((w.alloc (.cells #[.int .i64 x.fId, .int .i64 x.fPeers, .int .i64 x.fTerm, .int .i64 x.fVote, .slice A4 x.fLog.length d4, .int .i64 x.fCommit, .int .i64 x.fRole, .slice A7 x.fVotes.length d7, .slice A8 x.fMatch.length d8] 30)).alloc (.cells #[.int .i64 0, .int .i64 0, .int .i64 0, .int .i64 0, .slice none 0 0, .int .i64 0, .int .i64 0, .slice none 0 0, .slice none 0 0] 30)) from Below.alloc (Below.alloc (Below.refl w.heap.size w) (by first | exact Nat.le_refl _ | (simp; done) | (simp; omega)) (.cells #[.int .i64 x.fId, .int .i64 x.fPeers, .int .i64 x.fTerm, .int .i64 x.fVote, .slice A4 x.fLog.length d4, .int .i64 x.fCommit, .int .i64 x.fRole, .slice A7 x.fVotes.length d7, .slice A8 x.fMatch.length d8] 30)) (by first | exact Nat.le_refl _ | (simp; done) | (simp; omega)) (.cells #[.int .i64 0, .int .i64 0, .int .i64 0, .int .i64 0, .slice none 0 0, .int .i64 0, .int .i64 0, .slice none 0 0, .slice none 0 0] 30))
  have Xn := Lib.hid (show Box ((w.alloc (.cells #[.int .i64 x.fId, .int .i64 x.fPeers, .int .i64 x.fTerm, .int .i64 x.fVote, .slice A4 x.fLog.length d4, .int .i64 x.fCommit, .int .i64 x.fRole, .slice A7 x.fVotes.length d7, .slice A8 x.fMatch.length d8] 30)).alloc (.cells #[.int .i64 0, .int .i64 0, .int .i64 0, .int .i64 0, .slice none 0 0, .int .i64 0, .int .i64 0, .slice none 0 0, .slice none 0 0] 30)) (w.heap.size) #[.int .i64 x.fId, .int .i64 x.fPeers, .int .i64 x.fTerm, .int .i64 x.fVote, .slice A4 x.fLog.length d4, .int .i64 x.fCommit, .int .i64 x.fRole, .slice A7 x.fVotes.length d7, .slice A8 x.fMatch.length d8] 30 from Box.alloc (Box.new rfl))
  have Xr := Lib.hid (show Box ((w.alloc (.cells #[.int .i64 x.fId, .int .i64 x.fPeers, .int .i64 x.fTerm, .int .i64 x.fVote, .slice A4 x.fLog.length d4, .int .i64 x.fCommit, .int .i64 x.fRole, .slice A7 x.fVotes.length d7, .slice A8 x.fMatch.length d8] 30)).alloc (.cells #[.int .i64 0, .int .i64 0, .int .i64 0, .int .i64 0, .slice none 0 0, .int .i64 0, .int .i64 0, .slice none 0 0, .slice none 0 0] 30)) (w.heap.size + 1) #[.int .i64 0, .int .i64 0, .int .i64 0, .int .i64 0, .slice none 0 0, .int .i64 0, .int .i64 0, .slice none 0 0, .slice none 0 0] 30 from Box.new (by simp))
  have hsz : w.heap.size + 2 ≤ ((w.alloc (.cells #[.int .i64 x.fId, .int .i64 x.fPeers, .int .i64 x.fTerm, .int .i64 x.fVote, .slice A4 x.fLog.length d4, .int .i64 x.fCommit, .int .i64 x.fRole, .slice A7 x.fVotes.length d7, .slice A8 x.fMatch.length d8] 30)).alloc (.cells #[.int .i64 0, .int .i64 0, .int .i64 0, .int .i64 0, .slice none 0 0, .int .i64 0, .int .i64 0, .slice none 0 0, .slice none 0 0] 30)).heap.size := by simp
  generalize (w.alloc (.cells #[.int .i64 x.fId, .int .i64 x.fPeers, .int .i64 x.fTerm, .int .i64 x.fVote, .slice A4 x.fLog.length d4, .int .i64 x.fCommit, .int .i64 x.fRole, .slice A7 x.fVotes.length d7, .slice A8 x.fMatch.length d8] 30)).alloc (.cells #[.int .i64 0, .int .i64 0, .int .i64 0, .int .i64 0, .slice none 0 0, .int .i64 0, .int .i64 0, .slice none 0 0, .slice none 0 0] 30) = w1 at *
  have cn_0 := Xn.out.cell 0 (v := .int .i64 x.fId) rfl; have cn_1 := Xn.out.cell 1 (v := .int .i64 x.fPeers) rfl; have cn_2 := Xn.out.cell 2 (v := .int .i64 x.fTerm) rfl; have cn_3 := Xn.out.cell 3 (v := .int .i64 x.fVote) rfl; have cn_4 := Xn.out.cell 4 (v := .slice A4 x.fLog.length d4) rfl; have cn_5 := Xn.out.cell 5 (v := .int .i64 x.fCommit) rfl; have cn_6 := Xn.out.cell 6 (v := .int .i64 x.fRole) rfl; have cn_7 := Xn.out.cell 7 (v := .slice A7 x.fVotes.length d7) rfl; have cn_8 := Xn.out.cell 8 (v := .slice A8 x.fMatch.length d8) rfl; have cr_0 := Xr.out.cell 0 (v := .int .i64 0) rfl; have cr_1 := Xr.out.cell 1 (v := .int .i64 0) rfl; have cr_2 := Xr.out.cell 2 (v := .int .i64 0) rfl; have cr_3 := Xr.out.cell 3 (v := .int .i64 0) rfl; have cr_4 := Xr.out.cell 4 (v := .slice none 0 0) rfl; have cr_5 := Xr.out.cell 5 (v := .int .i64 0) rfl; have cr_6 := Xr.out.cell 6 (v := .int .i64 0) rfl; have cr_7 := Xr.out.cell 7 (v := .slice none 0 0) rfl; have cr_8 := Xr.out.cell 8 (v := .slice none 0 0) rfl
  go_cut [25] from 7 to 25 (fun s1 wx => (Below w.heap.size w wx ∧ w.heap.size + 2 ≤ wx.heap.size ∧ Box wx w.heap.size #[.int .i64 x.fId, .int .i64 x.fPeers, .int .i64 x.fTerm, .int .i64 x.fVote, .slice A4 x.fLog.length d4, .int .i64 x.fCommit, .int .i64 x.fRole, .slice A7 x.fVotes.length d7, .slice A8 x.fMatch.length d8] 30 ∧ Box wx (w.heap.size + 1) #[.int .i64 0, .int .i64 0, .int .i64 0, .int .i64 0, .slice none 0 0, .int .i64 0, .int .i64 0, .slice none 0 0, .slice none 0 0] 30) ∧ s1 = .bool (!proOk x s))
  case first =>
    cases e1 : (x.fRole == 2)
    all_goals have e2 : (x.fRole != 2) = !(x.fRole == 2) := rfl
    all_goals rw [e1] at e2
    all_goals simp only [Bool.not_true, Bool.not_false] at e2
    all_goals cases e3 : ((x.fLog.length : Int) == 60)
    all_goals go_wp2_with (first | (go_at_call 14; (with_reducible refine (sGoodNode_calls x _ _ _ _ (Rp.S_below G4.out HC.out) (Rp.S_below G7.out HC.out) (Rp.S_below G8.out HC.out) hl).mono ?_); rintro e wq ⟨rfl, hb⟩; cases hg : nodeOk x <;> (have HC := Lib.hid (HC.out.trans (hb.mono (by first | exact HC.out.size | (have := HC.out.size; omega)))); have hsz := Nat.le_trans hsz hb.size; have Xn := Lib.hid (Xn.out.below hb); have Xr := Lib.hid (Xr.out.below hb); clear cn_0 cn_1 cn_2 cn_3 cn_4 cn_5 cn_6 cn_7 cn_8 cr_0 cr_1 cr_2 cr_3 cr_4 cr_5 cr_6 cr_7 cr_8; clear hb; have cn_0 := Xn.out.cell 0 (v := .int .i64 x.fId) rfl; have cn_1 := Xn.out.cell 1 (v := .int .i64 x.fPeers) rfl; have cn_2 := Xn.out.cell 2 (v := .int .i64 x.fTerm) rfl; have cn_3 := Xn.out.cell 3 (v := .int .i64 x.fVote) rfl; have cn_4 := Xn.out.cell 4 (v := .slice A4 x.fLog.length d4) rfl; have cn_5 := Xn.out.cell 5 (v := .int .i64 x.fCommit) rfl; have cn_6 := Xn.out.cell 6 (v := .int .i64 x.fRole) rfl; have cn_7 := Xn.out.cell 7 (v := .slice A7 x.fVotes.length d7) rfl; have cn_8 := Xn.out.cell 8 (v := .slice A8 x.fMatch.length d8) rfl; have cr_0 := Xr.out.cell 0 (v := .int .i64 0) rfl; have cr_1 := Xr.out.cell 1 (v := .int .i64 0) rfl; have cr_2 := Xr.out.cell 2 (v := .int .i64 0) rfl; have cr_3 := Xr.out.cell 3 (v := .int .i64 0) rfl; have cr_4 := Xr.out.cell 4 (v := .slice none 0 0) rfl; have cr_5 := Xr.out.cell 5 (v := .int .i64 0) rfl; have cr_6 := Xr.out.cell 6 (v := .int .i64 0) rfl; have cr_7 := Xr.out.cell 7 (v := .slice none 0 0) rfl; have cr_8 := Xr.out.cell 8 (v := .slice none 0 0) rfl)))
    all_goals (go_meet; go_light)
    all_goals refine ⟨⟨HC.out, hsz, Xn.out, Xr.out⟩, ?_⟩
    all_goals (congr 1; rw [proOk]; first | (simp [*]; done) | (simp [*]; by_cases hh : (s.size : Int) ≤ 100 <;> simp [hh] <;> omega))
  case rest =>
    obtain ⟨⟨hcc, hsz2, hxn, hxr⟩, rfl⟩ := hcut
    clear HC hsz Xn Xr cn_0 cn_1 cn_2 cn_3 cn_4 cn_5 cn_6 cn_7 cn_8 cr_0 cr_1 cr_2 cr_3 cr_4 cr_5 cr_6 cr_7 cr_8
    have hsz := hsz2; have HC := Lib.hid hcc; have Xn := Lib.hid hxn; have Xr := Lib.hid hxr
    clear hsz2 hcc hxn hxr
    have cn_0 := Xn.out.cell 0 (v := .int .i64 x.fId) rfl; have cn_1 := Xn.out.cell 1 (v := .int .i64 x.fPeers) rfl; have cn_2 := Xn.out.cell 2 (v := .int .i64 x.fTerm) rfl; have cn_3 := Xn.out.cell 3 (v := .int .i64 x.fVote) rfl; have cn_4 := Xn.out.cell 4 (v := .slice A4 x.fLog.length d4) rfl; have cn_5 := Xn.out.cell 5 (v := .int .i64 x.fCommit) rfl; have cn_6 := Xn.out.cell 6 (v := .int .i64 x.fRole) rfl; have cn_7 := Xn.out.cell 7 (v := .slice A7 x.fVotes.length d7) rfl; have cn_8 := Xn.out.cell 8 (v := .slice A8 x.fMatch.length d8) rfl; have cr_0 := Xr.out.cell 0 (v := .int .i64 0) rfl; have cr_1 := Xr.out.cell 1 (v := .int .i64 0) rfl; have cr_2 := Xr.out.cell 2 (v := .int .i64 0) rfl; have cr_3 := Xr.out.cell 3 (v := .int .i64 0) rfl; have cr_4 := Xr.out.cell 4 (v := .slice none 0 0) rfl; have cr_5 := Xr.out.cell 5 (v := .int .i64 0) rfl; have cr_6 := Xr.out.cell 6 (v := .int .i64 0) rfl; have cr_7 := Xr.out.cell 7 (v := .slice none 0 0) rfl; have cr_8 := Xr.out.cell 8 (v := .slice none 0 0) rfl
    cases ho : proOk x s <;> simp only [Bool.not_true, Bool.not_false]
    case false =>
      have fr_ := Xr.out.fro
      go_wp2
      obtain ⟨hk, bf⟩ := Xr.out.stored [.int .i64 0, .int .i64 0, .int .i64 0, .int .i64 0, .slice none 0 0, .int .i64 0, .int .i64 0, .slice none 0 0, .slice none 0 0] 0
      rw [setA_all (by rfl)] at bf
      change bodyPost _ _ _ _ _ (Rp.setN wc (w.heap.size + 1) 0 [.int .i64 0, .int .i64 0, .int .i64 0, .int .i64 0, .slice none 0 0, .int .i64 0, .int .i64 0, .slice none 0 0, .slice none 0 0])
      clear fr_ cn_0 cn_1 cn_2 cn_3 cn_4 cn_5 cn_6 cn_7 cn_8 cr_0 cr_1 cr_2 cr_3 cr_4 cr_5 cr_6 cr_7 cr_8
      have HK := Lib.hid hk; clear hk
      generalize Rp.setN wc (w.heap.size + 1) 0 [.int .i64 0, .int .i64 0, .int .i64 0, .int .i64 0, .slice none 0 0, .int .i64 0, .int .i64 0, .slice none 0 0, .slice none 0 0] = wf at *
      have df0 := bf.cell 0 (v := .int .i64 0) rfl; have df1 := bf.cell 1 (v := .int .i64 0) rfl; have df2 := bf.cell 2 (v := .int .i64 0) rfl; have df3 := bf.cell 3 (v := .int .i64 0) rfl; have df4 := bf.cell 4 (v := .slice none 0 0) rfl; have df5 := bf.cell 5 (v := .int .i64 0) rfl; have df6 := bf.cell 6 (v := .int .i64 0) rfl; have df7 := bf.cell 7 (v := .slice none 0 0) rfl; have df8 := bf.cell 8 (v := .slice none 0 0) rfl
      refine bodyPost_ret (v := .tuple #[.agg #[.int .i64 0, .int .i64 0, .int .i64 0, .int .i64 0, .slice none 0 0, .int .i64 0, .int .i64 0, .slice none 0 0, .slice none 0 0], .int .i64 0, .bool false]) (by simp [results, Try.results34, go_sem, df0, df1, df2, df3, df4, df5, df6, df7, df8]) rfl ⟨_, (by first | rw [proI, ho]; rfl | rfl), by rw [proV, ho]; exact Made.node0 (HC.out.trans (HK.out.toBelow HC.out.size (by simp)))⟩
    case true =>
      have ho2 := ho
      simp only [proOk, Bool.and_eq_true, Bool.not_eq_true', decide_eq_true_eq] at ho2
      obtain ⟨⟨⟨hg, hr⟩, hl60⟩, hs⟩ := ho2
      have hne60 : ¬ (x.fLog.length : Int) = 60 := by simpa using hl60
      obtain ⟨f1, f2, f3, f4, f5, f6, f7, f8, f9, _, _⟩ := nodeOk_facts hg
      have hml : (x.fMatch.length : Int) = x.fPeers := by
        simp only [nodeOk, Bool.and_eq_true] at hg
        have h2 := hg.2
        rw [matchN, if_pos hr] at h2
        simp only [Bool.and_eq_true, decide_eq_true_eq] at h2
        exact h2.1.1
      have hov : proV x s = proN x s := by rw [proV, ho]; rfl
      have hoi : proI x s = ((x.fLog.length + 1 : Nat) : Int) := by rw [proI, ho]; rfl
      obtain ⟨ik, hik⟩ : ∃ k : Nat, x.fId = k := ⟨x.fId.toNat, by omega⟩
      have hil : ik < x.fMatch.length := by omega
      have HIK := Lib.hid hik
      have HOB := Lib.hid ho
      clear ho hg hl60 hik
      go_wp2_with fail
      (with_reducible refine (sOwn_calls x _ _ _ _ (Rp.S_below G4.out HC.out) (Rp.S_below G7.out HC.out) (Rp.S_below G8.out HC.out) hl).mono ?_)
      rintro e w3 ⟨v, rfl, cs, F, e1, hm, hF, hnd, hb⟩
      subst e1
      obtain ⟨v4, v7, v8, F4, F7, F8, rfl, rfl, r4, r7, r8⟩ := kRaftNode_open hm
      obtain ⟨P4, C4, rfl, _, _⟩ := Rp.Row_K r4
      obtain ⟨P7, C7, rfl, _, _⟩ := Rp.Row_K r7
      obtain ⟨P8, C8, rfl, _, _⟩ := Rp.Row_K r8
      have T4 := Lib.hid (fun b h => Nat.le_trans hsz (hF b (by simp [h])) : ∀ b ∈ F4, w.heap.size + 2 ≤ b)
      have T7 := Lib.hid (fun b h => Nat.le_trans hsz (hF b (by simp [h])) : ∀ b ∈ F7, w.heap.size + 2 ≤ b)
      have T8 := Lib.hid (fun b h => Nat.le_trans hsz (hF b (by simp [h])) : ∀ b ∈ F8, w.heap.size + 2 ≤ b)
      have U4 := Lib.hid (Rp.Row_lt r4); have U7 := Lib.hid (Rp.Row_lt r7); have U8 := Lib.hid (Rp.Row_lt r8)
      have R4 := Lib.hid r4; have R7 := Lib.hid r7; have R8 := Lib.hid r8; have ND := Lib.hid hnd
      clear r4 r7 r8 hF hnd hm
      have HC := Lib.hid (HC.out.trans (hb.mono (by first | exact HC.out.size | (have := HC.out.size; omega)))); have hsz := Nat.le_trans hsz hb.size; have Xn := Lib.hid (Xn.out.below hb); have Xr := Lib.hid (Xr.out.below hb); clear cn_0 cn_1 cn_2 cn_3 cn_4 cn_5 cn_6 cn_7 cn_8 cr_0 cr_1 cr_2 cr_3 cr_4 cr_5 cr_6 cr_7 cr_8; clear hb; have cn_0 := Xn.out.cell 0 (v := .int .i64 x.fId) rfl; have cn_1 := Xn.out.cell 1 (v := .int .i64 x.fPeers) rfl; have cn_2 := Xn.out.cell 2 (v := .int .i64 x.fTerm) rfl; have cn_3 := Xn.out.cell 3 (v := .int .i64 x.fVote) rfl; have cn_4 := Xn.out.cell 4 (v := .slice A4 x.fLog.length d4) rfl; have cn_5 := Xn.out.cell 5 (v := .int .i64 x.fCommit) rfl; have cn_6 := Xn.out.cell 6 (v := .int .i64 x.fRole) rfl; have cn_7 := Xn.out.cell 7 (v := .slice A7 x.fVotes.length d7) rfl; have cn_8 := Xn.out.cell 8 (v := .slice A8 x.fMatch.length d8) rfl; have cr_0 := Xr.out.cell 0 (v := .int .i64 0) rfl; have cr_1 := Xr.out.cell 1 (v := .int .i64 0) rfl; have cr_2 := Xr.out.cell 2 (v := .int .i64 0) rfl; have cr_3 := Xr.out.cell 3 (v := .int .i64 0) rfl; have cr_4 := Xr.out.cell 4 (v := .slice none 0 0) rfl; have cr_5 := Xr.out.cell 5 (v := .int .i64 0) rfl; have cr_6 := Xr.out.cell 6 (v := .int .i64 0) rfl; have cr_7 := Xr.out.cell 7 (v := .slice none 0 0) rfl; have cr_8 := Xr.out.cell 8 (v := .slice none 0 0) rfl
      have fn_ := Xn.out.fro
      go_upto_region 4 with fail
      clear fn_
      change Code.wp _ _ _ _ (Rp.setN w3 (w.heap.size) 0 [.int .i64 x.fId, .int .i64 x.fPeers, .int .i64 x.fTerm, .int .i64 x.fVote, .slice P4 x.fLog.length C4, .int .i64 x.fCommit, .int .i64 x.fRole, .slice P7 x.fVotes.length C7, .slice P8 x.fMatch.length C8])
      obtain ⟨hk, hbx⟩ := Xn.out.stored [.int .i64 x.fId, .int .i64 x.fPeers, .int .i64 x.fTerm, .int .i64 x.fVote, .slice P4 x.fLog.length C4, .int .i64 x.fCommit, .int .i64 x.fRole, .slice P7 x.fVotes.length C7, .slice P8 x.fMatch.length C8] 0
      rw [setA_all (by rfl)] at hbx
      generalize Rp.setN w3 (w.heap.size) 0 [.int .i64 x.fId, .int .i64 x.fPeers, .int .i64 x.fTerm, .int .i64 x.fVote, .slice P4 x.fLog.length C4, .int .i64 x.fCommit, .int .i64 x.fRole, .slice P7 x.fVotes.length C7, .slice P8 x.fMatch.length C8] = w4 at *
      have R4 := Lib.hid (Row_ne R4.out hk (fun h => by have h_0 := T4.out _ h; omega))
      have R7 := Lib.hid (Row_ne R7.out hk (fun h => by have h_0 := T7.out _ h; omega))
      have R8 := Lib.hid (Row_ne R8.out hk (fun h => by have h_0 := T8.out _ h; omega))
      have Xr := Lib.hid (Box_ne Xr.out hk (by omega))
      have Xn := Lib.hid hbx
      have HC := Lib.hid (HC.out.trans (hk.toBelow HC.out.size (fun b h => by have h2 : b = w.heap.size := (by simpa using h); omega)))
      replace hsz := Nat.le_trans hsz hk.size
      clear hk hbx cn_0 cn_1 cn_2 cn_3 cn_4 cn_5 cn_6 cn_7 cn_8 cr_0 cr_1 cr_2 cr_3 cr_4 cr_5 cr_6 cr_7 cr_8
      have cn_0 := Xn.out.cell 0 (v := .int .i64 x.fId) rfl; have cn_1 := Xn.out.cell 1 (v := .int .i64 x.fPeers) rfl; have cn_2 := Xn.out.cell 2 (v := .int .i64 x.fTerm) rfl; have cn_3 := Xn.out.cell 3 (v := .int .i64 x.fVote) rfl; have cn_4 := Xn.out.cell 4 (v := .slice P4 x.fLog.length C4) rfl; have cn_5 := Xn.out.cell 5 (v := .int .i64 x.fCommit) rfl; have cn_6 := Xn.out.cell 6 (v := .int .i64 x.fRole) rfl; have cn_7 := Xn.out.cell 7 (v := .slice P7 x.fVotes.length C7) rfl; have cn_8 := Xn.out.cell 8 (v := .slice P8 x.fMatch.length C8) rfl; have cr_0 := Xr.out.cell 0 (v := .int .i64 0) rfl; have cr_1 := Xr.out.cell 1 (v := .int .i64 0) rfl; have cr_2 := Xr.out.cell 2 (v := .int .i64 0) rfl; have cr_3 := Xr.out.cell 3 (v := .int .i64 0) rfl; have cr_4 := Xr.out.cell 4 (v := .slice none 0 0) rfl; have cr_5 := Xr.out.cell 5 (v := .int .i64 0) rfl; have cr_6 := Xr.out.cell 6 (v := .int .i64 0) rfl; have cr_7 := Xr.out.cell 7 (v := .slice none 0 0) rfl; have cr_8 := Xr.out.cell 8 (v := .slice none 0 0) rfl
      have N4 := Lib.hid (show w.heap.size ∉ F4 from fun h => by have := T4.out _ h; omega); have N7 := Lib.hid (show w.heap.size ∉ F7 from fun h => by have := T7.out _ h; omega); have N8 := Lib.hid (show w.heap.size ∉ F8 from fun h => by have := T8.out _ h; omega)
      have hbl : w.heap.size < w4.heap.size := by omega
      have ND2 := List.nodup_append.1 ND.out
      have ND3 := List.nodup_append.1 ND2.2.1
      have D74 := Lib.hid (fun b h hm => ND2.2.2 b hm b (by simp [h]) rfl : ∀ b ∈ F7, b ∉ F4)
      have D84 := Lib.hid (fun b h hm => ND2.2.2 b hm b (by simp [h]) rfl : ∀ b ∈ F8, b ∉ F4)
      have D87 := Lib.hid (fun b h hm => ND3.2.2 b hm b h rfl : ∀ b ∈ F8, b ∉ F7)
      have M7 := Lib.hid ND3.1; have M8 := Lib.hid ND3.2.1
      clear ND2 ND3
      have L7 := Lib.hid (Rp.Row_lt R7.out); have L8 := Lib.hid (Rp.Row_lt R8.out)
      obtain ⟨ka, kb⟩ := acell w4
      have s0 : w.heap.size < w4.heap.size := by omega
      have s1 : w.heap.size + 1 < w4.heap.size := by omega
      go_upto_region 5 with (at_builtin; go_loud (refine wp_append (d := kEntry) rfl _ _ 28 73 rfl Try.underlying28 infoEntry rfl (by decide) rfl (by decide) kEntry_flat (xs := x.fLog) (ys := [⟨x.fTerm, s⟩]) rfl rfl (Rp.Row_below R4.out ((Below.refl _ _).alloc (Nat.le_refl _) _)) (Rp.S_one (Box.new (by simp)) (kEntry.M_K (kEntry_mk _ ⟨x.fTerm, s⟩))) (by simp; omega) ?_; intro va wa r1 r2 r3 _; have hk := ((KeptF.refl F4 w4).alloc _).trans r2; have R4x := Lib.hid r1; have T4x := Lib.hid (fun b h => (r3 b h).elim (fun h => T4.out b h) (fun h => by simp at h; omega) : ∀ b ∈ Rp.ofOwn va, w.heap.size + 2 ≤ b); have N4x := Lib.hid (fun h => (r3 _ h).elim (fun h => N4.out h) (fun h => by simp at h; omega) : w.heap.size ∉ Rp.ofOwn va); have D74x := Lib.hid (fun b h hm => (r3 b hm).elim (fun h2 => D74.out b h h2) (fun h2 => by have := L7.out b h; simp at h2; omega) : ∀ b ∈ F7, b ∉ Rp.ofOwn va); have D84x := Lib.hid (fun b h hm => (r3 b hm).elim (fun h2 => D84.out b h h2) (fun h2 => by have := L8.out b h; simp at h2; omega) : ∀ b ∈ F8, b ∉ Rp.ofOwn va); have R7 := Lib.hid (Rp.Row_kept R7.out hk D74.out); have R8 := Lib.hid (Rp.Row_kept R8.out hk D84.out); have Xn := Lib.hid (Xn.out.kept hk (fun h => by have := T4.out _ h; omega)); have Xr := Lib.hid (Xr.out.kept hk (fun h => by have := T4.out _ h; omega)); have HC := Lib.hid (HC.out.trans (hk.toBelow HC.out.size (fun b h => by have := T4.out b h; omega))); have hsz := Nat.le_trans hsz hk.size; have hbl := Nat.lt_of_lt_of_le hbl hk.size; clear hk r1 r2 r3 R4 T4 N4 D74 D84 L7 L8 cn_0 cn_1 cn_2 cn_3 cn_4 cn_5 cn_6 cn_7 cn_8 cr_0 cr_1 cr_2 cr_3 cr_4 cr_5 cr_6 cr_7 cr_8; have cn_0 := Xn.out.cell 0 (v := .int .i64 x.fId) rfl; have cn_1 := Xn.out.cell 1 (v := .int .i64 x.fPeers) rfl; have cn_2 := Xn.out.cell 2 (v := .int .i64 x.fTerm) rfl; have cn_3 := Xn.out.cell 3 (v := .int .i64 x.fVote) rfl; have cn_4 := Xn.out.cell 4 (v := .slice P4 x.fLog.length C4) rfl; have cn_5 := Xn.out.cell 5 (v := .int .i64 x.fCommit) rfl; have cn_6 := Xn.out.cell 6 (v := .int .i64 x.fRole) rfl; have cn_7 := Xn.out.cell 7 (v := .slice P7 x.fVotes.length C7) rfl; have cn_8 := Xn.out.cell 8 (v := .slice P8 x.fMatch.length C8) rfl; have cr_0 := Xr.out.cell 0 (v := .int .i64 0) rfl; have cr_1 := Xr.out.cell 1 (v := .int .i64 0) rfl; have cr_2 := Xr.out.cell 2 (v := .int .i64 0) rfl; have cr_3 := Xr.out.cell 3 (v := .int .i64 0) rfl; have cr_4 := Xr.out.cell 4 (v := .slice none 0 0) rfl; have cr_5 := Xr.out.cell 5 (v := .int .i64 0) rfl; have cr_6 := Xr.out.cell 6 (v := .int .i64 0) rfl; have cr_7 := Xr.out.cell 7 (v := .slice none 0 0) rfl; have cr_8 := Xr.out.cell 8 (v := .slice none 0 0) rfl; have fb := Xn.out.fro; obtain ⟨P9, C9, e9, _, _⟩ := Rp.Row_K R4x.out; subst e9; rw [List.length_append, List.length_singleton] at R4x T4x N4x D74x D84x ⊢))
      clear fb ka kb s0 s1
      have hk := kept_set wa (w.heap.size) 4 (.slice P9 (x.fLog.length + 1) C9)
      have R4x := Lib.hid (Row_ne R4x.out hk (fun h => by exact N4x.out h))
      have R7 := Lib.hid (Row_ne R7.out hk (fun h => by exact N7.out h))
      have R8 := Lib.hid (Row_ne R8.out hk (fun h => by exact N8.out h))
      have Xr := Lib.hid (Xr.out.set_other (a := ⟨w.heap.size, 4, none⟩) (.slice P9 (x.fLog.length + 1) C9) (by first | (simp; done) | (simp; omega)))
      have Xn := Lib.hid (show Box (wa.setCell ⟨w.heap.size, 4, none⟩ (.slice P9 (x.fLog.length + 1) C9)) (w.heap.size) #[.int .i64 x.fId, .int .i64 x.fPeers, .int .i64 x.fTerm, .int .i64 x.fVote, .slice P9 (x.fLog.length + 1) C9, .int .i64 x.fCommit, .int .i64 x.fRole, .slice P7 x.fVotes.length C7, .slice P8 x.fMatch.length C8] 30 from Xn.out.set 4 (.slice P9 (x.fLog.length + 1) C9))
      have HC := Lib.hid (HC.out.setCell (p := ⟨w.heap.size, 4, none⟩) (by first | (simp; done) | (simp; omega)) (.slice P9 (x.fLog.length + 1) C9))
      replace hsz := Nat.le_trans hsz hk.size
      replace hbl := Nat.lt_of_lt_of_le hbl hk.size
      clear hk cn_0 cn_1 cn_2 cn_3 cn_4 cn_5 cn_6 cn_7 cn_8 cr_0 cr_1 cr_2 cr_3 cr_4 cr_5 cr_6 cr_7 cr_8
      generalize wa.setCell ⟨w.heap.size, 4, none⟩ (.slice P9 (x.fLog.length + 1) C9) = wb at *
      have cn_0 := Xn.out.cell 0 (v := .int .i64 x.fId) rfl; have cn_1 := Xn.out.cell 1 (v := .int .i64 x.fPeers) rfl; have cn_2 := Xn.out.cell 2 (v := .int .i64 x.fTerm) rfl; have cn_3 := Xn.out.cell 3 (v := .int .i64 x.fVote) rfl; have cn_4 := Xn.out.cell 4 (v := .slice P9 (x.fLog.length + 1) C9) rfl; have cn_5 := Xn.out.cell 5 (v := .int .i64 x.fCommit) rfl; have cn_6 := Xn.out.cell 6 (v := .int .i64 x.fRole) rfl; have cn_7 := Xn.out.cell 7 (v := .slice P7 x.fVotes.length C7) rfl; have cn_8 := Xn.out.cell 8 (v := .slice P8 x.fMatch.length C8) rfl; have cr_0 := Xr.out.cell 0 (v := .int .i64 0) rfl; have cr_1 := Xr.out.cell 1 (v := .int .i64 0) rfl; have cr_2 := Xr.out.cell 2 (v := .int .i64 0) rfl; have cr_3 := Xr.out.cell 3 (v := .int .i64 0) rfl; have cr_4 := Xr.out.cell 4 (v := .slice none 0 0) rfl; have cr_5 := Xr.out.cell 5 (v := .int .i64 0) rfl; have cr_6 := Xr.out.cell 6 (v := .int .i64 0) rfl; have cr_7 := Xr.out.cell 7 (v := .slice none 0 0) rfl; have cr_8 := Xr.out.cell 8 (v := .slice none 0 0) rfl
      obtain ⟨g8, cap8, c8, F8', e8, gm8, gl8, m8, _, _, q3, q4⟩ := Rp.Row_open R8.out M8.out ik hil
      simp only [Value.slice.injEq] at e8
      obtain ⟨rfl, _, rfl⟩ := e8
      obtain ⟨rfl, rfl⟩ := m8
      have z0 : wb.cell? ⟨g8, ik, none⟩ = some (.int .i64 x.fMatch[ik]) := by have := q3 0 _ rfl; simpa [Rp.int, Rp.scalar] using this
      have y0 : wb.frozen? ⟨g8, ik, none⟩ = false := q4 _
      have r8 := Rp.Row_store R8.out M8.out ik hil 0 (by decide) (.int .i64 ((x.fLog.length : Int) + 1)) ((x.fLog.length : Int) + 1) (fun c F1 hM => by obtain ⟨rfl, rfl⟩ := hM; exact ⟨rfl, rfl⟩)
      have es8 : (⟨g8, ik * (kInt).sz + 0, none⟩ : Addr) = ⟨g8, ik, none⟩ := by simp [Rp.int, Rp.scalar]
      rw [es8] at r8
      have R8x := Lib.hid r8
      have GM := Lib.hid gm8
      have hg8 := T8.out g8 gm8
      have hg8n : g8 ≠ w.heap.size := fun h => N8.out (h ▸ gm8)
      generalize x.fMatch[ik] = zm at *
      clear q3 q4 r8 es8 gm8 R8
      have c0_ := Xn.out.cell 0 (v := .int .i64 ik) (by rw [← HIK.out]; rfl)
      clear cn_0
      have i1 : (0 : Int) ≤ (ik : Int) := by omega
      have i2 : (ik : Int) < (x.fMatch.length : Int) := by omega
      go_upto_region 6 with fail
      have hk := kept_set wb g8 ik (.int .i64 ((x.fLog.length : Int) + 1))
      have R4x := Lib.hid (Row_ne R4x.out hk (fun h => D84x.out _ GM.out h))
      have R7 := Lib.hid (Row_ne R7.out hk (fun h => D87.out _ GM.out h))
      have Xn := Lib.hid (Box_ne Xn.out hk (by omega))
      have Xr := Lib.hid (Box_ne Xr.out hk (by omega))
      have HC := Lib.hid (HC.out.trans (hk.toBelow HC.out.size (fun b h => by have h2 : b = g8 := (by simpa using h); omega)))
      replace hsz := Nat.le_trans hsz hk.size; replace hbl := Nat.lt_of_lt_of_le hbl hk.size
      clear hk z0 y0 c0_ cn_1 cn_2 cn_3 cn_4 cn_5 cn_6 cn_7 cn_8 cr_0 cr_1 cr_2 cr_3 cr_4 cr_5 cr_6 cr_7 cr_8
      generalize wb.setCell ⟨g8, ik, none⟩ (.int .i64 ((x.fLog.length : Int) + 1)) = wd at *
      have cn_0 := Xn.out.cell 0 (v := .int .i64 x.fId) rfl; have cn_1 := Xn.out.cell 1 (v := .int .i64 x.fPeers) rfl; have cn_2 := Xn.out.cell 2 (v := .int .i64 x.fTerm) rfl; have cn_3 := Xn.out.cell 3 (v := .int .i64 x.fVote) rfl; have cn_4 := Xn.out.cell 4 (v := .slice P9 (x.fLog.length + 1) C9) rfl; have cn_5 := Xn.out.cell 5 (v := .int .i64 x.fCommit) rfl; have cn_6 := Xn.out.cell 6 (v := .int .i64 x.fRole) rfl; have cn_7 := Xn.out.cell 7 (v := .slice P7 x.fVotes.length C7) rfl; have cn_8 := Xn.out.cell 8 (v := .slice (some ⟨g8, 0, none⟩) x.fMatch.length C8) rfl; have cr_0 := Xr.out.cell 0 (v := .int .i64 0) rfl; have cr_1 := Xr.out.cell 1 (v := .int .i64 0) rfl; have cr_2 := Xr.out.cell 2 (v := .int .i64 0) rfl; have cr_3 := Xr.out.cell 3 (v := .int .i64 0) rfl; have cr_4 := Xr.out.cell 4 (v := .slice none 0 0) rfl; have cr_5 := Xr.out.cell 5 (v := .int .i64 0) rfl; have cr_6 := Xr.out.cell 6 (v := .int .i64 0) rfl; have cr_7 := Xr.out.cell 7 (v := .slice none 0 0) rfl; have cr_8 := Xr.out.cell 8 (v := .slice none 0 0) rfl
      have hyl : (addN x s).fLog.length = x.fLog.length + 1 := by simp [addN]
      have hym : (addN x s).fMatch.length = x.fMatch.length := by simp [addN]
      have hid : x.fId.toNat = ik := by have := HIK.out; omega
      have hyM : (addN x s).fMatch = x.fMatch.set ik ((x.fLog.length : Int) + 1) := by simp only [addN, hid]; rfl
      have S4 := Lib.hid (show kEntry.S wd (addN x s).fLog (.slice P9 (addN x s).fLog.length C9) by rw [hyl]; exact Rp.Row_S R4x.out)
      have hr' : ((addN x s).fRole == 2) = true := hr
      have f7' : 0 ≤ (addN x s).fCommit := f7
      have f8' : (addN x s).fCommit ≤ (addN x s).fLog.length := by rw [hyl]; show x.fCommit ≤ _; omega
      have l4' : (addN x s).fLog.length ≤ 1048576 := by rw [hyl]; omega
      have l8' : (addN x s).fMatch.length ≤ 1048576 := by rw [hym]; omega
      have S8 := Lib.hid (show kInt.S wd (addN x s).fMatch (.slice (some ⟨g8, 0, none⟩) (addN x s).fMatch.length C8) by rw [hym, hyM]; exact Rp.Row_S R8x.out)
      have XY := Lib.hid (And.intro hyl hym)
      go_upto_region 6 with fail
      refine wp_region_tab (G := Unit) (fun g => [(5, 6, .int .i64 ((x.fLog.length : Int) + 1)), (0, 7, .bool true), (39, 0, .agg #[.int .i64 x.fId, .int .i64 x.fPeers, .int .i64 x.fTerm, .int .i64 x.fVote, .slice P9 (x.fLog.length + 1) C9, .int .i64 x.fCommit, .int .i64 x.fRole, .slice P7 x.fVotes.length C7, .slice (some ⟨g8, 0, none⟩) x.fMatch.length C8]), (0, 1, .agg #[.int .i64 x.fId, .int .i64 x.fPeers, .int .i64 x.fTerm, .int .i64 x.fVote, .slice P9 (x.fLog.length + 1) C9, .int .i64 (comFrom (addN x s) (x.fLog.length + 1)), .int .i64 x.fRole, .slice P7 x.fVotes.length C7, .slice (some ⟨g8, 0, none⟩) x.fMatch.length C8]), (0, 2, .pointer (some ⟨w.heap.size, 4, none⟩)), (0, 3, .slice P9 (x.fLog.length + 1) C9), (0, 4, .int .i64 ((x.fLog.length : Int) + 1))])
          (fun L g W => (Below w.heap.size w W) ∧
            (w.heap.size + 2 ≤ W.heap.size) ∧
            (Box W w.heap.size #[.int .i64 x.fId, .int .i64 x.fPeers, .int .i64 x.fTerm, .int .i64 x.fVote, .slice P9 (x.fLog.length + 1) C9, .int .i64 x.fCommit, .int .i64 x.fRole, .slice P7 x.fVotes.length C7, .slice (some ⟨g8, 0, none⟩) x.fMatch.length C8] 30) ∧
            (L 5 = false → Box W (w.heap.size + 1) #[.int .i64 0, .int .i64 0, .int .i64 0, .int .i64 0, .slice none 0 0, .int .i64 0, .int .i64 0, .slice none 0 0, .slice none 0 0] 30) ∧
            (L 5 = true → Box W (w.heap.size + 1) #[.int .i64 x.fId, .int .i64 x.fPeers, .int .i64 x.fTerm, .int .i64 x.fVote, .slice P9 (x.fLog.length + 1) C9, .int .i64 (comFrom (addN x s) (x.fLog.length + 1)), .int .i64 x.fRole, .slice P7 x.fVotes.length C7, .slice (some ⟨g8, 0, none⟩) x.fMatch.length C8] 30) ∧
            (kEntry.Row 73 W (Rp.ofOwn (.slice P9 (x.fLog.length + 1) C9)) (x.fLog ++ [⟨x.fTerm, s⟩]) (.slice P9 (x.fLog.length + 1) C9)) ∧
            (kInt.Row 3 W F7 x.fVotes (.slice P7 x.fVotes.length C7)) ∧
            (kInt.Row 3 W F8 (x.fMatch.set ik ((x.fLog.length : Int) + 1)) (.slice (some ⟨g8, 0, none⟩) x.fMatch.length C8)) ∧
            (L 1 = false → Below wd.heap.size wd W))
          (()) (by kernel_rfl) (by kernel_rfl) (fun _ => rfl) ?_ ?_ ?_
      · exact ⟨HC.out.drew, hsz, Xn.out.drew, fun _ => Xr.out.drew, nofun, Rp.Row_below R4x.out (Below.refl _ _).drew, Rp.Row_below R7.out (Below.refl _ _).drew, Rp.Row_below R8x.out (Below.refl _ _).drew, fun _ => (Below.refl _ _).drew⟩
      · simp (config := { maxSteps := 4000000 }) only [StepsT, layT, Nat.reduceAdd, Nat.reduceBEq, cond_true, cond_false]
        refine ⟨?_, ?_, ?_, ?_, ?_, ?_, ?_, ?_, trivial⟩
        · rintro L g0 W hL hd ⟨q0, q1, q2, q3, q4, q5, q6, q7, q8⟩
          try dsimp only at q0 q1 q2 q3 q4 q5 q6 q7 q8
          try simp only [depsT, Region.binds, forall_const, and_true, beq_iff_eq, reduceCtorEq, false_implies, true_and] at hd
          intro K hK; refine do_wanted rfl ?_
          have HK := Lib.hid hK; clear hK
          try simp only [hd, cond_true]
          have cc0 := q2.cell 0 (v := .int .i64 x.fId) rfl; have cc1 := q2.cell 1 (v := .int .i64 x.fPeers) rfl; have cc2 := q2.cell 2 (v := .int .i64 x.fTerm) rfl; have cc3 := q2.cell 3 (v := .int .i64 x.fVote) rfl; have cc4 := q2.cell 4 (v := .slice P9 (x.fLog.length + 1) C9) rfl; have cc5 := q2.cell 5 (v := .int .i64 x.fCommit) rfl; have cc6 := q2.cell 6 (v := .int .i64 x.fRole) rfl; have cc7 := q2.cell 7 (v := .slice P7 x.fVotes.length C7) rfl; have cc8 := q2.cell 8 (v := .slice (some ⟨g8, 0, none⟩) x.fMatch.length C8) rfl
          have Q0 := Lib.hid q0; have Q1 := Lib.hid q1; have Q2 := Lib.hid q2; have Q3 := Lib.hid q3; have Q4 := Lib.hid q4; have Q5 := Lib.hid q5; have Q6 := Lib.hid q6; have Q7 := Lib.hid q7; have Q8 := Lib.hid q8
          clear q0 q1 q2 q3 q4 q5 q6 q7 q8
          go_wp2
          exact HK.out _ _ ⟨(), by simp only [upd, Nat.reduceBEq, cond_true, cond_false, hd], ⟨Q0.out, Q1.out, Q2.out, Q3.out, Q4.out, Q5.out, Q6.out, Q7.out, Q8.out⟩⟩
        · rintro L g0 W hL hd ⟨q0, q1, q2, q3, q4, q5, q6, q7, q8⟩
          try dsimp only at q0 q1 q2 q3 q4 q5 q6 q7 q8
          try simp only [depsT, Region.binds, forall_const, and_true, beq_iff_eq, reduceCtorEq, false_implies, true_and] at hd
          intro K hK; refine do_wanted rfl ?_
          have HK := Lib.hid hK; clear hK
          try simp only [hd, cond_true]
          have Q0 := Lib.hid q0; have Q1 := Lib.hid q1; have Q2 := Lib.hid q2; have Q3 := Lib.hid q3; have Q4 := Lib.hid q4; have Q5 := Lib.hid q5; have Q6 := Lib.hid q6; have Q7 := Lib.hid q7; have Q8 := Lib.hid q8
          clear q0 q1 q2 q3 q4 q5 q6 q7 q8
          skip
          have hcall := sCommit_calls (addN x s) P9 P7 (some ⟨g8, 0, none⟩) C9 x.fVotes.length C7 C8 W (Rp.S_below S4.out (Q8.out hL)) (Rp.S_below S8.out (Q8.out hL)) l4' l8' f7' f8'
          rw [hyl, hym] at hcall
          have HCL := Lib.hid hcall; clear hcall
          go_wp2_with ((refine HCL.out.mono ?_); rintro ee we ⟨rfl, hb⟩; have HB := Lib.hid hb; clear hb)
          exact HK.out _ _ ⟨(), by (simp only [upd, Nat.reduceBEq, cond_true, cond_false, hd]; rfl), ⟨Q0.out.trans (HB.out.mono (by have := Q1.out; omega)), Nat.le_trans Q1.out HB.out.size, Q2.out.below HB.out, fun h => (Q3.out h).below HB.out, fun h => (Q4.out h).below HB.out, Rp.Row_below Q5.out HB.out, Rp.Row_below Q6.out HB.out, Rp.Row_below Q7.out HB.out, fun h => absurd (show true = false from h) (by simp)⟩⟩
        · rintro L g0 W hL hd ⟨q0, q1, q2, q3, q4, q5, q6, q7, q8⟩
          try dsimp only at q0 q1 q2 q3 q4 q5 q6 q7 q8
          try simp only [depsT, Region.binds, forall_const, and_true, beq_iff_eq, reduceCtorEq, false_implies, true_and] at hd
          intro K hK; refine do_wanted rfl ?_
          have HK := Lib.hid hK; clear hK
          try simp only [hd, cond_true]
          have Q0 := Lib.hid q0; have Q1 := Lib.hid q1; have Q2 := Lib.hid q2; have Q3 := Lib.hid q3; have Q4 := Lib.hid q4; have Q5 := Lib.hid q5; have Q6 := Lib.hid q6; have Q7 := Lib.hid q7; have Q8 := Lib.hid q8
          clear q0 q1 q2 q3 q4 q5 q6 q7 q8
          go_wp2
          exact HK.out _ _ ⟨(), by simp only [upd, Nat.reduceBEq, cond_true, cond_false, hd], ⟨Q0.out, Q1.out, Q2.out, Q3.out, Q4.out, Q5.out, Q6.out, Q7.out, Q8.out⟩⟩
        · rintro L g0 W hL hd ⟨q0, q1, q2, q3, q4, q5, q6, q7, q8⟩
          try dsimp only at q0 q1 q2 q3 q4 q5 q6 q7 q8
          try simp only [depsT, Region.binds, forall_const, and_true, beq_iff_eq, reduceCtorEq, false_implies, true_and] at hd
          intro K hK; refine do_wanted rfl ?_
          have HK := Lib.hid hK; clear hK
          try simp only [hd, cond_true]
          have cc := q2.cell 4 (v := .slice P9 (x.fLog.length + 1) C9) rfl
          have Q0 := Lib.hid q0; have Q1 := Lib.hid q1; have Q2 := Lib.hid q2; have Q3 := Lib.hid q3; have Q4 := Lib.hid q4; have Q5 := Lib.hid q5; have Q6 := Lib.hid q6; have Q7 := Lib.hid q7; have Q8 := Lib.hid q8
          clear q0 q1 q2 q3 q4 q5 q6 q7 q8
          go_wp2
          exact HK.out _ _ ⟨(), by simp only [upd, Nat.reduceBEq, cond_true, cond_false, hd], ⟨Q0.out, Q1.out, Q2.out, Q3.out, Q4.out, Q5.out, Q6.out, Q7.out, Q8.out⟩⟩
        · rintro L g0 W hL hd ⟨q0, q1, q2, q3, q4, q5, q6, q7, q8⟩
          try dsimp only at q0 q1 q2 q3 q4 q5 q6 q7 q8
          try simp only [depsT, Region.binds, forall_const, and_true, beq_iff_eq, reduceCtorEq, false_implies, true_and] at hd
          intro K hK; refine do_wanted rfl ?_
          have HK := Lib.hid hK; clear hK
          try simp only [hd, cond_true]
          have Q0 := Lib.hid q0; have Q1 := Lib.hid q1; have Q2 := Lib.hid q2; have Q3 := Lib.hid q3; have Q4 := Lib.hid q4; have Q5 := Lib.hid q5; have Q6 := Lib.hid q6; have Q7 := Lib.hid q7; have Q8 := Lib.hid q8
          clear q0 q1 q2 q3 q4 q5 q6 q7 q8
          go_wp2
          exact HK.out _ _ ⟨(), by simp only [upd, Nat.reduceBEq, cond_true, cond_false, hd], ⟨Q0.out, Q1.out, Q2.out, Q3.out, Q4.out, Q5.out, Q6.out, Q7.out, Q8.out⟩⟩
        · rintro L g0 W hL hd ⟨q0, q1, q2, q3, q4, q5, q6, q7, q8⟩
          try dsimp only at q0 q1 q2 q3 q4 q5 q6 q7 q8
          try simp only [depsT, Region.binds, forall_const, and_true, beq_iff_eq, reduceCtorEq, false_implies, true_and] at hd
          intro K hK; refine do_wanted rfl ?_
          have HK := Lib.hid hK; clear hK
          try simp only [hd, cond_true]
          have hz := q3 hL
          have cz0 := hz.cell 0 (v := .int .i64 0) rfl; have cz1 := hz.cell 1 (v := .int .i64 0) rfl; have cz2 := hz.cell 2 (v := .int .i64 0) rfl; have cz3 := hz.cell 3 (v := .int .i64 0) rfl; have cz4 := hz.cell 4 (v := .slice none 0 0) rfl; have cz5 := hz.cell 5 (v := .int .i64 0) rfl; have cz6 := hz.cell 6 (v := .int .i64 0) rfl; have cz7 := hz.cell 7 (v := .slice none 0 0) rfl; have cz8 := hz.cell 8 (v := .slice none 0 0) rfl
          have fz := hz.fro
          have HZ := Lib.hid hz; clear hz
          have hl1 : L 1 = true := by simp only [hd]
          have Q0 := Lib.hid q0; have Q1 := Lib.hid q1; have Q2 := Lib.hid q2; have Q3 := Lib.hid q3; have Q4 := Lib.hid q4; have Q5 := Lib.hid q5; have Q6 := Lib.hid q6; have Q7 := Lib.hid q7; have Q8 := Lib.hid q8
          clear q0 q1 q2 q3 q4 q5 q6 q7 q8
          go_wp2
          change K _ (Rp.setN W (w.heap.size + 1) 0 [.int .i64 x.fId, .int .i64 x.fPeers, .int .i64 x.fTerm, .int .i64 x.fVote, .slice P9 (x.fLog.length + 1) C9, .int .i64 (comFrom (addN x s) (x.fLog.length + 1)), .int .i64 x.fRole, .slice P7 x.fVotes.length C7, .slice (some ⟨g8, 0, none⟩) x.fMatch.length C8])
          obtain ⟨hk, hbx⟩ := HZ.out.stored [.int .i64 x.fId, .int .i64 x.fPeers, .int .i64 x.fTerm, .int .i64 x.fVote, .slice P9 (x.fLog.length + 1) C9, .int .i64 (comFrom (addN x s) (x.fLog.length + 1)), .int .i64 x.fRole, .slice P7 x.fVotes.length C7, .slice (some ⟨g8, 0, none⟩) x.fMatch.length C8] 0
          rw [setA_all (by rfl)] at hbx
          have hq1 := Q1.out
          exact HK.out _ _ ⟨(), by simp only [upd, Nat.reduceBEq, cond_true, cond_false, hd], ⟨Q0.out.trans (hk.toBelow Q0.out.size (by simp)), Nat.le_trans Q1.out hk.size, Box_ne Q2.out hk (by omega), fun h => absurd (show true = false from h) (by simp), fun _ => hbx, Row_ne Q5.out hk (fun h => by have := T4x.out _ h; omega), Row_ne Q6.out hk (fun h => by have := T7.out _ h; omega), Row_ne Q7.out hk (fun h => by have := T8.out _ h; omega), fun h => absurd (show L 1 = false from h) (by rw [hl1]; simp)⟩⟩
        · rintro L g0 W hL hd ⟨q0, q1, q2, q3, q4, q5, q6, q7, q8⟩
          try dsimp only at q0 q1 q2 q3 q4 q5 q6 q7 q8
          try simp only [depsT, Region.binds, forall_const, and_true, beq_iff_eq, reduceCtorEq, false_implies, true_and] at hd
          intro K hK; refine do_wanted rfl ?_
          have HK := Lib.hid hK; clear hK
          try simp only [hd, cond_true]
          have Q0 := Lib.hid q0; have Q1 := Lib.hid q1; have Q2 := Lib.hid q2; have Q3 := Lib.hid q3; have Q4 := Lib.hid q4; have Q5 := Lib.hid q5; have Q6 := Lib.hid q6; have Q7 := Lib.hid q7; have Q8 := Lib.hid q8
          clear q0 q1 q2 q3 q4 q5 q6 q7 q8
          go_wp2
          exact HK.out _ _ ⟨(), by simp only [upd, Nat.reduceBEq, cond_true, cond_false, hd], ⟨Q0.out, Q1.out, Q2.out, Q3.out, Q4.out, Q5.out, Q6.out, Q7.out, Q8.out⟩⟩
        · rintro L g0 W hL hd ⟨q0, q1, q2, q3, q4, q5, q6, q7, q8⟩
          try dsimp only at q0 q1 q2 q3 q4 q5 q6 q7 q8
          try simp only [depsT, Region.binds, forall_const, and_true, beq_iff_eq, reduceCtorEq, false_implies, true_and] at hd
          intro K hK; refine do_wanted rfl ?_
          have HK := Lib.hid hK; clear hK
          try simp only [hd, cond_true]
          have Q0 := Lib.hid q0; have Q1 := Lib.hid q1; have Q2 := Lib.hid q2; have Q3 := Lib.hid q3; have Q4 := Lib.hid q4; have Q5 := Lib.hid q5; have Q6 := Lib.hid q6; have Q7 := Lib.hid q7; have Q8 := Lib.hid q8
          clear q0 q1 q2 q3 q4 q5 q6 q7 q8
          go_wp2
          exact HK.out _ _ ⟨(), by simp only [upd, Nat.reduceBEq, cond_true, cond_false, hd], ⟨Q0.out, Q1.out, Q2.out, Q3.out, Q4.out, Q5.out, Q6.out, Q7.out, Q8.out⟩⟩
      · simp (config := { maxSteps := 4000000 }) only [layT, Nat.reduceAdd, Nat.reduceBEq, cond_true, cond_false]
        rintro L g0 W hd ⟨q0, q1, q2, q3, q4, q5, q6, q7, q8⟩
        simp only [doneT, true_and, List.length_cons, List.length_nil, Nat.reduceAdd] at hd
        obtain ⟨⟨⟨⟨⟨⟨⟨e0, e1⟩, e2⟩, e3⟩, e4⟩, e5⟩, e6⟩, e7⟩ := hd
        try dsimp only at q0 q1 q2 q3 q4 q5 q6 q7 q8
        simp only [e0, e1, e2, e3, e4, e5, e6, e7, cond_true]
        have hb4 := q4 e5
        have dz0 := hb4.cell 0 (v := .int .i64 x.fId) rfl; have dz1 := hb4.cell 1 (v := .int .i64 x.fPeers) rfl; have dz2 := hb4.cell 2 (v := .int .i64 x.fTerm) rfl; have dz3 := hb4.cell 3 (v := .int .i64 x.fVote) rfl; have dz4 := hb4.cell 4 (v := .slice P9 (x.fLog.length + 1) C9) rfl; have dz5 := hb4.cell 5 (v := .int .i64 (comFrom (addN x s) (x.fLog.length + 1))) rfl; have dz6 := hb4.cell 6 (v := .int .i64 x.fRole) rfl; have dz7 := hb4.cell 7 (v := .slice P7 x.fVotes.length C7) rfl; have dz8 := hb4.cell 8 (v := .slice (some ⟨g8, 0, none⟩) x.fMatch.length C8) rfl
        have HQ := Lib.hid (And.intro q0 (And.intro q5 (And.intro q6 q7)))
        clear q0 q1 q2 q3 q4 q5 q6 q7 q8 hb4 HC hsz Xn Xr cn_0 cn_1 cn_2 cn_3 cn_4 cn_5 cn_6 cn_7 cn_8 cr_0 cr_1 cr_2 cr_3 cr_4 cr_5 cr_6 cr_7 cr_8
        go_wp2
        refine bodyPost_ret (v := .tuple #[.agg #[.int .i64 x.fId, .int .i64 x.fPeers, .int .i64 x.fTerm, .int .i64 x.fVote, .slice P9 (x.fLog.length + 1) C9, .int .i64 (comFrom (addN x s) (x.fLog.length + 1)), .int .i64 x.fRole, .slice P7 x.fVotes.length C7, .slice (some ⟨g8, 0, none⟩) x.fMatch.length C8], .int .i64 ((x.fLog.length : Int) + 1), .bool true]) (by simp [results, Try.results34, go_sem, dz0, dz1, dz2, dz3, dz4, dz5, dz6, dz7, dz8]) rfl ⟨_, (by rw [hoi, HOB.out]; rfl), ?_⟩
        rw [hov]
        exact Made.node (x := proN x s) (N := w.heap.size + 2) (by omega) HQ.out.2.1 HQ.out.2.2.1 (by rw [show (proN x s).fMatch = x.fMatch.set ik ((x.fLog.length : Int) + 1) from hyM]; exact HQ.out.2.2.2) T4x.out T7.out T8.out (nodup3 (ofOwn_nodup _) M7.out M8.out D74x.out D84x.out D87.out) HQ.out.1
theorem iProposeNode_k {x : DRaftNode} {s : ByteArray} {c0 : List Value} {w : World} (k0 : kRaftNode.K w x c0) (h0 : wfRaftNode x) (s0 : smRaftNode 1048576 x) (hs : s.size ≤ 1048576) : Calls Try.prog 35 #[.agg c0.toArray, .string s] w
    fun e w' => ∃ cs F, e = .returned (.tuple #[.agg cs.toArray, .int .i64 (proI x s), .bool (proOk x s)]) ∧ kRaftNode.M w' F (proV x s) cs ∧ (∀ b ∈ F, w.heap.size ≤ b) ∧ F.Nodup ∧ Below w.heap.size w w' := by
  obtain ⟨v4, v7, v8, rfl, g4, g7, g8⟩ := kRaftNode_read k0
  refine (iPro_calls x s v4 v7 v8 w g4 g7 g8 s0).mono ?_
  rintro e w' ⟨v, rfl, cs, F, rfl, h1, h2, h3, h4⟩
  exact ⟨cs, F, rfl, h1, h2, h3, h4⟩
theorem sProposeNode_k {x : DRaftNode} {s : ByteArray} {c0 : List Value} {w : World} (k0 : kRaftNode.K w x c0) (h0 : wfRaftNode x) (s0 : smRaftNode 1048576 x) (hs : s.size ≤ 1048576) : Calls Try.prog 34 #[.agg c0.toArray, .string s] w
    fun e w' => ∃ cs F, e = .returned (.tuple #[.agg cs.toArray, .int .i64 (proI x s), .bool (proOk x s)]) ∧ kRaftNode.M w' F (proV x s) cs ∧ (∀ b ∈ F, w.heap.size ≤ b) ∧ F.Nodup ∧ Below w.heap.size w w' := by
  obtain ⟨v4, v7, v8, rfl, g4, g7, g8⟩ := kRaftNode_read k0
  refine (sPro_calls x s v4 v7 v8 w g4 g7 g8 s0).mono ?_
  rintro e w' ⟨v, rfl, cs, F, rfl, h1, h2, h3, h4⟩
  exact ⟨cs, F, rfl, h1, h2, h3, h4⟩
theorem proV_sm {x : DRaftNode} {s : ByteArray} (h : smRaftNode 1048576 x) : smRaftNode 4194304 (proV x s) := by
  unfold smRaftNode at *
  unfold proV proN addN zRaftNode
  split <;> simp <;> omega
end Go.Proofs.Ytljkcmbebdbnaaa
