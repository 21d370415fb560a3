/- Nodes: what a leader sends. -/
import Derived.Test.YtljkcmbebdbnaaaGnH
namespace Go.Proofs.Ytljkcmbebdbnaaa
open Go Go.RowKit Go.Sort
set_option linter.unusedVariables false
set_option linter.unusedSimpArgs false

def zMsg : DRaftMsg := ⟨0, 0, 0, 0, 0, 0, [], 0, false⟩
def afOk (x : DRaftNode) (p m : Int) : Bool := nodeOk x && (x.fRole == 2) && inR p 0 (x.fPeers - 1) && !(p == x.fId) && inR m 0 60
def afM (x : DRaftNode) (p m : Int) : DRaftMsg := ⟨3, x.fId, p, x.fTerm, atI x.fMatch p, termV x.fLog (atI x.fMatch p).toNat, (x.fLog.drop (atI x.fMatch p).toNat).take m.toNat, x.fCommit, false⟩
def afV (x : DRaftNode) (p m : Int) : DRaftMsg := if afOk x p m then afM x p m else zMsg
theorem match_at {x : DRaftNode} (h : nodeOk x = true) (hr : (x.fRole == 2) = true) : (x.fMatch.length : Int) = x.fPeers ∧ ∀ k, k < x.fMatch.length → ∃ a : Nat, x.fMatch[k]? = some (a : Int) ∧ a ≤ x.fLog.length := by
  simp only [nodeOk, Bool.and_eq_true] at h
  have h2 := h.2
  rw [matchN, if_pos hr] at h2
  simp only [Bool.and_eq_true, decide_eq_true_eq] at h2
  refine ⟨h2.1.1, fun k hk => ?_⟩
  have h3 := h2.2
  rw [outI, Bool.not_eq_true', List.any_eq_false] at h3
  have h4 := h3 x.fMatch[k] (List.getElem_mem hk)
  simp [inR] at h4
  exact ⟨x.fMatch[k].toNat, by rw [List.getElem?_eq_getElem hk]; congr 1; omega, by omega⟩
theorem Made.msg {x : DRaftMsg} {w w' : World} {v6 : Value} {F6 : List Nat} {N : Nat} (hN : w.heap.size ≤ N) (r6 : kEntry.Row 73 w' F6 x.fEntries v6) (t6 : ∀ b ∈ F6, N ≤ b) (n : F6.Nodup) (hb : Below w.heap.size w w') :
    Made kRaftMsg x w w' (.agg #[.int .i64 x.fKind, .int .i64 x.fFrom, .int .i64 x.fTo, .int .i64 x.fTerm, .int .i64 x.fIndex, .int .i64 x.fBefore, v6, .int .i64 x.fCommit, .bool x.fYes]) :=
  ⟨_, _, rfl, kRaftMsg_make r6, fun b h => Nat.le_trans hN (t6 b h), n, hb⟩
theorem Made.msg0 {w w' : World} (hb : Below w.heap.size w w') : Made kRaftMsg zMsg w w' (.agg #[.int .i64 0, .int .i64 0, .int .i64 0, .int .i64 0, .int .i64 0, .int .i64 0, .slice none 0 0, .int .i64 0, .bool false]) :=
  Made.msg (x := zMsg) (Nat.le_refl _) (Rp.Row_nil _ _ _) (by simp) (by simp) hb
set_option maxHeartbeats 400000 in
theorem iIndex_calls (n : Int) (w : World) : Calls Try.prog 80 #[.int .i64 n] w fun e w' => e = .returned (.bool (inR n 0 60)) ∧ w' = w := by
  go_enter Try.func80, Try.ntmps80
  go_wp2_with (with_reducible refine (iInR_calls _ _ _ _).mono ?_; rintro e w1 ⟨rfl, rfl⟩)
  all_goals (go_ret; exact ⟨rfl, rfl⟩)
set_option maxHeartbeats 8000000 in
set_option maxRecDepth 100000 in
theorem iAf_calls (x : DRaftNode) (p m : Int) (v4 v7 v8 : Value) (w : World) (g4 : kEntry.S w x.fLog v4) (g7 : kInt.S w x.fVotes v7) (g8 : kInt.S w x.fMatch v8) (hl : smRaftNode 1048576 x) : Calls Try.prog 30 #[.agg #[.int .i64 x.fId, .int .i64 x.fPeers, .int .i64 x.fTerm, .int .i64 x.fVote, v4, .int .i64 x.fCommit, .int .i64 x.fRole, v7, v8], .int .i64 p, .int .i64 m] w
    fun e w' => ∃ v, e = .returned (.tuple #[v, .bool (afOk x p m)]) ∧ Made kRaftMsg (afV x p m) w w' v := by
  have G4 := Lib.hid g4; have G7 := Lib.hid g7; have G8 := Lib.hid g8
  obtain ⟨A4, d4, rfl, _, _⟩ := g4
  obtain ⟨A7, d7, rfl, _, _⟩ := g7
  obtain ⟨A8, d8, rfl, _, _⟩ := g8
  go_enter Try.func30, Try.ntmps30
  go_upto_region 1 with fail
  have HC := Lib.hid (show Below w.heap.size w ((w.alloc (.cells #[.int .i64 x.fId, .int .i64 x.fPeers, .int .i64 x.fTerm, .int .i64 x.fVote, .slice A4 x.fLog.length d4, .int .i64 x.fCommit, .int .i64 x.fRole, .slice A7 x.fVotes.length d7, .slice A8 x.fMatch.length d8] 30)).alloc (.cells #[.int .i64 0, .int .i64 0, .int .i64 0, .int .i64 0, .int .i64 0, .int .i64 0, .slice none 0 0, .int .i64 0, .bool false] 45)) from Below.alloc (Below.alloc (Below.refl w.heap.size w) (by first | exact Nat.le_refl _ | (simp; done) | (simp; omega)) (.cells #[.int .i64 x.fId, .int .i64 x.fPeers, .int .i64 x.fTerm, .int .i64 x.fVote, .slice A4 x.fLog.length d4, .int .i64 x.fCommit, .int .i64 x.fRole, .slice A7 x.fVotes.length d7, .slice A8 x.fMatch.length d8] 30)) (by first | exact Nat.le_refl _ | (simp; done) | (simp; omega)) (.cells #[.int .i64 0, .int .i64 0, .int .i64 0, .int .i64 0, .int .i64 0, .int .i64 0, .slice none 0 0, .int .i64 0, .bool false] 45))
  have Xn := Lib.hid (show Box ((w.alloc (.cells #[.int .i64 x.fId, .int .i64 x.fPeers, .int .i64 x.fTerm, .int .i64 x.fVote, .slice A4 x.fLog.length d4, .int .i64 x.fCommit, .int .i64 x.fRole, .slice A7 x.fVotes.length d7, .slice A8 x.fMatch.length d8] 30)).alloc (.cells #[.int .i64 0, .int .i64 0, .int .i64 0, .int .i64 0, .int .i64 0, .int .i64 0, .slice none 0 0, .int .i64 0, .bool false] 45)) (w.heap.size) #[.int .i64 x.fId, .int .i64 x.fPeers, .int .i64 x.fTerm, .int .i64 x.fVote, .slice A4 x.fLog.length d4, .int .i64 x.fCommit, .int .i64 x.fRole, .slice A7 x.fVotes.length d7, .slice A8 x.fMatch.length d8] 30 from Box.alloc (Box.new rfl))
  have Xr := Lib.hid (show Box ((w.alloc (.cells #[.int .i64 x.fId, .int .i64 x.fPeers, .int .i64 x.fTerm, .int .i64 x.fVote, .slice A4 x.fLog.length d4, .int .i64 x.fCommit, .int .i64 x.fRole, .slice A7 x.fVotes.length d7, .slice A8 x.fMatch.length d8] 30)).alloc (.cells #[.int .i64 0, .int .i64 0, .int .i64 0, .int .i64 0, .int .i64 0, .int .i64 0, .slice none 0 0, .int .i64 0, .bool false] 45)) (w.heap.size + 1) #[.int .i64 0, .int .i64 0, .int .i64 0, .int .i64 0, .int .i64 0, .int .i64 0, .slice none 0 0, .int .i64 0, .bool false] 45 from Box.new (by simp))
  have hsz : w.heap.size + 2 ≤ ((w.alloc (.cells #[.int .i64 x.fId, .int .i64 x.fPeers, .int .i64 x.fTerm, .int .i64 x.fVote, .slice A4 x.fLog.length d4, .int .i64 x.fCommit, .int .i64 x.fRole, .slice A7 x.fVotes.length d7, .slice A8 x.fMatch.length d8] 30)).alloc (.cells #[.int .i64 0, .int .i64 0, .int .i64 0, .int .i64 0, .int .i64 0, .int .i64 0, .slice none 0 0, .int .i64 0, .bool false] 45)).heap.size := by simp
  generalize (w.alloc (.cells #[.int .i64 x.fId, .int .i64 x.fPeers, .int .i64 x.fTerm, .int .i64 x.fVote, .slice A4 x.fLog.length d4, .int .i64 x.fCommit, .int .i64 x.fRole, .slice A7 x.fVotes.length d7, .slice A8 x.fMatch.length d8] 30)).alloc (.cells #[.int .i64 0, .int .i64 0, .int .i64 0, .int .i64 0, .int .i64 0, .int .i64 0, .slice none 0 0, .int .i64 0, .bool false] 45) = w1 at *
  have cn_0 := Xn.out.cell 0 (v := .int .i64 x.fId) rfl; have cn_1 := Xn.out.cell 1 (v := .int .i64 x.fPeers) rfl; have cn_2 := Xn.out.cell 2 (v := .int .i64 x.fTerm) rfl; have cn_3 := Xn.out.cell 3 (v := .int .i64 x.fVote) rfl; have cn_4 := Xn.out.cell 4 (v := .slice A4 x.fLog.length d4) rfl; have cn_5 := Xn.out.cell 5 (v := .int .i64 x.fCommit) rfl; have cn_6 := Xn.out.cell 6 (v := .int .i64 x.fRole) rfl; have cn_7 := Xn.out.cell 7 (v := .slice A7 x.fVotes.length d7) rfl; have cn_8 := Xn.out.cell 8 (v := .slice A8 x.fMatch.length d8) rfl; have cr_0 := Xr.out.cell 0 (v := .int .i64 0) rfl; have cr_1 := Xr.out.cell 1 (v := .int .i64 0) rfl; have cr_2 := Xr.out.cell 2 (v := .int .i64 0) rfl; have cr_3 := Xr.out.cell 3 (v := .int .i64 0) rfl; have cr_4 := Xr.out.cell 4 (v := .int .i64 0) rfl; have cr_5 := Xr.out.cell 5 (v := .int .i64 0) rfl; have cr_6 := Xr.out.cell 6 (v := .slice none 0 0) rfl; have cr_7 := Xr.out.cell 7 (v := .int .i64 0) rfl; have cr_8 := Xr.out.cell 8 (v := .bool false) rfl
  have hrw : nodeOk x = true → IntKind.i64.wrap (x.fPeers - 1) = x.fPeers - 1 := fun h => by have := nodeOk_facts h; rw [IntKind.wrap_i64]; omega
  have HRW := Lib.hid hrw; clear hrw
  go_cut [36] from 10 to 36 (fun s wx => (Below w.heap.size w wx ∧ w.heap.size + 2 ≤ wx.heap.size ∧ Box wx w.heap.size #[.int .i64 x.fId, .int .i64 x.fPeers, .int .i64 x.fTerm, .int .i64 x.fVote, .slice A4 x.fLog.length d4, .int .i64 x.fCommit, .int .i64 x.fRole, .slice A7 x.fVotes.length d7, .slice A8 x.fMatch.length d8] 30 ∧ Box wx (w.heap.size + 1) #[.int .i64 0, .int .i64 0, .int .i64 0, .int .i64 0, .int .i64 0, .int .i64 0, .slice none 0 0, .int .i64 0, .bool false] 45) ∧ s = .bool (!afOk x p m))
  case first =>
    cases e1 : (x.fRole == 2)
    all_goals have e2 : (x.fRole != 2) = !(x.fRole == 2) := rfl
    all_goals rw [e1] at e2
    all_goals simp only [Bool.not_true, Bool.not_false] at e2
    all_goals cases e3 : (p == x.fId)
    all_goals go_wp2_with (first | (go_at_call 16; (with_reducible refine (iGoodNode_calls x _ _ _ _ (Rp.S_below G4.out HC.out) (Rp.S_below G7.out HC.out) (Rp.S_below G8.out HC.out) hl).mono ?_); rintro e wq ⟨rfl, hb⟩; cases hg : nodeOk x <;> (try have hrw2 := HRW.out hg) <;> (have HC := Lib.hid (HC.out.trans (hb.mono (by first | exact HC.out.size | (have := HC.out.size; omega)))); have hsz := Nat.le_trans hsz hb.size; have Xn := Lib.hid (Xn.out.below hb); have Xr := Lib.hid (Xr.out.below hb); clear cn_0 cn_1 cn_2 cn_3 cn_4 cn_5 cn_6 cn_7 cn_8 cr_0 cr_1 cr_2 cr_3 cr_4 cr_5 cr_6 cr_7 cr_8; clear hb; have cn_0 := Xn.out.cell 0 (v := .int .i64 x.fId) rfl; have cn_1 := Xn.out.cell 1 (v := .int .i64 x.fPeers) rfl; have cn_2 := Xn.out.cell 2 (v := .int .i64 x.fTerm) rfl; have cn_3 := Xn.out.cell 3 (v := .int .i64 x.fVote) rfl; have cn_4 := Xn.out.cell 4 (v := .slice A4 x.fLog.length d4) rfl; have cn_5 := Xn.out.cell 5 (v := .int .i64 x.fCommit) rfl; have cn_6 := Xn.out.cell 6 (v := .int .i64 x.fRole) rfl; have cn_7 := Xn.out.cell 7 (v := .slice A7 x.fVotes.length d7) rfl; have cn_8 := Xn.out.cell 8 (v := .slice A8 x.fMatch.length d8) rfl; have cr_0 := Xr.out.cell 0 (v := .int .i64 0) rfl; have cr_1 := Xr.out.cell 1 (v := .int .i64 0) rfl; have cr_2 := Xr.out.cell 2 (v := .int .i64 0) rfl; have cr_3 := Xr.out.cell 3 (v := .int .i64 0) rfl; have cr_4 := Xr.out.cell 4 (v := .int .i64 0) rfl; have cr_5 := Xr.out.cell 5 (v := .int .i64 0) rfl; have cr_6 := Xr.out.cell 6 (v := .slice none 0 0) rfl; have cr_7 := Xr.out.cell 7 (v := .int .i64 0) rfl; have cr_8 := Xr.out.cell 8 (v := .bool false) rfl)) | (with_reducible refine (iInR_calls p _ _ _).mono ?_; rintro e wq ⟨rfl, rfl⟩; cases h2 : inR p 0 (x.fPeers - 1)) | (go_at_call 80; (with_reducible refine (iIndex_calls m _).mono ?_); rintro e wq ⟨rfl, rfl⟩; cases h3 : inR m 0 60))
    all_goals (go_meet; go_light)
    all_goals refine ⟨⟨HC.out, hsz, Xn.out, Xr.out⟩, ?_⟩
    all_goals (congr 1; rw [afOk]; simp [*])
  case rest =>
    obtain ⟨⟨hcc, hsz2, hxn, hxr⟩, rfl⟩ := hcut
    clear HC hsz Xn Xr HRW cn_0 cn_1 cn_2 cn_3 cn_4 cn_5 cn_6 cn_7 cn_8 cr_0 cr_1 cr_2 cr_3 cr_4 cr_5 cr_6 cr_7 cr_8
    have hsz := hsz2; have HC := Lib.hid hcc; have Xn := Lib.hid hxn; have Xr := Lib.hid hxr
    clear hsz2 hcc hxn hxr
    have cn_0 := Xn.out.cell 0 (v := .int .i64 x.fId) rfl; have cn_1 := Xn.out.cell 1 (v := .int .i64 x.fPeers) rfl; have cn_2 := Xn.out.cell 2 (v := .int .i64 x.fTerm) rfl; have cn_3 := Xn.out.cell 3 (v := .int .i64 x.fVote) rfl; have cn_4 := Xn.out.cell 4 (v := .slice A4 x.fLog.length d4) rfl; have cn_5 := Xn.out.cell 5 (v := .int .i64 x.fCommit) rfl; have cn_6 := Xn.out.cell 6 (v := .int .i64 x.fRole) rfl; have cn_7 := Xn.out.cell 7 (v := .slice A7 x.fVotes.length d7) rfl; have cn_8 := Xn.out.cell 8 (v := .slice A8 x.fMatch.length d8) rfl; have cr_0 := Xr.out.cell 0 (v := .int .i64 0) rfl; have cr_1 := Xr.out.cell 1 (v := .int .i64 0) rfl; have cr_2 := Xr.out.cell 2 (v := .int .i64 0) rfl; have cr_3 := Xr.out.cell 3 (v := .int .i64 0) rfl; have cr_4 := Xr.out.cell 4 (v := .int .i64 0) rfl; have cr_5 := Xr.out.cell 5 (v := .int .i64 0) rfl; have cr_6 := Xr.out.cell 6 (v := .slice none 0 0) rfl; have cr_7 := Xr.out.cell 7 (v := .int .i64 0) rfl; have cr_8 := Xr.out.cell 8 (v := .bool false) rfl
    cases ho : afOk x p m <;> simp only [Bool.not_true, Bool.not_false]
    case false =>
      have fr_ := Xr.out.fro
      go_wp2
      obtain ⟨hk, bf⟩ := Xr.out.stored [.int .i64 0, .int .i64 0, .int .i64 0, .int .i64 0, .int .i64 0, .int .i64 0, .slice none 0 0, .int .i64 0, .bool false] 0
      rw [setA_all (by rfl)] at bf
      change bodyPost _ _ _ _ _ (Rp.setN wc (w.heap.size + 1) 0 [.int .i64 0, .int .i64 0, .int .i64 0, .int .i64 0, .int .i64 0, .int .i64 0, .slice none 0 0, .int .i64 0, .bool false])
      clear fr_ cn_0 cn_1 cn_2 cn_3 cn_4 cn_5 cn_6 cn_7 cn_8 cr_0 cr_1 cr_2 cr_3 cr_4 cr_5 cr_6 cr_7 cr_8
      have HK := Lib.hid hk; clear hk
      generalize Rp.setN wc (w.heap.size + 1) 0 [.int .i64 0, .int .i64 0, .int .i64 0, .int .i64 0, .int .i64 0, .int .i64 0, .slice none 0 0, .int .i64 0, .bool false] = wf at *
      have df0 := bf.cell 0 (v := .int .i64 0) rfl; have df1 := bf.cell 1 (v := .int .i64 0) rfl; have df2 := bf.cell 2 (v := .int .i64 0) rfl; have df3 := bf.cell 3 (v := .int .i64 0) rfl; have df4 := bf.cell 4 (v := .int .i64 0) rfl; have df5 := bf.cell 5 (v := .int .i64 0) rfl; have df6 := bf.cell 6 (v := .slice none 0 0) rfl; have df7 := bf.cell 7 (v := .int .i64 0) rfl; have df8 := bf.cell 8 (v := .bool false) rfl
      refine bodyPost_ret (v := .tuple #[.agg #[.int .i64 0, .int .i64 0, .int .i64 0, .int .i64 0, .int .i64 0, .int .i64 0, .slice none 0 0, .int .i64 0, .bool false], .bool false]) (by simp [results, Try.results30, go_sem, df0, df1, df2, df3, df4, df5, df6, df7, df8]) rfl ⟨_, by rw [ho], by rw [afV, ho]; exact Made.msg0 (HC.out.trans (HK.out.toBelow HC.out.size (by simp)))⟩
    case true =>
      have hov : afV x p m = afM x p m := by rw [afV, ho]; rfl
      have ho2 := ho
      simp only [afOk, Bool.and_eq_true, Bool.not_eq_true'] at ho2
      obtain ⟨⟨⟨⟨hg, hr⟩, hp⟩, hne⟩, hm⟩ := ho2
      obtain ⟨f1, f2, f3, f4, f5, f6, f7, f8, f9, _, _⟩ := nodeOk_facts hg
      obtain ⟨hml, hma⟩ := match_at hg hr
      have hp2 : 0 ≤ p ∧ p ≤ x.fPeers - 1 := by simpa [inR] using hp
      have hm2 : 0 ≤ m ∧ m ≤ 60 := by simpa [inR] using hm
      obtain ⟨pk, rfl⟩ : ∃ k : Nat, p = k := ⟨p.toNat, by omega⟩
      obtain ⟨mk, rfl⟩ : ∃ k : Nat, m = k := ⟨m.toNat, by omega⟩
      have hpl : pk < x.fMatch.length := by omega
      obtain ⟨a, ha, hal⟩ := hma pk hpl
      obtain ⟨bx, ox, e8, a0⟩ := int_at (S_open G8.out).2.2 HC.out pk hpl
      have hae : x.fMatch[pk] = (a : Int) := by rw [List.getElem?_eq_getElem hpl] at ha; exact Option.some.inj ha
      rw [hae] at a0
      have hat : atI x.fMatch (pk : Int) = a := by rw [atI, Int.toNat_natCast, List.getD_eq_getElem?_getD, ha]; rfl
      subst e8
      have hpb : (pk : Int) < (x.fMatch.length : Int) := by omega
      have hp0 : (0 : Int) ≤ (pk : Int) := by omega
      have hlc := (S_open G4.out).2.1.1
      have hw1 : IntKind.i64.wrap ((a : Int) + (mk : Int)) = (a : Int) + (mk : Int) := by rw [IntKind.wrap_i64]; omega
      have hd9 : (x.fLog.drop a).length = x.fLog.length - a := by simp
      obtain ⟨e, he, he1, he2⟩ : ∃ e : Nat, (if (a : Int) + mk < x.fLog.length then (a : Int) + mk else (x.fLog.length : Int)) = e ∧ a ≤ e ∧ e ≤ x.fLog.length ∧ (x.fLog.drop a).take mk = (x.fLog.drop a).take (e - a) := by
        by_cases h : (a : Int) + mk < x.fLog.length
        · exact ⟨a + mk, by rw [if_pos h]; omega, by omega, by omega, by rw [Nat.add_sub_cancel_left]⟩
        · exact ⟨x.fLog.length, by rw [if_neg h], hal, Nat.le_refl _, by rw [List.take_of_length_le (by omega), List.take_of_length_le (by omega)]⟩
      obtain ⟨he2, he3⟩ := he2
      go_upto_region 4 with fail
      go_cut [9] from 43 to 54 (fun s wx => MadeR kEntry 73 ((x.fLog.drop a).take (e - a)) wc wx s)
      case first =>
        by_cases hz : a = d4
        case pos =>
          subst hz
          by_cases hmn : (x.fLog.length : Int) < (a : Int) + mk
          all_goals go_wp2_with ((with_reducible refine (cloneEntry_calls ((x.fLog.drop a).take (e - a)) _ _ (Rp.S_cut (Rp.S_below G4.out HC.out) 2 rfl a (e - a) (by omega) (by omega) (by first | exact .inl rfl | exact .inr ⟨by omega, rfl⟩) (by first | rfl | omega)) (by simp; omega)).mono ?_); rintro ee we ⟨vv, FF, rfl, r1, r2, r3, hb⟩; have RM := (show MadeR kEntry 73 ((x.fLog.drop a).take (e - a)) wc we vv from ⟨FF, r1, r2, r3, hb⟩); clear r1 r2 r3 hb)
          all_goals (go_meet; go_light)
          all_goals exact RM
        case neg =>
          by_cases hmn : (x.fLog.length : Int) < (a : Int) + mk
          all_goals go_wp2_with ((with_reducible refine (cloneEntry_calls ((x.fLog.drop a).take (e - a)) _ _ (Rp.S_cut (Rp.S_below G4.out HC.out) 2 rfl a (e - a) (by omega) (by omega) (by first | exact .inl rfl | exact .inr ⟨by omega, rfl⟩) (by first | rfl | omega)) (by simp; omega)).mono ?_); rintro ee we ⟨vv, FF, rfl, r1, r2, r3, hb⟩; have RM := (show MadeR kEntry 73 ((x.fLog.drop a).take (e - a)) wc we vv from ⟨FF, r1, r2, r3, hb⟩); clear r1 r2 r3 hb)
          all_goals (go_meet; go_light)
          all_goals exact RM
      case rest =>
        obtain ⟨F, hr6, hF, hnF, hb⟩ := hcut
        obtain ⟨P6, C6, rfl, _, _⟩ := Rp.Row_K hr6
        rename World => w5
        have hlx : ((x.fLog.drop a).take (e - a)).length = e - a := by rw [List.length_take]; omega
        rw [hlx] at hr6
        have hsz0 := hsz
        have HC := Lib.hid (HC.out.trans (hb.mono (by first | exact HC.out.size | (have := HC.out.size; omega)))); have hsz := Nat.le_trans hsz hb.size; have Xn := Lib.hid (Xn.out.below hb); have Xr := Lib.hid (Xr.out.below hb); clear cn_0 cn_1 cn_2 cn_3 cn_4 cn_5 cn_6 cn_7 cn_8 cr_0 cr_1 cr_2 cr_3 cr_4 cr_5 cr_6 cr_7 cr_8; clear hb; have cn_0 := Xn.out.cell 0 (v := .int .i64 x.fId) rfl; have cn_1 := Xn.out.cell 1 (v := .int .i64 x.fPeers) rfl; have cn_2 := Xn.out.cell 2 (v := .int .i64 x.fTerm) rfl; have cn_3 := Xn.out.cell 3 (v := .int .i64 x.fVote) rfl; have cn_4 := Xn.out.cell 4 (v := .slice A4 x.fLog.length d4) rfl; have cn_5 := Xn.out.cell 5 (v := .int .i64 x.fCommit) rfl; have cn_6 := Xn.out.cell 6 (v := .int .i64 x.fRole) rfl; have cn_7 := Xn.out.cell 7 (v := .slice A7 x.fVotes.length d7) rfl; have cn_8 := Xn.out.cell 8 (v := .slice (some ⟨bx, ox, none⟩) x.fMatch.length d8) rfl; have cr_0 := Xr.out.cell 0 (v := .int .i64 0) rfl; have cr_1 := Xr.out.cell 1 (v := .int .i64 0) rfl; have cr_2 := Xr.out.cell 2 (v := .int .i64 0) rfl; have cr_3 := Xr.out.cell 3 (v := .int .i64 0) rfl; have cr_4 := Xr.out.cell 4 (v := .int .i64 0) rfl; have cr_5 := Xr.out.cell 5 (v := .int .i64 0) rfl; have cr_6 := Xr.out.cell 6 (v := .slice none 0 0) rfl; have cr_7 := Xr.out.cell 7 (v := .int .i64 0) rfl; have cr_8 := Xr.out.cell 8 (v := .bool false) rfl
        have R6 := Lib.hid hr6; have T6 := Lib.hid (fun b h => Nat.le_trans hsz0 (hF b h) : ∀ b ∈ F, w.heap.size + 2 ≤ b); have NF := Lib.hid hnF
        clear hr6 hF hnF a0
        rw [hlx]
        go_upto_region 5 with fail
        refine wp_region_tab (G := Unit) (fun g => [(7, 13, .bool true), (47, 0, .pointer (some ⟨w.heap.size, 0, none⟩)), (0, 1, .int .i64 x.fId), (0, 2, .int .i64 pk), (0, 3, .pointer (some ⟨w.heap.size, 2, none⟩)), (0, 4, .int .i64 x.fTerm), (0, 5, .int .i64 a), (0, 6, .int .i64 a), (0, 7, .int .i64 (termV x.fLog a)), (0, 8, .slice P6 (e - a) C6), (0, 9, .pointer (some ⟨w.heap.size, 5, none⟩)), (0, 10, .int .i64 x.fCommit), (0, 11, .agg #[.int .i64 3, .int .i64 x.fId, .int .i64 pk, .int .i64 x.fTerm, .int .i64 a, .int .i64 (termV x.fLog a), .slice P6 (e - a) C6, .int .i64 x.fCommit, .bool false])])
            (fun L g W => (Below w.heap.size w W) ∧
              (w.heap.size + 2 ≤ W.heap.size) ∧
              (Box W w.heap.size #[.int .i64 x.fId, .int .i64 x.fPeers, .int .i64 x.fTerm, .int .i64 x.fVote, .slice A4 x.fLog.length d4, .int .i64 x.fCommit, .int .i64 x.fRole, .slice A7 x.fVotes.length d7, .slice (some ⟨bx, ox, none⟩) x.fMatch.length d8] 30) ∧
              (L 12 = false → Box W (w.heap.size + 1) #[.int .i64 0, .int .i64 0, .int .i64 0, .int .i64 0, .int .i64 0, .int .i64 0, .slice none 0 0, .int .i64 0, .bool false] 45) ∧
              (L 12 = true → Box W (w.heap.size + 1) #[.int .i64 3, .int .i64 x.fId, .int .i64 pk, .int .i64 x.fTerm, .int .i64 a, .int .i64 (termV x.fLog a), .slice P6 (e - a) C6, .int .i64 x.fCommit, .bool false] 45) ∧
              (kEntry.Row 73 W F ((x.fLog.drop a).take (e - a)) (.slice P6 (e - a) C6)))
            (()) (by kernel_rfl) (by kernel_rfl) (fun _ => rfl) ?_ ?_ ?_
        · exact ⟨HC.out.drew, hsz, Xn.out.drew, fun _ => Xr.out.drew, nofun, Rp.Row_below R6.out (Below.refl _ _).drew⟩
        · simp (config := { maxSteps := 4000000 }) only [StepsT, layT, Nat.reduceAdd, Nat.reduceBEq, cond_true, cond_false]
          refine ⟨?_, ?_, ?_, ?_, ?_, ?_, ?_, ?_, ?_, ?_, ?_, ?_, ?_, ?_, trivial⟩
          · rintro L g0 W hL hd ⟨q0, q1, q2, q3, q4, q5⟩
            try dsimp only at q0 q1 q2 q3 q4 q5
            try simp only [depsT, Region.binds, forall_const, and_true, beq_iff_eq, reduceCtorEq, false_implies, true_and] at hd
            intro K hK; refine do_wanted rfl ?_
            have HK := Lib.hid hK; clear hK
            try simp only [hd, cond_true]
            have Q0 := Lib.hid q0; have Q1 := Lib.hid q1; have Q2 := Lib.hid q2; have Q3 := Lib.hid q3; have Q4 := Lib.hid q4; have Q5 := Lib.hid q5
            clear q0 q1 q2 q3 q4 q5
            go_wp2
            exact HK.out _ _ ⟨(), by simp only [upd, Nat.reduceBEq, cond_true, cond_false, hd], ⟨Q0.out, Q1.out, Q2.out, Q3.out, Q4.out, Q5.out⟩⟩
          · rintro L g0 W hL hd ⟨q0, q1, q2, q3, q4, q5⟩
            try dsimp only at q0 q1 q2 q3 q4 q5
            try simp only [depsT, Region.binds, forall_const, and_true, beq_iff_eq, reduceCtorEq, false_implies, true_and] at hd
            intro K hK; refine do_wanted rfl ?_
            have HK := Lib.hid hK; clear hK
            try simp only [hd, cond_true]
            have cc := q2.cell 0 (v := .int .i64 x.fId) rfl
            have Q0 := Lib.hid q0; have Q1 := Lib.hid q1; have Q2 := Lib.hid q2; have Q3 := Lib.hid q3; have Q4 := Lib.hid q4; have Q5 := Lib.hid q5
            clear q0 q1 q2 q3 q4 q5
            go_wp2
            exact HK.out _ _ ⟨(), by simp only [upd, Nat.reduceBEq, cond_true, cond_false, hd], ⟨Q0.out, Q1.out, Q2.out, Q3.out, Q4.out, Q5.out⟩⟩
          · rintro L g0 W hL hd ⟨q0, q1, q2, q3, q4, q5⟩
            try dsimp only at q0 q1 q2 q3 q4 q5
            try simp only [depsT, Region.binds, forall_const, and_true, beq_iff_eq, reduceCtorEq, false_implies, true_and] at hd
            intro K hK; refine do_wanted rfl ?_
            have HK := Lib.hid hK; clear hK
            try simp only [hd, cond_true]
            have Q0 := Lib.hid q0; have Q1 := Lib.hid q1; have Q2 := Lib.hid q2; have Q3 := Lib.hid q3; have Q4 := Lib.hid q4; have Q5 := Lib.hid q5
            clear q0 q1 q2 q3 q4 q5
            go_wp2
            exact HK.out _ _ ⟨(), by simp only [upd, Nat.reduceBEq, cond_true, cond_false, hd], ⟨Q0.out, Q1.out, Q2.out, Q3.out, Q4.out, Q5.out⟩⟩
          · rintro L g0 W hL hd ⟨q0, q1, q2, q3, q4, q5⟩
            try dsimp only at q0 q1 q2 q3 q4 q5
            try simp only [depsT, Region.binds, forall_const, and_true, beq_iff_eq, reduceCtorEq, false_implies, true_and] at hd
            intro K hK; refine do_wanted rfl ?_
            have HK := Lib.hid hK; clear hK
            try simp only [hd, cond_true]
            have Q0 := Lib.hid q0; have Q1 := Lib.hid q1; have Q2 := Lib.hid q2; have Q3 := Lib.hid q3; have Q4 := Lib.hid q4; have Q5 := Lib.hid q5
            clear q0 q1 q2 q3 q4 q5
            go_wp2
            exact HK.out _ _ ⟨(), by simp only [upd, Nat.reduceBEq, cond_true, cond_false, hd], ⟨Q0.out, Q1.out, Q2.out, Q3.out, Q4.out, Q5.out⟩⟩
          · rintro L g0 W hL hd ⟨q0, q1, q2, q3, q4, q5⟩
            try dsimp only at q0 q1 q2 q3 q4 q5
            try simp only [depsT, Region.binds, forall_const, and_true, beq_iff_eq, reduceCtorEq, false_implies, true_and] at hd
            intro K hK; refine do_wanted rfl ?_
            have HK := Lib.hid hK; clear hK
            try simp only [hd, cond_true]
            have cc := q2.cell 2 (v := .int .i64 x.fTerm) rfl
            have Q0 := Lib.hid q0; have Q1 := Lib.hid q1; have Q2 := Lib.hid q2; have Q3 := Lib.hid q3; have Q4 := Lib.hid q4; have Q5 := Lib.hid q5
            clear q0 q1 q2 q3 q4 q5
            go_wp2
            exact HK.out _ _ ⟨(), by simp only [upd, Nat.reduceBEq, cond_true, cond_false, hd], ⟨Q0.out, Q1.out, Q2.out, Q3.out, Q4.out, Q5.out⟩⟩
          · rintro L g0 W hL hd ⟨q0, q1, q2, q3, q4, q5⟩
            try dsimp only at q0 q1 q2 q3 q4 q5
            try simp only [depsT, Region.binds, forall_const, and_true, beq_iff_eq, reduceCtorEq, false_implies, true_and] at hd
            intro K hK; refine do_wanted rfl ?_
            have HK := Lib.hid hK; clear hK
            try simp only [hd, cond_true]
            have Q0 := Lib.hid q0; have Q1 := Lib.hid q1; have Q2 := Lib.hid q2; have Q3 := Lib.hid q3; have Q4 := Lib.hid q4; have Q5 := Lib.hid q5
            clear q0 q1 q2 q3 q4 q5
            go_wp2
            exact HK.out _ _ ⟨(), by simp only [upd, Nat.reduceBEq, cond_true, cond_false, hd], ⟨Q0.out, Q1.out, Q2.out, Q3.out, Q4.out, Q5.out⟩⟩
          · rintro L g0 W hL hd ⟨q0, q1, q2, q3, q4, q5⟩
            try dsimp only at q0 q1 q2 q3 q4 q5
            try simp only [depsT, Region.binds, forall_const, and_true, beq_iff_eq, reduceCtorEq, false_implies, true_and] at hd
            intro K hK; refine do_wanted rfl ?_
            have HK := Lib.hid hK; clear hK
            try simp only [hd, cond_true]
            have Q0 := Lib.hid q0; have Q1 := Lib.hid q1; have Q2 := Lib.hid q2; have Q3 := Lib.hid q3; have Q4 := Lib.hid q4; have Q5 := Lib.hid q5
            clear q0 q1 q2 q3 q4 q5
            go_wp2
            exact HK.out _ _ ⟨(), by simp only [upd, Nat.reduceBEq, cond_true, cond_false, hd], ⟨Q0.out, Q1.out, Q2.out, Q3.out, Q4.out, Q5.out⟩⟩
          · rintro L g0 W hL hd ⟨q0, q1, q2, q3, q4, q5⟩
            try dsimp only at q0 q1 q2 q3 q4 q5
            try simp only [depsT, Region.binds, forall_const, and_true, beq_iff_eq, reduceCtorEq, false_implies, true_and] at hd
            intro K hK; refine do_wanted rfl ?_
            have HK := Lib.hid hK; clear hK
            try simp only [hd, cond_true]
            have Q0 := Lib.hid q0; have Q1 := Lib.hid q1; have Q2 := Lib.hid q2; have Q3 := Lib.hid q3; have Q4 := Lib.hid q4; have Q5 := Lib.hid q5
            clear q0 q1 q2 q3 q4 q5
            go_wp2_with ((with_reducible refine (iTerm_calls x.fLog a w.heap.size _ _ (Rp.S_below G4.out Q0.out) (Q2.out.cell 4 rfl) hal (by omega)).mono ?_); rintro ee we ⟨rfl, rfl⟩)
            exact HK.out _ _ ⟨(), by simp only [upd, Nat.reduceBEq, cond_true, cond_false, hd], ⟨Q0.out, Q1.out, Q2.out, Q3.out, Q4.out, Q5.out⟩⟩
          · rintro L g0 W hL hd ⟨q0, q1, q2, q3, q4, q5⟩
            try dsimp only at q0 q1 q2 q3 q4 q5
            try simp only [depsT, Region.binds, forall_const, and_true, beq_iff_eq, reduceCtorEq, false_implies, true_and] at hd
            intro K hK; refine do_wanted rfl ?_
            have HK := Lib.hid hK; clear hK
            try simp only [hd, cond_true]
            have Q0 := Lib.hid q0; have Q1 := Lib.hid q1; have Q2 := Lib.hid q2; have Q3 := Lib.hid q3; have Q4 := Lib.hid q4; have Q5 := Lib.hid q5
            clear q0 q1 q2 q3 q4 q5
            go_wp2
            exact HK.out _ _ ⟨(), by simp only [upd, Nat.reduceBEq, cond_true, cond_false, hd], ⟨Q0.out, Q1.out, Q2.out, Q3.out, Q4.out, Q5.out⟩⟩
          · rintro L g0 W hL hd ⟨q0, q1, q2, q3, q4, q5⟩
            try dsimp only at q0 q1 q2 q3 q4 q5
            try simp only [depsT, Region.binds, forall_const, and_true, beq_iff_eq, reduceCtorEq, false_implies, true_and] at hd
            intro K hK; refine do_wanted rfl ?_
            have HK := Lib.hid hK; clear hK
            try simp only [hd, cond_true]
            have Q0 := Lib.hid q0; have Q1 := Lib.hid q1; have Q2 := Lib.hid q2; have Q3 := Lib.hid q3; have Q4 := Lib.hid q4; have Q5 := Lib.hid q5
            clear q0 q1 q2 q3 q4 q5
            go_wp2
            exact HK.out _ _ ⟨(), by simp only [upd, Nat.reduceBEq, cond_true, cond_false, hd], ⟨Q0.out, Q1.out, Q2.out, Q3.out, Q4.out, Q5.out⟩⟩
          · rintro L g0 W hL hd ⟨q0, q1, q2, q3, q4, q5⟩
            try dsimp only at q0 q1 q2 q3 q4 q5
            try simp only [depsT, Region.binds, forall_const, and_true, beq_iff_eq, reduceCtorEq, false_implies, true_and] at hd
            intro K hK; refine do_wanted rfl ?_
            have HK := Lib.hid hK; clear hK
            try simp only [hd, cond_true]
            have cc := q2.cell 5 (v := .int .i64 x.fCommit) rfl
            have Q0 := Lib.hid q0; have Q1 := Lib.hid q1; have Q2 := Lib.hid q2; have Q3 := Lib.hid q3; have Q4 := Lib.hid q4; have Q5 := Lib.hid q5
            clear q0 q1 q2 q3 q4 q5
            go_wp2
            exact HK.out _ _ ⟨(), by simp only [upd, Nat.reduceBEq, cond_true, cond_false, hd], ⟨Q0.out, Q1.out, Q2.out, Q3.out, Q4.out, Q5.out⟩⟩
          · rintro L g0 W hL hd ⟨q0, q1, q2, q3, q4, q5⟩
            try dsimp only at q0 q1 q2 q3 q4 q5
            try simp only [depsT, Region.binds, forall_const, and_true, beq_iff_eq, reduceCtorEq, false_implies, true_and] at hd
            intro K hK; refine do_wanted rfl ?_
            have HK := Lib.hid hK; clear hK
            try simp only [hd, cond_true]
            have Q0 := Lib.hid q0; have Q1 := Lib.hid q1; have Q2 := Lib.hid q2; have Q3 := Lib.hid q3; have Q4 := Lib.hid q4; have Q5 := Lib.hid q5
            clear q0 q1 q2 q3 q4 q5
            go_wp2
            exact HK.out _ _ ⟨(), by simp only [upd, Nat.reduceBEq, cond_true, cond_false, hd], ⟨Q0.out, Q1.out, Q2.out, Q3.out, Q4.out, Q5.out⟩⟩
          · rintro L g0 W hL hd ⟨q0, q1, q2, q3, q4, q5⟩
            try dsimp only at q0 q1 q2 q3 q4 q5
            try simp only [depsT, Region.binds, forall_const, and_true, beq_iff_eq, reduceCtorEq, false_implies, true_and] at hd
            intro K hK; refine do_wanted rfl ?_
            have HK := Lib.hid hK; clear hK
            try simp only [hd, cond_true]
            have hz := q3 hL
            have cz0 := hz.cell 0 (v := .int .i64 0) rfl; have cz1 := hz.cell 1 (v := .int .i64 0) rfl; have cz2 := hz.cell 2 (v := .int .i64 0) rfl; have cz3 := hz.cell 3 (v := .int .i64 0) rfl; have cz4 := hz.cell 4 (v := .int .i64 0) rfl; have cz5 := hz.cell 5 (v := .int .i64 0) rfl; have cz6 := hz.cell 6 (v := .slice none 0 0) rfl; have cz7 := hz.cell 7 (v := .int .i64 0) rfl; have cz8 := hz.cell 8 (v := .bool false) rfl
            have fz := hz.fro
            have HZ := Lib.hid hz; clear hz
            have Q0 := Lib.hid q0; have Q1 := Lib.hid q1; have Q2 := Lib.hid q2; have Q3 := Lib.hid q3; have Q4 := Lib.hid q4; have Q5 := Lib.hid q5
            clear q0 q1 q2 q3 q4 q5
            go_wp2
            change K _ (Rp.setN W (w.heap.size + 1) 0 [.int .i64 3, .int .i64 x.fId, .int .i64 pk, .int .i64 x.fTerm, .int .i64 a, .int .i64 (termV x.fLog a), .slice P6 (e - a) C6, .int .i64 x.fCommit, .bool false])
            obtain ⟨hk, hbx⟩ := HZ.out.stored [.int .i64 3, .int .i64 x.fId, .int .i64 pk, .int .i64 x.fTerm, .int .i64 a, .int .i64 (termV x.fLog a), .slice P6 (e - a) C6, .int .i64 x.fCommit, .bool false] 0
            rw [setA_all (by rfl)] at hbx
            have hq1 := Q1.out
            exact HK.out _ _ ⟨(), by simp only [upd, Nat.reduceBEq, cond_true, cond_false, hd], ⟨Q0.out.trans (hk.toBelow Q0.out.size (by simp)), Nat.le_trans Q1.out hk.size, Box_ne Q2.out hk (by omega), fun h => absurd h (by simp [upd]), fun _ => hbx, Row_ne Q5.out hk (fun h => by have := T6.out _ h; omega)⟩⟩
          · rintro L g0 W hL hd ⟨q0, q1, q2, q3, q4, q5⟩
            try dsimp only at q0 q1 q2 q3 q4 q5
            try simp only [depsT, Region.binds, forall_const, and_true, beq_iff_eq, reduceCtorEq, false_implies, true_and] at hd
            intro K hK; refine do_wanted rfl ?_
            have HK := Lib.hid hK; clear hK
            try simp only [hd, cond_true]
            have Q0 := Lib.hid q0; have Q1 := Lib.hid q1; have Q2 := Lib.hid q2; have Q3 := Lib.hid q3; have Q4 := Lib.hid q4; have Q5 := Lib.hid q5
            clear q0 q1 q2 q3 q4 q5
            go_wp2
            exact HK.out _ _ ⟨(), by simp only [upd, Nat.reduceBEq, cond_true, cond_false, hd], ⟨Q0.out, Q1.out, Q2.out, Q3.out, Q4.out, Q5.out⟩⟩
        · simp (config := { maxSteps := 4000000 }) only [layT, Nat.reduceAdd, Nat.reduceBEq, cond_true, cond_false]
          rintro L g0 W hd ⟨q0, q1, q2, q3, q4, q5⟩
          simp only [doneT, true_and, List.length_cons, List.length_nil, Nat.reduceAdd] at hd
          obtain ⟨⟨⟨⟨⟨⟨⟨⟨⟨⟨⟨⟨⟨e0, e1⟩, e2⟩, e3⟩, e4⟩, e5⟩, e6⟩, e7⟩, e8⟩, e9⟩, e10⟩, e11⟩, e12⟩, e13⟩ := hd
          try dsimp only at q0 q1 q2 q3 q4 q5
          simp only [e0, e1, e2, e3, e4, e5, e6, e7, e8, e9, e10, e11, e12, e13, cond_true]
          have hb4 := q4 e12
          have dz0 := hb4.cell 0 (v := .int .i64 3) rfl; have dz1 := hb4.cell 1 (v := .int .i64 x.fId) rfl; have dz2 := hb4.cell 2 (v := .int .i64 pk) rfl; have dz3 := hb4.cell 3 (v := .int .i64 x.fTerm) rfl; have dz4 := hb4.cell 4 (v := .int .i64 a) rfl; have dz5 := hb4.cell 5 (v := .int .i64 (termV x.fLog a)) rfl; have dz6 := hb4.cell 6 (v := .slice P6 (e - a) C6) rfl; have dz7 := hb4.cell 7 (v := .int .i64 x.fCommit) rfl; have dz8 := hb4.cell 8 (v := .bool false) rfl
          have HQ := Lib.hid (And.intro q0 q5)
          clear q0 q1 q2 q3 q4 q5 hb4 HC hsz Xn Xr cn_0 cn_1 cn_2 cn_3 cn_4 cn_5 cn_6 cn_7 cn_8 cr_0 cr_1 cr_2 cr_3 cr_4 cr_5 cr_6 cr_7 cr_8
          go_wp2
          refine bodyPost_ret (v := .tuple #[.agg #[.int .i64 3, .int .i64 x.fId, .int .i64 pk, .int .i64 x.fTerm, .int .i64 a, .int .i64 (termV x.fLog a), .slice P6 (e - a) C6, .int .i64 x.fCommit, .bool false], .bool true]) (by simp [results, Try.results30, go_sem, dz0, dz1, dz2, dz3, dz4, dz5, dz6, dz7, dz8]) rfl ⟨_, (by first | rw [ho] | rfl), ?_⟩
          rw [hov, afM, hat, Int.toNat_natCast, Int.toNat_natCast, he3]
          exact Made.msg (x := ⟨3, x.fId, pk, x.fTerm, a, termV x.fLog a, (x.fLog.drop a).take (e - a), x.fCommit, false⟩) (N := w.heap.size + 2) (by omega) HQ.out.2 T6.out NF.out HQ.out.1

end Go.Proofs.Ytljkcmbebdbnaaa
