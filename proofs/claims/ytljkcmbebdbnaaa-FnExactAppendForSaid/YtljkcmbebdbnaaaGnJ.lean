/- Nodes: what a leader sends, by the reference. -/
import Derived.Test.YtljkcmbebdbnaaaGnI
namespace Go.Proofs.Ytljkcmbebdbnaaa
open Go Go.RowKit Go.Sort
set_option linter.unusedVariables false
set_option linter.unusedSimpArgs false

set_option maxHeartbeats 8000000 in
set_option maxRecDepth 100000 in
theorem sAf_calls (x : DRaftNode) (p m : Int) (v4 v7 v8 : Value) (w : World) (g4 : kEntry.S w x.fLog v4) (g7 : kInt.S w x.fVotes v7) (g8 : kInt.S w x.fMatch v8) (hl : smRaftNode 1048576 x) : Calls Try.prog 29 #[.agg #[.int .i64 x.fId, .int .i64 x.fPeers, .int .i64 x.fTerm, .int .i64 x.fVote, v4, .int .i64 x.fCommit, .int .i64 x.fRole, v7, v8], .int .i64 p, .int .i64 m] w
    fun e w' => ∃ v, e = .returned (.tuple #[v, .bool (afOk x p m)]) ∧ Made kRaftMsg (afV x p m) w w' v := by
  have G4 := Lib.hid g4; have G7 := Lib.hid g7; have G8 := Lib.hid g8
  obtain ⟨A4, d4, rfl, _, _⟩ := g4
  obtain ⟨A7, d7, rfl, _, _⟩ := g7
  obtain ⟨A8, d8, rfl, _, _⟩ := g8
  go_enter Try.func29, Try.ntmps29
  go_upto_region 1 with fail
  have HC := Lib.hid (show Below w.heap.size w ((w.alloc (.cells #[.int .i64 x.fId, .int .i64 x.fPeers, .int .i64 x.fTerm, .int .i64 x.fVote, .slice A4 x.fLog.length d4, .int .i64 x.fCommit, .int .i64 x.fRole, .slice A7 x.fVotes.length d7, .slice A8 x.fMatch.length d8] 30)).alloc (.cells #[.int .i64 0, .int .i64 0, .int .i64 0, .int .i64 0, .int .i64 0, .int .i64 0, .slice none 0 0, .int .i64 0, .bool false] 45)) from Below.alloc (Below.alloc (Below.refl w.heap.size w) (by first | exact Nat.le_refl _ | (simp; done) | (simp; omega)) (.cells #[.int .i64 x.fId, .int .i64 x.fPeers, .int .i64 x.fTerm, .int .i64 x.fVote, .slice A4 x.fLog.length d4, .int .i64 x.fCommit, .int .i64 x.fRole, .slice A7 x.fVotes.length d7, .slice A8 x.fMatch.length d8] 30)) (by first | exact Nat.le_refl _ | (simp; done) | (simp; omega)) (.cells #[.int .i64 0, .int .i64 0, .int .i64 0, .int .i64 0, .int .i64 0, .int .i64 0, .slice none 0 0, .int .i64 0, .bool false] 45))
  have Xn := Lib.hid (show Box ((w.alloc (.cells #[.int .i64 x.fId, .int .i64 x.fPeers, .int .i64 x.fTerm, .int .i64 x.fVote, .slice A4 x.fLog.length d4, .int .i64 x.fCommit, .int .i64 x.fRole, .slice A7 x.fVotes.length d7, .slice A8 x.fMatch.length d8] 30)).alloc (.cells #[.int .i64 0, .int .i64 0, .int .i64 0, .int .i64 0, .int .i64 0, .int .i64 0, .slice none 0 0, .int .i64 0, .bool false] 45)) (w.heap.size) #[.int .i64 x.fId, .int .i64 x.fPeers, .int .i64 x.fTerm, .int .i64 x.fVote, .slice A4 x.fLog.length d4, .int .i64 x.fCommit, .int .i64 x.fRole, .slice A7 x.fVotes.length d7, .slice A8 x.fMatch.length d8] 30 from Box.alloc (Box.new rfl))
  have Xr := Lib.hid (show Box ((w.alloc (.cells #[.int .i64 x.fId, .int .i64 x.fPeers, .int .i64 x.fTerm, .int .i64 x.fVote, .slice A4 x.fLog.length d4, .int .i64 x.fCommit, .int .i64 x.fRole, .slice A7 x.fVotes.length d7, .slice A8 x.fMatch.length d8] 30)).alloc (.cells #[.int .i64 0, .int .i64 0, .int .i64 0, .int .i64 0, .int .i64 0, .int .i64 0, .slice none 0 0, .int .i64 0, .bool false] 45)) (w.heap.size + 1) #[.int .i64 0, .int .i64 0, .int .i64 0, .int .i64 0, .int .i64 0, .int .i64 0, .slice none 0 0, .int .i64 0, .bool false] 45 from Box.new (by simp))
  have hsz : w.heap.size + 2 ≤ ((w.alloc (.cells #[.int .i64 x.fId, .int .i64 x.fPeers, .int .i64 x.fTerm, .int .i64 x.fVote, .slice A4 x.fLog.length d4, .int .i64 x.fCommit, .int .i64 x.fRole, .slice A7 x.fVotes.length d7, .slice A8 x.fMatch.length d8] 30)).alloc (.cells #[.int .i64 0, .int .i64 0, .int .i64 0, .int .i64 0, .int .i64 0, .int .i64 0, .slice none 0 0, .int .i64 0, .bool false] 45)).heap.size := by simp
  generalize (w.alloc (.cells #[.int .i64 x.fId, .int .i64 x.fPeers, .int .i64 x.fTerm, .int .i64 x.fVote, .slice A4 x.fLog.length d4, .int .i64 x.fCommit, .int .i64 x.fRole, .slice A7 x.fVotes.length d7, .slice A8 x.fMatch.length d8] 30)).alloc (.cells #[.int .i64 0, .int .i64 0, .int .i64 0, .int .i64 0, .int .i64 0, .int .i64 0, .slice none 0 0, .int .i64 0, .bool false] 45) = w1 at *
  have cn_0 := Xn.out.cell 0 (v := .int .i64 x.fId) rfl; have cn_1 := Xn.out.cell 1 (v := .int .i64 x.fPeers) rfl; have cn_2 := Xn.out.cell 2 (v := .int .i64 x.fTerm) rfl; have cn_3 := Xn.out.cell 3 (v := .int .i64 x.fVote) rfl; have cn_4 := Xn.out.cell 4 (v := .slice A4 x.fLog.length d4) rfl; have cn_5 := Xn.out.cell 5 (v := .int .i64 x.fCommit) rfl; have cn_6 := Xn.out.cell 6 (v := .int .i64 x.fRole) rfl; have cn_7 := Xn.out.cell 7 (v := .slice A7 x.fVotes.length d7) rfl; have cn_8 := Xn.out.cell 8 (v := .slice A8 x.fMatch.length d8) rfl; have cr_0 := Xr.out.cell 0 (v := .int .i64 0) rfl; have cr_1 := Xr.out.cell 1 (v := .int .i64 0) rfl; have cr_2 := Xr.out.cell 2 (v := .int .i64 0) rfl; have cr_3 := Xr.out.cell 3 (v := .int .i64 0) rfl; have cr_4 := Xr.out.cell 4 (v := .int .i64 0) rfl; have cr_5 := Xr.out.cell 5 (v := .int .i64 0) rfl; have cr_6 := Xr.out.cell 6 (v := .slice none 0 0) rfl; have cr_7 := Xr.out.cell 7 (v := .int .i64 0) rfl; have cr_8 := Xr.out.cell 8 (v := .bool false) rfl
  have hrw : nodeOk x = true → IntKind.i64.wrap (x.fPeers - 1) = x.fPeers - 1 := fun h => by have := nodeOk_facts h; rw [IntKind.wrap_i64]; omega
  have HRW := Lib.hid hrw; clear hrw
  go_cut [36] from 10 to 36 (fun s wx => (Below w.heap.size w wx ∧ w.heap.size + 2 ≤ wx.heap.size ∧ Box wx w.heap.size #[.int .i64 x.fId, .int .i64 x.fPeers, .int .i64 x.fTerm, .int .i64 x.fVote, .slice A4 x.fLog.length d4, .int .i64 x.fCommit, .int .i64 x.fRole, .slice A7 x.fVotes.length d7, .slice A8 x.fMatch.length d8] 30 ∧ Box wx (w.heap.size + 1) #[.int .i64 0, .int .i64 0, .int .i64 0, .int .i64 0, .int .i64 0, .int .i64 0, .slice none 0 0, .int .i64 0, .bool false] 45) ∧ s = .bool (!afOk x p m))
  case first =>
    cases e1 : (x.fRole == 2)
    all_goals have e2 : (x.fRole != 2) = !(x.fRole == 2) := rfl
    all_goals rw [e1] at e2
    all_goals simp only [Bool.not_true, Bool.not_false] at e2
    all_goals cases e3 : (p == x.fId)
    all_goals go_wp2_with (first | (go_at_call 14; (with_reducible refine (sGoodNode_calls x _ _ _ _ (Rp.S_below G4.out HC.out) (Rp.S_below G7.out HC.out) (Rp.S_below G8.out HC.out) hl).mono ?_); rintro e wq ⟨rfl, hb⟩; cases hg : nodeOk x <;> (try have hrw2 := HRW.out hg) <;> (have HC := Lib.hid (HC.out.trans (hb.mono (by first | exact HC.out.size | (have := HC.out.size; omega)))); have hsz := Nat.le_trans hsz hb.size; have Xn := Lib.hid (Xn.out.below hb); have Xr := Lib.hid (Xr.out.below hb); clear cn_0 cn_1 cn_2 cn_3 cn_4 cn_5 cn_6 cn_7 cn_8 cr_0 cr_1 cr_2 cr_3 cr_4 cr_5 cr_6 cr_7 cr_8; clear hb; have cn_0 := Xn.out.cell 0 (v := .int .i64 x.fId) rfl; have cn_1 := Xn.out.cell 1 (v := .int .i64 x.fPeers) rfl; have cn_2 := Xn.out.cell 2 (v := .int .i64 x.fTerm) rfl; have cn_3 := Xn.out.cell 3 (v := .int .i64 x.fVote) rfl; have cn_4 := Xn.out.cell 4 (v := .slice A4 x.fLog.length d4) rfl; have cn_5 := Xn.out.cell 5 (v := .int .i64 x.fCommit) rfl; have cn_6 := Xn.out.cell 6 (v := .int .i64 x.fRole) rfl; have cn_7 := Xn.out.cell 7 (v := .slice A7 x.fVotes.length d7) rfl; have cn_8 := Xn.out.cell 8 (v := .slice A8 x.fMatch.length d8) rfl; have cr_0 := Xr.out.cell 0 (v := .int .i64 0) rfl; have cr_1 := Xr.out.cell 1 (v := .int .i64 0) rfl; have cr_2 := Xr.out.cell 2 (v := .int .i64 0) rfl; have cr_3 := Xr.out.cell 3 (v := .int .i64 0) rfl; have cr_4 := Xr.out.cell 4 (v := .int .i64 0) rfl; have cr_5 := Xr.out.cell 5 (v := .int .i64 0) rfl; have cr_6 := Xr.out.cell 6 (v := .slice none 0 0) rfl; have cr_7 := Xr.out.cell 7 (v := .int .i64 0) rfl; have cr_8 := Xr.out.cell 8 (v := .bool false) rfl)) | (with_reducible refine (sInR_calls p _ _ _).mono ?_; rintro e wq ⟨rfl, rfl⟩; cases h2 : inR p 0 (x.fPeers - 1)) | (with_reducible refine (sInR_calls m _ _ _).mono ?_; rintro e wq ⟨rfl, rfl⟩; cases h3 : inR m 0 60))
    all_goals (go_meet; go_light)
    all_goals refine ⟨⟨HC.out, hsz, Xn.out, Xr.out⟩, ?_⟩
    all_goals (congr 1; rw [afOk]; simp [*])
  case rest =>
    obtain ⟨⟨hcc, hsz2, hxn, hxr⟩, rfl⟩ := hcut
    clear HC hsz Xn Xr HRW cn_0 cn_1 cn_2 cn_3 cn_4 cn_5 cn_6 cn_7 cn_8 cr_0 cr_1 cr_2 cr_3 cr_4 cr_5 cr_6 cr_7 cr_8
    have hsz := hsz2; have HC := Lib.hid hcc; have Xn := Lib.hid hxn; have Xr := Lib.hid hxr
    clear hsz2 hcc hxn hxr
    have cn_0 := Xn.out.cell 0 (v := .int .i64 x.fId) rfl; have cn_1 := Xn.out.cell 1 (v := .int .i64 x.fPeers) rfl; have cn_2 := Xn.out.cell 2 (v := .int .i64 x.fTerm) rfl; have cn_3 := Xn.out.cell 3 (v := .int .i64 x.fVote) rfl; have cn_4 := Xn.out.cell 4 (v := .slice A4 x.fLog.length d4) rfl; have cn_5 := Xn.out.cell 5 (v := .int .i64 x.fCommit) rfl; have cn_6 := Xn.out.cell 6 (v := .int .i64 x.fRole) rfl; have cn_7 := Xn.out.cell 7 (v := .slice A7 x.fVotes.length d7) rfl; have cn_8 := Xn.out.cell 8 (v := .slice A8 x.fMatch.length d8) rfl; have cr_0 := Xr.out.cell 0 (v := .int .i64 0) rfl; have cr_1 := Xr.out.cell 1 (v := .int .i64 0) rfl; have cr_2 := Xr.out.cell 2 (v := .int .i64 0) rfl; have cr_3 := Xr.out.cell 3 (v := .int .i64 0) rfl; have cr_4 := Xr.out.cell 4 (v := .int .i64 0) rfl; have cr_5 := Xr.out.cell 5 (v := .int .i64 0) rfl; have cr_6 := Xr.out.cell 6 (v := .slice none 0 0) rfl; have cr_7 := Xr.out.cell 7 (v := .int .i64 0) rfl; have cr_8 := Xr.out.cell 8 (v := .bool false) rfl
    cases ho : afOk x p m <;> simp only [Bool.not_true, Bool.not_false]
    case false =>
      have fr_ := Xr.out.fro
      go_wp2
      obtain ⟨hk, bf⟩ := Xr.out.stored [.int .i64 0, .int .i64 0, .int .i64 0, .int .i64 0, .int .i64 0, .int .i64 0, .slice none 0 0, .int .i64 0, .bool false] 0
      rw [setA_all (by rfl)] at bf
      change bodyPost _ _ _ _ _ (Rp.setN wc (w.heap.size + 1) 0 [.int .i64 0, .int .i64 0, .int .i64 0, .int .i64 0, .int .i64 0, .int .i64 0, .slice none 0 0, .int .i64 0, .bool false])
      clear fr_ cn_0 cn_1 cn_2 cn_3 cn_4 cn_5 cn_6 cn_7 cn_8 cr_0 cr_1 cr_2 cr_3 cr_4 cr_5 cr_6 cr_7 cr_8
      have HK := Lib.hid hk; clear hk
      generalize Rp.setN wc (w.heap.size + 1) 0 [.int .i64 0, .int .i64 0, .int .i64 0, .int .i64 0, .int .i64 0, .int .i64 0, .slice none 0 0, .int .i64 0, .bool false] = wf at *
      have df0 := bf.cell 0 (v := .int .i64 0) rfl; have df1 := bf.cell 1 (v := .int .i64 0) rfl; have df2 := bf.cell 2 (v := .int .i64 0) rfl; have df3 := bf.cell 3 (v := .int .i64 0) rfl; have df4 := bf.cell 4 (v := .int .i64 0) rfl; have df5 := bf.cell 5 (v := .int .i64 0) rfl; have df6 := bf.cell 6 (v := .slice none 0 0) rfl; have df7 := bf.cell 7 (v := .int .i64 0) rfl; have df8 := bf.cell 8 (v := .bool false) rfl
      refine bodyPost_ret (v := .tuple #[.agg #[.int .i64 0, .int .i64 0, .int .i64 0, .int .i64 0, .int .i64 0, .int .i64 0, .slice none 0 0, .int .i64 0, .bool false], .bool false]) (by simp [results, Try.results29, go_sem, df0, df1, df2, df3, df4, df5, df6, df7, df8]) rfl ⟨_, by rw [ho], by rw [afV, ho]; exact Made.msg0 (HC.out.trans (HK.out.toBelow HC.out.size (by simp)))⟩
    case true =>
      have hov : afV x p m = afM x p m := by rw [afV, ho]; rfl
      have ho2 := ho
      simp only [afOk, Bool.and_eq_true, Bool.not_eq_true'] at ho2
      obtain ⟨⟨⟨⟨hg, hr⟩, hp⟩, hne⟩, hm⟩ := ho2
      obtain ⟨f1, f2, f3, f4, f5, f6, f7, f8, f9, _, _⟩ := nodeOk_facts hg
      obtain ⟨hml, hma⟩ := match_at hg hr
      have hp2 : 0 ≤ p ∧ p ≤ x.fPeers - 1 := by simpa [inR] using hp
      have hm2 : 0 ≤ m ∧ m ≤ 60 := by simpa [inR] using hm
      obtain ⟨pk, rfl⟩ : ∃ k : Nat, p = k := ⟨p.toNat, by omega⟩
      obtain ⟨mk, rfl⟩ : ∃ k : Nat, m = k := ⟨m.toNat, by omega⟩
      have hpl : pk < x.fMatch.length := by omega
      obtain ⟨a, ha, hal⟩ := hma pk hpl
      obtain ⟨bx, ox, e8, a0⟩ := int_at (S_open G8.out).2.2 HC.out pk hpl
      have hae : x.fMatch[pk] = (a : Int) := by rw [List.getElem?_eq_getElem hpl] at ha; exact Option.some.inj ha
      rw [hae] at a0
      have hat : atI x.fMatch (pk : Int) = a := by rw [atI, Int.toNat_natCast, List.getD_eq_getElem?_getD, ha]; rfl
      subst e8
      have hpb : (pk : Int) < (x.fMatch.length : Int) := by omega
      have hp0 : (0 : Int) ≤ (pk : Int) := by omega
      have hlc := (S_open G4.out).2.1.1
      have hw1 : IntKind.i64.wrap ((a : Int) + (mk : Int)) = (a : Int) + (mk : Int) := by rw [IntKind.wrap_i64]; omega
      have hd9 : (x.fLog.drop a).length = x.fLog.length - a := by simp
      obtain ⟨e, he, he1, he2⟩ : ∃ e : Nat, (if (a : Int) + mk < x.fLog.length then (a : Int) + mk else (x.fLog.length : Int)) = e ∧ a ≤ e ∧ e ≤ x.fLog.length ∧ (x.fLog.drop a).take mk = (x.fLog.drop a).take (e - a) := by
        by_cases h : (a : Int) + mk < x.fLog.length
        · exact ⟨a + mk, by rw [if_pos h]; omega, by omega, by omega, by rw [Nat.add_sub_cancel_left]⟩
        · exact ⟨x.fLog.length, by rw [if_neg h], hal, Nat.le_refl _, by rw [List.take_of_length_le (by omega), List.take_of_length_le (by omega)]⟩
      obtain ⟨he2, he3⟩ := he2
      go_upto_if 50 with fail
      go_cut [9] from 43 to 53 (fun s wx => wx = wc ∧ s = .int .i64 (e : Int))
      case first =>
        by_cases hmn : (x.fLog.length : Int) < (a : Int) + mk
        case pos =>
          have hee : (x.fLog.length : Int) = (e : Int) := by rw [if_neg (by omega)] at he; exact he
          have HE := Lib.hid hee; clear hee he
          go_wp2
          all_goals (go_meet; go_light)
          all_goals exact ⟨rfl, by rw [HE.out]⟩
        case neg =>
          have hee : (a : Int) + mk = (e : Int) := by split at he <;> omega
          have HE := Lib.hid hee; clear hee he
          go_wp2
          all_goals (go_meet; go_light)
          all_goals exact ⟨rfl, by rw [HE.out]⟩
      case rest =>
        obtain ⟨rfl, rfl⟩ := hcut
        have hle : (e : Int) ≤ (x.fLog.length : Int) := by omega
        have hla : (a : Int) ≤ (e : Int) := by omega
        have hl0 : (0 : Int) ≤ (a : Int) := by omega
        have hlx : ((x.fLog.drop a).take (e - a)).length = e - a := by rw [List.length_take]; omega
        clear a0
        go_upto_region 7 with fail
        refine wp_region_tab (G := Value × Nat × Value) (fun g => [(7, 20, .bool true), (46, 0, .pointer (some ⟨w.heap.size, 0, none⟩)), (0, 1, .int .i64 x.fId), (0, 2, .int .i64 pk), (0, 3, .pointer (some ⟨w.heap.size, 2, none⟩)), (0, 4, .int .i64 x.fTerm), (0, 5, .int .i64 a), (0, 6, .agg #[.int .i64 x.fId, .int .i64 x.fPeers, .int .i64 x.fTerm, .int .i64 x.fVote, .slice A4 x.fLog.length d4, .int .i64 x.fCommit, .int .i64 x.fRole, .slice A7 x.fVotes.length d7, .slice (some ⟨bx, ox, none⟩) x.fMatch.length d8]), (0, 7, .int .i64 a), (0, 8, .int .i64 (termV x.fLog a)), (0, 9, .slice (some ⟨g.2.1, 0, none⟩) 0 0), (0, 10, .pointer (some ⟨w.heap.size, 4, none⟩)), (0, 11, .slice A4 x.fLog.length d4), (0, 12, .int .i64 a), (0, 13, .int .i64 e), (0, 14, g.1), (0, 15, g.2.2), (0, 16, .pointer (some ⟨w.heap.size, 5, none⟩)), (0, 17, .int .i64 x.fCommit), (0, 18, .agg #[.int .i64 3, .int .i64 x.fId, .int .i64 pk, .int .i64 x.fTerm, .int .i64 a, .int .i64 (termV x.fLog a), g.2.2, .int .i64 x.fCommit, .bool false])])
            (fun L g W => (Below w.heap.size w W) ∧
              (w.heap.size + 2 ≤ W.heap.size) ∧
              (Box W w.heap.size #[.int .i64 x.fId, .int .i64 x.fPeers, .int .i64 x.fTerm, .int .i64 x.fVote, .slice A4 x.fLog.length d4, .int .i64 x.fCommit, .int .i64 x.fRole, .slice A7 x.fVotes.length d7, .slice (some ⟨bx, ox, none⟩) x.fMatch.length d8] 30) ∧
              (L 19 = false → Box W (w.heap.size + 1) #[.int .i64 0, .int .i64 0, .int .i64 0, .int .i64 0, .int .i64 0, .int .i64 0, .slice none 0 0, .int .i64 0, .bool false] 45) ∧
              (L 19 = true → Box W (w.heap.size + 1) #[.int .i64 3, .int .i64 x.fId, .int .i64 pk, .int .i64 x.fTerm, .int .i64 a, .int .i64 (termV x.fLog a), g.2.2, .int .i64 x.fCommit, .bool false] 45) ∧
              (L 14 = true → kEntry.S w ((x.fLog.drop a).take (e - a)) g.1) ∧
              (L 9 = true → L 15 = false → kEntry.Row 73 W [g.2.1] [] (.slice (some ⟨g.2.1, 0, none⟩) 0 0) ∧ w.heap.size + 2 ≤ g.2.1) ∧
              (L 15 = true → kEntry.Row 73 W (Rp.ofOwn g.2.2) ((x.fLog.drop a).take (e - a)) g.2.2 ∧ ∀ b ∈ Rp.ofOwn g.2.2, w.heap.size + 2 ≤ b) ∧
              ((L 19 = true → L 15 = true)) ∧
              ((L 18 = true → L 15 = true)))
            (undef, 0, undef) (by kernel_rfl) (by kernel_rfl) (fun _ => rfl) ?_ ?_ ?_
        · exact ⟨HC.out.drew, hsz, Xn.out.drew, fun _ => Xr.out.drew, nofun, nofun, nofun, nofun, nofun, nofun⟩
        · simp (config := { maxSteps := 4000000 }) only [StepsT, layT, Nat.reduceAdd, Nat.reduceBEq, cond_true, cond_false]
          refine ⟨?_, ?_, ?_, ?_, ?_, ?_, ?_, ?_, ?_, ?_, ?_, ?_, ?_, ?_, ?_, ?_, ?_, ?_, ?_, ?_, ?_, trivial⟩
          · rintro L ⟨s14, g9, v15⟩ W hL hd ⟨q0, q1, q2, q3, q4, q5, q6, q7, q8, q9⟩
            try dsimp only at q0 q1 q2 q3 q4 q5 q6 q7 q8 q9
            try simp only [depsT, Region.binds, forall_const, and_true, beq_iff_eq, reduceCtorEq, false_implies, true_and] at hd
            intro K hK; refine do_wanted rfl ?_
            have HK := Lib.hid hK; clear hK
            try simp only [hd, cond_true]
            have Q0 := Lib.hid q0; have Q1 := Lib.hid q1; have Q2 := Lib.hid q2; have Q3 := Lib.hid q3; have Q4 := Lib.hid q4; have Q5 := Lib.hid q5; have Q6 := Lib.hid q6; have Q7 := Lib.hid q7; have Q8 := Lib.hid q8; have Q9 := Lib.hid q9
            clear q0 q1 q2 q3 q4 q5 q6 q7 q8 q9
            go_wp2
            exact HK.out _ _ ⟨⟨s14, g9, v15⟩, by simp only [upd, Nat.reduceBEq, cond_true, cond_false, hd], ⟨Q0.out, Q1.out, Q2.out, Q3.out, Q4.out, Q5.out, Q6.out, Q7.out, Q8.out, Q9.out⟩⟩
          · rintro L ⟨s14, g9, v15⟩ W hL hd ⟨q0, q1, q2, q3, q4, q5, q6, q7, q8, q9⟩
            try dsimp only at q0 q1 q2 q3 q4 q5 q6 q7 q8 q9
            try simp only [depsT, Region.binds, forall_const, and_true, beq_iff_eq, reduceCtorEq, false_implies, true_and] at hd
            intro K hK; refine do_wanted rfl ?_
            have HK := Lib.hid hK; clear hK
            try simp only [hd, cond_true]
            have cc := q2.cell 0 (v := .int .i64 x.fId) rfl
            have Q0 := Lib.hid q0; have Q1 := Lib.hid q1; have Q2 := Lib.hid q2; have Q3 := Lib.hid q3; have Q4 := Lib.hid q4; have Q5 := Lib.hid q5; have Q6 := Lib.hid q6; have Q7 := Lib.hid q7; have Q8 := Lib.hid q8; have Q9 := Lib.hid q9
            clear q0 q1 q2 q3 q4 q5 q6 q7 q8 q9
            go_wp2
            exact HK.out _ _ ⟨⟨s14, g9, v15⟩, by simp only [upd, Nat.reduceBEq, cond_true, cond_false, hd], ⟨Q0.out, Q1.out, Q2.out, Q3.out, Q4.out, Q5.out, Q6.out, Q7.out, Q8.out, Q9.out⟩⟩
          · rintro L ⟨s14, g9, v15⟩ W hL hd ⟨q0, q1, q2, q3, q4, q5, q6, q7, q8, q9⟩
            try dsimp only at q0 q1 q2 q3 q4 q5 q6 q7 q8 q9
            try simp only [depsT, Region.binds, forall_const, and_true, beq_iff_eq, reduceCtorEq, false_implies, true_and] at hd
            intro K hK; refine do_wanted rfl ?_
            have HK := Lib.hid hK; clear hK
            try simp only [hd, cond_true]
            have Q0 := Lib.hid q0; have Q1 := Lib.hid q1; have Q2 := Lib.hid q2; have Q3 := Lib.hid q3; have Q4 := Lib.hid q4; have Q5 := Lib.hid q5; have Q6 := Lib.hid q6; have Q7 := Lib.hid q7; have Q8 := Lib.hid q8; have Q9 := Lib.hid q9
            clear q0 q1 q2 q3 q4 q5 q6 q7 q8 q9
            go_wp2
            exact HK.out _ _ ⟨⟨s14, g9, v15⟩, by simp only [upd, Nat.reduceBEq, cond_true, cond_false, hd], ⟨Q0.out, Q1.out, Q2.out, Q3.out, Q4.out, Q5.out, Q6.out, Q7.out, Q8.out, Q9.out⟩⟩
          · rintro L ⟨s14, g9, v15⟩ W hL hd ⟨q0, q1, q2, q3, q4, q5, q6, q7, q8, q9⟩
            try dsimp only at q0 q1 q2 q3 q4 q5 q6 q7 q8 q9
            try simp only [depsT, Region.binds, forall_const, and_true, beq_iff_eq, reduceCtorEq, false_implies, true_and] at hd
            intro K hK; refine do_wanted rfl ?_
            have HK := Lib.hid hK; clear hK
            try simp only [hd, cond_true]
            have Q0 := Lib.hid q0; have Q1 := Lib.hid q1; have Q2 := Lib.hid q2; have Q3 := Lib.hid q3; have Q4 := Lib.hid q4; have Q5 := Lib.hid q5; have Q6 := Lib.hid q6; have Q7 := Lib.hid q7; have Q8 := Lib.hid q8; have Q9 := Lib.hid q9
            clear q0 q1 q2 q3 q4 q5 q6 q7 q8 q9
            go_wp2
            exact HK.out _ _ ⟨⟨s14, g9, v15⟩, by simp only [upd, Nat.reduceBEq, cond_true, cond_false, hd], ⟨Q0.out, Q1.out, Q2.out, Q3.out, Q4.out, Q5.out, Q6.out, Q7.out, Q8.out, Q9.out⟩⟩
          · rintro L ⟨s14, g9, v15⟩ W hL hd ⟨q0, q1, q2, q3, q4, q5, q6, q7, q8, q9⟩
            try dsimp only at q0 q1 q2 q3 q4 q5 q6 q7 q8 q9
            try simp only [depsT, Region.binds, forall_const, and_true, beq_iff_eq, reduceCtorEq, false_implies, true_and] at hd
            intro K hK; refine do_wanted rfl ?_
            have HK := Lib.hid hK; clear hK
            try simp only [hd, cond_true]
            have cc := q2.cell 2 (v := .int .i64 x.fTerm) rfl
            have Q0 := Lib.hid q0; have Q1 := Lib.hid q1; have Q2 := Lib.hid q2; have Q3 := Lib.hid q3; have Q4 := Lib.hid q4; have Q5 := Lib.hid q5; have Q6 := Lib.hid q6; have Q7 := Lib.hid q7; have Q8 := Lib.hid q8; have Q9 := Lib.hid q9
            clear q0 q1 q2 q3 q4 q5 q6 q7 q8 q9
            go_wp2
            exact HK.out _ _ ⟨⟨s14, g9, v15⟩, by simp only [upd, Nat.reduceBEq, cond_true, cond_false, hd], ⟨Q0.out, Q1.out, Q2.out, Q3.out, Q4.out, Q5.out, Q6.out, Q7.out, Q8.out, Q9.out⟩⟩
          · rintro L ⟨s14, g9, v15⟩ W hL hd ⟨q0, q1, q2, q3, q4, q5, q6, q7, q8, q9⟩
            try dsimp only at q0 q1 q2 q3 q4 q5 q6 q7 q8 q9
            try simp only [depsT, Region.binds, forall_const, and_true, beq_iff_eq, reduceCtorEq, false_implies, true_and] at hd
            intro K hK; refine do_wanted rfl ?_
            have HK := Lib.hid hK; clear hK
            try simp only [hd, cond_true]
            have Q0 := Lib.hid q0; have Q1 := Lib.hid q1; have Q2 := Lib.hid q2; have Q3 := Lib.hid q3; have Q4 := Lib.hid q4; have Q5 := Lib.hid q5; have Q6 := Lib.hid q6; have Q7 := Lib.hid q7; have Q8 := Lib.hid q8; have Q9 := Lib.hid q9
            clear q0 q1 q2 q3 q4 q5 q6 q7 q8 q9
            go_wp2
            exact HK.out _ _ ⟨⟨s14, g9, v15⟩, by simp only [upd, Nat.reduceBEq, cond_true, cond_false, hd], ⟨Q0.out, Q1.out, Q2.out, Q3.out, Q4.out, Q5.out, Q6.out, Q7.out, Q8.out, Q9.out⟩⟩
          · rintro L ⟨s14, g9, v15⟩ W hL hd ⟨q0, q1, q2, q3, q4, q5, q6, q7, q8, q9⟩
            try dsimp only at q0 q1 q2 q3 q4 q5 q6 q7 q8 q9
            try simp only [depsT, Region.binds, forall_const, and_true, beq_iff_eq, reduceCtorEq, false_implies, true_and] at hd
            intro K hK; refine do_wanted rfl ?_
            have HK := Lib.hid hK; clear hK
            try simp only [hd, cond_true]
            have cc0 := q2.cell 0 (v := .int .i64 x.fId) rfl; have cc1 := q2.cell 1 (v := .int .i64 x.fPeers) rfl; have cc2 := q2.cell 2 (v := .int .i64 x.fTerm) rfl; have cc3 := q2.cell 3 (v := .int .i64 x.fVote) rfl; have cc4 := q2.cell 4 (v := .slice A4 x.fLog.length d4) rfl; have cc5 := q2.cell 5 (v := .int .i64 x.fCommit) rfl; have cc6 := q2.cell 6 (v := .int .i64 x.fRole) rfl; have cc7 := q2.cell 7 (v := .slice A7 x.fVotes.length d7) rfl; have cc8 := q2.cell 8 (v := .slice (some ⟨bx, ox, none⟩) x.fMatch.length d8) rfl
            have Q0 := Lib.hid q0; have Q1 := Lib.hid q1; have Q2 := Lib.hid q2; have Q3 := Lib.hid q3; have Q4 := Lib.hid q4; have Q5 := Lib.hid q5; have Q6 := Lib.hid q6; have Q7 := Lib.hid q7; have Q8 := Lib.hid q8; have Q9 := Lib.hid q9
            clear q0 q1 q2 q3 q4 q5 q6 q7 q8 q9
            go_wp2
            exact HK.out _ _ ⟨⟨s14, g9, v15⟩, by simp only [upd, Nat.reduceBEq, cond_true, cond_false, hd], ⟨Q0.out, Q1.out, Q2.out, Q3.out, Q4.out, Q5.out, Q6.out, Q7.out, Q8.out, Q9.out⟩⟩
          · rintro L ⟨s14, g9, v15⟩ W hL hd ⟨q0, q1, q2, q3, q4, q5, q6, q7, q8, q9⟩
            try dsimp only at q0 q1 q2 q3 q4 q5 q6 q7 q8 q9
            try simp only [depsT, Region.binds, forall_const, and_true, beq_iff_eq, reduceCtorEq, false_implies, true_and] at hd
            intro K hK; refine do_wanted rfl ?_
            have HK := Lib.hid hK; clear hK
            try simp only [hd, cond_true]
            have Q0 := Lib.hid q0; have Q1 := Lib.hid q1; have Q2 := Lib.hid q2; have Q3 := Lib.hid q3; have Q4 := Lib.hid q4; have Q5 := Lib.hid q5; have Q6 := Lib.hid q6; have Q7 := Lib.hid q7; have Q8 := Lib.hid q8; have Q9 := Lib.hid q9
            clear q0 q1 q2 q3 q4 q5 q6 q7 q8 q9
            go_wp2
            exact HK.out _ _ ⟨⟨s14, g9, v15⟩, by simp only [upd, Nat.reduceBEq, cond_true, cond_false, hd], ⟨Q0.out, Q1.out, Q2.out, Q3.out, Q4.out, Q5.out, Q6.out, Q7.out, Q8.out, Q9.out⟩⟩
          · rintro L ⟨s14, g9, v15⟩ W hL hd ⟨q0, q1, q2, q3, q4, q5, q6, q7, q8, q9⟩
            try dsimp only at q0 q1 q2 q3 q4 q5 q6 q7 q8 q9
            try simp only [depsT, Region.binds, forall_const, and_true, beq_iff_eq, reduceCtorEq, false_implies, true_and] at hd
            intro K hK; refine do_wanted rfl ?_
            have HK := Lib.hid hK; clear hK
            try simp only [hd, cond_true]
            have Q0 := Lib.hid q0; have Q1 := Lib.hid q1; have Q2 := Lib.hid q2; have Q3 := Lib.hid q3; have Q4 := Lib.hid q4; have Q5 := Lib.hid q5; have Q6 := Lib.hid q6; have Q7 := Lib.hid q7; have Q8 := Lib.hid q8; have Q9 := Lib.hid q9
            clear q0 q1 q2 q3 q4 q5 q6 q7 q8 q9
            go_wp2_with ((with_reducible refine (sTerm_calls x a _ _ _ _ (Rp.S_below G4.out Q0.out) (Rp.S_below G7.out Q0.out) (Rp.S_below G8.out Q0.out) hal (by omega)).mono ?_); rintro ee we ⟨rfl, hb⟩; have HB := Lib.hid hb; clear hb)
            exact HK.out _ _ ⟨⟨s14, g9, v15⟩, by simp only [upd, Nat.reduceBEq, cond_true, cond_false, hd], ⟨Q0.out.trans (HB.out.mono (by have := Q1.out; omega)), Nat.le_trans Q1.out HB.out.size, Q2.out.below HB.out, fun h => (Q3.out h).below HB.out, fun h => (Q4.out h).below HB.out, Q5.out, fun h k => ⟨Rp.Row_below (Q6.out h k).1 HB.out, (Q6.out h k).2⟩, fun h => ⟨Rp.Row_below (Q7.out h).1 HB.out, (Q7.out h).2⟩, Q8.out, Q9.out⟩⟩
          · rintro L ⟨s14, g9, v15⟩ W hL hd ⟨q0, q1, q2, q3, q4, q5, q6, q7, q8, q9⟩
            try dsimp only at q0 q1 q2 q3 q4 q5 q6 q7 q8 q9
            try simp only [depsT, Region.binds, forall_const, and_true, beq_iff_eq, reduceCtorEq, false_implies, true_and] at hd
            intro K hK; refine do_wanted rfl ?_
            have HK := Lib.hid hK; clear hK
            try simp only [hd, cond_true]
            have Q0 := Lib.hid q0; have Q1 := Lib.hid q1; have Q2 := Lib.hid q2; have Q3 := Lib.hid q3; have Q4 := Lib.hid q4; have Q5 := Lib.hid q5; have Q6 := Lib.hid q6; have Q7 := Lib.hid q7; have Q8 := Lib.hid q8; have Q9 := Lib.hid q9
            clear q0 q1 q2 q3 q4 q5 q6 q7 q8 q9
            go_wp2
            have HB := Lib.hid ((Below.refl W.heap.size W).alloc (Nat.le_refl _) (.cells #[] 73))
            exact HK.out _ _ ⟨⟨s14, W.heap.size, v15⟩, by simp only [upd, Nat.reduceBEq, cond_true, cond_false, hd], ⟨Q0.out.trans (HB.out.mono (by have := Q1.out; omega)), Nat.le_trans Q1.out HB.out.size, Q2.out.below HB.out, fun h => (Q3.out h).below HB.out, fun h => (Q4.out h).below HB.out, Q5.out, fun _ _ => ⟨Rp.Row_made0 kEntry 73 W rfl, Q1.out⟩, fun h => ⟨Rp.Row_below (Q7.out h).1 HB.out, (Q7.out h).2⟩, Q8.out, Q9.out⟩⟩
          · rintro L ⟨s14, g9, v15⟩ W hL hd ⟨q0, q1, q2, q3, q4, q5, q6, q7, q8, q9⟩
            try dsimp only at q0 q1 q2 q3 q4 q5 q6 q7 q8 q9
            try simp only [depsT, Region.binds, forall_const, and_true, beq_iff_eq, reduceCtorEq, false_implies, true_and] at hd
            intro K hK; refine do_wanted rfl ?_
            have HK := Lib.hid hK; clear hK
            try simp only [hd, cond_true]
            have Q0 := Lib.hid q0; have Q1 := Lib.hid q1; have Q2 := Lib.hid q2; have Q3 := Lib.hid q3; have Q4 := Lib.hid q4; have Q5 := Lib.hid q5; have Q6 := Lib.hid q6; have Q7 := Lib.hid q7; have Q8 := Lib.hid q8; have Q9 := Lib.hid q9
            clear q0 q1 q2 q3 q4 q5 q6 q7 q8 q9
            go_wp2
            exact HK.out _ _ ⟨⟨s14, g9, v15⟩, by simp only [upd, Nat.reduceBEq, cond_true, cond_false, hd], ⟨Q0.out, Q1.out, Q2.out, Q3.out, Q4.out, Q5.out, Q6.out, Q7.out, Q8.out, Q9.out⟩⟩
          · rintro L ⟨s14, g9, v15⟩ W hL hd ⟨q0, q1, q2, q3, q4, q5, q6, q7, q8, q9⟩
            try dsimp only at q0 q1 q2 q3 q4 q5 q6 q7 q8 q9
            try simp only [depsT, Region.binds, forall_const, and_true, beq_iff_eq, reduceCtorEq, false_implies, true_and] at hd
            intro K hK; refine do_wanted rfl ?_
            have HK := Lib.hid hK; clear hK
            try simp only [hd, cond_true]
            have cc := q2.cell 4 (v := .slice A4 x.fLog.length d4) rfl
            have Q0 := Lib.hid q0; have Q1 := Lib.hid q1; have Q2 := Lib.hid q2; have Q3 := Lib.hid q3; have Q4 := Lib.hid q4; have Q5 := Lib.hid q5; have Q6 := Lib.hid q6; have Q7 := Lib.hid q7; have Q8 := Lib.hid q8; have Q9 := Lib.hid q9
            clear q0 q1 q2 q3 q4 q5 q6 q7 q8 q9
            go_wp2
            exact HK.out _ _ ⟨⟨s14, g9, v15⟩, by simp only [upd, Nat.reduceBEq, cond_true, cond_false, hd], ⟨Q0.out, Q1.out, Q2.out, Q3.out, Q4.out, Q5.out, Q6.out, Q7.out, Q8.out, Q9.out⟩⟩
          · rintro L ⟨s14, g9, v15⟩ W hL hd ⟨q0, q1, q2, q3, q4, q5, q6, q7, q8, q9⟩
            try dsimp only at q0 q1 q2 q3 q4 q5 q6 q7 q8 q9
            try simp only [depsT, Region.binds, forall_const, and_true, beq_iff_eq, reduceCtorEq, false_implies, true_and] at hd
            intro K hK; refine do_wanted rfl ?_
            have HK := Lib.hid hK; clear hK
            try simp only [hd, cond_true]
            have Q0 := Lib.hid q0; have Q1 := Lib.hid q1; have Q2 := Lib.hid q2; have Q3 := Lib.hid q3; have Q4 := Lib.hid q4; have Q5 := Lib.hid q5; have Q6 := Lib.hid q6; have Q7 := Lib.hid q7; have Q8 := Lib.hid q8; have Q9 := Lib.hid q9
            clear q0 q1 q2 q3 q4 q5 q6 q7 q8 q9
            go_wp2
            exact HK.out _ _ ⟨⟨s14, g9, v15⟩, by simp only [upd, Nat.reduceBEq, cond_true, cond_false, hd], ⟨Q0.out, Q1.out, Q2.out, Q3.out, Q4.out, Q5.out, Q6.out, Q7.out, Q8.out, Q9.out⟩⟩
          · rintro L ⟨s14, g9, v15⟩ W hL hd ⟨q0, q1, q2, q3, q4, q5, q6, q7, q8, q9⟩
            try dsimp only at q0 q1 q2 q3 q4 q5 q6 q7 q8 q9
            try simp only [depsT, Region.binds, forall_const, and_true, beq_iff_eq, reduceCtorEq, false_implies, true_and] at hd
            intro K hK; refine do_wanted rfl ?_
            have HK := Lib.hid hK; clear hK
            try simp only [hd, cond_true]
            have Q0 := Lib.hid q0; have Q1 := Lib.hid q1; have Q2 := Lib.hid q2; have Q3 := Lib.hid q3; have Q4 := Lib.hid q4; have Q5 := Lib.hid q5; have Q6 := Lib.hid q6; have Q7 := Lib.hid q7; have Q8 := Lib.hid q8; have Q9 := Lib.hid q9
            clear q0 q1 q2 q3 q4 q5 q6 q7 q8 q9
            go_wp2
            exact HK.out _ _ ⟨⟨s14, g9, v15⟩, by simp only [upd, Nat.reduceBEq, cond_true, cond_false, hd], ⟨Q0.out, Q1.out, Q2.out, Q3.out, Q4.out, Q5.out, Q6.out, Q7.out, Q8.out, Q9.out⟩⟩
          · rintro L ⟨s14, g9, v15⟩ W hL hd ⟨q0, q1, q2, q3, q4, q5, q6, q7, q8, q9⟩
            try dsimp only at q0 q1 q2 q3 q4 q5 q6 q7 q8 q9
            try simp only [depsT, Region.binds, forall_const, and_true, beq_iff_eq, reduceCtorEq, false_implies, true_and] at hd
            intro K hK; refine do_wanted rfl ?_
            have HK := Lib.hid hK; clear hK
            try simp only [hd, cond_true]
            have Q0 := Lib.hid q0; have Q1 := Lib.hid q1; have Q2 := Lib.hid q2; have Q3 := Lib.hid q3; have Q4 := Lib.hid q4; have Q5 := Lib.hid q5; have Q6 := Lib.hid q6; have Q7 := Lib.hid q7; have Q8 := Lib.hid q8; have Q9 := Lib.hid q9
            clear q0 q1 q2 q3 q4 q5 q6 q7 q8 q9
            by_cases hz : a = d4
            case pos =>
              subst hz
              obtain rfl : a = e := by omega
              go_wp2
              exact HK.out _ _ ⟨⟨.slice A4 (0) (0), g9, v15⟩, by simp only [upd, Nat.reduceBEq, cond_true, cond_false, hd], ⟨Q0.out, Q1.out, Q2.out, Q3.out, Q4.out, fun _ => Rp.S_cut G4.out 2 rfl a (a - a) (by omega) (by omega) (.inr ⟨rfl, rfl⟩) (by omega), Q6.out, Q7.out, Q8.out, Q9.out⟩⟩
            case neg =>
              have hz2 : ¬ (d4 - a = 0) := by omega
              go_wp2
              exact HK.out _ _ ⟨⟨.slice (A4.map (fun x => x.add (a * 2))) (e - a) (d4 - a), g9, v15⟩, by simp only [upd, Nat.reduceBEq, cond_true, cond_false, hd], ⟨Q0.out, Q1.out, Q2.out, Q3.out, Q4.out, fun _ => Rp.S_cut G4.out 2 rfl a (e - a) (by omega) rfl (.inl rfl) (by omega), Q6.out, Q7.out, Q8.out, Q9.out⟩⟩
          · rintro L ⟨s14, g9, v15⟩ W hL hd ⟨q0, q1, q2, q3, q4, q5, q6, q7, q8, q9⟩
            try dsimp only at q0 q1 q2 q3 q4 q5 q6 q7 q8 q9
            try simp only [depsT, Region.binds, forall_const, and_true, beq_iff_eq, reduceCtorEq, false_implies, true_and] at hd
            intro K hK; refine do_wanted rfl ?_
            have HK := Lib.hid hK; clear hK
            try simp only [hd, cond_true]
            have E19 : L 19 = false := (by cases h : L 19 with | false => rfl | true => exact absurd (q8 h) (by rw [hL]; simp))
            have E18 : L 18 = false := (by cases h : L 18 with | false => rfl | true => exact absurd (q9 h) (by rw [hL]; simp))
            simp only [E18, cond_false]
            have Q0 := Lib.hid q0; have Q1 := Lib.hid q1; have Q2 := Lib.hid q2; have Q3 := Lib.hid q3; have Q4 := Lib.hid q4; have Q5 := Lib.hid q5; have Q6 := Lib.hid q6; have Q7 := Lib.hid q7; have Q8 := Lib.hid q8; have Q9 := Lib.hid q9
            clear q0 q1 q2 q3 q4 q5 q6 q7 q8 q9
            refine wp_append_op (d := kEntry) _ _ 28 73 rfl Try.underlying28 infoEntry rfl (by decide) rfl (by decide) kEntry_flat (xs := []) (ys := ((x.fLog.drop a).take (e - a))) rfl rfl (Q6.out (show L 9 = true by simp only [hd]) hL).1 (Rp.S_below (Q5.out (show L 14 = true by simp only [hd])) Q0.out) (by simp; omega) ?_
            intro va wa r1 r2 r3 _
            rw [List.nil_append] at r1
            have hg9 := (Q6.out (show L 9 = true by simp only [hd]) hL).2
            have hq1 := Q1.out
            exact HK.out _ _ ⟨⟨s14, g9, va⟩, by (simp only [upd, Nat.reduceBEq, cond_true, cond_false, hd, E18]; rfl), ⟨Q0.out.trans (r2.toBelow Q0.out.size (fun b h => by have h2 : b = g9 := (by simpa using h); omega)), Nat.le_trans Q1.out r2.size, Box_ne Q2.out r2 (by omega), fun h => Box_ne (Q3.out h) r2 (by omega), fun h => absurd (show L 19 = true from h) (by simp [E19]), Q5.out, fun _ h => absurd (show true = false from h) (by simp), fun _ => ⟨r1, fun b h => (by rcases r3 b h with h2 | h2 <;> (try simp at h2) <;> omega)⟩, fun h => rfl, fun h => rfl⟩⟩
          · rintro L ⟨s14, g9, v15⟩ W hL hd ⟨q0, q1, q2, q3, q4, q5, q6, q7, q8, q9⟩
            try dsimp only at q0 q1 q2 q3 q4 q5 q6 q7 q8 q9
            try simp only [depsT, Region.binds, forall_const, and_true, beq_iff_eq, reduceCtorEq, false_implies, true_and] at hd
            intro K hK; refine do_wanted rfl ?_
            have HK := Lib.hid hK; clear hK
            try simp only [hd, cond_true]
            have Q0 := Lib.hid q0; have Q1 := Lib.hid q1; have Q2 := Lib.hid q2; have Q3 := Lib.hid q3; have Q4 := Lib.hid q4; have Q5 := Lib.hid q5; have Q6 := Lib.hid q6; have Q7 := Lib.hid q7; have Q8 := Lib.hid q8; have Q9 := Lib.hid q9
            clear q0 q1 q2 q3 q4 q5 q6 q7 q8 q9
            go_wp2
            exact HK.out _ _ ⟨⟨s14, g9, v15⟩, by simp only [upd, Nat.reduceBEq, cond_true, cond_false, hd], ⟨Q0.out, Q1.out, Q2.out, Q3.out, Q4.out, Q5.out, Q6.out, Q7.out, Q8.out, Q9.out⟩⟩
          · rintro L ⟨s14, g9, v15⟩ W hL hd ⟨q0, q1, q2, q3, q4, q5, q6, q7, q8, q9⟩
            try dsimp only at q0 q1 q2 q3 q4 q5 q6 q7 q8 q9
            try simp only [depsT, Region.binds, forall_const, and_true, beq_iff_eq, reduceCtorEq, false_implies, true_and] at hd
            intro K hK; refine do_wanted rfl ?_
            have HK := Lib.hid hK; clear hK
            try simp only [hd, cond_true]
            have cc := q2.cell 5 (v := .int .i64 x.fCommit) rfl
            have Q0 := Lib.hid q0; have Q1 := Lib.hid q1; have Q2 := Lib.hid q2; have Q3 := Lib.hid q3; have Q4 := Lib.hid q4; have Q5 := Lib.hid q5; have Q6 := Lib.hid q6; have Q7 := Lib.hid q7; have Q8 := Lib.hid q8; have Q9 := Lib.hid q9
            clear q0 q1 q2 q3 q4 q5 q6 q7 q8 q9
            go_wp2
            exact HK.out _ _ ⟨⟨s14, g9, v15⟩, by simp only [upd, Nat.reduceBEq, cond_true, cond_false, hd], ⟨Q0.out, Q1.out, Q2.out, Q3.out, Q4.out, Q5.out, Q6.out, Q7.out, Q8.out, Q9.out⟩⟩
          · rintro L ⟨s14, g9, v15⟩ W hL hd ⟨q0, q1, q2, q3, q4, q5, q6, q7, q8, q9⟩
            try dsimp only at q0 q1 q2 q3 q4 q5 q6 q7 q8 q9
            try simp only [depsT, Region.binds, forall_const, and_true, beq_iff_eq, reduceCtorEq, false_implies, true_and] at hd
            intro K hK; refine do_wanted rfl ?_
            have HK := Lib.hid hK; clear hK
            try simp only [hd, cond_true]
            obtain ⟨P6, C6, e6, _, _⟩ := Rp.Row_K (q7 (show L 15 = true by simp only [hd])).1
            rw [hlx] at e6
            subst e6
            have Q0 := Lib.hid q0; have Q1 := Lib.hid q1; have Q2 := Lib.hid q2; have Q3 := Lib.hid q3; have Q4 := Lib.hid q4; have Q5 := Lib.hid q5; have Q6 := Lib.hid q6; have Q7 := Lib.hid q7; have Q8 := Lib.hid q8; have Q9 := Lib.hid q9
            clear q0 q1 q2 q3 q4 q5 q6 q7 q8 q9
            go_wp2
            exact HK.out _ _ ⟨⟨s14, g9, (.slice P6 (e - a) C6)⟩, by simp only [upd, Nat.reduceBEq, cond_true, cond_false, hd], ⟨Q0.out, Q1.out, Q2.out, Q3.out, Q4.out, Q5.out, Q6.out, Q7.out, Q8.out, fun _ => (show L 15 = true by simp only [hd])⟩⟩
          · rintro L ⟨s14, g9, v15⟩ W hL hd ⟨q0, q1, q2, q3, q4, q5, q6, q7, q8, q9⟩
            try dsimp only at q0 q1 q2 q3 q4 q5 q6 q7 q8 q9
            try simp only [depsT, Region.binds, forall_const, and_true, beq_iff_eq, reduceCtorEq, false_implies, true_and] at hd
            intro K hK; refine do_wanted rfl ?_
            have HK := Lib.hid hK; clear hK
            try simp only [hd, cond_true]
            obtain ⟨P6, C6, e6, _, _⟩ := Rp.Row_K (q7 (show L 15 = true by simp only [hd])).1
            rw [hlx] at e6
            subst e6
            have hz := q3 hL
            have cz0 := hz.cell 0 (v := .int .i64 0) rfl; have cz1 := hz.cell 1 (v := .int .i64 0) rfl; have cz2 := hz.cell 2 (v := .int .i64 0) rfl; have cz3 := hz.cell 3 (v := .int .i64 0) rfl; have cz4 := hz.cell 4 (v := .int .i64 0) rfl; have cz5 := hz.cell 5 (v := .int .i64 0) rfl; have cz6 := hz.cell 6 (v := .slice none 0 0) rfl; have cz7 := hz.cell 7 (v := .int .i64 0) rfl; have cz8 := hz.cell 8 (v := .bool false) rfl
            have fz := hz.fro
            have HZ := Lib.hid hz; clear hz
            have Q0 := Lib.hid q0; have Q1 := Lib.hid q1; have Q2 := Lib.hid q2; have Q3 := Lib.hid q3; have Q4 := Lib.hid q4; have Q5 := Lib.hid q5; have Q6 := Lib.hid q6; have Q7 := Lib.hid q7; have Q8 := Lib.hid q8; have Q9 := Lib.hid q9
            clear q0 q1 q2 q3 q4 q5 q6 q7 q8 q9
            go_wp2
            change K _ (Rp.setN W (w.heap.size + 1) 0 [.int .i64 3, .int .i64 x.fId, .int .i64 pk, .int .i64 x.fTerm, .int .i64 a, .int .i64 (termV x.fLog a), (.slice P6 (e - a) C6), .int .i64 x.fCommit, .bool false])
            obtain ⟨hk, hbx⟩ := HZ.out.stored [.int .i64 3, .int .i64 x.fId, .int .i64 pk, .int .i64 x.fTerm, .int .i64 a, .int .i64 (termV x.fLog a), (.slice P6 (e - a) C6), .int .i64 x.fCommit, .bool false] 0
            rw [setA_all (by rfl)] at hbx
            have hq1 := Q1.out
            exact HK.out _ _ ⟨⟨s14, g9, (.slice P6 (e - a) C6)⟩, by simp only [upd, Nat.reduceBEq, cond_true, cond_false, hd], ⟨Q0.out.trans (hk.toBelow Q0.out.size (by simp)), Nat.le_trans Q1.out hk.size, Box_ne Q2.out hk (by omega), fun h => absurd h (by simp [upd]), fun _ => hbx, Q5.out, fun _ h => absurd (Q7.out (show L 15 = true by simp only [hd])) (by simp only [upd, Nat.reduceBEq, cond_false] at h; rw [show L 15 = true by simp only [hd]] at h; cases h), fun h => ⟨Row_ne (Q7.out h).1 hk (fun hm => by have := (Q7.out h).2 _ hm; omega), (Q7.out h).2⟩, fun _ => (show L 15 = true by simp only [hd]), Q9.out⟩⟩
          · rintro L ⟨s14, g9, v15⟩ W hL hd ⟨q0, q1, q2, q3, q4, q5, q6, q7, q8, q9⟩
            try dsimp only at q0 q1 q2 q3 q4 q5 q6 q7 q8 q9
            try simp only [depsT, Region.binds, forall_const, and_true, beq_iff_eq, reduceCtorEq, false_implies, true_and] at hd
            intro K hK; refine do_wanted rfl ?_
            have HK := Lib.hid hK; clear hK
            try simp only [hd, cond_true]
            have Q0 := Lib.hid q0; have Q1 := Lib.hid q1; have Q2 := Lib.hid q2; have Q3 := Lib.hid q3; have Q4 := Lib.hid q4; have Q5 := Lib.hid q5; have Q6 := Lib.hid q6; have Q7 := Lib.hid q7; have Q8 := Lib.hid q8; have Q9 := Lib.hid q9
            clear q0 q1 q2 q3 q4 q5 q6 q7 q8 q9
            go_wp2
            exact HK.out _ _ ⟨⟨s14, g9, v15⟩, by simp only [upd, Nat.reduceBEq, cond_true, cond_false, hd], ⟨Q0.out, Q1.out, Q2.out, Q3.out, Q4.out, Q5.out, Q6.out, Q7.out, Q8.out, Q9.out⟩⟩
        · simp (config := { maxSteps := 4000000 }) only [layT, Nat.reduceAdd, Nat.reduceBEq, cond_true, cond_false]
          rintro L ⟨s14, g9, v15⟩ W hd ⟨q0, q1, q2, q3, q4, q5, q6, q7, q8, q9⟩
          simp only [doneT, true_and, List.length_cons, List.length_nil, Nat.reduceAdd] at hd
          obtain ⟨⟨⟨⟨⟨⟨⟨⟨⟨⟨⟨⟨⟨⟨⟨⟨⟨⟨⟨⟨e0, e1⟩, e2⟩, e3⟩, e4⟩, e5⟩, e6⟩, e7⟩, e8⟩, e9⟩, e10⟩, e11⟩, e12⟩, e13⟩, e14⟩, e15⟩, e16⟩, e17⟩, e18⟩, e19⟩, e20⟩ := hd
          try dsimp only at q0 q1 q2 q3 q4 q5 q6 q7 q8 q9
          simp only [e0, e1, e2, e3, e4, e5, e6, e7, e8, e9, e10, e11, e12, e13, e14, e15, e16, e17, e18, e19, e20, cond_true]
          have hb4 := q4 e19; have hr7 := q7 e15
          have dz0 := hb4.cell 0 (v := .int .i64 3) rfl; have dz1 := hb4.cell 1 (v := .int .i64 x.fId) rfl; have dz2 := hb4.cell 2 (v := .int .i64 pk) rfl; have dz3 := hb4.cell 3 (v := .int .i64 x.fTerm) rfl; have dz4 := hb4.cell 4 (v := .int .i64 a) rfl; have dz5 := hb4.cell 5 (v := .int .i64 (termV x.fLog a)) rfl; have dz6 := hb4.cell 6 (v := v15) rfl; have dz7 := hb4.cell 7 (v := .int .i64 x.fCommit) rfl; have dz8 := hb4.cell 8 (v := .bool false) rfl
          have HQ := Lib.hid (And.intro q0 hr7)
          clear q0 q1 q2 q3 q4 q5 q6 q7 q8 q9 hb4 hr7 HC hsz Xn Xr cn_0 cn_1 cn_2 cn_3 cn_4 cn_5 cn_6 cn_7 cn_8 cr_0 cr_1 cr_2 cr_3 cr_4 cr_5 cr_6 cr_7 cr_8
          go_wp2
          refine bodyPost_ret (v := .tuple #[.agg #[.int .i64 3, .int .i64 x.fId, .int .i64 pk, .int .i64 x.fTerm, .int .i64 a, .int .i64 (termV x.fLog a), v15, .int .i64 x.fCommit, .bool false], .bool true]) (by simp [results, Try.results29, go_sem, dz0, dz1, dz2, dz3, dz4, dz5, dz6, dz7, dz8]) rfl ⟨_, (by first | rw [ho] | rfl), ?_⟩
          rw [hov, afM, hat, Int.toNat_natCast, Int.toNat_natCast, he3]
          exact Made.msg (x := ⟨3, x.fId, pk, x.fTerm, a, termV x.fLog a, (x.fLog.drop a).take (e - a), x.fCommit, false⟩) (N := w.heap.size + 2) (by omega) HQ.out.2.1 HQ.out.2.2 (ofOwn_nodup _) HQ.out.1

theorem iAppendFor_k {x : DRaftNode} {p m : Int} {c0 : List Value} {w : World} (k0 : kRaftNode.K w x c0) (h0 : wfRaftNode x) (s0 : smRaftNode 1048576 x) (hp : (Lit.int .i64 p).wf = true) (hm : (Lit.int .i64 m).wf = true) : Calls Try.prog 30 #[.agg c0.toArray, .int .i64 p, .int .i64 m] w
    fun e w' => ∃ cs F, e = .returned (.tuple #[.agg cs.toArray, .bool (afOk x p m)]) ∧ kRaftMsg.M w' F (afV x p m) cs ∧ (∀ b ∈ F, w.heap.size ≤ b) ∧ F.Nodup ∧ Below w.heap.size w w' := by
  obtain ⟨v4, v7, v8, rfl, g4, g7, g8⟩ := kRaftNode_read k0
  refine (iAf_calls x p m v4 v7 v8 w g4 g7 g8 s0).mono ?_
  rintro e w' ⟨v, rfl, cs, F, rfl, h1, h2, h3, h4⟩
  exact ⟨cs, F, rfl, h1, h2, h3, h4⟩
theorem sAppendFor_k {x : DRaftNode} {p m : Int} {c0 : List Value} {w : World} (k0 : kRaftNode.K w x c0) (h0 : wfRaftNode x) (s0 : smRaftNode 1048576 x) (hp : (Lit.int .i64 p).wf = true) (hm : (Lit.int .i64 m).wf = true) : Calls Try.prog 29 #[.agg c0.toArray, .int .i64 p, .int .i64 m] w
    fun e w' => ∃ cs F, e = .returned (.tuple #[.agg cs.toArray, .bool (afOk x p m)]) ∧ kRaftMsg.M w' F (afV x p m) cs ∧ (∀ b ∈ F, w.heap.size ≤ b) ∧ F.Nodup ∧ Below w.heap.size w w' := by
  obtain ⟨v4, v7, v8, rfl, g4, g7, g8⟩ := kRaftNode_read k0
  refine (sAf_calls x p m v4 v7 v8 w g4 g7 g8 s0).mono ?_
  rintro e w' ⟨v, rfl, cs, F, rfl, h1, h2, h3, h4⟩
  exact ⟨cs, F, rfl, h1, h2, h3, h4⟩
theorem afV_sm {x : DRaftNode} {p m : Int} {n k : Nat} (h : smRaftNode n x) (hn : n ≤ k) : smRaftMsg k (afV x p m) := by
  unfold smRaftNode at h
  unfold smRaftMsg afV afM zMsg
  split
  · simp only [List.length_take, List.length_drop]; omega
  · simp
end Go.Proofs.Ytljkcmbebdbnaaa
