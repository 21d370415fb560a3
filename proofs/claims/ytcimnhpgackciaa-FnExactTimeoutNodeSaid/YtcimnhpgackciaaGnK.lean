/- Nodes: what a leader commits. -/
import Derived.Test.YtcimnhpgackciaaGnH
namespace Go.Proofs.Ytcimnhpgackciaa
open Go Go.RowKit Go.Sort
set_option linter.unusedVariables false
set_option linter.unusedSimpArgs false

def geI (k : Nat) (m : Int) : Bool := decide ((k : Int) ≤ m)
def majN (x : DRaftNode) (k : Nat) : Bool := decide (x.fPeers < 2 * (x.fMatch.countP (geI k) : Int)) && (termV x.fLog k == x.fTerm)
def comFrom (x : DRaftNode) : Nat → Int
  | 0 => x.fCommit
  | k + 1 => if ((k + 1 : Nat) : Int) ≤ x.fCommit then x.fCommit else if majN x (k + 1) then ((k + 1 : Nat) : Int) else comFrom x k
theorem comFrom_le {x : DRaftNode} : ∀ {k : Nat}, (k : Int) ≤ x.fCommit → comFrom x k = x.fCommit
  | 0, _ => rfl
  | k + 1, h => by rw [comFrom, if_pos h]
theorem comFrom_yes {x : DRaftNode} {k : Nat} (h : x.fCommit < ((k + 1 : Nat) : Int)) (hm : majN x (k + 1) = true) : comFrom x (k + 1) = ((k + 1 : Nat) : Int) := by
  rw [comFrom, if_neg (by omega), if_pos hm]
theorem comFrom_no {x : DRaftNode} {k : Nat} (h : x.fCommit < ((k + 1 : Nat) : Int)) (hm : majN x (k + 1) = false) : comFrom x (k + 1) = comFrom x k := by
  rw [comFrom, if_neg (by omega), if_neg (by rw [hm]; simp)]
theorem comFrom_in {x : DRaftNode} : ∀ {k : Nat}, x.fCommit ≤ comFrom x k ∧ (comFrom x k ≤ k ∨ comFrom x k = x.fCommit)
  | 0 => ⟨Int.le_refl _, .inr rfl⟩
  | k + 1 => by
    have := comFrom_in (x := x) (k := k)
    unfold comFrom
    split
    · exact ⟨Int.le_refl _, .inr rfl⟩
    · split
      · exact ⟨by omega, .inl (Int.le_refl _)⟩
      · omega
theorem countP_takeI {p : Int → Bool} {xs : List Int} {k : Nat} (h : k < xs.length) : (xs.take (k + 1)).countP p = (xs.take k).countP p + (if p xs[k] then 1 else 0) := by
  rw [List.take_add_one, List.getElem?_eq_getElem h, List.countP_append]
  simp [List.countP_cons]
/-- What is read stays where another block is written. -/
theorem S_kept {α : Type} {d : Rp α} {w w' : World} {xs : List α} {A : Option Addr} {n c b : Nat} (hf : d.Flat) (h : d.S w xs (.slice A n c)) (hk : KeptF [b] w w') (hne : ∀ a, A = some a → a.block ≠ b) : d.S w' xs (.slice A n c) := by
  obtain ⟨A', c', e, h1, h2⟩ := h
  simp only [Value.slice.injEq] at e
  obtain ⟨rfl, rfl, rfl⟩ := e
  refine ⟨A, c, rfl, h1, ?_⟩
  rcases h2 with h2 | ⟨g, off, rfl, h2⟩
  · exact .inl h2
  · refine .inr ⟨g, off, rfl, fun i x hi => ?_⟩
    obtain ⟨cs, k1, k2⟩ := h2 i x hi
    refine ⟨cs, d.M_K (hf.2 k1), fun j u hu => ?_⟩
    have := k2 j u hu
    rw [World.cell?_of_block (hk.block g (World.block_lt_of_cell? w _ this) (by simpa using hne _ rfl))]
    exact this
theorem Row_ne_block {α : Type} {d : Rp α} {e : TypeId} {w : World} {F : List Nat} {xs : List α} {A : Option Addr} {n c b : Nat} (h : d.Row e w F xs (.slice A n c)) (hb : b ∉ F) : ∀ a, A = some a → a.block ≠ b := by
  obtain ⟨inner, Fs, h1, _, rfl⟩ := h
  rintro a rfl e
  apply hb
  simp only [List.mem_append]
  left
  rcases h1.2 with ⟨h2, _⟩ | ⟨g, cap, cur, h2, _⟩
  · simp at h2
  · simp only [Value.slice.injEq, Option.some.injEq] at h2
    obtain ⟨rfl, _, _⟩ := h2
    simp only at e
    simp [Rp.ofOwn, Value.ownBlock, e]
set_option maxHeartbeats 8000000 in
set_option maxRecDepth 100000 in
theorem sCommit_calls (x : DRaftNode) (A4 A7 A8 : Option Addr) (d4 n7 d7 d8 : Nat) (w : World) (g4 : kEntry.S w x.fLog (.slice A4 x.fLog.length d4)) (g8 : kInt.S w x.fMatch (.slice A8 x.fMatch.length d8))
    (l4 : x.fLog.length ≤ 1048576) (l8 : x.fMatch.length ≤ 1048576) (hc : 0 ≤ x.fCommit) (hc2 : x.fCommit ≤ x.fLog.length) : Calls Try.prog 38 #[.agg #[.int .i64 x.fId, .int .i64 x.fPeers, .int .i64 x.fTerm, .int .i64 x.fVote, .slice A4 x.fLog.length d4, .int .i64 x.fCommit, .int .i64 x.fRole, .slice A7 n7 d7, .slice A8 x.fMatch.length d8]] w
    fun e w' => e = .returned (.agg #[.int .i64 x.fId, .int .i64 x.fPeers, .int .i64 x.fTerm, .int .i64 x.fVote, .slice A4 x.fLog.length d4, .int .i64 (comFrom x x.fLog.length), .int .i64 x.fRole, .slice A7 n7 d7, .slice A8 x.fMatch.length d8]) ∧ Below w.heap.size w w' := by
  have G4 := Lib.hid g4; have G8 := Lib.hid g8
  clear g4 g8
  go_enter Try.func38, Try.ntmps38
  go_upto_region 1 with fail
  have HC := Lib.hid (show Below w.heap.size w ((w.alloc (.cells #[.int .i64 x.fId, .int .i64 x.fPeers, .int .i64 x.fTerm, .int .i64 x.fVote, .slice A4 x.fLog.length d4, .int .i64 x.fCommit, .int .i64 x.fRole, .slice A7 n7 d7, .slice A8 x.fMatch.length d8] 29)).alloc (.cells #[.int .i64 0, .int .i64 0, .int .i64 0, .int .i64 0, .slice none 0 0, .int .i64 0, .int .i64 0, .slice none 0 0, .slice none 0 0] 29)) from Below.alloc (Below.alloc (Below.refl w.heap.size w) (by first | exact Nat.le_refl _ | (simp; done) | (simp; omega)) (.cells #[.int .i64 x.fId, .int .i64 x.fPeers, .int .i64 x.fTerm, .int .i64 x.fVote, .slice A4 x.fLog.length d4, .int .i64 x.fCommit, .int .i64 x.fRole, .slice A7 n7 d7, .slice A8 x.fMatch.length d8] 29)) (by first | exact Nat.le_refl _ | (simp; done) | (simp; omega)) (.cells #[.int .i64 0, .int .i64 0, .int .i64 0, .int .i64 0, .slice none 0 0, .int .i64 0, .int .i64 0, .slice none 0 0, .slice none 0 0] 29))
  have Xn := Lib.hid (show Box ((w.alloc (.cells #[.int .i64 x.fId, .int .i64 x.fPeers, .int .i64 x.fTerm, .int .i64 x.fVote, .slice A4 x.fLog.length d4, .int .i64 x.fCommit, .int .i64 x.fRole, .slice A7 n7 d7, .slice A8 x.fMatch.length d8] 29)).alloc (.cells #[.int .i64 0, .int .i64 0, .int .i64 0, .int .i64 0, .slice none 0 0, .int .i64 0, .int .i64 0, .slice none 0 0, .slice none 0 0] 29)) (w.heap.size) #[.int .i64 x.fId, .int .i64 x.fPeers, .int .i64 x.fTerm, .int .i64 x.fVote, .slice A4 x.fLog.length d4, .int .i64 x.fCommit, .int .i64 x.fRole, .slice A7 n7 d7, .slice A8 x.fMatch.length d8] 29 from Box.alloc (Box.new rfl))
  have Xr := Lib.hid (show Box ((w.alloc (.cells #[.int .i64 x.fId, .int .i64 x.fPeers, .int .i64 x.fTerm, .int .i64 x.fVote, .slice A4 x.fLog.length d4, .int .i64 x.fCommit, .int .i64 x.fRole, .slice A7 n7 d7, .slice A8 x.fMatch.length d8] 29)).alloc (.cells #[.int .i64 0, .int .i64 0, .int .i64 0, .int .i64 0, .slice none 0 0, .int .i64 0, .int .i64 0, .slice none 0 0, .slice none 0 0] 29)) (w.heap.size + 1) #[.int .i64 0, .int .i64 0, .int .i64 0, .int .i64 0, .slice none 0 0, .int .i64 0, .int .i64 0, .slice none 0 0, .slice none 0 0] 29 from Box.new (by simp))
  have hsz : w.heap.size + 2 ≤ ((w.alloc (.cells #[.int .i64 x.fId, .int .i64 x.fPeers, .int .i64 x.fTerm, .int .i64 x.fVote, .slice A4 x.fLog.length d4, .int .i64 x.fCommit, .int .i64 x.fRole, .slice A7 n7 d7, .slice A8 x.fMatch.length d8] 29)).alloc (.cells #[.int .i64 0, .int .i64 0, .int .i64 0, .int .i64 0, .slice none 0 0, .int .i64 0, .int .i64 0, .slice none 0 0, .slice none 0 0] 29)).heap.size := by simp
  generalize (w.alloc (.cells #[.int .i64 x.fId, .int .i64 x.fPeers, .int .i64 x.fTerm, .int .i64 x.fVote, .slice A4 x.fLog.length d4, .int .i64 x.fCommit, .int .i64 x.fRole, .slice A7 n7 d7, .slice A8 x.fMatch.length d8] 29)).alloc (.cells #[.int .i64 0, .int .i64 0, .int .i64 0, .int .i64 0, .slice none 0 0, .int .i64 0, .int .i64 0, .slice none 0 0, .slice none 0 0] 29) = w1 at *
  have cn_0 := Xn.out.cell 0 (v := .int .i64 x.fId) rfl; have cn_1 := Xn.out.cell 1 (v := .int .i64 x.fPeers) rfl; have cn_2 := Xn.out.cell 2 (v := .int .i64 x.fTerm) rfl; have cn_3 := Xn.out.cell 3 (v := .int .i64 x.fVote) rfl; have cn_4 := Xn.out.cell 4 (v := .slice A4 x.fLog.length d4) rfl; have cn_5 := Xn.out.cell 5 (v := .int .i64 x.fCommit) rfl; have cn_6 := Xn.out.cell 6 (v := .int .i64 x.fRole) rfl; have cn_7 := Xn.out.cell 7 (v := .slice A7 n7 d7) rfl; have cn_8 := Xn.out.cell 8 (v := .slice A8 x.fMatch.length d8) rfl; have cr_0 := Xr.out.cell 0 (v := .int .i64 0) rfl; have cr_1 := Xr.out.cell 1 (v := .int .i64 0) rfl; have cr_2 := Xr.out.cell 2 (v := .int .i64 0) rfl; have cr_3 := Xr.out.cell 3 (v := .int .i64 0) rfl; have cr_4 := Xr.out.cell 4 (v := .slice none 0 0) rfl; have cr_5 := Xr.out.cell 5 (v := .int .i64 0) rfl; have cr_6 := Xr.out.cell 6 (v := .int .i64 0) rfl; have cr_7 := Xr.out.cell 7 (v := .slice none 0 0) rfl; have cr_8 := Xr.out.cell 8 (v := .slice none 0 0) rfl
  go_wp2
  go_loopw [3] (fun i wr => ∃ k : Nat, k ≤ x.fLog.length ∧ i = .int .i64 k ∧ Hid (Below w.heap.size w wr) ∧ w.heap.size + 2 ≤ wr.heap.size ∧ Hid (Box wr w.heap.size #[.int .i64 x.fId, .int .i64 x.fPeers, .int .i64 x.fTerm, .int .i64 x.fVote, .slice A4 x.fLog.length d4, .int .i64 x.fCommit, .int .i64 x.fRole, .slice A7 n7 d7, .slice A8 x.fMatch.length d8] 29) ∧ Hid (Box wr (w.heap.size + 1) #[.int .i64 0, .int .i64 0, .int .i64 0, .int .i64 0, .slice none 0 0, .int .i64 0, .int .i64 0, .slice none 0 0, .slice none 0 0] 29) ∧ Hid (comFrom x x.fLog.length = comFrom x k)) (fun i _ => (intOf i).toNat)
  case atStart => exact ⟨x.fLog.length, Nat.le_refl _, rfl, HC.out, hsz, Xn.out, Xr.out, rfl⟩
  case round =>
    clear HC hsz Xn Xr cn_0 cn_1 cn_2 cn_3 cn_4 cn_5 cn_6 cn_7 cn_8 cr_0 cr_1 cr_2 cr_3 cr_4 cr_5 cr_6 cr_7 cr_8
    obtain ⟨k, hk, rfl, HC, hsz, Xn, Xr, HI⟩ := hrel
    have cn_0 := Xn.out.cell 0 (v := .int .i64 x.fId) rfl; have cn_1 := Xn.out.cell 1 (v := .int .i64 x.fPeers) rfl; have cn_2 := Xn.out.cell 2 (v := .int .i64 x.fTerm) rfl; have cn_3 := Xn.out.cell 3 (v := .int .i64 x.fVote) rfl; have cn_4 := Xn.out.cell 4 (v := .slice A4 x.fLog.length d4) rfl; have cn_5 := Xn.out.cell 5 (v := .int .i64 x.fCommit) rfl; have cn_6 := Xn.out.cell 6 (v := .int .i64 x.fRole) rfl; have cn_7 := Xn.out.cell 7 (v := .slice A7 n7 d7) rfl; have cn_8 := Xn.out.cell 8 (v := .slice A8 x.fMatch.length d8) rfl; have cr_0 := Xr.out.cell 0 (v := .int .i64 0) rfl; have cr_1 := Xr.out.cell 1 (v := .int .i64 0) rfl; have cr_2 := Xr.out.cell 2 (v := .int .i64 0) rfl; have cr_3 := Xr.out.cell 3 (v := .int .i64 0) rfl; have cr_4 := Xr.out.cell 4 (v := .slice none 0 0) rfl; have cr_5 := Xr.out.cell 5 (v := .int .i64 0) rfl; have cr_6 := Xr.out.cell 6 (v := .int .i64 0) rfl; have cr_7 := Xr.out.cell 7 (v := .slice none 0 0) rfl; have cr_8 := Xr.out.cell 8 (v := .slice none 0 0) rfl
    by_cases hlt : x.fCommit < (k : Int)
    case neg =>
      have HF := Lib.hid (show comFrom x x.fLog.length = x.fCommit by rw [HI.out, comFrom_le (by omega)])
      rename World => wr
      have fr_ := Xr.out.fro
      go_wp2
      obtain ⟨hk, bf⟩ := Xr.out.stored [.int .i64 x.fId, .int .i64 x.fPeers, .int .i64 x.fTerm, .int .i64 x.fVote, .slice A4 x.fLog.length d4, .int .i64 x.fCommit, .int .i64 x.fRole, .slice A7 n7 d7, .slice A8 x.fMatch.length d8] 0
      rw [setA_all (by rfl)] at bf
      change bodyPost _ _ _ _ _ (Rp.setN wr (w.heap.size + 1) 0 [.int .i64 x.fId, .int .i64 x.fPeers, .int .i64 x.fTerm, .int .i64 x.fVote, .slice A4 x.fLog.length d4, .int .i64 x.fCommit, .int .i64 x.fRole, .slice A7 n7 d7, .slice A8 x.fMatch.length d8])
      clear fr_ cn_0 cn_1 cn_2 cn_3 cn_4 cn_5 cn_6 cn_7 cn_8 cr_0 cr_1 cr_2 cr_3 cr_4 cr_5 cr_6 cr_7 cr_8
      have HK := Lib.hid hk; clear hk
      generalize Rp.setN wr (w.heap.size + 1) 0 [.int .i64 x.fId, .int .i64 x.fPeers, .int .i64 x.fTerm, .int .i64 x.fVote, .slice A4 x.fLog.length d4, .int .i64 x.fCommit, .int .i64 x.fRole, .slice A7 n7 d7, .slice A8 x.fMatch.length d8] = wf at *
      have df0 := bf.cell 0 (v := .int .i64 x.fId) rfl; have df1 := bf.cell 1 (v := .int .i64 x.fPeers) rfl; have df2 := bf.cell 2 (v := .int .i64 x.fTerm) rfl; have df3 := bf.cell 3 (v := .int .i64 x.fVote) rfl; have df4 := bf.cell 4 (v := .slice A4 x.fLog.length d4) rfl; have df5 := bf.cell 5 (v := .int .i64 x.fCommit) rfl; have df6 := bf.cell 6 (v := .int .i64 x.fRole) rfl; have df7 := bf.cell 7 (v := .slice A7 n7 d7) rfl; have df8 := bf.cell 8 (v := .slice A8 x.fMatch.length d8) rfl
      refine bodyPost_ret (v := .agg #[.int .i64 x.fId, .int .i64 x.fPeers, .int .i64 x.fTerm, .int .i64 x.fVote, .slice A4 x.fLog.length d4, .int .i64 x.fCommit, .int .i64 x.fRole, .slice A7 n7 d7, .slice A8 x.fMatch.length d8]) (by simp [results, Try.results38, go_sem, df0, df1, df2, df3, df4, df5, df6, df7, df8]) rfl ⟨by rw [HF.out], HC.out.trans (HK.out.toBelow HC.out.size (by simp))⟩
    case pos =>
      obtain ⟨k, rfl⟩ : ∃ m, k = m + 1 := ⟨k - 1, by omega⟩
      obtain ⟨be, oe, e4, t0, _⟩ := entry_at (S_open G4.out).2.2 HC.out k (by omega)
      have htv : termV x.fLog (k + 1) = x.fLog[k].fTerm := by rw [termV, if_neg (by omega), Nat.add_sub_cancel, List.getElem?_eq_getElem (by omega)]; rfl
      rw [← htv] at t0
      clear htv
      subst e4
      have hw1 : IntKind.i64.wrap (((k + 1 : Nat) : Int) - 1) = (k : Int) := by rw [IntKind.wrap_i64]; omega
      have hw2 : IntKind.i64.wrap ((k : Int) + 1 - 1) = (k : Int) := by rw [IntKind.wrap_i64]; omega
      have e1 : (0 : Int) ≤ (k : Int) := by omega
      have e2 : (k : Int) < (x.fLog.length : Int) := by omega
      go_wp2
      rename World => wr
      go_loopw [4, 19] (fun cn j wr2 => ∃ m : Nat, m ≤ x.fMatch.length ∧ j = .int .i64 m ∧ cn = .int .i64 ((x.fMatch.take m).countP (geI (k + 1)) : Nat) ∧ Hid (wr = wr2)) (fun _ j _ => x.fMatch.length - (intOf j).toNat)
      case atStart => exact ⟨0, Nat.zero_le _, rfl, rfl, rfl⟩
      case round =>
        obtain ⟨m, hm, rfl, rfl, HW⟩ := hrel
        obtain rfl := HW.out
        have hcl := List.countP_le_length (p := geI (k + 1)) (l := x.fMatch.take m)
        rw [List.length_take] at hcl
        by_cases hlm : m < x.fMatch.length
        · obtain ⟨bx, ox, rfl, a0⟩ := int_at (S_open G8.out).2.2 HC.out m hlm
          have hct := countP_takeI (p := geI (k + 1)) hlm
          generalize x.fMatch[m] = z at *
          have HCT := Lib.hid hct; clear hct
          generalize (x.fMatch.take m).countP (geI (k + 1)) = cc at *
          have j1 : (0 : Int) ≤ (m : Int) := by omega
          have j2 : (m : Int) < (x.fMatch.length : Int) := by omega
          by_cases hz : ((k + 1 : Nat) : Int) ≤ z
          · have HO := Lib.hid (show geI (k + 1) z = true from decide_eq_true hz)
            have hz2 : (k : Int) + 1 ≤ z := by omega
            go_wp2
            exact ⟨⟨m + 1, by omega, by go_num, by rw [HCT.out, HO.out]; go_num, trivial⟩, by simp [intOf]; omega⟩
          · have HO := Lib.hid (show geI (k + 1) z = false from decide_eq_false hz)
            have hz2 : z < (k : Int) + 1 := by omega
            go_wp2
            exact ⟨⟨m + 1, by omega, by go_num, by rw [HCT.out, HO.out]; simp, trivial⟩, by simp [intOf]; omega⟩
        · obtain rfl : m = x.fMatch.length := by omega
          rw [List.take_length] at hcl ⊢
          have hmj : majN x (k + 1) = (decide (x.fPeers < 2 * (x.fMatch.countP (geI (k + 1)) : Int)) && (termV x.fLog (k + 1) == x.fTerm)) := rfl
          have HMJ := Lib.hid hmj; clear hmj
          generalize x.fMatch.countP (geI (k + 1)) = cc at *
          have hwc : IntKind.i64.wrap (2 * (cc : Int)) = 2 * cc := by rw [IntKind.wrap_i64]; omega
          have r1 := regr (Below.refl _ _) Xn.out.lt cn_1
          have r2 := regr (Below.refl _ _) Xn.out.lt cn_2
          have r4 := regr (Below.refl _ _) Xn.out.lt cn_4
          have rt := regr (Below.refl _ _) (World.block_lt_of_cell? _ _ t0) t0
          go_upto_region 11 with fail
          by_cases h1 : x.fPeers < 2 * (cc : Int)
          case' neg => have HM := Lib.hid (show majN x (k + 1) = false by rw [HMJ.out, decide_eq_false h1]; rfl)
          case' pos => cases h2 : (termV x.fLog (k + 1) == x.fTerm)
          all_goals
            refine wp_region_quiet_below (by kernel_rfl) (by kernel_rfl) ?_
            repeat (go_big_quiet_step (fail))
            refine wpQuiet_nil ?_
            rintro w2 ⟨p, rfl⟩
            have hb := below_regrown wr p.d p.os
            clear r1 r2 r4 rt t0
            generalize grow (redrawn wr p.d) p.os = w2 at *
            have HC := Lib.hid (HC.out.trans (hb.mono (by first | exact HC.out.size | (have := HC.out.size; omega)))); have hsz := Nat.le_trans hsz hb.size; have Xn := Lib.hid (Xn.out.below hb); have Xr := Lib.hid (Xr.out.below hb); clear cn_0 cn_1 cn_2 cn_3 cn_4 cn_5 cn_6 cn_7 cn_8 cr_0 cr_1 cr_2 cr_3 cr_4 cr_5 cr_6 cr_7 cr_8; clear hb; have cn_0 := Xn.out.cell 0 (v := .int .i64 x.fId) rfl; have cn_1 := Xn.out.cell 1 (v := .int .i64 x.fPeers) rfl; have cn_2 := Xn.out.cell 2 (v := .int .i64 x.fTerm) rfl; have cn_3 := Xn.out.cell 3 (v := .int .i64 x.fVote) rfl; have cn_4 := Xn.out.cell 4 (v := .slice (some ⟨be, oe, none⟩) x.fLog.length d4) rfl; have cn_5 := Xn.out.cell 5 (v := .int .i64 x.fCommit) rfl; have cn_6 := Xn.out.cell 6 (v := .int .i64 x.fRole) rfl; have cn_7 := Xn.out.cell 7 (v := .slice A7 n7 d7) rfl; have cn_8 := Xn.out.cell 8 (v := .slice A8 x.fMatch.length d8) rfl; have cr_0 := Xr.out.cell 0 (v := .int .i64 0) rfl; have cr_1 := Xr.out.cell 1 (v := .int .i64 0) rfl; have cr_2 := Xr.out.cell 2 (v := .int .i64 0) rfl; have cr_3 := Xr.out.cell 3 (v := .int .i64 0) rfl; have cr_4 := Xr.out.cell 4 (v := .slice none 0 0) rfl; have cr_5 := Xr.out.cell 5 (v := .int .i64 0) rfl; have cr_6 := Xr.out.cell 6 (v := .int .i64 0) rfl; have cr_7 := Xr.out.cell 7 (v := .slice none 0 0) rfl; have cr_8 := Xr.out.cell 8 (v := .slice none 0 0) rfl
          · have HM := Lib.hid (show majN x (k + 1) = false by rw [HMJ.out, h2, Bool.and_false])
            go_wp2
            exact ⟨⟨k, by omega, by go_num, HC.out, hsz, Xn.out, Xr.out, by rw [Hid, HI.out, comFrom_no hlt HM.out]⟩, by simp [intOf] <;> omega⟩
          · have HM := Lib.hid (show majN x (k + 1) = true by rw [HMJ.out, h2, decide_eq_true h1]; rfl)
            have HF := Lib.hid (show comFrom x x.fLog.length = ((k + 1 : Nat) : Int) by rw [HI.out, comFrom_yes hlt HM.out])
            have fn := Xn.out.fro
            go_upto_region 13 with fail
            clear fn
            have hk := kept_set w2 (w.heap.size) 5 (.int .i64 ((k : Int) + 1))
            have Xr := Lib.hid (Xr.out.set_other (a := ⟨w.heap.size, 5, none⟩) (.int .i64 ((k : Int) + 1)) (by first | (simp; done) | (simp; omega)))
            have Xn := Lib.hid (show Box (w2.setCell ⟨w.heap.size, 5, none⟩ (.int .i64 ((k : Int) + 1))) (w.heap.size) #[.int .i64 x.fId, .int .i64 x.fPeers, .int .i64 x.fTerm, .int .i64 x.fVote, .slice (some ⟨be, oe, none⟩) x.fLog.length d4, .int .i64 ((k : Int) + 1), .int .i64 x.fRole, .slice A7 n7 d7, .slice A8 x.fMatch.length d8] 29 from Xn.out.set 5 (.int .i64 ((k : Int) + 1)))
            have HC := Lib.hid (HC.out.setCell (p := ⟨w.heap.size, 5, none⟩) (by first | (simp; done) | (simp; omega)) (.int .i64 ((k : Int) + 1)))
            replace hsz := Nat.le_trans hsz hk.size
            clear hk cn_0 cn_1 cn_2 cn_3 cn_4 cn_5 cn_6 cn_7 cn_8 cr_0 cr_1 cr_2 cr_3 cr_4 cr_5 cr_6 cr_7 cr_8
            generalize w2.setCell ⟨w.heap.size, 5, none⟩ (.int .i64 ((k : Int) + 1)) = w3 at *
            have cn_0 := Xn.out.cell 0 (v := .int .i64 x.fId) rfl; have cn_1 := Xn.out.cell 1 (v := .int .i64 x.fPeers) rfl; have cn_2 := Xn.out.cell 2 (v := .int .i64 x.fTerm) rfl; have cn_3 := Xn.out.cell 3 (v := .int .i64 x.fVote) rfl; have cn_4 := Xn.out.cell 4 (v := .slice (some ⟨be, oe, none⟩) x.fLog.length d4) rfl; have cn_5 := Xn.out.cell 5 (v := .int .i64 ((k : Int) + 1)) rfl; have cn_6 := Xn.out.cell 6 (v := .int .i64 x.fRole) rfl; have cn_7 := Xn.out.cell 7 (v := .slice A7 n7 d7) rfl; have cn_8 := Xn.out.cell 8 (v := .slice A8 x.fMatch.length d8) rfl; have cr_0 := Xr.out.cell 0 (v := .int .i64 0) rfl; have cr_1 := Xr.out.cell 1 (v := .int .i64 0) rfl; have cr_2 := Xr.out.cell 2 (v := .int .i64 0) rfl; have cr_3 := Xr.out.cell 3 (v := .int .i64 0) rfl; have cr_4 := Xr.out.cell 4 (v := .slice none 0 0) rfl; have cr_5 := Xr.out.cell 5 (v := .int .i64 0) rfl; have cr_6 := Xr.out.cell 6 (v := .int .i64 0) rfl; have cr_7 := Xr.out.cell 7 (v := .slice none 0 0) rfl; have cr_8 := Xr.out.cell 8 (v := .slice none 0 0) rfl
            have fr_ := Xr.out.fro
            go_wp2
            obtain ⟨hk, bf⟩ := Xr.out.stored [.int .i64 x.fId, .int .i64 x.fPeers, .int .i64 x.fTerm, .int .i64 x.fVote, .slice (some ⟨be, oe, none⟩) x.fLog.length d4, .int .i64 ((k : Int) + 1), .int .i64 x.fRole, .slice A7 n7 d7, .slice A8 x.fMatch.length d8] 0
            rw [setA_all (by rfl)] at bf
            change bodyPost _ _ _ _ _ (Rp.setN w3 (w.heap.size + 1) 0 [.int .i64 x.fId, .int .i64 x.fPeers, .int .i64 x.fTerm, .int .i64 x.fVote, .slice (some ⟨be, oe, none⟩) x.fLog.length d4, .int .i64 ((k : Int) + 1), .int .i64 x.fRole, .slice A7 n7 d7, .slice A8 x.fMatch.length d8])
            clear fr_ cn_0 cn_1 cn_2 cn_3 cn_4 cn_5 cn_6 cn_7 cn_8 cr_0 cr_1 cr_2 cr_3 cr_4 cr_5 cr_6 cr_7 cr_8
            have HK := Lib.hid hk; clear hk
            generalize Rp.setN w3 (w.heap.size + 1) 0 [.int .i64 x.fId, .int .i64 x.fPeers, .int .i64 x.fTerm, .int .i64 x.fVote, .slice (some ⟨be, oe, none⟩) x.fLog.length d4, .int .i64 ((k : Int) + 1), .int .i64 x.fRole, .slice A7 n7 d7, .slice A8 x.fMatch.length d8] = wf at *
            have df0 := bf.cell 0 (v := .int .i64 x.fId) rfl; have df1 := bf.cell 1 (v := .int .i64 x.fPeers) rfl; have df2 := bf.cell 2 (v := .int .i64 x.fTerm) rfl; have df3 := bf.cell 3 (v := .int .i64 x.fVote) rfl; have df4 := bf.cell 4 (v := .slice (some ⟨be, oe, none⟩) x.fLog.length d4) rfl; have df5 := bf.cell 5 (v := .int .i64 ((k : Int) + 1)) rfl; have df6 := bf.cell 6 (v := .int .i64 x.fRole) rfl; have df7 := bf.cell 7 (v := .slice A7 n7 d7) rfl; have df8 := bf.cell 8 (v := .slice A8 x.fMatch.length d8) rfl
            refine bodyPost_ret (v := .agg #[.int .i64 x.fId, .int .i64 x.fPeers, .int .i64 x.fTerm, .int .i64 x.fVote, .slice (some ⟨be, oe, none⟩) x.fLog.length d4, .int .i64 ((k : Int) + 1), .int .i64 x.fRole, .slice A7 n7 d7, .slice A8 x.fMatch.length d8]) (by simp [results, Try.results38, go_sem, df0, df1, df2, df3, df4, df5, df6, df7, df8]) rfl ⟨by rw [HF.out]; rfl, HC.out.trans (HK.out.toBelow HC.out.size (by simp))⟩
          · go_wp2
            exact ⟨⟨k, by omega, by go_num, HC.out, hsz, Xn.out, Xr.out, by rw [Hid, HI.out, comFrom_no hlt HM.out]⟩, by simp [intOf] <;> omega⟩
end Go.Proofs.Ytcimnhpgackciaa
