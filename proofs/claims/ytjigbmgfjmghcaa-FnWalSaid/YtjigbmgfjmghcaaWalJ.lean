/- Logs: what is dropped in front, by the reference. -/
import Derived.Test.YtjigbmgfjmghcaaWalI
namespace Go.Proofs.Ytjigbmgfjmghcaa
open Go Go.RowKit Go.Sort
set_option linter.unusedVariables false
set_option linter.unusedSimpArgs false

set_option maxHeartbeats 4000000 in
set_option maxRecDepth 100000 in
theorem sDropWal_calls (x : DWal) (n : Int) (v2 : Value) (w : World) (g2 : kEntry.S w x.fEntries v2) (hl : x.fEntries.length ≤ 1048576) : Calls Try.prog 13 #[.agg #[.int .i64 x.fFirst, .int .i64 x.fBefore, v2], .int .i64 n] w
    fun e w' => ∃ v, e = .returned (.tuple #[v, .bool (dropB x n)]) ∧ MadeW w w' (dropW x n) v := by
  have G := Lib.hid g2; clear g2
  by_cases hg : goodWal x = true
  case neg =>
    have HG := Lib.hid (show goodWal x = false by simpa using hg)
    clear hg
    go_enter Try.func13, Try.ntmps13
    go_wp2_with fail
    (with_reducible refine (sGoodWal_calls x v2 _ (Rp.S_below G.out (((Below.refl _ _).alloc (Nat.le_refl _) _).alloc (by simp) _)) (by omega)).mono ?_)
    rintro e w2 ⟨rfl, hb⟩
    rw [HG.out]
    have B0 : Box w2 w.heap.size #[.int .i64 x.fFirst, .int .i64 x.fBefore, v2] 25 := Box.below (Box.alloc (Box.new rfl)) hb
    have B2 : Box w2 (w.heap.size + 1) #[.int .i64 0, .int .i64 0, .slice none 0 0] 25 := Box.below (Box.new (by simp)) hb
    have HB2 := Lib.hid (Below.trans (((Below.refl w.heap.size w).alloc (Nat.le_refl _) _).alloc (by simp) _) (hb.mono (by simp <;> omega)))
    have hs2 : w.heap.size + 1 + 1 ≤ w2.heap.size := by have := hb.size; simpa using this
    clear hb
    obtain ⟨A, c, rfl, hc, hC⟩ := G.out
    have c0_0 := B0.cell 0 (v := .int .i64 x.fFirst) rfl
    have c0_1 := B0.cell 1 (v := .int .i64 x.fBefore) rfl
    have c0_2 := B0.cell 2 (v := .slice A x.fEntries.length c) rfl
    have X0 := Lib.hid B0
    have X2 := Lib.hid B2
    clear B0 B2
    have B0 := X0.out; have B2 := X2.out
    clear X0 X2
    have c2_0 := B2.cell 0 (v := .int .i64 0) rfl
    have c2_1 := B2.cell 1 (v := .int .i64 0) rfl
    have c2_2 := B2.cell 2 (v := .slice none 0 0) rfl
    have f2 := B2.fro
    have X2 := Lib.hid B2
    clear B2 B0
    go_wp2
    obtain ⟨hk, bf⟩ := X2.out.stored [.int .i64 0, .int .i64 0, .slice none 0 0] 0
    change bodyPost _ _ _ _ _ (Rp.setN w2 (w.heap.size + 1) 0 [.int .i64 0, .int .i64 0, .slice none 0 0])
    clear c2_0 c2_1 c2_2 f2
    generalize Rp.setN w2 (w.heap.size + 1) 0 [.int .i64 0, .int .i64 0, .slice none 0 0] = wf at *
    have d0 := bf.cell 0 (v := .int .i64 0) rfl
    have d1 := bf.cell 1 (v := .int .i64 0) rfl
    have d2 := bf.cell 2 (v := .slice none 0 0) rfl
    refine bodyPost_ret (v := .tuple #[.agg #[.int .i64 0, .int .i64 0, .slice none 0 0], .bool false]) (by simp [results, Try.results13, go_sem, d0, d1, d2]) rfl ⟨_, by rw [dropB, HG.out, Bool.false_and, Bool.false_and], ?_⟩
    rw [show dropW x n = zWal by rw [dropW, dropB, HG.out, Bool.false_and, Bool.false_and]; rfl]
    exact MadeW.zero _ _ (HB2.out.trans (hk.toBelow (by omega) (by simp)))
  case pos =>
  have hin := goodWal_first hg
  have HG := Lib.hid hg
  clear hg
  have hin2 : 1 ≤ x.fFirst ∧ x.fFirst ≤ 1000000 := by simpa [inB] using hin
  obtain ⟨i1, i2⟩ := hin2
  have hw0 : IntKind.i64.wrap (x.fFirst + x.fEntries.length) = x.fFirst + x.fEntries.length := by rw [IntKind.wrap_i64]; omega
  have hw1 : IntKind.i64.wrap (x.fFirst - 1) = x.fFirst - 1 := by rw [IntKind.wrap_i64]; omega
  have hw2 : IntKind.i64.wrap (x.fFirst + x.fEntries.length - 1) = x.fFirst + x.fEntries.length - 1 := by rw [IntKind.wrap_i64]; omega
  by_cases hi : inB n (x.fFirst - 1) (x.fFirst + x.fEntries.length - 1) = true
  case neg =>
    have HI := Lib.hid (show inB n (x.fFirst - 1) (x.fFirst + x.fEntries.length - 1) = false by simpa using hi)
    clear hi
    go_enter Try.func13, Try.ntmps13
    go_wp2_with fail
    (with_reducible refine (sGoodWal_calls x v2 _ (Rp.S_below G.out (((Below.refl _ _).alloc (Nat.le_refl _) _).alloc (by simp) _)) (by omega)).mono ?_)
    rintro e w2 ⟨rfl, hb⟩
    rw [HG.out]
    have B0 : Box w2 w.heap.size #[.int .i64 x.fFirst, .int .i64 x.fBefore, v2] 25 := Box.below (Box.alloc (Box.new rfl)) hb
    have B2 : Box w2 (w.heap.size + 1) #[.int .i64 0, .int .i64 0, .slice none 0 0] 25 := Box.below (Box.new (by simp)) hb
    have HB2 := Lib.hid (Below.trans (((Below.refl w.heap.size w).alloc (Nat.le_refl _) _).alloc (by simp) _) (hb.mono (by simp <;> omega)))
    have hs2 : w.heap.size + 1 + 1 ≤ w2.heap.size := by have := hb.size; simpa using this
    clear hb
    obtain ⟨A, c, rfl, hc, hC⟩ := G.out
    have c0_0 := B0.cell 0 (v := .int .i64 x.fFirst) rfl
    have c0_1 := B0.cell 1 (v := .int .i64 x.fBefore) rfl
    have c0_2 := B0.cell 2 (v := .slice A x.fEntries.length c) rfl
    have X0 := Lib.hid B0
    have X2 := Lib.hid B2
    clear B0 B2
    go_wp2_with fail
    (with_reducible refine (sIn_calls _ _ _ _).mono ?_)
    rintro e w3 ⟨rfl, hw⟩
    rw [hw, HI.out]
    clear hw w3
    have B0 := X0.out; have B2 := X2.out
    clear X0 X2
    have c2_0 := B2.cell 0 (v := .int .i64 0) rfl
    have c2_1 := B2.cell 1 (v := .int .i64 0) rfl
    have c2_2 := B2.cell 2 (v := .slice none 0 0) rfl
    have f2 := B2.fro
    have X2 := Lib.hid B2
    clear B2 B0
    go_wp2
    obtain ⟨hk, bf⟩ := X2.out.stored [.int .i64 0, .int .i64 0, .slice none 0 0] 0
    change bodyPost _ _ _ _ _ (Rp.setN w2 (w.heap.size + 1) 0 [.int .i64 0, .int .i64 0, .slice none 0 0])
    clear c2_0 c2_1 c2_2 f2
    generalize Rp.setN w2 (w.heap.size + 1) 0 [.int .i64 0, .int .i64 0, .slice none 0 0] = wf at *
    have d0 := bf.cell 0 (v := .int .i64 0) rfl
    have d1 := bf.cell 1 (v := .int .i64 0) rfl
    have d2 := bf.cell 2 (v := .slice none 0 0) rfl
    refine bodyPost_ret (v := .tuple #[.agg #[.int .i64 0, .int .i64 0, .slice none 0 0], .bool false]) (by simp [results, Try.results13, go_sem, d0, d1, d2]) rfl ⟨_, by rw [dropB, HG.out, HI.out, Bool.and_false, Bool.false_and], ?_⟩
    rw [show dropW x n = zWal by rw [dropW, dropB, HG.out, HI.out, Bool.and_false, Bool.false_and]; rfl]
    exact MadeW.zero _ _ (HB2.out.trans (hk.toBelow (by omega) (by simp)))
  case pos =>
    have HI := Lib.hid hi
    have hj : x.fFirst - 1 ≤ n ∧ n ≤ x.fFirst + x.fEntries.length - 1 := by simpa [inB] using hi
    obtain ⟨j1, j2⟩ := hj
    clear hi
    by_cases hm : n < 1000000
    case neg =>
      have hd : decide (n < 1000000) = false := by simpa using hm
      have hge : 1000000 ≤ n := by omega
      go_enter Try.func13, Try.ntmps13
      go_wp2_with fail
      (with_reducible refine (sGoodWal_calls x v2 _ (Rp.S_below G.out (((Below.refl _ _).alloc (Nat.le_refl _) _).alloc (by simp) _)) (by omega)).mono ?_)
      rintro e w2 ⟨rfl, hb⟩
      rw [HG.out]
      have B0 : Box w2 w.heap.size #[.int .i64 x.fFirst, .int .i64 x.fBefore, v2] 25 := Box.below (Box.alloc (Box.new rfl)) hb
      have B2 : Box w2 (w.heap.size + 1) #[.int .i64 0, .int .i64 0, .slice none 0 0] 25 := Box.below (Box.new (by simp)) hb
      have HB2 := Lib.hid (Below.trans (((Below.refl w.heap.size w).alloc (Nat.le_refl _) _).alloc (by simp) _) (hb.mono (by simp <;> omega)))
      have hs2 : w.heap.size + 1 + 1 ≤ w2.heap.size := by have := hb.size; simpa using this
      clear hb
      obtain ⟨A, c, rfl, hc, hC⟩ := G.out
      have c0_0 := B0.cell 0 (v := .int .i64 x.fFirst) rfl
      have c0_1 := B0.cell 1 (v := .int .i64 x.fBefore) rfl
      have c0_2 := B0.cell 2 (v := .slice A x.fEntries.length c) rfl
      have X0 := Lib.hid B0
      have X2 := Lib.hid B2
      clear B0 B2
      go_wp2_with fail
      (with_reducible refine (sIn_calls _ _ _ _).mono ?_)
      rintro e w3 ⟨rfl, hw⟩
      rw [hw, HI.out]
      clear hw w3
      have B0 := X0.out; have B2 := X2.out
      clear X0 X2
      have c2_0 := B2.cell 0 (v := .int .i64 0) rfl
      have c2_1 := B2.cell 1 (v := .int .i64 0) rfl
      have c2_2 := B2.cell 2 (v := .slice none 0 0) rfl
      have f2 := B2.fro
      have X2 := Lib.hid B2
      clear B2 B0
      go_wp2
      obtain ⟨hk, bf⟩ := X2.out.stored [.int .i64 0, .int .i64 0, .slice none 0 0] 0
      change bodyPost _ _ _ _ _ (Rp.setN w2 (w.heap.size + 1) 0 [.int .i64 0, .int .i64 0, .slice none 0 0])
      clear c2_0 c2_1 c2_2 f2
      generalize Rp.setN w2 (w.heap.size + 1) 0 [.int .i64 0, .int .i64 0, .slice none 0 0] = wf at *
      have d0 := bf.cell 0 (v := .int .i64 0) rfl
      have d1 := bf.cell 1 (v := .int .i64 0) rfl
      have d2 := bf.cell 2 (v := .slice none 0 0) rfl
      refine bodyPost_ret (v := .tuple #[.agg #[.int .i64 0, .int .i64 0, .slice none 0 0], .bool false]) (by simp [results, Try.results13, go_sem, d0, d1, d2]) rfl ⟨_, by rw [dropB, HG.out, HI.out, hd, Bool.and_false], ?_⟩
      rw [show dropW x n = zWal by rw [dropW, dropB, HG.out, HI.out, hd, Bool.and_false]; rfl]
      exact MadeW.zero _ _ (HB2.out.trans (hk.toBelow (by omega) (by simp)))
    case pos =>
      by_cases hn : n < x.fFirst
      case pos =>
        obtain rfl : n = x.fFirst - 1 := by omega
        have hwa : IntKind.i64.wrap (x.fFirst - 1 - x.fFirst) = -1 := by rw [show x.fFirst - 1 - x.fFirst = -1 by omega, IntKind.wrap_i64]; omega
        have hwb : IntKind.i64.wrap (x.fFirst - 1 + 1) = x.fFirst := by rw [show x.fFirst - 1 + 1 = x.fFirst by omega, IntKind.wrap_i64]; omega
        have hwc : IntKind.i64.wrap x.fFirst = x.fFirst := by rw [IntKind.wrap_i64]; omega
        go_enter Try.func13, Try.ntmps13
        go_wp2_with fail
        (with_reducible refine (sGoodWal_calls x v2 _ (Rp.S_below G.out (((Below.refl _ _).alloc (Nat.le_refl _) _).alloc (by simp) _)) (by omega)).mono ?_)
        rintro e w2 ⟨rfl, hb⟩
        rw [HG.out]
        have B0 : Box w2 w.heap.size #[.int .i64 x.fFirst, .int .i64 x.fBefore, v2] 25 := Box.below (Box.alloc (Box.new rfl)) hb
        have B2 : Box w2 (w.heap.size + 1) #[.int .i64 0, .int .i64 0, .slice none 0 0] 25 := Box.below (Box.new (by simp)) hb
        have HB2 := Lib.hid (Below.trans (((Below.refl w.heap.size w).alloc (Nat.le_refl _) _).alloc (by simp) _) (hb.mono (by simp <;> omega)))
        have hs2 : w.heap.size + 1 + 1 ≤ w2.heap.size := by have := hb.size; simpa using this
        clear hb
        obtain ⟨A, c, rfl, hc, hC⟩ := G.out
        have c0_0 := B0.cell 0 (v := .int .i64 x.fFirst) rfl
        have c0_1 := B0.cell 1 (v := .int .i64 x.fBefore) rfl
        have c0_2 := B0.cell 2 (v := .slice A x.fEntries.length c) rfl
        have X0 := Lib.hid B0
        have X2 := Lib.hid B2
        clear B0 B2
        go_wp2_with fail
        (with_reducible refine (sIn_calls _ _ _ _).mono ?_)
        rintro e w3 ⟨rfl, hw⟩
        rw [hw, HI.out]
        clear hw w3
        have B0 := X0.out; have B2 := X2.out
        clear X0 X2
        have c2_0 := B0.cell 0 (v := .int .i64 x.fFirst) rfl
        have f0 := B0.fro
        have X0 := Lib.hid B0; have X2 := Lib.hid B2
        clear B0 B2
        go_upto_region 7 with fail
        have hk0 : KeptF [w.heap.size] w2 (w2.setCell ⟨w.heap.size, 0, none⟩ (.int .i64 x.fFirst)) := (KeptF.refl _ _).set (by simp) _
        have B0 : Box (w2.setCell ⟨w.heap.size, 0, none⟩ (.int .i64 x.fFirst)) w.heap.size #[.int .i64 x.fFirst, .int .i64 x.fBefore, .slice A x.fEntries.length c] 25 := X0.out.set 0 _
        have B2 := X2.out.kept hk0 (by simp)
        have HB3 := Lib.hid (HB2.out.trans (hk0.toBelow HB2.out.size (by simp)))
        have hs3 := Nat.le_trans hs2 hk0.size
        clear X0 X2 hk0 c0_0 c0_1 c0_2 c2_0 f0
        generalize w2.setCell ⟨w.heap.size, 0, none⟩ (.int .i64 x.fFirst) = w3 at *
        have X0 := Lib.hid B0; have X2 := Lib.hid B2
        clear B0 B2
        have e1 : decide (x.fFirst - 1 < 1000000) = true := by simpa using hm
        have c3_0 := X0.out.cell 0 (v := .int .i64 x.fFirst) rfl
        have c3_1 := X0.out.cell 1 (v := .int .i64 x.fBefore) rfl
        have c3_2 := X0.out.cell 2 (v := .slice A x.fEntries.length c) rfl
        have s0 : w.heap.size < w3.heap.size := X0.out.lt
        have s1 : w.heap.size + 1 < w3.heap.size := X2.out.lt
        obtain ⟨ka, kb⟩ := acell w3
        have GT := Lib.hid (show kEntry.S w (x.fEntries.drop 0) (.slice A x.fEntries.length c) from G.out)
        have hlk : (x.fEntries.drop (0)).length = x.fEntries.length := by simp
        go_wp2_with (at_builtin; go_loud (refine wp_append (d := kEntry) rfl _ _ 23 27 rfl Try.underlying23 infoEntry rfl (by decide) rfl (by decide) kEntry_flat (xs := []) (ys := x.fEntries.drop (0)) rfl rfl (Rp.Row_made0 _ _ _ (by simp)) (Rp.S_below GT.out (HB3.out.alloc HB3.out.size _)) (by simp <;> omega) ?_; intro v3 w4 q1 q2 q3 _; rw [List.nil_append] at q1; obtain ⟨pa, pc, e3, _, _⟩ := Rp.Row_K q1; rw [hlk] at e3; subst e3; have B0 := Box.kept (Box.alloc X0.out) q2 (by simp; omega); have B2 := Box.kept (Box.alloc X2.out) q2 (by simp; omega); have c4_0 := B0.cell 0 (v := .int .i64 x.fFirst) rfl; have c4_1 := B0.cell 1 (v := .int .i64 x.fBefore) rfl; have c4_2 := B0.cell 2 (v := .slice A x.fEntries.length c) rfl; have f3 := B0.fro; have d2_0 := B2.cell 0 (v := .int .i64 0) rfl; have d2_1 := B2.cell 1 (v := .int .i64 0) rfl; have d2_2 := B2.cell 2 (v := .slice none 0 0) rfl; have f4 := B2.fro; have Q1 := Lib.hid q1; have Q2 := Lib.hid q2; have Q3 := Lib.hid q3; have Y2 := Lib.hid B2; clear B0 B2 q1 q2 q3))
        have HF : ∀ b ∈ Rp.ofOwn (.slice pa x.fEntries.length pc), w.heap.size + 1 + 1 ≤ b := fun b hb => by rcases Q3.out b hb with h | h <;> simp at h <;> omega
        have HK : Below w.heap.size w w4 := HB3.out.trans ((Q2.out.newBelow (Nat.le_refl _)).mono HB3.out.size)
        have z3 : w3.heap.size + 1 ≤ w4.heap.size := by have := Q2.out.size; simpa using this
        have hk : KeptF [w.heap.size, w.heap.size + 1] w4 (Rp.setN (Rp.setN w4 w.heap.size 2 [.slice pa x.fEntries.length pc]) (w.heap.size + 1) 0 [.int .i64 x.fFirst, .int .i64 x.fBefore, .slice pa x.fEntries.length pc]) := Rp.setN_kept (by simp) _ _ _ (Rp.setN_kept (by simp) _ _ _ (KeptF.refl _ _))
        have q := Rp.Row_kept Q1.out hk (fun b hb => by have := HF b hb; simp <;> omega)
        have bf := (Y2.out.setN_other [.slice pa x.fEntries.length pc] w.heap.size 2 (by omega)).stored [.int .i64 x.fFirst, .int .i64 x.fBefore, .slice pa x.fEntries.length pc] 0
        change bodyPost _ _ _ _ _ (Rp.setN (Rp.setN w4 w.heap.size 2 [.slice pa x.fEntries.length pc]) (w.heap.size + 1) 0 [.int .i64 x.fFirst, .int .i64 x.fBefore, .slice pa x.fEntries.length pc])
        clear c3_0 c3_1 c3_2 c4_0 c4_1 c4_2 f3 d2_0 d2_1 d2_2 f4
        generalize Rp.setN (Rp.setN w4 w.heap.size 2 [.slice pa x.fEntries.length pc]) (w.heap.size + 1) 0 [.int .i64 x.fFirst, .int .i64 x.fBefore, .slice pa x.fEntries.length pc] = wf at *
        have d0 := bf.2.cell 0 (v := .int .i64 x.fFirst) rfl
        have d1 := bf.2.cell 1 (v := .int .i64 x.fBefore) rfl
        have d2 := bf.2.cell 2 (v := .slice pa x.fEntries.length pc) rfl
        refine bodyPost_ret (v := .tuple #[.agg #[.int .i64 x.fFirst, .int .i64 x.fBefore, .slice pa x.fEntries.length pc], .bool true]) (by simp [results, Try.results13, go_sem, d0, d1, d2]) rfl ⟨_, by rw [dropB, HG.out, HI.out, e1]; rfl, ?_⟩
        rw [show dropW x (x.fFirst - 1) = x by rw [dropW, dropB, HG.out, HI.out, e1, show (x.fFirst - 1 - x.fFirst + 1).toNat = 0 by omega]; rfl]
        exact ⟨_, _, rfl, q, fun b hb => by have := HF b hb; omega, ofOwn_nodup _, HK.trans (hk.toBelow (by have := HK.size; omega) (by simp))⟩
      case neg =>
        obtain ⟨k, rfl⟩ : ∃ k : Nat, n = x.fFirst + k := ⟨(n - x.fFirst).toNat, by omega⟩
        have hkl : k < x.fEntries.length := by omega
        have i60 : x.fEntries.length ≤ 60 := goodWal_len HG.out
        have hw3 : IntKind.i64.wrap (x.fFirst + k - x.fFirst) = k := by
          rw [show x.fFirst + (k : Int) - x.fFirst = k by omega, IntKind.wrap_i64]
          omega
        have hw4 : IntKind.i64.wrap ((k : Int) + 1) = k + 1 := by rw [IntKind.wrap_i64]; omega
        have hw5 : IntKind.i64.wrap ((k : Int) + 1 - 1) = k := by rw [show (k : Int) + 1 - 1 = k by omega, IntKind.wrap_i64]; omega
        have hw7 : IntKind.i64.wrap (k : Int) = k := by rw [IntKind.wrap_i64]; omega
        have hw6 : IntKind.i64.wrap (x.fFirst + k + 1) = x.fFirst + k + 1 := by rw [IntKind.wrap_i64]; omega
        have k0 : (0 : Int) ≤ (k : Int) := by omega
        have k1 : (k : Int) < (x.fEntries.length : Int) := by omega
        have k2 : (k : Int) + 1 ≤ (x.fEntries.length : Int) := by omega
        have k3 : (0 : Int) ≤ (k : Int) + 1 := by omega
        have e1 : decide (x.fFirst + (k : Int) < 1000000) = true := by simpa using hm
        go_enter Try.func13, Try.ntmps13
        go_wp2_with fail
        (with_reducible refine (sGoodWal_calls x v2 _ (Rp.S_below G.out (((Below.refl _ _).alloc (Nat.le_refl _) _).alloc (by simp) _)) (by omega)).mono ?_)
        rintro e w2 ⟨rfl, hb⟩
        rw [HG.out]
        have B0 : Box w2 w.heap.size #[.int .i64 x.fFirst, .int .i64 x.fBefore, v2] 25 := Box.below (Box.alloc (Box.new rfl)) hb
        have B2 : Box w2 (w.heap.size + 1) #[.int .i64 0, .int .i64 0, .slice none 0 0] 25 := Box.below (Box.new (by simp)) hb
        have HB2 := Lib.hid (Below.trans (((Below.refl w.heap.size w).alloc (Nat.le_refl _) _).alloc (by simp) _) (hb.mono (by simp <;> omega)))
        have hs2 : w.heap.size + 1 + 1 ≤ w2.heap.size := by have := hb.size; simpa using this
        clear hb
        obtain ⟨A, c, rfl, hc, hC⟩ := G.out
        have c0_0 := B0.cell 0 (v := .int .i64 x.fFirst) rfl
        have c0_1 := B0.cell 1 (v := .int .i64 x.fBefore) rfl
        have c0_2 := B0.cell 2 (v := .slice A x.fEntries.length c) rfl
        have X0 := Lib.hid B0
        have X2 := Lib.hid B2
        clear B0 B2
        go_wp2_with fail
        (with_reducible refine (sIn_calls _ _ _ _).mono ?_)
        rintro e w3 ⟨rfl, hw⟩
        rw [hw, HI.out]
        clear hw w3
        have B0 := X0.out; have B2 := X2.out
        clear X0 X2
        obtain ⟨b, o, cs, rfl, kk1, kq1⟩ := Rp.C_get hC k hkl
        obtain rfl := kEntry_K kk1
        have k4 : (k : Int) + 1 ≤ (c : Int) := by have := hc.1; omega
        have k5 : (x.fEntries.length : Int) ≤ (c : Int) := by have := hc.1; omega
        have hbw := World.block_lt_of_cell? w _ (kq1 0 _ rfl)
        have a0 := (HB2.out.cell hbw).trans (kq1 0 _ rfl)
        simp only [kEntry_sz, Nat.add_zero] at a0 hbw
        clear kq1 kk1
        have c2_0 := B0.cell 0 (v := .int .i64 x.fFirst) rfl
        have f0 := B0.fro
        have X0 := Lib.hid B0; have X2 := Lib.hid B2
        clear B0 B2
        go_upto_region 7 with fail
        have hk0 : KeptF [w.heap.size] w2 ((w2.setCell ⟨w.heap.size, 1, none⟩ (.int .i64 x.fEntries[k].fTerm)).setCell ⟨w.heap.size, 0, none⟩ (.int .i64 (x.fFirst + k + 1))) := ((KeptF.refl _ _).set (by simp) _).set (by simp) _
        have B0 : Box ((w2.setCell ⟨w.heap.size, 1, none⟩ (.int .i64 x.fEntries[k].fTerm)).setCell ⟨w.heap.size, 0, none⟩ (.int .i64 (x.fFirst + k + 1))) w.heap.size #[.int .i64 (x.fFirst + k + 1), .int .i64 x.fEntries[k].fTerm, .slice (some ⟨b, o, none⟩) x.fEntries.length c] 25 := (X0.out.set 1 _).set 0 _
        have B2 := X2.out.kept hk0 (by simp)
        have HB3 := Lib.hid (HB2.out.trans (hk0.toBelow HB2.out.size (by simp)))
        have hs3 := Nat.le_trans hs2 hk0.size
        clear X0 X2 hk0 c0_0 c0_1 c0_2 c2_0 f0 a0
        generalize (w2.setCell ⟨w.heap.size, 1, none⟩ (.int .i64 x.fEntries[k].fTerm)).setCell ⟨w.heap.size, 0, none⟩ (.int .i64 (x.fFirst + k + 1)) = w3 at *
        have X0 := Lib.hid B0; have X2 := Lib.hid B2
        clear B0 B2
        by_cases hck : c = k + 1
        all_goals
          have c3_0 := X0.out.cell 0 (v := .int .i64 (x.fFirst + k + 1)) rfl
          have c3_1 := X0.out.cell 1 (v := .int .i64 x.fEntries[k].fTerm) rfl
          have c3_2 := X0.out.cell 2 (v := .slice (some ⟨b, o, none⟩) x.fEntries.length c) rfl
          have s0 : w.heap.size < w3.heap.size := X0.out.lt
          have s1 : w.heap.size + 1 < w3.heap.size := X2.out.lt
          obtain ⟨ka, kb⟩ := acell w3
          have hlk : (x.fEntries.drop (k + 1)).length = x.fEntries.length - (k + 1) := by rw [List.length_drop]
          go_wp2_with (at_builtin; go_loud (refine wp_append (d := kEntry) rfl _ _ 23 27 rfl Try.underlying23 infoEntry rfl (by decide) rfl (by decide) kEntry_flat (xs := []) (ys := x.fEntries.drop (k + 1)) rfl rfl (Rp.Row_made0 _ _ _ (by simp)) (by first | exact Rp.S_dropE (k + 1) (by have := hc.1; omega) _ _ _ (by simp) | exact Rp.S_dropN (Rp.S_below G.out (HB3.out.alloc HB3.out.size _)) (k + 1) (by omega) _ rfl) (by simp <;> omega) ?_; intro v3 w4 q1 q2 q3 _; rw [List.nil_append] at q1; obtain ⟨pa, pc, e3, _, _⟩ := Rp.Row_K q1; rw [hlk] at e3; subst e3; have B0 := Box.kept (Box.alloc X0.out) q2 (by simp; omega); have B2 := Box.kept (Box.alloc X2.out) q2 (by simp; omega); have c4_0 := B0.cell 0 (v := .int .i64 (x.fFirst + k + 1)) rfl; have c4_1 := B0.cell 1 (v := .int .i64 x.fEntries[k].fTerm) rfl; have c4_2 := B0.cell 2 (v := .slice (some ⟨b, o, none⟩) x.fEntries.length c) rfl; have f3 := B0.fro; have d2_0 := B2.cell 0 (v := .int .i64 0) rfl; have d2_1 := B2.cell 1 (v := .int .i64 0) rfl; have d2_2 := B2.cell 2 (v := .slice none 0 0) rfl; have f4 := B2.fro; have Q1 := Lib.hid q1; have Q2 := Lib.hid q2; have Q3 := Lib.hid q3; have Y2 := Lib.hid B2; clear B0 B2 q1 q2 q3))
          have HF : ∀ b ∈ Rp.ofOwn (.slice pa (x.fEntries.length - (k + 1)) pc), w.heap.size + 1 + 1 ≤ b := fun b hb => by rcases Q3.out b hb with h | h <;> simp at h <;> omega
          have HK : Below w.heap.size w w4 := HB3.out.trans ((Q2.out.newBelow (Nat.le_refl _)).mono HB3.out.size)
          have z3 : w3.heap.size + 1 ≤ w4.heap.size := by have := Q2.out.size; simpa using this
          have hk : KeptF [w.heap.size, w.heap.size + 1] w4 (Rp.setN (Rp.setN w4 w.heap.size 2 [.slice pa (x.fEntries.length - (k + 1)) pc]) (w.heap.size + 1) 0 [.int .i64 (x.fFirst + k + 1), .int .i64 x.fEntries[k].fTerm, .slice pa (x.fEntries.length - (k + 1)) pc]) := Rp.setN_kept (by simp) _ _ _ (Rp.setN_kept (by simp) _ _ _ (KeptF.refl _ _))
          have q := Rp.Row_kept Q1.out hk (fun b hb => by have := HF b hb; simp <;> omega)
          have bf := (Y2.out.setN_other [.slice pa (x.fEntries.length - (k + 1)) pc] w.heap.size 2 (by omega)).stored [.int .i64 (x.fFirst + k + 1), .int .i64 x.fEntries[k].fTerm, .slice pa (x.fEntries.length - (k + 1)) pc] 0
          change bodyPost _ _ _ _ _ (Rp.setN (Rp.setN w4 w.heap.size 2 [.slice pa (x.fEntries.length - (k + 1)) pc]) (w.heap.size + 1) 0 [.int .i64 (x.fFirst + k + 1), .int .i64 x.fEntries[k].fTerm, .slice pa (x.fEntries.length - (k + 1)) pc])
          clear c3_0 c3_1 c3_2 c4_0 c4_1 c4_2 f3 d2_0 d2_1 d2_2 f4
          generalize Rp.setN (Rp.setN w4 w.heap.size 2 [.slice pa (x.fEntries.length - (k + 1)) pc]) (w.heap.size + 1) 0 [.int .i64 (x.fFirst + k + 1), .int .i64 x.fEntries[k].fTerm, .slice pa (x.fEntries.length - (k + 1)) pc] = wf at *
          have d0 := bf.2.cell 0 (v := .int .i64 (x.fFirst + k + 1)) rfl
          have d1 := bf.2.cell 1 (v := .int .i64 x.fEntries[k].fTerm) rfl
          have d2 := bf.2.cell 2 (v := .slice pa (x.fEntries.length - (k + 1)) pc) rfl
          refine bodyPost_ret (v := .tuple #[.agg #[.int .i64 (x.fFirst + k + 1), .int .i64 x.fEntries[k].fTerm, .slice pa (x.fEntries.length - (k + 1)) pc], .bool true]) (by simp [results, Try.results13, go_sem, d0, d1, d2]) rfl ⟨_, by rw [dropB, HG.out, HI.out, e1]; rfl, ?_⟩
          rw [show dropW x (x.fFirst + k) = restW x (k + 1) by rw [dropW, dropB, HG.out, HI.out, e1, show (x.fFirst + (k : Int) - x.fFirst + 1).toNat = k + 1 by omega]; rfl]
          exact ⟨_, _, by rw [restW_first, restW_bef hkl], q, fun b hb => by have := HF b hb; omega, ofOwn_nodup _, HK.trans (hk.toBelow (by have := HK.size; omega) (by simp))⟩
end Go.Proofs.Ytjigbmgfjmghcaa
