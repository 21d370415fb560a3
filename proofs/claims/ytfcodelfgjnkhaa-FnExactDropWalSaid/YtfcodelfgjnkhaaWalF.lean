/- Logs: what is cut off behind, by the reference. -/
import Derived.Test.YtfcodelfgjnkhaaWalE
namespace Go.Proofs.Ytfcodelfgjnkhaa
open Go Go.RowKit Go.Sort
set_option linter.unusedVariables false
set_option linter.unusedSimpArgs false

set_option maxHeartbeats 4000000 in
set_option maxRecDepth 100000 in
theorem sCutWal_calls (x : DWal) (n : Int) (v2 : Value) (w : World) (g2 : kEntry.S w x.fEntries v2) (hl : x.fEntries.length ≤ 1048576) : Calls Try.prog 13 #[.agg #[.int .i64 x.fFirst, .int .i64 x.fBefore, v2], .int .i64 n] w
    fun e w' => ∃ v, e = .returned (.tuple #[v, .bool (cutB x n)]) ∧ MadeW w w' (cutW x n) v := by
  have G := Lib.hid g2; clear g2
  by_cases hg : goodWal x = true
  case neg =>
    have HG := Lib.hid (show goodWal x = false by simpa using hg)
    have HI := Lib.hid (Eq.refl true)
    clear hg
    go_enter Try.func13, Try.ntmps13
    go_wp2_with fail
    (with_reducible refine (sGoodWal_calls x v2 _ (Rp.S_below G.out (((Below.refl _ _).alloc (Nat.le_refl _) _).alloc (by simp) _)) (by omega)).mono ?_)
    rintro e w2 ⟨rfl, hb⟩
    rw [HG.out]
    have B0 : Box w2 w.heap.size #[.int .i64 x.fFirst, .int .i64 x.fBefore, v2] 28 := Box.below (Box.alloc (Box.new rfl)) hb
    have B2 : Box w2 (w.heap.size + 1) #[.int .i64 0, .int .i64 0, .slice none 0 0] 28 := Box.below (Box.new (by simp)) hb
    have HB2 := Lib.hid (Below.trans (((Below.refl w.heap.size w).alloc (Nat.le_refl _) _).alloc (by simp) _) (hb.mono (by simp <;> omega)))
    have hs2 : w.heap.size + 1 + 1 ≤ w2.heap.size := by have := hb.size; simpa using this
    clear hb
    obtain ⟨A, c, rfl, hc, hC⟩ := G.out
    have c0_0 := B0.cell 0 (v := .int .i64 x.fFirst) rfl
    have c0_1 := B0.cell 1 (v := .int .i64 x.fBefore) rfl
    have c0_2 := B0.cell 2 (v := .slice A x.fEntries.length c) rfl
    have X0 := Lib.hid B0
    have X2 := Lib.hid B2
    clear B0 B2
    have B0 := X0.out; have B2 := X2.out
    clear X0 X2
    have c2_0 := B2.cell 0 (v := .int .i64 0) rfl
    have c2_1 := B2.cell 1 (v := .int .i64 0) rfl
    have c2_2 := B2.cell 2 (v := .slice none 0 0) rfl
    have f2 := B2.fro
    have X2 := Lib.hid B2
    clear B2 B0
    go_wp2
    obtain ⟨hk, bf⟩ := X2.out.stored [.int .i64 0, .int .i64 0, .slice none 0 0] 0
    change bodyPost _ _ _ _ _ (Rp.setN w2 (w.heap.size + 1) 0 [.int .i64 0, .int .i64 0, .slice none 0 0])
    clear c2_0 c2_1 c2_2 f2
    generalize Rp.setN w2 (w.heap.size + 1) 0 [.int .i64 0, .int .i64 0, .slice none 0 0] = wf at *
    have d0 := bf.cell 0 (v := .int .i64 0) rfl
    have d1 := bf.cell 1 (v := .int .i64 0) rfl
    have d2 := bf.cell 2 (v := .slice none 0 0) rfl
    refine bodyPost_ret (v := .tuple #[.agg #[.int .i64 0, .int .i64 0, .slice none 0 0], .bool false]) (by simp [results, Try.results13, go_sem, d0, d1, d2]) rfl ⟨_, by rw [cutB, HG.out, Bool.false_and], ?_⟩
    rw [show cutW x n = zWal by rw [cutW, cutB, HG.out, Bool.false_and]; rfl]
    exact MadeW.zero _ _ (HB2.out.trans (hk.toBelow (by omega) (by simp)))
  case pos =>
  have hin := goodWal_first hg
  have HG := Lib.hid hg
  clear hg
  have hin2 : 1 ≤ x.fFirst ∧ x.fFirst ≤ 1000000 := by simpa [inB] using hin
  obtain ⟨i1, i2⟩ := hin2
  have hw1 : IntKind.i64.wrap (x.fFirst + x.fEntries.length) = x.fFirst + x.fEntries.length := by
    rw [IntKind.wrap_i64]
    omega
  by_cases hi : inB n x.fFirst (x.fFirst + x.fEntries.length) = true
  case neg =>
    have HI := Lib.hid (show inB n x.fFirst (x.fFirst + x.fEntries.length) = false by simpa using hi)
    clear hi
    go_enter Try.func13, Try.ntmps13
    go_wp2_with fail
    (with_reducible refine (sGoodWal_calls x v2 _ (Rp.S_below G.out (((Below.refl _ _).alloc (Nat.le_refl _) _).alloc (by simp) _)) (by omega)).mono ?_)
    rintro e w2 ⟨rfl, hb⟩
    rw [HG.out]
    have B0 : Box w2 w.heap.size #[.int .i64 x.fFirst, .int .i64 x.fBefore, v2] 28 := Box.below (Box.alloc (Box.new rfl)) hb
    have B2 : Box w2 (w.heap.size + 1) #[.int .i64 0, .int .i64 0, .slice none 0 0] 28 := Box.below (Box.new (by simp)) hb
    have HB2 := Lib.hid (Below.trans (((Below.refl w.heap.size w).alloc (Nat.le_refl _) _).alloc (by simp) _) (hb.mono (by simp <;> omega)))
    have hs2 : w.heap.size + 1 + 1 ≤ w2.heap.size := by have := hb.size; simpa using this
    clear hb
    obtain ⟨A, c, rfl, hc, hC⟩ := G.out
    have c0_0 := B0.cell 0 (v := .int .i64 x.fFirst) rfl
    have c0_1 := B0.cell 1 (v := .int .i64 x.fBefore) rfl
    have c0_2 := B0.cell 2 (v := .slice A x.fEntries.length c) rfl
    have X0 := Lib.hid B0
    have X2 := Lib.hid B2
    clear B0 B2
    go_wp2_with fail
    (with_reducible refine (sIn_calls _ _ _ _).mono ?_)
    rintro e w3 ⟨rfl, hw⟩
    rw [hw, HI.out]
    clear hw w3
    have B0 := X0.out; have B2 := X2.out
    clear X0 X2
    have c2_0 := B2.cell 0 (v := .int .i64 0) rfl
    have c2_1 := B2.cell 1 (v := .int .i64 0) rfl
    have c2_2 := B2.cell 2 (v := .slice none 0 0) rfl
    have f2 := B2.fro
    have X2 := Lib.hid B2
    clear B2 B0
    go_wp2
    obtain ⟨hk, bf⟩ := X2.out.stored [.int .i64 0, .int .i64 0, .slice none 0 0] 0
    change bodyPost _ _ _ _ _ (Rp.setN w2 (w.heap.size + 1) 0 [.int .i64 0, .int .i64 0, .slice none 0 0])
    clear c2_0 c2_1 c2_2 f2
    generalize Rp.setN w2 (w.heap.size + 1) 0 [.int .i64 0, .int .i64 0, .slice none 0 0] = wf at *
    have d0 := bf.cell 0 (v := .int .i64 0) rfl
    have d1 := bf.cell 1 (v := .int .i64 0) rfl
    have d2 := bf.cell 2 (v := .slice none 0 0) rfl
    refine bodyPost_ret (v := .tuple #[.agg #[.int .i64 0, .int .i64 0, .slice none 0 0], .bool false]) (by simp [results, Try.results13, go_sem, d0, d1, d2]) rfl ⟨_, by rw [cutB, HG.out, HI.out, Bool.and_false], ?_⟩
    rw [show cutW x n = zWal by rw [cutW, cutB, HG.out, HI.out, Bool.and_false]; rfl]
    exact MadeW.zero _ _ (HB2.out.trans (hk.toBelow (by omega) (by simp)))
  case pos =>
    have HI := Lib.hid hi
    have hj : x.fFirst ≤ n ∧ n ≤ x.fFirst + x.fEntries.length := by simpa [inB] using hi
    obtain ⟨j1, j2⟩ := hj
    clear hi
    obtain ⟨k, rfl⟩ : ∃ k : Nat, n = x.fFirst + k := ⟨(n - x.fFirst).toNat, by omega⟩
    have hwr : IntKind.i64.wrap (x.fFirst + k - x.fFirst) = k := by
      rw [show x.fFirst + (k : Int) - x.fFirst = k by omega]
      rw [IntKind.wrap_i64]
      omega
    have k0 : (0 : Int) ≤ (k : Int) := by omega
    have k1 : (k : Int) ≤ (x.fEntries.length : Int) := by omega
    go_enter Try.func13, Try.ntmps13
    go_wp2_with fail
    (with_reducible refine (sGoodWal_calls x v2 _ (Rp.S_below G.out (((Below.refl _ _).alloc (Nat.le_refl _) _).alloc (by simp) _)) (by omega)).mono ?_)
    rintro e w2 ⟨rfl, hb⟩
    rw [HG.out]
    have B0 : Box w2 w.heap.size #[.int .i64 x.fFirst, .int .i64 x.fBefore, v2] 28 := Box.below (Box.alloc (Box.new rfl)) hb
    have B2 : Box w2 (w.heap.size + 1) #[.int .i64 0, .int .i64 0, .slice none 0 0] 28 := Box.below (Box.new (by simp)) hb
    have HB2 := Lib.hid (Below.trans (((Below.refl w.heap.size w).alloc (Nat.le_refl _) _).alloc (by simp) _) (hb.mono (by simp <;> omega)))
    have hs2 : w.heap.size + 1 + 1 ≤ w2.heap.size := by have := hb.size; simpa using this
    clear hb
    obtain ⟨A, c, rfl, hc, hC⟩ := G.out
    have c0_0 := B0.cell 0 (v := .int .i64 x.fFirst) rfl
    have c0_1 := B0.cell 1 (v := .int .i64 x.fBefore) rfl
    have c0_2 := B0.cell 2 (v := .slice A x.fEntries.length c) rfl
    have X0 := Lib.hid B0
    have X2 := Lib.hid B2
    clear B0 B2
    go_wp2_with fail
    (with_reducible refine (sIn_calls _ _ _ _).mono ?_)
    rintro e w3 ⟨rfl, hw⟩
    rw [hw, HI.out]
    clear hw w3
    have B0 := X0.out; have B2 := X2.out
    clear X0 X2
    have X0 := Lib.hid B0; have X2 := Lib.hid B2
    clear B0 B2
    have k2 : (k : Int) ≤ (c : Int) := by have := hc.1; omega
    have s0 : w.heap.size < w2.heap.size := by omega
    have s1 : w.heap.size + 1 < w2.heap.size := by omega
    obtain ⟨ka, kb⟩ := acell w2
    have hlk : (x.fEntries.take k).length = k := by rw [List.length_take]; omega
    have GT := Lib.hid (Rp.S_take G.out k (by omega))
    go_wp2_with (at_builtin; go_loud (refine wp_append (d := kEntry) rfl _ _ 26 39 rfl Try.underlying26 infoEntry rfl (by decide) rfl (by decide) kEntry_flat (xs := []) (ys := x.fEntries.take k) rfl rfl (Rp.Row_made0 _ _ _ (by simp)) (Rp.S_below GT.out (HB2.out.alloc HB2.out.size _)) (by simp <;> omega) ?_; intro v3 w3 q1 q2 q3 _; rw [List.nil_append] at q1; obtain ⟨pa, pc, e3, _, _⟩ := Rp.Row_K q1; rw [hlk] at e3; subst e3; have B0 := Box.kept (Box.alloc X0.out) q2 (by simp; omega); have B2 := Box.kept (Box.alloc X2.out) q2 (by simp; omega); have c3_0 := B0.cell 0 (v := .int .i64 x.fFirst) rfl; have c3_1 := B0.cell 1 (v := .int .i64 x.fBefore) rfl; have c3_2 := B0.cell 2 (v := .slice A x.fEntries.length c) rfl; have f3 := B0.fro; have d2_0 := B2.cell 0 (v := .int .i64 0) rfl; have d2_1 := B2.cell 1 (v := .int .i64 0) rfl; have d2_2 := B2.cell 2 (v := .slice none 0 0) rfl; have f4 := B2.fro; have Q1 := Lib.hid q1; have Q2 := Lib.hid q2; have Q3 := Lib.hid q3; have Y2 := Lib.hid B2; clear B0 B2 q1 q2 q3))
    have HF : ∀ b ∈ Rp.ofOwn (.slice pa k pc), w.heap.size + 1 + 1 ≤ b := fun b hb => by rcases Q3.out b hb with h | h <;> simp at h <;> omega
    have HK : Below w.heap.size w w3 := HB2.out.trans ((Q2.out.newBelow (Nat.le_refl _)).mono HB2.out.size)
    have z3 : w2.heap.size + 1 ≤ w3.heap.size := by have := Q2.out.size; simpa using this
    have hk : KeptF [w.heap.size, w.heap.size + 1] w3 (Rp.setN (Rp.setN w3 w.heap.size 2 [.slice pa k pc]) (w.heap.size + 1) 0 [.int .i64 x.fFirst, .int .i64 x.fBefore, .slice pa k pc]) := Rp.setN_kept (by simp) _ _ _ (Rp.setN_kept (by simp) _ _ _ (KeptF.refl _ _))
    have q := Rp.Row_kept Q1.out hk (fun b hb => by have := HF b hb; simp <;> omega)
    have bf := (Y2.out.setN_other [.slice pa k pc] w.heap.size 2 (by omega)).stored [.int .i64 x.fFirst, .int .i64 x.fBefore, .slice pa k pc] 0
    change bodyPost _ _ _ _ _ (Rp.setN (Rp.setN w3 w.heap.size 2 [.slice pa k pc]) (w.heap.size + 1) 0 [.int .i64 x.fFirst, .int .i64 x.fBefore, .slice pa k pc])
    clear c3_0 c3_1 c3_2 f3 d2_0 d2_1 d2_2 f4
    generalize Rp.setN (Rp.setN w3 w.heap.size 2 [.slice pa k pc]) (w.heap.size + 1) 0 [.int .i64 x.fFirst, .int .i64 x.fBefore, .slice pa k pc] = wf at *
    have d0 := bf.2.cell 0 (v := .int .i64 x.fFirst) rfl
    have d1 := bf.2.cell 1 (v := .int .i64 x.fBefore) rfl
    have d2 := bf.2.cell 2 (v := .slice pa k pc) rfl
    refine bodyPost_ret (v := .tuple #[.agg #[.int .i64 x.fFirst, .int .i64 x.fBefore, .slice pa k pc], .bool true]) (by simp [results, Try.results13, go_sem, d0, d1, d2]) rfl ⟨_, by rw [cutB, HG.out, HI.out]; rfl, ?_⟩
    rw [show cutW x (x.fFirst + k) = takeW x (x.fFirst + k) by rw [cutW, cutB, HG.out, HI.out]; rfl]
    rw [← takeW_at] at q
    exact ⟨_, _, rfl, q, fun b hb => by have := HF b hb; omega, ofOwn_nodup _, HK.trans (hk.toBelow (by have := HK.size; omega) (by simp))⟩
end Go.Proofs.Ytfcodelfgjnkhaa
