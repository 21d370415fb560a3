/- Logs: own copies, what is put behind, cut, dropped. -/
import Derived.Test.YtjigbmgfjmghcaaWal
namespace Go.Proofs.Ytjigbmgfjmghcaa
open Go Go.RowKit Go.Sort
set_option linter.unusedVariables false
set_option linter.unusedSimpArgs false

def zWal : DWal := ⟨0, 0, []⟩
/-- A struct made anew: its cells, its blocks, all of them new. -/
def MadeW (w w' : World) (x : DWal) (v : Value) : Prop := ∃ v2 F, v = .agg #[.int .i64 x.fFirst, .int .i64 x.fBefore, v2] ∧ kEntry.Row 27 w' F x.fEntries v2 ∧ (∀ b ∈ F, w.heap.size ≤ b) ∧ F.Nodup ∧ Below w.heap.size w w'
theorem MadeW.zero (w w' : World) (h : Below w.heap.size w w') : MadeW w w' zWal (.agg #[.int .i64 0, .int .i64 0, .slice none 0 0]) := ⟨_, [], rfl, Rp.Row_nil _ _ _, by simp, by simp, h⟩

set_option maxHeartbeats 2000000 in
set_option maxRecDepth 100000 in
theorem cloneWal_calls (x : DWal) (v2 : Value) (w : World) (g2 : kEntry.S w x.fEntries v2) (hl : x.fEntries.length ≤ 16777216) : Calls Try.prog 27 #[.agg #[.int .i64 x.fFirst, .int .i64 x.fBefore, v2]] w
    fun e w' => ∃ v, e = .returned v ∧ MadeW w w' x v := by
  have G := Lib.hid g2; clear g2
  go_enter Try.func27, Try.ntmps27
  go_wp2_with fail
  (with_reducible refine (cloneEntry_calls x.fEntries v2 _ (Rp.S_below G.out (((Below.refl _ _).alloc (Nat.le_refl _) _).alloc (by simp) _)) hl).mono ?_)
  rintro e w1 ⟨p, F, rfl, r1, r2, r3, hb⟩
  obtain ⟨pa, pc, rfl, _, _⟩ := Rp.Row_K r1
  have B0 : Box w1 w.heap.size #[.int .i64 x.fFirst, .int .i64 x.fBefore, v2] 25 := Box.below (Box.alloc (Box.new rfl)) hb
  have B1 : Box w1 (w.heap.size + 1) #[.int .i64 0, .int .i64 0, .slice none 0 0] 25 := Box.below (Box.new (by simp)) hb
  have hf : ∀ b ∈ F, w.heap.size + 1 + 1 ≤ b := by simpa using r2
  have HB := Lib.hid (Below.trans (((Below.refl w.heap.size w).alloc (Nat.le_refl _) _).alloc (by simp) _) (hb.mono (by simp <;> omega)))
  have HF := Lib.hid hf; have R1 := Lib.hid r1; have R3 := Lib.hid r3
  clear hf r1 r2 r3 hb
  have c0_0 := B0.cell 0 (v := .int .i64 x.fFirst) rfl
  have c0_1 := B0.cell 1 (v := .int .i64 x.fBefore) rfl
  have c0_2 := B0.cell 2 (v := v2) rfl
  have c1_0 := B1.cell 0 (v := .int .i64 0) rfl
  have c1_1 := B1.cell 1 (v := .int .i64 0) rfl
  have c1_2 := B1.cell 2 (v := .slice none 0 0) rfl
  have f0 := B0.fro
  have f1 := B1.fro
  have X0 := Lib.hid B0; have X1 := Lib.hid B1
  clear B0 B1
  go_wp2
  have hk : KeptF [w.heap.size, w.heap.size + 1] w1 (Rp.setN (Rp.setN w1 w.heap.size 2 [.slice pa x.fEntries.length pc]) (w.heap.size + 1) 0 [.int .i64 x.fFirst, .int .i64 x.fBefore, .slice pa x.fEntries.length pc]) := Rp.setN_kept (by simp) _ _ _ (Rp.setN_kept (by simp) _ _ _ (KeptF.refl _ _))
  have q := Rp.Row_kept R1.out hk (fun b hb => by have := HF.out b hb; simp; omega)
  have bf : Box (Rp.setN (Rp.setN w1 w.heap.size 2 [.slice pa x.fEntries.length pc]) (w.heap.size + 1) 0 [.int .i64 x.fFirst, .int .i64 x.fBefore, .slice pa x.fEntries.length pc]) (w.heap.size + 1) #[.int .i64 x.fFirst, .int .i64 x.fBefore, .slice pa x.fEntries.length pc] 25 := Box.setN _ (Box.setN_other X1.out _ _ _ (by omega)) 0
  change bodyPost _ _ _ _ _ (Rp.setN (Rp.setN w1 w.heap.size 2 [.slice pa x.fEntries.length pc]) (w.heap.size + 1) 0 [.int .i64 x.fFirst, .int .i64 x.fBefore, .slice pa x.fEntries.length pc])
  generalize Rp.setN (Rp.setN w1 w.heap.size 2 [.slice pa x.fEntries.length pc]) (w.heap.size + 1) 0 [.int .i64 x.fFirst, .int .i64 x.fBefore, .slice pa x.fEntries.length pc] = wf at *
  have d0 := bf.cell 0 (v := .int .i64 x.fFirst) rfl
  have d1 := bf.cell 1 (v := .int .i64 x.fBefore) rfl
  have d2 := bf.cell 2 (v := .slice pa x.fEntries.length pc) rfl
  exact bodyPost_ret (v := .agg #[.int .i64 x.fFirst, .int .i64 x.fBefore, .slice pa x.fEntries.length pc]) (by simp [results, Try.results27, go_sem, d0, d1, d2]) rfl ⟨_, rfl, _, F, rfl, q, fun b hb => by have := HF.out b hb; omega, R3.out, HB.out.trans (hk.toBelow HB.out.size (by simp))⟩

set_option maxHeartbeats 2000000 in
set_option maxRecDepth 100000 in
theorem l3Own_calls (x : DWal) (v2 : Value) (w : World) (g2 : kEntry.S w x.fEntries v2) (hl : x.fEntries.length ≤ 16777216) : Calls Try.prog 21 #[.agg #[.int .i64 x.fFirst, .int .i64 x.fBefore, v2]] w
    fun e w' => ∃ v, e = .returned v ∧ MadeW w w' x v := by
  have g0 := g2
  obtain ⟨A, c, rfl, hc, h⟩ := g2
  have G := Lib.hid g0; clear g0 h
  go_enter Try.func21, Try.ntmps21
  go_wp2_with (at_builtin; go_loud (refine wp_append (d := kEntry) rfl _ _ 23 27 rfl Try.underlying23 infoEntry rfl (by decide) rfl (by decide) kEntry_flat (xs := []) (ys := x.fEntries) rfl rfl (Rp.Row_made0 _ _ _ (by simp)) (Rp.S_below G.out ((((Below.refl _ _).alloc (Nat.le_refl _) _).alloc (by simp) _).alloc (by simp <;> omega) _)) (by simpa using hl) ?_); go_loud (intro v1 w1 r1 r2 r3 _; obtain ⟨pa, pc, rfl, _, _⟩ := Rp.Row_K r1; have R1 := Lib.hid r1; have R2 := Lib.hid r2; have R3 := Lib.hid r3; clear r1 r2 r3; have B0 : Box w1 w.heap.size #[.int .i64 x.fFirst, .int .i64 x.fBefore, .slice A x.fEntries.length c] 25 := Box.kept (Box.alloc (Box.alloc (Box.new rfl))) R2.out (by simp <;> omega); have B1 : Box w1 (w.heap.size + 1) #[.int .i64 0, .int .i64 0, .slice none 0 0] 25 := Box.kept (Box.alloc (Box.new (by simp))) R2.out (by simp <;> omega); have c0_0 := B0.cell 0 (v := .int .i64 x.fFirst) rfl; have c0_1 := B0.cell 1 (v := .int .i64 x.fBefore) rfl; have c0_2 := B0.cell 2 (v := .slice A x.fEntries.length c) rfl; have c1_0 := B1.cell 0 (v := .int .i64 0) rfl; have c1_1 := B1.cell 1 (v := .int .i64 0) rfl; have c1_2 := B1.cell 2 (v := .slice none 0 0) rfl; have f0 := B0.fro; have f1 := B1.fro; have X0 := Lib.hid B0; have X1 := Lib.hid B1; clear B0 B1))
  have hk : KeptF [w.heap.size, w.heap.size + 1] w1 (Rp.setN (Rp.setN w1 w.heap.size 2 [.slice pa x.fEntries.length pc]) (w.heap.size + 1) 0 [.int .i64 x.fFirst, .int .i64 x.fBefore, .slice pa x.fEntries.length pc]) := Rp.setN_kept (by simp) _ _ _ (Rp.setN_kept (by simp) _ _ _ (KeptF.refl _ _))
  have HF : ∀ b ∈ Rp.ofOwn (.slice pa x.fEntries.length pc), w.heap.size + 1 + 1 ≤ b := fun b hb => by rcases R3.out b hb with h | h <;> simp at h <;> omega
  have HB : Below w.heap.size w w1 := (((Below.refl w.heap.size w).alloc (Nat.le_refl _) _).alloc (by simp) _).trans ((R2.out.newBelow (by simp)).mono (by simp <;> omega))
  have q := Rp.Row_kept R1.out hk (fun b hb => by have := HF b hb; simp <;> omega)
  have bf : Box (Rp.setN (Rp.setN w1 w.heap.size 2 [.slice pa x.fEntries.length pc]) (w.heap.size + 1) 0 [.int .i64 x.fFirst, .int .i64 x.fBefore, .slice pa x.fEntries.length pc]) (w.heap.size + 1) #[.int .i64 x.fFirst, .int .i64 x.fBefore, .slice pa x.fEntries.length pc] 25 := Box.setN _ (Box.setN_other X1.out _ _ _ (by omega)) 0
  change bodyPost _ _ _ _ _ (Rp.setN (Rp.setN w1 w.heap.size 2 [.slice pa x.fEntries.length pc]) (w.heap.size + 1) 0 [.int .i64 x.fFirst, .int .i64 x.fBefore, .slice pa x.fEntries.length pc])
  generalize Rp.setN (Rp.setN w1 w.heap.size 2 [.slice pa x.fEntries.length pc]) (w.heap.size + 1) 0 [.int .i64 x.fFirst, .int .i64 x.fBefore, .slice pa x.fEntries.length pc] = wf at *
  have d0 := bf.cell 0 (v := .int .i64 x.fFirst) rfl
  have d1 := bf.cell 1 (v := .int .i64 x.fBefore) rfl
  have d2 := bf.cell 2 (v := .slice pa x.fEntries.length pc) rfl
  exact bodyPost_ret (v := .agg #[.int .i64 x.fFirst, .int .i64 x.fBefore, .slice pa x.fEntries.length pc]) (by simp [results, Try.results21, go_sem, d0, d1, d2]) rfl ⟨_, rfl, _, _, rfl, q, fun b hb => by have := HF b hb; omega, ofOwn_nodup _, HB.trans (hk.toBelow HB.size (by simp <;> omega))⟩
def toldW (x : DWal) : DWal := if goodWal x then x else zWal
set_option maxHeartbeats 2000000 in
set_option maxRecDepth 100000 in
theorem told_calls (x : DWal) (v2 : Value) (w : World) (g2 : kEntry.S w x.fEntries v2) (hl : x.fEntries.length ≤ 16777216) : Calls Try.prog 19 #[.agg #[.int .i64 x.fFirst, .int .i64 x.fBefore, v2]] w
    fun e w' => ∃ v, e = .returned (.tuple #[v, .bool (goodWal x)]) ∧ MadeW w w' (toldW x) v := by
  have G := Lib.hid g2; clear g2
  by_cases hg : goodWal x = true
  · have HG := Lib.hid hg
    have HT := Lib.hid (show toldW x = x by rw [toldW, if_pos hg])
    clear hg
    go_enter Try.func19, Try.ntmps19
    go_wp2_with fail
    (with_reducible refine (iGoodWal_calls x v2 _ (Rp.S_below G.out (((Below.refl _ _).alloc (Nat.le_refl _) _).alloc (by simp) _)) (by omega)).mono ?_)
    rintro e w1 ⟨rfl, hb⟩
    rw [HG.out]
    have B0 : Box w1 w.heap.size #[.int .i64 x.fFirst, .int .i64 x.fBefore, v2] 25 := Box.below (Box.alloc (Box.new rfl)) hb
    have B1 : Box w1 (w.heap.size + 1) #[.int .i64 0, .int .i64 0, .slice none 0 0] 25 := Box.below (Box.new (by simp)) hb
    have HB := Lib.hid (Below.trans (((Below.refl w.heap.size w).alloc (Nat.le_refl _) _).alloc (by simp) _) (hb.mono (by simp <;> omega)))
    clear hb
    have c0_0 := B0.cell 0 (v := .int .i64 x.fFirst) rfl
    have c0_1 := B0.cell 1 (v := .int .i64 x.fBefore) rfl
    have c0_2 := B0.cell 2 (v := v2) rfl
    have X1 := Lib.hid B1
    have L1 := Lib.hid B1.lt
    clear B0 B1
    go_wp2_with fail
    (with_reducible refine (cloneWal_calls x v2 _ (Rp.S_below G.out HB.out) hl).mono ?_)
    rintro e w2 ⟨p, rfl, p2, F, rfl, r1, r2, r3, hb⟩
    obtain ⟨pa, pc, rfl, _, _⟩ := Rp.Row_K r1
    have B1 := X1.out.below hb
    have hf : ∀ b ∈ F, w.heap.size + 1 + 1 ≤ b := fun b h => by have := r2 b h; have := L1.out; omega
    have HB2 := Lib.hid (HB.out.trans (hb.mono HB.out.size))
    have HF := Lib.hid hf; have R1 := Lib.hid r1; have R3 := Lib.hid r3
    have c1_0 := B1.cell 0 (v := .int .i64 0) rfl
    have c1_1 := B1.cell 1 (v := .int .i64 0) rfl
    have c1_2 := B1.cell 2 (v := .slice none 0 0) rfl
    have f1 := B1.fro
    have X2 := Lib.hid B1
    clear hf r1 r2 r3 hb B1 c0_0 c0_1 c0_2
    go_wp2
    have hk : KeptF [w.heap.size + 1] w2 (Rp.setN w2 (w.heap.size + 1) 0 [.int .i64 x.fFirst, .int .i64 x.fBefore, .slice pa x.fEntries.length pc]) := Rp.setN_kept (by simp) _ _ _ (KeptF.refl _ _)
    have q := Rp.Row_kept R1.out hk (fun b hb => by have := HF.out b hb; simp; omega)
    have bf := X2.out.setN [.int .i64 x.fFirst, .int .i64 x.fBefore, .slice pa x.fEntries.length pc] 0
    change bodyPost _ _ _ _ _ (Rp.setN w2 (w.heap.size + 1) 0 [.int .i64 x.fFirst, .int .i64 x.fBefore, .slice pa x.fEntries.length pc])
    generalize Rp.setN w2 (w.heap.size + 1) 0 [.int .i64 x.fFirst, .int .i64 x.fBefore, .slice pa x.fEntries.length pc] = wf at *
    have d0 := bf.cell 0 (v := .int .i64 x.fFirst) rfl
    have d1 := bf.cell 1 (v := .int .i64 x.fBefore) rfl
    have d2 := bf.cell 2 (v := .slice pa x.fEntries.length pc) rfl
    refine bodyPost_ret (v := .tuple #[.agg #[.int .i64 x.fFirst, .int .i64 x.fBefore, .slice pa x.fEntries.length pc], .bool true]) (by simp [results, Try.results19, go_sem, d0, d1, d2]) rfl ⟨_, by rw [HG.out], ?_⟩
    rw [HT.out]
    exact ⟨_, F, rfl, q, fun b hb => by have := HF.out b hb; omega, R3.out, HB2.out.trans (hk.toBelow HB2.out.size (by simp))⟩
  · have hg2 : goodWal x = false := by simpa using hg
    have HG := Lib.hid hg2
    have HT := Lib.hid (show toldW x = zWal by rw [toldW, if_neg hg])
    clear hg hg2
    go_enter Try.func19, Try.ntmps19
    go_wp2_with fail
    (with_reducible refine (iGoodWal_calls x v2 _ (Rp.S_below G.out (((Below.refl _ _).alloc (Nat.le_refl _) _).alloc (by simp) _)) (by omega)).mono ?_)
    rintro e w1 ⟨rfl, hb⟩
    rw [HG.out]
    have B1 : Box w1 (w.heap.size + 1) #[.int .i64 0, .int .i64 0, .slice none 0 0] 25 := Box.below (Box.new (by simp)) hb
    have HB := Lib.hid (Below.trans (((Below.refl w.heap.size w).alloc (Nat.le_refl _) _).alloc (by simp) _) (hb.mono (by simp <;> omega)))
    clear hb
    have c1_0 := B1.cell 0 (v := .int .i64 0) rfl
    have c1_1 := B1.cell 1 (v := .int .i64 0) rfl
    have c1_2 := B1.cell 2 (v := .slice none 0 0) rfl
    have f1 := B1.fro
    have X2 := Lib.hid B1
    clear B1
    go_wp2
    have hk : KeptF [w.heap.size + 1] w1 (Rp.setN w1 (w.heap.size + 1) 0 [.int .i64 0, .int .i64 0, .slice none 0 0]) := Rp.setN_kept (by simp) _ _ _ (KeptF.refl _ _)
    have bf := X2.out.setN [.int .i64 0, .int .i64 0, .slice none 0 0] 0
    change bodyPost _ _ _ _ _ (Rp.setN w1 (w.heap.size + 1) 0 [.int .i64 0, .int .i64 0, .slice none 0 0])
    generalize Rp.setN w1 (w.heap.size + 1) 0 [.int .i64 0, .int .i64 0, .slice none 0 0] = wf at *
    have d0 := bf.cell 0 (v := .int .i64 0) rfl
    have d1 := bf.cell 1 (v := .int .i64 0) rfl
    have d2 := bf.cell 2 (v := .slice none 0 0) rfl
    refine bodyPost_ret (v := .tuple #[.agg #[.int .i64 0, .int .i64 0, .slice none 0 0], .bool false]) (by simp [results, Try.results19, go_sem, d0, d1, d2]) rfl ⟨_, by rw [HG.out], ?_⟩
    rw [HT.out]
    exact MadeW.zero _ _ (HB.out.trans (hk.toBelow HB.out.size (by simp)))
end Go.Proofs.Ytjigbmgfjmghcaa
