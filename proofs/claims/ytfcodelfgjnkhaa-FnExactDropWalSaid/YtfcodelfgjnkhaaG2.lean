/- The laws' own functions of some types, one by one. -/
import Derived.Test.YtfcodelfgjnkhaaG1
namespace Go.Proofs.Ytfcodelfgjnkhaa
open Go Go.RowKit Go.Sort
set_option linter.unusedVariables false
set_option linter.unusedSimpArgs false

structure DWal where
  fFirst : Int
  fBefore : Int
  fEntries : List (DEntry)
def kWal : Rp DWal := Rp.iso (Rp.pair (Rp.int .i64) (Rp.pair (Rp.int .i64) (Rp.slice 39 kEntry))) (fun x => (x.fFirst, x.fBefore, x.fEntries))
def szNWal (x : DWal) : Nat := szL szNEntry x.fEntries
def wfWal (x : DWal) : Prop := ((∀ y ∈ x.fEntries, wfEntry y) ∧ x.fEntries.length ≤ 140737488355328)

set_option maxHeartbeats 1000000 in
set_option maxRecDepth 100000 in
theorem szWal_calls (x : DWal) (v2 : Value) (left : Int) (w : World) (g2 : kEntry.S w x.fEntries v2) (h0 : 0 ≤ left) (h1 : left ≤ 140737488355328) (hw : wfWal x) : Calls Try.prog 12 #[.agg #[.int .i64 x.fFirst, .int .i64 x.fBefore, v2], .int .i64 left] w
    fun e w' => e = .returned (.int .i64 (szR (szNWal x) left)) ∧ Below w.heap.size w w' := by
  have HF := Lib.hid (show (szNWal x : Int) = (szL szNEntry x.fEntries : Int) by unfold szNWal; omega)
  obtain ⟨u2, l2⟩ := hw
  have G2 := Lib.hid g2; clear g2
  have U2 := Lib.hid u2; clear u2
  go_enter Try.func12, Try.ntmps12
  go_wp2_with fail
  (with_reducible refine (szEntryS_calls x.fEntries _ v2 _ (by first | exact Rp.S_below G2.out (Below.alloc (Below.refl _ _) (Nat.le_refl _) _) | exact Rp.S_below G2.out HB.out) (by omega) (by omega) U2.out l2).mono ?_)
  rintro e w2 ⟨rfl, hb⟩
  have B0 : Box _ w.heap.size #[.int .i64 x.fFirst, .int .i64 x.fBefore, v2] 24 := Box.below (Box.new rfl) hb
  have HB2 := Lib.hid (Below.trans (Below.alloc (Below.refl w.heap.size w) (Nat.le_refl _) _) (hb.mono (by simp)))
  clear hb
  have e2 := Int.natCast_nonneg (szL szNEntry x.fEntries)
  by_cases q2 : (szL szNEntry x.fEntries : Int) ≤ left
  · rw [szR_yes q2]
    clear B0
    go_wp2
    all_goals (go_ret; exact ⟨ret_int (by rw [szR_of HF.out]; first | (rw [if_pos (by omega)]; try omega) | (rw [if_neg (by omega)])), HB2.out⟩)
  · rw [szR_no q2]
    go_wp2
    all_goals (go_ret; exact ⟨ret_int (by rw [szR_of HF.out]; first | (rw [if_pos (by omega)]; try omega) | (rw [if_neg (by omega)])), HB2.out⟩)

set_option maxHeartbeats 1000000 in
set_option maxRecDepth 100000 in
theorem eqWal_calls (x : DWal) (v2 u2 : Value) (w : World) (g2 : kEntry.S w x.fEntries v2) (d2 : kEntry.S w x.fEntries u2) (hl : x.fEntries.length ≤ 140737488355328) : Calls Try.prog 16 #[.agg #[.int .i64 x.fFirst, .int .i64 x.fBefore, v2], .agg #[.int .i64 x.fFirst, .int .i64 x.fBefore, u2]] w
    fun e w' => e = .returned (.bool true) ∧ Below w.heap.size w w' := by
  have l2 := hl
  clear hl
  have G2 := Lib.hid g2; clear g2
  have D2 := Lib.hid d2; clear d2
  go_enter Try.func16, Try.ntmps16
  go_wp2_with fail
  (with_reducible refine (eqEntryS_calls x.fEntries v2 u2 _ (by first | exact Rp.S_below G2.out (((Below.refl _ _).alloc (Nat.le_refl _) _).alloc (by simp) _) | exact Rp.S_below G2.out HB.out) (by first | exact Rp.S_below D2.out (((Below.refl _ _).alloc (Nat.le_refl _) _).alloc (by simp) _) | exact Rp.S_below D2.out HB.out) l2).mono ?_)
  rintro e w2 ⟨rfl, hb⟩
  have B0 : Box _ w.heap.size #[.int .i64 x.fFirst, .int .i64 x.fBefore, v2] 28 := Box.below (Box.alloc (Box.new rfl)) hb
  have B1 : Box _ (w.heap.size + 1) #[.int .i64 x.fFirst, .int .i64 x.fBefore, u2] 28 := Box.below (Box.new (by simp)) hb
  have HB2 := Lib.hid (Below.trans (((Below.refl w.heap.size w).alloc (Nat.le_refl _) _).alloc (by simp) _) (hb.mono (by simp; omega)))
  clear hb
  clear B0 B1
  go_wp2
  go_ret
  exact ⟨rfl, HB2.out⟩

theorem kWal_open {w : World} {F : List Nat} {x : DWal} {cs : List Value} (h : kWal.M w F x cs) : ∃ v2 F2, cs = [.int .i64 x.fFirst, .int .i64 x.fBefore, v2] ∧ F = F2 ∧ kEntry.Row 39 w F2 x.fEntries v2 := by
  obtain ⟨_, _, _, _, rfl, rfl, ⟨rfl, rfl⟩, ⟨_, _, _, _, rfl, rfl, ⟨rfl, rfl⟩, ⟨v2, rfl, r2⟩⟩⟩ := h
  exact ⟨v2, _, rfl, by simp, r2⟩
theorem kWal_read {w : World} {x : DWal} {cs : List Value} (h : kWal.K w x cs) : ∃ v2, cs = [.int .i64 x.fFirst, .int .i64 x.fBefore, v2] ∧ kEntry.S w x.fEntries v2 := by
  obtain ⟨_, _, rfl, rfl, ⟨_, _, rfl, rfl, ⟨A2, c2, rfl, e2, r2⟩⟩⟩ := h
  exact ⟨_, rfl, ⟨A2, c2, rfl, e2, r2⟩⟩
theorem kWal_make {w : World} {x : DWal} {v2 : Value} {F2 : List Nat} (r2 : kEntry.Row 39 w F2 x.fEntries v2) : kWal.M w (F2) x [.int .i64 x.fFirst, .int .i64 x.fBefore, v2] :=
  ⟨[.int .i64 x.fFirst], [.int .i64 x.fBefore, v2], [], F2, rfl, by simp, ⟨rfl, rfl⟩, ⟨[.int .i64 x.fBefore], [v2], [], F2, rfl, by simp, ⟨rfl, rfl⟩, ⟨v2, rfl, r2⟩⟩⟩

set_option maxHeartbeats 1000000 in
set_option maxRecDepth 100000 in
theorem toWal_calls (x : DWal) (v2 : Value) (w : World) (g2 : kEntry.S w x.fEntries v2) (hl : x.fEntries.length ≤ 1048576) : Calls Try.prog 14 #[.agg #[.int .i64 x.fFirst, .int .i64 x.fBefore, v2]] w
    fun e w' => ∃ cs F, e = .returned (.agg cs.toArray) ∧ kWal.M w' F x cs ∧ (∀ b ∈ F, w.heap.size ≤ b) ∧ F.Nodup ∧ Below w.heap.size w w' := by
  have l2 := hl
  clear hl
  have G2 := Lib.hid g2; clear g2
  go_enter Try.func14, Try.ntmps14
  go_wp2_with fail
  (with_reducible refine (toEntryS_calls x.fEntries v2 _ (Rp.S_below G2.out ((((Below.refl _ _).alloc (Nat.le_refl _) _).alloc (by simp) _).alloc (by simp; omega) _)) l2).mono ?_)
  rintro e w2 ⟨p2, F2, rfl, hr, hfr, hnd, hb⟩
  have B0 : Box _ w.heap.size #[.int .i64 x.fFirst, .int .i64 x.fBefore, v2] 24 := Box.below (Box.alloc (Box.alloc (Box.new rfl))) hb
  have B1 : Box _ (w.heap.size + 1) #[.int .i64 0, .int .i64 0, .slice none 0 0] 28 := Box.below (Box.alloc (Box.new (by simp))) hb
  have B2 : Box _ (w.heap.size + 1 + 1) #[.int .i64 x.fFirst, .int .i64 x.fBefore, .slice none 0 0] 28 := Box.below (Box.new (by simp)) hb
  have hB2 := Below.trans ((((Below.refl w.heap.size w).alloc (Nat.le_refl _) _).alloc (by simp) _).alloc (by simp; omega) _) (hb.mono (by simp; omega))
  have hf2 : ∀ b ∈ F2, w.heap.size + 1 + 1 + 1 ≤ b := by simpa using hfr
  have HB2 := Lib.hid hB2; clear hB2
  obtain ⟨pa2, pc2, rfl, _, _⟩ := Rp.Row_K hr
  have hr2 := hr; clear hr
  have hn2 := Lib.hid hnd; clear hnd hfr hb
  have HF2 := Lib.hid hf2
  have c2_1_0 := B1.cell 0 (v := .int .i64 0) rfl
  have c2_2_0 := B2.cell 0 (v := .int .i64 x.fFirst) rfl
  have c2_1_1 := B1.cell 1 (v := .int .i64 0) rfl
  have c2_2_1 := B2.cell 1 (v := .int .i64 x.fBefore) rfl
  have c2_1_2 := B1.cell 2 (v := .slice none 0 0) rfl
  have c2_2_2 := B2.cell 2 (v := .slice none 0 0) rfl
  have f2_1 := B1.fro
  have f2_2 := B2.fro
  have HX0 := Lib.hid B0; have HX1 := Lib.hid B1; have HX2 := Lib.hid B2; clear B0 B1 B2
  have HR2 := Lib.hid hr2; clear hr2 hf2
  go_wp2
  have hk : KeptF [w.heap.size + 1, w.heap.size + 1 + 1] w2 (Rp.setN (Rp.setN w2 (w.heap.size + 1 + 1) 2 [.slice pa2 x.fEntries.length pc2]) (w.heap.size + 1) 0 [.int .i64 x.fFirst, .int .i64 x.fBefore, .slice pa2 x.fEntries.length pc2]) := Rp.setN_kept (by simp) _ _ _ (Rp.setN_kept (by simp) _ _ _ (KeptF.refl _ _))
  have q2 := Rp.Row_kept HR2.out hk (fun b hb => by have := HF2.out b hb; have := HB2.out.size; simp; omega)
  have bf : Box (Rp.setN (Rp.setN w2 (w.heap.size + 1 + 1) 2 [.slice pa2 x.fEntries.length pc2]) (w.heap.size + 1) 0 [.int .i64 x.fFirst, .int .i64 x.fBefore, .slice pa2 x.fEntries.length pc2]) (w.heap.size + 1) #[.int .i64 x.fFirst, .int .i64 x.fBefore, .slice pa2 x.fEntries.length pc2] 28 := Box.setN _ (Box.setN_other HX1.out _ _ _ (by omega)) 0
  change bodyPost _ _ _ _ _ (Rp.setN (Rp.setN w2 (w.heap.size + 1 + 1) 2 [.slice pa2 x.fEntries.length pc2]) (w.heap.size + 1) 0 [.int .i64 x.fFirst, .int .i64 x.fBefore, .slice pa2 x.fEntries.length pc2])
  generalize Rp.setN (Rp.setN w2 (w.heap.size + 1 + 1) 2 [.slice pa2 x.fEntries.length pc2]) (w.heap.size + 1) 0 [.int .i64 x.fFirst, .int .i64 x.fBefore, .slice pa2 x.fEntries.length pc2] = wf at *
  have d0 := bf.cell 0 (v := .int .i64 x.fFirst) rfl
  have d1 := bf.cell 1 (v := .int .i64 x.fBefore) rfl
  have d2 := bf.cell 2 (v := .slice pa2 x.fEntries.length pc2) rfl
  exact bodyPost_ret (v := .agg #[.int .i64 x.fFirst, .int .i64 x.fBefore, .slice pa2 x.fEntries.length pc2]) (by simp [results, Try.results14, go_sem, d0, d1, d2]) rfl ⟨_, _, rfl, kWal_make q2, (fun b hb => by (first | (have := HF2.out b hb; have := HB2.out.size; omega))), hn2.out, HB2.out.trans (hk.toBelow HB2.out.size (by simp; omega))⟩

def mkWal (x : DWal) (k : Int) : DWal × Int :=
  let a2 := mkL mkEntry x.fEntries k
  (⟨x.fFirst, x.fBefore, a2.1⟩, a2.2)
theorem mkWal_le (x : DWal) (k : Int) : k ≤ (mkWal x k).2 := by
  have h2 := mkL_le mkEntry_le x.fEntries (k)
  simp only [mkWal]
  omega

set_option maxHeartbeats 1000000 in
set_option maxRecDepth 100000 in
theorem markWal_calls (x : DWal) (v2 : Value) (F2 : List Nat) (k : Int) (w : World) (r2 : kEntry.Row 39 w F2 x.fEntries v2) (hn : (F2).Nodup) (h0 : 0 ≤ k) (h1 : (mkWal x k).2 ≤ 4611686018427387904) (hl : x.fEntries.length ≤ 140737488355328) :
    Calls Try.prog 17 #[.agg #[.int .i64 x.fFirst, .int .i64 x.fBefore, v2], .int .i64 k] w fun e w' => e = .returned (.int .i64 (mkWal x k).2) ∧ kEntry.Row 39 w' F2 (mkWal x k).1.fEntries v2 ∧ KeptF (F2) w w' := by
  have l2 := hl
  clear hl
  have m2 := mkL_le mkEntry_le x.fEntries k
  have h2 : (mkL mkEntry x.fEntries k).2 ≤ 4611686018427387904 := h1
  have M2 := Lib.hid m2
  have z2 : (mkL mkEntry x.fEntries k).2 ≤ 4611686018427387904 := by omega
  have Z2 := Lib.hid z2
  have n2 : 0 ≤ k := by omega
  have N2 := Lib.hid n2
  clear h1 h2 m2 z2 n2
  have R2 := Lib.hid r2
  have L2 := Lib.hid (fun b hb => Nat.ne_of_lt (Rp.Row_lt r2 b hb) : ∀ b ∈ F2, b ≠ w.heap.size)
  clear r2
  have HN := Lib.hid hn
  clear hn
  go_enter Try.func17, Try.ntmps17
  go_wp2_with fail
  (with_reducible refine (markEntryS_calls x.fEntries _ F2 v2 _ (Rp.Row_below R2.out ((Below.refl _ _).alloc (Nat.le_refl _) _)) HN.out N2.out Z2.out l2).mono ?_)
  rintro e w2 ⟨rfl, hr, hk⟩
  have B0 : Box _ w.heap.size #[.int .i64 x.fFirst, .int .i64 x.fBefore, v2] 28 := Box.kept (Box.new rfl) hk (fun hm => L2.out _ hm rfl)
  have hK : KeptF (F2) w w2 := ((KeptF.refl _ _).alloc _).trans (hk.mono (by intro b hb; simp [hb]))
  have Q2 := Lib.hid hr
  have HK2 := Lib.hid hK
  clear hr hk hK
  have BX := Lib.hid B0; clear B0
  go_wp2
  go_ret
  exact ⟨rfl, Q2.out, HK2.out⟩

set_option maxHeartbeats 1000000 in
set_option maxRecDepth 100000 in
theorem heldWal_calls (x : DWal) (v2 : Value) (k : Int) (w : World) (g2 : kEntry.S w (mkWal x k).1.fEntries v2) (h0 : 0 ≤ k) (h1 : (mkWal x k).2 ≤ 4611686018427387904) (hl : x.fEntries.length ≤ 140737488355328) :
    Calls Try.prog 18 #[.agg #[.int .i64 x.fFirst, .int .i64 x.fBefore, v2], .int .i64 k] w fun e w' => e = .returned (.int .i64 (mkWal x k).2) ∧ Below w.heap.size w w' := by
  have l2 := hl
  clear hl
  have m2 := mkL_le mkEntry_le x.fEntries k
  have h2 : (mkL mkEntry x.fEntries k).2 ≤ 4611686018427387904 := h1
  have z2 : (mkL mkEntry x.fEntries k).2 ≤ 4611686018427387904 := by omega
  have Z2 := Lib.hid z2
  have n2 : 0 ≤ k := by omega
  have N2 := Lib.hid n2
  have y2 : 0 ≤ (mkL mkEntry x.fEntries k).2 := by omega
  clear h1 h2 m2 z2 n2
  have G2 : Hid (kEntry.S w (mkL mkEntry x.fEntries k).1 v2) := Lib.hid g2
  clear g2
  go_enter Try.func18, Try.ntmps18
  go_wp2_with fail
  (with_reducible refine (heldEntryS_calls x.fEntries _ v2 _ (by first | exact Rp.S_below G2.out ((Below.refl _ _).alloc (Nat.le_refl _) _) | exact Rp.S_below G2.out HB.out) N2.out Z2.out l2).mono ?_)
  rintro e w2 ⟨rfl, hb⟩
  have B0 : Box _ w.heap.size #[.int .i64 x.fFirst, .int .i64 x.fBefore, v2] 28 := Box.below (Box.new rfl) hb
  have HB2 := Lib.hid (Below.trans ((Below.refl w.heap.size w).alloc (Nat.le_refl _) _) (hb.mono (by simp)))
  clear hb
  have BX := Lib.hid B0; clear B0
  go_wp2
  go_ret
  exact ⟨rfl, HB2.out⟩

end Go.Proofs.Ytfcodelfgjnkhaa
