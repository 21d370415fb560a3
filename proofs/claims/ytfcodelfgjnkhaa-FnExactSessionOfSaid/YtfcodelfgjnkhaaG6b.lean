/- The laws' own functions of some types, one by one. -/
import Derived.Test.YtfcodelfgjnkhaaG6
namespace Go.Proofs.Ytfcodelfgjnkhaa
open Go Go.RowKit Go.Sort
set_option linter.unusedVariables false
set_option linter.unusedSimpArgs false

structure DKvState where
  fCells : List (DPair)
  fSessions : List (DSession)
def kKvState : Rp DKvState := Rp.iso (Rp.pair (Rp.slice 110 kPair) (Rp.slice 80 kSession)) (fun x => (x.fCells, x.fSessions))
def szNKvState (x : DKvState) : Nat := szL szNPair x.fCells + szL szNSession x.fSessions
def wfKvState (x : DKvState) : Prop := ((∀ y ∈ x.fCells, wfPair y) ∧ x.fCells.length ≤ 140737488355328) ∧ ((∀ y ∈ x.fSessions, wfSession y) ∧ x.fSessions.length ≤ 140737488355328)

set_option maxHeartbeats 1000000 in
set_option maxRecDepth 100000 in
theorem szKvState_calls (x : DKvState) (v0 v1 : Value) (left : Int) (w : World) (g0 : kPair.S w x.fCells v0) (g1 : kSession.S w x.fSessions v1) (h0 : 0 ≤ left) (h1 : left ≤ 140737488355328) (hw : wfKvState x) : Calls Try.prog 37 #[.agg #[v0, v1], .int .i64 left] w
    fun e w' => e = .returned (.int .i64 (szR (szNKvState x) left)) ∧ Below w.heap.size w w' := by
  have HF := Lib.hid (show (szNKvState x : Int) = (szL szNPair x.fCells : Int) + (szL szNSession x.fSessions : Int) by unfold szNKvState; omega)
  obtain ⟨⟨u0, l0⟩, ⟨u1, l1⟩⟩ := hw
  have G0 := Lib.hid g0; clear g0
  have U0 := Lib.hid u0; clear u0
  have G1 := Lib.hid g1; clear g1
  have U1 := Lib.hid u1; clear u1
  go_enter Try.func37, Try.ntmps37
  go_wp2_with fail
  (with_reducible refine (szPairS_calls x.fCells _ v0 _ (by first | exact Rp.S_below G0.out (Below.alloc (Below.refl _ _) (Nat.le_refl _) _) | exact Rp.S_below G0.out HB.out) (by omega) (by omega) U0.out l0).mono ?_)
  rintro e w0 ⟨rfl, hb⟩
  have B0 : Box _ w.heap.size #[v0, v1] 65 := Box.below (Box.new rfl) hb
  have HB0 := Lib.hid (Below.trans (Below.alloc (Below.refl w.heap.size w) (Nat.le_refl _) _) (hb.mono (by simp)))
  clear hb
  have e0 := Int.natCast_nonneg (szL szNPair x.fCells)
  by_cases q0 : (szL szNPair x.fCells : Int) ≤ left
  · rw [szR_yes q0]
    have c0_1 := B0.cell 1 (v := v1) rfl
    go_wp2_with fail
    (with_reducible refine (szSessionS_calls x.fSessions _ v1 _ (by first | exact Rp.S_below G1.out (Below.alloc (Below.refl _ _) (Nat.le_refl _) _) | exact Rp.S_below G1.out HB0.out) (by omega) (by omega) U1.out l1).mono ?_)
    rintro e w1 ⟨rfl, hb⟩
    have B0 := Box.below B0 hb
    have HB1 := Lib.hid (HB0.out.trans (hb.mono HB0.out.size))
    clear hb
    have e1 := Int.natCast_nonneg (szL szNSession x.fSessions)
    by_cases q1 : (szL szNSession x.fSessions : Int) ≤ left - szL szNPair x.fCells
    · rw [szR_yes q1]
      clear B0
      go_wp2
      all_goals (go_ret; exact ⟨ret_int (by rw [szR_of HF.out]; first | (rw [if_pos (by omega)]; try omega) | (rw [if_neg (by omega)])), HB1.out⟩)
    · rw [szR_no q1]
      go_wp2
      all_goals (go_ret; exact ⟨ret_int (by rw [szR_of HF.out]; first | (rw [if_pos (by omega)]; try omega) | (rw [if_neg (by omega)])), HB1.out⟩)
  · rw [szR_no q0]
    go_wp2
    all_goals (go_ret; exact ⟨ret_int (by rw [szR_of HF.out]; first | (rw [if_pos (by omega)]; try omega) | (rw [if_neg (by omega)])), HB0.out⟩)

set_option maxHeartbeats 1000000 in
set_option maxRecDepth 100000 in
theorem eqKvState_calls (x : DKvState) (v0 v1 u0 u1 : Value) (w : World) (g0 : kPair.S w x.fCells v0) (g1 : kSession.S w x.fSessions v1) (d0 : kPair.S w x.fCells u0) (d1 : kSession.S w x.fSessions u1) (hl : x.fCells.length ≤ 140737488355328 ∧ x.fSessions.length ≤ 140737488355328) : Calls Try.prog 41 #[.agg #[v0, v1], .agg #[u0, u1]] w
    fun e w' => e = .returned (.bool true) ∧ Below w.heap.size w w' := by
  obtain ⟨l0, l1⟩ := hl
  have G0 := Lib.hid g0; clear g0
  have D0 := Lib.hid d0; clear d0
  have G1 := Lib.hid g1; clear g1
  have D1 := Lib.hid d1; clear d1
  go_enter Try.func41, Try.ntmps41
  go_wp2_with fail
  (with_reducible refine (eqPairS_calls x.fCells v0 u0 _ (by first | exact Rp.S_below G0.out (((Below.refl _ _).alloc (Nat.le_refl _) _).alloc (by simp) _) | exact Rp.S_below G0.out HB.out) (by first | exact Rp.S_below D0.out (((Below.refl _ _).alloc (Nat.le_refl _) _).alloc (by simp) _) | exact Rp.S_below D0.out HB.out) l0).mono ?_)
  rintro e w0 ⟨rfl, hb⟩
  have B0 : Box _ w.heap.size #[v0, v1] 71 := Box.below (Box.alloc (Box.new rfl)) hb
  have B1 : Box _ (w.heap.size + 1) #[u0, u1] 71 := Box.below (Box.new (by simp)) hb
  have HB0 := Lib.hid (Below.trans (((Below.refl w.heap.size w).alloc (Nat.le_refl _) _).alloc (by simp) _) (hb.mono (by simp; omega)))
  clear hb
  have c0_0_1 := B0.cell 1 (v := v1) rfl
  have c0_1_1 := B1.cell 1 (v := u1) rfl
  go_wp2_with fail
  (with_reducible refine (eqSessionS_calls x.fSessions v1 u1 _ (by first | exact Rp.S_below G1.out (((Below.refl _ _).alloc (Nat.le_refl _) _).alloc (by simp) _) | exact Rp.S_below G1.out HB0.out) (by first | exact Rp.S_below D1.out (((Below.refl _ _).alloc (Nat.le_refl _) _).alloc (by simp) _) | exact Rp.S_below D1.out HB0.out) l1).mono ?_)
  rintro e w1 ⟨rfl, hb⟩
  have B0 := Box.below B0 hb
  have B1 := Box.below B1 hb
  have HB1 := Lib.hid (HB0.out.trans (hb.mono HB0.out.size))
  clear hb
  clear B0 B1
  go_wp2
  go_ret
  exact ⟨rfl, HB1.out⟩

theorem kKvState_open {w : World} {F : List Nat} {x : DKvState} {cs : List Value} (h : kKvState.M w F x cs) : ∃ v0 v1 F0 F1, cs = [v0, v1] ∧ F = F0 ++ (F1) ∧ kPair.Row 110 w F0 x.fCells v0 ∧ kSession.Row 80 w F1 x.fSessions v1 := by
  obtain ⟨_, _, _, _, rfl, rfl, ⟨v0, rfl, r0⟩, ⟨v1, rfl, r1⟩⟩ := h
  exact ⟨v0, v1, _, _, rfl, by simp, r0, r1⟩
theorem kKvState_read {w : World} {x : DKvState} {cs : List Value} (h : kKvState.K w x cs) : ∃ v0 v1, cs = [v0, v1] ∧ kPair.S w x.fCells v0 ∧ kSession.S w x.fSessions v1 := by
  obtain ⟨_, _, rfl, ⟨A0, c0, rfl, e0, r0⟩, ⟨A1, c1, rfl, e1, r1⟩⟩ := h
  exact ⟨_, _, rfl, ⟨A0, c0, rfl, e0, r0⟩, ⟨A1, c1, rfl, e1, r1⟩⟩
theorem kKvState_make {w : World} {x : DKvState} {v0 v1 : Value} {F0 F1 : List Nat} (r0 : kPair.Row 110 w F0 x.fCells v0) (r1 : kSession.Row 80 w F1 x.fSessions v1) : kKvState.M w (F0 ++ (F1)) x [v0, v1] :=
  ⟨[v0], [v1], F0, F1, rfl, by simp, ⟨v0, rfl, r0⟩, ⟨v1, rfl, r1⟩⟩

set_option maxHeartbeats 1000000 in
set_option maxRecDepth 100000 in
theorem toKvState_calls (x : DKvState) (v0 v1 : Value) (w : World) (g0 : kPair.S w x.fCells v0) (g1 : kSession.S w x.fSessions v1) (hl : x.fCells.length ≤ 1048576 ∧ x.fSessions.length ≤ 1048576) : Calls Try.prog 39 #[.agg #[v0, v1]] w
    fun e w' => ∃ cs F, e = .returned (.agg cs.toArray) ∧ kKvState.M w' F x cs ∧ (∀ b ∈ F, w.heap.size ≤ b) ∧ F.Nodup ∧ Below w.heap.size w w' := by
  obtain ⟨l0, l1⟩ := hl
  have G0 := Lib.hid g0; clear g0
  have G1 := Lib.hid g1; clear g1
  go_enter Try.func39, Try.ntmps39
  go_wp2_with fail
  (with_reducible refine (toPairS_calls x.fCells v0 _ (Rp.S_below G0.out ((((Below.refl _ _).alloc (Nat.le_refl _) _).alloc (by simp) _).alloc (by simp; omega) _)) l0).mono ?_)
  rintro e w0 ⟨p0, F0, rfl, hr, hfr, hnd, hb⟩
  have B0 : Box _ w.heap.size #[v0, v1] 65 := Box.below (Box.alloc (Box.alloc (Box.new rfl))) hb
  have B1 : Box _ (w.heap.size + 1) #[.slice none 0 0, .slice none 0 0] 71 := Box.below (Box.alloc (Box.new (by simp))) hb
  have B2 : Box _ (w.heap.size + 1 + 1) #[.slice none 0 0, .slice none 0 0] 71 := Box.below (Box.new (by simp)) hb
  have SZB := Lib.hid (show w.heap.size + 1 + 1 + 1 ≤ w0.heap.size by simpa using hb.size)
  have hB0 := Below.trans ((((Below.refl w.heap.size w).alloc (Nat.le_refl _) _).alloc (by simp) _).alloc (by simp; omega) _) (hb.mono (by simp; omega))
  have hf0 : ∀ b ∈ F0, w.heap.size + 1 + 1 + 1 ≤ b := by simpa using hfr
  have HB0 := Lib.hid hB0; clear hB0
  have Lt0 : ∀ b ∈ F0, b < w0.heap.size := Rp.Row_lt hr
  have LT0 := Lib.hid Lt0; clear Lt0
  obtain ⟨pa0, pc0, rfl, _, _⟩ := Rp.Row_K hr
  have hr0 := hr; clear hr
  have hn0 := Lib.hid hnd; clear hnd hfr hb
  have HF0 := Lib.hid hf0
  have c0_1_0 := B1.cell 0 (v := .slice none 0 0) rfl
  have c0_2_0 := B2.cell 0 (v := .slice none 0 0) rfl
  have c0_0_1 := B0.cell 1 (v := v1) rfl
  have c0_1_1 := B1.cell 1 (v := .slice none 0 0) rfl
  have c0_2_1 := B2.cell 1 (v := .slice none 0 0) rfl
  have f0_1 := B1.fro
  have f0_2 := B2.fro
  have HX0 := Lib.hid B0; have HX1 := Lib.hid B1; have HX2 := Lib.hid B2; clear B0 B1 B2
  have HR0 := Lib.hid hr0; clear hr0 hf0
  go_wp2_with fail
  have B0 := HX0.out; have B1 := HX1.out; have B2 := HX2.out; clear HX0 HX1 HX2
  have hr0 := HR0.out; clear HR0; have hf0 := HF0.out
  clear c0_0_1 c0_1_0 c0_1_1 c0_2_0 c0_2_1 f0_1 f0_2
  go_wp2_with fail
  (with_reducible refine (toSessionS_calls x.fSessions v1 _ (by refine Rp.S_below G1.out ?_; exact (by repeat (first | exact HB0.out | (refine Below.setCell ?_ (by simp; omega) _)))) l1).mono ?_)
  rintro e w1 ⟨p1, F1, rfl, hr, hfr, hnd, hb⟩
  have hk : KeptF [w.heap.size + 1 + 1] w0 w1 := KeptF.below (by repeat (first | exact KeptF.refl _ _ | (refine KeptF.set ?_ (by simp) _))) hb
  have B2 : Box w1 (w.heap.size + 1 + 1) #[.slice pa0 x.fCells.length pc0, .slice none 0 0] 71 := Box.below (B2.set 0 (.slice pa0 x.fCells.length pc0)) hb
  have B0 := B0.kept hk (by simp; omega)
  have B1 := B1.kept hk (by simp)
  have hr0 := Rp.Row_kept hr0 hk (fun b hb => by have := hf0 b hb; simp; omega)
  have hf1 : ∀ b ∈ F1, w0.heap.size ≤ b := by simpa [World.setCell] using hfr
  have hB1 : Below w.heap.size w w1 := HB0.out.trans (hk.toBelow HB0.out.size (by simp; omega))
  have HB1 := Lib.hid hB1; clear hB1
  have SZ1 := Lib.hid hk.size
  have Lt1 : ∀ b ∈ F1, b < w1.heap.size := Rp.Row_lt hr
  have LT1 := Lib.hid Lt1; clear Lt1
  obtain ⟨pa1, pc1, rfl, _, _⟩ := Rp.Row_K hr
  have hr1 := hr; clear hr
  have hn1 := Lib.hid hnd; clear hnd hfr hb hk
  have HF1 := Lib.hid hf1
  have c1_1_0 := B1.cell 0 (v := .slice none 0 0) rfl
  have c1_2_0 := B2.cell 0 (v := .slice pa0 x.fCells.length pc0) rfl
  have c1_1_1 := B1.cell 1 (v := .slice none 0 0) rfl
  have c1_2_1 := B2.cell 1 (v := .slice none 0 0) rfl
  have f1_1 := B1.fro
  have f1_2 := B2.fro
  have HX0 := Lib.hid B0; have HX1 := Lib.hid B1; have HX2 := Lib.hid B2; clear B0 B1 B2
  have HR0 := Lib.hid hr0; clear hr0 hf0
  have HR1 := Lib.hid hr1; clear hr1 hf1
  go_wp2
  have hk : KeptF [w.heap.size + 1, w.heap.size + 1 + 1] w1 (Rp.setN (Rp.setN w1 (w.heap.size + 1 + 1) 1 [.slice pa1 x.fSessions.length pc1]) (w.heap.size + 1) 0 [.slice pa0 x.fCells.length pc0, .slice pa1 x.fSessions.length pc1]) := Rp.setN_kept (by simp) _ _ _ (Rp.setN_kept (by simp) _ _ _ (KeptF.refl _ _))
  have q0 := Rp.Row_kept HR0.out hk (fun b hb => by have := HF0.out b hb; have := HB0.out.size; have := SZB.out; simp; omega)
  have q1 := Rp.Row_kept HR1.out hk (fun b hb => by have := HF1.out b hb; have := HB0.out.size; have := SZB.out; simp; omega)
  have bf : Box (Rp.setN (Rp.setN w1 (w.heap.size + 1 + 1) 1 [.slice pa1 x.fSessions.length pc1]) (w.heap.size + 1) 0 [.slice pa0 x.fCells.length pc0, .slice pa1 x.fSessions.length pc1]) (w.heap.size + 1) #[.slice pa0 x.fCells.length pc0, .slice pa1 x.fSessions.length pc1] 71 := Box.setN _ (Box.setN_other HX1.out _ _ _ (by omega)) 0
  change bodyPost _ _ _ _ _ (Rp.setN (Rp.setN w1 (w.heap.size + 1 + 1) 1 [.slice pa1 x.fSessions.length pc1]) (w.heap.size + 1) 0 [.slice pa0 x.fCells.length pc0, .slice pa1 x.fSessions.length pc1])
  generalize Rp.setN (Rp.setN w1 (w.heap.size + 1 + 1) 1 [.slice pa1 x.fSessions.length pc1]) (w.heap.size + 1) 0 [.slice pa0 x.fCells.length pc0, .slice pa1 x.fSessions.length pc1] = wf at *
  have d0 := bf.cell 0 (v := .slice pa0 x.fCells.length pc0) rfl
  have d1 := bf.cell 1 (v := .slice pa1 x.fSessions.length pc1) rfl
  exact bodyPost_ret (v := .agg #[.slice pa0 x.fCells.length pc0, .slice pa1 x.fSessions.length pc1]) (by simp [results, Try.results39, go_sem, d0, d1]) rfl ⟨_, _, rfl, kKvState_make q0 q1, (fun b hb => by simp only [List.mem_append] at hb; rcases hb with hb | hb <;> (first | (have := HF0.out b hb; have := HB0.out.size; have := HB1.out.size; omega) | (have := HF1.out b hb; have := HB0.out.size; have := HB1.out.size; omega))), (List.nodup_append.2 ⟨hn0.out, hn1.out, fun a ha b hb hab => by have h1 := LT0.out a ha; have := SZ1.out; (try simp only [List.mem_append] at hb); (first | (have h2 := HF1.out b hb; omega))⟩), HB1.out.trans (hk.toBelow HB1.out.size (by simp; omega))⟩

def mkKvState (x : DKvState) (k : Int) : DKvState × Int :=
  let a0 := mkL mkPair x.fCells k
  let a1 := mkL mkSession x.fSessions a0.2
  (⟨a0.1, a1.1⟩, a1.2)
theorem mkKvState_le (x : DKvState) (k : Int) : k ≤ (mkKvState x k).2 := by
  have h0 := mkL_le mkPair_le x.fCells (k)
  have h1 := mkL_le mkSession_le x.fSessions ((mkL mkPair x.fCells (k)).2)
  simp only [mkKvState]
  omega

end Go.Proofs.Ytfcodelfgjnkhaa
