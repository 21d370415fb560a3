/- Good takings: one chunk. -/
import Derived.Test.YtioelmhikablcaaGtB
namespace Go.Proofs.Ytioelmhikablcaa
open Go Go.RowKit Go.Sort
set_option linter.unusedVariables false
set_option linter.unusedSimpArgs false

def gdSz (ws : List DWanted) (y : DChunk) : Int := (ws.getD y.fFile.toNat ⟨0, 0⟩).fSize
def chGood (ws : List DWanted) (y : DChunk) : Bool :=
  inR y.fFile 0 ((ws.length : Int) - 1) && (inR y.fAt 0 (gdSz ws y - 1) && decide (y.fAt % 64 = 0) && decide ((y.fData.size : Int) = min 64 (gdSz ws y - y.fAt))) && decide (y.fSum = chS y.fFile y.fAt y.fData)
theorem inR_iff {n lo hi : Int} : inR n lo hi = true ↔ lo ≤ n ∧ n ≤ hi := by simp [inR]
theorem inR_no {n lo hi : Int} : inR n lo hi = false ↔ ¬ (lo ≤ n ∧ n ≤ hi) := by rw [← inR_iff]; simp

set_option maxHeartbeats 4000000 in
set_option maxRecDepth 100000 in
theorem iChunkOk_calls (ws : List DWanted) (y : DChunk) (g c0 : Nat) (A0 : Option Addr) (v1 : Value) (w : World) (X : Box w g #[.slice A0 ws.length c0, v1] 33) (G : kWanted.S w ws (.slice A0 ws.length c0)) (hw : ws.length ≤ 12 ∧ ∀ m ∈ ws, wantB m = false) :
    Calls Try.prog 170 #[.pointer (some ⟨g, 0, none⟩), .agg #[.int .i64 y.fFile, .int .i64 y.fAt, .string y.fData, .int .u32 y.fSum]] w fun e w' => e = .returned (.bool (chGood ws y)) ∧ Below w.heap.size w w' := by
  go_enter Try.func170, Try.ntmps170
  go_upto_region 1 with fail
  have HC := Lib.hid ((Below.refl w.heap.size w).alloc (Nat.le_refl _) (.cells #[.int .i64 y.fFile, .int .i64 y.fAt, .string y.fData, .int .u32 y.fSum] 46))
  have Y := Lib.hid (show Box (w.alloc (.cells #[.int .i64 y.fFile, .int .i64 y.fAt, .string y.fData, .int .u32 y.fSum] 46)) w.heap.size #[.int .i64 y.fFile, .int .i64 y.fAt, .string y.fData, .int .u32 y.fSum] 46 from Box.new rfl)
  have XX := Lib.hid (X.below HC.out)
  have hsz : w.heap.size < (w.alloc (.cells #[.int .i64 y.fFile, .int .i64 y.fAt, .string y.fData, .int .u32 y.fSum] 46)).heap.size := by simp
  generalize w.alloc (.cells #[.int .i64 y.fFile, .int .i64 y.fAt, .string y.fData, .int .u32 y.fSum] 46) = w1 at *
  have r0 := regr (Below.refl _ _) Y.out.lt (Y.out.cell 0 (v := .int .i64 y.fFile) rfl)
  have s0 := regr (Below.refl _ _) XX.out.lt (XX.out.cell 0 (v := .slice A0 ws.length c0) rfl)
  have hw2 := Lib.hid hw.2
  have hw1 := hw.1
  clear hw
  have c_in : ∀ (n a b : Int) (W : World), Calls Try.prog 103 #[.int .i64 n, .int .i64 a, .int .i64 b] W (fun e w' => e = .returned (.bool (inR n a b)) ∧ Below W.heap.size W w') := fun n a b W => (iInR_calls n a b W).mono (fun e w' h => ⟨h.1, by rw [h.2]; exact Below.refl _ _⟩)
  have CI := Lib.hid c_in; clear c_in
  refine wp_region_quiet_below (by kernel_rfl) (by kernel_rfl) ?_
  repeat (go_big_quiet_step (first | (with_reducible exact Calls.regrown_of (CI.out _ _ _ _))))
  refine wpQuiet_nil ?_
  rintro w2 ⟨p, rfl⟩
  have hb := below_regrown w1 p.d p.os
  have HC := Lib.hid (HC.out.trans (hb.mono HC.out.size)); have hsz := Nat.lt_of_lt_of_le hsz hb.size; have Y := Lib.hid (Y.out.below hb); have XX := Lib.hid (XX.out.below hb)
  clear r0 s0 hb
  generalize grow (redrawn w1 p.d) p.os = w2 at *
  cases h1 : inR y.fFile 0 ((ws.length : Int) - 1)
  · go_wp2
    go_ret
    exact ⟨by rw [chGood, h1]; rfl, HC.out⟩
  · obtain ⟨f0, f1⟩ := inR_iff.1 h1
    obtain ⟨n, hn⟩ : ∃ n : Nat, y.fFile = (n : Int) := ⟨y.fFile.toNat, by omega⟩
    have hnl : n < ws.length := by omega
    have G2 := G
    obtain ⟨_, _, e, _, hG⟩ := G2
    simp only [Value.slice.injEq] at e
    obtain ⟨rfl, _, rfl⟩ := e
    obtain ⟨bw, ow, rfl, a0, _⟩ := want_at hG HC.out n hnl
    have hsz2 : gdSz ws y = ws[n].fSize := by rw [gdSz, hn, Int.toNat_natCast, List.getD, List.getElem?_eq_getElem hnl]; rfl
    have hwn := hw2.out _ (List.getElem_mem hnl)
    simp only [wantB, Bool.not_eq_false'] at hwn
    obtain ⟨z0, z1⟩ := inR_iff.1 hwn
    have HGD : chGood ws y = ((inR y.fAt 0 (ws[n].fSize - 1) && decide (y.fAt % 64 = 0) && decide ((y.fData.size : Int) = min 64 (ws[n].fSize - y.fAt))) && decide (y.fSum = chS y.fFile y.fAt y.fData)) := by rw [chGood, h1, hsz2, Bool.true_and]
    generalize ws[n].fSize = s at *
    have HGD := Lib.hid HGD
    clear hwn hsz2 G hG hw2
    rw [hn] at Y ⊢
    go_upto_region 3 with fail
    have r0 := regr (Below.refl _ _) Y.out.lt (Y.out.cell 0 (v := .int .i64 n) rfl)
    have s0 := regr (Below.refl _ _) XX.out.lt (XX.out.cell 0 (v := .slice (some ⟨bw, ow, none⟩) ws.length c0) rfl)
    have t0 := regr (Below.refl _ _) (World.block_lt_of_cell? w2 _ a0) a0
    have n0 : (0 : Int) ≤ (n : Int) := by omega
    have n1 : (n : Int) < (ws.length : Int) := by omega
    refine wp_region_quiet_below (by kernel_rfl) (by kernel_rfl) ?_
    repeat (go_big_quiet_step (fail))
    refine wpQuiet_nil ?_
    rintro w3 ⟨p, rfl⟩
    have hb := below_regrown w2 p.d p.os
    have HC := Lib.hid (HC.out.trans (hb.mono HC.out.size)); have hsz := Nat.lt_of_lt_of_le hsz hb.size; have Y := Lib.hid (Y.out.below hb)
    clear r0 s0 t0 hb a0 XX X
    generalize grow (redrawn w2 p.d) p.os = w3 at *
    have y0 := Y.out.cell 0 (v := .int .i64 n) rfl; have y1 := Y.out.cell 1 (v := .int .i64 y.fAt) rfl; have y2 := Y.out.cell 2 (v := .string y.fData) rfl; have y3 := Y.out.cell 3 (v := .int .u32 y.fSum) rfl
    cases h2 : inR y.fAt 0 (s - 1)
    · go_wp2_with ((with_reducible refine (iInR_calls _ _ _ _).mono ?_); rintro e wq ⟨rfl, rfl⟩; rw [h2])
      go_ret
      exact ⟨by rw [HGD.out, h2]; rfl, HC.out⟩
    · obtain ⟨q0, q1⟩ := inR_iff.1 h2
      have q2 : y.fAt < s := by omega
      by_cases h3 : y.fAt % 64 = 0
      case neg =>
        go_wp2_with ((with_reducible refine (iInR_calls _ _ _ _).mono ?_); rintro e wq ⟨rfl, rfl⟩; rw [h2])
        all_goals go_ret
        all_goals exact ⟨by rw [HGD.out, h2]; simp [h3], HC.out⟩
      case pos =>
        obtain ⟨m, hm, hm2⟩ : ∃ m : Int, min 64 (s - y.fAt) = m ∧ (s - y.fAt < 64 ∧ m = s - y.fAt ∨ 64 ≤ s - y.fAt ∧ m = 64) := ⟨_, rfl, by omega⟩
        by_cases h4 : (y.fData.size : Int) = m
        case neg =>
          rcases hm2 with ⟨h5, h6⟩ | ⟨h5, h6⟩
          all_goals subst h6
          all_goals go_wp2_with ((with_reducible refine (iInR_calls _ _ _ _).mono ?_); rintro e wq ⟨rfl, rfl⟩; rw [h2])
          all_goals go_ret
          all_goals exact ⟨by rw [HGD.out, h2, hm]; simp [h3, h4], HC.out⟩
        case pos =>
          have hds : y.fData.size ≤ 64 := by omega
          have HG2 := Lib.hid (show chGood ws y = decide (y.fSum = chS n y.fAt y.fData) by rw [HGD.out, h2, hm, hn]; simp [h3, h4])
          clear HGD
          rcases hm2 with ⟨h5, h6⟩ | ⟨h5, h6⟩
          all_goals subst h6
          all_goals go_upto_region 6 with ((with_reducible refine (iInR_calls _ _ _ _).mono ?_); rintro e wq ⟨rfl, rfl⟩; rw [h2])
          all_goals
            have r0 := regr (Below.refl _ _) Y.out.lt y0; have r1 := regr (Below.refl _ _) Y.out.lt y1; have r2 := regr (Below.refl _ _) Y.out.lt y2; have r3 := regr (Below.refl _ _) Y.out.lt y3
            have c_s : ∀ W : World, Calls Try.prog 220 #[.int .i64 n, .int .i64 y.fAt, .string y.fData] W (fun e w' => e = .returned (.int .u32 (chS n y.fAt y.fData)) ∧ Below W.heap.size W w') := fun W => iChunk_calls n y.fAt y.fData W (by omega) (by omega) (by omega)
            generalize chS n y.fAt y.fData = q at *
            clear y0 y1 y2 y3
            refine wp_region_quiet_below (by kernel_rfl) (by kernel_rfl) ?_
            repeat (go_big_quiet_step (first | (with_reducible exact Calls.regrown_of (c_s _))))
            refine wpQuiet_nil ?_
            rintro w4 ⟨p, rfl⟩
            have hb := below_regrown wq p.d p.os
            have HC := Lib.hid (HC.out.trans (hb.mono HC.out.size))
            clear r0 r1 r2 r3 hb
            generalize grow (redrawn wq p.d) p.os = w4 at *
            go_wp2
            go_ret
            exact ⟨by rw [HG2.out]; refine ret_bool ?_; first | rfl | simp, HC.out⟩
end Go.Proofs.Ytioelmhikablcaa
