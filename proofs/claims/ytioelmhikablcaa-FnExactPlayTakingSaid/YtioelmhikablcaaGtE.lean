/- Good takings. -/
import Derived.Test.YtioelmhikablcaaGtD
namespace Go.Proofs.Ytioelmhikablcaa
open Go Go.RowKit Go.Sort
set_option linter.unusedVariables false
set_option linter.unusedSimpArgs false

def gotPrev : Option DChunk → DChunk → Bool
  | none, _ => true
  | some z, y => chLess z y
def gotFrom (ws : List DWanted) : Option DChunk → List DChunk → Bool
  | _, [] => true
  | p, y :: r => (chGood ws y && gotPrev p y) && gotFrom ws (some y) r
def prevC (xs : List DChunk) (k : Nat) : Option DChunk := if k = 0 then none else xs[k - 1]?
theorem prevC_succ {xs : List DChunk} {k : Nat} (h : k < xs.length) : prevC xs (k + 1) = some xs[k] := by
  simp [prevC, List.getElem?_eq_getElem h]
theorem prevC_pos {xs : List DChunk} {k : Nat} (h : k - 1 < xs.length) (hk : k ≠ 0) : prevC xs k = some xs[k - 1] := by
  simp [prevC, hk, List.getElem?_eq_getElem h]
def tkOk (ws : List DWanted) (xs : List DChunk) : Bool := (wantOk ws && decide (xs.length ≤ 200)) && gotFrom ws none xs
theorem wantOk_le {ws : List DWanted} (h : wantOk ws = true) : ws.length ≤ 12 ∧ ∀ m ∈ ws, wantB m = false := by
  rw [wantOk, Bool.and_eq_true, decide_eq_true_eq] at h
  refine ⟨by omega, fun x hx => ?_⟩
  have h2 := h.2
  rw [Bool.not_eq_true', List.any_eq_false] at h2
  simpa using h2 x hx
theorem ord_yes {z y : DChunk} (h : chLess z y = true) : ¬ 0 ≤ ordC z y := by
  have := ordC_ge z y
  rw [h] at this
  simpa using this
theorem ord_no {z y : DChunk} (h : chLess z y = false) : 0 ≤ ordC z y := by
  have := ordC_ge z y
  rw [h] at this
  simpa using this
set_option maxHeartbeats 4000000 in
set_option maxRecDepth 100000 in
theorem iGoodT_calls (ws : List DWanted) (xs : List DChunk) (v0 v1 : Value) (w : World) (g0 : kWanted.S w ws v0) (g1 : kChunk.S w xs v1) (hl : ws.length ≤ 1048576 ∧ xs.length ≤ 1048576) : Calls Try.prog 84 #[.agg #[v0, v1]] w
    fun e w' => e = .returned (.bool (tkOk ws xs)) ∧ Below w.heap.size w w' := by
  have G0 := Lib.hid g0
  obtain ⟨A0, c0, rfl, _, _⟩ := g0
  obtain ⟨A2, c2, rfl, hc2, h⟩ := g1
  have H := Lib.hid h; clear h
  have hl1 := hl.1; have hl2 := hl.2
  clear hl
  go_enter Try.func84, Try.ntmps84
  go_upto_region 1 with fail
  have HC := Lib.hid ((Below.refl w.heap.size w).alloc (Nat.le_refl _) (.cells #[.slice A0 ws.length c0, .slice A2 xs.length c2] 33))
  have X := Lib.hid (show Box (w.alloc (.cells #[.slice A0 ws.length c0, .slice A2 xs.length c2] 33)) w.heap.size #[.slice A0 ws.length c0, .slice A2 xs.length c2] 33 from Box.new rfl)
  generalize w.alloc (.cells #[.slice A0 ws.length c0, .slice A2 xs.length c2] 33) = w1 at *
  have x0 := X.out.cell 0 (v := .slice A0 ws.length c0) rfl; have x1 := X.out.cell 1 (v := .slice A2 xs.length c2) rfl
  go_wp2_with fail
  (with_reducible refine (iWantOk_calls ws _ _ (Rp.S_below G0.out HC.out) (by omega)).mono ?_)
  rintro e w2 ⟨rfl, hb⟩
  have HC := Lib.hid (HC.out.trans (hb.mono HC.out.size)); have X := Lib.hid (X.out.below hb)
  clear x0 x1 hb
  have x0 := X.out.cell 0 (v := .slice A0 ws.length c0) rfl; have x1 := X.out.cell 1 (v := .slice A2 xs.length c2) rfl
  cases hg : wantOk ws
  case false =>
    go_wp2
    go_ret
    exact ⟨by rw [tkOk, hg]; rfl, HC.out⟩
  case true =>
    have hwk := wantOk_le hg
    by_cases h200 : xs.length ≤ 200
    case neg =>
      go_wp2
      all_goals go_ret
      all_goals exact ⟨by rw [tkOk, hg, decide_eq_false h200]; rfl, HC.out⟩
    case pos =>
    have HV := Lib.hid (show tkOk ws xs = gotFrom ws none xs by rw [tkOk, hg, decide_eq_true h200]; rfl)
    go_wp2
    clear x0 x1
    go_loopw [18] (fun i wr => ∃ k : Nat, k ≤ xs.length ∧ i = .int .i64 k ∧ Hid (gotFrom ws (prevC xs k) (xs.drop k) = gotFrom ws none xs) ∧ Hid (Below w.heap.size w wr) ∧ Hid (Box wr w.heap.size #[.slice A0 ws.length c0, .slice A2 xs.length c2] 33)) (fun i _ => xs.length - (intOf i).toNat)
    case atStart => exact ⟨0, Nat.zero_le _, rfl, rfl, HC.out, X.out⟩
    case round =>
      obtain ⟨k, hk, rfl, HE, HB, X⟩ := hrel
      by_cases hlt : k < xs.length
      · obtain ⟨b, o, cs, rfl, k1, q1⟩ := Rp.C_get H.out k hlt
        obtain rfl := kChunk_K k1
        have hd := HE.out
        have hp := prevC_succ hlt
        rw [List.drop_eq_getElem_cons hlt, gotFrom] at hd
        generalize he : xs[k] = y at *
        have HP := Lib.hid hp; clear hp
        have HG := Lib.hid he; clear he
        have HD := Lib.hid hd; clear hd HE
        have a0 := (World.cell?_of_block (HB.out.block b (World.block_lt_of_cell? w _ (q1 0 _ rfl)))).trans (q1 0 _ rfl)
        simp only [kChunk_sz, Nat.add_zero] at a0
        have a1 := (World.cell?_of_block (HB.out.block b (World.block_lt_of_cell? w _ (q1 1 _ rfl)))).trans (q1 1 _ rfl)
        simp only [kChunk_sz, Nat.add_zero] at a1
        have a2 := (World.cell?_of_block (HB.out.block b (World.block_lt_of_cell? w _ (q1 2 _ rfl)))).trans (q1 2 _ rfl)
        simp only [kChunk_sz, Nat.add_zero] at a2
        have a3 := (World.cell?_of_block (HB.out.block b (World.block_lt_of_cell? w _ (q1 3 _ rfl)))).trans (q1 3 _ rfl)
        simp only [kChunk_sz, Nat.add_zero] at a3
        clear q1 k1
        have i1 : (0 : Int) ≤ (k : Int) := by omega
        have i2 : (k : Int) < (xs.length : Int) := by omega
        rcases Nat.eq_zero_or_pos k with hz | hz
        · have HQ := Lib.hid (show prevC xs k = none by rw [prevC, if_pos hz])
          have i3 : ¬ (0 : Int) < (k : Int) := by omega
          have i4 : ¬ 0 < k := by omega
          clear hz
          have hpath : ((chGood ws y) = false) ∨ ((chGood ws y) = true) := by cases (chGood ws y) <;> simp
          rcases hpath with h1 | h1
          · skip
            go_upto_region 6 with fail
            have B1 : Box (wr.alloc (.cells #[.int .i64 y.fFile, .int .i64 y.fAt, .string y.fData, .int .u32 y.fSum] 46)) wr.heap.size #[.int .i64 y.fFile, .int .i64 y.fAt, .string y.fData, .int .u32 y.fSum] 46 := Box.new rfl
            have r0 := regr (Below.refl _ _) B1.lt (B1.cell 0 (v := .int .i64 y.fFile) rfl)
            have r1 := regr (Below.refl _ _) B1.lt (B1.cell 1 (v := .int .i64 y.fAt) rfl)
            have r2 := regr (Below.refl _ _) B1.lt (B1.cell 2 (v := .string y.fData) rfl)
            have r3 := regr (Below.refl _ _) B1.lt (B1.cell 3 (v := .int .u32 y.fSum) rfl)
            have XX := Lib.hid (Box.alloc (o := .cells #[.int .i64 y.fFile, .int .i64 y.fAt, .string y.fData, .int .u32 y.fSum] 46) X.out)
            have X_0 := regr (Below.refl _ _) XX.out.lt (XX.out.cell 0 (v := .slice A0 ws.length c0) rfl)
            have X_1 := regr (Below.refl _ _) XX.out.lt (XX.out.cell 1 (v := .slice (some ⟨b, o, none⟩) xs.length c2) rfl)
            have HB1 := Lib.hid (HB.out.alloc HB.out.size (.cells #[.int .i64 y.fFile, .int .i64 y.fAt, .string y.fData, .int .u32 y.fSum] 46))
            clear B1 a0 a1 a2 a3
            generalize wr.alloc (.cells #[.int .i64 y.fFile, .int .i64 y.fAt, .string y.fData, .int .u32 y.fSum] 46) = w1 at *
            refine wp_region_quiet_below (by kernel_rfl) (by kernel_rfl) ?_
            have c_h1 : ∀ W : World, Below w1.heap.size w1 W → Calls Try.prog 170 #[.pointer (some ⟨w.heap.size, 0, none⟩), .agg #[.int .i64 y.fFile, .int .i64 y.fAt, .string y.fData, .int .u32 y.fSum]] W (fun e w' => e = .returned (.bool false) ∧ Below W.heap.size W w') := fun W hW => (iChunkOk_calls ws y w.heap.size c0 A0 _ W (XX.out.below hW) (Rp.S_below G0.out (HB1.out.trans (hW.mono HB1.out.size))) hwk).mono (fun e w' h => ⟨by rw [h.1]; rw [h1], h.2⟩)
            repeat (go_big_quiet_step (first | (with_reducible exact Calls.regrown_of (c_h1 _ (below_regrown _ _ _)))))
            refine wpQuiet_nil ?_
            rintro w2 ⟨p, rfl⟩
            have HB2 := Lib.hid (HB1.out.trans ((below_regrown w1 p.d p.os).mono HB1.out.size))
            have YX := Lib.hid (XX.out.below (below_regrown w1 p.d p.os))
            clear r0 r1 r2 r3 X_0 X_1 XX
            generalize grow (redrawn w1 p.d) p.os = w2 at *
            go_wp2
            go_ret
            exact ⟨by rw [HV.out, ← HD.out, HQ.out]; simp [gotPrev, h1], HB2.out⟩
          · skip
            go_upto_region 6 with fail
            have B1 : Box (wr.alloc (.cells #[.int .i64 y.fFile, .int .i64 y.fAt, .string y.fData, .int .u32 y.fSum] 46)) wr.heap.size #[.int .i64 y.fFile, .int .i64 y.fAt, .string y.fData, .int .u32 y.fSum] 46 := Box.new rfl
            have r0 := regr (Below.refl _ _) B1.lt (B1.cell 0 (v := .int .i64 y.fFile) rfl)
            have r1 := regr (Below.refl _ _) B1.lt (B1.cell 1 (v := .int .i64 y.fAt) rfl)
            have r2 := regr (Below.refl _ _) B1.lt (B1.cell 2 (v := .string y.fData) rfl)
            have r3 := regr (Below.refl _ _) B1.lt (B1.cell 3 (v := .int .u32 y.fSum) rfl)
            have XX := Lib.hid (Box.alloc (o := .cells #[.int .i64 y.fFile, .int .i64 y.fAt, .string y.fData, .int .u32 y.fSum] 46) X.out)
            have X_0 := regr (Below.refl _ _) XX.out.lt (XX.out.cell 0 (v := .slice A0 ws.length c0) rfl)
            have X_1 := regr (Below.refl _ _) XX.out.lt (XX.out.cell 1 (v := .slice (some ⟨b, o, none⟩) xs.length c2) rfl)
            have HB1 := Lib.hid (HB.out.alloc HB.out.size (.cells #[.int .i64 y.fFile, .int .i64 y.fAt, .string y.fData, .int .u32 y.fSum] 46))
            clear B1 a0 a1 a2 a3
            generalize wr.alloc (.cells #[.int .i64 y.fFile, .int .i64 y.fAt, .string y.fData, .int .u32 y.fSum] 46) = w1 at *
            refine wp_region_quiet_below (by kernel_rfl) (by kernel_rfl) ?_
            have c_h1 : ∀ W : World, Below w1.heap.size w1 W → Calls Try.prog 170 #[.pointer (some ⟨w.heap.size, 0, none⟩), .agg #[.int .i64 y.fFile, .int .i64 y.fAt, .string y.fData, .int .u32 y.fSum]] W (fun e w' => e = .returned (.bool true) ∧ Below W.heap.size W w') := fun W hW => (iChunkOk_calls ws y w.heap.size c0 A0 _ W (XX.out.below hW) (Rp.S_below G0.out (HB1.out.trans (hW.mono HB1.out.size))) hwk).mono (fun e w' h => ⟨by rw [h.1]; rw [h1], h.2⟩)
            repeat (go_big_quiet_step (first | (with_reducible exact Calls.regrown_of (c_h1 _ (below_regrown _ _ _)))))
            refine wpQuiet_nil ?_
            rintro w2 ⟨p, rfl⟩
            have HB2 := Lib.hid (HB1.out.trans ((below_regrown w1 p.d p.os).mono HB1.out.size))
            have YX := Lib.hid (XX.out.below (below_regrown w1 p.d p.os))
            clear r0 r1 r2 r3 X_0 X_1 XX
            generalize grow (redrawn w1 p.d) p.os = w2 at *
            go_wp2
            exact ⟨⟨k + 1, by omega, by go_num, by rw [Hid, ← HD.out, HP.out, HQ.out]; simp [gotPrev, h1], HB2.out, YX.out⟩, by simp [intOf]; omega⟩
        · have hlt2 : k - 1 < xs.length := by omega
          obtain ⟨b2, o2, cs2, e2, k2, q2⟩ := Rp.C_get H.out (k - 1) hlt2
          obtain ⟨rfl, rfl⟩ : b = b2 ∧ o = o2 := by simpa using e2
          obtain rfl := kChunk_K k2
          have HQ := Lib.hid (prevC_pos hlt2 (by omega))
          generalize xs[k - 1] = z at *
          have d0 := (World.cell?_of_block (HB.out.block b (World.block_lt_of_cell? w _ (q2 0 _ rfl)))).trans (q2 0 _ rfl)
          simp only [kChunk_sz, Nat.add_zero] at d0
          have d1 := (World.cell?_of_block (HB.out.block b (World.block_lt_of_cell? w _ (q2 1 _ rfl)))).trans (q2 1 _ rfl)
          simp only [kChunk_sz, Nat.add_zero] at d1
          have d2 := (World.cell?_of_block (HB.out.block b (World.block_lt_of_cell? w _ (q2 2 _ rfl)))).trans (q2 2 _ rfl)
          simp only [kChunk_sz, Nat.add_zero] at d2
          have d3 := (World.cell?_of_block (HB.out.block b (World.block_lt_of_cell? w _ (q2 3 _ rfl)))).trans (q2 3 _ rfl)
          simp only [kChunk_sz, Nat.add_zero] at d3
          clear q2 k2
          have i3 : (0 : Int) < (k : Int) := by omega
          obtain ⟨m, rfl⟩ : ∃ m, k = m + 1 := ⟨k - 1, by omega⟩
          rw [Nat.add_sub_cancel] at d0
          rw [Nat.add_sub_cancel] at d1
          rw [Nat.add_sub_cancel] at d2
          rw [Nat.add_sub_cancel] at d3
          have i4 : ((m + 1 : Nat) : Int) - 1 = (m : Int) := by omega
          have i5 : IntKind.i64.wrap (m : Int) = (m : Int) := by rw [IntKind.wrap_i64]; omega
          have hpath : ((chGood ws y) = false) ∨ ((chGood ws y) = true ∧ (chLess z y) = false) ∨ ((chGood ws y) = true ∧ (chLess z y) = true) := by cases (chGood ws y) <;> cases (chLess z y) <;> simp
          rcases hpath with h1 | ⟨h1, h2⟩ | ⟨h1, h2⟩
          · skip
            go_upto_region 6 with fail
            have B1 : Box (wr.alloc (.cells #[.int .i64 y.fFile, .int .i64 y.fAt, .string y.fData, .int .u32 y.fSum] 46)) wr.heap.size #[.int .i64 y.fFile, .int .i64 y.fAt, .string y.fData, .int .u32 y.fSum] 46 := Box.new rfl
            have r0 := regr (Below.refl _ _) B1.lt (B1.cell 0 (v := .int .i64 y.fFile) rfl)
            have r1 := regr (Below.refl _ _) B1.lt (B1.cell 1 (v := .int .i64 y.fAt) rfl)
            have r2 := regr (Below.refl _ _) B1.lt (B1.cell 2 (v := .string y.fData) rfl)
            have r3 := regr (Below.refl _ _) B1.lt (B1.cell 3 (v := .int .u32 y.fSum) rfl)
            have p0 := regr ((Below.refl _ wr).alloc (Nat.le_refl _) (.cells #[.int .i64 y.fFile, .int .i64 y.fAt, .string y.fData, .int .u32 y.fSum] 46)) (World.block_lt_of_cell? wr _ d0) d0
            have p1 := regr ((Below.refl _ wr).alloc (Nat.le_refl _) (.cells #[.int .i64 y.fFile, .int .i64 y.fAt, .string y.fData, .int .u32 y.fSum] 46)) (World.block_lt_of_cell? wr _ d1) d1
            have p2 := regr ((Below.refl _ wr).alloc (Nat.le_refl _) (.cells #[.int .i64 y.fFile, .int .i64 y.fAt, .string y.fData, .int .u32 y.fSum] 46)) (World.block_lt_of_cell? wr _ d2) d2
            have p3 := regr ((Below.refl _ wr).alloc (Nat.le_refl _) (.cells #[.int .i64 y.fFile, .int .i64 y.fAt, .string y.fData, .int .u32 y.fSum] 46)) (World.block_lt_of_cell? wr _ d3) d3
            have XX := Lib.hid (Box.alloc (o := .cells #[.int .i64 y.fFile, .int .i64 y.fAt, .string y.fData, .int .u32 y.fSum] 46) X.out)
            have X_0 := regr (Below.refl _ _) XX.out.lt (XX.out.cell 0 (v := .slice A0 ws.length c0) rfl)
            have X_1 := regr (Below.refl _ _) XX.out.lt (XX.out.cell 1 (v := .slice (some ⟨b, o, none⟩) xs.length c2) rfl)
            have HB1 := Lib.hid (HB.out.alloc HB.out.size (.cells #[.int .i64 y.fFile, .int .i64 y.fAt, .string y.fData, .int .u32 y.fSum] 46))
            clear B1 a0 a1 a2 a3 d0 d1 d2 d3
            generalize wr.alloc (.cells #[.int .i64 y.fFile, .int .i64 y.fAt, .string y.fData, .int .u32 y.fSum] 46) = w1 at *
            refine wp_region_quiet_below (by kernel_rfl) (by kernel_rfl) ?_
            have c_h1 : ∀ W : World, Below w1.heap.size w1 W → Calls Try.prog 170 #[.pointer (some ⟨w.heap.size, 0, none⟩), .agg #[.int .i64 y.fFile, .int .i64 y.fAt, .string y.fData, .int .u32 y.fSum]] W (fun e w' => e = .returned (.bool false) ∧ Below W.heap.size W w') := fun W hW => (iChunkOk_calls ws y w.heap.size c0 A0 _ W (XX.out.below hW) (Rp.S_below G0.out (HB1.out.trans (hW.mono HB1.out.size))) hwk).mono (fun e w' h => ⟨by rw [h.1]; rw [h1], h.2⟩)
            repeat (go_big_quiet_step (first | (with_reducible exact Calls.regrown_of (c_h1 _ (below_regrown _ _ _)))))
            refine wpQuiet_nil ?_
            rintro w2 ⟨p, rfl⟩
            have HB2 := Lib.hid (HB1.out.trans ((below_regrown w1 p.d p.os).mono HB1.out.size))
            have YX := Lib.hid (XX.out.below (below_regrown w1 p.d p.os))
            clear r0 r1 r2 r3 p0 p1 p2 p3 X_0 X_1 XX
            generalize grow (redrawn w1 p.d) p.os = w2 at *
            go_wp2
            go_ret
            exact ⟨by rw [HV.out, ← HD.out, HQ.out]; simp [gotPrev, h1], HB2.out⟩
          · skip
            have h2p := ord_no h2
            go_upto_region 6 with fail
            have B1 : Box (wr.alloc (.cells #[.int .i64 y.fFile, .int .i64 y.fAt, .string y.fData, .int .u32 y.fSum] 46)) wr.heap.size #[.int .i64 y.fFile, .int .i64 y.fAt, .string y.fData, .int .u32 y.fSum] 46 := Box.new rfl
            have r0 := regr (Below.refl _ _) B1.lt (B1.cell 0 (v := .int .i64 y.fFile) rfl)
            have r1 := regr (Below.refl _ _) B1.lt (B1.cell 1 (v := .int .i64 y.fAt) rfl)
            have r2 := regr (Below.refl _ _) B1.lt (B1.cell 2 (v := .string y.fData) rfl)
            have r3 := regr (Below.refl _ _) B1.lt (B1.cell 3 (v := .int .u32 y.fSum) rfl)
            have p0 := regr ((Below.refl _ wr).alloc (Nat.le_refl _) (.cells #[.int .i64 y.fFile, .int .i64 y.fAt, .string y.fData, .int .u32 y.fSum] 46)) (World.block_lt_of_cell? wr _ d0) d0
            have p1 := regr ((Below.refl _ wr).alloc (Nat.le_refl _) (.cells #[.int .i64 y.fFile, .int .i64 y.fAt, .string y.fData, .int .u32 y.fSum] 46)) (World.block_lt_of_cell? wr _ d1) d1
            have p2 := regr ((Below.refl _ wr).alloc (Nat.le_refl _) (.cells #[.int .i64 y.fFile, .int .i64 y.fAt, .string y.fData, .int .u32 y.fSum] 46)) (World.block_lt_of_cell? wr _ d2) d2
            have p3 := regr ((Below.refl _ wr).alloc (Nat.le_refl _) (.cells #[.int .i64 y.fFile, .int .i64 y.fAt, .string y.fData, .int .u32 y.fSum] 46)) (World.block_lt_of_cell? wr _ d3) d3
            have XX := Lib.hid (Box.alloc (o := .cells #[.int .i64 y.fFile, .int .i64 y.fAt, .string y.fData, .int .u32 y.fSum] 46) X.out)
            have X_0 := regr (Below.refl _ _) XX.out.lt (XX.out.cell 0 (v := .slice A0 ws.length c0) rfl)
            have X_1 := regr (Below.refl _ _) XX.out.lt (XX.out.cell 1 (v := .slice (some ⟨b, o, none⟩) xs.length c2) rfl)
            have HB1 := Lib.hid (HB.out.alloc HB.out.size (.cells #[.int .i64 y.fFile, .int .i64 y.fAt, .string y.fData, .int .u32 y.fSum] 46))
            clear B1 a0 a1 a2 a3 d0 d1 d2 d3
            generalize wr.alloc (.cells #[.int .i64 y.fFile, .int .i64 y.fAt, .string y.fData, .int .u32 y.fSum] 46) = w1 at *
            refine wp_region_quiet_below (by kernel_rfl) (by kernel_rfl) ?_
            have c_h1 : ∀ W : World, Below w1.heap.size w1 W → Calls Try.prog 170 #[.pointer (some ⟨w.heap.size, 0, none⟩), .agg #[.int .i64 y.fFile, .int .i64 y.fAt, .string y.fData, .int .u32 y.fSum]] W (fun e w' => e = .returned (.bool true) ∧ Below W.heap.size W w') := fun W hW => (iChunkOk_calls ws y w.heap.size c0 A0 _ W (XX.out.below hW) (Rp.S_below G0.out (HB1.out.trans (hW.mono HB1.out.size))) hwk).mono (fun e w' h => ⟨by rw [h.1]; rw [h1], h.2⟩)
            have c_h2 : ∀ W : World, Below w1.heap.size w1 W → Calls Try.prog 171 #[.agg #[.int .i64 z.fFile, .int .i64 z.fAt, .string z.fData, .int .u32 z.fSum], .agg #[.int .i64 y.fFile, .int .i64 y.fAt, .string y.fData, .int .u32 y.fSum]] W (fun e w' => e = .returned (.int .i64 (ordC z y)) ∧ Below W.heap.size W w') := fun W hW => (iOrd_calls z y W).mono (fun e w' h => ⟨by rw [h.1], h.2⟩)
            repeat (go_big_quiet_step (first | (with_reducible exact Calls.regrown_of (c_h1 _ (below_regrown _ _ _))) | (with_reducible exact Calls.regrown_of (c_h2 _ (below_regrown _ _ _)))))
            refine wpQuiet_nil ?_
            rintro w2 ⟨p, rfl⟩
            have HB2 := Lib.hid (HB1.out.trans ((below_regrown w1 p.d p.os).mono HB1.out.size))
            have YX := Lib.hid (XX.out.below (below_regrown w1 p.d p.os))
            clear r0 r1 r2 r3 p0 p1 p2 p3 X_0 X_1 XX
            generalize grow (redrawn w1 p.d) p.os = w2 at *
            go_wp2
            go_ret
            exact ⟨by rw [HV.out, ← HD.out, HQ.out]; simp [gotPrev, h1, h2], HB2.out⟩
          · skip
            have h2p := ord_yes h2
            go_upto_region 6 with fail
            have B1 : Box (wr.alloc (.cells #[.int .i64 y.fFile, .int .i64 y.fAt, .string y.fData, .int .u32 y.fSum] 46)) wr.heap.size #[.int .i64 y.fFile, .int .i64 y.fAt, .string y.fData, .int .u32 y.fSum] 46 := Box.new rfl
            have r0 := regr (Below.refl _ _) B1.lt (B1.cell 0 (v := .int .i64 y.fFile) rfl)
            have r1 := regr (Below.refl _ _) B1.lt (B1.cell 1 (v := .int .i64 y.fAt) rfl)
            have r2 := regr (Below.refl _ _) B1.lt (B1.cell 2 (v := .string y.fData) rfl)
            have r3 := regr (Below.refl _ _) B1.lt (B1.cell 3 (v := .int .u32 y.fSum) rfl)
            have p0 := regr ((Below.refl _ wr).alloc (Nat.le_refl _) (.cells #[.int .i64 y.fFile, .int .i64 y.fAt, .string y.fData, .int .u32 y.fSum] 46)) (World.block_lt_of_cell? wr _ d0) d0
            have p1 := regr ((Below.refl _ wr).alloc (Nat.le_refl _) (.cells #[.int .i64 y.fFile, .int .i64 y.fAt, .string y.fData, .int .u32 y.fSum] 46)) (World.block_lt_of_cell? wr _ d1) d1
            have p2 := regr ((Below.refl _ wr).alloc (Nat.le_refl _) (.cells #[.int .i64 y.fFile, .int .i64 y.fAt, .string y.fData, .int .u32 y.fSum] 46)) (World.block_lt_of_cell? wr _ d2) d2
            have p3 := regr ((Below.refl _ wr).alloc (Nat.le_refl _) (.cells #[.int .i64 y.fFile, .int .i64 y.fAt, .string y.fData, .int .u32 y.fSum] 46)) (World.block_lt_of_cell? wr _ d3) d3
            have XX := Lib.hid (Box.alloc (o := .cells #[.int .i64 y.fFile, .int .i64 y.fAt, .string y.fData, .int .u32 y.fSum] 46) X.out)
            have X_0 := regr (Below.refl _ _) XX.out.lt (XX.out.cell 0 (v := .slice A0 ws.length c0) rfl)
            have X_1 := regr (Below.refl _ _) XX.out.lt (XX.out.cell 1 (v := .slice (some ⟨b, o, none⟩) xs.length c2) rfl)
            have HB1 := Lib.hid (HB.out.alloc HB.out.size (.cells #[.int .i64 y.fFile, .int .i64 y.fAt, .string y.fData, .int .u32 y.fSum] 46))
            clear B1 a0 a1 a2 a3 d0 d1 d2 d3
            generalize wr.alloc (.cells #[.int .i64 y.fFile, .int .i64 y.fAt, .string y.fData, .int .u32 y.fSum] 46) = w1 at *
            refine wp_region_quiet_below (by kernel_rfl) (by kernel_rfl) ?_
            have c_h1 : ∀ W : World, Below w1.heap.size w1 W → Calls Try.prog 170 #[.pointer (some ⟨w.heap.size, 0, none⟩), .agg #[.int .i64 y.fFile, .int .i64 y.fAt, .string y.fData, .int .u32 y.fSum]] W (fun e w' => e = .returned (.bool true) ∧ Below W.heap.size W w') := fun W hW => (iChunkOk_calls ws y w.heap.size c0 A0 _ W (XX.out.below hW) (Rp.S_below G0.out (HB1.out.trans (hW.mono HB1.out.size))) hwk).mono (fun e w' h => ⟨by rw [h.1]; rw [h1], h.2⟩)
            have c_h2 : ∀ W : World, Below w1.heap.size w1 W → Calls Try.prog 171 #[.agg #[.int .i64 z.fFile, .int .i64 z.fAt, .string z.fData, .int .u32 z.fSum], .agg #[.int .i64 y.fFile, .int .i64 y.fAt, .string y.fData, .int .u32 y.fSum]] W (fun e w' => e = .returned (.int .i64 (ordC z y)) ∧ Below W.heap.size W w') := fun W hW => (iOrd_calls z y W).mono (fun e w' h => ⟨by rw [h.1], h.2⟩)
            repeat (go_big_quiet_step (first | (with_reducible exact Calls.regrown_of (c_h1 _ (below_regrown _ _ _))) | (with_reducible exact Calls.regrown_of (c_h2 _ (below_regrown _ _ _)))))
            refine wpQuiet_nil ?_
            rintro w2 ⟨p, rfl⟩
            have HB2 := Lib.hid (HB1.out.trans ((below_regrown w1 p.d p.os).mono HB1.out.size))
            have YX := Lib.hid (XX.out.below (below_regrown w1 p.d p.os))
            clear r0 r1 r2 r3 p0 p1 p2 p3 X_0 X_1 XX
            generalize grow (redrawn w1 p.d) p.os = w2 at *
            go_wp2
            exact ⟨⟨m + 1 + 1, by omega, by go_num, by rw [Hid, ← HD.out, HP.out, HQ.out]; simp [gotPrev, h1, h2], HB2.out, YX.out⟩, by simp [intOf]; omega⟩
      · obtain rfl : k = xs.length := by omega
        have hE := HE.out
        rw [List.drop_length, gotFrom] at hE
        have HE2 := Lib.hid hE; clear hE HE
        go_wp2
        go_ret
        exact ⟨by rw [HV.out, ← HE2.out]; rfl, HB.out⟩
theorem iGoodTaking_k {x : DTaking} {c0 : List Value} {w : World} (k0 : kTaking.K w x c0) (h0 : wfTaking x) (s0 : smTaking 1048576 x) : Calls Try.prog 84 #[.agg c0.toArray] w
    fun e w' => e = .returned (.bool (tkOk x.fWant x.fGot)) ∧ Below w.heap.size w w' := by
  obtain ⟨v0, v1, rfl, g0, g1⟩ := kTaking_read k0
  exact iGoodT_calls x.fWant x.fGot v0 v1 w g0 g1 s0
set_option maxHeartbeats 4000000 in
set_option maxRecDepth 100000 in
theorem sGoodT_calls (ws : List DWanted) (xs : List DChunk) (v0 v1 : Value) (w : World) (g0 : kWanted.S w ws v0) (g1 : kChunk.S w xs v1) (hl : ws.length ≤ 1048576 ∧ xs.length ≤ 1048576) : Calls Try.prog 80 #[.agg #[v0, v1]] w
    fun e w' => e = .returned (.bool (tkOk ws xs)) ∧ Below w.heap.size w w' := by
  have G0 := Lib.hid g0
  obtain ⟨A0, c0, rfl, _, _⟩ := g0
  obtain ⟨A2, c2, rfl, hc2, h⟩ := g1
  have H := Lib.hid h; clear h
  have hl1 := hl.1; have hl2 := hl.2
  clear hl
  go_enter Try.func80, Try.ntmps80
  go_upto_region 1 with fail
  have HC := Lib.hid ((Below.refl w.heap.size w).alloc (Nat.le_refl _) (.cells #[.slice A0 ws.length c0, .slice A2 xs.length c2] 33))
  have X := Lib.hid (show Box (w.alloc (.cells #[.slice A0 ws.length c0, .slice A2 xs.length c2] 33)) w.heap.size #[.slice A0 ws.length c0, .slice A2 xs.length c2] 33 from Box.new rfl)
  generalize w.alloc (.cells #[.slice A0 ws.length c0, .slice A2 xs.length c2] 33) = w1 at *
  have x0 := X.out.cell 0 (v := .slice A0 ws.length c0) rfl; have x1 := X.out.cell 1 (v := .slice A2 xs.length c2) rfl
  go_wp2_with fail
  (with_reducible refine (sWantOk_calls ws _ _ (Rp.S_below G0.out HC.out) (by omega)).mono ?_)
  rintro e w2 ⟨rfl, hb⟩
  have HC := Lib.hid (HC.out.trans (hb.mono HC.out.size)); have X := Lib.hid (X.out.below hb)
  clear x0 x1 hb
  have x0 := X.out.cell 0 (v := .slice A0 ws.length c0) rfl; have x1 := X.out.cell 1 (v := .slice A2 xs.length c2) rfl
  cases hg : wantOk ws
  case false =>
    go_wp2
    go_ret
    exact ⟨by rw [tkOk, hg]; rfl, HC.out⟩
  case true =>
    have hwk := wantOk_le hg
    by_cases h200 : xs.length ≤ 200
    case neg =>
      go_wp2
      all_goals go_ret
      all_goals exact ⟨by rw [tkOk, hg, decide_eq_false h200]; rfl, HC.out⟩
    case pos =>
    have HV := Lib.hid (show tkOk ws xs = gotFrom ws none xs by rw [tkOk, hg, decide_eq_true h200]; rfl)
    go_wp2
    clear x0 x1
    go_loopw [18] (fun i wr => ∃ k : Nat, k ≤ xs.length ∧ i = .int .i64 k ∧ Hid (gotFrom ws (prevC xs k) (xs.drop k) = gotFrom ws none xs) ∧ Hid (Below w.heap.size w wr) ∧ Hid (Box wr w.heap.size #[.slice A0 ws.length c0, .slice A2 xs.length c2] 33)) (fun i _ => xs.length - (intOf i).toNat)
    case atStart => exact ⟨0, Nat.zero_le _, rfl, rfl, HC.out, X.out⟩
    case round =>
      obtain ⟨k, hk, rfl, HE, HB, X⟩ := hrel
      by_cases hlt : k < xs.length
      · obtain ⟨b, o, cs, rfl, k1, q1⟩ := Rp.C_get H.out k hlt
        obtain rfl := kChunk_K k1
        have hd := HE.out
        have hp := prevC_succ hlt
        rw [List.drop_eq_getElem_cons hlt, gotFrom] at hd
        generalize he : xs[k] = y at *
        have HP := Lib.hid hp; clear hp
        have HG := Lib.hid he; clear he
        have HD := Lib.hid hd; clear hd HE
        have a0 := (World.cell?_of_block (HB.out.block b (World.block_lt_of_cell? w _ (q1 0 _ rfl)))).trans (q1 0 _ rfl)
        simp only [kChunk_sz, Nat.add_zero] at a0
        have a1 := (World.cell?_of_block (HB.out.block b (World.block_lt_of_cell? w _ (q1 1 _ rfl)))).trans (q1 1 _ rfl)
        simp only [kChunk_sz, Nat.add_zero] at a1
        have a2 := (World.cell?_of_block (HB.out.block b (World.block_lt_of_cell? w _ (q1 2 _ rfl)))).trans (q1 2 _ rfl)
        simp only [kChunk_sz, Nat.add_zero] at a2
        have a3 := (World.cell?_of_block (HB.out.block b (World.block_lt_of_cell? w _ (q1 3 _ rfl)))).trans (q1 3 _ rfl)
        simp only [kChunk_sz, Nat.add_zero] at a3
        clear q1 k1
        have i1 : (0 : Int) ≤ (k : Int) := by omega
        have i2 : (k : Int) < (xs.length : Int) := by omega
        rcases Nat.eq_zero_or_pos k with hz | hz
        · have HQ := Lib.hid (show prevC xs k = none by rw [prevC, if_pos hz])
          have i3 : ¬ (0 : Int) < (k : Int) := by omega
          have i4 : ¬ 0 < k := by omega
          clear hz
          have hpath : ((chGood ws y) = false) ∨ ((chGood ws y) = true) := by cases (chGood ws y) <;> simp
          rcases hpath with h1 | h1
          · skip
            go_upto_region 6 with fail
            have B1 : Box (wr.alloc (.cells #[.int .i64 y.fFile, .int .i64 y.fAt, .string y.fData, .int .u32 y.fSum] 46)) wr.heap.size #[.int .i64 y.fFile, .int .i64 y.fAt, .string y.fData, .int .u32 y.fSum] 46 := Box.new rfl
            have r0 := regr (Below.refl _ _) B1.lt (B1.cell 0 (v := .int .i64 y.fFile) rfl)
            have r1 := regr (Below.refl _ _) B1.lt (B1.cell 1 (v := .int .i64 y.fAt) rfl)
            have r2 := regr (Below.refl _ _) B1.lt (B1.cell 2 (v := .string y.fData) rfl)
            have r3 := regr (Below.refl _ _) B1.lt (B1.cell 3 (v := .int .u32 y.fSum) rfl)
            have XX := Lib.hid (Box.alloc (o := .cells #[.int .i64 y.fFile, .int .i64 y.fAt, .string y.fData, .int .u32 y.fSum] 46) X.out)
            have X_0 := regr (Below.refl _ _) XX.out.lt (XX.out.cell 0 (v := .slice A0 ws.length c0) rfl)
            have X_1 := regr (Below.refl _ _) XX.out.lt (XX.out.cell 1 (v := .slice (some ⟨b, o, none⟩) xs.length c2) rfl)
            have HB1 := Lib.hid (HB.out.alloc HB.out.size (.cells #[.int .i64 y.fFile, .int .i64 y.fAt, .string y.fData, .int .u32 y.fSum] 46))
            clear B1 a0 a1 a2 a3
            generalize wr.alloc (.cells #[.int .i64 y.fFile, .int .i64 y.fAt, .string y.fData, .int .u32 y.fSum] 46) = w1 at *
            refine wp_region_quiet_below (by kernel_rfl) (by kernel_rfl) ?_
            have c_h1 : ∀ W : World, Below w1.heap.size w1 W → Calls Try.prog 164 #[.agg #[.slice A0 ws.length c0, .slice (some ⟨b, o, none⟩) xs.length c2], .agg #[.int .i64 y.fFile, .int .i64 y.fAt, .string y.fData, .int .u32 y.fSum]] W (fun e w' => e = .returned (.bool false) ∧ Below W.heap.size W w') := fun W hW => (sGood1_calls ws y _ _ W (Rp.S_below G0.out (HB1.out.trans (hW.mono HB1.out.size))) hwk).mono (fun e w' h => ⟨by rw [h.1]; rw [h1], h.2⟩)
            repeat (go_big_quiet_step (first | (with_reducible exact Calls.regrown_of (c_h1 _ (below_regrown _ _ _)))))
            refine wpQuiet_nil ?_
            rintro w2 ⟨p, rfl⟩
            have HB2 := Lib.hid (HB1.out.trans ((below_regrown w1 p.d p.os).mono HB1.out.size))
            have YX := Lib.hid (XX.out.below (below_regrown w1 p.d p.os))
            clear r0 r1 r2 r3 X_0 X_1 XX
            generalize grow (redrawn w1 p.d) p.os = w2 at *
            go_wp2
            go_ret
            exact ⟨by rw [HV.out, ← HD.out, HQ.out]; simp [gotPrev, h1], HB2.out⟩
          · skip
            go_upto_region 6 with fail
            have B1 : Box (wr.alloc (.cells #[.int .i64 y.fFile, .int .i64 y.fAt, .string y.fData, .int .u32 y.fSum] 46)) wr.heap.size #[.int .i64 y.fFile, .int .i64 y.fAt, .string y.fData, .int .u32 y.fSum] 46 := Box.new rfl
            have r0 := regr (Below.refl _ _) B1.lt (B1.cell 0 (v := .int .i64 y.fFile) rfl)
            have r1 := regr (Below.refl _ _) B1.lt (B1.cell 1 (v := .int .i64 y.fAt) rfl)
            have r2 := regr (Below.refl _ _) B1.lt (B1.cell 2 (v := .string y.fData) rfl)
            have r3 := regr (Below.refl _ _) B1.lt (B1.cell 3 (v := .int .u32 y.fSum) rfl)
            have XX := Lib.hid (Box.alloc (o := .cells #[.int .i64 y.fFile, .int .i64 y.fAt, .string y.fData, .int .u32 y.fSum] 46) X.out)
            have X_0 := regr (Below.refl _ _) XX.out.lt (XX.out.cell 0 (v := .slice A0 ws.length c0) rfl)
            have X_1 := regr (Below.refl _ _) XX.out.lt (XX.out.cell 1 (v := .slice (some ⟨b, o, none⟩) xs.length c2) rfl)
            have HB1 := Lib.hid (HB.out.alloc HB.out.size (.cells #[.int .i64 y.fFile, .int .i64 y.fAt, .string y.fData, .int .u32 y.fSum] 46))
            clear B1 a0 a1 a2 a3
            generalize wr.alloc (.cells #[.int .i64 y.fFile, .int .i64 y.fAt, .string y.fData, .int .u32 y.fSum] 46) = w1 at *
            refine wp_region_quiet_below (by kernel_rfl) (by kernel_rfl) ?_
            have c_h1 : ∀ W : World, Below w1.heap.size w1 W → Calls Try.prog 164 #[.agg #[.slice A0 ws.length c0, .slice (some ⟨b, o, none⟩) xs.length c2], .agg #[.int .i64 y.fFile, .int .i64 y.fAt, .string y.fData, .int .u32 y.fSum]] W (fun e w' => e = .returned (.bool true) ∧ Below W.heap.size W w') := fun W hW => (sGood1_calls ws y _ _ W (Rp.S_below G0.out (HB1.out.trans (hW.mono HB1.out.size))) hwk).mono (fun e w' h => ⟨by rw [h.1]; rw [h1], h.2⟩)
            repeat (go_big_quiet_step (first | (with_reducible exact Calls.regrown_of (c_h1 _ (below_regrown _ _ _)))))
            refine wpQuiet_nil ?_
            rintro w2 ⟨p, rfl⟩
            have HB2 := Lib.hid (HB1.out.trans ((below_regrown w1 p.d p.os).mono HB1.out.size))
            have YX := Lib.hid (XX.out.below (below_regrown w1 p.d p.os))
            clear r0 r1 r2 r3 X_0 X_1 XX
            generalize grow (redrawn w1 p.d) p.os = w2 at *
            go_wp2
            exact ⟨⟨k + 1, by omega, by go_num, by rw [Hid, ← HD.out, HP.out, HQ.out]; simp [gotPrev, h1], HB2.out, YX.out⟩, by simp [intOf]; omega⟩
        · have hlt2 : k - 1 < xs.length := by omega
          obtain ⟨b2, o2, cs2, e2, k2, q2⟩ := Rp.C_get H.out (k - 1) hlt2
          obtain ⟨rfl, rfl⟩ : b = b2 ∧ o = o2 := by simpa using e2
          obtain rfl := kChunk_K k2
          have HQ := Lib.hid (prevC_pos hlt2 (by omega))
          generalize xs[k - 1] = z at *
          have d0 := (World.cell?_of_block (HB.out.block b (World.block_lt_of_cell? w _ (q2 0 _ rfl)))).trans (q2 0 _ rfl)
          simp only [kChunk_sz, Nat.add_zero] at d0
          have d1 := (World.cell?_of_block (HB.out.block b (World.block_lt_of_cell? w _ (q2 1 _ rfl)))).trans (q2 1 _ rfl)
          simp only [kChunk_sz, Nat.add_zero] at d1
          have d2 := (World.cell?_of_block (HB.out.block b (World.block_lt_of_cell? w _ (q2 2 _ rfl)))).trans (q2 2 _ rfl)
          simp only [kChunk_sz, Nat.add_zero] at d2
          have d3 := (World.cell?_of_block (HB.out.block b (World.block_lt_of_cell? w _ (q2 3 _ rfl)))).trans (q2 3 _ rfl)
          simp only [kChunk_sz, Nat.add_zero] at d3
          clear q2 k2
          have i3 : (0 : Int) < (k : Int) := by omega
          obtain ⟨m, rfl⟩ : ∃ m, k = m + 1 := ⟨k - 1, by omega⟩
          rw [Nat.add_sub_cancel] at d0
          rw [Nat.add_sub_cancel] at d1
          rw [Nat.add_sub_cancel] at d2
          rw [Nat.add_sub_cancel] at d3
          have i4 : ((m + 1 : Nat) : Int) - 1 = (m : Int) := by omega
          have i5 : IntKind.i64.wrap (m : Int) = (m : Int) := by rw [IntKind.wrap_i64]; omega
          have hpath : ((chGood ws y) = false) ∨ ((chGood ws y) = true ∧ (chLess z y) = false) ∨ ((chGood ws y) = true ∧ (chLess z y) = true) := by cases (chGood ws y) <;> cases (chLess z y) <;> simp
          rcases hpath with h1 | ⟨h1, h2⟩ | ⟨h1, h2⟩
          · skip
            go_upto_region 6 with fail
            have B1 : Box (wr.alloc (.cells #[.int .i64 y.fFile, .int .i64 y.fAt, .string y.fData, .int .u32 y.fSum] 46)) wr.heap.size #[.int .i64 y.fFile, .int .i64 y.fAt, .string y.fData, .int .u32 y.fSum] 46 := Box.new rfl
            have r0 := regr (Below.refl _ _) B1.lt (B1.cell 0 (v := .int .i64 y.fFile) rfl)
            have r1 := regr (Below.refl _ _) B1.lt (B1.cell 1 (v := .int .i64 y.fAt) rfl)
            have r2 := regr (Below.refl _ _) B1.lt (B1.cell 2 (v := .string y.fData) rfl)
            have r3 := regr (Below.refl _ _) B1.lt (B1.cell 3 (v := .int .u32 y.fSum) rfl)
            have p0 := regr ((Below.refl _ wr).alloc (Nat.le_refl _) (.cells #[.int .i64 y.fFile, .int .i64 y.fAt, .string y.fData, .int .u32 y.fSum] 46)) (World.block_lt_of_cell? wr _ d0) d0
            have p1 := regr ((Below.refl _ wr).alloc (Nat.le_refl _) (.cells #[.int .i64 y.fFile, .int .i64 y.fAt, .string y.fData, .int .u32 y.fSum] 46)) (World.block_lt_of_cell? wr _ d1) d1
            have p2 := regr ((Below.refl _ wr).alloc (Nat.le_refl _) (.cells #[.int .i64 y.fFile, .int .i64 y.fAt, .string y.fData, .int .u32 y.fSum] 46)) (World.block_lt_of_cell? wr _ d2) d2
            have p3 := regr ((Below.refl _ wr).alloc (Nat.le_refl _) (.cells #[.int .i64 y.fFile, .int .i64 y.fAt, .string y.fData, .int .u32 y.fSum] 46)) (World.block_lt_of_cell? wr _ d3) d3
            have XX := Lib.hid (Box.alloc (o := .cells #[.int .i64 y.fFile, .int .i64 y.fAt, .string y.fData, .int .u32 y.fSum] 46) X.out)
            have X_0 := regr (Below.refl _ _) XX.out.lt (XX.out.cell 0 (v := .slice A0 ws.length c0) rfl)
            have X_1 := regr (Below.refl _ _) XX.out.lt (XX.out.cell 1 (v := .slice (some ⟨b, o, none⟩) xs.length c2) rfl)
            have HB1 := Lib.hid (HB.out.alloc HB.out.size (.cells #[.int .i64 y.fFile, .int .i64 y.fAt, .string y.fData, .int .u32 y.fSum] 46))
            clear B1 a0 a1 a2 a3 d0 d1 d2 d3
            generalize wr.alloc (.cells #[.int .i64 y.fFile, .int .i64 y.fAt, .string y.fData, .int .u32 y.fSum] 46) = w1 at *
            refine wp_region_quiet_below (by kernel_rfl) (by kernel_rfl) ?_
            have c_h1 : ∀ W : World, Below w1.heap.size w1 W → Calls Try.prog 164 #[.agg #[.slice A0 ws.length c0, .slice (some ⟨b, o, none⟩) xs.length c2], .agg #[.int .i64 y.fFile, .int .i64 y.fAt, .string y.fData, .int .u32 y.fSum]] W (fun e w' => e = .returned (.bool false) ∧ Below W.heap.size W w') := fun W hW => (sGood1_calls ws y _ _ W (Rp.S_below G0.out (HB1.out.trans (hW.mono HB1.out.size))) hwk).mono (fun e w' h => ⟨by rw [h.1]; rw [h1], h.2⟩)
            repeat (go_big_quiet_step (first | (with_reducible exact Calls.regrown_of (c_h1 _ (below_regrown _ _ _)))))
            refine wpQuiet_nil ?_
            rintro w2 ⟨p, rfl⟩
            have HB2 := Lib.hid (HB1.out.trans ((below_regrown w1 p.d p.os).mono HB1.out.size))
            have YX := Lib.hid (XX.out.below (below_regrown w1 p.d p.os))
            clear r0 r1 r2 r3 p0 p1 p2 p3 X_0 X_1 XX
            generalize grow (redrawn w1 p.d) p.os = w2 at *
            go_wp2
            go_ret
            exact ⟨by rw [HV.out, ← HD.out, HQ.out]; simp [gotPrev, h1], HB2.out⟩
          · skip
            go_upto_region 6 with fail
            have B1 : Box (wr.alloc (.cells #[.int .i64 y.fFile, .int .i64 y.fAt, .string y.fData, .int .u32 y.fSum] 46)) wr.heap.size #[.int .i64 y.fFile, .int .i64 y.fAt, .string y.fData, .int .u32 y.fSum] 46 := Box.new rfl
            have r0 := regr (Below.refl _ _) B1.lt (B1.cell 0 (v := .int .i64 y.fFile) rfl)
            have r1 := regr (Below.refl _ _) B1.lt (B1.cell 1 (v := .int .i64 y.fAt) rfl)
            have r2 := regr (Below.refl _ _) B1.lt (B1.cell 2 (v := .string y.fData) rfl)
            have r3 := regr (Below.refl _ _) B1.lt (B1.cell 3 (v := .int .u32 y.fSum) rfl)
            have p0 := regr ((Below.refl _ wr).alloc (Nat.le_refl _) (.cells #[.int .i64 y.fFile, .int .i64 y.fAt, .string y.fData, .int .u32 y.fSum] 46)) (World.block_lt_of_cell? wr _ d0) d0
            have p1 := regr ((Below.refl _ wr).alloc (Nat.le_refl _) (.cells #[.int .i64 y.fFile, .int .i64 y.fAt, .string y.fData, .int .u32 y.fSum] 46)) (World.block_lt_of_cell? wr _ d1) d1
            have p2 := regr ((Below.refl _ wr).alloc (Nat.le_refl _) (.cells #[.int .i64 y.fFile, .int .i64 y.fAt, .string y.fData, .int .u32 y.fSum] 46)) (World.block_lt_of_cell? wr _ d2) d2
            have p3 := regr ((Below.refl _ wr).alloc (Nat.le_refl _) (.cells #[.int .i64 y.fFile, .int .i64 y.fAt, .string y.fData, .int .u32 y.fSum] 46)) (World.block_lt_of_cell? wr _ d3) d3
            have XX := Lib.hid (Box.alloc (o := .cells #[.int .i64 y.fFile, .int .i64 y.fAt, .string y.fData, .int .u32 y.fSum] 46) X.out)
            have X_0 := regr (Below.refl _ _) XX.out.lt (XX.out.cell 0 (v := .slice A0 ws.length c0) rfl)
            have X_1 := regr (Below.refl _ _) XX.out.lt (XX.out.cell 1 (v := .slice (some ⟨b, o, none⟩) xs.length c2) rfl)
            have HB1 := Lib.hid (HB.out.alloc HB.out.size (.cells #[.int .i64 y.fFile, .int .i64 y.fAt, .string y.fData, .int .u32 y.fSum] 46))
            clear B1 a0 a1 a2 a3 d0 d1 d2 d3
            generalize wr.alloc (.cells #[.int .i64 y.fFile, .int .i64 y.fAt, .string y.fData, .int .u32 y.fSum] 46) = w1 at *
            refine wp_region_quiet_below (by kernel_rfl) (by kernel_rfl) ?_
            have c_h1 : ∀ W : World, Below w1.heap.size w1 W → Calls Try.prog 164 #[.agg #[.slice A0 ws.length c0, .slice (some ⟨b, o, none⟩) xs.length c2], .agg #[.int .i64 y.fFile, .int .i64 y.fAt, .string y.fData, .int .u32 y.fSum]] W (fun e w' => e = .returned (.bool true) ∧ Below W.heap.size W w') := fun W hW => (sGood1_calls ws y _ _ W (Rp.S_below G0.out (HB1.out.trans (hW.mono HB1.out.size))) hwk).mono (fun e w' h => ⟨by rw [h.1]; rw [h1], h.2⟩)
            have c_h2 : ∀ W : World, Below w1.heap.size w1 W → Calls Try.prog 165 #[.agg #[.int .i64 z.fFile, .int .i64 z.fAt, .string z.fData, .int .u32 z.fSum], .agg #[.int .i64 y.fFile, .int .i64 y.fAt, .string y.fData, .int .u32 y.fSum]] W (fun e w' => e = .returned (.bool false) ∧ Below W.heap.size W w') := fun W hW => (sLess_calls z y W).mono (fun e w' h => ⟨by rw [h.1]; rw [h2], h.2⟩)
            repeat (go_big_quiet_step (first | (with_reducible exact Calls.regrown_of (c_h1 _ (below_regrown _ _ _))) | (with_reducible exact Calls.regrown_of (c_h2 _ (below_regrown _ _ _)))))
            refine wpQuiet_nil ?_
            rintro w2 ⟨p, rfl⟩
            have HB2 := Lib.hid (HB1.out.trans ((below_regrown w1 p.d p.os).mono HB1.out.size))
            have YX := Lib.hid (XX.out.below (below_regrown w1 p.d p.os))
            clear r0 r1 r2 r3 p0 p1 p2 p3 X_0 X_1 XX
            generalize grow (redrawn w1 p.d) p.os = w2 at *
            go_wp2
            go_ret
            exact ⟨by rw [HV.out, ← HD.out, HQ.out]; simp [gotPrev, h1, h2], HB2.out⟩
          · skip
            go_upto_region 6 with fail
            have B1 : Box (wr.alloc (.cells #[.int .i64 y.fFile, .int .i64 y.fAt, .string y.fData, .int .u32 y.fSum] 46)) wr.heap.size #[.int .i64 y.fFile, .int .i64 y.fAt, .string y.fData, .int .u32 y.fSum] 46 := Box.new rfl
            have r0 := regr (Below.refl _ _) B1.lt (B1.cell 0 (v := .int .i64 y.fFile) rfl)
            have r1 := regr (Below.refl _ _) B1.lt (B1.cell 1 (v := .int .i64 y.fAt) rfl)
            have r2 := regr (Below.refl _ _) B1.lt (B1.cell 2 (v := .string y.fData) rfl)
            have r3 := regr (Below.refl _ _) B1.lt (B1.cell 3 (v := .int .u32 y.fSum) rfl)
            have p0 := regr ((Below.refl _ wr).alloc (Nat.le_refl _) (.cells #[.int .i64 y.fFile, .int .i64 y.fAt, .string y.fData, .int .u32 y.fSum] 46)) (World.block_lt_of_cell? wr _ d0) d0
            have p1 := regr ((Below.refl _ wr).alloc (Nat.le_refl _) (.cells #[.int .i64 y.fFile, .int .i64 y.fAt, .string y.fData, .int .u32 y.fSum] 46)) (World.block_lt_of_cell? wr _ d1) d1
            have p2 := regr ((Below.refl _ wr).alloc (Nat.le_refl _) (.cells #[.int .i64 y.fFile, .int .i64 y.fAt, .string y.fData, .int .u32 y.fSum] 46)) (World.block_lt_of_cell? wr _ d2) d2
            have p3 := regr ((Below.refl _ wr).alloc (Nat.le_refl _) (.cells #[.int .i64 y.fFile, .int .i64 y.fAt, .string y.fData, .int .u32 y.fSum] 46)) (World.block_lt_of_cell? wr _ d3) d3
            have XX := Lib.hid (Box.alloc (o := .cells #[.int .i64 y.fFile, .int .i64 y.fAt, .string y.fData, .int .u32 y.fSum] 46) X.out)
            have X_0 := regr (Below.refl _ _) XX.out.lt (XX.out.cell 0 (v := .slice A0 ws.length c0) rfl)
            have X_1 := regr (Below.refl _ _) XX.out.lt (XX.out.cell 1 (v := .slice (some ⟨b, o, none⟩) xs.length c2) rfl)
            have HB1 := Lib.hid (HB.out.alloc HB.out.size (.cells #[.int .i64 y.fFile, .int .i64 y.fAt, .string y.fData, .int .u32 y.fSum] 46))
            clear B1 a0 a1 a2 a3 d0 d1 d2 d3
            generalize wr.alloc (.cells #[.int .i64 y.fFile, .int .i64 y.fAt, .string y.fData, .int .u32 y.fSum] 46) = w1 at *
            refine wp_region_quiet_below (by kernel_rfl) (by kernel_rfl) ?_
            have c_h1 : ∀ W : World, Below w1.heap.size w1 W → Calls Try.prog 164 #[.agg #[.slice A0 ws.length c0, .slice (some ⟨b, o, none⟩) xs.length c2], .agg #[.int .i64 y.fFile, .int .i64 y.fAt, .string y.fData, .int .u32 y.fSum]] W (fun e w' => e = .returned (.bool true) ∧ Below W.heap.size W w') := fun W hW => (sGood1_calls ws y _ _ W (Rp.S_below G0.out (HB1.out.trans (hW.mono HB1.out.size))) hwk).mono (fun e w' h => ⟨by rw [h.1]; rw [h1], h.2⟩)
            have c_h2 : ∀ W : World, Below w1.heap.size w1 W → Calls Try.prog 165 #[.agg #[.int .i64 z.fFile, .int .i64 z.fAt, .string z.fData, .int .u32 z.fSum], .agg #[.int .i64 y.fFile, .int .i64 y.fAt, .string y.fData, .int .u32 y.fSum]] W (fun e w' => e = .returned (.bool true) ∧ Below W.heap.size W w') := fun W hW => (sLess_calls z y W).mono (fun e w' h => ⟨by rw [h.1]; rw [h2], h.2⟩)
            repeat (go_big_quiet_step (first | (with_reducible exact Calls.regrown_of (c_h1 _ (below_regrown _ _ _))) | (with_reducible exact Calls.regrown_of (c_h2 _ (below_regrown _ _ _)))))
            refine wpQuiet_nil ?_
            rintro w2 ⟨p, rfl⟩
            have HB2 := Lib.hid (HB1.out.trans ((below_regrown w1 p.d p.os).mono HB1.out.size))
            have YX := Lib.hid (XX.out.below (below_regrown w1 p.d p.os))
            clear r0 r1 r2 r3 p0 p1 p2 p3 X_0 X_1 XX
            generalize grow (redrawn w1 p.d) p.os = w2 at *
            go_wp2
            exact ⟨⟨m + 1 + 1, by omega, by go_num, by rw [Hid, ← HD.out, HP.out, HQ.out]; simp [gotPrev, h1, h2], HB2.out, YX.out⟩, by simp [intOf]; omega⟩
      · obtain rfl : k = xs.length := by omega
        have hE := HE.out
        rw [List.drop_length, gotFrom] at hE
        have HE2 := Lib.hid hE; clear hE HE
        go_wp2
        go_ret
        exact ⟨by rw [HV.out, ← HE2.out]; rfl, HB.out⟩
theorem sGoodTaking_k {x : DTaking} {c0 : List Value} {w : World} (k0 : kTaking.K w x c0) (h0 : wfTaking x) (s0 : smTaking 1048576 x) : Calls Try.prog 80 #[.agg c0.toArray] w
    fun e w' => e = .returned (.bool (tkOk x.fWant x.fGot)) ∧ Below w.heap.size w w' := by
  obtain ⟨v0, v1, rfl, g0, g1⟩ := kTaking_read k0
  exact sGoodT_calls x.fWant x.fGot v0 v1 w g0 g1 s0
end Go.Proofs.Ytioelmhikablcaa
