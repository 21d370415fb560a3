/- Messages: which are right, walked. -/
import Derived.Test.YtcimnhpgackciaaRaN
namespace Go.Proofs.Ytcimnhpgackciaa
open Go Go.RowKit Go.Sort
set_option linter.unusedVariables false
set_option linter.unusedSimpArgs false

set_option maxHeartbeats 400000 in
theorem sEntry_calls (x : DEntry) (w : World) : Calls Try.prog 50 #[.agg #[.int .i64 x.fTerm, .string x.fData]] w fun e w' => e = .returned (.bool (goodE x)) ∧ Below w.heap.size w w' := by
  go_enter Try.func50, Try.ntmps50
  go_wp2_with (first | (with_reducible refine (sInR_calls _ _ _ _).mono ?_; rintro e w1 ⟨rfl, rfl⟩))
  all_goals (go_ret; exact ⟨by congr 2; simp [goodE, *], (Below.refl _ _).alloc (Nat.le_refl _) _⟩)

set_option maxHeartbeats 400000 in
theorem iEntry_calls (x : DEntry) (w : World) : Calls Try.prog 51 #[.agg #[.int .i64 x.fTerm, .string x.fData]] w fun e w' => e = .returned (.bool (goodE x)) ∧ Below w.heap.size w w' := by
  go_enter Try.func51, Try.ntmps51
  go_wp2_with (first | (with_reducible refine (iInR_calls _ _ _ _).mono ?_; rintro e w1 ⟨rfl, rfl⟩))
  all_goals (go_ret; exact ⟨by congr 2; simp [goodE, *], (Below.refl _ _).alloc (Nat.le_refl _) _⟩)

set_option maxHeartbeats 4000000 in
set_option maxRecDepth 100000 in
theorem iEntries_calls (xs : List DEntry) (tm : Int) (v : Value) (w : World) (g : kEntry.S w xs v) (hl : xs.length ≤ 140737488355328) : Calls Try.prog 42 #[v, .int .i64 tm] w
    fun e w' => e = .returned (.bool (entFrom tm none xs)) ∧ Below w.heap.size w w' := by
  obtain ⟨A, c, rfl, hc, h⟩ := g
  have H := Lib.hid h; clear h
  go_enter Try.func42, Try.ntmps42
  go_wp2
  go_loopw [9] (fun i wr => ∃ k : Nat, k ≤ xs.length ∧ i = .int .i64 k ∧ Hid (entFrom tm (prevE xs k) (xs.drop k) = entFrom tm none xs) ∧ Hid (Below w.heap.size w wr)) (fun i _ => xs.length - (intOf i).toNat)
  case atStart => exact ⟨0, Nat.zero_le _, rfl, rfl, Below.refl _ _⟩
  case round =>
    obtain ⟨k, hk, rfl, HE, HB⟩ := hrel
    by_cases hlt : k < xs.length
    · obtain ⟨b, o, cs, rfl, k1, q1⟩ := Rp.C_get H.out k hlt
      obtain rfl := kEntry_K k1
      have hd := HE.out
      have hp := prevE_succ hlt
      rw [List.drop_eq_getElem_cons hlt, entFrom] at hd
      generalize he : xs[k] = y at *
      have HP := Lib.hid hp; clear hp
      have HG := Lib.hid he; clear he
      have HD := Lib.hid hd; clear hd HE
      have a0 := (World.cell?_of_block (HB.out.block b (World.block_lt_of_cell? w _ (q1 0 _ rfl)))).trans (q1 0 _ rfl)
      simp only [kEntry_sz, Nat.add_zero] at a0
      have a1 := (World.cell?_of_block (HB.out.block b (World.block_lt_of_cell? w _ (q1 1 _ rfl)))).trans (q1 1 _ rfl)
      simp only [kEntry_sz, Nat.add_zero] at a1
      clear q1 k1
      have i1 : (0 : Int) ≤ (k : Int) := by omega
      have i2 : (k : Int) < (xs.length : Int) := by omega
      rcases Nat.eq_zero_or_pos k with hz | hz
      · have HQ := Lib.hid (show prevE xs k = none by rw [prevE, if_pos hz])
        have i3 : ¬ (0 : Int) < (k : Int) := by omega
        have i4 : ¬ 0 < k := by omega
        clear hz
        have hpath : ((goodE y) = false) ∨ ((goodE y) = true ∧ (decide (y.fTerm ≤ tm)) = false) ∨ ((goodE y) = true ∧ (decide (y.fTerm ≤ tm)) = true) := by cases (goodE y) <;> cases (decide (y.fTerm ≤ tm)) <;> simp
        rcases hpath with h1 | ⟨h1, h2⟩ | ⟨h1, h2⟩
        · skip
          go_upto_region 4 with fail
          have B1 : Box (wr.alloc (.cells #[.int .i64 y.fTerm, .string y.fData] 59)) wr.heap.size #[.int .i64 y.fTerm, .string y.fData] 59 := Box.new rfl
          have r0 := regr (Below.refl _ _) B1.lt (B1.cell 0 (v := .int .i64 y.fTerm) rfl)
          have r1 := regr (Below.refl _ _) B1.lt (B1.cell 1 (v := .string y.fData) rfl)
          have HB1 := Lib.hid (HB.out.alloc HB.out.size (.cells #[.int .i64 y.fTerm, .string y.fData] 59))
          clear B1 a0 a1
          generalize wr.alloc (.cells #[.int .i64 y.fTerm, .string y.fData] 59) = w1 at *
          refine wp_region_quiet_below (by kernel_rfl) (by kernel_rfl) ?_
          have c_h1 : ∀ W : World, Calls Try.prog 51 #[.agg #[.int .i64 y.fTerm, .string y.fData]] W (fun e w' => e = .returned (.bool false) ∧ Below W.heap.size W w') := fun W => (iEntry_calls y _).mono (fun e w' h => ⟨by rw [h.1, h1], h.2⟩)
          repeat (go_big_quiet_step (first | (with_reducible exact Calls.regrown_of (c_h1 _))))
          refine wpQuiet_nil ?_
          rintro w2 ⟨p, rfl⟩
          have HB2 := Lib.hid (HB1.out.trans ((below_regrown w1 p.d p.os).mono HB1.out.size))
          clear r0 r1
          generalize grow (redrawn w1 p.d) p.os = w2 at *
          go_wp2
          go_ret
          exact ⟨by rw [← HD.out, HQ.out]; simp [overLe, h1], HB2.out⟩
        · skip
          have h2p := of_decide_eq_false h2
          have h2q := Int.not_le.1 h2p
          go_upto_region 4 with fail
          have B1 : Box (wr.alloc (.cells #[.int .i64 y.fTerm, .string y.fData] 59)) wr.heap.size #[.int .i64 y.fTerm, .string y.fData] 59 := Box.new rfl
          have r0 := regr (Below.refl _ _) B1.lt (B1.cell 0 (v := .int .i64 y.fTerm) rfl)
          have r1 := regr (Below.refl _ _) B1.lt (B1.cell 1 (v := .string y.fData) rfl)
          have HB1 := Lib.hid (HB.out.alloc HB.out.size (.cells #[.int .i64 y.fTerm, .string y.fData] 59))
          clear B1 a0 a1
          generalize wr.alloc (.cells #[.int .i64 y.fTerm, .string y.fData] 59) = w1 at *
          refine wp_region_quiet_below (by kernel_rfl) (by kernel_rfl) ?_
          have c_h1 : ∀ W : World, Calls Try.prog 51 #[.agg #[.int .i64 y.fTerm, .string y.fData]] W (fun e w' => e = .returned (.bool true) ∧ Below W.heap.size W w') := fun W => (iEntry_calls y _).mono (fun e w' h => ⟨by rw [h.1, h1], h.2⟩)
          repeat (go_big_quiet_step (first | (with_reducible exact Calls.regrown_of (c_h1 _))))
          refine wpQuiet_nil ?_
          rintro w2 ⟨p, rfl⟩
          have HB2 := Lib.hid (HB1.out.trans ((below_regrown w1 p.d p.os).mono HB1.out.size))
          clear r0 r1
          generalize grow (redrawn w1 p.d) p.os = w2 at *
          go_wp2
          go_ret
          exact ⟨by rw [← HD.out, HQ.out]; simp [overLe, h1, h2], HB2.out⟩
        · skip
          have h2p := of_decide_eq_true h2
          have h2q := Int.not_lt.2 h2p
          go_upto_region 4 with fail
          have B1 : Box (wr.alloc (.cells #[.int .i64 y.fTerm, .string y.fData] 59)) wr.heap.size #[.int .i64 y.fTerm, .string y.fData] 59 := Box.new rfl
          have r0 := regr (Below.refl _ _) B1.lt (B1.cell 0 (v := .int .i64 y.fTerm) rfl)
          have r1 := regr (Below.refl _ _) B1.lt (B1.cell 1 (v := .string y.fData) rfl)
          have HB1 := Lib.hid (HB.out.alloc HB.out.size (.cells #[.int .i64 y.fTerm, .string y.fData] 59))
          clear B1 a0 a1
          generalize wr.alloc (.cells #[.int .i64 y.fTerm, .string y.fData] 59) = w1 at *
          refine wp_region_quiet_below (by kernel_rfl) (by kernel_rfl) ?_
          have c_h1 : ∀ W : World, Calls Try.prog 51 #[.agg #[.int .i64 y.fTerm, .string y.fData]] W (fun e w' => e = .returned (.bool true) ∧ Below W.heap.size W w') := fun W => (iEntry_calls y _).mono (fun e w' h => ⟨by rw [h.1, h1], h.2⟩)
          repeat (go_big_quiet_step (first | (with_reducible exact Calls.regrown_of (c_h1 _))))
          refine wpQuiet_nil ?_
          rintro w2 ⟨p, rfl⟩
          have HB2 := Lib.hid (HB1.out.trans ((below_regrown w1 p.d p.os).mono HB1.out.size))
          clear r0 r1
          generalize grow (redrawn w1 p.d) p.os = w2 at *
          go_wp2
          exact ⟨⟨k + 1, by omega, by go_num, by rw [Hid, ← HD.out, HP.out, HQ.out]; simp [overLe, h1, h2], HB2.out⟩, by simp [intOf]; omega⟩
      · have hlt2 : k - 1 < xs.length := by omega
        obtain ⟨b2, o2, cs2, e2, k2, q2⟩ := Rp.C_get H.out (k - 1) hlt2
        obtain ⟨rfl, rfl⟩ : b = b2 ∧ o = o2 := by simpa using e2
        obtain rfl := kEntry_K k2
        have HQ := Lib.hid (prevE_pos hlt2 (by omega))
        generalize xs[k - 1] = z at *
        have d0 := (World.cell?_of_block (HB.out.block b (World.block_lt_of_cell? w _ (q2 0 _ rfl)))).trans (q2 0 _ rfl)
        simp only [kEntry_sz, Nat.add_zero] at d0
        clear q2 k2
        have i3 : (0 : Int) < (k : Int) := by omega
        obtain ⟨m, rfl⟩ : ∃ m, k = m + 1 := ⟨k - 1, by omega⟩
        rw [Nat.add_sub_cancel] at d0
        have i4 : ((m + 1 : Nat) : Int) - 1 = (m : Int) := by omega
        have i5 : IntKind.i64.wrap (m : Int) = (m : Int) := by rw [IntKind.wrap_i64]; omega
        have hpath : ((goodE y) = false) ∨ ((goodE y) = true ∧ (decide (y.fTerm ≤ tm)) = false) ∨ ((goodE y) = true ∧ (decide (y.fTerm ≤ tm)) = true ∧ (decide (z.fTerm ≤ y.fTerm)) = false) ∨ ((goodE y) = true ∧ (decide (y.fTerm ≤ tm)) = true ∧ (decide (z.fTerm ≤ y.fTerm)) = true) := by cases (goodE y) <;> cases (decide (y.fTerm ≤ tm)) <;> cases (decide (z.fTerm ≤ y.fTerm)) <;> simp
        rcases hpath with h1 | ⟨h1, h2⟩ | ⟨h1, h2, h3⟩ | ⟨h1, h2, h3⟩
        · skip
          go_upto_region 4 with fail
          have B1 : Box (wr.alloc (.cells #[.int .i64 y.fTerm, .string y.fData] 59)) wr.heap.size #[.int .i64 y.fTerm, .string y.fData] 59 := Box.new rfl
          have r0 := regr (Below.refl _ _) B1.lt (B1.cell 0 (v := .int .i64 y.fTerm) rfl)
          have r1 := regr (Below.refl _ _) B1.lt (B1.cell 1 (v := .string y.fData) rfl)
          have p0 := regr ((Below.refl _ wr).alloc (Nat.le_refl _) (.cells #[.int .i64 y.fTerm, .string y.fData] 59)) (World.block_lt_of_cell? wr _ d0) d0
          have HB1 := Lib.hid (HB.out.alloc HB.out.size (.cells #[.int .i64 y.fTerm, .string y.fData] 59))
          clear B1 a0 a1 d0
          generalize wr.alloc (.cells #[.int .i64 y.fTerm, .string y.fData] 59) = w1 at *
          refine wp_region_quiet_below (by kernel_rfl) (by kernel_rfl) ?_
          have c_h1 : ∀ W : World, Calls Try.prog 51 #[.agg #[.int .i64 y.fTerm, .string y.fData]] W (fun e w' => e = .returned (.bool false) ∧ Below W.heap.size W w') := fun W => (iEntry_calls y _).mono (fun e w' h => ⟨by rw [h.1, h1], h.2⟩)
          repeat (go_big_quiet_step (first | (with_reducible exact Calls.regrown_of (c_h1 _))))
          refine wpQuiet_nil ?_
          rintro w2 ⟨p, rfl⟩
          have HB2 := Lib.hid (HB1.out.trans ((below_regrown w1 p.d p.os).mono HB1.out.size))
          clear r0 r1 p0
          generalize grow (redrawn w1 p.d) p.os = w2 at *
          go_wp2
          go_ret
          exact ⟨by rw [← HD.out, HQ.out]; simp [overLe, h1], HB2.out⟩
        · skip
          have h2p := of_decide_eq_false h2
          have h2q := Int.not_le.1 h2p
          go_upto_region 4 with fail
          have B1 : Box (wr.alloc (.cells #[.int .i64 y.fTerm, .string y.fData] 59)) wr.heap.size #[.int .i64 y.fTerm, .string y.fData] 59 := Box.new rfl
          have r0 := regr (Below.refl _ _) B1.lt (B1.cell 0 (v := .int .i64 y.fTerm) rfl)
          have r1 := regr (Below.refl _ _) B1.lt (B1.cell 1 (v := .string y.fData) rfl)
          have p0 := regr ((Below.refl _ wr).alloc (Nat.le_refl _) (.cells #[.int .i64 y.fTerm, .string y.fData] 59)) (World.block_lt_of_cell? wr _ d0) d0
          have HB1 := Lib.hid (HB.out.alloc HB.out.size (.cells #[.int .i64 y.fTerm, .string y.fData] 59))
          clear B1 a0 a1 d0
          generalize wr.alloc (.cells #[.int .i64 y.fTerm, .string y.fData] 59) = w1 at *
          refine wp_region_quiet_below (by kernel_rfl) (by kernel_rfl) ?_
          have c_h1 : ∀ W : World, Calls Try.prog 51 #[.agg #[.int .i64 y.fTerm, .string y.fData]] W (fun e w' => e = .returned (.bool true) ∧ Below W.heap.size W w') := fun W => (iEntry_calls y _).mono (fun e w' h => ⟨by rw [h.1, h1], h.2⟩)
          repeat (go_big_quiet_step (first | (with_reducible exact Calls.regrown_of (c_h1 _))))
          refine wpQuiet_nil ?_
          rintro w2 ⟨p, rfl⟩
          have HB2 := Lib.hid (HB1.out.trans ((below_regrown w1 p.d p.os).mono HB1.out.size))
          clear r0 r1 p0
          generalize grow (redrawn w1 p.d) p.os = w2 at *
          go_wp2
          go_ret
          exact ⟨by rw [← HD.out, HQ.out]; simp [overLe, h1, h2], HB2.out⟩
        · skip
          have h2p := of_decide_eq_true h2
          have h2q := Int.not_lt.2 h2p
          have h3p := of_decide_eq_false h3
          have h3q := Int.not_le.1 h3p
          go_upto_region 4 with fail
          have B1 : Box (wr.alloc (.cells #[.int .i64 y.fTerm, .string y.fData] 59)) wr.heap.size #[.int .i64 y.fTerm, .string y.fData] 59 := Box.new rfl
          have r0 := regr (Below.refl _ _) B1.lt (B1.cell 0 (v := .int .i64 y.fTerm) rfl)
          have r1 := regr (Below.refl _ _) B1.lt (B1.cell 1 (v := .string y.fData) rfl)
          have p0 := regr ((Below.refl _ wr).alloc (Nat.le_refl _) (.cells #[.int .i64 y.fTerm, .string y.fData] 59)) (World.block_lt_of_cell? wr _ d0) d0
          have HB1 := Lib.hid (HB.out.alloc HB.out.size (.cells #[.int .i64 y.fTerm, .string y.fData] 59))
          clear B1 a0 a1 d0
          generalize wr.alloc (.cells #[.int .i64 y.fTerm, .string y.fData] 59) = w1 at *
          refine wp_region_quiet_below (by kernel_rfl) (by kernel_rfl) ?_
          have c_h1 : ∀ W : World, Calls Try.prog 51 #[.agg #[.int .i64 y.fTerm, .string y.fData]] W (fun e w' => e = .returned (.bool true) ∧ Below W.heap.size W w') := fun W => (iEntry_calls y _).mono (fun e w' h => ⟨by rw [h.1, h1], h.2⟩)
          repeat (go_big_quiet_step (first | (with_reducible exact Calls.regrown_of (c_h1 _))))
          refine wpQuiet_nil ?_
          rintro w2 ⟨p, rfl⟩
          have HB2 := Lib.hid (HB1.out.trans ((below_regrown w1 p.d p.os).mono HB1.out.size))
          clear r0 r1 p0
          generalize grow (redrawn w1 p.d) p.os = w2 at *
          go_wp2
          go_ret
          exact ⟨by rw [← HD.out, HQ.out]; simp [overLe, h1, h2, h3], HB2.out⟩
        · skip
          have h2p := of_decide_eq_true h2
          have h2q := Int.not_lt.2 h2p
          have h3p := of_decide_eq_true h3
          have h3q := Int.not_lt.2 h3p
          go_upto_region 4 with fail
          have B1 : Box (wr.alloc (.cells #[.int .i64 y.fTerm, .string y.fData] 59)) wr.heap.size #[.int .i64 y.fTerm, .string y.fData] 59 := Box.new rfl
          have r0 := regr (Below.refl _ _) B1.lt (B1.cell 0 (v := .int .i64 y.fTerm) rfl)
          have r1 := regr (Below.refl _ _) B1.lt (B1.cell 1 (v := .string y.fData) rfl)
          have p0 := regr ((Below.refl _ wr).alloc (Nat.le_refl _) (.cells #[.int .i64 y.fTerm, .string y.fData] 59)) (World.block_lt_of_cell? wr _ d0) d0
          have HB1 := Lib.hid (HB.out.alloc HB.out.size (.cells #[.int .i64 y.fTerm, .string y.fData] 59))
          clear B1 a0 a1 d0
          generalize wr.alloc (.cells #[.int .i64 y.fTerm, .string y.fData] 59) = w1 at *
          refine wp_region_quiet_below (by kernel_rfl) (by kernel_rfl) ?_
          have c_h1 : ∀ W : World, Calls Try.prog 51 #[.agg #[.int .i64 y.fTerm, .string y.fData]] W (fun e w' => e = .returned (.bool true) ∧ Below W.heap.size W w') := fun W => (iEntry_calls y _).mono (fun e w' h => ⟨by rw [h.1, h1], h.2⟩)
          repeat (go_big_quiet_step (first | (with_reducible exact Calls.regrown_of (c_h1 _))))
          refine wpQuiet_nil ?_
          rintro w2 ⟨p, rfl⟩
          have HB2 := Lib.hid (HB1.out.trans ((below_regrown w1 p.d p.os).mono HB1.out.size))
          clear r0 r1 p0
          generalize grow (redrawn w1 p.d) p.os = w2 at *
          go_wp2
          exact ⟨⟨m + 1 + 1, by omega, by go_num, by rw [Hid, ← HD.out, HP.out, HQ.out]; simp [overLe, h1, h2, h3], HB2.out⟩, by simp [intOf]; omega⟩
    · obtain rfl : k = xs.length := by omega
      have hE := HE.out
      rw [List.drop_length, entFrom] at hE
      have HE2 := Lib.hid hE; clear hE HE
      go_wp2
      go_ret
      exact ⟨by rw [← HE2.out]; rfl, HB.out⟩
set_option maxHeartbeats 4000000 in
set_option maxRecDepth 100000 in
theorem sEntries_calls (xs : List DEntry) (fr tm : Int) (v : Value) (w : World) (g : kEntry.S w xs v) (hl : xs.length ≤ 140737488355328) : Calls Try.prog 36 #[v, .int .i64 fr, .int .i64 tm] w
    fun e w' => e = .returned (.bool (entS tm fr xs && decide (xs.length ≤ 60))) ∧ Below w.heap.size w w' := by
  obtain ⟨A, c, rfl, hc, h⟩ := g
  have H := Lib.hid h; clear h
  go_enter Try.func36, Try.ntmps36
  go_wp2
  go_loopw [1, 11] (fun f i wr => ∃ (k : Nat) (fk : Int), k ≤ xs.length ∧ i = .int .i64 k ∧ f = .int .i64 fk ∧ Hid (entS tm fk (xs.drop k) = entS tm fr xs) ∧ Hid (Below w.heap.size w wr)) (fun _ i _ => xs.length - (intOf i).toNat)
  case atStart => exact ⟨0, fr, Nat.zero_le _, rfl, rfl, rfl, Below.refl _ _⟩
  case round =>
    obtain ⟨k, fk, hk, rfl, rfl, HE, HB⟩ := hrel
    by_cases hlt : k < xs.length
    · obtain ⟨b, o, cs, rfl, k1, q1⟩ := Rp.C_get H.out k hlt
      obtain rfl := kEntry_K k1
      have hd := HE.out
      rw [List.drop_eq_getElem_cons hlt, entS] at hd
      generalize he : xs[k] = y at *
      have HG := Lib.hid he; clear he
      have HD := Lib.hid hd; clear hd HE
      have a0 := (World.cell?_of_block (HB.out.block b (World.block_lt_of_cell? w _ (q1 0 _ rfl)))).trans (q1 0 _ rfl)
      have a1 := (World.cell?_of_block (HB.out.block b (World.block_lt_of_cell? w _ (q1 1 _ rfl)))).trans (q1 1 _ rfl)
      simp only [kEntry_sz, Nat.add_zero] at a0 a1
      clear q1 k1
      have i1 : (0 : Int) ≤ (k : Int) := by omega
      have i2 : (k : Int) < (xs.length : Int) := by omega
      have hpath : goodE y = false ∨ (goodE y = true ∧ inR y.fTerm fk tm = false) ∨ (goodE y = true ∧ inR y.fTerm fk tm = true) := by
        cases goodE y <;> cases inR y.fTerm fk tm <;> simp
      rcases hpath with h1 | ⟨h1, h2⟩ | ⟨h1, h2⟩
      all_goals
        go_wp2_with fail
        (with_reducible refine (sEntry_calls y _).mono ?_)
        rintro e w1 ⟨rfl, hb⟩
        rw [h1]
        have B1 : Box w1 wr.heap.size #[.int .i64 y.fTerm, .string y.fData] 59 := Box.below (Box.new rfl) hb
        have c0 := B1.cell 0 (v := .int .i64 y.fTerm) rfl
        have HB1 := Lib.hid (HB.out.trans (Below.trans ((Below.refl _ _).alloc HB.out.size _) (hb.mono (by have := HB.out.size; simp; omega))))
        clear hb B1
      · go_wp2
        go_ret
        exact ⟨by rw [← HD.out]; simp [h1], HB1.out⟩
      · go_wp2_with ((with_reducible refine (sInR_calls _ _ _ _).mono ?_); rintro e wq ⟨rfl, rfl⟩; rw [h2])
        go_ret
        exact ⟨by rw [← HD.out]; simp [h1, h2], HB1.out⟩
      · go_wp2_with ((with_reducible refine (sInR_calls _ _ _ _).mono ?_); rintro e wq ⟨rfl, rfl⟩; rw [h2])
        exact ⟨⟨k + 1, y.fTerm, by omega, by go_num, rfl, by rw [Hid, ← HD.out, h1, h2]; simp, HB1.out⟩, by simp [intOf]; omega⟩
    · obtain rfl : k = xs.length := by omega
      have hE := HE.out
      rw [List.drop_length, entS] at hE
      have HE2 := Lib.hid hE; clear hE HE
      go_wp2
      go_ret
      exact ⟨by rw [← HE2.out]; simp; omega, HB.out⟩
end Go.Proofs.Ytcimnhpgackciaa
