/- Versions: the small functions, walked. -/
import Derived.Test.YtiliaijgkedhnaaVerP
namespace Go.Proofs.Ytiliaijgkedhnaa
open Go Go.RowKit Go.Sort
set_option linter.unusedVariables false
set_option linter.unusedSimpArgs false

set_option maxHeartbeats 400000 in
theorem iInR_calls (n lo hi : Int) (w : World) : Calls Try.prog 55 #[.int .i64 n, .int .i64 lo, .int .i64 hi] w fun e w' => e = .returned (.bool (inR n lo hi)) ∧ w' = w := by
  go_enter Try.func55, Try.ntmps55
  go_wp2
  all_goals (go_ret; exact ⟨by congr 2; simp [inR]; omega, rfl⟩)
set_option maxHeartbeats 400000 in
theorem iKey_calls (s : ByteArray) (w : World) : Calls Try.prog 69 #[.string s] w fun e w' => e = .returned (.bool (goodKey s)) ∧ w' = w := by
  go_enter Try.func69, Try.ntmps69
  go_wp2_with (first | (with_reducible refine (iInR_calls _ _ _ _).mono ?_; rintro e w1 ⟨rfl, rfl⟩))
  all_goals (go_ret; exact ⟨rfl, rfl⟩)
set_option maxHeartbeats 400000 in
theorem iSeq_calls (n : Int) (w : World) : Calls Try.prog 56 #[.int .i64 n] w fun e w' => e = .returned (.bool (inR n 0 1000000000)) ∧ w' = w := by
  go_enter Try.func56, Try.ntmps56
  go_wp2_with (first | (with_reducible refine (iInR_calls _ _ _ _).mono ?_; rintro e w1 ⟨rfl, rfl⟩))
  all_goals (go_ret; exact ⟨rfl, rfl⟩)
set_option maxHeartbeats 400000 in
theorem iNext_calls (n s : Int) (w : World) : Calls Try.prog 39 #[.int .i64 n, .int .i64 s] w fun e w' => e = .returned (.bool (cntOk n s)) ∧ w' = w := by
  go_enter Try.func39, Try.ntmps39
  go_wp2_with (first | (with_reducible refine (iInR_calls _ _ _ _).mono ?_; rintro e w1 ⟨rfl, rfl⟩) | (with_reducible refine (iSeq_calls _ _).mono ?_; rintro e w1 ⟨rfl, rfl⟩))
  all_goals (go_ret; exact ⟨by congr 2; simp [cntOk, *], rfl⟩)
set_option maxHeartbeats 4000000 in
set_option maxRecDepth 100000 in
theorem iMeta_calls (x : DMeta) (w : World) : Calls Try.prog 57 #[.agg #[.int .i64 x.fNumber, .int .i64 x.fLevel, .string x.fLeast, .string x.fMost]] w fun e w' => e = .returned (.bool (goodMeta x)) ∧ Below w.heap.size w w' := by
  go_enter Try.func57, Try.ntmps57
  go_wp2_with (first | (with_reducible refine (iInR_calls _ _ _ _).mono ?_; rintro e w1 ⟨rfl, rfl⟩) | (with_reducible refine (iKey_calls _ _).mono ?_; rintro e w1 ⟨rfl, rfl⟩))
  all_goals (go_ret; exact ⟨by congr 2; simp [goodMeta, leS, *], (Below.refl _ _).alloc (Nat.le_refl _) _⟩)
set_option maxHeartbeats 4000000 in
set_option maxRecDepth 100000 in
theorem iMetas_calls (xs : List DMeta) (v : Value) (w : World) (g : kMeta.S w xs v) (hl : xs.length ≤ 140737488355328) : Calls Try.prog 40 #[v] w
    fun e w' => e = .returned (.bool (metasOk xs)) ∧ Below w.heap.size w w' := by
  obtain ⟨A, c, rfl, hc, h⟩ := g
  have H := Lib.hid h; clear h
  go_enter Try.func40, Try.ntmps40
  go_wp2
  go_loopw [7] (fun i wr => ∃ k : Nat, k ≤ xs.length ∧ i = .int .i64 k ∧ Hid (metasFrom (prevM xs k) (xs.drop k) = metasFrom none xs) ∧ Hid (Below w.heap.size w wr)) (fun i _ => xs.length - (intOf i).toNat)
  case atStart => exact ⟨0, Nat.zero_le _, rfl, rfl, Below.refl _ _⟩
  case round =>
    obtain ⟨k, hk, rfl, HE, HB⟩ := hrel
    by_cases hlt : k < xs.length
    · obtain ⟨b, o, cs, rfl, k1, q1⟩ := Rp.C_get H.out k hlt
      obtain rfl := kMeta_K k1
      have hd := HE.out
      have hp := prevM_succ hlt
      rw [List.drop_eq_getElem_cons hlt, metasFrom] at hd
      generalize he : xs[k] = y at *
      have HP := Lib.hid hp; clear hp
      have HG := Lib.hid he; clear he
      have HD := Lib.hid hd; clear hd HE
      have a0 := (World.cell?_of_block (HB.out.block b (World.block_lt_of_cell? w _ (q1 0 _ rfl)))).trans (q1 0 _ rfl)
      simp only [kMeta_sz, Nat.add_zero] at a0
      have a1 := (World.cell?_of_block (HB.out.block b (World.block_lt_of_cell? w _ (q1 1 _ rfl)))).trans (q1 1 _ rfl)
      simp only [kMeta_sz, Nat.add_zero] at a1
      have a2 := (World.cell?_of_block (HB.out.block b (World.block_lt_of_cell? w _ (q1 2 _ rfl)))).trans (q1 2 _ rfl)
      simp only [kMeta_sz, Nat.add_zero] at a2
      have a3 := (World.cell?_of_block (HB.out.block b (World.block_lt_of_cell? w _ (q1 3 _ rfl)))).trans (q1 3 _ rfl)
      simp only [kMeta_sz, Nat.add_zero] at a3
      clear q1 k1
      have i1 : (0 : Int) ≤ (k : Int) := by omega
      have i2 : (k : Int) < (xs.length : Int) := by omega
      rcases Nat.eq_zero_or_pos k with hz | hz
      · have HQ := Lib.hid (show prevM xs k = none by rw [prevM, if_pos hz])
        have i3 : ¬ (0 : Int) < (k : Int) := by omega
        have i4 : ¬ 0 < k := by omega
        clear hz
        have hpath : ((goodMeta y) = false) ∨ ((goodMeta y) = true) := by cases (goodMeta y) <;> simp
        rcases hpath with h1 | h1
        · skip
          go_upto_region 4 with fail
          have B1 : Box (wr.alloc (.cells #[.int .i64 y.fNumber, .int .i64 y.fLevel, .string y.fLeast, .string y.fMost] 52)) wr.heap.size #[.int .i64 y.fNumber, .int .i64 y.fLevel, .string y.fLeast, .string y.fMost] 52 := Box.new rfl
          have r0 := regr (Below.refl _ _) B1.lt (B1.cell 0 (v := .int .i64 y.fNumber) rfl)
          have r1 := regr (Below.refl _ _) B1.lt (B1.cell 1 (v := .int .i64 y.fLevel) rfl)
          have r2 := regr (Below.refl _ _) B1.lt (B1.cell 2 (v := .string y.fLeast) rfl)
          have r3 := regr (Below.refl _ _) B1.lt (B1.cell 3 (v := .string y.fMost) rfl)
          have HB1 := Lib.hid (HB.out.alloc HB.out.size (.cells #[.int .i64 y.fNumber, .int .i64 y.fLevel, .string y.fLeast, .string y.fMost] 52))
          clear B1 a0 a1 a2 a3
          generalize wr.alloc (.cells #[.int .i64 y.fNumber, .int .i64 y.fLevel, .string y.fLeast, .string y.fMost] 52) = w1 at *
          refine wp_region_quiet_below (by kernel_rfl) (by kernel_rfl) ?_
          have c_h1 : ∀ W : World, Calls Try.prog 57 #[.agg #[.int .i64 y.fNumber, .int .i64 y.fLevel, .string y.fLeast, .string y.fMost]] W (fun e w' => e = .returned (.bool false) ∧ Below W.heap.size W w') := fun W => (iMeta_calls y _).mono (fun e w' h => ⟨by rw [h.1, h1], h.2⟩)
          repeat (go_big_quiet_step (first | (with_reducible exact Calls.regrown_of (c_h1 _))))
          refine wpQuiet_nil ?_
          rintro w2 ⟨p, rfl⟩
          have HB2 := Lib.hid (HB1.out.trans ((below_regrown w1 p.d p.os).mono HB1.out.size))
          clear r0 r1 r2 r3
          generalize grow (redrawn w1 p.d) p.os = w2 at *
          go_wp2
          go_ret
          exact ⟨by rw [metasOk, ← HD.out, HQ.out]; simp [overI, h1], HB2.out⟩
        · skip
          go_upto_region 4 with fail
          have B1 : Box (wr.alloc (.cells #[.int .i64 y.fNumber, .int .i64 y.fLevel, .string y.fLeast, .string y.fMost] 52)) wr.heap.size #[.int .i64 y.fNumber, .int .i64 y.fLevel, .string y.fLeast, .string y.fMost] 52 := Box.new rfl
          have r0 := regr (Below.refl _ _) B1.lt (B1.cell 0 (v := .int .i64 y.fNumber) rfl)
          have r1 := regr (Below.refl _ _) B1.lt (B1.cell 1 (v := .int .i64 y.fLevel) rfl)
          have r2 := regr (Below.refl _ _) B1.lt (B1.cell 2 (v := .string y.fLeast) rfl)
          have r3 := regr (Below.refl _ _) B1.lt (B1.cell 3 (v := .string y.fMost) rfl)
          have HB1 := Lib.hid (HB.out.alloc HB.out.size (.cells #[.int .i64 y.fNumber, .int .i64 y.fLevel, .string y.fLeast, .string y.fMost] 52))
          clear B1 a0 a1 a2 a3
          generalize wr.alloc (.cells #[.int .i64 y.fNumber, .int .i64 y.fLevel, .string y.fLeast, .string y.fMost] 52) = w1 at *
          refine wp_region_quiet_below (by kernel_rfl) (by kernel_rfl) ?_
          have c_h1 : ∀ W : World, Calls Try.prog 57 #[.agg #[.int .i64 y.fNumber, .int .i64 y.fLevel, .string y.fLeast, .string y.fMost]] W (fun e w' => e = .returned (.bool true) ∧ Below W.heap.size W w') := fun W => (iMeta_calls y _).mono (fun e w' h => ⟨by rw [h.1, h1], h.2⟩)
          repeat (go_big_quiet_step (first | (with_reducible exact Calls.regrown_of (c_h1 _))))
          refine wpQuiet_nil ?_
          rintro w2 ⟨p, rfl⟩
          have HB2 := Lib.hid (HB1.out.trans ((below_regrown w1 p.d p.os).mono HB1.out.size))
          clear r0 r1 r2 r3
          generalize grow (redrawn w1 p.d) p.os = w2 at *
          go_wp2
          exact ⟨⟨k + 1, by omega, by go_num, by rw [Hid, ← HD.out, HP.out, HQ.out]; simp [overI, h1], HB2.out⟩, by simp [intOf]; omega⟩
      · have hlt2 : k - 1 < xs.length := by omega
        obtain ⟨b2, o2, cs2, e2, k2, q2⟩ := Rp.C_get H.out (k - 1) hlt2
        obtain ⟨rfl, rfl⟩ : b = b2 ∧ o = o2 := by simpa using e2
        obtain rfl := kMeta_K k2
        have HQ := Lib.hid (prevM_pos hlt2 (by omega))
        generalize xs[k - 1] = z at *
        have d0 := (World.cell?_of_block (HB.out.block b (World.block_lt_of_cell? w _ (q2 0 _ rfl)))).trans (q2 0 _ rfl)
        simp only [kMeta_sz, Nat.add_zero] at d0
        clear q2 k2
        have i3 : (0 : Int) < (k : Int) := by omega
        obtain ⟨m, rfl⟩ : ∃ m, k = m + 1 := ⟨k - 1, by omega⟩
        rw [Nat.add_sub_cancel] at d0
        have i4 : ((m + 1 : Nat) : Int) - 1 = (m : Int) := by omega
        have i5 : IntKind.i64.wrap (m : Int) = (m : Int) := by rw [IntKind.wrap_i64]; omega
        have hpath : ((goodMeta y) = false) ∨ ((goodMeta y) = true ∧ (decide (z.fNumber < y.fNumber)) = false) ∨ ((goodMeta y) = true ∧ (decide (z.fNumber < y.fNumber)) = true) := by cases (goodMeta y) <;> cases (decide (z.fNumber < y.fNumber)) <;> simp
        rcases hpath with h1 | ⟨h1, h2⟩ | ⟨h1, h2⟩
        · skip
          go_upto_region 4 with fail
          have B1 : Box (wr.alloc (.cells #[.int .i64 y.fNumber, .int .i64 y.fLevel, .string y.fLeast, .string y.fMost] 52)) wr.heap.size #[.int .i64 y.fNumber, .int .i64 y.fLevel, .string y.fLeast, .string y.fMost] 52 := Box.new rfl
          have r0 := regr (Below.refl _ _) B1.lt (B1.cell 0 (v := .int .i64 y.fNumber) rfl)
          have r1 := regr (Below.refl _ _) B1.lt (B1.cell 1 (v := .int .i64 y.fLevel) rfl)
          have r2 := regr (Below.refl _ _) B1.lt (B1.cell 2 (v := .string y.fLeast) rfl)
          have r3 := regr (Below.refl _ _) B1.lt (B1.cell 3 (v := .string y.fMost) rfl)
          have p0 := regr ((Below.refl _ wr).alloc (Nat.le_refl _) (.cells #[.int .i64 y.fNumber, .int .i64 y.fLevel, .string y.fLeast, .string y.fMost] 52)) (World.block_lt_of_cell? wr _ d0) d0
          have HB1 := Lib.hid (HB.out.alloc HB.out.size (.cells #[.int .i64 y.fNumber, .int .i64 y.fLevel, .string y.fLeast, .string y.fMost] 52))
          clear B1 a0 a1 a2 a3 d0
          generalize wr.alloc (.cells #[.int .i64 y.fNumber, .int .i64 y.fLevel, .string y.fLeast, .string y.fMost] 52) = w1 at *
          refine wp_region_quiet_below (by kernel_rfl) (by kernel_rfl) ?_
          have c_h1 : ∀ W : World, Calls Try.prog 57 #[.agg #[.int .i64 y.fNumber, .int .i64 y.fLevel, .string y.fLeast, .string y.fMost]] W (fun e w' => e = .returned (.bool false) ∧ Below W.heap.size W w') := fun W => (iMeta_calls y _).mono (fun e w' h => ⟨by rw [h.1, h1], h.2⟩)
          repeat (go_big_quiet_step (first | (with_reducible exact Calls.regrown_of (c_h1 _))))
          refine wpQuiet_nil ?_
          rintro w2 ⟨p, rfl⟩
          have HB2 := Lib.hid (HB1.out.trans ((below_regrown w1 p.d p.os).mono HB1.out.size))
          clear r0 r1 r2 r3 p0
          generalize grow (redrawn w1 p.d) p.os = w2 at *
          go_wp2
          go_ret
          exact ⟨by rw [metasOk, ← HD.out, HQ.out]; simp [overI, h1], HB2.out⟩
        · skip
          have h2p := of_decide_eq_false h2
          have h2q := Int.not_lt.1 h2p
          go_upto_region 4 with fail
          have B1 : Box (wr.alloc (.cells #[.int .i64 y.fNumber, .int .i64 y.fLevel, .string y.fLeast, .string y.fMost] 52)) wr.heap.size #[.int .i64 y.fNumber, .int .i64 y.fLevel, .string y.fLeast, .string y.fMost] 52 := Box.new rfl
          have r0 := regr (Below.refl _ _) B1.lt (B1.cell 0 (v := .int .i64 y.fNumber) rfl)
          have r1 := regr (Below.refl _ _) B1.lt (B1.cell 1 (v := .int .i64 y.fLevel) rfl)
          have r2 := regr (Below.refl _ _) B1.lt (B1.cell 2 (v := .string y.fLeast) rfl)
          have r3 := regr (Below.refl _ _) B1.lt (B1.cell 3 (v := .string y.fMost) rfl)
          have p0 := regr ((Below.refl _ wr).alloc (Nat.le_refl _) (.cells #[.int .i64 y.fNumber, .int .i64 y.fLevel, .string y.fLeast, .string y.fMost] 52)) (World.block_lt_of_cell? wr _ d0) d0
          have HB1 := Lib.hid (HB.out.alloc HB.out.size (.cells #[.int .i64 y.fNumber, .int .i64 y.fLevel, .string y.fLeast, .string y.fMost] 52))
          clear B1 a0 a1 a2 a3 d0
          generalize wr.alloc (.cells #[.int .i64 y.fNumber, .int .i64 y.fLevel, .string y.fLeast, .string y.fMost] 52) = w1 at *
          refine wp_region_quiet_below (by kernel_rfl) (by kernel_rfl) ?_
          have c_h1 : ∀ W : World, Calls Try.prog 57 #[.agg #[.int .i64 y.fNumber, .int .i64 y.fLevel, .string y.fLeast, .string y.fMost]] W (fun e w' => e = .returned (.bool true) ∧ Below W.heap.size W w') := fun W => (iMeta_calls y _).mono (fun e w' h => ⟨by rw [h.1, h1], h.2⟩)
          repeat (go_big_quiet_step (first | (with_reducible exact Calls.regrown_of (c_h1 _))))
          refine wpQuiet_nil ?_
          rintro w2 ⟨p, rfl⟩
          have HB2 := Lib.hid (HB1.out.trans ((below_regrown w1 p.d p.os).mono HB1.out.size))
          clear r0 r1 r2 r3 p0
          generalize grow (redrawn w1 p.d) p.os = w2 at *
          go_wp2
          go_ret
          exact ⟨by rw [metasOk, ← HD.out, HQ.out]; simp [overI, h1, h2], HB2.out⟩
        · skip
          have h2p := of_decide_eq_true h2
          have h2q := Int.not_le.2 h2p
          go_upto_region 4 with fail
          have B1 : Box (wr.alloc (.cells #[.int .i64 y.fNumber, .int .i64 y.fLevel, .string y.fLeast, .string y.fMost] 52)) wr.heap.size #[.int .i64 y.fNumber, .int .i64 y.fLevel, .string y.fLeast, .string y.fMost] 52 := Box.new rfl
          have r0 := regr (Below.refl _ _) B1.lt (B1.cell 0 (v := .int .i64 y.fNumber) rfl)
          have r1 := regr (Below.refl _ _) B1.lt (B1.cell 1 (v := .int .i64 y.fLevel) rfl)
          have r2 := regr (Below.refl _ _) B1.lt (B1.cell 2 (v := .string y.fLeast) rfl)
          have r3 := regr (Below.refl _ _) B1.lt (B1.cell 3 (v := .string y.fMost) rfl)
          have p0 := regr ((Below.refl _ wr).alloc (Nat.le_refl _) (.cells #[.int .i64 y.fNumber, .int .i64 y.fLevel, .string y.fLeast, .string y.fMost] 52)) (World.block_lt_of_cell? wr _ d0) d0
          have HB1 := Lib.hid (HB.out.alloc HB.out.size (.cells #[.int .i64 y.fNumber, .int .i64 y.fLevel, .string y.fLeast, .string y.fMost] 52))
          clear B1 a0 a1 a2 a3 d0
          generalize wr.alloc (.cells #[.int .i64 y.fNumber, .int .i64 y.fLevel, .string y.fLeast, .string y.fMost] 52) = w1 at *
          refine wp_region_quiet_below (by kernel_rfl) (by kernel_rfl) ?_
          have c_h1 : ∀ W : World, Calls Try.prog 57 #[.agg #[.int .i64 y.fNumber, .int .i64 y.fLevel, .string y.fLeast, .string y.fMost]] W (fun e w' => e = .returned (.bool true) ∧ Below W.heap.size W w') := fun W => (iMeta_calls y _).mono (fun e w' h => ⟨by rw [h.1, h1], h.2⟩)
          repeat (go_big_quiet_step (first | (with_reducible exact Calls.regrown_of (c_h1 _))))
          refine wpQuiet_nil ?_
          rintro w2 ⟨p, rfl⟩
          have HB2 := Lib.hid (HB1.out.trans ((below_regrown w1 p.d p.os).mono HB1.out.size))
          clear r0 r1 r2 r3 p0
          generalize grow (redrawn w1 p.d) p.os = w2 at *
          go_wp2
          exact ⟨⟨m + 1 + 1, by omega, by go_num, by rw [Hid, ← HD.out, HP.out, HQ.out]; simp [overI, h1, h2], HB2.out⟩, by simp [intOf]; omega⟩
    · obtain rfl : k = xs.length := by omega
      have hE := HE.out
      rw [List.drop_length, metasFrom] at hE
      have HE2 := Lib.hid hE; clear hE HE
      go_wp2
      go_ret
      exact ⟨by rw [metasOk, ← HE2.out]; simp; omega, HB.out⟩

set_option maxHeartbeats 400000 in
theorem sInR_calls (n lo hi : Int) (w : World) : Calls Try.prog 52 #[.int .i64 n, .int .i64 lo, .int .i64 hi] w fun e w' => e = .returned (.bool (inR n lo hi)) ∧ w' = w := by
  go_enter Try.func52, Try.ntmps52
  go_wp2
  all_goals (go_ret; exact ⟨by congr 2; simp [inR]; omega, rfl⟩)
set_option maxHeartbeats 400000 in
theorem sKey_calls (s : ByteArray) (w : World) : Calls Try.prog 68 #[.string s] w fun e w' => e = .returned (.bool (goodKey s)) ∧ w' = w := by
  go_enter Try.func68, Try.ntmps68
  go_wp2_with (first | (with_reducible refine (sInR_calls _ _ _ _).mono ?_; rintro e w1 ⟨rfl, rfl⟩))
  all_goals (go_ret; exact ⟨rfl, rfl⟩)
set_option maxHeartbeats 400000 in
theorem sSeq_calls (n : Int) (w : World) : Calls Try.prog 53 #[.int .i64 n] w fun e w' => e = .returned (.bool (inR n 0 1000000000)) ∧ w' = w := by
  go_enter Try.func53, Try.ntmps53
  go_wp2_with (first | (with_reducible refine (sInR_calls _ _ _ _).mono ?_; rintro e w1 ⟨rfl, rfl⟩))
  all_goals (go_ret; exact ⟨rfl, rfl⟩)
set_option maxHeartbeats 400000 in
theorem sNext_calls (n s : Int) (w : World) : Calls Try.prog 35 #[.int .i64 n, .int .i64 s] w fun e w' => e = .returned (.bool (cntOk n s)) ∧ w' = w := by
  go_enter Try.func35, Try.ntmps35
  go_wp2_with (first | (with_reducible refine (sInR_calls _ _ _ _).mono ?_; rintro e w1 ⟨rfl, rfl⟩) | (with_reducible refine (sSeq_calls _ _).mono ?_; rintro e w1 ⟨rfl, rfl⟩))
  all_goals (go_ret; exact ⟨by congr 2; simp [cntOk, *], rfl⟩)
set_option maxHeartbeats 4000000 in
set_option maxRecDepth 100000 in
theorem sMeta_calls (x : DMeta) (w : World) : Calls Try.prog 54 #[.agg #[.int .i64 x.fNumber, .int .i64 x.fLevel, .string x.fLeast, .string x.fMost]] w fun e w' => e = .returned (.bool (goodMeta x)) ∧ Below w.heap.size w w' := by
  go_enter Try.func54, Try.ntmps54
  go_wp2_with (first | (with_reducible refine (sInR_calls _ _ _ _).mono ?_; rintro e w1 ⟨rfl, rfl⟩) | (with_reducible refine (sKey_calls _ _).mono ?_; rintro e w1 ⟨rfl, rfl⟩))
  all_goals (go_ret; exact ⟨by congr 2; simp [goodMeta, leS, *], (Below.refl _ _).alloc (Nat.le_refl _) _⟩)
set_option maxHeartbeats 4000000 in
set_option maxRecDepth 100000 in
theorem sMetas_calls (xs : List DMeta) (v : Value) (w : World) (g : kMeta.S w xs v) (hl : xs.length ≤ 140737488355328) : Calls Try.prog 36 #[v] w
    fun e w' => e = .returned (.bool (metasOk xs)) ∧ Below w.heap.size w w' := by
  obtain ⟨A, c, rfl, hc, h⟩ := g
  have H := Lib.hid h; clear h
  go_enter Try.func36, Try.ntmps36
  go_wp2
  go_loopw [7] (fun i wr => ∃ k : Nat, k ≤ xs.length ∧ i = .int .i64 k ∧ Hid (metasFrom (prevM xs k) (xs.drop k) = metasFrom none xs) ∧ Hid (Below w.heap.size w wr)) (fun i _ => xs.length - (intOf i).toNat)
  case atStart => exact ⟨0, Nat.zero_le _, rfl, rfl, Below.refl _ _⟩
  case round =>
    obtain ⟨k, hk, rfl, HE, HB⟩ := hrel
    by_cases hlt : k < xs.length
    · obtain ⟨b, o, cs, rfl, k1, q1⟩ := Rp.C_get H.out k hlt
      obtain rfl := kMeta_K k1
      have hd := HE.out
      have hp := prevM_succ hlt
      rw [List.drop_eq_getElem_cons hlt, metasFrom] at hd
      generalize he : xs[k] = y at *
      have HP := Lib.hid hp; clear hp
      have HG := Lib.hid he; clear he
      have HD := Lib.hid hd; clear hd HE
      have a0 := (World.cell?_of_block (HB.out.block b (World.block_lt_of_cell? w _ (q1 0 _ rfl)))).trans (q1 0 _ rfl)
      simp only [kMeta_sz, Nat.add_zero] at a0
      have a1 := (World.cell?_of_block (HB.out.block b (World.block_lt_of_cell? w _ (q1 1 _ rfl)))).trans (q1 1 _ rfl)
      simp only [kMeta_sz, Nat.add_zero] at a1
      have a2 := (World.cell?_of_block (HB.out.block b (World.block_lt_of_cell? w _ (q1 2 _ rfl)))).trans (q1 2 _ rfl)
      simp only [kMeta_sz, Nat.add_zero] at a2
      have a3 := (World.cell?_of_block (HB.out.block b (World.block_lt_of_cell? w _ (q1 3 _ rfl)))).trans (q1 3 _ rfl)
      simp only [kMeta_sz, Nat.add_zero] at a3
      clear q1 k1
      have i1 : (0 : Int) ≤ (k : Int) := by omega
      have i2 : (k : Int) < (xs.length : Int) := by omega
      rcases Nat.eq_zero_or_pos k with hz | hz
      · have HQ := Lib.hid (show prevM xs k = none by rw [prevM, if_pos hz])
        have i3 : ¬ (0 : Int) < (k : Int) := by omega
        have i4 : ¬ 0 < k := by omega
        clear hz
        have hpath : ((goodMeta y) = false) ∨ ((goodMeta y) = true) := by cases (goodMeta y) <;> simp
        rcases hpath with h1 | h1
        · skip
          go_upto_region 4 with fail
          have B1 : Box (wr.alloc (.cells #[.int .i64 y.fNumber, .int .i64 y.fLevel, .string y.fLeast, .string y.fMost] 52)) wr.heap.size #[.int .i64 y.fNumber, .int .i64 y.fLevel, .string y.fLeast, .string y.fMost] 52 := Box.new rfl
          have r0 := regr (Below.refl _ _) B1.lt (B1.cell 0 (v := .int .i64 y.fNumber) rfl)
          have r1 := regr (Below.refl _ _) B1.lt (B1.cell 1 (v := .int .i64 y.fLevel) rfl)
          have r2 := regr (Below.refl _ _) B1.lt (B1.cell 2 (v := .string y.fLeast) rfl)
          have r3 := regr (Below.refl _ _) B1.lt (B1.cell 3 (v := .string y.fMost) rfl)
          have HB1 := Lib.hid (HB.out.alloc HB.out.size (.cells #[.int .i64 y.fNumber, .int .i64 y.fLevel, .string y.fLeast, .string y.fMost] 52))
          clear B1 a0 a1 a2 a3
          generalize wr.alloc (.cells #[.int .i64 y.fNumber, .int .i64 y.fLevel, .string y.fLeast, .string y.fMost] 52) = w1 at *
          refine wp_region_quiet_below (by kernel_rfl) (by kernel_rfl) ?_
          have c_h1 : ∀ W : World, Calls Try.prog 54 #[.agg #[.int .i64 y.fNumber, .int .i64 y.fLevel, .string y.fLeast, .string y.fMost]] W (fun e w' => e = .returned (.bool false) ∧ Below W.heap.size W w') := fun W => (sMeta_calls y _).mono (fun e w' h => ⟨by rw [h.1, h1], h.2⟩)
          repeat (go_big_quiet_step (first | (with_reducible exact Calls.regrown_of (c_h1 _))))
          refine wpQuiet_nil ?_
          rintro w2 ⟨p, rfl⟩
          have HB2 := Lib.hid (HB1.out.trans ((below_regrown w1 p.d p.os).mono HB1.out.size))
          clear r0 r1 r2 r3
          generalize grow (redrawn w1 p.d) p.os = w2 at *
          go_wp2
          go_ret
          exact ⟨by rw [metasOk, ← HD.out, HQ.out]; simp [overI, h1], HB2.out⟩
        · skip
          go_upto_region 4 with fail
          have B1 : Box (wr.alloc (.cells #[.int .i64 y.fNumber, .int .i64 y.fLevel, .string y.fLeast, .string y.fMost] 52)) wr.heap.size #[.int .i64 y.fNumber, .int .i64 y.fLevel, .string y.fLeast, .string y.fMost] 52 := Box.new rfl
          have r0 := regr (Below.refl _ _) B1.lt (B1.cell 0 (v := .int .i64 y.fNumber) rfl)
          have r1 := regr (Below.refl _ _) B1.lt (B1.cell 1 (v := .int .i64 y.fLevel) rfl)
          have r2 := regr (Below.refl _ _) B1.lt (B1.cell 2 (v := .string y.fLeast) rfl)
          have r3 := regr (Below.refl _ _) B1.lt (B1.cell 3 (v := .string y.fMost) rfl)
          have HB1 := Lib.hid (HB.out.alloc HB.out.size (.cells #[.int .i64 y.fNumber, .int .i64 y.fLevel, .string y.fLeast, .string y.fMost] 52))
          clear B1 a0 a1 a2 a3
          generalize wr.alloc (.cells #[.int .i64 y.fNumber, .int .i64 y.fLevel, .string y.fLeast, .string y.fMost] 52) = w1 at *
          refine wp_region_quiet_below (by kernel_rfl) (by kernel_rfl) ?_
          have c_h1 : ∀ W : World, Calls Try.prog 54 #[.agg #[.int .i64 y.fNumber, .int .i64 y.fLevel, .string y.fLeast, .string y.fMost]] W (fun e w' => e = .returned (.bool true) ∧ Below W.heap.size W w') := fun W => (sMeta_calls y _).mono (fun e w' h => ⟨by rw [h.1, h1], h.2⟩)
          repeat (go_big_quiet_step (first | (with_reducible exact Calls.regrown_of (c_h1 _))))
          refine wpQuiet_nil ?_
          rintro w2 ⟨p, rfl⟩
          have HB2 := Lib.hid (HB1.out.trans ((below_regrown w1 p.d p.os).mono HB1.out.size))
          clear r0 r1 r2 r3
          generalize grow (redrawn w1 p.d) p.os = w2 at *
          go_wp2
          exact ⟨⟨k + 1, by omega, by go_num, by rw [Hid, ← HD.out, HP.out, HQ.out]; simp [overI, h1], HB2.out⟩, by simp [intOf]; omega⟩
      · have hlt2 : k - 1 < xs.length := by omega
        obtain ⟨b2, o2, cs2, e2, k2, q2⟩ := Rp.C_get H.out (k - 1) hlt2
        obtain ⟨rfl, rfl⟩ : b = b2 ∧ o = o2 := by simpa using e2
        obtain rfl := kMeta_K k2
        have HQ := Lib.hid (prevM_pos hlt2 (by omega))
        generalize xs[k - 1] = z at *
        have d0 := (World.cell?_of_block (HB.out.block b (World.block_lt_of_cell? w _ (q2 0 _ rfl)))).trans (q2 0 _ rfl)
        simp only [kMeta_sz, Nat.add_zero] at d0
        clear q2 k2
        have i3 : (0 : Int) < (k : Int) := by omega
        obtain ⟨m, rfl⟩ : ∃ m, k = m + 1 := ⟨k - 1, by omega⟩
        rw [Nat.add_sub_cancel] at d0
        have i4 : ((m + 1 : Nat) : Int) - 1 = (m : Int) := by omega
        have i5 : IntKind.i64.wrap (m : Int) = (m : Int) := by rw [IntKind.wrap_i64]; omega
        have hpath : ((goodMeta y) = false) ∨ ((goodMeta y) = true ∧ (decide (z.fNumber < y.fNumber)) = false) ∨ ((goodMeta y) = true ∧ (decide (z.fNumber < y.fNumber)) = true) := by cases (goodMeta y) <;> cases (decide (z.fNumber < y.fNumber)) <;> simp
        rcases hpath with h1 | ⟨h1, h2⟩ | ⟨h1, h2⟩
        · skip
          go_upto_region 4 with fail
          have B1 : Box (wr.alloc (.cells #[.int .i64 y.fNumber, .int .i64 y.fLevel, .string y.fLeast, .string y.fMost] 52)) wr.heap.size #[.int .i64 y.fNumber, .int .i64 y.fLevel, .string y.fLeast, .string y.fMost] 52 := Box.new rfl
          have r0 := regr (Below.refl _ _) B1.lt (B1.cell 0 (v := .int .i64 y.fNumber) rfl)
          have r1 := regr (Below.refl _ _) B1.lt (B1.cell 1 (v := .int .i64 y.fLevel) rfl)
          have r2 := regr (Below.refl _ _) B1.lt (B1.cell 2 (v := .string y.fLeast) rfl)
          have r3 := regr (Below.refl _ _) B1.lt (B1.cell 3 (v := .string y.fMost) rfl)
          have p0 := regr ((Below.refl _ wr).alloc (Nat.le_refl _) (.cells #[.int .i64 y.fNumber, .int .i64 y.fLevel, .string y.fLeast, .string y.fMost] 52)) (World.block_lt_of_cell? wr _ d0) d0
          have HB1 := Lib.hid (HB.out.alloc HB.out.size (.cells #[.int .i64 y.fNumber, .int .i64 y.fLevel, .string y.fLeast, .string y.fMost] 52))
          clear B1 a0 a1 a2 a3 d0
          generalize wr.alloc (.cells #[.int .i64 y.fNumber, .int .i64 y.fLevel, .string y.fLeast, .string y.fMost] 52) = w1 at *
          refine wp_region_quiet_below (by kernel_rfl) (by kernel_rfl) ?_
          have c_h1 : ∀ W : World, Calls Try.prog 54 #[.agg #[.int .i64 y.fNumber, .int .i64 y.fLevel, .string y.fLeast, .string y.fMost]] W (fun e w' => e = .returned (.bool false) ∧ Below W.heap.size W w') := fun W => (sMeta_calls y _).mono (fun e w' h => ⟨by rw [h.1, h1], h.2⟩)
          repeat (go_big_quiet_step (first | (with_reducible exact Calls.regrown_of (c_h1 _))))
          refine wpQuiet_nil ?_
          rintro w2 ⟨p, rfl⟩
          have HB2 := Lib.hid (HB1.out.trans ((below_regrown w1 p.d p.os).mono HB1.out.size))
          clear r0 r1 r2 r3 p0
          generalize grow (redrawn w1 p.d) p.os = w2 at *
          go_wp2
          go_ret
          exact ⟨by rw [metasOk, ← HD.out, HQ.out]; simp [overI, h1], HB2.out⟩
        · skip
          have h2p := of_decide_eq_false h2
          have h2q := Int.not_lt.1 h2p
          go_upto_region 4 with fail
          have B1 : Box (wr.alloc (.cells #[.int .i64 y.fNumber, .int .i64 y.fLevel, .string y.fLeast, .string y.fMost] 52)) wr.heap.size #[.int .i64 y.fNumber, .int .i64 y.fLevel, .string y.fLeast, .string y.fMost] 52 := Box.new rfl
          have r0 := regr (Below.refl _ _) B1.lt (B1.cell 0 (v := .int .i64 y.fNumber) rfl)
          have r1 := regr (Below.refl _ _) B1.lt (B1.cell 1 (v := .int .i64 y.fLevel) rfl)
          have r2 := regr (Below.refl _ _) B1.lt (B1.cell 2 (v := .string y.fLeast) rfl)
          have r3 := regr (Below.refl _ _) B1.lt (B1.cell 3 (v := .string y.fMost) rfl)
          have p0 := regr ((Below.refl _ wr).alloc (Nat.le_refl _) (.cells #[.int .i64 y.fNumber, .int .i64 y.fLevel, .string y.fLeast, .string y.fMost] 52)) (World.block_lt_of_cell? wr _ d0) d0
          have HB1 := Lib.hid (HB.out.alloc HB.out.size (.cells #[.int .i64 y.fNumber, .int .i64 y.fLevel, .string y.fLeast, .string y.fMost] 52))
          clear B1 a0 a1 a2 a3 d0
          generalize wr.alloc (.cells #[.int .i64 y.fNumber, .int .i64 y.fLevel, .string y.fLeast, .string y.fMost] 52) = w1 at *
          refine wp_region_quiet_below (by kernel_rfl) (by kernel_rfl) ?_
          have c_h1 : ∀ W : World, Calls Try.prog 54 #[.agg #[.int .i64 y.fNumber, .int .i64 y.fLevel, .string y.fLeast, .string y.fMost]] W (fun e w' => e = .returned (.bool true) ∧ Below W.heap.size W w') := fun W => (sMeta_calls y _).mono (fun e w' h => ⟨by rw [h.1, h1], h.2⟩)
          repeat (go_big_quiet_step (first | (with_reducible exact Calls.regrown_of (c_h1 _))))
          refine wpQuiet_nil ?_
          rintro w2 ⟨p, rfl⟩
          have HB2 := Lib.hid (HB1.out.trans ((below_regrown w1 p.d p.os).mono HB1.out.size))
          clear r0 r1 r2 r3 p0
          generalize grow (redrawn w1 p.d) p.os = w2 at *
          go_wp2
          go_ret
          exact ⟨by rw [metasOk, ← HD.out, HQ.out]; simp [overI, h1, h2], HB2.out⟩
        · skip
          have h2p := of_decide_eq_true h2
          have h2q := Int.not_le.2 h2p
          go_upto_region 4 with fail
          have B1 : Box (wr.alloc (.cells #[.int .i64 y.fNumber, .int .i64 y.fLevel, .string y.fLeast, .string y.fMost] 52)) wr.heap.size #[.int .i64 y.fNumber, .int .i64 y.fLevel, .string y.fLeast, .string y.fMost] 52 := Box.new rfl
          have r0 := regr (Below.refl _ _) B1.lt (B1.cell 0 (v := .int .i64 y.fNumber) rfl)
          have r1 := regr (Below.refl _ _) B1.lt (B1.cell 1 (v := .int .i64 y.fLevel) rfl)
          have r2 := regr (Below.refl _ _) B1.lt (B1.cell 2 (v := .string y.fLeast) rfl)
          have r3 := regr (Below.refl _ _) B1.lt (B1.cell 3 (v := .string y.fMost) rfl)
          have p0 := regr ((Below.refl _ wr).alloc (Nat.le_refl _) (.cells #[.int .i64 y.fNumber, .int .i64 y.fLevel, .string y.fLeast, .string y.fMost] 52)) (World.block_lt_of_cell? wr _ d0) d0
          have HB1 := Lib.hid (HB.out.alloc HB.out.size (.cells #[.int .i64 y.fNumber, .int .i64 y.fLevel, .string y.fLeast, .string y.fMost] 52))
          clear B1 a0 a1 a2 a3 d0
          generalize wr.alloc (.cells #[.int .i64 y.fNumber, .int .i64 y.fLevel, .string y.fLeast, .string y.fMost] 52) = w1 at *
          refine wp_region_quiet_below (by kernel_rfl) (by kernel_rfl) ?_
          have c_h1 : ∀ W : World, Calls Try.prog 54 #[.agg #[.int .i64 y.fNumber, .int .i64 y.fLevel, .string y.fLeast, .string y.fMost]] W (fun e w' => e = .returned (.bool true) ∧ Below W.heap.size W w') := fun W => (sMeta_calls y _).mono (fun e w' h => ⟨by rw [h.1, h1], h.2⟩)
          repeat (go_big_quiet_step (first | (with_reducible exact Calls.regrown_of (c_h1 _))))
          refine wpQuiet_nil ?_
          rintro w2 ⟨p, rfl⟩
          have HB2 := Lib.hid (HB1.out.trans ((below_regrown w1 p.d p.os).mono HB1.out.size))
          clear r0 r1 r2 r3 p0
          generalize grow (redrawn w1 p.d) p.os = w2 at *
          go_wp2
          exact ⟨⟨m + 1 + 1, by omega, by go_num, by rw [Hid, ← HD.out, HP.out, HQ.out]; simp [overI, h1, h2], HB2.out⟩, by simp [intOf]; omega⟩
    · obtain rfl : k = xs.length := by omega
      have hE := HE.out
      rw [List.drop_length, metasFrom] at hE
      have HE2 := Lib.hid hE; clear hE HE
      go_wp2
      go_ret
      exact ⟨by rw [metasOk, ← HE2.out]; simp; omega, HB.out⟩
end Go.Proofs.Ytiliaijgkedhnaa
