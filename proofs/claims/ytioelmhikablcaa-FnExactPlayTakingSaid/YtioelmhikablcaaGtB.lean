/- Good takings: chunkOrder. -/
import Derived.Test.YtioelmhikablcaaGtA
import Derived.Test.YtioelmhikablcaaInv
import Derived.Test.YtioelmhikablcaaMade
namespace Go.Proofs.Ytioelmhikablcaa
open Go Go.RowKit Go.Sort
set_option linter.unusedVariables false
set_option linter.unusedSimpArgs false

set_option maxHeartbeats 4000000 in
set_option maxRecDepth 100000 in
theorem iOrd_calls (x y : DChunk) (w : World) : Calls Try.prog 171 #[.agg #[.int .i64 x.fFile, .int .i64 x.fAt, .string x.fData, .int .u32 x.fSum], .agg #[.int .i64 y.fFile, .int .i64 y.fAt, .string y.fData, .int .u32 y.fSum]] w fun e w' => e = .returned (.int .i64 (ordC x y)) ∧ Below w.heap.size w w' := by
  go_enter Try.func171, Try.ntmps171
  go_upto_region 1 with fail
  have HC := Lib.hid (show Below w.heap.size w ((w.alloc (.cells #[.int .i64 x.fFile, .int .i64 x.fAt, .string x.fData, .int .u32 x.fSum] 46)).alloc (.cells #[.int .i64 y.fFile, .int .i64 y.fAt, .string y.fData, .int .u32 y.fSum] 46)) from Below.alloc (Below.alloc (Below.refl w.heap.size w) (by first | exact Nat.le_refl _ | (simp; done) | (simp; omega)) (.cells #[.int .i64 x.fFile, .int .i64 x.fAt, .string x.fData, .int .u32 x.fSum] 46)) (by first | exact Nat.le_refl _ | (simp; done) | (simp; omega)) (.cells #[.int .i64 y.fFile, .int .i64 y.fAt, .string y.fData, .int .u32 y.fSum] 46))
  have Xx := Lib.hid (show Box ((w.alloc (.cells #[.int .i64 x.fFile, .int .i64 x.fAt, .string x.fData, .int .u32 x.fSum] 46)).alloc (.cells #[.int .i64 y.fFile, .int .i64 y.fAt, .string y.fData, .int .u32 y.fSum] 46)) (w.heap.size) #[.int .i64 x.fFile, .int .i64 x.fAt, .string x.fData, .int .u32 x.fSum] 46 from Box.alloc (Box.new rfl))
  have Xy := Lib.hid (show Box ((w.alloc (.cells #[.int .i64 x.fFile, .int .i64 x.fAt, .string x.fData, .int .u32 x.fSum] 46)).alloc (.cells #[.int .i64 y.fFile, .int .i64 y.fAt, .string y.fData, .int .u32 y.fSum] 46)) (w.heap.size + 1) #[.int .i64 y.fFile, .int .i64 y.fAt, .string y.fData, .int .u32 y.fSum] 46 from Box.new (by simp))
  have hsz : w.heap.size + 2 ≤ ((w.alloc (.cells #[.int .i64 x.fFile, .int .i64 x.fAt, .string x.fData, .int .u32 x.fSum] 46)).alloc (.cells #[.int .i64 y.fFile, .int .i64 y.fAt, .string y.fData, .int .u32 y.fSum] 46)).heap.size := by simp
  generalize (w.alloc (.cells #[.int .i64 x.fFile, .int .i64 x.fAt, .string x.fData, .int .u32 x.fSum] 46)).alloc (.cells #[.int .i64 y.fFile, .int .i64 y.fAt, .string y.fData, .int .u32 y.fSum] 46) = w1 at *
  have cx_0 := Xx.out.cell 0 (v := .int .i64 x.fFile) rfl; have cx_1 := Xx.out.cell 1 (v := .int .i64 x.fAt) rfl; have cx_2 := Xx.out.cell 2 (v := .string x.fData) rfl; have cx_3 := Xx.out.cell 3 (v := .int .u32 x.fSum) rfl; have cy_0 := Xy.out.cell 0 (v := .int .i64 y.fFile) rfl; have cy_1 := Xy.out.cell 1 (v := .int .i64 y.fAt) rfl; have cy_2 := Xy.out.cell 2 (v := .string y.fData) rfl; have cy_3 := Xy.out.cell 3 (v := .int .u32 y.fSum) rfl
  refine wp_region_tab (G := Nat) (fun g => [(4, 12, .int .i64 (ordC x y)), (0, 0, .pointer (some ⟨w.heap.size, 0, none⟩)), (0, 1, .int .i64 x.fFile), (0, 2, .pointer (some ⟨w.heap.size + 1, 0, none⟩)), (0, 3, .int .i64 y.fFile), (0, 4, .int .i64 (cmpI x.fFile y.fFile)), (0, 5, .pointer (some ⟨w.heap.size, 1, none⟩)), (0, 6, .int .i64 x.fAt), (0, 7, .pointer (some ⟨w.heap.size + 1, 1, none⟩)), (0, 8, .int .i64 y.fAt), (0, 9, .int .i64 (cmpI x.fAt y.fAt)), (0, 10, .slice (some ⟨g, 0, none⟩) 2 2), (0, 11, .int .i64 (ordC x y))])
      (fun L g W => (Below w.heap.size w W) ∧
        (w.heap.size + 2 ≤ W.heap.size) ∧
        (Box W w.heap.size #[.int .i64 x.fFile, .int .i64 x.fAt, .string x.fData, .int .u32 x.fSum] 46) ∧
        (Box W (w.heap.size + 1) #[.int .i64 y.fFile, .int .i64 y.fAt, .string y.fData, .int .u32 y.fSum] 46) ∧
        (L 10 = true → Box W g #[.int .i64 (cmpI x.fFile y.fFile), .int .i64 (cmpI x.fAt y.fAt)] 3))
      (0) (by kernel_rfl) (by kernel_rfl) (fun _ => rfl) ?_ ?_ ?_
  · exact ⟨HC.out.drew, hsz, Xx.out.drew, Xy.out.drew, nofun⟩
  · simp (config := { maxSteps := 4000000 }) only [StepsT, layT, Nat.reduceAdd, Nat.reduceBEq, cond_true, cond_false]
    refine ⟨?_, ?_, ?_, ?_, ?_, ?_, ?_, ?_, ?_, ?_, ?_, ?_, ?_, trivial⟩
    · rintro L g10 W hL hd ⟨q0, q1, q2, q3, q4⟩
      try dsimp only at q0 q1 q2 q3 q4
      try simp only [depsT, Region.binds, forall_const, and_true, beq_iff_eq, reduceCtorEq, false_implies, true_and] at hd
      intro K hK; refine do_wanted rfl ?_
      have HK := Lib.hid hK; clear hK
      try simp only [hd, cond_true]
      have Q0 := Lib.hid q0; have Q1 := Lib.hid q1; have Q2 := Lib.hid q2; have Q3 := Lib.hid q3; have Q4 := Lib.hid q4
      clear q0 q1 q2 q3 q4
      go_wp2
      exact HK.out _ _ ⟨g10, by simp only [upd, Nat.reduceBEq, cond_true, cond_false, hd], ⟨Q0.out, Q1.out, Q2.out, Q3.out, Q4.out⟩⟩
    · rintro L g10 W hL hd ⟨q0, q1, q2, q3, q4⟩
      try dsimp only at q0 q1 q2 q3 q4
      try simp only [depsT, Region.binds, forall_const, and_true, beq_iff_eq, reduceCtorEq, false_implies, true_and] at hd
      intro K hK; refine do_wanted rfl ?_
      have HK := Lib.hid hK; clear hK
      try simp only [hd, cond_true]
      have cc := q2.cell 0 (v := .int .i64 x.fFile) rfl
      have Q0 := Lib.hid q0; have Q1 := Lib.hid q1; have Q2 := Lib.hid q2; have Q3 := Lib.hid q3; have Q4 := Lib.hid q4
      clear q0 q1 q2 q3 q4
      go_wp2
      exact HK.out _ _ ⟨g10, by simp only [upd, Nat.reduceBEq, cond_true, cond_false, hd], ⟨Q0.out, Q1.out, Q2.out, Q3.out, Q4.out⟩⟩
    · rintro L g10 W hL hd ⟨q0, q1, q2, q3, q4⟩
      try dsimp only at q0 q1 q2 q3 q4
      try simp only [depsT, Region.binds, forall_const, and_true, beq_iff_eq, reduceCtorEq, false_implies, true_and] at hd
      intro K hK; refine do_wanted rfl ?_
      have HK := Lib.hid hK; clear hK
      try simp only [hd, cond_true]
      have Q0 := Lib.hid q0; have Q1 := Lib.hid q1; have Q2 := Lib.hid q2; have Q3 := Lib.hid q3; have Q4 := Lib.hid q4
      clear q0 q1 q2 q3 q4
      go_wp2
      exact HK.out _ _ ⟨g10, by simp only [upd, Nat.reduceBEq, cond_true, cond_false, hd], ⟨Q0.out, Q1.out, Q2.out, Q3.out, Q4.out⟩⟩
    · rintro L g10 W hL hd ⟨q0, q1, q2, q3, q4⟩
      try dsimp only at q0 q1 q2 q3 q4
      try simp only [depsT, Region.binds, forall_const, and_true, beq_iff_eq, reduceCtorEq, false_implies, true_and] at hd
      intro K hK; refine do_wanted rfl ?_
      have HK := Lib.hid hK; clear hK
      try simp only [hd, cond_true]
      have cc := q3.cell 0 (v := .int .i64 y.fFile) rfl
      have Q0 := Lib.hid q0; have Q1 := Lib.hid q1; have Q2 := Lib.hid q2; have Q3 := Lib.hid q3; have Q4 := Lib.hid q4
      clear q0 q1 q2 q3 q4
      go_wp2
      exact HK.out _ _ ⟨g10, by simp only [upd, Nat.reduceBEq, cond_true, cond_false, hd], ⟨Q0.out, Q1.out, Q2.out, Q3.out, Q4.out⟩⟩
    · rintro L g10 W hL hd ⟨q0, q1, q2, q3, q4⟩
      try dsimp only at q0 q1 q2 q3 q4
      try simp only [depsT, Region.binds, forall_const, and_true, beq_iff_eq, reduceCtorEq, false_implies, true_and] at hd
      intro K hK; refine do_wanted rfl ?_
      have HK := Lib.hid hK; clear hK
      try simp only [hd, cond_true]
      have Q0 := Lib.hid q0; have Q1 := Lib.hid q1; have Q2 := Lib.hid q2; have Q3 := Lib.hid q3; have Q4 := Lib.hid q4
      clear q0 q1 q2 q3 q4
      go_wp2_with ((with_reducible refine (cmp_calls _ _ _).mono ?_); rintro ee we ⟨rfl, rfl⟩)
      exact HK.out _ _ ⟨g10, by simp only [upd, Nat.reduceBEq, cond_true, cond_false, hd], ⟨Q0.out, Q1.out, Q2.out, Q3.out, Q4.out⟩⟩
    · rintro L g10 W hL hd ⟨q0, q1, q2, q3, q4⟩
      try dsimp only at q0 q1 q2 q3 q4
      try simp only [depsT, Region.binds, forall_const, and_true, beq_iff_eq, reduceCtorEq, false_implies, true_and] at hd
      intro K hK; refine do_wanted rfl ?_
      have HK := Lib.hid hK; clear hK
      try simp only [hd, cond_true]
      have Q0 := Lib.hid q0; have Q1 := Lib.hid q1; have Q2 := Lib.hid q2; have Q3 := Lib.hid q3; have Q4 := Lib.hid q4
      clear q0 q1 q2 q3 q4
      go_wp2
      exact HK.out _ _ ⟨g10, by simp only [upd, Nat.reduceBEq, cond_true, cond_false, hd], ⟨Q0.out, Q1.out, Q2.out, Q3.out, Q4.out⟩⟩
    · rintro L g10 W hL hd ⟨q0, q1, q2, q3, q4⟩
      try dsimp only at q0 q1 q2 q3 q4
      try simp only [depsT, Region.binds, forall_const, and_true, beq_iff_eq, reduceCtorEq, false_implies, true_and] at hd
      intro K hK; refine do_wanted rfl ?_
      have HK := Lib.hid hK; clear hK
      try simp only [hd, cond_true]
      have cc := q2.cell 1 (v := .int .i64 x.fAt) rfl
      have Q0 := Lib.hid q0; have Q1 := Lib.hid q1; have Q2 := Lib.hid q2; have Q3 := Lib.hid q3; have Q4 := Lib.hid q4
      clear q0 q1 q2 q3 q4
      go_wp2
      exact HK.out _ _ ⟨g10, by simp only [upd, Nat.reduceBEq, cond_true, cond_false, hd], ⟨Q0.out, Q1.out, Q2.out, Q3.out, Q4.out⟩⟩
    · rintro L g10 W hL hd ⟨q0, q1, q2, q3, q4⟩
      try dsimp only at q0 q1 q2 q3 q4
      try simp only [depsT, Region.binds, forall_const, and_true, beq_iff_eq, reduceCtorEq, false_implies, true_and] at hd
      intro K hK; refine do_wanted rfl ?_
      have HK := Lib.hid hK; clear hK
      try simp only [hd, cond_true]
      have Q0 := Lib.hid q0; have Q1 := Lib.hid q1; have Q2 := Lib.hid q2; have Q3 := Lib.hid q3; have Q4 := Lib.hid q4
      clear q0 q1 q2 q3 q4
      go_wp2
      exact HK.out _ _ ⟨g10, by simp only [upd, Nat.reduceBEq, cond_true, cond_false, hd], ⟨Q0.out, Q1.out, Q2.out, Q3.out, Q4.out⟩⟩
    · rintro L g10 W hL hd ⟨q0, q1, q2, q3, q4⟩
      try dsimp only at q0 q1 q2 q3 q4
      try simp only [depsT, Region.binds, forall_const, and_true, beq_iff_eq, reduceCtorEq, false_implies, true_and] at hd
      intro K hK; refine do_wanted rfl ?_
      have HK := Lib.hid hK; clear hK
      try simp only [hd, cond_true]
      have cc := q3.cell 1 (v := .int .i64 y.fAt) rfl
      have Q0 := Lib.hid q0; have Q1 := Lib.hid q1; have Q2 := Lib.hid q2; have Q3 := Lib.hid q3; have Q4 := Lib.hid q4
      clear q0 q1 q2 q3 q4
      go_wp2
      exact HK.out _ _ ⟨g10, by simp only [upd, Nat.reduceBEq, cond_true, cond_false, hd], ⟨Q0.out, Q1.out, Q2.out, Q3.out, Q4.out⟩⟩
    · rintro L g10 W hL hd ⟨q0, q1, q2, q3, q4⟩
      try dsimp only at q0 q1 q2 q3 q4
      try simp only [depsT, Region.binds, forall_const, and_true, beq_iff_eq, reduceCtorEq, false_implies, true_and] at hd
      intro K hK; refine do_wanted rfl ?_
      have HK := Lib.hid hK; clear hK
      try simp only [hd, cond_true]
      have Q0 := Lib.hid q0; have Q1 := Lib.hid q1; have Q2 := Lib.hid q2; have Q3 := Lib.hid q3; have Q4 := Lib.hid q4
      clear q0 q1 q2 q3 q4
      go_wp2_with ((with_reducible refine (cmp_calls _ _ _).mono ?_); rintro ee we ⟨rfl, rfl⟩)
      exact HK.out _ _ ⟨g10, by simp only [upd, Nat.reduceBEq, cond_true, cond_false, hd], ⟨Q0.out, Q1.out, Q2.out, Q3.out, Q4.out⟩⟩
    · rintro L g10 W hL hd ⟨q0, q1, q2, q3, q4⟩
      try dsimp only at q0 q1 q2 q3 q4
      try simp only [depsT, Region.binds, forall_const, and_true, beq_iff_eq, reduceCtorEq, false_implies, true_and] at hd
      intro K hK; refine do_wanted rfl ?_
      have HK := Lib.hid hK; clear hK
      try simp only [hd, cond_true]
      have Q0 := Lib.hid q0; have Q1 := Lib.hid q1; have Q2 := Lib.hid q2; have Q3 := Lib.hid q3; have Q4 := Lib.hid q4
      clear q0 q1 q2 q3 q4
      go_wp2
      have HB := Lib.hid ((Below.refl W.heap.size W).alloc (Nat.le_refl _) (.cells #[.int .i64 (cmpI x.fFile y.fFile), .int .i64 (cmpI x.fAt y.fAt)] 3))
      exact HK.out _ _ ⟨W.heap.size, by simp only [upd, Nat.reduceBEq, cond_true, cond_false, hd], ⟨Q0.out.trans (HB.out.mono (by have := Q1.out; omega)), Nat.le_trans Q1.out HB.out.size, Q2.out.below HB.out, Q3.out.below HB.out, fun _ => Box.new rfl⟩⟩
    · rintro L g10 W hL hd ⟨q0, q1, q2, q3, q4⟩
      try dsimp only at q0 q1 q2 q3 q4
      try simp only [depsT, Region.binds, forall_const, and_true, beq_iff_eq, reduceCtorEq, false_implies, true_and] at hd
      intro K hK; refine do_wanted rfl ?_
      have HK := Lib.hid hK; clear hK
      try simp only [hd, cond_true]
      have Q0 := Lib.hid q0; have Q1 := Lib.hid q1; have Q2 := Lib.hid q2; have Q3 := Lib.hid q3; have Q4 := Lib.hid q4
      clear q0 q1 q2 q3 q4
      go_wp2_with ((with_reducible refine (or_calls (cmpI x.fFile y.fFile) (cmpI x.fAt y.fAt) _ _ ((Q4.out (by simp only [hd])).cell 0 rfl) ((Q4.out (by simp only [hd])).cell 1 rfl)).mono ?_); rintro ee we ⟨rfl, rfl⟩)
      exact HK.out _ _ ⟨g10, by (simp only [upd, Nat.reduceBEq, cond_true, cond_false, hd]; rfl), ⟨Q0.out, Q1.out, Q2.out, Q3.out, Q4.out⟩⟩
    · rintro L g10 W hL hd ⟨q0, q1, q2, q3, q4⟩
      try dsimp only at q0 q1 q2 q3 q4
      try simp only [depsT, Region.binds, forall_const, and_true, beq_iff_eq, reduceCtorEq, false_implies, true_and] at hd
      intro K hK; refine do_wanted rfl ?_
      have HK := Lib.hid hK; clear hK
      try simp only [hd, cond_true]
      have Q0 := Lib.hid q0; have Q1 := Lib.hid q1; have Q2 := Lib.hid q2; have Q3 := Lib.hid q3; have Q4 := Lib.hid q4
      clear q0 q1 q2 q3 q4
      go_wp2
      exact HK.out _ _ ⟨g10, by simp only [upd, Nat.reduceBEq, cond_true, cond_false, hd], ⟨Q0.out, Q1.out, Q2.out, Q3.out, Q4.out⟩⟩
  · simp (config := { maxSteps := 4000000 }) only [layT, Nat.reduceAdd, Nat.reduceBEq, cond_true, cond_false]
    rintro L g10 W hd ⟨q0, q1, q2, q3, q4⟩
    simp only [doneT, true_and, List.length_cons, List.length_nil, Nat.reduceAdd] at hd
    obtain ⟨⟨⟨⟨⟨⟨⟨⟨⟨⟨⟨⟨e0, e1⟩, e2⟩, e3⟩, e4⟩, e5⟩, e6⟩, e7⟩, e8⟩, e9⟩, e10⟩, e11⟩, e12⟩ := hd
    try dsimp only at q0 q1 q2 q3 q4
    simp only [e0, e1, e2, e3, e4, e5, e6, e7, e8, e9, e10, e11, e12, cond_true]
    have HQ := Lib.hid q0
    clear q0 q1 q2 q3 q4 HC hsz Xx Xy cx_0 cx_1 cx_2 cx_3 cy_0 cy_1 cy_2 cy_3
    go_wp2
    go_ret
    exact ⟨rfl, HQ.out⟩
end Go.Proofs.Ytioelmhikablcaa
