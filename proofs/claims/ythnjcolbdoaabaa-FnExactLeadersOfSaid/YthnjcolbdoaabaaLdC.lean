/- Leaders: how two compare. -/
import Derived.Test.YthnjcolbdoaabaaLdP
import Derived.Test.YthnjcolbdoaabaaSoA
import Derived.Test.YthnjcolbdoaabaaInv
namespace Go.Proofs.Ythnjcolbdoaabaa
open Go Go.RowKit Go.Sort
set_option linter.unusedVariables false
set_option linter.unusedSimpArgs false

def orI (a b : Int) : Int := if a = 0 then b else a
def ordL (x y : DLead) : Int := orI (cmpI x.fTerm y.fTerm) (cmpI x.fNode y.fNode)
set_option maxHeartbeats 1000000 in
theorem or_calls (a b : Int) (g : Nat) (w : World) (c0 : w.cell? ⟨g, 0, none⟩ = some (.int .i64 a)) (c1 : w.cell? ⟨g, 1, none⟩ = some (.int .i64 b)) : Calls Try.prog 93 #[.slice (some ⟨g, 0, none⟩) 2 2] w fun e w' => e = .returned (.int .i64 (orI a b)) ∧ w' = w := by
  go_enter Try.func93, Try.ntmps93
  go_wp2
  go_loopw [8] (fun i wr => ∃ k : Nat, k ≤ 2 ∧ i = .int .i64 k ∧ Hid (0 < k → a = 0) ∧ Hid (1 < k → b = 0) ∧ Hid (wr = w)) (fun i _ => 2 - (intOf i).toNat)
  case atStart => exact ⟨0, by omega, rfl, by simp [Hid], by simp [Hid], rfl⟩
  case round =>
    obtain ⟨k, hk, rfl, h0, h1, HW⟩ := hrel
    obtain rfl := HW.out
    obtain rfl | rfl | rfl : k = 0 ∨ k = 1 ∨ k = 2 := by omega
    · by_cases ha : a = 0
      · subst ha
        go_wp2
        exact ⟨⟨1, by omega, rfl, fun _ => trivial, by simp [Hid], trivial⟩, by simp [intOf]⟩
      · go_wp2
        go_ret
        exact ⟨by simp [orI, ha], rfl⟩
    · have ha := h0.out (by omega)
      by_cases hb : b = 0
      · subst hb
        go_wp2
        exact ⟨⟨2, by omega, rfl, fun _ => ha, fun _ => trivial, trivial⟩, by simp [intOf]⟩
      · go_wp2
        go_ret
        exact ⟨by simp [orI, ha], rfl⟩
    · have ha := h0.out (by omega)
      have hb := h1.out (by omega)
      go_wp2
      go_ret
      exact ⟨by simp [orI, ha, hb], rfl⟩
set_option maxHeartbeats 4000000 in
set_option maxRecDepth 100000 in
theorem cloLd_calls (x y : DLead) (w : World) : Calls Try.prog 92 #[.agg #[.int .i64 x.fTerm, .int .i64 x.fNode], .agg #[.int .i64 y.fTerm, .int .i64 y.fNode]] w fun e w' => e = .returned (.int .i64 (ordL x y)) ∧ ∃ q os', w' = grow (w.drewN q) os' := by
  go_enter Try.func92, Try.ntmps92
  go_upto_region 1 with fail
  have HC := Lib.hid (show ∃ q os, ((w.alloc (.cells #[.int .i64 x.fTerm, .int .i64 x.fNode] 109)).alloc (.cells #[.int .i64 y.fTerm, .int .i64 y.fNode] 109)).drew = grow (w.drewN q) os from ⟨1, _, by rw [alloc_eq_grow, alloc_eq_grow, grow_grow]; rfl⟩)
  have Xx := Lib.hid (show Box ((w.alloc (.cells #[.int .i64 x.fTerm, .int .i64 x.fNode] 109)).alloc (.cells #[.int .i64 y.fTerm, .int .i64 y.fNode] 109)) (w.heap.size) #[.int .i64 x.fTerm, .int .i64 x.fNode] 109 from Box.alloc (Box.new rfl))
  have Xy := Lib.hid (show Box ((w.alloc (.cells #[.int .i64 x.fTerm, .int .i64 x.fNode] 109)).alloc (.cells #[.int .i64 y.fTerm, .int .i64 y.fNode] 109)) (w.heap.size + 1) #[.int .i64 y.fTerm, .int .i64 y.fNode] 109 from Box.new (by simp))
  have hsz : w.heap.size + 2 ≤ ((w.alloc (.cells #[.int .i64 x.fTerm, .int .i64 x.fNode] 109)).alloc (.cells #[.int .i64 y.fTerm, .int .i64 y.fNode] 109)).heap.size := by simp
  generalize (w.alloc (.cells #[.int .i64 x.fTerm, .int .i64 x.fNode] 109)).alloc (.cells #[.int .i64 y.fTerm, .int .i64 y.fNode] 109) = w1 at *
  have cx_0 := Xx.out.cell 0 (v := .int .i64 x.fTerm) rfl; have cx_1 := Xx.out.cell 1 (v := .int .i64 x.fNode) rfl; have cy_0 := Xy.out.cell 0 (v := .int .i64 y.fTerm) rfl; have cy_1 := Xy.out.cell 1 (v := .int .i64 y.fNode) rfl
  refine wp_region_tab (G := Nat) (fun g => [(4, 12, .int .i64 (ordL x y)), (0, 0, .pointer (some ⟨w.heap.size, 0, none⟩)), (0, 1, .int .i64 x.fTerm), (0, 2, .pointer (some ⟨w.heap.size + 1, 0, none⟩)), (0, 3, .int .i64 y.fTerm), (0, 4, .int .i64 (cmpI x.fTerm y.fTerm)), (0, 5, .pointer (some ⟨w.heap.size, 1, none⟩)), (0, 6, .int .i64 x.fNode), (0, 7, .pointer (some ⟨w.heap.size + 1, 1, none⟩)), (0, 8, .int .i64 y.fNode), (0, 9, .int .i64 (cmpI x.fNode y.fNode)), (0, 10, .slice (some ⟨g, 0, none⟩) 2 2), (0, 11, .int .i64 (ordL x y))])
      (fun L g W => (∃ q os, W = grow (w.drewN q) os) ∧
        (w.heap.size + 2 ≤ W.heap.size) ∧
        (Box W w.heap.size #[.int .i64 x.fTerm, .int .i64 x.fNode] 109) ∧
        (Box W (w.heap.size + 1) #[.int .i64 y.fTerm, .int .i64 y.fNode] 109) ∧
        (L 10 = true → Box W g #[.int .i64 (cmpI x.fTerm y.fTerm), .int .i64 (cmpI x.fNode y.fNode)] 3))
      (0) (by kernel_rfl) (by kernel_rfl) (fun _ => rfl) ?_ ?_ ?_
  · exact ⟨HC.out, hsz, Xx.out.drew, Xy.out.drew, nofun⟩
  · simp (config := { maxSteps := 4000000 }) only [StepsT, layT, Nat.reduceAdd, Nat.reduceBEq, cond_true, cond_false]
    refine ⟨?_, ?_, ?_, ?_, ?_, ?_, ?_, ?_, ?_, ?_, ?_, ?_, ?_, trivial⟩
    · rintro L g10 W hL hd ⟨q0, q1, q2, q3, q4⟩
      try dsimp only at q0 q1 q2 q3 q4
      try simp only [depsT, Region.binds, forall_const, and_true, beq_iff_eq, reduceCtorEq, false_implies, true_and] at hd
      intro K hK; refine do_wanted rfl ?_
      have HK := Lib.hid hK; clear hK
      try simp only [hd, cond_true]
      have Q0 := Lib.hid q0; have Q1 := Lib.hid q1; have Q2 := Lib.hid q2; have Q3 := Lib.hid q3; have Q4 := Lib.hid q4
      clear q0 q1 q2 q3 q4
      go_wp2
      exact HK.out _ _ ⟨g10, by simp only [upd, Nat.reduceBEq, cond_true, cond_false, hd], ⟨Q0.out, Q1.out, Q2.out, Q3.out, Q4.out⟩⟩
    · rintro L g10 W hL hd ⟨q0, q1, q2, q3, q4⟩
      try dsimp only at q0 q1 q2 q3 q4
      try simp only [depsT, Region.binds, forall_const, and_true, beq_iff_eq, reduceCtorEq, false_implies, true_and] at hd
      intro K hK; refine do_wanted rfl ?_
      have HK := Lib.hid hK; clear hK
      try simp only [hd, cond_true]
      have cc := q2.cell 0 (v := .int .i64 x.fTerm) rfl
      have Q0 := Lib.hid q0; have Q1 := Lib.hid q1; have Q2 := Lib.hid q2; have Q3 := Lib.hid q3; have Q4 := Lib.hid q4
      clear q0 q1 q2 q3 q4
      go_wp2
      exact HK.out _ _ ⟨g10, by simp only [upd, Nat.reduceBEq, cond_true, cond_false, hd], ⟨Q0.out, Q1.out, Q2.out, Q3.out, Q4.out⟩⟩
    · rintro L g10 W hL hd ⟨q0, q1, q2, q3, q4⟩
      try dsimp only at q0 q1 q2 q3 q4
      try simp only [depsT, Region.binds, forall_const, and_true, beq_iff_eq, reduceCtorEq, false_implies, true_and] at hd
      intro K hK; refine do_wanted rfl ?_
      have HK := Lib.hid hK; clear hK
      try simp only [hd, cond_true]
      have Q0 := Lib.hid q0; have Q1 := Lib.hid q1; have Q2 := Lib.hid q2; have Q3 := Lib.hid q3; have Q4 := Lib.hid q4
      clear q0 q1 q2 q3 q4
      go_wp2
      exact HK.out _ _ ⟨g10, by simp only [upd, Nat.reduceBEq, cond_true, cond_false, hd], ⟨Q0.out, Q1.out, Q2.out, Q3.out, Q4.out⟩⟩
    · rintro L g10 W hL hd ⟨q0, q1, q2, q3, q4⟩
      try dsimp only at q0 q1 q2 q3 q4
      try simp only [depsT, Region.binds, forall_const, and_true, beq_iff_eq, reduceCtorEq, false_implies, true_and] at hd
      intro K hK; refine do_wanted rfl ?_
      have HK := Lib.hid hK; clear hK
      try simp only [hd, cond_true]
      have cc := q3.cell 0 (v := .int .i64 y.fTerm) rfl
      have Q0 := Lib.hid q0; have Q1 := Lib.hid q1; have Q2 := Lib.hid q2; have Q3 := Lib.hid q3; have Q4 := Lib.hid q4
      clear q0 q1 q2 q3 q4
      go_wp2
      exact HK.out _ _ ⟨g10, by simp only [upd, Nat.reduceBEq, cond_true, cond_false, hd], ⟨Q0.out, Q1.out, Q2.out, Q3.out, Q4.out⟩⟩
    · rintro L g10 W hL hd ⟨q0, q1, q2, q3, q4⟩
      try dsimp only at q0 q1 q2 q3 q4
      try simp only [depsT, Region.binds, forall_const, and_true, beq_iff_eq, reduceCtorEq, false_implies, true_and] at hd
      intro K hK; refine do_wanted rfl ?_
      have HK := Lib.hid hK; clear hK
      try simp only [hd, cond_true]
      have Q0 := Lib.hid q0; have Q1 := Lib.hid q1; have Q2 := Lib.hid q2; have Q3 := Lib.hid q3; have Q4 := Lib.hid q4
      clear q0 q1 q2 q3 q4
      go_wp2_with ((with_reducible refine (cmpI_calls _ _ _).mono ?_); rintro ee we ⟨rfl, rfl⟩)
      exact HK.out _ _ ⟨g10, by simp only [upd, Nat.reduceBEq, cond_true, cond_false, hd], ⟨Q0.out, Q1.out, Q2.out, Q3.out, Q4.out⟩⟩
    · rintro L g10 W hL hd ⟨q0, q1, q2, q3, q4⟩
      try dsimp only at q0 q1 q2 q3 q4
      try simp only [depsT, Region.binds, forall_const, and_true, beq_iff_eq, reduceCtorEq, false_implies, true_and] at hd
      intro K hK; refine do_wanted rfl ?_
      have HK := Lib.hid hK; clear hK
      try simp only [hd, cond_true]
      have Q0 := Lib.hid q0; have Q1 := Lib.hid q1; have Q2 := Lib.hid q2; have Q3 := Lib.hid q3; have Q4 := Lib.hid q4
      clear q0 q1 q2 q3 q4
      go_wp2
      exact HK.out _ _ ⟨g10, by simp only [upd, Nat.reduceBEq, cond_true, cond_false, hd], ⟨Q0.out, Q1.out, Q2.out, Q3.out, Q4.out⟩⟩
    · rintro L g10 W hL hd ⟨q0, q1, q2, q3, q4⟩
      try dsimp only at q0 q1 q2 q3 q4
      try simp only [depsT, Region.binds, forall_const, and_true, beq_iff_eq, reduceCtorEq, false_implies, true_and] at hd
      intro K hK; refine do_wanted rfl ?_
      have HK := Lib.hid hK; clear hK
      try simp only [hd, cond_true]
      have cc := q2.cell 1 (v := .int .i64 x.fNode) rfl
      have Q0 := Lib.hid q0; have Q1 := Lib.hid q1; have Q2 := Lib.hid q2; have Q3 := Lib.hid q3; have Q4 := Lib.hid q4
      clear q0 q1 q2 q3 q4
      go_wp2
      exact HK.out _ _ ⟨g10, by simp only [upd, Nat.reduceBEq, cond_true, cond_false, hd], ⟨Q0.out, Q1.out, Q2.out, Q3.out, Q4.out⟩⟩
    · rintro L g10 W hL hd ⟨q0, q1, q2, q3, q4⟩
      try dsimp only at q0 q1 q2 q3 q4
      try simp only [depsT, Region.binds, forall_const, and_true, beq_iff_eq, reduceCtorEq, false_implies, true_and] at hd
      intro K hK; refine do_wanted rfl ?_
      have HK := Lib.hid hK; clear hK
      try simp only [hd, cond_true]
      have Q0 := Lib.hid q0; have Q1 := Lib.hid q1; have Q2 := Lib.hid q2; have Q3 := Lib.hid q3; have Q4 := Lib.hid q4
      clear q0 q1 q2 q3 q4
      go_wp2
      exact HK.out _ _ ⟨g10, by simp only [upd, Nat.reduceBEq, cond_true, cond_false, hd], ⟨Q0.out, Q1.out, Q2.out, Q3.out, Q4.out⟩⟩
    · rintro L g10 W hL hd ⟨q0, q1, q2, q3, q4⟩
      try dsimp only at q0 q1 q2 q3 q4
      try simp only [depsT, Region.binds, forall_const, and_true, beq_iff_eq, reduceCtorEq, false_implies, true_and] at hd
      intro K hK; refine do_wanted rfl ?_
      have HK := Lib.hid hK; clear hK
      try simp only [hd, cond_true]
      have cc := q3.cell 1 (v := .int .i64 y.fNode) rfl
      have Q0 := Lib.hid q0; have Q1 := Lib.hid q1; have Q2 := Lib.hid q2; have Q3 := Lib.hid q3; have Q4 := Lib.hid q4
      clear q0 q1 q2 q3 q4
      go_wp2
      exact HK.out _ _ ⟨g10, by simp only [upd, Nat.reduceBEq, cond_true, cond_false, hd], ⟨Q0.out, Q1.out, Q2.out, Q3.out, Q4.out⟩⟩
    · rintro L g10 W hL hd ⟨q0, q1, q2, q3, q4⟩
      try dsimp only at q0 q1 q2 q3 q4
      try simp only [depsT, Region.binds, forall_const, and_true, beq_iff_eq, reduceCtorEq, false_implies, true_and] at hd
      intro K hK; refine do_wanted rfl ?_
      have HK := Lib.hid hK; clear hK
      try simp only [hd, cond_true]
      have Q0 := Lib.hid q0; have Q1 := Lib.hid q1; have Q2 := Lib.hid q2; have Q3 := Lib.hid q3; have Q4 := Lib.hid q4
      clear q0 q1 q2 q3 q4
      go_wp2_with ((with_reducible refine (cmpI_calls _ _ _).mono ?_); rintro ee we ⟨rfl, rfl⟩)
      exact HK.out _ _ ⟨g10, by simp only [upd, Nat.reduceBEq, cond_true, cond_false, hd], ⟨Q0.out, Q1.out, Q2.out, Q3.out, Q4.out⟩⟩
    · rintro L g10 W hL hd ⟨q0, q1, q2, q3, q4⟩
      try dsimp only at q0 q1 q2 q3 q4
      try simp only [depsT, Region.binds, forall_const, and_true, beq_iff_eq, reduceCtorEq, false_implies, true_and] at hd
      intro K hK; refine do_wanted rfl ?_
      have HK := Lib.hid hK; clear hK
      try simp only [hd, cond_true]
      have Q0 := Lib.hid q0; have Q1 := Lib.hid q1; have Q2 := Lib.hid q2; have Q3 := Lib.hid q3; have Q4 := Lib.hid q4
      clear q0 q1 q2 q3 q4
      go_wp2
      have HB := Lib.hid ((Below.refl W.heap.size W).alloc (Nat.le_refl _) (.cells #[.int .i64 (cmpI x.fTerm y.fTerm), .int .i64 (cmpI x.fNode y.fNode)] 3))
      exact HK.out _ _ ⟨W.heap.size, by simp only [upd, Nat.reduceBEq, cond_true, cond_false, hd], ⟨(Q0.out).elim fun q h => h.elim fun os e => ⟨q, os ++ #[.cells #[.int .i64 (cmpI x.fTerm y.fTerm), .int .i64 (cmpI x.fNode y.fNode)] 3], by rw [e, alloc_eq_grow, grow_grow]⟩, Nat.le_trans Q1.out HB.out.size, Q2.out.below HB.out, Q3.out.below HB.out, fun _ => Box.new rfl⟩⟩
    · rintro L g10 W hL hd ⟨q0, q1, q2, q3, q4⟩
      try dsimp only at q0 q1 q2 q3 q4
      try simp only [depsT, Region.binds, forall_const, and_true, beq_iff_eq, reduceCtorEq, false_implies, true_and] at hd
      intro K hK; refine do_wanted rfl ?_
      have HK := Lib.hid hK; clear hK
      try simp only [hd, cond_true]
      have Q0 := Lib.hid q0; have Q1 := Lib.hid q1; have Q2 := Lib.hid q2; have Q3 := Lib.hid q3; have Q4 := Lib.hid q4
      clear q0 q1 q2 q3 q4
      go_wp2_with ((with_reducible refine (or_calls (cmpI x.fTerm y.fTerm) (cmpI x.fNode y.fNode) _ _ ((Q4.out (by simp only [hd])).cell 0 rfl) ((Q4.out (by simp only [hd])).cell 1 rfl)).mono ?_); rintro ee we ⟨rfl, rfl⟩)
      exact HK.out _ _ ⟨g10, by (simp only [upd, Nat.reduceBEq, cond_true, cond_false, hd]; rfl), ⟨Q0.out, Q1.out, Q2.out, Q3.out, Q4.out⟩⟩
    · rintro L g10 W hL hd ⟨q0, q1, q2, q3, q4⟩
      try dsimp only at q0 q1 q2 q3 q4
      try simp only [depsT, Region.binds, forall_const, and_true, beq_iff_eq, reduceCtorEq, false_implies, true_and] at hd
      intro K hK; refine do_wanted rfl ?_
      have HK := Lib.hid hK; clear hK
      try simp only [hd, cond_true]
      have Q0 := Lib.hid q0; have Q1 := Lib.hid q1; have Q2 := Lib.hid q2; have Q3 := Lib.hid q3; have Q4 := Lib.hid q4
      clear q0 q1 q2 q3 q4
      go_wp2
      exact HK.out _ _ ⟨g10, by simp only [upd, Nat.reduceBEq, cond_true, cond_false, hd], ⟨Q0.out, Q1.out, Q2.out, Q3.out, Q4.out⟩⟩
  · simp (config := { maxSteps := 4000000 }) only [layT, Nat.reduceAdd, Nat.reduceBEq, cond_true, cond_false]
    rintro L g10 W hd ⟨q0, q1, q2, q3, q4⟩
    simp only [doneT, true_and, List.length_cons, List.length_nil, Nat.reduceAdd] at hd
    obtain ⟨⟨⟨⟨⟨⟨⟨⟨⟨⟨⟨⟨e0, e1⟩, e2⟩, e3⟩, e4⟩, e5⟩, e6⟩, e7⟩, e8⟩, e9⟩, e10⟩, e11⟩, e12⟩ := hd
    try dsimp only at q0 q1 q2 q3 q4
    simp only [e0, e1, e2, e3, e4, e5, e6, e7, e8, e9, e10, e11, e12, cond_true]
    have HQ := Lib.hid q0
    clear q0 q1 q2 q3 q4 HC hsz Xx Xy cx_0 cx_1 cy_0 cy_1
    go_wp2
    go_ret
    exact ⟨rfl, HQ.out⟩
end Go.Proofs.Ythnjcolbdoaabaa
