/- A piece is taken into a taking: the program's. -/
import Derived.Test.YtioelmhikablcaaTkC
namespace Go.Proofs.Ytioelmhikablcaa
open Go Go.RowKit Go.Sort
set_option linter.unusedVariables false
set_option linter.unusedSimpArgs false

def CloneP (ws : List DWanted) (xs : List DChunk) (w : World) (e : Ending) (w' : World) : Prop :=
  ∃ P0 C0 P1 C1 F0 F1, e = .returned (.agg #[.slice P0 ws.length C0, .slice P1 xs.length C1]) ∧ kWanted.Row 136 w' F0 ws (.slice P0 ws.length C0) ∧ kChunk.Row 46 w' F1 xs (.slice P1 xs.length C1) ∧
    (∀ b ∈ F0, w.heap.size ≤ b) ∧ (∀ b ∈ F1, w.heap.size ≤ b) ∧ F0.Nodup ∧ F1.Nodup ∧ (∀ b ∈ F1, b ∉ F0) ∧ Below w.heap.size w w'
set_option maxHeartbeats 4000000 in
set_option maxRecDepth 100000 in
theorem iCloneT_calls (ws : List DWanted) (xs : List DChunk) (v0 v1 : Value) (w : World) (g0 : kWanted.S w ws v0) (g1 : kChunk.S w xs v1) (hl : ws.length ≤ 1048576 ∧ xs.length ≤ 1048576) : Calls Try.prog 93 #[.agg #[v0, v1]] w
    fun e w' => CloneP ws xs w e w' := by
  have G0 := Lib.hid g0
  have G1 := Lib.hid g1
  obtain ⟨A0, c0, rfl, _, _⟩ := g0
  obtain ⟨A2, c2, rfl, _, _⟩ := g1
  go_enter Try.func93, Try.ntmps93
  go_upto_region 1 with fail
  have HC := Lib.hid (show Below w.heap.size w ((w.alloc (.cells #[.slice A0 ws.length c0, .slice A2 xs.length c2] 33)).alloc (.cells #[.slice none 0 0, .slice none 0 0] 33)) from Below.alloc (Below.alloc (Below.refl w.heap.size w) (by first | exact Nat.le_refl _ | (simp; done) | (simp; omega)) (.cells #[.slice A0 ws.length c0, .slice A2 xs.length c2] 33)) (by first | exact Nat.le_refl _ | (simp; done) | (simp; omega)) (.cells #[.slice none 0 0, .slice none 0 0] 33))
  have Xt := Lib.hid (show Box ((w.alloc (.cells #[.slice A0 ws.length c0, .slice A2 xs.length c2] 33)).alloc (.cells #[.slice none 0 0, .slice none 0 0] 33)) (w.heap.size) #[.slice A0 ws.length c0, .slice A2 xs.length c2] 33 from Box.alloc (Box.new rfl))
  have Xr := Lib.hid (show Box ((w.alloc (.cells #[.slice A0 ws.length c0, .slice A2 xs.length c2] 33)).alloc (.cells #[.slice none 0 0, .slice none 0 0] 33)) (w.heap.size + 1) #[.slice none 0 0, .slice none 0 0] 33 from Box.new (by simp))
  have hsz : w.heap.size + 2 ≤ ((w.alloc (.cells #[.slice A0 ws.length c0, .slice A2 xs.length c2] 33)).alloc (.cells #[.slice none 0 0, .slice none 0 0] 33)).heap.size := by simp
  generalize (w.alloc (.cells #[.slice A0 ws.length c0, .slice A2 xs.length c2] 33)).alloc (.cells #[.slice none 0 0, .slice none 0 0] 33) = w1 at *
  have ct_0 := Xt.out.cell 0 (v := .slice A0 ws.length c0) rfl; have ct_1 := Xt.out.cell 1 (v := .slice A2 xs.length c2) rfl; have cr_0 := Xr.out.cell 0 (v := .slice none 0 0) rfl; have cr_1 := Xr.out.cell 1 (v := .slice none 0 0) rfl
  refine wp_region_tab (G := Value × List Nat × Value × List Nat) (fun g => [(3, 0, .pointer (some ⟨w.heap.size, 0, none⟩)), (0, 1, .slice A0 ws.length c0), (0, 2, g.1), (0, 3, .pointer (some ⟨w.heap.size, 1, none⟩)), (0, 4, .slice A2 xs.length c2), (0, 5, g.2.2.1), (0, 6, .agg #[g.1, g.2.2.1])])
      (fun L g W => (Below w.heap.size w W) ∧
        (w.heap.size + 2 ≤ W.heap.size) ∧
        (Box W w.heap.size #[.slice A0 ws.length c0, .slice A2 xs.length c2] 33) ∧
        (L 7 = false → Box W (w.heap.size + 1) #[.slice none 0 0, .slice none 0 0] 33) ∧
        (L 7 = true → Box W (w.heap.size + 1) #[g.1, g.2.2.1] 33) ∧
        (L 2 = true → kWanted.Row 136 W g.2.1 ws g.1 ∧ (∀ b ∈ g.2.1, w.heap.size + 2 ≤ b) ∧ g.2.1.Nodup) ∧
        (L 5 = true → kChunk.Row 46 W g.2.2.2 xs g.2.2.1 ∧ (∀ b ∈ g.2.2.2, w.heap.size + 2 ≤ b) ∧ g.2.2.2.Nodup) ∧
        (L 2 = true → L 5 = true → ∀ b ∈ g.2.2.2, b ∉ g.2.1) ∧
        ((L 7 = true → L 6 = true)) ∧
        ((L 6 = true → L 2 = true ∧ L 5 = true)))
      (undef, [], undef, []) (by kernel_rfl) (by kernel_rfl) (fun _ => rfl) ?_ ?_ ?_
  · exact ⟨HC.out.drew, hsz, Xt.out.drew, fun _ => Xr.out.drew, nofun, nofun, nofun, nofun, nofun, nofun⟩
  · simp (config := { maxSteps := 4000000 }) only [StepsT, layT, Nat.reduceAdd, Nat.reduceBEq, cond_true, cond_false]
    refine ⟨?_, ?_, ?_, ?_, ?_, ?_, ?_, ?_, trivial⟩
    · rintro L ⟨v2, F2, v5, F5⟩ W hL hd ⟨q0, q1, q2, q3, q4, q5, q6, q7, q8, q9⟩
      try dsimp only at q0 q1 q2 q3 q4 q5 q6 q7 q8 q9
      try simp only [depsT, Region.binds, forall_const, and_true, beq_iff_eq, reduceCtorEq, false_implies, true_and] at hd
      intro K hK; refine do_wanted rfl ?_
      have HK := Lib.hid hK; clear hK
      try simp only [hd, cond_true]
      have Q0 := Lib.hid q0; have Q1 := Lib.hid q1; have Q2 := Lib.hid q2; have Q3 := Lib.hid q3; have Q4 := Lib.hid q4; have Q5 := Lib.hid q5; have Q6 := Lib.hid q6; have Q7 := Lib.hid q7; have Q8 := Lib.hid q8; have Q9 := Lib.hid q9
      clear q0 q1 q2 q3 q4 q5 q6 q7 q8 q9
      go_wp2
      exact HK.out _ _ ⟨⟨v2, F2, v5, F5⟩, by simp only [upd, Nat.reduceBEq, cond_true, cond_false, hd], ⟨Q0.out, Q1.out, Q2.out, Q3.out, Q4.out, Q5.out, Q6.out, Q7.out, Q8.out, Q9.out⟩⟩
    · rintro L ⟨v2, F2, v5, F5⟩ W hL hd ⟨q0, q1, q2, q3, q4, q5, q6, q7, q8, q9⟩
      try dsimp only at q0 q1 q2 q3 q4 q5 q6 q7 q8 q9
      try simp only [depsT, Region.binds, forall_const, and_true, beq_iff_eq, reduceCtorEq, false_implies, true_and] at hd
      intro K hK; refine do_wanted rfl ?_
      have HK := Lib.hid hK; clear hK
      try simp only [hd, cond_true]
      have cc := q2.cell 0 (v := .slice A0 ws.length c0) rfl
      have Q0 := Lib.hid q0; have Q1 := Lib.hid q1; have Q2 := Lib.hid q2; have Q3 := Lib.hid q3; have Q4 := Lib.hid q4; have Q5 := Lib.hid q5; have Q6 := Lib.hid q6; have Q7 := Lib.hid q7; have Q8 := Lib.hid q8; have Q9 := Lib.hid q9
      clear q0 q1 q2 q3 q4 q5 q6 q7 q8 q9
      go_wp2
      exact HK.out _ _ ⟨⟨v2, F2, v5, F5⟩, by simp only [upd, Nat.reduceBEq, cond_true, cond_false, hd], ⟨Q0.out, Q1.out, Q2.out, Q3.out, Q4.out, Q5.out, Q6.out, Q7.out, Q8.out, Q9.out⟩⟩
    · rintro L ⟨v2, F2, v5, F5⟩ W hL hd ⟨q0, q1, q2, q3, q4, q5, q6, q7, q8, q9⟩
      try dsimp only at q0 q1 q2 q3 q4 q5 q6 q7 q8 q9
      try simp only [depsT, Region.binds, forall_const, and_true, beq_iff_eq, reduceCtorEq, false_implies, true_and] at hd
      intro K hK; refine do_wanted rfl ?_
      have HK := Lib.hid hK; clear hK
      try simp only [hd, cond_true]
      have E6 : L 6 = false := (by cases h : L 6 with | false => rfl | true => exact absurd (q9 h).1 (by rw [hL]; simp))
      have E7 : L 7 = false := (by cases h : L 7 with | false => rfl | true => exact absurd (q8 h) (by rw [E6]; simp))
      simp only [E6, cond_false]
      have Q0 := Lib.hid q0; have Q1 := Lib.hid q1; have Q2 := Lib.hid q2; have Q3 := Lib.hid q3; have Q4 := Lib.hid q4; have Q5 := Lib.hid q5; have Q6 := Lib.hid q6; have Q7 := Lib.hid q7; have Q8 := Lib.hid q8; have Q9 := Lib.hid q9
      clear q0 q1 q2 q3 q4 q5 q6 q7 q8 q9
      go_wp2_with ((with_reducible refine (cloneWanted_calls ws _ _ (Rp.S_below G0.out Q0.out) (by omega)).mono ?_); rintro ee we ⟨va, Fa, rfl, r1, r2, r3, hb⟩; have HB := Lib.hid hb; clear hb)
      exact HK.out _ _ ⟨⟨va, Fa, v5, F5⟩, by (simp only [upd, Nat.reduceBEq, cond_true, cond_false, hd, E6]; try rfl), ⟨Q0.out.trans (HB.out.mono (by have := Q1.out; omega)), Nat.le_trans Q1.out HB.out.size, Q2.out.below HB.out, fun h => (Q3.out h).below HB.out, fun h => absurd (show L 7 = true from h) (by simp [E7]), fun _ => ⟨r1, fun b h => Nat.le_trans Q1.out (r2 b h), r3⟩, fun h => ⟨Rp.Row_below (Q6.out h).1 HB.out, (Q6.out h).2⟩, fun _ h5 b h hc => by have := Rp.Row_lt (Q6.out h5).1 _ h; have := r2 _ hc; omega, Q8.out, fun h => ⟨rfl, (Q9.out h).2⟩⟩⟩
    · rintro L ⟨v2, F2, v5, F5⟩ W hL hd ⟨q0, q1, q2, q3, q4, q5, q6, q7, q8, q9⟩
      try dsimp only at q0 q1 q2 q3 q4 q5 q6 q7 q8 q9
      try simp only [depsT, Region.binds, forall_const, and_true, beq_iff_eq, reduceCtorEq, false_implies, true_and] at hd
      intro K hK; refine do_wanted rfl ?_
      have HK := Lib.hid hK; clear hK
      try simp only [hd, cond_true]
      have Q0 := Lib.hid q0; have Q1 := Lib.hid q1; have Q2 := Lib.hid q2; have Q3 := Lib.hid q3; have Q4 := Lib.hid q4; have Q5 := Lib.hid q5; have Q6 := Lib.hid q6; have Q7 := Lib.hid q7; have Q8 := Lib.hid q8; have Q9 := Lib.hid q9
      clear q0 q1 q2 q3 q4 q5 q6 q7 q8 q9
      go_wp2
      exact HK.out _ _ ⟨⟨v2, F2, v5, F5⟩, by simp only [upd, Nat.reduceBEq, cond_true, cond_false, hd], ⟨Q0.out, Q1.out, Q2.out, Q3.out, Q4.out, Q5.out, Q6.out, Q7.out, Q8.out, Q9.out⟩⟩
    · rintro L ⟨v2, F2, v5, F5⟩ W hL hd ⟨q0, q1, q2, q3, q4, q5, q6, q7, q8, q9⟩
      try dsimp only at q0 q1 q2 q3 q4 q5 q6 q7 q8 q9
      try simp only [depsT, Region.binds, forall_const, and_true, beq_iff_eq, reduceCtorEq, false_implies, true_and] at hd
      intro K hK; refine do_wanted rfl ?_
      have HK := Lib.hid hK; clear hK
      try simp only [hd, cond_true]
      have cc := q2.cell 1 (v := .slice A2 xs.length c2) rfl
      have Q0 := Lib.hid q0; have Q1 := Lib.hid q1; have Q2 := Lib.hid q2; have Q3 := Lib.hid q3; have Q4 := Lib.hid q4; have Q5 := Lib.hid q5; have Q6 := Lib.hid q6; have Q7 := Lib.hid q7; have Q8 := Lib.hid q8; have Q9 := Lib.hid q9
      clear q0 q1 q2 q3 q4 q5 q6 q7 q8 q9
      go_wp2
      exact HK.out _ _ ⟨⟨v2, F2, v5, F5⟩, by simp only [upd, Nat.reduceBEq, cond_true, cond_false, hd], ⟨Q0.out, Q1.out, Q2.out, Q3.out, Q4.out, Q5.out, Q6.out, Q7.out, Q8.out, Q9.out⟩⟩
    · rintro L ⟨v2, F2, v5, F5⟩ W hL hd ⟨q0, q1, q2, q3, q4, q5, q6, q7, q8, q9⟩
      try dsimp only at q0 q1 q2 q3 q4 q5 q6 q7 q8 q9
      try simp only [depsT, Region.binds, forall_const, and_true, beq_iff_eq, reduceCtorEq, false_implies, true_and] at hd
      intro K hK; refine do_wanted rfl ?_
      have HK := Lib.hid hK; clear hK
      try simp only [hd, cond_true]
      have E6 : L 6 = false := (by cases h : L 6 with | false => rfl | true => exact absurd (q9 h).2 (by rw [hL]; simp))
      have E7 : L 7 = false := (by cases h : L 7 with | false => rfl | true => exact absurd (q8 h) (by rw [E6]; simp))
      simp only [E6, cond_false]
      have Q0 := Lib.hid q0; have Q1 := Lib.hid q1; have Q2 := Lib.hid q2; have Q3 := Lib.hid q3; have Q4 := Lib.hid q4; have Q5 := Lib.hid q5; have Q6 := Lib.hid q6; have Q7 := Lib.hid q7; have Q8 := Lib.hid q8; have Q9 := Lib.hid q9
      clear q0 q1 q2 q3 q4 q5 q6 q7 q8 q9
      go_wp2_with ((with_reducible refine (cloneChunk_calls xs _ _ (Rp.S_below G1.out Q0.out) (by omega)).mono ?_); rintro ee we ⟨va, Fa, rfl, r1, r2, r3, hb⟩; have HB := Lib.hid hb; clear hb)
      exact HK.out _ _ ⟨⟨v2, F2, va, Fa⟩, by (simp only [upd, Nat.reduceBEq, cond_true, cond_false, hd, E6]; try rfl), ⟨Q0.out.trans (HB.out.mono (by have := Q1.out; omega)), Nat.le_trans Q1.out HB.out.size, Q2.out.below HB.out, fun h => (Q3.out h).below HB.out, fun h => absurd (show L 7 = true from h) (by simp [E7]), fun h => ⟨Rp.Row_below (Q5.out h).1 HB.out, (Q5.out h).2⟩, fun _ => ⟨r1, fun b h => Nat.le_trans Q1.out (r2 b h), r3⟩, fun h2 _ b h hc => by have := Rp.Row_lt (Q5.out h2).1 _ hc; have := r2 _ h; omega, Q8.out, fun h => ⟨(Q9.out h).1, rfl⟩⟩⟩
    · rintro L ⟨v2, F2, v5, F5⟩ W hL hd ⟨q0, q1, q2, q3, q4, q5, q6, q7, q8, q9⟩
      try dsimp only at q0 q1 q2 q3 q4 q5 q6 q7 q8 q9
      try simp only [depsT, Region.binds, forall_const, and_true, beq_iff_eq, reduceCtorEq, false_implies, true_and] at hd
      intro K hK; refine do_wanted rfl ?_
      have HK := Lib.hid hK; clear hK
      try simp only [hd, cond_true]
      obtain ⟨P2, C2, e2, _, _⟩ := Rp.Row_K (q5 (show L 2 = true by simp only [hd])).1
      subst e2
      obtain ⟨P5, C5, e5, _, _⟩ := Rp.Row_K (q6 (show L 5 = true by simp only [hd])).1
      subst e5
      have Q0 := Lib.hid q0; have Q1 := Lib.hid q1; have Q2 := Lib.hid q2; have Q3 := Lib.hid q3; have Q4 := Lib.hid q4; have Q5 := Lib.hid q5; have Q6 := Lib.hid q6; have Q7 := Lib.hid q7; have Q8 := Lib.hid q8; have Q9 := Lib.hid q9
      clear q0 q1 q2 q3 q4 q5 q6 q7 q8 q9
      go_wp2
      exact HK.out _ _ ⟨⟨(.slice P2 ws.length C2), F2, (.slice P5 xs.length C5), F5⟩, by simp only [upd, Nat.reduceBEq, cond_true, cond_false, hd], ⟨Q0.out, Q1.out, Q2.out, Q3.out, Q4.out, Q5.out, Q6.out, Q7.out, fun h => rfl, fun _ => ⟨(show L 2 = true by simp only [hd]), (show L 5 = true by simp only [hd])⟩⟩⟩
    · rintro L ⟨v2, F2, v5, F5⟩ W hL hd ⟨q0, q1, q2, q3, q4, q5, q6, q7, q8, q9⟩
      try dsimp only at q0 q1 q2 q3 q4 q5 q6 q7 q8 q9
      try simp only [depsT, Region.binds, forall_const, and_true, beq_iff_eq, reduceCtorEq, false_implies, true_and] at hd
      intro K hK; refine do_wanted rfl ?_
      have HK := Lib.hid hK; clear hK
      try simp only [hd, cond_true]
      have h26 := q9 (show L 6 = true by simp only [hd])
      obtain ⟨P2, C2, e2, _, _⟩ := Rp.Row_K (q5 h26.1).1
      subst e2
      obtain ⟨P5, C5, e5, _, _⟩ := Rp.Row_K (q6 h26.2).1
      subst e5
      have hz := q3 hL
      have cz0 := hz.cell 0 (v := .slice none 0 0) rfl; have cz1 := hz.cell 1 (v := .slice none 0 0) rfl
      have fz := hz.fro
      have HZ := Lib.hid hz; clear hz
      have Q0 := Lib.hid q0; have Q1 := Lib.hid q1; have Q2 := Lib.hid q2; have Q3 := Lib.hid q3; have Q4 := Lib.hid q4; have Q5 := Lib.hid q5; have Q6 := Lib.hid q6; have Q7 := Lib.hid q7; have Q8 := Lib.hid q8; have Q9 := Lib.hid q9
      clear q0 q1 q2 q3 q4 q5 q6 q7 q8 q9
      go_wp2
      change K _ (Rp.setN W (w.heap.size + 1) 0 [.slice P2 ws.length C2, .slice P5 xs.length C5])
      obtain ⟨hk, hbx⟩ := HZ.out.stored [.slice P2 ws.length C2, .slice P5 xs.length C5] 0
      rw [setA_all (by rfl)] at hbx
      have hq1 := Q1.out
      exact HK.out _ _ ⟨⟨(.slice P2 ws.length C2), F2, (.slice P5 xs.length C5), F5⟩, by simp only [upd, Nat.reduceBEq, cond_true, cond_false, hd], ⟨Q0.out.trans (hk.toBelow Q0.out.size (by simp)), Nat.le_trans Q1.out hk.size, Box_ne Q2.out hk (by omega), fun h => absurd h (by simp [upd]), fun _ => hbx, fun h => ⟨Row_ne (Q5.out h).1 hk (fun hm => by have := (Q5.out h).2.1 _ hm; omega), (Q5.out h).2⟩, fun h => ⟨Row_ne (Q6.out h).1 hk (fun hm => by have := (Q6.out h).2.1 _ hm; omega), (Q6.out h).2⟩, Q7.out, fun _ => (show L 6 = true by simp only [hd]), Q9.out⟩⟩
  · simp (config := { maxSteps := 4000000 }) only [layT, Nat.reduceAdd, Nat.reduceBEq, cond_true, cond_false]
    rintro L ⟨v2, F2, v5, F5⟩ W hd ⟨q0, q1, q2, q3, q4, q5, q6, q7, q8, q9⟩
    simp only [doneT, true_and, List.length_cons, List.length_nil, Nat.reduceAdd] at hd
    obtain ⟨⟨⟨⟨⟨⟨⟨e0, e1⟩, e2⟩, e3⟩, e4⟩, e5⟩, e6⟩, e7⟩ := hd
    try dsimp only at q0 q1 q2 q3 q4 q5 q6 q7 q8 q9
    simp only [e0, e1, e2, e3, e4, e5, e6, e7, cond_true]
    have hb4 := q4 e7; have h5 := q5 e2; have h6 := q6 e5; have h7 := q7 e2 e5
    obtain ⟨P0, C0, e2', _, _⟩ := Rp.Row_K h5.1
    subst e2'
    obtain ⟨P1, C1, e5', _, _⟩ := Rp.Row_K h6.1
    subst e5'
    have dz0 := hb4.cell 0 (v := .slice P0 ws.length C0) rfl; have dz1 := hb4.cell 1 (v := .slice P1 xs.length C1) rfl
    have HQ := Lib.hid (And.intro q0 (And.intro h5 (And.intro h6 h7)))
    clear q0 q1 q2 q3 q4 q5 q6 q7 q8 q9 hb4 h5 h6 h7 HC hsz Xt Xr ct_0 ct_1 cr_0 cr_1
    go_wp2
    refine bodyPost_ret (v := .agg #[.slice P0 ws.length C0, .slice P1 xs.length C1]) (by simp [results, Try.results93, go_sem, dz0, dz1]) rfl ⟨P0, C0, P1, C1, F2, F5, rfl, HQ.out.2.1.1, HQ.out.2.2.1.1, fun b h => by have := HQ.out.2.1.2.1 b h; omega, fun b h => by have := HQ.out.2.2.1.2.1 b h; omega, HQ.out.2.1.2.2, HQ.out.2.2.1.2.2, HQ.out.2.2.2, HQ.out.1⟩
def tcB (ws : List DWanted) (xs : List DChunk) (y : DChunk) : Bool := tkOk ws xs && tkB ws xs y
def tcX (ws : List DWanted) (xs : List DChunk) (y : DChunk) : DTaking := if tcB ws xs y then ⟨ws, tkX ws xs y⟩ else zTaking
theorem Made.tak2 {x : DTaking} {w w' : World} {v0 v1 : Value} {F0 F1 : List Nat} {N : Nat} (hN : w.heap.size ≤ N) (r0 : kWanted.Row 136 w' F0 x.fWant v0) (r1 : kChunk.Row 46 w' F1 x.fGot v1) (t0 : ∀ b ∈ F0, N ≤ b) (t1 : ∀ b ∈ F1, N ≤ b) (n0 : F0.Nodup) (n1 : F1.Nodup) (d : ∀ b ∈ F1, b ∉ F0) (hb : Below w.heap.size w w') : Made kTaking x w w' (.agg #[v0, v1]) :=
  ⟨_, F0 ++ F1, rfl, kTaking_make r0 r1, fun b h => by rcases List.mem_append.1 h with h | h; exact Nat.le_trans hN (t0 b h); exact Nat.le_trans hN (t1 b h), List.nodup_append.2 ⟨n0, n1, fun a ha b hb e => d b hb (e ▸ ha)⟩, hb⟩
theorem Made.tz {w w' : World} (hb : Below w.heap.size w w') : Made kTaking zTaking w w' (.agg #[.slice none 0 0, .slice none 0 0]) :=
  Made.tak2 (x := zTaking) (F0 := []) (F1 := []) (Nat.le_refl _) (Rp.Row_nil _ _ _) (Rp.Row_nil _ _ _) (by simp) (by simp) (by simp) (by simp) (by simp) hb
set_option maxHeartbeats 4000000 in
set_option maxRecDepth 100000 in
theorem iTakeC_calls (ws : List DWanted) (xs : List DChunk) (y : DChunk) (v0 v1 : Value) (w : World) (g0 : kWanted.S w ws v0) (g1 : kChunk.S w xs v1) (hl : ws.length ≤ 1048576 ∧ xs.length ≤ 1048576) : Calls Try.prog 25 #[.agg #[v0, v1], .agg #[.int .i64 y.fFile, .int .i64 y.fAt, .string y.fData, .int .u32 y.fSum]] w
    fun e w' => ∃ v, e = .returned (.tuple #[v, .bool (tcB ws xs y)]) ∧ Made kTaking (tcX ws xs y) w w' v := by
  have G0 := Lib.hid g0
  have G1 := Lib.hid g1
  obtain ⟨A0, c0, rfl, _, _⟩ := g0
  obtain ⟨A2, c2, rfl, _, _⟩ := g1
  go_enter Try.func25, Try.ntmps25
  go_upto_region 1 with fail
  have HC := Lib.hid (show Below w.heap.size w (((w.alloc (.cells #[.slice A0 ws.length c0, .slice A2 xs.length c2] 33)).alloc (.cells #[.int .i64 y.fFile, .int .i64 y.fAt, .string y.fData, .int .u32 y.fSum] 46)).alloc (.cells #[.slice none 0 0, .slice none 0 0] 33)) from Below.alloc (Below.alloc (Below.alloc (Below.refl w.heap.size w) (by first | exact Nat.le_refl _ | (simp; done) | (simp; omega)) (.cells #[.slice A0 ws.length c0, .slice A2 xs.length c2] 33)) (by first | exact Nat.le_refl _ | (simp; done) | (simp; omega)) (.cells #[.int .i64 y.fFile, .int .i64 y.fAt, .string y.fData, .int .u32 y.fSum] 46)) (by first | exact Nat.le_refl _ | (simp; done) | (simp; omega)) (.cells #[.slice none 0 0, .slice none 0 0] 33))
  have Xt := Lib.hid (show Box (((w.alloc (.cells #[.slice A0 ws.length c0, .slice A2 xs.length c2] 33)).alloc (.cells #[.int .i64 y.fFile, .int .i64 y.fAt, .string y.fData, .int .u32 y.fSum] 46)).alloc (.cells #[.slice none 0 0, .slice none 0 0] 33)) (w.heap.size) #[.slice A0 ws.length c0, .slice A2 xs.length c2] 33 from Box.alloc (Box.alloc (Box.new rfl)))
  have Xc := Lib.hid (show Box (((w.alloc (.cells #[.slice A0 ws.length c0, .slice A2 xs.length c2] 33)).alloc (.cells #[.int .i64 y.fFile, .int .i64 y.fAt, .string y.fData, .int .u32 y.fSum] 46)).alloc (.cells #[.slice none 0 0, .slice none 0 0] 33)) (w.heap.size + 1) #[.int .i64 y.fFile, .int .i64 y.fAt, .string y.fData, .int .u32 y.fSum] 46 from Box.alloc (Box.new (by simp)))
  have Xr := Lib.hid (show Box (((w.alloc (.cells #[.slice A0 ws.length c0, .slice A2 xs.length c2] 33)).alloc (.cells #[.int .i64 y.fFile, .int .i64 y.fAt, .string y.fData, .int .u32 y.fSum] 46)).alloc (.cells #[.slice none 0 0, .slice none 0 0] 33)) (w.heap.size + 1 + 1) #[.slice none 0 0, .slice none 0 0] 33 from Box.new (by simp))
  have hsz : w.heap.size + 3 ≤ (((w.alloc (.cells #[.slice A0 ws.length c0, .slice A2 xs.length c2] 33)).alloc (.cells #[.int .i64 y.fFile, .int .i64 y.fAt, .string y.fData, .int .u32 y.fSum] 46)).alloc (.cells #[.slice none 0 0, .slice none 0 0] 33)).heap.size := by simp
  generalize ((w.alloc (.cells #[.slice A0 ws.length c0, .slice A2 xs.length c2] 33)).alloc (.cells #[.int .i64 y.fFile, .int .i64 y.fAt, .string y.fData, .int .u32 y.fSum] 46)).alloc (.cells #[.slice none 0 0, .slice none 0 0] 33) = w1 at *
  have ct_0 := Xt.out.cell 0 (v := .slice A0 ws.length c0) rfl; have ct_1 := Xt.out.cell 1 (v := .slice A2 xs.length c2) rfl; have cc_0 := Xc.out.cell 0 (v := .int .i64 y.fFile) rfl; have cc_1 := Xc.out.cell 1 (v := .int .i64 y.fAt) rfl; have cc_2 := Xc.out.cell 2 (v := .string y.fData) rfl; have cc_3 := Xc.out.cell 3 (v := .int .u32 y.fSum) rfl; have cr_0 := Xr.out.cell 0 (v := .slice none 0 0) rfl; have cr_1 := Xr.out.cell 1 (v := .slice none 0 0) rfl
  go_wp2_with fail
  (with_reducible refine (iGoodT_calls ws xs _ _ _ (Rp.S_below G0.out HC.out) (Rp.S_below G1.out HC.out) hl).mono ?_)
  rintro e w2 ⟨rfl, hb⟩
  have HC := Lib.hid (HC.out.trans (hb.mono (by first | exact HC.out.size | (have := HC.out.size; omega)))); have hsz := Nat.le_trans hsz hb.size; have Xt := Lib.hid (Xt.out.below hb); have Xc := Lib.hid (Xc.out.below hb); have Xr := Lib.hid (Xr.out.below hb); clear ct_0 ct_1 cc_0 cc_1 cc_2 cc_3 cr_0 cr_1; clear hb; have ct_0 := Xt.out.cell 0 (v := .slice A0 ws.length c0) rfl; have ct_1 := Xt.out.cell 1 (v := .slice A2 xs.length c2) rfl; have cc_0 := Xc.out.cell 0 (v := .int .i64 y.fFile) rfl; have cc_1 := Xc.out.cell 1 (v := .int .i64 y.fAt) rfl; have cc_2 := Xc.out.cell 2 (v := .string y.fData) rfl; have cc_3 := Xc.out.cell 3 (v := .int .u32 y.fSum) rfl; have cr_0 := Xr.out.cell 0 (v := .slice none 0 0) rfl; have cr_1 := Xr.out.cell 1 (v := .slice none 0 0) rfl
  cases hg : tkOk ws xs
  case false =>
    have HX := Lib.hid (show tcB ws xs y = false by rw [tcB, hg]; rfl)
    have fr_ := Xr.out.fro
    go_wp2
    obtain ⟨hk, bf⟩ := Xr.out.stored [.slice none 0 0, .slice none 0 0] 0
    rw [setA_all (by rfl)] at bf
    change bodyPost _ _ _ _ _ (Rp.setN w2 (w.heap.size + 1 + 1) 0 [.slice none 0 0, .slice none 0 0])
    clear fr_ ct_0 ct_1 cc_0 cc_1 cc_2 cc_3 cr_0 cr_1
    have HK := Lib.hid hk; clear hk
    generalize Rp.setN w2 (w.heap.size + 1 + 1) 0 [.slice none 0 0, .slice none 0 0] = wf at *
    have df0 := bf.cell 0 (v := .slice none 0 0) rfl; have df1 := bf.cell 1 (v := .slice none 0 0) rfl
    refine bodyPost_ret (v := .tuple #[.agg #[.slice none 0 0, .slice none 0 0], .bool false]) (by simp [results, Try.results25, go_sem, df0, df1]) rfl ⟨_, by rw [HX.out], by rw [tcX, HX.out]; exact Made.tz (HC.out.trans (HK.out.toBelow HC.out.size (by simp; omega)))⟩
  case true =>
    obtain ⟨hw, hx, ho, hgd⟩ := tk_open hg
    have HG := Lib.hid hg; clear hg
    go_wp2_with fail
    have hsz0 := hsz
    (with_reducible refine (iCloneT_calls ws xs _ _ _ (Rp.S_below G0.out HC.out) (Rp.S_below G1.out HC.out) hl).mono ?_)
    rintro e w3 ⟨P0, C0, P1, C1, F0, F1, rfl, r0, r1, b0, b1, n0, n1, d01, hb⟩
    have R0 := Lib.hid r0; have R1 := Lib.hid r1; have T0 := Lib.hid (fun b h => Nat.le_trans hsz0 (b0 b h) : ∀ b ∈ F0, w.heap.size + 3 ≤ b); have T1 := Lib.hid (fun b h => Nat.le_trans hsz0 (b1 b h) : ∀ b ∈ F1, w.heap.size + 3 ≤ b); have D01 := Lib.hid d01
    clear r0 r1 b0 b1 d01
    have HC := Lib.hid (HC.out.trans (hb.mono (by first | exact HC.out.size | (have := HC.out.size; omega)))); have hsz := Nat.le_trans hsz hb.size; have Xt := Lib.hid (Xt.out.below hb); have Xc := Lib.hid (Xc.out.below hb); have Xr := Lib.hid (Xr.out.below hb); clear ct_0 ct_1 cc_0 cc_1 cc_2 cc_3 cr_0 cr_1; clear hb; have ct_0 := Xt.out.cell 0 (v := .slice A0 ws.length c0) rfl; have ct_1 := Xt.out.cell 1 (v := .slice A2 xs.length c2) rfl; have cc_0 := Xc.out.cell 0 (v := .int .i64 y.fFile) rfl; have cc_1 := Xc.out.cell 1 (v := .int .i64 y.fAt) rfl; have cc_2 := Xc.out.cell 2 (v := .string y.fData) rfl; have cc_3 := Xc.out.cell 3 (v := .int .u32 y.fSum) rfl; have cr_0 := Xr.out.cell 0 (v := .slice none 0 0) rfl; have cr_1 := Xr.out.cell 1 (v := .slice none 0 0) rfl
    go_upto_region 4 with fail
    have L0 := Lib.hid (Rp.Row_lt R0.out); have L1 := Lib.hid (Rp.Row_lt R1.out)
    have R0 := Lib.hid (Rp.Row_below R0.out ((Below.refl w3.heap.size w3).alloc (Nat.le_refl _) (.cells #[.slice P0 ws.length C0, .slice P1 xs.length C1] 33))); have R1 := Lib.hid (Rp.Row_below R1.out ((Below.refl w3.heap.size w3).alloc (Nat.le_refl _) (.cells #[.slice P0 ws.length C0, .slice P1 xs.length C1] 33)))
    have h3 := hsz
    have hb := (Below.refl w3.heap.size w3).alloc (Nat.le_refl _) (.cells #[.slice P0 ws.length C0, .slice P1 xs.length C1] 33)
    have hso : w3.heap.size + 1 ≤ (w3.alloc (.cells #[.slice P0 ws.length C0, .slice P1 xs.length C1] 33)).heap.size := by simp
    have Xo := Lib.hid (show Box (w3.alloc (.cells #[.slice P0 ws.length C0, .slice P1 xs.length C1] 33)) w3.heap.size #[.slice P0 ws.length C0, .slice P1 xs.length C1] 33 from Box.new rfl)
    generalize w3.alloc (.cells #[.slice P0 ws.length C0, .slice P1 xs.length C1] 33) = w4 at *
    have HC := Lib.hid (HC.out.trans (hb.mono (by first | exact HC.out.size | (have := HC.out.size; omega)))); have hsz := Nat.le_trans hsz hb.size; have Xt := Lib.hid (Xt.out.below hb); have Xc := Lib.hid (Xc.out.below hb); have Xr := Lib.hid (Xr.out.below hb); clear ct_0 ct_1 cc_0 cc_1 cc_2 cc_3 cr_0 cr_1; clear hb; have ct_0 := Xt.out.cell 0 (v := .slice A0 ws.length c0) rfl; have ct_1 := Xt.out.cell 1 (v := .slice A2 xs.length c2) rfl; have cc_0 := Xc.out.cell 0 (v := .int .i64 y.fFile) rfl; have cc_1 := Xc.out.cell 1 (v := .int .i64 y.fAt) rfl; have cc_2 := Xc.out.cell 2 (v := .string y.fData) rfl; have cc_3 := Xc.out.cell 3 (v := .int .u32 y.fSum) rfl; have cr_0 := Xr.out.cell 0 (v := .slice none 0 0) rfl; have cr_1 := Xr.out.cell 1 (v := .slice none 0 0) rfl
    have co_0 := Xo.out.cell 0 (v := .slice P0 ws.length C0) rfl; have co_1 := Xo.out.cell 1 (v := .slice P1 xs.length C1) rfl
    go_wp2_with fail
    (with_reducible refine (iTake_calls ws xs y w3.heap.size C0 P0 _ F1 w4 Xo.out (Rp.Row_S R0.out) R1.out n1 (fun h => by have := L1.out _ h; omega) hw hx ho).mono ?_)
    rintro e w5 ⟨vn, Fn, rfl, q1, q2, q3, q4, q5⟩
    obtain ⟨PN, CN, e1, _, _⟩ := Rp.Row_K q2
    obtain ⟨nn, HNN⟩ : ∃ nn, Hid ((tkX ws xs y).length = nn) := ⟨_, rfl⟩
    rw [HNN.out] at e1
    subst e1
    have hz4 := q3.size
    have Xt := Lib.hid (Xt.out.kept q3 (fun h => by rcases List.mem_cons.1 h with h | h; omega; have := T1.out _ h; omega)); have Xc := Lib.hid (Xc.out.kept q3 (fun h => by rcases List.mem_cons.1 h with h | h; omega; have := T1.out _ h; omega)); have Xr := Lib.hid (Xr.out.kept q3 (fun h => by rcases List.mem_cons.1 h with h | h; omega; have := T1.out _ h; omega)); have Xo := Lib.hid q1
    have R0 := Lib.hid (Rp.Row_kept R0.out q3 (fun b hb h => by rcases List.mem_cons.1 h with h | h; have := L0.out _ hb; omega; exact D01.out _ h hb))
    have RN := Lib.hid q2
    have hw34 : w3.heap.size ≤ w4.heap.size := by omega
    have TN := Lib.hid (fun b h => (by rcases q4 b h with h2 | h2; exact T1.out _ h2; omega) : ∀ b ∈ Fn, w.heap.size + 3 ≤ b)
    have DN := Lib.hid (fun b h hc => (by rcases q4 b h with h2 | h2; exact D01.out _ h2 hc; have := L0.out _ hc; omega) : ∀ b ∈ Fn, b ∉ F0)
    have HC := Lib.hid (HC.out.trans (q3.toBelow HC.out.size (fun b h => by rcases List.mem_cons.1 h with h | h; omega; have := T1.out _ h; omega)))
    replace hsz := Nat.le_trans hsz hz4
    clear q1 q2 q3 q4 hz4 ct_0 ct_1 cc_0 cc_1 cc_2 cc_3 cr_0 cr_1 co_0 co_1
    have ct_0 := Xt.out.cell 0 (v := .slice A0 ws.length c0) rfl; have ct_1 := Xt.out.cell 1 (v := .slice A2 xs.length c2) rfl; have cc_0 := Xc.out.cell 0 (v := .int .i64 y.fFile) rfl; have cc_1 := Xc.out.cell 1 (v := .int .i64 y.fAt) rfl; have cc_2 := Xc.out.cell 2 (v := .string y.fData) rfl; have cc_3 := Xc.out.cell 3 (v := .int .u32 y.fSum) rfl; have cr_0 := Xr.out.cell 0 (v := .slice none 0 0) rfl; have cr_1 := Xr.out.cell 1 (v := .slice none 0 0) rfl; have co_0 := Xo.out.cell 0 (v := .slice P0 ws.length C0) rfl; have co_1 := Xo.out.cell 1 (v := .slice PN nn CN) rfl
    cases hk : tkB ws xs y
    case false =>
      have HX := Lib.hid (show tcB ws xs y = false by rw [tcB, hk, Bool.and_false])
      have fr_ := Xr.out.fro
      go_wp2
      obtain ⟨hk, bf⟩ := Xr.out.stored [.slice none 0 0, .slice none 0 0] 0
      rw [setA_all (by rfl)] at bf
      change bodyPost _ _ _ _ _ (Rp.setN w5 (w.heap.size + 1 + 1) 0 [.slice none 0 0, .slice none 0 0])
      clear fr_ ct_0 ct_1 cc_0 cc_1 cc_2 cc_3 cr_0 cr_1 co_0 co_1
      have HK := Lib.hid hk; clear hk
      generalize Rp.setN w5 (w.heap.size + 1 + 1) 0 [.slice none 0 0, .slice none 0 0] = wf at *
      have df0 := bf.cell 0 (v := .slice none 0 0) rfl; have df1 := bf.cell 1 (v := .slice none 0 0) rfl
      refine bodyPost_ret (v := .tuple #[.agg #[.slice none 0 0, .slice none 0 0], .bool false]) (by simp [results, Try.results25, go_sem, df0, df1]) rfl ⟨_, by rw [HX.out], by rw [tcX, HX.out]; exact Made.tz (HC.out.trans (HK.out.toBelow HC.out.size (by simp; omega)))⟩
    case true =>
      have HX := Lib.hid (show tcB ws xs y = true by rw [tcB, hk, HG.out]; rfl)
      have fr_ := Xr.out.fro
      go_wp2
      obtain ⟨hk, bf⟩ := Xr.out.stored [.slice P0 ws.length C0, .slice PN nn CN] 0
      rw [setA_all (by rfl)] at bf
      have q0 := Row_ne R0.out hk (fun h => by have h_0 := T0.out _ h; omega)
      have qn := Row_ne RN.out hk (fun h => by have h_0 := TN.out _ h; omega)
      change bodyPost _ _ _ _ _ (Rp.setN w5 (w.heap.size + 1 + 1) 0 [.slice P0 ws.length C0, .slice PN nn CN])
      clear fr_ ct_0 ct_1 cc_0 cc_1 cc_2 cc_3 cr_0 cr_1 co_0 co_1
      have HK := Lib.hid hk; clear hk
      generalize Rp.setN w5 (w.heap.size + 1 + 1) 0 [.slice P0 ws.length C0, .slice PN nn CN] = wf at *
      have df0 := bf.cell 0 (v := .slice P0 ws.length C0) rfl; have df1 := bf.cell 1 (v := .slice PN nn CN) rfl
      refine bodyPost_ret (v := .tuple #[.agg #[.slice P0 ws.length C0, .slice PN nn CN], .bool true]) (by simp [results, Try.results25, go_sem, df0, df1]) rfl ⟨_, by rw [HX.out], by rw [tcX, HX.out]; exact Made.tak2 (x := ⟨ws, tkX ws xs y⟩) (N := w.heap.size + 3) (by omega) q0 qn T0.out TN.out n0 q5 DN.out (HC.out.trans (HK.out.toBelow HC.out.size (by simp; omega)))⟩
theorem iTakeChunk_k {x : DTaking} {y : DChunk} {c0 c1 : List Value} {w : World} (k0 : kTaking.K w x c0) (h0 : wfTaking x) (s0 : smTaking 1048576 x) (k1 : kChunk.K w y c1) (h1 : wfChunk y) (s1 : smChunk 1048576 y) : Calls Try.prog 25 #[.agg c0.toArray, .agg c1.toArray] w
    fun e w' => ∃ cs F, e = .returned (.tuple #[.agg cs.toArray, .bool (tcB x.fWant x.fGot y)]) ∧ kTaking.M w' F (tcX x.fWant x.fGot y) cs ∧ (∀ b ∈ F, w.heap.size ≤ b) ∧ F.Nodup ∧ Below w.heap.size w w' := by
  obtain ⟨v0, v1, rfl, g0, g1⟩ := kTaking_read k0
  obtain rfl := kChunk_K k1
  refine (iTakeC_calls x.fWant x.fGot y v0 v1 w g0 g1 s0).mono ?_
  rintro e w' ⟨v, rfl, cs, F, rfl, h1, h2, h3, h4⟩
  exact ⟨cs, F, rfl, h1, h2, h3, h4⟩
theorem tkX_len (ws : List DWanted) (xs : List DChunk) (y : DChunk) : (tkX ws xs y).length ≤ xs.length + 1 := by
  unfold tkX
  split
  · have := bsI_le xs y
    simp only [List.length_append, List.length_cons, List.length_take, List.length_drop]
    omega
  · omega
theorem tcX_sm {x : DTaking} {y : DChunk} {n : Nat} (h : smTaking n x) : smTaking (n + 1) (tcX x.fWant x.fGot y) := by
  have h1 := h.1
  have h2 := h.2
  have h3 := tkX_len x.fWant x.fGot y
  unfold smTaking tcX
  split
  · exact ⟨by show x.fWant.length ≤ _; omega, by show (tkX _ _ _).length ≤ _; omega⟩
  · exact ⟨Nat.zero_le _, Nat.zero_le _⟩
end Go.Proofs.Ytioelmhikablcaa
