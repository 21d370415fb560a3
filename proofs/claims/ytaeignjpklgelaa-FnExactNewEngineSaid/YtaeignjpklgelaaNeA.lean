/- The first engine: slices.Repeat at five towers. -/
import Derived.Test.YtaeignjpklgelaaInt
import Derived.Test.YtaeignjpklgelaaInsA
import Derived.Test.YtaeignjpklgelaaMade
import Derived.Test.YtaeignjpklgelaaInv
import Derived.StillTailTactics
namespace Go.Proofs.Ytaeignjpklgelaa
open Go Go.RowKit Go.Sort
set_option linter.unusedVariables false
set_option linter.unusedSimpArgs false

set_option maxHeartbeats 4000000 in
set_option maxRecDepth 100000 in
theorem mul64_calls (w : World) : Calls Try.prog 38 #[.int .u64 1, .int .u64 5] w fun e w' => e = .returned (.tuple #[.int .u64 0, .int .u64 5]) ∧ w' = w := by
  have a1 : bits .and .u64 1 4294967295 = 1 := by decide
  have a5 : bits .and .u64 5 4294967295 = 5 := by decide
  have a0 : bits .and .u64 0 4294967295 = 0 := by decide
  go_enter Try.func38, Try.ntmps38
  go_wp2
  go_ret2
  exact ⟨rfl, rfl⟩
set_option maxHeartbeats 4000000 in
theorem mul_calls (w : World) : Calls Try.prog 34 #[.int .u64 1, .int .u64 5] w fun e w' => e = .returned (.tuple #[.int .u64 0, .int .u64 5]) ∧ w' = w := by
  go_enter Try.func34, Try.ntmps34
  go_wp2_with (with_reducible refine (mul64_calls _).mono ?_; rintro e wq ⟨rfl, rfl⟩)
  go_ret2
  exact ⟨rfl, rfl⟩
def encI (x : Int) : List Value := [.int .i64 x]
theorem kInt_enc : kInt.Enc 1 encI := ⟨fun _ => rfl, rfl, fun x u hu => by simp [encI] at hu; subst hu; rfl, fun h => h, fun w x => ⟨rfl, rfl⟩⟩
def repV (n : Nat) : Array Value := (List.replicate n (Value.int .i64 (-1)) ++ List.replicate (5 - n) (Value.int .i64 0)).toArray
theorem infoIs : (Try.prog.info? 3).map (·.size) = some 1 := by kernel_rfl
theorem rep_copy {W : World} {g a : Nat} {n c l : Nat} {sc dc : Nat} (hg : Box W g (repV n) 3) (hs : ∀ j v, (List.replicate c (Value.int .i64 (-1)))[j]? = some v → W.cell? ((⟨a, 0, none⟩ : Addr).add j) = some v) (hc : Nat.min l (5 - n) = c) (hn : n + c ≤ 5)
    (hsp : (splice (repV n).toList n (List.replicate c (Value.int .i64 (-1)))).toArray = repV (n + c)) :
    (Builtin.copy_ #[22, 22] 3 #[.slice (some ⟨g, n, none⟩) (5 - n) dc, .slice (some ⟨a, 0, none⟩) l sc]).run Try.prog W = .ok (goInt c) (W.setRow g (repV (n + c))) := by
  have h := run_copyK W 22 22 3 3 1 g n (5 - n) dc ⟨a, 0, none⟩ l sc (repV n) 3 (List.replicate c (.int .i64 (-1))) Try.underlying22 infoIs hg (by rw [hc]; simp) hs (by simp [repV]; omega) (fun v hv => by obtain rfl := (List.mem_replicate.1 hv).2; rfl)
  rw [hc, hsp] at h
  exact h
theorem rep_self {W : World} {g n c : Nat} (hg : Box W g (repV n) 3) (hc : c ≤ n) : ∀ j v, (List.replicate c (Value.int .i64 (-1)))[j]? = some v → W.cell? ((⟨g, 0, none⟩ : Addr).add j) = some v := fun j v hj => by
  rw [List.getElem?_replicate] at hj
  split at hj
  · rename_i hlt
    have hg' : W.heap[g]? = some (.cells (repV n) 3 (0, 0)) := hg
    have e : (List.replicate n (Value.int .i64 (-1)) ++ List.replicate (5 - n) (Value.int .i64 0))[j]? = some (.int .i64 (-1)) := by
      rw [List.getElem?_append_left (by rw [List.length_replicate]; omega), List.getElem?_replicate, if_pos (by omega)]
    rw [Addr.add_lit]
    simp only [World.cell?, hg']
    rw [← hj, Nat.zero_add, ← Array.getElem?_toList]
    exact e
  · cases hj
theorem rep_one {W : World} {g : Nat} (h : W.cell? ⟨g, 0, none⟩ = some (.int .i64 (-1))) : ∀ j v, (List.replicate 1 (Value.int .i64 (-1)))[j]? = some v → W.cell? ((⟨g, 0, none⟩ : Addr).add j) = some v := fun j v hj => by
  rw [List.getElem?_replicate] at hj
  split at hj
  · obtain rfl : j = 0 := by omega
    rw [Addr.add_lit, ← hj]
    exact h
  · cases hj
theorem rep_row {W : World} {g : Nat} (h : Box W g (repV 5) 3) : kInt.Row 3 W [g] [-1, -1, -1, -1, -1] (.slice (some ⟨g, 0, none⟩) 5 5) :=
  kInt_enc.Row_mk rfl h (Nat.le_refl _) (by decide) rfl rfl
theorem rep_box {W : World} {g : Nat} (h : kInt.Row 3 W [g] (List.replicate 5 0) (.slice (some ⟨g, 0, none⟩) 5 5)) : Box W g (repV 0) 3 := by
  obtain ⟨hv, _, _⟩ | ⟨g', cap', cur, hv, _, hg, _, _, hs, ht⟩ := kInt_enc.Row_of h
  · cases hv
  · obtain ⟨rfl, h5⟩ : g = g' ∧ 5 = cap' := by injection hv with h1 h2 h3; injection h1 with h1; injection h1 with h1; exact ⟨h1, h3⟩
    subst h5
    have : cur = repV 0 := by
      apply Array.ext'
      rw [List.take_of_length_le (by simp [hs])] at ht
      rw [ht]
      rfl
    rw [← this]
    exact hg
set_option maxHeartbeats 4000000 in
set_option maxRecDepth 100000 in
theorem repeat_calls (g : Nat) (w : World) (c0 : w.cell? ⟨g, 0, none⟩ = some (.int .i64 (-1))) : Calls Try.prog 22 #[.slice (some ⟨g, 0, none⟩) 1 1, .int .i64 5] w
    fun e w' => ∃ v, e = .returned v ∧ MadeR kInt 3 [-1, -1, -1, -1, -1] w w' v := by
  have u0 := World.block_lt_of_cell? w _ c0
  obtain ⟨w0, hmk, hR, hB, hlt0⟩ := mk_full (P := Try.prog) w 22 3 kInt 0 Try.underlying22 infoInt rfl (fun w => ⟨rfl, rfl⟩) 5 (by decide) (by decide)
  have hb := rep_box hR
  have hcp := rep_copy (n := 0) (c := 1) (l := 1) (sc := 1) (dc := 5) hb (rep_one ((World.cell?_of_block (hB.block g u0)).trans c0)) rfl (by decide) rfl
  have hb1 : Box (w0.setRow w.heap.size (repV 1)) w.heap.size (repV 1) 3 := setRow_heap w0 _ _ _ _ _ hb
  have hB1 := below_setRow hB (Nat.le_refl _) (repV 1)
  have X1 := Lib.hid hb1; have HB1 := Lib.hid hB1
  have hsz1 : w.heap.size < (w0.setRow w.heap.size (repV 1)).heap.size := hb1.lt
  clear hb1 hB1 hb hR hB
  have hmk : Sem.run Try.prog (Instr.makeSlice 22 (.int .i64 5) (.int .i64 5)) w = _ := hmk
  have hcp : (Builtin.copy_ #[22, 22] 3 #[.slice (some ⟨w.heap.size, 0, none⟩) 5 5, .slice (some ⟨g, 0, none⟩) 1 1]).run Try.prog w0 = .ok (goInt 1) (w0.setRow w.heap.size (repV 1)) := hcp
  go_enter Try.func22, Try.ntmps22
  go_wp2_with (with_reducible refine (mul_calls _).mono ?_; rintro e wq ⟨rfl, hw⟩; rw [hw]; clear hw)
  clear hmk hcp hsz1 hlt0
  generalize w0.setRow w.heap.size (repV 1) = w5 at *
  go_loopw [8] (fun m wr => ∃ n : Nat, (n = 1 ∨ n = 2 ∨ n = 4 ∨ n = 5) ∧ m = .int .i64 n ∧ Hid (Box wr w.heap.size (repV n) 3) ∧ Hid (Below w.heap.size w wr)) (fun m _ => 5 - (intOf m).toNat)
  case atStart => exact ⟨1, by decide, rfl, X1.out, HB1.out⟩
  case round =>
    clear X1 HB1
    obtain ⟨n, hn, rfl, X1, HB1⟩ := hrel
    rcases hn with rfl | rfl | rfl | rfl
    · go_upto_region 9 with fail
      refine wp_region_tab (G := Unit) (fun g => [(8, 9, .int .i64 2), (29, 0, .int .i64 1), (0, 1, .slice (some ⟨w.heap.size, 0, none⟩) 5 5), (0, 2, .int .i64 1), (0, 3, .slice (some ⟨w.heap.size, 1, none⟩) 4 4), (0, 4, .slice (some ⟨w.heap.size, 0, none⟩) 5 5), (0, 5, .int .i64 1), (0, 6, .slice (some ⟨w.heap.size, 0, none⟩) 1 5), (0, 7, .int .i64 1), (0, 8, .int .i64 2)])
          (fun L g W => (Below w.heap.size w W) ∧
            (L 7 = false → Box W w.heap.size (repV 1) 3) ∧
            (L 7 = true → Box W w.heap.size (repV 2) 3) ∧
            ((L 9 = true → L 0 = true ∧ L 2 = true ∧ L 5 = true)))
          (()) (by kernel_rfl) (by kernel_rfl) (fun _ => rfl) ?_ ?_ ?_
      · exact ⟨HB1.out.drew, fun _ => X1.out.drew, nofun, nofun⟩
      · simp (config := { maxSteps := 4000000 }) only [StepsT, layT, Nat.reduceAdd, Nat.reduceBEq, cond_true, cond_false]
        refine ⟨?_, ?_, ?_, ?_, ?_, ?_, ?_, ?_, ?_, ?_, trivial⟩
        · rintro L g0 W hL hd ⟨q0, q1, q2, q3⟩
          try dsimp only at q0 q1 q2 q3
          try simp only [depsT, Region.binds, forall_const, and_true, beq_iff_eq, reduceCtorEq, false_implies, true_and] at hd
          intro K hK; refine do_wanted rfl ?_
          have HK := Lib.hid hK; clear hK
          try simp only [hd, cond_true]
          have E9 : L 9 = false := (by cases h : L 9 with | false => rfl | true => exact absurd ((q3 h).1) (by rw [hL]; simp))
          have Q0 := Lib.hid q0; have Q1 := Lib.hid q1; have Q2 := Lib.hid q2; have Q3 := Lib.hid q3
          clear q0 q1 q2 q3
          (try simp only [E9, cond_false]); go_wp2
          exact HK.out _ _ ⟨(), by (simp only [upd, Nat.reduceBEq, cond_true, cond_false, hd, E9]; try rfl), ⟨Q0.out, Q1.out, Q2.out, fun h => ⟨rfl, (Q3.out h).2.1, (Q3.out h).2.2⟩⟩⟩
        · rintro L g0 W hL hd ⟨q0, q1, q2, q3⟩
          try dsimp only at q0 q1 q2 q3
          try simp only [depsT, Region.binds, forall_const, and_true, beq_iff_eq, reduceCtorEq, false_implies, true_and] at hd
          intro K hK; refine do_wanted rfl ?_
          have HK := Lib.hid hK; clear hK
          try simp only [hd, cond_true]
          have Q0 := Lib.hid q0; have Q1 := Lib.hid q1; have Q2 := Lib.hid q2; have Q3 := Lib.hid q3
          clear q0 q1 q2 q3
          go_wp2
          exact HK.out _ _ ⟨(), by simp only [upd, Nat.reduceBEq, cond_true, cond_false, hd], ⟨Q0.out, Q1.out, Q2.out, Q3.out⟩⟩
        · rintro L g0 W hL hd ⟨q0, q1, q2, q3⟩
          try dsimp only at q0 q1 q2 q3
          try simp only [depsT, Region.binds, forall_const, and_true, beq_iff_eq, reduceCtorEq, false_implies, true_and] at hd
          intro K hK; refine do_wanted rfl ?_
          have HK := Lib.hid hK; clear hK
          try simp only [hd, cond_true]
          have E9 : L 9 = false := (by cases h : L 9 with | false => rfl | true => exact absurd ((q3 h).2.1) (by rw [hL]; simp))
          have Q0 := Lib.hid q0; have Q1 := Lib.hid q1; have Q2 := Lib.hid q2; have Q3 := Lib.hid q3
          clear q0 q1 q2 q3
          (try simp only [E9, cond_false]); go_wp2
          exact HK.out _ _ ⟨(), by (simp only [upd, Nat.reduceBEq, cond_true, cond_false, hd, E9]; try rfl), ⟨Q0.out, Q1.out, Q2.out, fun h => ⟨(Q3.out h).1, rfl, (Q3.out h).2.2⟩⟩⟩
        · rintro L g0 W hL hd ⟨q0, q1, q2, q3⟩
          try dsimp only at q0 q1 q2 q3
          try simp only [depsT, Region.binds, forall_const, and_true, beq_iff_eq, reduceCtorEq, false_implies, true_and] at hd
          intro K hK; refine do_wanted rfl ?_
          have HK := Lib.hid hK; clear hK
          try simp only [hd, cond_true]
          have Q0 := Lib.hid q0; have Q1 := Lib.hid q1; have Q2 := Lib.hid q2; have Q3 := Lib.hid q3
          clear q0 q1 q2 q3
          go_wp2
          exact HK.out _ _ ⟨(), by simp only [upd, Nat.reduceBEq, cond_true, cond_false, hd], ⟨Q0.out, Q1.out, Q2.out, Q3.out⟩⟩
        · rintro L g0 W hL hd ⟨q0, q1, q2, q3⟩
          try dsimp only at q0 q1 q2 q3
          try simp only [depsT, Region.binds, forall_const, and_true, beq_iff_eq, reduceCtorEq, false_implies, true_and] at hd
          intro K hK; refine do_wanted rfl ?_
          have HK := Lib.hid hK; clear hK
          try simp only [hd, cond_true]
          have Q0 := Lib.hid q0; have Q1 := Lib.hid q1; have Q2 := Lib.hid q2; have Q3 := Lib.hid q3
          clear q0 q1 q2 q3
          go_wp2
          exact HK.out _ _ ⟨(), by simp only [upd, Nat.reduceBEq, cond_true, cond_false, hd], ⟨Q0.out, Q1.out, Q2.out, Q3.out⟩⟩
        · rintro L g0 W hL hd ⟨q0, q1, q2, q3⟩
          try dsimp only at q0 q1 q2 q3
          try simp only [depsT, Region.binds, forall_const, and_true, beq_iff_eq, reduceCtorEq, false_implies, true_and] at hd
          intro K hK; refine do_wanted rfl ?_
          have HK := Lib.hid hK; clear hK
          try simp only [hd, cond_true]
          have E9 : L 9 = false := (by cases h : L 9 with | false => rfl | true => exact absurd ((q3 h).2.2) (by rw [hL]; simp))
          have Q0 := Lib.hid q0; have Q1 := Lib.hid q1; have Q2 := Lib.hid q2; have Q3 := Lib.hid q3
          clear q0 q1 q2 q3
          (try simp only [E9, cond_false]); go_wp2
          exact HK.out _ _ ⟨(), by (simp only [upd, Nat.reduceBEq, cond_true, cond_false, hd, E9]; try rfl), ⟨Q0.out, Q1.out, Q2.out, fun h => ⟨(Q3.out h).1, (Q3.out h).2.1, rfl⟩⟩⟩
        · rintro L g0 W hL hd ⟨q0, q1, q2, q3⟩
          try dsimp only at q0 q1 q2 q3
          try simp only [depsT, Region.binds, forall_const, and_true, beq_iff_eq, reduceCtorEq, false_implies, true_and] at hd
          intro K hK; refine do_wanted rfl ?_
          have HK := Lib.hid hK; clear hK
          try simp only [hd, cond_true]
          have Q0 := Lib.hid q0; have Q1 := Lib.hid q1; have Q2 := Lib.hid q2; have Q3 := Lib.hid q3
          clear q0 q1 q2 q3
          go_wp2
          exact HK.out _ _ ⟨(), by simp only [upd, Nat.reduceBEq, cond_true, cond_false, hd], ⟨Q0.out, Q1.out, Q2.out, Q3.out⟩⟩
        · rintro L g0 W hL hd ⟨q0, q1, q2, q3⟩
          try dsimp only at q0 q1 q2 q3
          try simp only [depsT, Region.binds, forall_const, and_true, beq_iff_eq, reduceCtorEq, false_implies, true_and] at hd
          intro K hK; refine do_wanted rfl ?_
          have HK := Lib.hid hK; clear hK
          try simp only [hd, cond_true]
          have hz := q1 hL
          have hcp : (Builtin.copy_ #[22, 22] 3 #[.slice (some ⟨w.heap.size, 1, none⟩) 4 4, .slice (some ⟨w.heap.size, 0, none⟩) 1 5]).run Try.prog W = .ok (goInt 1) (W.setRow w.heap.size (repV 2)) := rep_copy (n := 1) (c := 1) (l := 1) (sc := 5) (dc := 4) hz (rep_self hz (by decide)) rfl (by decide) rfl
          have HZ2 := Lib.hid (show Box (W.setRow w.heap.size (repV 2)) w.heap.size (repV 2) 3 from setRow_heap W _ _ _ _ _ hz)
          have HY := Lib.hid (below_setRow q0 (Nat.le_refl _) (repV 2))
          clear hz
          have Q0 := Lib.hid q0; have Q1 := Lib.hid q1; have Q2 := Lib.hid q2; have Q3 := Lib.hid q3
          clear q0 q1 q2 q3
          go_wp2
          exact HK.out _ _ ⟨(), by simp only [upd, Nat.reduceBEq, cond_true, cond_false, hd], ⟨HY.out, fun h => absurd h (by simp [upd]), fun _ => HZ2.out, Q3.out⟩⟩
        · rintro L g0 W hL hd ⟨q0, q1, q2, q3⟩
          try dsimp only at q0 q1 q2 q3
          try simp only [depsT, Region.binds, forall_const, and_true, beq_iff_eq, reduceCtorEq, false_implies, true_and] at hd
          intro K hK; refine do_wanted rfl ?_
          have HK := Lib.hid hK; clear hK
          try simp only [hd, cond_true]
          have Q0 := Lib.hid q0; have Q1 := Lib.hid q1; have Q2 := Lib.hid q2; have Q3 := Lib.hid q3
          clear q0 q1 q2 q3
          go_wp2
          exact HK.out _ _ ⟨(), by simp only [upd, Nat.reduceBEq, cond_true, cond_false, hd], ⟨Q0.out, Q1.out, Q2.out, Q3.out⟩⟩
        · rintro L g0 W hL hd ⟨q0, q1, q2, q3⟩
          try dsimp only at q0 q1 q2 q3
          try simp only [depsT, Region.binds, forall_const, and_true, beq_iff_eq, reduceCtorEq, false_implies, true_and] at hd
          intro K hK; refine do_wanted rfl ?_
          have HK := Lib.hid hK; clear hK
          try simp only [hd, cond_true]
          have Q0 := Lib.hid q0; have Q1 := Lib.hid q1; have Q2 := Lib.hid q2; have Q3 := Lib.hid q3
          clear q0 q1 q2 q3
          go_wp2
          exact HK.out _ _ ⟨(), by simp only [upd, Nat.reduceBEq, cond_true, cond_false, hd], ⟨Q0.out, Q1.out, Q2.out, fun _ => ⟨(show L 0 = true by simp only [hd]), (show L 2 = true by simp only [hd]), (show L 5 = true by simp only [hd])⟩⟩⟩
      · simp (config := { maxSteps := 4000000 }) only [layT, Nat.reduceAdd, Nat.reduceBEq, cond_true, cond_false]
        rintro L g0 W hd ⟨q0, q1, q2, q3⟩
        simp only [doneT, true_and, List.length_cons, List.length_nil, Nat.reduceAdd] at hd
        obtain ⟨⟨⟨⟨⟨⟨⟨⟨⟨e0, e1⟩, e2⟩, e3⟩, e4⟩, e5⟩, e6⟩, e7⟩, e8⟩, e9⟩ := hd
        try dsimp only at q0 q1 q2 q3
        simp only [e0, e1, e2, e3, e4, e5, e6, e7, e8, e9, cond_true]
        have Y := Lib.hid (q2 e7); have HY := Lib.hid q0
        clear q0 q1 q2 q3
        go_wp2
        exact ⟨⟨2, by decide, rfl, Y.out, HY.out⟩, by simp [intOf]⟩
    · go_upto_region 9 with fail
      refine wp_region_tab (G := Unit) (fun g => [(8, 9, .int .i64 4), (29, 0, .int .i64 2), (0, 1, .slice (some ⟨w.heap.size, 0, none⟩) 5 5), (0, 2, .int .i64 2), (0, 3, .slice (some ⟨w.heap.size, 2, none⟩) 3 3), (0, 4, .slice (some ⟨w.heap.size, 0, none⟩) 5 5), (0, 5, .int .i64 2), (0, 6, .slice (some ⟨w.heap.size, 0, none⟩) 2 5), (0, 7, .int .i64 2), (0, 8, .int .i64 4)])
          (fun L g W => (Below w.heap.size w W) ∧
            (L 7 = false → Box W w.heap.size (repV 2) 3) ∧
            (L 7 = true → Box W w.heap.size (repV 4) 3) ∧
            ((L 9 = true → L 0 = true ∧ L 2 = true ∧ L 5 = true)))
          (()) (by kernel_rfl) (by kernel_rfl) (fun _ => rfl) ?_ ?_ ?_
      · exact ⟨HB1.out.drew, fun _ => X1.out.drew, nofun, nofun⟩
      · simp (config := { maxSteps := 4000000 }) only [StepsT, layT, Nat.reduceAdd, Nat.reduceBEq, cond_true, cond_false]
        refine ⟨?_, ?_, ?_, ?_, ?_, ?_, ?_, ?_, ?_, ?_, trivial⟩
        · rintro L g0 W hL hd ⟨q0, q1, q2, q3⟩
          try dsimp only at q0 q1 q2 q3
          try simp only [depsT, Region.binds, forall_const, and_true, beq_iff_eq, reduceCtorEq, false_implies, true_and] at hd
          intro K hK; refine do_wanted rfl ?_
          have HK := Lib.hid hK; clear hK
          try simp only [hd, cond_true]
          have E9 : L 9 = false := (by cases h : L 9 with | false => rfl | true => exact absurd ((q3 h).1) (by rw [hL]; simp))
          have Q0 := Lib.hid q0; have Q1 := Lib.hid q1; have Q2 := Lib.hid q2; have Q3 := Lib.hid q3
          clear q0 q1 q2 q3
          (try simp only [E9, cond_false]); go_wp2
          exact HK.out _ _ ⟨(), by (simp only [upd, Nat.reduceBEq, cond_true, cond_false, hd, E9]; try rfl), ⟨Q0.out, Q1.out, Q2.out, fun h => ⟨rfl, (Q3.out h).2.1, (Q3.out h).2.2⟩⟩⟩
        · rintro L g0 W hL hd ⟨q0, q1, q2, q3⟩
          try dsimp only at q0 q1 q2 q3
          try simp only [depsT, Region.binds, forall_const, and_true, beq_iff_eq, reduceCtorEq, false_implies, true_and] at hd
          intro K hK; refine do_wanted rfl ?_
          have HK := Lib.hid hK; clear hK
          try simp only [hd, cond_true]
          have Q0 := Lib.hid q0; have Q1 := Lib.hid q1; have Q2 := Lib.hid q2; have Q3 := Lib.hid q3
          clear q0 q1 q2 q3
          go_wp2
          exact HK.out _ _ ⟨(), by simp only [upd, Nat.reduceBEq, cond_true, cond_false, hd], ⟨Q0.out, Q1.out, Q2.out, Q3.out⟩⟩
        · rintro L g0 W hL hd ⟨q0, q1, q2, q3⟩
          try dsimp only at q0 q1 q2 q3
          try simp only [depsT, Region.binds, forall_const, and_true, beq_iff_eq, reduceCtorEq, false_implies, true_and] at hd
          intro K hK; refine do_wanted rfl ?_
          have HK := Lib.hid hK; clear hK
          try simp only [hd, cond_true]
          have E9 : L 9 = false := (by cases h : L 9 with | false => rfl | true => exact absurd ((q3 h).2.1) (by rw [hL]; simp))
          have Q0 := Lib.hid q0; have Q1 := Lib.hid q1; have Q2 := Lib.hid q2; have Q3 := Lib.hid q3
          clear q0 q1 q2 q3
          (try simp only [E9, cond_false]); go_wp2
          exact HK.out _ _ ⟨(), by (simp only [upd, Nat.reduceBEq, cond_true, cond_false, hd, E9]; try rfl), ⟨Q0.out, Q1.out, Q2.out, fun h => ⟨(Q3.out h).1, rfl, (Q3.out h).2.2⟩⟩⟩
        · rintro L g0 W hL hd ⟨q0, q1, q2, q3⟩
          try dsimp only at q0 q1 q2 q3
          try simp only [depsT, Region.binds, forall_const, and_true, beq_iff_eq, reduceCtorEq, false_implies, true_and] at hd
          intro K hK; refine do_wanted rfl ?_
          have HK := Lib.hid hK; clear hK
          try simp only [hd, cond_true]
          have Q0 := Lib.hid q0; have Q1 := Lib.hid q1; have Q2 := Lib.hid q2; have Q3 := Lib.hid q3
          clear q0 q1 q2 q3
          go_wp2
          exact HK.out _ _ ⟨(), by simp only [upd, Nat.reduceBEq, cond_true, cond_false, hd], ⟨Q0.out, Q1.out, Q2.out, Q3.out⟩⟩
        · rintro L g0 W hL hd ⟨q0, q1, q2, q3⟩
          try dsimp only at q0 q1 q2 q3
          try simp only [depsT, Region.binds, forall_const, and_true, beq_iff_eq, reduceCtorEq, false_implies, true_and] at hd
          intro K hK; refine do_wanted rfl ?_
          have HK := Lib.hid hK; clear hK
          try simp only [hd, cond_true]
          have Q0 := Lib.hid q0; have Q1 := Lib.hid q1; have Q2 := Lib.hid q2; have Q3 := Lib.hid q3
          clear q0 q1 q2 q3
          go_wp2
          exact HK.out _ _ ⟨(), by simp only [upd, Nat.reduceBEq, cond_true, cond_false, hd], ⟨Q0.out, Q1.out, Q2.out, Q3.out⟩⟩
        · rintro L g0 W hL hd ⟨q0, q1, q2, q3⟩
          try dsimp only at q0 q1 q2 q3
          try simp only [depsT, Region.binds, forall_const, and_true, beq_iff_eq, reduceCtorEq, false_implies, true_and] at hd
          intro K hK; refine do_wanted rfl ?_
          have HK := Lib.hid hK; clear hK
          try simp only [hd, cond_true]
          have E9 : L 9 = false := (by cases h : L 9 with | false => rfl | true => exact absurd ((q3 h).2.2) (by rw [hL]; simp))
          have Q0 := Lib.hid q0; have Q1 := Lib.hid q1; have Q2 := Lib.hid q2; have Q3 := Lib.hid q3
          clear q0 q1 q2 q3
          (try simp only [E9, cond_false]); go_wp2
          exact HK.out _ _ ⟨(), by (simp only [upd, Nat.reduceBEq, cond_true, cond_false, hd, E9]; try rfl), ⟨Q0.out, Q1.out, Q2.out, fun h => ⟨(Q3.out h).1, (Q3.out h).2.1, rfl⟩⟩⟩
        · rintro L g0 W hL hd ⟨q0, q1, q2, q3⟩
          try dsimp only at q0 q1 q2 q3
          try simp only [depsT, Region.binds, forall_const, and_true, beq_iff_eq, reduceCtorEq, false_implies, true_and] at hd
          intro K hK; refine do_wanted rfl ?_
          have HK := Lib.hid hK; clear hK
          try simp only [hd, cond_true]
          have Q0 := Lib.hid q0; have Q1 := Lib.hid q1; have Q2 := Lib.hid q2; have Q3 := Lib.hid q3
          clear q0 q1 q2 q3
          go_wp2
          exact HK.out _ _ ⟨(), by simp only [upd, Nat.reduceBEq, cond_true, cond_false, hd], ⟨Q0.out, Q1.out, Q2.out, Q3.out⟩⟩
        · rintro L g0 W hL hd ⟨q0, q1, q2, q3⟩
          try dsimp only at q0 q1 q2 q3
          try simp only [depsT, Region.binds, forall_const, and_true, beq_iff_eq, reduceCtorEq, false_implies, true_and] at hd
          intro K hK; refine do_wanted rfl ?_
          have HK := Lib.hid hK; clear hK
          try simp only [hd, cond_true]
          have hz := q1 hL
          have hcp : (Builtin.copy_ #[22, 22] 3 #[.slice (some ⟨w.heap.size, 2, none⟩) 3 3, .slice (some ⟨w.heap.size, 0, none⟩) 2 5]).run Try.prog W = .ok (goInt 2) (W.setRow w.heap.size (repV 4)) := rep_copy (n := 2) (c := 2) (l := 2) (sc := 5) (dc := 3) hz (rep_self hz (by decide)) rfl (by decide) rfl
          have HZ2 := Lib.hid (show Box (W.setRow w.heap.size (repV 4)) w.heap.size (repV 4) 3 from setRow_heap W _ _ _ _ _ hz)
          have HY := Lib.hid (below_setRow q0 (Nat.le_refl _) (repV 4))
          clear hz
          have Q0 := Lib.hid q0; have Q1 := Lib.hid q1; have Q2 := Lib.hid q2; have Q3 := Lib.hid q3
          clear q0 q1 q2 q3
          go_wp2
          exact HK.out _ _ ⟨(), by simp only [upd, Nat.reduceBEq, cond_true, cond_false, hd], ⟨HY.out, fun h => absurd h (by simp [upd]), fun _ => HZ2.out, Q3.out⟩⟩
        · rintro L g0 W hL hd ⟨q0, q1, q2, q3⟩
          try dsimp only at q0 q1 q2 q3
          try simp only [depsT, Region.binds, forall_const, and_true, beq_iff_eq, reduceCtorEq, false_implies, true_and] at hd
          intro K hK; refine do_wanted rfl ?_
          have HK := Lib.hid hK; clear hK
          try simp only [hd, cond_true]
          have Q0 := Lib.hid q0; have Q1 := Lib.hid q1; have Q2 := Lib.hid q2; have Q3 := Lib.hid q3
          clear q0 q1 q2 q3
          go_wp2
          exact HK.out _ _ ⟨(), by simp only [upd, Nat.reduceBEq, cond_true, cond_false, hd], ⟨Q0.out, Q1.out, Q2.out, Q3.out⟩⟩
        · rintro L g0 W hL hd ⟨q0, q1, q2, q3⟩
          try dsimp only at q0 q1 q2 q3
          try simp only [depsT, Region.binds, forall_const, and_true, beq_iff_eq, reduceCtorEq, false_implies, true_and] at hd
          intro K hK; refine do_wanted rfl ?_
          have HK := Lib.hid hK; clear hK
          try simp only [hd, cond_true]
          have Q0 := Lib.hid q0; have Q1 := Lib.hid q1; have Q2 := Lib.hid q2; have Q3 := Lib.hid q3
          clear q0 q1 q2 q3
          go_wp2
          exact HK.out _ _ ⟨(), by simp only [upd, Nat.reduceBEq, cond_true, cond_false, hd], ⟨Q0.out, Q1.out, Q2.out, fun _ => ⟨(show L 0 = true by simp only [hd]), (show L 2 = true by simp only [hd]), (show L 5 = true by simp only [hd])⟩⟩⟩
      · simp (config := { maxSteps := 4000000 }) only [layT, Nat.reduceAdd, Nat.reduceBEq, cond_true, cond_false]
        rintro L g0 W hd ⟨q0, q1, q2, q3⟩
        simp only [doneT, true_and, List.length_cons, List.length_nil, Nat.reduceAdd] at hd
        obtain ⟨⟨⟨⟨⟨⟨⟨⟨⟨e0, e1⟩, e2⟩, e3⟩, e4⟩, e5⟩, e6⟩, e7⟩, e8⟩, e9⟩ := hd
        try dsimp only at q0 q1 q2 q3
        simp only [e0, e1, e2, e3, e4, e5, e6, e7, e8, e9, cond_true]
        have Y := Lib.hid (q2 e7); have HY := Lib.hid q0
        clear q0 q1 q2 q3
        go_wp2
        exact ⟨⟨4, by decide, rfl, Y.out, HY.out⟩, by simp [intOf]⟩
    · go_upto_region 9 with fail
      refine wp_region_tab (G := Unit) (fun g => [(8, 9, .int .i64 5), (29, 0, .int .i64 4), (0, 1, .slice (some ⟨w.heap.size, 0, none⟩) 5 5), (0, 2, .int .i64 4), (0, 3, .slice (some ⟨w.heap.size, 4, none⟩) 1 1), (0, 4, .slice (some ⟨w.heap.size, 0, none⟩) 5 5), (0, 5, .int .i64 4), (0, 6, .slice (some ⟨w.heap.size, 0, none⟩) 4 5), (0, 7, .int .i64 1), (0, 8, .int .i64 5)])
          (fun L g W => (Below w.heap.size w W) ∧
            (L 7 = false → Box W w.heap.size (repV 4) 3) ∧
            (L 7 = true → Box W w.heap.size (repV 5) 3) ∧
            ((L 9 = true → L 0 = true ∧ L 2 = true ∧ L 5 = true)))
          (()) (by kernel_rfl) (by kernel_rfl) (fun _ => rfl) ?_ ?_ ?_
      · exact ⟨HB1.out.drew, fun _ => X1.out.drew, nofun, nofun⟩
      · simp (config := { maxSteps := 4000000 }) only [StepsT, layT, Nat.reduceAdd, Nat.reduceBEq, cond_true, cond_false]
        refine ⟨?_, ?_, ?_, ?_, ?_, ?_, ?_, ?_, ?_, ?_, trivial⟩
        · rintro L g0 W hL hd ⟨q0, q1, q2, q3⟩
          try dsimp only at q0 q1 q2 q3
          try simp only [depsT, Region.binds, forall_const, and_true, beq_iff_eq, reduceCtorEq, false_implies, true_and] at hd
          intro K hK; refine do_wanted rfl ?_
          have HK := Lib.hid hK; clear hK
          try simp only [hd, cond_true]
          have E9 : L 9 = false := (by cases h : L 9 with | false => rfl | true => exact absurd ((q3 h).1) (by rw [hL]; simp))
          have Q0 := Lib.hid q0; have Q1 := Lib.hid q1; have Q2 := Lib.hid q2; have Q3 := Lib.hid q3
          clear q0 q1 q2 q3
          (try simp only [E9, cond_false]); go_wp2
          exact HK.out _ _ ⟨(), by (simp only [upd, Nat.reduceBEq, cond_true, cond_false, hd, E9]; try rfl), ⟨Q0.out, Q1.out, Q2.out, fun h => ⟨rfl, (Q3.out h).2.1, (Q3.out h).2.2⟩⟩⟩
        · rintro L g0 W hL hd ⟨q0, q1, q2, q3⟩
          try dsimp only at q0 q1 q2 q3
          try simp only [depsT, Region.binds, forall_const, and_true, beq_iff_eq, reduceCtorEq, false_implies, true_and] at hd
          intro K hK; refine do_wanted rfl ?_
          have HK := Lib.hid hK; clear hK
          try simp only [hd, cond_true]
          have Q0 := Lib.hid q0; have Q1 := Lib.hid q1; have Q2 := Lib.hid q2; have Q3 := Lib.hid q3
          clear q0 q1 q2 q3
          go_wp2
          exact HK.out _ _ ⟨(), by simp only [upd, Nat.reduceBEq, cond_true, cond_false, hd], ⟨Q0.out, Q1.out, Q2.out, Q3.out⟩⟩
        · rintro L g0 W hL hd ⟨q0, q1, q2, q3⟩
          try dsimp only at q0 q1 q2 q3
          try simp only [depsT, Region.binds, forall_const, and_true, beq_iff_eq, reduceCtorEq, false_implies, true_and] at hd
          intro K hK; refine do_wanted rfl ?_
          have HK := Lib.hid hK; clear hK
          try simp only [hd, cond_true]
          have E9 : L 9 = false := (by cases h : L 9 with | false => rfl | true => exact absurd ((q3 h).2.1) (by rw [hL]; simp))
          have Q0 := Lib.hid q0; have Q1 := Lib.hid q1; have Q2 := Lib.hid q2; have Q3 := Lib.hid q3
          clear q0 q1 q2 q3
          (try simp only [E9, cond_false]); go_wp2
          exact HK.out _ _ ⟨(), by (simp only [upd, Nat.reduceBEq, cond_true, cond_false, hd, E9]; try rfl), ⟨Q0.out, Q1.out, Q2.out, fun h => ⟨(Q3.out h).1, rfl, (Q3.out h).2.2⟩⟩⟩
        · rintro L g0 W hL hd ⟨q0, q1, q2, q3⟩
          try dsimp only at q0 q1 q2 q3
          try simp only [depsT, Region.binds, forall_const, and_true, beq_iff_eq, reduceCtorEq, false_implies, true_and] at hd
          intro K hK; refine do_wanted rfl ?_
          have HK := Lib.hid hK; clear hK
          try simp only [hd, cond_true]
          have Q0 := Lib.hid q0; have Q1 := Lib.hid q1; have Q2 := Lib.hid q2; have Q3 := Lib.hid q3
          clear q0 q1 q2 q3
          go_wp2
          exact HK.out _ _ ⟨(), by simp only [upd, Nat.reduceBEq, cond_true, cond_false, hd], ⟨Q0.out, Q1.out, Q2.out, Q3.out⟩⟩
        · rintro L g0 W hL hd ⟨q0, q1, q2, q3⟩
          try dsimp only at q0 q1 q2 q3
          try simp only [depsT, Region.binds, forall_const, and_true, beq_iff_eq, reduceCtorEq, false_implies, true_and] at hd
          intro K hK; refine do_wanted rfl ?_
          have HK := Lib.hid hK; clear hK
          try simp only [hd, cond_true]
          have Q0 := Lib.hid q0; have Q1 := Lib.hid q1; have Q2 := Lib.hid q2; have Q3 := Lib.hid q3
          clear q0 q1 q2 q3
          go_wp2
          exact HK.out _ _ ⟨(), by simp only [upd, Nat.reduceBEq, cond_true, cond_false, hd], ⟨Q0.out, Q1.out, Q2.out, Q3.out⟩⟩
        · rintro L g0 W hL hd ⟨q0, q1, q2, q3⟩
          try dsimp only at q0 q1 q2 q3
          try simp only [depsT, Region.binds, forall_const, and_true, beq_iff_eq, reduceCtorEq, false_implies, true_and] at hd
          intro K hK; refine do_wanted rfl ?_
          have HK := Lib.hid hK; clear hK
          try simp only [hd, cond_true]
          have E9 : L 9 = false := (by cases h : L 9 with | false => rfl | true => exact absurd ((q3 h).2.2) (by rw [hL]; simp))
          have Q0 := Lib.hid q0; have Q1 := Lib.hid q1; have Q2 := Lib.hid q2; have Q3 := Lib.hid q3
          clear q0 q1 q2 q3
          (try simp only [E9, cond_false]); go_wp2
          exact HK.out _ _ ⟨(), by (simp only [upd, Nat.reduceBEq, cond_true, cond_false, hd, E9]; try rfl), ⟨Q0.out, Q1.out, Q2.out, fun h => ⟨(Q3.out h).1, (Q3.out h).2.1, rfl⟩⟩⟩
        · rintro L g0 W hL hd ⟨q0, q1, q2, q3⟩
          try dsimp only at q0 q1 q2 q3
          try simp only [depsT, Region.binds, forall_const, and_true, beq_iff_eq, reduceCtorEq, false_implies, true_and] at hd
          intro K hK; refine do_wanted rfl ?_
          have HK := Lib.hid hK; clear hK
          try simp only [hd, cond_true]
          have Q0 := Lib.hid q0; have Q1 := Lib.hid q1; have Q2 := Lib.hid q2; have Q3 := Lib.hid q3
          clear q0 q1 q2 q3
          go_wp2
          exact HK.out _ _ ⟨(), by simp only [upd, Nat.reduceBEq, cond_true, cond_false, hd], ⟨Q0.out, Q1.out, Q2.out, Q3.out⟩⟩
        · rintro L g0 W hL hd ⟨q0, q1, q2, q3⟩
          try dsimp only at q0 q1 q2 q3
          try simp only [depsT, Region.binds, forall_const, and_true, beq_iff_eq, reduceCtorEq, false_implies, true_and] at hd
          intro K hK; refine do_wanted rfl ?_
          have HK := Lib.hid hK; clear hK
          try simp only [hd, cond_true]
          have hz := q1 hL
          have hcp : (Builtin.copy_ #[22, 22] 3 #[.slice (some ⟨w.heap.size, 4, none⟩) 1 1, .slice (some ⟨w.heap.size, 0, none⟩) 4 5]).run Try.prog W = .ok (goInt 1) (W.setRow w.heap.size (repV 5)) := rep_copy (n := 4) (c := 1) (l := 4) (sc := 5) (dc := 1) hz (rep_self hz (by decide)) rfl (by decide) rfl
          have HZ2 := Lib.hid (show Box (W.setRow w.heap.size (repV 5)) w.heap.size (repV 5) 3 from setRow_heap W _ _ _ _ _ hz)
          have HY := Lib.hid (below_setRow q0 (Nat.le_refl _) (repV 5))
          clear hz
          have Q0 := Lib.hid q0; have Q1 := Lib.hid q1; have Q2 := Lib.hid q2; have Q3 := Lib.hid q3
          clear q0 q1 q2 q3
          go_wp2
          exact HK.out _ _ ⟨(), by simp only [upd, Nat.reduceBEq, cond_true, cond_false, hd], ⟨HY.out, fun h => absurd h (by simp [upd]), fun _ => HZ2.out, Q3.out⟩⟩
        · rintro L g0 W hL hd ⟨q0, q1, q2, q3⟩
          try dsimp only at q0 q1 q2 q3
          try simp only [depsT, Region.binds, forall_const, and_true, beq_iff_eq, reduceCtorEq, false_implies, true_and] at hd
          intro K hK; refine do_wanted rfl ?_
          have HK := Lib.hid hK; clear hK
          try simp only [hd, cond_true]
          have Q0 := Lib.hid q0; have Q1 := Lib.hid q1; have Q2 := Lib.hid q2; have Q3 := Lib.hid q3
          clear q0 q1 q2 q3
          go_wp2
          exact HK.out _ _ ⟨(), by simp only [upd, Nat.reduceBEq, cond_true, cond_false, hd], ⟨Q0.out, Q1.out, Q2.out, Q3.out⟩⟩
        · rintro L g0 W hL hd ⟨q0, q1, q2, q3⟩
          try dsimp only at q0 q1 q2 q3
          try simp only [depsT, Region.binds, forall_const, and_true, beq_iff_eq, reduceCtorEq, false_implies, true_and] at hd
          intro K hK; refine do_wanted rfl ?_
          have HK := Lib.hid hK; clear hK
          try simp only [hd, cond_true]
          have Q0 := Lib.hid q0; have Q1 := Lib.hid q1; have Q2 := Lib.hid q2; have Q3 := Lib.hid q3
          clear q0 q1 q2 q3
          go_wp2
          exact HK.out _ _ ⟨(), by simp only [upd, Nat.reduceBEq, cond_true, cond_false, hd], ⟨Q0.out, Q1.out, Q2.out, fun _ => ⟨(show L 0 = true by simp only [hd]), (show L 2 = true by simp only [hd]), (show L 5 = true by simp only [hd])⟩⟩⟩
      · simp (config := { maxSteps := 4000000 }) only [layT, Nat.reduceAdd, Nat.reduceBEq, cond_true, cond_false]
        rintro L g0 W hd ⟨q0, q1, q2, q3⟩
        simp only [doneT, true_and, List.length_cons, List.length_nil, Nat.reduceAdd] at hd
        obtain ⟨⟨⟨⟨⟨⟨⟨⟨⟨e0, e1⟩, e2⟩, e3⟩, e4⟩, e5⟩, e6⟩, e7⟩, e8⟩, e9⟩ := hd
        try dsimp only at q0 q1 q2 q3
        simp only [e0, e1, e2, e3, e4, e5, e6, e7, e8, e9, cond_true]
        have Y := Lib.hid (q2 e7); have HY := Lib.hid q0
        clear q0 q1 q2 q3
        go_wp2
        exact ⟨⟨5, by decide, rfl, Y.out, HY.out⟩, by simp [intOf]⟩
    · go_wp2
      go_ret
      exact ⟨_, rfl, [w.heap.size], rep_row X1.out, by simp, by simp, HB1.out⟩
end Go.Proofs.Ytaeignjpklgelaa
