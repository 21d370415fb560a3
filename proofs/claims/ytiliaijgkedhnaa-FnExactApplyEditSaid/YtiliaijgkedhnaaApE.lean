/- One is deleted out of a row, walked. -/
import Derived.Test.YtiliaijgkedhnaaApD
namespace Go.Proofs.Ytiliaijgkedhnaa
open Go Go.RowKit Go.Sort
set_option linter.unusedVariables false
set_option linter.unusedSimpArgs false

set_option maxHeartbeats 1000000 in
set_option maxRecDepth 100000 in
theorem delM_calls {l : List DMeta} {gd cap k : Nat} {F : List Nat} {w : World} (hR : kMeta.Row 52 w F l (.slice (some ⟨gd, 0, none⟩) l.length cap)) (hk : k < l.length) (hl : l.length ≤ 1000) :
    Calls Try.prog 25 #[.slice (some ⟨gd, 0, none⟩) l.length cap, .int .i64 (k : Int), .int .i64 ((k : Int) + 1)] w
    fun e w' => e = .returned (.slice (some ⟨gd, 0, none⟩) (l.length - 1) cap) ∧ kMeta.Row 52 w' F (l.take k ++ l.drop (k + 1)) (.slice (some ⟨gd, 0, none⟩) (l.length - 1) cap) ∧ KeptF F w w' := by
  obtain ⟨h1, _, _⟩ | ⟨g_, cap_, cur, he, rfl, hg, hlc, hcm, hs, ht⟩ := kMeta_enc.Row_of hR
  · cases h1
  obtain ⟨rfl, _, rfl⟩ : gd = g_ ∧ l.length = l.length ∧ cap = cap_ := by simpa using he
  clear he
  have hgl : gd < w.heap.size := (Array.getElem?_eq_some_iff.1 hg).1
  have i1 : (0 : Int) ≤ (k : Int) := by omega
  have i2 : (k : Int) ≤ (k : Int) + 1 := by omega
  have i3 : (k : Int) + 1 ≤ (l.length : Int) := by omega
  have i4 : (l.length : Int) ≤ (cap : Int) := by omega
  have i5 : (k : Int) ≤ (cap : Int) := by omega
  have i6 : (k : Int) ≤ (l.length : Int) := by omega
  have i7 : (k : Int) + 1 ≤ (cap : Int) := by omega
  have i8 : ((k : Int) + 1).toNat = k + 1 := by omega
  have i9 : ((k : Int) == (k : Int) + 1) = false := by rw [beq_eq_false_iff_ne]; omega
  have i10 : ¬ (k : Int) = (k : Int) + 1 := by omega
  have i11 : (0 : Int) ≤ (k : Int) + 1 := by omega
  have HG := Lib.hid hg; have HT := Lib.hid ht; have HS := Lib.hid hs; have HCM := Lib.hid hcm
  clear hg ht hs hcm hR
  go_enter Try.func25, Try.ntmps25
  go_upto_region 5 with fail
  by_cases hz : cap = k + 1
  case pos =>
    obtain rfl := hz
    refine wp_region_tab (G := Unit) (fun g => [(0, 7, .slice (some ⟨gd, 0, none⟩) (l.length - 1) (k + 1)), (19, 0, .slice (some ⟨gd, 0, none⟩) l.length (k + 1)), (0, 1, .int .i64 (k : Int)), (0, 2, .slice (some ⟨gd, 0, none⟩) k (k + 1)), (0, 3, .slice (some ⟨gd, 0, none⟩) l.length (k + 1)), (0, 4, .int .i64 ((k : Int) + 1)), (0, 5, .slice (some ⟨gd, 0, none⟩) 0 0), (0, 6, .slice (some ⟨gd, 0, none⟩) (l.length - 1) (k + 1))])
        (fun L g W => (L 6 = false → W = w.drew) ∧
          (L 6 = true → W = w.drew.setRow gd (delX cur l k).toArray) ∧
          ((L 7 = true → L 6 = true)) ∧
          ((L 6 = true → L 2 = true ∧ L 5 = true)) ∧
          ((L 2 = true → L 0 = true)) ∧
          ((L 5 = true → L 3 = true)))
        (()) (by kernel_rfl) (by kernel_rfl) (fun _ => rfl) ?_ ?_ ?_
    · exact ⟨fun _ => rfl, nofun, nofun, nofun, nofun, nofun⟩
    · simp (config := { maxSteps := 4000000 }) only [StepsT, layT, Nat.reduceAdd, Nat.reduceBEq, cond_true, cond_false]
      refine ⟨?_, ?_, ?_, ?_, ?_, ?_, ?_, ?_, trivial⟩
      · rintro L g0 W hL hd ⟨q0, q1, q2, q3, q4, q5⟩
        try dsimp only at q0 q1 q2 q3 q4 q5
        try simp only [depsT, Region.binds, forall_const, and_true, beq_iff_eq, reduceCtorEq, false_implies, true_and] at hd
        intro K hK; refine do_wanted rfl ?_
        have HK := Lib.hid hK; clear hK
        try simp only [hd, cond_true]
        have E2 : L 2 = false := (by cases h : L 2 with | false => rfl | true => exact absurd (q4 h) (by rw [hL]; simp))
        have E6 : L 6 = false := (by cases h : L 6 with | false => rfl | true => exact absurd ((q3 h).1) (by rw [E2]; simp))
        have E7 : L 7 = false := (by cases h : L 7 with | false => rfl | true => exact absurd (q2 h) (by rw [E6]; simp))
        simp only [E7, cond_false]
        have Q0 := Lib.hid q0; have Q1 := Lib.hid q1; have Q2 := Lib.hid q2; have Q3 := Lib.hid q3; have Q4 := Lib.hid q4; have Q5 := Lib.hid q5
        clear q0 q1 q2 q3 q4 q5
        go_wp2
        exact HK.out _ _ ⟨(), by (simp only [upd, Nat.reduceBEq, cond_true, cond_false, hd, E2, E6, E7]; try rfl), ⟨Q0.out, Q1.out, Q2.out, Q3.out, fun h => rfl, Q5.out⟩⟩
      · rintro L g0 W hL hd ⟨q0, q1, q2, q3, q4, q5⟩
        try dsimp only at q0 q1 q2 q3 q4 q5
        try simp only [depsT, Region.binds, forall_const, and_true, beq_iff_eq, reduceCtorEq, false_implies, true_and] at hd
        intro K hK; refine do_wanted rfl ?_
        have HK := Lib.hid hK; clear hK
        try simp only [hd, cond_true]
        have Q0 := Lib.hid q0; have Q1 := Lib.hid q1; have Q2 := Lib.hid q2; have Q3 := Lib.hid q3; have Q4 := Lib.hid q4; have Q5 := Lib.hid q5
        clear q0 q1 q2 q3 q4 q5
        go_wp2
        exact HK.out _ _ ⟨(), by simp only [upd, Nat.reduceBEq, cond_true, cond_false, hd], ⟨Q0.out, Q1.out, Q2.out, Q3.out, Q4.out, Q5.out⟩⟩
      · rintro L g0 W hL hd ⟨q0, q1, q2, q3, q4, q5⟩
        try dsimp only at q0 q1 q2 q3 q4 q5
        try simp only [depsT, Region.binds, forall_const, and_true, beq_iff_eq, reduceCtorEq, false_implies, true_and] at hd
        intro K hK; refine do_wanted rfl ?_
        have HK := Lib.hid hK; clear hK
        try simp only [hd, cond_true]
        have Q0 := Lib.hid q0; have Q1 := Lib.hid q1; have Q2 := Lib.hid q2; have Q3 := Lib.hid q3; have Q4 := Lib.hid q4; have Q5 := Lib.hid q5
        clear q0 q1 q2 q3 q4 q5
        go_wp2
        exact HK.out _ _ ⟨(), by simp only [upd, Nat.reduceBEq, cond_true, cond_false, hd], ⟨Q0.out, Q1.out, Q2.out, fun h => ⟨rfl, (Q3.out h).2⟩, fun _ => (show L 0 = true by simp only [hd]), Q5.out⟩⟩
      · rintro L g0 W hL hd ⟨q0, q1, q2, q3, q4, q5⟩
        try dsimp only at q0 q1 q2 q3 q4 q5
        try simp only [depsT, Region.binds, forall_const, and_true, beq_iff_eq, reduceCtorEq, false_implies, true_and] at hd
        intro K hK; refine do_wanted rfl ?_
        have HK := Lib.hid hK; clear hK
        try simp only [hd, cond_true]
        have E5 : L 5 = false := (by cases h : L 5 with | false => rfl | true => exact absurd (q5 h) (by rw [hL]; simp))
        have E6 : L 6 = false := (by cases h : L 6 with | false => rfl | true => exact absurd ((q3 h).2) (by rw [E5]; simp))
        have E7 : L 7 = false := (by cases h : L 7 with | false => rfl | true => exact absurd (q2 h) (by rw [E6]; simp))
        simp only [E7, cond_false]
        have Q0 := Lib.hid q0; have Q1 := Lib.hid q1; have Q2 := Lib.hid q2; have Q3 := Lib.hid q3; have Q4 := Lib.hid q4; have Q5 := Lib.hid q5
        clear q0 q1 q2 q3 q4 q5
        go_wp2
        exact HK.out _ _ ⟨(), by (simp only [upd, Nat.reduceBEq, cond_true, cond_false, hd, E5, E6, E7]; try rfl), ⟨Q0.out, Q1.out, Q2.out, Q3.out, Q4.out, fun h => rfl⟩⟩
      · rintro L g0 W hL hd ⟨q0, q1, q2, q3, q4, q5⟩
        try dsimp only at q0 q1 q2 q3 q4 q5
        try simp only [depsT, Region.binds, forall_const, and_true, beq_iff_eq, reduceCtorEq, false_implies, true_and] at hd
        intro K hK; refine do_wanted rfl ?_
        have HK := Lib.hid hK; clear hK
        try simp only [hd, cond_true]
        have Q0 := Lib.hid q0; have Q1 := Lib.hid q1; have Q2 := Lib.hid q2; have Q3 := Lib.hid q3; have Q4 := Lib.hid q4; have Q5 := Lib.hid q5
        clear q0 q1 q2 q3 q4 q5
        go_wp2
        exact HK.out _ _ ⟨(), by simp only [upd, Nat.reduceBEq, cond_true, cond_false, hd], ⟨Q0.out, Q1.out, Q2.out, Q3.out, Q4.out, Q5.out⟩⟩
      · rintro L g0 W hL hd ⟨q0, q1, q2, q3, q4, q5⟩
        try dsimp only at q0 q1 q2 q3 q4 q5
        try simp only [depsT, Region.binds, forall_const, and_true, beq_iff_eq, reduceCtorEq, false_implies, true_and] at hd
        intro K hK; refine do_wanted rfl ?_
        have HK := Lib.hid hK; clear hK
        try simp only [hd, cond_true]
        have Q0 := Lib.hid q0; have Q1 := Lib.hid q1; have Q2 := Lib.hid q2; have Q3 := Lib.hid q3; have Q4 := Lib.hid q4; have Q5 := Lib.hid q5
        clear q0 q1 q2 q3 q4 q5
        go_wp2
        exact HK.out _ _ ⟨(), by simp only [upd, Nat.reduceBEq, cond_true, cond_false, hd], ⟨Q0.out, Q1.out, Q2.out, fun h => ⟨(Q3.out h).1, rfl⟩, Q4.out, fun _ => (show L 3 = true by simp only [hd])⟩⟩
      · rintro L g0 W hL hd ⟨q0, q1, q2, q3, q4, q5⟩
        try dsimp only at q0 q1 q2 q3 q4 q5
        try simp only [depsT, Region.binds, forall_const, and_true, beq_iff_eq, reduceCtorEq, false_implies, true_and] at hd
        intro K hK; refine do_wanted rfl ?_
        have HK := Lib.hid hK; clear hK
        try simp only [hd, cond_true]
        have E7 : L 7 = false := (by cases h : L 7 with | false => rfl | true => exact absurd (q2 h) (by rw [hL]; simp))
        simp only [E7, cond_false]
        obtain rfl := q0 hL
        have Q0 := Lib.hid q0; have Q1 := Lib.hid q1; have Q2 := Lib.hid q2; have Q3 := Lib.hid q3; have Q4 := Lib.hid q4; have Q5 := Lib.hid q5
        clear q0 q1 q2 q3 q4 q5
        have hda := del_app (w := w.drew) (cap := (k + 1)) HG.out (by omega) HS.out HT.out hk (⟨gd, 0, none⟩) (fun h => absurd h (by omega)) (0) 30
        rw [show l.length - (k + 1) = 0 by omega] at hda
        refine wp_app_known _ _ _ _ _ rfl _ _ rfl rfl hda ?_
        exact HK.out _ _ ⟨(), by (simp only [upd, Nat.reduceBEq, cond_true, cond_false, hd, E7]; try rfl), ⟨fun h => absurd (show true = false from h) (by simp), fun _ => rfl, fun h => rfl, fun _ => ⟨(show L 2 = true by simp only [hd]), (show L 5 = true by simp only [hd])⟩, Q4.out, Q5.out⟩⟩
      · rintro L g0 W hL hd ⟨q0, q1, q2, q3, q4, q5⟩
        try dsimp only at q0 q1 q2 q3 q4 q5
        try simp only [depsT, Region.binds, forall_const, and_true, beq_iff_eq, reduceCtorEq, false_implies, true_and] at hd
        intro K hK; refine do_wanted rfl ?_
        have HK := Lib.hid hK; clear hK
        try simp only [hd, cond_true]
        have Q0 := Lib.hid q0; have Q1 := Lib.hid q1; have Q2 := Lib.hid q2; have Q3 := Lib.hid q3; have Q4 := Lib.hid q4; have Q5 := Lib.hid q5
        clear q0 q1 q2 q3 q4 q5
        go_wp2
        exact HK.out _ _ ⟨(), by simp only [upd, Nat.reduceBEq, cond_true, cond_false, hd], ⟨Q0.out, Q1.out, fun _ => (show L 6 = true by simp only [hd]), Q3.out, Q4.out, Q5.out⟩⟩
    · simp (config := { maxSteps := 4000000 }) only [layT, Nat.reduceAdd, Nat.reduceBEq, cond_true, cond_false]
      rintro L g0 W hd ⟨q0, q1, q2, q3, q4, q5⟩
      simp only [doneT, true_and, List.length_cons, List.length_nil, Nat.reduceAdd] at hd
      obtain ⟨⟨⟨⟨⟨⟨⟨e0, e1⟩, e2⟩, e3⟩, e4⟩, e5⟩, e6⟩, e7⟩ := hd
      try dsimp only at q0 q1 q2 q3 q4 q5
      simp only [e0, e1, e2, e3, e4, e5, e6, e7, cond_true]
      obtain rfl := q1 e6
      clear q0 q1 q2 q3 q4 q5
      have hg1 : (w.drew.setRow gd (delX cur l k).toArray).heap[gd]? = some (.cells (delX cur l k).toArray 52 (0, 0)) := setRow_heap w.drew gd cur _ _ _ HG.out
      have hs1 : ((delX cur l k).toArray).size = (k + 1) * 4 := by rw [List.size_toArray]; exact delX_len (by omega) HS.out hk
      have hk1 : KeptF [gd] w (w.drew.setRow gd (delX cur l k).toArray) := ⟨rfl, rfl, rfl, by simp [World.setRow], fun x hx hf => setRow_other w.drew gd x _ (by simpa using hf)⟩
      have hcl := del_clear (n := l.length - 1) hg1 hs1 (by omega) ((k + 1) - (l.length - 1)) 0
      have hg2 := setRow_heap _ gd _ (splice ((delX cur l k).toArray).toList ((l.length - 1) * 4) zerM).toArray _ _ hg1
      have hk2 : KeptF [gd] w ((w.drew.setRow gd (delX cur l k).toArray).setRow gd (splice ((delX cur l k).toArray).toList ((l.length - 1) * 4) zerM).toArray) := hk1.trans ⟨rfl, rfl, rfl, by simp [World.setRow], fun x hx hf => setRow_other _ gd x _ (by simpa using hf)⟩
      have HG2 := Lib.hid hg2; have HK2 := Lib.hid hk2; have HS1 := Lib.hid hs1
      clear hg1 hk1 hs1 hg2 hk2
      have n1 : (0 : Int) ≤ ((l.length - 1 : Nat) : Int) := by omega
      have n2 : ((l.length - 1 : Nat) : Int) ≤ (l.length : Int) := by omega
      have n3 : ((l.length - 1 : Nat) : Int) ≤ (((k + 1) : Nat) : Int) := by omega
      have n4 : l.length - (l.length - 1) = 1 := by omega
      have n5 : ¬ (k + 1) - (l.length - 1) = 0 := by omega
      have n6 : ¬ (k + 1) = l.length - 1 := by omega
      go_upto_region 6 with fail
      have hxl : (l.take k ++ l.drop (k + 1)).length = l.length - 1 := by rw [List.length_append, List.length_take, List.length_drop]; omega
      have HXL := Lib.hid hxl; clear hxl
      go_wp2
      clear hcl
      go_ret
      refine ⟨rfl, kMeta_enc.Row_mk (by rw [HXL.out]) HG2.out (by rw [HXL.out]; omega) HCM.out ?_ ?_, HK2.out⟩
      · rw [List.size_toArray, length_splice]
        · simp [delX_len hlc HS.out hk]
        · simp [zerM, delX_len hlc HS.out hk]; omega
      · have h1 := delX_take hlc HS.out HT.out hk
        rw [HXL.out]
        simp only [splice]
        rw [List.take_append_of_le_length (by simp [delX_len hlc HS.out hk]; omega), List.take_take, Nat.min_self]
        exact h1
  case neg =>
    have hz2 : ¬ cap - (k + 1) = 0 := by omega
    refine wp_region_tab (G := Unit) (fun g => [(0, 7, .slice (some ⟨gd, 0, none⟩) (l.length - 1) cap), (19, 0, .slice (some ⟨gd, 0, none⟩) l.length cap), (0, 1, .int .i64 (k : Int)), (0, 2, .slice (some ⟨gd, 0, none⟩) k cap), (0, 3, .slice (some ⟨gd, 0, none⟩) l.length cap), (0, 4, .int .i64 ((k : Int) + 1)), (0, 5, .slice (some ⟨gd, (k + 1) * 4, none⟩) (l.length - (k + 1)) (cap - (k + 1))), (0, 6, .slice (some ⟨gd, 0, none⟩) (l.length - 1) cap)])
        (fun L g W => (L 6 = false → W = w.drew) ∧
          (L 6 = true → W = w.drew.setRow gd (delX cur l k).toArray) ∧
          ((L 7 = true → L 6 = true)) ∧
          ((L 6 = true → L 2 = true ∧ L 5 = true)) ∧
          ((L 2 = true → L 0 = true)) ∧
          ((L 5 = true → L 3 = true)))
        (()) (by kernel_rfl) (by kernel_rfl) (fun _ => rfl) ?_ ?_ ?_
    · exact ⟨fun _ => rfl, nofun, nofun, nofun, nofun, nofun⟩
    · simp (config := { maxSteps := 4000000 }) only [StepsT, layT, Nat.reduceAdd, Nat.reduceBEq, cond_true, cond_false]
      refine ⟨?_, ?_, ?_, ?_, ?_, ?_, ?_, ?_, trivial⟩
      · rintro L g0 W hL hd ⟨q0, q1, q2, q3, q4, q5⟩
        try dsimp only at q0 q1 q2 q3 q4 q5
        try simp only [depsT, Region.binds, forall_const, and_true, beq_iff_eq, reduceCtorEq, false_implies, true_and] at hd
        intro K hK; refine do_wanted rfl ?_
        have HK := Lib.hid hK; clear hK
        try simp only [hd, cond_true]
        have E2 : L 2 = false := (by cases h : L 2 with | false => rfl | true => exact absurd (q4 h) (by rw [hL]; simp))
        have E6 : L 6 = false := (by cases h : L 6 with | false => rfl | true => exact absurd ((q3 h).1) (by rw [E2]; simp))
        have E7 : L 7 = false := (by cases h : L 7 with | false => rfl | true => exact absurd (q2 h) (by rw [E6]; simp))
        simp only [E7, cond_false]
        have Q0 := Lib.hid q0; have Q1 := Lib.hid q1; have Q2 := Lib.hid q2; have Q3 := Lib.hid q3; have Q4 := Lib.hid q4; have Q5 := Lib.hid q5
        clear q0 q1 q2 q3 q4 q5
        go_wp2
        exact HK.out _ _ ⟨(), by (simp only [upd, Nat.reduceBEq, cond_true, cond_false, hd, E2, E6, E7]; try rfl), ⟨Q0.out, Q1.out, Q2.out, Q3.out, fun h => rfl, Q5.out⟩⟩
      · rintro L g0 W hL hd ⟨q0, q1, q2, q3, q4, q5⟩
        try dsimp only at q0 q1 q2 q3 q4 q5
        try simp only [depsT, Region.binds, forall_const, and_true, beq_iff_eq, reduceCtorEq, false_implies, true_and] at hd
        intro K hK; refine do_wanted rfl ?_
        have HK := Lib.hid hK; clear hK
        try simp only [hd, cond_true]
        have Q0 := Lib.hid q0; have Q1 := Lib.hid q1; have Q2 := Lib.hid q2; have Q3 := Lib.hid q3; have Q4 := Lib.hid q4; have Q5 := Lib.hid q5
        clear q0 q1 q2 q3 q4 q5
        go_wp2
        exact HK.out _ _ ⟨(), by simp only [upd, Nat.reduceBEq, cond_true, cond_false, hd], ⟨Q0.out, Q1.out, Q2.out, Q3.out, Q4.out, Q5.out⟩⟩
      · rintro L g0 W hL hd ⟨q0, q1, q2, q3, q4, q5⟩
        try dsimp only at q0 q1 q2 q3 q4 q5
        try simp only [depsT, Region.binds, forall_const, and_true, beq_iff_eq, reduceCtorEq, false_implies, true_and] at hd
        intro K hK; refine do_wanted rfl ?_
        have HK := Lib.hid hK; clear hK
        try simp only [hd, cond_true]
        have Q0 := Lib.hid q0; have Q1 := Lib.hid q1; have Q2 := Lib.hid q2; have Q3 := Lib.hid q3; have Q4 := Lib.hid q4; have Q5 := Lib.hid q5
        clear q0 q1 q2 q3 q4 q5
        go_wp2
        exact HK.out _ _ ⟨(), by simp only [upd, Nat.reduceBEq, cond_true, cond_false, hd], ⟨Q0.out, Q1.out, Q2.out, fun h => ⟨rfl, (Q3.out h).2⟩, fun _ => (show L 0 = true by simp only [hd]), Q5.out⟩⟩
      · rintro L g0 W hL hd ⟨q0, q1, q2, q3, q4, q5⟩
        try dsimp only at q0 q1 q2 q3 q4 q5
        try simp only [depsT, Region.binds, forall_const, and_true, beq_iff_eq, reduceCtorEq, false_implies, true_and] at hd
        intro K hK; refine do_wanted rfl ?_
        have HK := Lib.hid hK; clear hK
        try simp only [hd, cond_true]
        have E5 : L 5 = false := (by cases h : L 5 with | false => rfl | true => exact absurd (q5 h) (by rw [hL]; simp))
        have E6 : L 6 = false := (by cases h : L 6 with | false => rfl | true => exact absurd ((q3 h).2) (by rw [E5]; simp))
        have E7 : L 7 = false := (by cases h : L 7 with | false => rfl | true => exact absurd (q2 h) (by rw [E6]; simp))
        simp only [E7, cond_false]
        have Q0 := Lib.hid q0; have Q1 := Lib.hid q1; have Q2 := Lib.hid q2; have Q3 := Lib.hid q3; have Q4 := Lib.hid q4; have Q5 := Lib.hid q5
        clear q0 q1 q2 q3 q4 q5
        go_wp2
        exact HK.out _ _ ⟨(), by (simp only [upd, Nat.reduceBEq, cond_true, cond_false, hd, E5, E6, E7]; try rfl), ⟨Q0.out, Q1.out, Q2.out, Q3.out, Q4.out, fun h => rfl⟩⟩
      · rintro L g0 W hL hd ⟨q0, q1, q2, q3, q4, q5⟩
        try dsimp only at q0 q1 q2 q3 q4 q5
        try simp only [depsT, Region.binds, forall_const, and_true, beq_iff_eq, reduceCtorEq, false_implies, true_and] at hd
        intro K hK; refine do_wanted rfl ?_
        have HK := Lib.hid hK; clear hK
        try simp only [hd, cond_true]
        have Q0 := Lib.hid q0; have Q1 := Lib.hid q1; have Q2 := Lib.hid q2; have Q3 := Lib.hid q3; have Q4 := Lib.hid q4; have Q5 := Lib.hid q5
        clear q0 q1 q2 q3 q4 q5
        go_wp2
        exact HK.out _ _ ⟨(), by simp only [upd, Nat.reduceBEq, cond_true, cond_false, hd], ⟨Q0.out, Q1.out, Q2.out, Q3.out, Q4.out, Q5.out⟩⟩
      · rintro L g0 W hL hd ⟨q0, q1, q2, q3, q4, q5⟩
        try dsimp only at q0 q1 q2 q3 q4 q5
        try simp only [depsT, Region.binds, forall_const, and_true, beq_iff_eq, reduceCtorEq, false_implies, true_and] at hd
        intro K hK; refine do_wanted rfl ?_
        have HK := Lib.hid hK; clear hK
        try simp only [hd, cond_true]
        have Q0 := Lib.hid q0; have Q1 := Lib.hid q1; have Q2 := Lib.hid q2; have Q3 := Lib.hid q3; have Q4 := Lib.hid q4; have Q5 := Lib.hid q5
        clear q0 q1 q2 q3 q4 q5
        go_wp2
        exact HK.out _ _ ⟨(), by simp only [upd, Nat.reduceBEq, cond_true, cond_false, hd], ⟨Q0.out, Q1.out, Q2.out, fun h => ⟨(Q3.out h).1, rfl⟩, Q4.out, fun _ => (show L 3 = true by simp only [hd])⟩⟩
      · rintro L g0 W hL hd ⟨q0, q1, q2, q3, q4, q5⟩
        try dsimp only at q0 q1 q2 q3 q4 q5
        try simp only [depsT, Region.binds, forall_const, and_true, beq_iff_eq, reduceCtorEq, false_implies, true_and] at hd
        intro K hK; refine do_wanted rfl ?_
        have HK := Lib.hid hK; clear hK
        try simp only [hd, cond_true]
        have E7 : L 7 = false := (by cases h : L 7 with | false => rfl | true => exact absurd (q2 h) (by rw [hL]; simp))
        simp only [E7, cond_false]
        obtain rfl := q0 hL
        have Q0 := Lib.hid q0; have Q1 := Lib.hid q1; have Q2 := Lib.hid q2; have Q3 := Lib.hid q3; have Q4 := Lib.hid q4; have Q5 := Lib.hid q5
        clear q0 q1 q2 q3 q4 q5
        have hda := del_app (w := w.drew) (cap := cap) HG.out (by omega) HS.out HT.out hk (⟨gd, (k + 1) * 4, none⟩) (fun h => rfl) (cap - (k + 1)) 30
        refine wp_app_known _ _ _ _ _ rfl _ _ rfl rfl hda ?_
        exact HK.out _ _ ⟨(), by (simp only [upd, Nat.reduceBEq, cond_true, cond_false, hd, E7]; try rfl), ⟨fun h => absurd (show true = false from h) (by simp), fun _ => rfl, fun h => rfl, fun _ => ⟨(show L 2 = true by simp only [hd]), (show L 5 = true by simp only [hd])⟩, Q4.out, Q5.out⟩⟩
      · rintro L g0 W hL hd ⟨q0, q1, q2, q3, q4, q5⟩
        try dsimp only at q0 q1 q2 q3 q4 q5
        try simp only [depsT, Region.binds, forall_const, and_true, beq_iff_eq, reduceCtorEq, false_implies, true_and] at hd
        intro K hK; refine do_wanted rfl ?_
        have HK := Lib.hid hK; clear hK
        try simp only [hd, cond_true]
        have Q0 := Lib.hid q0; have Q1 := Lib.hid q1; have Q2 := Lib.hid q2; have Q3 := Lib.hid q3; have Q4 := Lib.hid q4; have Q5 := Lib.hid q5
        clear q0 q1 q2 q3 q4 q5
        go_wp2
        exact HK.out _ _ ⟨(), by simp only [upd, Nat.reduceBEq, cond_true, cond_false, hd], ⟨Q0.out, Q1.out, fun _ => (show L 6 = true by simp only [hd]), Q3.out, Q4.out, Q5.out⟩⟩
    · simp (config := { maxSteps := 4000000 }) only [layT, Nat.reduceAdd, Nat.reduceBEq, cond_true, cond_false]
      rintro L g0 W hd ⟨q0, q1, q2, q3, q4, q5⟩
      simp only [doneT, true_and, List.length_cons, List.length_nil, Nat.reduceAdd] at hd
      obtain ⟨⟨⟨⟨⟨⟨⟨e0, e1⟩, e2⟩, e3⟩, e4⟩, e5⟩, e6⟩, e7⟩ := hd
      try dsimp only at q0 q1 q2 q3 q4 q5
      simp only [e0, e1, e2, e3, e4, e5, e6, e7, cond_true]
      obtain rfl := q1 e6
      clear q0 q1 q2 q3 q4 q5
      have hg1 : (w.drew.setRow gd (delX cur l k).toArray).heap[gd]? = some (.cells (delX cur l k).toArray 52 (0, 0)) := setRow_heap w.drew gd cur _ _ _ HG.out
      have hs1 : ((delX cur l k).toArray).size = cap * 4 := by rw [List.size_toArray]; exact delX_len (by omega) HS.out hk
      have hk1 : KeptF [gd] w (w.drew.setRow gd (delX cur l k).toArray) := ⟨rfl, rfl, rfl, by simp [World.setRow], fun x hx hf => setRow_other w.drew gd x _ (by simpa using hf)⟩
      have hcl := del_clear (n := l.length - 1) hg1 hs1 (by omega) (cap - (l.length - 1)) 0
      have hg2 := setRow_heap _ gd _ (splice ((delX cur l k).toArray).toList ((l.length - 1) * 4) zerM).toArray _ _ hg1
      have hk2 : KeptF [gd] w ((w.drew.setRow gd (delX cur l k).toArray).setRow gd (splice ((delX cur l k).toArray).toList ((l.length - 1) * 4) zerM).toArray) := hk1.trans ⟨rfl, rfl, rfl, by simp [World.setRow], fun x hx hf => setRow_other _ gd x _ (by simpa using hf)⟩
      have HG2 := Lib.hid hg2; have HK2 := Lib.hid hk2; have HS1 := Lib.hid hs1
      clear hg1 hk1 hs1 hg2 hk2
      have n1 : (0 : Int) ≤ ((l.length - 1 : Nat) : Int) := by omega
      have n2 : ((l.length - 1 : Nat) : Int) ≤ (l.length : Int) := by omega
      have n3 : ((l.length - 1 : Nat) : Int) ≤ ((cap : Nat) : Int) := by omega
      have n4 : l.length - (l.length - 1) = 1 := by omega
      have n5 : ¬ cap - (l.length - 1) = 0 := by omega
      have n6 : ¬ cap = l.length - 1 := by omega
      go_upto_region 6 with fail
      have hxl : (l.take k ++ l.drop (k + 1)).length = l.length - 1 := by rw [List.length_append, List.length_take, List.length_drop]; omega
      have HXL := Lib.hid hxl; clear hxl
      go_wp2
      clear hcl
      go_ret
      refine ⟨rfl, kMeta_enc.Row_mk (by rw [HXL.out]) HG2.out (by rw [HXL.out]; omega) HCM.out ?_ ?_, HK2.out⟩
      · rw [List.size_toArray, length_splice]
        · simp [delX_len hlc HS.out hk]
        · simp [zerM, delX_len hlc HS.out hk]; omega
      · have h1 := delX_take hlc HS.out HT.out hk
        rw [HXL.out]
        simp only [splice]
        rw [List.take_append_of_le_length (by simp [delX_len hlc HS.out hk]; omega), List.take_take, Nat.min_self]
        exact h1
end Go.Proofs.Ytiliaijgkedhnaa
