/- A piece is taken: the program's. -/
import Derived.Test.YtioelmhikablcaaMsD
import Derived.Test.YtioelmhikablcaaInsC
import Derived.StillTailTactics
namespace Go.Proofs.Ytioelmhikablcaa
open Go Go.RowKit Go.Sort
set_option linter.unusedVariables false
set_option linter.unusedSimpArgs false

/-- The data at place k is that of y. -/
def sameD (xs : List DChunk) (k : Nat) (y : DChunk) : Bool := match xs[k]? with
  | some z => (z.fData.toList == y.fData.toList)
  | none => false
def tkB (ws : List DWanted) (xs : List DChunk) (y : DChunk) : Bool :=
  chGood ws y && (if memC xs y.fFile y.fAt then sameD xs (bsI xs y) y else decide (xs.length ≠ 200))
def tkN (ws : List DWanted) (xs : List DChunk) (y : DChunk) : Bool := chGood ws y && (!memC xs y.fFile y.fAt && decide (xs.length ≠ 200))
def tkX (ws : List DWanted) (xs : List DChunk) (y : DChunk) : List DChunk := if tkN ws xs y then xs.take (bsI xs y) ++ y :: xs.drop (bsI xs y) else xs
theorem bsI_le (xs : List DChunk) (y : DChunk) : bsI xs y ≤ xs.length := List.countP_le_length
theorem mem_some {xs : List DChunk} (ho : Ord xs) {y : DChunk} (h : memC xs y.fFile y.fAt = true) : ∃ z, xs[bsI xs y]? = some z := by
  by_cases hl : bsI xs y < xs.length
  · exact ⟨_, List.getElem?_eq_getElem hl⟩
  · exfalso
    have e : bsI xs y = xs.length := Nat.le_antisymm (bsI_le xs y) (by omega)
    rw [bsI, List.countP_eq_length] at e
    rw [memC, List.any_eq_true] at h
    obtain ⟨z, hz, hq⟩ := h
    have h1 := e z hz
    simp only [decide_eq_true_eq] at h1 hq
    have h2 := ordC_eq.2 hq
    omega
def TakeP (ws : List DWanted) (xs : List DChunk) (y : DChunk) (gt c0 : Nat) (A0 : Option Addr) (F : List Nat) (w : World) (e : Ending) (w' : World) : Prop :=
  ∃ v1' F', e = .returned (.bool (tkB ws xs y)) ∧ Box w' gt #[.slice A0 ws.length c0, v1'] 33 ∧ kChunk.Row 46 w' F' (tkX ws xs y) v1' ∧ KeptF (gt :: F) w w' ∧ (∀ b ∈ F', b ∈ F ∨ w.heap.size ≤ b) ∧ F'.Nodup
theorem TakeP.no {ws : List DWanted} {xs : List DChunk} {y : DChunk} {gt c0 : Nat} {A0 : Option Addr} {F : List Nat} {v1 : Value} {w w' : World} {b : Bool} (hb : tkB ws xs y = b) (hN : tkN ws xs y = false) (X : Box w' gt #[.slice A0 ws.length c0, v1] 33)
    (hR : kChunk.Row 46 w' F xs v1) (hn : F.Nodup) (hB : Below w.heap.size w w') : TakeP ws xs y gt c0 A0 F w (.returned (.bool b)) w' :=
  ⟨v1, F, by rw [hb], X, by rw [tkX, hN]; exact hR, KeptF.of_below hB, fun b h => .inl h, hn⟩

set_option maxHeartbeats 4000000 in
set_option maxRecDepth 100000 in
theorem iTake_calls (ws : List DWanted) (xs : List DChunk) (y : DChunk) (gt c0 : Nat) (A0 : Option Addr) (v1 : Value) (F : List Nat) (w : World) (X : Box w gt #[.slice A0 ws.length c0, v1] 33) (G : kWanted.S w ws (.slice A0 ws.length c0))
    (hR : kChunk.Row 46 w F xs v1) (hn : F.Nodup) (hgF : gt ∉ F) (hw : ws.length ≤ 12 ∧ ∀ m ∈ ws, wantB m = false) (hx : xs.length ≤ 200) (ho : Ord xs) :
    Calls Try.prog 94 #[.pointer (some ⟨gt, 0, none⟩), .agg #[.int .i64 y.fFile, .int .i64 y.fAt, .string y.fData, .int .u32 y.fSum]] w fun e w' => TakeP ws xs y gt c0 A0 F w e w' := by
  obtain ⟨A2, c2, rfl, _, _⟩ := Rp.Row_K hR
  have HR := Lib.hid hR; clear hR
  have XX := Lib.hid X; clear X
  have GG := Lib.hid G; clear G
  go_enter Try.func94, Try.ntmps94
  go_upto_region 1 with fail
  have HC := Lib.hid ((Below.refl w.heap.size w).alloc (Nat.le_refl _) (.cells #[.int .i64 y.fFile, .int .i64 y.fAt, .string y.fData, .int .u32 y.fSum] 46))
  have Y := Lib.hid (show Box (w.alloc (.cells #[.int .i64 y.fFile, .int .i64 y.fAt, .string y.fData, .int .u32 y.fSum] 46)) w.heap.size #[.int .i64 y.fFile, .int .i64 y.fAt, .string y.fData, .int .u32 y.fSum] 46 from Box.new rfl)
  generalize w.alloc (.cells #[.int .i64 y.fFile, .int .i64 y.fAt, .string y.fData, .int .u32 y.fSum] 46) = w1 at *
  have b0 := Y.out.cell 0 (v := .int .i64 y.fFile) rfl; have b1 := Y.out.cell 1 (v := .int .i64 y.fAt) rfl; have b2 := Y.out.cell 2 (v := .string y.fData) rfl; have b3 := Y.out.cell 3 (v := .int .u32 y.fSum) rfl
  go_wp2_with fail
  (with_reducible refine (iChunkOk_calls ws y gt c0 A0 _ _ (XX.out.below HC.out) (Rp.S_below GG.out HC.out) hw).mono ?_)
  rintro e w2 ⟨rfl, hb⟩
  have HC2 := Lib.hid (HC.out.trans (hb.mono HC.out.size)); have Y := Lib.hid (Y.out.below hb)
  clear hb HC b0 b1 b2 b3
  cases hg : chGood ws y
  case false =>
    go_wp2
    go_ret
    exact TakeP.no (by rw [tkB, hg]; rfl) (by rw [tkN, hg]; rfl) (XX.out.below HC2.out) (Rp.Row_below HR.out HC2.out) hn HC2.out
  case true =>
    have HG := Lib.hid hg; clear hg
    go_upto_region 3 with fail
    have r0 := regr (Below.refl _ _) Y.out.lt (Y.out.cell 0 (v := .int .i64 y.fFile) rfl); have r1 := regr (Below.refl _ _) Y.out.lt (Y.out.cell 1 (v := .int .i64 y.fAt) rfl); have r2 := regr (Below.refl _ _) Y.out.lt (Y.out.cell 2 (v := .string y.fData) rfl); have r3 := regr (Below.refl _ _) Y.out.lt (Y.out.cell 3 (v := .int .u32 y.fSum) rfl)
    have X2 := Lib.hid (XX.out.below HC2.out)
    have R2 := Lib.hid (Rp.Row_below HR.out HC2.out)
    have s1 := regr (Below.refl _ _) X2.out.lt (X2.out.cell 1 (v := .slice A2 xs.length c2) rfl)
    have c_b : ∀ W : World, Below w2.heap.size w2 W → Calls Try.prog 172 #[.slice A2 xs.length c2, .agg #[.int .i64 y.fFile, .int .i64 y.fAt, .string y.fData, .int .u32 y.fSum], .func (.func 171) #[] #[]] W (fun e w' => e = .returned (.tuple #[.int .i64 (bsI xs y), .bool (memC xs y.fFile y.fAt)]) ∧ Below W.heap.size W w') := fun W hW => bs2_calls xs y _ W (Rp.S_below (Rp.Row_S R2.out) hW) (by omega) ho
    have hbi := bsI_le xs y
    have HBI := Lib.hid (show tkX ws xs y = if tkN ws xs y then xs.take (bsI xs y) ++ y :: xs.drop (bsI xs y) else xs from rfl)
    have HTB := Lib.hid (show tkB ws xs y = (if memC xs y.fFile y.fAt then sameD xs (bsI xs y) y else decide (xs.length ≠ 200)) by rw [tkB, HG.out, Bool.true_and])
    have HTN := Lib.hid (show tkN ws xs y = (!memC xs y.fFile y.fAt && decide (xs.length ≠ 200)) by rw [tkN, HG.out, Bool.true_and])
    have hsome : memC xs y.fFile y.fAt = true → ∃ z, xs[bsI xs y]? = some z := fun h => mem_some ho h
    generalize bsI xs y = bi at *
    cases hm : memC xs y.fFile y.fAt
    all_goals
      rw [hm] at c_b HTB HTN
      refine wp_region_quiet_below (by kernel_rfl) (by kernel_rfl) ?_
      repeat (go_big_quiet_step (first | (with_reducible exact Calls.regrown_of (c_b _ (below_regrown _ _ _)))))
      refine wpQuiet_nil ?_
      rintro w4 ⟨p, rfl⟩
      have hb := below_regrown w2 p.d p.os
      have HC := Lib.hid (HC2.out.trans (hb.mono HC2.out.size)); have Y := Lib.hid (Y.out.below hb); have X3 := Lib.hid (X2.out.below hb); have R3 := Lib.hid (Rp.Row_below R2.out hb)
      clear r0 r1 r2 r3 s1 hb c_b X2 R2 HC2
      generalize grow (redrawn w2 p.d) p.os = w4 at *
    · have x1 := X3.out.cell 1 (v := .slice A2 xs.length c2) rfl
      by_cases h2 : xs.length = 200
      · have HT2 := Lib.hid (show tkB ws xs y = false by rw [HTB.out, h2]; rfl)
        have HN2 := Lib.hid (show tkN ws xs y = false by rw [HTN.out, h2]; rfl)
        have h2' : ((xs.length : Int) == 200) = true := by simpa using (by omega : (xs.length : Int) = 200)
        clear h2 HTB HTN
        go_wp2
        go_ret
        exact TakeP.no HT2.out HN2.out X3.out R3.out hn HC.out
      · have HT2 := Lib.hid (show tkB ws xs y = true by rw [HTB.out]; simpa using h2)
        have HN2 := Lib.hid (show tkX ws xs y = xs.take bi ++ y :: xs.drop bi by rw [HBI.out, if_pos]; rw [HTN.out]; simpa using h2)
        have h2' : ((xs.length : Int) == 200) = false := by simp; omega
        clear h2 HTB HTN HBI
        go_upto_region 8 with fail
        have HFl := Lib.hid (Rp.Row_lt HR.out)
        have hgl : gt < w.heap.size := XX.out.lt
        obtain ⟨nl, HNL⟩ : ∃ nl, Hid ((xs.take bi ++ y :: xs.drop bi).length = nl) := ⟨_, rfl⟩
        refine wp_region_tab (G := Nat × Value × List Nat) (fun g => [(38, 0, .pointer (some ⟨gt, 0, none⟩)), (0, 1, .pointer (some ⟨gt, 0, none⟩)), (0, 2, .pointer (some ⟨gt, 0, none⟩)), (0, 3, .pointer (some ⟨gt, 1, none⟩)), (0, 4, .slice A2 xs.length c2), (0, 5, .int .i64 (bi : Int)), (0, 6, .agg #[.int .i64 y.fFile, .int .i64 y.fAt, .string y.fData, .int .u32 y.fSum]), (0, 7, .slice (some ⟨g.1, 0, none⟩) 1 1), (0, 8, g.2.1), (0, 9, .pointer (some ⟨gt, 0, none⟩)), (0, 10, .pointer (some ⟨gt, 1, none⟩))])
            (fun L g W => (KeptF (gt :: F) w W) ∧
              (Box W w.heap.size #[.int .i64 y.fFile, .int .i64 y.fAt, .string y.fData, .int .u32 y.fSum] 46) ∧
              (L 11 = false → Box W gt #[.slice A0 ws.length c0, .slice A2 xs.length c2] 33) ∧
              (L 11 = true → Box W gt #[.slice A0 ws.length c0, g.2.1] 33) ∧
              (L 8 = false → kChunk.Row 46 W F xs (.slice A2 xs.length c2)) ∧
              (L 7 = true → L 8 = false → Box W g.1 #[.int .i64 y.fFile, .int .i64 y.fAt, .string y.fData, .int .u32 y.fSum] 46 ∧ g.1 ∉ F) ∧
              (L 8 = true → kChunk.Row 46 W g.2.2 (xs.take bi ++ y :: xs.drop bi) g.2.1 ∧ (∀ b ∈ g.2.2, b ∈ F ∨ w.heap.size ≤ b) ∧ g.2.2.Nodup ∧ gt ∉ g.2.2) ∧
              ((L 11 = true → L 8 = true)) ∧
              ((L 8 = true → L 4 = true)))
            (0, undef, []) (by kernel_rfl) (by kernel_rfl) (fun _ => rfl) ?_ ?_ ?_
        · exact ⟨(KeptF.of_below HC.out.drew), Y.out.drew, fun _ => X3.out.drew, nofun, fun _ => Rp.Row_below R3.out (Below.refl _ _).drew, nofun, nofun, nofun, nofun⟩
        · simp (config := { maxSteps := 4000000 }) only [StepsT, layT, Nat.reduceAdd, Nat.reduceBEq, cond_true, cond_false]
          refine ⟨?_, ?_, ?_, ?_, ?_, ?_, ?_, ?_, ?_, ?_, ?_, ?_, trivial⟩
          · rintro L ⟨g7, v8, F8⟩ W hL hd ⟨q0, q1, q2, q3, q4, q5, q6, q7, q8⟩
            try dsimp only at q0 q1 q2 q3 q4 q5 q6 q7 q8
            try simp only [depsT, Region.binds, forall_const, and_true, beq_iff_eq, reduceCtorEq, false_implies, true_and] at hd
            intro K hK; refine do_wanted rfl ?_
            have HK := Lib.hid hK; clear hK
            try simp only [hd, cond_true]
            have Q0 := Lib.hid q0; have Q1 := Lib.hid q1; have Q2 := Lib.hid q2; have Q3 := Lib.hid q3; have Q4 := Lib.hid q4; have Q5 := Lib.hid q5; have Q6 := Lib.hid q6; have Q7 := Lib.hid q7; have Q8 := Lib.hid q8
            clear q0 q1 q2 q3 q4 q5 q6 q7 q8
            go_wp2
            exact HK.out _ _ ⟨⟨g7, v8, F8⟩, by simp only [upd, Nat.reduceBEq, cond_true, cond_false, hd], ⟨Q0.out, Q1.out, Q2.out, Q3.out, Q4.out, Q5.out, Q6.out, Q7.out, Q8.out⟩⟩
          · rintro L ⟨g7, v8, F8⟩ W hL hd ⟨q0, q1, q2, q3, q4, q5, q6, q7, q8⟩
            try dsimp only at q0 q1 q2 q3 q4 q5 q6 q7 q8
            try simp only [depsT, Region.binds, forall_const, and_true, beq_iff_eq, reduceCtorEq, false_implies, true_and] at hd
            intro K hK; refine do_wanted rfl ?_
            have HK := Lib.hid hK; clear hK
            try simp only [hd, cond_true]
            have Q0 := Lib.hid q0; have Q1 := Lib.hid q1; have Q2 := Lib.hid q2; have Q3 := Lib.hid q3; have Q4 := Lib.hid q4; have Q5 := Lib.hid q5; have Q6 := Lib.hid q6; have Q7 := Lib.hid q7; have Q8 := Lib.hid q8
            clear q0 q1 q2 q3 q4 q5 q6 q7 q8
            go_wp2
            exact HK.out _ _ ⟨⟨g7, v8, F8⟩, by simp only [upd, Nat.reduceBEq, cond_true, cond_false, hd], ⟨Q0.out, Q1.out, Q2.out, Q3.out, Q4.out, Q5.out, Q6.out, Q7.out, Q8.out⟩⟩
          · rintro L ⟨g7, v8, F8⟩ W hL hd ⟨q0, q1, q2, q3, q4, q5, q6, q7, q8⟩
            try dsimp only at q0 q1 q2 q3 q4 q5 q6 q7 q8
            try simp only [depsT, Region.binds, forall_const, and_true, beq_iff_eq, reduceCtorEq, false_implies, true_and] at hd
            intro K hK; refine do_wanted rfl ?_
            have HK := Lib.hid hK; clear hK
            try simp only [hd, cond_true]
            have Q0 := Lib.hid q0; have Q1 := Lib.hid q1; have Q2 := Lib.hid q2; have Q3 := Lib.hid q3; have Q4 := Lib.hid q4; have Q5 := Lib.hid q5; have Q6 := Lib.hid q6; have Q7 := Lib.hid q7; have Q8 := Lib.hid q8
            clear q0 q1 q2 q3 q4 q5 q6 q7 q8
            go_wp2
            exact HK.out _ _ ⟨⟨g7, v8, F8⟩, by simp only [upd, Nat.reduceBEq, cond_true, cond_false, hd], ⟨Q0.out, Q1.out, Q2.out, Q3.out, Q4.out, Q5.out, Q6.out, Q7.out, Q8.out⟩⟩
          · rintro L ⟨g7, v8, F8⟩ W hL hd ⟨q0, q1, q2, q3, q4, q5, q6, q7, q8⟩
            try dsimp only at q0 q1 q2 q3 q4 q5 q6 q7 q8
            try simp only [depsT, Region.binds, forall_const, and_true, beq_iff_eq, reduceCtorEq, false_implies, true_and] at hd
            intro K hK; refine do_wanted rfl ?_
            have HK := Lib.hid hK; clear hK
            try simp only [hd, cond_true]
            have Q0 := Lib.hid q0; have Q1 := Lib.hid q1; have Q2 := Lib.hid q2; have Q3 := Lib.hid q3; have Q4 := Lib.hid q4; have Q5 := Lib.hid q5; have Q6 := Lib.hid q6; have Q7 := Lib.hid q7; have Q8 := Lib.hid q8
            clear q0 q1 q2 q3 q4 q5 q6 q7 q8
            go_wp2
            exact HK.out _ _ ⟨⟨g7, v8, F8⟩, by simp only [upd, Nat.reduceBEq, cond_true, cond_false, hd], ⟨Q0.out, Q1.out, Q2.out, Q3.out, Q4.out, Q5.out, Q6.out, Q7.out, Q8.out⟩⟩
          · rintro L ⟨g7, v8, F8⟩ W hL hd ⟨q0, q1, q2, q3, q4, q5, q6, q7, q8⟩
            try dsimp only at q0 q1 q2 q3 q4 q5 q6 q7 q8
            try simp only [depsT, Region.binds, forall_const, and_true, beq_iff_eq, reduceCtorEq, false_implies, true_and] at hd
            intro K hK; refine do_wanted rfl ?_
            have HK := Lib.hid hK; clear hK
            try simp only [hd, cond_true]
            have E8 : L 8 = false := (by cases h : L 8 with | false => rfl | true => exact absurd (q8 h) (by rw [hL]; simp))
            have E11 : L 11 = false := (by cases h : L 11 with | false => rfl | true => exact absurd (q7 h) (by rw [E8]; simp))
            have cc := (q2 E11).cell 1 (v := .slice A2 xs.length c2) rfl
            have Q0 := Lib.hid q0; have Q1 := Lib.hid q1; have Q2 := Lib.hid q2; have Q3 := Lib.hid q3; have Q4 := Lib.hid q4; have Q5 := Lib.hid q5; have Q6 := Lib.hid q6; have Q7 := Lib.hid q7; have Q8 := Lib.hid q8
            clear q0 q1 q2 q3 q4 q5 q6 q7 q8
            go_wp2
            exact HK.out _ _ ⟨⟨g7, v8, F8⟩, by simp only [upd, Nat.reduceBEq, cond_true, cond_false, hd], ⟨Q0.out, Q1.out, Q2.out, Q3.out, Q4.out, Q5.out, Q6.out, Q7.out, fun h => rfl⟩⟩
          · rintro L ⟨g7, v8, F8⟩ W hL hd ⟨q0, q1, q2, q3, q4, q5, q6, q7, q8⟩
            try dsimp only at q0 q1 q2 q3 q4 q5 q6 q7 q8
            try simp only [depsT, Region.binds, forall_const, and_true, beq_iff_eq, reduceCtorEq, false_implies, true_and] at hd
            intro K hK; refine do_wanted rfl ?_
            have HK := Lib.hid hK; clear hK
            try simp only [hd, cond_true]
            have Q0 := Lib.hid q0; have Q1 := Lib.hid q1; have Q2 := Lib.hid q2; have Q3 := Lib.hid q3; have Q4 := Lib.hid q4; have Q5 := Lib.hid q5; have Q6 := Lib.hid q6; have Q7 := Lib.hid q7; have Q8 := Lib.hid q8
            clear q0 q1 q2 q3 q4 q5 q6 q7 q8
            go_wp2
            exact HK.out _ _ ⟨⟨g7, v8, F8⟩, by simp only [upd, Nat.reduceBEq, cond_true, cond_false, hd], ⟨Q0.out, Q1.out, Q2.out, Q3.out, Q4.out, Q5.out, Q6.out, Q7.out, Q8.out⟩⟩
          · rintro L ⟨g7, v8, F8⟩ W hL hd ⟨q0, q1, q2, q3, q4, q5, q6, q7, q8⟩
            try dsimp only at q0 q1 q2 q3 q4 q5 q6 q7 q8
            try simp only [depsT, Region.binds, forall_const, and_true, beq_iff_eq, reduceCtorEq, false_implies, true_and] at hd
            intro K hK; refine do_wanted rfl ?_
            have HK := Lib.hid hK; clear hK
            try simp only [hd, cond_true]
            have cc0 := q1.cell 0 (v := .int .i64 y.fFile) rfl; have cc1 := q1.cell 1 (v := .int .i64 y.fAt) rfl; have cc2 := q1.cell 2 (v := .string y.fData) rfl; have cc3 := q1.cell 3 (v := .int .u32 y.fSum) rfl
            have Q0 := Lib.hid q0; have Q1 := Lib.hid q1; have Q2 := Lib.hid q2; have Q3 := Lib.hid q3; have Q4 := Lib.hid q4; have Q5 := Lib.hid q5; have Q6 := Lib.hid q6; have Q7 := Lib.hid q7; have Q8 := Lib.hid q8
            clear q0 q1 q2 q3 q4 q5 q6 q7 q8
            go_wp2
            exact HK.out _ _ ⟨⟨g7, v8, F8⟩, by simp only [upd, Nat.reduceBEq, cond_true, cond_false, hd], ⟨Q0.out, Q1.out, Q2.out, Q3.out, Q4.out, Q5.out, Q6.out, Q7.out, Q8.out⟩⟩
          · rintro L ⟨g7, v8, F8⟩ W hL hd ⟨q0, q1, q2, q3, q4, q5, q6, q7, q8⟩
            try dsimp only at q0 q1 q2 q3 q4 q5 q6 q7 q8
            try simp only [depsT, Region.binds, forall_const, and_true, beq_iff_eq, reduceCtorEq, false_implies, true_and] at hd
            intro K hK; refine do_wanted rfl ?_
            have HK := Lib.hid hK; clear hK
            try simp only [hd, cond_true]
            have Q0 := Lib.hid q0; have Q1 := Lib.hid q1; have Q2 := Lib.hid q2; have Q3 := Lib.hid q3; have Q4 := Lib.hid q4; have Q5 := Lib.hid q5; have Q6 := Lib.hid q6; have Q7 := Lib.hid q7; have Q8 := Lib.hid q8
            clear q0 q1 q2 q3 q4 q5 q6 q7 q8
            go_wp2
            have HB := Lib.hid ((Below.refl W.heap.size W).alloc (Nat.le_refl _) (.cells #[.int .i64 y.fFile, .int .i64 y.fAt, .string y.fData, .int .u32 y.fSum] 46))
            exact HK.out _ _ ⟨⟨W.heap.size, v8, F8⟩, by simp only [upd, Nat.reduceBEq, cond_true, cond_false, hd], ⟨Q0.out.below HB.out, Q1.out.below HB.out, fun h => (Q2.out h).below HB.out, fun h => (Q3.out h).below HB.out, fun h => Rp.Row_below (Q4.out h) HB.out, fun _ _ => ⟨Box.new rfl, fun h => by have := HFl.out _ h; have := Q0.out.size; omega⟩, fun h => ⟨Rp.Row_below (Q6.out h).1 HB.out, (Q6.out h).2⟩, Q7.out, Q8.out⟩⟩
          · rintro L ⟨g7, v8, F8⟩ W hL hd ⟨q0, q1, q2, q3, q4, q5, q6, q7, q8⟩
            try dsimp only at q0 q1 q2 q3 q4 q5 q6 q7 q8
            try simp only [depsT, Region.binds, forall_const, and_true, beq_iff_eq, reduceCtorEq, false_implies, true_and] at hd
            intro K hK; refine do_wanted rfl ?_
            have HK := Lib.hid hK; clear hK
            try simp only [hd, cond_true]
            have E8 := hL
            have E11 : L 11 = false := (by cases h : L 11 with | false => rfl | true => exact absurd (q7 h) (by rw [E8]; simp))
            have Q0 := Lib.hid q0; have Q1 := Lib.hid q1; have Q2 := Lib.hid q2; have Q3 := Lib.hid q3; have Q4 := Lib.hid q4; have Q5 := Lib.hid q5; have Q6 := Lib.hid q6; have Q7 := Lib.hid q7; have Q8 := Lib.hid q8
            clear q0 q1 q2 q3 q4 q5 q6 q7 q8
            go_wp2_with ((with_reducible refine (ins_calls xs bi y F _ _ _ (Q4.out hL) hbi (by omega) (Q5.out (by simp only [hd]) hL).1 (Q5.out (by simp only [hd]) hL).2).mono ?_); rintro ee we ⟨va, Fa, rfl, i1, i2, i3, i4⟩)
            have hq0 := Q0.out.size
            exact HK.out _ _ ⟨⟨g7, va, Fa⟩, by (simp only [upd, Nat.reduceBEq, cond_true, cond_false, hd, E11]; try rfl), ⟨Q0.out.trans (i2.mono (fun b h => by simp [h])), Box.kept Q1.out i2 (fun h => by have := HFl.out _ h; omega), fun h => Box.kept (Q2.out E11) i2 hgF, fun h => absurd (show L 11 = true from h) (by simp [E11]), fun h => absurd h (by simp [upd]), fun _ h => absurd h (by simp [upd]), fun _ => ⟨i1, fun b h => (by rcases i3 b h with h2 | h2; exact .inl h2; right; omega), i4, fun h => (by rcases i3 gt h with h2 | h2; exact hgF h2; omega)⟩, fun h => rfl, fun _ => (show L 4 = true by simp only [hd])⟩⟩
          · rintro L ⟨g7, v8, F8⟩ W hL hd ⟨q0, q1, q2, q3, q4, q5, q6, q7, q8⟩
            try dsimp only at q0 q1 q2 q3 q4 q5 q6 q7 q8
            try simp only [depsT, Region.binds, forall_const, and_true, beq_iff_eq, reduceCtorEq, false_implies, true_and] at hd
            intro K hK; refine do_wanted rfl ?_
            have HK := Lib.hid hK; clear hK
            try simp only [hd, cond_true]
            have Q0 := Lib.hid q0; have Q1 := Lib.hid q1; have Q2 := Lib.hid q2; have Q3 := Lib.hid q3; have Q4 := Lib.hid q4; have Q5 := Lib.hid q5; have Q6 := Lib.hid q6; have Q7 := Lib.hid q7; have Q8 := Lib.hid q8
            clear q0 q1 q2 q3 q4 q5 q6 q7 q8
            go_wp2
            exact HK.out _ _ ⟨⟨g7, v8, F8⟩, by simp only [upd, Nat.reduceBEq, cond_true, cond_false, hd], ⟨Q0.out, Q1.out, Q2.out, Q3.out, Q4.out, Q5.out, Q6.out, Q7.out, Q8.out⟩⟩
          · rintro L ⟨g7, v8, F8⟩ W hL hd ⟨q0, q1, q2, q3, q4, q5, q6, q7, q8⟩
            try dsimp only at q0 q1 q2 q3 q4 q5 q6 q7 q8
            try simp only [depsT, Region.binds, forall_const, and_true, beq_iff_eq, reduceCtorEq, false_implies, true_and] at hd
            intro K hK; refine do_wanted rfl ?_
            have HK := Lib.hid hK; clear hK
            try simp only [hd, cond_true]
            have Q0 := Lib.hid q0; have Q1 := Lib.hid q1; have Q2 := Lib.hid q2; have Q3 := Lib.hid q3; have Q4 := Lib.hid q4; have Q5 := Lib.hid q5; have Q6 := Lib.hid q6; have Q7 := Lib.hid q7; have Q8 := Lib.hid q8
            clear q0 q1 q2 q3 q4 q5 q6 q7 q8
            go_wp2
            exact HK.out _ _ ⟨⟨g7, v8, F8⟩, by simp only [upd, Nat.reduceBEq, cond_true, cond_false, hd], ⟨Q0.out, Q1.out, Q2.out, Q3.out, Q4.out, Q5.out, Q6.out, Q7.out, Q8.out⟩⟩
          · rintro L ⟨g7, v8, F8⟩ W hL hd ⟨q0, q1, q2, q3, q4, q5, q6, q7, q8⟩
            try dsimp only at q0 q1 q2 q3 q4 q5 q6 q7 q8
            try simp only [depsT, Region.binds, forall_const, and_true, beq_iff_eq, reduceCtorEq, false_implies, true_and] at hd
            intro K hK; refine do_wanted rfl ?_
            have HK := Lib.hid hK; clear hK
            try simp only [hd, cond_true]
            have h8 := q6 (show L 8 = true by simp only [hd])
            obtain ⟨P8, C8, e8, _, _⟩ := Rp.Row_K h8.1
            rw [HNL.out] at e8
            subst e8
            have hz := q2 hL
            have cz0 := hz.cell 0 (v := .slice A0 ws.length c0) rfl; have cz1 := hz.cell 1 (v := .slice A2 xs.length c2) rfl
            have fz := hz.fro
            have HZ := Lib.hid hz; have H8 := Lib.hid h8; clear hz h8
            have Q0 := Lib.hid q0; have Q1 := Lib.hid q1; have Q2 := Lib.hid q2; have Q3 := Lib.hid q3; have Q4 := Lib.hid q4; have Q5 := Lib.hid q5; have Q6 := Lib.hid q6; have Q7 := Lib.hid q7; have Q8 := Lib.hid q8
            clear q0 q1 q2 q3 q4 q5 q6 q7 q8
            go_wp2
            have hk := kept_set W gt 1 (.slice P8 nl C8)
            exact HK.out _ _ ⟨⟨g7, (.slice P8 nl C8), F8⟩, by simp only [upd, Nat.reduceBEq, cond_true, cond_false, hd], ⟨Q0.out.set (p := ⟨gt, 1, none⟩) (by simp) _, Q1.out.set_other (a := ⟨gt, 1, none⟩) _ (by show w.heap.size ≠ gt; omega), fun h => absurd h (by simp [upd]), fun _ => HZ.out.set 1 _, fun h => absurd (show L 8 = true by simp only [hd]) (by rw [show L 8 = false from h]; simp), fun _ h => absurd (show L 8 = true by simp only [hd]) (by rw [show L 8 = false from h]; simp), fun _ => ⟨Row_ne H8.out.1 hk H8.out.2.2.2, H8.out.2⟩, fun _ => (show L 8 = true by simp only [hd]), Q8.out⟩⟩
        · simp (config := { maxSteps := 4000000 }) only [layT, Nat.reduceAdd, Nat.reduceBEq, cond_true, cond_false]
          rintro L ⟨g7, v8, F8⟩ W hd ⟨q0, q1, q2, q3, q4, q5, q6, q7, q8⟩
          simp only [doneT, true_and, List.length_cons, List.length_nil, Nat.reduceAdd] at hd
          obtain ⟨⟨⟨⟨⟨⟨⟨⟨⟨⟨⟨e0, e1⟩, e2⟩, e3⟩, e4⟩, e5⟩, e6⟩, e7⟩, e8⟩, e9⟩, e10⟩, e11⟩ := hd
          try dsimp only at q0 q1 q2 q3 q4 q5 q6 q7 q8
          simp only [e0, e1, e2, e3, e4, e5, e6, e7, e8, e9, e10, e11, cond_true]
          have hb3 := q3 e11; have hr6 := q6 e8
          have HQ := Lib.hid (And.intro q0 (And.intro hb3 hr6))
          clear q0 q1 q2 q3 q4 q5 q6 q7 q8 hb3 hr6
          go_wp2
          go_ret
          exact ⟨v8, F8, by rw [HT2.out]; rfl, HQ.out.2.1, by rw [HN2.out]; exact HQ.out.2.2.1, HQ.out.1, HQ.out.2.2.2.1, HQ.out.2.2.2.2.1⟩
    · have hs5 := hsome hm
      obtain ⟨z, hz⟩ := hs5
      have HSD := Lib.hid (show sameD xs bi y = (z.fData.toList == y.fData.toList) by rw [sameD, hz])
      have hlt : bi < xs.length := (List.getElem?_eq_some_iff.1 hz).1
      have hzz : xs[bi] = z := (List.getElem?_eq_some_iff.1 hz).2
      obtain ⟨P', C', e', _, hC⟩ := Rp.Row_K R3.out
      simp only [Value.slice.injEq, true_and] at e'
      obtain ⟨rfl, rfl⟩ := e'
      obtain ⟨b, o, cs, rfl, k1, q1⟩ := Rp.C_get hC bi hlt
      rw [hzz] at k1
      obtain rfl := kChunk_K k1
      have a2 := q1 2 _ rfl
      simp only [kChunk_sz] at a2
      clear hC k1 q1 hsome hz hzz
      go_upto_region 5 with fail
      have i1 : (0 : Int) ≤ (bi : Int) := by omega
      have i2 : (bi : Int) < (xs.length : Int) := by omega
      have r2 := regr (Below.refl _ _) Y.out.lt (Y.out.cell 2 (v := .string y.fData) rfl)
      have s1 := regr (Below.refl _ _) X3.out.lt (X3.out.cell 1 (v := .slice (some ⟨b, o, none⟩) xs.length c2) rfl)
      have t2 := regr (Below.refl _ _) (World.block_lt_of_cell? w4 _ a2) a2
      clear a2
      have HN2 := Lib.hid (show tkN ws xs y = false by rw [HTN.out]; rfl)
      have HT2 := Lib.hid (show tkB ws xs y = (z.fData.toList == y.fData.toList) by rw [HTB.out, if_pos rfl, HSD.out])
      clear HTB HTN HSD HBI
      all_goals
        refine wp_region_quiet_below (by kernel_rfl) (by kernel_rfl) ?_
        repeat (go_big_quiet_step (fail))
        refine wpQuiet_nil ?_
        rintro w6 ⟨p, rfl⟩
        have hb := below_regrown w4 p.d p.os
        have HC6 := Lib.hid (HC.out.trans (hb.mono HC.out.size)); have X6 := Lib.hid (X3.out.below hb); have R6 := Lib.hid (Rp.Row_below R3.out hb)
        clear r2 s1 t2 hb
        generalize grow (redrawn w4 p.d) p.os = w6 at *
        go_wp2
        go_ret
        exact TakeP.no HT2.out HN2.out X6.out R6.out hn HC6.out
end Go.Proofs.Ytioelmhikablcaa
