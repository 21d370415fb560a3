/- Logs in memory: what the reference and the program compute of them. -/
import Derived.Test.YtjigbmgfjmghcaaG2
import Derived.Laws.Slices
namespace Go.Proofs.Ytjigbmgfjmghcaa
open Go Go.RowKit Go.Sort
set_option linter.unusedVariables false
set_option linter.unusedSimpArgs false

def inB (n lo hi : Int) : Bool := decide (lo ≤ n) && decide (n ≤ hi)
theorem inB_iff {n lo hi : Int} : inB n lo hi = true ↔ lo ≤ n ∧ n ≤ hi := by simp [inB]
theorem inB_yes {n lo hi : Int} (h1 : lo ≤ n) (h2 : n ≤ hi) : inB n lo hi = true := inB_iff.2 ⟨h1, h2⟩

set_option maxHeartbeats 400000 in
theorem sIn_calls (n lo hi : Int) (w : World) : Calls Try.prog 28 #[.int .i64 n, .int .i64 lo, .int .i64 hi] w fun e w' => e = .returned (.bool (inB n lo hi)) ∧ w' = w := by
  go_enter Try.func28, Try.ntmps28
  go_wp2
  all_goals (go_ret; exact ⟨by congr 2; simp [inB]; omega, rfl⟩)
set_option maxHeartbeats 400000 in
theorem iIn_calls (n lo hi : Int) (w : World) : Calls Try.prog 25 #[.int .i64 n, .int .i64 lo, .int .i64 hi] w fun e w' => e = .returned (.bool (inB n lo hi)) ∧ w' = w := by
  go_enter Try.func25, Try.ntmps25
  go_wp2
  all_goals (go_ret; exact ⟨by congr 2; simp [inB]; omega, rfl⟩)

def goodE (e : DEntry) : Bool := inB e.fTerm 1 1000000 && decide (e.fData.size ≤ 100)
set_option maxHeartbeats 400000 in
theorem sEntry_calls (x : DEntry) (w : World) : Calls Try.prog 34 #[.agg #[.int .i64 x.fTerm, .string x.fData]] w fun e w' => e = .returned (.bool (goodE x)) ∧ Below w.heap.size w w' := by
  go_enter Try.func34, Try.ntmps34
  go_wp2_with (first | (with_reducible refine (sIn_calls _ _ _ _).mono ?_; rintro e w1 ⟨rfl, rfl⟩))
  all_goals (go_ret; exact ⟨by congr 2; simp [goodE, *] <;> omega, (Below.refl _ _).alloc (Nat.le_refl _) _⟩)
set_option maxHeartbeats 400000 in
theorem iEntry_calls (x : DEntry) (w : World) : Calls Try.prog 29 #[.agg #[.int .i64 x.fTerm, .string x.fData]] w fun e w' => e = .returned (.bool (goodE x)) ∧ Below w.heap.size w w' := by
  go_enter Try.func29, Try.ntmps29
  go_wp2_with (first | (with_reducible refine (iIn_calls _ _ _ _).mono ?_; rintro e w1 ⟨rfl, rfl⟩))
  all_goals (go_ret; exact ⟨by congr 2; simp [goodE, *] <;> omega, (Below.refl _ _).alloc (Nat.le_refl _) _⟩)

def entriesOk : Int → List DEntry → Bool
  | _, [] => true
  | t, e :: es => goodE e && decide (t ≤ e.fTerm) && entriesOk e.fTerm es
def headOk (x : DWal) : Bool := inB x.fFirst 1 1000000 && inB x.fBefore 0 1000000 && ((x.fBefore == 0) == (x.fFirst == 1)) && decide (x.fEntries.length ≤ 60)
def goodWal (x : DWal) : Bool := headOk x && entriesOk x.fBefore x.fEntries

set_option maxHeartbeats 2000000 in
set_option maxRecDepth 100000 in
theorem iGoodWal_calls (x : DWal) (v2 : Value) (w : World) (g2 : kEntry.S w x.fEntries v2) (hl : x.fEntries.length ≤ 140737488355328) : Calls Try.prog 14 #[.agg #[.int .i64 x.fFirst, .int .i64 x.fBefore, v2]] w fun e w' => e = .returned (.bool (goodWal x)) ∧ Below w.heap.size w w' := by
  obtain ⟨A, c, rfl, hc, h⟩ := g2
  have H := Lib.hid h; clear h
  by_cases hh : headOk x = true
  · have h1 := hh
    simp only [headOk, Bool.and_eq_true, decide_eq_true_eq, beq_iff_eq] at h1
    obtain ⟨⟨⟨p1, p2⟩, p3⟩, p4⟩ := h1
    have HH := Lib.hid hh; clear hh
    go_enter Try.func14, Try.ntmps14
    go_wp2_with (first | (with_reducible refine (iIn_calls _ _ _ _).mono ?_; rintro e w1 ⟨rfl, rfl⟩))
    go_loopw [3, 36] (fun t i wr => ∃ (k : Nat) (tm : Int), k ≤ x.fEntries.length ∧ i = .int .i64 k ∧ t = .int .i64 tm ∧ Hid (entriesOk tm (x.fEntries.drop k) = entriesOk x.fBefore x.fEntries) ∧ Hid (Below w.heap.size w wr) ∧ Hid (Box wr w.heap.size #[.int .i64 x.fFirst, .int .i64 x.fBefore, .slice A x.fEntries.length c] 25)) (fun _ i _ => x.fEntries.length - (intOf i).toNat)
    case atStart => exact ⟨0, _, Nat.zero_le _, rfl, rfl, by simp [Hid], (Below.refl _ _).alloc (Nat.le_refl _) _, Box.new rfl⟩
    case round =>
      obtain ⟨k, tm, hk, rfl, rfl, HE, HB, HX⟩ := hrel
      by_cases hlt : k < x.fEntries.length
      · obtain ⟨b, o, cs, rfl, k1, q1⟩ := Rp.C_get H.out k hlt
        obtain rfl := kEntry_K k1
        have hd := HE.out
        rw [List.drop_eq_getElem_cons hlt, entriesOk] at hd
        generalize he : x.fEntries[k] = y at *
        have HG := Lib.hid he; clear he
        have HD := Lib.hid hd; clear hd HE
        have a0 := (World.cell?_of_block (HB.out.block b (World.block_lt_of_cell? w _ (q1 0 _ rfl)))).trans (q1 0 _ rfl)
        simp only [kEntry_sz, Nat.add_zero] at a0
        have a1 := (World.cell?_of_block (HB.out.block b (World.block_lt_of_cell? w _ (q1 1 _ rfl)))).trans (q1 1 _ rfl)
        simp only [kEntry_sz] at a1
        clear q1 k1
        have i1 : (0 : Int) ≤ (k : Int) := by omega
        have i2 : (k : Int) < (x.fEntries.length : Int) := by omega
        have X1 := Lib.hid (Box.alloc (o := .cells #[.int .i64 y.fTerm, .string y.fData] 27) HX.out)
        go_wp2_with fail
        (with_reducible refine (iEntry_calls y _).mono ?_)
        rintro e w1 ⟨rfl, hb⟩
        have B1 : Box w1 wr.heap.size #[.int .i64 y.fTerm, .string y.fData] 27 := Box.below (Box.new rfl) hb
        have c0 := B1.cell 0 (v := .int .i64 y.fTerm) rfl
        have HB1 := Lib.hid (HB.out.trans (Below.trans ((Below.refl _ _).alloc HB.out.size _) (hb.mono (by have := HB.out.size; simp; omega))))
        have HX1 := Lib.hid (X1.out.below hb)
        clear hb B1 X1
        by_cases hg : goodE y = true
        · by_cases ht : tm ≤ y.fTerm
          · rw [hg]
            have hd2 := HD.out
            rw [hg, decide_eq_true ht] at hd2
            have HD2 := Lib.hid hd2; clear hd2
            clear hg
            go_wp2
            exact ⟨⟨k + 1, _, by omega, by go_num, rfl, by have h9 := HD2.out; simp only [Bool.true_and] at h9; exact h9, HB1.out, HX1.out⟩, by simp [intOf]; omega⟩
          · rw [hg]
            have hd2 := HD.out
            rw [hg, decide_eq_false ht] at hd2
            have HD2 := Lib.hid hd2; clear hd2
            clear hg
            go_wp2
            go_ret
            exact ⟨by rw [goodWal, ← HD2.out]; simp, HB1.out⟩
        · have hg' : goodE y = false := by simpa using hg
          rw [hg']
          have hd2 := HD.out
          rw [hg'] at hd2
          have HD2 := Lib.hid hd2; clear hd2
          clear hg hg'
          go_wp2
          go_ret
          exact ⟨by rw [goodWal, ← HD2.out]; simp, HB1.out⟩
      · go_wp2
        go_ret
        obtain rfl : k = x.fEntries.length := by omega
        exact ⟨by rw [goodWal, HH.out, ← HE.out]; simp [entriesOk], HB.out⟩
  · have hh2 : headOk x = false := by simpa using hh
    have HH := Lib.hid hh2; clear hh2 hh
    go_enter Try.func14, Try.ntmps14
    go_wp2_with (first | (with_reducible refine (iIn_calls _ _ _ _).mono ?_; rintro e w1 ⟨rfl, rfl⟩))
    all_goals first
      | (exfalso; have h3 := HH.out; simp [headOk, *] at h3; (try omega); done)
      | (go_ret; exact ⟨by rw [goodWal, HH.out]; rfl, (Below.refl _ _).alloc (Nat.le_refl _) _⟩)
set_option maxHeartbeats 2000000 in
set_option maxRecDepth 100000 in
theorem sGoodWal_calls (x : DWal) (v2 : Value) (w : World) (g2 : kEntry.S w x.fEntries v2) (hl : x.fEntries.length ≤ 140737488355328) : Calls Try.prog 22 #[.agg #[.int .i64 x.fFirst, .int .i64 x.fBefore, v2]] w fun e w' => e = .returned (.bool (goodWal x)) ∧ Below w.heap.size w w' := by
  obtain ⟨A, c, rfl, hc, h⟩ := g2
  have H := Lib.hid h; clear h
  · go_enter Try.func22, Try.ntmps22
    go_wp2
    go_loopw [3, 11] (fun t i wr => ∃ (k : Nat) (tm : Int), k ≤ x.fEntries.length ∧ i = .int .i64 k ∧ t = .int .i64 tm ∧ Hid (entriesOk tm (x.fEntries.drop k) = entriesOk x.fBefore x.fEntries) ∧ Hid (Below w.heap.size w wr) ∧ Hid (Box wr w.heap.size #[.int .i64 x.fFirst, .int .i64 x.fBefore, .slice A x.fEntries.length c] 25)) (fun _ i _ => x.fEntries.length - (intOf i).toNat)
    case atStart => exact ⟨0, _, Nat.zero_le _, rfl, rfl, by simp [Hid], (Below.refl _ _).alloc (Nat.le_refl _) _, Box.new rfl⟩
    case round =>
      obtain ⟨k, tm, hk, rfl, rfl, HE, HB, HX⟩ := hrel
      by_cases hlt : k < x.fEntries.length
      · obtain ⟨b, o, cs, rfl, k1, q1⟩ := Rp.C_get H.out k hlt
        obtain rfl := kEntry_K k1
        have hd := HE.out
        rw [List.drop_eq_getElem_cons hlt, entriesOk] at hd
        generalize he : x.fEntries[k] = y at *
        have HG := Lib.hid he; clear he
        have HD := Lib.hid hd; clear hd HE
        have a0 := (World.cell?_of_block (HB.out.block b (World.block_lt_of_cell? w _ (q1 0 _ rfl)))).trans (q1 0 _ rfl)
        simp only [kEntry_sz, Nat.add_zero] at a0
        have a1 := (World.cell?_of_block (HB.out.block b (World.block_lt_of_cell? w _ (q1 1 _ rfl)))).trans (q1 1 _ rfl)
        simp only [kEntry_sz] at a1
        clear q1 k1
        have i1 : (0 : Int) ≤ (k : Int) := by omega
        have i2 : (k : Int) < (x.fEntries.length : Int) := by omega
        have X1 := Lib.hid (Box.alloc (o := .cells #[.int .i64 y.fTerm, .string y.fData] 27) HX.out)
        go_wp2_with fail
        (with_reducible refine (sEntry_calls y _).mono ?_)
        rintro e w1 ⟨rfl, hb⟩
        have B1 : Box w1 wr.heap.size #[.int .i64 y.fTerm, .string y.fData] 27 := Box.below (Box.new rfl) hb
        have c0 := B1.cell 0 (v := .int .i64 y.fTerm) rfl
        have HB1 := Lib.hid (HB.out.trans (Below.trans ((Below.refl _ _).alloc HB.out.size _) (hb.mono (by have := HB.out.size; simp; omega))))
        have HX1 := Lib.hid (X1.out.below hb)
        clear hb B1 X1
        by_cases hg : goodE y = true
        · by_cases ht : tm ≤ y.fTerm
          · rw [hg]
            have hd2 := HD.out
            rw [hg, decide_eq_true ht] at hd2
            have HD2 := Lib.hid hd2; clear hd2
            clear hg
            go_wp2
            exact ⟨⟨k + 1, _, by omega, by go_num, rfl, by have h9 := HD2.out; simp only [Bool.true_and] at h9; exact h9, HB1.out, HX1.out⟩, by simp [intOf]; omega⟩
          · rw [hg]
            have hd2 := HD.out
            rw [hg, decide_eq_false ht] at hd2
            have HD2 := Lib.hid hd2; clear hd2
            clear hg
            go_wp2
            go_ret
            exact ⟨by rw [goodWal, ← HD2.out]; simp, HB1.out⟩
        · have hg' : goodE y = false := by simpa using hg
          rw [hg']
          have hd2 := HD.out
          rw [hg'] at hd2
          have HD2 := Lib.hid hd2; clear hd2
          clear hg hg'
          go_wp2
          go_ret
          exact ⟨by rw [goodWal, ← HD2.out]; simp, HB1.out⟩
      · obtain rfl : k = x.fEntries.length := by omega
        have hE := HE.out
        rw [List.drop_length, entriesOk] at hE
        have HE2 := Lib.hid hE; clear hE HE
        have d0 := HX.out.cell 0 (v := .int .i64 x.fFirst) rfl
        have d1 := HX.out.cell 1 (v := .int .i64 x.fBefore) rfl
        have d2 := HX.out.cell 2 (v := .slice A x.fEntries.length c) rfl
        go_wp2_with (first | (with_reducible refine (sIn_calls _ _ _ _).mono ?_; rintro e w1 ⟨rfl, rfl⟩))
        all_goals (go_ret; exact ⟨by rw [goodWal, ← HE2.out]; congr 2; simp [headOk, *] <;> omega, HB.out⟩)
end Go.Proofs.Ytjigbmgfjmghcaa
