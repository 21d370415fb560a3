/- Messages: which are right, walked: GoodRaftMsg. -/
import Derived.Test.YthnjcolbdoaabaaRaM
namespace Go.Proofs.Ythnjcolbdoaabaa
open Go Go.RowKit Go.Sort
set_option linter.unusedVariables false
set_option linter.unusedSimpArgs false

theorem ret_boolR {a b : Bool} (h : a = b) : Ending.returned (.bool a) = .returned (.bool b) := by rw [h]
def bareM (m : DRaftMsg) : Bool := decide ((m.fEntries.length : Int) = 0) && (m.fCommit == 0)
def bodyM (m : DRaftMsg) : Bool :=
  if m.fKind == 1 then bareM m && !m.fYes
  else if m.fKind == 2 then bareM m && (m.fIndex == 0) && (m.fBefore == 0)
  else if m.fKind == 3 then entFrom m.fTerm none m.fEntries && decide (m.fIndex + m.fEntries.length ≤ 60) && inR m.fCommit 0 60 && !m.fYes
  else if m.fKind == 4 then bareM m && (m.fBefore == 0) else false
def headM (m : DRaftMsg) (pe : Int) : Bool := inR pe 1 7 && inR m.fFrom 0 (pe - 1) && inR m.fTo 0 (pe - 1) && !(decide (m.fFrom = m.fTo)) && inR m.fTerm 1 1000 && inR m.fIndex 0 60 && inR m.fBefore 0 1000
def msgOk (m : DRaftMsg) (pe : Int) : Bool := headM m pe && bodyM m

set_option maxHeartbeats 400000 in
theorem iIndexR_calls (n : Int) (w : World) : Calls Try.prog 77 #[.int .i64 n] w fun e w' => e = .returned (.bool (inR n 0 60)) ∧ w' = w := by
  go_enter Try.func77, Try.ntmps77
  go_wp2_with (with_reducible refine (iInR_calls _ _ _ _).mono ?_; rintro e w1 ⟨rfl, rfl⟩)
  all_goals (go_ret; exact ⟨rfl, rfl⟩)

set_option maxHeartbeats 8000000 in
set_option maxRecDepth 100000 in
theorem iGoodRaftMsg_calls (x : DRaftMsg) (pe : Int) (v6 : Value) (w : World) (g6 : kEntry.S w x.fEntries v6) (hl : x.fEntries.length ≤ 1048576) : Calls Try.prog 29 #[.agg #[.int .i64 x.fKind, .int .i64 x.fFrom, .int .i64 x.fTo, .int .i64 x.fTerm, .int .i64 x.fIndex, .int .i64 x.fBefore, v6, .int .i64 x.fCommit, .bool x.fYes], .int .i64 pe] w
    fun e w' => e = .returned (.bool (msgOk x pe)) ∧ Below w.heap.size w w' := by
  have G := Lib.hid g6
  obtain ⟨A, c, rfl, hc, h⟩ := g6
  clear h
  generalize hes : x.fEntries = es at *
  have HE := Lib.hid hes; clear hes
  have hpath : ((inR pe 1 7) = false) ∨ ((inR pe 1 7) = true ∧ (inR x.fFrom 0 (pe - 1)) = false) ∨ ((inR pe 1 7) = true ∧ (inR x.fFrom 0 (pe - 1)) = true ∧ (inR x.fTo 0 (pe - 1)) = false) ∨ ((inR pe 1 7) = true ∧ (inR x.fFrom 0 (pe - 1)) = true ∧ (inR x.fTo 0 (pe - 1)) = true ∧ (decide (x.fFrom = x.fTo)) = true) ∨ ((inR pe 1 7) = true ∧ (inR x.fFrom 0 (pe - 1)) = true ∧ (inR x.fTo 0 (pe - 1)) = true ∧ (decide (x.fFrom = x.fTo)) = false ∧ (inR x.fTerm 1 1000) = false) ∨ ((inR pe 1 7) = true ∧ (inR x.fFrom 0 (pe - 1)) = true ∧ (inR x.fTo 0 (pe - 1)) = true ∧ (decide (x.fFrom = x.fTo)) = false ∧ (inR x.fTerm 1 1000) = true ∧ (inR x.fIndex 0 60) = false) ∨ ((inR pe 1 7) = true ∧ (inR x.fFrom 0 (pe - 1)) = true ∧ (inR x.fTo 0 (pe - 1)) = true ∧ (decide (x.fFrom = x.fTo)) = false ∧ (inR x.fTerm 1 1000) = true ∧ (inR x.fIndex 0 60) = true ∧ (inR x.fBefore 0 1000) = false) ∨ ((inR pe 1 7) = true ∧ (inR x.fFrom 0 (pe - 1)) = true ∧ (inR x.fTo 0 (pe - 1)) = true ∧ (decide (x.fFrom = x.fTo)) = false ∧ (inR x.fTerm 1 1000) = true ∧ (inR x.fIndex 0 60) = true ∧ (inR x.fBefore 0 1000) = true) := by
    cases (inR pe 1 7) <;> cases (inR x.fFrom 0 (pe - 1)) <;> cases (inR x.fTo 0 (pe - 1)) <;> cases (decide (x.fFrom = x.fTo)) <;> cases (inR x.fTerm 1 1000) <;> cases (inR x.fIndex 0 60) <;> cases (inR x.fBefore 0 1000) <;> simp
  rcases hpath with h1 | ⟨h1, h2⟩ | ⟨h1, h2, h3⟩ | ⟨h1, h2, h3, h4⟩ | ⟨h1, h2, h3, h4, h5⟩ | ⟨h1, h2, h3, h4, h5, h6⟩ | ⟨h1, h2, h3, h4, h5, h6, h7⟩ | ⟨h1, h2, h3, h4, h5, h6, h7⟩
  · skip
    have HM := Lib.hid (show msgOk x pe = false by simp [msgOk, headM, h1])
    go_enter Try.func29, Try.ntmps29
    go_wp2_with (first | ((with_reducible refine (iPeers_calls pe _).mono ?_); rintro e wq ⟨rfl, rfl⟩; rw [h1]))
    all_goals go_ret
    all_goals exact ⟨by rw [HM.out]; rfl, (Below.refl _ _).alloc (Nat.le_refl _) _⟩
  · skip
    have hpe : 1 ≤ pe ∧ pe ≤ 7 := by simpa [inR] using h1
    obtain ⟨hp1, hp2⟩ := hpe
    have hwr : IntKind.i64.wrap (pe - 1) = pe - 1 := by rw [IntKind.wrap_i64]; omega
    have HM := Lib.hid (show msgOk x pe = false by simp [msgOk, headM, h1, h2])
    go_enter Try.func29, Try.ntmps29
    go_wp2_with (first | ((with_reducible refine (iPeers_calls pe _).mono ?_); rintro e wq ⟨rfl, rfl⟩; rw [h1]) | ((with_reducible refine (iInR_calls x.fFrom _ _ _).mono ?_); rintro e wq ⟨rfl, rfl⟩; rw [h2]))
    all_goals go_ret
    all_goals exact ⟨by rw [HM.out]; rfl, (Below.refl _ _).alloc (Nat.le_refl _) _⟩
  · skip
    have hpe : 1 ≤ pe ∧ pe ≤ 7 := by simpa [inR] using h1
    obtain ⟨hp1, hp2⟩ := hpe
    have hwr : IntKind.i64.wrap (pe - 1) = pe - 1 := by rw [IntKind.wrap_i64]; omega
    have HM := Lib.hid (show msgOk x pe = false by simp [msgOk, headM, h1, h2, h3])
    go_enter Try.func29, Try.ntmps29
    go_wp2_with (first | ((with_reducible refine (iPeers_calls pe _).mono ?_); rintro e wq ⟨rfl, rfl⟩; rw [h1]) | ((with_reducible refine (iInR_calls x.fFrom _ _ _).mono ?_); rintro e wq ⟨rfl, rfl⟩; rw [h2]) | ((with_reducible refine (iInR_calls x.fTo _ _ _).mono ?_); rintro e wq ⟨rfl, rfl⟩; rw [h3]))
    all_goals go_ret
    all_goals exact ⟨by rw [HM.out]; rfl, (Below.refl _ _).alloc (Nat.le_refl _) _⟩
  · skip
    have h4' : (x.fFrom == x.fTo) = true := h4
    have hpe : 1 ≤ pe ∧ pe ≤ 7 := by simpa [inR] using h1
    obtain ⟨hp1, hp2⟩ := hpe
    have hwr : IntKind.i64.wrap (pe - 1) = pe - 1 := by rw [IntKind.wrap_i64]; omega
    have HM := Lib.hid (show msgOk x pe = false by simp [msgOk, headM, h1, h2, h3, h4])
    go_enter Try.func29, Try.ntmps29
    go_wp2_with (first | ((with_reducible refine (iPeers_calls pe _).mono ?_); rintro e wq ⟨rfl, rfl⟩; rw [h1]) | ((with_reducible refine (iInR_calls x.fFrom _ _ _).mono ?_); rintro e wq ⟨rfl, rfl⟩; rw [h2]) | ((with_reducible refine (iInR_calls x.fTo _ _ _).mono ?_); rintro e wq ⟨rfl, rfl⟩; rw [h3]))
    all_goals go_ret
    all_goals exact ⟨by rw [HM.out]; rfl, (Below.refl _ _).alloc (Nat.le_refl _) _⟩
  · skip
    have h4' : (x.fFrom == x.fTo) = false := h4
    have hpe : 1 ≤ pe ∧ pe ≤ 7 := by simpa [inR] using h1
    obtain ⟨hp1, hp2⟩ := hpe
    have hwr : IntKind.i64.wrap (pe - 1) = pe - 1 := by rw [IntKind.wrap_i64]; omega
    have HM := Lib.hid (show msgOk x pe = false by simp [msgOk, headM, h1, h2, h3, h4, h5])
    go_enter Try.func29, Try.ntmps29
    go_wp2_with (first | ((with_reducible refine (iPeers_calls pe _).mono ?_); rintro e wq ⟨rfl, rfl⟩; rw [h1]) | ((with_reducible refine (iInR_calls x.fFrom _ _ _).mono ?_); rintro e wq ⟨rfl, rfl⟩; rw [h2]) | ((with_reducible refine (iInR_calls x.fTo _ _ _).mono ?_); rintro e wq ⟨rfl, rfl⟩; rw [h3]) | ((with_reducible refine (iInR_calls x.fTerm _ _ _).mono ?_); rintro e wq ⟨rfl, rfl⟩; rw [h5]))
    all_goals go_ret
    all_goals exact ⟨by rw [HM.out]; rfl, (Below.refl _ _).alloc (Nat.le_refl _) _⟩
  · skip
    have h4' : (x.fFrom == x.fTo) = false := h4
    have hpe : 1 ≤ pe ∧ pe ≤ 7 := by simpa [inR] using h1
    obtain ⟨hp1, hp2⟩ := hpe
    have hwr : IntKind.i64.wrap (pe - 1) = pe - 1 := by rw [IntKind.wrap_i64]; omega
    have HM := Lib.hid (show msgOk x pe = false by simp [msgOk, headM, h1, h2, h3, h4, h5, h6])
    go_enter Try.func29, Try.ntmps29
    go_wp2_with (first | ((with_reducible refine (iPeers_calls pe _).mono ?_); rintro e wq ⟨rfl, rfl⟩; rw [h1]) | ((with_reducible refine (iInR_calls x.fFrom _ _ _).mono ?_); rintro e wq ⟨rfl, rfl⟩; rw [h2]) | ((with_reducible refine (iInR_calls x.fTo _ _ _).mono ?_); rintro e wq ⟨rfl, rfl⟩; rw [h3]) | ((with_reducible refine (iInR_calls x.fTerm _ _ _).mono ?_); rintro e wq ⟨rfl, rfl⟩; rw [h5]) | ((with_reducible refine (iIndexR_calls x.fIndex _).mono ?_); rintro e wq ⟨rfl, rfl⟩; rw [h6]))
    all_goals go_ret
    all_goals exact ⟨by rw [HM.out]; rfl, (Below.refl _ _).alloc (Nat.le_refl _) _⟩
  · skip
    have h4' : (x.fFrom == x.fTo) = false := h4
    have hpe : 1 ≤ pe ∧ pe ≤ 7 := by simpa [inR] using h1
    obtain ⟨hp1, hp2⟩ := hpe
    have hwr : IntKind.i64.wrap (pe - 1) = pe - 1 := by rw [IntKind.wrap_i64]; omega
    have HM := Lib.hid (show msgOk x pe = false by simp [msgOk, headM, h1, h2, h3, h4, h5, h6, h7])
    go_enter Try.func29, Try.ntmps29
    go_wp2_with (first | ((with_reducible refine (iPeers_calls pe _).mono ?_); rintro e wq ⟨rfl, rfl⟩; rw [h1]) | ((with_reducible refine (iInR_calls x.fFrom _ _ _).mono ?_); rintro e wq ⟨rfl, rfl⟩; rw [h2]) | ((with_reducible refine (iInR_calls x.fTo _ _ _).mono ?_); rintro e wq ⟨rfl, rfl⟩; rw [h3]) | ((with_reducible refine (iInR_calls x.fTerm _ _ _).mono ?_); rintro e wq ⟨rfl, rfl⟩; rw [h5]) | ((with_reducible refine (iIndexR_calls x.fIndex _).mono ?_); rintro e wq ⟨rfl, rfl⟩; rw [h6]) | ((with_reducible refine (iInR_calls x.fBefore _ _ _).mono ?_); rintro e wq ⟨rfl, rfl⟩; rw [h7]))
    all_goals go_ret
    all_goals exact ⟨by rw [HM.out]; rfl, (Below.refl _ _).alloc (Nat.le_refl _) _⟩
  · skip
    have h4' : (x.fFrom == x.fTo) = false := h4
    have hpe : 1 ≤ pe ∧ pe ≤ 7 := by simpa [inR] using h1
    obtain ⟨hp1, hp2⟩ := hpe
    have hwr : IntKind.i64.wrap (pe - 1) = pe - 1 := by rw [IntKind.wrap_i64]; omega
    have HM := Lib.hid (show msgOk x pe = bodyM x by simp [msgOk, headM, h1, h2, h3, h4, h5, h6, h7])
    have hix : 0 ≤ x.fIndex ∧ x.fIndex ≤ 60 := by simpa [inR] using h6
    obtain ⟨hx1, hx2⟩ := hix
    rcases es with _ | ⟨e0, es1⟩
    · have GC := Lib.hid (show kEntry.S w [] (.slice A 0 c) from G.out)
      have hl2 : 0 ≤ 1048576 := hl
      clear G hl hc
      have hw2 : IntKind.i64.wrap x.fIndex = x.fIndex := by rw [IntKind.wrap_i64]; omega
      go_enter Try.func29, Try.ntmps29
      go_wp2_with (first | ((with_reducible refine (iPeers_calls pe _).mono ?_); rintro e wq ⟨rfl, rfl⟩; rw [h1]) | ((with_reducible refine (iInR_calls x.fFrom _ _ _).mono ?_); rintro e wq ⟨rfl, rfl⟩; rw [h2]) | ((with_reducible refine (iInR_calls x.fTo _ _ _).mono ?_); rintro e wq ⟨rfl, rfl⟩; rw [h3]) | ((with_reducible refine (iInR_calls x.fTerm _ _ _).mono ?_); rintro e wq ⟨rfl, rfl⟩; rw [h5]) | ((with_reducible refine (iIndexR_calls x.fIndex _).mono ?_); rintro e wq ⟨rfl, rfl⟩; rw [h6]) | ((with_reducible refine (iInR_calls x.fBefore _ _ _).mono ?_); rintro e wq ⟨rfl, rfl⟩; rw [h7]) | ((with_reducible refine (iIndexR_calls x.fCommit _).mono ?_); rintro e wq ⟨rfl, rfl⟩) | ((with_reducible refine (iEntries_calls [] x.fTerm _ _ (Rp.S_below GC.out ((Below.refl _ _).alloc (Nat.le_refl _) _)) (by first | (simp; done) | (simp; omega))).mono ?_); rintro e w2 ⟨rfl, hb⟩; have HB2 := Lib.hid (Below.trans ((Below.refl w.heap.size w).alloc (Nat.le_refl _) _) (hb.mono (by simp))); have BX := Box.below (Box.new (w := w) (T := 50) (cs := #[.int .i64 x.fKind, .int .i64 x.fFrom, .int .i64 x.fTo, .int .i64 x.fTerm, .int .i64 x.fIndex, .int .i64 x.fBefore, .slice A 0 c, .int .i64 x.fCommit, .bool x.fYes]) rfl) hb; have y4 := BX.cell 4 (v := .int .i64 x.fIndex) rfl; have y6 := BX.cell 6 (v := .slice A 0 c) rfl; have y7 := BX.cell 7 (v := .int .i64 x.fCommit) rfl; have y8 := BX.cell 8 (v := .bool x.fYes) rfl; clear hb BX))
      all_goals go_ret
      all_goals refine ⟨?_, by first | exact HB2.out | exact (Below.refl _ _).alloc (Nat.le_refl _) _⟩
      all_goals rw [HM.out]
      all_goals refine ret_boolR ?_
      all_goals first | (have hc1 := HC0.out h8; simp [bodyM, bareM, HE.out, entS_none, entS, entFrom, hc1, *]; done) | (have hc1 := HC0.out h8; simp_all [bodyM, bareM, HE.out, entS_none, entS, entFrom]; done) | (simp [bodyM, bareM, HE.out, entS_none, entS, entFrom, *]; done) | (simp [bodyM, bareM, HE.out, entS_none, entS, entFrom, *] <;> omega) | (simp_all [bodyM, bareM, HE.out, entS_none, entS, entFrom]; done) | (rw [Bool.eq_iff_iff]; simp_all [bodyM, bareM, HE.out, entS_none, entS, entFrom]; done) | (rw [Bool.eq_iff_iff]; simp_all [bodyM, bareM, HE.out, entS_none, entS, entFrom]; omega) | skip
    · have GC := Lib.hid (show kEntry.S w (e0 :: es1) (.slice A (es1.length + 1) c) from G.out)
      have hl2 : (es1.length + 1) ≤ 1048576 := hl
      clear G hl hc
      have hw2 : IntKind.i64.wrap (x.fIndex + ((es1.length : Int) + 1)) = x.fIndex + ((es1.length : Int) + 1) := by rw [IntKind.wrap_i64]; omega
      have hw3 : IntKind.i64.wrap (x.fIndex + ((es1.length + 1 : Nat) : Int)) = x.fIndex + ((es1.length + 1 : Nat) : Int) := by rw [IntKind.wrap_i64]; omega
      go_enter Try.func29, Try.ntmps29
      go_wp2_with (first | ((with_reducible refine (iPeers_calls pe _).mono ?_); rintro e wq ⟨rfl, rfl⟩; rw [h1]) | ((with_reducible refine (iInR_calls x.fFrom _ _ _).mono ?_); rintro e wq ⟨rfl, rfl⟩; rw [h2]) | ((with_reducible refine (iInR_calls x.fTo _ _ _).mono ?_); rintro e wq ⟨rfl, rfl⟩; rw [h3]) | ((with_reducible refine (iInR_calls x.fTerm _ _ _).mono ?_); rintro e wq ⟨rfl, rfl⟩; rw [h5]) | ((with_reducible refine (iIndexR_calls x.fIndex _).mono ?_); rintro e wq ⟨rfl, rfl⟩; rw [h6]) | ((with_reducible refine (iInR_calls x.fBefore _ _ _).mono ?_); rintro e wq ⟨rfl, rfl⟩; rw [h7]) | ((with_reducible refine (iIndexR_calls x.fCommit _).mono ?_); rintro e wq ⟨rfl, rfl⟩) | ((with_reducible refine (iEntries_calls (e0 :: es1) x.fTerm _ _ (Rp.S_below GC.out ((Below.refl _ _).alloc (Nat.le_refl _) _)) (by first | (simp; done) | (simp; omega))).mono ?_); rintro e w2 ⟨rfl, hb⟩; have HB2 := Lib.hid (Below.trans ((Below.refl w.heap.size w).alloc (Nat.le_refl _) _) (hb.mono (by simp))); have BX := Box.below (Box.new (w := w) (T := 50) (cs := #[.int .i64 x.fKind, .int .i64 x.fFrom, .int .i64 x.fTo, .int .i64 x.fTerm, .int .i64 x.fIndex, .int .i64 x.fBefore, .slice A (es1.length + 1) c, .int .i64 x.fCommit, .bool x.fYes]) rfl) hb; have y4 := BX.cell 4 (v := .int .i64 x.fIndex) rfl; have y6 := BX.cell 6 (v := .slice A (es1.length + 1) c) rfl; have y7 := BX.cell 7 (v := .int .i64 x.fCommit) rfl; have y8 := BX.cell 8 (v := .bool x.fYes) rfl; clear hb BX))
      all_goals go_ret
      all_goals refine ⟨?_, by first | exact HB2.out | exact (Below.refl _ _).alloc (Nat.le_refl _) _⟩
      all_goals rw [HM.out]
      all_goals refine ret_boolR ?_
      all_goals first | (have hc1 := HC0.out h8; simp [bodyM, bareM, HE.out, entS_none, entS, entFrom, hc1, *]; done) | (have hc1 := HC0.out h8; simp_all [bodyM, bareM, HE.out, entS_none, entS, entFrom]; done) | (simp [bodyM, bareM, HE.out, entS_none, entS, entFrom, *]; done) | (simp [bodyM, bareM, HE.out, entS_none, entS, entFrom, *] <;> omega) | (simp_all [bodyM, bareM, HE.out, entS_none, entS, entFrom]; done) | (rw [Bool.eq_iff_iff]; simp_all [bodyM, bareM, HE.out, entS_none, entS, entFrom]; done) | (rw [Bool.eq_iff_iff]; simp_all [bodyM, bareM, HE.out, entS_none, entS, entFrom]; omega) | skip

set_option maxHeartbeats 8000000 in
set_option maxRecDepth 100000 in
theorem sGoodRaftMsg_calls (x : DRaftMsg) (pe : Int) (v6 : Value) (w : World) (g6 : kEntry.S w x.fEntries v6) (hl : x.fEntries.length ≤ 1048576) : Calls Try.prog 102 #[.agg #[.int .i64 x.fKind, .int .i64 x.fFrom, .int .i64 x.fTo, .int .i64 x.fTerm, .int .i64 x.fIndex, .int .i64 x.fBefore, v6, .int .i64 x.fCommit, .bool x.fYes], .int .i64 pe] w
    fun e w' => e = .returned (.bool (msgOk x pe)) ∧ Below w.heap.size w w' := by
  have G := Lib.hid g6
  obtain ⟨A, c, rfl, hc, h⟩ := g6
  clear h
  generalize hes : x.fEntries = es at *
  have HE := Lib.hid hes; clear hes
  have hpath : ((inR pe 1 7) = false) ∨ ((inR pe 1 7) = true ∧ (decide (x.fFrom = x.fTo)) = true) ∨ ((inR pe 1 7) = true ∧ (decide (x.fFrom = x.fTo)) = false ∧ (inR x.fFrom 0 (pe - 1)) = false) ∨ ((inR pe 1 7) = true ∧ (decide (x.fFrom = x.fTo)) = false ∧ (inR x.fFrom 0 (pe - 1)) = true ∧ (inR x.fTo 0 (pe - 1)) = false) ∨ ((inR pe 1 7) = true ∧ (decide (x.fFrom = x.fTo)) = false ∧ (inR x.fFrom 0 (pe - 1)) = true ∧ (inR x.fTo 0 (pe - 1)) = true ∧ (inR x.fTerm 1 1000) = false) ∨ ((inR pe 1 7) = true ∧ (decide (x.fFrom = x.fTo)) = false ∧ (inR x.fFrom 0 (pe - 1)) = true ∧ (inR x.fTo 0 (pe - 1)) = true ∧ (inR x.fTerm 1 1000) = true ∧ (inR x.fIndex 0 60) = false) ∨ ((inR pe 1 7) = true ∧ (decide (x.fFrom = x.fTo)) = false ∧ (inR x.fFrom 0 (pe - 1)) = true ∧ (inR x.fTo 0 (pe - 1)) = true ∧ (inR x.fTerm 1 1000) = true ∧ (inR x.fIndex 0 60) = true ∧ (inR x.fBefore 0 1000) = false) ∨ ((inR pe 1 7) = true ∧ (decide (x.fFrom = x.fTo)) = false ∧ (inR x.fFrom 0 (pe - 1)) = true ∧ (inR x.fTo 0 (pe - 1)) = true ∧ (inR x.fTerm 1 1000) = true ∧ (inR x.fIndex 0 60) = true ∧ (inR x.fBefore 0 1000) = true) := by
    cases (inR pe 1 7) <;> cases (decide (x.fFrom = x.fTo)) <;> cases (inR x.fFrom 0 (pe - 1)) <;> cases (inR x.fTo 0 (pe - 1)) <;> cases (inR x.fTerm 1 1000) <;> cases (inR x.fIndex 0 60) <;> cases (inR x.fBefore 0 1000) <;> simp
  rcases hpath with h1 | ⟨h1, h4⟩ | ⟨h1, h4, h2⟩ | ⟨h1, h4, h2, h3⟩ | ⟨h1, h4, h2, h3, h5⟩ | ⟨h1, h4, h2, h3, h5, h6⟩ | ⟨h1, h4, h2, h3, h5, h6, h7⟩ | ⟨h1, h4, h2, h3, h5, h6, h7⟩
  · skip
    have HM := Lib.hid (show msgOk x pe = false by simp [msgOk, headM, h1])
    go_enter Try.func102, Try.ntmps102
    go_wp2_with (first | ((with_reducible refine (sPeers_calls pe _).mono ?_); rintro e wq ⟨rfl, rfl⟩; rw [h1]))
    all_goals go_ret
    all_goals exact ⟨by rw [HM.out]; rfl, (Below.refl _ _).alloc (Nat.le_refl _) _⟩
  · skip
    have h4' : (x.fFrom == x.fTo) = true := h4
    have hpe : 1 ≤ pe ∧ pe ≤ 7 := by simpa [inR] using h1
    obtain ⟨hp1, hp2⟩ := hpe
    have hwr : IntKind.i64.wrap (pe - 1) = pe - 1 := by rw [IntKind.wrap_i64]; omega
    have HM := Lib.hid (show msgOk x pe = false by simp [msgOk, headM, h1, h4])
    go_enter Try.func102, Try.ntmps102
    go_wp2_with (first | ((with_reducible refine (sPeers_calls pe _).mono ?_); rintro e wq ⟨rfl, rfl⟩; rw [h1]))
    all_goals go_ret
    all_goals exact ⟨by rw [HM.out]; rfl, (Below.refl _ _).alloc (Nat.le_refl _) _⟩
  · skip
    have h4' : (x.fFrom == x.fTo) = false := h4
    have hpe : 1 ≤ pe ∧ pe ≤ 7 := by simpa [inR] using h1
    obtain ⟨hp1, hp2⟩ := hpe
    have hwr : IntKind.i64.wrap (pe - 1) = pe - 1 := by rw [IntKind.wrap_i64]; omega
    have HM := Lib.hid (show msgOk x pe = false by simp [msgOk, headM, h1, h4, h2])
    go_enter Try.func102, Try.ntmps102
    go_wp2_with (first | ((with_reducible refine (sPeers_calls pe _).mono ?_); rintro e wq ⟨rfl, rfl⟩; rw [h1]) | ((with_reducible refine (sInR_calls x.fFrom _ _ _).mono ?_); rintro e wq ⟨rfl, rfl⟩; rw [h2]))
    all_goals go_ret
    all_goals exact ⟨by rw [HM.out]; rfl, (Below.refl _ _).alloc (Nat.le_refl _) _⟩
  · skip
    have h4' : (x.fFrom == x.fTo) = false := h4
    have hpe : 1 ≤ pe ∧ pe ≤ 7 := by simpa [inR] using h1
    obtain ⟨hp1, hp2⟩ := hpe
    have hwr : IntKind.i64.wrap (pe - 1) = pe - 1 := by rw [IntKind.wrap_i64]; omega
    have HM := Lib.hid (show msgOk x pe = false by simp [msgOk, headM, h1, h4, h2, h3])
    go_enter Try.func102, Try.ntmps102
    go_wp2_with (first | ((with_reducible refine (sPeers_calls pe _).mono ?_); rintro e wq ⟨rfl, rfl⟩; rw [h1]) | ((with_reducible refine (sInR_calls x.fFrom _ _ _).mono ?_); rintro e wq ⟨rfl, rfl⟩; rw [h2]) | ((with_reducible refine (sInR_calls x.fTo _ _ _).mono ?_); rintro e wq ⟨rfl, rfl⟩; rw [h3]))
    all_goals go_ret
    all_goals exact ⟨by rw [HM.out]; rfl, (Below.refl _ _).alloc (Nat.le_refl _) _⟩
  · skip
    have h4' : (x.fFrom == x.fTo) = false := h4
    have hpe : 1 ≤ pe ∧ pe ≤ 7 := by simpa [inR] using h1
    obtain ⟨hp1, hp2⟩ := hpe
    have hwr : IntKind.i64.wrap (pe - 1) = pe - 1 := by rw [IntKind.wrap_i64]; omega
    have HM := Lib.hid (show msgOk x pe = false by simp [msgOk, headM, h1, h4, h2, h3, h5])
    go_enter Try.func102, Try.ntmps102
    go_wp2_with (first | ((with_reducible refine (sPeers_calls pe _).mono ?_); rintro e wq ⟨rfl, rfl⟩; rw [h1]) | ((with_reducible refine (sInR_calls x.fFrom _ _ _).mono ?_); rintro e wq ⟨rfl, rfl⟩; rw [h2]) | ((with_reducible refine (sInR_calls x.fTo _ _ _).mono ?_); rintro e wq ⟨rfl, rfl⟩; rw [h3]) | ((with_reducible refine (sInR_calls x.fTerm _ _ _).mono ?_); rintro e wq ⟨rfl, rfl⟩; rw [h5]))
    all_goals go_ret
    all_goals exact ⟨by rw [HM.out]; rfl, (Below.refl _ _).alloc (Nat.le_refl _) _⟩
  · skip
    have h4' : (x.fFrom == x.fTo) = false := h4
    have hpe : 1 ≤ pe ∧ pe ≤ 7 := by simpa [inR] using h1
    obtain ⟨hp1, hp2⟩ := hpe
    have hwr : IntKind.i64.wrap (pe - 1) = pe - 1 := by rw [IntKind.wrap_i64]; omega
    have HM := Lib.hid (show msgOk x pe = false by simp [msgOk, headM, h1, h4, h2, h3, h5, h6])
    go_enter Try.func102, Try.ntmps102
    go_wp2_with (first | ((with_reducible refine (sPeers_calls pe _).mono ?_); rintro e wq ⟨rfl, rfl⟩; rw [h1]) | ((with_reducible refine (sInR_calls x.fFrom _ _ _).mono ?_); rintro e wq ⟨rfl, rfl⟩; rw [h2]) | ((with_reducible refine (sInR_calls x.fTo _ _ _).mono ?_); rintro e wq ⟨rfl, rfl⟩; rw [h3]) | ((with_reducible refine (sInR_calls x.fTerm _ _ _).mono ?_); rintro e wq ⟨rfl, rfl⟩; rw [h5]) | ((with_reducible refine (sInR_calls x.fIndex _ _ _).mono ?_); rintro e wq ⟨rfl, rfl⟩; rw [h6]))
    all_goals go_ret
    all_goals exact ⟨by rw [HM.out]; rfl, (Below.refl _ _).alloc (Nat.le_refl _) _⟩
  · skip
    have h4' : (x.fFrom == x.fTo) = false := h4
    have hpe : 1 ≤ pe ∧ pe ≤ 7 := by simpa [inR] using h1
    obtain ⟨hp1, hp2⟩ := hpe
    have hwr : IntKind.i64.wrap (pe - 1) = pe - 1 := by rw [IntKind.wrap_i64]; omega
    have HM := Lib.hid (show msgOk x pe = false by simp [msgOk, headM, h1, h4, h2, h3, h5, h6, h7])
    go_enter Try.func102, Try.ntmps102
    go_wp2_with (first | ((with_reducible refine (sPeers_calls pe _).mono ?_); rintro e wq ⟨rfl, rfl⟩; rw [h1]) | ((with_reducible refine (sInR_calls x.fFrom _ _ _).mono ?_); rintro e wq ⟨rfl, rfl⟩; rw [h2]) | ((with_reducible refine (sInR_calls x.fTo _ _ _).mono ?_); rintro e wq ⟨rfl, rfl⟩; rw [h3]) | ((with_reducible refine (sInR_calls x.fTerm _ _ _).mono ?_); rintro e wq ⟨rfl, rfl⟩; rw [h5]) | ((with_reducible refine (sInR_calls x.fIndex _ _ _).mono ?_); rintro e wq ⟨rfl, rfl⟩; rw [h6]) | ((with_reducible refine (sInR_calls x.fBefore _ _ _).mono ?_); rintro e wq ⟨rfl, rfl⟩; rw [h7]))
    all_goals go_ret
    all_goals exact ⟨by rw [HM.out]; rfl, (Below.refl _ _).alloc (Nat.le_refl _) _⟩
  · skip
    have h4' : (x.fFrom == x.fTo) = false := h4
    have hpe : 1 ≤ pe ∧ pe ≤ 7 := by simpa [inR] using h1
    obtain ⟨hp1, hp2⟩ := hpe
    have hwr : IntKind.i64.wrap (pe - 1) = pe - 1 := by rw [IntKind.wrap_i64]; omega
    have HM := Lib.hid (show msgOk x pe = bodyM x by simp [msgOk, headM, h1, h4, h2, h3, h5, h6, h7])
    have hix : 0 ≤ x.fIndex ∧ x.fIndex ≤ 60 := by simpa [inR] using h6
    obtain ⟨hx1, hx2⟩ := hix
    rcases es with _ | ⟨e0, es1⟩
    · have GC := Lib.hid (show kEntry.S w [] (.slice A 0 c) from G.out)
      have hl2 : 0 ≤ 1048576 := hl
      clear G hl hc
      have hw2 : IntKind.i64.wrap x.fIndex = x.fIndex := by rw [IntKind.wrap_i64]; omega
      have hc0 : inR x.fCommit 0 60 = false → (x.fCommit == 0) = false := fun h => by
        have : x.fCommit ≠ 0 := fun h0 => by rw [h0] at h; cases h
        simpa using this
      have HC0 := Lib.hid hc0; clear hc0
      cases h8 : inR x.fCommit 0 60
      all_goals go_enter Try.func102, Try.ntmps102
      all_goals go_wp2_with (first | ((with_reducible refine (sPeers_calls pe _).mono ?_); rintro e wq ⟨rfl, rfl⟩; rw [h1]) | ((with_reducible refine (sInR_calls x.fFrom _ _ _).mono ?_); rintro e wq ⟨rfl, rfl⟩; rw [h2]) | ((with_reducible refine (sInR_calls x.fTo _ _ _).mono ?_); rintro e wq ⟨rfl, rfl⟩; rw [h3]) | ((with_reducible refine (sInR_calls x.fTerm _ _ _).mono ?_); rintro e wq ⟨rfl, rfl⟩; rw [h5]) | ((with_reducible refine (sInR_calls x.fIndex _ _ _).mono ?_); rintro e wq ⟨rfl, rfl⟩; rw [h6]) | ((with_reducible refine (sInR_calls x.fBefore _ _ _).mono ?_); rintro e wq ⟨rfl, rfl⟩; rw [h7]) | ((with_reducible refine (sInR_calls x.fCommit _ _ _).mono ?_); rintro e wq ⟨rfl, rfl⟩; rw [h8]) | ((with_reducible refine (sEntries_calls [] 1 x.fTerm _ _ (Rp.S_below GC.out ((Below.refl _ _).alloc (Nat.le_refl _) _)) (by first | (simp; done) | (simp; omega))).mono ?_); rintro e w2 ⟨rfl, hb⟩; have HB2 := Lib.hid (Below.trans ((Below.refl w.heap.size w).alloc (Nat.le_refl _) _) (hb.mono (by simp))); have BX := Box.below (Box.new (w := w) (T := 50) (cs := #[.int .i64 3, .int .i64 x.fFrom, .int .i64 x.fTo, .int .i64 x.fTerm, .int .i64 x.fIndex, .int .i64 x.fBefore, .slice A 0 c, .int .i64 x.fCommit, .bool false]) rfl) hb; have y4 := BX.cell 4 (v := .int .i64 x.fIndex) rfl; have y6 := BX.cell 6 (v := .slice A 0 c) rfl; have y7 := BX.cell 7 (v := .int .i64 x.fCommit) rfl; have y8 := BX.cell 8 (v := .bool false) rfl; clear hb BX))
      all_goals go_ret
      all_goals refine ⟨?_, by first | exact HB2.out | exact (Below.refl _ _).alloc (Nat.le_refl _) _⟩
      all_goals rw [HM.out]
      all_goals refine ret_boolR ?_
      all_goals first | (have hc1 := HC0.out h8; simp [bodyM, bareM, HE.out, entS_none, entS, entFrom, hc1, *]; done) | (have hc1 := HC0.out h8; simp_all [bodyM, bareM, HE.out, entS_none, entS, entFrom]; done) | (simp [bodyM, bareM, HE.out, entS_none, entS, entFrom, *]; done) | (simp [bodyM, bareM, HE.out, entS_none, entS, entFrom, *] <;> omega) | (simp_all [bodyM, bareM, HE.out, entS_none, entS, entFrom]; done) | (rw [Bool.eq_iff_iff]; simp_all [bodyM, bareM, HE.out, entS_none, entS, entFrom]; done) | (rw [Bool.eq_iff_iff]; simp_all [bodyM, bareM, HE.out, entS_none, entS, entFrom]; omega) | skip
    · have GC := Lib.hid (show kEntry.S w (e0 :: es1) (.slice A (es1.length + 1) c) from G.out)
      have hl2 : (es1.length + 1) ≤ 1048576 := hl
      clear G hl hc
      have hw2 : IntKind.i64.wrap (x.fIndex + ((es1.length : Int) + 1)) = x.fIndex + ((es1.length : Int) + 1) := by rw [IntKind.wrap_i64]; omega
      have hw3 : IntKind.i64.wrap (x.fIndex + ((es1.length + 1 : Nat) : Int)) = x.fIndex + ((es1.length + 1 : Nat) : Int) := by rw [IntKind.wrap_i64]; omega
      have hc0 : inR x.fCommit 0 60 = false → (x.fCommit == 0) = false := fun h => by
        have : x.fCommit ≠ 0 := fun h0 => by rw [h0] at h; cases h
        simpa using this
      have HC0 := Lib.hid hc0; clear hc0
      cases h8 : inR x.fCommit 0 60
      all_goals go_enter Try.func102, Try.ntmps102
      all_goals go_wp2_with (first | ((with_reducible refine (sPeers_calls pe _).mono ?_); rintro e wq ⟨rfl, rfl⟩; rw [h1]) | ((with_reducible refine (sInR_calls x.fFrom _ _ _).mono ?_); rintro e wq ⟨rfl, rfl⟩; rw [h2]) | ((with_reducible refine (sInR_calls x.fTo _ _ _).mono ?_); rintro e wq ⟨rfl, rfl⟩; rw [h3]) | ((with_reducible refine (sInR_calls x.fTerm _ _ _).mono ?_); rintro e wq ⟨rfl, rfl⟩; rw [h5]) | ((with_reducible refine (sInR_calls x.fIndex _ _ _).mono ?_); rintro e wq ⟨rfl, rfl⟩; rw [h6]) | ((with_reducible refine (sInR_calls x.fBefore _ _ _).mono ?_); rintro e wq ⟨rfl, rfl⟩; rw [h7]) | ((with_reducible refine (sInR_calls x.fCommit _ _ _).mono ?_); rintro e wq ⟨rfl, rfl⟩; rw [h8]) | ((with_reducible refine (sEntries_calls (e0 :: es1) 1 x.fTerm _ _ (Rp.S_below GC.out ((Below.refl _ _).alloc (Nat.le_refl _) _)) (by first | (simp; done) | (simp; omega))).mono ?_); rintro e w2 ⟨rfl, hb⟩; have HB2 := Lib.hid (Below.trans ((Below.refl w.heap.size w).alloc (Nat.le_refl _) _) (hb.mono (by simp))); have BX := Box.below (Box.new (w := w) (T := 50) (cs := #[.int .i64 3, .int .i64 x.fFrom, .int .i64 x.fTo, .int .i64 x.fTerm, .int .i64 x.fIndex, .int .i64 x.fBefore, .slice A (es1.length + 1) c, .int .i64 x.fCommit, .bool false]) rfl) hb; have y4 := BX.cell 4 (v := .int .i64 x.fIndex) rfl; have y6 := BX.cell 6 (v := .slice A (es1.length + 1) c) rfl; have y7 := BX.cell 7 (v := .int .i64 x.fCommit) rfl; have y8 := BX.cell 8 (v := .bool false) rfl; clear hb BX))
      all_goals go_ret
      all_goals refine ⟨?_, by first | exact HB2.out | exact (Below.refl _ _).alloc (Nat.le_refl _) _⟩
      all_goals rw [HM.out]
      all_goals refine ret_boolR ?_
      all_goals first | (have hc1 := HC0.out h8; simp [bodyM, bareM, HE.out, entS_none, entS, entFrom, hc1, *]; done) | (have hc1 := HC0.out h8; simp_all [bodyM, bareM, HE.out, entS_none, entS, entFrom]; done) | (simp [bodyM, bareM, HE.out, entS_none, entS, entFrom, *]; done) | (simp [bodyM, bareM, HE.out, entS_none, entS, entFrom, *] <;> omega) | (simp_all [bodyM, bareM, HE.out, entS_none, entS, entFrom]; done) | (rw [Bool.eq_iff_iff]; simp_all [bodyM, bareM, HE.out, entS_none, entS, entFrom]; done) | (rw [Bool.eq_iff_iff]; simp_all [bodyM, bareM, HE.out, entS_none, entS, entFrom]; omega) | skip
      all_goals first
        | (have hk3 : x.fKind = 3 := by assumption
           symm
           rw [bodyM, HE.out, entS_none, hk3]
           have hne : (entS x.fTerm 1 (e0 :: es1) && decide (x.fIndex + ((e0 :: es1).length : Int) ≤ 60)) = false := by
             cases hE : entS x.fTerm 1 (e0 :: es1)
             · rfl
             · have h9 : ¬ es1.length ≤ 59 := fun h' => absurd (And.intro hE h') (by assumption)
               simp
               omega
           rw [if_neg (by decide), if_neg (by decide), if_pos (by decide), hne]
           rfl)
        | (have h9 : ¬ x.fKind = 3 := by assumption
           have hk : (x.fKind == 3) = false := by simpa using h9
           have hbm : bareM x = false := by rw [bareM, HE.out, decide_eq_false (by simp; omega), Bool.false_and]
           simp [bodyM, hk, hbm])

theorem sGoodRaftMsg_k {x : DRaftMsg} {pe : Int} {c0 : List Value} {w : World} (k0 : kRaftMsg.K w x c0) (h0 : wfRaftMsg x) (s0 : smRaftMsg 1048576 x) (hw : (Lit.int .i64 pe).wf = true) : Calls Try.prog 102 #[.agg c0.toArray, .int .i64 pe] w
    fun e w' => e = .returned (.bool (msgOk x pe)) ∧ Below w.heap.size w w' := by
  obtain ⟨v2, rfl, g2⟩ := kRaftMsg_read k0
  exact sGoodRaftMsg_calls x pe v2 w g2 s0
theorem iGoodRaftMsg_k {x : DRaftMsg} {pe : Int} {c0 : List Value} {w : World} (k0 : kRaftMsg.K w x c0) (h0 : wfRaftMsg x) (s0 : smRaftMsg 1048576 x) (hw : (Lit.int .i64 pe).wf = true) : Calls Try.prog 29 #[.agg c0.toArray, .int .i64 pe] w
    fun e w' => e = .returned (.bool (msgOk x pe)) ∧ Below w.heap.size w w' := by
  obtain ⟨v2, rfl, g2⟩ := kRaftMsg_read k0
  exact iGoodRaftMsg_calls x pe v2 w g2 s0
end Go.Proofs.Ythnjcolbdoaabaa
