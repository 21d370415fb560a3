/- Cells and sessions found, walked: CellOf, SessionOf. -/
import Derived.Test.YtfcodelfgjnkhaaCell3
namespace Go.Proofs.Ytfcodelfgjnkhaa
open Go Go.RowKit Go.Sort
set_option linter.unusedVariables false
set_option linter.unusedSimpArgs false

theorem bsPair_lin {s : DKvState} (h : goodSt s = true) (key : ByteArray) : bsPair s.fCells key = linPair s.fCells key := by
  simp only [goodSt, cellsOk, Bool.and_eq_true] at h
  refine bs_lin fun k hk hp => ?_
  rw [lessPair_at hk] at hp
  rw [lessPair_at (by omega)]
  exact less_trans (cellsFrom_up _ _ k hk h.1.1.1) hp
theorem bsSession_lin {s : DKvState} (h : goodSt s = true) (key : Int) : bsSession s.fSessions key = linSession s.fSessions key := by
  simp only [goodSt, cellsOk, Bool.and_eq_true] at h
  refine bs_lin fun k hk hp => ?_
  rw [lessSession_at hk, decide_eq_true_eq] at hp
  rw [lessSession_at (by omega), decide_eq_true_eq]
  have := sessFrom_up _ _ k hk h.1.2
  omega
theorem isPair_lt {xs : List DPair} {key : ByteArray} {k : Nat} (h : isPair xs key k = true) : k < xs.length := by
  simp only [isPair, Bool.and_eq_true, decide_eq_true_eq] at h
  exact h.1
theorem isSession_lt {xs : List DSession} {key : Int} {k : Nat} (h : isSession xs key k = true) : k < xs.length := by
  simp only [isSession, Bool.and_eq_true, decide_eq_true_eq] at h
  exact h.1
def cellB (s : DKvState) (key : ByteArray) : Bool := goodSt s && isPair s.fCells key (linPair s.fCells key)
def cellV (s : DKvState) (key : ByteArray) : ByteArray := if cellB s key then (s.fCells[linPair s.fCells key]?.map (·.fValue)).getD ⟨#[]⟩ else ⟨#[]⟩
def sesB (s : DKvState) (key : Int) : Bool := goodSt s && isSession s.fSessions key (linSession s.fSessions key)
def sesV (s : DKvState) (key : Int) : DSession := if sesB s key then (s.fSessions[linSession s.fSessions key]?).getD zSession else zSession

set_option maxHeartbeats 4000000 in
set_option maxRecDepth 100000 in
theorem iCellOf_calls (s : DKvState) (key : ByteArray) (v0 v1 : Value) (w : World) (g0 : kPair.S w s.fCells v0) (g1 : kSession.S w s.fSessions v1) (hl : s.fCells.length ≤ 1048576 ∧ s.fSessions.length ≤ 1048576) : Calls Try.prog 43 #[.agg #[v0, v1], .string key] w
    fun e w' => e = .returned (.tuple #[.string (cellV s key), .bool (cellB s key)]) ∧ Below w.heap.size w w' := by
  have G0 := Lib.hid g0; clear g0
  have G1 := Lib.hid g1; clear g1
  obtain ⟨hl1, hl2⟩ := hl
  go_enter Try.func43, Try.ntmps43
  go_wp2_with fail
  (with_reducible refine (atPairM_calls s.fCells key v0 _ _ (Box.cell (Box.new rfl) 0 rfl) (Rp.S_below G0.out ((Below.refl _ _).alloc (Nat.le_refl _) _)) hl1).mono ?_)
  rintro e w1 ⟨rfl, hb⟩
  have B0 : Box w1 w.heap.size #[v0, v1] 71 := Box.below (Box.new rfl) hb
  have hB := Below.trans (((Below.refl _ _).alloc (Nat.le_refl _) _) : Below w.heap.size w _) (hb.mono (by simp))
  clear hb
  have HB := Lib.hid hB; clear hB
  have c0 := B0.cell 0 (v := v0) rfl
  have c1 := B0.cell 1 (v := v1) rfl
  have X0 := Lib.hid B0; clear B0
  go_wp2_with fail
  (with_reducible refine (iGoodState_calls s v0 v1 _ (Rp.S_below G0.out HB.out) (Rp.S_below G1.out HB.out) ⟨hl1, hl2⟩).mono ?_)
  rintro e w2 ⟨rfl, hb⟩
  have HX0 := Lib.hid (X0.out.below hb)
  have HB2 := Lib.hid (HB.out.trans (hb.mono HB.out.size))
  clear hb c0 c1 X0
  cases hg : goodSt s
  · have HF := Lib.hid (show cellB s key = false by rw [cellB, hg, Bool.false_and])
    have HV := Lib.hid (show cellV s key = ⟨#[]⟩ by rw [cellV, HF.out]; rfl)
    clear hg
    go_wp2
    exact bodyPost_ret (v := .tuple #[.string ⟨#[]⟩, .bool false]) (by simp [results, Try.results43, go_sem]) rfl ⟨by rw [HV.out, HF.out], HB2.out⟩
  · have hbl : bsPair s.fCells key = linPair s.fCells key := bsPair_lin hg key
    rw [hbl]
    cases hi : isPair s.fCells key (linPair s.fCells key)
    · have HF := Lib.hid (show cellB s key = false by rw [cellB, hi, Bool.and_false])
      have HV := Lib.hid (show cellV s key = ⟨#[]⟩ by rw [cellV, HF.out]; rfl)
      clear hg hbl hi
      go_wp2
      exact bodyPost_ret (v := .tuple #[.string ⟨#[]⟩, .bool false]) (by simp [results, Try.results43, go_sem]) rfl ⟨by rw [HV.out, HF.out], HB2.out⟩
    · have HF := Lib.hid (show cellB s key = true by rw [cellB, hg, hi]; rfl)
      have hlt := isPair_lt hi
      clear hg hbl hi
      obtain ⟨A, c, rfl, hc, h⟩ := G0.out
      obtain ⟨b, o, cs, rfl, k1, q1⟩ := Rp.C_get h _ hlt
      obtain rfl := kPair_K k1
      have hv : cellV s key = s.fCells[linPair s.fCells key].fValue := by rw [cellV, HF.out, if_pos rfl, List.getElem?_eq_getElem hlt]; rfl
      generalize s.fCells[linPair s.fCells key] = y at *
      generalize linPair s.fCells key = m at *
      have HV := Lib.hid hv; clear hv
      have a0 := (World.cell?_of_block (HB2.out.block b (World.block_lt_of_cell? w _ (q1 0 _ rfl)))).trans (q1 0 _ rfl)
      simp only [kPair_sz, Nat.add_zero] at a0
      have a1 := (World.cell?_of_block (HB2.out.block b (World.block_lt_of_cell? w _ (q1 1 _ rfl)))).trans (q1 1 _ rfl)
      simp only [kPair_sz, Nat.add_zero] at a1
      clear q1 k1 h
      have c0 := HX0.out.cell 0 (v := .slice (some ⟨b, o, none⟩) s.fCells.length c) rfl
      have c1 := HX0.out.cell 1 (v := v1) rfl
      have i1 : (0 : Int) ≤ (m : Int) := by omega
      have i2 : (m : Int) < (s.fCells.length : Int) := by omega
      go_wp2
      exact bodyPost_ret (v := .tuple #[.string y.fValue, .bool true]) (by simp [results, Try.results43, go_sem]) rfl ⟨by rw [HV.out, HF.out], HB2.out⟩

set_option maxHeartbeats 4000000 in
set_option maxRecDepth 100000 in
theorem iSessionOf_calls (s : DKvState) (key : Int) (v0 v1 : Value) (w : World) (g0 : kPair.S w s.fCells v0) (g1 : kSession.S w s.fSessions v1) (hl : s.fCells.length ≤ 1048576 ∧ s.fSessions.length ≤ 1048576) : Calls Try.prog 45 #[.agg #[v0, v1], .int .i64 key] w
    fun e w' => e = .returned (.tuple #[.agg #[.int .i64 (sesV s key).fId, .int .i64 (sesV s key).fLast, .int .i64 (sesV s key).fReply.fCode, .string (sesV s key).fReply.fValue], .bool (sesB s key)]) ∧ Below w.heap.size w w' := by
  have G0 := Lib.hid g0; clear g0
  have G1 := Lib.hid g1; clear g1
  obtain ⟨hl1, hl2⟩ := hl
  go_enter Try.func45, Try.ntmps45
  go_wp2_with fail
  (with_reducible refine (atSessionM_calls s.fSessions key v1 _ _ (Box.cell (Box.alloc (Box.new rfl)) 1 rfl) (Rp.S_below G1.out (((Below.refl _ _).alloc (Nat.le_refl _) _).alloc (by simp) _)) hl2).mono ?_)
  rintro e w1 ⟨rfl, hb⟩
  have B0 : Box w1 w.heap.size #[v0, v1] 71 := Box.below (Box.alloc (Box.new rfl)) hb
  have B1 : Box w1 (w.heap.size + 1) #[.int .i64 0, .int .i64 0, .int .i64 0, .string ⟨#[]⟩] 80 := Box.below (Box.new (by simp)) hb
  have hB := Below.trans ((((Below.refl _ _).alloc (Nat.le_refl _) _).alloc (by simp) _) : Below w.heap.size w _) (hb.mono (by simp; omega))
  clear hb
  have HB := Lib.hid hB; clear hB
  have c0 := B0.cell 0 (v := v0) rfl
  have c1 := B0.cell 1 (v := v1) rfl
  have X0 := Lib.hid B0; clear B0
  have X1 := Lib.hid B1; clear B1
  go_wp2_with fail
  (with_reducible refine (iGoodState_calls s v0 v1 _ (Rp.S_below G0.out HB.out) (Rp.S_below G1.out HB.out) ⟨hl1, hl2⟩).mono ?_)
  rintro e w2 ⟨rfl, hb⟩
  have HX0 := Lib.hid (X0.out.below hb)
  have HX1 := Lib.hid (X1.out.below hb)
  have HB2 := Lib.hid (HB.out.trans (hb.mono HB.out.size))
  clear hb c0 c1 X0
  cases hg : goodSt s
  · have HF := Lib.hid (show sesB s key = false by rw [sesB, hg, Bool.false_and])
    have HV := Lib.hid (show sesV s key = zSession by rw [sesV, HF.out]; rfl)
    clear hg
    have z0 := HX1.out.cell 0 (v := .int .i64 0) rfl
    have z1 := HX1.out.cell 1 (v := .int .i64 0) rfl
    have z2 := HX1.out.cell 2 (v := .int .i64 0) rfl
    have z3 := HX1.out.cell 3 (v := .string ⟨#[]⟩) rfl
    have fz := HX1.out.fro
    go_wp2
    obtain ⟨hk2, bf⟩ := HX1.out.stored [.int .i64 0, .int .i64 0, .int .i64 0, .string ⟨#[]⟩] 0
    change bodyPost _ _ _ _ _ (Rp.setN w2 (w.heap.size + 1) 0 [.int .i64 0, .int .i64 0, .int .i64 0, .string ⟨#[]⟩])
    clear z0 z1 z2 z3 fz
    generalize Rp.setN w2 (w.heap.size + 1) 0 [.int .i64 0, .int .i64 0, .int .i64 0, .string ⟨#[]⟩] = wf at *
    have d0 := bf.cell 0 (v := .int .i64 0) rfl
    have d1 := bf.cell 1 (v := .int .i64 0) rfl
    have d2 := bf.cell 2 (v := .int .i64 0) rfl
    have d3 := bf.cell 3 (v := .string ⟨#[]⟩) rfl
    refine bodyPost_ret (v := .tuple #[.agg #[.int .i64 0, .int .i64 0, .int .i64 0, .string ⟨#[]⟩], .bool false]) (by simp [results, Try.results45, go_sem, d0, d1, d2, d3]) rfl ⟨?_, HB2.out.trans (hk2.toBelow HB2.out.size (by simp))⟩
    rw [HV.out, HF.out]; rfl
  · have hbl : bsSession s.fSessions key = linSession s.fSessions key := bsSession_lin hg key
    rw [hbl]
    cases hi : isSession s.fSessions key (linSession s.fSessions key)
    · have HF := Lib.hid (show sesB s key = false by rw [sesB, hi, Bool.and_false])
      have HV := Lib.hid (show sesV s key = zSession by rw [sesV, HF.out]; rfl)
      clear hg hbl hi
      have z0 := HX1.out.cell 0 (v := .int .i64 0) rfl
      have z1 := HX1.out.cell 1 (v := .int .i64 0) rfl
      have z2 := HX1.out.cell 2 (v := .int .i64 0) rfl
      have z3 := HX1.out.cell 3 (v := .string ⟨#[]⟩) rfl
      have fz := HX1.out.fro
      go_wp2
      obtain ⟨hk2, bf⟩ := HX1.out.stored [.int .i64 0, .int .i64 0, .int .i64 0, .string ⟨#[]⟩] 0
      change bodyPost _ _ _ _ _ (Rp.setN w2 (w.heap.size + 1) 0 [.int .i64 0, .int .i64 0, .int .i64 0, .string ⟨#[]⟩])
      clear z0 z1 z2 z3 fz
      generalize Rp.setN w2 (w.heap.size + 1) 0 [.int .i64 0, .int .i64 0, .int .i64 0, .string ⟨#[]⟩] = wf at *
      have d0 := bf.cell 0 (v := .int .i64 0) rfl
      have d1 := bf.cell 1 (v := .int .i64 0) rfl
      have d2 := bf.cell 2 (v := .int .i64 0) rfl
      have d3 := bf.cell 3 (v := .string ⟨#[]⟩) rfl
      refine bodyPost_ret (v := .tuple #[.agg #[.int .i64 0, .int .i64 0, .int .i64 0, .string ⟨#[]⟩], .bool false]) (by simp [results, Try.results45, go_sem, d0, d1, d2, d3]) rfl ⟨?_, HB2.out.trans (hk2.toBelow HB2.out.size (by simp))⟩
      rw [HV.out, HF.out]; rfl
    · have HF := Lib.hid (show sesB s key = true by rw [sesB, hg, hi]; rfl)
      have hlt := isSession_lt hi
      clear hg hbl hi
      obtain ⟨A, c, rfl, hc, h⟩ := G1.out
      obtain ⟨b, o, cs, rfl, k1, q1⟩ := Rp.C_get h _ hlt
      obtain rfl := kSession_K k1
      have hv : sesV s key = s.fSessions[linSession s.fSessions key] := by rw [sesV, HF.out, if_pos rfl, List.getElem?_eq_getElem hlt]; rfl
      generalize s.fSessions[linSession s.fSessions key] = y at *
      generalize linSession s.fSessions key = m at *
      have HV := Lib.hid hv; clear hv
      have a0 := (World.cell?_of_block (HB2.out.block b (World.block_lt_of_cell? w _ (q1 0 _ rfl)))).trans (q1 0 _ rfl)
      simp only [kSession_sz, Nat.add_zero] at a0
      have a1 := (World.cell?_of_block (HB2.out.block b (World.block_lt_of_cell? w _ (q1 1 _ rfl)))).trans (q1 1 _ rfl)
      simp only [kSession_sz, Nat.add_zero] at a1
      have a2 := (World.cell?_of_block (HB2.out.block b (World.block_lt_of_cell? w _ (q1 2 _ rfl)))).trans (q1 2 _ rfl)
      simp only [kSession_sz, Nat.add_zero] at a2
      have a3 := (World.cell?_of_block (HB2.out.block b (World.block_lt_of_cell? w _ (q1 3 _ rfl)))).trans (q1 3 _ rfl)
      simp only [kSession_sz, Nat.add_zero] at a3
      clear q1 k1 h
      have c0 := HX0.out.cell 0 (v := v0) rfl
      have c1 := HX0.out.cell 1 (v := .slice (some ⟨b, o, none⟩) s.fSessions.length c) rfl
      have i1 : (0 : Int) ≤ (m : Int) := by omega
      have i2 : (m : Int) < (s.fSessions.length : Int) := by omega
      have z0 := HX1.out.cell 0 (v := .int .i64 0) rfl
      have z1 := HX1.out.cell 1 (v := .int .i64 0) rfl
      have z2 := HX1.out.cell 2 (v := .int .i64 0) rfl
      have z3 := HX1.out.cell 3 (v := .string ⟨#[]⟩) rfl
      have fz := HX1.out.fro
      go_wp2
      obtain ⟨hk2, bf⟩ := HX1.out.stored [.int .i64 y.fId, .int .i64 y.fLast, .int .i64 y.fReply.fCode, .string y.fReply.fValue] 0
      change bodyPost _ _ _ _ _ (Rp.setN w2 (w.heap.size + 1) 0 [.int .i64 y.fId, .int .i64 y.fLast, .int .i64 y.fReply.fCode, .string y.fReply.fValue])
      clear z0 z1 z2 z3 fz
      generalize Rp.setN w2 (w.heap.size + 1) 0 [.int .i64 y.fId, .int .i64 y.fLast, .int .i64 y.fReply.fCode, .string y.fReply.fValue] = wf at *
      have d0 := bf.cell 0 (v := .int .i64 y.fId) rfl
      have d1 := bf.cell 1 (v := .int .i64 y.fLast) rfl
      have d2 := bf.cell 2 (v := .int .i64 y.fReply.fCode) rfl
      have d3 := bf.cell 3 (v := .string y.fReply.fValue) rfl
      refine bodyPost_ret (v := .tuple #[.agg #[.int .i64 y.fId, .int .i64 y.fLast, .int .i64 y.fReply.fCode, .string y.fReply.fValue], .bool true]) (by simp [results, Try.results45, go_sem, d0, d1, d2, d3]) rfl ⟨?_, HB2.out.trans (hk2.toBelow HB2.out.size (by simp))⟩
      rw [HV.out, HF.out]

theorem iCellOf_k {x : DKvState} {y : ByteArray} {c0 : List Value} {w : World} (k0 : kKvState.K w x c0) (h0 : wfKvState x) (s0 : smKvState 1048576 x) (h1 : y.size ≤ 1048576) : Calls Try.prog 43 #[.agg c0.toArray, .string y] w
    fun e w' => e = .returned (.tuple #[.string (cellV x y), .bool (cellB x y)]) ∧ Below w.heap.size w w' := by
  obtain ⟨v0, v1, rfl, g0, g1⟩ := kKvState_read k0
  exact iCellOf_calls x y v0 v1 w g0 g1 s0
theorem iSessionOf_k {x : DKvState} {y : Int} {c0 : List Value} {w : World} (k0 : kKvState.K w x c0) (h0 : wfKvState x) (s0 : smKvState 1048576 x) (h1 : (Lit.int .i64 y).wf = true) : Calls Try.prog 45 #[.agg c0.toArray, .int .i64 y] w
    fun e w' => ∃ cs F, e = .returned (.tuple #[.agg cs.toArray, .bool (sesB x y)]) ∧ kSession.M w' F (sesV x y) cs ∧ (∀ b ∈ F, w.heap.size ≤ b) ∧ F.Nodup ∧ Below w.heap.size w w' := by
  obtain ⟨v0, v1, rfl, g0, g1⟩ := kKvState_read k0
  refine (iSessionOf_calls x y v0 v1 w g0 g1 s0).mono ?_
  rintro e w' ⟨rfl, hb⟩
  exact ⟨_, [], rfl, kSession_mk w' _, by simp, by simp, hb⟩

set_option maxHeartbeats 4000000 in
set_option maxRecDepth 100000 in
theorem sCellOf_calls (s : DKvState) (key : ByteArray) (v0 v1 : Value) (w : World) (g0 : kPair.S w s.fCells v0) (g1 : kSession.S w s.fSessions v1) (hl : s.fCells.length ≤ 1048576 ∧ s.fSessions.length ≤ 1048576) : Calls Try.prog 42 #[.agg #[v0, v1], .string key] w
    fun e w' => e = .returned (.tuple #[.string (cellV s key), .bool (cellB s key)]) ∧ Below w.heap.size w w' := by
  have G0 := Lib.hid g0; clear g0
  have G1 := Lib.hid g1; clear g1
  obtain ⟨hl1, hl2⟩ := hl
  go_enter Try.func42, Try.ntmps42
  go_wp2_with fail
  (with_reducible refine (linPair_calls s.fCells key v0 _ (Rp.S_below G0.out ((Below.refl _ _).alloc (Nat.le_refl _) _)) hl1).mono ?_)
  rintro e w1 ⟨rfl, hb⟩
  have B0 : Box w1 w.heap.size #[v0, v1] 71 := Box.below (Box.new rfl) hb
  have hB := Below.trans (((Below.refl _ _).alloc (Nat.le_refl _) _) : Below w.heap.size w _) (hb.mono (by simp))
  clear hb
  have HB := Lib.hid hB; clear hB
  have c0 := B0.cell 0 (v := v0) rfl
  have c1 := B0.cell 1 (v := v1) rfl
  have X0 := Lib.hid B0; clear B0
  go_wp2_with fail
  (with_reducible refine (sGoodState_calls s v0 v1 _ (Rp.S_below G0.out HB.out) (Rp.S_below G1.out HB.out) ⟨hl1, hl2⟩).mono ?_)
  rintro e w2 ⟨rfl, hb⟩
  have HX0 := Lib.hid (X0.out.below hb)
  have HB2 := Lib.hid (HB.out.trans (hb.mono HB.out.size))
  clear hb c0 c1 X0
  cases hg : goodSt s
  · have HF := Lib.hid (show cellB s key = false by rw [cellB, hg, Bool.false_and])
    have HV := Lib.hid (show cellV s key = ⟨#[]⟩ by rw [cellV, HF.out]; rfl)
    clear hg
    go_wp2
    exact bodyPost_ret (v := .tuple #[.string ⟨#[]⟩, .bool false]) (by simp [results, Try.results42, go_sem]) rfl ⟨by rw [HV.out, HF.out], HB2.out⟩
  · have hbl : bsPair s.fCells key = linPair s.fCells key := bsPair_lin hg key
    skip
    cases hi : isPair s.fCells key (linPair s.fCells key)
    · have HF := Lib.hid (show cellB s key = false by rw [cellB, hi, Bool.and_false])
      have HV := Lib.hid (show cellV s key = ⟨#[]⟩ by rw [cellV, HF.out]; rfl)
      clear hg hbl hi
      go_wp2
      exact bodyPost_ret (v := .tuple #[.string ⟨#[]⟩, .bool false]) (by simp [results, Try.results42, go_sem]) rfl ⟨by rw [HV.out, HF.out], HB2.out⟩
    · have HF := Lib.hid (show cellB s key = true by rw [cellB, hg, hi]; rfl)
      have hlt := isPair_lt hi
      clear hg hbl hi
      obtain ⟨A, c, rfl, hc, h⟩ := G0.out
      obtain ⟨b, o, cs, rfl, k1, q1⟩ := Rp.C_get h _ hlt
      obtain rfl := kPair_K k1
      have hv : cellV s key = s.fCells[linPair s.fCells key].fValue := by rw [cellV, HF.out, if_pos rfl, List.getElem?_eq_getElem hlt]; rfl
      generalize s.fCells[linPair s.fCells key] = y at *
      generalize linPair s.fCells key = m at *
      have HV := Lib.hid hv; clear hv
      have a0 := (World.cell?_of_block (HB2.out.block b (World.block_lt_of_cell? w _ (q1 0 _ rfl)))).trans (q1 0 _ rfl)
      simp only [kPair_sz, Nat.add_zero] at a0
      have a1 := (World.cell?_of_block (HB2.out.block b (World.block_lt_of_cell? w _ (q1 1 _ rfl)))).trans (q1 1 _ rfl)
      simp only [kPair_sz, Nat.add_zero] at a1
      clear q1 k1 h
      have c0 := HX0.out.cell 0 (v := .slice (some ⟨b, o, none⟩) s.fCells.length c) rfl
      have c1 := HX0.out.cell 1 (v := v1) rfl
      have i1 : (0 : Int) ≤ (m : Int) := by omega
      have i2 : (m : Int) < (s.fCells.length : Int) := by omega
      go_wp2
      exact bodyPost_ret (v := .tuple #[.string y.fValue, .bool true]) (by simp [results, Try.results42, go_sem]) rfl ⟨by rw [HV.out, HF.out], HB2.out⟩

set_option maxHeartbeats 4000000 in
set_option maxRecDepth 100000 in
theorem sSessionOf_calls (s : DKvState) (key : Int) (v0 v1 : Value) (w : World) (g0 : kPair.S w s.fCells v0) (g1 : kSession.S w s.fSessions v1) (hl : s.fCells.length ≤ 1048576 ∧ s.fSessions.length ≤ 1048576) : Calls Try.prog 44 #[.agg #[v0, v1], .int .i64 key] w
    fun e w' => e = .returned (.tuple #[.agg #[.int .i64 (sesV s key).fId, .int .i64 (sesV s key).fLast, .int .i64 (sesV s key).fReply.fCode, .string (sesV s key).fReply.fValue], .bool (sesB s key)]) ∧ Below w.heap.size w w' := by
  have G0 := Lib.hid g0; clear g0
  have G1 := Lib.hid g1; clear g1
  obtain ⟨hl1, hl2⟩ := hl
  go_enter Try.func44, Try.ntmps44
  go_wp2_with fail
  (with_reducible refine (linSession_calls s.fSessions key v1 _ (Rp.S_below G1.out (((Below.refl _ _).alloc (Nat.le_refl _) _).alloc (by simp) _)) hl2).mono ?_)
  rintro e w1 ⟨rfl, hb⟩
  have B0 : Box w1 w.heap.size #[v0, v1] 71 := Box.below (Box.alloc (Box.new rfl)) hb
  have B1 : Box w1 (w.heap.size + 1) #[.int .i64 0, .int .i64 0, .int .i64 0, .string ⟨#[]⟩] 80 := Box.below (Box.new (by simp)) hb
  have hB := Below.trans ((((Below.refl _ _).alloc (Nat.le_refl _) _).alloc (by simp) _) : Below w.heap.size w _) (hb.mono (by simp; omega))
  clear hb
  have HB := Lib.hid hB; clear hB
  have c0 := B0.cell 0 (v := v0) rfl
  have c1 := B0.cell 1 (v := v1) rfl
  have X0 := Lib.hid B0; clear B0
  have X1 := Lib.hid B1; clear B1
  go_wp2_with fail
  (with_reducible refine (sGoodState_calls s v0 v1 _ (Rp.S_below G0.out HB.out) (Rp.S_below G1.out HB.out) ⟨hl1, hl2⟩).mono ?_)
  rintro e w2 ⟨rfl, hb⟩
  have HX0 := Lib.hid (X0.out.below hb)
  have HX1 := Lib.hid (X1.out.below hb)
  have HB2 := Lib.hid (HB.out.trans (hb.mono HB.out.size))
  clear hb c0 c1 X0
  cases hg : goodSt s
  · have HF := Lib.hid (show sesB s key = false by rw [sesB, hg, Bool.false_and])
    have HV := Lib.hid (show sesV s key = zSession by rw [sesV, HF.out]; rfl)
    clear hg
    have z0 := HX1.out.cell 0 (v := .int .i64 0) rfl
    have z1 := HX1.out.cell 1 (v := .int .i64 0) rfl
    have z2 := HX1.out.cell 2 (v := .int .i64 0) rfl
    have z3 := HX1.out.cell 3 (v := .string ⟨#[]⟩) rfl
    have fz := HX1.out.fro
    go_wp2
    obtain ⟨hk2, bf⟩ := HX1.out.stored [.int .i64 0, .int .i64 0, .int .i64 0, .string ⟨#[]⟩] 0
    change bodyPost _ _ _ _ _ (Rp.setN w2 (w.heap.size + 1) 0 [.int .i64 0, .int .i64 0, .int .i64 0, .string ⟨#[]⟩])
    clear z0 z1 z2 z3 fz
    generalize Rp.setN w2 (w.heap.size + 1) 0 [.int .i64 0, .int .i64 0, .int .i64 0, .string ⟨#[]⟩] = wf at *
    have d0 := bf.cell 0 (v := .int .i64 0) rfl
    have d1 := bf.cell 1 (v := .int .i64 0) rfl
    have d2 := bf.cell 2 (v := .int .i64 0) rfl
    have d3 := bf.cell 3 (v := .string ⟨#[]⟩) rfl
    refine bodyPost_ret (v := .tuple #[.agg #[.int .i64 0, .int .i64 0, .int .i64 0, .string ⟨#[]⟩], .bool false]) (by simp [results, Try.results44, go_sem, d0, d1, d2, d3]) rfl ⟨?_, HB2.out.trans (hk2.toBelow HB2.out.size (by simp))⟩
    rw [HV.out, HF.out]; rfl
  · have hbl : bsSession s.fSessions key = linSession s.fSessions key := bsSession_lin hg key
    skip
    cases hi : isSession s.fSessions key (linSession s.fSessions key)
    · have HF := Lib.hid (show sesB s key = false by rw [sesB, hi, Bool.and_false])
      have HV := Lib.hid (show sesV s key = zSession by rw [sesV, HF.out]; rfl)
      clear hg hbl hi
      have z0 := HX1.out.cell 0 (v := .int .i64 0) rfl
      have z1 := HX1.out.cell 1 (v := .int .i64 0) rfl
      have z2 := HX1.out.cell 2 (v := .int .i64 0) rfl
      have z3 := HX1.out.cell 3 (v := .string ⟨#[]⟩) rfl
      have fz := HX1.out.fro
      go_wp2
      obtain ⟨hk2, bf⟩ := HX1.out.stored [.int .i64 0, .int .i64 0, .int .i64 0, .string ⟨#[]⟩] 0
      change bodyPost _ _ _ _ _ (Rp.setN w2 (w.heap.size + 1) 0 [.int .i64 0, .int .i64 0, .int .i64 0, .string ⟨#[]⟩])
      clear z0 z1 z2 z3 fz
      generalize Rp.setN w2 (w.heap.size + 1) 0 [.int .i64 0, .int .i64 0, .int .i64 0, .string ⟨#[]⟩] = wf at *
      have d0 := bf.cell 0 (v := .int .i64 0) rfl
      have d1 := bf.cell 1 (v := .int .i64 0) rfl
      have d2 := bf.cell 2 (v := .int .i64 0) rfl
      have d3 := bf.cell 3 (v := .string ⟨#[]⟩) rfl
      refine bodyPost_ret (v := .tuple #[.agg #[.int .i64 0, .int .i64 0, .int .i64 0, .string ⟨#[]⟩], .bool false]) (by simp [results, Try.results44, go_sem, d0, d1, d2, d3]) rfl ⟨?_, HB2.out.trans (hk2.toBelow HB2.out.size (by simp))⟩
      rw [HV.out, HF.out]; rfl
    · have HF := Lib.hid (show sesB s key = true by rw [sesB, hg, hi]; rfl)
      have hlt := isSession_lt hi
      clear hg hbl hi
      obtain ⟨A, c, rfl, hc, h⟩ := G1.out
      obtain ⟨b, o, cs, rfl, k1, q1⟩ := Rp.C_get h _ hlt
      obtain rfl := kSession_K k1
      have hv : sesV s key = s.fSessions[linSession s.fSessions key] := by rw [sesV, HF.out, if_pos rfl, List.getElem?_eq_getElem hlt]; rfl
      generalize s.fSessions[linSession s.fSessions key] = y at *
      generalize linSession s.fSessions key = m at *
      have HV := Lib.hid hv; clear hv
      have a0 := (World.cell?_of_block (HB2.out.block b (World.block_lt_of_cell? w _ (q1 0 _ rfl)))).trans (q1 0 _ rfl)
      simp only [kSession_sz, Nat.add_zero] at a0
      have a1 := (World.cell?_of_block (HB2.out.block b (World.block_lt_of_cell? w _ (q1 1 _ rfl)))).trans (q1 1 _ rfl)
      simp only [kSession_sz, Nat.add_zero] at a1
      have a2 := (World.cell?_of_block (HB2.out.block b (World.block_lt_of_cell? w _ (q1 2 _ rfl)))).trans (q1 2 _ rfl)
      simp only [kSession_sz, Nat.add_zero] at a2
      have a3 := (World.cell?_of_block (HB2.out.block b (World.block_lt_of_cell? w _ (q1 3 _ rfl)))).trans (q1 3 _ rfl)
      simp only [kSession_sz, Nat.add_zero] at a3
      clear q1 k1 h
      have c0 := HX0.out.cell 0 (v := v0) rfl
      have c1 := HX0.out.cell 1 (v := .slice (some ⟨b, o, none⟩) s.fSessions.length c) rfl
      have i1 : (0 : Int) ≤ (m : Int) := by omega
      have i2 : (m : Int) < (s.fSessions.length : Int) := by omega
      have z0 := HX1.out.cell 0 (v := .int .i64 0) rfl
      have z1 := HX1.out.cell 1 (v := .int .i64 0) rfl
      have z2 := HX1.out.cell 2 (v := .int .i64 0) rfl
      have z3 := HX1.out.cell 3 (v := .string ⟨#[]⟩) rfl
      have fz := HX1.out.fro
      go_wp2
      obtain ⟨hk2, bf⟩ := HX1.out.stored [.int .i64 y.fId, .int .i64 y.fLast, .int .i64 y.fReply.fCode, .string y.fReply.fValue] 0
      change bodyPost _ _ _ _ _ (Rp.setN w2 (w.heap.size + 1) 0 [.int .i64 y.fId, .int .i64 y.fLast, .int .i64 y.fReply.fCode, .string y.fReply.fValue])
      clear z0 z1 z2 z3 fz
      generalize Rp.setN w2 (w.heap.size + 1) 0 [.int .i64 y.fId, .int .i64 y.fLast, .int .i64 y.fReply.fCode, .string y.fReply.fValue] = wf at *
      have d0 := bf.cell 0 (v := .int .i64 y.fId) rfl
      have d1 := bf.cell 1 (v := .int .i64 y.fLast) rfl
      have d2 := bf.cell 2 (v := .int .i64 y.fReply.fCode) rfl
      have d3 := bf.cell 3 (v := .string y.fReply.fValue) rfl
      refine bodyPost_ret (v := .tuple #[.agg #[.int .i64 y.fId, .int .i64 y.fLast, .int .i64 y.fReply.fCode, .string y.fReply.fValue], .bool true]) (by simp [results, Try.results44, go_sem, d0, d1, d2, d3]) rfl ⟨?_, HB2.out.trans (hk2.toBelow HB2.out.size (by simp))⟩
      rw [HV.out, HF.out]

theorem sCellOf_k {x : DKvState} {y : ByteArray} {c0 : List Value} {w : World} (k0 : kKvState.K w x c0) (h0 : wfKvState x) (s0 : smKvState 1048576 x) (h1 : y.size ≤ 1048576) : Calls Try.prog 42 #[.agg c0.toArray, .string y] w
    fun e w' => e = .returned (.tuple #[.string (cellV x y), .bool (cellB x y)]) ∧ Below w.heap.size w w' := by
  obtain ⟨v0, v1, rfl, g0, g1⟩ := kKvState_read k0
  exact sCellOf_calls x y v0 v1 w g0 g1 s0
theorem sSessionOf_k {x : DKvState} {y : Int} {c0 : List Value} {w : World} (k0 : kKvState.K w x c0) (h0 : wfKvState x) (s0 : smKvState 1048576 x) (h1 : (Lit.int .i64 y).wf = true) : Calls Try.prog 44 #[.agg c0.toArray, .int .i64 y] w
    fun e w' => ∃ cs F, e = .returned (.tuple #[.agg cs.toArray, .bool (sesB x y)]) ∧ kSession.M w' F (sesV x y) cs ∧ (∀ b ∈ F, w.heap.size ≤ b) ∧ F.Nodup ∧ Below w.heap.size w w' := by
  obtain ⟨v0, v1, rfl, g0, g1⟩ := kKvState_read k0
  refine (sSessionOf_calls x y v0 v1 w g0 g1 s0).mono ?_
  rintro e w' ⟨rfl, hb⟩
  exact ⟨_, [], rfl, kSession_mk w' _, by simp, by simp, hb⟩
end Go.Proofs.Ytfcodelfgjnkhaa
