/- States: which are right, walked. -/
import Derived.Test.YtfcodelfgjnkhaaSt
namespace Go.Proofs.Ytfcodelfgjnkhaa
open Go Go.RowKit Go.Sort
set_option linter.unusedVariables false
set_option linter.unusedSimpArgs false

def repOk (x : DSession) : Bool := inR x.fReply.fCode 0 4 && goodVal x.fReply.fValue
def sessOk (x : DSession) : Bool := inR x.fId 0 99 && inR x.fLast 1 1000000 && repOk x
def overI : Option Int → Int → Bool
  | none, _ => true
  | some k, n => decide (k < n)
def sessFrom : Option Int → List DSession → Bool
  | _, [] => true
  | o, p :: ps => sessOk p && overI o p.fId && sessFrom (some p.fId) ps
def prevS (xs : List DSession) (k : Nat) : Option Int := if k = 0 then none else (xs[k - 1]?).map (·.fId)
theorem prevS_succ {xs : List DSession} {k : Nat} (h : k < xs.length) : prevS xs (k + 1) = some xs[k].fId := by
  rw [prevS, if_neg (by omega), Nat.add_sub_cancel, List.getElem?_eq_getElem h]; rfl
theorem prevS_pos {xs : List DSession} {k : Nat} (h : k - 1 < xs.length) (hk : k ≠ 0) : prevS xs k = some xs[k - 1].fId := by
  rw [prevS, if_neg hk, List.getElem?_eq_getElem h]; rfl
theorem prevK_pos {xs : List DPair} {k : Nat} (h : k - 1 < xs.length) (hk : k ≠ 0) : prevK xs k = some xs[k - 1].fKey := by
  rw [prevK, if_neg hk, List.getElem?_eq_getElem h]; rfl
def goodSt (s : DKvState) : Bool := cellsOk s.fCells && sessFrom none s.fSessions && decide (s.fSessions.length ≤ 12)

set_option maxHeartbeats 4000000 in
set_option maxRecDepth 100000 in
theorem iGoodState_calls (s : DKvState) (v0 v1 : Value) (w : World) (g0 : kPair.S w s.fCells v0) (g1 : kSession.S w s.fSessions v1) (hl : s.fCells.length ≤ 1048576 ∧ s.fSessions.length ≤ 1048576) : Calls Try.prog 40 #[.agg #[v0, v1]] w
    fun e w' => e = .returned (.bool (goodSt s)) ∧ Below w.heap.size w w' := by
  have G0 := Lib.hid g0
  obtain ⟨A1, c1, rfl, hc1, h1⟩ := g0
  obtain ⟨A2, c2, rfl, hc2, h⟩ := g1
  obtain ⟨hl1, hl2⟩ := hl
  have H := Lib.hid h; clear h h1
  go_enter Try.func40, Try.ntmps40
  go_wp2
  go_loopw [9] (fun i wr => ∃ k : Nat, k ≤ s.fSessions.length ∧ i = .int .i64 k ∧ Hid (sessFrom (prevS s.fSessions k) (s.fSessions.drop k) = sessFrom none s.fSessions) ∧ Hid (Below w.heap.size w wr) ∧ Hid (Box wr w.heap.size #[.slice A1 s.fCells.length c1, .slice A2 s.fSessions.length c2] 71)) (fun i _ => s.fSessions.length - (intOf i).toNat)
  case atStart => exact ⟨0, Nat.zero_le _, rfl, rfl, (Below.refl _ _).alloc (Nat.le_refl _) _, Box.new rfl⟩
  case round =>
    obtain ⟨k, hk, rfl, HE, HB, HX⟩ := hrel
    by_cases hlt : k < s.fSessions.length
    · obtain ⟨b, o, cs, rfl, k1, q1⟩ := Rp.C_get H.out k hlt
      obtain rfl := kSession_K k1
      have hd := HE.out
      have hp := prevS_succ hlt
      rw [List.drop_eq_getElem_cons hlt, sessFrom] at hd
      generalize he : s.fSessions[k] = y at *
      have HP := Lib.hid hp; clear hp
      have HG := Lib.hid he; clear he
      have HD := Lib.hid hd; clear hd HE
      have a0 := (World.cell?_of_block (HB.out.block b (World.block_lt_of_cell? w _ (q1 0 _ rfl)))).trans (q1 0 _ rfl)
      simp only [kSession_sz, Nat.add_zero] at a0
      have a1 := (World.cell?_of_block (HB.out.block b (World.block_lt_of_cell? w _ (q1 1 _ rfl)))).trans (q1 1 _ rfl)
      simp only [kSession_sz, Nat.add_zero] at a1
      have a2 := (World.cell?_of_block (HB.out.block b (World.block_lt_of_cell? w _ (q1 2 _ rfl)))).trans (q1 2 _ rfl)
      simp only [kSession_sz, Nat.add_zero] at a2
      have a3 := (World.cell?_of_block (HB.out.block b (World.block_lt_of_cell? w _ (q1 3 _ rfl)))).trans (q1 3 _ rfl)
      simp only [kSession_sz, Nat.add_zero] at a3
      clear q1 k1
      have i1 : (0 : Int) ≤ (k : Int) := by omega
      have i2 : (k : Int) < (s.fSessions.length : Int) := by omega
      have i5_ : (k : Int) < (s.fSessions.length : Int) := by omega
      go_upto_region 4 with fail
      go_cut [5] from 14 to 23 (fun sm wx => wx = wr.alloc (.cells #[.int .i64 y.fId, .int .i64 y.fLast, .int .i64 y.fReply.fCode, .string y.fReply.fValue] 80) ∧ sm = .bool (repOk y))
      case first =>
        cases h3 : inR y.fReply.fCode 0 4 <;> cases h4 : goodVal y.fReply.fValue
        all_goals go_wp2_with (first | (with_reducible refine (iInR_calls _ _ _ _).mono ?_; rintro e w1 ⟨rfl, rfl⟩; rw [h3]) | (with_reducible refine (iValue_calls _ _).mono ?_; rintro e w1 ⟨rfl, rfl⟩; rw [h4]))
        all_goals (go_meet; go_light)
        all_goals exact ⟨rfl, by simp [repOk, *]⟩
      case rest =>
      obtain ⟨rfl, rfl⟩ := hcut
      rcases Nat.eq_zero_or_pos k with hz | hz
      · have HQ := Lib.hid (show prevS s.fSessions k = none by rw [prevS, if_pos hz])
        have i3 : ¬ (0 : Int) < (k : Int) := by omega
        have i4 : ¬ 0 < k := by omega
        clear hz
        have hpath : ((inR y.fId 0 99) = false) ∨ ((inR y.fId 0 99) = true ∧ (inR y.fLast 1 1000000) = false) ∨ ((inR y.fId 0 99) = true ∧ (inR y.fLast 1 1000000) = true ∧ (repOk y) = false) ∨ ((inR y.fId 0 99) = true ∧ (inR y.fLast 1 1000000) = true ∧ (repOk y) = true) := by cases (inR y.fId 0 99) <;> cases (inR y.fLast 1 1000000) <;> cases (repOk y) <;> simp
        rcases hpath with h1 | ⟨h1, h2⟩ | ⟨h1, h2, h3⟩ | ⟨h1, h2, h3⟩
        · skip
          go_upto_region 5 with fail
          have B1 : Box (wr.alloc (.cells #[.int .i64 y.fId, .int .i64 y.fLast, .int .i64 y.fReply.fCode, .string y.fReply.fValue] 80)) wr.heap.size #[.int .i64 y.fId, .int .i64 y.fLast, .int .i64 y.fReply.fCode, .string y.fReply.fValue] 80 := Box.new rfl
          have r0 := regr (Below.refl _ _) B1.lt (B1.cell 0 (v := .int .i64 y.fId) rfl)
          have r1 := regr (Below.refl _ _) B1.lt (B1.cell 1 (v := .int .i64 y.fLast) rfl)
          have r2 := regr (Below.refl _ _) B1.lt (B1.cell 2 (v := .int .i64 y.fReply.fCode) rfl)
          have r3 := regr (Below.refl _ _) B1.lt (B1.cell 3 (v := .string y.fReply.fValue) rfl)
          have XHX := Lib.hid (Box.alloc (o := .cells #[.int .i64 y.fId, .int .i64 y.fLast, .int .i64 y.fReply.fCode, .string y.fReply.fValue] 80) HX.out)
          have HX_0 := regr (Below.refl _ _) XHX.out.lt (XHX.out.cell 0 (v := .slice A1 s.fCells.length c1) rfl)
          have HX_1 := regr (Below.refl _ _) XHX.out.lt (XHX.out.cell 1 (v := .slice (some ⟨b, o, none⟩) s.fSessions.length c2) rfl)
          have HB1 := Lib.hid (HB.out.alloc HB.out.size (.cells #[.int .i64 y.fId, .int .i64 y.fLast, .int .i64 y.fReply.fCode, .string y.fReply.fValue] 80))
          clear B1 a0 a1 a2 a3
          generalize wr.alloc (.cells #[.int .i64 y.fId, .int .i64 y.fLast, .int .i64 y.fReply.fCode, .string y.fReply.fValue] 80) = w1 at *
          refine wp_region_quiet_below (by kernel_rfl) (by kernel_rfl) ?_
          have c_h1 : ∀ W : World, Calls Try.prog 51 #[.int .i64 y.fId, .int .i64 0, .int .i64 99] W (fun e w' => e = .returned (.bool false) ∧ Below W.heap.size W w') := fun W => (iInR_calls _ _ _ _).mono (fun e w' h => ⟨by rw [h.1, h1], by rw [h.2]; exact Below.refl _ _⟩)
          repeat (go_big_quiet_step (first | (with_reducible exact Calls.regrown_of (c_h1 _))))
          refine wpQuiet_nil ?_
          rintro w2 ⟨p, rfl⟩
          have HB2 := Lib.hid (HB1.out.trans ((below_regrown w1 p.d p.os).mono HB1.out.size))
          have YHX := Lib.hid (XHX.out.below (below_regrown w1 p.d p.os))
          clear r0 r1 r2 r3 HX_0 HX_1 XHX
          generalize grow (redrawn w1 p.d) p.os = w2 at *
          go_wp2
          go_ret
          exact ⟨by rw [goodSt, ← HD.out, HQ.out]; simp [sessOk, overI, h1], HB2.out⟩
        · skip
          go_upto_region 5 with fail
          have B1 : Box (wr.alloc (.cells #[.int .i64 y.fId, .int .i64 y.fLast, .int .i64 y.fReply.fCode, .string y.fReply.fValue] 80)) wr.heap.size #[.int .i64 y.fId, .int .i64 y.fLast, .int .i64 y.fReply.fCode, .string y.fReply.fValue] 80 := Box.new rfl
          have r0 := regr (Below.refl _ _) B1.lt (B1.cell 0 (v := .int .i64 y.fId) rfl)
          have r1 := regr (Below.refl _ _) B1.lt (B1.cell 1 (v := .int .i64 y.fLast) rfl)
          have r2 := regr (Below.refl _ _) B1.lt (B1.cell 2 (v := .int .i64 y.fReply.fCode) rfl)
          have r3 := regr (Below.refl _ _) B1.lt (B1.cell 3 (v := .string y.fReply.fValue) rfl)
          have XHX := Lib.hid (Box.alloc (o := .cells #[.int .i64 y.fId, .int .i64 y.fLast, .int .i64 y.fReply.fCode, .string y.fReply.fValue] 80) HX.out)
          have HX_0 := regr (Below.refl _ _) XHX.out.lt (XHX.out.cell 0 (v := .slice A1 s.fCells.length c1) rfl)
          have HX_1 := regr (Below.refl _ _) XHX.out.lt (XHX.out.cell 1 (v := .slice (some ⟨b, o, none⟩) s.fSessions.length c2) rfl)
          have HB1 := Lib.hid (HB.out.alloc HB.out.size (.cells #[.int .i64 y.fId, .int .i64 y.fLast, .int .i64 y.fReply.fCode, .string y.fReply.fValue] 80))
          clear B1 a0 a1 a2 a3
          generalize wr.alloc (.cells #[.int .i64 y.fId, .int .i64 y.fLast, .int .i64 y.fReply.fCode, .string y.fReply.fValue] 80) = w1 at *
          refine wp_region_quiet_below (by kernel_rfl) (by kernel_rfl) ?_
          have c_h1 : ∀ W : World, Calls Try.prog 51 #[.int .i64 y.fId, .int .i64 0, .int .i64 99] W (fun e w' => e = .returned (.bool true) ∧ Below W.heap.size W w') := fun W => (iInR_calls _ _ _ _).mono (fun e w' h => ⟨by rw [h.1, h1], by rw [h.2]; exact Below.refl _ _⟩)
          have c_h2 : ∀ W : World, Calls Try.prog 51 #[.int .i64 y.fLast, .int .i64 1, .int .i64 1000000] W (fun e w' => e = .returned (.bool false) ∧ Below W.heap.size W w') := fun W => (iInR_calls _ _ _ _).mono (fun e w' h => ⟨by rw [h.1, h2], by rw [h.2]; exact Below.refl _ _⟩)
          repeat (go_big_quiet_step (first | (with_reducible exact Calls.regrown_of (c_h1 _)) | (with_reducible exact Calls.regrown_of (c_h2 _))))
          refine wpQuiet_nil ?_
          rintro w2 ⟨p, rfl⟩
          have HB2 := Lib.hid (HB1.out.trans ((below_regrown w1 p.d p.os).mono HB1.out.size))
          have YHX := Lib.hid (XHX.out.below (below_regrown w1 p.d p.os))
          clear r0 r1 r2 r3 HX_0 HX_1 XHX
          generalize grow (redrawn w1 p.d) p.os = w2 at *
          go_wp2
          go_ret
          exact ⟨by rw [goodSt, ← HD.out, HQ.out]; simp [sessOk, overI, h1, h2], HB2.out⟩
        · skip
          go_upto_region 5 with fail
          have B1 : Box (wr.alloc (.cells #[.int .i64 y.fId, .int .i64 y.fLast, .int .i64 y.fReply.fCode, .string y.fReply.fValue] 80)) wr.heap.size #[.int .i64 y.fId, .int .i64 y.fLast, .int .i64 y.fReply.fCode, .string y.fReply.fValue] 80 := Box.new rfl
          have r0 := regr (Below.refl _ _) B1.lt (B1.cell 0 (v := .int .i64 y.fId) rfl)
          have r1 := regr (Below.refl _ _) B1.lt (B1.cell 1 (v := .int .i64 y.fLast) rfl)
          have r2 := regr (Below.refl _ _) B1.lt (B1.cell 2 (v := .int .i64 y.fReply.fCode) rfl)
          have r3 := regr (Below.refl _ _) B1.lt (B1.cell 3 (v := .string y.fReply.fValue) rfl)
          have XHX := Lib.hid (Box.alloc (o := .cells #[.int .i64 y.fId, .int .i64 y.fLast, .int .i64 y.fReply.fCode, .string y.fReply.fValue] 80) HX.out)
          have HX_0 := regr (Below.refl _ _) XHX.out.lt (XHX.out.cell 0 (v := .slice A1 s.fCells.length c1) rfl)
          have HX_1 := regr (Below.refl _ _) XHX.out.lt (XHX.out.cell 1 (v := .slice (some ⟨b, o, none⟩) s.fSessions.length c2) rfl)
          have HB1 := Lib.hid (HB.out.alloc HB.out.size (.cells #[.int .i64 y.fId, .int .i64 y.fLast, .int .i64 y.fReply.fCode, .string y.fReply.fValue] 80))
          clear B1 a0 a1 a2 a3
          generalize wr.alloc (.cells #[.int .i64 y.fId, .int .i64 y.fLast, .int .i64 y.fReply.fCode, .string y.fReply.fValue] 80) = w1 at *
          refine wp_region_quiet_below (by kernel_rfl) (by kernel_rfl) ?_
          have c_h1 : ∀ W : World, Calls Try.prog 51 #[.int .i64 y.fId, .int .i64 0, .int .i64 99] W (fun e w' => e = .returned (.bool true) ∧ Below W.heap.size W w') := fun W => (iInR_calls _ _ _ _).mono (fun e w' h => ⟨by rw [h.1, h1], by rw [h.2]; exact Below.refl _ _⟩)
          have c_h2 : ∀ W : World, Calls Try.prog 51 #[.int .i64 y.fLast, .int .i64 1, .int .i64 1000000] W (fun e w' => e = .returned (.bool true) ∧ Below W.heap.size W w') := fun W => (iInR_calls _ _ _ _).mono (fun e w' h => ⟨by rw [h.1, h2], by rw [h.2]; exact Below.refl _ _⟩)
          repeat (go_big_quiet_step (first | (with_reducible exact Calls.regrown_of (c_h1 _)) | (with_reducible exact Calls.regrown_of (c_h2 _))))
          refine wpQuiet_nil ?_
          rintro w2 ⟨p, rfl⟩
          have HB2 := Lib.hid (HB1.out.trans ((below_regrown w1 p.d p.os).mono HB1.out.size))
          have YHX := Lib.hid (XHX.out.below (below_regrown w1 p.d p.os))
          clear r0 r1 r2 r3 HX_0 HX_1 XHX
          generalize grow (redrawn w1 p.d) p.os = w2 at *
          go_wp2
          go_ret
          exact ⟨by rw [goodSt, ← HD.out, HQ.out]; simp [sessOk, overI, h1, h2, h3], HB2.out⟩
        · skip
          go_upto_region 5 with fail
          have B1 : Box (wr.alloc (.cells #[.int .i64 y.fId, .int .i64 y.fLast, .int .i64 y.fReply.fCode, .string y.fReply.fValue] 80)) wr.heap.size #[.int .i64 y.fId, .int .i64 y.fLast, .int .i64 y.fReply.fCode, .string y.fReply.fValue] 80 := Box.new rfl
          have r0 := regr (Below.refl _ _) B1.lt (B1.cell 0 (v := .int .i64 y.fId) rfl)
          have r1 := regr (Below.refl _ _) B1.lt (B1.cell 1 (v := .int .i64 y.fLast) rfl)
          have r2 := regr (Below.refl _ _) B1.lt (B1.cell 2 (v := .int .i64 y.fReply.fCode) rfl)
          have r3 := regr (Below.refl _ _) B1.lt (B1.cell 3 (v := .string y.fReply.fValue) rfl)
          have XHX := Lib.hid (Box.alloc (o := .cells #[.int .i64 y.fId, .int .i64 y.fLast, .int .i64 y.fReply.fCode, .string y.fReply.fValue] 80) HX.out)
          have HX_0 := regr (Below.refl _ _) XHX.out.lt (XHX.out.cell 0 (v := .slice A1 s.fCells.length c1) rfl)
          have HX_1 := regr (Below.refl _ _) XHX.out.lt (XHX.out.cell 1 (v := .slice (some ⟨b, o, none⟩) s.fSessions.length c2) rfl)
          have HB1 := Lib.hid (HB.out.alloc HB.out.size (.cells #[.int .i64 y.fId, .int .i64 y.fLast, .int .i64 y.fReply.fCode, .string y.fReply.fValue] 80))
          clear B1 a0 a1 a2 a3
          generalize wr.alloc (.cells #[.int .i64 y.fId, .int .i64 y.fLast, .int .i64 y.fReply.fCode, .string y.fReply.fValue] 80) = w1 at *
          refine wp_region_quiet_below (by kernel_rfl) (by kernel_rfl) ?_
          have c_h1 : ∀ W : World, Calls Try.prog 51 #[.int .i64 y.fId, .int .i64 0, .int .i64 99] W (fun e w' => e = .returned (.bool true) ∧ Below W.heap.size W w') := fun W => (iInR_calls _ _ _ _).mono (fun e w' h => ⟨by rw [h.1, h1], by rw [h.2]; exact Below.refl _ _⟩)
          have c_h2 : ∀ W : World, Calls Try.prog 51 #[.int .i64 y.fLast, .int .i64 1, .int .i64 1000000] W (fun e w' => e = .returned (.bool true) ∧ Below W.heap.size W w') := fun W => (iInR_calls _ _ _ _).mono (fun e w' h => ⟨by rw [h.1, h2], by rw [h.2]; exact Below.refl _ _⟩)
          repeat (go_big_quiet_step (first | (with_reducible exact Calls.regrown_of (c_h1 _)) | (with_reducible exact Calls.regrown_of (c_h2 _))))
          refine wpQuiet_nil ?_
          rintro w2 ⟨p, rfl⟩
          have HB2 := Lib.hid (HB1.out.trans ((below_regrown w1 p.d p.os).mono HB1.out.size))
          have YHX := Lib.hid (XHX.out.below (below_regrown w1 p.d p.os))
          clear r0 r1 r2 r3 HX_0 HX_1 XHX
          generalize grow (redrawn w1 p.d) p.os = w2 at *
          go_wp2
          exact ⟨⟨k + 1, by omega, by go_num, by rw [Hid, ← HD.out, HP.out, HQ.out]; simp [sessOk, overI, h1, h2, h3], HB2.out, YHX.out⟩, by simp [intOf]; omega⟩
      · have hlt2 : k - 1 < s.fSessions.length := by omega
        obtain ⟨b2, o2, cs2, e2, k2, q2⟩ := Rp.C_get H.out (k - 1) hlt2
        obtain ⟨rfl, rfl⟩ : b = b2 ∧ o = o2 := by simpa using e2
        obtain rfl := kSession_K k2
        have HQ := Lib.hid (prevS_pos hlt2 (by omega))
        generalize s.fSessions[k - 1] = z at *
        have d0 := (World.cell?_of_block (HB.out.block b (World.block_lt_of_cell? w _ (q2 0 _ rfl)))).trans (q2 0 _ rfl)
        simp only [kSession_sz, Nat.add_zero] at d0
        clear q2 k2
        have i3 : (0 : Int) < (k : Int) := by omega
        obtain ⟨m, rfl⟩ : ∃ m, k = m + 1 := ⟨k - 1, by omega⟩
        rw [Nat.add_sub_cancel] at d0
        have i4 : ((m + 1 : Nat) : Int) - 1 = (m : Int) := by omega
        have i5 : IntKind.i64.wrap (m : Int) = (m : Int) := by rw [IntKind.wrap_i64]; omega
        have hpath : ((inR y.fId 0 99) = false) ∨ ((inR y.fId 0 99) = true ∧ (inR y.fLast 1 1000000) = false) ∨ ((inR y.fId 0 99) = true ∧ (inR y.fLast 1 1000000) = true ∧ (repOk y) = false) ∨ ((inR y.fId 0 99) = true ∧ (inR y.fLast 1 1000000) = true ∧ (repOk y) = true ∧ (decide (z.fId < y.fId)) = false) ∨ ((inR y.fId 0 99) = true ∧ (inR y.fLast 1 1000000) = true ∧ (repOk y) = true ∧ (decide (z.fId < y.fId)) = true) := by cases (inR y.fId 0 99) <;> cases (inR y.fLast 1 1000000) <;> cases (repOk y) <;> cases (decide (z.fId < y.fId)) <;> simp
        rcases hpath with h1 | ⟨h1, h2⟩ | ⟨h1, h2, h3⟩ | ⟨h1, h2, h3, h5⟩ | ⟨h1, h2, h3, h5⟩
        · skip
          go_upto_region 5 with fail
          have B1 : Box (wr.alloc (.cells #[.int .i64 y.fId, .int .i64 y.fLast, .int .i64 y.fReply.fCode, .string y.fReply.fValue] 80)) wr.heap.size #[.int .i64 y.fId, .int .i64 y.fLast, .int .i64 y.fReply.fCode, .string y.fReply.fValue] 80 := Box.new rfl
          have r0 := regr (Below.refl _ _) B1.lt (B1.cell 0 (v := .int .i64 y.fId) rfl)
          have r1 := regr (Below.refl _ _) B1.lt (B1.cell 1 (v := .int .i64 y.fLast) rfl)
          have r2 := regr (Below.refl _ _) B1.lt (B1.cell 2 (v := .int .i64 y.fReply.fCode) rfl)
          have r3 := regr (Below.refl _ _) B1.lt (B1.cell 3 (v := .string y.fReply.fValue) rfl)
          have p0 := regr ((Below.refl _ wr).alloc (Nat.le_refl _) (.cells #[.int .i64 y.fId, .int .i64 y.fLast, .int .i64 y.fReply.fCode, .string y.fReply.fValue] 80)) (World.block_lt_of_cell? wr _ d0) d0
          have XHX := Lib.hid (Box.alloc (o := .cells #[.int .i64 y.fId, .int .i64 y.fLast, .int .i64 y.fReply.fCode, .string y.fReply.fValue] 80) HX.out)
          have HX_0 := regr (Below.refl _ _) XHX.out.lt (XHX.out.cell 0 (v := .slice A1 s.fCells.length c1) rfl)
          have HX_1 := regr (Below.refl _ _) XHX.out.lt (XHX.out.cell 1 (v := .slice (some ⟨b, o, none⟩) s.fSessions.length c2) rfl)
          have HB1 := Lib.hid (HB.out.alloc HB.out.size (.cells #[.int .i64 y.fId, .int .i64 y.fLast, .int .i64 y.fReply.fCode, .string y.fReply.fValue] 80))
          clear B1 a0 a1 a2 a3 d0
          generalize wr.alloc (.cells #[.int .i64 y.fId, .int .i64 y.fLast, .int .i64 y.fReply.fCode, .string y.fReply.fValue] 80) = w1 at *
          refine wp_region_quiet_below (by kernel_rfl) (by kernel_rfl) ?_
          have c_h1 : ∀ W : World, Calls Try.prog 51 #[.int .i64 y.fId, .int .i64 0, .int .i64 99] W (fun e w' => e = .returned (.bool false) ∧ Below W.heap.size W w') := fun W => (iInR_calls _ _ _ _).mono (fun e w' h => ⟨by rw [h.1, h1], by rw [h.2]; exact Below.refl _ _⟩)
          repeat (go_big_quiet_step (first | (with_reducible exact Calls.regrown_of (c_h1 _))))
          refine wpQuiet_nil ?_
          rintro w2 ⟨p, rfl⟩
          have HB2 := Lib.hid (HB1.out.trans ((below_regrown w1 p.d p.os).mono HB1.out.size))
          have YHX := Lib.hid (XHX.out.below (below_regrown w1 p.d p.os))
          clear r0 r1 r2 r3 p0 HX_0 HX_1 XHX
          generalize grow (redrawn w1 p.d) p.os = w2 at *
          go_wp2
          go_ret
          exact ⟨by rw [goodSt, ← HD.out, HQ.out]; simp [sessOk, overI, h1], HB2.out⟩
        · skip
          go_upto_region 5 with fail
          have B1 : Box (wr.alloc (.cells #[.int .i64 y.fId, .int .i64 y.fLast, .int .i64 y.fReply.fCode, .string y.fReply.fValue] 80)) wr.heap.size #[.int .i64 y.fId, .int .i64 y.fLast, .int .i64 y.fReply.fCode, .string y.fReply.fValue] 80 := Box.new rfl
          have r0 := regr (Below.refl _ _) B1.lt (B1.cell 0 (v := .int .i64 y.fId) rfl)
          have r1 := regr (Below.refl _ _) B1.lt (B1.cell 1 (v := .int .i64 y.fLast) rfl)
          have r2 := regr (Below.refl _ _) B1.lt (B1.cell 2 (v := .int .i64 y.fReply.fCode) rfl)
          have r3 := regr (Below.refl _ _) B1.lt (B1.cell 3 (v := .string y.fReply.fValue) rfl)
          have p0 := regr ((Below.refl _ wr).alloc (Nat.le_refl _) (.cells #[.int .i64 y.fId, .int .i64 y.fLast, .int .i64 y.fReply.fCode, .string y.fReply.fValue] 80)) (World.block_lt_of_cell? wr _ d0) d0
          have XHX := Lib.hid (Box.alloc (o := .cells #[.int .i64 y.fId, .int .i64 y.fLast, .int .i64 y.fReply.fCode, .string y.fReply.fValue] 80) HX.out)
          have HX_0 := regr (Below.refl _ _) XHX.out.lt (XHX.out.cell 0 (v := .slice A1 s.fCells.length c1) rfl)
          have HX_1 := regr (Below.refl _ _) XHX.out.lt (XHX.out.cell 1 (v := .slice (some ⟨b, o, none⟩) s.fSessions.length c2) rfl)
          have HB1 := Lib.hid (HB.out.alloc HB.out.size (.cells #[.int .i64 y.fId, .int .i64 y.fLast, .int .i64 y.fReply.fCode, .string y.fReply.fValue] 80))
          clear B1 a0 a1 a2 a3 d0
          generalize wr.alloc (.cells #[.int .i64 y.fId, .int .i64 y.fLast, .int .i64 y.fReply.fCode, .string y.fReply.fValue] 80) = w1 at *
          refine wp_region_quiet_below (by kernel_rfl) (by kernel_rfl) ?_
          have c_h1 : ∀ W : World, Calls Try.prog 51 #[.int .i64 y.fId, .int .i64 0, .int .i64 99] W (fun e w' => e = .returned (.bool true) ∧ Below W.heap.size W w') := fun W => (iInR_calls _ _ _ _).mono (fun e w' h => ⟨by rw [h.1, h1], by rw [h.2]; exact Below.refl _ _⟩)
          have c_h2 : ∀ W : World, Calls Try.prog 51 #[.int .i64 y.fLast, .int .i64 1, .int .i64 1000000] W (fun e w' => e = .returned (.bool false) ∧ Below W.heap.size W w') := fun W => (iInR_calls _ _ _ _).mono (fun e w' h => ⟨by rw [h.1, h2], by rw [h.2]; exact Below.refl _ _⟩)
          repeat (go_big_quiet_step (first | (with_reducible exact Calls.regrown_of (c_h1 _)) | (with_reducible exact Calls.regrown_of (c_h2 _))))
          refine wpQuiet_nil ?_
          rintro w2 ⟨p, rfl⟩
          have HB2 := Lib.hid (HB1.out.trans ((below_regrown w1 p.d p.os).mono HB1.out.size))
          have YHX := Lib.hid (XHX.out.below (below_regrown w1 p.d p.os))
          clear r0 r1 r2 r3 p0 HX_0 HX_1 XHX
          generalize grow (redrawn w1 p.d) p.os = w2 at *
          go_wp2
          go_ret
          exact ⟨by rw [goodSt, ← HD.out, HQ.out]; simp [sessOk, overI, h1, h2], HB2.out⟩
        · skip
          go_upto_region 5 with fail
          have B1 : Box (wr.alloc (.cells #[.int .i64 y.fId, .int .i64 y.fLast, .int .i64 y.fReply.fCode, .string y.fReply.fValue] 80)) wr.heap.size #[.int .i64 y.fId, .int .i64 y.fLast, .int .i64 y.fReply.fCode, .string y.fReply.fValue] 80 := Box.new rfl
          have r0 := regr (Below.refl _ _) B1.lt (B1.cell 0 (v := .int .i64 y.fId) rfl)
          have r1 := regr (Below.refl _ _) B1.lt (B1.cell 1 (v := .int .i64 y.fLast) rfl)
          have r2 := regr (Below.refl _ _) B1.lt (B1.cell 2 (v := .int .i64 y.fReply.fCode) rfl)
          have r3 := regr (Below.refl _ _) B1.lt (B1.cell 3 (v := .string y.fReply.fValue) rfl)
          have p0 := regr ((Below.refl _ wr).alloc (Nat.le_refl _) (.cells #[.int .i64 y.fId, .int .i64 y.fLast, .int .i64 y.fReply.fCode, .string y.fReply.fValue] 80)) (World.block_lt_of_cell? wr _ d0) d0
          have XHX := Lib.hid (Box.alloc (o := .cells #[.int .i64 y.fId, .int .i64 y.fLast, .int .i64 y.fReply.fCode, .string y.fReply.fValue] 80) HX.out)
          have HX_0 := regr (Below.refl _ _) XHX.out.lt (XHX.out.cell 0 (v := .slice A1 s.fCells.length c1) rfl)
          have HX_1 := regr (Below.refl _ _) XHX.out.lt (XHX.out.cell 1 (v := .slice (some ⟨b, o, none⟩) s.fSessions.length c2) rfl)
          have HB1 := Lib.hid (HB.out.alloc HB.out.size (.cells #[.int .i64 y.fId, .int .i64 y.fLast, .int .i64 y.fReply.fCode, .string y.fReply.fValue] 80))
          clear B1 a0 a1 a2 a3 d0
          generalize wr.alloc (.cells #[.int .i64 y.fId, .int .i64 y.fLast, .int .i64 y.fReply.fCode, .string y.fReply.fValue] 80) = w1 at *
          refine wp_region_quiet_below (by kernel_rfl) (by kernel_rfl) ?_
          have c_h1 : ∀ W : World, Calls Try.prog 51 #[.int .i64 y.fId, .int .i64 0, .int .i64 99] W (fun e w' => e = .returned (.bool true) ∧ Below W.heap.size W w') := fun W => (iInR_calls _ _ _ _).mono (fun e w' h => ⟨by rw [h.1, h1], by rw [h.2]; exact Below.refl _ _⟩)
          have c_h2 : ∀ W : World, Calls Try.prog 51 #[.int .i64 y.fLast, .int .i64 1, .int .i64 1000000] W (fun e w' => e = .returned (.bool true) ∧ Below W.heap.size W w') := fun W => (iInR_calls _ _ _ _).mono (fun e w' h => ⟨by rw [h.1, h2], by rw [h.2]; exact Below.refl _ _⟩)
          repeat (go_big_quiet_step (first | (with_reducible exact Calls.regrown_of (c_h1 _)) | (with_reducible exact Calls.regrown_of (c_h2 _))))
          refine wpQuiet_nil ?_
          rintro w2 ⟨p, rfl⟩
          have HB2 := Lib.hid (HB1.out.trans ((below_regrown w1 p.d p.os).mono HB1.out.size))
          have YHX := Lib.hid (XHX.out.below (below_regrown w1 p.d p.os))
          clear r0 r1 r2 r3 p0 HX_0 HX_1 XHX
          generalize grow (redrawn w1 p.d) p.os = w2 at *
          go_wp2
          go_ret
          exact ⟨by rw [goodSt, ← HD.out, HQ.out]; simp [sessOk, overI, h1, h2, h3], HB2.out⟩
        · skip
          have h5p := of_decide_eq_false h5
          have h5q := Int.not_lt.1 h5p
          go_upto_region 5 with fail
          have B1 : Box (wr.alloc (.cells #[.int .i64 y.fId, .int .i64 y.fLast, .int .i64 y.fReply.fCode, .string y.fReply.fValue] 80)) wr.heap.size #[.int .i64 y.fId, .int .i64 y.fLast, .int .i64 y.fReply.fCode, .string y.fReply.fValue] 80 := Box.new rfl
          have r0 := regr (Below.refl _ _) B1.lt (B1.cell 0 (v := .int .i64 y.fId) rfl)
          have r1 := regr (Below.refl _ _) B1.lt (B1.cell 1 (v := .int .i64 y.fLast) rfl)
          have r2 := regr (Below.refl _ _) B1.lt (B1.cell 2 (v := .int .i64 y.fReply.fCode) rfl)
          have r3 := regr (Below.refl _ _) B1.lt (B1.cell 3 (v := .string y.fReply.fValue) rfl)
          have p0 := regr ((Below.refl _ wr).alloc (Nat.le_refl _) (.cells #[.int .i64 y.fId, .int .i64 y.fLast, .int .i64 y.fReply.fCode, .string y.fReply.fValue] 80)) (World.block_lt_of_cell? wr _ d0) d0
          have XHX := Lib.hid (Box.alloc (o := .cells #[.int .i64 y.fId, .int .i64 y.fLast, .int .i64 y.fReply.fCode, .string y.fReply.fValue] 80) HX.out)
          have HX_0 := regr (Below.refl _ _) XHX.out.lt (XHX.out.cell 0 (v := .slice A1 s.fCells.length c1) rfl)
          have HX_1 := regr (Below.refl _ _) XHX.out.lt (XHX.out.cell 1 (v := .slice (some ⟨b, o, none⟩) s.fSessions.length c2) rfl)
          have HB1 := Lib.hid (HB.out.alloc HB.out.size (.cells #[.int .i64 y.fId, .int .i64 y.fLast, .int .i64 y.fReply.fCode, .string y.fReply.fValue] 80))
          clear B1 a0 a1 a2 a3 d0
          generalize wr.alloc (.cells #[.int .i64 y.fId, .int .i64 y.fLast, .int .i64 y.fReply.fCode, .string y.fReply.fValue] 80) = w1 at *
          refine wp_region_quiet_below (by kernel_rfl) (by kernel_rfl) ?_
          have c_h1 : ∀ W : World, Calls Try.prog 51 #[.int .i64 y.fId, .int .i64 0, .int .i64 99] W (fun e w' => e = .returned (.bool true) ∧ Below W.heap.size W w') := fun W => (iInR_calls _ _ _ _).mono (fun e w' h => ⟨by rw [h.1, h1], by rw [h.2]; exact Below.refl _ _⟩)
          have c_h2 : ∀ W : World, Calls Try.prog 51 #[.int .i64 y.fLast, .int .i64 1, .int .i64 1000000] W (fun e w' => e = .returned (.bool true) ∧ Below W.heap.size W w') := fun W => (iInR_calls _ _ _ _).mono (fun e w' h => ⟨by rw [h.1, h2], by rw [h.2]; exact Below.refl _ _⟩)
          repeat (go_big_quiet_step (first | (with_reducible exact Calls.regrown_of (c_h1 _)) | (with_reducible exact Calls.regrown_of (c_h2 _))))
          refine wpQuiet_nil ?_
          rintro w2 ⟨p, rfl⟩
          have HB2 := Lib.hid (HB1.out.trans ((below_regrown w1 p.d p.os).mono HB1.out.size))
          have YHX := Lib.hid (XHX.out.below (below_regrown w1 p.d p.os))
          clear r0 r1 r2 r3 p0 HX_0 HX_1 XHX
          generalize grow (redrawn w1 p.d) p.os = w2 at *
          go_wp2
          go_ret
          exact ⟨by rw [goodSt, ← HD.out, HQ.out]; simp [sessOk, overI, h1, h2, h3, h5], HB2.out⟩
        · skip
          have h5p := of_decide_eq_true h5
          have h5q := Int.not_le.2 h5p
          go_upto_region 5 with fail
          have B1 : Box (wr.alloc (.cells #[.int .i64 y.fId, .int .i64 y.fLast, .int .i64 y.fReply.fCode, .string y.fReply.fValue] 80)) wr.heap.size #[.int .i64 y.fId, .int .i64 y.fLast, .int .i64 y.fReply.fCode, .string y.fReply.fValue] 80 := Box.new rfl
          have r0 := regr (Below.refl _ _) B1.lt (B1.cell 0 (v := .int .i64 y.fId) rfl)
          have r1 := regr (Below.refl _ _) B1.lt (B1.cell 1 (v := .int .i64 y.fLast) rfl)
          have r2 := regr (Below.refl _ _) B1.lt (B1.cell 2 (v := .int .i64 y.fReply.fCode) rfl)
          have r3 := regr (Below.refl _ _) B1.lt (B1.cell 3 (v := .string y.fReply.fValue) rfl)
          have p0 := regr ((Below.refl _ wr).alloc (Nat.le_refl _) (.cells #[.int .i64 y.fId, .int .i64 y.fLast, .int .i64 y.fReply.fCode, .string y.fReply.fValue] 80)) (World.block_lt_of_cell? wr _ d0) d0
          have XHX := Lib.hid (Box.alloc (o := .cells #[.int .i64 y.fId, .int .i64 y.fLast, .int .i64 y.fReply.fCode, .string y.fReply.fValue] 80) HX.out)
          have HX_0 := regr (Below.refl _ _) XHX.out.lt (XHX.out.cell 0 (v := .slice A1 s.fCells.length c1) rfl)
          have HX_1 := regr (Below.refl _ _) XHX.out.lt (XHX.out.cell 1 (v := .slice (some ⟨b, o, none⟩) s.fSessions.length c2) rfl)
          have HB1 := Lib.hid (HB.out.alloc HB.out.size (.cells #[.int .i64 y.fId, .int .i64 y.fLast, .int .i64 y.fReply.fCode, .string y.fReply.fValue] 80))
          clear B1 a0 a1 a2 a3 d0
          generalize wr.alloc (.cells #[.int .i64 y.fId, .int .i64 y.fLast, .int .i64 y.fReply.fCode, .string y.fReply.fValue] 80) = w1 at *
          refine wp_region_quiet_below (by kernel_rfl) (by kernel_rfl) ?_
          have c_h1 : ∀ W : World, Calls Try.prog 51 #[.int .i64 y.fId, .int .i64 0, .int .i64 99] W (fun e w' => e = .returned (.bool true) ∧ Below W.heap.size W w') := fun W => (iInR_calls _ _ _ _).mono (fun e w' h => ⟨by rw [h.1, h1], by rw [h.2]; exact Below.refl _ _⟩)
          have c_h2 : ∀ W : World, Calls Try.prog 51 #[.int .i64 y.fLast, .int .i64 1, .int .i64 1000000] W (fun e w' => e = .returned (.bool true) ∧ Below W.heap.size W w') := fun W => (iInR_calls _ _ _ _).mono (fun e w' h => ⟨by rw [h.1, h2], by rw [h.2]; exact Below.refl _ _⟩)
          repeat (go_big_quiet_step (first | (with_reducible exact Calls.regrown_of (c_h1 _)) | (with_reducible exact Calls.regrown_of (c_h2 _))))
          refine wpQuiet_nil ?_
          rintro w2 ⟨p, rfl⟩
          have HB2 := Lib.hid (HB1.out.trans ((below_regrown w1 p.d p.os).mono HB1.out.size))
          have YHX := Lib.hid (XHX.out.below (below_regrown w1 p.d p.os))
          clear r0 r1 r2 r3 p0 HX_0 HX_1 XHX
          generalize grow (redrawn w1 p.d) p.os = w2 at *
          go_wp2
          exact ⟨⟨m + 1 + 1, by omega, by go_num, by rw [Hid, ← HD.out, HP.out, HQ.out]; simp [sessOk, overI, h1, h2, h3, h5], HB2.out, YHX.out⟩, by simp [intOf]; omega⟩
    · obtain rfl : k = s.fSessions.length := by omega
      have hE := HE.out
      rw [List.drop_length, sessFrom] at hE
      have HE2 := Lib.hid hE; clear hE HE
      have C0 := HX.out.cell 0 (v := .slice A1 s.fCells.length c1) rfl
      have C1 := HX.out.cell 1 (v := .slice A2 s.fSessions.length c2) rfl
      go_wp2_with (with_reducible refine (iCellsOk_calls s.fCells _ _ (Rp.S_below G0.out HB.out) hl1).mono ?_; rintro e w1 ⟨rfl, hb⟩; have HB1 := Lib.hid (HB.out.trans (hb.mono HB.out.size)); clear hb)
      all_goals first
        | (go_ret; exact ⟨by rw [goodSt, ← HE2.out]; simp [*]; omega, HB1.out⟩)
        | (go_ret; exact ⟨by rw [goodSt, ← HE2.out]; simp [*]; omega, HB.out⟩)
set_option maxHeartbeats 4000000 in
set_option maxRecDepth 100000 in
theorem sGoodState_calls (s : DKvState) (v0 v1 : Value) (w : World) (g0 : kPair.S w s.fCells v0) (g1 : kSession.S w s.fSessions v1) (hl : s.fCells.length ≤ 1048576 ∧ s.fSessions.length ≤ 1048576) : Calls Try.prog 38 #[.agg #[v0, v1]] w
    fun e w' => e = .returned (.bool (goodSt s)) ∧ Below w.heap.size w w' := by
  obtain ⟨A1, c1, rfl, hc1, h1⟩ := g0
  obtain ⟨A2, c2, rfl, hc2, h2⟩ := g1
  obtain ⟨hl1, hl2⟩ := hl
  have H1 := Lib.hid h1
  have H2 := Lib.hid h2
  clear h1 h2
  go_enter Try.func38, Try.ntmps38
  go_wp2
  go_loopw [10] (fun i wr => ∃ k : Nat, k ≤ s.fCells.length ∧ i = .int .i64 k ∧ Hid (cellsFrom (prevK s.fCells k) (s.fCells.drop k) = cellsFrom none s.fCells) ∧ Hid (Below w.heap.size w wr) ∧ Hid (Box wr w.heap.size #[.slice A1 s.fCells.length c1, .slice A2 s.fSessions.length c2] 71)) (fun i _ => s.fCells.length - (intOf i).toNat)
  case atStart => exact ⟨0, Nat.zero_le _, rfl, rfl, (Below.refl _ _).alloc (Nat.le_refl _) _, Box.new rfl⟩
  case round =>
    obtain ⟨k, hk, rfl, HE, HB, HX⟩ := hrel
    by_cases hlt : k < s.fCells.length
    · obtain ⟨b, o, cs, rfl, k1, q1⟩ := Rp.C_get H1.out k hlt
      obtain rfl := kPair_K k1
      have hd := HE.out
      have hp := prevK_succ hlt
      rw [List.drop_eq_getElem_cons hlt, cellsFrom] at hd
      generalize he : s.fCells[k] = y at *
      have HP := Lib.hid hp; clear hp
      have HG := Lib.hid he; clear he
      have HD := Lib.hid hd; clear hd HE
      have a0 := (World.cell?_of_block (HB.out.block b (World.block_lt_of_cell? w _ (q1 0 _ rfl)))).trans (q1 0 _ rfl)
      simp only [kPair_sz, Nat.add_zero] at a0
      have a1 := (World.cell?_of_block (HB.out.block b (World.block_lt_of_cell? w _ (q1 1 _ rfl)))).trans (q1 1 _ rfl)
      simp only [kPair_sz, Nat.add_zero] at a1
      clear q1 k1
      have i1 : (0 : Int) ≤ (k : Int) := by omega
      have i2 : (k : Int) < (s.fCells.length : Int) := by omega
      rcases Nat.eq_zero_or_pos k with hz | hz
      · have HQ := Lib.hid (show prevK s.fCells k = none by rw [prevK, if_pos hz])
        have i3 : ¬ (0 : Int) < (k : Int) := by omega
        have i4 : ¬ 0 < k := by omega
        clear hz
        have hpath : ((goodKey y.fKey) = false) ∨ ((goodKey y.fKey) = true ∧ (decide ((y.fValue.size : Int) ≤ 40)) = false) ∨ ((goodKey y.fKey) = true ∧ (decide ((y.fValue.size : Int) ≤ 40)) = true) := by cases (goodKey y.fKey) <;> cases (decide ((y.fValue.size : Int) ≤ 40)) <;> simp
        rcases hpath with h1 | ⟨h1, h2⟩ | ⟨h1, h2⟩
        · skip
          go_upto_region 4 with fail
          have B1 : Box (wr.alloc (.cells #[.string y.fKey, .string y.fValue] 110)) wr.heap.size #[.string y.fKey, .string y.fValue] 110 := Box.new rfl
          have r0 := regr (Below.refl _ _) B1.lt (B1.cell 0 (v := .string y.fKey) rfl)
          have r1 := regr (Below.refl _ _) B1.lt (B1.cell 1 (v := .string y.fValue) rfl)
          have XHX := Lib.hid (Box.alloc (o := .cells #[.string y.fKey, .string y.fValue] 110) HX.out)
          have HX_0 := regr (Below.refl _ _) XHX.out.lt (XHX.out.cell 0 (v := .slice (some ⟨b, o, none⟩) s.fCells.length c1) rfl)
          have HX_1 := regr (Below.refl _ _) XHX.out.lt (XHX.out.cell 1 (v := .slice A2 s.fSessions.length c2) rfl)
          have HB1 := Lib.hid (HB.out.alloc HB.out.size (.cells #[.string y.fKey, .string y.fValue] 110))
          clear B1 a0 a1
          generalize wr.alloc (.cells #[.string y.fKey, .string y.fValue] 110) = w1 at *
          refine wp_region_quiet_below (by kernel_rfl) (by kernel_rfl) ?_
          have c_h1 : ∀ W : World, Calls Try.prog 67 #[.string y.fKey] W (fun e w' => e = .returned (.bool false) ∧ Below W.heap.size W w') := fun W => (sKey_calls _ _).mono (fun e w' h => ⟨by rw [h.1, h1], by rw [h.2]; exact Below.refl _ _⟩)
          repeat (go_big_quiet_step (first | (with_reducible exact Calls.regrown_of (c_h1 _))))
          refine wpQuiet_nil ?_
          rintro w2 ⟨p, rfl⟩
          have HB2 := Lib.hid (HB1.out.trans ((below_regrown w1 p.d p.os).mono HB1.out.size))
          have YHX := Lib.hid (XHX.out.below (below_regrown w1 p.d p.os))
          clear r0 r1 HX_0 HX_1 XHX
          generalize grow (redrawn w1 p.d) p.os = w2 at *
          go_wp2
          go_ret
          exact ⟨by rw [goodSt, cellsOk, ← HD.out, HQ.out]; simp [cellOk, overK, goodVal, h1], HB2.out⟩
        · skip
          have h2p := of_decide_eq_false h2
          have h2q := Int.not_le.1 h2p
          go_upto_region 4 with fail
          have B1 : Box (wr.alloc (.cells #[.string y.fKey, .string y.fValue] 110)) wr.heap.size #[.string y.fKey, .string y.fValue] 110 := Box.new rfl
          have r0 := regr (Below.refl _ _) B1.lt (B1.cell 0 (v := .string y.fKey) rfl)
          have r1 := regr (Below.refl _ _) B1.lt (B1.cell 1 (v := .string y.fValue) rfl)
          have XHX := Lib.hid (Box.alloc (o := .cells #[.string y.fKey, .string y.fValue] 110) HX.out)
          have HX_0 := regr (Below.refl _ _) XHX.out.lt (XHX.out.cell 0 (v := .slice (some ⟨b, o, none⟩) s.fCells.length c1) rfl)
          have HX_1 := regr (Below.refl _ _) XHX.out.lt (XHX.out.cell 1 (v := .slice A2 s.fSessions.length c2) rfl)
          have HB1 := Lib.hid (HB.out.alloc HB.out.size (.cells #[.string y.fKey, .string y.fValue] 110))
          clear B1 a0 a1
          generalize wr.alloc (.cells #[.string y.fKey, .string y.fValue] 110) = w1 at *
          refine wp_region_quiet_below (by kernel_rfl) (by kernel_rfl) ?_
          have c_h1 : ∀ W : World, Calls Try.prog 67 #[.string y.fKey] W (fun e w' => e = .returned (.bool true) ∧ Below W.heap.size W w') := fun W => (sKey_calls _ _).mono (fun e w' h => ⟨by rw [h.1, h1], by rw [h.2]; exact Below.refl _ _⟩)
          repeat (go_big_quiet_step (first | (with_reducible exact Calls.regrown_of (c_h1 _))))
          refine wpQuiet_nil ?_
          rintro w2 ⟨p, rfl⟩
          have HB2 := Lib.hid (HB1.out.trans ((below_regrown w1 p.d p.os).mono HB1.out.size))
          have YHX := Lib.hid (XHX.out.below (below_regrown w1 p.d p.os))
          clear r0 r1 HX_0 HX_1 XHX
          generalize grow (redrawn w1 p.d) p.os = w2 at *
          go_wp2
          go_ret
          exact ⟨by rw [goodSt, cellsOk, ← HD.out, HQ.out]; simp [cellOk, overK, goodVal, h1, h2], HB2.out⟩
        · skip
          have h2p := of_decide_eq_true h2
          have h2q := Int.not_lt.2 h2p
          go_upto_region 4 with fail
          have B1 : Box (wr.alloc (.cells #[.string y.fKey, .string y.fValue] 110)) wr.heap.size #[.string y.fKey, .string y.fValue] 110 := Box.new rfl
          have r0 := regr (Below.refl _ _) B1.lt (B1.cell 0 (v := .string y.fKey) rfl)
          have r1 := regr (Below.refl _ _) B1.lt (B1.cell 1 (v := .string y.fValue) rfl)
          have XHX := Lib.hid (Box.alloc (o := .cells #[.string y.fKey, .string y.fValue] 110) HX.out)
          have HX_0 := regr (Below.refl _ _) XHX.out.lt (XHX.out.cell 0 (v := .slice (some ⟨b, o, none⟩) s.fCells.length c1) rfl)
          have HX_1 := regr (Below.refl _ _) XHX.out.lt (XHX.out.cell 1 (v := .slice A2 s.fSessions.length c2) rfl)
          have HB1 := Lib.hid (HB.out.alloc HB.out.size (.cells #[.string y.fKey, .string y.fValue] 110))
          clear B1 a0 a1
          generalize wr.alloc (.cells #[.string y.fKey, .string y.fValue] 110) = w1 at *
          refine wp_region_quiet_below (by kernel_rfl) (by kernel_rfl) ?_
          have c_h1 : ∀ W : World, Calls Try.prog 67 #[.string y.fKey] W (fun e w' => e = .returned (.bool true) ∧ Below W.heap.size W w') := fun W => (sKey_calls _ _).mono (fun e w' h => ⟨by rw [h.1, h1], by rw [h.2]; exact Below.refl _ _⟩)
          repeat (go_big_quiet_step (first | (with_reducible exact Calls.regrown_of (c_h1 _))))
          refine wpQuiet_nil ?_
          rintro w2 ⟨p, rfl⟩
          have HB2 := Lib.hid (HB1.out.trans ((below_regrown w1 p.d p.os).mono HB1.out.size))
          have YHX := Lib.hid (XHX.out.below (below_regrown w1 p.d p.os))
          clear r0 r1 HX_0 HX_1 XHX
          generalize grow (redrawn w1 p.d) p.os = w2 at *
          go_wp2
          exact ⟨⟨k + 1, by omega, by go_num, by rw [Hid, ← HD.out, HP.out, HQ.out]; simp [cellOk, overK, goodVal, h1, h2], HB2.out, YHX.out⟩, by simp [intOf]; omega⟩
      · have hlt2 : k - 1 < s.fCells.length := by omega
        obtain ⟨b2, o2, cs2, e2, k2, q2⟩ := Rp.C_get H1.out (k - 1) hlt2
        obtain ⟨rfl, rfl⟩ : b = b2 ∧ o = o2 := by simpa using e2
        obtain rfl := kPair_K k2
        have HQ := Lib.hid (prevK_pos hlt2 (by omega))
        generalize s.fCells[k - 1] = z at *
        have d0 := (World.cell?_of_block (HB.out.block b (World.block_lt_of_cell? w _ (q2 0 _ rfl)))).trans (q2 0 _ rfl)
        simp only [kPair_sz, Nat.add_zero] at d0
        clear q2 k2
        have i3 : (0 : Int) < (k : Int) := by omega
        obtain ⟨m, rfl⟩ : ∃ m, k = m + 1 := ⟨k - 1, by omega⟩
        rw [Nat.add_sub_cancel] at d0
        have i4 : ((m + 1 : Nat) : Int) - 1 = (m : Int) := by omega
        have i5 : IntKind.i64.wrap (m : Int) = (m : Int) := by rw [IntKind.wrap_i64]; omega
        have hpath : ((goodKey y.fKey) = false) ∨ ((goodKey y.fKey) = true ∧ (decide ((y.fValue.size : Int) ≤ 40)) = false) ∨ ((goodKey y.fKey) = true ∧ (decide ((y.fValue.size : Int) ≤ 40)) = true ∧ (Op.bytesLess z.fKey.toList y.fKey.toList) = false) ∨ ((goodKey y.fKey) = true ∧ (decide ((y.fValue.size : Int) ≤ 40)) = true ∧ (Op.bytesLess z.fKey.toList y.fKey.toList) = true) := by cases (goodKey y.fKey) <;> cases (decide ((y.fValue.size : Int) ≤ 40)) <;> cases (Op.bytesLess z.fKey.toList y.fKey.toList) <;> simp
        rcases hpath with h1 | ⟨h1, h2⟩ | ⟨h1, h2, h3⟩ | ⟨h1, h2, h3⟩
        · skip
          go_upto_region 4 with fail
          have B1 : Box (wr.alloc (.cells #[.string y.fKey, .string y.fValue] 110)) wr.heap.size #[.string y.fKey, .string y.fValue] 110 := Box.new rfl
          have r0 := regr (Below.refl _ _) B1.lt (B1.cell 0 (v := .string y.fKey) rfl)
          have r1 := regr (Below.refl _ _) B1.lt (B1.cell 1 (v := .string y.fValue) rfl)
          have p0 := regr ((Below.refl _ wr).alloc (Nat.le_refl _) (.cells #[.string y.fKey, .string y.fValue] 110)) (World.block_lt_of_cell? wr _ d0) d0
          have XHX := Lib.hid (Box.alloc (o := .cells #[.string y.fKey, .string y.fValue] 110) HX.out)
          have HX_0 := regr (Below.refl _ _) XHX.out.lt (XHX.out.cell 0 (v := .slice (some ⟨b, o, none⟩) s.fCells.length c1) rfl)
          have HX_1 := regr (Below.refl _ _) XHX.out.lt (XHX.out.cell 1 (v := .slice A2 s.fSessions.length c2) rfl)
          have HB1 := Lib.hid (HB.out.alloc HB.out.size (.cells #[.string y.fKey, .string y.fValue] 110))
          clear B1 a0 a1 d0
          generalize wr.alloc (.cells #[.string y.fKey, .string y.fValue] 110) = w1 at *
          refine wp_region_quiet_below (by kernel_rfl) (by kernel_rfl) ?_
          have c_h1 : ∀ W : World, Calls Try.prog 67 #[.string y.fKey] W (fun e w' => e = .returned (.bool false) ∧ Below W.heap.size W w') := fun W => (sKey_calls _ _).mono (fun e w' h => ⟨by rw [h.1, h1], by rw [h.2]; exact Below.refl _ _⟩)
          repeat (go_big_quiet_step (first | (with_reducible exact Calls.regrown_of (c_h1 _))))
          refine wpQuiet_nil ?_
          rintro w2 ⟨p, rfl⟩
          have HB2 := Lib.hid (HB1.out.trans ((below_regrown w1 p.d p.os).mono HB1.out.size))
          have YHX := Lib.hid (XHX.out.below (below_regrown w1 p.d p.os))
          clear r0 r1 p0 HX_0 HX_1 XHX
          generalize grow (redrawn w1 p.d) p.os = w2 at *
          go_wp2
          go_ret
          exact ⟨by rw [goodSt, cellsOk, ← HD.out, HQ.out]; simp [cellOk, overK, goodVal, h1], HB2.out⟩
        · skip
          have h2p := of_decide_eq_false h2
          have h2q := Int.not_le.1 h2p
          go_upto_region 4 with fail
          have B1 : Box (wr.alloc (.cells #[.string y.fKey, .string y.fValue] 110)) wr.heap.size #[.string y.fKey, .string y.fValue] 110 := Box.new rfl
          have r0 := regr (Below.refl _ _) B1.lt (B1.cell 0 (v := .string y.fKey) rfl)
          have r1 := regr (Below.refl _ _) B1.lt (B1.cell 1 (v := .string y.fValue) rfl)
          have p0 := regr ((Below.refl _ wr).alloc (Nat.le_refl _) (.cells #[.string y.fKey, .string y.fValue] 110)) (World.block_lt_of_cell? wr _ d0) d0
          have XHX := Lib.hid (Box.alloc (o := .cells #[.string y.fKey, .string y.fValue] 110) HX.out)
          have HX_0 := regr (Below.refl _ _) XHX.out.lt (XHX.out.cell 0 (v := .slice (some ⟨b, o, none⟩) s.fCells.length c1) rfl)
          have HX_1 := regr (Below.refl _ _) XHX.out.lt (XHX.out.cell 1 (v := .slice A2 s.fSessions.length c2) rfl)
          have HB1 := Lib.hid (HB.out.alloc HB.out.size (.cells #[.string y.fKey, .string y.fValue] 110))
          clear B1 a0 a1 d0
          generalize wr.alloc (.cells #[.string y.fKey, .string y.fValue] 110) = w1 at *
          refine wp_region_quiet_below (by kernel_rfl) (by kernel_rfl) ?_
          have c_h1 : ∀ W : World, Calls Try.prog 67 #[.string y.fKey] W (fun e w' => e = .returned (.bool true) ∧ Below W.heap.size W w') := fun W => (sKey_calls _ _).mono (fun e w' h => ⟨by rw [h.1, h1], by rw [h.2]; exact Below.refl _ _⟩)
          repeat (go_big_quiet_step (first | (with_reducible exact Calls.regrown_of (c_h1 _))))
          refine wpQuiet_nil ?_
          rintro w2 ⟨p, rfl⟩
          have HB2 := Lib.hid (HB1.out.trans ((below_regrown w1 p.d p.os).mono HB1.out.size))
          have YHX := Lib.hid (XHX.out.below (below_regrown w1 p.d p.os))
          clear r0 r1 p0 HX_0 HX_1 XHX
          generalize grow (redrawn w1 p.d) p.os = w2 at *
          go_wp2
          go_ret
          exact ⟨by rw [goodSt, cellsOk, ← HD.out, HQ.out]; simp [cellOk, overK, goodVal, h1, h2], HB2.out⟩
        · skip
          have h2p := of_decide_eq_true h2
          have h2q := Int.not_lt.2 h2p
          go_upto_region 4 with fail
          have B1 : Box (wr.alloc (.cells #[.string y.fKey, .string y.fValue] 110)) wr.heap.size #[.string y.fKey, .string y.fValue] 110 := Box.new rfl
          have r0 := regr (Below.refl _ _) B1.lt (B1.cell 0 (v := .string y.fKey) rfl)
          have r1 := regr (Below.refl _ _) B1.lt (B1.cell 1 (v := .string y.fValue) rfl)
          have p0 := regr ((Below.refl _ wr).alloc (Nat.le_refl _) (.cells #[.string y.fKey, .string y.fValue] 110)) (World.block_lt_of_cell? wr _ d0) d0
          have XHX := Lib.hid (Box.alloc (o := .cells #[.string y.fKey, .string y.fValue] 110) HX.out)
          have HX_0 := regr (Below.refl _ _) XHX.out.lt (XHX.out.cell 0 (v := .slice (some ⟨b, o, none⟩) s.fCells.length c1) rfl)
          have HX_1 := regr (Below.refl _ _) XHX.out.lt (XHX.out.cell 1 (v := .slice A2 s.fSessions.length c2) rfl)
          have HB1 := Lib.hid (HB.out.alloc HB.out.size (.cells #[.string y.fKey, .string y.fValue] 110))
          clear B1 a0 a1 d0
          generalize wr.alloc (.cells #[.string y.fKey, .string y.fValue] 110) = w1 at *
          refine wp_region_quiet_below (by kernel_rfl) (by kernel_rfl) ?_
          have c_h1 : ∀ W : World, Calls Try.prog 67 #[.string y.fKey] W (fun e w' => e = .returned (.bool true) ∧ Below W.heap.size W w') := fun W => (sKey_calls _ _).mono (fun e w' h => ⟨by rw [h.1, h1], by rw [h.2]; exact Below.refl _ _⟩)
          repeat (go_big_quiet_step (first | (with_reducible exact Calls.regrown_of (c_h1 _))))
          refine wpQuiet_nil ?_
          rintro w2 ⟨p, rfl⟩
          have HB2 := Lib.hid (HB1.out.trans ((below_regrown w1 p.d p.os).mono HB1.out.size))
          have YHX := Lib.hid (XHX.out.below (below_regrown w1 p.d p.os))
          clear r0 r1 p0 HX_0 HX_1 XHX
          generalize grow (redrawn w1 p.d) p.os = w2 at *
          go_wp2
          go_ret
          exact ⟨by rw [goodSt, cellsOk, ← HD.out, HQ.out]; simp [cellOk, overK, goodVal, h1, h2, h3], HB2.out⟩
        · skip
          have h2p := of_decide_eq_true h2
          have h2q := Int.not_lt.2 h2p
          go_upto_region 4 with fail
          have B1 : Box (wr.alloc (.cells #[.string y.fKey, .string y.fValue] 110)) wr.heap.size #[.string y.fKey, .string y.fValue] 110 := Box.new rfl
          have r0 := regr (Below.refl _ _) B1.lt (B1.cell 0 (v := .string y.fKey) rfl)
          have r1 := regr (Below.refl _ _) B1.lt (B1.cell 1 (v := .string y.fValue) rfl)
          have p0 := regr ((Below.refl _ wr).alloc (Nat.le_refl _) (.cells #[.string y.fKey, .string y.fValue] 110)) (World.block_lt_of_cell? wr _ d0) d0
          have XHX := Lib.hid (Box.alloc (o := .cells #[.string y.fKey, .string y.fValue] 110) HX.out)
          have HX_0 := regr (Below.refl _ _) XHX.out.lt (XHX.out.cell 0 (v := .slice (some ⟨b, o, none⟩) s.fCells.length c1) rfl)
          have HX_1 := regr (Below.refl _ _) XHX.out.lt (XHX.out.cell 1 (v := .slice A2 s.fSessions.length c2) rfl)
          have HB1 := Lib.hid (HB.out.alloc HB.out.size (.cells #[.string y.fKey, .string y.fValue] 110))
          clear B1 a0 a1 d0
          generalize wr.alloc (.cells #[.string y.fKey, .string y.fValue] 110) = w1 at *
          refine wp_region_quiet_below (by kernel_rfl) (by kernel_rfl) ?_
          have c_h1 : ∀ W : World, Calls Try.prog 67 #[.string y.fKey] W (fun e w' => e = .returned (.bool true) ∧ Below W.heap.size W w') := fun W => (sKey_calls _ _).mono (fun e w' h => ⟨by rw [h.1, h1], by rw [h.2]; exact Below.refl _ _⟩)
          repeat (go_big_quiet_step (first | (with_reducible exact Calls.regrown_of (c_h1 _))))
          refine wpQuiet_nil ?_
          rintro w2 ⟨p, rfl⟩
          have HB2 := Lib.hid (HB1.out.trans ((below_regrown w1 p.d p.os).mono HB1.out.size))
          have YHX := Lib.hid (XHX.out.below (below_regrown w1 p.d p.os))
          clear r0 r1 p0 HX_0 HX_1 XHX
          generalize grow (redrawn w1 p.d) p.os = w2 at *
          go_wp2
          exact ⟨⟨m + 1 + 1, by omega, by go_num, by rw [Hid, ← HD.out, HP.out, HQ.out]; simp [cellOk, overK, goodVal, h1, h2, h3], HB2.out, YHX.out⟩, by simp [intOf]; omega⟩
    · obtain rfl : k = s.fCells.length := by omega
      have hE := HE.out
      rw [List.drop_length, cellsFrom] at hE
      have HE2 := Lib.hid hE; clear hE HE
      have HE3 := HE2; clear HE2
      have C0 := HX.out.cell 0 (v := .slice A1 s.fCells.length c1) rfl
      have C1 := HX.out.cell 1 (v := .slice A2 s.fSessions.length c2) rfl
      go_wp2
      clear C0 C1
      go_loopw [45] (fun i wr => ∃ k : Nat, k ≤ s.fSessions.length ∧ i = .int .i64 k ∧ Hid (sessFrom (prevS s.fSessions k) (s.fSessions.drop k) = sessFrom none s.fSessions) ∧ Hid (Below w.heap.size w wr) ∧ Hid (Box wr w.heap.size #[.slice A1 s.fCells.length c1, .slice A2 s.fSessions.length c2] 71)) (fun i _ => s.fSessions.length - (intOf i).toNat)
      case atStart => exact ⟨0, Nat.zero_le _, rfl, rfl, HB.out, HX.out⟩
      case round =>
        obtain ⟨k, hk, rfl, HE, HB, HX⟩ := hrel
        by_cases hlt : k < s.fSessions.length
        · obtain ⟨b, o, cs, rfl, k1, q1⟩ := Rp.C_get H2.out k hlt
          obtain rfl := kSession_K k1
          have hd := HE.out
          have hp := prevS_succ hlt
          rw [List.drop_eq_getElem_cons hlt, sessFrom] at hd
          generalize he : s.fSessions[k] = y at *
          have HP := Lib.hid hp; clear hp
          have HG := Lib.hid he; clear he
          have HD := Lib.hid hd; clear hd HE
          have a0 := (World.cell?_of_block (HB.out.block b (World.block_lt_of_cell? w _ (q1 0 _ rfl)))).trans (q1 0 _ rfl)
          simp only [kSession_sz, Nat.add_zero] at a0
          have a1 := (World.cell?_of_block (HB.out.block b (World.block_lt_of_cell? w _ (q1 1 _ rfl)))).trans (q1 1 _ rfl)
          simp only [kSession_sz, Nat.add_zero] at a1
          have a2 := (World.cell?_of_block (HB.out.block b (World.block_lt_of_cell? w _ (q1 2 _ rfl)))).trans (q1 2 _ rfl)
          simp only [kSession_sz, Nat.add_zero] at a2
          have a3 := (World.cell?_of_block (HB.out.block b (World.block_lt_of_cell? w _ (q1 3 _ rfl)))).trans (q1 3 _ rfl)
          simp only [kSession_sz, Nat.add_zero] at a3
          clear q1 k1
          have i1 : (0 : Int) ≤ (k : Int) := by omega
          have i2 : (k : Int) < (s.fSessions.length : Int) := by omega
          rcases Nat.eq_zero_or_pos k with hz | hz
          · have HQ := Lib.hid (show prevS s.fSessions k = none by rw [prevS, if_pos hz])
            have i3 : ¬ (0 : Int) < (k : Int) := by omega
            have i4 : ¬ 0 < k := by omega
            clear hz
            have hpath : ((inR y.fId 0 99) = false) ∨ ((inR y.fId 0 99) = true ∧ (inR y.fLast 1 1000000) = false) ∨ ((inR y.fId 0 99) = true ∧ (inR y.fLast 1 1000000) = true ∧ (inR y.fReply.fCode 0 4) = false) ∨ ((inR y.fId 0 99) = true ∧ (inR y.fLast 1 1000000) = true ∧ (inR y.fReply.fCode 0 4) = true ∧ (decide ((y.fReply.fValue.size : Int) ≤ 40)) = false) ∨ ((inR y.fId 0 99) = true ∧ (inR y.fLast 1 1000000) = true ∧ (inR y.fReply.fCode 0 4) = true ∧ (decide ((y.fReply.fValue.size : Int) ≤ 40)) = true) := by cases (inR y.fId 0 99) <;> cases (inR y.fLast 1 1000000) <;> cases (inR y.fReply.fCode 0 4) <;> cases (decide ((y.fReply.fValue.size : Int) ≤ 40)) <;> simp
            rcases hpath with h1 | ⟨h1, h2⟩ | ⟨h1, h2, h3⟩ | ⟨h1, h2, h3, h4⟩ | ⟨h1, h2, h3, h4⟩
            · skip
              go_upto_region 10 with fail
              have B1 : Box (wr.alloc (.cells #[.int .i64 y.fId, .int .i64 y.fLast, .int .i64 y.fReply.fCode, .string y.fReply.fValue] 80)) wr.heap.size #[.int .i64 y.fId, .int .i64 y.fLast, .int .i64 y.fReply.fCode, .string y.fReply.fValue] 80 := Box.new rfl
              have r0 := regr (Below.refl _ _) B1.lt (B1.cell 0 (v := .int .i64 y.fId) rfl)
              have r1 := regr (Below.refl _ _) B1.lt (B1.cell 1 (v := .int .i64 y.fLast) rfl)
              have r2 := regr (Below.refl _ _) B1.lt (B1.cell 2 (v := .int .i64 y.fReply.fCode) rfl)
              have r3 := regr (Below.refl _ _) B1.lt (B1.cell 3 (v := .string y.fReply.fValue) rfl)
              have XHX := Lib.hid (Box.alloc (o := .cells #[.int .i64 y.fId, .int .i64 y.fLast, .int .i64 y.fReply.fCode, .string y.fReply.fValue] 80) HX.out)
              have HX_0 := regr (Below.refl _ _) XHX.out.lt (XHX.out.cell 0 (v := .slice A1 s.fCells.length c1) rfl)
              have HX_1 := regr (Below.refl _ _) XHX.out.lt (XHX.out.cell 1 (v := .slice (some ⟨b, o, none⟩) s.fSessions.length c2) rfl)
              have HB1 := Lib.hid (HB.out.alloc HB.out.size (.cells #[.int .i64 y.fId, .int .i64 y.fLast, .int .i64 y.fReply.fCode, .string y.fReply.fValue] 80))
              clear B1 a0 a1 a2 a3
              generalize wr.alloc (.cells #[.int .i64 y.fId, .int .i64 y.fLast, .int .i64 y.fReply.fCode, .string y.fReply.fValue] 80) = w1 at *
              refine wp_region_quiet_below (by kernel_rfl) (by kernel_rfl) ?_
              have c_h1 : ∀ W : World, Calls Try.prog 49 #[.int .i64 y.fId, .int .i64 0, .int .i64 99] W (fun e w' => e = .returned (.bool false) ∧ Below W.heap.size W w') := fun W => (sInR_calls _ _ _ _).mono (fun e w' h => ⟨by rw [h.1, h1], by rw [h.2]; exact Below.refl _ _⟩)
              repeat (go_big_quiet_step (first | (with_reducible exact Calls.regrown_of (c_h1 _))))
              refine wpQuiet_nil ?_
              rintro w2 ⟨p, rfl⟩
              have HB2 := Lib.hid (HB1.out.trans ((below_regrown w1 p.d p.os).mono HB1.out.size))
              have YHX := Lib.hid (XHX.out.below (below_regrown w1 p.d p.os))
              clear r0 r1 r2 r3 HX_0 HX_1 XHX
              generalize grow (redrawn w1 p.d) p.os = w2 at *
              go_wp2
              go_ret
              exact ⟨by rw [goodSt, ← HD.out, HQ.out]; simp [sessOk, overI, repOk, goodVal, h1], HB2.out⟩
            · skip
              go_upto_region 10 with fail
              have B1 : Box (wr.alloc (.cells #[.int .i64 y.fId, .int .i64 y.fLast, .int .i64 y.fReply.fCode, .string y.fReply.fValue] 80)) wr.heap.size #[.int .i64 y.fId, .int .i64 y.fLast, .int .i64 y.fReply.fCode, .string y.fReply.fValue] 80 := Box.new rfl
              have r0 := regr (Below.refl _ _) B1.lt (B1.cell 0 (v := .int .i64 y.fId) rfl)
              have r1 := regr (Below.refl _ _) B1.lt (B1.cell 1 (v := .int .i64 y.fLast) rfl)
              have r2 := regr (Below.refl _ _) B1.lt (B1.cell 2 (v := .int .i64 y.fReply.fCode) rfl)
              have r3 := regr (Below.refl _ _) B1.lt (B1.cell 3 (v := .string y.fReply.fValue) rfl)
              have XHX := Lib.hid (Box.alloc (o := .cells #[.int .i64 y.fId, .int .i64 y.fLast, .int .i64 y.fReply.fCode, .string y.fReply.fValue] 80) HX.out)
              have HX_0 := regr (Below.refl _ _) XHX.out.lt (XHX.out.cell 0 (v := .slice A1 s.fCells.length c1) rfl)
              have HX_1 := regr (Below.refl _ _) XHX.out.lt (XHX.out.cell 1 (v := .slice (some ⟨b, o, none⟩) s.fSessions.length c2) rfl)
              have HB1 := Lib.hid (HB.out.alloc HB.out.size (.cells #[.int .i64 y.fId, .int .i64 y.fLast, .int .i64 y.fReply.fCode, .string y.fReply.fValue] 80))
              clear B1 a0 a1 a2 a3
              generalize wr.alloc (.cells #[.int .i64 y.fId, .int .i64 y.fLast, .int .i64 y.fReply.fCode, .string y.fReply.fValue] 80) = w1 at *
              refine wp_region_quiet_below (by kernel_rfl) (by kernel_rfl) ?_
              have c_h1 : ∀ W : World, Calls Try.prog 49 #[.int .i64 y.fId, .int .i64 0, .int .i64 99] W (fun e w' => e = .returned (.bool true) ∧ Below W.heap.size W w') := fun W => (sInR_calls _ _ _ _).mono (fun e w' h => ⟨by rw [h.1, h1], by rw [h.2]; exact Below.refl _ _⟩)
              have c_h2 : ∀ W : World, Calls Try.prog 49 #[.int .i64 y.fLast, .int .i64 1, .int .i64 1000000] W (fun e w' => e = .returned (.bool false) ∧ Below W.heap.size W w') := fun W => (sInR_calls _ _ _ _).mono (fun e w' h => ⟨by rw [h.1, h2], by rw [h.2]; exact Below.refl _ _⟩)
              repeat (go_big_quiet_step (first | (with_reducible exact Calls.regrown_of (c_h1 _)) | (with_reducible exact Calls.regrown_of (c_h2 _))))
              refine wpQuiet_nil ?_
              rintro w2 ⟨p, rfl⟩
              have HB2 := Lib.hid (HB1.out.trans ((below_regrown w1 p.d p.os).mono HB1.out.size))
              have YHX := Lib.hid (XHX.out.below (below_regrown w1 p.d p.os))
              clear r0 r1 r2 r3 HX_0 HX_1 XHX
              generalize grow (redrawn w1 p.d) p.os = w2 at *
              go_wp2
              go_ret
              exact ⟨by rw [goodSt, ← HD.out, HQ.out]; simp [sessOk, overI, repOk, goodVal, h1, h2], HB2.out⟩
            · skip
              go_upto_region 10 with fail
              have B1 : Box (wr.alloc (.cells #[.int .i64 y.fId, .int .i64 y.fLast, .int .i64 y.fReply.fCode, .string y.fReply.fValue] 80)) wr.heap.size #[.int .i64 y.fId, .int .i64 y.fLast, .int .i64 y.fReply.fCode, .string y.fReply.fValue] 80 := Box.new rfl
              have r0 := regr (Below.refl _ _) B1.lt (B1.cell 0 (v := .int .i64 y.fId) rfl)
              have r1 := regr (Below.refl _ _) B1.lt (B1.cell 1 (v := .int .i64 y.fLast) rfl)
              have r2 := regr (Below.refl _ _) B1.lt (B1.cell 2 (v := .int .i64 y.fReply.fCode) rfl)
              have r3 := regr (Below.refl _ _) B1.lt (B1.cell 3 (v := .string y.fReply.fValue) rfl)
              have XHX := Lib.hid (Box.alloc (o := .cells #[.int .i64 y.fId, .int .i64 y.fLast, .int .i64 y.fReply.fCode, .string y.fReply.fValue] 80) HX.out)
              have HX_0 := regr (Below.refl _ _) XHX.out.lt (XHX.out.cell 0 (v := .slice A1 s.fCells.length c1) rfl)
              have HX_1 := regr (Below.refl _ _) XHX.out.lt (XHX.out.cell 1 (v := .slice (some ⟨b, o, none⟩) s.fSessions.length c2) rfl)
              have HB1 := Lib.hid (HB.out.alloc HB.out.size (.cells #[.int .i64 y.fId, .int .i64 y.fLast, .int .i64 y.fReply.fCode, .string y.fReply.fValue] 80))
              clear B1 a0 a1 a2 a3
              generalize wr.alloc (.cells #[.int .i64 y.fId, .int .i64 y.fLast, .int .i64 y.fReply.fCode, .string y.fReply.fValue] 80) = w1 at *
              refine wp_region_quiet_below (by kernel_rfl) (by kernel_rfl) ?_
              have c_h1 : ∀ W : World, Calls Try.prog 49 #[.int .i64 y.fId, .int .i64 0, .int .i64 99] W (fun e w' => e = .returned (.bool true) ∧ Below W.heap.size W w') := fun W => (sInR_calls _ _ _ _).mono (fun e w' h => ⟨by rw [h.1, h1], by rw [h.2]; exact Below.refl _ _⟩)
              have c_h2 : ∀ W : World, Calls Try.prog 49 #[.int .i64 y.fLast, .int .i64 1, .int .i64 1000000] W (fun e w' => e = .returned (.bool true) ∧ Below W.heap.size W w') := fun W => (sInR_calls _ _ _ _).mono (fun e w' h => ⟨by rw [h.1, h2], by rw [h.2]; exact Below.refl _ _⟩)
              have c_h3 : ∀ W : World, Calls Try.prog 49 #[.int .i64 y.fReply.fCode, .int .i64 0, .int .i64 4] W (fun e w' => e = .returned (.bool false) ∧ Below W.heap.size W w') := fun W => (sInR_calls _ _ _ _).mono (fun e w' h => ⟨by rw [h.1, h3], by rw [h.2]; exact Below.refl _ _⟩)
              repeat (go_big_quiet_step (first | (with_reducible exact Calls.regrown_of (c_h1 _)) | (with_reducible exact Calls.regrown_of (c_h2 _)) | (with_reducible exact Calls.regrown_of (c_h3 _))))
              refine wpQuiet_nil ?_
              rintro w2 ⟨p, rfl⟩
              have HB2 := Lib.hid (HB1.out.trans ((below_regrown w1 p.d p.os).mono HB1.out.size))
              have YHX := Lib.hid (XHX.out.below (below_regrown w1 p.d p.os))
              clear r0 r1 r2 r3 HX_0 HX_1 XHX
              generalize grow (redrawn w1 p.d) p.os = w2 at *
              go_wp2
              go_ret
              exact ⟨by rw [goodSt, ← HD.out, HQ.out]; simp [sessOk, overI, repOk, goodVal, h1, h2, h3], HB2.out⟩
            · skip
              have h4p := of_decide_eq_false h4
              have h4q := Int.not_le.1 h4p
              go_upto_region 10 with fail
              have B1 : Box (wr.alloc (.cells #[.int .i64 y.fId, .int .i64 y.fLast, .int .i64 y.fReply.fCode, .string y.fReply.fValue] 80)) wr.heap.size #[.int .i64 y.fId, .int .i64 y.fLast, .int .i64 y.fReply.fCode, .string y.fReply.fValue] 80 := Box.new rfl
              have r0 := regr (Below.refl _ _) B1.lt (B1.cell 0 (v := .int .i64 y.fId) rfl)
              have r1 := regr (Below.refl _ _) B1.lt (B1.cell 1 (v := .int .i64 y.fLast) rfl)
              have r2 := regr (Below.refl _ _) B1.lt (B1.cell 2 (v := .int .i64 y.fReply.fCode) rfl)
              have r3 := regr (Below.refl _ _) B1.lt (B1.cell 3 (v := .string y.fReply.fValue) rfl)
              have XHX := Lib.hid (Box.alloc (o := .cells #[.int .i64 y.fId, .int .i64 y.fLast, .int .i64 y.fReply.fCode, .string y.fReply.fValue] 80) HX.out)
              have HX_0 := regr (Below.refl _ _) XHX.out.lt (XHX.out.cell 0 (v := .slice A1 s.fCells.length c1) rfl)
              have HX_1 := regr (Below.refl _ _) XHX.out.lt (XHX.out.cell 1 (v := .slice (some ⟨b, o, none⟩) s.fSessions.length c2) rfl)
              have HB1 := Lib.hid (HB.out.alloc HB.out.size (.cells #[.int .i64 y.fId, .int .i64 y.fLast, .int .i64 y.fReply.fCode, .string y.fReply.fValue] 80))
              clear B1 a0 a1 a2 a3
              generalize wr.alloc (.cells #[.int .i64 y.fId, .int .i64 y.fLast, .int .i64 y.fReply.fCode, .string y.fReply.fValue] 80) = w1 at *
              refine wp_region_quiet_below (by kernel_rfl) (by kernel_rfl) ?_
              have c_h1 : ∀ W : World, Calls Try.prog 49 #[.int .i64 y.fId, .int .i64 0, .int .i64 99] W (fun e w' => e = .returned (.bool true) ∧ Below W.heap.size W w') := fun W => (sInR_calls _ _ _ _).mono (fun e w' h => ⟨by rw [h.1, h1], by rw [h.2]; exact Below.refl _ _⟩)
              have c_h2 : ∀ W : World, Calls Try.prog 49 #[.int .i64 y.fLast, .int .i64 1, .int .i64 1000000] W (fun e w' => e = .returned (.bool true) ∧ Below W.heap.size W w') := fun W => (sInR_calls _ _ _ _).mono (fun e w' h => ⟨by rw [h.1, h2], by rw [h.2]; exact Below.refl _ _⟩)
              have c_h3 : ∀ W : World, Calls Try.prog 49 #[.int .i64 y.fReply.fCode, .int .i64 0, .int .i64 4] W (fun e w' => e = .returned (.bool true) ∧ Below W.heap.size W w') := fun W => (sInR_calls _ _ _ _).mono (fun e w' h => ⟨by rw [h.1, h3], by rw [h.2]; exact Below.refl _ _⟩)
              repeat (go_big_quiet_step (first | (with_reducible exact Calls.regrown_of (c_h1 _)) | (with_reducible exact Calls.regrown_of (c_h2 _)) | (with_reducible exact Calls.regrown_of (c_h3 _))))
              refine wpQuiet_nil ?_
              rintro w2 ⟨p, rfl⟩
              have HB2 := Lib.hid (HB1.out.trans ((below_regrown w1 p.d p.os).mono HB1.out.size))
              have YHX := Lib.hid (XHX.out.below (below_regrown w1 p.d p.os))
              clear r0 r1 r2 r3 HX_0 HX_1 XHX
              generalize grow (redrawn w1 p.d) p.os = w2 at *
              go_wp2
              go_ret
              exact ⟨by rw [goodSt, ← HD.out, HQ.out]; simp [sessOk, overI, repOk, goodVal, h1, h2, h3, h4], HB2.out⟩
            · skip
              have h4p := of_decide_eq_true h4
              have h4q := Int.not_lt.2 h4p
              go_upto_region 10 with fail
              have B1 : Box (wr.alloc (.cells #[.int .i64 y.fId, .int .i64 y.fLast, .int .i64 y.fReply.fCode, .string y.fReply.fValue] 80)) wr.heap.size #[.int .i64 y.fId, .int .i64 y.fLast, .int .i64 y.fReply.fCode, .string y.fReply.fValue] 80 := Box.new rfl
              have r0 := regr (Below.refl _ _) B1.lt (B1.cell 0 (v := .int .i64 y.fId) rfl)
              have r1 := regr (Below.refl _ _) B1.lt (B1.cell 1 (v := .int .i64 y.fLast) rfl)
              have r2 := regr (Below.refl _ _) B1.lt (B1.cell 2 (v := .int .i64 y.fReply.fCode) rfl)
              have r3 := regr (Below.refl _ _) B1.lt (B1.cell 3 (v := .string y.fReply.fValue) rfl)
              have XHX := Lib.hid (Box.alloc (o := .cells #[.int .i64 y.fId, .int .i64 y.fLast, .int .i64 y.fReply.fCode, .string y.fReply.fValue] 80) HX.out)
              have HX_0 := regr (Below.refl _ _) XHX.out.lt (XHX.out.cell 0 (v := .slice A1 s.fCells.length c1) rfl)
              have HX_1 := regr (Below.refl _ _) XHX.out.lt (XHX.out.cell 1 (v := .slice (some ⟨b, o, none⟩) s.fSessions.length c2) rfl)
              have HB1 := Lib.hid (HB.out.alloc HB.out.size (.cells #[.int .i64 y.fId, .int .i64 y.fLast, .int .i64 y.fReply.fCode, .string y.fReply.fValue] 80))
              clear B1 a0 a1 a2 a3
              generalize wr.alloc (.cells #[.int .i64 y.fId, .int .i64 y.fLast, .int .i64 y.fReply.fCode, .string y.fReply.fValue] 80) = w1 at *
              refine wp_region_quiet_below (by kernel_rfl) (by kernel_rfl) ?_
              have c_h1 : ∀ W : World, Calls Try.prog 49 #[.int .i64 y.fId, .int .i64 0, .int .i64 99] W (fun e w' => e = .returned (.bool true) ∧ Below W.heap.size W w') := fun W => (sInR_calls _ _ _ _).mono (fun e w' h => ⟨by rw [h.1, h1], by rw [h.2]; exact Below.refl _ _⟩)
              have c_h2 : ∀ W : World, Calls Try.prog 49 #[.int .i64 y.fLast, .int .i64 1, .int .i64 1000000] W (fun e w' => e = .returned (.bool true) ∧ Below W.heap.size W w') := fun W => (sInR_calls _ _ _ _).mono (fun e w' h => ⟨by rw [h.1, h2], by rw [h.2]; exact Below.refl _ _⟩)
              have c_h3 : ∀ W : World, Calls Try.prog 49 #[.int .i64 y.fReply.fCode, .int .i64 0, .int .i64 4] W (fun e w' => e = .returned (.bool true) ∧ Below W.heap.size W w') := fun W => (sInR_calls _ _ _ _).mono (fun e w' h => ⟨by rw [h.1, h3], by rw [h.2]; exact Below.refl _ _⟩)
              repeat (go_big_quiet_step (first | (with_reducible exact Calls.regrown_of (c_h1 _)) | (with_reducible exact Calls.regrown_of (c_h2 _)) | (with_reducible exact Calls.regrown_of (c_h3 _))))
              refine wpQuiet_nil ?_
              rintro w2 ⟨p, rfl⟩
              have HB2 := Lib.hid (HB1.out.trans ((below_regrown w1 p.d p.os).mono HB1.out.size))
              have YHX := Lib.hid (XHX.out.below (below_regrown w1 p.d p.os))
              clear r0 r1 r2 r3 HX_0 HX_1 XHX
              generalize grow (redrawn w1 p.d) p.os = w2 at *
              go_wp2
              exact ⟨⟨k + 1, by omega, by go_num, by rw [Hid, ← HD.out, HP.out, HQ.out]; simp [sessOk, overI, repOk, goodVal, h1, h2, h3, h4], HB2.out, YHX.out⟩, by simp [intOf]; omega⟩
          · have hlt2 : k - 1 < s.fSessions.length := by omega
            obtain ⟨b2, o2, cs2, e2, k2, q2⟩ := Rp.C_get H2.out (k - 1) hlt2
            obtain ⟨rfl, rfl⟩ : b = b2 ∧ o = o2 := by simpa using e2
            obtain rfl := kSession_K k2
            have HQ := Lib.hid (prevS_pos hlt2 (by omega))
            generalize s.fSessions[k - 1] = z at *
            have d0 := (World.cell?_of_block (HB.out.block b (World.block_lt_of_cell? w _ (q2 0 _ rfl)))).trans (q2 0 _ rfl)
            simp only [kSession_sz, Nat.add_zero] at d0
            clear q2 k2
            have i3 : (0 : Int) < (k : Int) := by omega
            obtain ⟨m, rfl⟩ : ∃ m, k = m + 1 := ⟨k - 1, by omega⟩
            rw [Nat.add_sub_cancel] at d0
            have i4 : ((m + 1 : Nat) : Int) - 1 = (m : Int) := by omega
            have i5 : IntKind.i64.wrap (m : Int) = (m : Int) := by rw [IntKind.wrap_i64]; omega
            have hpath : ((inR y.fId 0 99) = false) ∨ ((inR y.fId 0 99) = true ∧ (inR y.fLast 1 1000000) = false) ∨ ((inR y.fId 0 99) = true ∧ (inR y.fLast 1 1000000) = true ∧ (inR y.fReply.fCode 0 4) = false) ∨ ((inR y.fId 0 99) = true ∧ (inR y.fLast 1 1000000) = true ∧ (inR y.fReply.fCode 0 4) = true ∧ (decide ((y.fReply.fValue.size : Int) ≤ 40)) = false) ∨ ((inR y.fId 0 99) = true ∧ (inR y.fLast 1 1000000) = true ∧ (inR y.fReply.fCode 0 4) = true ∧ (decide ((y.fReply.fValue.size : Int) ≤ 40)) = true ∧ (decide (z.fId < y.fId)) = false) ∨ ((inR y.fId 0 99) = true ∧ (inR y.fLast 1 1000000) = true ∧ (inR y.fReply.fCode 0 4) = true ∧ (decide ((y.fReply.fValue.size : Int) ≤ 40)) = true ∧ (decide (z.fId < y.fId)) = true) := by cases (inR y.fId 0 99) <;> cases (inR y.fLast 1 1000000) <;> cases (inR y.fReply.fCode 0 4) <;> cases (decide ((y.fReply.fValue.size : Int) ≤ 40)) <;> cases (decide (z.fId < y.fId)) <;> simp
            rcases hpath with h1 | ⟨h1, h2⟩ | ⟨h1, h2, h3⟩ | ⟨h1, h2, h3, h4⟩ | ⟨h1, h2, h3, h4, h5⟩ | ⟨h1, h2, h3, h4, h5⟩
            · skip
              go_upto_region 10 with fail
              have B1 : Box (wr.alloc (.cells #[.int .i64 y.fId, .int .i64 y.fLast, .int .i64 y.fReply.fCode, .string y.fReply.fValue] 80)) wr.heap.size #[.int .i64 y.fId, .int .i64 y.fLast, .int .i64 y.fReply.fCode, .string y.fReply.fValue] 80 := Box.new rfl
              have r0 := regr (Below.refl _ _) B1.lt (B1.cell 0 (v := .int .i64 y.fId) rfl)
              have r1 := regr (Below.refl _ _) B1.lt (B1.cell 1 (v := .int .i64 y.fLast) rfl)
              have r2 := regr (Below.refl _ _) B1.lt (B1.cell 2 (v := .int .i64 y.fReply.fCode) rfl)
              have r3 := regr (Below.refl _ _) B1.lt (B1.cell 3 (v := .string y.fReply.fValue) rfl)
              have p0 := regr ((Below.refl _ wr).alloc (Nat.le_refl _) (.cells #[.int .i64 y.fId, .int .i64 y.fLast, .int .i64 y.fReply.fCode, .string y.fReply.fValue] 80)) (World.block_lt_of_cell? wr _ d0) d0
              have XHX := Lib.hid (Box.alloc (o := .cells #[.int .i64 y.fId, .int .i64 y.fLast, .int .i64 y.fReply.fCode, .string y.fReply.fValue] 80) HX.out)
              have HX_0 := regr (Below.refl _ _) XHX.out.lt (XHX.out.cell 0 (v := .slice A1 s.fCells.length c1) rfl)
              have HX_1 := regr (Below.refl _ _) XHX.out.lt (XHX.out.cell 1 (v := .slice (some ⟨b, o, none⟩) s.fSessions.length c2) rfl)
              have HB1 := Lib.hid (HB.out.alloc HB.out.size (.cells #[.int .i64 y.fId, .int .i64 y.fLast, .int .i64 y.fReply.fCode, .string y.fReply.fValue] 80))
              clear B1 a0 a1 a2 a3 d0
              generalize wr.alloc (.cells #[.int .i64 y.fId, .int .i64 y.fLast, .int .i64 y.fReply.fCode, .string y.fReply.fValue] 80) = w1 at *
              refine wp_region_quiet_below (by kernel_rfl) (by kernel_rfl) ?_
              have c_h1 : ∀ W : World, Calls Try.prog 49 #[.int .i64 y.fId, .int .i64 0, .int .i64 99] W (fun e w' => e = .returned (.bool false) ∧ Below W.heap.size W w') := fun W => (sInR_calls _ _ _ _).mono (fun e w' h => ⟨by rw [h.1, h1], by rw [h.2]; exact Below.refl _ _⟩)
              repeat (go_big_quiet_step (first | (with_reducible exact Calls.regrown_of (c_h1 _))))
              refine wpQuiet_nil ?_
              rintro w2 ⟨p, rfl⟩
              have HB2 := Lib.hid (HB1.out.trans ((below_regrown w1 p.d p.os).mono HB1.out.size))
              have YHX := Lib.hid (XHX.out.below (below_regrown w1 p.d p.os))
              clear r0 r1 r2 r3 p0 HX_0 HX_1 XHX
              generalize grow (redrawn w1 p.d) p.os = w2 at *
              go_wp2
              go_ret
              exact ⟨by rw [goodSt, ← HD.out, HQ.out]; simp [sessOk, overI, repOk, goodVal, h1], HB2.out⟩
            · skip
              go_upto_region 10 with fail
              have B1 : Box (wr.alloc (.cells #[.int .i64 y.fId, .int .i64 y.fLast, .int .i64 y.fReply.fCode, .string y.fReply.fValue] 80)) wr.heap.size #[.int .i64 y.fId, .int .i64 y.fLast, .int .i64 y.fReply.fCode, .string y.fReply.fValue] 80 := Box.new rfl
              have r0 := regr (Below.refl _ _) B1.lt (B1.cell 0 (v := .int .i64 y.fId) rfl)
              have r1 := regr (Below.refl _ _) B1.lt (B1.cell 1 (v := .int .i64 y.fLast) rfl)
              have r2 := regr (Below.refl _ _) B1.lt (B1.cell 2 (v := .int .i64 y.fReply.fCode) rfl)
              have r3 := regr (Below.refl _ _) B1.lt (B1.cell 3 (v := .string y.fReply.fValue) rfl)
              have p0 := regr ((Below.refl _ wr).alloc (Nat.le_refl _) (.cells #[.int .i64 y.fId, .int .i64 y.fLast, .int .i64 y.fReply.fCode, .string y.fReply.fValue] 80)) (World.block_lt_of_cell? wr _ d0) d0
              have XHX := Lib.hid (Box.alloc (o := .cells #[.int .i64 y.fId, .int .i64 y.fLast, .int .i64 y.fReply.fCode, .string y.fReply.fValue] 80) HX.out)
              have HX_0 := regr (Below.refl _ _) XHX.out.lt (XHX.out.cell 0 (v := .slice A1 s.fCells.length c1) rfl)
              have HX_1 := regr (Below.refl _ _) XHX.out.lt (XHX.out.cell 1 (v := .slice (some ⟨b, o, none⟩) s.fSessions.length c2) rfl)
              have HB1 := Lib.hid (HB.out.alloc HB.out.size (.cells #[.int .i64 y.fId, .int .i64 y.fLast, .int .i64 y.fReply.fCode, .string y.fReply.fValue] 80))
              clear B1 a0 a1 a2 a3 d0
              generalize wr.alloc (.cells #[.int .i64 y.fId, .int .i64 y.fLast, .int .i64 y.fReply.fCode, .string y.fReply.fValue] 80) = w1 at *
              refine wp_region_quiet_below (by kernel_rfl) (by kernel_rfl) ?_
              have c_h1 : ∀ W : World, Calls Try.prog 49 #[.int .i64 y.fId, .int .i64 0, .int .i64 99] W (fun e w' => e = .returned (.bool true) ∧ Below W.heap.size W w') := fun W => (sInR_calls _ _ _ _).mono (fun e w' h => ⟨by rw [h.1, h1], by rw [h.2]; exact Below.refl _ _⟩)
              have c_h2 : ∀ W : World, Calls Try.prog 49 #[.int .i64 y.fLast, .int .i64 1, .int .i64 1000000] W (fun e w' => e = .returned (.bool false) ∧ Below W.heap.size W w') := fun W => (sInR_calls _ _ _ _).mono (fun e w' h => ⟨by rw [h.1, h2], by rw [h.2]; exact Below.refl _ _⟩)
              repeat (go_big_quiet_step (first | (with_reducible exact Calls.regrown_of (c_h1 _)) | (with_reducible exact Calls.regrown_of (c_h2 _))))
              refine wpQuiet_nil ?_
              rintro w2 ⟨p, rfl⟩
              have HB2 := Lib.hid (HB1.out.trans ((below_regrown w1 p.d p.os).mono HB1.out.size))
              have YHX := Lib.hid (XHX.out.below (below_regrown w1 p.d p.os))
              clear r0 r1 r2 r3 p0 HX_0 HX_1 XHX
              generalize grow (redrawn w1 p.d) p.os = w2 at *
              go_wp2
              go_ret
              exact ⟨by rw [goodSt, ← HD.out, HQ.out]; simp [sessOk, overI, repOk, goodVal, h1, h2], HB2.out⟩
            · skip
              go_upto_region 10 with fail
              have B1 : Box (wr.alloc (.cells #[.int .i64 y.fId, .int .i64 y.fLast, .int .i64 y.fReply.fCode, .string y.fReply.fValue] 80)) wr.heap.size #[.int .i64 y.fId, .int .i64 y.fLast, .int .i64 y.fReply.fCode, .string y.fReply.fValue] 80 := Box.new rfl
              have r0 := regr (Below.refl _ _) B1.lt (B1.cell 0 (v := .int .i64 y.fId) rfl)
              have r1 := regr (Below.refl _ _) B1.lt (B1.cell 1 (v := .int .i64 y.fLast) rfl)
              have r2 := regr (Below.refl _ _) B1.lt (B1.cell 2 (v := .int .i64 y.fReply.fCode) rfl)
              have r3 := regr (Below.refl _ _) B1.lt (B1.cell 3 (v := .string y.fReply.fValue) rfl)
              have p0 := regr ((Below.refl _ wr).alloc (Nat.le_refl _) (.cells #[.int .i64 y.fId, .int .i64 y.fLast, .int .i64 y.fReply.fCode, .string y.fReply.fValue] 80)) (World.block_lt_of_cell? wr _ d0) d0
              have XHX := Lib.hid (Box.alloc (o := .cells #[.int .i64 y.fId, .int .i64 y.fLast, .int .i64 y.fReply.fCode, .string y.fReply.fValue] 80) HX.out)
              have HX_0 := regr (Below.refl _ _) XHX.out.lt (XHX.out.cell 0 (v := .slice A1 s.fCells.length c1) rfl)
              have HX_1 := regr (Below.refl _ _) XHX.out.lt (XHX.out.cell 1 (v := .slice (some ⟨b, o, none⟩) s.fSessions.length c2) rfl)
              have HB1 := Lib.hid (HB.out.alloc HB.out.size (.cells #[.int .i64 y.fId, .int .i64 y.fLast, .int .i64 y.fReply.fCode, .string y.fReply.fValue] 80))
              clear B1 a0 a1 a2 a3 d0
              generalize wr.alloc (.cells #[.int .i64 y.fId, .int .i64 y.fLast, .int .i64 y.fReply.fCode, .string y.fReply.fValue] 80) = w1 at *
              refine wp_region_quiet_below (by kernel_rfl) (by kernel_rfl) ?_
              have c_h1 : ∀ W : World, Calls Try.prog 49 #[.int .i64 y.fId, .int .i64 0, .int .i64 99] W (fun e w' => e = .returned (.bool true) ∧ Below W.heap.size W w') := fun W => (sInR_calls _ _ _ _).mono (fun e w' h => ⟨by rw [h.1, h1], by rw [h.2]; exact Below.refl _ _⟩)
              have c_h2 : ∀ W : World, Calls Try.prog 49 #[.int .i64 y.fLast, .int .i64 1, .int .i64 1000000] W (fun e w' => e = .returned (.bool true) ∧ Below W.heap.size W w') := fun W => (sInR_calls _ _ _ _).mono (fun e w' h => ⟨by rw [h.1, h2], by rw [h.2]; exact Below.refl _ _⟩)
              have c_h3 : ∀ W : World, Calls Try.prog 49 #[.int .i64 y.fReply.fCode, .int .i64 0, .int .i64 4] W (fun e w' => e = .returned (.bool false) ∧ Below W.heap.size W w') := fun W => (sInR_calls _ _ _ _).mono (fun e w' h => ⟨by rw [h.1, h3], by rw [h.2]; exact Below.refl _ _⟩)
              repeat (go_big_quiet_step (first | (with_reducible exact Calls.regrown_of (c_h1 _)) | (with_reducible exact Calls.regrown_of (c_h2 _)) | (with_reducible exact Calls.regrown_of (c_h3 _))))
              refine wpQuiet_nil ?_
              rintro w2 ⟨p, rfl⟩
              have HB2 := Lib.hid (HB1.out.trans ((below_regrown w1 p.d p.os).mono HB1.out.size))
              have YHX := Lib.hid (XHX.out.below (below_regrown w1 p.d p.os))
              clear r0 r1 r2 r3 p0 HX_0 HX_1 XHX
              generalize grow (redrawn w1 p.d) p.os = w2 at *
              go_wp2
              go_ret
              exact ⟨by rw [goodSt, ← HD.out, HQ.out]; simp [sessOk, overI, repOk, goodVal, h1, h2, h3], HB2.out⟩
            · skip
              have h4p := of_decide_eq_false h4
              have h4q := Int.not_le.1 h4p
              go_upto_region 10 with fail
              have B1 : Box (wr.alloc (.cells #[.int .i64 y.fId, .int .i64 y.fLast, .int .i64 y.fReply.fCode, .string y.fReply.fValue] 80)) wr.heap.size #[.int .i64 y.fId, .int .i64 y.fLast, .int .i64 y.fReply.fCode, .string y.fReply.fValue] 80 := Box.new rfl
              have r0 := regr (Below.refl _ _) B1.lt (B1.cell 0 (v := .int .i64 y.fId) rfl)
              have r1 := regr (Below.refl _ _) B1.lt (B1.cell 1 (v := .int .i64 y.fLast) rfl)
              have r2 := regr (Below.refl _ _) B1.lt (B1.cell 2 (v := .int .i64 y.fReply.fCode) rfl)
              have r3 := regr (Below.refl _ _) B1.lt (B1.cell 3 (v := .string y.fReply.fValue) rfl)
              have p0 := regr ((Below.refl _ wr).alloc (Nat.le_refl _) (.cells #[.int .i64 y.fId, .int .i64 y.fLast, .int .i64 y.fReply.fCode, .string y.fReply.fValue] 80)) (World.block_lt_of_cell? wr _ d0) d0
              have XHX := Lib.hid (Box.alloc (o := .cells #[.int .i64 y.fId, .int .i64 y.fLast, .int .i64 y.fReply.fCode, .string y.fReply.fValue] 80) HX.out)
              have HX_0 := regr (Below.refl _ _) XHX.out.lt (XHX.out.cell 0 (v := .slice A1 s.fCells.length c1) rfl)
              have HX_1 := regr (Below.refl _ _) XHX.out.lt (XHX.out.cell 1 (v := .slice (some ⟨b, o, none⟩) s.fSessions.length c2) rfl)
              have HB1 := Lib.hid (HB.out.alloc HB.out.size (.cells #[.int .i64 y.fId, .int .i64 y.fLast, .int .i64 y.fReply.fCode, .string y.fReply.fValue] 80))
              clear B1 a0 a1 a2 a3 d0
              generalize wr.alloc (.cells #[.int .i64 y.fId, .int .i64 y.fLast, .int .i64 y.fReply.fCode, .string y.fReply.fValue] 80) = w1 at *
              refine wp_region_quiet_below (by kernel_rfl) (by kernel_rfl) ?_
              have c_h1 : ∀ W : World, Calls Try.prog 49 #[.int .i64 y.fId, .int .i64 0, .int .i64 99] W (fun e w' => e = .returned (.bool true) ∧ Below W.heap.size W w') := fun W => (sInR_calls _ _ _ _).mono (fun e w' h => ⟨by rw [h.1, h1], by rw [h.2]; exact Below.refl _ _⟩)
              have c_h2 : ∀ W : World, Calls Try.prog 49 #[.int .i64 y.fLast, .int .i64 1, .int .i64 1000000] W (fun e w' => e = .returned (.bool true) ∧ Below W.heap.size W w') := fun W => (sInR_calls _ _ _ _).mono (fun e w' h => ⟨by rw [h.1, h2], by rw [h.2]; exact Below.refl _ _⟩)
              have c_h3 : ∀ W : World, Calls Try.prog 49 #[.int .i64 y.fReply.fCode, .int .i64 0, .int .i64 4] W (fun e w' => e = .returned (.bool true) ∧ Below W.heap.size W w') := fun W => (sInR_calls _ _ _ _).mono (fun e w' h => ⟨by rw [h.1, h3], by rw [h.2]; exact Below.refl _ _⟩)
              repeat (go_big_quiet_step (first | (with_reducible exact Calls.regrown_of (c_h1 _)) | (with_reducible exact Calls.regrown_of (c_h2 _)) | (with_reducible exact Calls.regrown_of (c_h3 _))))
              refine wpQuiet_nil ?_
              rintro w2 ⟨p, rfl⟩
              have HB2 := Lib.hid (HB1.out.trans ((below_regrown w1 p.d p.os).mono HB1.out.size))
              have YHX := Lib.hid (XHX.out.below (below_regrown w1 p.d p.os))
              clear r0 r1 r2 r3 p0 HX_0 HX_1 XHX
              generalize grow (redrawn w1 p.d) p.os = w2 at *
              go_wp2
              go_ret
              exact ⟨by rw [goodSt, ← HD.out, HQ.out]; simp [sessOk, overI, repOk, goodVal, h1, h2, h3, h4], HB2.out⟩
            · skip
              have h4p := of_decide_eq_true h4
              have h4q := Int.not_lt.2 h4p
              have h5p := of_decide_eq_false h5
              have h5q := Int.not_lt.1 h5p
              go_upto_region 10 with fail
              have B1 : Box (wr.alloc (.cells #[.int .i64 y.fId, .int .i64 y.fLast, .int .i64 y.fReply.fCode, .string y.fReply.fValue] 80)) wr.heap.size #[.int .i64 y.fId, .int .i64 y.fLast, .int .i64 y.fReply.fCode, .string y.fReply.fValue] 80 := Box.new rfl
              have r0 := regr (Below.refl _ _) B1.lt (B1.cell 0 (v := .int .i64 y.fId) rfl)
              have r1 := regr (Below.refl _ _) B1.lt (B1.cell 1 (v := .int .i64 y.fLast) rfl)
              have r2 := regr (Below.refl _ _) B1.lt (B1.cell 2 (v := .int .i64 y.fReply.fCode) rfl)
              have r3 := regr (Below.refl _ _) B1.lt (B1.cell 3 (v := .string y.fReply.fValue) rfl)
              have p0 := regr ((Below.refl _ wr).alloc (Nat.le_refl _) (.cells #[.int .i64 y.fId, .int .i64 y.fLast, .int .i64 y.fReply.fCode, .string y.fReply.fValue] 80)) (World.block_lt_of_cell? wr _ d0) d0
              have XHX := Lib.hid (Box.alloc (o := .cells #[.int .i64 y.fId, .int .i64 y.fLast, .int .i64 y.fReply.fCode, .string y.fReply.fValue] 80) HX.out)
              have HX_0 := regr (Below.refl _ _) XHX.out.lt (XHX.out.cell 0 (v := .slice A1 s.fCells.length c1) rfl)
              have HX_1 := regr (Below.refl _ _) XHX.out.lt (XHX.out.cell 1 (v := .slice (some ⟨b, o, none⟩) s.fSessions.length c2) rfl)
              have HB1 := Lib.hid (HB.out.alloc HB.out.size (.cells #[.int .i64 y.fId, .int .i64 y.fLast, .int .i64 y.fReply.fCode, .string y.fReply.fValue] 80))
              clear B1 a0 a1 a2 a3 d0
              generalize wr.alloc (.cells #[.int .i64 y.fId, .int .i64 y.fLast, .int .i64 y.fReply.fCode, .string y.fReply.fValue] 80) = w1 at *
              refine wp_region_quiet_below (by kernel_rfl) (by kernel_rfl) ?_
              have c_h1 : ∀ W : World, Calls Try.prog 49 #[.int .i64 y.fId, .int .i64 0, .int .i64 99] W (fun e w' => e = .returned (.bool true) ∧ Below W.heap.size W w') := fun W => (sInR_calls _ _ _ _).mono (fun e w' h => ⟨by rw [h.1, h1], by rw [h.2]; exact Below.refl _ _⟩)
              have c_h2 : ∀ W : World, Calls Try.prog 49 #[.int .i64 y.fLast, .int .i64 1, .int .i64 1000000] W (fun e w' => e = .returned (.bool true) ∧ Below W.heap.size W w') := fun W => (sInR_calls _ _ _ _).mono (fun e w' h => ⟨by rw [h.1, h2], by rw [h.2]; exact Below.refl _ _⟩)
              have c_h3 : ∀ W : World, Calls Try.prog 49 #[.int .i64 y.fReply.fCode, .int .i64 0, .int .i64 4] W (fun e w' => e = .returned (.bool true) ∧ Below W.heap.size W w') := fun W => (sInR_calls _ _ _ _).mono (fun e w' h => ⟨by rw [h.1, h3], by rw [h.2]; exact Below.refl _ _⟩)
              repeat (go_big_quiet_step (first | (with_reducible exact Calls.regrown_of (c_h1 _)) | (with_reducible exact Calls.regrown_of (c_h2 _)) | (with_reducible exact Calls.regrown_of (c_h3 _))))
              refine wpQuiet_nil ?_
              rintro w2 ⟨p, rfl⟩
              have HB2 := Lib.hid (HB1.out.trans ((below_regrown w1 p.d p.os).mono HB1.out.size))
              have YHX := Lib.hid (XHX.out.below (below_regrown w1 p.d p.os))
              clear r0 r1 r2 r3 p0 HX_0 HX_1 XHX
              generalize grow (redrawn w1 p.d) p.os = w2 at *
              go_wp2
              go_ret
              exact ⟨by rw [goodSt, ← HD.out, HQ.out]; simp [sessOk, overI, repOk, goodVal, h1, h2, h3, h4, h5], HB2.out⟩
            · skip
              have h4p := of_decide_eq_true h4
              have h4q := Int.not_lt.2 h4p
              have h5p := of_decide_eq_true h5
              have h5q := Int.not_le.2 h5p
              go_upto_region 10 with fail
              have B1 : Box (wr.alloc (.cells #[.int .i64 y.fId, .int .i64 y.fLast, .int .i64 y.fReply.fCode, .string y.fReply.fValue] 80)) wr.heap.size #[.int .i64 y.fId, .int .i64 y.fLast, .int .i64 y.fReply.fCode, .string y.fReply.fValue] 80 := Box.new rfl
              have r0 := regr (Below.refl _ _) B1.lt (B1.cell 0 (v := .int .i64 y.fId) rfl)
              have r1 := regr (Below.refl _ _) B1.lt (B1.cell 1 (v := .int .i64 y.fLast) rfl)
              have r2 := regr (Below.refl _ _) B1.lt (B1.cell 2 (v := .int .i64 y.fReply.fCode) rfl)
              have r3 := regr (Below.refl _ _) B1.lt (B1.cell 3 (v := .string y.fReply.fValue) rfl)
              have p0 := regr ((Below.refl _ wr).alloc (Nat.le_refl _) (.cells #[.int .i64 y.fId, .int .i64 y.fLast, .int .i64 y.fReply.fCode, .string y.fReply.fValue] 80)) (World.block_lt_of_cell? wr _ d0) d0
              have XHX := Lib.hid (Box.alloc (o := .cells #[.int .i64 y.fId, .int .i64 y.fLast, .int .i64 y.fReply.fCode, .string y.fReply.fValue] 80) HX.out)
              have HX_0 := regr (Below.refl _ _) XHX.out.lt (XHX.out.cell 0 (v := .slice A1 s.fCells.length c1) rfl)
              have HX_1 := regr (Below.refl _ _) XHX.out.lt (XHX.out.cell 1 (v := .slice (some ⟨b, o, none⟩) s.fSessions.length c2) rfl)
              have HB1 := Lib.hid (HB.out.alloc HB.out.size (.cells #[.int .i64 y.fId, .int .i64 y.fLast, .int .i64 y.fReply.fCode, .string y.fReply.fValue] 80))
              clear B1 a0 a1 a2 a3 d0
              generalize wr.alloc (.cells #[.int .i64 y.fId, .int .i64 y.fLast, .int .i64 y.fReply.fCode, .string y.fReply.fValue] 80) = w1 at *
              refine wp_region_quiet_below (by kernel_rfl) (by kernel_rfl) ?_
              have c_h1 : ∀ W : World, Calls Try.prog 49 #[.int .i64 y.fId, .int .i64 0, .int .i64 99] W (fun e w' => e = .returned (.bool true) ∧ Below W.heap.size W w') := fun W => (sInR_calls _ _ _ _).mono (fun e w' h => ⟨by rw [h.1, h1], by rw [h.2]; exact Below.refl _ _⟩)
              have c_h2 : ∀ W : World, Calls Try.prog 49 #[.int .i64 y.fLast, .int .i64 1, .int .i64 1000000] W (fun e w' => e = .returned (.bool true) ∧ Below W.heap.size W w') := fun W => (sInR_calls _ _ _ _).mono (fun e w' h => ⟨by rw [h.1, h2], by rw [h.2]; exact Below.refl _ _⟩)
              have c_h3 : ∀ W : World, Calls Try.prog 49 #[.int .i64 y.fReply.fCode, .int .i64 0, .int .i64 4] W (fun e w' => e = .returned (.bool true) ∧ Below W.heap.size W w') := fun W => (sInR_calls _ _ _ _).mono (fun e w' h => ⟨by rw [h.1, h3], by rw [h.2]; exact Below.refl _ _⟩)
              repeat (go_big_quiet_step (first | (with_reducible exact Calls.regrown_of (c_h1 _)) | (with_reducible exact Calls.regrown_of (c_h2 _)) | (with_reducible exact Calls.regrown_of (c_h3 _))))
              refine wpQuiet_nil ?_
              rintro w2 ⟨p, rfl⟩
              have HB2 := Lib.hid (HB1.out.trans ((below_regrown w1 p.d p.os).mono HB1.out.size))
              have YHX := Lib.hid (XHX.out.below (below_regrown w1 p.d p.os))
              clear r0 r1 r2 r3 p0 HX_0 HX_1 XHX
              generalize grow (redrawn w1 p.d) p.os = w2 at *
              go_wp2
              exact ⟨⟨m + 1 + 1, by omega, by go_num, by rw [Hid, ← HD.out, HP.out, HQ.out]; simp [sessOk, overI, repOk, goodVal, h1, h2, h3, h4, h5], HB2.out, YHX.out⟩, by simp [intOf]; omega⟩
        · obtain rfl : k = s.fSessions.length := by omega
          have hE := HE.out
          rw [List.drop_length, sessFrom] at hE
          have HE2 := Lib.hid hE; clear hE HE
          have C0 := HX.out.cell 0 (v := .slice A1 s.fCells.length c1) rfl
          have C1 := HX.out.cell 1 (v := .slice A2 s.fSessions.length c2) rfl
          go_wp2
          all_goals go_ret
          all_goals refine ⟨?_, HB.out⟩
          all_goals rw [goodSt, cellsOk, ← HE2.out, ← HE3.out]
          all_goals simp [*]
          all_goals first | omega | (intro _; omega) | (rw [Bool.eq_iff_iff]; simp; omega)
theorem sGoodState_k {x : DKvState} {c0 : List Value} {w : World} (k0 : kKvState.K w x c0) (h0 : wfKvState x) (s0 : smKvState 1048576 x) : Calls Try.prog 38 #[.agg c0.toArray] w
    fun e w' => e = .returned (.bool (goodSt x)) ∧ Below w.heap.size w w' := by
  obtain ⟨v0, v1, rfl, g0, g1⟩ := kKvState_read k0
  exact sGoodState_calls x v0 v1 w g0 g1 s0
theorem iGoodState_k {x : DKvState} {c0 : List Value} {w : World} (k0 : kKvState.K w x c0) (h0 : wfKvState x) (s0 : smKvState 1048576 x) : Calls Try.prog 40 #[.agg c0.toArray] w
    fun e w' => e = .returned (.bool (goodSt x)) ∧ Below w.heap.size w w' := by
  obtain ⟨v0, v1, rfl, g0, g1⟩ := kKvState_read k0
  exact iGoodState_calls x v0 v1 w g0 g1 s0
end Go.Proofs.Ytfcodelfgjnkhaa
