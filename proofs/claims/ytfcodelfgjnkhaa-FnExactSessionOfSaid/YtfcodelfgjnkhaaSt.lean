/- States: which are right. -/
import Derived.Test.YtfcodelfgjnkhaaG7
import Derived.Test.YtfcodelfgjnkhaaCmd
import Derived.Laws.Slices
import Derived.Laws.Cover1
namespace Go.Proofs.Ytfcodelfgjnkhaa
open Go Go.RowKit Go.Sort
set_option linter.unusedVariables false
set_option linter.unusedSimpArgs false

def cellOk (p : DPair) : Bool := goodKey p.fKey && goodVal p.fValue
def overK : Option ByteArray → ByteArray → Bool
  | none, _ => true
  | some k, s => Op.bytesLess k.toList s.toList
def cellsFrom : Option ByteArray → List DPair → Bool
  | _, [] => true
  | o, p :: ps => cellOk p && overK o p.fKey && cellsFrom (some p.fKey) ps
def prevK (xs : List DPair) (k : Nat) : Option ByteArray := if k = 0 then none else (xs[k - 1]?).map (·.fKey)
theorem prevK_succ {xs : List DPair} {k : Nat} (h : k < xs.length) : prevK xs (k + 1) = some xs[k].fKey := by
  rw [prevK, if_neg (by omega), Nat.add_sub_cancel, List.getElem?_eq_getElem h]; rfl
def cellsOk (xs : List DPair) : Bool := cellsFrom none xs && decide (xs.length ≤ 40)

set_option maxHeartbeats 2000000 in
set_option maxRecDepth 100000 in
theorem iCellsOk_calls (xs : List DPair) (v : Value) (w : World) (g : kPair.S w xs v) (hl : xs.length ≤ 1048576) : Calls Try.prog 77 #[v] w
    fun e w' => e = .returned (.bool (cellsOk xs)) ∧ Below w.heap.size w w' := by
  obtain ⟨A, c, rfl, hc, h⟩ := g
  have H := Lib.hid h; clear h
  go_enter Try.func77, Try.ntmps77
  go_wp2
  go_loopw [7] (fun i wr => ∃ k : Nat, k ≤ xs.length ∧ i = .int .i64 k ∧ Hid (cellsFrom (prevK xs k) (xs.drop k) = cellsFrom none xs) ∧ Hid (Below w.heap.size w wr)) (fun i _ => xs.length - (intOf i).toNat)
  case atStart => exact ⟨0, Nat.zero_le _, rfl, rfl, Below.refl _ _⟩
  case round =>
    obtain ⟨k, hk, rfl, HE, HB⟩ := hrel
    by_cases hlt : k < xs.length
    · obtain ⟨b, o, cs, rfl, k1, q1⟩ := Rp.C_get H.out k hlt
      obtain rfl := kPair_K k1
      have hd := HE.out
      have hp := prevK_succ hlt
      rw [List.drop_eq_getElem_cons hlt, cellsFrom] at hd
      generalize he : xs[k] = y at *
      have HP := Lib.hid hp; clear hp
      have HG := Lib.hid he; clear he
      have HD := Lib.hid hd; clear hd HE
      have a0 := (World.cell?_of_block (HB.out.block b (World.block_lt_of_cell? w _ (q1 0 _ rfl)))).trans (q1 0 _ rfl)
      simp only [kPair_sz, Nat.add_zero] at a0
      have a1 := (World.cell?_of_block (HB.out.block b (World.block_lt_of_cell? w _ (q1 1 _ rfl)))).trans (q1 1 _ rfl)
      simp only [kPair_sz] at a1
      clear q1 k1
      have i1 : (0 : Int) ≤ (k : Int) := by omega
      have i2 : (k : Int) < (xs.length : Int) := by omega
      rcases Nat.eq_zero_or_pos k with hz | hz
      · have HQ := Lib.hid (show prevK xs k = none by rw [prevK, if_pos hz])
        have i3 : ¬ (0 : Int) < (k : Int) := by omega
        have i4 : ¬ 0 < k := by omega
        clear hz
        cases h1 : goodKey y.fKey <;> cases h2 : goodVal y.fValue
        all_goals go_upto_region 4 with fail
        all_goals
          have B1 : Box (wr.alloc (.cells #[.string y.fKey, .string y.fValue] 110)) wr.heap.size #[.string y.fKey, .string y.fValue] 110 := Box.new rfl
          have r0 := regr (Below.refl _ _) B1.lt (B1.cell 0 (v := .string y.fKey) rfl)
          have r1 := regr (Below.refl _ _) B1.lt (B1.cell 1 (v := .string y.fValue) rfl)
          have HB1 := Lib.hid (HB.out.alloc HB.out.size (.cells #[.string y.fKey, .string y.fValue] 110))
          clear B1 a0 a1
          generalize wr.alloc (.cells #[.string y.fKey, .string y.fValue] 110) = w1 at *
          refine wp_region_quiet_below (by kernel_rfl) (by kernel_rfl) ?_
          repeat (go_big_quiet_step (first | exact Calls.regrown_of ((iKey_calls _ _).mono (fun e w' h => ⟨by rw [h.1, h1], by rw [h.2]; exact Below.refl _ _⟩)) | exact Calls.regrown_of ((iValue_calls _ _).mono (fun e w' h => ⟨by rw [h.1, h2], by rw [h.2]; exact Below.refl _ _⟩))))
          refine wpQuiet_nil ?_
          rintro w2 ⟨p, rfl⟩
          have HB2 := Lib.hid (HB1.out.trans ((below_regrown w1 p.d p.os).mono HB1.out.size))
          clear r0 r1
          generalize grow (redrawn w1 p.d) p.os = w2 at *
          go_wp2
        all_goals first
          | (go_ret; exact ⟨by rw [cellsOk, ← HD.out, HQ.out]; simp [cellOk, h1, h2], HB2.out⟩)
          | exact ⟨⟨k + 1, by omega, by go_num, by rw [Hid, ← HD.out, HP.out, HQ.out, cellOk, h1, h2]; simp [overK], HB2.out⟩, by simp [intOf]; omega⟩
      · have hlt2 : k - 1 < xs.length := by omega
        obtain ⟨b2, o2, cs2, e2, k2, q2⟩ := Rp.C_get H.out (k - 1) hlt2
        obtain ⟨rfl, rfl⟩ : b = b2 ∧ o = o2 := by simpa using e2
        obtain rfl := kPair_K k2
        have HQ := Lib.hid (show prevK xs k = some xs[k - 1].fKey by rw [prevK, if_neg (by omega), List.getElem?_eq_getElem hlt2]; rfl)
        generalize xs[k - 1] = z at *
        have a2 := (World.cell?_of_block (HB.out.block b (World.block_lt_of_cell? w _ (q2 0 _ rfl)))).trans (q2 0 _ rfl)
        simp only [kPair_sz, Nat.add_zero] at a2
        clear q2 k2
        have i3 : (0 : Int) < (k : Int) := by omega
        obtain ⟨m, rfl⟩ : ∃ m, k = m + 1 := ⟨k - 1, by omega⟩
        rw [Nat.add_sub_cancel] at a2
        have i4 : ((m + 1 : Nat) : Int) - 1 = (m : Int) := by omega
        have i5 : IntKind.i64.wrap (m : Int) = (m : Int) := by rw [IntKind.wrap_i64]; omega
        cases h1 : goodKey y.fKey <;> cases h2 : goodVal y.fValue <;> cases h3 : Op.bytesLess z.fKey.toList y.fKey.toList
        all_goals go_upto_region 4 with fail
        all_goals
          have B1 : Box (wr.alloc (.cells #[.string y.fKey, .string y.fValue] 110)) wr.heap.size #[.string y.fKey, .string y.fValue] 110 := Box.new rfl
          have r0 := regr (Below.refl _ _) B1.lt (B1.cell 0 (v := .string y.fKey) rfl)
          have r1 := regr (Below.refl _ _) B1.lt (B1.cell 1 (v := .string y.fValue) rfl)
          have r2 := regr ((Below.refl _ wr).alloc (Nat.le_refl _) (.cells #[.string y.fKey, .string y.fValue] 110)) (World.block_lt_of_cell? wr _ a2) a2
          have HB1 := Lib.hid (HB.out.alloc HB.out.size (.cells #[.string y.fKey, .string y.fValue] 110))
          clear B1 a0 a1 a2
          generalize wr.alloc (.cells #[.string y.fKey, .string y.fValue] 110) = w1 at *
          refine wp_region_quiet_below (by kernel_rfl) (by kernel_rfl) ?_
          repeat (go_big_quiet_step (first | exact Calls.regrown_of ((iKey_calls _ _).mono (fun e w' h => ⟨by rw [h.1, h1], by rw [h.2]; exact Below.refl _ _⟩)) | exact Calls.regrown_of ((iValue_calls _ _).mono (fun e w' h => ⟨by rw [h.1, h2], by rw [h.2]; exact Below.refl _ _⟩))))
          refine wpQuiet_nil ?_
          rintro w2 ⟨p, rfl⟩
          have HB2 := Lib.hid (HB1.out.trans ((below_regrown w1 p.d p.os).mono HB1.out.size))
          clear r0 r1 r2
          generalize grow (redrawn w1 p.d) p.os = w2 at *
          go_wp2
        all_goals first
          | (go_ret; exact ⟨by rw [cellsOk, ← HD.out, HQ.out]; simp [cellOk, overK, h1, h2, h3], HB2.out⟩)
          | exact ⟨⟨m + 1 + 1, by omega, by go_num, by rw [Hid, ← HD.out, HP.out, HQ.out, cellOk, h1, h2, overK, h3]; simp, HB2.out⟩, by simp [intOf]; omega⟩
    · obtain rfl : k = xs.length := by omega
      have hE := HE.out
      rw [List.drop_length, cellsFrom] at hE
      have HE2 := Lib.hid hE; clear hE HE
      go_wp2
      go_ret
      exact ⟨by rw [cellsOk, ← HE2.out]; simp; omega, HB.out⟩
end Go.Proofs.Ytfcodelfgjnkhaa
