/- Law FnExactGoodCommand: at every input it returns true; what was there stays. -/
import Derived.Test.YtfcodelfgjnkhaaCmd
namespace Go.Proofs.Ytfcodelfgjnkhaa
open Go Go.RowKit Go.Sort
set_option linter.unusedVariables false
set_option linter.unusedSimpArgs false

set_option maxHeartbeats 4000000 in
set_option maxRecDepth 100000 in
theorem law_GoodCommand (a0 : DCommand) (w : World) (g0 : kCommand.K w a0 [.int .i64 a0.fSession, .int .i64 a0.fN, .int .i64 a0.fOp, .string a0.fKey, .string a0.fValue, .string a0.fOld]) (h0 : wfCommand a0) : Calls Try.prog 7 #[.agg #[.int .i64 a0.fSession, .int .i64 a0.fN, .int .i64 a0.fOp, .string a0.fKey, .string a0.fValue, .string a0.fOld]] w
    fun e w' => e = .returned (.bool true) ∧ Below w.heap.size w w' := by
  have G0 := Lib.hid g0; clear g0
  go_enter Try.func7, Try.ntmps7
  go_wp2_with fail
  (with_reducible refine (szCommand_k (kCommand.K_below ((by repeat (first | (with_reducible exact Below.refl _ _) | (with_reducible refine Below.alloc ?_ (by first | (with_reducible exact Nat.le_refl _) | (simp; done) | (simp; omega)) _))) : Below w.heap.size w _).block G0.out) (by omega) (by omega) h0).mono ?_)
  rintro e w1 ⟨rfl, hb⟩
  have Ba0 : Box w1 w.heap.size #[.int .i64 a0.fSession, .int .i64 a0.fN, .int .i64 a0.fOp, .string a0.fKey, .string a0.fValue, .string a0.fOld] 54 := Box.below (Box.new rfl) hb
  have HB1 := Lib.hid (Below.trans (by repeat (first | (with_reducible exact Below.refl _ _) | (with_reducible refine Below.alloc ?_ (by first | (with_reducible exact Nat.le_refl _) | (simp; done) | (simp; omega)) _))) (hb.mono (by first | (with_reducible exact Nat.le_refl _) | (simp; done) | (simp; omega))) : Below w.heap.size w w1)
  have sz0 : w.heap.size + 1 ≤ w1.heap.size := by have := hb.size; simp at this; omega
  clear hb
  have ba0_0 := Ba0.cell 0 (v := .int .i64 a0.fSession) rfl
  have ba0_1 := Ba0.cell 1 (v := .int .i64 a0.fN) rfl
  have ba0_2 := Ba0.cell 2 (v := .int .i64 a0.fOp) rfl
  have ba0_3 := Ba0.cell 3 (v := .string a0.fKey) rfl
  have ba0_4 := Ba0.cell 4 (v := .string a0.fValue) rfl
  have ba0_5 := Ba0.cell 5 (v := .string a0.fOld) rfl
  have Xa0 := Lib.hid Ba0
  clear Ba0
  by_cases z0 : (szNCommand a0 : Int) ≤ 1048576
  case neg =>
    rw [szR_no z0]
    go_wp2
    go_ret
    exact ⟨rfl, HB1.out⟩
  case pos =>
    rw [szR_yes z0]
    go_upto_region 5 with fail
    go_cut [4] from 4 to 4 (fun s4 wx => Below w1.heap.size w1 wx ∧ s4 = .bool (goodCmd a0))
    case first =>
      have ya0 : w.heap.size < w1.heap.size := Xa0.out.lt
      have yh := HB1.out.size
      go_wp2_with (first
          | (go_at_call 33; (refine (toCommand_k (kCommand.K_below (HB1.out.trans (Below.mono (by repeat (first | assumption | (with_reducible exact Below.refl _ _) | (with_reducible refine below_call ?_ hc) | (with_reducible refine below_call ?_ hb0) | (with_reducible refine below_call ?_ hb) | (with_reducible refine Below.drew ?_) | (with_reducible refine below_alloc2 ?_ _))) HB1.out.size)).block G0.out) trivial).mono ?_; rintro e wt0 ⟨ds0, F0_, rfl, ra0, rb0, rc0, hb0⟩; have zs0 := hb0.size; (try simp at zs0)))
          | (go_at_call 32; (refine (sGoodCommand_k (kCommand.K_below ((by repeat (first | assumption | (with_reducible exact Below.refl _ _) | (with_reducible refine below_call ?_ hc) | (with_reducible refine below_call ?_ hb0) | (with_reducible refine below_call ?_ hb) | (with_reducible refine Below.drew ?_) | (with_reducible refine below_alloc2 ?_ _))) : Below _ _ _).block (kCommand.M_K ra0)) h0 (by have := trivial; exact this)).mono ?_; rintro e wz ⟨rfl, hc⟩; have zs_c := hc.size; (try simp at zs_c))))
      all_goals (go_meet; go_light)
      all_goals
        have K : Below w1.heap.size w1 wz := (by repeat (first | assumption | (with_reducible exact Below.refl _ _) | (with_reducible refine below_call ?_ hc) | (with_reducible refine below_call ?_ hb0) | (with_reducible refine below_call ?_ hb) | (with_reducible refine Below.drew ?_) | (with_reducible refine below_alloc2 ?_ _)))
        exact ⟨K, rfl⟩
    case rest =>
      rename World => w2
      obtain ⟨hb, rfl⟩ := hcut
      replace sz0 := Nat.le_trans sz0 hb.size
      have Ba0 := Xa0.out.below hb
      have HB2 := Lib.hid (HB1.out.trans (hb.mono HB1.out.size))
      clear Xa0 HB1 hb
      clear ba0_0 ba0_1 ba0_2 ba0_3 ba0_4 ba0_5
      have ba0_0 := Ba0.cell 0 (v := .int .i64 a0.fSession) rfl
      have ba0_1 := Ba0.cell 1 (v := .int .i64 a0.fN) rfl
      have ba0_2 := Ba0.cell 2 (v := .int .i64 a0.fOp) rfl
      have ba0_3 := Ba0.cell 3 (v := .string a0.fKey) rfl
      have ba0_4 := Ba0.cell 4 (v := .string a0.fValue) rfl
      have ba0_5 := Ba0.cell 5 (v := .string a0.fOld) rfl
      have Xa0 := Lib.hid Ba0
      clear Ba0
      go_upto_region 6 with fail
      go_cut [5] from 5 to 5 (fun s5 wx => Below w2.heap.size w2 wx ∧ s5 = .bool (goodCmd a0))
      case first =>
        have ya0 : w.heap.size < w2.heap.size := Xa0.out.lt
        have yh := HB2.out.size
        go_wp2_with (first
            | (go_at_call 33; (refine (toCommand_k (kCommand.K_below (HB2.out.trans (Below.mono (by repeat (first | assumption | (with_reducible exact Below.refl _ _) | (with_reducible refine below_call ?_ hc) | (with_reducible refine below_call ?_ hb0) | (with_reducible refine below_call ?_ hb) | (with_reducible refine Below.drew ?_) | (with_reducible refine below_alloc2 ?_ _))) HB2.out.size)).block G0.out) trivial).mono ?_; rintro e wt0 ⟨ds0, F0_, rfl, ra0, rb0, rc0, hb0⟩; have zs0 := hb0.size; (try simp at zs0)))
            | (go_at_call 34; (refine (iGoodCommand_k (kCommand.K_below ((by repeat (first | assumption | (with_reducible exact Below.refl _ _) | (with_reducible refine below_call ?_ hc) | (with_reducible refine below_call ?_ hb0) | (with_reducible refine below_call ?_ hb) | (with_reducible refine Below.drew ?_) | (with_reducible refine below_alloc2 ?_ _))) : Below _ _ _).block (kCommand.M_K ra0)) h0 (by have := trivial; exact this)).mono ?_; rintro e wz ⟨rfl, hc⟩; have zs_c := hc.size; (try simp at zs_c))))
        all_goals (go_meet; go_light)
        all_goals
          have K : Below w2.heap.size w2 wz := (by repeat (first | assumption | (with_reducible exact Below.refl _ _) | (with_reducible refine below_call ?_ hc) | (with_reducible refine below_call ?_ hb0) | (with_reducible refine below_call ?_ hb) | (with_reducible refine Below.drew ?_) | (with_reducible refine below_alloc2 ?_ _)))
          exact ⟨K, rfl⟩
      case rest =>
        rename World => w3
        obtain ⟨hb, rfl⟩ := hcut
        replace sz0 := Nat.le_trans sz0 hb.size
        have Ba0 := Xa0.out.below hb
        have HB3 := Lib.hid (HB2.out.trans (hb.mono HB2.out.size))
        clear Xa0 HB2 hb
        clear ba0_0 ba0_1 ba0_2 ba0_3 ba0_4 ba0_5
        have ba0_0 := Ba0.cell 0 (v := .int .i64 a0.fSession) rfl
        have ba0_1 := Ba0.cell 1 (v := .int .i64 a0.fN) rfl
        have ba0_2 := Ba0.cell 2 (v := .int .i64 a0.fOp) rfl
        have ba0_3 := Ba0.cell 3 (v := .string a0.fKey) rfl
        have ba0_4 := Ba0.cell 4 (v := .string a0.fValue) rfl
        have ba0_5 := Ba0.cell 5 (v := .string a0.fOld) rfl
        have Xa0 := Lib.hid Ba0
        clear Ba0
        go_wp2
        go_ret
        exact ⟨rfl, HB3.out⟩
end Go.Proofs.Ytfcodelfgjnkhaa
