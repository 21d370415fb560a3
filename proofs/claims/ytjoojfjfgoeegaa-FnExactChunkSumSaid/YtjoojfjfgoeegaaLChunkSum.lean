/- Law FnExactChunkSum: at every input it returns true; what was there stays. -/
import Derived.Test.YtjoojfjfgoeegaaCrc
namespace Go.Proofs.Ytjoojfjfgoeegaa
open Go Go.RowKit Go.Sort
set_option linter.unusedVariables false
set_option linter.unusedSimpArgs false

set_option maxHeartbeats 4000000 in
set_option maxRecDepth 100000 in
theorem law_ChunkSum (a0 : Int) (a1 : Int) (a2 : ByteArray) (w : World) (h0 : (Lit.int .i64 a0).wf = true) (h1 : (Lit.int .i64 a1).wf = true) : Calls Try.prog 3 #[.int .i64 a0, .int .i64 a1, .string a2] w
    fun e w' => e = .returned (.bool true) ∧ Below w.heap.size w w' := by
  by_cases s2 : a2.size ≤ 1048576
  case neg =>
    go_enter Try.func3, Try.ntmps3
    go_wp2
    go_ret
    exact ⟨rfl, (by repeat (first | (with_reducible exact Below.refl _ _) | (with_reducible refine Below.alloc ?_ (by first | (with_reducible exact Nat.le_refl _) | (simp; done) | (simp; omega)) _)))⟩
  case pos =>
    go_enter Try.func3, Try.ntmps3
    have HB0 := Lib.hid (Below.refl w.heap.size w)
    have sz0 : w.heap.size ≤ w.heap.size := Nat.le_refl _
    go_upto_region 3 with fail
    go_cut [7] from 7 to 7 (fun s7 wx => Below w.heap.size w wx ∧ s7 = .int .u32 (chS a0 a1 a2))
    case first =>
      have yh := HB0.out.size
      go_wp2_with (first
          | (go_at_call 12; (refine (sChunkSum_k h0 h1 s2).mono ?_; rintro e wz ⟨rfl, hc⟩; have zs_c := hc.size; (try simp at zs_c))))
      all_goals (go_meet; go_light)
      all_goals
        have K : Below w.heap.size w wz := (by repeat (first | assumption | (with_reducible exact Below.refl _ _) | (with_reducible refine below_call ?_ hc) | (with_reducible refine below_call ?_ hb0) | (with_reducible refine below_call ?_ hb1) | (with_reducible refine below_call ?_ hb2) | (with_reducible refine below_call ?_ hb) | (with_reducible refine Below.drew ?_) | (with_reducible refine below_alloc2 ?_ _)))
        exact ⟨K, rfl⟩
    case rest =>
      rename World => w1
      obtain ⟨hb, rfl⟩ := hcut
      replace sz0 := Nat.le_trans sz0 hb.size
      have HB1 := Lib.hid (HB0.out.trans (hb.mono HB0.out.size))
      clear HB0 hb
      go_upto_region 4 with fail
      go_cut [8] from 8 to 8 (fun s8 wx => Below w1.heap.size w1 wx ∧ s8 = .int .u32 (chS a0 a1 a2))
      case first =>
        have yh := HB1.out.size
        go_wp2_with (first
            | (go_at_call 13; (refine (iChunkSum_k h0 h1 s2).mono ?_; rintro e wz ⟨rfl, hc⟩; have zs_c := hc.size; (try simp at zs_c))))
        all_goals (go_meet; go_light)
        all_goals
          have K : Below w1.heap.size w1 wz := (by repeat (first | assumption | (with_reducible exact Below.refl _ _) | (with_reducible refine below_call ?_ hc) | (with_reducible refine below_call ?_ hb0) | (with_reducible refine below_call ?_ hb1) | (with_reducible refine below_call ?_ hb2) | (with_reducible refine below_call ?_ hb) | (with_reducible refine Below.drew ?_) | (with_reducible refine below_alloc2 ?_ _)))
          exact ⟨K, rfl⟩
      case rest =>
        rename World => w2
        obtain ⟨hb, rfl⟩ := hcut
        replace sz0 := Nat.le_trans sz0 hb.size
        have HB2 := Lib.hid (HB1.out.trans (hb.mono HB1.out.size))
        clear HB1 hb
        go_wp2
        go_ret
        exact ⟨rfl, HB2.out⟩
end Go.Proofs.Ytjoojfjfgoeegaa
