/- The search in a row of chunks. -/
import Derived.Test.YtioelmhikablcaaGtE
namespace Go.Proofs.Ytioelmhikablcaa
open Go Go.RowKit Go.Sort
set_option linter.unusedVariables false
set_option linter.unusedSimpArgs false

theorem ch_at {w wr : World} {A : Option Addr} {xs : List DChunk} (h : kChunk.C w A xs) (hb : Below w.heap.size w wr) (k : Nat) (hk : k < xs.length) :
    ∃ b o, A = some ⟨b, o, none⟩ ∧ wr.cell? ⟨b, o + k * 4, none⟩ = some (.int .i64 xs[k].fFile) ∧ wr.cell? ⟨b, o + k * 4 + 1, none⟩ = some (.int .i64 xs[k].fAt) ∧ wr.cell? ⟨b, o + k * 4 + 2, none⟩ = some (.string xs[k].fData) ∧ wr.cell? ⟨b, o + k * 4 + 3, none⟩ = some (.int .u32 xs[k].fSum) := by
  obtain ⟨b, o, cs, rfl, k1, q1⟩ := Rp.C_get h k hk
  obtain rfl := kChunk_K k1
  have f := fun i v (hi : [Value.int .i64 xs[k].fFile, .int .i64 xs[k].fAt, .string xs[k].fData, .int .u32 xs[k].fSum][i]? = some v) => (World.cell?_of_block (hb.block b (World.block_lt_of_cell? w _ (q1 i _ hi)))).trans (q1 i _ hi)
  have a0 := f 0 _ rfl; have a1 := f 1 _ rfl; have a2 := f 2 _ rfl; have a3 := f 3 _ rfl
  simp only [kChunk_sz, Nat.add_zero] at a0 a1 a2 a3
  exact ⟨b, o, rfl, a0, a1, a2, a3⟩
def foundC (xs : List DChunk) (t : DChunk) (i : Nat) : Bool := match xs[i]? with
  | some z => ordC z t == 0
  | none => false
set_option maxHeartbeats 4000000 in
set_option maxRecDepth 100000 in
theorem bs_calls (xs : List DChunk) (t : DChunk) (v : Value) (w : World) (g : kChunk.S w xs v) (hl : xs.length ≤ 1048576) (hs : ∀ a b (hb : b < xs.length) (ha : a ≤ b), ordC xs[b] t < 0 → ordC (xs[a]'(by omega)) t < 0) :
    Calls Try.prog 172 #[v, .agg #[.int .i64 t.fFile, .int .i64 t.fAt, .string t.fData, .int .u32 t.fSum], .func (.func 171) #[] #[]] w
    fun e w' => ∃ i : Nat, e = .returned (.tuple #[.int .i64 i, .bool (foundC xs t i)]) ∧ i ≤ xs.length ∧ (∀ k (h : k < xs.length), k < i → ordC xs[k] t < 0) ∧ (∀ k (h : k < xs.length), i ≤ k → 0 ≤ ordC xs[k] t) ∧ Below w.heap.size w w' := by
  obtain ⟨A, c, rfl, hc, h⟩ := g
  have H := Lib.hid h; clear h
  have HS := Lib.hid hs; clear hs
  go_enter Try.func172, Try.ntmps172
  go_wp2
  go_loopw [9, 10] (fun s9 s10 wr => ∃ lo hi : Nat, s9 = .int .i64 lo ∧ s10 = .int .i64 hi ∧ lo ≤ hi ∧ hi ≤ xs.length ∧ Hid (∀ k (h : k < xs.length), k < lo → ordC xs[k] t < 0) ∧ Hid (∀ k (h : k < xs.length), hi ≤ k → 0 ≤ ordC xs[k] t) ∧ Hid (Below w.heap.size w wr) ∧ Hid (Box wr w.heap.size #[.int .i64 t.fFile, .int .i64 t.fAt, .string t.fData, .int .u32 t.fSum] 46)) (fun s9 s10 _ => (intOf s10 - intOf s9).toNat)
  case atStart => exact ⟨0, xs.length, rfl, rfl, Nat.zero_le _, Nat.le_refl _, fun k h h2 => absurd h2 (Nat.not_lt_zero _), fun k h h2 => absurd h (by omega), (Below.refl _ _).alloc (Nat.le_refl _) _, Box.new rfl⟩
  case round =>
    obtain ⟨lo, hi, rfl, rfl, hlh, hin, HL, HH, HB, X⟩ := hrel
    by_cases hlt : lo < hi
    · obtain ⟨m, hd, hm1, hm2⟩ : ∃ m : Nat, ((lo : Int) + (hi : Int)) / 2 = (m : Int) ∧ lo ≤ m ∧ m < hi := ⟨(lo + hi) / 2, by omega, by omega, by omega⟩
      have hm : m < xs.length := by omega
      obtain ⟨bx, ox, rfl, a0, a1, a2, a3⟩ := ch_at H.out HB.out m hm
      have x0 := X.out.cell 0 (v := .int .i64 t.fFile) rfl; have x1 := X.out.cell 1 (v := .int .i64 t.fAt) rfl; have x2 := X.out.cell 2 (v := .string t.fData) rfl; have x3 := X.out.cell 3 (v := .int .u32 t.fSum) rfl
      have HO := Lib.hid (show ∀ z, xs[m] = z → (ordC z t < 0 → ∀ k (h : k < xs.length), k < m + 1 → ordC xs[k] t < 0) ∧ (0 ≤ ordC z t → ∀ k (h : k < xs.length), m ≤ k → 0 ≤ ordC xs[k] t) from fun z hz => ⟨fun h k hk h2 => HS.out k _ hm (by omega) (by rw [hz]; exact h), fun h k hk h2 => by
        rcases Int.lt_or_le (ordC xs[k] t) 0 with h3 | h3
        · have := HS.out m k hk h2 h3
          rw [hz] at this
          omega
        · exact h3⟩)
      generalize hz : xs[m] = z at *
      have HZ := Lib.hid (HO.out z rfl)
      clear HO hz
      have c_o : ∀ W : World, Calls Try.prog 171 #[.agg #[.int .i64 z.fFile, .int .i64 z.fAt, .string z.fData, .int .u32 z.fSum], .agg #[.int .i64 t.fFile, .int .i64 t.fAt, .string t.fData, .int .u32 t.fSum]] W (fun e w' => e = .returned (.int .i64 (ordC z t)) ∧ Below W.heap.size W w') := fun W => iOrd_calls z t W
      by_cases hq : ordC z t < 0
      · generalize ordC z t = q at *
        go_upto_region 5 with fail
        have r0 := regr (Below.refl _ _) (World.block_lt_of_cell? wr _ a0) a0; have r1 := regr (Below.refl _ _) (World.block_lt_of_cell? wr _ a1) a1; have r2 := regr (Below.refl _ _) (World.block_lt_of_cell? wr _ a2) a2; have r3 := regr (Below.refl _ _) (World.block_lt_of_cell? wr _ a3) a3
        have y0 := regr (Below.refl _ _) X.out.lt x0; have y1 := regr (Below.refl _ _) X.out.lt x1; have y2 := regr (Below.refl _ _) X.out.lt x2; have y3 := regr (Below.refl _ _) X.out.lt x3
        have e1 : (m : Int) < (xs.length : Int) := by omega
        have e2 : (0 : Int) ≤ (m : Int) := by omega
        clear a0 a1 a2 a3 x0 x1 x2 x3
        refine wp_region_quiet_below (by kernel_rfl) (by kernel_rfl) ?_
        repeat (go_big_quiet_step (first | (with_reducible exact Calls.regrown_of (c_o _))))
        refine wpQuiet_nil ?_
        rintro w4 ⟨p, rfl⟩
        have hb := below_regrown wr p.d p.os
        have HB := Lib.hid (HB.out.trans (hb.mono HB.out.size)); have X := Lib.hid (X.out.below hb)
        clear r0 r1 r2 r3 y0 y1 y2 y3 hb
        generalize grow (redrawn wr p.d) p.os = w4 at *
        go_wp2
        exact ⟨⟨m + 1, hi, by go_num, rfl, by omega, hin, HZ.out.1 hq, HH.out, HB.out, X.out⟩, by simp [intOf]; omega⟩
      · generalize ordC z t = q at *
        go_upto_region 5 with fail
        have r0 := regr (Below.refl _ _) (World.block_lt_of_cell? wr _ a0) a0; have r1 := regr (Below.refl _ _) (World.block_lt_of_cell? wr _ a1) a1; have r2 := regr (Below.refl _ _) (World.block_lt_of_cell? wr _ a2) a2; have r3 := regr (Below.refl _ _) (World.block_lt_of_cell? wr _ a3) a3
        have y0 := regr (Below.refl _ _) X.out.lt x0; have y1 := regr (Below.refl _ _) X.out.lt x1; have y2 := regr (Below.refl _ _) X.out.lt x2; have y3 := regr (Below.refl _ _) X.out.lt x3
        have e1 : (m : Int) < (xs.length : Int) := by omega
        have e2 : (0 : Int) ≤ (m : Int) := by omega
        clear a0 a1 a2 a3 x0 x1 x2 x3
        refine wp_region_quiet_below (by kernel_rfl) (by kernel_rfl) ?_
        repeat (go_big_quiet_step (first | (with_reducible exact Calls.regrown_of (c_o _))))
        refine wpQuiet_nil ?_
        rintro w4 ⟨p, rfl⟩
        have hb := below_regrown wr p.d p.os
        have HB := Lib.hid (HB.out.trans (hb.mono HB.out.size)); have X := Lib.hid (X.out.below hb)
        clear r0 r1 r2 r3 y0 y1 y2 y3 hb
        generalize grow (redrawn wr p.d) p.os = w4 at *
        go_wp2
        exact ⟨⟨lo, m, rfl, by go_num, by omega, by omega, HL.out, HZ.out.2 (by omega), HB.out, X.out⟩, by simp [intOf]; omega⟩
    · obtain rfl : lo = hi := by omega
      by_cases hend : lo < xs.length
      · obtain ⟨bx, ox, rfl, a0, a1, a2, a3⟩ := ch_at H.out HB.out lo hend
        have HF := Lib.hid (show foundC xs t lo = (ordC xs[lo] t == 0) by rw [foundC, List.getElem?_eq_getElem hend])
        generalize xs[lo] = z at *
        have c_o : ∀ W : World, Calls Try.prog 171 #[.agg #[.int .i64 z.fFile, .int .i64 z.fAt, .string z.fData, .int .u32 z.fSum], .agg #[.int .i64 t.fFile, .int .i64 t.fAt, .string t.fData, .int .u32 t.fSum]] W (fun e w' => e = .returned (.int .i64 (ordC z t)) ∧ Below W.heap.size W w') := fun W => iOrd_calls z t W
        generalize ordC z t = q at *
        have r0 := regr (Below.refl _ _) (World.block_lt_of_cell? wr _ a0) a0; have r1 := regr (Below.refl _ _) (World.block_lt_of_cell? wr _ a1) a1; have r2 := regr (Below.refl _ _) (World.block_lt_of_cell? wr _ a2) a2; have r3 := regr (Below.refl _ _) (World.block_lt_of_cell? wr _ a3) a3
        have x0 := regr (Below.refl _ _) X.out.lt (X.out.cell 0 (v := .int .i64 t.fFile) rfl); have x1 := regr (Below.refl _ _) X.out.lt (X.out.cell 1 (v := .int .i64 t.fAt) rfl); have x2 := regr (Below.refl _ _) X.out.lt (X.out.cell 2 (v := .string t.fData) rfl); have x3 := regr (Below.refl _ _) X.out.lt (X.out.cell 3 (v := .int .u32 t.fSum) rfl)
        clear a0 a1 a2 a3
        have e1 : (lo : Int) < (xs.length : Int) := by omega
        have e2 : (0 : Int) ≤ (lo : Int) := by omega
        go_upto_region 8 with fail
        refine wp_region_quiet_below (by kernel_rfl) (by kernel_rfl) ?_
        repeat (go_big_quiet_step (first | (with_reducible exact Calls.regrown_of (c_o _))))
        refine wpQuiet_nil ?_
        rintro w4 ⟨p, rfl⟩
        have hb := below_regrown wr p.d p.os
        have HB := Lib.hid (HB.out.trans (hb.mono HB.out.size))
        clear r0 r1 r2 r3 x0 x1 x2 x3 hb
        generalize grow (redrawn wr p.d) p.os = w4 at *
        go_wp2
        go_ret2
        exact ⟨lo, by rw [HF.out]; rfl, hin, HL.out, HH.out, HB.out⟩
      · have HF := Lib.hid (show foundC xs t lo = false by rw [foundC, List.getElem?_eq_none (by omega)])
        have e1 : ¬ (lo : Int) < (xs.length : Int) := by omega
        go_upto_region 8 with fail
        refine wp_region_quiet_below (by kernel_rfl) (by kernel_rfl) ?_
        repeat (go_big_quiet_step (fail))
        refine wpQuiet_nil ?_
        rintro w4 ⟨p, rfl⟩
        have hb := below_regrown wr p.d p.os
        have HB := Lib.hid (HB.out.trans (hb.mono HB.out.size))
        clear hb
        generalize grow (redrawn wr p.d) p.os = w4 at *
        go_wp2
        go_ret2
        exact ⟨lo, by rw [HF.out]; rfl, hin, HL.out, HH.out, HB.out⟩
end Go.Proofs.Ytioelmhikablcaa
