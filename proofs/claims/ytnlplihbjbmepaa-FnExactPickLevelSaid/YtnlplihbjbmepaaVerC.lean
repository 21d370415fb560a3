/- Versions: the level that is picked. -/
import Derived.Test.YtnlplihbjbmepaaVerB
namespace Go.Proofs.Ytnlplihbjbmepaa
open Go Go.RowKit Go.Sort
set_option linter.unusedVariables false
set_option linter.unusedSimpArgs false

def onL (lv : Int) (m : DMeta) : Bool := decide (m.fLevel = lv)
def moreL (xs : List DMeta) (lv : Int) : Int := -2 - 2 * lv + xs.countP (onL lv)
def pickAt (xs : List DMeta) : Nat → Int × Int
  | 0 => (0, 0)
  | k + 1 => if (pickAt xs k).2 < moreL xs k then (k, moreL xs k) else pickAt xs k
def pickB (x : DVersion) : Bool := goodVer x && decide (0 < (pickAt x.fMetas 3).2)
def pickV (x : DVersion) : Int := if pickB x then (pickAt x.fMetas 3).1 else 0
theorem pickAt_zero (xs : List DMeta) : ∀ k, 0 < (pickAt xs k).2 ∨ pickAt xs k = (0, 0)
  | 0 => .inr rfl
  | k + 1 => by
    unfold pickAt
    split
    · rename_i h
      rcases pickAt_zero xs k with h1 | h1
      · left; simp; omega
      · left; rw [h1] at h; exact h
    · exact pickAt_zero xs k
theorem countP_take {p : DMeta → Bool} {xs : List DMeta} {k : Nat} (h : k < xs.length) : (xs.take (k + 1)).countP p = (xs.take k).countP p + (if p xs[k] then 1 else 0) := by
  rw [List.take_add_one, List.getElem?_eq_getElem h, List.countP_append]
  simp [List.countP_cons]
theorem moreL_le (xs : List DMeta) (lv : Int) (h : 0 ≤ lv) : moreL xs lv ≤ xs.length := by
  have := List.countP_le_length (p := onL lv) (l := xs)
  unfold moreL
  omega
theorem moreL_ge (xs : List DMeta) (lv : Int) (h : lv ≤ 3) : -8 ≤ moreL xs lv := by
  unfold moreL
  omega
theorem pickAt_in (xs : List DMeta) : ∀ k, 0 ≤ (pickAt xs k).2 ∧ (pickAt xs k).2 ≤ xs.length ∧ 0 ≤ (pickAt xs k).1 ∧ (pickAt xs k).1 ≤ k
  | 0 => by simp [pickAt]
  | k + 1 => by
    have h1 := pickAt_in xs k
    have h2 := moreL_le xs k (by omega)
    unfold pickAt
    split
    · rename_i h
      simp
      omega
    · omega
theorem pickAt_step (xs : List DMeta) (k : Nat) : pickAt xs (k + 1) = if (pickAt xs k).2 < moreL xs k then ((k : Int), moreL xs k) else pickAt xs k := rfl

set_option maxHeartbeats 4000000 in
set_option maxRecDepth 100000 in
theorem iPickLevel_calls (x : DVersion) (v2 : Value) (w : World) (g2 : kMeta.S w x.fMetas v2) (hl : x.fMetas.length ≤ 1048576) : Calls Try.prog 22 #[.agg #[.int .i64 x.fNext, .int .i64 x.fSeq, v2]] w
    fun e w' => e = .returned (.tuple #[.int .i64 (pickV x), .bool (pickB x)]) ∧ Below w.heap.size w w' := by
  have G := Lib.hid g2
  obtain ⟨A, c, rfl, hc, h⟩ := g2
  have H := Lib.hid h; clear h
  go_enter Try.func22, Try.ntmps22
  go_wp2_with fail
  (with_reducible refine (iGoodVersion_calls x _ _ (Rp.S_below G.out ((Below.refl _ _).alloc (Nat.le_refl _) _)) (by omega)).mono ?_)
  rintro e w1 ⟨rfl, hb⟩
  have B0 : Box w1 w.heap.size #[.int .i64 x.fNext, .int .i64 x.fSeq, .slice A x.fMetas.length c] 24 := Box.below (Box.new rfl) hb
  have HB := Lib.hid (Below.trans ((Below.refl w.heap.size w).alloc (Nat.le_refl _) _) (hb.mono (by simp)))
  have HX := Lib.hid B0; clear B0 hb
  cases hg : goodVer x
  · have HG := Lib.hid hg; clear hg
    go_wp2
    exact bodyPost_ret (v := .tuple #[.int .i64 0, .bool false]) (by simp [results, Try.results22, go_sem]) rfl ⟨by rw [pickV, pickB, HG.out]; rfl, HB.out⟩
  · have HG := Lib.hid hg; clear hg
    go_wp2
    go_loopw [4, 5, 13] (fun be mo i wr => ∃ k : Nat, k ≤ 3 ∧ i = .int .i64 k ∧ be = .int .i64 (pickAt x.fMetas k).1 ∧ mo = .int .i64 (pickAt x.fMetas k).2 ∧ Hid (Below w.heap.size w wr) ∧ Hid (Box wr w.heap.size #[.int .i64 x.fNext, .int .i64 x.fSeq, .slice A x.fMetas.length c] 24)) (fun _ _ i _ => 3 - (intOf i).toNat)
    case atStart => exact ⟨0, by omega, rfl, rfl, rfl, HB.out, HX.out⟩
    case round =>
      clear HB HX
      obtain ⟨k, hk, rfl, rfl, rfl, HB, HX⟩ := hrel
      by_cases hlt : k < 3
      · have b1 := pickAt_in x.fMetas k
        have b2 := moreL_le x.fMetas k (by omega)
        have b3 := moreL_ge x.fMetas k (by omega)
        have hst := pickAt_step x.fMetas k
        have i1 : (0 : Int) ≤ (k : Int) := by omega
        have i2 : (k : Int) < 3 := by omega
        have e2 := HX.out.cell 2 (v := .slice A x.fMetas.length c) rfl
        have HST := Lib.hid hst; clear hst
        generalize hpk : pickAt x.fMetas k = pk at *
        obtain ⟨p1, p2⟩ := pk
        simp only at b1
        have HPK := Lib.hid hpk; clear hpk
        go_wp2
        rename World => wo
        go_loopw [7, 22] (fun mo j wr => ∃ m : Nat, m ≤ x.fMetas.length ∧ j = .int .i64 m ∧ mo = .int .i64 (-2 - 2 * (k : Int) + ((x.fMetas.take m).countP (onL k) : Nat)) ∧ Hid (Below w.heap.size w wr) ∧ Hid (Box wr w.heap.size #[.int .i64 x.fNext, .int .i64 x.fSeq, .slice A x.fMetas.length c] 24)) (fun _ j _ => x.fMetas.length - (intOf j).toNat)
        case atStart => exact ⟨0, Nat.zero_le _, rfl, by simp, HB.out, HX.out⟩
        case round =>
          clear HB HX e2
          obtain ⟨m, hm, rfl, rfl, HB, HX⟩ := hrel
          have hcl := List.countP_le_length (p := onL k) (l := x.fMetas.take m)
          rw [List.length_take] at hcl
          by_cases hlm : m < x.fMetas.length
          · obtain ⟨b, o, cs, rfl, k1, q1⟩ := Rp.C_get H.out m hlm
            obtain rfl := kMeta_K k1
            have hct := countP_take (p := onL k) hlm
            generalize x.fMetas[m] = z at *
            have d0 := (World.cell?_of_block (HB.out.block b (World.block_lt_of_cell? w _ (q1 0 _ rfl)))).trans (q1 0 _ rfl)
            have d1 := (World.cell?_of_block (HB.out.block b (World.block_lt_of_cell? w _ (q1 1 _ rfl)))).trans (q1 1 _ rfl)
            have d2 := (World.cell?_of_block (HB.out.block b (World.block_lt_of_cell? w _ (q1 2 _ rfl)))).trans (q1 2 _ rfl)
            have d3 := (World.cell?_of_block (HB.out.block b (World.block_lt_of_cell? w _ (q1 3 _ rfl)))).trans (q1 3 _ rfl)
            simp only [kMeta_sz, Nat.add_zero] at d0 d1 d2 d3
            clear q1 k1
            have j1 : (0 : Int) ≤ (m : Int) := by omega
            have j2 : (m : Int) < (x.fMetas.length : Int) := by omega
            have HCT := Lib.hid hct; clear hct
            have HB1 := Lib.hid (HB.out.alloc HB.out.size (.cells #[.int .i64 z.fNumber, .int .i64 z.fLevel, .string z.fLeast, .string z.fMost] 82))
            have HX1 := Lib.hid (Box.alloc (o := .cells #[.int .i64 z.fNumber, .int .i64 z.fLevel, .string z.fLeast, .string z.fMost] 82) HX.out)
            generalize hcc : (x.fMetas.take m).countP (onL k) = cc at *
            by_cases hz : z.fLevel = (k : Int)
            · have ho : onL k z = true := by simp [onL, hz]
              have HO := Lib.hid ho; clear ho
              have hz2 := HB1.out; have hz3 := HX1.out
              rw [hz] at hz2 hz3
              have HB1 := Lib.hid hz2; have HX1 := Lib.hid hz3
              clear hz2 hz3
              go_wp2
              exact ⟨⟨m + 1, by omega, by go_num, by rw [HCT.out, HO.out]; go_num, HB1.out, HX1.out⟩, by simp [intOf]; omega⟩
            · have ho : onL k z = false := by simp [onL, hz]
              have HO := Lib.hid ho; clear ho
              go_wp2
              exact ⟨⟨m + 1, by omega, by go_num, by rw [HCT.out, HO.out]; simp, HB1.out, HX1.out⟩, by simp [intOf]; omega⟩
          · obtain rfl : m = x.fMetas.length := by omega
            rw [List.take_length] at hcl ⊢
            have hmo : -2 - 2 * (k : Int) + (x.fMetas.countP (onL k) : Nat) = moreL x.fMetas k := rfl
            rw [hmo]
            clear hmo hcl
            generalize hml : moreL x.fMetas k = ml at *
            by_cases hgt : p2 < ml
            · go_wp2
              exact ⟨⟨k + 1, by omega, by go_num, by rw [HST.out, if_pos hgt], by rw [HST.out, if_pos hgt], HB.out, HX.out⟩, by simp [intOf]; omega⟩
            · go_wp2
              exact ⟨⟨k + 1, by omega, by go_num, by rw [HST.out, if_neg (by omega)], by rw [HST.out, if_neg (by omega)], HB.out, HX.out⟩, by simp [intOf]; omega⟩
      · obtain rfl : k = 3 := by omega
        go_wp2
        refine bodyPost_ret (v := .tuple #[.int .i64 (pickAt x.fMetas 3).1, .bool (decide (0 < (pickAt x.fMetas 3).2))]) (by simp [results, Try.results22, go_sem]) rfl ⟨?_, HB.out⟩
        rw [pickV, pickB, HG.out, Bool.true_and]
        rcases pickAt_zero x.fMetas 3 with hp | hp
        · rw [decide_eq_true hp, if_pos rfl]
        · rw [hp]; rfl
set_option maxHeartbeats 4000000 in
set_option maxRecDepth 100000 in
theorem sPick_calls (x : DVersion) (v2 : Value) (w : World) (g2 : kMeta.S w x.fMetas v2) (hl : x.fMetas.length ≤ 1048576) : Calls Try.prog 60 #[.agg #[.int .i64 x.fNext, .int .i64 x.fSeq, v2]] w
    fun e w' => e = .returned (.tuple #[.int .i64 (pickAt x.fMetas 3).1, .bool (decide (0 < (pickAt x.fMetas 3).2))]) ∧ Below w.heap.size w w' := by
  obtain ⟨A, c, rfl, hc, h⟩ := g2
  have H := Lib.hid h; clear h
  have HX : Hid (Box (w.alloc (.cells #[.int .i64 x.fNext, .int .i64 x.fSeq, .slice A x.fMetas.length c] 24)) w.heap.size #[.int .i64 x.fNext, .int .i64 x.fSeq, .slice A x.fMetas.length c] 24) := Box.new rfl
  have HB := Lib.hid ((Below.refl w.heap.size w).alloc (Nat.le_refl _) (.cells #[.int .i64 x.fNext, .int .i64 x.fSeq, .slice A x.fMetas.length c] 24))
  go_enter Try.func60, Try.ntmps60
  go_wp2
  go_loopw [4, 5, 6] (fun be mo i wr => ∃ k : Nat, k ≤ 3 ∧ i = .int .i64 k ∧ be = .int .i64 (pickAt x.fMetas k).1 ∧ mo = .int .i64 (pickAt x.fMetas k).2 ∧ Hid (Below w.heap.size w wr) ∧ Hid (Box wr w.heap.size #[.int .i64 x.fNext, .int .i64 x.fSeq, .slice A x.fMetas.length c] 24)) (fun _ _ i _ => 3 - (intOf i).toNat)
  case atStart => exact ⟨0, by omega, rfl, rfl, rfl, HB.out, HX.out⟩
  case round =>
    clear HB HX
    obtain ⟨k, hk, rfl, rfl, rfl, HB, HX⟩ := hrel
    by_cases hlt : k < 3
    · have b1 := pickAt_in x.fMetas k
      have b2 := moreL_le x.fMetas k (by omega)
      have b3 := moreL_ge x.fMetas k (by omega)
      have hst := pickAt_step x.fMetas k
      have i1 : (0 : Int) ≤ (k : Int) := by omega
      have i2 : (k : Int) < 3 := by omega
      have e2 := HX.out.cell 2 (v := .slice A x.fMetas.length c) rfl
      have HST := Lib.hid hst; clear hst
      generalize hpk : pickAt x.fMetas k = pk at *
      obtain ⟨p1, p2⟩ := pk
      simp only at b1
      have HPK := Lib.hid hpk; clear hpk
      go_wp2
      rename World => wo
      go_loopw [7, 20] (fun mo j wr => ∃ m : Nat, m ≤ x.fMetas.length ∧ j = .int .i64 m ∧ mo = .int .i64 (-2 - 2 * (k : Int) + ((x.fMetas.take m).countP (onL k) : Nat)) ∧ Hid (Below w.heap.size w wr) ∧ Hid (Box wr w.heap.size #[.int .i64 x.fNext, .int .i64 x.fSeq, .slice A x.fMetas.length c] 24)) (fun _ j _ => x.fMetas.length - (intOf j).toNat)
      case atStart => exact ⟨0, Nat.zero_le _, rfl, by simp, HB.out, HX.out⟩
      case round =>
        clear HB HX e2
        obtain ⟨m, hm, rfl, rfl, HB, HX⟩ := hrel
        have hcl := List.countP_le_length (p := onL k) (l := x.fMetas.take m)
        rw [List.length_take] at hcl
        by_cases hlm : m < x.fMetas.length
        · obtain ⟨b, o, cs, rfl, k1, q1⟩ := Rp.C_get H.out m hlm
          obtain rfl := kMeta_K k1
          have hct := countP_take (p := onL k) hlm
          generalize x.fMetas[m] = z at *
          have d0 := (World.cell?_of_block (HB.out.block b (World.block_lt_of_cell? w _ (q1 0 _ rfl)))).trans (q1 0 _ rfl)
          have d1 := (World.cell?_of_block (HB.out.block b (World.block_lt_of_cell? w _ (q1 1 _ rfl)))).trans (q1 1 _ rfl)
          have d2 := (World.cell?_of_block (HB.out.block b (World.block_lt_of_cell? w _ (q1 2 _ rfl)))).trans (q1 2 _ rfl)
          have d3 := (World.cell?_of_block (HB.out.block b (World.block_lt_of_cell? w _ (q1 3 _ rfl)))).trans (q1 3 _ rfl)
          simp only [kMeta_sz, Nat.add_zero] at d0 d1 d2 d3
          clear q1 k1
          have j1 : (0 : Int) ≤ (m : Int) := by omega
          have j2 : (m : Int) < (x.fMetas.length : Int) := by omega
          have HCT := Lib.hid hct; clear hct
          have HB1 := Lib.hid (HB.out.alloc HB.out.size (.cells #[.int .i64 z.fNumber, .int .i64 z.fLevel, .string z.fLeast, .string z.fMost] 82))
          have HX1 := Lib.hid (Box.alloc (o := .cells #[.int .i64 z.fNumber, .int .i64 z.fLevel, .string z.fLeast, .string z.fMost] 82) HX.out)
          generalize hcc : (x.fMetas.take m).countP (onL k) = cc at *
          by_cases hz : z.fLevel = (k : Int)
          · have ho : onL k z = true := by simp [onL, hz]
            have HO := Lib.hid ho; clear ho
            have hz2 := HB1.out; have hz3 := HX1.out
            rw [hz] at hz2 hz3
            have HB1 := Lib.hid hz2; have HX1 := Lib.hid hz3
            clear hz2 hz3
            go_wp2
            exact ⟨⟨m + 1, by omega, by go_num, by rw [HCT.out, HO.out]; go_num, HB1.out, HX1.out⟩, by simp [intOf]; omega⟩
          · have ho : onL k z = false := by simp [onL, hz]
            have HO := Lib.hid ho; clear ho
            go_wp2
            exact ⟨⟨m + 1, by omega, by go_num, by rw [HCT.out, HO.out]; simp, HB1.out, HX1.out⟩, by simp [intOf]; omega⟩
        · obtain rfl : m = x.fMetas.length := by omega
          rw [List.take_length] at hcl ⊢
          have hmo : -2 - 2 * (k : Int) + (x.fMetas.countP (onL k) : Nat) = moreL x.fMetas k := rfl
          rw [hmo]
          clear hmo hcl
          generalize hml : moreL x.fMetas k = ml at *
          by_cases hgt : p2 < ml
          · go_wp2
            exact ⟨⟨k + 1, by omega, by go_num, by rw [HST.out, if_pos hgt], by rw [HST.out, if_pos hgt], HB.out, HX.out⟩, by simp [intOf]; omega⟩
          · go_wp2
            exact ⟨⟨k + 1, by omega, by go_num, by rw [HST.out, if_neg (by omega)], by rw [HST.out, if_neg (by omega)], HB.out, HX.out⟩, by simp [intOf]; omega⟩
    · obtain rfl : k = 3 := by omega
      go_wp2
      exact bodyPost_ret (v := .tuple #[.int .i64 (pickAt x.fMetas 3).1, .bool (decide (0 < (pickAt x.fMetas 3).2))]) (by simp [results, Try.results60, go_sem]) rfl ⟨rfl, HB.out⟩
set_option maxHeartbeats 4000000 in
set_option maxRecDepth 100000 in
theorem sPickLevel_calls (x : DVersion) (v2 : Value) (w : World) (g2 : kMeta.S w x.fMetas v2) (hl : x.fMetas.length ≤ 1048576) : Calls Try.prog 21 #[.agg #[.int .i64 x.fNext, .int .i64 x.fSeq, v2]] w
    fun e w' => e = .returned (.tuple #[.int .i64 (pickV x), .bool (pickB x)]) ∧ Below w.heap.size w w' := by
  have G := Lib.hid g2
  clear g2
  go_enter Try.func21, Try.ntmps21
  go_wp2_with fail
  (with_reducible refine (sGoodVersion_calls x _ _ (Rp.S_below G.out ((Below.refl _ _).alloc (Nat.le_refl _) _)) (by omega)).mono ?_)
  rintro e w1 ⟨rfl, hb⟩
  have B0 : Box w1 w.heap.size #[.int .i64 x.fNext, .int .i64 x.fSeq, v2] 24 := Box.below (Box.new rfl) hb
  have HB := Lib.hid (Below.trans ((Below.refl w.heap.size w).alloc (Nat.le_refl _) _) (hb.mono (by simp)))
  have e0 := B0.cell 0 (v := .int .i64 x.fNext) rfl
  have e1 := B0.cell 1 (v := .int .i64 x.fSeq) rfl
  have e2 := B0.cell 2 (v := v2) rfl
  clear B0 hb
  cases hg : goodVer x
  · have HG := Lib.hid hg; clear hg
    go_wp2
    exact bodyPost_ret (v := .tuple #[.int .i64 0, .bool false]) (by simp [results, Try.results21, go_sem]) rfl ⟨by rw [pickV, pickB, HG.out]; rfl, HB.out⟩
  · have HG := Lib.hid hg; clear hg
    go_wp2_with fail
    (with_reducible refine (sPick_calls x v2 _ (Rp.S_below G.out HB.out) hl).mono ?_)
    rintro e w2 ⟨rfl, hb⟩
    have HB2 := Lib.hid (HB.out.trans (hb.mono HB.out.size))
    clear hb
    rcases pickAt_zero x.fMetas 3 with hp | hp
    · have HV := Lib.hid (show pickV x = (pickAt x.fMetas 3).1 by rw [pickV, pickB, HG.out, Bool.true_and, decide_eq_true hp, if_pos rfl])
      have HP := Lib.hid (show pickB x = true by rw [pickB, HG.out, Bool.true_and, decide_eq_true hp])
      rw [decide_eq_true hp]
      clear hp
      go_wp2
      exact bodyPost_ret (v := .tuple #[.int .i64 (pickAt x.fMetas 3).1, .bool true]) (by simp [results, Try.results21, go_sem]) rfl ⟨by rw [HV.out, HP.out], HB2.out⟩
    · have HV := Lib.hid (show pickV x = 0 by rw [pickV, pickB, HG.out, Bool.true_and, hp]; rfl)
      have HP := Lib.hid (show pickB x = false by rw [pickB, HG.out, Bool.true_and, hp]; rfl)
      rw [hp]
      clear hp
      go_wp2
      exact bodyPost_ret (v := .tuple #[.int .i64 0, .bool false]) (by simp [results, Try.results21, go_sem]) rfl ⟨by rw [HV.out, HP.out], HB2.out⟩
theorem sPickLevel_k {x : DVersion} {c0 : List Value} {w : World} (k0 : kVersion.K w x c0) (h0 : wfVersion x) (s0 : smVersion 1048576 x) : Calls Try.prog 21 #[.agg c0.toArray] w
    fun e w' => e = .returned (.tuple #[.int .i64 (pickV x), .bool (pickB x)]) ∧ Below w.heap.size w w' := by
  obtain ⟨v2, rfl, g2⟩ := kVersion_read k0
  exact sPickLevel_calls x v2 w g2 s0
theorem iPickLevel_k {x : DVersion} {c0 : List Value} {w : World} (k0 : kVersion.K w x c0) (h0 : wfVersion x) (s0 : smVersion 1048576 x) : Calls Try.prog 22 #[.agg c0.toArray] w
    fun e w' => e = .returned (.tuple #[.int .i64 (pickV x), .bool (pickB x)]) ∧ Below w.heap.size w w' := by
  obtain ⟨v2, rfl, g2⟩ := kVersion_read k0
  exact iPickLevel_calls x v2 w g2 s0
end Go.Proofs.Ytnlplihbjbmepaa
