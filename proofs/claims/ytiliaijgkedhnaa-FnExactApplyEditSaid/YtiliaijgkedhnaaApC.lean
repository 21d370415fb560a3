/- Where a number is. -/
import Derived.Test.YtiliaijgkedhnaaApP
import Derived.Test.YtiliaijgkedhnaaVerB
namespace Go.Proofs.Ytiliaijgkedhnaa
open Go Go.RowKit Go.Sort
set_option linter.unusedVariables false
set_option linter.unusedSimpArgs false

def atI (l : List DMeta) (n : Int) : Int := if atN l n < l.length then (atN l n : Int) else -1
theorem atI_at {l : List DMeta} {n : Int} {k : Nat} (h : k < l.length) (h1 : (l.take k).any (fun m => m.fNumber == n) = false) (h2 : (l[k].fNumber == n) = true) : atI l n = (k : Int) := by
  have h3 : atN l n = k := by
    unfold atN
    rw [List.findIdx_eq h]
    refine ⟨h2, fun j hj => ?_⟩
    rw [List.any_eq_false] at h1
    have := h1 l[j] (List.mem_take_iff_getElem.2 ⟨j, by omega, rfl⟩)
    simpa using this
  rw [atI, h3, if_pos h]
theorem atI_no {l : List DMeta} {n : Int} (h1 : l.any (fun m => m.fNumber == n) = false) : atI l n = -1 := by
  rw [atI, if_neg]
  rw [at_in]
  rintro ⟨m, hm, hp⟩
  rw [List.any_eq_false] at h1
  exact h1 m hm (by simpa using hp)
set_option maxHeartbeats 4000000 in
set_option maxRecDepth 100000 in
theorem cloAt_calls (n : Int) (y : DMeta) (g : Nat) (w : World) (c0 : w.cell? ⟨g, 0, none⟩ = some (.int .i64 n)) :
    Calls Try.prog 46 #[.agg #[.int .i64 y.fNumber, .int .i64 y.fLevel, .string y.fLeast, .string y.fMost], .pointer (some ⟨g, 0, none⟩)] w fun e w' => e = .returned (.bool (y.fNumber == n)) ∧ Below w.heap.size w w' := by
  have hg1 := World.block_lt_of_cell? w _ c0
  go_enter Try.func46, Try.ntmps46
  go_wp2
  go_ret
  exact ⟨rfl, (Below.refl _ _).alloc (Nat.le_refl _) _⟩
set_option maxHeartbeats 4000000 in
set_option maxRecDepth 100000 in
theorem idxAt_calls (n : Int) (xs : List DMeta) (v : Value) (g : Nat) (w : World) (gs : kMeta.S w xs v) (hl : xs.length ≤ 140737488355328) (c0 : w.cell? ⟨g, 0, none⟩ = some (.int .i64 n)) :
    Calls Try.prog 45 #[v, .func (.func 46) #[] #[.pointer (some ⟨g, 0, none⟩)]] w
    fun e w' => e = .returned (.int .i64 (atI xs n)) ∧ Below w.heap.size w w' := by
  obtain ⟨A, c, rfl, hc, h⟩ := gs
  have H := Lib.hid h; clear h
  have C0 := Lib.hid c0
  clear c0
  go_enter Try.func45, Try.ntmps45
  go_wp2
  go_loopw [8] (fun i wr => ∃ k : Nat, k ≤ xs.length ∧ i = .int .i64 k ∧ Hid ((xs.take k).any (fun m => m.fNumber == n) = false) ∧ Hid (Below w.heap.size w wr)) (fun i _ => xs.length - (intOf i).toNat)
  case atStart => exact ⟨0, Nat.zero_le _, rfl, rfl, Below.refl _ _⟩
  case round =>
    obtain ⟨k, hk, rfl, HE, HB⟩ := hrel
    by_cases hlt : k < xs.length
    · obtain ⟨b, o, cs, rfl, k1, q1⟩ := Rp.C_get H.out k hlt
      obtain rfl := kMeta_K k1
      have hany := any_take (p := fun m : DMeta => m.fNumber == n) hlt
      rw [HE.out, Bool.false_or] at hany
      have HAT := Lib.hid (fun h => atI_at (n := n) hlt HE.out h)
      generalize he : xs[k] = y at *
      clear he
      have HA := Lib.hid hany; clear hany HE
      have a0 := (World.cell?_of_block (HB.out.block b (World.block_lt_of_cell? w _ (q1 0 _ rfl)))).trans (q1 0 _ rfl)
      have a1 := (World.cell?_of_block (HB.out.block b (World.block_lt_of_cell? w _ (q1 1 _ rfl)))).trans (q1 1 _ rfl)
      have a2 := (World.cell?_of_block (HB.out.block b (World.block_lt_of_cell? w _ (q1 2 _ rfl)))).trans (q1 2 _ rfl)
      have a3 := (World.cell?_of_block (HB.out.block b (World.block_lt_of_cell? w _ (q1 3 _ rfl)))).trans (q1 3 _ rfl)
      simp only [kMeta_sz, Nat.add_zero] at a0 a1 a2 a3
      clear q1 k1
      have i1 : (0 : Int) ≤ (k : Int) := by omega
      have i2 : (k : Int) < (xs.length : Int) := by omega
      cases hm : (y.fNumber == n)
      · have HM := Lib.hid hm; clear hm
        go_wp2_with ((with_reducible refine (cloAt_calls n y g _ ((HB.out.cell (World.block_lt_of_cell? w _ C0.out)).trans C0.out)).mono ?_); rintro e w1 ⟨rfl, hb⟩; rw [HM.out]; have HB1 := Lib.hid (HB.out.trans (hb.mono HB.out.size)); clear hb)
        exact ⟨⟨k + 1, by omega, by go_num, by rw [Hid, HA.out]; exact HM.out, HB1.out⟩, by simp [intOf]; omega⟩
      · have HM := Lib.hid hm; clear hm
        go_wp2_with ((with_reducible refine (cloAt_calls n y g _ ((HB.out.cell (World.block_lt_of_cell? w _ C0.out)).trans C0.out)).mono ?_); rintro e w1 ⟨rfl, hb⟩; rw [HM.out]; have HB1 := Lib.hid (HB.out.trans (hb.mono HB.out.size)); clear hb)
        go_ret
        exact ⟨by rw [HAT.out HM.out]; rfl, HB1.out⟩
    · go_wp2
      go_ret
      obtain rfl : k = xs.length := by omega
      have h1 := HE.out
      rw [List.take_length] at h1
      exact ⟨by rw [atI_no h1]; rfl, HB.out⟩
set_option maxHeartbeats 4000000 in
set_option maxRecDepth 100000 in
theorem metaAt_calls (n : Int) (xs : List DMeta) (v : Value) (w : World) (gs : kMeta.S w xs v) (hl : xs.length ≤ 140737488355328) :
    Calls Try.prog 24 #[v, .int .i64 n] w fun e w' => e = .returned (.int .i64 (atI xs n)) ∧ Below w.heap.size w w' := by
  have hb1 := (Below.refl w.heap.size w).alloc (Nat.le_refl _) (.cells #[.int .i64 n] 3)
  have BX := Lib.hid (show Box (w.alloc (.cells #[.int .i64 n] 3)) w.heap.size #[.int .i64 n] 3 from Box.new rfl)
  have G := Lib.hid (Rp.S_below gs hb1); have HB := Lib.hid hb1
  clear gs hb1
  go_enter Try.func24, Try.ntmps24
  go_upto_region 1 with fail
  generalize w.alloc (.cells #[.int .i64 n] 3) = w1 at *
  go_wp2_with fail
  (with_reducible refine (idxAt_calls n xs v w.heap.size _ G.out hl (BX.out.cell 0 rfl)).mono ?_)
  rintro e w2 ⟨rfl, hb⟩
  have HB := Lib.hid (HB.out.trans (hb.mono HB.out.size))
  clear hb
  go_wp2
  go_ret
  exact ⟨rfl, HB.out⟩
end Go.Proofs.Ytiliaijgkedhnaa
