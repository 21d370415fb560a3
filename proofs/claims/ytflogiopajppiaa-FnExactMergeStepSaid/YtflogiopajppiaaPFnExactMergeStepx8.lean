-- Printed by a program of this session, over the kit's print, for the law FnExactMergeStep.
import Derived.Test.YtflogiopajppiaaPFnExactMergeStepx0
import Derived.Test.YtflogiopajppiaaPFnExactMergeStepx5
import Derived.Test.YtflogiopajppiaaPFnExactMergeStepx6
import Derived.Test.YtflogiopajppiaaPFnExactMergeStepx7
namespace Go.Proofs.Ytflogiopajppiaa.PFnExactMergeStep
open Go.RowKit Go.Proofs.YtflogiopajppiaaW.PrintWords Go.Proofs.YtflogiopajppiaaW.PrintLast Go.Proofs.YtflogiopajppiaaW.PrintMore
attribute [local go_sem] max2_int min2_int max_two min_two max_three min_three max_four min_four   -- for this text's walks alone
set_option linter.unusedVariables false
set_option linter.unusedSimpArgs false

/-! ### impl_runOk: function 56 -/
def impl_runOk.f (k : Nat) (l0_0 : List (S73)) : Option (Bool) := if (l0_0.length : Int) ≤ 400 then ((impl_GoodRun.f k l0_0).bind fun t198 => (some t198)) else (some false)
theorem impl_runOk.mono : ∀ a0 k, LeO (impl_runOk.f k a0) (impl_runOk.f (k + 1) a0) := by
  intro a0 k
  unfold impl_runOk.f
  repeat' first
      | (with_reducible exact impl_GoodRun.mono _ _)
      | (with_reducible exact LeO.refl _)
      | (with_reducible exact LeO.none _)
      | (with_reducible refine LeO.ite ?_ ?_)
      | (with_reducible refine LeO.bind ?_ (fun _ => ?_))
      | exact impl_GoodRun.mono _ _
      | exact LeO.none _
      | refine LeO.ite ?_ ?_
      | refine LeO.bind ?_ (fun _ => ?_)
set_option maxHeartbeats 8000000 in
set_option maxRecDepth 100000 in
theorem impl_runOk.calls (k : Nat) (A0_0 : Option Addr) (c0_0 : Nat) (l0_0 : List (S73)) (r : Bool) (w : World) (hr0_0 : Kd.C k73 w A0_0 l0_0.length l0_0) (hc0_0 : l0_0.length ≤ c0_0) (h : impl_runOk.f k l0_0 = some r) :
    Calls Try.prog 56 #[.agg #[.slice A0_0 l0_0.length c0_0]] w fun e w' => e = .returned (.bool r) ∧ Below w.heap.size w w' := by
  have hu30 := Try.underlying30
  have HR0_0 := Aside0.mk hr0_0
  have HC0_0 := Aside0.mk hc0_0
  clear hr0_0 hc0_0
  have HB := Aside0.mk (Below.refl w.heap.size w)
  have H : (if (l0_0.length : Int) ≤ 400 then ((impl_GoodRun.f k l0_0).bind fun t198 => (some t198)) else (some false)) = some r := h
  clear h
  by_cases c2 : (l0_0.length : Int) ≤ 400
  · rw [if_pos c2] at H
    have c2b0 : decide ((l0_0.length : Int) ≤ 400) = true := decide_eq_true c2
    have c2b1 : decide (l0_0.length ≤ 400) = true := decide_eq_true (by omega)
    clear c2
    replace H := Option.bind_eq_some_iff.mp H
    obtain ⟨t198, A30, H⟩ := H
    replace H : (some t198) = some r := H
    have A3 := Aside0.mk A30
    clear A30
    obtain rfl := Option.some.inj H
    go_enter Try.func56, Try.ntmps56
    go_wp2_with (first | ((with_reducible refine gate_dst (N := 1) rfl ?_); refine box_event ?hg (N := 1) ?hd (cs := #[.slice A0_0 l0_0.length c0_0]) (t := 30) ?hr ?_; (case hd => rfl); (case hg => rfl); (case hr => first | (go_simp; done) | (go_simp; rfl)); intro gb197 hg w4 hbox hb; have n0_ := Aside0.mk (below_step (by repeat (first | (with_reducible first | exact HB.out | apply below_alloc | apply pw_below_drewN | apply below_drew1) | exact HB.out)) hb); have n1_ := Aside0.mk (hbox); have n2_ := Aside0.mk ((by rw [hg]; exact (below_size (by repeat (first | (with_reducible first | exact HB.out | apply below_alloc | apply pw_below_drewN | apply below_drew1) | exact HB.out))) : w.heap.size ≤ gb197)); have n3_ := Aside0.mk ((by rw [hg]; exact (below_size (by repeat (first | (with_reducible first | exact HB.out | apply below_alloc | apply pw_below_drewN | apply below_drew1) | exact HB.out))) : w.heap.size ≤ gb197)); clear HB; have HB := n0_; have BK197 := n1_; have GW197 := n2_; have GE197 := n3_; clear n0_ n1_ n2_ n3_; clear hb hbox hg; have hcz5_0 : w4.cell? ⟨gb197, 0, none⟩ = some (.slice A0_0 l0_0.length c0_0) := (blk_cell BK197.out 0).trans rfl; have hfz5_0 := blk_frozen BK197.out 0) | (go_at_call 48; (with_reducible refine (impl_GoodRun.calls k _ _ l0_0 t198 _ ?side1 ?side2 A3.out).mono ?_); (case side1 => repeat (first | exact (Kd.C_below HR0_0.out HB.out) | (with_reducible refine Kd.C_alloc ?_ _) | (with_reducible refine Kd.C_drewN ?_ _) | (with_reducible refine Kd.C_drew ?_))); (case side2 => exact HC0_0.out); rintro e w6 ⟨rfl, hb⟩; have n0_ := Aside0.mk (blk_below (g := gb197) (o := .cells #[.slice A0_0 l0_0.length c0_0] 30 (0, 0)) (by (with_reducible repeat (first | refine blk_drewN ?_ _ | refine blk_drew ?_ | refine blk_alloc ?_ _)); exact BK197.out) hb); have n1_ := Aside0.mk (below_step (by repeat (first | (with_reducible first | exact HB.out | apply below_alloc | apply pw_below_drewN | apply below_drew1 | refine below_set ?_ GE197.out) | exact HB.out)) hb); clear BK197; clear HB; have BK197 := n0_; have HB := n1_; clear n0_ n1_; (try clear hb); (try clear hb2); (try clear hk); (try clear hi)))
    go_ret
    exact ⟨by first | rfl | (simp [errW_none, errW_some] <;> rfl) | (simp [*, errW_none, errW_some] <;> rfl), by repeat (first | (with_reducible first | exact HB.out | apply below_alloc | apply pw_below_drewN | apply below_drew1 | refine below_set ?_ GE197.out) | exact HB.out)⟩
  · rw [if_neg c2] at H
    have c2b0 : decide ((l0_0.length : Int) ≤ 400) = false := decide_eq_false c2
    have c2b1 : decide (l0_0.length ≤ 400) = false := decide_eq_false (by omega)
    clear c2
    obtain rfl := Option.some.inj H
    go_enter Try.func56, Try.ntmps56
    go_wp2_with (first | ((with_reducible refine gate_dst (N := 1) rfl ?_); refine box_event ?hg (N := 1) ?hd (cs := #[.slice A0_0 l0_0.length c0_0]) (t := 30) ?hr ?_; (case hd => rfl); (case hg => rfl); (case hr => first | (go_simp; done) | (go_simp; rfl)); intro gb197 hg w7 hbox hb; have n0_ := Aside0.mk (below_step (by repeat (first | (with_reducible first | exact HB.out | apply below_alloc | apply pw_below_drewN | apply below_drew1) | exact HB.out)) hb); have n1_ := Aside0.mk (hbox); have n2_ := Aside0.mk ((by rw [hg]; exact (below_size (by repeat (first | (with_reducible first | exact HB.out | apply below_alloc | apply pw_below_drewN | apply below_drew1) | exact HB.out))) : w.heap.size ≤ gb197)); have n3_ := Aside0.mk ((by rw [hg]; exact (below_size (by repeat (first | (with_reducible first | exact HB.out | apply below_alloc | apply pw_below_drewN | apply below_drew1) | exact HB.out))) : w.heap.size ≤ gb197)); clear HB; have HB := n0_; have BK197 := n1_; have GW197 := n2_; have GE197 := n3_; clear n0_ n1_ n2_ n3_; clear hb hbox hg; have hcz8_0 : w7.cell? ⟨gb197, 0, none⟩ = some (.slice A0_0 l0_0.length c0_0) := (blk_cell BK197.out 0).trans rfl; have hfz8_0 := blk_frozen BK197.out 0))
    go_ret
    exact ⟨by first | rfl | (simp [errW_none, errW_some] <;> rfl) | (simp [*, errW_none, errW_some] <;> rfl), by repeat (first | (with_reducible first | exact HB.out | apply below_alloc | apply pw_below_drewN | apply below_drew1 | refine below_set ?_ GE197.out) | exact HB.out)⟩

-- NOT PRINTED: function 124 (impl_Run_124)

-- NOT PRINTED: function 114 (impl_Run_114)

/-! ### impl_runsOk: function 95 -/
section
open Go Go.Sort
theorem rdXi_at {l : List S73} {i : Nat} (h : i < l.length) : rd_T73 l (i : Int) = l[i] := getD_nat h _
/-- The order of texts, of numbers, of items. -/
def cmpS (a b : ByteArray) : Int := if Op.bytesLess a.toList b.toList = true then -1 else if a.toList = b.toList then 0 else 1
def cmpZ (a b : Int) : Int := if a < b then -1 else if a > b then 1 else 0
def cmpI (x y : S73) : Int := if cmpS x.f0 y.f0 = 0 then cmpZ y.f1 x.f1 else cmpS x.f0 y.f0

theorem cmpS_f (a b : ByteArray) : cmp_Compare_string.f a b = some (cmpS a b) := by
  unfold cmp_Compare_string.f cmp_isNaN_string.f cmpS
  simp only [Option.bind_some, bne_self_eq_false, if_false, Bool.false_eq_true]
  by_cases h : Op.bytesLess a.toList b.toList = true
  · rw [if_pos h, if_pos h]
  · rw [if_neg h, if_neg h]
    have h' := Bool.eq_false_iff.2 h
    by_cases q : a.toList = b.toList
    · rw [if_pos q, if_pos (by simp [q])]
    · rw [if_neg q, if_neg (by simp [h', q])]
theorem cmpZ_f (a b : Int) : cmp_Compare_int.f a b = some (cmpZ a b) := by
  unfold cmp_Compare_int.f cmp_isNaN_int.f cmpZ
  simp only [Option.bind_some, bne_self_eq_false, if_false, Bool.false_eq_true]
  by_cases h : a < b
  · rw [if_pos h, if_pos h]
  · rw [if_neg h, if_neg h]
    by_cases q : a > b
    · rw [if_pos q, if_pos q]
    · rw [if_neg q, if_neg q]
theorem or_f (x y : Int) : Alw fun k => cmp_Or_int.f k [x, y] = some (if x = 0 then y else x) := by
  refine ⟨3, fun k hk => ?_⟩
  obtain ⟨k, rfl⟩ : ∃ j, k = j + 3 := ⟨k - 3, by omega⟩
  unfold cmp_Or_int.f
  simp only [List.length_cons, List.length_nil, Nat.zero_add, Nat.reduceAdd]
  rw [show (((2 : Nat) : Int)) = 2 from rfl, cmp_Or_int.l0, if_pos (by decide), if_pos (by decide), if_pos (by simp)]
  by_cases hx : x = 0
  · rw [if_pos hx, if_pos (show rd [x, y] 0 = 0 from hx), show wrap64 (0 + 1) = 1 by unfold wrap64; omega, cmp_Or_int.l0, if_pos (by decide), if_pos (by decide), if_pos (by simp)]
    by_cases hy : y = 0
    · rw [if_pos (show rd [x, y] 1 = 0 from hy), show wrap64 (1 + 1) = 2 by unfold wrap64; omega, cmp_Or_int.l0, if_neg (by decide), hy]
    · rw [if_neg (show ¬ rd [x, y] 1 = 0 from hy)]
      rfl
  · rw [if_neg hx, if_neg (show ¬ rd [x, y] 0 = 0 from hx)]
    rfl
theorem order_i (x y : S73) : Alw fun k => impl_itemOrder.f k x.f0 x.f1 x.f2 x.f3 y.f0 y.f1 y.f2 y.f3 = some (cmpI x y) := by
  refine (or_f (cmpS x.f0 y.f0) (cmpZ y.f1 x.f1)).imp fun k h => ?_
  unfold impl_itemOrder.f cmpI
  rw [cmpS_f, cmpZ_f]
  simp only [Option.bind_some]
  rw [h]
  rfl

def goodI (x : S73) : Bool := decide (1 ≤ (x.f0.size : Int) ∧ (x.f0.size : Int) ≤ 16) && decide (0 ≤ x.f1 ∧ x.f1 ≤ 1000000000) && decide (0 ≤ x.f2 ∧ x.f2 ≤ 1) && decide ((x.f3.size : Int) ≤ 40) && (decide (x.f2 = 1) || x.f3.toList == ([] : List UInt8))
/-- Item i is good, and above the one ahead of it. -/
def runOkAt (l : List S73) (i : Nat) : Bool := match l[i]? with
  | none => true
  | some x => goodI x && (if i = 0 then true else match l[i - 1]? with | none => true | some p => decide (cmpI p x < 0))
/-- From the i-th on. -/
def runFrom (l : List S73) : Nat → Nat → Bool
  | 0, _ => true
  | d + 1, i => runOkAt l i && runFrom l d (i + 1)
def goodR (l : List S73) : Bool := runFrom l l.length 0
theorem runOkAt_zero {l : List S73} (h : 0 < l.length) : runOkAt l 0 = goodI l[0] := by
  rw [runOkAt, List.getElem?_eq_getElem h]; simp
theorem runOkAt_succ {l : List S73} {j : Nat} (h : j + 1 < l.length) : runOkAt l (j + 1) = (goodI l[j + 1] && decide (cmpI l[j] l[j + 1] < 0)) := by
  rw [runOkAt, List.getElem?_eq_getElem h]
  simp only [Nat.add_sub_cancel, List.getElem?_eq_getElem (show j < l.length by omega)]
  simp

theorem in_i (a lo hi : Int) : impl_in.f a lo hi = some (decide (lo ≤ a ∧ a ≤ hi)) := by
  unfold impl_in.f
  by_cases h : a ≥ lo
  · rw [if_pos h]; congr 1; simp; omega
  · rw [if_neg h]; congr 1; simp; omega

theorem good_i (x : S73) : impl_GoodItem.f x.f0 x.f1 x.f2 x.f3 = some (goodI x) := by
  unfold impl_GoodItem.f impl_isKey.f impl_isSeq.f impl_isValue.f goodI
  simp only [in_i, Option.bind_some]
  cases h1 : decide (1 ≤ (x.f0.size : Int) ∧ (x.f0.size : Int) ≤ 16) <;> cases h2 : decide (0 ≤ x.f1 ∧ x.f1 ≤ 1000000000) <;> cases h3 : decide (0 ≤ x.f2 ∧ x.f2 ≤ 1) <;> simp only [Bool.false_eq_true, if_false, if_true, Bool.false_and, Bool.true_and, Bool.and_false]
  by_cases h4 : (x.f3.size : Int) ≤ 40
  · by_cases h5 : x.f2 = 1
    · simp [h4, h5]
    · simp [h4, h5]
  · simp [h4]

set_option maxHeartbeats 1000000 in
theorem goodR_i_go (l : List S73) (hl : l.length ≤ 4611686018427387904) : ∀ (d i : Nat), i + d = l.length → Alw fun k => impl_GoodRun.l0 k l l (l.length : Int) (i : Int) = some (runFrom l d i)
  | 0, i, h => Alw.one fun k => by rw [impl_GoodRun.l0, if_neg (by omega)]; rfl
  | d + 1, i, h => by
    have hi : i < l.length := by omega
    have ih := goodR_i_go l hl d (i + 1) (by omega)
    rw [runFrom]
    rcases i with _ | j
    · refine ih.succ fun k ih => ?_
      rw [impl_GoodRun.l0, if_pos (by omega), if_pos (by omega), if_pos (by omega), rdXi_at hi, good_i, Option.bind_some, runOkAt_zero hi]
      cases hg : goodI l[0]
      · rw [if_neg (by decide)]; rfl
      · rw [if_pos rfl, if_neg (by omega), wS (by omega), ih]; rfl
    · have hj : j < l.length := by omega
      refine (ih.and (order_i l[j] l[j + 1])).succ fun k ⟨ih, ho⟩ => ?_
      rw [impl_GoodRun.l0, if_pos (by omega), if_pos (by omega), if_pos (by omega), rdXi_at hi, good_i, Option.bind_some, runOkAt_succ hi]
      cases hg : goodI l[j + 1]
      · rw [if_neg (by decide)]; rfl
      · rw [if_pos rfl, if_pos (by omega), wP (by omega) (by omega), if_pos (by omega), if_pos (by omega)]
        simp only [Nat.add_sub_cancel]
        rw [rdXi_at hj, ho, Option.bind_some]
        by_cases hc : cmpI l[j] l[j + 1] ≥ 0
        · rw [if_pos hc, decide_eq_false (by omega)]; rfl
        · rw [if_neg hc, decide_eq_true (by omega), wS (by omega), ih]; rfl
theorem goodR_i (l : List S73) (hl : l.length ≤ 4611686018427387904) : Alw fun k => impl_GoodRun.f k l = some (goodR l) := goodR_i_go l hl l.length 0 (by omega)

def okR (l : List S73) : Bool := goodR l && decide ((l.length : Int) ≤ 400)

theorem okR_i (l : List S73) (hl : l.length ≤ 4611686018427387904) : Alw fun k => impl_runOk.f k l = some (okR l) := by
  refine (goodR_i l hl).imp fun k h => ?_
  unfold impl_runOk.f okR
  rw [h]
  by_cases hc : (l.length : Int) ≤ 400
  · rw [if_pos hc, decide_eq_true hc]; simp
  · rw [if_neg hc, decide_eq_false hc]; simp
theorem any_take {α : Type} {p : α → Bool} {xs : List α} {k : Nat} (h : k < xs.length) : (xs.take (k + 1)).any p = ((xs.take k).any p || p xs[k]) := by
  rw [List.take_add_one, List.getElem?_eq_getElem h, List.any_append]
  simp
theorem any_at {α : Type} {p : α → Bool} {xs : List α} {k : Nat} (h : k < xs.length) (hp : p xs[k] = true) : xs.any p = true := by
  rw [List.any_eq_true]
  exact ⟨xs[k], List.getElem_mem h, hp⟩
def badRun (x : S30) : Bool := !okR x.f0
set_option maxHeartbeats 1000000 in
theorem cloRun_calls (A : Option Addr) (c : Nat) (x : S30) (W : World) (hr : Kd.C k73 W A x.f0.length x.f0) (hc : x.f0.length ≤ c) : Calls Try.prog 115 #[.agg #[.slice A x.f0.length c]] W fun e w' => e = .returned (.bool (badRun x)) ∧ Below W.heap.size W w' := by
  have hl : x.f0.length ≤ 9223372036854775807 := hr.2.1
  by_cases hl2 : x.f0.length ≤ 4611686018427387904
  · obtain ⟨K, h⟩ := (okR_i x.f0 hl2).pick
    have H := Lib.hid hr; clear hr
    have h0 := Lib.hid (h 0); clear h
    go_enter Try.func115, Try.ntmps115
    go_wp2_with ((with_reducible refine (impl_runOk.calls (K + 0) A c x.f0 (okR x.f0) _ (Kd.C_below H.out ((Below.refl _ _).alloc (Nat.le_refl _) _)) hc h0.out).mono ?_); rintro e wq ⟨rfl, hb⟩; have HB := Lib.hid (((Below.refl _ W).alloc (Nat.le_refl _) _).trans (hb.mono (by simp))); clear hb)
    go_ret
    exact ⟨rfl, HB.out⟩
  · have hb : badRun x = true := by
      unfold badRun okR
      rw [decide_eq_false (by omega), Bool.and_false]
      rfl
    have h0 := Lib.hid (show impl_runOk.f 0 x.f0 = some false by unfold impl_runOk.f; rw [if_neg (by omega)])
    have H := Lib.hid hr; clear hr
    go_enter Try.func115, Try.ntmps115
    go_wp2_with ((with_reducible refine (impl_runOk.calls 0 A c x.f0 false _ (Kd.C_below H.out ((Below.refl _ _).alloc (Nat.le_refl _) _)) hc h0.out).mono ?_); rintro e wq ⟨rfl, hb⟩; have HB := Lib.hid (((Below.refl _ W).alloc (Nat.le_refl _) _).trans (hb.mono (by simp))); clear hb)
    go_ret
    exact ⟨by rw [hb]; rfl, HB.out⟩
set_option maxHeartbeats 2000000 in
set_option maxRecDepth 100000 in
theorem idxRun_calls (xs : List S30) (A : Option Addr) (c : Nat) (w : World) (h : Kd.C k30 w A xs.length xs) (hl : xs.length ≤ 140737488355328) :
    Calls Try.prog 124 #[.slice A xs.length c, .func (.func 115) #[] #[]] w fun e w' => ∃ r : Int, e = .returned (.int .i64 r) ∧ decide (0 ≤ r) = xs.any badRun ∧ Below w.heap.size w w' := by
  have H := Lib.hid h; clear h
  go_enter Try.func124, Try.ntmps124
  go_wp2
  go_loopw [8] (fun i wr => ∃ k : Nat, k ≤ xs.length ∧ i = .int .i64 k ∧ Hid ((xs.take k).any badRun = false) ∧ Hid (Below w.heap.size w wr)) (fun i _ => xs.length - (intOf i).toNat)
  case atStart => exact ⟨0, Nat.zero_le _, rfl, rfl, Below.refl _ _⟩
  case round =>
    obtain ⟨k, hk, rfl, HE, HB⟩ := hrel
    by_cases hlt : k < xs.length
    · obtain ⟨ad, A0, c0, rfl, a0, g0, g1⟩ := at_T30 (Kd.C_below H.out HB.out) (k : Int) (by omega) (by omega)
      rw [show rd_T30 xs (k : Int) = xs[k] from getD_nat hlt _] at a0 g0 g1
      rw [Int.toNat_natCast] at a0
      have hany := any_take (p := badRun) hlt
      have hsome := any_at (p := badRun) hlt
      rw [HE.out, Bool.false_or] at hany
      generalize he : xs[k] = y at *
      have G1 := Lib.hid g1; clear g1
      have HG := Lib.hid he; clear he
      have HA := Lib.hid hany; clear hany
      have HS := Lib.hid hsome; clear hsome HE
      have i1 : (0 : Int) ≤ (k : Int) := by omega
      have i2 : (k : Int) < (xs.length : Int) := by omega
      cases hm : badRun y
      · have HA2 := Lib.hid (HA.out.trans hm)
        clear HA HS
        go_wp2_with (first | (with_reducible refine (cloRun_calls A0 c0 y _ G1.out g0).mono ?_; rintro e wq ⟨rfl, hb⟩; rw [hm]; have HB := Lib.hid (HB.out.trans (hb.mono HB.out.size)); clear hb))
        all_goals exact ⟨⟨k + 1, by omega, by go_num, HA2.out, HB.out⟩, by simp [intOf]; omega⟩
      · have HS2 := Lib.hid (HS.out hm)
        clear HA HS
        go_wp2_with (first | (with_reducible refine (cloRun_calls A0 c0 y _ G1.out g0).mono ?_; rintro e wq ⟨rfl, hb⟩; rw [hm]; have HB := Lib.hid (HB.out.trans (hb.mono HB.out.size)); clear hb))
        all_goals go_ret
        all_goals exact ⟨k, rfl, by rw [HS2.out]; simp, HB.out⟩
    · go_wp2
      go_ret
      obtain rfl : k = xs.length := by omega
      have h1 := HE.out
      rw [List.take_length] at h1
      exact ⟨-1, rfl, by rw [h1]; rfl, HB.out⟩
set_option maxHeartbeats 1000000 in
theorem conRun_calls (xs : List S30) (A : Option Addr) (c : Nat) (w : World) (h : Kd.C k30 w A xs.length xs) (hl : xs.length ≤ 140737488355328) :
    Calls Try.prog 114 #[.slice A xs.length c, .func (.func 115) #[] #[]] w fun e w' => e = .returned (.bool (xs.any badRun)) ∧ Below w.heap.size w w' := by
  have G := Lib.hid h
  clear h
  go_enter Try.func114, Try.ntmps114
  go_wp2_with fail
  (with_reducible refine (idxRun_calls xs A c _ G.out hl).mono ?_)
  rintro e w1 ⟨r, rfl, hr, hb⟩
  have HR := Lib.hid hr; have HB := Lib.hid hb
  clear hr hb
  go_wp2
  go_ret
  exact ⟨by rw [← HR.out]; rfl, HB.out⟩

def impl_runsOk.f (l0 : List (S30)) : Option (Bool) := if l0.length ≤ 140737488355328 then some (!l0.any badRun) else none
set_option maxHeartbeats 8000000 in
set_option maxRecDepth 100000 in
theorem impl_runsOk.calls (A0 : Option Addr) (c0 : Nat) (l0 : List (S30)) (r : Bool) (w : World) (hr0 : Kd.C k30 w A0 l0.length l0) (hc0 : l0.length ≤ c0) (h : impl_runsOk.f l0 = some r) :
    Calls Try.prog 95 #[.slice A0 l0.length c0] w fun e w' => e = .returned (.bool r) ∧ Below w.heap.size w w' := by
  unfold impl_runsOk.f at h
  split at h
  · rename_i hh
    obtain rfl := Option.some.inj h
    have HR := Lib.hid hr0
    clear hr0
    go_enter Try.func95, Try.ntmps95
    go_wp2_with fail
    (with_reducible refine (conRun_calls l0 A0 c0 _ HR.out hh).mono ?_)
    rintro e w1 ⟨rfl, hb⟩
    have HB := Lib.hid hb
    clear hb
    go_wp2
    go_ret
    exact ⟨rfl, HB.out⟩
  · cases h
end

/-! ### impl_mergeable: function 64 -/
def impl_mergeable.l0 : Nat → List (S30) → Int → List (S30) → Int → Int → Option (Bool)
  | 0, _, _, _, _, _ => none
  | k + 1, x0, x3, x6, x7, x8 => if x8 < x7 then (if 0 ≤ x8 then (if x8 < (x6.length : Int) then (impl_mergeable.l0 k x0 (wrap64 (x3 + (((rd_T30 x6 x8).f0).length : Int))) x6 x7 (wrap64 (x8 + 1))) else (none)) else (none)) else (if (x0.length : Int) ≤ 12 then (if x3 ≤ 400 then ((impl_runsOk.f x0).bind fun t201 => (some t201)) else (some false)) else (some false))
def impl_mergeable.f (k : Nat) (l0 : List (S30)) : Option (Bool) := impl_mergeable.l0 k l0 0 l0 (l0.length : Int) 0
theorem impl_mergeable.mono_l : ∀ k, (∀ y0 y1 y2 y3 y4, LeO (impl_mergeable.l0 k y0 y1 y2 y3 y4) (impl_mergeable.l0 (k + 1) y0 y1 y2 y3 y4))
  | 0 => fun _ _ _ _ _ r h => by simp [impl_mergeable.l0] at h
  | k + 1 => by
    have ih0 := impl_mergeable.mono_l k
    · intro y0 y1 y2 y3 y4
      unfold impl_mergeable.l0
      repeat' first
      | (with_reducible exact ih0 _ _ _ _ _)
      | (with_reducible exact LeO.refl _)
      | (with_reducible exact LeO.none _)
      | (with_reducible refine LeO.ite ?_ ?_)
      | (with_reducible refine LeO.bind ?_ (fun _ => ?_))
      | exact ih0 _ _ _ _ _
      | exact LeO.none _
      | refine LeO.ite ?_ ?_
      | refine LeO.bind ?_ (fun _ => ?_)
theorem impl_mergeable.mono : ∀ a0 k, LeO (impl_mergeable.f k a0) (impl_mergeable.f (k + 1) a0) := by
  intro a0 k
  have ih0 := impl_mergeable.mono_l k
  unfold impl_mergeable.f
  repeat' first
      | (with_reducible exact ih0 _ _ _ _ _)
      | (with_reducible exact LeO.refl _)
      | (with_reducible exact LeO.none _)
      | (with_reducible refine LeO.ite ?_ ?_)
      | (with_reducible refine LeO.bind ?_ (fun _ => ?_))
      | exact ih0 _ _ _ _ _
      | exact LeO.none _
      | refine LeO.ite ?_ ?_
      | refine LeO.bind ?_ (fun _ => ?_)
set_option maxHeartbeats 8000000 in
set_option maxRecDepth 100000 in
theorem impl_mergeable.calls (k : Nat) (A0 : Option Addr) (c0 : Nat) (l0 : List (S30)) (r : Bool) (w : World) (hr0 : Kd.C k30 w A0 l0.length l0) (hc0 : l0.length ≤ c0) (h : impl_mergeable.f k l0 = some r) :
    Calls Try.prog 64 #[.slice A0 l0.length c0] w fun e w' => e = .returned (.bool r) ∧ Below w.heap.size w w' := by
  have hu30 := Try.underlying30
  have HR0 := Aside0.mk hr0
  have HC0 := Aside0.mk hc0
  clear hr0 hc0
  have HB := Aside0.mk (Below.refl w.heap.size w)
  have H : (impl_mergeable.l0 k l0 0 l0 (l0.length : Int) 0) = some r := h
  clear h
  have H' := Aside0.mk H
  clear H
  go_enter Try.func64, Try.ntmps64
  go_wp2
  go_loopg [3, 8] k (fun kq v3 v8 w' => ∃ (x3_1 : Int) (x8_1 : Int), v3 = .int .i64 x3_1 ∧ v8 = .int .i64 x8_1 ∧ Aside0 (impl_mergeable.l0 kq l0 x3_1 l0 (l0.length : Int) x8_1 = some r) ∧ Aside0 (kq ≤ k) ∧ Aside0 (Below w.heap.size w w'))
  case atStart => exact ⟨(0), (0), (by first | rfl | (simp; done) | (simp [*]; done)), (by first | rfl | (simp; done) | (simp [*]; done)), H', ⟨Nat.le_refl _⟩, ⟨by repeat (first | (with_reducible first | exact HB.out | apply below_alloc | apply pw_below_drewN | apply below_drew1) | exact HB.out)⟩⟩
  case round =>
    clear H'
    obtain ⟨x3_1, x8_1, rfl, rfl, HA, HK1, HB⟩ := hrel
    cases gk with
    | zero => exact absurd HA.out (by simp [impl_mergeable.l0])
    | succ k1 =>
      have H := HA.out
      clear HA
      simp only [impl_mergeable.l0] at H
      by_cases c2 : x8_1 < (l0.length : Int)
      · rw [if_pos c2] at H
        have c2b0 : decide (x8_1 < (l0.length : Int)) = true := decide_eq_true c2
        clear c2
        by_cases c3 : 0 ≤ x8_1
        · rw [if_pos c3] at H
          have c3b0 : decide (0 ≤ x8_1) = true := decide_eq_true c3
          clear c3
          by_cases c4 : x8_1 < (l0.length : Int)
          · rw [if_pos c4] at H
            have c4b0 : decide (x8_1 < (l0.length : Int)) = true := decide_eq_true c4
            clear c4
            have H' := Aside0.mk H
            clear H
            have p199 : 0 ≤ (x8_1 : Int) := of_decide_eq_true (by first | (with_reducible assumption) | assumption)
            have q199 : x8_1 < (l0.length : Int) := of_decide_eq_true (by first | (with_reducible assumption) | assumption)
            obtain ⟨ad199, A199_0, c199_0, e199, hx199_0, hl199_0, hi199_0⟩ := at_T30 HR0.out x8_1 p199 q199
            cases e199
            replace hx199_0 := (HB.out.cell (World.block_lt_of_cell? w _ hx199_0)).trans hx199_0
            have HR199_0 := Aside0.mk hi199_0
            have HC199_0 := Aside0.mk hl199_0
            clear hi199_0 hl199_0
            replace p199 := eq_true p199
            replace q199 := eq_true q199
            go_wp2_with (first | ((with_reducible refine gate_dst (N := 5) rfl ?_); refine box_event ?hg (N := 5) ?hd (cs := #[.slice none 0 0]) (t := 30) ?hr ?_; (case hd => rfl); (case hg => rfl); (case hr => first | (go_simp; done) | (go_simp; rfl)); intro gb200 hg w5 hbox hb; have n0_ := Aside0.mk (below_step (by repeat (first | (with_reducible first | exact HB.out | apply below_alloc | apply pw_below_drewN | apply below_drew1) | exact HB.out)) hb); have n1_ := Aside0.mk (hbox); have n2_ := Aside0.mk ((by rw [hg]; exact (below_size (by repeat (first | (with_reducible first | exact HB.out | apply below_alloc | apply pw_below_drewN | apply below_drew1) | exact HB.out))) : w.heap.size ≤ gb200)); have n3_ := Aside0.mk ((by rw [hg]; exact (below_size (by repeat (first | (with_reducible first | exact HB.out | apply below_alloc | apply pw_below_drewN | apply below_drew1) | exact HB.out))) : w.heap.size ≤ gb200)); clear HB; have HB := n0_; have BK200 := n1_; have GW200 := n2_; have GE200 := n3_; clear n0_ n1_ n2_ n3_; clear hb hbox hg; have hcz6_0 : w5.cell? ⟨gb200, 0, none⟩ = some (.slice none 0 0) := (blk_cell BK200.out 0).trans rfl; have hfz6_0 := blk_frozen BK200.out 0))
            go_roundg k1
            case measure => have := HK1.out; omega
            case rel => exact ⟨(wrap64 (x3_1 + (((rd_T30 l0 x8_1).f0).length : Int))), (wrap64 (x8_1 + 1)), (by first | rfl | (simp; done) | (simp [*]; done)), (by first | rfl | (simp; done) | (simp [*]; done)), H', ⟨by have := HK1.out; omega⟩, ⟨by repeat (first | (with_reducible first | exact HB.out | apply below_alloc | apply pw_below_drewN | apply below_drew1 | refine below_set ?_ GE200.out) | exact HB.out)⟩⟩
          · rw [if_neg c4] at H
            exact absurd H (by simp)
        · rw [if_neg c3] at H
          exact absurd H (by simp)
      · rw [if_neg c2] at H
        have c2b0 : decide (x8_1 < (l0.length : Int)) = false := decide_eq_false c2
        clear c2
        by_cases c7 : (l0.length : Int) ≤ 12
        · rw [if_pos c7] at H
          have c7b0 : decide ((l0.length : Int) ≤ 12) = true := decide_eq_true c7
          have c7b1 : decide (l0.length ≤ 12) = true := decide_eq_true (by omega)
          clear c7
          by_cases c8 : x3_1 ≤ 400
          · rw [if_pos c8] at H
            have c8b0 : decide (x3_1 ≤ 400) = true := decide_eq_true c8
            clear c8
            replace H := Option.bind_eq_some_iff.mp H
            obtain ⟨t201, A90, H⟩ := H
            replace H : (some t201) = some r := H
            have A9 := Aside0.mk A90
            clear A90
            obtain rfl := Option.some.inj H
            go_wp2_with (first | (go_at_call 95; (with_reducible refine (impl_runsOk.calls _ _ l0 t201 _ ?side1 ?side2 A9.out).mono ?_); (case side1 => repeat (first | exact (Kd.C_below HR0.out HB.out) | (with_reducible refine Kd.C_alloc ?_ _) | (with_reducible refine Kd.C_drewN ?_ _) | (with_reducible refine Kd.C_drew ?_))); (case side2 => exact HC0.out); rintro e w10 ⟨rfl, hb⟩; have n0_ := Aside0.mk (below_step (by repeat (first | (with_reducible first | exact HB.out | apply below_alloc | apply pw_below_drewN | apply below_drew1) | exact HB.out)) hb); clear HB; have HB := n0_; clear n0_; (try clear hb); (try clear hb2); (try clear hk); (try clear hi)))
            go_ret
            exact ⟨by first | rfl | (simp [errW_none, errW_some] <;> rfl) | (simp [*, errW_none, errW_some] <;> rfl), by repeat (first | (with_reducible first | exact HB.out | apply below_alloc | apply pw_below_drewN | apply below_drew1) | exact HB.out)⟩
          · rw [if_neg c8] at H
            have c8b0 : decide (x3_1 ≤ 400) = false := decide_eq_false c8
            clear c8
            obtain rfl := Option.some.inj H
            go_wp2
            go_ret
            exact ⟨by first | rfl | (simp [errW_none, errW_some] <;> rfl) | (simp [*, errW_none, errW_some] <;> rfl), by repeat (first | (with_reducible first | exact HB.out | apply below_alloc | apply pw_below_drewN | apply below_drew1) | exact HB.out)⟩
        · rw [if_neg c7] at H
          have c7b0 : decide ((l0.length : Int) ≤ 12) = false := decide_eq_false c7
          have c7b1 : decide (l0.length ≤ 12) = false := decide_eq_false (by omega)
          clear c7
          obtain rfl := Option.some.inj H
          go_wp2
          go_ret
          exact ⟨by first | rfl | (simp [errW_none, errW_some] <;> rfl) | (simp [*, errW_none, errW_some] <;> rfl), by repeat (first | (with_reducible first | exact HB.out | apply below_alloc | apply pw_below_drewN | apply below_drew1) | exact HB.out)⟩

end Go.Proofs.Ytflogiopajppiaa.PFnExactMergeStep
