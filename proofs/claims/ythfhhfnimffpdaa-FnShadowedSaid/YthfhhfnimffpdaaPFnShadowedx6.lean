-- Printed by a program of this session, over the kit's print, for the law FnShadowed.
import Derived.Test.YthfhhfnimffpdaaPFnShadowedx0
import Derived.Test.YthfhhfnimffpdaaPFnShadowedx3
import Derived.Test.YthfhhfnimffpdaaPFnShadowedx5
namespace Go.Proofs.Ythfhhfnimffpdaa.PFnShadowed
open Go.RowKit Go.Proofs.YthfhhfnimffpdaaW.PrintWords Go.Proofs.YthfhhfnimffpdaaW.PrintLast Go.Proofs.YthfhhfnimffpdaaW.PrintMore
attribute [local go_sem] max2_int min2_int max_two min_two max_three min_three max_four min_four   -- for this text's walks alone
set_option linter.unusedVariables false
set_option linter.unusedSimpArgs false

/-! ### impl_dropped: function 17 -/
section
open Go Go.Sort
theorem rdXi_at {l : List S50} {i : Nat} (h : i < l.length) : rd_T50 l (i : Int) = l[i] := getD_nat h _
/-- What is seen at a number, behind what is there already. -/
def seenFrom (a : Int) : List S50 → List S50 → List S50
  | x, [] => x
  | x, y :: l => if y.f1 ≤ a then (match x.getLast? with | none => seenFrom a (x ++ [y]) l | some z => if z.f0.toList = y.f0.toList then seenFrom a x l else seenFrom a (x ++ [y]) l) else seenFrom a x l
def seenL (a : Int) (l : List S50) : List S50 := seenFrom a [] l
theorem seenFrom_len (a : Int) : ∀ (l x : List S50), (seenFrom a x l).length ≤ x.length + l.length
  | [], x => by simp [seenFrom]
  | y :: l, x => by
    unfold seenFrom
    split
    · split
      · have := seenFrom_len a l (x ++ [y]); simp at this ⊢; omega
      · split
        · have := seenFrom_len a l x; simp at this ⊢; omega
        · have := seenFrom_len a l (x ++ [y]); simp at this ⊢; omega
    · have := seenFrom_len a l x; simp at this ⊢; omega
theorem seenL_len (a : Int) (l : List S50) : (seenL a l).length ≤ l.length := by
  have := seenFrom_len a l []
  simpa [seenL] using this

theorem rd_lastI (y : List S50) (z : S50) : rd_T50 (y ++ [z]) (((y ++ [z]).length - 1 : Nat) : Int) = z := by
  rw [rdXi_at (by simp)]
  simp
set_option maxHeartbeats 1000000 in
theorem seen_go (a : Int) (l : List S50) (hl : l.length ≤ 1000000) : ∀ (d i : Nat) (x : List S50), i + d = l.length → x.length ≤ i → Alw fun k => spec_l8Seen.l0 k a x l (l.length : Int) (i : Int) = some (seenFrom a x (l.drop i))
  | 0, i, x, h, hx => Alw.one fun k => by rw [spec_l8Seen.l0, if_neg (by omega), List.drop_eq_nil_of_le (by omega), seenFrom]
  | d + 1, i, x, h, hx => by
    have hi : i < l.length := by omega
    have ih1 := seen_go a l hl d (i + 1) x (by omega) (by omega)
    have ih2 := seen_go a l hl d (i + 1) (x ++ [l[i]]) (by omega) (by simp; omega)
    refine (ih1.and ih2).succ fun k ⟨ih1, ih2⟩ => ?_
    rw [spec_l8Seen.l0, if_pos (by omega), if_pos (by omega), if_pos (by omega), rdXi_at hi, wS (by omega), List.drop_eq_getElem_cons hi, seenFrom]
    by_cases h1 : l[i].f1 ≤ a
    · rw [if_pos h1, if_pos h1]
      rcases List.eq_nil_or_concat x with rfl | ⟨y, z, hyz⟩
      · rw [if_pos (by simp), if_pos (by simp)]
        exact ih2
      · obtain rfl : x = y ++ [z] := by simpa using hyz
        have hz : 0 < (y ++ [z]).length := by simp
        have hx' : (y ++ [z]).length ≤ i := by simpa using hx
        rw [if_neg (by omega), wP hz (by omega), if_pos (by omega), if_pos (by omega), rd_lastI]
        simp only [List.getLast?_append, List.getLast?_singleton, Option.some_or]
        by_cases h2 : z.f0.toList = l[i].f0.toList
        · rw [if_pos h2, if_pos h2]
          exact ih1
        · rw [if_neg h2, if_neg h2, if_pos (by omega)]
          exact ih2
    · rw [if_neg h1, if_neg h1]
      exact ih1
theorem seen_s (a : Int) (l : List S50) (hl : l.length ≤ 1000000) : Alw fun k => spec_l8Seen.f k l a = some (seenL a l) := seen_go a l hl l.length 0 [] (by omega) (by simp)

theorem seen_eq : ∀ (k : Nat) (a : Int) (x l : List S50) (n i : Int), impl_seen.l0 k a x l n i = spec_l8Seen.l0 k a x l n i
  | 0, _, _, _, _, _ => rfl
  | k + 1, a, x, l, n, i => by
    rw [impl_seen.l0, spec_l8Seen.l0]
    simp only [seen_eq k]
theorem seen_i (a : Int) (l : List S50) (hl : l.length ≤ 1000000) : Alw fun k => impl_seen.f k l a = some (seenL a l) := by
  refine (seen_s a l hl).imp fun k h => ?_
  rw [← h]
  exact seen_eq _ _ _ _ _ _
def eqI (x y : S50) : Bool := x.f0.toList == y.f0.toList && (x.f1 == y.f1 && (x.f2 == y.f2 && (x.f3.toList == y.f3.toList)))
def hasI (l : List S50) (x : S50) : Bool := l.any (eqI x)
def delI (s : List S50) (a : Int) (b : Bool) (x : S50) : Bool := decide (x.f1 ≤ a) && (!hasI s x || (b && decide (x.f2 = 0)))
def dropL (l : List S50) (a : Int) (b : Bool) : List S50 := l.filter (fun x => !delI (seenL a l) a b x)
theorem dropL_len (l : List S50) (a : Int) (b : Bool) : (dropL l a b).length ≤ l.length := List.length_filter_le _ _

theorem idx_go (l : List S50) (x : S50) (hl : l.length ≤ 4611686018427387904) : ∀ (d i : Nat), i + d = l.length → ∃ r, decide (r ≥ 0) = (l.drop i).any (eqI x) ∧ Alw fun k => impl_Item_46.l0 k l (l.length : Int) (i : Int) x.f0 x.f1 x.f2 x.f3 = some r
  | 0, i, h => ⟨-1, by rw [List.drop_eq_nil_of_le (by omega)]; rfl, Alw.one fun k => by rw [impl_Item_46.l0, if_neg (by omega)]⟩
  | d + 1, i, h => by
    have hi : i < l.length := by omega
    rw [List.drop_eq_getElem_cons hi, List.any_cons]
    cases he : eqI x l[i]
    · obtain ⟨r, hr, ha⟩ := idx_go l x hl d (i + 1) (by omega)
      refine ⟨r, by rw [hr]; rfl, ha.succ fun k ha => ?_⟩
      unfold eqI at he
      rw [impl_Item_46.l0, if_pos (by omega), if_pos (by omega), if_pos (by omega), rdXi_at hi, he, if_neg (by decide), wS (by omega)]
      exact ha
    · refine ⟨(i : Int), by rw [decide_eq_true (by omega)]; rfl, Alw.one fun k => ?_⟩
      unfold eqI at he
      rw [impl_Item_46.l0, if_pos (by omega), if_pos (by omega), if_pos (by omega), rdXi_at hi, he, if_pos rfl]
theorem has_i (l : List S50) (x : S50) (hl : l.length ≤ 4611686018427387904) : Alw fun k => impl_Item_31.f k l x.f0 x.f1 x.f2 x.f3 = some (hasI l x) := by
  obtain ⟨r, hr, ha⟩ := idx_go l x hl l.length 0 (by omega)
  rw [List.drop_zero] at hr
  refine ha.imp fun k ha => ?_
  unfold impl_Item_31.f impl_Item_46.f hasI
  rw [← hr, show impl_Item_46.l0 k l (l.length : Int) 0 x.f0 x.f1 x.f2 x.f3 = some r from ha, Option.bind_some]
def idxOk (p : S50 → Bool) (xs : List S50) (r : Int) : Prop := (r = -1 ∧ xs.any p = false) ∨ ∃ k : Nat, r = (k : Int) ∧ ∃ h : k < xs.length, (xs.take k).any p = false ∧ p xs[k] = true
theorem any_takeD {α : Type} {p : α → Bool} {xs : List α} {k : Nat} (h : k < xs.length) : (xs.take (k + 1)).any p = ((xs.take k).any p || p xs[k]) := by
  rw [List.take_add_one, List.getElem?_eq_getElem h, List.any_append]
  simp
set_option maxHeartbeats 2000000 in
set_option maxRecDepth 100000 in
theorem cloD_calls (s : List S50) (a : Int) (b : Bool) (AS : Option Addr) (cS g1 g2 g3 : Nat) (x : S50) (w : World) (hS : Kd.C k50 w AS s.length s) (hcS : s.length ≤ cS) (hlS : s.length ≤ 1048576)
    (c1 : w.cell? ⟨g1, 0, none⟩ = some (.int .i64 a)) (c2 : w.cell? ⟨g2, 0, none⟩ = some (.slice AS s.length cS)) (c3 : w.cell? ⟨g3, 0, none⟩ = some (.bool b)) :
    Calls Try.prog 30 #[.agg #[.string x.f0, .int .i64 x.f1, .int .i64 x.f2, .string x.f3], .pointer (some ⟨g1, 0, none⟩), .pointer (some ⟨g2, 0, none⟩), .pointer (some ⟨g3, 0, none⟩)] w
    fun e w' => e = .returned (.bool (delI s a b x)) ∧ Below w.heap.size w w' := by
  obtain ⟨K, h⟩ := (has_i s x (by omega)).pick
  have H0 := Lib.hid (h 0); clear h
  have HS := Lib.hid hS; clear hS
  have l1 := World.block_lt_of_cell? w _ c1
  have l2 := World.block_lt_of_cell? w _ c2
  have l3 := World.block_lt_of_cell? w _ c3
  have C3 := Lib.hid c3
  by_cases h1 : x.f1 ≤ a
  · cases hm : hasI s x
    · have HM := Lib.hid (H0.out.trans (congrArg some hm)); clear H0
      go_enter Try.func30, Try.ntmps30
      go_wp2_with ((with_reducible refine (impl_Item_31.calls (K + 0) AS cS s x.f0 x.f1 x.f2 x.f3 false _ (Kd.C_below HS.out ((Below.refl _ _).alloc (Nat.le_refl _) _)) hcS HM.out).mono ?_); rintro e wq ⟨rfl, hb⟩; have HB := Lib.hid (((Below.refl _ w).alloc (Nat.le_refl _) _).trans (hb.mono (by simp))); have q3 := (HB.out.cell l3).trans C3.out; have BX : Box wq w.heap.size #[.string x.f0, .int .i64 x.f1, .int .i64 x.f2, .string x.f3] 50 := Box.below (Box.new rfl) hb; have q4 := BX.cell 2 rfl; clear hb BX)
      go_ret
      exact ⟨by congr 2; simp [delI, h1, hm], HB.out⟩
    · have HM := Lib.hid (H0.out.trans (congrArg some hm)); clear H0
      cases b
      all_goals
        go_enter Try.func30, Try.ntmps30
        go_wp2_with ((with_reducible refine (impl_Item_31.calls (K + 0) AS cS s x.f0 x.f1 x.f2 x.f3 true _ (Kd.C_below HS.out ((Below.refl _ _).alloc (Nat.le_refl _) _)) hcS HM.out).mono ?_); rintro e wq ⟨rfl, hb⟩; have HB := Lib.hid (((Below.refl _ w).alloc (Nat.le_refl _) _).trans (hb.mono (by simp))); have q3 := (HB.out.cell l3).trans C3.out; have BX : Box wq w.heap.size #[.string x.f0, .int .i64 x.f1, .int .i64 x.f2, .string x.f3] 50 := Box.below (Box.new rfl) hb; have q4 := BX.cell 2 rfl; clear hb BX)
        go_ret
        exact ⟨by congr 2; rw [delI, decide_eq_true h1, hm]; simp; try rfl, HB.out⟩
  · clear H0
    go_enter Try.func30, Try.ntmps30
    go_wp2
    go_ret
    exact ⟨by rw [delI, decide_eq_false (Int.not_le.2 h1)]; rfl, (Below.refl _ _).alloc (Nat.le_refl _) _⟩
set_option maxHeartbeats 2000000 in
set_option maxRecDepth 100000 in
theorem idxD_calls (s : List S50) (a : Int) (b : Bool) (AS : Option Addr) (cS g1 g2 g3 : Nat) (xs : List S50) (A : Option Addr) (c : Nat) (w : World) (h : Kd.C k50 w A xs.length xs) (hl : xs.length ≤ 1048576) (hS : Kd.C k50 w AS s.length s) (hcS : s.length ≤ cS) (hlS : s.length ≤ 1048576)
    (c1 : w.cell? ⟨g1, 0, none⟩ = some (.int .i64 a)) (c2 : w.cell? ⟨g2, 0, none⟩ = some (.slice AS s.length cS)) (c3 : w.cell? ⟨g3, 0, none⟩ = some (.bool b)) :
    Calls Try.prog 45 #[.slice A xs.length c, .func (.func 30) #[] #[.pointer (some ⟨g1, 0, none⟩), .pointer (some ⟨g2, 0, none⟩), .pointer (some ⟨g3, 0, none⟩)]] w
    fun e w' => ∃ r : Int, e = .returned (.int .i64 r) ∧ idxOk (delI s a b) xs r ∧ Below w.heap.size w w' := by
  have H := Lib.hid h; clear h
  have HS := Lib.hid hS; clear hS
  have C1 := Lib.hid c1; have C2 := Lib.hid c2; have C3 := Lib.hid c3
  clear c1 c2 c3
  go_enter Try.func45, Try.ntmps45
  go_wp2
  go_loopw [8] (fun i wr => ∃ k : Nat, k ≤ xs.length ∧ i = .int .i64 k ∧ Hid ((xs.take k).any (delI s a b) = false) ∧ Hid (Below w.heap.size w wr)) (fun i _ => xs.length - (intOf i).toNat)
  case atStart => exact ⟨0, Nat.zero_le _, rfl, rfl, Below.refl _ _⟩
  case round =>
    obtain ⟨k, hk, rfl, HE, HB⟩ := hrel
    by_cases hlt : k < xs.length
    · obtain ⟨ad, rfl, a0, a1, a2, a3⟩ := at_T50 (Kd.C_below H.out HB.out) (k : Int) (by omega) (by omega)
      rw [show rd_T50 xs (k : Int) = xs[k] from getD_nat hlt _] at a0 a1 a2 a3
      rw [Int.toNat_natCast] at a0 a1 a2 a3
      have hany := any_takeD (p := delI s a b) hlt
      rw [HE.out, Bool.false_or] at hany
      generalize he : xs[k] = y at *
      have HG := Lib.hid he; clear he
      have HA := Lib.hid hany; clear hany
      have i1 : (0 : Int) ≤ (k : Int) := by omega
      have i2 : (k : Int) < (xs.length : Int) := by omega
      cases hm : delI s a b y
      · go_wp2_with ((with_reducible refine (cloD_calls s a b AS cS g1 g2 g3 y _ (Kd.C_below HS.out HB.out) hcS hlS ((HB.out.cell (World.block_lt_of_cell? w _ C1.out)).trans C1.out) ((HB.out.cell (World.block_lt_of_cell? w _ C2.out)).trans C2.out) ((HB.out.cell (World.block_lt_of_cell? w _ C3.out)).trans C3.out)).mono ?_); rintro e w1 ⟨rfl, hb⟩; rw [hm]; have HB1 := Lib.hid (HB.out.trans (hb.mono HB.out.size)); clear hb)
        exact ⟨⟨k + 1, by omega, by go_num, by rw [Hid, HA.out, hm], HB1.out⟩, by simp [intOf]; omega⟩
      · go_wp2_with ((with_reducible refine (cloD_calls s a b AS cS g1 g2 g3 y _ (Kd.C_below HS.out HB.out) hcS hlS ((HB.out.cell (World.block_lt_of_cell? w _ C1.out)).trans C1.out) ((HB.out.cell (World.block_lt_of_cell? w _ C2.out)).trans C2.out) ((HB.out.cell (World.block_lt_of_cell? w _ C3.out)).trans C3.out)).mono ?_); rintro e w1 ⟨rfl, hb⟩; rw [hm]; have HB1 := Lib.hid (HB.out.trans (hb.mono HB.out.size)); clear hb)
        go_ret
        exact ⟨k, rfl, .inr ⟨k, rfl, hlt, HE.out, by rw [HG.out]; exact hm⟩, HB1.out⟩
    · go_wp2
      go_ret
      obtain rfl : k = xs.length := by omega
      have h1 := HE.out
      rw [List.take_length] at h1
      exact ⟨-1, rfl, .inl ⟨rfl, h1⟩, HB.out⟩
set_option maxHeartbeats 1000000 in
set_option maxRecDepth 100000 in
theorem cloneD_calls (xs : List S50) (A : Option Addr) (c : Nat) (w : World) (h : Kd.C k50 w A xs.length xs) (hc : xs.length ≤ c) (hl : xs.length ≤ 1048576) : Calls Try.prog 29 #[.slice A xs.length c] w
    fun e w' => ∃ v, e = .returned v ∧ Kd.R k50 50 w' w.heap.size (fun _ => True) v xs ∧ Below w.heap.size w w' := by
  have H := Lib.hid h; clear h
  cases A with
  | none =>
    obtain rfl : xs = [] := by
      have h2 := H.out.2.2
      rcases xs with _ | ⟨y, l⟩
      · rfl
      · obtain ⟨ad, he, _⟩ := h2 (by simp)
        cases he
    have he := Lib.run_eql_slice_nil (P := Try.prog) w 23 50 none 0 c 0 0 Try.underlying23
    go_enter Try.func29, Try.ntmps29
    go_wp2
    go_ret
    exact ⟨_, rfl, Kd.R_nil _ _ _ _ _, Below.refl _ _⟩
  | some ad =>
    have he := Lib.run_eql_slice_nil (P := Try.prog) w 23 50 (some ad) xs.length c 0 0 Try.underlying23
    go_enter Try.func29, Try.ntmps29
    go_wp2_with (at_builtin; refine Kd.R_append_rows k50 (w0 := w) w.heap.size ?x0 (.tmp 5) (.tmp 6) 23 50 (.agg #[(.string ⟨#[]⟩), (.int .i64 0), (.int .i64 0), (.string ⟨#[]⟩)]) 48 ?x7 Try.underlying23 info50 ?x10 ?x11 ?x12 (.slice (some ⟨w.heap.size, 0, none⟩) 0 0) ([] : List S50) xs (some ad) xs.length c (fun _ => True) (fun _ => False) ?x21 ?x22 ?aO (Kd.C_below H.out ((Below.refl _ _).alloc (Nat.le_refl _) _)) ?aK (fun _ h => h.elim) (fun _ _ => trivial) ?aB ?aS ?aL ?_; (case x0 => rfl); (case x7 => rfl); (case x10 => rfl); (case x11 => decide); (case x12 => omega); (case x21 => rfl); (case x22 => rfl); (case aK => exact fun x cs h => by obtain rfl := k50_open h; exact k50_mkM _ _ _ _); (case aB => exact (Below.refl _ _).alloc (Nat.le_refl _) _); (case aS => simp); (case aL => simp; omega); (case aO => exact ⟨fun _ _ => trivial, [], World.ownsRow_made w #[] 0 (Nat.le_refl _) (Nat.zero_le _) (by simp), rfl, fun j p hj => by simp at hj⟩); intro v1 w1 ho hb _ _; have R1 := Lib.hid ho; have B1 := Lib.hid hb; clear ho hb)
    go_ret
    exact ⟨_, rfl, R1.out, B1.out⟩
def rowD (W : World) (N g n cap : Nat) (xs : List S50) : Prop := Kd.R k50 50 W N (fun _ => True) (.slice (some ⟨g, 0, none⟩) n cap) xs
theorem rowD_R {W : World} {N g n cap : Nat} {xs : List S50} (h : rowD W N g n cap xs) : Kd.R k50 50 W N (fun _ => True) (.slice (some ⟨g, 0, none⟩) n cap) xs := h
theorem rowD_of {W : World} {N g n cap : Nat} {xs : List S50} (h : Kd.R k50 50 W N (fun _ => True) (.slice (some ⟨g, 0, none⟩) n cap) xs) : rowD W N g n cap xs := h
theorem rowD_len {W : World} {N g n cap : Nat} {xs : List S50} (h : rowD W N g n cap xs) : n = xs.length ∧ n ≤ cap := ⟨(Kd.R_reads' h).1, (Kd.R_reads' h).2.1⟩
theorem rowD_C {W : World} {N g n cap : Nat} {xs : List S50} (h : rowD W N g n cap xs) : Kd.C k50 W (some ⟨g, 0, none⟩) xs.length xs := (Kd.R_reads' h).2.2
theorem rowD_below {W W1 : World} {N g n cap : Nat} {xs : List S50} (h : rowD W N g n cap xs) (hb : Below W.heap.size W W1) : rowD W1 N g n cap xs := Kd.R_below h hb
theorem rowD_at {W : World} {N g n cap : Nat} {xs : List S50} (h : rowD W N g n cap xs) (k : Nat) (hk : k < xs.length) :
    W.cell? ⟨g, k * 4, none⟩ = some (.string xs[k].f0) ∧ W.cell? ⟨g, k * 4 + 1, none⟩ = some (.int .i64 xs[k].f1) ∧ W.cell? ⟨g, k * 4 + 2, none⟩ = some (.int .i64 xs[k].f2) ∧ W.cell? ⟨g, k * 4 + 3, none⟩ = some (.string xs[k].f3) ∧ ∀ j, W.frozen? ⟨g, k * 4 + j, none⟩ = false := by
  have hn := (rowD_len h).1
  obtain ⟨c, hcl, hM, hcc, hf⟩ := Kd.R_elem h z50 (k : Int) (by omega) (by omega)
  rw [Int.toNat_natCast] at hM hcc hf
  rw [List.getD_eq_getElem?_getD, List.getElem?_eq_getElem hk] at hM
  obtain rfl := k50_openM hM
  exact ⟨hcc 0 _ rfl, hcc 1 _ rfl, hcc 2 _ rfl, hcc 3 _ rfl, hf⟩
theorem rowD_put {W : World} {N g n cap : Nat} {xs : List S50} (h : rowD W N g n cap xs) (k : Nat) (hk : k < xs.length) (x : S50) :
    rowD ((((W.setCell ⟨g, k * 4, none⟩ (.string x.f0)).setCell ⟨g, k * 4 + 1, none⟩ (.int .i64 x.f1)).setCell ⟨g, k * 4 + 2, none⟩ (.int .i64 x.f2)).setCell ⟨g, k * 4 + 3, none⟩ (.string x.f3)) N g n cap (xs.set k x) := by
  have hn := (rowD_len h).1
  obtain ⟨c, hcl, hM, hcc, hf⟩ := Kd.R_elem h z50 (k : Int) (by omega) (by omega)
  have hc4 : c.length = 4 := hcl
  have h1 := (Kd.R_seg h (k : Int) (by omega) (by omega) (seg := [.string x.f0, .int .i64 x.f1, .int .i64 x.f2, .string x.f3]) (j := 0) hcl hcc (by show 0 + 4 ≤ 4; decide) (x' := x) (okp := fun k_ => k_ ≠ g) (by
    rw [List.take_zero, List.nil_append, List.drop_eq_nil_of_le (by rw [hc4]; show 4 ≤ 0 + 4; decide), List.append_nil]
    exact k50_mkM _ _ _ _) (fun k_ hk_ => ⟨trivial, hk_⟩)).1
  rw [Int.toNat_natCast] at h1
  exact h1
def zerosD : List Value := [.string ⟨#[]⟩, .int .i64 0, .int .i64 0, .string ⟨#[]⟩]
theorem below_setCellsD {N g : Nat} {w : World} (hg : N ≤ g) : ∀ (vs : List Value) (o : Nat) (W : World), Below N w W → Below N w (W.setCells g o vs)
  | [], _, _, h => h
  | v :: vs, o, W, h => below_setCellsD hg vs (o + 1) _ (h.setCell hg _)
theorem clear_rowD {N g n cap : Nat} : ∀ (m k : Nat) (W : World) (xs : List S50), rowD W N g n cap xs → k + m = n → ∃ ys, rowD (W.setCells g (k * 4) (List.replicate m zerosD).flatten) N g n cap ys ∧ ys.take k = xs.take k
  | 0, k, W, xs, h, hk => ⟨xs, h, rfl⟩
  | m + 1, k, W, xs, h, hk => by
    have hn := (rowD_len h).1
    obtain ⟨ys, h1, h2⟩ := clear_rowD m (k + 1) _ _ (rowD_put h k (by omega) z50) (by omega)
    refine ⟨ys, ?_, ?_⟩
    · rw [Nat.succ_mul] at h1
      exact h1
    · have h3 := congrArg (List.take k) h2
      rw [List.take_take, List.take_take, Nat.min_eq_left (by omega), List.take_set_of_le (by omega)] at h3
      exact h3
theorem zero_rowD : ∀ m : Nat, (Builtin.zeroCells (Value.agg zerosD.toArray).cells m).toList = (List.replicate m zerosD).flatten
  | 0 => by simp [Builtin.zeroCells]
  | m + 1 => by
    have ih := zero_rowD m
    have hs : (Value.agg zerosD.toArray).cells = zerosD.toArray := rfl
    rw [hs] at ih ⊢
    simp only [Builtin.zeroCells, Array.toList_map, Array.toList_range] at ih ⊢
    rw [show (m + 1) * zerosD.toArray.size = m * zerosD.toArray.size + 1 + 1 + 1 + 1 from Nat.succ_mul m 4]
    simp only [List.range_succ, List.map_append, List.append_assoc]
    rw [ih, List.replicate_succ', List.flatten_append]
    congr 1
    have e0 : m * zerosD.toArray.size % zerosD.toArray.size = 0 := Nat.mul_mod_left m 4
    have e1 : (m * zerosD.toArray.size + 1) % zerosD.toArray.size = 1 := by show (m * 4 + 1) % 4 = 1; omega
    have e2 : (m * zerosD.toArray.size + 1 + 1) % zerosD.toArray.size = 2 := by show (m * 4 + 1 + 1) % 4 = 2; omega
    have e3 : (m * zerosD.toArray.size + 1 + 1 + 1) % zerosD.toArray.size = 3 := by show (m * 4 + 1 + 1 + 1) % 4 = 3; omega
    simp only [List.map_cons, List.map_nil, e0, e1, e2, e3]
    rfl
theorem run_clearD {N g n cap : Nat} {W : World} {xs : List S50} (h : rowD W N g n cap xs) (k m c : Nat) (hm : 0 < m) (hkm : k + m = n) (ty : TypeId) :
    (Builtin.clear_ #[23] ty #[.slice (some ⟨g, k * 4, none⟩) m c]).run Try.prog W = .ok (.tuple #[]) (W.setCells g (k * 4) (List.replicate m zerosD).flatten) := by
  have hn := (rowD_len h).1
  have hlen : (List.replicate m zerosD).flatten.length = m * 4 := by simp [zerosD]
  have hat : ∀ j, j < m * 4 → (W.cell? ⟨g, k * 4 + 0 + j, none⟩).isSome = true ∧ W.frozen? ⟨g, k * 4 + 0 + j, none⟩ = false := fun j hj => by
    obtain ⟨a0, a1, a2, a3, f⟩ := rowD_at h (k + j / 4) (by omega)
    have e : k * 4 + 0 + j = (k + j / 4) * 4 + j % 4 := by omega
    rw [e]
    refine ⟨?_, f _⟩
    have hr : j % 4 < 4 := Nat.mod_lt _ (by decide)
    generalize j % 4 = r at hr
    rcases r with _ | _ | _ | _ | r
    · rw [Nat.add_zero, a0]; rfl
    · rw [a1]; rfl
    · rw [a2]; rfl
    · rw [a3]; rfl
    · omega
  have hst := run_storeCells_cells (P := Try.prog) g (k * 4) (List.replicate m zerosD).flatten 0 W (by rw [hlen]; exact fun j hj => (hat j hj).1) (by rw [hlen]; exact fun j hj => (hat j hj).2) (by
    intro v hv
    obtain ⟨l, hl, hv⟩ := List.mem_flatten.1 hv
    rw [List.eq_of_mem_replicate hl] at hv
    simp only [zerosD, List.mem_cons, List.not_mem_nil, or_false] at hv
    rcases hv with rfl | rfl | rfl | rfl <;> rfl)
  have hz := zero_rowD m
  have hv : ∀ w, (zeroValue 50).run Try.prog w = .ok (.agg zerosD.toArray) w := Try.zeroValue50
  obtain ⟨m, rfl⟩ : ∃ q, m = q + 1 := ⟨m - 1, by omega⟩
  simp only [Nat.add_zero] at hst
  simp [Builtin.clear_, run_underlying Try.underlying23, hv, hz, hst]
set_option maxHeartbeats 4000000 in
set_option maxRecDepth 100000 in
theorem delD_calls (s : List S50) (a : Int) (b : Bool) (AS : Option Addr) (cS g1 g2 g3 N : Nat) (xs : List S50) (g cap : Nat) (w : World) (hN : N ≤ w.heap.size) (hg : N ≤ g) (hR : rowD w N g xs.length cap xs) (hl : xs.length ≤ 1048576)
    (hS : ∀ W, Below N w W → Kd.C k50 W AS s.length s) (hcS : s.length ≤ cS) (hlS : s.length ≤ 1048576) (b1 : g1 < N) (b2 : g2 < N) (b3 : g3 < N)
    (c1 : w.cell? ⟨g1, 0, none⟩ = some (.int .i64 a)) (c2 : w.cell? ⟨g2, 0, none⟩ = some (.slice AS s.length cS)) (c3 : w.cell? ⟨g3, 0, none⟩ = some (.bool b)) :
    Calls Try.prog 28 #[.slice (some ⟨g, 0, none⟩) xs.length cap, .func (.func 30) #[] #[.pointer (some ⟨g1, 0, none⟩), .pointer (some ⟨g2, 0, none⟩), .pointer (some ⟨g3, 0, none⟩)]] w
    fun e w' => ∃ m : Nat, e = .returned (.slice (some ⟨g, 0, none⟩) m cap) ∧ rowD w' N g m cap (xs.filter (fun x => !delI s a b x)) ∧ Below N w w' := by
  have HR := Lib.hid hR; clear hR
  have HS := Lib.hid hS; clear hS
  have C1 := Lib.hid c1; have C2 := Lib.hid c2; have C3 := Lib.hid c3
  clear c1 c2 c3
  go_enter Try.func28, Try.ntmps28
  go_wp2_with fail
  (with_reducible refine (idxD_calls s a b AS cS g1 g2 g3 xs _ cap _ (rowD_C HR.out) hl (HS.out _ (Below.refl _ _)) hcS hlS C1.out C2.out C3.out).mono ?_)
  rintro e w1 ⟨r, rfl, hr, hb⟩
  have HB1 := Lib.hid (hb.mono hN)
  have HR1 := Lib.hid (rowD_below HR.out hb)
  clear hb
  rcases hr with ⟨rfl, hn⟩ | ⟨k, rfl, hk, hn, hp⟩
  · have HN := Lib.hid hn; clear hn
    go_wp2
    go_ret
    refine ⟨xs.length, rfl, ?_, HB1.out⟩
    rw [List.filter_eq_self.2 (fun x hx => by
      have h1 := List.any_eq_false.1 HN.out x hx
      simpa using h1)]
    exact HR1.out
  · have HN := Lib.hid hn; clear hn
    have HP := Lib.hid hp; clear hp
    have hcap := (rowD_len HR1.out).2
    have hne1 : ((k : Int) == -1) = false := beq_eq_false_iff_ne.2 (by omega)
    go_wp2
    go_loopw [5, 6, 7] (fun s5 s6 _ wr => ∃ (i j : Nat) (cur : List S50), s5 = .int .i64 i ∧ s6 = .int .i64 j ∧ i < j ∧ j ≤ xs.length ∧ Hid (cur.length = xs.length) ∧ Hid (cur.take i = (xs.take j).filter (fun x => !delI s a b x)) ∧ Hid (cur.drop j = xs.drop j) ∧ Hid (Below N w wr) ∧ Hid (rowD wr N g xs.length cap cur)) (fun _ s6 _ _ => xs.length - (intOf s6).toNat)
    case atStart =>
      refine ⟨k, k + 1, xs, rfl, by go_num, by omega, by omega, rfl, ?_, rfl, HB1.out, HR1.out⟩
      have h1 := List.any_eq_false.1 HN.out
      rw [Hid, List.take_add_one, List.getElem?_eq_getElem hk, List.filter_append, List.filter_eq_self.2 (fun x hx => by simpa using h1 x hx)]
      simp [HP.out]
    case round =>
      clear HB1 HR1 HN HP hne1 hk HR
      obtain ⟨i, j, cur, rfl, rfl, hij, hjn, HL, HT, HD, HB, HW⟩ := hrel
      have hcl := HL.out
      by_cases hlt : j < xs.length
      · obtain ⟨a0, a1, a2, a3, _⟩ := rowD_at HW.out j (by omega)
        have hy : cur[j]'(by omega) = xs[j] := by
          have h1 := congrArg (fun l => l[0]?) HD.out
          simp only [List.getElem?_drop, Nat.add_zero] at h1
          rw [List.getElem?_eq_getElem (by omega), List.getElem?_eq_getElem hlt] at h1
          exact Option.some.inj h1
        rw [hy] at a0 a1 a2 a3
        have HXJ := Lib.hid (List.take_add_one (l := xs) (i := j))
        generalize hxy : xs[j] = y at *
        have HY := Lib.hid hxy; clear hxy hy HXJ
        have i1 : (0 : Int) ≤ (j : Int) := by omega
        have i2 : (j : Int) < (xs.length : Int) := by omega
        have i3 : (0 : Int) ≤ (i : Int) := by omega
        have i4 : (i : Int) < (xs.length : Int) := by omega
        have HBX := Lib.hid (Below.alloc HB.out (Nat.le_trans hN HB.out.size) (.cells #[.string y.f0, .int .i64 y.f1, .int .i64 y.f2, .string y.f3] 50))
        cases hm : delI s a b y
        all_goals
          go_wp2_with fail
          (with_reducible refine (cloD_calls s a b AS cS g1 g2 g3 y _ (HS.out _ HBX.out) hcS hlS ((HBX.out.cell (p := ⟨g1, 0, none⟩) b1).trans C1.out) ((HBX.out.cell (p := ⟨g2, 0, none⟩) b2).trans C2.out) ((HBX.out.cell (p := ⟨g3, 0, none⟩) b3).trans C3.out)).mono ?_)
          rintro e w2 ⟨rfl, hb⟩
          rw [hm]
          have HB2 := Lib.hid (HBX.out.trans (hb.mono (Nat.le_trans hN HBX.out.size)))
          have HR2 := Lib.hid (rowD_below (rowD_below HW.out ((Below.refl _ wr).alloc (Nat.le_refl _) (.cells #[.string y.f0, .int .i64 y.f1, .int .i64 y.f2, .string y.f3] 50))) hb)
          have BX : Box w2 wr.heap.size #[.string y.f0, .int .i64 y.f1, .int .i64 y.f2, .string y.f3] 50 := Box.below (Box.new rfl) hb
          have x0 := BX.cell 0 rfl; have x1 := BX.cell 1 rfl; have x2 := BX.cell 2 rfl; have x3 := BX.cell 3 rfl
          obtain ⟨d0, d1, d2, d3, df⟩ := rowD_at HR2.out i (by omega)
          have f0 := df 0; have f1 := df 1; have f2 := df 2; have f3 := df 3
          rw [Nat.add_zero] at f0
          clear hb BX df a0 a1 a2 a3
          go_wp2
        · refine ⟨⟨i + 1, j + 1, cur.set i y, by go_num, by go_num, by omega, by omega, by rw [Hid, List.length_set]; exact hcl, ?_, ?_, (((HB2.out.setCell hg _).setCell hg _).setCell hg _).setCell hg _, rowD_put HR2.out i (by omega) y⟩, by simp [intOf]; omega⟩
          · rw [Hid, take_set_succ (by omega), HT.out, List.take_add_one, List.getElem?_eq_getElem hlt, List.filter_append]
            simp [HY.out, hm]
          · have h1 := congrArg (List.drop 1) HD.out
            rw [List.drop_drop, List.drop_drop] at h1
            rw [Hid, List.drop_set_of_lt (by omega)]
            exact h1
        · refine ⟨⟨i, j + 1, cur, rfl, by go_num, by omega, by omega, hcl, ?_, ?_, HB2.out, HR2.out⟩, by simp [intOf]; omega⟩
          · rw [Hid, HT.out, List.take_add_one (l := xs), List.getElem?_eq_getElem hlt, List.filter_append]
            simp [HY.out, hm]
          · have h1 := congrArg (List.drop 1) HD.out
            rw [List.drop_drop, List.drop_drop] at h1
            exact h1
      · obtain rfl : j = xs.length := by omega
        have i1 : (0 : Int) ≤ (i : Int) := by omega
        have i4 : (i : Int) < (xs.length : Int) := by omega
        have i5 : (i : Int) ≤ (cap : Int) := by omega
        have i6 : ¬ (cap = i) := by omega
        obtain ⟨ys, hy1, hy2⟩ := clear_rowD (xs.length - i) i wr cur HW.out (by omega)
        have hcr := run_clearD HW.out i (xs.length - i) (cap - i) (by omega) (by omega)
        have hbz := below_setCellsD hg (List.replicate (xs.length - i) zerosD).flatten (i * 4) wr HB.out
        generalize (List.replicate (xs.length - i) zerosD).flatten = Z at *
        have HY1 := Lib.hid hy1; have HY2 := Lib.hid hy2; have HBZ := Lib.hid hbz
        clear hy1 hy2 hbz
        go_wp2
        go_ret
        refine ⟨i, rfl, ?_, HBZ.out⟩
        have h3 := HT.out
        rw [List.take_length] at h3
        rw [← h3, ← HY2.out]
        exact Kd.R_take HY1.out (by have := (rowD_len HY1.out).1; omega)
set_option maxHeartbeats 2000000 in
set_option maxRecDepth 100000 in
theorem delN_calls (s : List S50) (a : Int) (b : Bool) (AS : Option Addr) (cS g1 g2 g3 : Nat) (A : Option Addr) (cap : Nat) (w : World) (hR : Kd.C k50 w A ([] : List S50).length []) (hS : Kd.C k50 w AS s.length s) (hcS : s.length ≤ cS) (hlS : s.length ≤ 1048576)
    (c1 : w.cell? ⟨g1, 0, none⟩ = some (.int .i64 a)) (c2 : w.cell? ⟨g2, 0, none⟩ = some (.slice AS s.length cS)) (c3 : w.cell? ⟨g3, 0, none⟩ = some (.bool b)) :
    Calls Try.prog 28 #[.slice A 0 cap, .func (.func 30) #[] #[.pointer (some ⟨g1, 0, none⟩), .pointer (some ⟨g2, 0, none⟩), .pointer (some ⟨g3, 0, none⟩)]] w
    fun e w' => e = .returned (.slice A 0 cap) ∧ Below w.heap.size w w' := by
  have hcon := idxD_calls s a b AS cS g1 g2 g3 [] A cap w hR (by simp) hS hcS hlS c1 c2 c3
  simp only [List.length_nil] at hcon
  clear c1 c2 c3
  go_enter Try.func28, Try.ntmps28
  go_wp2_with fail
  (with_reducible refine hcon.mono ?_)
  rintro e w1 ⟨r, rfl, hr, hb⟩
  have HB1 := Lib.hid hb; clear hb
  obtain rfl : r = -1 := by
    rcases hr with ⟨h, _⟩ | ⟨k, _, hk, _⟩
    · exact h
    · exact absurd hk (Nat.not_lt_zero _)
  go_wp2
  go_ret
  exact ⟨rfl, HB1.out⟩
set_option maxHeartbeats 4000000 in
set_option maxRecDepth 100000 in
theorem dropped_calls (l : List S50) (a : Int) (b : Bool) (A : Option Addr) (c : Nat) (w : World) (h : Kd.C k50 w A l.length l) (hc : l.length ≤ c) (hl : l.length ≤ 1000) : Calls Try.prog 17 #[.slice A l.length c, .int .i64 a, .bool b] w
    fun e w' => ∃ v, e = .returned v ∧ Kd.R k50 50 w' w.heap.size (fun _ => True) v (l.filter (fun x => !delI (seenL a l) a b x)) ∧ Below w.heap.size w w' := by
  have H := Lib.hid h; clear h
  obtain ⟨K, hs⟩ := (seen_i a l (by omega)).pick
  have HS0 := Lib.hid (hs 0); clear hs
  have hsl := seenL_len a l
  go_enter Try.func17, Try.ntmps17
  go_wp2_with fail
  (with_reducible refine (impl_seen.calls (K + 0) A c l a (seenL a l) _ (Kd.C_below H.out (((Below.refl w.heap.size w).alloc (Nat.le_refl _) _).alloc (by simp) _)) hc HS0.out).mono ?_)
  rintro e w1 ⟨vs, rfl, hr, hb⟩
  obtain ⟨AS, cS, rfl⟩ := Kd.R_slice hr
  have hz : ((w.alloc (.cells #[.int .i64 a] 3)).alloc (.cells #[.bool b] 4)).heap.size = w.heap.size + 2 := by simp
  have hz1 := hb.size
  rw [hz] at hz1
  have X1 : Box w1 w.heap.size #[.int .i64 a] 3 := Box.below (Box.alloc (Box.new rfl)) hb
  have X3 : Box w1 (w.heap.size + 1) #[.bool b] 4 := Box.below (Box.new (by simp)) hb
  have HB := Lib.hid ((((Below.refl w.heap.size w).alloc (Nat.le_refl _) (.cells #[.int .i64 a] 3)).alloc (by simp) (.cells #[.bool b] 4)).trans (hb.mono (by rw [hz]; omega)))
  have HR := Lib.hid (Kd.R_reads' hr)
  have HX1 := Lib.hid X1; have HX3 := Lib.hid X3
  clear X1 X3 hb hr hz HS0
  generalize hse : seenL a l = s at *
  have HSE := Lib.hid hse; clear hse
  go_wp2_with fail
  have hq : (w1.alloc (.cells #[.slice AS s.length cS] 23)).heap.size = w1.heap.size + 1 := by simp
  have HBq := Lib.hid (HB.out.alloc HB.out.size (.cells #[.slice AS s.length cS] 23))
  have D1 := Lib.hid ((Box.alloc (o := .cells #[.slice AS s.length cS] 23) HX1.out).cell 0 (v := .int .i64 a) rfl)
  have D2 := Lib.hid (Box.cell (Box.new (w := w1) (cs := #[.slice AS s.length cS]) (T := 23) rfl) 0 (v := .slice AS s.length cS) rfl)
  have D3 := Lib.hid ((Box.alloc (o := .cells #[.slice AS s.length cS] 23) HX3.out).cell 0 (v := .bool b) rfl)
  have HS := Lib.hid (Kd.C_alloc HR.out.2.2 (.cells #[.slice AS s.length cS] 23))
  clear HX1 HX3 HB
  generalize w1.alloc (.cells #[.slice AS s.length cS] 23) = wq at *
  have hqs : w.heap.size ≤ wq.heap.size := by omega
  (with_reducible refine (cloneD_calls l A c _ (Kd.C_below H.out HBq.out) hc (by omega)).mono ?_)
  rintro e w2 ⟨v, rfl, hr2, hb2⟩
  have HR2 := Lib.hid hr2; have HB2 := Lib.hid hb2
  clear hr2 hb2
  have E1 := Lib.hid ((HB2.out.cell (p := ⟨w.heap.size, 0, none⟩) (by show w.heap.size < _; omega)).trans D1.out)
  have E2 := Lib.hid ((HB2.out.cell (p := ⟨w1.heap.size, 0, none⟩) (by show w1.heap.size < _; omega)).trans D2.out)
  have E3 := Lib.hid ((HB2.out.cell (p := ⟨w.heap.size + 1, 0, none⟩) (by show w.heap.size + 1 < _; omega)).trans D3.out)
  by_cases hl0 : l = []
  · subst hl0
    obtain ⟨A2, c2, rfl⟩ := Kd.R_slice HR2.out
    go_wp2_with fail
    (with_reducible refine (delN_calls s a b AS cS w.heap.size w1.heap.size (w.heap.size + 1) A2 c2 _ (Kd.R_reads' HR2.out).2.2 (Kd.C_below HS.out HB2.out) HR.out.2.1 (by omega) E1.out E2.out E3.out).mono ?_)
    rintro e w3 ⟨rfl, hb3⟩
    have HB3 := Lib.hid hb3; clear hb3
    go_wp2
    go_ret
    exact ⟨_, rfl, Kd.R_lower (Kd.R_below HR2.out HB3.out) hqs, (HBq.out.trans (HB2.out.mono hqs)).trans (HB3.out.mono (Nat.le_trans hqs HB2.out.size))⟩
  · obtain ⟨g, cap, rfl, hge, hgl, _⟩ := Kd.R_form HR2.out (by
      rcases l with _ | ⟨y, l⟩
      · exact absurd rfl hl0
      · simp)
    go_wp2_with fail
    (with_reducible refine (delD_calls s a b AS cS w.heap.size w1.heap.size (w.heap.size + 1) wq.heap.size l g cap _ HB2.out.size hge (rowD_of HR2.out) (by omega) (fun W h => Kd.C_below HS.out (HB2.out.trans h)) HR.out.2.1 (by omega) (by omega) (by omega) (by omega) E1.out E2.out E3.out).mono ?_)
    rintro e w3 ⟨m, rfl, hr3, hb3⟩
    have HR3 := Lib.hid hr3; have HB3 := Lib.hid hb3
    clear hr3 hb3
    go_wp2
    go_ret
    rw [HSE.out]
    exact ⟨_, rfl, Kd.R_lower (rowD_R HR3.out) hqs, (HBq.out.trans (HB2.out.mono hqs)).trans (HB3.out.mono hqs)⟩

def impl_dropped.f (l0 : List (S50)) (a1 : Int) (a2 : Bool) : Option ((List (S50))) := if l0.length ≤ 1000 then some (dropL l0 a1 a2) else none
set_option maxHeartbeats 8000000 in
set_option maxRecDepth 100000 in
theorem impl_dropped.calls (A0 : Option Addr) (c0 : Nat) (l0 : List (S50)) (a1 : Int) (a2 : Bool) (r : List (S50)) (w : World) (hr0 : Kd.C k50 w A0 l0.length l0) (hc0 : l0.length ≤ c0) (h : impl_dropped.f l0 a1 a2 = some r) :
    Calls Try.prog 17 #[.slice A0 l0.length c0, .int .i64 a1, .bool a2] w fun e w' => ∃ v0_ : Value, e = .returned (v0_) ∧ Kd.R k50 50 w' w.heap.size (fun _ => True) v0_ r ∧ Below w.heap.size w w' := by
  unfold impl_dropped.f at h
  split at h
  · rename_i hh
    obtain rfl := Option.some.inj h
    exact dropped_calls l0 a1 a2 A0 c0 w hr0 hc0 hh
  · cases h
end

/-! ### impl_DropShadowed: function 5 -/
def impl_DropShadowed.f (k : Nat) (l0_0 : List (S50)) (a1 : Int) (a2 : Bool) : Option ((List (S50)) × Bool) := (impl_runOk.f k l0_0).bind fun t157 => (if t157 = true then ((impl_isSeq.f a1).bind fun t158 => (if t158 = true then ((impl_dropped.f l0_0 a1 a2).bind fun t159 => (some (t159, true))) else (some (([] : List (S50)), false)))) else (some (([] : List (S50)), false)))
theorem impl_DropShadowed.mono : ∀ a0 a1 a2 k, LeO (impl_DropShadowed.f k a0 a1 a2) (impl_DropShadowed.f (k + 1) a0 a1 a2) := by
  intro a0 a1 a2 k
  unfold impl_DropShadowed.f
  repeat' first
      | (with_reducible exact impl_runOk.mono _ _)
      | (with_reducible exact LeO.refl _)
      | (with_reducible exact LeO.none _)
      | (with_reducible refine LeO.ite ?_ ?_)
      | (with_reducible refine LeO.bind ?_ (fun _ => ?_))
      | exact impl_runOk.mono _ _
      | exact LeO.none _
      | refine LeO.ite ?_ ?_
      | refine LeO.bind ?_ (fun _ => ?_)
set_option maxHeartbeats 8000000 in
set_option maxRecDepth 100000 in
theorem impl_DropShadowed.calls (k : Nat) (A0_0 : Option Addr) (c0_0 : Nat) (l0_0 : List (S50)) (a1 : Int) (a2 : Bool) (r1 : List (S50)) (r2 : Bool) (w : World) (hr0_0 : Kd.C k50 w A0_0 l0_0.length l0_0) (hc0_0 : l0_0.length ≤ c0_0) (h : impl_DropShadowed.f k l0_0 a1 a2 = some (r1, r2)) :
    Calls Try.prog 5 #[.agg #[.slice A0_0 l0_0.length c0_0], .int .i64 a1, .bool a2] w fun e w' => ∃ v0_ : Value, e = .returned (.tuple #[.agg #[v0_], .bool r2]) ∧ Kd.R k50 50 w' w.heap.size (fun _ => True) v0_ r1 ∧ Below w.heap.size w w' := by
  have hu25 := Try.underlying25
  have HR0_0 := Aside0.mk hr0_0
  have HC0_0 := Aside0.mk hc0_0
  clear hr0_0 hc0_0
  have HB := Aside0.mk (Below.refl w.heap.size w)
  have H : ((impl_runOk.f k l0_0).bind fun t157 => (if t157 = true then ((impl_isSeq.f a1).bind fun t158 => (if t158 = true then ((impl_dropped.f l0_0 a1 a2).bind fun t159 => (some (t159, true))) else (some (([] : List (S50)), false)))) else (some (([] : List (S50)), false)))) = some (r1, r2) := h
  clear h
  replace H := Option.bind_eq_some_iff.mp H
  obtain ⟨t157, A40, H⟩ := H
  replace H : (if t157 = true then ((impl_isSeq.f a1).bind fun t158 => (if t158 = true then ((impl_dropped.f l0_0 a1 a2).bind fun t159 => (some (t159, true))) else (some (([] : List (S50)), false)))) else (some (([] : List (S50)), false))) = some (r1, r2) := H
  have A4 := Aside0.mk A40
  clear A40
  by_cases c5 : t157 = true
  · subst c5
    have H1 : ((impl_isSeq.f a1).bind fun t158 => (if t158 = true then ((impl_dropped.f l0_0 a1 a2).bind fun t159 => (some (t159, true))) else (some (([] : List (S50)), false)))) = some (r1, r2) := by rw [if_pos rfl] at H; exact H
    clear H
    have H := H1
    clear H1
    replace H := Option.bind_eq_some_iff.mp H
    obtain ⟨t158, A60, H⟩ := H
    replace H : (if t158 = true then ((impl_dropped.f l0_0 a1 a2).bind fun t159 => (some (t159, true))) else (some (([] : List (S50)), false))) = some (r1, r2) := H
    have A6 := Aside0.mk A60
    clear A60
    by_cases c7 : t158 = true
    · subst c7
      have H1 : ((impl_dropped.f l0_0 a1 a2).bind fun t159 => (some (t159, true))) = some (r1, r2) := by rw [if_pos rfl] at H; exact H
      clear H
      have H := H1
      clear H1
      replace H := Option.bind_eq_some_iff.mp H
      obtain ⟨t159, A80, H⟩ := H
      replace H : (some (t159, true)) = some (r1, r2) := H
      have A8 := Aside0.mk A80
      clear A80
      simp only [Option.some.injEq, Prod.mk.injEq] at H
      obtain ⟨rfl, rfl⟩ := H
      go_enter Try.func5, Try.ntmps5
      go_wp2_with (first | ((with_reducible refine gate_dst (N := 3) rfl ?_); refine box_event ?hg (N := 3) ?hd (cs := #[.slice A0_0 l0_0.length c0_0]) (t := 25) ?hr ?_; (case hd => rfl); (case hg => rfl); (case hr => first | (go_simp; done) | (go_simp; rfl)); intro gb155 hg w9 hbox hb; have n0_ := Aside0.mk (below_step (by repeat (first | (with_reducible first | exact HB.out | apply below_alloc | apply pw_below_drewN | apply below_drew1) | exact HB.out)) hb); have n1_ := Aside0.mk (hbox); have n2_ := Aside0.mk ((by rw [hg]; exact (below_size (by repeat (first | (with_reducible first | exact HB.out | apply below_alloc | apply pw_below_drewN | apply below_drew1) | exact HB.out))) : w.heap.size ≤ gb155)); have n3_ := Aside0.mk ((by rw [hg]; exact (below_size (by repeat (first | (with_reducible first | exact HB.out | apply below_alloc | apply pw_below_drewN | apply below_drew1) | exact HB.out))) : w.heap.size ≤ gb155)); clear HB; have HB := n0_; have BK155 := n1_; have GW155 := n2_; have GE155 := n3_; clear n0_ n1_ n2_ n3_; clear hb hbox hg) | ((with_reducible refine gate_dst (N := 6) rfl ?_); refine box_event ?hg (N := 6) ?hd (cs := #[.slice none 0 0]) (t := 25) ?hr ?_; (case hd => rfl); (case hg => rfl); (case hr => first | (go_simp; done) | (go_simp; rfl)); intro gb156 hg w10 hbox hb; have n0_ := Aside0.mk (blk_below (g := gb155) (o := .cells #[.slice A0_0 l0_0.length c0_0] 25 (0, 0)) (by (with_reducible repeat (first | refine blk_drewN ?_ _ | refine blk_drew ?_ | refine blk_alloc ?_ _)); exact BK155.out) hb); have n1_ := Aside0.mk (below_step (by repeat (first | (with_reducible first | exact HB.out | apply below_alloc | apply pw_below_drewN | apply below_drew1 | refine below_set ?_ GE155.out) | exact HB.out)) hb); have n2_ := Aside0.mk (hbox); have n3_ := Aside0.mk ((by rw [hg]; exact (below_size (by repeat (first | (with_reducible first | exact HB.out | apply below_alloc | apply pw_below_drewN | apply below_drew1 | refine below_set ?_ GE155.out) | exact HB.out))) : w.heap.size ≤ gb156)); have n4_ := Aside0.mk ((by rw [hg]; exact (below_size (by repeat (first | (with_reducible first | exact HB.out | apply below_alloc | apply pw_below_drewN | apply below_drew1 | refine below_set ?_ GE155.out) | exact HB.out))) : w.heap.size ≤ gb156)); have n5_ := Aside0.mk ((by rw [hg]; exact Nat.ne_of_lt (blk_lt (g := gb155) (o := .cells #[.slice A0_0 l0_0.length c0_0] 25 (0, 0)) (by (with_reducible repeat (first | refine blk_drewN ?_ _ | refine blk_drew ?_ | refine blk_alloc ?_ _)); exact BK155.out)) : gb155 ≠ gb156)); have n6_ := Aside0.mk ((by rw [hg]; exact Nat.ne_of_gt (blk_lt (g := gb155) (o := .cells #[.slice A0_0 l0_0.length c0_0] 25 (0, 0)) (by (with_reducible repeat (first | refine blk_drewN ?_ _ | refine blk_drew ?_ | refine blk_alloc ?_ _)); exact BK155.out)) : gb156 ≠ gb155)); clear BK155; clear HB; have BK155 := n0_; have HB := n1_; have BK156 := n2_; have GW156 := n3_; have GE156 := n4_; have NB155_156 := n5_; have NB156_155 := n6_; clear n0_ n1_ n2_ n3_ n4_ n5_ n6_; clear hb hbox hg; have hnb11 := NB155_156.out; have hnc11 := NB156_155.out; have hcz12_0 : w10.cell? ⟨gb155, 0, none⟩ = some (.slice A0_0 l0_0.length c0_0) := (blk_cell BK155.out 0).trans rfl; have hfz12_0 := blk_frozen BK155.out 0) | ((with_reducible refine gate_callee (f := 15) rfl ?_); refine goesL_ (some 9) rfl rfl Try.func15 (by kernel_rfl) rfl #[.agg #[.slice A0_0 l0_0.length c0_0]] rfl (by (try simp only [List.map_toArray, List.map_cons, List.map_nil]); first | done | rfl | (simp only [List.length_drop, List.length_take]; rfl)) ?_; (with_reducible refine (impl_runOk.calls k _ _ l0_0 true _ ?side1 ?side2 A4.out).mono ?_); (case side1 => repeat (first | exact (Kd.C_below HR0_0.out HB.out) | (with_reducible refine Kd.C_alloc ?_ _) | (with_reducible refine Kd.C_drewN ?_ _) | (with_reducible refine Kd.C_drew ?_))); (case side2 => exact HC0_0.out); rintro e w13 ⟨rfl, hb⟩; refine ⟨_, rfl, ?_⟩; have n0_ := Aside0.mk (blk_below (g := gb155) (o := .cells #[.slice A0_0 l0_0.length c0_0] 25 (0, 0)) (by (with_reducible repeat (first | refine blk_drewN ?_ _ | refine blk_drew ?_ | refine blk_alloc ?_ _)); exact BK155.out) hb); have n1_ := Aside0.mk (blk_below (g := gb156) (o := .cells #[.slice none 0 0] 25 (0, 0)) (by (with_reducible repeat (first | refine blk_drewN ?_ _ | refine blk_drew ?_ | refine blk_alloc ?_ _)); exact BK156.out) hb); have n2_ := Aside0.mk (below_step (by repeat (first | (with_reducible first | exact HB.out | apply below_alloc | apply pw_below_drewN | apply below_drew1 | refine below_set ?_ GE155.out | refine below_set ?_ GE156.out) | exact HB.out)) hb); clear BK155; clear BK156; clear HB; have BK155 := n0_; have BK156 := n1_; have HB := n2_; clear n0_ n1_ n2_; (try clear hb); (try clear hb2); (try clear hk); (try clear hi)) | (go_at_call 16; (with_reducible refine (impl_isSeq.calls a1 true _ A6.out).mono ?_); rintro e w' ⟨rfl, ⟨nd, rfl⟩⟩; (try (rw [drewN_self w13]; generalize hq_ : World.drewN w13 _ = w13; have n0_ : Aside0 (w13.heap[gb155]? = some (.cells #[.slice A0_0 l0_0.length c0_0] 25 (0, 0))) := ⟨by rw [← hq_]; exact (by (with_reducible repeat (first | refine blk_drewN ?_ _ | refine blk_drew ?_ | refine blk_alloc ?_ _)); exact BK155.out)⟩; have n1_ : Aside0 (w13.heap[gb156]? = some (.cells #[.slice none 0 0] 25 (0, 0))) := ⟨by rw [← hq_]; exact (by (with_reducible repeat (first | refine blk_drewN ?_ _ | refine blk_drew ?_ | refine blk_alloc ?_ _)); exact BK156.out)⟩; have n2_ : Aside0 (Below w.heap.size w w13) := ⟨by rw [← hq_]; exact (by repeat (first | (with_reducible first | exact HB.out | apply below_alloc | apply pw_below_drewN | apply below_drew1 | refine below_set ?_ GE155.out | refine below_set ?_ GE156.out) | exact HB.out))⟩; clear BK155 BK156 HB hq_; have BK155 := n0_; have BK156 := n1_; have HB := n2_; clear n0_ n1_ n2_)); have hcz14_0 : w13.cell? ⟨gb155, 0, none⟩ = some (.slice A0_0 l0_0.length c0_0) := (blk_cell BK155.out 0).trans rfl; have hfz14_0 := blk_frozen BK155.out 0) | ((with_reducible refine gate_callee (f := 17) rfl ?_); refine goesL_ (some 21) rfl rfl Try.func17 (by kernel_rfl) rfl #[.slice A0_0 l0_0.length c0_0, .int .i64 a1, .bool a2] rfl (by (try simp only [List.map_toArray, List.map_cons, List.map_nil]); first | done | rfl | (simp only [List.length_drop, List.length_take]; rfl)) ?_; (with_reducible refine (impl_dropped.calls _ _ l0_0 a1 a2 t159 _ ?side1 ?side2 A8.out).mono ?_); (case side1 => repeat (first | exact (Kd.C_below HR0_0.out HB.out) | (with_reducible refine Kd.C_alloc ?_ _) | (with_reducible refine Kd.C_drewN ?_ _) | (with_reducible refine Kd.C_drew ?_))); (case side2 => exact HC0_0.out); rintro e w15 ⟨v160, rfl, ho0, hb⟩; refine ⟨_, rfl, ?_⟩; have n0_ := Aside0.mk (Kd.R_lower ho0 (below_size (by repeat (first | (with_reducible first | exact HB.out | apply below_alloc | apply pw_below_drewN | apply below_drew1 | refine below_set ?_ GE155.out | refine below_set ?_ GE156.out) | exact HB.out)))); have n1_ := Aside0.mk (blk_below (g := gb155) (o := .cells #[.slice A0_0 l0_0.length c0_0] 25 (0, 0)) (by (with_reducible repeat (first | refine blk_drewN ?_ _ | refine blk_drew ?_ | refine blk_alloc ?_ _)); exact BK155.out) hb); have n2_ := Aside0.mk (blk_below (g := gb156) (o := .cells #[.slice none 0 0] 25 (0, 0)) (by (with_reducible repeat (first | refine blk_drewN ?_ _ | refine blk_drew ?_ | refine blk_alloc ?_ _)); exact BK156.out) hb); have n3_ := Aside0.mk (below_step (by repeat (first | (with_reducible first | exact HB.out | apply below_alloc | apply pw_below_drewN | apply below_drew1 | refine below_set ?_ GE155.out | refine below_set ?_ GE156.out) | exact HB.out)) hb); clear BK155; clear BK156; clear HB; have HO161 := n0_; have BK155 := n1_; have BK156 := n2_; have HB := n3_; clear n0_ n1_ n2_ n3_; (try clear hb); (try clear hb2); (try clear hk); (try clear hi); (try clear ho0); obtain ⟨Ao16, co16, eo16⟩ := Kd.R_slice HO161.out; subst eo16; have hcz17_0 : w15.cell? ⟨gb156, 0, none⟩ = some (.slice none 0 0) := (blk_cell BK156.out 0).trans rfl; have hfz17_0 := blk_frozen BK156.out 0))
      refine bodyPost_ret (results_ct rfl _ _ gb156 25 #[.slice Ao16 t159.length co16] (0, 0) _ rfl (by (with_reducible repeat (first | refine blk_drewN ?_ _ | refine blk_drew ?_ | refine blk_alloc ?_ _)); refine blk_put (cs := #[.slice none 0 0]) ?_ 0 _ rfl; (with_reducible repeat (first | refine blk_drewN ?_ _ | refine blk_drew ?_ | refine blk_alloc ?_ _)); exact BK156.out) Try.underlying25 rfl (by kernel_rfl)) rfl ?_
      exact ⟨_, by first | rfl | (simp [errW_none, errW_some] <;> rfl) | (simp [*, errW_none, errW_some] <;> rfl), by (with_reducible repeat (first | apply Kd.R_alloc | apply Kd.R_drewN | apply Kd.R_drew)); exact Kd.R_mono (Kd.R_far (p := ⟨gb156, 0, none⟩) (Kd.R_types HO161.out BK156.out (by decide)) (fun _ hk => hk.2) (.slice Ao16 t159.length co16)) (fun _ hk => trivial), by repeat (first | (with_reducible first | exact HB.out | apply below_alloc | apply pw_below_drewN | apply below_drew1 | refine below_set ?_ GE155.out | refine below_set ?_ GE156.out) | exact HB.out)⟩
    · replace c7 := Bool.eq_false_iff.mpr c7
      subst c7
      have H1 : (some (([] : List (S50)), false)) = some (r1, r2) := by rw [if_neg (show ¬ (false = true) by decide)] at H; exact H
      clear H
      have H := H1
      clear H1
      simp only [Option.some.injEq, Prod.mk.injEq] at H
      obtain ⟨rfl, rfl⟩ := H
      go_enter Try.func5, Try.ntmps5
      go_wp2_with (first | ((with_reducible refine gate_dst (N := 3) rfl ?_); refine box_event ?hg (N := 3) ?hd (cs := #[.slice A0_0 l0_0.length c0_0]) (t := 25) ?hr ?_; (case hd => rfl); (case hg => rfl); (case hr => first | (go_simp; done) | (go_simp; rfl)); intro gb155 hg w18 hbox hb; have n0_ := Aside0.mk (below_step (by repeat (first | (with_reducible first | exact HB.out | apply below_alloc | apply pw_below_drewN | apply below_drew1) | exact HB.out)) hb); have n1_ := Aside0.mk (hbox); have n2_ := Aside0.mk ((by rw [hg]; exact (below_size (by repeat (first | (with_reducible first | exact HB.out | apply below_alloc | apply pw_below_drewN | apply below_drew1) | exact HB.out))) : w.heap.size ≤ gb155)); have n3_ := Aside0.mk ((by rw [hg]; exact (below_size (by repeat (first | (with_reducible first | exact HB.out | apply below_alloc | apply pw_below_drewN | apply below_drew1) | exact HB.out))) : w.heap.size ≤ gb155)); clear HB; have HB := n0_; have BK155 := n1_; have GW155 := n2_; have GE155 := n3_; clear n0_ n1_ n2_ n3_; clear hb hbox hg) | ((with_reducible refine gate_dst (N := 6) rfl ?_); refine box_event ?hg (N := 6) ?hd (cs := #[.slice none 0 0]) (t := 25) ?hr ?_; (case hd => rfl); (case hg => rfl); (case hr => first | (go_simp; done) | (go_simp; rfl)); intro gb156 hg w19 hbox hb; have n0_ := Aside0.mk (blk_below (g := gb155) (o := .cells #[.slice A0_0 l0_0.length c0_0] 25 (0, 0)) (by (with_reducible repeat (first | refine blk_drewN ?_ _ | refine blk_drew ?_ | refine blk_alloc ?_ _)); exact BK155.out) hb); have n1_ := Aside0.mk (below_step (by repeat (first | (with_reducible first | exact HB.out | apply below_alloc | apply pw_below_drewN | apply below_drew1 | refine below_set ?_ GE155.out) | exact HB.out)) hb); have n2_ := Aside0.mk (hbox); have n3_ := Aside0.mk ((by rw [hg]; exact (below_size (by repeat (first | (with_reducible first | exact HB.out | apply below_alloc | apply pw_below_drewN | apply below_drew1 | refine below_set ?_ GE155.out) | exact HB.out))) : w.heap.size ≤ gb156)); have n4_ := Aside0.mk ((by rw [hg]; exact (below_size (by repeat (first | (with_reducible first | exact HB.out | apply below_alloc | apply pw_below_drewN | apply below_drew1 | refine below_set ?_ GE155.out) | exact HB.out))) : w.heap.size ≤ gb156)); have n5_ := Aside0.mk ((by rw [hg]; exact Nat.ne_of_lt (blk_lt (g := gb155) (o := .cells #[.slice A0_0 l0_0.length c0_0] 25 (0, 0)) (by (with_reducible repeat (first | refine blk_drewN ?_ _ | refine blk_drew ?_ | refine blk_alloc ?_ _)); exact BK155.out)) : gb155 ≠ gb156)); have n6_ := Aside0.mk ((by rw [hg]; exact Nat.ne_of_gt (blk_lt (g := gb155) (o := .cells #[.slice A0_0 l0_0.length c0_0] 25 (0, 0)) (by (with_reducible repeat (first | refine blk_drewN ?_ _ | refine blk_drew ?_ | refine blk_alloc ?_ _)); exact BK155.out)) : gb156 ≠ gb155)); clear BK155; clear HB; have BK155 := n0_; have HB := n1_; have BK156 := n2_; have GW156 := n3_; have GE156 := n4_; have NB155_156 := n5_; have NB156_155 := n6_; clear n0_ n1_ n2_ n3_ n4_ n5_ n6_; clear hb hbox hg; have hnb20 := NB155_156.out; have hnc20 := NB156_155.out; have hcz21_0 : w19.cell? ⟨gb155, 0, none⟩ = some (.slice A0_0 l0_0.length c0_0) := (blk_cell BK155.out 0).trans rfl; have hfz21_0 := blk_frozen BK155.out 0) | ((with_reducible refine gate_callee (f := 15) rfl ?_); refine goesL_ (some 9) rfl rfl Try.func15 (by kernel_rfl) rfl #[.agg #[.slice A0_0 l0_0.length c0_0]] rfl (by (try simp only [List.map_toArray, List.map_cons, List.map_nil]); first | done | rfl | (simp only [List.length_drop, List.length_take]; rfl)) ?_; (with_reducible refine (impl_runOk.calls k _ _ l0_0 true _ ?side1 ?side2 A4.out).mono ?_); (case side1 => repeat (first | exact (Kd.C_below HR0_0.out HB.out) | (with_reducible refine Kd.C_alloc ?_ _) | (with_reducible refine Kd.C_drewN ?_ _) | (with_reducible refine Kd.C_drew ?_))); (case side2 => exact HC0_0.out); rintro e w22 ⟨rfl, hb⟩; refine ⟨_, rfl, ?_⟩; have n0_ := Aside0.mk (blk_below (g := gb155) (o := .cells #[.slice A0_0 l0_0.length c0_0] 25 (0, 0)) (by (with_reducible repeat (first | refine blk_drewN ?_ _ | refine blk_drew ?_ | refine blk_alloc ?_ _)); exact BK155.out) hb); have n1_ := Aside0.mk (blk_below (g := gb156) (o := .cells #[.slice none 0 0] 25 (0, 0)) (by (with_reducible repeat (first | refine blk_drewN ?_ _ | refine blk_drew ?_ | refine blk_alloc ?_ _)); exact BK156.out) hb); have n2_ := Aside0.mk (below_step (by repeat (first | (with_reducible first | exact HB.out | apply below_alloc | apply pw_below_drewN | apply below_drew1 | refine below_set ?_ GE155.out | refine below_set ?_ GE156.out) | exact HB.out)) hb); clear BK155; clear BK156; clear HB; have BK155 := n0_; have BK156 := n1_; have HB := n2_; clear n0_ n1_ n2_; (try clear hb); (try clear hb2); (try clear hk); (try clear hi)) | (go_at_call 16; (with_reducible refine (impl_isSeq.calls a1 false _ A6.out).mono ?_); rintro e w' ⟨rfl, ⟨nd, rfl⟩⟩; (try (rw [drewN_self w22]; generalize hq_ : World.drewN w22 _ = w22; have n0_ : Aside0 (w22.heap[gb155]? = some (.cells #[.slice A0_0 l0_0.length c0_0] 25 (0, 0))) := ⟨by rw [← hq_]; exact (by (with_reducible repeat (first | refine blk_drewN ?_ _ | refine blk_drew ?_ | refine blk_alloc ?_ _)); exact BK155.out)⟩; have n1_ : Aside0 (w22.heap[gb156]? = some (.cells #[.slice none 0 0] 25 (0, 0))) := ⟨by rw [← hq_]; exact (by (with_reducible repeat (first | refine blk_drewN ?_ _ | refine blk_drew ?_ | refine blk_alloc ?_ _)); exact BK156.out)⟩; have n2_ : Aside0 (Below w.heap.size w w22) := ⟨by rw [← hq_]; exact (by repeat (first | (with_reducible first | exact HB.out | apply below_alloc | apply pw_below_drewN | apply below_drew1 | refine below_set ?_ GE155.out | refine below_set ?_ GE156.out) | exact HB.out))⟩; clear BK155 BK156 HB hq_; have BK155 := n0_; have BK156 := n1_; have HB := n2_; clear n0_ n1_ n2_)); have hcz23_0 : w22.cell? ⟨gb156, 0, none⟩ = some (.slice none 0 0) := (blk_cell BK156.out 0).trans rfl; have hfz23_0 := blk_frozen BK156.out 0))
      refine bodyPost_ret (results_ct rfl _ _ gb156 25 #[.slice none 0 0] (0, 0) _ rfl (by (with_reducible repeat (first | refine blk_drewN ?_ _ | refine blk_drew ?_ | refine blk_alloc ?_ _)); refine blk_put (cs := #[.slice none 0 0]) ?_ 0 _ rfl; (with_reducible repeat (first | refine blk_drewN ?_ _ | refine blk_drew ?_ | refine blk_alloc ?_ _)); exact BK156.out) Try.underlying25 rfl (by kernel_rfl)) rfl ?_
      exact ⟨_, by first | rfl | (simp [errW_none, errW_some] <;> rfl) | (simp [*, errW_none, errW_some] <;> rfl), by first | exact Kd.R_nil _ _ _ _ _ | exact Kd.N_nil _ _ _ _ _ | exact Kd.V_nil _ _ _ _ _ | exact Kd.Q_nil _ _ _ _ _ | exact Kd.S_nil _ _ _ _ _, by repeat (first | (with_reducible first | exact HB.out | apply below_alloc | apply pw_below_drewN | apply below_drew1 | refine below_set ?_ GE155.out | refine below_set ?_ GE156.out) | exact HB.out)⟩
  · replace c5 := Bool.eq_false_iff.mpr c5
    subst c5
    have H1 : (some (([] : List (S50)), false)) = some (r1, r2) := by rw [if_neg (show ¬ (false = true) by decide)] at H; exact H
    clear H
    have H := H1
    clear H1
    simp only [Option.some.injEq, Prod.mk.injEq] at H
    obtain ⟨rfl, rfl⟩ := H
    go_enter Try.func5, Try.ntmps5
    go_wp2_with (first | ((with_reducible refine gate_dst (N := 3) rfl ?_); refine box_event ?hg (N := 3) ?hd (cs := #[.slice A0_0 l0_0.length c0_0]) (t := 25) ?hr ?_; (case hd => rfl); (case hg => rfl); (case hr => first | (go_simp; done) | (go_simp; rfl)); intro gb155 hg w24 hbox hb; have n0_ := Aside0.mk (below_step (by repeat (first | (with_reducible first | exact HB.out | apply below_alloc | apply pw_below_drewN | apply below_drew1) | exact HB.out)) hb); have n1_ := Aside0.mk (hbox); have n2_ := Aside0.mk ((by rw [hg]; exact (below_size (by repeat (first | (with_reducible first | exact HB.out | apply below_alloc | apply pw_below_drewN | apply below_drew1) | exact HB.out))) : w.heap.size ≤ gb155)); have n3_ := Aside0.mk ((by rw [hg]; exact (below_size (by repeat (first | (with_reducible first | exact HB.out | apply below_alloc | apply pw_below_drewN | apply below_drew1) | exact HB.out))) : w.heap.size ≤ gb155)); clear HB; have HB := n0_; have BK155 := n1_; have GW155 := n2_; have GE155 := n3_; clear n0_ n1_ n2_ n3_; clear hb hbox hg) | ((with_reducible refine gate_dst (N := 6) rfl ?_); refine box_event ?hg (N := 6) ?hd (cs := #[.slice none 0 0]) (t := 25) ?hr ?_; (case hd => rfl); (case hg => rfl); (case hr => first | (go_simp; done) | (go_simp; rfl)); intro gb156 hg w25 hbox hb; have n0_ := Aside0.mk (blk_below (g := gb155) (o := .cells #[.slice A0_0 l0_0.length c0_0] 25 (0, 0)) (by (with_reducible repeat (first | refine blk_drewN ?_ _ | refine blk_drew ?_ | refine blk_alloc ?_ _)); exact BK155.out) hb); have n1_ := Aside0.mk (below_step (by repeat (first | (with_reducible first | exact HB.out | apply below_alloc | apply pw_below_drewN | apply below_drew1 | refine below_set ?_ GE155.out) | exact HB.out)) hb); have n2_ := Aside0.mk (hbox); have n3_ := Aside0.mk ((by rw [hg]; exact (below_size (by repeat (first | (with_reducible first | exact HB.out | apply below_alloc | apply pw_below_drewN | apply below_drew1 | refine below_set ?_ GE155.out) | exact HB.out))) : w.heap.size ≤ gb156)); have n4_ := Aside0.mk ((by rw [hg]; exact (below_size (by repeat (first | (with_reducible first | exact HB.out | apply below_alloc | apply pw_below_drewN | apply below_drew1 | refine below_set ?_ GE155.out) | exact HB.out))) : w.heap.size ≤ gb156)); have n5_ := Aside0.mk ((by rw [hg]; exact Nat.ne_of_lt (blk_lt (g := gb155) (o := .cells #[.slice A0_0 l0_0.length c0_0] 25 (0, 0)) (by (with_reducible repeat (first | refine blk_drewN ?_ _ | refine blk_drew ?_ | refine blk_alloc ?_ _)); exact BK155.out)) : gb155 ≠ gb156)); have n6_ := Aside0.mk ((by rw [hg]; exact Nat.ne_of_gt (blk_lt (g := gb155) (o := .cells #[.slice A0_0 l0_0.length c0_0] 25 (0, 0)) (by (with_reducible repeat (first | refine blk_drewN ?_ _ | refine blk_drew ?_ | refine blk_alloc ?_ _)); exact BK155.out)) : gb156 ≠ gb155)); clear BK155; clear HB; have BK155 := n0_; have HB := n1_; have BK156 := n2_; have GW156 := n3_; have GE156 := n4_; have NB155_156 := n5_; have NB156_155 := n6_; clear n0_ n1_ n2_ n3_ n4_ n5_ n6_; clear hb hbox hg; have hnb26 := NB155_156.out; have hnc26 := NB156_155.out; have hcz27_0 : w25.cell? ⟨gb155, 0, none⟩ = some (.slice A0_0 l0_0.length c0_0) := (blk_cell BK155.out 0).trans rfl; have hfz27_0 := blk_frozen BK155.out 0) | ((with_reducible refine gate_callee (f := 15) rfl ?_); refine goesL_ (some 9) rfl rfl Try.func15 (by kernel_rfl) rfl #[.agg #[.slice A0_0 l0_0.length c0_0]] rfl (by (try simp only [List.map_toArray, List.map_cons, List.map_nil]); first | done | rfl | (simp only [List.length_drop, List.length_take]; rfl)) ?_; (with_reducible refine (impl_runOk.calls k _ _ l0_0 false _ ?side1 ?side2 A4.out).mono ?_); (case side1 => repeat (first | exact (Kd.C_below HR0_0.out HB.out) | (with_reducible refine Kd.C_alloc ?_ _) | (with_reducible refine Kd.C_drewN ?_ _) | (with_reducible refine Kd.C_drew ?_))); (case side2 => exact HC0_0.out); rintro e w28 ⟨rfl, hb⟩; refine ⟨_, rfl, ?_⟩; have n0_ := Aside0.mk (blk_below (g := gb155) (o := .cells #[.slice A0_0 l0_0.length c0_0] 25 (0, 0)) (by (with_reducible repeat (first | refine blk_drewN ?_ _ | refine blk_drew ?_ | refine blk_alloc ?_ _)); exact BK155.out) hb); have n1_ := Aside0.mk (blk_below (g := gb156) (o := .cells #[.slice none 0 0] 25 (0, 0)) (by (with_reducible repeat (first | refine blk_drewN ?_ _ | refine blk_drew ?_ | refine blk_alloc ?_ _)); exact BK156.out) hb); have n2_ := Aside0.mk (below_step (by repeat (first | (with_reducible first | exact HB.out | apply below_alloc | apply pw_below_drewN | apply below_drew1 | refine below_set ?_ GE155.out | refine below_set ?_ GE156.out) | exact HB.out)) hb); clear BK155; clear BK156; clear HB; have BK155 := n0_; have BK156 := n1_; have HB := n2_; clear n0_ n1_ n2_; (try clear hb); (try clear hb2); (try clear hk); (try clear hi); have hcz29_0 : w28.cell? ⟨gb156, 0, none⟩ = some (.slice none 0 0) := (blk_cell BK156.out 0).trans rfl; have hfz29_0 := blk_frozen BK156.out 0))
    refine bodyPost_ret (results_ct rfl _ _ gb156 25 #[.slice none 0 0] (0, 0) _ rfl (by (with_reducible repeat (first | refine blk_drewN ?_ _ | refine blk_drew ?_ | refine blk_alloc ?_ _)); refine blk_put (cs := #[.slice none 0 0]) ?_ 0 _ rfl; (with_reducible repeat (first | refine blk_drewN ?_ _ | refine blk_drew ?_ | refine blk_alloc ?_ _)); exact BK156.out) Try.underlying25 rfl (by kernel_rfl)) rfl ?_
    exact ⟨_, by first | rfl | (simp [errW_none, errW_some] <;> rfl) | (simp [*, errW_none, errW_some] <;> rfl), by first | exact Kd.R_nil _ _ _ _ _ | exact Kd.N_nil _ _ _ _ _ | exact Kd.V_nil _ _ _ _ _ | exact Kd.Q_nil _ _ _ _ _ | exact Kd.S_nil _ _ _ _ _, by repeat (first | (with_reducible first | exact HB.out | apply below_alloc | apply pw_below_drewN | apply below_drew1 | refine below_set ?_ GE155.out | refine below_set ?_ GE156.out) | exact HB.out)⟩

/-! ### spec_l1In: function 33 -/
def spec_l1In.f (a0 : Int) (a1 : Int) (a2 : Int) : Option (Bool) := if a0 ≥ a1 then (some (decide (a0 ≤ a2))) else (some false)
set_option maxHeartbeats 8000000 in
set_option maxRecDepth 100000 in
theorem spec_l1In.calls (a0 : Int) (a1 : Int) (a2 : Int) (r : Bool) (w : World) (h : spec_l1In.f a0 a1 a2 = some r) :
    Calls Try.prog 33 #[.int .i64 a0, .int .i64 a1, .int .i64 a2] w fun e w' => e = .returned (.bool r) ∧ Drawn0 w w' := by
  have H : (if a0 ≥ a1 then (some (decide (a0 ≤ a2))) else (some false)) = some r := h
  clear h
  by_cases c4 : a0 ≥ a1
  · rw [if_pos c4] at H
    have c4b0 : decide (a1 ≤ a0) = true := decide_eq_true c4
    clear c4
    obtain rfl := Option.some.inj H
    go_enter Try.func33, Try.ntmps33
    go_wp2
    go_ret
    exact ⟨by first | rfl | (simp; done) | (simp [*]; done), by repeat (first | exact Drawn0.refl _ | apply Drawn0.step)⟩
  · rw [if_neg c4] at H
    have c4b0 : decide (a1 ≤ a0) = false := decide_eq_false c4
    clear c4
    obtain rfl := Option.some.inj H
    go_enter Try.func33, Try.ntmps33
    go_wp2
    go_ret
    exact ⟨by first | rfl | (simp; done) | (simp [*]; done), by repeat (first | exact Drawn0.refl _ | apply Drawn0.step)⟩

/-! ### spec_l4Seq: function 19 -/
def spec_l4Seq.f (a0 : Int) : Option (Bool) := (spec_l1In.f a0 0 1000000000).bind fun t162 => (some t162)
set_option maxHeartbeats 8000000 in
set_option maxRecDepth 100000 in
theorem spec_l4Seq.calls (a0 : Int) (r : Bool) (w : World) (h : spec_l4Seq.f a0 = some r) :
    Calls Try.prog 19 #[.int .i64 a0] w fun e w' => e = .returned (.bool r) ∧ Drawn0 w w' := by
  have H : ((spec_l1In.f a0 0 1000000000).bind fun t162 => (some t162)) = some r := h
  clear h
  replace H := Option.bind_eq_some_iff.mp H
  obtain ⟨t162, A20, H⟩ := H
  replace H : (some t162) = some r := H
  have A2 := Aside0.mk A20
  clear A20
  obtain rfl := Option.some.inj H
  go_enter Try.func19, Try.ntmps19
  go_wp2_with (first | ((with_reducible refine gate_callee (f := 33) rfl ?_); refine goesL_ (some 4) rfl rfl Try.func33 (by kernel_rfl) rfl #[.int .i64 a0, .int .i64 0, .int .i64 1000000000] rfl (by (try simp only [List.map_toArray, List.map_cons, List.map_nil]); first | done | rfl | (simp only [List.length_drop, List.length_take]; rfl)) ?_; (with_reducible refine (spec_l1In.calls a0 0 1000000000 t162 _ A2.out).mono ?_); rintro e w' ⟨rfl, ⟨nd, rfl⟩⟩; refine ⟨_, rfl, ?_⟩))
  go_ret
  exact ⟨by first | rfl | (simp; done) | (simp [*]; done), by repeat (first | exact Drawn0.refl _ | apply Drawn0.step)⟩

/-! ### spec_l4Key: function 52 -/
def spec_l4Key.f (a0 : ByteArray) : Option (Bool) := (spec_l1In.f (a0.size : Int) 1 16).bind fun t163 => (some t163)
set_option maxHeartbeats 8000000 in
set_option maxRecDepth 100000 in
theorem spec_l4Key.calls (a0 : ByteArray) (r : Bool) (w : World) (h : spec_l4Key.f a0 = some r) :
    Calls Try.prog 52 #[.string a0] w fun e w' => e = .returned (.bool r) ∧ Drawn0 w w' := by
  have H : ((spec_l1In.f (a0.size : Int) 1 16).bind fun t163 => (some t163)) = some r := h
  clear h
  replace H := Option.bind_eq_some_iff.mp H
  obtain ⟨t163, A20, H⟩ := H
  replace H : (some t163) = some r := H
  have A2 := Aside0.mk A20
  clear A20
  obtain rfl := Option.some.inj H
  go_enter Try.func52, Try.ntmps52
  go_wp2_with (first | ((with_reducible refine gate_callee (f := 33) rfl ?_); refine goesL_ (some 5) rfl rfl Try.func33 (by kernel_rfl) rfl #[.int .i64 (a0.size : Int), .int .i64 1, .int .i64 16] rfl (by (try simp only [List.map_toArray, List.map_cons, List.map_nil]); first | done | rfl | (simp only [List.length_drop, List.length_take]; rfl)) ?_; (with_reducible refine (spec_l1In.calls (a0.size : Int) 1 16 t163 _ A2.out).mono ?_); rintro e w' ⟨rfl, ⟨nd, rfl⟩⟩; refine ⟨_, rfl, ?_⟩))
  go_ret
  exact ⟨by first | rfl | (simp; done) | (simp [*]; done), by repeat (first | exact Drawn0.refl _ | apply Drawn0.step)⟩

/-! ### spec_GoodItem: function 41 -/
def spec_GoodItem.f (a0_0 : ByteArray) (a0_1 : Int) (a0_2 : Int) (a0_3 : ByteArray) : Option (Bool) := (spec_l4Key.f a0_0).bind fun t165 => (if t165 = true then ((spec_l4Seq.f a0_1).bind fun t166 => (if t166 = true then ((spec_l1In.f a0_2 0 1).bind fun t167 => (if t167 = true then (if (a0_3.size : Int) ≤ 40 then (if a0_2 = 1 then (some true) else (some (a0_3.toList == ([] : List UInt8)))) else (some false)) else (some false))) else (some false))) else (some false))
set_option maxHeartbeats 8000000 in
set_option maxRecDepth 100000 in
theorem spec_GoodItem.calls (a0_0 : ByteArray) (a0_1 : Int) (a0_2 : Int) (a0_3 : ByteArray) (r : Bool) (w : World) (h : spec_GoodItem.f a0_0 a0_1 a0_2 a0_3 = some r) :
    Calls Try.prog 41 #[.agg #[.string a0_0, .int .i64 a0_1, .int .i64 a0_2, .string a0_3]] w fun e w' => e = .returned (.bool r) ∧ Below w.heap.size w w' := by
  have hu50 := Try.underlying50
  have HB := Aside0.mk (Below.refl w.heap.size w)
  have H : ((spec_l4Key.f a0_0).bind fun t165 => (if t165 = true then ((spec_l4Seq.f a0_1).bind fun t166 => (if t166 = true then ((spec_l1In.f a0_2 0 1).bind fun t167 => (if t167 = true then (if (a0_3.size : Int) ≤ 40 then (if a0_2 = 1 then (some true) else (some (a0_3.toList == ([] : List UInt8)))) else (some false)) else (some false))) else (some false))) else (some false))) = some r := h
  clear h
  replace H := Option.bind_eq_some_iff.mp H
  obtain ⟨t165, A20, H⟩ := H
  replace H : (if t165 = true then ((spec_l4Seq.f a0_1).bind fun t166 => (if t166 = true then ((spec_l1In.f a0_2 0 1).bind fun t167 => (if t167 = true then (if (a0_3.size : Int) ≤ 40 then (if a0_2 = 1 then (some true) else (some (a0_3.toList == ([] : List UInt8)))) else (some false)) else (some false))) else (some false))) else (some false)) = some r := H
  have A2 := Aside0.mk A20
  clear A20
  by_cases c3 : t165 = true
  · subst c3
    have H1 : ((spec_l4Seq.f a0_1).bind fun t166 => (if t166 = true then ((spec_l1In.f a0_2 0 1).bind fun t167 => (if t167 = true then (if (a0_3.size : Int) ≤ 40 then (if a0_2 = 1 then (some true) else (some (a0_3.toList == ([] : List UInt8)))) else (some false)) else (some false))) else (some false))) = some r := by rw [if_pos rfl] at H; exact H
    clear H
    have H := H1
    clear H1
    replace H := Option.bind_eq_some_iff.mp H
    obtain ⟨t166, A40, H⟩ := H
    replace H : (if t166 = true then ((spec_l1In.f a0_2 0 1).bind fun t167 => (if t167 = true then (if (a0_3.size : Int) ≤ 40 then (if a0_2 = 1 then (some true) else (some (a0_3.toList == ([] : List UInt8)))) else (some false)) else (some false))) else (some false)) = some r := H
    have A4 := Aside0.mk A40
    clear A40
    by_cases c5 : t166 = true
    · subst c5
      have H1 : ((spec_l1In.f a0_2 0 1).bind fun t167 => (if t167 = true then (if (a0_3.size : Int) ≤ 40 then (if a0_2 = 1 then (some true) else (some (a0_3.toList == ([] : List UInt8)))) else (some false)) else (some false))) = some r := by rw [if_pos rfl] at H; exact H
      clear H
      have H := H1
      clear H1
      replace H := Option.bind_eq_some_iff.mp H
      obtain ⟨t167, A60, H⟩ := H
      replace H : (if t167 = true then (if (a0_3.size : Int) ≤ 40 then (if a0_2 = 1 then (some true) else (some (a0_3.toList == ([] : List UInt8)))) else (some false)) else (some false)) = some r := H
      have A6 := Aside0.mk A60
      clear A60
      by_cases c7 : t167 = true
      · subst c7
        have H1 : (if (a0_3.size : Int) ≤ 40 then (if a0_2 = 1 then (some true) else (some (a0_3.toList == ([] : List UInt8)))) else (some false)) = some r := by rw [if_pos rfl] at H; exact H
        clear H
        have H := H1
        clear H1
        by_cases c8 : (a0_3.size : Int) ≤ 40
        · rw [if_pos c8] at H
          have c8b0 : decide ((a0_3.size : Int) ≤ 40) = true := decide_eq_true c8
          have c8b1 : decide (a0_3.size ≤ 40) = true := decide_eq_true (by omega)
          clear c8
          by_cases c9 : a0_2 = 1
          · rw [if_pos c9] at H
            have c9b0 : (a0_2 == 1) = true := beq_iff_eq.mpr c9
            have c9b1 : (a0_2 != 1) = false := bne_eq_false_iff_eq.mpr c9
            clear c9
            obtain rfl := Option.some.inj H
            go_enter Try.func41, Try.ntmps41
            go_wp2_with (first | ((with_reducible refine gate_dst (N := 1) rfl ?_); (try (refine gate_guard (by rfl) ?_; dsimp only)); refine box_event ?hg (N := 1) ?hd (cs := #[.string a0_0, .int .i64 a0_1, .int .i64 a0_2, .string a0_3]) (t := 50) ?hr ?_; (case hd => rfl); (case hg => rfl); (case hr => first | (go_simp; done) | (go_simp; rfl)); intro gb164 hg w10 hbox hb; have n0_ := Aside0.mk (below_step (by repeat (first | (with_reducible first | exact HB.out | apply below_alloc | apply pw_below_drewN | apply below_drew1) | exact HB.out)) hb); have n1_ := Aside0.mk (hbox); have n2_ := Aside0.mk ((by rw [hg]; exact (below_size (by repeat (first | (with_reducible first | exact HB.out | apply below_alloc | apply pw_below_drewN | apply below_drew1) | exact HB.out))) : w.heap.size ≤ gb164)); have n3_ := Aside0.mk ((by rw [hg]; exact (below_size (by repeat (first | (with_reducible first | exact HB.out | apply below_alloc | apply pw_below_drewN | apply below_drew1) | exact HB.out))) : w.heap.size ≤ gb164)); clear HB; have HB := n0_; have BK164 := n1_; have GW164 := n2_; have GE164 := n3_; clear n0_ n1_ n2_ n3_; clear hb hbox hg; have hcz11_0 : w10.cell? ⟨gb164, 0, none⟩ = some (.string a0_0) := (blk_cell BK164.out 0).trans rfl; have hcz11_1 : w10.cell? ⟨gb164, 1, none⟩ = some (.int .i64 a0_1) := (blk_cell BK164.out 1).trans rfl; have hcz11_2 : w10.cell? ⟨gb164, 2, none⟩ = some (.int .i64 a0_2) := (blk_cell BK164.out 2).trans rfl; have hcz11_3 : w10.cell? ⟨gb164, 3, none⟩ = some (.string a0_3) := (blk_cell BK164.out 3).trans rfl; have hfz11_0 := blk_frozen BK164.out 0; have hfz11_1 := blk_frozen BK164.out 1; have hfz11_2 := blk_frozen BK164.out 2; have hfz11_3 := blk_frozen BK164.out 3) | ((with_reducible refine gate_callee (f := 52) rfl ?_); refine goesL_ (some 5) rfl rfl Try.func52 (by kernel_rfl) rfl #[.string a0_0] rfl (by (try simp only [List.map_toArray, List.map_cons, List.map_nil]); first | done | rfl | (simp only [List.length_drop, List.length_take]; rfl)) ?_; (with_reducible refine (spec_l4Key.calls a0_0 true _ A2.out).mono ?_); rintro e w' ⟨rfl, ⟨nd, rfl⟩⟩; refine ⟨_, rfl, ?_⟩) | (go_at_call 19; (with_reducible refine (spec_l4Seq.calls a0_1 true _ A4.out).mono ?_); rintro e w' ⟨rfl, ⟨nd, rfl⟩⟩) | (go_at_call 33; (with_reducible refine (spec_l1In.calls a0_2 0 1 true _ A6.out).mono ?_); rintro e w' ⟨rfl, ⟨nd, rfl⟩⟩))
            go_ret
            exact ⟨by first | rfl | (simp [errW_none, errW_some] <;> rfl) | (simp [*, errW_none, errW_some] <;> rfl), by repeat (first | (with_reducible first | exact HB.out | apply below_alloc | apply pw_below_drewN | apply below_drew1 | refine below_set ?_ GE164.out) | exact HB.out)⟩
          · rw [if_neg c9] at H
            have c9b0 : (a0_2 == 1) = false := beq_eq_false_iff_ne.mpr c9
            have c9b1 : (a0_2 != 1) = true := bne_iff_ne.mpr c9
            obtain rfl := Option.some.inj H
            go_enter Try.func41, Try.ntmps41
            go_wp2_with (first | ((with_reducible refine gate_dst (N := 1) rfl ?_); (try (refine gate_guard (by rfl) ?_; dsimp only)); refine box_event ?hg (N := 1) ?hd (cs := #[.string a0_0, .int .i64 a0_1, .int .i64 a0_2, .string a0_3]) (t := 50) ?hr ?_; (case hd => rfl); (case hg => rfl); (case hr => first | (go_simp; done) | (go_simp; rfl)); intro gb164 hg w12 hbox hb; have n0_ := Aside0.mk (below_step (by repeat (first | (with_reducible first | exact HB.out | apply below_alloc | apply pw_below_drewN | apply below_drew1) | exact HB.out)) hb); have n1_ := Aside0.mk (hbox); have n2_ := Aside0.mk ((by rw [hg]; exact (below_size (by repeat (first | (with_reducible first | exact HB.out | apply below_alloc | apply pw_below_drewN | apply below_drew1) | exact HB.out))) : w.heap.size ≤ gb164)); have n3_ := Aside0.mk ((by rw [hg]; exact (below_size (by repeat (first | (with_reducible first | exact HB.out | apply below_alloc | apply pw_below_drewN | apply below_drew1) | exact HB.out))) : w.heap.size ≤ gb164)); clear HB; have HB := n0_; have BK164 := n1_; have GW164 := n2_; have GE164 := n3_; clear n0_ n1_ n2_ n3_; clear hb hbox hg; have hcz13_0 : w12.cell? ⟨gb164, 0, none⟩ = some (.string a0_0) := (blk_cell BK164.out 0).trans rfl; have hcz13_1 : w12.cell? ⟨gb164, 1, none⟩ = some (.int .i64 a0_1) := (blk_cell BK164.out 1).trans rfl; have hcz13_2 : w12.cell? ⟨gb164, 2, none⟩ = some (.int .i64 a0_2) := (blk_cell BK164.out 2).trans rfl; have hcz13_3 : w12.cell? ⟨gb164, 3, none⟩ = some (.string a0_3) := (blk_cell BK164.out 3).trans rfl; have hfz13_0 := blk_frozen BK164.out 0; have hfz13_1 := blk_frozen BK164.out 1; have hfz13_2 := blk_frozen BK164.out 2; have hfz13_3 := blk_frozen BK164.out 3) | ((with_reducible refine gate_callee (f := 52) rfl ?_); refine goesL_ (some 5) rfl rfl Try.func52 (by kernel_rfl) rfl #[.string a0_0] rfl (by (try simp only [List.map_toArray, List.map_cons, List.map_nil]); first | done | rfl | (simp only [List.length_drop, List.length_take]; rfl)) ?_; (with_reducible refine (spec_l4Key.calls a0_0 true _ A2.out).mono ?_); rintro e w' ⟨rfl, ⟨nd, rfl⟩⟩; refine ⟨_, rfl, ?_⟩) | (go_at_call 19; (with_reducible refine (spec_l4Seq.calls a0_1 true _ A4.out).mono ?_); rintro e w' ⟨rfl, ⟨nd, rfl⟩⟩) | (go_at_call 33; (with_reducible refine (spec_l1In.calls a0_2 0 1 true _ A6.out).mono ?_); rintro e w' ⟨rfl, ⟨nd, rfl⟩⟩))
            go_ret
            exact ⟨by first | rfl | (simp [errW_none, errW_some] <;> rfl) | (simp [*, errW_none, errW_some] <;> rfl), by repeat (first | (with_reducible first | exact HB.out | apply below_alloc | apply pw_below_drewN | apply below_drew1 | refine below_set ?_ GE164.out) | exact HB.out)⟩
        · rw [if_neg c8] at H
          have c8b0 : decide ((a0_3.size : Int) ≤ 40) = false := decide_eq_false c8
          have c8b1 : decide (a0_3.size ≤ 40) = false := decide_eq_false (by omega)
          clear c8
          obtain rfl := Option.some.inj H
          go_enter Try.func41, Try.ntmps41
          go_wp2_with (first | ((with_reducible refine gate_dst (N := 1) rfl ?_); (try (refine gate_guard (by rfl) ?_; dsimp only)); refine box_event ?hg (N := 1) ?hd (cs := #[.string a0_0, .int .i64 a0_1, .int .i64 a0_2, .string a0_3]) (t := 50) ?hr ?_; (case hd => rfl); (case hg => rfl); (case hr => first | (go_simp; done) | (go_simp; rfl)); intro gb164 hg w14 hbox hb; have n0_ := Aside0.mk (below_step (by repeat (first | (with_reducible first | exact HB.out | apply below_alloc | apply pw_below_drewN | apply below_drew1) | exact HB.out)) hb); have n1_ := Aside0.mk (hbox); have n2_ := Aside0.mk ((by rw [hg]; exact (below_size (by repeat (first | (with_reducible first | exact HB.out | apply below_alloc | apply pw_below_drewN | apply below_drew1) | exact HB.out))) : w.heap.size ≤ gb164)); have n3_ := Aside0.mk ((by rw [hg]; exact (below_size (by repeat (first | (with_reducible first | exact HB.out | apply below_alloc | apply pw_below_drewN | apply below_drew1) | exact HB.out))) : w.heap.size ≤ gb164)); clear HB; have HB := n0_; have BK164 := n1_; have GW164 := n2_; have GE164 := n3_; clear n0_ n1_ n2_ n3_; clear hb hbox hg; have hcz15_0 : w14.cell? ⟨gb164, 0, none⟩ = some (.string a0_0) := (blk_cell BK164.out 0).trans rfl; have hcz15_1 : w14.cell? ⟨gb164, 1, none⟩ = some (.int .i64 a0_1) := (blk_cell BK164.out 1).trans rfl; have hcz15_2 : w14.cell? ⟨gb164, 2, none⟩ = some (.int .i64 a0_2) := (blk_cell BK164.out 2).trans rfl; have hcz15_3 : w14.cell? ⟨gb164, 3, none⟩ = some (.string a0_3) := (blk_cell BK164.out 3).trans rfl; have hfz15_0 := blk_frozen BK164.out 0; have hfz15_1 := blk_frozen BK164.out 1; have hfz15_2 := blk_frozen BK164.out 2; have hfz15_3 := blk_frozen BK164.out 3) | ((with_reducible refine gate_callee (f := 52) rfl ?_); refine goesL_ (some 5) rfl rfl Try.func52 (by kernel_rfl) rfl #[.string a0_0] rfl (by (try simp only [List.map_toArray, List.map_cons, List.map_nil]); first | done | rfl | (simp only [List.length_drop, List.length_take]; rfl)) ?_; (with_reducible refine (spec_l4Key.calls a0_0 true _ A2.out).mono ?_); rintro e w' ⟨rfl, ⟨nd, rfl⟩⟩; refine ⟨_, rfl, ?_⟩) | (go_at_call 19; (with_reducible refine (spec_l4Seq.calls a0_1 true _ A4.out).mono ?_); rintro e w' ⟨rfl, ⟨nd, rfl⟩⟩) | (go_at_call 33; (with_reducible refine (spec_l1In.calls a0_2 0 1 true _ A6.out).mono ?_); rintro e w' ⟨rfl, ⟨nd, rfl⟩⟩))
          go_ret
          exact ⟨by first | rfl | (simp [errW_none, errW_some] <;> rfl) | (simp [*, errW_none, errW_some] <;> rfl), by repeat (first | (with_reducible first | exact HB.out | apply below_alloc | apply pw_below_drewN | apply below_drew1 | refine below_set ?_ GE164.out) | exact HB.out)⟩
      · replace c7 := Bool.eq_false_iff.mpr c7
        subst c7
        have H1 : (some false) = some r := by rw [if_neg (show ¬ (false = true) by decide)] at H; exact H
        clear H
        have H := H1
        clear H1
        obtain rfl := Option.some.inj H
        go_enter Try.func41, Try.ntmps41
        go_wp2_with (first | ((with_reducible refine gate_dst (N := 1) rfl ?_); (try (refine gate_guard (by rfl) ?_; dsimp only)); refine box_event ?hg (N := 1) ?hd (cs := #[.string a0_0, .int .i64 a0_1, .int .i64 a0_2, .string a0_3]) (t := 50) ?hr ?_; (case hd => rfl); (case hg => rfl); (case hr => first | (go_simp; done) | (go_simp; rfl)); intro gb164 hg w16 hbox hb; have n0_ := Aside0.mk (below_step (by repeat (first | (with_reducible first | exact HB.out | apply below_alloc | apply pw_below_drewN | apply below_drew1) | exact HB.out)) hb); have n1_ := Aside0.mk (hbox); have n2_ := Aside0.mk ((by rw [hg]; exact (below_size (by repeat (first | (with_reducible first | exact HB.out | apply below_alloc | apply pw_below_drewN | apply below_drew1) | exact HB.out))) : w.heap.size ≤ gb164)); have n3_ := Aside0.mk ((by rw [hg]; exact (below_size (by repeat (first | (with_reducible first | exact HB.out | apply below_alloc | apply pw_below_drewN | apply below_drew1) | exact HB.out))) : w.heap.size ≤ gb164)); clear HB; have HB := n0_; have BK164 := n1_; have GW164 := n2_; have GE164 := n3_; clear n0_ n1_ n2_ n3_; clear hb hbox hg; have hcz17_0 : w16.cell? ⟨gb164, 0, none⟩ = some (.string a0_0) := (blk_cell BK164.out 0).trans rfl; have hcz17_1 : w16.cell? ⟨gb164, 1, none⟩ = some (.int .i64 a0_1) := (blk_cell BK164.out 1).trans rfl; have hcz17_2 : w16.cell? ⟨gb164, 2, none⟩ = some (.int .i64 a0_2) := (blk_cell BK164.out 2).trans rfl; have hcz17_3 : w16.cell? ⟨gb164, 3, none⟩ = some (.string a0_3) := (blk_cell BK164.out 3).trans rfl; have hfz17_0 := blk_frozen BK164.out 0; have hfz17_1 := blk_frozen BK164.out 1; have hfz17_2 := blk_frozen BK164.out 2; have hfz17_3 := blk_frozen BK164.out 3) | ((with_reducible refine gate_callee (f := 52) rfl ?_); refine goesL_ (some 5) rfl rfl Try.func52 (by kernel_rfl) rfl #[.string a0_0] rfl (by (try simp only [List.map_toArray, List.map_cons, List.map_nil]); first | done | rfl | (simp only [List.length_drop, List.length_take]; rfl)) ?_; (with_reducible refine (spec_l4Key.calls a0_0 true _ A2.out).mono ?_); rintro e w' ⟨rfl, ⟨nd, rfl⟩⟩; refine ⟨_, rfl, ?_⟩) | (go_at_call 19; (with_reducible refine (spec_l4Seq.calls a0_1 true _ A4.out).mono ?_); rintro e w' ⟨rfl, ⟨nd, rfl⟩⟩) | (go_at_call 33; (with_reducible refine (spec_l1In.calls a0_2 0 1 false _ A6.out).mono ?_); rintro e w' ⟨rfl, ⟨nd, rfl⟩⟩))
        go_ret
        exact ⟨by first | rfl | (simp [errW_none, errW_some] <;> rfl) | (simp [*, errW_none, errW_some] <;> rfl), by repeat (first | (with_reducible first | exact HB.out | apply below_alloc | apply pw_below_drewN | apply below_drew1 | refine below_set ?_ GE164.out) | exact HB.out)⟩
    · replace c5 := Bool.eq_false_iff.mpr c5
      subst c5
      have H1 : (some false) = some r := by rw [if_neg (show ¬ (false = true) by decide)] at H; exact H
      clear H
      have H := H1
      clear H1
      obtain rfl := Option.some.inj H
      go_enter Try.func41, Try.ntmps41
      go_wp2_with (first | ((with_reducible refine gate_dst (N := 1) rfl ?_); (try (refine gate_guard (by rfl) ?_; dsimp only)); refine box_event ?hg (N := 1) ?hd (cs := #[.string a0_0, .int .i64 a0_1, .int .i64 a0_2, .string a0_3]) (t := 50) ?hr ?_; (case hd => rfl); (case hg => rfl); (case hr => first | (go_simp; done) | (go_simp; rfl)); intro gb164 hg w18 hbox hb; have n0_ := Aside0.mk (below_step (by repeat (first | (with_reducible first | exact HB.out | apply below_alloc | apply pw_below_drewN | apply below_drew1) | exact HB.out)) hb); have n1_ := Aside0.mk (hbox); have n2_ := Aside0.mk ((by rw [hg]; exact (below_size (by repeat (first | (with_reducible first | exact HB.out | apply below_alloc | apply pw_below_drewN | apply below_drew1) | exact HB.out))) : w.heap.size ≤ gb164)); have n3_ := Aside0.mk ((by rw [hg]; exact (below_size (by repeat (first | (with_reducible first | exact HB.out | apply below_alloc | apply pw_below_drewN | apply below_drew1) | exact HB.out))) : w.heap.size ≤ gb164)); clear HB; have HB := n0_; have BK164 := n1_; have GW164 := n2_; have GE164 := n3_; clear n0_ n1_ n2_ n3_; clear hb hbox hg; have hcz19_0 : w18.cell? ⟨gb164, 0, none⟩ = some (.string a0_0) := (blk_cell BK164.out 0).trans rfl; have hcz19_1 : w18.cell? ⟨gb164, 1, none⟩ = some (.int .i64 a0_1) := (blk_cell BK164.out 1).trans rfl; have hcz19_2 : w18.cell? ⟨gb164, 2, none⟩ = some (.int .i64 a0_2) := (blk_cell BK164.out 2).trans rfl; have hcz19_3 : w18.cell? ⟨gb164, 3, none⟩ = some (.string a0_3) := (blk_cell BK164.out 3).trans rfl; have hfz19_0 := blk_frozen BK164.out 0; have hfz19_1 := blk_frozen BK164.out 1; have hfz19_2 := blk_frozen BK164.out 2; have hfz19_3 := blk_frozen BK164.out 3) | ((with_reducible refine gate_callee (f := 52) rfl ?_); refine goesL_ (some 5) rfl rfl Try.func52 (by kernel_rfl) rfl #[.string a0_0] rfl (by (try simp only [List.map_toArray, List.map_cons, List.map_nil]); first | done | rfl | (simp only [List.length_drop, List.length_take]; rfl)) ?_; (with_reducible refine (spec_l4Key.calls a0_0 true _ A2.out).mono ?_); rintro e w' ⟨rfl, ⟨nd, rfl⟩⟩; refine ⟨_, rfl, ?_⟩) | (go_at_call 19; (with_reducible refine (spec_l4Seq.calls a0_1 false _ A4.out).mono ?_); rintro e w' ⟨rfl, ⟨nd, rfl⟩⟩))
      go_ret
      exact ⟨by first | rfl | (simp [errW_none, errW_some] <;> rfl) | (simp [*, errW_none, errW_some] <;> rfl), by repeat (first | (with_reducible first | exact HB.out | apply below_alloc | apply pw_below_drewN | apply below_drew1 | refine below_set ?_ GE164.out) | exact HB.out)⟩
  · replace c3 := Bool.eq_false_iff.mpr c3
    subst c3
    have H1 : (some false) = some r := by rw [if_neg (show ¬ (false = true) by decide)] at H; exact H
    clear H
    have H := H1
    clear H1
    obtain rfl := Option.some.inj H
    go_enter Try.func41, Try.ntmps41
    go_wp2_with (first | ((with_reducible refine gate_dst (N := 1) rfl ?_); (try (refine gate_guard (by rfl) ?_; dsimp only)); refine box_event ?hg (N := 1) ?hd (cs := #[.string a0_0, .int .i64 a0_1, .int .i64 a0_2, .string a0_3]) (t := 50) ?hr ?_; (case hd => rfl); (case hg => rfl); (case hr => first | (go_simp; done) | (go_simp; rfl)); intro gb164 hg w20 hbox hb; have n0_ := Aside0.mk (below_step (by repeat (first | (with_reducible first | exact HB.out | apply below_alloc | apply pw_below_drewN | apply below_drew1) | exact HB.out)) hb); have n1_ := Aside0.mk (hbox); have n2_ := Aside0.mk ((by rw [hg]; exact (below_size (by repeat (first | (with_reducible first | exact HB.out | apply below_alloc | apply pw_below_drewN | apply below_drew1) | exact HB.out))) : w.heap.size ≤ gb164)); have n3_ := Aside0.mk ((by rw [hg]; exact (below_size (by repeat (first | (with_reducible first | exact HB.out | apply below_alloc | apply pw_below_drewN | apply below_drew1) | exact HB.out))) : w.heap.size ≤ gb164)); clear HB; have HB := n0_; have BK164 := n1_; have GW164 := n2_; have GE164 := n3_; clear n0_ n1_ n2_ n3_; clear hb hbox hg; have hcz21_0 : w20.cell? ⟨gb164, 0, none⟩ = some (.string a0_0) := (blk_cell BK164.out 0).trans rfl; have hcz21_1 : w20.cell? ⟨gb164, 1, none⟩ = some (.int .i64 a0_1) := (blk_cell BK164.out 1).trans rfl; have hcz21_2 : w20.cell? ⟨gb164, 2, none⟩ = some (.int .i64 a0_2) := (blk_cell BK164.out 2).trans rfl; have hcz21_3 : w20.cell? ⟨gb164, 3, none⟩ = some (.string a0_3) := (blk_cell BK164.out 3).trans rfl; have hfz21_0 := blk_frozen BK164.out 0; have hfz21_1 := blk_frozen BK164.out 1; have hfz21_2 := blk_frozen BK164.out 2; have hfz21_3 := blk_frozen BK164.out 3) | ((with_reducible refine gate_callee (f := 52) rfl ?_); refine goesL_ (some 5) rfl rfl Try.func52 (by kernel_rfl) rfl #[.string a0_0] rfl (by (try simp only [List.map_toArray, List.map_cons, List.map_nil]); first | done | rfl | (simp only [List.length_drop, List.length_take]; rfl)) ?_; (with_reducible refine (spec_l4Key.calls a0_0 false _ A2.out).mono ?_); rintro e w' ⟨rfl, ⟨nd, rfl⟩⟩; refine ⟨_, rfl, ?_⟩))
    go_ret
    exact ⟨by first | rfl | (simp [errW_none, errW_some] <;> rfl) | (simp [*, errW_none, errW_some] <;> rfl), by repeat (first | (with_reducible first | exact HB.out | apply below_alloc | apply pw_below_drewN | apply below_drew1 | refine below_set ?_ GE164.out) | exact HB.out)⟩

end Go.Proofs.Ythfhhfnimffpdaa.PFnShadowed
