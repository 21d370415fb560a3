/- Playing pieces: the plain law. -/
import Derived.Test.YtioelmhikablcaaPlA
import Derived.Test.YtioelmhikablcaaFiB
namespace Go.Proofs.Ytioelmhikablcaa
open Go Go.RowKit Go.Sort
set_option linter.unusedVariables false
set_option linter.unusedSimpArgs false

/-- A taking in order. -/
def InvT (ws : List DWanted) (xs : List DChunk) : Prop := xs.length ≤ 200 ∧ Ord xs ∧ ∀ z ∈ xs, chGood ws z = true
theorem inv_nil (ws : List DWanted) : InvT ws [] := ⟨by simp, fun a b h => absurd h (by simp), by simp⟩
theorem got_mk {ws : List DWanted} : ∀ (xs : List DChunk) (p : Option DChunk), (∀ z, p = some z → ∀ h : 0 < xs.length, chLess z xs[0] = true) → Ord xs → (∀ z ∈ xs, chGood ws z = true) → gotFrom ws p xs = true
  | [], _, _, _, _ => rfl
  | x :: xs, p, hp, ho, hg => by
    have h1 : gotFrom ws (some x) xs = true := got_mk xs (some x) (fun z hz h => by
      cases hz
      exact ho 0 1 (by simpa using h) (by omega)) (fun a b hb hab => ho (a + 1) (b + 1) (by simpa using hb) (by omega)) (fun z hz => hg z (List.mem_cons_of_mem _ hz))
    have h2 := hg x (by simp)
    have h3 : gotPrev p x = true := by
      cases p with
      | none => rfl
      | some z => exact hp z rfl (by simp)
    simp [gotFrom, h1, h2, h3]
theorem tk_mk {ws : List DWanted} {xs : List DChunk} (hw : wantOk ws = true) (h : InvT ws xs) : tkOk ws xs = true := by
  rw [tkOk, hw, decide_eq_true h.1, got_mk xs none (fun z hz => by cases hz) h.2.1 h.2.2]
  rfl
theorem chLess_trans {x y z : DChunk} (h1 : chLess x y = true) (h2 : chLess y z = true) : chLess x z = true := by
  rw [chLess_iff] at *
  unfold ltP at *
  omega
theorem bsI_facts {xs : List DChunk} (ho : Ord xs) (y : DChunk) : (∀ j (h : j < xs.length), j < bsI xs y → ordC xs[j] y < 0) ∧ ∀ j (h : j < xs.length), bsI xs y ≤ j → 0 ≤ ordC xs[j] y := by
  -- the first place whose piece is not less
  have key : ∀ n, n ≤ xs.length → (∀ j (h : j < xs.length), j < n → ordC xs[j] y < 0) → ∃ k, k ≤ xs.length ∧ (∀ j (h : j < xs.length), j < k → ordC xs[j] y < 0) ∧ ∀ h : k < xs.length, chLess xs[k] y = false := by
    intro n hn hl
    induction hm : xs.length - n generalizing n with
    | zero => exact ⟨n, hn, hl, fun h => by omega⟩
    | succ m ih =>
      by_cases hc : chLess (xs[n]'(by omega)) y = true
      · exact ih (n + 1) (by omega) (fun j hj hjn => by
          by_cases e : j = n
          · subst e; exact less_ord hc
          · exact hl j hj (by omega)) (by omega)
      · exact ⟨n, hn, hl, fun h => by simpa using hc⟩
  obtain ⟨k, hk, h1, h2⟩ := key 0 (Nat.zero_le _) (fun j _ h => absurd h (by omega))
  have h3 := (stop_bs ho hk h1 h2).1
  rw [h3]
  refine ⟨h1, fun j hj hkj => ?_⟩
  have h4 := notless_ord (h2 (by omega))
  by_cases hq : ordC xs[j] y < 0
  · have := ord_mono ho y k j hj hkj hq; omega
  · omega
theorem inv_step {ws : List DWanted} {xs : List DChunk} (h : InvT ws xs) (y : DChunk) : InvT ws (tkX ws xs y) := by
  unfold tkX
  split
  case isFalse => exact h
  case isTrue hN =>
    obtain ⟨hl, ho, hg⟩ := h
    rw [tkN, Bool.and_eq_true, Bool.and_eq_true, Bool.not_eq_true', decide_eq_true_eq] at hN
    obtain ⟨hy, hm, hne⟩ := hN
    obtain ⟨f1, f2⟩ := bsI_facts ho y
    have hb := bsI_le xs y
    have hne2 : ∀ j (h : j < xs.length), ordC xs[j] y ≠ 0 := fun j hj h0 => by
      have h5 : memC xs y.fFile y.fAt = true := by
        rw [memC, List.any_eq_true]
        exact ⟨xs[j], List.getElem_mem hj, by rw [decide_eq_true_eq]; exact ordC_eq.1 h0⟩
      rw [h5] at hm; cases hm
    generalize bsI xs y = k at *
    have hlen : (xs.take k ++ y :: xs.drop k).length = xs.length + 1 := by
      rw [List.length_append, List.length_cons, List.length_take, List.length_drop]; omega
    have less_y : ∀ j (h : j < xs.length), j < k → chLess xs[j] y = true := fun j hj hjk => chLess_iff.2 (ordC_lt.1 (f1 j hj hjk))
    have y_less : ∀ j (h : j < xs.length), k ≤ j → chLess y xs[j] = true := fun j hj hjk => by
      have h6 := f2 j hj hjk
      have h7 := hne2 j hj
      rw [chLess_iff]
      have h8 : ¬ ltP xs[j] y.fFile y.fAt := fun h => by have := ordC_lt.2 h; omega
      have h9 : ¬ eqP xs[j] y.fFile y.fAt := fun h => h7 (ordC_eq.2 h)
      unfold ltP at *
      unfold eqP at h9
      omega
    have at_ : ∀ j (h : j < (xs.take k ++ y :: xs.drop k).length), (xs.take k ++ y :: xs.drop k)[j] = if h1 : j < k then xs[j]'(by omega) else if h2 : j = k then y else xs[j - 1]'(by omega) := fun j hj => by
      by_cases h1 : j < k
      · rw [dif_pos h1, List.getElem_append_left (by rw [List.length_take]; omega), List.getElem_take]
      · rw [dif_neg h1, List.getElem_append_right (by rw [List.length_take]; omega)]
        by_cases h2 : j = k
        · subst h2
          rw [dif_pos rfl]
          simp [List.length_take, Nat.min_eq_left hb]
        · rw [dif_neg h2]
          have h3 : j - (xs.take k).length = (j - 1 - k) + 1 := by rw [List.length_take]; omega
          simp only [h3, List.getElem_cons_succ, List.getElem_drop]
          congr 1
          omega
    refine ⟨by rw [hlen]; omega, fun a b hb2 hab => ?_, fun z hz => ?_⟩
    · rw [at_ a (by omega), at_ b hb2]
      by_cases a1 : a < k
      · rw [dif_pos a1]
        by_cases b1 : b < k
        · rw [dif_pos b1]; exact ho a b (by omega) hab
        · rw [dif_neg b1]
          by_cases b2 : b = k
          · rw [dif_pos b2]; exact less_y a (by omega) a1
          · rw [dif_neg b2]; exact ho a (b - 1) (by omega) (by omega)
      · rw [dif_neg a1]
        by_cases a2 : a = k
        · rw [dif_pos a2, dif_neg (by omega), dif_neg (by omega)]
          exact y_less (b - 1) (by omega) (by omega)
        · rw [dif_neg a2, dif_neg (by omega), dif_neg (by omega)]
          exact ho (a - 1) (b - 1) (by omega) (by omega)
    · rcases List.mem_append.1 hz with hz | hz
      · exact hg z (List.mem_of_mem_take hz)
      · rcases List.mem_cons.1 hz with rfl | hz
        · exact hy
        · exact hg z (List.mem_of_mem_drop hz)
def zC : DChunk := ⟨0, 0, ⟨#[]⟩, 0⟩
/-- What is taken behind i pieces, and how many. -/
def plS (ws : List DWanted) (cs : List DChunk) (od fl : List Int) : Nat → List DChunk × Int
  | 0 => ([], 0)
  | i + 1 =>
    if inR (od.getD i 0) 0 ((cs.length : Int) - 1) then
      (tkX ws (plS ws cs od fl i).1 ⟨(cs.getD (od.getD i 0).toNat zC).fFile, (cs.getD (od.getD i 0).toNat zC).fAt, flT (cs.getD (od.getD i 0).toNat zC).fData (fl.getD i 0), (cs.getD (od.getD i 0).toNat zC).fSum⟩,
        (plS ws cs od fl i).2 + if tkB ws (plS ws cs od fl i).1 ⟨(cs.getD (od.getD i 0).toNat zC).fFile, (cs.getD (od.getD i 0).toNat zC).fAt, flT (cs.getD (od.getD i 0).toNat zC).fData (fl.getD i 0), (cs.getD (od.getD i 0).toNat zC).fSum⟩ then 1 else 0)
    else plS ws cs od fl i
theorem plS_inv (ws : List DWanted) (cs : List DChunk) (od fl : List Int) : ∀ i, InvT ws (plS ws cs od fl i).1 ∧ 0 ≤ (plS ws cs od fl i).2 ∧ (plS ws cs od fl i).2 ≤ i
  | 0 => ⟨inv_nil ws, Int.le_refl _, Int.le_refl _⟩
  | i + 1 => by
    have ih := plS_inv ws cs od fl i
    rw [plS]
    split
    · refine ⟨inv_step ih.1 _, ?_, ?_⟩ <;> (dsimp only; split <;> omega)
    · exact ⟨ih.1, ih.2.1, by omega⟩
theorem wt_ok {xs : List ByteArray} (h : filesOk xs = true) : wantOk (xs.map wtOf) = true := by
  obtain ⟨h1, h2⟩ := filesOk_le h
  rw [wantOk, List.length_map, decide_eq_true (by omega), Bool.true_and, Bool.not_eq_true', List.any_eq_false]
  intro m hm
  obtain ⟨s, hs, rfl⟩ := List.mem_map.1 hm
  have h3 := h2 s hs
  rw [wantB, wtOf]
  have : inR (s.size : Int) 0 4000 = true := inR_iff.2 ⟨by omega, by omega⟩
  rw [this]
  simp
def plOk (fs : List ByteArray) (od fl : List Int) : Bool := chOk fs && (decide (od.length ≤ 400) && decide (fl.length = od.length))
def plX (fs : List ByteArray) (od fl : List Int) : List DChunk := (plS (fs.map wtOf) (chV fs) od fl od.length).1
def plV (fs : List ByteArray) (od fl : List Int) : List ByteArray := if plOk fs od fl then finR (fs.map wtOf) (plX fs od fl) else []
def plM (fs : List ByteArray) (od fl : List Int) : Int := if plOk fs od fl then (plS (fs.map wtOf) (chV fs) od fl od.length).2 else 0
theorem finV_inv {ws : List DWanted} {xs : List DChunk} (h : tkOk ws xs = true) : finV ws xs = finR ws xs := by
  rw [finV, finOk, h, Bool.true_and, finR]
theorem chV_size {fs : List ByteArray} : ∀ z ∈ chV fs, z.fData.size ≤ 64 := by
  have key : ∀ f s j, ∀ z ∈ chL f s j, z.fData.size ≤ 64 := by
    intro f s j
    induction j with
    | zero => intro z hz; simp [chL] at hz
    | succ j ih =>
      intro z hz
      rw [chL] at hz
      rcases List.mem_append.1 hz with hz | hz
      · exact ih z hz
      · rw [List.mem_singleton] at hz
        subst hz
        exact cutT_size s _
  have key2 : ∀ k, ∀ z ∈ chA fs k, z.fData.size ≤ 64 := by
    intro k
    induction k with
    | zero => intro z hz; simp [chA] at hz
    | succ k ih =>
      intro z hz
      rw [chA] at hz
      rcases List.mem_append.1 hz with hz | hz
      · exact ih z hz
      · exact key _ _ _ z hz
  intro z hz
  unfold chV at hz
  split at hz
  · exact key2 _ z hz
  · cases hz
theorem chV_len {fs : List ByteArray} : (chV fs).length ≤ 200 := by
  unfold chV
  split
  · rename_i h
    rw [Bool.and_eq_true, decide_eq_true_eq] at h
    exact h.2
  · exact Nat.zero_le _
end Go.Proofs.Ytioelmhikablcaa
