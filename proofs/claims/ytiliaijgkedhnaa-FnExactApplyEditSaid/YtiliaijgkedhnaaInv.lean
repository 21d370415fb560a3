/- A region that draws its order of evaluation: one condition on what has come up, the frame and the world, for every order. Nothing of the program. -/
import Derived.Test.YtiliaijgkedhnaaKitB
import Derived.RegionTactic
namespace Go.Proofs.Ytiliaijgkedhnaa
open Go Go.RowKit

def upd (L : Nat → Bool) (i k : Nat) : Bool := bif k == i then true else L k
/-- Each operation waits only for earlier ones. -/
def lexOk (ops : Array Oper) : Bool := (List.range ops.size).all fun i => ((ops[i]?).map (fun o => o.after.all fun e => !Region.binds .any e || decide (e.on < i))).getD true

section
variable {P : Program} {ops : Array Oper} {Q : Exit → Act → World → Prop} {I : (Nat → Bool) → Act → World → Prop}
theorem upd_set {listed : Array Bool} {i : Nat} (h : i < listed.size) : upd (fun k => listed.getD k false) i = fun k => (listed.setIfInBounds i true).getD k false := by
  funext k
  unfold upd
  by_cases hk : k = i
  · subst hk
    simp [h]
  · have : (k == i) = false := by simpa using hk
    rw [this, cond_false, getD_set_ne false (Ne.symm hk)]
theorem all_listed {listed : Array Bool} (hsz : listed.size = ops.size) (hl : lexOk ops = true) (hr : Region.ready .any ops listed = []) : ∀ i, i < ops.size → listed.getD i false = true := by
  intro i
  induction i using Nat.strongRecOn with
  | ind i ih =>
    intro hi
    cases hc : listed.getD i false with
    | true => rfl
    | false =>
      exfalso
      have hm : i ∈ Region.ready .any ops listed := by
        rw [mem_ready]
        refine ⟨?_, ops[i], Array.getElem?_eq_getElem hi, fun e he hb => ?_⟩
        · have hlt : i < listed.size := by omega
          simp [hlt] at hc ⊢
          exact hc
        · have h1 := List.all_eq_true.1 hl i (List.mem_range.2 hi)
          rw [Array.getElem?_eq_getElem hi] at h1
          simp only [Option.map_some, Option.getD_some, Array.all_eq_true_iff_forall_mem] at h1
          have h2 := h1 e he
          rw [hb] at h2
          have h3 : e.on < i := by simpa using h2
          exact ih _ h3 (by omega)
      rw [hr] at hm
      cases hm
theorem wpAny_inv (hl : lexOk ops = true)
    (hs : ∀ (L : Nat → Bool) (a : Act) (w : World) (i : Nat) (o : Oper), ops[i]? = some o → L i = false → (∀ e ∈ o.after, Region.binds .any e = true → L e.on = true) → I L a w → wpOp P ops Q i (I (upd L i)) a w)
    (he : ∀ (L : Nat → Bool) (a : Act) (w : World), (∀ i, i < ops.size → L i = true) → I L a w → Q .normal a w) :
    ∀ (fuel : Nat) (listed : Array Bool) (a : Act) (w : World), listed.size = ops.size → listed.toList.countP (· == false) ≤ fuel → I (fun k => listed.getD k false) a w → wpAny P .any ops Q fuel listed a w := by
  intro fuel
  induction fuel with
  | zero =>
    intro listed a w hsz hc hI
    have hall : ∀ i, i < ops.size → listed.getD i false = true := by
      intro i hi
      have h0 : listed.toList.countP (· == false) = 0 := by omega
      rw [List.countP_eq_zero] at h0
      have hlt : i < listed.size := by omega
      have := h0 listed[i] (by simp)
      simpa [hlt] using this
    refine ⟨?_, he _ a w hall hI⟩
    unfold Region.ready
    rw [List.filter_eq_nil_iff]
    intro i hi
    have h1 := hall i (List.mem_range.1 hi)
    have hlt : i < listed.size := by rw [hsz]; exact List.mem_range.1 hi
    have h2 : listed.getD i true = true := by simp [hlt] at h1 ⊢; exact h1
    simp [h2]
  | succ fuel ih =>
    intro listed a w hsz hc hI
    refine ⟨fun hr => he _ a w (all_listed hsz hl hr) hI, fun i hi => ?_⟩
    obtain ⟨h0, o, ho, hall⟩ := mem_ready.1 hi
    have hio : i < ops.size := (Array.getElem?_eq_some_iff.1 ho).1
    have hlt : i < listed.size := by omega
    have h0' : listed.getD i false = false := by simp [hlt] at h0 ⊢; exact h0
    refine wpOp_mono (fun a' w' h => ?_) (hs (fun k => listed.getD k false) a w i o ho h0' hall hI)
    rw [upd_set hlt] at h
    refine ih _ a' w' (by simpa using hsz) ?_ h
    have hlt2 : i < listed.toList.length := by simpa using hlt
    have hx : listed.toList[i] = false := by simp [hlt] at h0'; simpa using h0'
    have h5 := List.countP_set (p := (· == false)) (l := listed.toList) (i := i) (a := true) hlt2
    have h6 : 0 < listed.toList.countP (· == false) := List.countP_pos_iff.2 ⟨listed.toList[i], List.getElem_mem hlt2, by rw [hx]; rfl⟩
    rw [hx] at h5
    simp only [show ((false : Bool) == false) = true from rfl, show ((true : Bool) == false) = false from rfl, if_true, Bool.false_eq_true, if_false, Nat.add_zero] at h5
    rw [Array.toList_setIfInBounds]
    omega
/-- **Every order**: I holds at the beginning, each operation that may come up keeps it, and it gives what is wanted when all have come up. -/
theorem wp_region_inv {id : Nat} {a : Act} {w : World} (I : (Nat → Bool) → Act → World → Prop) (hm : P.follows .mixedOrders = true) (hl : lexOk ops = true) (h0 : I (fun _ => false) a w.drew)
    (hs : ∀ (L : Nat → Bool) (a : Act) (w : World) (i : Nat) (o : Oper), ops[i]? = some o → L i = false → (∀ e ∈ o.after, Region.binds .any e = true → L e.on = true) → I L a w → wpOp P ops Q i (I (upd L i)) a w)
    (he : ∀ (L : Nat → Bool) (a : Act) (w : World), (∀ i, i < ops.size → L i = true) → I L a w → Q .normal a w) : (Code.region id ops true).wp P Q a w := by
  refine wp_region_any hm (wpAny_inv hl hs he ops.size _ a _ (by simp) ?_ ?_)
  · exact Nat.le_trans List.countP_le_length (by simp)
  · have : (fun k => (Array.replicate ops.size false).getD k false) = fun _ => false := by
      funext k
      by_cases h : k < ops.size <;> simp [h]
    rw [this]
    exact h0
/-- An operation without a guard. -/
theorem wpOp_do {i : Nat} {o : Oper} {a : Act} {w : World} {K : Act → World → Prop} (ho : ops[i]? = some o) (hg : o.guard = none) (h : ∀ K' : Act → World → Prop, (∀ a w, K a w → K' a w) → o.wp P a w K' Q) : wpOp P ops Q i K a w := by
  unfold wpOp
  rw [ho]
  simp only [Region.wanted, hg, if_true]
  exact .inl (h K (fun _ _ h => h))

/-- The frame, what has come up laid in: how many temporaries to pass over, whose it is, its value. -/
def layT (L : Nat → Bool) : List (Nat × Nat × Value) → List Value → List Value
  | [], xs => xs
  | _ :: _, [] => []
  | (0, i, v) :: t, x :: xs => (bif L i then v else x) :: layT L t xs
  | (n + 1, i, v) :: t, x :: xs => x :: layT L ((n, i, v) :: t) xs
def StepsT (F : Nat → Oper → Prop) : Nat → List Oper → Prop
  | _, [] => True
  | i, o :: os => F i o ∧ StepsT F (i + 1) os
theorem StepsT.at {F : Nat → Oper → Prop} : ∀ {l : List Oper} {k i : Nat} {o : Oper}, StepsT F k l → l[i]? = some o → F (k + i) o
  | [], _, _, _, _, h => by simp at h
  | x :: xs, k, 0, o, h, hi => by
    obtain rfl : x = o := by simpa using hi
    exact h.1
  | x :: xs, k, i + 1, o, h, hi => by
    have := StepsT.at (i := i) h.2 (by simpa using hi)
    rwa [show k + 1 + i = k + (i + 1) by omega] at this
def depsT (L : Nat → Bool) : List Edge → Prop
  | [] => True
  | e :: es => (Region.binds .any e = true → L e.on = true) ∧ depsT L es
theorem depsT_of {L : Nat → Bool} : ∀ {l : List Edge}, (∀ e ∈ l, Region.binds .any e = true → L e.on = true) → depsT L l
  | [], _ => trivial
  | e :: es, h => ⟨h e (by simp), depsT_of fun e he => h e (by simp [he])⟩
def doneT (L : Nat → Bool) : Nat → Prop
  | 0 => True
  | n + 1 => doneT L n ∧ L n = true
theorem doneT_of {L : Nat → Bool} : ∀ {n : Nat}, (∀ i, i < n → L i = true) → doneT L n
  | 0, _ => trivial
  | n + 1, h => ⟨doneT_of fun i hi => h i (by omega), h n (by omega)⟩
theorem do_wanted {P : Program} {Q : Exit → Act → World → Prop} {o : Oper} {f : Nat → Option Bool} {a : Act} {w : World} {K : Act → World → Prop} {E : Prop} (hg : o.guard = none) (h : o.wp P a w K Q) : if Region.wanted o f = true then o.wp P a w K Q else E := by
  rw [if_pos (by simp [Region.wanted, hg])]
  exact h
/-- **Every order, by a table**: G what is told of what comes up, 'tab' what each operation leaves in its temporary, R what holds of the world. -/
theorem wp_region_tab {G : Type} {id : Nat} {l0 : List Value} {ds : List Deferred} {w : World} {l : List Oper} (tab : G → List (Nat × Nat × Value)) (R : (Nat → Bool) → G → World → Prop) (g0 : G)
    (hm : P.follows .mixedOrders = true) (hl : lexOk l.toArray = true) (hi : ∀ g, layT (fun _ => false) (tab g) l0 = l0) (h0 : R (fun _ => false) g0 w.drew)
    (hs : StepsT (fun i o => ∀ (L : Nat → Bool) (g : G) (W : World), L i = false → depsT L o.after.toList → R L g W →
      ∀ K : Act → World → Prop, (∀ a' W', (∃ g', a' = ⟨(layT (upd L i) (tab g') l0).toArray, ds⟩ ∧ R (upd L i) g' W') → K a' W') →
        if Region.wanted o (yielded l.toArray (layT L (tab g) l0).toArray) = true then o.wp P ⟨(layT L (tab g) l0).toArray, ds⟩ W K Q else K (Act.put ⟨(layT L (tab g) l0).toArray, ds⟩ o.dst undef) W) 0 l)
    (he : ∀ (L : Nat → Bool) (g : G) (W : World), doneT L l.length → R L g W → Q .normal ⟨(layT L (tab g) l0).toArray, ds⟩ W) :
    (Code.region id l.toArray true).wp P Q ⟨l0.toArray, ds⟩ w := by
  refine wp_region_inv (fun L a W => ∃ g, a = ⟨(layT L (tab g) l0).toArray, ds⟩ ∧ R L g W) hm hl ⟨g0, by rw [hi], h0⟩ ?_ ?_
  · rintro L a W i o ho h1 h2 ⟨g, rfl, hR⟩
    have := StepsT.at (i := i) (o := o) hs (by simpa using ho)
    rw [Nat.zero_add] at this
    exact wpOp_step ho (this L g W h1 (depsT_of fun e he => h2 e (by simpa using he)) hR)
  · rintro L a W hall ⟨g, rfl, hR⟩
    exact he L g W (doneT_of (by simpa using hall)) hR
end
end Go.Proofs.Ytiliaijgkedhnaa
