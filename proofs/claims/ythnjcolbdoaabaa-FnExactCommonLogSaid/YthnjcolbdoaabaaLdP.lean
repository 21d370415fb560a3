/- Leaders, in order: the plain law. -/
import Derived.Test.YthnjcolbdoaabaaHiB
import Derived.Test.YthnjcolbdoaabaaMkE
namespace Go.Proofs.Ythnjcolbdoaabaa
open Go Go.RowKit Go.Sort
set_option linter.unusedVariables false
set_option linter.unusedSimpArgs false

def leadOf (n : DRaftNode) : DLead := ⟨n.fTerm, n.fId⟩
def ldI (xs : List DRaftNode) : List DLead := (xs.filter fun n => n.fRole == 2).map leadOf
def ldT (xs : List DRaftNode) (t : Nat) : List DLead := (xs.filter fun n => (n.fRole == 2) && (n.fTerm == ((t + 1 : Nat) : Int))).map leadOf
def ldS (xs : List DRaftNode) (n : Nat) : List DLead := (List.range n).flatMap (ldT xs)
theorem ldS_succ (xs : List DRaftNode) (n : Nat) : ldS xs (n + 1) = ldS xs n ++ ldT xs n := by
  simp [ldS, List.range_succ, List.flatMap_append]
def leL (a b : DLead) : Prop := a.fTerm < b.fTerm ∨ (a.fTerm = b.fTerm ∧ a.fNode ≤ b.fNode)
theorem filter_or_perm {α : Type} {p q r : α → Bool} (hr : ∀ x, r x = (p x || q x)) (hd : ∀ x, p x = true → q x = false) : ∀ xs : List α, List.Perm (xs.filter p ++ xs.filter q) (xs.filter r)
  | [] => by simp
  | x :: xs => by
    have ih := filter_or_perm hr hd xs
    have h1 := hr x
    have h2 := hd x
    cases hp : p x <;> cases hq : q x <;> simp [hp, hq] at h1 h2
    · simpa [hp, hq, h1] using ih
    · simp only [List.filter_cons, hp, hq, h1]
      exact List.perm_middle.trans (ih.cons x)
    · simp only [List.filter_cons, hp, hq, h1]
      exact ih.cons x
theorem ldS_perm (xs : List DRaftNode) : ∀ n, List.Perm (ldS xs n) ((xs.filter fun x => (x.fRole == 2) && (decide (1 ≤ x.fTerm) && decide (x.fTerm ≤ (n : Int)))).map leadOf)
  | 0 => by
    have : (xs.filter fun x => (x.fRole == 2) && (decide (1 ≤ x.fTerm) && decide (x.fTerm ≤ ((0 : Nat) : Int)))) = [] := by
      rw [List.filter_eq_nil_iff]
      intro x _
      simp
      omega
    rw [this]
    exact List.Perm.refl _
  | n + 1 => by
    rw [ldS_succ]
    refine ((ldS_perm xs n).append_right _).trans ?_
    rw [ldT, ← List.map_append]
    refine List.Perm.map _ (filter_or_perm (fun x => ?_) (fun x => ?_) xs)
    · rw [← Bool.and_or_distrib_left]
      congr 1
      rw [Bool.eq_iff_iff]
      simp
      omega
    · simp
      omega
theorem ldS_all {xs : List DRaftNode} {n : Nat} (h : ∀ x ∈ xs, x.fRole = 2 → 1 ≤ x.fTerm ∧ x.fTerm ≤ n) : List.Perm (ldS xs n) (ldI xs) := by
  refine (ldS_perm xs n).trans ?_
  rw [ldI]
  refine List.Perm.map _ (List.Perm.of_eq ?_)
  apply List.filter_congr
  intro x hx
  cases hr : (x.fRole == 2)
  · rfl
  · have := h x hx (by simpa using hr)
    simp [this.1, this.2]
theorem ldS_sorted {xs : List DRaftNode} (h : xs.Pairwise fun a b => a.fId ≤ b.fId) (n : Nat) : (ldS xs n).Pairwise leL := by
  rw [ldS, List.pairwise_flatMap]
  refine ⟨fun t _ => ?_, ?_⟩
  · rw [ldT, List.pairwise_map]
    refine ((h.filter _).imp_of_mem ?_)
    intro a b ha hb hab
    have h1 := (List.mem_filter.1 ha).2
    have h2 := (List.mem_filter.1 hb).2
    simp at h1 h2
    exact .inr ⟨by simp [leadOf]; omega, hab⟩
  · refine List.pairwise_lt_range.imp ?_
    intro s t hst x hx y hy
    obtain ⟨a, ha, rfl⟩ := List.mem_map.1 hx
    obtain ⟨b, hb, rfl⟩ := List.mem_map.1 hy
    have h1 := (List.mem_filter.1 ha).2
    have h2 := (List.mem_filter.1 hb).2
    simp at h1 h2
    exact .inl (by simp [leadOf]; omega)
theorem leL_anti {a b : DLead} (h1 : leL a b) (h2 : leL b a) : a = b := by
  cases a; cases b
  simp only [leL] at h1 h2
  simp only [DLead.mk.injEq]
  omega
/-- What sorts the leaders is the one list. -/
theorem ld_eq {xs : List DRaftNode} {ys : List DLead} {n : Nat} (hi : xs.Pairwise fun a b => a.fId ≤ b.fId) (h : ∀ x ∈ xs, x.fRole = 2 → 1 ≤ x.fTerm ∧ x.fTerm ≤ n) (hp : List.Perm ys (ldI xs)) (hs : ys.Pairwise leL) : ys = ldS xs n :=
  List.Perm.eq_of_pairwise (le := leL) (fun a b _ _ h1 h2 => leL_anti h1 h2) hs (ldS_sorted hi n) (hp.trans (ldS_all h).symm)
theorem clu_at {x : DCluster} (h : cluOk x = true) (k : Nat) (hk : k < x.fNodes.length) : x.fNodes[k].fId = (k : Int) ∧ nodeOk x.fNodes[k] = true := by
  simp only [cluOk, cntC, Bool.and_eq_true] at h
  obtain ⟨⟨⟨_, ha⟩, _⟩, _⟩ := h
  have := List.all_eq_true.1 ha k (List.mem_range.2 hk)
  rw [nodeAt_at hk, Bool.and_eq_true, Bool.and_eq_true] at this
  exact ⟨by simpa using this.1.1, this.2⟩
theorem clu_ids {x : DCluster} (h : cluOk x = true) : x.fNodes.Pairwise fun a b => a.fId ≤ b.fId := by
  rw [List.pairwise_iff_getElem]
  intro i j hi hj hij
  rw [(clu_at h i hi).1, (clu_at h j hj).1]
  omega
theorem node_term {y : DRaftNode} (h : nodeOk y = true) (hr : y.fRole = 2) : 1 ≤ y.fTerm ∧ y.fTerm ≤ 1000 := by
  obtain ⟨_, _, _, _, _, h2, _⟩ := nodeOk_facts h
  simp only [nodeOk, roleN, Bool.and_eq_true] at h
  have hr2 := h.1.1.2
  simp [hr] at hr2
  exact ⟨hr2.2, h2⟩
theorem clu_terms {x : DCluster} (h : cluOk x = true) : ∀ y ∈ x.fNodes, y.fRole = 2 → 1 ≤ y.fTerm ∧ y.fTerm ≤ ((1000 : Nat) : Int) := fun y hy hr => by
  obtain ⟨k, hk, rfl⟩ := List.mem_iff_getElem.1 hy
  exact node_term (clu_at h k hk).2 hr
def ldV (x : DCluster) : List DLead := if cluOk x then ldS x.fNodes 1000 else []
end Go.Proofs.Ythnjcolbdoaabaa
