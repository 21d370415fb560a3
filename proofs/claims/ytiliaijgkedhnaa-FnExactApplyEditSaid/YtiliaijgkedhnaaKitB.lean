/- More helpers for walks. Nothing of the program. -/
import Derived.Test.YtiliaijgkedhnaaKit
import Derived.Deep.Light
import Derived.Deep.CutRange
namespace Go.Proofs.Ytiliaijgkedhnaa
open Go Go.RowKit Go.Sort
set_option linter.unusedVariables false
set_option linter.unusedSimpArgs false

/-- A variable of the call's own is written whole. -/
theorem Box.stored {w : World} {b : Nat} {cs : Array Value} {T : TypeId} (B : Box w b cs T) (vs : List Value) (o : Nat) : KeptF [b] w (Rp.setN w b o vs) ∧ Box (Rp.setN w b o vs) b (Box.setA cs o vs) T :=
  ⟨Rp.setN_kept (List.mem_singleton_self _) vs _ o (KeptF.refl [_] w), Box.setN vs B o⟩
theorem setA_toList : ∀ (vs : List Value) (cs : Array Value) (o : Nat), (Box.setA cs o vs).toList = Rp.setL cs.toList o vs
  | [], _, _ => rfl
  | v :: vs, cs, o => by rw [Box.setA, setA_toList vs, Rp.setL, Array.toList_setIfInBounds]
theorem setA_all {vs : List Value} {cs : Array Value} (h : cs.size = vs.length) : Box.setA cs 0 vs = vs.toArray := by
  apply Array.toList_inj.1
  rw [setA_toList, Rp.setL_eq _ _ _ (by simp [h])]
  simp [h]

/-- What a variable of the call's own holds: made between w and wx, at or behind N. -/
def Has {α : Type} (d : Rp α) (T : TypeId) (x : α) (N : Nat) (w wx : World) (s : Value) : Prop :=
  ∃ g F cs, s = .pointer (some ⟨g, 0, none⟩) ∧ Box wx g cs.toArray T ∧ d.M wx F x cs ∧ F.Nodup ∧ (∀ b ∈ F, N ≤ b ∧ b ≠ g) ∧ N ≤ g ∧ Below N w wx
/-- A variable laid before what is stored into it. -/
theorem Has.old {α : Type} {d : Rp α} {T : TypeId} {x : α} {N : Nat} {w wa : World} {F : List Nat} {cs : List Value} {z : Array Value} {g : Nat} (hm : d.M wa F x cs) (hn : F.Nodup) (hF : ∀ b ∈ F, N ≤ b ∧ b ≠ g) (hb : Below N w wa)
    (B : Box wa g z T) (hg : N ≤ g) (hN : N ≤ w.heap.size) (hz : z.size = cs.length) : Has d T x N w (Rp.setN wa g 0 cs) (.pointer (some ⟨g, 0, none⟩)) := by
  obtain ⟨hk, bf⟩ := B.stored cs 0
  rw [setA_all hz] at bf
  exact ⟨g, F, cs, rfl, bf, d.M_move (fun b h => hk.block b (d.M_lt hm b h) (by simpa using (hF b h).2)) hm, hn, hF, hg, hb.trans (hk.toBelow (Nat.le_trans hN hb.size) (by simpa using hg))⟩
/-- A variable laid behind it. -/
theorem Has.new {α : Type} {d : Rp α} {T : TypeId} {x : α} {N : Nat} {w wa : World} {F : List Nat} {cs : List Value} (hm : d.M wa F x cs) (hn : F.Nodup) (hF : ∀ b ∈ F, N ≤ b) (hb : Below N w wa)
    (hN : N ≤ w.heap.size) : Has d T x N w (wa.alloc (.cells cs.toArray T)) (.pointer (some ⟨wa.heap.size, 0, none⟩)) :=
  ⟨_, F, cs, rfl, Box.new rfl, Rp.M_below hm ((Below.refl _ _).alloc (Nat.le_refl _) _), hn, fun b h => ⟨hF b h, fun e => by have := d.M_lt hm b h; omega⟩, Nat.le_trans hN hb.size, hb.alloc (Nat.le_trans hN hb.size) _⟩
/-- Marks that add at most c each. -/
theorem mkL_top {α : Type} {mk : α → Int → α × Int} {c : Nat} (hc : ∀ x k, (mk x k).2 ≤ k + c) : ∀ (xs : List α) (k : Int), (mkL mk xs k).2 ≤ k + c * xs.length
  | [], k => by simp [mkL]
  | x :: xs, k => by
    have h1 := hc x k
    have h2 := mkL_top hc xs (mk x k).2
    simp only [mkL, List.length_cons, Int.natCast_add, Int.mul_add]
    omega
/-- The front of a slice that is read. -/
theorem Rp.C_take {α : Type} {d : Rp α} {w : World} {A : Option Addr} {xs : List α} (h : d.C w A xs) (k : Nat) : d.C w A (xs.take k) := by
  rcases h with rfl | ⟨b, off, rfl, h⟩
  · exact .inl (by simp)
  · refine .inr ⟨b, off, rfl, fun i y hy => ?_⟩
    by_cases hi : i < k
    · rw [List.getElem?_take_of_lt hi] at hy
      exact h i y hy
    · rw [List.getElem?_eq_none (by rw [List.length_take]; omega)] at hy
      cases hy
theorem Rp.S_take {α : Type} {d : Rp α} {w : World} {A : Option Addr} {n c : Nat} {xs : List α} (h : d.S w xs (.slice A n c)) (k : Nat) (hk : k ≤ xs.length) : d.S w (xs.take k) (.slice A k c) := by
  obtain ⟨A', c', e, h1, h2⟩ := h
  simp only [Value.slice.injEq] at e
  obtain ⟨rfl, rfl, rfl⟩ := e
  have hl : (xs.take k).length = k := by rw [List.length_take]; omega
  exact ⟨A, c, by rw [hl], ⟨by have := h1.1; omega, h1.2⟩, Rp.C_take h2 k⟩
/-- What a region that draws keeps of the blocks below B. -/
theorem SBofB {B : Nat} {w w' : World} (h : Below B w w') : Below B w w' ∧ ∀ b j, b < B → w'.cell? ⟨b, j, none⟩ = w.cell? ⟨b, j, none⟩ := ⟨h, fun b j hb => h.cell (p := ⟨b, j, none⟩) hb⟩
theorem below_callB {B : Nat} {w W W' : World} (hB : B ≤ w.heap.size) (h : Below B w W) (k : Below W.heap.size W W') : Below B w W' := h.trans (k.mono (Nat.le_trans hB h.size))
theorem below_allocB {B : Nat} {w W : World} (hB : B ≤ w.heap.size) (h : Below B w W) (o : Obj) : Below B w (W.alloc o) := h.alloc (Nat.le_trans hB h.size) o
end Go.Proofs.Ytiliaijgkedhnaa
