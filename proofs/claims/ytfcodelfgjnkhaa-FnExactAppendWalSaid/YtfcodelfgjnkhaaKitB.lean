/- More helpers for walks. Nothing of the program. -/
import Derived.Test.YtfcodelfgjnkhaaKit
import Derived.Deep.Light
import Derived.Deep.CutRange
namespace Go.Proofs.Ytfcodelfgjnkhaa
open Go Go.RowKit Go.Sort
set_option linter.unusedVariables false
set_option linter.unusedSimpArgs false

/-- A variable of the call's own is written whole. -/
theorem Box.stored {w : World} {b : Nat} {cs : Array Value} {T : TypeId} (B : Box w b cs T) (vs : List Value) (o : Nat) : KeptF [b] w (Rp.setN w b o vs) ∧ Box (Rp.setN w b o vs) b (Box.setA cs o vs) T :=
  ⟨Rp.setN_kept (List.mem_singleton_self _) vs _ o (KeptF.refl [_] w), Box.setN vs B o⟩
theorem setA_toList : ∀ (vs : List Value) (cs : Array Value) (o : Nat), (Box.setA cs o vs).toList = Rp.setL cs.toList o vs
  | [], _, _ => rfl
  | v :: vs, cs, o => by rw [Box.setA, setA_toList vs, Rp.setL, Array.toList_setIfInBounds]
theorem setA_all {vs : List Value} {cs : Array Value} (h : cs.size = vs.length) : Box.setA cs 0 vs = vs.toArray := by
  apply Array.toList_inj.1
  rw [setA_toList, Rp.setL_eq _ _ _ (by simp [h])]
  simp [h]

/-- What a variable of the call's own holds: made between w and wx, at or behind N. -/
def Has {α : Type} (d : Rp α) (T : TypeId) (x : α) (N : Nat) (w wx : World) (s : Value) : Prop :=
  ∃ g F cs, s = .pointer (some ⟨g, 0, none⟩) ∧ Box wx g cs.toArray T ∧ d.M wx F x cs ∧ F.Nodup ∧ (∀ b ∈ F, N ≤ b ∧ b ≠ g) ∧ N ≤ g ∧ Below N w wx
/-- A variable laid before what is stored into it. -/
theorem Has.old {α : Type} {d : Rp α} {T : TypeId} {x : α} {N : Nat} {w wa : World} {F : List Nat} {cs : List Value} {z : Array Value} {g : Nat} (hm : d.M wa F x cs) (hn : F.Nodup) (hF : ∀ b ∈ F, N ≤ b ∧ b ≠ g) (hb : Below N w wa)
    (B : Box wa g z T) (hg : N ≤ g) (hN : N ≤ w.heap.size) (hz : z.size = cs.length) : Has d T x N w (Rp.setN wa g 0 cs) (.pointer (some ⟨g, 0, none⟩)) := by
  obtain ⟨hk, bf⟩ := B.stored cs 0
  rw [setA_all hz] at bf
  exact ⟨g, F, cs, rfl, bf, d.M_move (fun b h => hk.block b (d.M_lt hm b h) (by simpa using (hF b h).2)) hm, hn, hF, hg, hb.trans (hk.toBelow (Nat.le_trans hN hb.size) (by simpa using hg))⟩
/-- A variable laid behind it. -/
theorem Has.new {α : Type} {d : Rp α} {T : TypeId} {x : α} {N : Nat} {w wa : World} {F : List Nat} {cs : List Value} (hm : d.M wa F x cs) (hn : F.Nodup) (hF : ∀ b ∈ F, N ≤ b) (hb : Below N w wa)
    (hN : N ≤ w.heap.size) : Has d T x N w (wa.alloc (.cells cs.toArray T)) (.pointer (some ⟨wa.heap.size, 0, none⟩)) :=
  ⟨_, F, cs, rfl, Box.new rfl, Rp.M_below hm ((Below.refl _ _).alloc (Nat.le_refl _) _), hn, fun b h => ⟨hF b h, fun e => by have := d.M_lt hm b h; omega⟩, Nat.le_trans hN hb.size, hb.alloc (Nat.le_trans hN hb.size) _⟩
/-- Marks that add at most c each. -/
theorem mkL_top {α : Type} {mk : α → Int → α × Int} {c : Nat} (hc : ∀ x k, (mk x k).2 ≤ k + c) : ∀ (xs : List α) (k : Int), (mkL mk xs k).2 ≤ k + c * xs.length
  | [], k => by simp [mkL]
  | x :: xs, k => by
    have h1 := hc x k
    have h2 := mkL_top hc xs (mk x k).2
    simp only [mkL, List.length_cons, Int.natCast_add, Int.mul_add]
    omega
end Go.Proofs.Ytfcodelfgjnkhaa
