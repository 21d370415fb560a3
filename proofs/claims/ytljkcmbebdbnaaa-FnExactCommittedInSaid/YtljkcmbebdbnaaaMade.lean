/- What a call hands back that is its caller's own. Nothing of the program. -/
import Derived.Test.YtljkcmbebdbnaaaInv
namespace Go.Proofs.Ytljkcmbebdbnaaa
open Go Go.RowKit
variable {α : Type}

/-- A struct, owned, made since w. -/
def Made (d : Rp α) (x : α) (w w' : World) (v : Value) : Prop :=
  ∃ cs F, v = .agg cs.toArray ∧ d.M w' F x cs ∧ (∀ b ∈ F, w.heap.size ≤ b) ∧ F.Nodup ∧ Below w.heap.size w w'
/-- A slice, owned, made since w. -/
def MadeR (d : Rp α) (e : TypeId) (xs : List α) (w w' : World) (v : Value) : Prop :=
  ∃ F, d.Row e w' F xs v ∧ (∀ b ∈ F, w.heap.size ≤ b) ∧ F.Nodup ∧ Below w.heap.size w w'
theorem MadeR.nil (d : Rp α) (e : TypeId) {w w' : World} (h : Below w.heap.size w w') : MadeR d e [] w w' (.slice none 0 0) := ⟨[], Rp.Row_nil _ _ _, by simp, by simp, h⟩
/-- What lies in other blocks than those written. -/
theorem Row_off {d : Rp α} {e : TypeId} {w w' : World} {F : List Nat} {xs : List α} {v : Value} {g N : Nat} (h : d.Row e w F xs v) (hk : KeptF [g] w w') (hF : ∀ b ∈ F, N ≤ b) (hg : g < N) : d.Row e w' F xs v :=
  Rp.Row_kept h hk (fun b hb hm => by have := hF b hb; have h2 : b = g := (by simpa using hm); omega)
theorem kept_set (w : World) (g o : Nat) (v : Value) : KeptF [g] w (w.setCell ⟨g, o, none⟩ v) := (KeptF.refl [g] w).set (p := ⟨g, o, none⟩) (by simp) v
theorem nodup3 {F G H : List Nat} (f : F.Nodup) (g : G.Nodup) (h : H.Nodup) (d1 : ∀ b ∈ G, b ∉ F) (d2 : ∀ b ∈ H, b ∉ F) (d3 : ∀ b ∈ H, b ∉ G) : (F ++ (G ++ H)).Nodup := by
  rw [List.nodup_append, List.nodup_append]
  exact ⟨f, ⟨g, h, fun a ha b hb e => d3 b hb (e ▸ ha)⟩, fun a ha b hb e => by
    rcases List.mem_append.1 hb with hb | hb
    · exact d1 b hb (e ▸ ha)
    · exact d2 b hb (e ▸ ha)⟩
theorem bound3 {F G H : List Nat} {n m : Nat} (hn : n ≤ m) (f : ∀ b ∈ F, m ≤ b) (g : ∀ b ∈ G, m ≤ b) (h : ∀ b ∈ H, m ≤ b) : ∀ b ∈ F ++ (G ++ H), n ≤ b := fun b hb => by
  simp only [List.mem_append] at hb
  rcases hb with hb | hb | hb
  · exact Nat.le_trans hn (f b hb)
  · exact Nat.le_trans hn (g b hb)
  · exact Nat.le_trans hn (h b hb)
/-- A variable laid and filled. -/
theorem below_new (w : World) (o : Obj) (vs : List Value) : Below w.heap.size w (Rp.setN (w.alloc o) w.heap.size 0 vs) :=
  ((Below.refl w.heap.size w).alloc (Nat.le_refl _) o).trans ((Rp.setN_kept (F := [w.heap.size]) (by simp) vs _ 0 (KeptF.refl _ _)).toBelow (by simp) (by simp))
theorem Box.filled (w : World) {z : Array Value} {T : TypeId} {vs : List Value} (h : z.size = vs.length) : Box (Rp.setN (w.alloc (.cells z T)) w.heap.size 0 vs) w.heap.size vs.toArray T := by
  have := Box.setN vs (Box.new (w := w) (cs := z) (T := T) rfl) 0
  rwa [setA_all h] at this
theorem below_filled (w : World) (o : Obj) (vs : List Value) : w.heap.size + 1 ≤ (Rp.setN (w.alloc o) w.heap.size 0 vs).heap.size := by
  rw [Rp.setN_size]; simp
theorem Row_ne {d : Rp α} {e : TypeId} {w w' : World} {F : List Nat} {xs : List α} {v : Value} {g : Nat} (h : d.Row e w F xs v) (hk : KeptF [g] w w') (hg : g ∉ F) : d.Row e w' F xs v :=
  Rp.Row_kept h hk (fun b hb hm => hg (by have h2 : b = g := (by simpa using hm); exact h2 ▸ hb))
theorem Box_ne {w w' : World} {b g : Nat} {cs : Array Value} {T : TypeId} (h : Box w b cs T) (hk : KeptF [g] w w') (hg : b ≠ g) : Box w' b cs T := h.kept hk (by simpa using hg)
end Go.Proofs.Ytljkcmbebdbnaaa
