/- A row sorted by the shelf's slices.SortFunc: what was a row is a row. -/
import Derived.Test.YtiliaijgkedhnaaInsA
import Derived.Shelf.GgSortFunc.InsertionK
namespace Go.Proofs.Ytiliaijgkedhnaa
open Go Go.RowKit Go.Sort Go.Shelf
set_option linter.unusedVariables false
set_option linter.unusedSimpArgs false

namespace Rp
variable {α : Type} [Inhabited α] {d : Rp α} {k : Nat} {enc : α → List Value}
theorem flatK_encL (h : d.Enc k enc) (ys : Array α) : (flatK enc k ys).toList = encL enc ys.toList := by
  have key : ∀ xs : List α, (encL enc xs).length = xs.length * k → ∀ t, t < xs.length * k → (encL enc xs)[t]? = some (enc xs[t / k]!)[t % k]! := by
    intro xs
    induction xs with
    | nil => intro _ t ht; simp at ht
    | cons x xs ih =>
      intro _ t ht
      have hl := h.len x
      have hk : 0 < k := by
        rcases Nat.eq_zero_or_pos k with h0 | h0
        · simp [h0] at ht
        · exact h0
      rw [encL]
      by_cases h1 : t < k
      · rw [List.getElem?_append_left (by omega), Nat.div_eq_of_lt h1, Nat.mod_eq_of_lt h1]
        simp [List.getElem?_eq_getElem (show t < (enc x).length by omega), getElem!_pos (enc x) t (by omega)]
      · rw [List.getElem?_append_right (by omega), hl, ih (h.lenL xs) (t - k) (by rw [List.length_cons, Nat.succ_mul] at ht; omega)]
        have e1 : t / k = (t - k) / k + 1 := by
          rw [Nat.div_eq t k, if_pos ⟨hk, by omega⟩]
        have e2 : t % k = (t - k) % k := by
          rw [Nat.mod_eq_sub_mod (by omega)]
        rw [e1, e2]
        simp
  apply List.ext_getElem?
  intro t
  by_cases ht : t < ys.size * k
  · rw [key ys.toList (h.lenL _) t (by simpa using ht)]
    have := get_flatK enc k ys t ht
    have hs : t < (flatK enc k ys).size := by rw [size_flatK]; exact ht
    rw [getElem!_pos _ t hs] at this
    rw [Array.getElem?_toList, Array.getElem?_eq_getElem hs, this]
    have hh : t / k < ys.size := Nat.div_lt_of_lt_mul (by rw [Nat.mul_comm]; exact ht)
    rw [getElem!_pos ys _ hh, getElem!_pos ys.toList _ (by simpa using hh), Array.getElem_toList]
  · rw [List.getElem?_eq_none (by simp; omega), List.getElem?_eq_none (by rw [h.lenL]; simp; omega)]
theorem Row_holds (h : d.Enc k enc) {e : TypeId} {w : World} {F : List Nat} {xs : List α} {g n cap : Nat} (r : d.Row e w F xs (.slice (some ⟨g, 0, none⟩) n cap)) : HoldsK enc k w g 0 xs.toArray := by
  obtain ⟨hv, _, _⟩ | ⟨g', cap', cur, hv, rfl, hg, hl, hm, hs, ht⟩ := h.Row_of r
  · simp at hv
  · obtain ⟨rfl, rfl, rfl⟩ : g = g' ∧ n = xs.length ∧ cap = cap' := by simpa using hv
    intro j hj
    rw [size_flatK] at hj
    have hj2 : j < xs.length * k := by simpa using hj
    have h1 : (flatK enc k xs.toArray)[j]! = (encL enc xs)[j]'(by rw [h.lenL]; exact hj2) := by
      have h2 := flatK_encL h xs.toArray
      have h3 : j < (flatK enc k xs.toArray).size := by rw [size_flatK]; exact hj
      rw [getElem!_pos _ j h3, ← Array.getElem_toList]
      simp only [h2]
    rw [h1, Nat.zero_add]
    refine ⟨?_, ?_⟩
    · have hlt : j < cur.size := by rw [hs]; exact Nat.lt_of_lt_of_le hj2 (Nat.mul_le_mul_right _ hl)
      simp only [World.cell?, hg]
      have : cur.toList[j]? = (encL enc xs)[j]? := by rw [← ht, List.getElem?_take_of_lt hj2]
      rw [List.getElem?_eq_getElem (l := encL enc xs) (by rw [h.lenL]; exact hj2)] at this
      simpa using this
    · simp [World.frozen?, hg]
theorem Row_sorted (h : d.Enc k enc) {e : TypeId} {w : World} {F : List Nat} {xs : List α} {g n cap : Nat} (r : d.Row e w F xs (.slice (some ⟨g, 0, none⟩) n cap)) (d' : Array α) (hd : d'.size = xs.length) (m : Nat) (os : Array Obj) :
    d.Row e (sortWorldK enc k w g 0 m d' os) F d'.toList (.slice (some ⟨g, 0, none⟩) n cap) ∧ KeptF F w (sortWorldK enc k w g 0 m d' os) := by
  obtain ⟨hv, _, _⟩ | ⟨g', cap', cur, hv, rfl, hg, hl, hm, hs, ht⟩ := h.Row_of r
  · simp at hv
  · obtain ⟨rfl, rfl, rfl⟩ : g = g' ∧ n = xs.length ∧ cap = cap' := by simpa using hv
    have hgl : g < w.heap.size := by
      have := (Array.getElem?_eq_some_iff.1 hg).1
      exact this
    have hsz : (sortWorldK enc k w g 0 m d' os).heap.size = w.heap.size + os.size := by simp [sortWorldK, putRowK, putRow, mapBlock, grow, ahead]
    have hoth : ∀ b, b < w.heap.size → b ≠ g → (sortWorldK enc k w g 0 m d' os).heap[b]? = w.heap[b]? := fun b hb hne => by
      show ((w.heap.modify g (onCells (putCells id 0 (flatK enc k d')))) ++ os)[b]? = _
      rw [Array.getElem?_append_left (by simpa using hb), Array.getElem?_modify, if_neg (Ne.symm hne)]
    have hown : (sortWorldK enc k w g 0 m d' os).heap[g]? = some (.cells (putCells id 0 (flatK enc k d') cur) e (0, 0)) := by
      show ((w.heap.modify g (onCells (putCells id 0 (flatK enc k d')))) ++ os)[g]? = _
      rw [Array.getElem?_append_left (by simpa using hgl), Array.getElem?_modify, if_pos rfl, hg]
      rfl
    refine ⟨Enc.Row_mk h (by simp [hd]) hown (by simpa [hd] using hl) hm (by simp [putCells, hs]) ?_, ⟨rfl, rfl, rfl, by rw [hsz]; omega, fun b hb hf => hoth b hb (by simpa using hf)⟩⟩
    apply List.ext_getElem?
    intro j
    by_cases hj : j < d'.size * k
    · rw [List.getElem?_take_of_lt (by simpa using hj), ← flatK_encL h d']
      have hc : j < cur.size := by rw [hs]; exact Nat.lt_of_lt_of_le hj (Nat.mul_le_mul_right _ (by omega))
      have hf : j < (flatK enc k d').size := by rw [size_flatK]; exact hj
      rw [Array.getElem?_toList, Array.getElem?_toList, Array.getElem?_eq_getElem hf, putCells, Array.getElem?_mapIdx, Array.getElem?_eq_getElem hc]
      simp only [Option.map_some, Nat.zero_le, true_and, Nat.zero_add, Nat.sub_zero, if_pos hf, id]
      rw [getElem!_pos _ j hf]
    · rw [List.getElem?_eq_none (by simp; omega), List.getElem?_eq_none (by rw [h.lenL]; simp; omega)]
end Rp
end Go.Proofs.Ytiliaijgkedhnaa
