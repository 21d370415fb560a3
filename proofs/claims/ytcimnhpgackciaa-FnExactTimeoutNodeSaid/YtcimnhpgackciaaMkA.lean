/- An owned row laid open at an element, to be closed when what the element holds has changed. -/
import Derived.Test.YtcimnhpgackciaaC1
namespace Go.Proofs.Ytcimnhpgackciaa
open Go Go.RowKit Go.Sort
set_option linter.unusedVariables false
set_option linter.unusedSimpArgs false

namespace Rp
variable {α : Type}
theorem Row_open2 {d : Rp α} {e : TypeId} {w : World} {F : List Nat} {xs : List α} {v : Value} (h : d.Row e w F xs v) (hn : F.Nodup) (k : Nat) (hk : k < xs.length) :
    ∃ g cap c F1, v = .slice (some ⟨g, 0, none⟩) xs.length cap ∧ g ∈ F ∧ g < w.heap.size ∧ d.M w F1 xs[k] c ∧ (∀ b ∈ F1, b ∈ F ∧ b ≠ g) ∧ F1.Nodup ∧
      (∀ j u, c[j]? = some u → w.cell? ⟨g, k * d.sz + j, none⟩ = some u) ∧ (∀ o, w.frozen? ⟨g, o, none⟩ = false) ∧
      (∀ (w1 : World) (x' : α), (∀ b ∈ F, b ∉ F1 → w1.heap[b]? = w.heap[b]?) → d.M w1 F1 x' c → d.Row e w1 F (xs.set k x') v) := by
  obtain ⟨inner, Fs, ho, he, rfl⟩ := h
  rcases ho.2 with ⟨rfl, h0⟩ | ⟨g, cap, cur, rfl, _, hg, hnc, hcm, hcs, ht⟩
  · omega
  · obtain ⟨c, F0, F1, F2, e1, e2, e3, e4⟩ := El_at k xs[k] he (List.getElem?_eq_getElem hk)
    have hn' : g ∉ Fs ∧ Fs.Nodup := by simpa [ofOwn, Value.ownBlock] using hn
    have hnd := hn'.2
    rw [e1] at hnd
    have h7 := List.nodup_append.1 hnd
    have h8 := List.nodup_append.1 h7.1
    refine ⟨g, cap, c, F1, rfl, by simp [ofOwn, Value.ownBlock], own_lt ho g (by simp [ofOwn, Value.ownBlock]), e2, fun b hb => ?_, h8.2.1, fun j u hu => ?_, fun o => ho.frozenAt o, fun w1 x' hb hm => ?_⟩
    · have hm : b ∈ Fs := by rw [e1]; simp [hb]
      exact ⟨List.mem_append_right _ hm, fun hbg => hn'.1 (hbg ▸ hm)⟩
    · have h1 := e3 j u hu
      rw [ho.cellAt (k * d.sz + j) (by have := (List.getElem?_eq_some_iff.1 h1).1; rw [ho.1] at this; exact this), h1]
    · have hg1 : ∀ b ∈ F0 ++ F2, w1.heap[b]? = w.heap[b]? := fun b hb2 => hb b (by
        rw [e1]
        rcases List.mem_append.1 hb2 with h | h
        · simp [h]
        · simp [h]) (fun h1 => by
        rcases List.mem_append.1 hb2 with h | h
        · exact h8.2.2 b h b h1 rfl
        · exact h7.2.2 b (by simp [h1]) b h rfl)
      obtain ⟨inner', h5, h6⟩ := e4 w1 F1 x' c hm hg1
      have hcl : c.length = d.sz := M_len e2
      have hil : inner.length = xs.length * d.sz := El_len he
      have hkl : k * d.sz + d.sz ≤ inner.length := by rw [hil, ← Nat.succ_mul]; exact Nat.mul_le_mul_right _ hk
      have hsame : inner' = inner := by
        rw [h6]
        apply List.ext_getElem?
        intro i
        have ht : (inner.take (k * d.sz)).length = k * d.sz := by rw [List.length_take]; omega
        by_cases h1 : i < k * d.sz
        · rw [List.append_assoc, List.getElem?_append_left (by omega), List.getElem?_take_of_lt h1]
        · by_cases h2 : i < k * d.sz + d.sz
          · rw [List.getElem?_append_left (by rw [List.length_append, ht]; omega), List.getElem?_append_right (by omega), ht]
            have hlt : i - k * d.sz < c.length := by omega
            have := e3 (i - k * d.sz) c[i - k * d.sz] (List.getElem?_eq_getElem hlt)
            rw [List.getElem?_eq_getElem hlt, ← this]
            congr 1
            omega
          · rw [List.getElem?_append_right (by rw [List.length_append, ht]; omega), List.length_append, ht, hcl, List.getElem?_drop]
            congr 1
            omega
      refine ⟨inner', F0 ++ F1 ++ F2, ?_, h5, by rw [e1]⟩
      rw [hsame, List.length_set]
      exact own_move ho (fun b hb2 => by
        obtain rfl : b = g := by simpa [ofOwn, Value.ownBlock] using hb2
        exact hb b (by simp [ofOwn, Value.ownBlock]) (fun h1 => hn'.1 (by rw [e1]; simp [h1])))
end Rp
/-- A world made a variable. -/
theorem gen_world {P Q : World → Prop} (W : World) (h : Q W) (k : ∀ w, Q w → P w) : P W := k W h

theorem wp_gen {p : Program} {c : Code} {X : Exit → Act → World → Prop} {a : Act} {Q : World → Prop} (W : World) (h : Q W) (k : ∀ w, Q w → Code.wp p c X a w) : Code.wp p c X a W := k W h
end Go.Proofs.Ytcimnhpgackciaa
