/- What an argument that reads as data is in memory, kind by kind. Nothing of the program. -/
import Derived.Test.YtiliaijgkedhnaaKitB
import Derived.ProofKit
import Derived.SizedLaws
import Derived.OpenShut
import Derived.Deep.Slices
namespace Go.Proofs.Ytiliaijgkedhnaa
open Go Go.RowKit
open Go.ChangeShapes Go.WideShapes Go.ChangeAt
set_option linter.unusedVariables false
set_option linter.unusedSimpArgs false

/-- What reads as data at type t is of kind d. -/
structure Opens {α : Type} (P : Program) (t : TypeId) (d : Rp α) (wf : α → Prop) : Prop where
  one : P.cellsOf t = d.sz
  two : ∀ {H : Type} {enc : TypeId × Value → H} {w : World} {spare : Nat → Bool} {fuel : Nat} {cs : List Value} {x : DataW H × List MemPlace},
    DataW.trod enc P w 0 spare true fuel t cs = some x → (∀ n ∈ x.1.weights P t, n ≤ reachBytes) → ∃ v, d.K w v cs ∧ wf v

namespace Opens
variable {α β : Type} {P : Program}
theorem int {t : TypeId} {k : IntKind} (ht : P.underlying t = some (.int k)) (h1 : P.cellsOf t = 1) : Opens P t (Rp.int k) (fun n => (Lit.int k n).wf = true) := by
  refine ⟨h1, fun h _ => ?_⟩
  obtain ⟨n, rfl, _, hw⟩ := DataW.trod_int ht h
  exact ⟨n, rfl, hw⟩
theorem bool {t : TypeId} (ht : P.underlying t = some .bool) (h1 : P.cellsOf t = 1) : Opens P t Rp.bool (fun _ => True) := by
  refine ⟨h1, fun h _ => ?_⟩
  obtain ⟨n, rfl, _⟩ := DataW.trod_bool ht h
  exact ⟨n, rfl, trivial⟩
theorem str {t : TypeId} (ht : P.underlying t = some .string) (h1 : P.cellsOf t = 1) : Opens P t Rp.str (fun s => s.size ≤ 140737488355328) := by
  refine ⟨h1, fun h hw => ?_⟩
  obtain ⟨s, rfl, rfl, _⟩ := DataW.trod_string ht h
  refine ⟨s, rfl, ?_⟩
  have h2 : ∀ n ∈ DataW.weights P t (.lit (.string s.data.toList) : DataW _), n ≤ reachBytes := hw
  simp only [DataW.weights, List.mem_singleton, forall_eq, Array.length_toList] at h2
  exact Nat.le_trans h2 (Nat.le_of_lt reachBytes_lt)
theorem weightsAll_mem {H : Type} {e : TypeId} : ∀ {ds : List (DataW H)} {d : DataW H} {n : Nat}, d ∈ ds → n ∈ d.weights P e → n ∈ DataW.weightsAll P e ds
  | [], _, _, h, _ => by simp at h
  | d0 :: ds, d, n, h, hn => by
    rw [DataW.weightsAll, List.mem_append]
    rcases List.mem_cons.1 h with h | h
    · left; rw [← h]; exact hn
    · right; exact weightsAll_mem h hn
theorem choose_list {p : Nat → α → Prop} : ∀ (n : Nat), (∀ i, i < n → ∃ x, p i x) → ∃ xs : List α, xs.length = n ∧ ∀ i x, xs[i]? = some x → p i x
  | 0, _ => ⟨[], rfl, fun i x h => by simp at h⟩
  | n + 1, h => by
    obtain ⟨xs, hl, hx⟩ := choose_list n (fun i hi => h i (by omega))
    obtain ⟨y, hy⟩ := h n (by omega)
    refine ⟨xs ++ [y], by simp [hl], fun i x hi => ?_⟩
    by_cases hin : i < n
    · rw [List.getElem?_append_left (by omega)] at hi
      exact hx i x hi
    · have hlt := (List.getElem?_eq_some_iff.1 hi).1
      simp [hl] at hlt
      obtain rfl : i = n := by omega
      rw [List.getElem?_append_right (by omega)] at hi
      simp [hl] at hi
      exact hi ▸ hy
theorem slice {t e e2 : TypeId} {d : Rp α} {wf : α → Prop} (ht : P.underlying t = some (.slice e)) (h1 : P.cellsOf t = 1) (he : Opens P e d wf) (h0 : 0 < d.sz) (hb : 0 < P.bytesOf e) :
    Opens P t (Rp.slice e2 d) (fun xs => (∀ y ∈ xs, wf y) ∧ xs.length ≤ 140737488355328) := by
  refine ⟨h1, fun {H enc w spare fuel cs x} h hw => ?_⟩
  rcases DataW.trod_slice ht h with ⟨rfl, _⟩ | ⟨a, len, cap, elems, rest, n, _, rfl, rfl, _, hl, _, hlen, hel, _, _⟩
  · exact ⟨[], ⟨none, 0, rfl, ⟨Nat.le_refl _, fun _ => rfl⟩, .inl rfl⟩, by simp, by simp⟩
  · have hwt : ∀ m ∈ DataW.weights P t (.slice (elems.map (·.1)) (rest.map (·.1)) : DataW H), m ≤ reachBytes := hw
    simp only [DataW.weights, ht] at hwt
    have hsz : len ≤ reachBytes := by
      have h2 := hwt _ (List.mem_cons_self ..)
      simp only [List.length_map] at h2
      have h3 : (elems.length + rest.length) * 1 ≤ (elems.length + rest.length) * P.bytesOf e := Nat.mul_le_mul_left _ hb
      omega
    obtain ⟨xs, hxl, hx⟩ := choose_list (p := fun i v => ∃ cs, d.K w v cs ∧ wf v ∧ w.cells? 0 (a.add (i * P.cellsOf e)) (P.cellsOf e) = some cs) len (fun i hi => by
      have h2 := hel i hi
      rw [List.getElem?_eq_getElem (by omega)] at h2
      obtain ⟨cs', h3, h4⟩ := Option.bind_eq_some_iff.1 h2
      obtain ⟨v, h5, h6⟩ := he.two h4 (fun m hm => hwt m (List.mem_cons_of_mem _ (List.mem_append_left _ (weightsAll_mem (List.mem_map_of_mem (List.getElem_mem (by omega))) hm))))
      exact ⟨v, cs', h5, h6, h3⟩)
    refine ⟨xs, ⟨some a, cap, by rw [hxl], ⟨by omega, fun h => by cases h⟩, ?_⟩, fun y hy => ?_, by rw [hxl]; exact Nat.le_trans hsz (Nat.le_of_lt reachBytes_lt)⟩
    · by_cases hz : len = 0
      · exact .inl (List.length_eq_zero_iff.1 (by omega))
      · right
        have hsp : a.spot = none := by
          obtain ⟨cs', h2, _, h3⟩ := hx 0 xs[0] (List.getElem?_eq_getElem (by omega))
          obtain ⟨_, h4, h5⟩ := World.cells?_some h3
          have h6 := h5 0 (by rw [he.one]; exact h0)
          rw [List.getElem?_eq_getElem (by rw [h4, he.one]; exact h0)] at h6
          rw [Nat.zero_mul] at h6
          have hlt : 0 < cs'.length := by rw [h4, he.one]; exact h0
          have h7 : w.cell? a = some cs'[0] := by simpa [Addr.add] using h6
          unfold World.cell? at h7
          split at h7
          · split at h7
            · cases h7
            · rename_i hs
              simpa using hs
          · cases h7
        obtain ⟨b, off, spot⟩ := a
        obtain rfl : spot = none := hsp
        refine ⟨b, off, rfl, fun i x hi => ?_⟩
        obtain ⟨cs', h2, _, h3⟩ := hx i x hi
        refine ⟨cs', h2, fun j u hu => ?_⟩
        obtain ⟨_, h4, h5⟩ := World.cells?_some h3
        have hj := (List.getElem?_eq_some_iff.1 hu).1
        have h6 := h5 j (by omega)
        rw [hu, Deep.add_add] at h6
        rw [← h6, ← he.one]
        unfold Addr.add
        split
        · rename_i hz2
          congr 2
          omega
        · congr 2
          simp only
          omega
    · obtain ⟨i, hi, rfl⟩ := List.getElem_of_mem hy
      obtain ⟨cs', _, h2, _⟩ := hx i _ (List.getElem?_eq_getElem hi)
      exact h2
theorem iso {t : TypeId} {d : Rp α} {wf : α → Prop} {wf2 : β → Prop} {f : β → α} (g : α → β) (h : Opens P t d wf) (hg : ∀ v, f (g v) = v) (hw : ∀ x, wf (f x) → wf2 x) : Opens P t (Rp.iso d f) wf2 :=
  ⟨h.one, fun h1 h2 => by
    obtain ⟨v, h3, h4⟩ := h.two h1 h2
    exact ⟨g v, by show d.K _ (f (g v)) _; rw [hg]; exact h3, hw _ (by rw [hg]; exact h4)⟩⟩
end Opens

/-- The fields from offset o on. -/
structure OpensF {α : Type} (P : Program) (o : Nat) (fs : List Field) (d : Rp α) (wf : α → Prop) : Prop where
  out : ∀ {H : Type} {enc : TypeId × Value → H} {w : World} {spare : Nat → Bool} {n : Nat} {cs : List Value} {xs : List (DataW H × List MemPlace)}, cs.length = o + d.sz → xs.length = fs.length →
    (∀ (i : Nat) (f : Field), fs[i]? = some f → DataW.trod enc P w 0 spare true n f.type ((cs.drop f.offset).take (P.cellsOf f.type)) = xs[i]?) →
    (∀ m ∈ DataW.weightsEach P (fs.map (·.type)) (xs.map (·.1)), m ≤ reachBytes) → ∃ v, d.K w v (cs.drop o) ∧ wf v
namespace OpensF
variable {α β : Type} {P : Program}
theorem last {o : Nat} {f : Field} {d : Rp α} {wf : α → Prop} (h : Opens P f.type d wf) (hf : f.offset = o) : OpensF P o [f] d wf := by
  refine ⟨?_⟩
  intro H enc w spare n cs xs hl hx hi hw
  match xs, hx with
  | [y], _ =>
    have h1 := hi 0 f rfl
    rw [hf, h.one, List.take_of_length_le (by rw [List.length_drop]; omega)] at h1
    exact h.two h1 (fun m hm => hw m (by simpa [DataW.weightsEach] using hm))
theorem cons {o : Nat} {f : Field} {fs : List Field} {d : Rp α} {d2 : Rp β} {wf : α → Prop} {wf2 : β → Prop} {wf3 : α × β → Prop} (h : Opens P f.type d wf) (hf : f.offset = o) (h2 : OpensF P (o + d.sz) fs d2 wf2) (h3 : ∀ x : α × β, wf x.1 → wf2 x.2 → wf3 x) : OpensF P o (f :: fs) (Rp.pair d d2) wf3 := by
  refine ⟨?_⟩
  intro H enc w spare n cs xs hl hx hi hw
  match xs, hx with
  | y :: ys, hx =>
    have hl2 : cs.length = o + (d.sz + d2.sz) := hl
    have h1 := hi 0 f rfl
    rw [hf, h.one] at h1
    obtain ⟨v, k1, k2⟩ := h.two h1 (fun m hm => hw m (by simp only [List.map_cons, DataW.weightsEach, List.mem_append]; exact .inl hm))
    obtain ⟨v2, k3, k4⟩ := h2.out (cs := cs) (xs := ys) (by omega) (by simpa using hx) (fun i f hf => by simpa using hi (i + 1) f (by simpa using hf)) (fun m hm => hw m (by simp only [List.map_cons, DataW.weightsEach, List.mem_append]; exact .inr hm))
    refine ⟨(v, v2), ⟨(cs.drop o).take d.sz, cs.drop (o + d.sz), ?_, k1, k3⟩, h3 (v, v2) k2 k4⟩
    rw [← List.drop_drop, List.take_append_drop]
end OpensF
theorem Opens.struct {α : Type} {P : Program} {t : TypeId} {fs : Array Field} {d : Rp α} {wf : α → Prop} (ht : P.underlying t = some (.struct fs)) (hc : P.cellsOf t = d.sz) (h : OpensF P 0 fs.toList d wf) : Opens P t d wf := by
  refine ⟨hc, fun {H enc w spare fuel cs x} h1 hw => ?_⟩
  obtain ⟨xs, n, _, rfl, hl, hlen, hf⟩ := DataW.trod_struct ht h1
  have := h.out (cs := cs) (xs := xs) (by omega) (by simpa using hlen) (fun i f hi => hf i f (by simpa using hi)) (fun m hm => hw m (by simpa [DataW.weights, ht] using hm))
  simpa using this

/-- An argument that is a struct. -/
theorem open_kind {α : Type} {P : Program} {t : TypeId} {fs : Array Field} {d : Rp α} {wf : α → Prop} {H : Type} {enc : TypeId × Value → H} {w : World} {spare : Nat → Bool} {r : Reach} {b0 : Nat} {v : Value} {x : DataW H} {p : List MemPlace}
    (ho : Opens P t d wf) (ht : P.underlying t = some (.struct fs)) (hv : Value.okWide P w r b0 t v) (h : DataW.Trod enc P w 0 spare true t v x p) (hw : ∀ n ∈ x.weights P t, n ≤ reachBytes) : ∃ y cs, v = .agg cs ∧ d.K w y cs.toList ∧ wf y := by
  obtain ⟨cs, rfl, hsz⟩ := okWide_struct ht hv
  obtain ⟨fuel, hf⟩ := h
  obtain ⟨y, h1, h2⟩ := ho.two hf hw
  exact ⟨y, cs, rfl, by simpa [Value.cells] using h1, h2⟩
/-- An argument that is a slice. -/
theorem open_kindS {α : Type} {P : Program} {t e : TypeId} {d : Rp α} {wf : List α → Prop} {H : Type} {enc : TypeId × Value → H} {w : World} {spare : Nat → Bool} {v : Value} {x : DataW H} {p : List MemPlace}
    (ho : Opens P t (Rp.slice e d) wf) (hv : v.cells.toList = [v]) (h : DataW.Trod enc P w 0 spare true t v x p) (hw : ∀ n ∈ x.weights P t, n ≤ reachBytes) : ∃ ys, d.S w ys v ∧ wf ys := by
  obtain ⟨fuel, hf⟩ := h
  rw [hv] at hf
  obtain ⟨y, ⟨A, c, h1, h2, h3⟩, h4⟩ := ho.two hf hw
  exact ⟨y, ⟨A, c, by simpa using h1, h2, h3⟩, h4⟩
end Go.Proofs.Ytiliaijgkedhnaa
