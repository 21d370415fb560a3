/-
  How values lie in memory, kind by kind: 'K' what is read, 'M' what is owned, with the list of the blocks that it owns. Nothing of the program.
-/
import Derived.Below
import Derived.Laws.AppendOwn
import Derived.Laws.OwnMore
import Derived.Maps.AppendAt
import Derived.Lib.QuietBelow
namespace Go.Proofs.Ytiliaijgkedhnaa
open Go Go.RowKit

/-- A kind of value. -/
structure Rp (α : Type) where
  sz : Nat
  K : World → α → List Value → Prop
  M : World → List Nat → α → List Value → Prop
  K_len : ∀ {w x cs}, K w x cs → cs.length = sz
  K_one : ∀ {w x cs}, K w x cs → ∀ u ∈ cs, u.oneCell' = true
  K_below : ∀ {w w1 : World} {x cs}, (∀ b, b < w.heap.size → w1.heap[b]? = w.heap[b]?) → K w x cs → K w1 x cs
  M_K : ∀ {w F x cs}, M w F x cs → K w x cs
  M_lt : ∀ {w : World} {F x cs}, M w F x cs → ∀ b ∈ F, b < w.heap.size
  M_move : ∀ {w w1 : World} {F x cs}, (∀ b ∈ F, w1.heap[b]? = w.heap[b]?) → M w F x cs → M w1 F x cs

/-- A slice's capacity: no less than its length; none where there is no array. -/
def CapOk (n : Nat) (A : Option Addr) (c : Nat) : Prop := n ≤ c ∧ (A = none → c = 0)

namespace Rp
variable {α β : Type}

theorem M_len {d : Rp α} {w : World} {F x cs} (h : d.M w F x cs) : cs.length = d.sz := d.K_len (d.M_K h)
theorem M_below {d : Rp α} {w w1 : World} {F x cs} (h : d.M w F x cs) (hb : Below w.heap.size w w1) : d.M w1 F x cs :=
  d.M_move (fun b hm => hb.block b (d.M_lt h b hm)) h

def scalar (enc : α → Value) (h1 : ∀ x, (enc x).oneCell' = true) : Rp α where
  sz := 1
  K := fun _ x cs => cs = [enc x]
  M := fun _ F x cs => F = [] ∧ cs = [enc x]
  K_len := fun h => by rw [h]; rfl
  K_one := fun h u hu => by
    rw [h] at hu
    rw [List.mem_singleton.1 hu]
    exact h1 _
  K_below := fun _ h => h
  M_K := fun h => h.2
  M_lt := fun h b hb => by rw [h.1] at hb; cases hb
  M_move := fun _ h => h
def int (k : IntKind) : Rp Int := scalar (Value.int k) (fun _ => rfl)
def bool : Rp Bool := scalar Value.bool (fun _ => rfl)
def str : Rp ByteArray := scalar Value.string (fun _ => rfl)

def pair (a : Rp α) (b : Rp β) : Rp (α × β) where
  sz := a.sz + b.sz
  K := fun w x cs => ∃ c1 c2, cs = c1 ++ c2 ∧ a.K w x.1 c1 ∧ b.K w x.2 c2
  M := fun w F x cs => ∃ c1 c2 F1 F2, cs = c1 ++ c2 ∧ F = F1 ++ F2 ∧ a.M w F1 x.1 c1 ∧ b.M w F2 x.2 c2
  K_len := by
    rintro w x cs ⟨c1, c2, rfl, h1, h2⟩
    rw [List.length_append, a.K_len h1, b.K_len h2]
  K_one := by
    rintro w x cs ⟨c1, c2, rfl, h1, h2⟩ u hu
    rcases List.mem_append.1 hu with hu | hu
    · exact a.K_one h1 u hu
    · exact b.K_one h2 u hu
  K_below := by
    rintro w w1 x cs hb ⟨c1, c2, rfl, h1, h2⟩
    exact ⟨c1, c2, rfl, a.K_below hb h1, b.K_below hb h2⟩
  M_K := by
    rintro w F x cs ⟨c1, c2, F1, F2, rfl, rfl, h1, h2⟩
    exact ⟨c1, c2, rfl, a.M_K h1, b.M_K h2⟩
  M_lt := by
    rintro w F x cs ⟨c1, c2, F1, F2, rfl, rfl, h1, h2⟩ k hk
    rcases List.mem_append.1 hk with hk | hk
    · exact a.M_lt h1 k hk
    · exact b.M_lt h2 k hk
  M_move := by
    rintro w w1 F x cs hm ⟨c1, c2, F1, F2, rfl, rfl, h1, h2⟩
    exact ⟨c1, c2, F1, F2, rfl, rfl, a.M_move (fun k hk => hm k (List.mem_append_left _ hk)) h1, b.M_move (fun k hk => hm k (List.mem_append_right _ hk)) h2⟩

def iso (d : Rp α) (f : β → α) : Rp β where
  sz := d.sz
  K := fun w x cs => d.K w (f x) cs
  M := fun w F x cs => d.M w F (f x) cs
  K_len := d.K_len
  K_one := d.K_one
  K_below := d.K_below
  M_K := d.M_K
  M_lt := d.M_lt
  M_move := d.M_move

/-- Elements read at an address. -/
def C (d : Rp α) (w : World) (A : Option Addr) (xs : List α) : Prop :=
  xs = [] ∨ ∃ b off, A = some ⟨b, off, none⟩ ∧ ∀ i x, xs[i]? = some x → ∃ cs, d.K w x cs ∧ ∀ j u, cs[j]? = some u → w.cell? ⟨b, off + i * d.sz + j, none⟩ = some u

theorem block_of_cell {w w1 : World} {a : Addr} {u : Value} (hb : ∀ b, b < w.heap.size → w1.heap[b]? = w.heap[b]?) (h : w.cell? a = some u) : w1.cell? a = some u :=
  (World.cell?_of_block (hb a.block (World.block_lt_of_cell? w a h))).trans h

theorem C_below {d : Rp α} {w w1 : World} {A xs} (hb : ∀ b, b < w.heap.size → w1.heap[b]? = w.heap[b]?) (h : d.C w A xs) : d.C w1 A xs := by
  rcases h with h | ⟨b, off, rfl, h⟩
  · exact .inl h
  · refine .inr ⟨b, off, rfl, fun i x hx => ?_⟩
    obtain ⟨cs, hk, hc⟩ := h i x hx
    exact ⟨cs, d.K_below hb hk, fun j u hu => block_of_cell hb (hc j u hu)⟩

/-- The elements' cells and blocks, one behind the other. -/
def El (d : Rp α) (w : World) : List Nat → List α → List Value → Prop
  | F, [], inner => F = [] ∧ inner = []
  | F, x :: xs, inner => ∃ c rest F1 F2, inner = c ++ rest ∧ F = F1 ++ F2 ∧ d.M w F1 x c ∧ El d w F2 xs rest

section
variable {d : Rp α} {w w1 : World}
theorem El_len : ∀ {xs : List α} {F inner}, d.El w F xs inner → inner.length = xs.length * d.sz
  | [], _, _, ⟨_, h⟩ => by simp [h]
  | x :: xs, _, _, ⟨c, rest, F1, F2, h, _, hm, hr⟩ => by rw [h, List.length_append, M_len hm, El_len hr, List.length_cons, Nat.succ_mul, Nat.add_comm]
theorem El_one : ∀ {xs : List α} {F inner}, d.El w F xs inner → ∀ u ∈ inner, u.oneCell' = true
  | [], _, _, ⟨_, h⟩, u, hu => by rw [h] at hu; cases hu
  | x :: xs, _, _, ⟨c, rest, F1, F2, h, _, hm, hr⟩, u, hu => by
    rw [h] at hu
    rcases List.mem_append.1 hu with hu | hu
    · exact d.K_one (d.M_K hm) u hu
    · exact El_one hr u hu
theorem El_lt : ∀ {xs : List α} {F inner}, d.El w F xs inner → ∀ b ∈ F, b < w.heap.size
  | [], _, _, ⟨h, _⟩, b, hb => by rw [h] at hb; cases hb
  | x :: xs, _, _, ⟨c, rest, F1, F2, _, h, hm, hr⟩, b, hb => by
    rw [h] at hb
    rcases List.mem_append.1 hb with hb | hb
    · exact d.M_lt hm b hb
    · exact El_lt hr b hb
theorem El_move : ∀ {xs : List α} {F inner}, (∀ b ∈ F, w1.heap[b]? = w.heap[b]?) → d.El w F xs inner → d.El w1 F xs inner
  | [], _, _, _, h => h
  | x :: xs, _, _, hm, ⟨c, rest, F1, F2, h1, h2, h3, h4⟩ =>
    ⟨c, rest, F1, F2, h1, h2, d.M_move (fun b hb => hm b (by rw [h2]; exact List.mem_append_left _ hb)) h3, El_move (fun b hb => hm b (by rw [h2]; exact List.mem_append_right _ hb)) h4⟩
theorem El_snoc : ∀ {xs : List α} {F inner F1 x c}, d.El w F xs inner → d.M w F1 x c → d.El w (F ++ F1) (xs ++ [x]) (inner ++ c)
  | [], _, _, F1, x, c, ⟨h1, h2⟩, hm => by
    subst h1; subst h2
    exact ⟨c, [], F1, [], by simp, by simp, hm, rfl, rfl⟩
  | y :: ys, _, _, F1, x, c, ⟨c0, rest, G1, G2, h1, h2, h3, h4⟩, hm => by
    subst h1; subst h2
    exact ⟨c0, rest ++ c, G1, G2 ++ F1, by simp, by simp, h3, El_snoc h4 hm⟩
/-- Element i, its cells, its blocks; and what it may be put in its place. -/
theorem El_at : ∀ {xs : List α} {F inner} (i : Nat) (x : α), d.El w F xs inner → xs[i]? = some x →
    ∃ c F0 F1 F2, F = F0 ++ F1 ++ F2 ∧ d.M w F1 x c ∧ (∀ j u, c[j]? = some u → inner[i * d.sz + j]? = some u) ∧
      (∀ (w1 : World) (F1' : List Nat) (x' : α) (c' : List Value), d.M w1 F1' x' c' → (∀ b ∈ F0 ++ F2, w1.heap[b]? = w.heap[b]?) →
        ∃ inner', d.El w1 (F0 ++ F1' ++ F2) (xs.set i x') inner' ∧ inner' = inner.take (i * d.sz) ++ c' ++ inner.drop (i * d.sz + d.sz))
  | [], _, _, i, x, _, hx => by simp at hx
  | y :: ys, F, inner, 0, x, ⟨c0, rest, G1, G2, h1, h2, h3, h4⟩, hx => by
    obtain rfl : y = x := by simpa using hx
    have hl := M_len h3
    refine ⟨c0, [], G1, G2, by simpa using h2, h3, fun j u hu => ?_, fun w1 F1' x' c' hm hk => ?_⟩
    · rw [h1, Nat.zero_mul, Nat.zero_add, List.getElem?_append_left (List.getElem?_eq_some_iff.1 hu).1, hu]
    · refine ⟨c' ++ rest, ⟨c', rest, F1', G2, rfl, by simp, hm, El_move (fun b hb => hk b (by simpa using hb)) h4⟩, ?_⟩
      subst h1
      simp [← hl]
  | y :: ys, F, inner, i + 1, x, ⟨c0, rest, G1, G2, h1, h2, h3, h4⟩, hx => by
    have hl := M_len h3
    obtain ⟨c, F0, F1, F2, e1, e2, e3, e4⟩ := El_at i x h4 (by simpa using hx)
    refine ⟨c, G1 ++ F0, F1, F2, by rw [h2, e1]; simp, e2, fun j u hu => ?_, fun w1 F1' x' c' hm hk => ?_⟩
    · rw [h1, List.getElem?_append_right (by rw [hl, Nat.succ_mul]; omega), hl]
      have := e3 j u hu
      rwa [show (i + 1) * d.sz + j - d.sz = i * d.sz + j by rw [Nat.succ_mul]; omega]
    · obtain ⟨inner', h5, h6⟩ := e4 w1 F1' x' c' hm (fun b hb => hk b (by
        rcases List.mem_append.1 hb with hb | hb
        · simp [hb]
        · simp [hb]))
      refine ⟨c0 ++ inner', ⟨c0, inner', G1, F0 ++ F1' ++ F2, rfl, by simp, d.M_move (fun b hb => hk b (by simp [hb])) h3, h5⟩, ?_⟩
      subst h1
      rw [h6, Nat.succ_mul, List.take_append, List.drop_append]
      have a1 : List.take (i * d.sz + d.sz) c0 = c0 := List.take_of_length_le (by omega)
      have a2 : List.drop (i * d.sz + d.sz + d.sz) c0 = [] := List.drop_of_length_le (by omega)
      rw [a1, a2, hl]
      simp [show i * d.sz + d.sz - d.sz = i * d.sz by omega, show i * d.sz + d.sz + d.sz - d.sz = i * d.sz + d.sz by omega]
end

/-- The block that a slice starts in. -/
def ofOwn (v : Value) : List Nat := v.ownBlock.toList

/-- An owned row: a slice value, its elements (type e). -/
def Row (d : Rp α) (e : TypeId) (w : World) (F : List Nat) (xs : List α) (v : Value) : Prop :=
  ∃ inner Fs, w.ownsRow 0 e d.sz v xs.length inner ∧ d.El w Fs xs inner ∧ F = ofOwn v ++ Fs

theorem own_lt {w : World} {e : TypeId} {size n : Nat} {v : Value} {xs : List Value} (h : w.ownsRow 0 e size v n xs) : ∀ b ∈ ofOwn v, b < w.heap.size := fun b hb => by
  unfold ofOwn at hb
  exact (h.lt b (by simpa using hb)).2
theorem own_move {w w1 : World} {e : TypeId} {size n : Nat} {v : Value} {xs : List Value} (h : w.ownsRow 0 e size v n xs) (hm : ∀ b ∈ ofOwn v, w1.heap[b]? = w.heap[b]?) : w1.ownsRow 0 e size v n xs := by
  obtain ⟨h1, h2⟩ := h
  refine ⟨h1, ?_⟩
  rcases h2 with h2 | ⟨g, cap, cur, rfl, hg, hh, r⟩
  · exact .inl h2
  · exact .inr ⟨g, cap, cur, rfl, hg, (hm g (by simp [ofOwn, Value.ownBlock])).trans hh, r⟩
theorem own_form {w : World} {e : TypeId} {size n : Nat} {v : Value} {xs : List Value} (h : w.ownsRow 0 e size v n xs) :
    ∃ A c, v = .slice A n c ∧ CapOk n A c ∧ (n = 0 ∨ ∃ g, A = some ⟨g, 0, none⟩ ∧ ∀ j u, xs[j]? = some u → w.cell? ⟨g, j, none⟩ = some u) := by
  obtain ⟨h1, h2⟩ := h
  rcases h2 with ⟨rfl, rfl⟩ | ⟨g, cap, cur, rfl, hg, hh, hn, hc, hs, ht⟩
  · exact ⟨none, 0, rfl, ⟨Nat.le_refl _, fun _ => rfl⟩, .inl rfl⟩
  · refine ⟨_, cap, rfl, ⟨hn, fun h => by cases h⟩, .inr ⟨g, rfl, fun j u hu => ?_⟩⟩
    rw [← ht] at hu
    have hj : j < n * size := by
      have := (List.getElem?_eq_some_iff.1 hu).1
      rw [List.length_take] at this
      omega
    rw [List.getElem?_take_of_lt hj] at hu
    simp only [World.cell?, hh]
    simpa using hu

theorem Row_lt {d : Rp α} {e : TypeId} {w : World} {F xs v} (h : d.Row e w F xs v) : ∀ b ∈ F, b < w.heap.size := by
  obtain ⟨inner, Fs, h1, h2, rfl⟩ := h
  intro b hb
  rcases List.mem_append.1 hb with hb | hb
  · exact own_lt h1 b hb
  · exact El_lt h2 b hb
theorem Row_move {d : Rp α} {e : TypeId} {w w1 : World} {F xs v} (hm : ∀ b ∈ F, w1.heap[b]? = w.heap[b]?) (h : d.Row e w F xs v) : d.Row e w1 F xs v := by
  obtain ⟨inner, Fs, h1, h2, rfl⟩ := h
  exact ⟨inner, Fs, own_move h1 (fun b hb => hm b (List.mem_append_left _ hb)), El_move (fun b hb => hm b (List.mem_append_right _ hb)) h2, rfl⟩
theorem Row_K {d : Rp α} {e : TypeId} {w : World} {F xs v} (h : d.Row e w F xs v) : ∃ A c, v = .slice A xs.length c ∧ CapOk xs.length A c ∧ d.C w A xs := by
  obtain ⟨inner, Fs, h1, h2, rfl⟩ := h
  obtain ⟨A, c, rfl, hc, h0⟩ := own_form h1
  refine ⟨A, c, rfl, hc, ?_⟩
  rcases h0 with h0 | ⟨g, rfl, hg⟩
  · exact .inl (List.length_eq_zero_iff.1 h0)
  · refine .inr ⟨g, 0, rfl, fun i x hx => ?_⟩
    obtain ⟨cs, F0, F1, F2, e1, e2, e3, e4⟩ := El_at i x h2 hx
    exact ⟨cs, d.M_K e2, fun j u hu => by rw [Nat.zero_add]; exact hg _ _ (e3 j u hu)⟩

/-- A slice, its elements of type e. -/
def slice (e : TypeId) (d : Rp α) : Rp (List α) where
  sz := 1
  K := fun w xs cs => ∃ A c, cs = [.slice A xs.length c] ∧ CapOk xs.length A c ∧ d.C w A xs
  M := fun w F xs cs => ∃ v, cs = [v] ∧ d.Row e w F xs v
  K_len := by
    rintro w x cs ⟨A, c, rfl, _⟩
    rfl
  K_one := by
    rintro w x cs ⟨A, c, rfl, _⟩ u hu
    rw [List.mem_singleton.1 hu]
    rfl
  K_below := by
    rintro w w1 x cs hb ⟨A, c, rfl, hl, hr⟩
    exact ⟨A, c, rfl, hl, C_below hb hr⟩
  M_K := by
    rintro w F x cs ⟨v, rfl, h⟩
    obtain ⟨A, c, rfl, hl, hr⟩ := Row_K h
    exact ⟨A, c, rfl, hl, hr⟩
  M_lt := by
    rintro w F x cs ⟨v, rfl, h⟩
    exact Row_lt h
  M_move := by
    rintro w w1 F x cs hm ⟨v, rfl, h⟩
    exact ⟨v, rfl, Row_move hm h⟩

end Rp
end Go.Proofs.Ytiliaijgkedhnaa
