/-
  More on kinds: what a call may write, a store into an owned row, rows that are marked in order. Nothing of the program.
-/
import Derived.Test.YtiliaijgkedhnaaRp
import Derived.Tactics
import Derived.Tactics2
import Derived.WalkKit
import Derived.WalkSpells
import Derived.LoopTactic
import Derived.OwnWalk
import Derived.BigQuiet
import Derived.KernelRfl
import Derived.Lib.Hide
import Derived.Lib.QuietBelow
import Derived.Lib.ConvBytes
import Derived.Laws.BytesString
import Derived.Laws.BytesArg
import Derived.Laws.AppendOwnNone
import Derived.Maps.AppendAt
import Derived.Lib.SliceRun
import Derived.Deep.RegionHeld3
import Derived.Deep.DeepCutAuto
namespace Go.Proofs.Ytiliaijgkedhnaa
open Go Go.RowKit Go.Sort
set_option linter.unusedVariables false
set_option linter.unusedSimpArgs false

/-- Only the blocks F, of what was there, may have turned. -/
structure KeptF (F : List Nat) (w w' : World) : Prop where
  os : w'.os = w.os
  tape : w'.tape = w.tape
  output : w'.output = w.output
  size : w.heap.size ≤ w'.heap.size
  block : ∀ b, b < w.heap.size → b ∉ F → w'.heap[b]? = w.heap[b]?

namespace KeptF
theorem refl (F : List Nat) (w : World) : KeptF F w w := ⟨rfl, rfl, rfl, Nat.le_refl _, fun _ _ _ => rfl⟩
theorem trans {F : List Nat} {a b c : World} (h : KeptF F a b) (k : KeptF F b c) : KeptF F a c :=
  ⟨k.os.trans h.os, k.tape.trans h.tape, k.output.trans h.output, Nat.le_trans h.size k.size, fun i hi hf => (k.block i (Nat.lt_of_lt_of_le hi h.size) hf).trans (h.block i hi hf)⟩
theorem of_below {F : List Nat} {w w' : World} (h : Below w.heap.size w w') : KeptF F w w' := ⟨h.os, h.tape, h.output, h.size, fun b hb _ => h.block b hb⟩
theorem below {F : List Nat} {a b c : World} (h : KeptF F a b) (k : Below b.heap.size b c) : KeptF F a c := h.trans (of_below k)
theorem set {F : List Nat} {a b : World} (h : KeptF F a b) {p : Addr} (hp : p.block ∈ F) (u : Value) : KeptF F a (b.setCell p u) :=
  h.trans ⟨rfl, rfl, rfl, by simp [World.setCell], fun i _ hf => Below.heap_setCell _ _ _ _ (fun e => hf (e ▸ hp))⟩
theorem alloc {F : List Nat} {a b : World} (h : KeptF F a b) (o : Obj) : KeptF F a (b.alloc o) := h.below ((Below.refl _ _).alloc (Nat.le_refl _) o)
theorem drew {F : List Nat} {a b : World} (h : KeptF F a b) : KeptF F a b.drew := h.below (Below.refl _ _).drew
theorem mono {F G : List Nat} {w w' : World} (h : KeptF F w w') (hs : ∀ b ∈ F, b ∈ G) : KeptF G w w' := ⟨h.os, h.tape, h.output, h.size, fun b hb hf => h.block b hb (fun hm => hf (hs b hm))⟩
theorem toBelow {F : List Nat} {B : Nat} {w w' : World} (h : KeptF F w w') (hB : B ≤ w.heap.size) (hF : ∀ b ∈ F, B ≤ b) : Below B w w' :=
  ⟨h.os, h.tape, h.output, h.size, fun b hb => h.block b (Nat.lt_of_lt_of_le hb hB) (fun hm => by have := hF b hm; omega)⟩
end KeptF

namespace Rp
variable {α β : Type}
/-- Element k of what is read. -/
theorem C_get {d : Rp α} {w : World} {A : Option Addr} {xs : List α} (h : d.C w A xs) (k : Nat) (hk : k < xs.length) : ∃ b off cs, A = some ⟨b, off, none⟩ ∧ d.K w xs[k] cs ∧
    ∀ j u, cs[j]? = some u → w.cell? ⟨b, off + k * d.sz + j, none⟩ = some u := by
  rcases h with h | ⟨b, off, rfl, h⟩
  · subst h; simp at hk
  · obtain ⟨cs, h1, h2⟩ := h k xs[k] (List.getElem?_eq_getElem hk)
    exact ⟨b, off, cs, rfl, h1, h2⟩

/-- An owned row laid open at element k. -/
theorem Row_open {d : Rp α} {e : TypeId} {w : World} {F : List Nat} {xs : List α} {v : Value} (h : d.Row e w F xs v) (hn : F.Nodup) (k : Nat) (hk : k < xs.length) :
    ∃ g cap c F1, v = .slice (some ⟨g, 0, none⟩) xs.length cap ∧ g ∈ F ∧ g < w.heap.size ∧ d.M w F1 xs[k] c ∧ (∀ b ∈ F1, b ∈ F ∧ b ≠ g) ∧ F1.Nodup ∧
      (∀ j u, c[j]? = some u → w.cell? ⟨g, k * d.sz + j, none⟩ = some u) ∧ (∀ o, w.frozen? ⟨g, o, none⟩ = false) := by
  obtain ⟨inner, Fs, ho, he, rfl⟩ := h
  rcases ho.2 with ⟨rfl, h0⟩ | ⟨g, cap, cur, rfl, _, hg, hnc, hcm, hcs, ht⟩
  · omega
  · obtain ⟨c, F0, F1, F2, e1, e2, e3, e4⟩ := El_at k xs[k] he (List.getElem?_eq_getElem hk)
    have hn' : g ∉ Fs ∧ Fs.Nodup := by simpa [ofOwn, Value.ownBlock] using hn
    refine ⟨g, cap, c, F1, rfl, by simp [ofOwn, Value.ownBlock], own_lt ho g (by simp [ofOwn, Value.ownBlock]), e2, fun b hb => ?_, ?_, fun j u hu => ?_, fun o => ho.frozenAt o⟩
    · have hm : b ∈ Fs := by rw [e1]; simp [hb]
      exact ⟨List.mem_append_right _ hm, fun hbg => hn'.1 (hbg ▸ hm)⟩
    · have := hn'.2
      rw [e1] at this
      exact (List.nodup_append.1 (List.nodup_append.1 this).1).2.1
    · have h1 := e3 j u hu
      rw [ho.cellAt (k * d.sz + j) (by have := (List.getElem?_eq_some_iff.1 h1).1; rw [ho.1] at this; exact this), h1]

/-- One cell of element k is written. -/
theorem Row_store {d : Rp α} {e : TypeId} {w : World} {F : List Nat} {xs : List α} {g n cap : Nat} (h : d.Row e w F xs (.slice (some ⟨g, 0, none⟩) n cap)) (hn : F.Nodup) (k : Nat) (hk : k < xs.length) (j : Nat) (hj : j < d.sz)
    (u : Value) (x' : α) (hM : ∀ c F1, d.M w F1 xs[k] c → d.M w F1 x' (c.set j u)) : d.Row e (w.setCell ⟨g, k * d.sz + j, none⟩ u) F (xs.set k x') (.slice (some ⟨g, 0, none⟩) n cap) := by
  obtain ⟨inner, Fs, ho, he, rfl⟩ := h
  have hn0 : n = xs.length := by
    rcases ho.2 with ⟨h', _⟩ | ⟨_, _, _, h', _⟩
    · simp at h'
    · simp only [Value.slice.injEq] at h'; exact h'.2.1
  have hn' : g ∉ Fs := by
    have := List.nodup_append.1 hn
    intro hm
    exact this.2.2 g (by simp [ofOwn, Value.ownBlock]) g hm rfl
  obtain ⟨c, F0, F1, F2, e1, e2, e3, e4⟩ := El_at k xs[k] he (List.getElem?_eq_getElem hk)
  have hne : ∀ b ∈ Fs, (w.setCell ⟨g, k * d.sz + j, none⟩ u).heap[b]? = w.heap[b]? := fun b hb => Below.heap_setCell _ _ _ _ (fun e => hn' (by rw [← show b = g from e]; exact hb))
  have hm1 : d.M (w.setCell ⟨g, k * d.sz + j, none⟩ u) F1 x' (c.set j u) := d.M_move (fun b hb => hne b (by rw [e1]; simp [hb])) (hM c F1 e2)
  obtain ⟨inner', h5, h6⟩ := e4 _ F1 x' (c.set j u) hm1 (fun b hb => hne b (by
    rw [e1]
    rcases List.mem_append.1 hb with hb | hb
    · simp [hb]
    · simp [hb]))
  have hcl : c.length = d.sz := M_len e2
  have hil : inner.length = xs.length * d.sz := El_len he
  have hkl : k * d.sz + d.sz ≤ inner.length := by rw [hil, ← Nat.succ_mul]; exact Nat.mul_le_mul_right _ hk
  have hset : inner' = inner.set (k * d.sz + j) u := by
    rw [h6]
    apply List.ext_getElem?
    intro i
    have ht : (inner.take (k * d.sz)).length = k * d.sz := by rw [List.length_take]; omega
    by_cases h1 : i < k * d.sz
    · rw [List.append_assoc, List.getElem?_append_left (by omega), List.getElem?_take_of_lt h1, List.getElem?_set_ne (by omega)]
    · by_cases h2 : i < k * d.sz + d.sz
      · rw [List.getElem?_append_left (by rw [List.length_append, ht, List.length_set]; omega), List.getElem?_append_right (by omega), ht]
        by_cases h3 : i = k * d.sz + j
        · subst h3
          rw [Nat.add_sub_cancel_left, List.getElem?_set_self (by omega), List.getElem?_set_self (by omega)]
        · rw [List.getElem?_set_ne (by omega), List.getElem?_set_ne (by omega)]
          have hlt : i - k * d.sz < c.length := by omega
          have := e3 (i - k * d.sz) c[i - k * d.sz] (List.getElem?_eq_getElem hlt)
          rw [List.getElem?_eq_getElem hlt, ← this]
          congr 1
          omega
      · rw [List.getElem?_append_right (by rw [List.length_append, ht, List.length_set]; omega), List.length_append, ht, List.length_set, hcl, List.getElem?_drop, List.getElem?_set_ne (by omega)]
        congr 1
        omega
  refine ⟨inner', Fs, ?_, by rw [e1]; exact h5, rfl⟩
  rw [hset, List.length_set, ← hn0]
  exact (World.ownsRow.stored (by rw [hn0] at ho ⊢; exact ho) (k * d.sz + j) u).1

/-- Several cells in turn are written. -/
def setN (w : World) (g o : Nat) : List Value → World
  | [] => w
  | v :: vs => setN (w.setCell ⟨g, o, none⟩ v) g (o + 1) vs
def setL (l : List Value) (o : Nat) : List Value → List Value
  | [] => l
  | v :: vs => setL (l.set o v) (o + 1) vs
theorem setL_eq : ∀ (cs l : List Value) (o : Nat), o + cs.length ≤ l.length → setL l o cs = l.take o ++ cs ++ l.drop (o + cs.length)
  | [], l, o, _ => by simp [setL]
  | v :: vs, l, o, h => by
    simp only [List.length_cons] at h
    rw [setL, setL_eq vs _ _ (by rw [List.length_set]; omega)]
    apply List.ext_getElem?
    intro i
    have t1 : ((l.set o v).take (o + 1)).length = o + 1 := by rw [List.length_take, List.length_set]; omega
    have t2 : (l.take o).length = o := by rw [List.length_take]; omega
    rw [List.append_assoc, List.append_assoc]
    by_cases h1 : i < o
    · rw [List.getElem?_append_left (by omega), List.getElem?_append_left (by omega), List.getElem?_take_of_lt (by omega), List.getElem?_take_of_lt h1, List.getElem?_set_ne (by omega)]
    · by_cases h2 : i = o
      · subst h2
        rw [List.getElem?_append_left (by omega), List.getElem?_append_right (by omega), t2, Nat.sub_self, List.getElem?_take_of_lt (by omega), List.getElem?_set_self (by omega)]
        rfl
      · rw [List.getElem?_append_right (l₁ := List.take (o + 1) (l.set o v)) (by omega), List.getElem?_append_right (l₁ := List.take o l) (by omega), t1, t2, show i - o = (i - (o + 1)) + 1 by omega, List.cons_append, List.getElem?_cons_succ]
        congr 1
        rw [List.length_cons]
        congr 1
        rw [List.drop_set, if_pos (by omega), show o + 1 + vs.length = o + (vs.length + 1) by omega]
theorem setN_other : ∀ (cs : List Value) (w : World) (g o b : Nat), b ≠ g → (setN w g o cs).heap[b]? = w.heap[b]?
  | [], _, _, _, _, _ => rfl
  | v :: vs, w, g, o, b, h => by rw [setN, setN_other vs _ _ _ _ h, Below.heap_setCell _ _ _ _ h]
theorem setN_own {e : TypeId} {size n cap g : Nat} : ∀ (cs : List Value) (w : World) (o : Nat) (xs : List Value), w.ownsRow 0 e size (.slice (some ⟨g, 0, none⟩) n cap) n xs →
    (setN w g o cs).ownsRow 0 e size (.slice (some ⟨g, 0, none⟩) n cap) n (setL xs o cs)
  | [], _, _, _, h => h
  | v :: vs, w, o, xs, h => setN_own vs _ _ _ (h.stored o v).1
theorem setN_kept {F : List Nat} {a : World} {g : Nat} (hg : g ∈ F) : ∀ (cs : List Value) (w : World) (o : Nat), KeptF F a w → KeptF F a (setN w g o cs)
  | [], _, _, h => h
  | v :: vs, w, o, h => setN_kept hg vs _ _ (h.set (p := ⟨g, o, none⟩) hg v)
theorem setN_size : ∀ (cs : List Value) (w : World) (g o : Nat), (setN w g o cs).heap.size = w.heap.size
  | [], _, _, _ => rfl
  | v :: vs, w, g, o => by rw [setN, setN_size vs]; simp [World.setCell]

/-- Element k is written whole. -/
theorem Row_put {d : Rp α} {e : TypeId} {w : World} {F : List Nat} {xs : List α} {g n cap : Nat} (h : d.Row e w F xs (.slice (some ⟨g, 0, none⟩) n cap)) (hn : F.Nodup) (k : Nat) (hk : k < xs.length) (x' : α) (cs : List Value) (F1' : List Nat)
    (hm : d.M w F1' x' cs) (hd : ∀ b ∈ F1', b ∉ F) (hn1 : F1'.Nodup) :
    ∃ F', d.Row e (setN w g (k * d.sz) cs) F' (xs.set k x') (.slice (some ⟨g, 0, none⟩) n cap) ∧ F'.Nodup ∧ (∀ b ∈ F', b ∈ F ∨ b ∈ F1') ∧ g ∈ F := by
  obtain ⟨inner, Fs, ho, he, rfl⟩ := h
  obtain rfl : n = xs.length := by
    rcases ho.2 with ⟨h', _⟩ | ⟨_, _, _, h', _⟩
    · simp at h'
    · simp only [Value.slice.injEq] at h'; exact h'.2.1
  have hgo : ofOwn (.slice (some ⟨g, 0, none⟩) xs.length cap) = [g] := by simp [ofOwn, Value.ownBlock]
  rw [hgo] at hn hd ⊢
  have hn' : g ∉ Fs ∧ Fs.Nodup := by simpa using hn
  obtain ⟨c, F0, F1, F2, e1, e2, e3, e4⟩ := El_at k xs[k] he (List.getElem?_eq_getElem hk)
  have hg1 : g ∉ F1' := fun hg => hd g hg (by simp)
  have hm1 : d.M (setN w g (k * d.sz) cs) F1' x' cs := d.M_move (fun b hb => setN_other _ _ _ _ _ (fun e => hg1 (e ▸ hb))) hm
  obtain ⟨inner', h5, h6⟩ := e4 _ F1' x' cs hm1 (fun b hb => setN_other _ _ _ _ _ (fun e => hn'.1 (by
    rw [e1, ← e]
    rcases List.mem_append.1 hb with hb | hb
    · simp [hb]
    · simp [hb])))
  have hcl : cs.length = d.sz := M_len hm
  have hil : inner.length = xs.length * d.sz := El_len he
  have hkl : k * d.sz + d.sz ≤ inner.length := by rw [hil, ← Nat.succ_mul]; exact Nat.mul_le_mul_right _ hk
  refine ⟨[g] ++ (F0 ++ F1' ++ F2), ⟨inner', F0 ++ F1' ++ F2, ?_, h5, by rw [hgo]⟩, ?_, fun b hb => ?_, by simp⟩
  · have := setN_own cs w (k * d.sz) inner ho
    rw [setL_eq _ _ _ (by omega), hcl] at this
    rw [h6, List.length_set]
    exact this
  · have hF := hn'.2
    rw [e1] at hF
    have h7 := List.nodup_append.1 hF
    have h8 := List.nodup_append.1 h7.1
    rw [List.singleton_append, List.nodup_cons]
    refine ⟨fun hm => ?_, ?_⟩
    · rcases List.mem_append.1 hm with hm | hm
      · rcases List.mem_append.1 hm with hm | hm
        · exact hn'.1 (by rw [e1]; simp [hm])
        · exact hg1 hm
      · exact hn'.1 (by rw [e1]; simp [hm])
    · rw [List.nodup_append, List.nodup_append]
      refine ⟨⟨h8.1, hn1, fun a ha b hb hab => hd b hb (by subst hab; rw [e1]; simp [ha])⟩, h7.2.1, fun a ha b hb hab => ?_⟩
      rcases List.mem_append.1 ha with ha | ha
      · exact h7.2.2 a (by simp [ha]) b hb hab
      · exact hd a ha (by subst hab; rw [e1]; simp [hb])
  · rcases List.mem_append.1 hb with hb | hb
    · left; rw [List.mem_singleton] at hb; simp [hb]
    · rcases List.mem_append.1 hb with hb | hb
      · rcases List.mem_append.1 hb with hb | hb
        · left; rw [e1]; simp [hb]
        · right; exact hb
      · left; rw [e1]; simp [hb]

/-- A row made whole by 'make': its elements are all the zero one. -/
theorem El_zeros {d : Rp α} {w : World} {z : α} {zc : List Value} (hz : d.M w [] z zc) : ∀ (n : Nat) (inner : List Value), inner.length = n * d.sz → (∀ i j, i < n → j < d.sz → inner[i * d.sz + j]? = zc[j]?) → d.El w [] (List.replicate n z) inner
  | 0, inner, hl, _ => ⟨rfl, List.length_eq_zero_iff.1 (by simpa using hl)⟩
  | n + 1, inner, hl, hi => by
    rw [Nat.succ_mul] at hl
    have hc : inner.take d.sz = zc := by
      apply List.ext_getElem?
      intro j
      by_cases hj : j < d.sz
      · rw [List.getElem?_take_of_lt hj]
        have := hi 0 j (by omega) hj
        rwa [Nat.zero_mul, Nat.zero_add] at this
      · rw [List.getElem?_eq_none (by rw [List.length_take]; omega), List.getElem?_eq_none (by rw [M_len hz]; omega)]
    refine ⟨zc, inner.drop d.sz, [], [], by rw [← hc, List.take_append_drop], rfl, hz, El_zeros hz n _ (by rw [List.length_drop]; omega) (fun i j h1 h2 => ?_)⟩
    rw [List.getElem?_drop]
    have := hi (i + 1) j (by omega) h2
    rwa [Nat.succ_mul, show i * d.sz + d.sz + j = d.sz + (i * d.sz + j) by omega] at this
end Rp

namespace Rp
variable {α : Type}
/-- A slice value that is read. -/
def S (d : Rp α) (w : World) (xs : List α) (v : Value) : Prop := ∃ A c, v = .slice A xs.length c ∧ CapOk xs.length A c ∧ d.C w A xs
theorem S_below {d : Rp α} {w w1 : World} {xs v} (h : d.S w xs v) (hb : Below w.heap.size w w1) : d.S w1 xs v := by
  obtain ⟨A, c, rfl, hl, hc⟩ := h
  exact ⟨A, c, rfl, hl, C_below hb.block hc⟩
theorem Row_S {d : Rp α} {e : TypeId} {w : World} {F xs v} (h : d.Row e w F xs v) : d.S w xs v := Row_K h
theorem S_nil (d : Rp α) (w : World) : d.S w [] (.slice none 0 0) := ⟨none, 0, rfl, ⟨Nat.le_refl _, fun _ => rfl⟩, .inl rfl⟩
theorem Row_nil (d : Rp α) (e : TypeId) (w : World) : d.Row e w [] [] (.slice none 0 0) := ⟨[], [], World.ownsRow_nil _ _ _ _, ⟨rfl, rfl⟩, rfl⟩
theorem Row_below {d : Rp α} {e : TypeId} {w w1 : World} {F xs v} (h : d.Row e w F xs v) (hb : Below w.heap.size w w1) : d.Row e w1 F xs v := Row_move (fun b hm => hb.block b (Row_lt h b hm)) h
theorem Row_kept {d : Rp α} {e : TypeId} {w w1 : World} {F G xs v} (h : d.Row e w F xs v) (hk : KeptF G w w1) (hd : ∀ b ∈ F, b ∉ G) : d.Row e w1 F xs v := Row_move (fun b hm => hk.block b (Row_lt h b hm) (hd b hm)) h
end Rp

/-- make, whole. -/
theorem mk_full {α : Type} {P : Program} (w : World) (t e : TypeId) {z : Value} {size bytes : Nat} (d : Rp α) (x : α) (ht : P.underlying t = some (.slice e))
    (hinfo : (P.info? e).map (fun i => (i.zero, i.size, i.bytes)) = some (some z, size, bytes)) (hsz : d.sz = size) (hz : ∀ w, d.M w [] x z.cells.toList) (n : Nat) (hn : n ≤ 1048576) (hb : bytes ≤ 1024) :
    ∃ w', (Instr.makeSlice t (.int .i64 (n : Int)) (.int .i64 (n : Int))).run P w = .ok (.slice (some ⟨w.heap.size, 0, none⟩) n n) w' ∧ d.Row e w' [w.heap.size] (List.replicate n x) (.slice (some ⟨w.heap.size, 0, none⟩) n n) ∧
      Below w.heap.size w w' ∧ w.heap.size < w'.heap.size := by
  obtain ⟨i0, hi, hzz⟩ := Option.map_eq_some_iff.1 hinfo
  simp only [Prod.mk.injEq] at hzz
  obtain ⟨hz0, hz1, hz2⟩ := hzz
  obtain ⟨w', h1, h2, h3⟩ := run_make_full (P := P) w 0 t e i0 z size ht hi hz0 hz1 .i64 .i64 n (by rw [hz2]; exact Nat.le_trans (Nat.mul_le_mul hb hn) (by decide)) (by simp only [maxLen]; omega) (Nat.zero_le _)
  have hlen := Rp.M_len (hz w')
  refine ⟨w', h1, ⟨_, [], by simpa [hsz] using h2, Rp.El_zeros (hz w') n _ ?_ (fun i j hi hj => ?_), by simp [Rp.ofOwn, Value.ownBlock]⟩, ⟨h3.os, h3.tape, h3.output, h3.size, fun k hk => h3.block k hk (by simp)⟩, ?_⟩
  · rw [hsz, Array.length_toList, size_madeCells]
  · rw [Array.getElem?_toList]
    have hlt : i * d.sz + j < n * size := by
      rw [← hsz]
      have : (i + 1) * d.sz ≤ n * d.sz := Nat.mul_le_mul_right _ hi
      rw [Nat.succ_mul] at this
      omega
    have hzs : z.cells.size = d.sz := by simpa using hlen
    simp only [madeCells, Array.getElem?_map]
    rw [Array.getElem?_eq_getElem (by simpa using hlt)]
    simp only [Array.getElem_range, Option.map_some, hzs]
    rw [show (i * d.sz + j) % d.sz = j by rw [Nat.mul_comm, Nat.mul_add_mod]; exact Nat.mod_eq_of_lt hj]
    rw [Array.getElem?_toList, Array.getElem?_eq_getElem (by omega), getElem!_pos _ _ (by omega)]
  · have := own_lt' h2
    exact this
  where own_lt' {w' : World} {e : TypeId} {size n g c : Nat} {xs : List Value} (h : w'.ownsRow 0 e size (.slice (some ⟨g, 0, none⟩) n c) n xs) : g < w'.heap.size := (h.lt g (by simp [Value.ownBlock])).2

/-- A row filled from the front. -/
def fillL {α : Type} (xs : List α) (z : α) (k : Nat) : List α := xs.take k ++ List.replicate (xs.length - k) z
section
variable {α : Type} {xs : List α} {z : α} {k : Nat}
theorem fillL_zero : fillL xs z 0 = List.replicate xs.length z := by simp [fillL]
theorem fillL_all : fillL xs z xs.length = xs := by simp [fillL]
theorem fillL_len (hk : k ≤ xs.length) : (fillL xs z k).length = xs.length := by simp [fillL, List.length_take]; omega
theorem fillL_get (hk : k < xs.length) (h : k < (fillL xs z k).length) : (fillL xs z k)[k] = z := by
  have hl : (xs.take k).length = k := by rw [List.length_take]; omega
  simp only [fillL]
  rw [List.getElem_append_right (by omega)]
  simp
theorem fillL_set (hk : k < xs.length) : (fillL xs z k).set k xs[k] = fillL xs z (k + 1) := by
  have hl : (xs.take k).length = k := by rw [List.length_take]; omega
  rw [fillL, fillL, List.set_append_right _ _ (by omega), hl, Nat.sub_self, show xs.length - k = (xs.length - (k + 1)) + 1 by omega, List.replicate_succ, List.set_cons_zero]
  conv => rhs; rw [List.take_succ_eq_append_getElem hk]
  rw [List.append_assoc]
  rfl
end

/-- Kinds without rows inside. -/
def Rp.Flat {α : Type} (d : Rp α) : Prop := (∀ {w F x cs}, d.M w F x cs → F = []) ∧ ∀ {w w1 : World} {x cs}, d.K w x cs → d.M w1 [] x cs
namespace Rp
variable {α : Type} {d : Rp α} {e : TypeId} {w w1 : World}
theorem El_flat (hf : d.Flat) : ∀ {xs : List α} {F inner}, d.El w F xs inner → F = [] ∧ d.El w1 [] xs inner
  | [], _, _, ⟨h1, h2⟩ => ⟨h1, rfl, h2⟩
  | x :: xs, _, _, ⟨c, rest, F1, F2, h1, h2, h3, h4⟩ => by
    have a1 := hf.1 h3
    have a2 := El_flat hf h4
    subst a1
    obtain ⟨rfl, a2⟩ := a2
    exact ⟨by simpa using h2, c, rest, [], [], h1, rfl, hf.2 (d.M_K h3), a2⟩
theorem Row_flat (hf : d.Flat) {F xs v} (h : d.Row e w F xs v) : F = ofOwn v := by
  obtain ⟨inner, Fs, h1, h2, rfl⟩ := h
  rw [(El_flat (w1 := w) hf h2).1, List.append_nil]
/-- The cells of what is read, one behind the other. -/
theorem C_inner (hf : d.Flat) {A : Option Addr} : ∀ {xs : List α}, d.C w A xs → ∃ inner, (∀ w1, d.El w1 [] xs inner) ∧ ∀ b off, A = some ⟨b, off, none⟩ → ∀ j u, inner[j]? = some u → w.cell? ⟨b, off + j, none⟩ = some u := by
  intro xs h
  rcases h with h | ⟨b, off, rfl, h⟩
  · exact ⟨[], fun _ => by subst h; exact ⟨rfl, rfl⟩, fun _ _ _ j u hu => by simp at hu⟩
  · induction xs generalizing off with
    | nil => exact ⟨[], fun _ => ⟨rfl, rfl⟩, fun _ _ _ j u hu => by simp at hu⟩
    | cons x xs ih =>
      obtain ⟨cs, k1, q1⟩ := h 0 x rfl
      obtain ⟨inner, h1, h2⟩ := ih (off + d.sz) (fun i y hy => by
        obtain ⟨cs, k2, q2⟩ := h (i + 1) y (by simpa using hy)
        exact ⟨cs, k2, fun j u hu => by rw [show off + d.sz + i * d.sz + j = off + (i + 1) * d.sz + j by rw [Nat.succ_mul]; omega]; exact q2 j u hu⟩)
      refine ⟨cs ++ inner, fun w1 => ⟨cs, inner, [], [], rfl, rfl, hf.2 k1, h1 w1⟩, fun b' off' hA j u hu => ?_⟩
      simp only [Option.some.injEq, Addr.mk.injEq, and_true] at hA
      obtain ⟨rfl, rfl⟩ := hA
      have hl := d.K_len k1
      rcases Nat.lt_or_ge j cs.length with hj | hj
      · rw [List.getElem?_append_left hj] at hu
        have := q1 j u hu
        rwa [Nat.zero_mul, Nat.add_zero] at this
      · rw [List.getElem?_append_right hj] at hu
        have := h2 b (off + d.sz) rfl (j - cs.length) u hu
        rwa [show off + d.sz + (j - cs.length) = off + j by omega] at this
theorem El_append : ∀ {xs ys : List α} {F G a b}, d.El w F xs a → d.El w G ys b → d.El w (F ++ G) (xs ++ ys) (a ++ b)
  | [], _, _, _, _, _, ⟨h1, h2⟩, h => by subst h1; subst h2; exact h
  | x :: xs, ys, _, G, _, b, ⟨c, rest, F1, F2, h1, h2, h3, h4⟩, h => by
    subst h1; subst h2
    exact ⟨c, rest ++ b, F1, F2 ++ G, by simp, by simp, h3, El_append h4 h⟩
end Rp

theorem Rp.Row_made0 {α : Type} (d : Rp α) (e : TypeId) (w : World) {g : Nat} (h : g = w.heap.size) : d.Row e (w.alloc (.cells #[] e)) [g] [] (.slice (some ⟨g, 0, none⟩) 0 0) := by
  subst h
  exact ⟨[], [], by simpa using World.ownsRow_made (base := 0) (e := e) (size := d.sz) w #[] 0 (Nat.zero_le _) (by simp [maxLen]) (by simp), ⟨rfl, rfl⟩, by simp [Rp.ofOwn, Value.ownBlock]⟩
theorem ofOwn_nodup (v : Value) : (Rp.ofOwn v).Nodup := by unfold Rp.ofOwn; cases v.ownBlock <;> simp
theorem KeptF.newBelow {w w' : World} {o : Obj} {g : Nat} (hg : w.heap.size ≤ g) (h : KeptF [g] (w.alloc o) w') : Below w.heap.size w w' := (Below.alloc (Below.refl w.heap.size w) (Nat.le_refl _) o).trans (h.toBelow (by simp) (by simpa using hg))
/-- append(v, u...), v one's own, u read; elements without rows inside. -/
theorem wp_append_op {α : Type} {P : Program} {d : Rp α} {w : World} {o : Oper} {a : Act} {K : Act → World → Prop} {Q : Exit → Act → World → Prop} (s x : Operand) (t e : TypeId)
    (ho : o.op = .call { callee := .builtin .append, args := #[s, x], argTypes := #[t, t] }) (ht : P.underlying t = some (.slice e))
    {z : Value} {size bytes : Nat} (hinfo : (P.info? e).map (fun i => (i.zero, i.size, i.bytes)) = some (some z, size, bytes)) (hzs : z.cells.size = size) (hs0 : 0 < size) (hsz : d.sz = size) (hb : bytes ≤ 1024) (hf : d.Flat)
    {xs ys : List α} {v u : Value} {F : List Nat} (hs : a.eval s = v) (hx : a.eval x = u) (hv : d.Row e w F xs v) (hu : d.S w ys u) (hn : xs.length + ys.length ≤ 16777216)
    (h : ∀ v' w', d.Row e w' (Rp.ofOwn v') (xs ++ ys) v' → KeptF F w w' → (∀ b ∈ Rp.ofOwn v', b ∈ F ∨ w.heap.size ≤ b) → (v' = .slice none 0 0 ↔ v = .slice none 0 0 ∧ ys = []) → K (a.put o.dst v') w') :
    o.wp P a w K Q := by
  obtain ⟨i0, hi, hzz⟩ := Option.map_eq_some_iff.1 hinfo
  simp only [Prod.mk.injEq] at hzz
  obtain ⟨hz0, hz1, hz2⟩ := hzz
  have hF := Rp.Row_flat hf hv
  subst hF
  obtain ⟨A, c, rfl, hc, hC⟩ := hu
  obtain ⟨inner, Fs, hown, hel, _⟩ := id hv
  have hel0 := (Rp.El_flat (w1 := w) hf hel).2
  cases A with
  | none =>
    have hc0 := hc.2 rfl
    subst hc0
    have hy : ys = [] := List.length_eq_zero_iff.1 (Nat.le_zero.1 hc.1)
    subst hy
    have hrun := run_append_owned_none (P := P) (w := w) 0 t o.type e i0 size ht hi v xs.length inner (by rw [← hsz]; exact hown)
    unfold Oper.wp
    simp [execOp, ho, resolve, invoke, builtin, hs, hx, hrun, Result.andThen]
    exact h v w (by rw [List.append_nil]; exact hv) (KeptF.refl _ _) (fun b hb => .inl hb) (by simp)
  | some ad =>
    obtain ⟨inner2, hel2, hcell⟩ := Rp.C_inner hf hC
    have hl2 : inner2.length = ys.length * d.sz := Rp.El_len (hel2 w)
    have hnews : ∀ j u, inner2[j]? = some u → w.cell? (ad.add j) = some u := fun j u hju => by
      rcases hC with hC | ⟨b, off, hA, _⟩
      · subst hC
        rw [List.length_nil, Nat.zero_mul] at hl2
        rw [List.length_eq_zero_iff.1 hl2] at hju
        simp at hju
      · cases hA
        have := hcell b off rfl j u hju
        rw [Addr.add]
        by_cases hj : j = 0
        · subst hj; simpa using this
        · rw [if_neg hj]; exact this
    obtain ⟨v', w', hr, h1, h2, h3, h4⟩ := run_append_own_at (P := P) w 0 t o.type e i0 z size bytes ht hi hz0 hz1 hz2 hzs hs0 v xs.length inner (by rw [← hsz]; exact hown) ad ys.length c inner2 (by rw [hl2, hsz]) hnews (Rp.El_one (hel2 w)) (by simp only [maxLen]; omega) (Nat.le_trans (Nat.mul_le_mul hn hb) (by decide)) (Nat.zero_le _)
    unfold Oper.wp execOp
    simp only [ho, resolve, invoke, builtin, Sem.run_bind, Sem.run_pure, Result.andThen_ok, List.map_toArray, List.map_cons, List.map_nil, hs, hx, hr]
    refine h v' w' ⟨inner ++ inner2, [], by rw [List.length_append, hsz]; exact h1, by have := Rp.El_append ((Rp.El_flat (w1 := w') hf hel).2) (hel2 w'); simpa using this, by simp⟩
      ⟨h2.os, h2.tape, h2.output, h2.size, fun k hk hm => h2.block k hk (fun e => hm (by simp [Rp.ofOwn, ← e]))⟩ (fun b hb => ?_) (by rw [h3, List.length_eq_zero_iff])
    rcases h4 with h4 | h4
    · left; simpa [Rp.ofOwn, h4] using hb
    · right
      simp [Rp.ofOwn, h4] at hb
      omega
theorem wp_append {α : Type} {P : Program} {d : Rp α} {w : World} {ops : Array Oper} {rest : List Oper} {o : Oper} {a : Act} {Q : Exit → Act → World → Prop} (hgd : o.guard = none) (s x : Operand) (t e : TypeId)
    (ho : o.op = .call { callee := .builtin .append, args := #[s, x], argTypes := #[t, t] }) (ht : P.underlying t = some (.slice e))
    {z : Value} {size bytes : Nat} (hinfo : (P.info? e).map (fun i => (i.zero, i.size, i.bytes)) = some (some z, size, bytes)) (hzs : z.cells.size = size) (hs0 : 0 < size) (hsz : d.sz = size) (hb : bytes ≤ 1024) (hf : d.Flat)
    {xs ys : List α} {v u : Value} {F : List Nat} (hs : a.eval s = v) (hx : a.eval x = u) (hv : d.Row e w F xs v) (hu : d.S w ys u) (hn : xs.length + ys.length ≤ 16777216)
    (h : ∀ v' w', d.Row e w' (Rp.ofOwn v') (xs ++ ys) v' → KeptF F w w' → (∀ b ∈ Rp.ofOwn v', b ∈ F ∨ w.heap.size ≤ b) → (v' = .slice none 0 0 ↔ v = .slice none 0 0 ∧ ys = []) → wpList P ops Q rest (a.put o.dst v') w') :
    wpList P ops Q (o :: rest) a w :=
  wpList_plain hgd fun K hK => wp_append_op s x t e ho ht hinfo hzs hs0 hsz hb hf hs hx hv hu hn fun v' w' h1 h2 h3 h4 => hK _ _ (h v' w' h1 h2 h3 h4)
theorem step_append {α : Type} {P : Program} {d : Rp α} {w : World} {ops : Array Oper} {o : Oper} {a : Act} {K : Act → World → Prop} {Q : Exit → Act → World → Prop} {E : Prop} (hgd : o.guard = none) (s x : Operand) (t e : TypeId)
    (ho : o.op = .call { callee := .builtin .append, args := #[s, x], argTypes := #[t, t] }) (ht : P.underlying t = some (.slice e))
    {z : Value} {size bytes : Nat} (hinfo : (P.info? e).map (fun i => (i.zero, i.size, i.bytes)) = some (some z, size, bytes)) (hzs : z.cells.size = size) (hs0 : 0 < size) (hsz : d.sz = size) (hb : bytes ≤ 1024) (hf : d.Flat)
    {xs ys : List α} {v u : Value} {F : List Nat} (hs : a.eval s = v) (hx : a.eval x = u) (hv : d.Row e w F xs v) (hu : d.S w ys u) (hn : xs.length + ys.length ≤ 16777216)
    (h : ∀ v' w', d.Row e w' (Rp.ofOwn v') (xs ++ ys) v' → KeptF F w w' → (∀ b ∈ Rp.ofOwn v', b ∈ F ∨ w.heap.size ≤ b) → (v' = .slice none 0 0 ↔ v = .slice none 0 0 ∧ ys = []) → K (a.put o.dst v') w') :
    if Region.wanted o (yielded ops a.tmps) = true then Oper.wp P o a w K Q else E := by
  rw [if_pos (by simp [Region.wanted, hgd])]
  exact wp_append_op s x t e ho ht hinfo hzs hs0 hsz hb hf hs hx hv hu hn h

/-- A variable of the call's own: a block known whole. -/
def Box (w : World) (b : Nat) (cs : Array Value) (T : TypeId) : Prop := w.heap[b]? = some (.cells cs T (0, 0))
namespace Box
variable {w w1 : World} {b : Nat} {cs : Array Value} {T : TypeId}
theorem lt (h : Box w b cs T) : b < w.heap.size := by
  rcases Nat.lt_or_ge b w.heap.size with h1 | h1
  · exact h1
  · rw [Box, Array.getElem?_eq_none h1] at h; cases h
theorem cell (h : Box w b cs T) (j : Nat) {v : Value} (hv : cs[j]? = some v) : w.cell? ⟨b, j, none⟩ = some v := by
  rw [Box] at h
  simp only [World.cell?, h]
  exact hv
theorem fro (h : Box w b cs T) (j : Nat) : w.frozen? ⟨b, j, none⟩ = false := by
  rw [Box] at h
  simp only [World.frozen?, h]
  simp
theorem new (h : b = w.heap.size) : Box (w.alloc (.cells cs T)) b cs T := by subst h; exact heap_alloc_new _ _
theorem alloc (h : Box w b cs T) {o : Obj} : Box (w.alloc o) b cs T := (Below.heap_alloc _ _ _ h.lt).trans h
theorem below (h : Box w b cs T) (hb : Below w.heap.size w w1) : Box w1 b cs T := (hb.block b h.lt).trans h
theorem kept {F : List Nat} (h : Box w b cs T) (hk : KeptF F w w1) (hn : b ∉ F) : Box w1 b cs T := (hk.block b h.lt hn).trans h
theorem set (h : Box w b cs T) (j : Nat) (v : Value) : Box (w.setCell ⟨b, j, none⟩ v) b (cs.setIfInBounds j v) T := heap_setCell_same w b j cs T v h
theorem set_other (h : Box w b cs T) {a : Addr} (v : Value) (hn : b ≠ a.block) : Box (w.setCell a v) b cs T := (Below.heap_setCell _ _ _ _ hn).trans h
theorem drew (h : Box w b cs T) : Box w.drew b cs T := h
def setA (cs : Array Value) (o : Nat) : List Value → Array Value
  | [] => cs
  | v :: vs => setA (cs.setIfInBounds o v) (o + 1) vs
theorem setN : ∀ (vs : List Value) {w : World} {cs : Array Value} (h : Box w b cs T) (o : Nat), Box (Rp.setN w b o vs) b (setA cs o vs) T
  | [], _, _, h, _ => h
  | v :: vs, _, _, h, o => setN vs (h.set o v) (o + 1)
theorem setN_other (h : Box w b cs T) (vs : List Value) (g o : Nat) (hn : b ≠ g) : Box (Rp.setN w g o vs) b cs T := (Rp.setN_other vs w g o b hn).trans h
end Box

/-- A slice of one element, laid into a block of its own. -/
theorem Rp.S_one {α : Type} {d : Rp α} {w : World} {g : Nat} {x : α} {cs : Array Value} {T : TypeId} (hb : Box w g cs T) (hk : d.K w x cs.toList) : d.S w [x] (.slice (some ⟨g, 0, none⟩) 1 1) :=
  ⟨_, _, rfl, ⟨Nat.le_refl _, fun h => by cases h⟩, .inr ⟨g, 0, rfl, fun i y hy => by
    match i, hy with
    | 0, hy =>
      obtain rfl : x = y := by simpa using hy
      exact ⟨_, hk, fun j u hu => by rw [Nat.zero_mul, Nat.zero_add]; exact hb.cell _ (by simpa using hu)⟩⟩⟩

/-- Sums over a list. -/
def sumN {α : Type} (f : α → Nat) : List α → Nat
  | [] => 0
  | x :: xs => f x + sumN f xs
section
variable {α : Type} {f : α → Nat}
theorem sumN_append : ∀ (xs ys : List α), sumN f (xs ++ ys) = sumN f xs + sumN f ys
  | [], ys => by simp [sumN]
  | x :: xs, ys => by simp only [List.cons_append, sumN, sumN_append xs ys]; omega
theorem sumN_take {xs : List α} {k : Nat} (hk : k < xs.length) : sumN f (xs.take (k + 1)) = sumN f (xs.take k) + f xs[k] := by
  rw [List.take_succ_eq_append_getElem hk, sumN_append]; simp [sumN]
theorem sumN_le {xs : List α} (k : Nat) : sumN f (xs.take k) ≤ sumN f xs := by
  have := sumN_append (f := f) (xs.take k) (xs.drop k)
  rw [List.take_append_drop] at this
  omega
theorem sumN_all {xs : List α} : sumN f (xs.take xs.length) = sumN f xs := by rw [List.take_length]
end
/-- The size of a list: how many, and theirs. -/
def szL {α : Type} (f : α → Nat) (xs : List α) : Nat := xs.length + sumN f xs

/-! rows that are marked in order -/
section
variable {α : Type}
def mkL (mk : α → Int → α × Int) : List α → Int → List α × Int
  | [], k => ([], k)
  | x :: xs, k => ((mk x k).1 :: (mkL mk xs (mk x k).2).1, (mkL mk xs (mk x k).2).2)
theorem mkL_append (mk : α → Int → α × Int) : ∀ (xs ys : List α) (k : Int), mkL mk (xs ++ ys) k = ((mkL mk xs k).1 ++ (mkL mk ys (mkL mk xs k).2).1, (mkL mk ys (mkL mk xs k).2).2)
  | [], ys, k => rfl
  | x :: xs, ys, k => by simp only [List.cons_append, mkL, mkL_append mk xs ys]
theorem mkL_len (mk : α → Int → α × Int) : ∀ (xs : List α) (k : Int), (mkL mk xs k).1.length = xs.length
  | [], k => rfl
  | x :: xs, k => by simp only [mkL, List.length_cons, mkL_len mk xs]
/-- Behind i rounds: the list, the number. -/
def mkAt (mk : α → Int → α × Int) (xs : List α) (k : Int) (i : Nat) : List α := (mkL mk (xs.take i) k).1 ++ xs.drop i
def mkNo (mk : α → Int → α × Int) (xs : List α) (k : Int) (i : Nat) : Int := (mkL mk (xs.take i) k).2
section
variable {mk : α → Int → α × Int} {xs : List α} {k : Int} {i : Nat}
theorem mkL_le (hm : ∀ x k, k ≤ (mk x k).2) : ∀ (xs : List α) (k : Int), k ≤ (mkL mk xs k).2
  | [], k => Int.le_refl _
  | x :: xs, k => Int.le_trans (hm x k) (mkL_le hm xs _)
theorem mkAt_zero : mkAt mk xs k 0 = xs := by simp [mkAt, mkL]
theorem mkNo_zero : mkNo mk xs k 0 = k := by simp [mkNo, mkL]
theorem mkAt_all : mkAt mk xs k xs.length = (mkL mk xs k).1 := by simp [mkAt]
theorem mkNo_all : mkNo mk xs k xs.length = (mkL mk xs k).2 := by simp [mkNo]
theorem mkAt_len (hi : i ≤ xs.length) : (mkAt mk xs k i).length = xs.length := by simp [mkAt, mkL_len, List.length_take]; omega
theorem mkL_take (hi : i < xs.length) : mkL mk (xs.take (i + 1)) k = ((mkL mk (xs.take i) k).1 ++ [(mk xs[i] (mkNo mk xs k i)).1], (mk xs[i] (mkNo mk xs k i)).2) := by
  rw [List.take_succ_eq_append_getElem hi, mkL_append]
  rfl
theorem mkNo_succ (hi : i < xs.length) : mkNo mk xs k (i + 1) = (mk xs[i] (mkNo mk xs k i)).2 := by rw [mkNo, mkL_take hi]
theorem mkAt_get (hi : i < xs.length) : (mkAt mk xs k i)[i]? = some xs[i] := by
  have hl : (mkL mk (xs.take i) k).1.length = i := by rw [mkL_len, List.length_take]; omega
  rw [mkAt, List.getElem?_append_right (by omega), hl, Nat.sub_self, List.getElem?_drop, Nat.add_zero, List.getElem?_eq_getElem hi]
theorem mkAt_get' (hi : i < xs.length) (h : i < (mkAt mk xs k i).length) : (mkAt mk xs k i)[i] = xs[i] := by
  have := mkAt_get (mk := mk) (k := k) hi
  rw [List.getElem?_eq_getElem h] at this
  exact Option.some.inj this
theorem mkAt_set (hi : i < xs.length) : (mkAt mk xs k i).set i (mk xs[i] (mkNo mk xs k i)).1 = mkAt mk xs k (i + 1) := by
  have hl : (mkL mk (xs.take i) k).1.length = i := by rw [mkL_len, List.length_take]; omega
  rw [mkAt, mkAt, mkL_take hi, List.set_append_right _ _ (by omega), hl, Nat.sub_self, List.drop_eq_getElem_cons hi]
  simp only [List.set_cons_zero, List.append_assoc, List.cons_append, List.nil_append]
/-- Element i of what is marked. -/
theorem mkL_get (hi : i < xs.length) : (mkL mk xs k).1[i]? = some (mk xs[i] (mkNo mk xs k i)).1 := by
  have hl : (mkL mk (xs.take i) k).1.length = i := by rw [mkL_len, List.length_take]; omega
  have hs : xs = xs.take (i + 1) ++ xs.drop (i + 1) := by simp
  have : (mkL mk xs k).1 = (mkL mk (xs.take (i + 1) ++ xs.drop (i + 1)) k).1 := by rw [← hs]
  rw [this, mkL_append, mkL_take hi]
  simp only
  rw [List.getElem?_append_left (by simp [hl]), List.getElem?_append_right (by omega), hl]
  simp
theorem mkL_get' (hi : i < xs.length) (h : i < (mkL mk xs k).1.length) : (mkL mk xs k).1[i] = (mk xs[i] (mkNo mk xs k i)).1 := by
  have := mkL_get (mk := mk) (k := k) hi
  rw [List.getElem?_eq_getElem h] at this
  exact Option.some.inj this
theorem mkNo_le (hm : ∀ x k, k ≤ (mk x k).2) : ∀ {j : Nat}, i ≤ j → j ≤ xs.length → mkNo mk xs k i ≤ mkNo mk xs k j := by
  intro j hij
  induction hij with
  | refl => intro _; exact Int.le_refl _
  | step h ih =>
    intro hj
    rw [mkNo_succ (by omega)]
    exact Int.le_trans (ih (by omega)) (hm _ _)
theorem mkNo_ge (hm : ∀ x k, k ≤ (mk x k).2) (hi : i ≤ xs.length) : k ≤ mkNo mk xs k i := by
  have := mkNo_le (mk := mk) (xs := xs) (k := k) hm (Nat.zero_le i) hi
  rwa [mkNo_zero] at this
theorem mkNo_top (hm : ∀ x k, k ≤ (mk x k).2) (hi : i ≤ xs.length) : mkNo mk xs k i ≤ (mkL mk xs k).2 := by
  have := mkNo_le (mk := mk) (k := k) hm hi (Nat.le_refl _)
  rwa [mkNo_all] at this
end
end

/-- A cell of an old block, in a later world, blocks laid behind it. -/
theorem regr {w wr : World} {B : Nat} {a : Addr} {v : Value} (hB : Below B w wr) (ha : a.block < B) (hc : w.cell? a = some v) (d : Nat) (os : Array Obj) : (grow (redrawn wr d) os).cell? a = some v :=
  cell_regrown ((hB.cell ha).trans hc) d os
/-- Old cells and marks read as before. -/
theorem bcell {W w1 : World} (hb : Below W.heap.size W w1) : (∀ b o, b < W.heap.size → w1.cell? ⟨b, o, none⟩ = W.cell? ⟨b, o, none⟩) ∧ (∀ b o, b < W.heap.size → w1.frozen? ⟨b, o, none⟩ = W.frozen? ⟨b, o, none⟩) :=
  ⟨fun b o h => hb.cell (p := ⟨b, o, none⟩) h, fun b o h => hb.frozen (p := ⟨b, o, none⟩) h⟩
/-- What is left of 'left' behind n, or -1. -/
def szR (n : Nat) (left : Int) : Int := if (n : Int) ≤ left then left - n else -1
theorem szR_of {n : Nat} {m left : Int} (h : (n : Int) = m) : szR n left = if m ≤ left then left - m else -1 := by rw [szR, h]
theorem szR_yes {n : Nat} {left : Int} (h : (n : Int) ≤ left) : szR n left = left - n := by rw [szR, if_pos h]
theorem szR_no {n : Nat} {left : Int} (h : ¬ (n : Int) ≤ left) : szR n left = -1 := by rw [szR, if_neg h]
/-- Behind an alloc old cells and marks read as before. -/
theorem acell (w : World) : (∀ (o : Obj) (b j : Nat), b < w.heap.size → (w.alloc o).cell? ⟨b, j, none⟩ = w.cell? ⟨b, j, none⟩) ∧ ∀ (o : Obj) (b j : Nat), b < w.heap.size → (w.alloc o).frozen? ⟨b, j, none⟩ = w.frozen? ⟨b, j, none⟩ :=
  ⟨fun o b j h => World.cell?_of_block (Below.heap_alloc _ _ _ h), fun o b j h => World.frozen?_of_block (Below.heap_alloc _ _ _ h)⟩
/-- What a region that draws keeps of the world that it begins in. -/
theorem SBof {w w' : World} (h : Below w.heap.size w w') : Below w.heap.size w w' ∧ ∀ b j, b < w.heap.size → w'.cell? ⟨b, j, none⟩ = w.cell? ⟨b, j, none⟩ := ⟨h, (bcell h).1⟩
theorem below_alloc2 {w W : World} (h : Below w.heap.size w W) (o : Obj) : Below w.heap.size w (W.alloc o) := h.alloc h.size o
theorem below_call {w W W' : World} (h : Below w.heap.size w W) (k : Below W.heap.size W W') : Below w.heap.size w W' := h.trans (k.mono h.size)
theorem ret_int {k : IntKind} {a b : Int} (h : a = b) : Ending.returned (.int k a) = .returned (.int k b) := by rw [h]

/-- A byte made a text. -/
theorem conv1 {P : Program} (w : World) {src e dst : TypeId} (hs : P.underlying src = some (.slice e)) (he : P.underlying e = some (.int .u8)) (hd : P.underlying dst = some .string) (n : Int) :
    (convert src dst (.slice (some ⟨w.heap.size, 0, none⟩) 1 1)).run P (w.alloc (.cells #[.int .u8 n] e)) = .ok (.string ⟨#[UInt8.ofNat n.toNat]⟩) (w.alloc (.cells #[.int .u8 n] e)) := by
  refine (run_convert_bytes_arg (w.alloc (.cells #[.int .u8 n] e)) src e hs he w.heap.size 0 1 1 [n] rfl (fun i hi => ?_) dst hd).trans rfl
  obtain rfl : i = 0 := by omega
  simp only [World.cell?, heap_alloc_new]
  rfl

end Go.Proofs.Ytiliaijgkedhnaa
