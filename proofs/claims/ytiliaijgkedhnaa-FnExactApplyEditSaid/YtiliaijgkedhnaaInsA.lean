/- Copying between rows of several cells an element; an encoding of a flat kind. Nothing of the program. -/
import Derived.Test.YtiliaijgkedhnaaKitB
import Derived.Laws.CopyOwn
import Derived.Lib.Overlaps
import Derived.Lib.AppendZerosOnto
import Derived.Laws.Externs
namespace Go.Proofs.Ytiliaijgkedhnaa
open Go Go.RowKit
set_option linter.unusedVariables false
set_option linter.unusedSimpArgs false

theorem run_copyK {P : Program} (w : World) (dT sT ty elem : TypeId) (k g o dLen dCap : Nat) (a : Addr) (sLen sCap : Nat) (cur : Array Value) (t : TypeId) (cs : List Value)
    (hu : P.underlying dT = some (.slice elem)) (hs : (P.info? elem).map (·.size) = some k)
    (hg : w.heap[g]? = some (.cells cur t (0, 0))) (hn : cs.length = Nat.min sLen dLen * k)
    (hsrc : ∀ j v, cs[j]? = some v → w.cell? (a.add j) = some v) (hfit : o + cs.length ≤ cur.size) (h1 : ∀ v ∈ cs, v.oneCell' = true) :
    (Builtin.copy_ #[dT, sT] ty #[.slice (some ⟨g, o, none⟩) dLen dCap, .slice (some a) sLen sCap]).run P w =
      .ok (goInt (Nat.min sLen dLen)) (w.setRow g (splice cur.toList o cs).toArray) := by
  have hl := run_loadCells_list (P := P) w a cs hsrc
  have hst := run_storeCells_at P g o t cs 0 cur w hg (by simpa using hfit) h1
  cases hq : P.info? elem with
  | none => simp [hq] at hs
  | some i =>
    have hi : i.size = k := by simpa [hq] using hs
    simp [Builtin.copy_, run_underlying hu, Builtin.lenOf, Builtin.firstCells, sizeOf, typeInfo, hq, hi, ← hn, hl, hst, splice]

theorem wp_copy_known (w : World) {P : Program} {o : Oper} {a : Act} {K : Act → World → Prop} {Q : Exit → Act → World → Prop} (d s : Operand) (t t' : TypeId)
    (ho : o.op = .call { callee := .builtin .copy, args := #[d, s], argTypes := #[t, t'] }) (v u : Value) (hd : a.eval d = v) (hs : a.eval s = u) {v' : Value} {w' : World}
    (hr : (Builtin.copy_ #[t, t'] o.type #[v, u]).run P w = .ok v' w') (h : K (a.put o.dst v') w') : o.wp P a w K Q := by
  unfold Oper.wp execOp
  simp only [ho, resolve, invoke, builtin, Sem.run_bind, Sem.run_pure, Result.andThen_ok, List.map_toArray, List.map_cons, List.map_nil, hd, hs, hr]
  exact h
theorem wpList_copy_known (w : World) {P : Program} {ops : Array Oper} {rest : List Oper} {o : Oper} {a : Act} {Q : Exit → Act → World → Prop} (hgd : o.guard = none) (d s : Operand) (t t' : TypeId)
    (ho : o.op = .call { callee := .builtin .copy, args := #[d, s], argTypes := #[t, t'] }) (v u : Value) (hd : a.eval d = v) (hs : a.eval s = u) {v' : Value} {w' : World}
    (hr : (Builtin.copy_ #[t, t'] o.type #[v, u]).run P w = .ok v' w') (h : wpList P ops Q rest (a.put o.dst v') w') : wpList P ops Q (o :: rest) a w :=
  wpList_plain hgd fun _ hK => wp_copy_known w d s t t' ho v u hd hs hr (hK _ _ h)
theorem step_copy_known {P : Program} {ops : Array Oper} {o : Oper} {a : Act} {w : World} {K : Act → World → Prop} {Q : Exit → Act → World → Prop} {E : Prop}
    (hg : o.guard = none) (d x : Operand) (dT sT : TypeId) (hop : o.op = Op.call { callee := Callee.builtin Builtin.copy, args := #[d, x], argTypes := #[dT, sT] })
    (v u : Value) (hd : a.eval d = v) (hx : a.eval x = u) {v' : Value} {w' : World} (hr : (Builtin.copy_ #[dT, sT] o.type #[v, u]).run P w = .ok v' w') (hK : K (a.put o.dst v') w') :
    if Region.wanted o (yielded ops a.tmps) = true then Oper.wp P o a w K Q else E := by
  rw [if_pos (by simp [Region.wanted, hg])]
  exact wp_copy_known w d x dT sT hop v u hd hx hr hK

/-- A flat kind whose elements have k cells, told by an encoding. -/
structure Rp.Enc {α : Type} (d : Rp α) (k : Nat) (enc : α → List Value) : Prop where
  len : ∀ x, (enc x).length = k
  sz : d.sz = k
  one : ∀ x, ∀ u ∈ enc x, u.oneCell' = true
  of : ∀ {w F x cs}, d.M w F x cs → F = [] ∧ cs = enc x
  put : ∀ w x, d.M w [] x (enc x)
namespace Rp
variable {α : Type} {d : Rp α} {k : Nat} {enc : α → List Value}
def encL (enc : α → List Value) : List α → List Value
  | [] => []
  | x :: xs => enc x ++ encL enc xs
theorem encL_append : ∀ (xs ys : List α), encL enc (xs ++ ys) = encL enc xs ++ encL enc ys
  | [], ys => rfl
  | x :: xs, ys => by simp [encL, encL_append xs ys]
theorem Enc.lenL (h : d.Enc k enc) : ∀ xs : List α, (encL enc xs).length = xs.length * k
  | [] => by simp [encL]
  | x :: xs => by rw [encL, List.length_append, h.len, h.lenL xs, List.length_cons, Nat.succ_mul, Nat.add_comm]
theorem Enc.oneL (h : d.Enc k enc) : ∀ (xs : List α), ∀ u ∈ encL enc xs, u.oneCell' = true
  | [], u, hu => by cases hu
  | x :: xs, u, hu => by
    rcases List.mem_append.1 hu with hu | hu
    · exact h.one x u hu
    · exact h.oneL xs u hu
theorem Enc.takeL (h : d.Enc k enc) : ∀ (i : Nat) (xs : List α), (encL enc xs).take (i * k) = encL enc (xs.take i)
  | 0, xs => by simp [encL]
  | i + 1, [] => by simp [encL]
  | i + 1, x :: xs => by
    rw [encL, List.take_succ_cons, encL, List.take_append, h.len, Nat.succ_mul, ← h.takeL i xs]
    rw [List.take_of_length_le (by rw [h.len]; omega), show i * k + k - k = i * k by omega]
theorem Enc.dropL (h : d.Enc k enc) : ∀ (i : Nat) (xs : List α), (encL enc xs).drop (i * k) = encL enc (xs.drop i)
  | 0, xs => by simp
  | i + 1, [] => by simp [encL]
  | i + 1, x :: xs => by
    rw [encL, List.drop_succ_cons, List.drop_append, h.len, Nat.succ_mul, ← h.dropL i xs]
    rw [List.drop_of_length_le (by rw [h.len]; omega), show i * k + k - k = i * k by omega, List.nil_append]
theorem Enc.El_of (h : d.Enc k enc) {w : World} : ∀ {xs : List α} {F inner}, d.El w F xs inner → F = [] ∧ inner = encL enc xs
  | [], _, _, ⟨h1, h2⟩ => ⟨h1, h2⟩
  | x :: xs, _, _, ⟨c, rest, F1, F2, h1, h2, hm, hr⟩ => by
    obtain ⟨rfl, rfl⟩ := h.of hm
    obtain ⟨rfl, rfl⟩ := h.El_of hr
    exact ⟨by rw [h2]; rfl, h1⟩
theorem Enc.El_mk (h : d.Enc k enc) (w : World) : ∀ (xs : List α), d.El w [] xs (encL enc xs)
  | [] => ⟨rfl, rfl⟩
  | x :: xs => ⟨enc x, encL enc xs, [], [], rfl, rfl, h.put w x, h.El_mk w xs⟩
/-- An owned row of a flat kind, in its block's own words. -/
theorem Enc.Row_of (h : d.Enc k enc) {e : TypeId} {w : World} {F : List Nat} {xs : List α} {v : Value} (r : d.Row e w F xs v) :
    (v = .slice none 0 0 ∧ xs = [] ∧ F = []) ∨ ∃ g cap cur, v = .slice (some ⟨g, 0, none⟩) xs.length cap ∧ F = [g] ∧ w.heap[g]? = some (.cells cur e (0, 0)) ∧ xs.length ≤ cap ∧ cap ≤ maxLen ∧ cur.size = cap * k ∧ cur.toList.take (xs.length * k) = encL enc xs := by
  obtain ⟨inner, Fs, ho, he, rfl⟩ := r
  obtain ⟨rfl, rfl⟩ := h.El_of he
  rcases ho.2 with ⟨rfl, h0⟩ | ⟨g, cap, cur, rfl, _, hg, hn, hc, hs, ht⟩
  · exact .inl ⟨rfl, List.length_eq_zero_iff.1 h0, rfl⟩
  · rw [h.sz] at hs ht
    exact .inr ⟨g, cap, cur, rfl, rfl, hg, hn, hc, hs, ht⟩
theorem Enc.Row_mk (h : d.Enc k enc) {e : TypeId} {w : World} {xs : List α} {g cap n : Nat} {cur : Array Value} (hn : n = xs.length) (hg : w.heap[g]? = some (.cells cur e (0, 0))) (hl : xs.length ≤ cap) (hm : cap ≤ maxLen) (hs : cur.size = cap * k) (ht : cur.toList.take (xs.length * k) = encL enc xs) :
    d.Row e w [g] xs (.slice (some ⟨g, 0, none⟩) n cap) := by
  subst hn
  exact ⟨encL enc xs, [], ⟨by rw [h.lenL, h.sz], .inr ⟨g, cap, cur, rfl, Nat.zero_le _, hg, hl, hm, by rw [h.sz]; exact hs, by rw [h.sz]; exact ht⟩⟩, h.El_mk w xs, rfl⟩
end Rp
/-- append(s[:i], make(S, m)...) where there is no room. -/
theorem append_zeros {P : Program} (w : World) (t tn ty e : TypeId) {z : Value} {k bytes : Nat} (ht : P.underlying t = some (.slice e)) (htn : P.underlying tn = some (.int .i64))
    (hinfo : (P.info? e).map (fun i => (i.zero, i.size, i.bytes)) = some (some z, k, bytes)) (hzs : z.cells.size = k) (hk0 : 0 < k) (b i cap m : Nat) (a : List Value) (ha : a.length = i * k)
    (hc : ∀ j u, a[j]? = some u → w.cell? ⟨b, j, none⟩ = some u) (hm : 0 < m) (hcap : cap < i + m) (hsm : (i + m) * bytes ≤ 140737488355328) (hmb : m * bytes ≤ 281474976710656) (hl : i + m ≤ 1000000000) :
    ∃ W1 q G, i + m ≤ G ∧ G ≤ 9223372036854775807 ∧ (Builtin.append_ #[t, tn] ty #[.slice (some ⟨b, 0, none⟩) i cap, .int .i64 (m : Int)]).run P w = .ok (.slice (some ⟨w.heap.size, 0, none⟩) (i + m) G) W1 ∧
      W1.heap[w.heap.size]? = some (.cells (a ++ q).toArray e (0, 0)) ∧ q.length = (G - i) * k ∧ Below w.heap.size w W1 := by
  obtain ⟨i0, hi0, hz0, hzz, hzb⟩ := info_parts hinfo
  have hold : (Builtin.firstCells i0.size i (.slice (some ⟨b, 0, none⟩) i cap)).run P w.drew = .ok a.toArray w.drew := by
    rw [hzz]
    show (loadCells ⟨b, 0, none⟩ (i * k)).run P w.drew = _
    rw [← ha]
    exact run_loadCells_list w.drew _ _ (fun j u hj => by
      rw [Addr.add_lit, Nat.zero_add]
      exact hc j u hj)
  have h := Lib.run_append_grow_zeros w t tn ty e i0 z .i64 .i64 ht htn hi0 hz0 (some ⟨b, 0, none⟩) i cap a hold m hm (by omega) hcap (by omega) (by rw [hzb]; exact hmb) (by rw [hzb]; exact growslice_fits hcap hsm)
  have hG1 := grownCap_ge w (i + m) cap e
  have hG2 := grownCap_le_maxLen w (i + m) cap e (by unfold maxLen; omega)
  unfold maxLen at hG2
  generalize grownCap w (i + m) cap e = G at *
  refine ⟨_, (Builtin.zeroCells z.cells m ++ Builtin.zeroCells z.cells (G - (i + m))).toList, G, hG1, hG2, h, ?_, ?_, Below.alloc (Below.drew (Below.refl _ _)) (Nat.le_refl _) _⟩
  · have := heap_alloc_new w.drew (.cells (a.toArray ++ Builtin.zeroCells z.cells m ++ Builtin.zeroCells z.cells (G - (i + m))) e)
    rw [show w.drew.heap.size = w.heap.size from rfl] at this
    rw [this]
    congr 2
    apply Array.ext'
    simp
  · rw [show G - i = m + (G - (i + m)) by omega, Nat.add_mul]
    simp [Builtin.zeroCells, hzs]
/-- What stands in a row whose tail was moved by one and a new element laid in. -/
theorem splice_ins {k n i : Nat} {L a z y : List Value} (hy : y.length = k) (hL : L.take (n * k) = a ++ z) (ha : a.length = i * k) (hz : z.length = (n - i) * k) (hi : i ≤ n) (hl : (n + 1) * k ≤ L.length) :
    (splice (splice L ((i + 1) * k) z) (i * k) y).take ((n + 1) * k) = a ++ (y ++ z) := by
  have h1 : i * k + (n - i) * k = n * k := by rw [← Nat.add_mul]; congr 1; omega
  have h2 : (i + 1) * k = i * k + k := Nat.succ_mul i k
  have h3 : (n + 1) * k = n * k + k := Nat.succ_mul n k
  have e0 : L.take (i * k) = a := by
    have := congrArg (List.take (i * k)) hL
    rw [List.take_take, Nat.min_eq_left (by omega)] at this
    rw [this, List.take_append_of_le_length (by omega), List.take_of_length_le (by omega)]
  have e1 : (splice L ((i + 1) * k) z).take (i * k) = a := by
    unfold splice
    rw [List.take_append_of_le_length (by rw [List.length_take]; omega), List.take_take, Nat.min_eq_left (by omega), e0]
  have e2 : (splice L ((i + 1) * k) z).drop (i * k + y.length) = z ++ L.drop ((n + 1) * k) := by
    unfold splice
    rw [hy, ← h2, List.drop_append, List.drop_of_length_le (by rw [List.length_take]; omega), List.nil_append]
    have : (i + 1) * k - (L.take ((i + 1) * k)).length = 0 := by rw [List.length_take]; omega
    rw [this, List.drop_zero]
    congr 2
    omega
  have e3 : splice (splice L ((i + 1) * k) z) (i * k) y = a ++ (y ++ (z ++ L.drop ((n + 1) * k))) := by
    rw [splice, e1, e2]
  rw [e3, ← List.append_assoc, ← List.append_assoc, List.take_append_of_le_length (by simp only [List.length_append]; omega), List.take_of_length_le (by simp only [List.length_append]; omega), List.append_assoc]
/-- A fresh row, filled: what stood ahead, zeros; the new element and the tail laid in. -/
theorem splice_fresh {k n i : Nat} {a z y q : List Value} (hy : y.length = k) (ha : a.length = i * k) (hz : z.length = (n - i) * k) (hq : (n + 1 - i) * k ≤ q.length) (hi : i ≤ n) :
    (splice (splice (a ++ q) (i * k) y) ((i + 1) * k) z).take ((n + 1) * k) = a ++ (y ++ z) := by
  have h1 : i * k + (n - i) * k = n * k := by rw [← Nat.add_mul]; congr 1; omega
  have h1' : (n + 1 - i) * k = (n - i) * k + k := by rw [← Nat.succ_mul]; congr 1; omega
  have h2 : (i + 1) * k = i * k + k := Nat.succ_mul i k
  have h3 : (n + 1) * k = n * k + k := Nat.succ_mul n k
  have e1 : splice (a ++ q) (i * k) y = a ++ (y ++ q.drop k) := by
    unfold splice
    rw [List.take_append_of_le_length (by omega), List.take_of_length_le (by omega), List.drop_append, List.drop_of_length_le (by omega), List.nil_append, hy, ha]
    congr 3
    omega
  have e2 : splice (splice (a ++ q) (i * k) y) ((i + 1) * k) z = a ++ (y ++ (z ++ q.drop ((n + 1 - i) * k))) := by
    rw [e1, ← List.append_assoc]
    unfold splice
    rw [List.take_append_of_le_length (by simp only [List.length_append]; omega), List.take_of_length_le (by simp only [List.length_append]; omega), List.drop_append, List.drop_of_length_le (by simp only [List.length_append]; omega), List.nil_append, List.drop_drop, List.append_assoc]
    congr 4
    simp only [List.length_append]
    omega
  rw [e2, ← List.append_assoc, ← List.append_assoc, List.take_append_of_le_length (by simp only [List.length_append]; omega), List.take_of_length_le (by simp only [List.length_append]; omega), List.append_assoc]
end Go.Proofs.Ytiliaijgkedhnaa
