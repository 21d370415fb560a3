/- One is deleted out of a row. -/
import Derived.Test.YtiliaijgkedhnaaApC
import Derived.Test.YtiliaijgkedhnaaInsA
import Derived.Test.YtiliaijgkedhnaaInv
import Derived.Test.YtiliaijgkedhnaaMade
namespace Go.Proofs.Ytiliaijgkedhnaa
open Go Go.RowKit Go.Sort
set_option linter.unusedVariables false
set_option linter.unusedSimpArgs false

theorem wp_app_known (w : World) {P : Program} {o : Oper} {a : Act} {K : Act → World → Prop} {Q : Exit → Act → World → Prop} (d s : Operand) (t t' : TypeId)
    (ho : o.op = .call { callee := .builtin .append, args := #[d, s], argTypes := #[t, t'] }) (v u : Value) (hd : a.eval d = v) (hs : a.eval s = u) {v' : Value} {w' : World}
    (hr : (Builtin.append_ #[t, t'] o.type #[v, u]).run P w = .ok v' w') (h : K (a.put o.dst v') w') : o.wp P a w K Q := by
  unfold Oper.wp execOp
  simp only [ho, resolve, invoke, builtin, Sem.run_bind, Sem.run_pure, Result.andThen_ok, List.map_toArray, List.map_cons, List.map_nil, hd, hs, hr]
  exact h
theorem wp_clear_known (w : World) {P : Program} {o : Oper} {a : Act} {K : Act → World → Prop} {Q : Exit → Act → World → Prop} (d : Operand) (t : TypeId)
    (ho : o.op = .call { callee := .builtin .clear, args := #[d], argTypes := #[t] }) (v : Value) (hd : a.eval d = v) {v' : Value} {w' : World}
    (hr : (Builtin.clear_ #[t] o.type #[v]).run P w = .ok v' w') (h : K (a.put o.dst v') w') : o.wp P a w K Q := by
  unfold Oper.wp execOp
  simp only [ho, resolve, invoke, builtin, Sem.run_bind, Sem.run_pure, Result.andThen_ok, List.map_toArray, List.map_cons, List.map_nil, hd, hr]
  exact h
theorem wpList_clear_known (w : World) {P : Program} {ops : Array Oper} {rest : List Oper} {o : Oper} {a : Act} {Q : Exit → Act → World → Prop} (hgd : o.guard = none) (d : Operand) (t : TypeId)
    (ho : o.op = .call { callee := .builtin .clear, args := #[d], argTypes := #[t] }) (v : Value) (hd : a.eval d = v) {v' : Value} {w' : World}
    (hr : (Builtin.clear_ #[t] o.type #[v]).run P w = .ok v' w') (h : wpList P ops Q rest (a.put o.dst v') w') : wpList P ops Q (o :: rest) a w :=
  wpList_plain hgd fun _ hK => wp_clear_known w d t ho v hd hr (hK _ _ h)
def encM (x : DMeta) : List Value := [.int .i64 x.fNumber, .int .i64 x.fLevel, .string x.fLeast, .string x.fMost]
theorem kMeta_enc : kMeta.Enc 4 encM := ⟨fun _ => rfl, rfl, fun x u hu => by simp [encM] at hu; rcases hu with rfl | rfl | rfl | rfl <;> rfl, fun h => kMeta_M h, fun w x => kMeta_mk w x⟩
def zerM : List Value := [.int .i64 0, .int .i64 0, .string ⟨#[]⟩, .string ⟨#[]⟩]
/-- What lies behind is moved on by one. -/
def delX (cur : Array Value) (l : List DMeta) (k : Nat) : List Value := cur.toList.take (k * 4) ++ Rp.encL encM (l.drop (k + 1)) ++ cur.toList.drop (k * 4 + (Rp.encL encM (l.drop (k + 1))).length)
theorem del_app {w : World} {l : List DMeta} {g cap k : Nat} {cur : Array Value} (hg : w.heap[g]? = some (.cells cur 52 (0, 0))) (hl : l.length ≤ cap) (hs : cur.size = cap * 4) (ht : cur.toList.take (l.length * 4) = Rp.encL encM l) (hk : k < l.length) (a : Addr) (ha : k + 1 < cap → a = ⟨g, (k + 1) * 4, none⟩) (c : Nat) (ty : TypeId) :
    (Builtin.append_ #[30, 30] ty #[.slice (some ⟨g, 0, none⟩) k cap, .slice (some a) (l.length - (k + 1)) c]).run Try.prog w = .ok (.slice (some ⟨g, 0, none⟩) (l.length - 1) cap) (w.setRow g (delX cur l k).toArray) := by
  obtain ⟨i, hi, hz⟩ := Option.map_eq_some_iff.1 infoMeta
  simp only [Prod.mk.injEq] at hz
  have hlen : (Rp.encL encM (l.drop (k + 1))).length = (l.length - (k + 1)) * 4 := by rw [kMeta_enc.lenL, List.length_drop]
  have hi4 : i.size = 4 := hz.2.1
  have h := run_append_room (P := Try.prog) w 30 ty 52 i Try.underlying30 hi g k cap cur hg a (l.length - (k + 1)) c (Rp.encL encM (l.drop (k + 1))) (by rw [hlen, hi4]) (fun j u hu => by
    have hj : j < (l.length - (k + 1)) * 4 := by
      have := (List.getElem?_eq_some_iff.1 hu).1
      omega
    rw [ha (by omega), Addr.add_lit]
    have h1 : (Rp.encL encM l)[(k + 1) * 4 + j]? = some u := by
      rw [← kMeta_enc.dropL, List.getElem?_drop] at hu
      exact hu
    rw [← ht, List.getElem?_take_of_lt (by omega)] at h1
    simp only [World.cell?, hg]
    simpa using h1) (kMeta_enc.oneL _) (by omega) (by rw [hi4, hlen, hs]; omega)
  rw [h, hi4, show k + (l.length - (k + 1)) = l.length - 1 by omega]
  rfl
theorem delX_len {cur : Array Value} {l : List DMeta} {cap k : Nat} (hl : l.length ≤ cap) (hs : cur.size = cap * 4) (hk : k < l.length) : (delX cur l k).length = cap * 4 := by
  have hlen : (Rp.encL encM (l.drop (k + 1))).length = (l.length - (k + 1)) * 4 := by rw [kMeta_enc.lenL, List.length_drop]
  unfold delX
  simp only [List.length_append, List.length_take, List.length_drop, Array.length_toList, hlen, hs]
  omega
theorem delX_take {cur : Array Value} {l : List DMeta} {cap k : Nat} (hl : l.length ≤ cap) (hs : cur.size = cap * 4) (ht : cur.toList.take (l.length * 4) = Rp.encL encM l) (hk : k < l.length) : (delX cur l k).take ((l.length - 1) * 4) = Rp.encL encM (l.take k ++ l.drop (k + 1)) := by
  have hlen : (Rp.encL encM (l.drop (k + 1))).length = (l.length - (k + 1)) * 4 := by rw [kMeta_enc.lenL, List.length_drop]
  have hA : cur.toList.take (k * 4) = Rp.encL encM (l.take k) := by
    rw [← kMeta_enc.takeL, ← ht, List.take_take, Nat.min_eq_left (by omega)]
  unfold delX
  rw [hA, Rp.encL_append, List.take_append_of_le_length (by rw [List.length_append, kMeta_enc.lenL, hlen, List.length_take]; omega), List.take_of_length_le (by rw [List.length_append, kMeta_enc.lenL, hlen, List.length_take]; omega)]
theorem del_clear {w : World} {cur : Array Value} {g cap n : Nat} (hg : w.heap[g]? = some (.cells cur 52 (0, 0))) (hs : cur.size = cap * 4) (hn : n < cap) (c : Nat) (ty : TypeId) :
    (Builtin.clear_ #[30] ty #[.slice (some ⟨g, n * 4, none⟩) 1 c]).run Try.prog w = .ok (.tuple #[]) (w.setRow g (splice cur.toList (n * 4) zerM).toArray) := by
  have hst := run_storeCells_at Try.prog g (n * 4) 52 zerM 0 cur w hg (by simp [zerM]; omega) (fun v hv => by simp [zerM] at hv; rcases hv with rfl | rfl | rfl | rfl <;> rfl)
  have hv : ∀ w, (zeroValue 52).run Try.prog w = .ok (.agg zerM.toArray) w := Try.zeroValue52
  have hz : (Builtin.zeroCells (Value.agg zerM.toArray).cells 1).toList = zerM := by
    have hc : (Value.agg zerM.toArray).cells = zerM.toArray := rfl
    rw [hc]
    simp [Builtin.zeroCells, List.range_succ, zerM]
  simp only [Nat.add_zero] at hst
  simp [Builtin.clear_, run_underlying Try.underlying30, hv, hz, hst, splice]
end Go.Proofs.Ytiliaijgkedhnaa
