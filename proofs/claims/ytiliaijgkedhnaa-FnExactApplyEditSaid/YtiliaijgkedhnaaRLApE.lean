/- The row of FnExactApplyEdit: whatever the input, true; the input reads as it did. -/
import Derived.Test.YtiliaijgkedhnaaRows
import Derived.Test.YtiliaijgkedhnaaRow
import Derived.Test.YtiliaijgkedhnaaLApE
namespace Go.Proofs.Ytiliaijgkedhnaa
open Go Go.ChangeShapes Go.WideShapes Go.ChangeAt Go.RowKit
open Go.ChangeMaps (open_string shut_string)
set_option linter.unusedVariables false
set_option linter.unusedSimpArgs false

theorem Try.own : ownKnob Try.prog.godebug = none := by kernel_rfl
theorem Try.laidOut : laidOutB Try.prog = true := by kernel_rfl

set_option maxRecDepth 100000 in
theorem opensMeta : Opens Try.prog 61 kMeta wfMeta :=
  Opens.iso (fun v => (⟨v.1, v.2.1, v.2.2.1, v.2.2.2⟩ : DMeta)) (Opens.struct Try.underlying61 (by kernel_rfl) (OpensF.cons (Opens.int (k := .i64) Try.underlying3 (by kernel_rfl)) rfl (OpensF.cons (Opens.int (k := .i64) Try.underlying3 (by kernel_rfl)) rfl (OpensF.cons (Opens.str Try.underlying9 (by kernel_rfl)) rfl (OpensF.last (Opens.str Try.underlying9 (by kernel_rfl)) rfl) (fun _ h0 h1 => And.intro h0 h1)) (fun _ h0 h1 => And.intro h0 h1)) (fun _ h0 h1 => And.intro h0 h1))) (fun _ => rfl) (fun _ h => ⟨h.2.2.1, h.2.2.2⟩)

set_option maxRecDepth 100000 in
theorem opensVersion : Opens Try.prog 24 kVersion wfVersion :=
  Opens.iso (fun v => (⟨v.1, v.2.1, v.2.2⟩ : DVersion)) (Opens.struct Try.underlying24 (by kernel_rfl) (OpensF.cons (Opens.int (k := .i64) Try.underlying3 (by kernel_rfl)) rfl (OpensF.cons (Opens.int (k := .i64) Try.underlying3 (by kernel_rfl)) rfl (OpensF.last (Opens.slice (e2 := 52) Try.underlying22 (by kernel_rfl) opensMeta (by decide) (of_decide_eq_true (by kernel_rfl))) rfl) (fun _ h0 h1 => And.intro h0 h1)) (fun _ h0 h1 => And.intro h0 h1))) (fun _ => rfl) (fun _ h => h.2.2)

set_option maxRecDepth 100000 in
theorem opensEdit : Opens Try.prog 27 kEdit wfEdit :=
  Opens.iso (fun v => (⟨v.1, v.2.1, v.2.2.1, v.2.2.2⟩ : DEdit)) (Opens.struct Try.underlying27 (by kernel_rfl) (OpensF.cons (Opens.int (k := .i64) Try.underlying3 (by kernel_rfl)) rfl (OpensF.cons (Opens.int (k := .i64) Try.underlying3 (by kernel_rfl)) rfl (OpensF.cons (Opens.slice (e2 := 3) Try.underlying25 (by kernel_rfl) (Opens.int (k := .i64) Try.underlying3 (by kernel_rfl)) (by decide) (of_decide_eq_true (by kernel_rfl))) rfl (OpensF.last (Opens.slice (e2 := 52) Try.underlying22 (by kernel_rfl) opensMeta (by decide) (of_decide_eq_true (by kernel_rfl))) rfl) (fun _ h0 h1 => And.intro h0 h1)) (fun _ h0 h1 => And.intro h0 h1)) (fun _ h0 h1 => And.intro h0 h1))) (fun _ => rfl) (fun _ h => ⟨⟨fun _ _ => trivial, h.2.2.1.2⟩, h.2.2.2⟩)

set_option maxRecDepth 100000 in
theorem lifted (os : Os) (started : os.Started) (H : Type) (enc : TypeId × Value → H) :
    ReturnsInHanded {} Try.checked os 3 .any (Rows.fnExactApplyEditSpec.pre6 enc Try.prog Try.f3 Rows.fnExactApplyEditRow.domain false) (Rows.fnExactApplyEditSpec.post enc Try.prog Try.f3 false true false false) := by
  refine returnsInHanded_of_change_sized (C := Try.checked) Try.own started (by kernel_rfl) Try.func3
    (ChangeSpec.witness6 (enc := enc) (C := Try.checked) false ⟨#[], #[.agg #[.int .i64 0, .int .i64 0, .slice none 0 0], .agg #[.int .i64 0, .int .i64 0, .slice none 0 0, .slice none 0 0]], []⟩ 8 (by kernel_rfl) (by kernel_rfl) (by kernel_rfl) (by kernel_rfl)) ?_
  intro W base args ds gs before hval0 hW hcnd hsz0 _
  have hsz : (DataW.weightsEach Try.prog (Try.f3.params.toList ++ Rows.fnExactApplyEditSpec.plain.varTypes Try.prog) (ds ++ gs)).all (· ≤ reachBytes) = true := hsz0
  have hval : ∀ (j : Nat) t v, Try.f3.params[j]? = some t → args[j]? = some v → Value.okWide Try.prog W .any base t v := hval0
  have hW' := hW
  have hlt := hW.lt
  obtain ⟨p, q, hA0, hV, rfl, hfz, hnd⟩ := hW
  have hA : DataW.TrodAll enc Try.prog W 0 (fun _ => true) true Try.f3.params.toList args.toList ds p := hA0
  rw [Try.params3] at hA hval hsz
  obtain ⟨v0, vs0, d0, ds0, p0, q0, hargs, rfl, rfl, t0, r0⟩ := trodAll_cons hA
  obtain ⟨v1, vs1, d1, ds1, p1, q1, rfl, rfl, rfl, t1, r1⟩ := trodAll_cons r0
  obtain ⟨rfl, rfl, rfl⟩ := trodAll_nil r1
  obtain rfl : args = #[v0, v1] := by cases args; simp_all
  obtain ⟨rfl, rfl⟩ := trodVars_none hV
  have hs : ∀ (j : Nat) t d, [24, 27][j]? = some t → [d0, d1][j]? = some d → ∀ n ∈ d.weights Try.prog t, n ≤ reachBytes := fun j t d ht hd n hn => by
    have := List.all_eq_true.1 hsz n (DataW.weights_mem_each (j := j) (by
      rw [List.getElem?_append_left (by have := (List.getElem?_eq_some_iff.1 ht).1; simpa using this)]; exact ht) (by
      rw [List.getElem?_append_left (by have := (List.getElem?_eq_some_iff.1 hd).1; simpa using this)]; exact hd) n hn)
    simpa using this
  obtain ⟨x0, cs0, rfl, k0, w0⟩ := open_kind opensVersion Try.underlying24 (hval 0 _ _ rfl rfl) t0 (hs 0 _ _ rfl rfl)
  obtain ⟨v0_2, e0, _⟩ := kVersion_read k0
  obtain rfl : cs0 = #[.int .i64 x0.fNext, .int .i64 x0.fSeq, v0_2] := Array.toList_inj.1 e0
  obtain ⟨x1, cs1, rfl, k1, w1⟩ := open_kind opensEdit Try.underlying27 (hval 1 _ _ rfl rfl) t1 (hs 1 _ _ rfl rfl)
  obtain ⟨v1_2, v1_3, e1, _, _⟩ := kEdit_read k1
  obtain rfl : cs1 = #[.int .i64 x1.fNext, .int .i64 x1.fSeq, v1_2, v1_3] := Array.toList_inj.1 e1
  clear hA0 hval0 hsz0 hsz
  refine (law_ApplyEdit x0 v0_2 x1 v1_2 v1_3 W k0 k1 w0 w1 (fun s0 s1 => apV_sm s0 s1 (by omega))).mono fun e W' ⟨he, bel⟩ => ?_
  subst he
  exact ⟨_, rfl, _, _, _, [], _, [], hW', trodAll_mk1 (shut_bool Try.underlying4 _), (trodAll_cons_mk (Below.trod Try.laidOut (by kernel_rfl) (of_decide_eq_true (by kernel_rfl)) t0 bel (fun x hx => hlt x (by simp [hx]))) (trodAll_cons_mk (Below.trod Try.laidOut (by kernel_rfl) (of_decide_eq_true (by kernel_rfl)) t1 bel (fun x hx => hlt x (by simp [hx]))) trodAll_mk0)), rfl, bel.frame _, fun h => by cases h⟩
theorem over : Rows.fnExactApplyEditRow.holds Try.pinned (OpenSpec.ofChange Rows.fnExactApplyEditSpec) :=
  OpenClaim.holds_of_wide 3 Try.f3 rfl rfl rfl rfl rfl rfl rfl ⟨rfl, rfl, rfl, rfl, rfl⟩ rfl rfl rfl rfl rfl (by kernel_rfl) Try.func3 (by kernel_rfl)
    (of_decide_eq_true (by kernel_rfl)) (by unfold Func.isWrapper; first | (rw [if_pos (by decide +kernel)]; kernel_rfl) | (rw [if_neg (by decide +kernel)]; exact ⟨rfl, rfl⟩))
    (fun os started H enc _ => lifted os started H enc)
theorem fnExactApplyEdit_holds : Rows.FnExactApplyEditSaid := over
#print axioms fnExactApplyEdit_holds
end Go.Proofs.Ytiliaijgkedhnaa
