/- The row of FnExactMergeStep: whatever the input, true; the input reads as it did. No condition. -/
import Derived.Test.YtflogiopajppiaaRows
import Derived.Test.YtflogiopajppiaaRowKMs
import Derived.Test.YtflogiopajppiaaPuMs
import Derived.Test.YtflogiopajppiaaERMs
import Derived.WalkKit
import Derived.ShutString
import Derived.ChangeOld
import Derived.Below
namespace Go.Proofs.Ytflogiopajppiaa
open Go Go.ChangeShapes Go.WideShapes Go.ChangeAt Go.RowKit
open Go.ChangeMaps (open_string shut_string)
open Go.Proofs.YtflogiopajppiaaW.PrintWords Go.Proofs.Ytflogiopajppiaa.PFnExactMergeStep
set_option linter.unusedVariables false
set_option linter.unusedSimpArgs false

theorem Try.own : ownKnob Try.prog.godebug = none := by kernel_rfl
theorem Try.laidOut : laidOutB Try.prog = true := by kernel_rfl

set_option maxRecDepth 100000 in
theorem lifted (os : Os) (started : os.Started) (H : Type) (enc : TypeId × Value → H) :
    ReturnsInHanded {} Try.checked os 4 .any (Rows.fnExactMergeStepSpec.pre6 enc Try.prog Try.f4 Rows.fnExactMergeStepRow.domain false) (Rows.fnExactMergeStepSpec.post enc Try.prog Try.f4 false true false false) := by
  refine returnsInHanded_of_change_sized (C := Try.checked) Try.own started (by kernel_rfl) Try.func4
    (ChangeSpec.witness6 (enc := enc) (C := Try.checked) false ⟨#[], #[.slice none 0 0, .slice none 0 0], []⟩ 8 (by kernel_rfl) (by kernel_rfl) (by kernel_rfl) (by kernel_rfl)) ?_
  intro W base args ds gs before hval0 hW hcnd hsz0 _
  have hsz : (DataW.weightsEach Try.prog (Try.f4.params.toList ++ Rows.fnExactMergeStepSpec.plain.varTypes Try.prog) (ds ++ gs)).all (· ≤ reachBytes) = true := hsz0
  have hval : ∀ (j : Nat) t v, Try.f4.params[j]? = some t → args[j]? = some v → Value.okWide Try.prog W .any base t v := hval0
  have hW' := hW
  have hlt := hW.lt
  obtain ⟨p, q, hA0, hV, rfl, hfz, hnd⟩ := hW
  have hA : DataW.TrodAll enc Try.prog W 0 (fun _ => true) true Try.f4.params.toList args.toList ds p := hA0
  rw [Try.params4] at hA hval hsz
  obtain ⟨v0, vs0, d0, ds0, p0, q0, hargs, rfl, rfl, t0, r0⟩ := trodAll_cons hA
  obtain ⟨v1, vs1, d1, ds1, p1, q1, rfl, rfl, rfl, t1, r1⟩ := trodAll_cons r0
  obtain ⟨rfl, rfl, rfl⟩ := trodAll_nil r1
  obtain rfl : args = #[v0, v1] := by cases args; simp_all
  obtain ⟨rfl, rfl⟩ := trodVars_none hV
  have hs : ∀ (j : Nat) t d, [34, 35][j]? = some t → [d0, d1][j]? = some d → ∀ n ∈ d.weights Try.prog t, n ≤ reachBytes := fun j t d ht hd n hn => by
    have := List.all_eq_true.1 hsz n (DataW.weights_mem_each (j := j) (by
      rw [List.getElem?_append_left (by have := (List.getElem?_eq_some_iff.1 ht).1; simpa using this)]; exact ht) (by
      rw [List.getElem?_append_left (by have := (List.getElem?_eq_some_iff.1 hd).1; simpa using this)]; exact hd) n hn)
    simpa using this
  obtain ⟨b0, m0, n0, rfl⟩ := okWide_slice Try.underlying34 (hval 0 _ _ rfl rfl)
  obtain ⟨x0, A0, c0, e0, l0, h0, w0⟩ := open_kindS (Opens.slice (e2 := 24) Try.underlying34 (by kernel_rfl) opensRun (by decide) (of_decide_eq_true (by kernel_rfl))) rfl t0 (hs 0 _ _ rfl rfl)
  simp only [Value.slice.injEq] at e0; obtain ⟨rfl, rfl, rfl⟩ := e0
  obtain ⟨b1, m1, n1, rfl⟩ := okWide_slice Try.underlying35 (hval 1 _ _ rfl rfl)
  obtain ⟨x1, A1, c1, e1, l1, h1, w1⟩ := open_kindS (Opens.slice (e2 := 3) Try.underlying35 (by kernel_rfl) (Opens.int (k := .i64) Try.underlying3 (by kernel_rfl)) (by decide) (of_decide_eq_true (by kernel_rfl))) rfl t1 (hs 1 _ _ rfl rfl)
  simp only [Value.slice.injEq] at e1; obtain ⟨rfl, rfl, rfl⟩ := e1
  clear hA0 hval0 hsz0 hsz
  obtain ⟨k, hp⟩ := pure_FnExactMergeStep x0 x1 w0 w1
  refine (laws_FnExactMergeStep.calls k b0 n0 x0 b1 n1 x1 true W h0 l0 h1 l1 hp).mono fun e W' ⟨he, bel⟩ => ?_
  subst he
  exact ⟨_, rfl, _, _, _, [], _, [], hW', trodAll_mk1 (shut_bool Try.underlying4 _), (trodAll_cons_mk (Below.trod Try.laidOut (by kernel_rfl) (of_decide_eq_true (by kernel_rfl)) t0 bel (fun x hx => hlt x (by simp [hx]))) (trodAll_cons_mk (Below.trod Try.laidOut (by kernel_rfl) (of_decide_eq_true (by kernel_rfl)) t1 bel (fun x hx => hlt x (by simp [hx]))) trodAll_mk0)), rfl, bel.frame _, fun h => by cases h⟩
theorem over : Rows.fnExactMergeStepRow.holds Try.pinned (OpenSpec.ofChange Rows.fnExactMergeStepSpec) :=
  OpenClaim.holds_of_wide 4 Try.f4 rfl rfl rfl rfl rfl rfl rfl ⟨rfl, rfl, rfl, rfl, rfl⟩ rfl rfl rfl rfl rfl (by kernel_rfl) Try.func4 (by kernel_rfl)
    (of_decide_eq_true (by kernel_rfl)) (by unfold Func.isWrapper; first | (rw [if_pos (by decide +kernel)]; kernel_rfl) | (rw [if_neg (by decide +kernel)]; exact ⟨rfl, rfl⟩))
    (fun os started H enc _ => lifted os started H enc)
theorem fnExactMergeStep_holds : Rows.FnExactMergeStepSaid := over
#print axioms fnExactMergeStep_holds
end Go.Proofs.Ytflogiopajppiaa
