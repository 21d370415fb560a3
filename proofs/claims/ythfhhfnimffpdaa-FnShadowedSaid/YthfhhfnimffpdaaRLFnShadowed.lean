/- The row of FnShadowed: whatever the input, true; the input reads as it did. -/
import Derived.Test.YthfhhfnimffpdaaRows
import Derived.Test.YthfhhfnimffpdaaRow
import Derived.Test.YthfhhfnimffpdaaLFnShadowed
namespace Go.Proofs.Ythfhhfnimffpdaa
open Go Go.ChangeShapes Go.WideShapes Go.ChangeAt Go.RowKit
open Go.ChangeMaps (open_string shut_string)
set_option linter.unusedVariables false
set_option linter.unusedSimpArgs false

theorem byte_wf {y : Int} (h : (Lit.int .u8 y).wf = true) : 0 ≤ y ∧ y ≤ 255 := by
  simp only [Lit.wf, Bool.and_eq_true, decide_eq_true_eq] at h
  rw [show IntKind.u8.min = 0 by decide, show IntKind.u8.max = 255 by decide] at h
  exact h
theorem Try.own : ownKnob Try.prog.godebug = none := by kernel_rfl
theorem Try.laidOut : laidOutB Try.prog = true := by kernel_rfl

set_option maxRecDepth 100000 in
theorem lifted (os : Os) (started : os.Started) (H : Type) (enc : TypeId × Value → H) :
    ReturnsInHanded {} Try.checked os 3 .any (Rows.fnShadowedSpec.pre6 enc Try.prog Try.f3 Rows.fnShadowedRow.domain false) (Rows.fnShadowedSpec.post enc Try.prog Try.f3 false true false false) := by
  refine returnsInHanded_of_change_sized (C := Try.checked) Try.own started (by kernel_rfl) Try.func3
    (ChangeSpec.witness6 (enc := enc) (C := Try.checked) false ⟨#[], #[.slice none 0 0, .slice none 0 0], []⟩ 8 (by kernel_rfl) (by kernel_rfl) (by kernel_rfl) (by kernel_rfl)) ?_
  intro W base args ds gs before hval0 hW hcnd hsz0 _
  have hsz : (DataW.weightsEach Try.prog (Try.f3.params.toList ++ Rows.fnShadowedSpec.plain.varTypes Try.prog) (ds ++ gs)).all (· ≤ reachBytes) = true := hsz0
  have hval : ∀ (j : Nat) t v, Try.f3.params[j]? = some t → args[j]? = some v → Value.okWide Try.prog W .any base t v := hval0
  have hW' := hW
  have hlt := hW.lt
  obtain ⟨p, q, hA0, hV, rfl, hfz, hnd⟩ := hW
  have hA : DataW.TrodAll enc Try.prog W 0 (fun _ => true) true Try.f3.params.toList args.toList ds p := hA0
  rw [Try.params3] at hA hval hsz
  obtain ⟨v0, vs0, d0, ds0, p0, q0, hargs, rfl, rfl, t0, r0⟩ := trodAll_cons hA
  obtain ⟨v1, vs1, d1, ds1, p1, q1, rfl, rfl, rfl, t1, r1⟩ := trodAll_cons r0
  obtain ⟨rfl, rfl, rfl⟩ := trodAll_nil r1
  obtain rfl : args = #[v0, v1] := by cases args; simp_all
  obtain ⟨rfl, rfl⟩ := trodVars_none hV
  have hs : ∀ (j : Nat) t d, [22, 22][j]? = some t → [d0, d1][j]? = some d → ∀ n ∈ d.weights Try.prog t, n ≤ reachBytes := fun j t d ht hd n hn => by
    have := List.all_eq_true.1 hsz n (DataW.weights_mem_each (j := j) (by
      rw [List.getElem?_append_left (by have := (List.getElem?_eq_some_iff.1 ht).1; simpa using this)]; exact ht) (by
      rw [List.getElem?_append_left (by have := (List.getElem?_eq_some_iff.1 hd).1; simpa using this)]; exact hd) n hn)
    simpa using this
  obtain ⟨b0, l0, c0, rfl⟩ := okWide_slice Try.underlying22 (hval 0 _ _ rfl rfl)
  obtain ⟨x0, k0, w0⟩ := open_kindS (Opens.slice (e2 := 5) Try.underlying22 (by kernel_rfl) (Opens.int (k := .u8) Try.underlying5 (by kernel_rfl)) (by decide) (of_decide_eq_true (by kernel_rfl))) rfl t0 (hs 0 _ _ rfl rfl)
  obtain ⟨b1, l1, c1, rfl⟩ := okWide_slice Try.underlying22 (hval 1 _ _ rfl rfl)
  obtain ⟨x1, k1, w1⟩ := open_kindS (Opens.slice (e2 := 5) Try.underlying22 (by kernel_rfl) (Opens.int (k := .u8) Try.underlying5 (by kernel_rfl)) (by decide) (of_decide_eq_true (by kernel_rfl))) rfl t1 (hs 1 _ _ rfl rfl)
  clear hA0 hval0 hsz0 hsz
  obtain ⟨A0, n0, e0, z0, h0⟩ := k0
  obtain ⟨rfl, rfl, rfl⟩ : b0 = A0 ∧ l0 = x0.length ∧ c0 = n0 := by simpa using e0
  obtain ⟨A1, n1, e1, z1, h1⟩ := k1
  obtain ⟨rfl, rfl, rfl⟩ : b1 = A1 ∧ l1 = x1.length ∧ c1 = n1 := by simpa using e1
  refine (law_FnShadowed x0 x1 b0 b1 c0 c1 W ⟨_, _, rfl, z0, h0⟩ ⟨_, _, rfl, z1, h1⟩ (fun y hy => byte_wf (w0.1 y hy)) (fun y hy => byte_wf (w1.1 y hy)) w0.2 w1.2).mono fun e W' ⟨he, bel⟩ => ?_
  subst he
  exact ⟨_, rfl, _, _, _, [], _, [], hW', trodAll_mk1 (shut_bool Try.underlying4 _), (trodAll_cons_mk (Below.trod Try.laidOut (by kernel_rfl) (of_decide_eq_true (by kernel_rfl)) t0 bel (fun x hx => hlt x (by simp [hx]))) (trodAll_cons_mk (Below.trod Try.laidOut (by kernel_rfl) (of_decide_eq_true (by kernel_rfl)) t1 bel (fun x hx => hlt x (by simp [hx]))) trodAll_mk0)), rfl, bel.frame _, fun h => by cases h⟩
theorem over : Rows.fnShadowedRow.holds Try.pinned (OpenSpec.ofChange Rows.fnShadowedSpec) :=
  OpenClaim.holds_of_wide 3 Try.f3 rfl rfl rfl rfl rfl rfl rfl ⟨rfl, rfl, rfl, rfl, rfl⟩ rfl rfl rfl rfl rfl (by kernel_rfl) Try.func3 (by kernel_rfl)
    (of_decide_eq_true (by kernel_rfl)) (by unfold Func.isWrapper; first | (rw [if_pos (by decide +kernel)]; kernel_rfl) | (rw [if_neg (by decide +kernel)]; exact ⟨rfl, rfl⟩))
    (fun os started H enc _ => lifted os started H enc)
theorem fnShadowed_holds : Rows.FnShadowedSaid := over
#print axioms fnShadowed_holds
end Go.Proofs.Ythfhhfnimffpdaa
