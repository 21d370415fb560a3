/- The row of FnExactEditBytes: whatever the input, true; the input reads as it did. No condition. -/
import Derived.Test.YtioelmhikablcaaRows
import Derived.Test.YtioelmhikablcaaRowKEb
import Derived.Test.YtioelmhikablcaaPuEb
import Derived.Test.YtioelmhikablcaaEREb
import Derived.WalkKit
import Derived.ShutString
import Derived.ChangeOld
import Derived.Below
namespace Go.Proofs.Ytioelmhikablcaa
open Go Go.ChangeShapes Go.WideShapes Go.ChangeAt Go.RowKit
open Go.ChangeMaps (open_string shut_string)
open Go.Proofs.YtioelmhikablcaaW.PrintWords Go.Proofs.Ytioelmhikablcaa.PFnExactEditBytes
set_option linter.unusedVariables false
set_option linter.unusedSimpArgs false

theorem Try.own : ownKnob Try.prog.godebug = none := by kernel_rfl
theorem Try.laidOut : laidOutB Try.prog = true := by kernel_rfl

set_option maxRecDepth 100000 in
theorem opensAEdit : Opens Try.prog 87 (Kd.pair (Kd.int .i64) (Kd.pair (Kd.int .i64) (Kd.pair (Kd.slice 3 (Kd.int .i64)) (Kd.slice 217 k217)))) (fun x => ((Lit.int .i64 x.1).wf = true) ∧ ((Lit.int .i64 x.2.1).wf = true) ∧ ((∀ y ∈ x.2.2.1, ((Lit.int .i64 y).wf = true)) ∧ x.2.2.1.length * Try.prog.bytesOf 3 ≤ 140737488351232) ∧ ((∀ y ∈ x.2.2.2, wfMeta y) ∧ x.2.2.2.length * Try.prog.bytesOf 217 ≤ 140737488351232)) := Opens.struct Try.underlying87 (by kernel_rfl) (OpensF.cons (Opens.int (k := .i64) Try.underlying3 (by kernel_rfl)) rfl (OpensF.cons (Opens.int (k := .i64) Try.underlying3 (by kernel_rfl)) rfl (OpensF.cons (Opens.slice (e2 := 3) Try.underlying49 (by kernel_rfl) (Opens.int (k := .i64) Try.underlying3 (by kernel_rfl)) (by decide) (of_decide_eq_true (by kernel_rfl))) rfl (OpensF.last (Opens.slice (e2 := 217) Try.underlying85 (by kernel_rfl) opensMeta (by decide) (of_decide_eq_true (by kernel_rfl))) rfl) (fun _ h0 h1 => And.intro h0 h1)) (fun _ h0 h1 => And.intro h0 h1)) (fun _ h0 h1 => And.intro h0 h1))

set_option maxRecDepth 100000 in
theorem lifted (os : Os) (started : os.Started) (H : Type) (enc : TypeId × Value → H) :
    ReturnsInHanded {} Try.checked os 8 .any (Rows.fnExactEditBytesSpec.pre6 enc Try.prog Try.f8 Rows.fnExactEditBytesRow.domain false) (Rows.fnExactEditBytesSpec.post enc Try.prog Try.f8 false true false false) := by
  refine returnsInHanded_of_change_sized (C := Try.checked) Try.own started (by kernel_rfl) Try.func8
    (ChangeSpec.witness6 (enc := enc) (C := Try.checked) false ⟨#[], #[.agg #[.int .i64 0, .int .i64 0, .slice none 0 0, .slice none 0 0]], []⟩ 8 (by kernel_rfl) (by kernel_rfl) (by kernel_rfl) (by kernel_rfl)) ?_
  intro W base args ds gs before hval0 hW hcnd hsz0 _
  have hsz : (DataW.weightsEach Try.prog (Try.f8.params.toList ++ Rows.fnExactEditBytesSpec.plain.varTypes Try.prog) (ds ++ gs)).all (· ≤ reachBytes) = true := hsz0
  have hval : ∀ (j : Nat) t v, Try.f8.params[j]? = some t → args[j]? = some v → Value.okWide Try.prog W .any base t v := hval0
  have hW' := hW
  have hlt := hW.lt
  obtain ⟨p, q, hA0, hV, rfl, hfz, hnd⟩ := hW
  have hA : DataW.TrodAll enc Try.prog W 0 (fun _ => true) true Try.f8.params.toList args.toList ds p := hA0
  rw [Try.params8] at hA hval hsz
  obtain ⟨v0, vs0, d0, ds0, p0, q0, hargs, rfl, rfl, t0, r0⟩ := trodAll_cons hA
  obtain ⟨rfl, rfl, rfl⟩ := trodAll_nil r0
  obtain rfl : args = #[v0] := by cases args; simp_all
  obtain ⟨rfl, rfl⟩ := trodVars_none hV
  have hs : ∀ (j : Nat) t d, [87][j]? = some t → [d0][j]? = some d → ∀ n ∈ d.weights Try.prog t, n ≤ reachBytes := fun j t d ht hd n hn => by
    have := List.all_eq_true.1 hsz n (DataW.weights_mem_each (j := j) (by
      rw [List.getElem?_append_left (by have := (List.getElem?_eq_some_iff.1 ht).1; simpa using this)]; exact ht) (by
      rw [List.getElem?_append_left (by have := (List.getElem?_eq_some_iff.1 hd).1; simpa using this)]; exact hd) n hn)
    simpa using this
  obtain ⟨x0, cs0, rfl, k0, w0⟩ := open_kind opensAEdit Try.underlying87 (hval 0 _ _ rfl rfl) t0 (hs 0 _ _ rfl rfl)
  obtain ⟨_, _, e0, rfl, ⟨_, _, rfl, rfl, ⟨_, _, rfl, ⟨A0_2, c0_2, rfl, l0_2, h0_2⟩, ⟨A0_3, c0_3, rfl, l0_3, h0_3⟩⟩⟩⟩ := k0
  obtain rfl : cs0 = #[.int .i64 x0.1, .int .i64 x0.2.1, .slice A0_2 x0.2.2.1.length c0_2, .slice A0_3 x0.2.2.2.length c0_3] := Array.toList_inj.1 e0
  clear hA0 hval0 hsz0 hsz
  obtain ⟨k, hp⟩ := pure_FnExactEditBytes x0.1 x0.2.1 x0.2.2.1 x0.2.2.2 w0
  refine (laws_FnExactEditBytes.calls k x0.1 x0.2.1 A0_2 c0_2 x0.2.2.1 A0_3 c0_3 x0.2.2.2 true W h0_2 l0_2 h0_3 l0_3 hp).mono fun e W' ⟨he, bel⟩ => ?_
  subst he
  exact ⟨_, rfl, _, _, _, [], _, [], hW', trodAll_mk1 (shut_bool Try.underlying4 _), (trodAll_cons_mk (Below.trod Try.laidOut (by kernel_rfl) (of_decide_eq_true (by kernel_rfl)) t0 bel (fun x hx => hlt x (by simp [hx]))) trodAll_mk0), rfl, bel.frame _, fun h => by cases h⟩
theorem over : Rows.fnExactEditBytesRow.holds Try.pinned (OpenSpec.ofChange Rows.fnExactEditBytesSpec) :=
  OpenClaim.holds_of_wide 8 Try.f8 rfl rfl rfl rfl rfl rfl rfl ⟨rfl, rfl, rfl, rfl, rfl⟩ rfl rfl rfl rfl rfl (by kernel_rfl) Try.func8 (by kernel_rfl)
    (of_decide_eq_true (by kernel_rfl)) (by unfold Func.isWrapper; first | (rw [if_pos (by decide +kernel)]; kernel_rfl) | (rw [if_neg (by decide +kernel)]; exact ⟨rfl, rfl⟩))
    (fun os started H enc _ => lifted os started H enc)
theorem fnExactEditBytes_holds : Rows.FnExactEditBytesSaid := over
#print axioms fnExactEditBytes_holds
end Go.Proofs.Ytioelmhikablcaa
