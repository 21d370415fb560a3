/- The row of FnExactAppendWal: whatever the input, true; the input reads as it did. -/
import Derived.Test.YtfcodelfgjnkhaaRows
import Derived.Test.YtfcodelfgjnkhaaRow
import Derived.Test.YtfcodelfgjnkhaaLA
namespace Go.Proofs.Ytfcodelfgjnkhaa
open Go Go.ChangeShapes Go.WideShapes Go.ChangeAt Go.RowKit
set_option linter.unusedVariables false

theorem Try.own : ownKnob Try.prog.godebug = none := by kernel_rfl
theorem Try.laidOut : laidOutB Try.prog = true := by kernel_rfl

set_option maxRecDepth 100000 in
theorem opensEntry : Opens Try.prog 36 kEntry wfEntry :=
  Opens.iso (fun v => (⟨v.1, v.2⟩ : DEntry)) (Opens.struct Try.underlying36 (by kernel_rfl) (OpensF.cons (Opens.int Try.underlying3 (by kernel_rfl)) rfl (OpensF.last (Opens.str Try.underlying9 (by kernel_rfl)) rfl) (fun _ h0 h1 => And.intro h0 h1))) (fun _ => rfl) (fun _ h => h.2)
set_option maxRecDepth 100000 in
theorem opensWal : Opens Try.prog 24 kWal wfWal :=
  Opens.iso (fun v => (⟨v.1, v.2.1, v.2.2⟩ : DWal)) (Opens.struct Try.underlying24 (by kernel_rfl) (OpensF.cons (Opens.int Try.underlying3 (by kernel_rfl)) rfl (OpensF.cons (Opens.int Try.underlying3 (by kernel_rfl)) rfl (OpensF.last (Opens.slice Try.underlying22 (by kernel_rfl) opensEntry (by decide) (of_decide_eq_true (by kernel_rfl))) rfl) (fun _ h0 h1 => And.intro h0 h1)) (fun _ h0 h1 => And.intro h0 h1))) (fun _ => rfl) (fun _ h => h.2.2)

set_option maxRecDepth 100000 in
theorem lifted (os : Os) (started : os.Started) (H : Type) (enc : TypeId × Value → H) :
    ReturnsInHanded {} Try.checked os 4 .any (Rows.fnExactAppendWalSpec.pre6 enc Try.prog Try.f4 Rows.fnExactAppendWalRow.domain false) (Rows.fnExactAppendWalSpec.post enc Try.prog Try.f4 false true false false) := by
  refine returnsInHanded_of_change_sized (C := Try.checked) Try.own started (by kernel_rfl) Try.func4
    (ChangeSpec.witness6 (enc := enc) (C := Try.checked) false ⟨#[], #[.agg #[.int .i64 0, .int .i64 0, .slice none 0 0], .agg #[.int .i64 0, .string ⟨#[]⟩]], []⟩ 8 (by kernel_rfl) (by kernel_rfl) (by kernel_rfl) (by kernel_rfl)) ?_
  intro W base args ds gs before hval0 hW hcnd hsz0 _
  have hsz : (DataW.weightsEach Try.prog (Try.f4.params.toList ++ Rows.fnExactAppendWalSpec.plain.varTypes Try.prog) (ds ++ gs)).all (· ≤ reachBytes) = true := hsz0
  have hval : ∀ (j : Nat) t v, Try.f4.params[j]? = some t → args[j]? = some v → Value.okWide Try.prog W .any base t v := hval0
  have hW' := hW
  have hlt := hW.lt
  obtain ⟨p, q, hA0, hV, rfl, hfz, hnd⟩ := hW
  have hA : DataW.TrodAll enc Try.prog W 0 (fun _ => true) true Try.f4.params.toList args.toList ds p := hA0
  rw [Try.params4] at hA hval hsz
  obtain ⟨v0, vs0, d0, ds0, p0, q0, hargs, rfl, rfl, h0, r0⟩ := trodAll_cons hA
  obtain ⟨v1, vs1, d1, ds1, p1, q1, rfl, rfl, rfl, h1, r1⟩ := trodAll_cons r0
  obtain ⟨rfl, rfl, rfl⟩ := trodAll_nil r1
  obtain rfl : args = #[v0, v1] := by cases args; simp_all
  obtain ⟨rfl, rfl⟩ := trodVars_none hV
  have hs : ∀ (j : Nat) t d, [24, 36][j]? = some t → [d0, d1][j]? = some d → ∀ n ∈ d.weights Try.prog t, n ≤ reachBytes := fun j t d ht hd n hn => by
    have := List.all_eq_true.1 hsz n (DataW.weights_mem_each (j := j) (by
      rw [List.getElem?_append_left (by have := (List.getElem?_eq_some_iff.1 ht).1; simpa using this)]; exact ht) (by
      rw [List.getElem?_append_left (by have := (List.getElem?_eq_some_iff.1 hd).1; simpa using this)]; exact hd) n hn)
    simpa using this
  obtain ⟨x, cs0, rfl, k0, w0⟩ := open_kind opensWal Try.underlying24 (hval 0 _ _ rfl rfl) h0 (hs 0 _ _ rfl rfl)
  obtain ⟨y, cs1, rfl, k1, w1⟩ := open_kind opensEntry Try.underlying36 (hval 1 _ _ rfl rfl) h1 (hs 1 _ _ rfl rfl)
  obtain ⟨v2, e0, g2⟩ := kWal_read k0
  obtain rfl : cs0 = #[.int .i64 x.fFirst, .int .i64 x.fBefore, v2] := Array.toList_inj.1 e0
  have e1 := kEntry_K k1
  obtain rfl : cs1 = #[.int .i64 y.fTerm, .string y.fData] := Array.toList_inj.1 e1
  clear hA0 hval0 hsz0 hsz
  refine (law_AppendWal x y v2 W g2 w0 w1).mono fun e W' ⟨he, bel⟩ => ?_
  subst he
  exact ⟨_, rfl, _, _, _, [], _, [], hW', trodAll_mk1 (shut_bool Try.underlying4 _),
    (trodAll_cons_mk (Below.trod Try.laidOut (by kernel_rfl) (of_decide_eq_true (by kernel_rfl)) h0 bel (fun x hx => hlt x (by simp [hx])))
      (trodAll_cons_mk (Below.trod Try.laidOut (by kernel_rfl) (of_decide_eq_true (by kernel_rfl)) h1 bel (fun x hx => hlt x (by simp [hx]))) trodAll_mk0)), rfl, bel.frame _, fun h => by cases h⟩
theorem over : Rows.fnExactAppendWalRow.holds Try.pinned (OpenSpec.ofChange Rows.fnExactAppendWalSpec) :=
  OpenClaim.holds_of_wide 4 Try.f4 rfl rfl rfl rfl rfl rfl rfl ⟨rfl, rfl, rfl, rfl, rfl⟩ rfl rfl rfl rfl rfl (by kernel_rfl) Try.func4 (by kernel_rfl)
    (of_decide_eq_true (by kernel_rfl)) (by unfold Func.isWrapper; first | (rw [if_pos (by decide +kernel)]; kernel_rfl) | (rw [if_neg (by decide +kernel)]; exact ⟨rfl, rfl⟩))
    (fun os started H enc _ => lifted os started H enc)
theorem fnExactAppendWal_holds : Rows.FnExactAppendWalSaid := over
#print axioms fnExactAppendWal_holds
end Go.Proofs.Ytfcodelfgjnkhaa
