/- The row of FnExactTakeChunk: whatever the input, true; the input reads as it did. -/
import Derived.Test.YtioelmhikablcaaRows
import Derived.Test.YtioelmhikablcaaRow
import Derived.Test.YtioelmhikablcaaLTakeChunk
namespace Go.Proofs.Ytioelmhikablcaa
open Go Go.ChangeShapes Go.WideShapes Go.ChangeAt Go.RowKit
open Go.ChangeMaps (open_string shut_string)
set_option linter.unusedVariables false
set_option linter.unusedSimpArgs false

theorem Try.own : ownKnob Try.prog.godebug = none := by kernel_rfl
theorem Try.laidOut : laidOutB Try.prog = true := by kernel_rfl

set_option maxRecDepth 100000 in
theorem opensWanted : Opens Try.prog 203 kWanted wfWanted :=
  Opens.iso (fun v => (⟨v.1, v.2⟩ : DWanted)) (Opens.struct Try.underlying203 (by kernel_rfl) (OpensF.cons (Opens.int (k := .i64) Try.underlying3 (by kernel_rfl)) rfl (OpensF.last (Opens.int (k := .u32) Try.underlying40 (by kernel_rfl)) rfl) (fun _ h0 h1 => And.intro h0 h1))) (fun _ => rfl) (fun _ h => trivial)

set_option maxRecDepth 100000 in
theorem opensChunk : Opens Try.prog 42 kChunk wfChunk :=
  Opens.iso (fun v => (⟨v.1, v.2.1, v.2.2.1, v.2.2.2⟩ : DChunk)) (Opens.struct Try.underlying42 (by kernel_rfl) (OpensF.cons (Opens.int (k := .i64) Try.underlying3 (by kernel_rfl)) rfl (OpensF.cons (Opens.int (k := .i64) Try.underlying3 (by kernel_rfl)) rfl (OpensF.cons (Opens.str Try.underlying9 (by kernel_rfl)) rfl (OpensF.last (Opens.int (k := .u32) Try.underlying40 (by kernel_rfl)) rfl) (fun _ h0 h1 => And.intro h0 h1)) (fun _ h0 h1 => And.intro h0 h1)) (fun _ h0 h1 => And.intro h0 h1))) (fun _ => rfl) (fun _ h => h.2.2.1)

set_option maxRecDepth 100000 in
theorem opensTaking : Opens Try.prog 25 kTaking wfTaking :=
  Opens.iso (fun v => (⟨v.1, v.2⟩ : DTaking)) (Opens.struct Try.underlying25 (by kernel_rfl) (OpensF.cons (Opens.slice (e2 := 136) Try.underlying22 (by kernel_rfl) opensWanted (by decide) (of_decide_eq_true (by kernel_rfl))) rfl (OpensF.last (Opens.slice (e2 := 46) Try.underlying23 (by kernel_rfl) opensChunk (by decide) (of_decide_eq_true (by kernel_rfl))) rfl) (fun _ h0 h1 => And.intro h0 h1))) (fun _ => rfl) (fun _ h => ⟨h.1, h.2⟩)

set_option maxRecDepth 100000 in
theorem lifted (os : Os) (started : os.Started) (H : Type) (enc : TypeId × Value → H) :
    ReturnsInHanded {} Try.checked os 4 .any (Rows.fnExactTakeChunkSpec.pre6 enc Try.prog Try.f4 Rows.fnExactTakeChunkRow.domain false) (Rows.fnExactTakeChunkSpec.post enc Try.prog Try.f4 false true false false) := by
  refine returnsInHanded_of_change_sized (C := Try.checked) Try.own started (by kernel_rfl) Try.func4
    (ChangeSpec.witness6 (enc := enc) (C := Try.checked) false ⟨#[], #[.agg #[.slice none 0 0, .slice none 0 0], .agg #[.int .i64 0, .int .i64 0, .string ⟨#[]⟩, .int .u32 0]], []⟩ 8 (by kernel_rfl) (by kernel_rfl) (by kernel_rfl) (by kernel_rfl)) ?_
  intro W base args ds gs before hval0 hW hcnd hsz0 _
  have hsz : (DataW.weightsEach Try.prog (Try.f4.params.toList ++ Rows.fnExactTakeChunkSpec.plain.varTypes Try.prog) (ds ++ gs)).all (· ≤ reachBytes) = true := hsz0
  have hval : ∀ (j : Nat) t v, Try.f4.params[j]? = some t → args[j]? = some v → Value.okWide Try.prog W .any base t v := hval0
  have hW' := hW
  have hlt := hW.lt
  obtain ⟨p, q, hA0, hV, rfl, hfz, hnd⟩ := hW
  have hA : DataW.TrodAll enc Try.prog W 0 (fun _ => true) true Try.f4.params.toList args.toList ds p := hA0
  rw [Try.params4] at hA hval hsz
  obtain ⟨v0, vs0, d0, ds0, p0, q0, hargs, rfl, rfl, t0, r0⟩ := trodAll_cons hA
  obtain ⟨v1, vs1, d1, ds1, p1, q1, rfl, rfl, rfl, t1, r1⟩ := trodAll_cons r0
  obtain ⟨rfl, rfl, rfl⟩ := trodAll_nil r1
  obtain rfl : args = #[v0, v1] := by cases args; simp_all
  obtain ⟨rfl, rfl⟩ := trodVars_none hV
  have hs : ∀ (j : Nat) t d, [25, 42][j]? = some t → [d0, d1][j]? = some d → ∀ n ∈ d.weights Try.prog t, n ≤ reachBytes := fun j t d ht hd n hn => by
    have := List.all_eq_true.1 hsz n (DataW.weights_mem_each (j := j) (by
      rw [List.getElem?_append_left (by have := (List.getElem?_eq_some_iff.1 ht).1; simpa using this)]; exact ht) (by
      rw [List.getElem?_append_left (by have := (List.getElem?_eq_some_iff.1 hd).1; simpa using this)]; exact hd) n hn)
    simpa using this
  obtain ⟨x0, cs0, rfl, k0, w0⟩ := open_kind opensTaking Try.underlying25 (hval 0 _ _ rfl rfl) t0 (hs 0 _ _ rfl rfl)
  obtain ⟨v0_0, v0_1, e0, _, _⟩ := kTaking_read k0
  obtain rfl : cs0 = #[v0_0, v0_1] := Array.toList_inj.1 e0
  obtain ⟨x1, cs1, rfl, k1, w1⟩ := open_kind opensChunk Try.underlying42 (hval 1 _ _ rfl rfl) t1 (hs 1 _ _ rfl rfl)
  have e1 := kChunk_K k1
  obtain rfl : cs1 = #[.int .i64 x1.fFile, .int .i64 x1.fAt, .string x1.fData, .int .u32 x1.fSum] := Array.toList_inj.1 e1
  clear hA0 hval0 hsz0 hsz
  refine (law_TakeChunk x0 v0_0 v0_1 x1 W k0 k1 w0 w1 (fun s0 => smTaking_le (tcX_sm s0) (by omega))).mono fun e W' ⟨he, bel⟩ => ?_
  subst he
  exact ⟨_, rfl, _, _, _, [], _, [], hW', trodAll_mk1 (shut_bool Try.underlying4 _), (trodAll_cons_mk (Below.trod Try.laidOut (by kernel_rfl) (of_decide_eq_true (by kernel_rfl)) t0 bel (fun x hx => hlt x (by simp [hx]))) (trodAll_cons_mk (Below.trod Try.laidOut (by kernel_rfl) (of_decide_eq_true (by kernel_rfl)) t1 bel (fun x hx => hlt x (by simp [hx]))) trodAll_mk0)), rfl, bel.frame _, fun h => by cases h⟩
theorem over : Rows.fnExactTakeChunkRow.holds Try.pinned (OpenSpec.ofChange Rows.fnExactTakeChunkSpec) :=
  OpenClaim.holds_of_wide 4 Try.f4 rfl rfl rfl rfl rfl rfl rfl ⟨rfl, rfl, rfl, rfl, rfl⟩ rfl rfl rfl rfl rfl (by kernel_rfl) Try.func4 (by kernel_rfl)
    (of_decide_eq_true (by kernel_rfl)) (by unfold Func.isWrapper; first | (rw [if_pos (by decide +kernel)]; kernel_rfl) | (rw [if_neg (by decide +kernel)]; exact ⟨rfl, rfl⟩))
    (fun os started H enc _ => lifted os started H enc)
theorem fnExactTakeChunk_holds : Rows.FnExactTakeChunkSaid := over
#print axioms fnExactTakeChunk_holds
end Go.Proofs.Ytioelmhikablcaa
