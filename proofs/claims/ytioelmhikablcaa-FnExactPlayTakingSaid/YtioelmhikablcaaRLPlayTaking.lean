/- The row of FnExactPlayTaking: whatever the input, true; the input reads as it did. -/
import Derived.Test.YtioelmhikablcaaRows
import Derived.Test.YtioelmhikablcaaRow
import Derived.Test.YtioelmhikablcaaLPlayTaking
namespace Go.Proofs.Ytioelmhikablcaa
open Go Go.ChangeShapes Go.WideShapes Go.ChangeAt Go.RowKit
open Go.ChangeMaps (open_string shut_string)
set_option linter.unusedVariables false
set_option linter.unusedSimpArgs false

theorem Try.own : ownKnob Try.prog.godebug = none := by kernel_rfl
theorem Try.laidOut : laidOutB Try.prog = true := by kernel_rfl

set_option maxRecDepth 100000 in
theorem lifted (os : Os) (started : os.Started) (H : Type) (enc : TypeId × Value → H) :
    ReturnsInHanded {} Try.checked os 5 .any (Rows.fnExactPlayTakingSpec.pre6 enc Try.prog Try.f5 Rows.fnExactPlayTakingRow.domain false) (Rows.fnExactPlayTakingSpec.post enc Try.prog Try.f5 false true false false) := by
  refine returnsInHanded_of_change_sized (C := Try.checked) Try.own started (by kernel_rfl) Try.func5
    (ChangeSpec.witness6 (enc := enc) (C := Try.checked) false ⟨#[], #[.slice none 0 0, .slice none 0 0, .slice none 0 0], []⟩ 8 (by kernel_rfl) (by kernel_rfl) (by kernel_rfl) (by kernel_rfl)) ?_
  intro W base args ds gs before hval0 hW hcnd hsz0 _
  have hsz : (DataW.weightsEach Try.prog (Try.f5.params.toList ++ Rows.fnExactPlayTakingSpec.plain.varTypes Try.prog) (ds ++ gs)).all (· ≤ reachBytes) = true := hsz0
  have hval : ∀ (j : Nat) t v, Try.f5.params[j]? = some t → args[j]? = some v → Value.okWide Try.prog W .any base t v := hval0
  have hW' := hW
  have hlt := hW.lt
  obtain ⟨p, q, hA0, hV, rfl, hfz, hnd⟩ := hW
  have hA : DataW.TrodAll enc Try.prog W 0 (fun _ => true) true Try.f5.params.toList args.toList ds p := hA0
  rw [Try.params5] at hA hval hsz
  obtain ⟨v0, vs0, d0, ds0, p0, q0, hargs, rfl, rfl, t0, r0⟩ := trodAll_cons hA
  obtain ⟨v1, vs1, d1, ds1, p1, q1, rfl, rfl, rfl, t1, r1⟩ := trodAll_cons r0
  obtain ⟨v2, vs2, d2, ds2, p2, q2, rfl, rfl, rfl, t2, r2⟩ := trodAll_cons r1
  obtain ⟨rfl, rfl, rfl⟩ := trodAll_nil r2
  obtain rfl : args = #[v0, v1, v2] := by cases args; simp_all
  obtain ⟨rfl, rfl⟩ := trodVars_none hV
  have hs : ∀ (j : Nat) t d, [27, 49, 49][j]? = some t → [d0, d1, d2][j]? = some d → ∀ n ∈ d.weights Try.prog t, n ≤ reachBytes := fun j t d ht hd n hn => by
    have := List.all_eq_true.1 hsz n (DataW.weights_mem_each (j := j) (by
      rw [List.getElem?_append_left (by have := (List.getElem?_eq_some_iff.1 ht).1; simpa using this)]; exact ht) (by
      rw [List.getElem?_append_left (by have := (List.getElem?_eq_some_iff.1 hd).1; simpa using this)]; exact hd) n hn)
    simpa using this
  obtain ⟨b0, l0, c0, rfl⟩ := okWide_slice Try.underlying27 (hval 0 _ _ rfl rfl)
  obtain ⟨x0, k0, w0⟩ := open_kindS (Opens.slice (e2 := 9) Try.underlying27 (by kernel_rfl) (Opens.str Try.underlying9 (by kernel_rfl)) (by decide) (of_decide_eq_true (by kernel_rfl))) rfl t0 (hs 0 _ _ rfl rfl)
  obtain ⟨b1, l1, c1, rfl⟩ := okWide_slice Try.underlying49 (hval 1 _ _ rfl rfl)
  obtain ⟨x1, k1, w1⟩ := open_kindS (Opens.slice (e2 := 3) Try.underlying49 (by kernel_rfl) (Opens.int (k := .i64) Try.underlying3 (by kernel_rfl)) (by decide) (of_decide_eq_true (by kernel_rfl))) rfl t1 (hs 1 _ _ rfl rfl)
  obtain ⟨b2, l2, c2, rfl⟩ := okWide_slice Try.underlying49 (hval 2 _ _ rfl rfl)
  obtain ⟨x2, k2, w2⟩ := open_kindS (Opens.slice (e2 := 3) Try.underlying49 (by kernel_rfl) (Opens.int (k := .i64) Try.underlying3 (by kernel_rfl)) (by decide) (of_decide_eq_true (by kernel_rfl))) rfl t2 (hs 2 _ _ rfl rfl)
  clear hA0 hval0 hsz0 hsz
  refine (law_PlayTaking x0 (.slice b0 l0 c0) x1 (.slice b1 l1 c1) x2 (.slice b2 l2 c2) W (by obtain ⟨A, c, e, h1, h2⟩ := k0; exact ⟨A, c, by rw [e], h1, h2⟩) (by obtain ⟨A, c, e, h1, h2⟩ := k1; exact ⟨A, c, by rw [e], h1, h2⟩) (by obtain ⟨A, c, e, h1, h2⟩ := k2; exact ⟨A, c, by rw [e], h1, h2⟩) w0 ⟨fun _ _ => trivial, w1.2⟩ ⟨fun _ _ => trivial, w2.2⟩ (fun s0 s1 s2 => smStringS_le (plV_sm s0) (by decide))).mono fun e W' ⟨he, bel⟩ => ?_
  subst he
  exact ⟨_, rfl, _, _, _, [], _, [], hW', trodAll_mk1 (shut_bool Try.underlying4 _), (trodAll_cons_mk (Below.trod Try.laidOut (by kernel_rfl) (of_decide_eq_true (by kernel_rfl)) t0 bel (fun x hx => hlt x (by simp [hx]))) (trodAll_cons_mk (Below.trod Try.laidOut (by kernel_rfl) (of_decide_eq_true (by kernel_rfl)) t1 bel (fun x hx => hlt x (by simp [hx]))) (trodAll_cons_mk (Below.trod Try.laidOut (by kernel_rfl) (of_decide_eq_true (by kernel_rfl)) t2 bel (fun x hx => hlt x (by simp [hx]))) trodAll_mk0))), rfl, bel.frame _, fun h => by cases h⟩
theorem over : Rows.fnExactPlayTakingRow.holds Try.pinned (OpenSpec.ofChange Rows.fnExactPlayTakingSpec) :=
  OpenClaim.holds_of_wide 5 Try.f5 rfl rfl rfl rfl rfl rfl rfl ⟨rfl, rfl, rfl, rfl, rfl⟩ rfl rfl rfl rfl rfl (by kernel_rfl) Try.func5 (by kernel_rfl)
    (of_decide_eq_true (by kernel_rfl)) (by unfold Func.isWrapper; first | (rw [if_pos (by decide +kernel)]; kernel_rfl) | (rw [if_neg (by decide +kernel)]; exact ⟨rfl, rfl⟩))
    (fun os started H enc _ => lifted os started H enc)
theorem fnExactPlayTaking_holds : Rows.FnExactPlayTakingSaid := over
#print axioms fnExactPlayTaking_holds
end Go.Proofs.Ytioelmhikablcaa
