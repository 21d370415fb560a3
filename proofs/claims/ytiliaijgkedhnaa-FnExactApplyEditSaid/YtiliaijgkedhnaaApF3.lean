/- A version's files, sorted, where there are none too. -/
import Derived.Test.YtiliaijgkedhnaaApF2
import Derived.Shelf.SlSortCmp.NoneTotal
namespace Go.Proofs.Ytiliaijgkedhnaa
open Go Go.RowKit Go.Sort Go.Shelf
set_option linter.unusedVariables false
set_option linter.unusedSimpArgs false

theorem sortA_calls {xs : List DMeta} {P : Option Addr} {C : Nat} {w : World} {F : List Nat} (hr : kMeta.Row 52 w F xs (.slice P xs.length C)) (hl : xs.length ≤ 1000) :
    Calls Try.prog 26 #[.slice P xs.length C, .func (.func 27) #[] #[]] w fun e w' => e = .returned (.tuple #[]) ∧ ∃ ys : List DMeta, ys.Perm xs ∧ ys.Pairwise numLe ∧ kMeta.Row 52 w' F ys (.slice P xs.length C) ∧ KeptF F w w' := by
  rcases kMeta_enc.Row_of hr with ⟨hv, hx, hF⟩ | ⟨g', cap', cur, hv, _⟩
  · have h := AnyF.slices_SortFunc_none ApSort P C (.func (.func 27) #[] #[]) w
    change Calls Try.prog 26 _ _ _ at h
    obtain rfl : xs = [] := by first | exact hx | (cases xs with | nil => rfl | cons a l => simp at hv)
    refine h.mono ?_
    rintro e w' ⟨rfl, rfl⟩
    exact ⟨rfl, [], .refl _, .nil, hr, KeptF.refl _ _⟩
  · obtain ⟨rfl, _, rfl⟩ := Value.slice.inj hv
    exact sortM_calls hr hl
end Go.Proofs.Ytiliaijgkedhnaa
