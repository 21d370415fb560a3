/- A version's files, sorted. -/
import Derived.Test.YtiliaijgkedhnaaApF
import Derived.Test.YtiliaijgkedhnaaApSh
import Derived.Shelf.SlSortCmp.WholeK
namespace Go.Proofs.Ytiliaijgkedhnaa
open Go Go.RowKit Go.Sort Go.Shelf
set_option linter.unusedVariables false
set_option linter.unusedSimpArgs false

theorem ordM_lt (x y : DMeta) : ltOf ordM x y = decide (x.fNumber < y.fNumber) := by
  unfold ltOf ordM cmpI
  by_cases h1 : x.fNumber < y.fNumber
  · simp [h1]
  · by_cases h2 : x.fNumber = y.fNumber <;> simp [h1, h2]
theorem ordM_swo : SWO (ltOf ordM) where
  irrefl x := by rw [ordM_lt]; simp
  trans x y z h1 h2 := by rw [ordM_lt] at *; simp at *; omega
  ntrans x y z h1 h2 := by rw [ordM_lt] at *; simp at *; omega
theorem ordM_le {x y : DMeta} (h : ltOf ordM y x = false) : numLe x y := by
  rw [ordM_lt] at h
  simp at h
  unfold numLe
  omega
theorem sortedM {d : Array DMeta} {n : Nat} (h : SortedIn (ltOf ordM) 0 n d) (hs : d.size = n) : d.toList.Pairwise numLe := by
  rw [List.pairwise_iff_getElem]
  intro i j hi hj hij
  have hi' : i < d.size := by simpa using hi
  have hj' : j < d.size := by simpa using hj
  have := h i j (Nat.zero_le _) hij (by omega)
  rw [getElem!_pos d i hi', getElem!_pos d j hj'] at this
  simpa using ordM_le this
theorem permM {d d' : Array DMeta} (h : PermIn 0 d.size d d') : d'.toList.Perm d.toList := by
  obtain ⟨h1, _, h3⟩ := h
  rw [← h1, Array.extract_size] at h3
  rwa [h1, Array.extract_size] at h3
theorem cmpMs (blk off size : Nat) (w : World) : CmpLays Try.prog 27 #[] encM 4 ordM blk off size w := fun _ _ _ _ x y => cloM_calls x y _
theorem sortM_calls {xs : List DMeta} {g cap n : Nat} {w : World} {F : List Nat} (hr : kMeta.Row 52 w F xs (.slice (some ⟨g, 0, none⟩) n cap)) (hl : xs.length ≤ 1000) :
    Calls Try.prog 26 #[.slice (some ⟨g, 0, none⟩) n cap, .func (.func 27) #[] #[]] w fun e w' => e = .returned (.tuple #[]) ∧ ∃ ys : List DMeta, ys.Perm xs ∧ ys.Pairwise numLe ∧ kMeta.Row 52 w' F ys (.slice (some ⟨g, 0, none⟩) n cap) ∧ KeptF F w w' := by
  obtain ⟨hv, _, _⟩ | ⟨g', cap', cur, hv, rfl, hg, _, _, _, _⟩ := kMeta_enc.Row_of hr
  · simp at hv
  obtain ⟨rfl, rfl, rfl⟩ : g = g' ∧ n = xs.length ∧ cap = cap' := by simpa using hv
  have hgl : g < w.heap.size := (Array.getElem?_eq_some_iff.1 hg).1
  have eg : ∀ args w, (callFunc 27 args).run Try.prog w = .ok (.enter 27 args) w := enters_of Try.func27 (by kernel_rfl) rfl
  have hH := Rp.Row_holds kMeta_enc hr
  have hcon := AnyQ.slices_SortFunc ApSort 4 Try.isAgg52 Try.sizeOf52 encM (fun _ => rfl) (fun x v hv => kMeta_enc.one x v hv) ordM ordM_swo 27 #[] g 0 cap xs.toArray w eg (cmpMs g 0 _ w) hH hgl (by simp; omega)
  change Calls Try.prog 26 _ _ _ at hcon
  rw [List.size_toArray] at hcon
  refine hcon.mono ?_
  rintro e w' ⟨rfl, d', m, os, hp, hs, rfl⟩
  have hd : d'.size = xs.length := by simpa using hp.1
  obtain ⟨h1, h2⟩ := Rp.Row_sorted kMeta_enc hr d' hd m os
  refine ⟨rfl, d'.toList, ?_, sortedM hs hd, h1, h2⟩
  have hp' : PermIn 0 xs.toArray.size xs.toArray d' := by simpa using hp
  simpa using permM hp'
end Go.Proofs.Ytiliaijgkedhnaa
