/- The laws' own functions of some types, one by one. -/
import Derived.Test.YtjigbmgfjmghcaaG1
namespace Go.Proofs.Ytjigbmgfjmghcaa
open Go Go.RowKit Go.Sort
set_option linter.unusedVariables false
set_option linter.unusedSimpArgs false

structure DWal where
  fFirst : Int
  fBefore : Int
  fEntries : List (DEntry)
def kWal : Rp DWal := Rp.iso (Rp.pair (Rp.int .i64) (Rp.pair (Rp.int .i64) (Rp.slice 27 kEntry))) (fun x => (x.fFirst, x.fBefore, x.fEntries))
def szNWal (x : DWal) : Nat := szL szNEntry x.fEntries
def wfWal (x : DWal) : Prop := ((∀ y ∈ x.fEntries, wfEntry y) ∧ x.fEntries.length ≤ 140737488355328)

theorem kWal_open {w : World} {F : List Nat} {x : DWal} {cs : List Value} (h : kWal.M w F x cs) : ∃ v2 F2, cs = [.int .i64 x.fFirst, .int .i64 x.fBefore, v2] ∧ F = F2 ∧ kEntry.Row 27 w F2 x.fEntries v2 := by
  obtain ⟨_, _, _, _, rfl, rfl, ⟨rfl, rfl⟩, ⟨_, _, _, _, rfl, rfl, ⟨rfl, rfl⟩, ⟨v2, rfl, r2⟩⟩⟩ := h
  exact ⟨v2, _, rfl, by simp, r2⟩
theorem kWal_read {w : World} {x : DWal} {cs : List Value} (h : kWal.K w x cs) : ∃ v2, cs = [.int .i64 x.fFirst, .int .i64 x.fBefore, v2] ∧ kEntry.S w x.fEntries v2 := by
  obtain ⟨_, _, rfl, rfl, ⟨_, _, rfl, rfl, ⟨A2, c2, rfl, e2, r2⟩⟩⟩ := h
  exact ⟨_, rfl, ⟨A2, c2, rfl, e2, r2⟩⟩
theorem kWal_make {w : World} {x : DWal} {v2 : Value} {F2 : List Nat} (r2 : kEntry.Row 27 w F2 x.fEntries v2) : kWal.M w (F2) x [.int .i64 x.fFirst, .int .i64 x.fBefore, v2] :=
  ⟨[.int .i64 x.fFirst], [.int .i64 x.fBefore, v2], [], F2, rfl, by simp, ⟨rfl, rfl⟩, ⟨[.int .i64 x.fBefore], [v2], [], F2, rfl, by simp, ⟨rfl, rfl⟩, ⟨v2, rfl, r2⟩⟩⟩

def mkWal (x : DWal) (k : Int) : DWal × Int :=
  let a2 := mkL mkEntry x.fEntries k
  (⟨x.fFirst, x.fBefore, a2.1⟩, a2.2)
theorem mkWal_le (x : DWal) (k : Int) : k ≤ (mkWal x k).2 := by
  have h2 := mkL_le mkEntry_le x.fEntries (k)
  simp only [mkWal]
  omega

end Go.Proofs.Ytjigbmgfjmghcaa
