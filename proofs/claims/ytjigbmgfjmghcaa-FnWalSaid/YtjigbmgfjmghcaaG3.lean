/- The laws' own functions, all in one form. -/
import Derived.Test.YtjigbmgfjmghcaaG2
import Derived.Test.YtjigbmgfjmghcaaKitB
namespace Go.Proofs.Ytjigbmgfjmghcaa
open Go Go.RowKit Go.Sort
set_option linter.unusedVariables false
set_option linter.unusedSimpArgs false

def smEntry (n : Nat) (x : DEntry) : Prop := True
theorem szEntry_sm {n : Nat} {x : DEntry} (h : szNEntry x ≤ n) : smEntry n x := trivial
def kEntryS : Rp (List DEntry) := Rp.slice 27 kEntry
theorem kEntryS_read {w : World} {xs : List DEntry} {cs : List Value} (h : kEntryS.K w xs cs) : ∃ v, cs = [v] ∧ kEntry.S w xs v := by
  obtain ⟨A, c, rfl, h1, h2⟩ := h
  exact ⟨_, rfl, A, c, rfl, h1, h2⟩
theorem kEntryS_open {w : World} {F : List Nat} {xs : List DEntry} {cs : List Value} (h : kEntryS.M w F xs cs) : ∃ v, cs = [v] ∧ kEntry.Row 27 w F xs v := h
theorem kEntryS_make {w : World} {F : List Nat} {xs : List DEntry} {v : Value} (h : kEntry.Row 27 w F xs v) : kEntryS.M w F xs [v] := ⟨v, rfl, h⟩
def szNEntryS (x : List DEntry) : Nat := szL szNEntry x
def wfEntryS (x : List DEntry) : Prop := (∀ y ∈ x, wfEntry y) ∧ x.length ≤ 140737488355328
def smEntryS (n : Nat) (x : List DEntry) : Prop := x.length ≤ n
def mkEntryS (x : List DEntry) (k : Int) : List DEntry × Int := mkL mkEntry x k
theorem mkEntryS_le (x : List DEntry) (k : Int) : k ≤ (mkEntryS x k).2 := mkL_le mkEntry_le x k
theorem smEntryS_le {n m : Nat} {x : List DEntry} (h : smEntryS n x) (hn : n ≤ m) : smEntryS m x := Nat.le_trans h hn
theorem szEntryS_sm {n : Nat} {x : List DEntry} (h : szNEntryS x ≤ n) : smEntryS n x := by unfold szNEntryS szL at h; unfold smEntryS; omega
theorem mkEntryS_sm {n : Nat} {x : List DEntry} {k : Int} (h : smEntryS n x) : (mkEntryS x k).2 ≤ k + 2 * n := by
  have h1 := mkL_top (mk := mkEntry) (c := 2) (fun _ _ => Int.le_refl _) x k
  unfold smEntryS at h
  unfold mkEntryS
  omega
def smWal (n : Nat) (x : DWal) : Prop := x.fEntries.length ≤ n
theorem smWal_le {n m : Nat} {x : DWal} (h : smWal n x) (hn : n ≤ m) : smWal m x := by unfold smWal at *; omega
theorem szWal_sm {n : Nat} {x : DWal} (h : szNWal x ≤ n) : smWal n x := by unfold szNWal szL at h; unfold smWal; omega
theorem mkWal_sm {n : Nat} {x : DWal} {k : Int} (h : smWal n x) : (mkWal x k).2 ≤ k + 2 * n := by
  have l2 : x.fEntries.length ≤ n := h
  have h2 := mkL_top (mk := mkEntry) (c := 2) (fun _ _ => Int.le_refl _) x.fEntries (k)
  simp only [mkWal]
  omega

end Go.Proofs.Ytjigbmgfjmghcaa
