/- The laws' own functions, all in one form. -/
import Derived.Test.YtfcodelfgjnkhaaG2
import Derived.Test.YtfcodelfgjnkhaaKitB
namespace Go.Proofs.Ytfcodelfgjnkhaa
open Go Go.RowKit Go.Sort
set_option linter.unusedVariables false
set_option linter.unusedSimpArgs false

def smEntry (n : Nat) (x : DEntry) : Prop := True
theorem szEntry_sm {n : Nat} {x : DEntry} (h : szNEntry x ≤ n) : smEntry n x := trivial
theorem szEntry_k {x : DEntry} {cs : List Value} {left : Int} {w : World} (hk : kEntry.K w x cs) (h0 : 0 ≤ left) (h1 : left ≤ 140737488355328) (hw : wfEntry x) : Calls Try.prog 19 #[.agg cs.toArray, .int .i64 left] w
    fun e w' => e = .returned (.int .i64 (szR (szNEntry x) left)) ∧ Below w.heap.size w w' := by
  obtain rfl := kEntry_K hk
  exact szEntry_calls x left w h0 h1 hw
theorem eqEntry_k {x : DEntry} {cs ds : List Value} {w : World} (hk : kEntry.K w x cs) (hd : kEntry.K w x ds) (hs : smEntry 140737488355328 x) : Calls Try.prog 86 #[.agg cs.toArray, .agg ds.toArray] w
    fun e w' => e = .returned (.bool true) ∧ Below w.heap.size w w' := by
  obtain rfl := kEntry_K hk
  obtain rfl := kEntry_K hd
  exact eqEntry_calls x w
theorem toEntry_k {x : DEntry} {cs : List Value} {w : World} (hk : kEntry.K w x cs) (hs : smEntry 1048576 x) : Calls Try.prog 21 #[.agg cs.toArray] w
    fun e w' => ∃ ds F, e = .returned (.agg ds.toArray) ∧ kEntry.M w' F x ds ∧ (∀ b ∈ F, w.heap.size ≤ b) ∧ F.Nodup ∧ Below w.heap.size w w' := by
  obtain rfl := kEntry_K hk
  refine (toEntry_calls x w).mono ?_
  rintro e w' ⟨rfl, hb⟩
  exact ⟨_, [], rfl, kEntry_mk w' x, by simp, by simp, hb⟩

def kEntryS : Rp (List DEntry) := Rp.slice 39 kEntry
theorem kEntryS_read {w : World} {xs : List DEntry} {cs : List Value} (h : kEntryS.K w xs cs) : ∃ v, cs = [v] ∧ kEntry.S w xs v := by
  obtain ⟨A, c, rfl, h1, h2⟩ := h
  exact ⟨_, rfl, A, c, rfl, h1, h2⟩
theorem kEntryS_open {w : World} {F : List Nat} {xs : List DEntry} {cs : List Value} (h : kEntryS.M w F xs cs) : ∃ v, cs = [v] ∧ kEntry.Row 39 w F xs v := h
theorem kEntryS_make {w : World} {F : List Nat} {xs : List DEntry} {v : Value} (h : kEntry.Row 39 w F xs v) : kEntryS.M w F xs [v] := ⟨v, rfl, h⟩
def szNEntryS (x : List DEntry) : Nat := szL szNEntry x
def wfEntryS (x : List DEntry) : Prop := (∀ y ∈ x, wfEntry y) ∧ x.length ≤ 140737488355328
def smEntryS (n : Nat) (x : List DEntry) : Prop := x.length ≤ n
def mkEntryS (x : List DEntry) (k : Int) : List DEntry × Int := mkL mkEntry x k
theorem mkEntryS_le (x : List DEntry) (k : Int) : k ≤ (mkEntryS x k).2 := mkL_le mkEntry_le x k
theorem smEntryS_le {n m : Nat} {x : List DEntry} (h : smEntryS n x) (hn : n ≤ m) : smEntryS m x := Nat.le_trans h hn
theorem szEntryS_sm {n : Nat} {x : List DEntry} (h : szNEntryS x ≤ n) : smEntryS n x := by unfold szNEntryS szL at h; unfold smEntryS; omega
theorem mkEntryS_sm {n : Nat} {x : List DEntry} {k : Int} (h : smEntryS n x) : (mkEntryS x k).2 ≤ k + 2 * n := by
  have h1 := mkL_top (mk := mkEntry) (c := 2) (fun _ _ => Int.le_refl _) x k
  unfold smEntryS at h
  unfold mkEntryS
  omega
theorem szEntryS_k {x : List DEntry} {v : Value} {left : Int} {w : World} (hk : kEntryS.K w x [v]) (h0 : 0 ≤ left) (h1 : left ≤ 140737488355328) (hw : wfEntryS x) : Calls Try.prog 47 #[v, .int .i64 left] w
    fun e w' => e = .returned (.int .i64 (szR (szNEntryS x) left)) ∧ Below w.heap.size w w' := by
  obtain ⟨_, h, g⟩ := kEntryS_read hk
  obtain rfl := (List.cons.inj h).1
  exact szEntryS_calls x left v w g h0 h1 hw.1 hw.2
theorem eqEntryS_k {x : List DEntry} {v u : Value} {w : World} (hk : kEntryS.K w x [v]) (hd : kEntryS.K w x [u]) (hs : smEntryS 140737488355328 x) : Calls Try.prog 54 #[v, u] w
    fun e w' => e = .returned (.bool true) ∧ Below w.heap.size w w' := by
  obtain ⟨_, h, g⟩ := kEntryS_read hk
  obtain rfl := (List.cons.inj h).1
  obtain ⟨_, h, d⟩ := kEntryS_read hd
  obtain rfl := (List.cons.inj h).1
  exact eqEntryS_calls x v u w g d hs
theorem toEntryS_k {x : List DEntry} {v : Value} {w : World} (hk : kEntryS.K w x [v]) (hs : smEntryS 1048576 x) : Calls Try.prog 50 #[v] w
    fun e w' => ∃ u F, e = .returned u ∧ kEntryS.M w' F x [u] ∧ (∀ b ∈ F, w.heap.size ≤ b) ∧ F.Nodup ∧ Below w.heap.size w w' := by
  obtain ⟨_, h, g⟩ := kEntryS_read hk
  obtain rfl := (List.cons.inj h).1
  refine (toEntryS_calls x v w g hs).mono ?_
  rintro e w' ⟨u, F, rfl, h1, h2, h3, h4⟩
  exact ⟨_, _, rfl, ⟨_, rfl, h1⟩, h2, h3, h4⟩
theorem markEntryS_k {x : List DEntry} {v : Value} {F : List Nat} {k : Int} {w : World} (hm : kEntryS.M w F x [v]) (hn : F.Nodup) (h0 : 0 ≤ k) (h1 : (mkEntryS x k).2 ≤ 4611686018427387904) (hs : smEntryS 140737488355328 x) : Calls Try.prog 55 #[v, .int .i64 k] w
    fun e w' => e = .returned (.int .i64 (mkEntryS x k).2) ∧ kEntryS.M w' F (mkEntryS x k).1 [v] ∧ KeptF F w w' := by
  obtain ⟨_, h, g⟩ := kEntryS_open hm
  obtain rfl := (List.cons.inj h).1
  refine (markEntryS_calls x k F v w g hn h0 h1 hs).mono ?_
  rintro e w' ⟨rfl, h1, h2⟩
  exact ⟨rfl, ⟨_, rfl, h1⟩, h2⟩
theorem heldEntryS_k {x : List DEntry} {v : Value} {k : Int} {w : World} (hk : kEntryS.K w (mkEntryS x k).1 [v]) (h0 : 0 ≤ k) (h1 : (mkEntryS x k).2 ≤ 4611686018427387904) (hs : smEntryS 140737488355328 x) : Calls Try.prog 56 #[v, .int .i64 k] w
    fun e w' => e = .returned (.int .i64 (mkEntryS x k).2) ∧ Below w.heap.size w w' := by
  obtain ⟨_, h, g⟩ := kEntryS_read hk
  obtain rfl := (List.cons.inj h).1
  exact heldEntryS_calls x k v w g h0 h1 hs

def smWal (n : Nat) (x : DWal) : Prop := x.fEntries.length ≤ n
theorem smWal_le {n m : Nat} {x : DWal} (h : smWal n x) (hn : n ≤ m) : smWal m x := by unfold smWal at *; omega
theorem szWal_sm {n : Nat} {x : DWal} (h : szNWal x ≤ n) : smWal n x := by unfold szNWal szL at h; unfold smWal; omega
theorem szWal_k {x : DWal} {cs : List Value} {left : Int} {w : World} (hk : kWal.K w x cs) (h0 : 0 ≤ left) (h1 : left ≤ 140737488355328) (hw : wfWal x) : Calls Try.prog 12 #[.agg cs.toArray, .int .i64 left] w
    fun e w' => e = .returned (.int .i64 (szR (szNWal x) left)) ∧ Below w.heap.size w w' := by
  obtain ⟨v2, rfl, g2⟩ := kWal_read hk
  exact szWal_calls x v2 left w g2 h0 h1 hw
theorem eqWal_k {x : DWal} {cs ds : List Value} {w : World} (hk : kWal.K w x cs) (hd : kWal.K w x ds) (hs : smWal 140737488355328 x) : Calls Try.prog 16 #[.agg cs.toArray, .agg ds.toArray] w
    fun e w' => e = .returned (.bool true) ∧ Below w.heap.size w w' := by
  obtain ⟨v2, rfl, g2⟩ := kWal_read hk
  obtain ⟨u2, rfl, d2⟩ := kWal_read hd
  exact eqWal_calls x v2 u2 w g2 d2 hs
theorem toWal_k {x : DWal} {cs : List Value} {w : World} (hk : kWal.K w x cs) (hs : smWal 1048576 x) : Calls Try.prog 14 #[.agg cs.toArray] w
    fun e w' => ∃ ds F, e = .returned (.agg ds.toArray) ∧ kWal.M w' F x ds ∧ (∀ b ∈ F, w.heap.size ≤ b) ∧ F.Nodup ∧ Below w.heap.size w w' := by
  obtain ⟨v2, rfl, g2⟩ := kWal_read hk
  exact toWal_calls x v2 w g2 hs
theorem markWal_k {x : DWal} {cs : List Value} {F : List Nat} {k : Int} {w : World} (hm : kWal.M w F x cs) (hn : F.Nodup) (h0 : 0 ≤ k) (h1 : (mkWal x k).2 ≤ 4611686018427387904) (hs : smWal 140737488355328 x) : Calls Try.prog 17 #[.agg cs.toArray, .int .i64 k] w
    fun e w' => e = .returned (.int .i64 (mkWal x k).2) ∧ kWal.M w' F (mkWal x k).1 cs ∧ KeptF F w w' := by
  obtain ⟨v2, F2, rfl, rfl, r2⟩ := kWal_open hm
  refine (markWal_calls x v2 _ k w r2 hn h0 h1 hs).mono ?_
  rintro e w' ⟨rfl, q2, hk⟩
  exact ⟨rfl, kWal_make q2, hk⟩
theorem heldWal_k {x : DWal} {cs : List Value} {k : Int} {w : World} (hk : kWal.K w (mkWal x k).1 cs) (h0 : 0 ≤ k) (h1 : (mkWal x k).2 ≤ 4611686018427387904) (hs : smWal 140737488355328 x) : Calls Try.prog 18 #[.agg cs.toArray, .int .i64 k] w
    fun e w' => e = .returned (.int .i64 (mkWal x k).2) ∧ Below w.heap.size w w' := by
  obtain ⟨v2, rfl, g2⟩ := kWal_read hk
  exact heldWal_calls x v2 k w g2 h0 h1 hs
theorem mkWal_sm {n : Nat} {x : DWal} {k : Int} (h : smWal n x) : (mkWal x k).2 ≤ k + 2 * n := by
  have l2 : x.fEntries.length ≤ n := h
  have h2 := mkL_top (mk := mkEntry) (c := 2) (fun _ _ => Int.le_refl _) x.fEntries (k)
  simp only [mkWal]
  omega

end Go.Proofs.Ytfcodelfgjnkhaa
