/- The laws' own functions, all in one form. -/
import Derived.Test.YtioelmhikablcaaD1
import Derived.Test.YtioelmhikablcaaKitB
namespace Go.Proofs.Ytioelmhikablcaa
open Go Go.RowKit Go.Sort
set_option linter.unusedVariables false
set_option linter.unusedSimpArgs false

def kWantedS : Rp (List DWanted) := Rp.slice 136 kWanted
theorem kWantedS_read {w : World} {xs : List DWanted} {cs : List Value} (h : kWantedS.K w xs cs) : ∃ v, cs = [v] ∧ kWanted.S w xs v := by
  obtain ⟨A, c, rfl, h1, h2⟩ := h
  exact ⟨_, rfl, A, c, rfl, h1, h2⟩
theorem kWantedS_open {w : World} {F : List Nat} {xs : List DWanted} {cs : List Value} (h : kWantedS.M w F xs cs) : ∃ v, cs = [v] ∧ kWanted.Row 136 w F xs v := h
theorem kWantedS_make {w : World} {F : List Nat} {xs : List DWanted} {v : Value} (h : kWanted.Row 136 w F xs v) : kWantedS.M w F xs [v] := ⟨v, rfl, h⟩
def szNWantedS (x : List DWanted) : Nat := szL szNWanted x
def wfWantedS (x : List DWanted) : Prop := (∀ y ∈ x, wfWanted y) ∧ x.length ≤ 140737488355328
def smWantedS (n : Nat) (x : List DWanted) : Prop := x.length ≤ n
def mkWantedS (x : List DWanted) (k : Int) : List DWanted × Int := mkL mkWanted x k
theorem mkWantedS_le (x : List DWanted) (k : Int) : k ≤ (mkWantedS x k).2 := mkL_le mkWanted_le x k
theorem smWantedS_le {n m : Nat} {x : List DWanted} (h : smWantedS n x) (hn : n ≤ m) : smWantedS m x := Nat.le_trans h hn
theorem szWantedS_sm {n : Nat} {x : List DWanted} (h : szNWantedS x ≤ n) : smWantedS n x := by unfold szNWantedS szL at h; unfold smWantedS; omega
theorem mkWantedS_sm {n : Nat} {x : List DWanted} {k : Int} (h : smWantedS n x) : (mkWantedS x k).2 ≤ k + 2 * n := by
  have h1 := mkL_top (mk := mkWanted) (c := 2) (fun _ _ => Int.le_refl _) x k
  unfold smWantedS at h
  unfold mkWantedS
  omega
theorem szWantedS_k {x : List DWanted} {v : Value} {left : Int} {w : World} (hk : kWantedS.K w x [v]) (h0 : 0 ≤ left) (h1 : left ≤ 140737488355328) (hw : wfWantedS x) : Calls Try.prog 78 #[v, .int .i64 left] w
    fun e w' => e = .returned (.int .i64 (szR (szNWantedS x) left)) ∧ Below w.heap.size w w' := by
  obtain ⟨_, h, g⟩ := kWantedS_read hk
  obtain rfl := (List.cons.inj h).1
  exact szWantedS_calls x left v w g h0 h1 hw.1 hw.2
theorem eqWantedS_k {x : List DWanted} {v u : Value} {w : World} (hk : kWantedS.K w x [v]) (hd : kWantedS.K w x [u]) (hs : smWantedS 140737488355328 x) : Calls Try.prog 87 #[v, u] w
    fun e w' => e = .returned (.bool true) ∧ Below w.heap.size w w' := by
  obtain ⟨_, h, g⟩ := kWantedS_read hk
  obtain rfl := (List.cons.inj h).1
  obtain ⟨_, h, d⟩ := kWantedS_read hd
  obtain rfl := (List.cons.inj h).1
  exact eqWantedS_calls x v u w g d hs
theorem toWantedS_k {x : List DWanted} {v : Value} {w : World} (hk : kWantedS.K w x [v]) (hs : smWantedS 1048576 x) : Calls Try.prog 82 #[v] w
    fun e w' => ∃ u F, e = .returned u ∧ kWantedS.M w' F x [u] ∧ (∀ b ∈ F, w.heap.size ≤ b) ∧ F.Nodup ∧ Below w.heap.size w w' := by
  obtain ⟨_, h, g⟩ := kWantedS_read hk
  obtain rfl := (List.cons.inj h).1
  refine (toWantedS_calls x v w g hs).mono ?_
  rintro e w' ⟨u, F, rfl, h1, h2, h3, h4⟩
  exact ⟨_, _, rfl, ⟨_, rfl, h1⟩, h2, h3, h4⟩
theorem markWantedS_k {x : List DWanted} {v : Value} {F : List Nat} {k : Int} {w : World} (hm : kWantedS.M w F x [v]) (hn : F.Nodup) (h0 : 0 ≤ k) (h1 : (mkWantedS x k).2 ≤ 4611686018427387904) (hs : smWantedS 140737488355328 x) : Calls Try.prog 89 #[v, .int .i64 k] w
    fun e w' => e = .returned (.int .i64 (mkWantedS x k).2) ∧ kWantedS.M w' F (mkWantedS x k).1 [v] ∧ KeptF F w w' := by
  obtain ⟨_, h, g⟩ := kWantedS_open hm
  obtain rfl := (List.cons.inj h).1
  refine (markWantedS_calls x k F v w g hn h0 h1 hs).mono ?_
  rintro e w' ⟨rfl, h1, h2⟩
  exact ⟨rfl, ⟨_, rfl, h1⟩, h2⟩
theorem heldWantedS_k {x : List DWanted} {v : Value} {k : Int} {w : World} (hk : kWantedS.K w (mkWantedS x k).1 [v]) (h0 : 0 ≤ k) (h1 : (mkWantedS x k).2 ≤ 4611686018427387904) (hs : smWantedS 140737488355328 x) : Calls Try.prog 95 #[v, .int .i64 k] w
    fun e w' => e = .returned (.int .i64 (mkWantedS x k).2) ∧ Below w.heap.size w w' := by
  obtain ⟨_, h, g⟩ := kWantedS_read hk
  obtain rfl := (List.cons.inj h).1
  exact heldWantedS_calls x k v w g h0 h1 hs

def kChunkS : Rp (List DChunk) := Rp.slice 46 kChunk
theorem kChunkS_read {w : World} {xs : List DChunk} {cs : List Value} (h : kChunkS.K w xs cs) : ∃ v, cs = [v] ∧ kChunk.S w xs v := by
  obtain ⟨A, c, rfl, h1, h2⟩ := h
  exact ⟨_, rfl, A, c, rfl, h1, h2⟩
theorem kChunkS_open {w : World} {F : List Nat} {xs : List DChunk} {cs : List Value} (h : kChunkS.M w F xs cs) : ∃ v, cs = [v] ∧ kChunk.Row 46 w F xs v := h
theorem kChunkS_make {w : World} {F : List Nat} {xs : List DChunk} {v : Value} (h : kChunk.Row 46 w F xs v) : kChunkS.M w F xs [v] := ⟨v, rfl, h⟩
def szNChunkS (x : List DChunk) : Nat := szL szNChunk x
def wfChunkS (x : List DChunk) : Prop := (∀ y ∈ x, wfChunk y) ∧ x.length ≤ 140737488355328
def smChunkS (n : Nat) (x : List DChunk) : Prop := x.length ≤ n
def mkChunkS (x : List DChunk) (k : Int) : List DChunk × Int := mkL mkChunk x k
theorem mkChunkS_le (x : List DChunk) (k : Int) : k ≤ (mkChunkS x k).2 := mkL_le mkChunk_le x k
theorem smChunkS_le {n m : Nat} {x : List DChunk} (h : smChunkS n x) (hn : n ≤ m) : smChunkS m x := Nat.le_trans h hn
theorem szChunkS_sm {n : Nat} {x : List DChunk} (h : szNChunkS x ≤ n) : smChunkS n x := by unfold szNChunkS szL at h; unfold smChunkS; omega
theorem mkChunkS_sm {n : Nat} {x : List DChunk} {k : Int} (h : smChunkS n x) : (mkChunkS x k).2 ≤ k + 4 * n := by
  have h1 := mkL_top (mk := mkChunk) (c := 4) (fun _ _ => Int.le_refl _) x k
  unfold smChunkS at h
  unfold mkChunkS
  omega
theorem szChunkS_k {x : List DChunk} {v : Value} {left : Int} {w : World} (hk : kChunkS.K w x [v]) (h0 : 0 ≤ left) (h1 : left ≤ 140737488355328) (hw : wfChunkS x) : Calls Try.prog 79 #[v, .int .i64 left] w
    fun e w' => e = .returned (.int .i64 (szR (szNChunkS x) left)) ∧ Below w.heap.size w w' := by
  obtain ⟨_, h, g⟩ := kChunkS_read hk
  obtain rfl := (List.cons.inj h).1
  exact szChunkS_calls x left v w g h0 h1 hw.1 hw.2
theorem eqChunkS_k {x : List DChunk} {v u : Value} {w : World} (hk : kChunkS.K w x [v]) (hd : kChunkS.K w x [u]) (hs : smChunkS 140737488355328 x) : Calls Try.prog 88 #[v, u] w
    fun e w' => e = .returned (.bool true) ∧ Below w.heap.size w w' := by
  obtain ⟨_, h, g⟩ := kChunkS_read hk
  obtain rfl := (List.cons.inj h).1
  obtain ⟨_, h, d⟩ := kChunkS_read hd
  obtain rfl := (List.cons.inj h).1
  exact eqChunkS_calls x v u w g d hs
theorem toChunkS_k {x : List DChunk} {v : Value} {w : World} (hk : kChunkS.K w x [v]) (hs : smChunkS 1048576 x) : Calls Try.prog 83 #[v] w
    fun e w' => ∃ u F, e = .returned u ∧ kChunkS.M w' F x [u] ∧ (∀ b ∈ F, w.heap.size ≤ b) ∧ F.Nodup ∧ Below w.heap.size w w' := by
  obtain ⟨_, h, g⟩ := kChunkS_read hk
  obtain rfl := (List.cons.inj h).1
  refine (toChunkS_calls x v w g hs).mono ?_
  rintro e w' ⟨u, F, rfl, h1, h2, h3, h4⟩
  exact ⟨_, _, rfl, ⟨_, rfl, h1⟩, h2, h3, h4⟩
theorem markChunkS_k {x : List DChunk} {v : Value} {F : List Nat} {k : Int} {w : World} (hm : kChunkS.M w F x [v]) (hn : F.Nodup) (h0 : 0 ≤ k) (h1 : (mkChunkS x k).2 ≤ 4611686018427387904) (hs : smChunkS 140737488355328 x) : Calls Try.prog 90 #[v, .int .i64 k] w
    fun e w' => e = .returned (.int .i64 (mkChunkS x k).2) ∧ kChunkS.M w' F (mkChunkS x k).1 [v] ∧ KeptF F w w' := by
  obtain ⟨_, h, g⟩ := kChunkS_open hm
  obtain rfl := (List.cons.inj h).1
  refine (markChunkS_calls x k F v w g hn h0 h1 hs).mono ?_
  rintro e w' ⟨rfl, h1, h2⟩
  exact ⟨rfl, ⟨_, rfl, h1⟩, h2⟩
theorem heldChunkS_k {x : List DChunk} {v : Value} {k : Int} {w : World} (hk : kChunkS.K w (mkChunkS x k).1 [v]) (h0 : 0 ≤ k) (h1 : (mkChunkS x k).2 ≤ 4611686018427387904) (hs : smChunkS 140737488355328 x) : Calls Try.prog 96 #[v, .int .i64 k] w
    fun e w' => e = .returned (.int .i64 (mkChunkS x k).2) ∧ Below w.heap.size w w' := by
  obtain ⟨_, h, g⟩ := kChunkS_read hk
  obtain rfl := (List.cons.inj h).1
  exact heldChunkS_calls x k v w g h0 h1 hs

def smWanted (n : Nat) (x : DWanted) : Prop := True
theorem szWanted_sm {n : Nat} {x : DWanted} (h : szNWanted x ≤ n) : smWanted n x := trivial
theorem eqWanted_k {x : DWanted} {cs ds : List Value} {w : World} (hk : kWanted.K w x cs) (hd : kWanted.K w x ds) (hs : smWanted 140737488355328 x) : Calls Try.prog 174 #[.agg cs.toArray, .agg ds.toArray] w
    fun e w' => e = .returned (.bool true) ∧ Below w.heap.size w w' := by
  obtain rfl := kWanted_K hk
  obtain rfl := kWanted_K hd
  exact eqWanted_calls x w
theorem toWanted_k {x : DWanted} {cs : List Value} {w : World} (hk : kWanted.K w x cs) (hs : smWanted 1048576 x) : Calls Try.prog 168 #[.agg cs.toArray] w
    fun e w' => ∃ ds F, e = .returned (.agg ds.toArray) ∧ kWanted.M w' F x ds ∧ (∀ b ∈ F, w.heap.size ≤ b) ∧ F.Nodup ∧ Below w.heap.size w w' := by
  obtain rfl := kWanted_K hk
  refine (toWanted_calls x w).mono ?_
  rintro e w' ⟨rfl, hb⟩
  exact ⟨_, [], rfl, kWanted_mk w' x, by simp, by simp, hb⟩

def smChunk (n : Nat) (x : DChunk) : Prop := True
theorem szChunk_sm {n : Nat} {x : DChunk} (h : szNChunk x ≤ n) : smChunk n x := trivial
theorem szChunk_k {x : DChunk} {cs : List Value} {left : Int} {w : World} (hk : kChunk.K w x cs) (h0 : 0 ≤ left) (h1 : left ≤ 140737488355328) (hw : wfChunk x) : Calls Try.prog 22 #[.agg cs.toArray, .int .i64 left] w
    fun e w' => e = .returned (.int .i64 (szR (szNChunk x) left)) ∧ Below w.heap.size w w' := by
  obtain rfl := kChunk_K hk
  exact szChunk_calls x left w h0 h1 hw
theorem eqChunk_k {x : DChunk} {cs ds : List Value} {w : World} (hk : kChunk.K w x cs) (hd : kChunk.K w x ds) (hs : smChunk 140737488355328 x) : Calls Try.prog 175 #[.agg cs.toArray, .agg ds.toArray] w
    fun e w' => e = .returned (.bool true) ∧ Below w.heap.size w w' := by
  obtain rfl := kChunk_K hk
  obtain rfl := kChunk_K hd
  exact eqChunk_calls x w
theorem toChunk_k {x : DChunk} {cs : List Value} {w : World} (hk : kChunk.K w x cs) (hs : smChunk 1048576 x) : Calls Try.prog 24 #[.agg cs.toArray] w
    fun e w' => ∃ ds F, e = .returned (.agg ds.toArray) ∧ kChunk.M w' F x ds ∧ (∀ b ∈ F, w.heap.size ≤ b) ∧ F.Nodup ∧ Below w.heap.size w w' := by
  obtain rfl := kChunk_K hk
  refine (toChunk_calls x w).mono ?_
  rintro e w' ⟨rfl, hb⟩
  exact ⟨_, [], rfl, kChunk_mk w' x, by simp, by simp, hb⟩

def smTaking (n : Nat) (x : DTaking) : Prop := x.fWant.length ≤ n ∧ x.fGot.length ≤ n
theorem smTaking_le {n m : Nat} {x : DTaking} (h : smTaking n x) (hn : n ≤ m) : smTaking m x := by unfold smTaking at *; omega
theorem szTaking_sm {n : Nat} {x : DTaking} (h : szNTaking x ≤ n) : smTaking n x := by unfold szNTaking szL at h; unfold smTaking; omega
theorem szTaking_k {x : DTaking} {cs : List Value} {left : Int} {w : World} (hk : kTaking.K w x cs) (h0 : 0 ≤ left) (h1 : left ≤ 140737488355328) (hw : wfTaking x) : Calls Try.prog 13 #[.agg cs.toArray, .int .i64 left] w
    fun e w' => e = .returned (.int .i64 (szR (szNTaking x) left)) ∧ Below w.heap.size w w' := by
  obtain ⟨v0, v1, rfl, g0, g1⟩ := kTaking_read hk
  exact szTaking_calls x v0 v1 left w g0 g1 h0 h1 hw
theorem eqTaking_k {x : DTaking} {cs ds : List Value} {w : World} (hk : kTaking.K w x cs) (hd : kTaking.K w x ds) (hs : smTaking 140737488355328 x) : Calls Try.prog 18 #[.agg cs.toArray, .agg ds.toArray] w
    fun e w' => e = .returned (.bool true) ∧ Below w.heap.size w w' := by
  obtain ⟨v0, v1, rfl, g0, g1⟩ := kTaking_read hk
  obtain ⟨u0, u1, rfl, d0, d1⟩ := kTaking_read hd
  exact eqTaking_calls x v0 v1 u0 u1 w g0 g1 d0 d1 hs
theorem toTaking_k {x : DTaking} {cs : List Value} {w : World} (hk : kTaking.K w x cs) (hs : smTaking 1048576 x) : Calls Try.prog 15 #[.agg cs.toArray] w
    fun e w' => ∃ ds F, e = .returned (.agg ds.toArray) ∧ kTaking.M w' F x ds ∧ (∀ b ∈ F, w.heap.size ≤ b) ∧ F.Nodup ∧ Below w.heap.size w w' := by
  obtain ⟨v0, v1, rfl, g0, g1⟩ := kTaking_read hk
  exact toTaking_calls x v0 v1 w g0 g1 hs
theorem markTaking_k {x : DTaking} {cs : List Value} {F : List Nat} {k : Int} {w : World} (hm : kTaking.M w F x cs) (hn : F.Nodup) (h0 : 0 ≤ k) (h1 : (mkTaking x k).2 ≤ 4611686018427387904) (hs : smTaking 140737488355328 x) : Calls Try.prog 19 #[.agg cs.toArray, .int .i64 k] w
    fun e w' => e = .returned (.int .i64 (mkTaking x k).2) ∧ kTaking.M w' F (mkTaking x k).1 cs ∧ KeptF F w w' := by
  obtain ⟨v0, v1, F0, F1, rfl, rfl, r0, r1⟩ := kTaking_open hm
  refine (markTaking_calls x v0 v1 _ _ k w r0 r1 hn h0 h1 hs).mono ?_
  rintro e w' ⟨rfl, q0, q1, hk⟩
  exact ⟨rfl, kTaking_make q0 q1, hk⟩
theorem heldTaking_k {x : DTaking} {cs : List Value} {k : Int} {w : World} (hk : kTaking.K w (mkTaking x k).1 cs) (h0 : 0 ≤ k) (h1 : (mkTaking x k).2 ≤ 4611686018427387904) (hs : smTaking 140737488355328 x) : Calls Try.prog 26 #[.agg cs.toArray, .int .i64 k] w
    fun e w' => e = .returned (.int .i64 (mkTaking x k).2) ∧ Below w.heap.size w w' := by
  obtain ⟨v0, v1, rfl, g0, g1⟩ := kTaking_read hk
  exact heldTaking_calls x v0 v1 k w g0 g1 h0 h1 hs
theorem mkTaking_sm {n : Nat} {x : DTaking} {k : Int} (h : smTaking n x) : (mkTaking x k).2 ≤ k + 6 * n := by
  obtain ⟨l0, l1⟩ := h
  have h0 := mkL_top (mk := mkWanted) (c := 2) (fun _ _ => Int.le_refl _) x.fWant (k)
  have h1 := mkL_top (mk := mkChunk) (c := 4) (fun _ _ => Int.le_refl _) x.fGot ((mkL mkWanted x.fWant (k)).2)
  simp only [mkTaking]
  omega

end Go.Proofs.Ytioelmhikablcaa
