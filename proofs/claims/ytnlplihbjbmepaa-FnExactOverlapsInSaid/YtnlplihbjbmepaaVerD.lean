/- Versions: what overlaps. -/
import Derived.Test.YtnlplihbjbmepaaVerB
namespace Go.Proofs.Ytnlplihbjbmepaa
open Go Go.RowKit Go.Sort
set_option linter.unusedVariables false
set_option linter.unusedSimpArgs false

def ovlP (lv : Int) (le mo : ByteArray) (m : DMeta) : Bool := decide (m.fLevel = lv) && leS m.fLeast mo && leS le m.fMost
def ovs (lv : Int) (le mo : ByteArray) (xs : List DMeta) : List Int := (xs.filter (ovlP lv le mo)).map (·.fNumber)
def ovB (x : DVersion) (lv : Int) (le mo : ByteArray) : Bool := goodVer x && inR lv 0 3 && goodKey le && goodKey mo && leS le mo
def ovV (x : DVersion) (lv : Int) (le mo : ByteArray) : List Int := if ovB x lv le mo then ovs lv le mo x.fMetas else []
theorem ovs_len (lv : Int) (le mo : ByteArray) (xs : List DMeta) : (ovs lv le mo xs).length ≤ xs.length := by
  rw [ovs, List.length_map]
  exact List.length_filter_le _ _
theorem ovV_len (x : DVersion) (lv : Int) (le mo : ByteArray) : (ovV x lv le mo).length ≤ x.fMetas.length := by
  unfold ovV
  split
  · exact ovs_len _ _ _ _
  · simp
theorem ovs_take {lv : Int} {le mo : ByteArray} {xs : List DMeta} {k : Nat} (h : k < xs.length) : ovs lv le mo (xs.take (k + 1)) = ovs lv le mo (xs.take k) ++ (if ovlP lv le mo xs[k] then [xs[k].fNumber] else []) := by
  rw [ovs, List.take_add_one, List.getElem?_eq_getElem h, List.filter_append, List.map_append]
  congr 1
  cases hp : ovlP lv le mo xs[k] <;> simp [hp]

set_option maxHeartbeats 4000000 in
set_option maxRecDepth 100000 in
theorem iOver_calls (xs : List DMeta) (lv : Int) (le mo : ByteArray) (v : Value) (g : Nat) (w : World) (gs : kMeta.S w xs v) (c2 : w.cell? ⟨g, 2, none⟩ = some v) (hl : xs.length ≤ 1048576) : Calls Try.prog 73 #[.pointer (some ⟨g, 0, none⟩), .int .i64 lv, .string le, .string mo] w
    fun e w' => ∃ v' F, e = .returned v' ∧ kInt.Row 3 w' F (ovs lv le mo xs) v' ∧ (∀ b ∈ F, w.heap.size ≤ b) ∧ F.Nodup ∧ Below w.heap.size w w' := by
  obtain ⟨A, c, rfl, hc, h⟩ := gs
  have H := Lib.hid h; clear h
  have hgl := World.block_lt_of_cell? w _ c2
  simp only at hgl
  go_enter Try.func73, Try.ntmps73
  go_wp2
  go_loopw [9, 18] (fun o i wr => ∃ k : Nat, k ≤ xs.length ∧ i = .int .i64 k ∧ ∃ (L : List Int) (F : List Nat), ovs lv le mo (xs.take k) = L ∧ Hid (kInt.Row 3 wr F L o) ∧ Hid (∀ b ∈ F, w.heap.size ≤ b) ∧ Hid F.Nodup ∧ Hid (Below w.heap.size w wr)) (fun _ i _ => xs.length - (intOf i).toNat)
  case atStart => exact ⟨0, Nat.zero_le _, rfl, [], _, rfl, Rp.Row_made0 _ _ _ rfl, by simp [Hid], by simp [Hid], (Below.refl _ _).alloc (Nat.le_refl _) _⟩
  case round =>
    obtain ⟨k, hk, rfl, L, F, hL, HR, HF, HN, HB⟩ := hrel
    have hll : L.length ≤ k := by rw [← hL]; have := ovs_len lv le mo (xs.take k); rw [List.length_take] at this; omega
    by_cases hlt : k < xs.length
    · obtain ⟨b, o, cs, rfl, k1, q1⟩ := Rp.C_get H.out k hlt
      obtain rfl := kMeta_K k1
      have hst := ovs_take (lv := lv) (le := le) (mo := mo) hlt
      rw [hL] at hst
      generalize xs[k] = y at *
      have a0 := (World.cell?_of_block (HB.out.block b (World.block_lt_of_cell? w _ (q1 0 _ rfl)))).trans (q1 0 _ rfl)
      have a1 := (World.cell?_of_block (HB.out.block b (World.block_lt_of_cell? w _ (q1 1 _ rfl)))).trans (q1 1 _ rfl)
      have a2 := (World.cell?_of_block (HB.out.block b (World.block_lt_of_cell? w _ (q1 2 _ rfl)))).trans (q1 2 _ rfl)
      have a3 := (World.cell?_of_block (HB.out.block b (World.block_lt_of_cell? w _ (q1 3 _ rfl)))).trans (q1 3 _ rfl)
      simp only [kMeta_sz, Nat.add_zero] at a0 a1 a2 a3
      clear q1 k1
      have i1 : (0 : Int) ≤ (k : Int) := by omega
      have i2 : (k : Int) < (xs.length : Int) := by omega
      have HL := Lib.hid hL; clear hL
      have hsz := HB.out.size
      have HBX := Lib.hid (HB.out.alloc HB.out.size (.cells #[.int .i64 y.fNumber, .int .i64 y.fLevel, .string y.fLeast, .string y.fMost] 82))
      have BY : Box (wr.alloc (.cells #[.int .i64 y.fNumber, .int .i64 y.fLevel, .string y.fLeast, .string y.fMost] 82)) wr.heap.size #[.int .i64 y.fNumber, .int .i64 y.fLevel, .string y.fLeast, .string y.fMost] 82 := Box.new rfl
      have hpath : (decide (y.fLevel = lv) = false) ∨ (decide (y.fLevel = lv) = true ∧ (leS y.fLeast mo && leS le y.fMost) = false) ∨ (decide (y.fLevel = lv) = true ∧ (leS y.fLeast mo && leS le y.fMost) = true) := by
        cases decide (y.fLevel = lv) <;> cases (leS y.fLeast mo && leS le y.fMost) <;> simp
      rcases hpath with p1 | ⟨p1, hq⟩ | ⟨p1, hq⟩
      · have hp : ovlP lv le mo y = false := by rw [ovlP, p1]; rfl
        rw [hp] at hst
        have HST := Lib.hid hst; clear hst hp
        have p1' : (y.fLevel == lv) = false := p1
        go_wp2
        exact ⟨⟨k + 1, by omega, by go_num, L, F, by rw [HST.out]; simp, Rp.Row_below HR.out ((Below.refl _ _).alloc (Nat.le_refl _) _), HF.out, HN.out, HBX.out⟩, by simp [intOf]; omega⟩
      · have hp : ovlP lv le mo y = false := by rw [ovlP, Bool.and_assoc, hq, Bool.and_false]
        rw [hp] at hst
        have HST := Lib.hid hst; clear hst hp
        have p1' : (y.fLevel == lv) = true := p1
        go_wp2_with (first | ((with_reducible refine (iMeets_calls y wr.heap.size le mo _ (BY.cell 2 rfl) (BY.cell 3 rfl)).mono ?_); rintro e w1 ⟨rfl, rfl⟩; rw [hq]))
        exact ⟨⟨k + 1, by omega, by go_num, L, F, by rw [HST.out]; simp, Rp.Row_below HR.out ((Below.refl _ _).alloc (Nat.le_refl _) _), HF.out, HN.out, HBX.out⟩, by simp [intOf]; omega⟩
      · have hp : ovlP lv le mo y = true := by rw [ovlP, Bool.and_assoc, hq, p1]; rfl
        rw [hp] at hst
        have HST := Lib.hid hst; clear hst hp
        have p1' : (y.fLevel == lv) = true := p1
        go_wp2_with (first | ((with_reducible refine (iMeets_calls y wr.heap.size le mo _ (BY.cell 2 rfl) (BY.cell 3 rfl)).mono ?_); rintro e w1 ⟨rfl, rfl⟩; rw [hq]) | at_builtin; refine wp_append (d := kInt) rfl _ _ 38 3 rfl Try.underlying38 infoInt rfl (by decide) rfl (by decide) kInt_flat (xs := L) (ys := [y.fNumber]) rfl rfl (Rp.Row_below HR.out (((Below.refl _ _).alloc (Nat.le_refl _) _).alloc (by simp) _)) (Rp.S_one (Box.new (by simp)) rfl) (by simp; omega) ?_; intro v1 w2 r1 r2 r3 _; have R1 := Lib.hid r1; have R2 := Lib.hid r2; have R3 := Lib.hid r3; clear r1 r2 r3)
        exact ⟨⟨k + 1, by omega, by go_num, L ++ [y.fNumber], _, HST.out, R1.out, fun b hb => by rcases R3.out b hb with h | h; exact HF.out b h; simp at h; omega, ofOwn_nodup _, HBX.out.trans ((Below.alloc (Below.refl _ _) HBX.out.size _).trans (R2.out.toBelow (by have := HBX.out.size; simp at *; omega) HF.out))⟩, by simp [intOf]; omega⟩
    · obtain rfl : k = xs.length := by omega
      rw [List.take_length] at hL
      subst hL
      go_wp2
      go_ret
      exact ⟨_, F, rfl, HR.out, HF.out, HN.out, HB.out⟩

set_option maxHeartbeats 4000000 in
set_option maxRecDepth 100000 in
theorem sOver_calls (x : DVersion) (lv : Int) (le mo : ByteArray) (v : Value) (w : World) (gs : kMeta.S w x.fMetas v) (hl : x.fMetas.length ≤ 1048576) : Calls Try.prog 70 #[.agg #[.int .i64 x.fNext, .int .i64 x.fSeq, v], .int .i64 lv, .string le, .string mo] w
    fun e w' => ∃ v' F, e = .returned v' ∧ kInt.Row 3 w' F (ovs lv le mo x.fMetas) v' ∧ (∀ b ∈ F, w.heap.size ≤ b) ∧ F.Nodup ∧ Below w.heap.size w w' := by
  obtain ⟨A, c, rfl, hc, h⟩ := gs
  have H := Lib.hid h; clear h
  go_enter Try.func70, Try.ntmps70
  go_wp2
  go_loopw [9, 15] (fun o i wr => ∃ k : Nat, k ≤ x.fMetas.length ∧ i = .int .i64 k ∧ ∃ (L : List Int) (F : List Nat), ovs lv le mo (x.fMetas.take k) = L ∧ Hid (kInt.Row 3 wr F L o) ∧ Hid (∀ b ∈ F, w.heap.size ≤ b) ∧ Hid F.Nodup ∧ Hid (Below w.heap.size w wr)) (fun _ i _ => x.fMetas.length - (intOf i).toNat)
  case atStart => exact ⟨0, Nat.zero_le _, rfl, [], [], rfl, Rp.Row_nil _ _ _, by simp [Hid], by simp [Hid], (Below.refl _ _).alloc (Nat.le_refl _) _⟩
  case round =>
    obtain ⟨k, hk, rfl, L, F, hL, HR, HF, HN, HB⟩ := hrel
    have hll : L.length ≤ k := by rw [← hL]; have := ovs_len lv le mo (x.fMetas.take k); rw [List.length_take] at this; omega
    by_cases hlt : k < x.fMetas.length
    · obtain ⟨b, o, cs, rfl, k1, q1⟩ := Rp.C_get H.out k hlt
      obtain rfl := kMeta_K k1
      have hst := ovs_take (lv := lv) (le := le) (mo := mo) hlt
      rw [hL] at hst
      generalize x.fMetas[k] = y at *
      have a0 := (World.cell?_of_block (HB.out.block b (World.block_lt_of_cell? w _ (q1 0 _ rfl)))).trans (q1 0 _ rfl)
      have a1 := (World.cell?_of_block (HB.out.block b (World.block_lt_of_cell? w _ (q1 1 _ rfl)))).trans (q1 1 _ rfl)
      have a2 := (World.cell?_of_block (HB.out.block b (World.block_lt_of_cell? w _ (q1 2 _ rfl)))).trans (q1 2 _ rfl)
      have a3 := (World.cell?_of_block (HB.out.block b (World.block_lt_of_cell? w _ (q1 3 _ rfl)))).trans (q1 3 _ rfl)
      simp only [kMeta_sz, Nat.add_zero] at a0 a1 a2 a3
      clear q1 k1
      have i1 : (0 : Int) ≤ (k : Int) := by omega
      have i2 : (k : Int) < (x.fMetas.length : Int) := by omega
      have HL := Lib.hid hL; clear hL
      have hsz := HB.out.size
      have HBX := Lib.hid (HB.out.alloc HB.out.size (.cells #[.int .i64 y.fNumber, .int .i64 y.fLevel, .string y.fLeast, .string y.fMost] 82))
      have BY : Box (wr.alloc (.cells #[.int .i64 y.fNumber, .int .i64 y.fLevel, .string y.fLeast, .string y.fMost] 82)) wr.heap.size #[.int .i64 y.fNumber, .int .i64 y.fLevel, .string y.fLeast, .string y.fMost] 82 := Box.new rfl
      have hpath : (decide (y.fLevel = lv) = false) ∨ (decide (y.fLevel = lv) = true ∧ leS y.fLeast mo = false) ∨ (decide (y.fLevel = lv) = true ∧ leS y.fLeast mo = true ∧ leS le y.fMost = false) ∨ (decide (y.fLevel = lv) = true ∧ leS y.fLeast mo = true ∧ leS le y.fMost = true) := by
        cases decide (y.fLevel = lv) <;> cases leS y.fLeast mo <;> cases leS le y.fMost <;> simp
      rcases hpath with p1 | ⟨p1, p2⟩ | ⟨p1, p2, p3⟩ | ⟨p1, p2, p3⟩
      · have hp : ovlP lv le mo y = false := by rw [ovlP, p1]; rfl
        rw [hp] at hst
        have HST := Lib.hid hst; clear hst hp
        have p1' : (y.fLevel == lv) = false := p1
        go_wp2
        exact ⟨⟨k + 1, by omega, by go_num, L, F, by rw [HST.out]; simp, Rp.Row_below HR.out ((Below.refl _ _).alloc (Nat.le_refl _) _), HF.out, HN.out, HBX.out⟩, by simp [intOf]; omega⟩
      · have p2' : (Op.bytesLess y.fLeast.toList mo.toList || y.fLeast.toList == mo.toList) = false := p2
        have hp : ovlP lv le mo y = false := by simp [ovlP, p2]
        rw [hp] at hst
        have HST := Lib.hid hst; clear hst hp
        have p1' : (y.fLevel == lv) = true := p1
        go_wp2
        exact ⟨⟨k + 1, by omega, by go_num, L, F, by rw [HST.out]; simp, Rp.Row_below HR.out ((Below.refl _ _).alloc (Nat.le_refl _) _), HF.out, HN.out, HBX.out⟩, by simp [intOf]; omega⟩
      · have p2' : (Op.bytesLess y.fLeast.toList mo.toList || y.fLeast.toList == mo.toList) = true := p2
        have p3' : (Op.bytesLess le.toList y.fMost.toList || le.toList == y.fMost.toList) = false := p3
        have hp : ovlP lv le mo y = false := by simp [ovlP, p3]
        rw [hp] at hst
        have HST := Lib.hid hst; clear hst hp
        have p1' : (y.fLevel == lv) = true := p1
        go_wp2
        exact ⟨⟨k + 1, by omega, by go_num, L, F, by rw [HST.out]; simp, Rp.Row_below HR.out ((Below.refl _ _).alloc (Nat.le_refl _) _), HF.out, HN.out, HBX.out⟩, by simp [intOf]; omega⟩
      · have p2' : (Op.bytesLess y.fLeast.toList mo.toList || y.fLeast.toList == mo.toList) = true := p2
        have p3' : (Op.bytesLess le.toList y.fMost.toList || le.toList == y.fMost.toList) = true := p3
        have hp : ovlP lv le mo y = true := by rw [ovlP, p2, p3, p1]; rfl
        rw [hp] at hst
        have HST := Lib.hid hst; clear hst hp
        have p1' : (y.fLevel == lv) = true := p1
        go_wp2_with (first | at_builtin; refine wp_append (d := kInt) rfl _ _ 38 3 rfl Try.underlying38 infoInt rfl (by decide) rfl (by decide) kInt_flat (xs := L) (ys := [y.fNumber]) rfl rfl (Rp.Row_below HR.out (((Below.refl _ _).alloc (Nat.le_refl _) _).alloc (by simp) _)) (Rp.S_one (Box.new (by simp)) rfl) (by simp; omega) ?_; intro v1 w2 r1 r2 r3 _; have R1 := Lib.hid r1; have R2 := Lib.hid r2; have R3 := Lib.hid r3; clear r1 r2 r3)
        exact ⟨⟨k + 1, by omega, by go_num, L ++ [y.fNumber], _, HST.out, R1.out, fun b hb => by rcases R3.out b hb with h | h; exact HF.out b h; simp at h; omega, ofOwn_nodup _, HBX.out.trans ((Below.alloc (Below.refl _ _) HBX.out.size _).trans (R2.out.toBelow (by have := HBX.out.size; simp at *; omega) HF.out))⟩, by simp [intOf]; omega⟩
    · obtain rfl : k = x.fMetas.length := by omega
      rw [List.take_length] at hL
      subst hL
      go_wp2
      go_ret
      exact ⟨_, F, rfl, HR.out, HF.out, HN.out, HB.out⟩

set_option maxHeartbeats 4000000 in
set_option maxRecDepth 100000 in
theorem iOverlapsIn_k {x : DVersion} {lv : Int} {le mo : ByteArray} {c0 : List Value} {w : World} (k0 : kVersion.K w x c0) (h0 : wfVersion x) (s0 : smVersion 1048576 x) (hw : (Lit.int .i64 lv).wf = true) (z1 : le.size ≤ 1048576) (z2 : mo.size ≤ 1048576) : Calls Try.prog 29 #[.agg c0.toArray, .int .i64 lv, .string le, .string mo] w
    fun e w' => ∃ v F, e = .returned (.tuple #[v, .bool (ovB x lv le mo)]) ∧ kIntS.M w' F (ovV x lv le mo) [v] ∧ (∀ b ∈ F, w.heap.size ≤ b) ∧ F.Nodup ∧ Below w.heap.size w w' := by
  obtain ⟨v2, rfl, g2⟩ := kVersion_read k0
  have hl : x.fMetas.length ≤ 1048576 := s0
  have G := Lib.hid g2; clear g2
  clear hw k0 h0 s0
  have hpath : goodVer x = false ∨ (goodVer x = true ∧ inR lv 0 3 = false) ∨ (goodVer x = true ∧ inR lv 0 3 = true ∧ goodKey le = false) ∨ (goodVer x = true ∧ inR lv 0 3 = true ∧ goodKey le = true ∧ goodKey mo = false) ∨ (goodVer x = true ∧ inR lv 0 3 = true ∧ goodKey le = true ∧ goodKey mo = true ∧ leS le mo = false) ∨ (goodVer x = true ∧ inR lv 0 3 = true ∧ goodKey le = true ∧ goodKey mo = true ∧ leS le mo = true) := by
    cases goodVer x <;> cases inR lv 0 3 <;> cases goodKey le <;> cases goodKey mo <;> cases leS le mo <;> simp
  rcases hpath with h1 | ⟨h1, h2⟩ | ⟨h1, h2, h3⟩ | ⟨h1, h2, h3, h4⟩ | ⟨h1, h2, h3, h4, h5⟩ | ⟨h1, h2, h3, h4, h5⟩
  · have HBB := Lib.hid (show ovB x lv le mo = false by simp [ovB, h1])
    have HVV := Lib.hid (show ovV x lv le mo = [] by rw [ovV, HBB.out]; rfl)
    go_enter Try.func29, Try.ntmps29
    go_wp2_with (first | ((with_reducible refine (iGoodVersion_calls x _ _ (Rp.S_below G.out ((Below.refl _ _).alloc (Nat.le_refl _) _)) (by omega)).mono ?_); rintro e w1 ⟨rfl, hb⟩; rw [h1]; have B0 : Box w1 w.heap.size #[.int .i64 x.fNext, .int .i64 x.fSeq, v2] 24 := Box.below (Box.new rfl) hb; have HB := Lib.hid (Below.trans ((Below.refl w.heap.size w).alloc (Nat.le_refl _) _) (hb.mono (by simp))); have e0 := B0.cell 0 (v := .int .i64 x.fNext) rfl; have e1 := B0.cell 1 (v := .int .i64 x.fSeq) rfl; have e2 := B0.cell 2 (v := v2) rfl; clear hb B0))
    exact bodyPost_ret (v := .tuple #[.slice none 0 0, .bool false]) (by simp [results, Try.results29, go_sem]) rfl ⟨_, [], by rw [HBB.out], by rw [HVV.out]; exact kIntS_make (Rp.Row_nil _ _ _), by simp, by simp, HB.out⟩
  · have HBB := Lib.hid (show ovB x lv le mo = false by simp [ovB, h1, h2])
    have HVV := Lib.hid (show ovV x lv le mo = [] by rw [ovV, HBB.out]; rfl)
    go_enter Try.func29, Try.ntmps29
    go_wp2_with (first | ((with_reducible refine (iGoodVersion_calls x _ _ (Rp.S_below G.out ((Below.refl _ _).alloc (Nat.le_refl _) _)) (by omega)).mono ?_); rintro e w1 ⟨rfl, hb⟩; rw [h1]; have B0 : Box w1 w.heap.size #[.int .i64 x.fNext, .int .i64 x.fSeq, v2] 24 := Box.below (Box.new rfl) hb; have HB := Lib.hid (Below.trans ((Below.refl w.heap.size w).alloc (Nat.le_refl _) _) (hb.mono (by simp))); have e0 := B0.cell 0 (v := .int .i64 x.fNext) rfl; have e1 := B0.cell 1 (v := .int .i64 x.fSeq) rfl; have e2 := B0.cell 2 (v := v2) rfl; clear hb B0) | ((with_reducible refine (iInR_calls lv _ _ _).mono ?_); rintro e wq ⟨rfl, rfl⟩; rw [h2]))
    exact bodyPost_ret (v := .tuple #[.slice none 0 0, .bool false]) (by simp [results, Try.results29, go_sem]) rfl ⟨_, [], by rw [HBB.out], by rw [HVV.out]; exact kIntS_make (Rp.Row_nil _ _ _), by simp, by simp, HB.out⟩
  · have HBB := Lib.hid (show ovB x lv le mo = false by simp [ovB, h1, h2, h3])
    have HVV := Lib.hid (show ovV x lv le mo = [] by rw [ovV, HBB.out]; rfl)
    go_enter Try.func29, Try.ntmps29
    go_wp2_with (first | ((with_reducible refine (iGoodVersion_calls x _ _ (Rp.S_below G.out ((Below.refl _ _).alloc (Nat.le_refl _) _)) (by omega)).mono ?_); rintro e w1 ⟨rfl, hb⟩; rw [h1]; have B0 : Box w1 w.heap.size #[.int .i64 x.fNext, .int .i64 x.fSeq, v2] 24 := Box.below (Box.new rfl) hb; have HB := Lib.hid (Below.trans ((Below.refl w.heap.size w).alloc (Nat.le_refl _) _) (hb.mono (by simp))); have e0 := B0.cell 0 (v := .int .i64 x.fNext) rfl; have e1 := B0.cell 1 (v := .int .i64 x.fSeq) rfl; have e2 := B0.cell 2 (v := v2) rfl; clear hb B0) | ((with_reducible refine (iInR_calls lv _ _ _).mono ?_); rintro e wq ⟨rfl, rfl⟩; rw [h2]) | ((with_reducible refine (iKey_calls le _).mono ?_); rintro e wq ⟨rfl, rfl⟩; rw [h3]))
    exact bodyPost_ret (v := .tuple #[.slice none 0 0, .bool false]) (by simp [results, Try.results29, go_sem]) rfl ⟨_, [], by rw [HBB.out], by rw [HVV.out]; exact kIntS_make (Rp.Row_nil _ _ _), by simp, by simp, HB.out⟩
  · have HBB := Lib.hid (show ovB x lv le mo = false by simp [ovB, h1, h2, h3, h4])
    have HVV := Lib.hid (show ovV x lv le mo = [] by rw [ovV, HBB.out]; rfl)
    go_enter Try.func29, Try.ntmps29
    go_wp2_with (first | ((with_reducible refine (iGoodVersion_calls x _ _ (Rp.S_below G.out ((Below.refl _ _).alloc (Nat.le_refl _) _)) (by omega)).mono ?_); rintro e w1 ⟨rfl, hb⟩; rw [h1]; have B0 : Box w1 w.heap.size #[.int .i64 x.fNext, .int .i64 x.fSeq, v2] 24 := Box.below (Box.new rfl) hb; have HB := Lib.hid (Below.trans ((Below.refl w.heap.size w).alloc (Nat.le_refl _) _) (hb.mono (by simp))); have e0 := B0.cell 0 (v := .int .i64 x.fNext) rfl; have e1 := B0.cell 1 (v := .int .i64 x.fSeq) rfl; have e2 := B0.cell 2 (v := v2) rfl; clear hb B0) | ((with_reducible refine (iInR_calls lv _ _ _).mono ?_); rintro e wq ⟨rfl, rfl⟩; rw [h2]) | ((with_reducible refine (iKey_calls le _).mono ?_); rintro e wq ⟨rfl, rfl⟩; rw [h3]) | ((with_reducible refine (iKey_calls mo _).mono ?_); rintro e wq ⟨rfl, rfl⟩; rw [h4]))
    exact bodyPost_ret (v := .tuple #[.slice none 0 0, .bool false]) (by simp [results, Try.results29, go_sem]) rfl ⟨_, [], by rw [HBB.out], by rw [HVV.out]; exact kIntS_make (Rp.Row_nil _ _ _), by simp, by simp, HB.out⟩
  · have HBB := Lib.hid (show ovB x lv le mo = false by simp [ovB, h1, h2, h3, h4, h5])
    have HVV := Lib.hid (show ovV x lv le mo = [] by rw [ovV, HBB.out]; rfl)
    have h5' : (Op.bytesLess le.toList mo.toList || le.toList == mo.toList) = false := h5
    go_enter Try.func29, Try.ntmps29
    go_wp2_with (first | ((with_reducible refine (iGoodVersion_calls x _ _ (Rp.S_below G.out ((Below.refl _ _).alloc (Nat.le_refl _) _)) (by omega)).mono ?_); rintro e w1 ⟨rfl, hb⟩; rw [h1]; have B0 : Box w1 w.heap.size #[.int .i64 x.fNext, .int .i64 x.fSeq, v2] 24 := Box.below (Box.new rfl) hb; have HB := Lib.hid (Below.trans ((Below.refl w.heap.size w).alloc (Nat.le_refl _) _) (hb.mono (by simp))); have e0 := B0.cell 0 (v := .int .i64 x.fNext) rfl; have e1 := B0.cell 1 (v := .int .i64 x.fSeq) rfl; have e2 := B0.cell 2 (v := v2) rfl; clear hb B0) | ((with_reducible refine (iInR_calls lv _ _ _).mono ?_); rintro e wq ⟨rfl, rfl⟩; rw [h2]) | ((with_reducible refine (iKey_calls le _).mono ?_); rintro e wq ⟨rfl, rfl⟩; rw [h3]) | ((with_reducible refine (iKey_calls mo _).mono ?_); rintro e wq ⟨rfl, rfl⟩; rw [h4]))
    exact bodyPost_ret (v := .tuple #[.slice none 0 0, .bool false]) (by simp [results, Try.results29, go_sem]) rfl ⟨_, [], by rw [HBB.out], by rw [HVV.out]; exact kIntS_make (Rp.Row_nil _ _ _), by simp, by simp, HB.out⟩
  · have HBB := Lib.hid (show ovB x lv le mo = true by simp [ovB, h1, h2, h3, h4, h5])
    have HVV := Lib.hid (show ovV x lv le mo = ovs lv le mo x.fMetas by rw [ovV, HBB.out]; rfl)
    have h5' : (Op.bytesLess le.toList mo.toList || le.toList == mo.toList) = true := h5
    go_enter Try.func29, Try.ntmps29
    go_wp2_with (first | ((with_reducible refine (iGoodVersion_calls x _ _ (Rp.S_below G.out ((Below.refl _ _).alloc (Nat.le_refl _) _)) (by omega)).mono ?_); rintro e w1 ⟨rfl, hb⟩; rw [h1]; have B0 : Box w1 w.heap.size #[.int .i64 x.fNext, .int .i64 x.fSeq, v2] 24 := Box.below (Box.new rfl) hb; have HB := Lib.hid (Below.trans ((Below.refl w.heap.size w).alloc (Nat.le_refl _) _) (hb.mono (by simp))); have e0 := B0.cell 0 (v := .int .i64 x.fNext) rfl; have e1 := B0.cell 1 (v := .int .i64 x.fSeq) rfl; have e2 := B0.cell 2 (v := v2) rfl; clear hb B0) | ((with_reducible refine (iInR_calls lv _ _ _).mono ?_); rintro e wq ⟨rfl, rfl⟩; rw [h2]) | ((with_reducible refine (iKey_calls le _).mono ?_); rintro e wq ⟨rfl, rfl⟩; rw [h3]) | ((with_reducible refine (iKey_calls mo _).mono ?_); rintro e wq ⟨rfl, rfl⟩; rw [h4]) | ((with_reducible refine (iOver_calls x.fMetas lv le mo v2 w.heap.size _ (Rp.S_below G.out HB.out) e2 hl).mono ?_); rintro e w3 ⟨v3, F3, rfl, r1, r2, r3, hb⟩; have R1 := Lib.hid r1; have R2 := Lib.hid (fun b hm => Nat.le_trans HB.out.size (r2 b hm) : ∀ b ∈ F3, w.heap.size ≤ b); have R3 := Lib.hid r3; have HB3 := Lib.hid (HB.out.trans (hb.mono HB.out.size)); clear r1 r2 r3 hb))
    exact bodyPost_ret (v := .tuple #[v3, .bool true]) (by simp [results, Try.results29, go_sem]) rfl ⟨v3, F3, by rw [HBB.out], by rw [HVV.out]; exact kIntS_make R1.out, R2.out, R3.out, HB3.out⟩

set_option maxHeartbeats 4000000 in
set_option maxRecDepth 100000 in
theorem sOverlapsIn_k {x : DVersion} {lv : Int} {le mo : ByteArray} {c0 : List Value} {w : World} (k0 : kVersion.K w x c0) (h0 : wfVersion x) (s0 : smVersion 1048576 x) (hw : (Lit.int .i64 lv).wf = true) (z1 : le.size ≤ 1048576) (z2 : mo.size ≤ 1048576) : Calls Try.prog 28 #[.agg c0.toArray, .int .i64 lv, .string le, .string mo] w
    fun e w' => ∃ v F, e = .returned (.tuple #[v, .bool (ovB x lv le mo)]) ∧ kIntS.M w' F (ovV x lv le mo) [v] ∧ (∀ b ∈ F, w.heap.size ≤ b) ∧ F.Nodup ∧ Below w.heap.size w w' := by
  obtain ⟨v2, rfl, g2⟩ := kVersion_read k0
  have hl : x.fMetas.length ≤ 1048576 := s0
  have G := Lib.hid g2; clear g2
  clear hw k0 h0 s0
  have hpath : goodVer x = false ∨ (goodVer x = true ∧ inR lv 0 3 = false) ∨ (goodVer x = true ∧ inR lv 0 3 = true ∧ goodKey le = false) ∨ (goodVer x = true ∧ inR lv 0 3 = true ∧ goodKey le = true ∧ goodKey mo = false) ∨ (goodVer x = true ∧ inR lv 0 3 = true ∧ goodKey le = true ∧ goodKey mo = true ∧ leS le mo = false) ∨ (goodVer x = true ∧ inR lv 0 3 = true ∧ goodKey le = true ∧ goodKey mo = true ∧ leS le mo = true) := by
    cases goodVer x <;> cases inR lv 0 3 <;> cases goodKey le <;> cases goodKey mo <;> cases leS le mo <;> simp
  rcases hpath with h1 | ⟨h1, h2⟩ | ⟨h1, h2, h3⟩ | ⟨h1, h2, h3, h4⟩ | ⟨h1, h2, h3, h4, h5⟩ | ⟨h1, h2, h3, h4, h5⟩
  · have HBB := Lib.hid (show ovB x lv le mo = false by simp [ovB, h1])
    have HVV := Lib.hid (show ovV x lv le mo = [] by rw [ovV, HBB.out]; rfl)
    go_enter Try.func28, Try.ntmps28
    go_wp2_with (first | ((with_reducible refine (sGoodVersion_calls x _ _ (Rp.S_below G.out ((Below.refl _ _).alloc (Nat.le_refl _) _)) (by omega)).mono ?_); rintro e w1 ⟨rfl, hb⟩; rw [h1]; have B0 : Box w1 w.heap.size #[.int .i64 x.fNext, .int .i64 x.fSeq, v2] 24 := Box.below (Box.new rfl) hb; have HB := Lib.hid (Below.trans ((Below.refl w.heap.size w).alloc (Nat.le_refl _) _) (hb.mono (by simp))); have e0 := B0.cell 0 (v := .int .i64 x.fNext) rfl; have e1 := B0.cell 1 (v := .int .i64 x.fSeq) rfl; have e2 := B0.cell 2 (v := v2) rfl; clear hb B0))
    exact bodyPost_ret (v := .tuple #[.slice none 0 0, .bool false]) (by simp [results, Try.results28, go_sem]) rfl ⟨_, [], by rw [HBB.out], by rw [HVV.out]; exact kIntS_make (Rp.Row_nil _ _ _), by simp, by simp, HB.out⟩
  · have HBB := Lib.hid (show ovB x lv le mo = false by simp [ovB, h1, h2])
    have HVV := Lib.hid (show ovV x lv le mo = [] by rw [ovV, HBB.out]; rfl)
    go_enter Try.func28, Try.ntmps28
    go_wp2_with (first | ((with_reducible refine (sGoodVersion_calls x _ _ (Rp.S_below G.out ((Below.refl _ _).alloc (Nat.le_refl _) _)) (by omega)).mono ?_); rintro e w1 ⟨rfl, hb⟩; rw [h1]; have B0 : Box w1 w.heap.size #[.int .i64 x.fNext, .int .i64 x.fSeq, v2] 24 := Box.below (Box.new rfl) hb; have HB := Lib.hid (Below.trans ((Below.refl w.heap.size w).alloc (Nat.le_refl _) _) (hb.mono (by simp))); have e0 := B0.cell 0 (v := .int .i64 x.fNext) rfl; have e1 := B0.cell 1 (v := .int .i64 x.fSeq) rfl; have e2 := B0.cell 2 (v := v2) rfl; clear hb B0) | ((with_reducible refine (sInR_calls lv _ _ _).mono ?_); rintro e wq ⟨rfl, rfl⟩; rw [h2]))
    exact bodyPost_ret (v := .tuple #[.slice none 0 0, .bool false]) (by simp [results, Try.results28, go_sem]) rfl ⟨_, [], by rw [HBB.out], by rw [HVV.out]; exact kIntS_make (Rp.Row_nil _ _ _), by simp, by simp, HB.out⟩
  · have HBB := Lib.hid (show ovB x lv le mo = false by simp [ovB, h1, h2, h3])
    have HVV := Lib.hid (show ovV x lv le mo = [] by rw [ovV, HBB.out]; rfl)
    go_enter Try.func28, Try.ntmps28
    go_wp2_with (first | ((with_reducible refine (sGoodVersion_calls x _ _ (Rp.S_below G.out ((Below.refl _ _).alloc (Nat.le_refl _) _)) (by omega)).mono ?_); rintro e w1 ⟨rfl, hb⟩; rw [h1]; have B0 : Box w1 w.heap.size #[.int .i64 x.fNext, .int .i64 x.fSeq, v2] 24 := Box.below (Box.new rfl) hb; have HB := Lib.hid (Below.trans ((Below.refl w.heap.size w).alloc (Nat.le_refl _) _) (hb.mono (by simp))); have e0 := B0.cell 0 (v := .int .i64 x.fNext) rfl; have e1 := B0.cell 1 (v := .int .i64 x.fSeq) rfl; have e2 := B0.cell 2 (v := v2) rfl; clear hb B0) | ((with_reducible refine (sInR_calls lv _ _ _).mono ?_); rintro e wq ⟨rfl, rfl⟩; rw [h2]) | ((with_reducible refine (sKey_calls le _).mono ?_); rintro e wq ⟨rfl, rfl⟩; rw [h3]))
    exact bodyPost_ret (v := .tuple #[.slice none 0 0, .bool false]) (by simp [results, Try.results28, go_sem]) rfl ⟨_, [], by rw [HBB.out], by rw [HVV.out]; exact kIntS_make (Rp.Row_nil _ _ _), by simp, by simp, HB.out⟩
  · have HBB := Lib.hid (show ovB x lv le mo = false by simp [ovB, h1, h2, h3, h4])
    have HVV := Lib.hid (show ovV x lv le mo = [] by rw [ovV, HBB.out]; rfl)
    go_enter Try.func28, Try.ntmps28
    go_wp2_with (first | ((with_reducible refine (sGoodVersion_calls x _ _ (Rp.S_below G.out ((Below.refl _ _).alloc (Nat.le_refl _) _)) (by omega)).mono ?_); rintro e w1 ⟨rfl, hb⟩; rw [h1]; have B0 : Box w1 w.heap.size #[.int .i64 x.fNext, .int .i64 x.fSeq, v2] 24 := Box.below (Box.new rfl) hb; have HB := Lib.hid (Below.trans ((Below.refl w.heap.size w).alloc (Nat.le_refl _) _) (hb.mono (by simp))); have e0 := B0.cell 0 (v := .int .i64 x.fNext) rfl; have e1 := B0.cell 1 (v := .int .i64 x.fSeq) rfl; have e2 := B0.cell 2 (v := v2) rfl; clear hb B0) | ((with_reducible refine (sInR_calls lv _ _ _).mono ?_); rintro e wq ⟨rfl, rfl⟩; rw [h2]) | ((with_reducible refine (sKey_calls le _).mono ?_); rintro e wq ⟨rfl, rfl⟩; rw [h3]) | ((with_reducible refine (sKey_calls mo _).mono ?_); rintro e wq ⟨rfl, rfl⟩; rw [h4]))
    exact bodyPost_ret (v := .tuple #[.slice none 0 0, .bool false]) (by simp [results, Try.results28, go_sem]) rfl ⟨_, [], by rw [HBB.out], by rw [HVV.out]; exact kIntS_make (Rp.Row_nil _ _ _), by simp, by simp, HB.out⟩
  · have HBB := Lib.hid (show ovB x lv le mo = false by simp [ovB, h1, h2, h3, h4, h5])
    have HVV := Lib.hid (show ovV x lv le mo = [] by rw [ovV, HBB.out]; rfl)
    have h5' : (Op.bytesLess le.toList mo.toList || le.toList == mo.toList) = false := h5
    go_enter Try.func28, Try.ntmps28
    go_wp2_with (first | ((with_reducible refine (sGoodVersion_calls x _ _ (Rp.S_below G.out ((Below.refl _ _).alloc (Nat.le_refl _) _)) (by omega)).mono ?_); rintro e w1 ⟨rfl, hb⟩; rw [h1]; have B0 : Box w1 w.heap.size #[.int .i64 x.fNext, .int .i64 x.fSeq, v2] 24 := Box.below (Box.new rfl) hb; have HB := Lib.hid (Below.trans ((Below.refl w.heap.size w).alloc (Nat.le_refl _) _) (hb.mono (by simp))); have e0 := B0.cell 0 (v := .int .i64 x.fNext) rfl; have e1 := B0.cell 1 (v := .int .i64 x.fSeq) rfl; have e2 := B0.cell 2 (v := v2) rfl; clear hb B0) | ((with_reducible refine (sInR_calls lv _ _ _).mono ?_); rintro e wq ⟨rfl, rfl⟩; rw [h2]) | ((with_reducible refine (sKey_calls le _).mono ?_); rintro e wq ⟨rfl, rfl⟩; rw [h3]) | ((with_reducible refine (sKey_calls mo _).mono ?_); rintro e wq ⟨rfl, rfl⟩; rw [h4]))
    exact bodyPost_ret (v := .tuple #[.slice none 0 0, .bool false]) (by simp [results, Try.results28, go_sem]) rfl ⟨_, [], by rw [HBB.out], by rw [HVV.out]; exact kIntS_make (Rp.Row_nil _ _ _), by simp, by simp, HB.out⟩
  · have HBB := Lib.hid (show ovB x lv le mo = true by simp [ovB, h1, h2, h3, h4, h5])
    have HVV := Lib.hid (show ovV x lv le mo = ovs lv le mo x.fMetas by rw [ovV, HBB.out]; rfl)
    have h5' : (Op.bytesLess le.toList mo.toList || le.toList == mo.toList) = true := h5
    go_enter Try.func28, Try.ntmps28
    go_wp2_with (first | ((with_reducible refine (sGoodVersion_calls x _ _ (Rp.S_below G.out ((Below.refl _ _).alloc (Nat.le_refl _) _)) (by omega)).mono ?_); rintro e w1 ⟨rfl, hb⟩; rw [h1]; have B0 : Box w1 w.heap.size #[.int .i64 x.fNext, .int .i64 x.fSeq, v2] 24 := Box.below (Box.new rfl) hb; have HB := Lib.hid (Below.trans ((Below.refl w.heap.size w).alloc (Nat.le_refl _) _) (hb.mono (by simp))); have e0 := B0.cell 0 (v := .int .i64 x.fNext) rfl; have e1 := B0.cell 1 (v := .int .i64 x.fSeq) rfl; have e2 := B0.cell 2 (v := v2) rfl; clear hb B0) | ((with_reducible refine (sInR_calls lv _ _ _).mono ?_); rintro e wq ⟨rfl, rfl⟩; rw [h2]) | ((with_reducible refine (sKey_calls le _).mono ?_); rintro e wq ⟨rfl, rfl⟩; rw [h3]) | ((with_reducible refine (sKey_calls mo _).mono ?_); rintro e wq ⟨rfl, rfl⟩; rw [h4]) | ((with_reducible refine (sOver_calls x lv le mo v2 _ (Rp.S_below G.out HB.out) hl).mono ?_); rintro e w3 ⟨v3, F3, rfl, r1, r2, r3, hb⟩; have R1 := Lib.hid r1; have R2 := Lib.hid (fun b hm => Nat.le_trans HB.out.size (r2 b hm) : ∀ b ∈ F3, w.heap.size ≤ b); have R3 := Lib.hid r3; have HB3 := Lib.hid (HB.out.trans (hb.mono HB.out.size)); clear r1 r2 r3 hb))
    exact bodyPost_ret (v := .tuple #[v3, .bool true]) (by simp [results, Try.results28, go_sem]) rfl ⟨v3, F3, by rw [HBB.out], by rw [HVV.out]; exact kIntS_make R1.out, R2.out, R3.out, HB3.out⟩
end Go.Proofs.Ytnlplihbjbmepaa
