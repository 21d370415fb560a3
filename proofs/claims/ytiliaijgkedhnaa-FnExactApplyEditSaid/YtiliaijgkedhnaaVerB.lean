/- Versions: which are right, walked. -/
import Derived.Test.YtiliaijgkedhnaaVerA
namespace Go.Proofs.Ytiliaijgkedhnaa
open Go Go.RowKit Go.Sort
set_option linter.unusedVariables false
set_option linter.unusedSimpArgs false

set_option maxHeartbeats 1000000 in
theorem iMeets_calls (m : DMeta) (b : Nat) (le mo : ByteArray) (w : World) (c2 : w.cell? ⟨b, 2, none⟩ = some (.string m.fLeast)) (c3 : w.cell? ⟨b, 3, none⟩ = some (.string m.fMost)) : Calls Try.prog 43 #[.pointer (some ⟨b, 0, none⟩), .string le, .string mo] w
    fun e w' => e = .returned (.bool (leS m.fLeast mo && leS le m.fMost)) ∧ w' = w := by
  cases h1 : leS m.fLeast mo
  · have h1' : (Op.bytesLess m.fLeast.toList mo.toList || m.fLeast.toList == mo.toList) = false := h1
    go_enter Try.func43, Try.ntmps43
    go_wp2
    all_goals (go_ret; exact ⟨by congr 2, rfl⟩)
  · have h1' : (Op.bytesLess m.fLeast.toList mo.toList || m.fLeast.toList == mo.toList) = true := h1
    go_enter Try.func43, Try.ntmps43
    go_wp2
    all_goals (go_ret; exact ⟨by congr 2, rfl⟩)
set_option maxHeartbeats 1000000 in
theorem cloVer_calls (m x : DMeta) (g : Nat) (w : World) (c1 : w.cell? ⟨g, 1, none⟩ = some (.int .i64 m.fLevel)) (c2 : w.cell? ⟨g, 2, none⟩ = some (.string m.fLeast)) (c3 : w.cell? ⟨g, 3, none⟩ = some (.string m.fMost)) :
    Calls Try.prog 42 #[.agg #[.int .i64 x.fNumber, .int .i64 x.fLevel, .string x.fLeast, .string x.fMost], .pointer (some ⟨g, 0, none⟩)] w
    fun e w' => e = .returned (.bool (meetB m x)) ∧ Below w.heap.size w w' := by
  have hg1 := World.block_lt_of_cell? w _ c1
  have B0 : Box (w.alloc (.cells #[.int .i64 x.fNumber, .int .i64 m.fLevel, .string x.fLeast, .string x.fMost] 52)) w.heap.size #[.int .i64 x.fNumber, .int .i64 m.fLevel, .string x.fLeast, .string x.fMost] 52 := Box.new rfl
  by_cases h : x.fLevel = m.fLevel
  · go_enter Try.func42, Try.ntmps42
    go_wp2_with fail
    (with_reducible refine (iMeets_calls x w.heap.size _ _ _ (B0.cell 2 rfl) (B0.cell 3 rfl)).mono ?_)
    rintro e w1 ⟨rfl, rfl⟩
    go_wp2
    go_ret
    exact ⟨by congr 2; simp [meetB, h], (Below.refl _ _).alloc (Nat.le_refl _) _⟩
  · go_enter Try.func42, Try.ntmps42
    go_wp2
    go_ret
    exact ⟨by congr 2; simp [meetB, h], (Below.refl _ _).alloc (Nat.le_refl _) _⟩
theorem any_take {α : Type} {p : α → Bool} {xs : List α} {k : Nat} (h : k < xs.length) : (xs.take (k + 1)).any p = ((xs.take k).any p || p xs[k]) := by
  rw [List.take_add_one, List.getElem?_eq_getElem h, List.any_append]
  simp
set_option maxHeartbeats 2000000 in
set_option maxRecDepth 100000 in
theorem idxVer_calls (m : DMeta) (xs : List DMeta) (v : Value) (g : Nat) (w : World) (gs : kMeta.S w xs v) (hl : xs.length ≤ 140737488355328) (c1 : w.cell? ⟨g, 1, none⟩ = some (.int .i64 m.fLevel)) (c2 : w.cell? ⟨g, 2, none⟩ = some (.string m.fLeast)) (c3 : w.cell? ⟨g, 3, none⟩ = some (.string m.fMost)) :
    Calls Try.prog 45 #[v, .func (.func 42) #[] #[.pointer (some ⟨g, 0, none⟩)]] w
    fun e w' => ∃ r : Int, e = .returned (.int .i64 r) ∧ decide (0 ≤ r) = xs.any (meetB m) ∧ Below w.heap.size w w' := by
  obtain ⟨A, c, rfl, hc, h⟩ := gs
  have H := Lib.hid h; clear h
  have C1 := Lib.hid c1; have C2 := Lib.hid c2; have C3 := Lib.hid c3
  clear c1 c2 c3
  go_enter Try.func45, Try.ntmps45
  go_wp2
  go_loopw [8] (fun i wr => ∃ k : Nat, k ≤ xs.length ∧ i = .int .i64 k ∧ Hid ((xs.take k).any (meetB m) = false) ∧ Hid (Below w.heap.size w wr)) (fun i _ => xs.length - (intOf i).toNat)
  case atStart => exact ⟨0, Nat.zero_le _, rfl, rfl, Below.refl _ _⟩
  case round =>
    obtain ⟨k, hk, rfl, HE, HB⟩ := hrel
    by_cases hlt : k < xs.length
    · obtain ⟨b, o, cs, rfl, k1, q1⟩ := Rp.C_get H.out k hlt
      obtain rfl := kMeta_K k1
      have hany := any_take (p := meetB m) hlt
      rw [HE.out, Bool.false_or] at hany
      generalize he : xs[k] = y at *
      have HG := Lib.hid he; clear he
      have HA := Lib.hid hany; clear hany HE
      have a0 := (World.cell?_of_block (HB.out.block b (World.block_lt_of_cell? w _ (q1 0 _ rfl)))).trans (q1 0 _ rfl)
      have a1 := (World.cell?_of_block (HB.out.block b (World.block_lt_of_cell? w _ (q1 1 _ rfl)))).trans (q1 1 _ rfl)
      have a2 := (World.cell?_of_block (HB.out.block b (World.block_lt_of_cell? w _ (q1 2 _ rfl)))).trans (q1 2 _ rfl)
      have a3 := (World.cell?_of_block (HB.out.block b (World.block_lt_of_cell? w _ (q1 3 _ rfl)))).trans (q1 3 _ rfl)
      simp only [kMeta_sz, Nat.add_zero] at a0 a1 a2 a3
      clear q1 k1
      have i1 : (0 : Int) ≤ (k : Int) := by omega
      have i2 : (k : Int) < (xs.length : Int) := by omega
      cases hm : meetB m y
      · go_wp2_with ((with_reducible refine (cloVer_calls m y g _ ((HB.out.cell (World.block_lt_of_cell? w _ C1.out)).trans C1.out) ((HB.out.cell (World.block_lt_of_cell? w _ C2.out)).trans C2.out) ((HB.out.cell (World.block_lt_of_cell? w _ C3.out)).trans C3.out)).mono ?_); rintro e w1 ⟨rfl, hb⟩; rw [hm]; have HB1 := Lib.hid (HB.out.trans (hb.mono HB.out.size)); clear hb)
        exact ⟨⟨k + 1, by omega, by go_num, by rw [Hid, HA.out, hm], HB1.out⟩, by simp [intOf]; omega⟩
      · go_wp2_with ((with_reducible refine (cloVer_calls m y g _ ((HB.out.cell (World.block_lt_of_cell? w _ C1.out)).trans C1.out) ((HB.out.cell (World.block_lt_of_cell? w _ C2.out)).trans C2.out) ((HB.out.cell (World.block_lt_of_cell? w _ C3.out)).trans C3.out)).mono ?_); rintro e w1 ⟨rfl, hb⟩; rw [hm]; have HB1 := Lib.hid (HB.out.trans (hb.mono HB.out.size)); clear hb)
        go_ret
        refine ⟨k, rfl, ?_, HB1.out⟩
        have h1 : xs.any (meetB m) = true := by
          rw [List.any_eq_true]
          exact ⟨y, by rw [← HG.out]; exact List.getElem_mem hlt, hm⟩
        rw [h1]
        simp
    · go_wp2
      go_ret
      obtain rfl : k = xs.length := by omega
      refine ⟨-1, rfl, ?_, HB.out⟩
      have h1 := HE.out
      rw [List.take_length] at h1
      rw [h1]
      rfl
set_option maxHeartbeats 1000000 in
theorem conVer_calls (m : DMeta) (xs : List DMeta) (v : Value) (g : Nat) (w : World) (gs : kMeta.S w xs v) (hl : xs.length ≤ 140737488355328) (c1 : w.cell? ⟨g, 1, none⟩ = some (.int .i64 m.fLevel)) (c2 : w.cell? ⟨g, 2, none⟩ = some (.string m.fLeast)) (c3 : w.cell? ⟨g, 3, none⟩ = some (.string m.fMost)) :
    Calls Try.prog 41 #[v, .func (.func 42) #[] #[.pointer (some ⟨g, 0, none⟩)]] w
    fun e w' => e = .returned (.bool (xs.any (meetB m))) ∧ Below w.heap.size w w' := by
  have C1 := Lib.hid c1; have C2 := Lib.hid c2; have C3 := Lib.hid c3
  have G := Lib.hid gs
  clear c1 c2 c3 gs
  go_enter Try.func41, Try.ntmps41
  go_wp2_with fail
  (with_reducible refine (idxVer_calls m xs v g _ G.out hl C1.out C2.out C3.out).mono ?_)
  rintro e w1 ⟨r, rfl, hr, hb⟩
  have HR := Lib.hid hr; have HB := Lib.hid hb
  clear hr hb
  go_wp2
  go_ret
  exact ⟨by rw [← HR.out]; rfl, HB.out⟩

set_option maxHeartbeats 4000000 in
set_option maxRecDepth 100000 in
theorem iGoodVersion_calls (x : DVersion) (v2 : Value) (w : World) (g2 : kMeta.S w x.fMetas v2) (hl : x.fMetas.length ≤ 140737488355328) : Calls Try.prog 21 #[.agg #[.int .i64 x.fNext, .int .i64 x.fSeq, v2]] w
    fun e w' => e = .returned (.bool (goodVer x)) ∧ Below w.heap.size w w' := by
  have G := Lib.hid g2
  obtain ⟨A, c, rfl, hc, h⟩ := g2
  have H := Lib.hid h; clear h
  cases h1 : cntOk x.fNext x.fSeq
  · go_enter Try.func21, Try.ntmps21
    go_wp2_with ((with_reducible refine (iNext_calls _ _ _).mono ?_); rintro e w1 ⟨rfl, rfl⟩; rw [h1])
    go_ret
    exact ⟨by simp [goodVer, h1], (Below.refl _ _).alloc (Nat.le_refl _) _⟩
  cases h2 : metasOk x.fMetas
  · go_enter Try.func21, Try.ntmps21
    go_wp2_with (first | ((with_reducible refine (iNext_calls _ _ _).mono ?_); rintro e w1 ⟨rfl, rfl⟩; rw [h1]) | ((with_reducible refine (iMetas_calls x.fMetas _ _ (Rp.S_below G.out ((Below.refl _ _).alloc (Nat.le_refl _) _)) hl).mono ?_); rintro e w1 ⟨rfl, hb⟩; rw [h2]; have HB := Lib.hid (Below.trans ((Below.refl w.heap.size w).alloc (Nat.le_refl _) _) (hb.mono (by simp))); clear hb))
    go_ret
    exact ⟨by simp [goodVer, h1, h2], HB.out⟩
  go_enter Try.func21, Try.ntmps21
  go_wp2_with (first | ((with_reducible refine (iNext_calls _ _ _).mono ?_); rintro e w1 ⟨rfl, rfl⟩; rw [h1]) | ((with_reducible refine (iMetas_calls x.fMetas _ _ (Rp.S_below G.out ((Below.refl _ _).alloc (Nat.le_refl _) _)) hl).mono ?_); rintro e w1 ⟨rfl, hb⟩; rw [h2]; have B0 : Box w1 w.heap.size #[.int .i64 x.fNext, .int .i64 x.fSeq, .slice A x.fMetas.length c] 32 := Box.below (Box.new rfl) hb; have HB := Lib.hid (Below.trans ((Below.refl w.heap.size w).alloc (Nat.le_refl _) _) (hb.mono (by simp))); clear hb; have e0 := B0.cell 0 (v := .int .i64 x.fNext) rfl; have e1 := B0.cell 1 (v := .int .i64 x.fSeq) rfl; have e2 := B0.cell 2 (v := .slice A x.fMetas.length c) rfl; have HX := Lib.hid B0; clear B0))
  go_loopw [20] (fun i wr => ∃ k : Nat, k ≤ x.fMetas.length ∧ i = .int .i64 k ∧ Hid (verFrom x.fNext (x.fMetas.take k) (x.fMetas.drop k) = verFrom x.fNext [] x.fMetas) ∧ Hid (Below w.heap.size w wr) ∧ Hid (Box wr w.heap.size #[.int .i64 x.fNext, .int .i64 x.fSeq, .slice A x.fMetas.length c] 32)) (fun i _ => x.fMetas.length - (intOf i).toNat)
  case atStart => exact ⟨0, Nat.zero_le _, rfl, rfl, HB.out, HX.out⟩
  case round =>
    clear HB HX e0 e1 e2
    have HG := Lib.hid (show goodVer x = verFrom x.fNext [] x.fMetas by simp [goodVer, h1, h2])
    clear h1 h2
    obtain ⟨k, hk, rfl, HE, HB, HX⟩ := hrel
    by_cases hlt : k < x.fMetas.length
    · obtain ⟨b, o, cs, rfl, k1, q1⟩ := Rp.C_get H.out k hlt
      obtain rfl := kMeta_K k1
      have hd := HE.out
      rw [verFrom_step hlt] at hd
      generalize he : x.fMetas[k] = y at *
      have HY := Lib.hid he; clear he
      have HD := Lib.hid hd; clear hd HE
      have a0 := (World.cell?_of_block (HB.out.block b (World.block_lt_of_cell? w _ (q1 0 _ rfl)))).trans (q1 0 _ rfl)
      have a1 := (World.cell?_of_block (HB.out.block b (World.block_lt_of_cell? w _ (q1 1 _ rfl)))).trans (q1 1 _ rfl)
      have a2 := (World.cell?_of_block (HB.out.block b (World.block_lt_of_cell? w _ (q1 2 _ rfl)))).trans (q1 2 _ rfl)
      have a3 := (World.cell?_of_block (HB.out.block b (World.block_lt_of_cell? w _ (q1 3 _ rfl)))).trans (q1 3 _ rfl)
      simp only [kMeta_sz, Nat.add_zero] at a0 a1 a2 a3
      clear q1 k1
      have i1 : (0 : Int) ≤ (k : Int) := by omega
      have i2 : (k : Int) < (x.fMetas.length : Int) := by omega
      have i3 : (k : Int) ≤ (c : Int) := by have := hc.1; omega
      have hwl : w.heap.size < wr.heap.size := HX.out.lt
      have e0 := HX.out.cell 0 (v := .int .i64 x.fNext) rfl
      have e2 := HX.out.cell 2 (v := .slice (some ⟨b, o, none⟩) x.fMetas.length c) rfl
      have HBX := Lib.hid (HB.out.alloc HB.out.size (.cells #[.int .i64 y.fNumber, .int .i64 y.fLevel, .string y.fLeast, .string y.fMost] 52))
      have HX1 := Lib.hid (Box.alloc (o := .cells #[.int .i64 y.fNumber, .int .i64 y.fLevel, .string y.fLeast, .string y.fMost] 52) HX.out)
      by_cases hn : y.fNumber < x.fNext
      · by_cases hv : 0 < y.fLevel
        · cases hm : (x.fMetas.take k).any (meetB y)
          all_goals
            go_wp2_with fail
            have BY : Box (wr.alloc (.cells #[.int .i64 y.fNumber, .int .i64 y.fLevel, .string y.fLeast, .string y.fMost] 52)) wr.heap.size #[.int .i64 y.fNumber, .int .i64 y.fLevel, .string y.fLeast, .string y.fMost] 52 := Box.new rfl
            (with_reducible refine (conVer_calls y (x.fMetas.take k) _ wr.heap.size _ (Rp.S_take (Rp.S_below G.out HBX.out) k (Nat.le_of_lt hlt)) (by simp; omega) (BY.cell 1 rfl) (BY.cell 2 rfl) (BY.cell 3 rfl)).mono ?_)
            rintro e w1 ⟨rfl, hb⟩
            rw [hm]
            have HB1 := Lib.hid (HBX.out.trans (hb.mono HBX.out.size))
            have HX2 := Lib.hid (HX1.out.below hb)
            clear hb BY
            go_wp2
          · exact ⟨⟨k + 1, by omega, by go_num, by rw [Hid, ← HD.out]; simp [hn, hm], HB1.out, HX2.out⟩, by simp [intOf]; omega⟩
          · go_ret
            exact ⟨by rw [HG.out, ← HD.out]; simp [hn, hv, hm], HB1.out⟩
        · go_wp2
          exact ⟨⟨k + 1, by omega, by go_num, by rw [Hid, ← HD.out]; simp [hn, hv], HBX.out, HX1.out⟩, by simp [intOf]; omega⟩
      · go_wp2
        go_ret
        exact ⟨by rw [HG.out, ← HD.out, decide_eq_false (Int.not_lt.2 hn), Bool.false_and, Bool.false_and]; rfl, HBX.out⟩
    · obtain rfl : k = x.fMetas.length := by omega
      have hE := HE.out
      rw [List.drop_length, verFrom] at hE
      have HE2 := Lib.hid hE; clear hE HE
      go_wp2
      go_ret
      exact ⟨by rw [HG.out, ← HE2.out]; rfl, HB.out⟩

set_option maxHeartbeats 4000000 in
set_option maxRecDepth 100000 in
theorem sGoodVersion_calls (x : DVersion) (v2 : Value) (w : World) (g2 : kMeta.S w x.fMetas v2) (hl : x.fMetas.length ≤ 140737488355328) : Calls Try.prog 17 #[.agg #[.int .i64 x.fNext, .int .i64 x.fSeq, v2]] w
    fun e w' => e = .returned (.bool (goodVer x)) ∧ Below w.heap.size w w' := by
  have G := Lib.hid g2
  obtain ⟨A, c, rfl, hc, h⟩ := g2
  have H := Lib.hid h; clear h
  cases h1 : cntOk x.fNext x.fSeq
  · go_enter Try.func17, Try.ntmps17
    go_wp2_with ((with_reducible refine (sNext_calls _ _ _).mono ?_); rintro e w1 ⟨rfl, rfl⟩; rw [h1])
    go_ret
    exact ⟨by simp [goodVer, h1], (Below.refl _ _).alloc (Nat.le_refl _) _⟩
  cases h2 : metasOk x.fMetas
  · go_enter Try.func17, Try.ntmps17
    go_wp2_with (first | ((with_reducible refine (sNext_calls _ _ _).mono ?_); rintro e w1 ⟨rfl, rfl⟩; rw [h1]) | ((with_reducible refine (sMetas_calls x.fMetas _ _ (Rp.S_below G.out ((Below.refl _ _).alloc (Nat.le_refl _) _)) hl).mono ?_); rintro e w1 ⟨rfl, hb⟩; rw [h2]; have HB := Lib.hid (Below.trans ((Below.refl w.heap.size w).alloc (Nat.le_refl _) _) (hb.mono (by simp))); clear hb))
    go_ret
    exact ⟨by simp [goodVer, h1, h2], HB.out⟩
  go_enter Try.func17, Try.ntmps17
  go_wp2_with (first | ((with_reducible refine (sNext_calls _ _ _).mono ?_); rintro e w1 ⟨rfl, rfl⟩; rw [h1]) | ((with_reducible refine (sMetas_calls x.fMetas _ _ (Rp.S_below G.out ((Below.refl _ _).alloc (Nat.le_refl _) _)) hl).mono ?_); rintro e w1 ⟨rfl, hb⟩; rw [h2]; have B0 : Box w1 w.heap.size #[.int .i64 x.fNext, .int .i64 x.fSeq, .slice A x.fMetas.length c] 32 := Box.below (Box.new rfl) hb; have HB := Lib.hid (Below.trans ((Below.refl w.heap.size w).alloc (Nat.le_refl _) _) (hb.mono (by simp))); clear hb; have e0 := B0.cell 0 (v := .int .i64 x.fNext) rfl; have e1 := B0.cell 1 (v := .int .i64 x.fSeq) rfl; have e2 := B0.cell 2 (v := .slice A x.fMetas.length c) rfl; have HX := Lib.hid B0; clear B0))
  go_loopw [22] (fun i wr => ∃ k : Nat, k ≤ x.fMetas.length ∧ i = .int .i64 k ∧ Hid (verFrom x.fNext (x.fMetas.take k) (x.fMetas.drop k) = verFrom x.fNext [] x.fMetas) ∧ Hid (Below w.heap.size w wr) ∧ Hid (Box wr w.heap.size #[.int .i64 x.fNext, .int .i64 x.fSeq, .slice A x.fMetas.length c] 32)) (fun i _ => x.fMetas.length - (intOf i).toNat)
  case atStart => exact ⟨0, Nat.zero_le _, rfl, rfl, HB.out, HX.out⟩
  case round =>
    clear HB HX e0 e1 e2
    have HG := Lib.hid (show goodVer x = verFrom x.fNext [] x.fMetas by simp [goodVer, h1, h2])
    clear h1 h2
    obtain ⟨k, hk, rfl, HE, HB, HX⟩ := hrel
    by_cases hlt : k < x.fMetas.length
    · obtain ⟨b, o, cs, rfl, k1, q1⟩ := Rp.C_get H.out k hlt
      obtain rfl := kMeta_K k1
      have hd := HE.out
      rw [verFrom_step hlt] at hd
      generalize he : x.fMetas[k] = y at *
      have HY := Lib.hid he; clear he
      have HD := Lib.hid hd; clear hd HE
      have a0 := (World.cell?_of_block (HB.out.block b (World.block_lt_of_cell? w _ (q1 0 _ rfl)))).trans (q1 0 _ rfl)
      have a1 := (World.cell?_of_block (HB.out.block b (World.block_lt_of_cell? w _ (q1 1 _ rfl)))).trans (q1 1 _ rfl)
      have a2 := (World.cell?_of_block (HB.out.block b (World.block_lt_of_cell? w _ (q1 2 _ rfl)))).trans (q1 2 _ rfl)
      have a3 := (World.cell?_of_block (HB.out.block b (World.block_lt_of_cell? w _ (q1 3 _ rfl)))).trans (q1 3 _ rfl)
      simp only [kMeta_sz, Nat.add_zero] at a0 a1 a2 a3
      clear q1 k1
      have i1 : (0 : Int) ≤ (k : Int) := by omega
      have i2 : (k : Int) < (x.fMetas.length : Int) := by omega
      have i3 : (k : Int) ≤ (c : Int) := by have := hc.1; omega
      have hwl : w.heap.size < wr.heap.size := HX.out.lt
      have e0 := HX.out.cell 0 (v := .int .i64 x.fNext) rfl
      have e2 := HX.out.cell 2 (v := .slice (some ⟨b, o, none⟩) x.fMetas.length c) rfl
      have HBX := Lib.hid (HB.out.alloc HB.out.size (.cells #[.int .i64 y.fNumber, .int .i64 y.fLevel, .string y.fLeast, .string y.fMost] 52))
      have HX1 := Lib.hid (Box.alloc (o := .cells #[.int .i64 y.fNumber, .int .i64 y.fLevel, .string y.fLeast, .string y.fMost] 52) HX.out)
      by_cases hn : y.fNumber < x.fNext
      case neg =>
        go_wp2
        go_ret
        exact ⟨by rw [HG.out, ← HD.out, decide_eq_false (Int.not_lt.2 hn), Bool.false_and, Bool.false_and]; rfl, HBX.out⟩
      go_wp2
      have BY : Box (wr.alloc (.cells #[.int .i64 y.fNumber, .int .i64 y.fLevel, .string y.fLeast, .string y.fMost] 52)) wr.heap.size #[.int .i64 y.fNumber, .int .i64 y.fLevel, .string y.fLeast, .string y.fMost] 52 := Box.new rfl
      have HYX := Lib.hid BY
      have hq : (decide (0 < y.fLevel) && (x.fMetas.take k).any (meetB y)) = (x.fMetas.take k).any (fun n => decide (0 < y.fLevel) && meetB y n) := by
        by_cases hv : 0 < y.fLevel
        · simp [hv]
        · simp [hv]
      have HQ := Lib.hid hq
      clear hq BY a0 a1 a2 a3
      rename World => wo
      go_loopw [37] (fun j wt => ∃ m : Nat, m ≤ k ∧ j = .int .i64 m ∧ Hid ((x.fMetas.take m).any (fun n => decide (0 < y.fLevel) && meetB y n) = false) ∧ Hid (Below w.heap.size w wt) ∧ Hid (Box wt w.heap.size #[.int .i64 x.fNext, .int .i64 x.fSeq, .slice (some ⟨b, o, none⟩) x.fMetas.length c] 32) ∧ Hid (Box wt wo.heap.size #[.int .i64 y.fNumber, .int .i64 y.fLevel, .string y.fLeast, .string y.fMost] 52)) (fun j _ => k - (intOf j).toNat)
      case atStart => exact ⟨0, Nat.zero_le _, rfl, rfl, HBX.out, HX1.out, HYX.out⟩
      case round =>
        clear HBX HX1 HYX HB HX e0 e2
        obtain ⟨m, hm, rfl, HA, HB, HX, HYB⟩ := hrel
        by_cases hlm : m < k
        · obtain ⟨b', o', cs, eb, k1, q1⟩ := Rp.C_get H.out m (by omega)
          obtain ⟨rfl, rfl⟩ : b = b' ∧ o = o' := by simpa using eb
          obtain rfl := kMeta_K k1
          have hany := any_take (p := fun n => decide (0 < y.fLevel) && meetB y n) (show m < x.fMetas.length by omega)
          rw [HA.out, Bool.false_or] at hany
          have hmem : ∀ p : DMeta → Bool, p x.fMetas[m] = true → (x.fMetas.take k).any p = true := fun p hp => by
            rw [List.any_eq_true]
            exact ⟨x.fMetas[m], by rw [List.mem_take_iff_getElem]; exact ⟨m, by omega, rfl⟩, hp⟩
          generalize x.fMetas[m] = z at *
          have HM := Lib.hid hmem; have HA2 := Lib.hid hany
          clear hmem hany HA
          have d0 := (World.cell?_of_block (HB.out.block b (World.block_lt_of_cell? w _ (q1 0 _ rfl)))).trans (q1 0 _ rfl)
          have d1 := (World.cell?_of_block (HB.out.block b (World.block_lt_of_cell? w _ (q1 1 _ rfl)))).trans (q1 1 _ rfl)
          have d2 := (World.cell?_of_block (HB.out.block b (World.block_lt_of_cell? w _ (q1 2 _ rfl)))).trans (q1 2 _ rfl)
          have d3 := (World.cell?_of_block (HB.out.block b (World.block_lt_of_cell? w _ (q1 3 _ rfl)))).trans (q1 3 _ rfl)
          simp only [kMeta_sz, Nat.add_zero] at d0 d1 d2 d3
          clear q1 k1
          have j1 : (0 : Int) ≤ (m : Int) := by omega
          have j2 : (m : Int) < (k : Int) := by omega
          have hyl : wo.heap.size < wr.heap.size := HYB.out.lt
          have y1 := HYB.out.cell 1 (v := .int .i64 y.fLevel) rfl
          have y2 := HYB.out.cell 2 (v := .string y.fLeast) rfl
          have y3 := HYB.out.cell 3 (v := .string y.fMost) rfl
          have HB1 := Lib.hid (HB.out.alloc HB.out.size (.cells #[.int .i64 z.fNumber, .int .i64 z.fLevel, .string z.fLeast, .string z.fMost] 52))
          have HX1 := Lib.hid (Box.alloc (o := .cells #[.int .i64 z.fNumber, .int .i64 z.fLevel, .string z.fLeast, .string z.fMost] 52) HX.out)
          have HY1 := Lib.hid (Box.alloc (o := .cells #[.int .i64 z.fNumber, .int .i64 z.fLevel, .string z.fLeast, .string z.fMost] 52) HYB.out)
          have hpath : (¬ 0 < y.fLevel) ∨ (0 < y.fLevel ∧ ¬ z.fLevel = y.fLevel) ∨ (0 < y.fLevel ∧ z.fLevel = y.fLevel ∧ leS z.fLeast y.fMost = false) ∨ (0 < y.fLevel ∧ z.fLevel = y.fLevel ∧ leS z.fLeast y.fMost = true ∧ leS y.fLeast z.fMost = false) ∨ (0 < y.fLevel ∧ z.fLevel = y.fLevel ∧ leS z.fLeast y.fMost = true ∧ leS y.fLeast z.fMost = true) := by
            by_cases p1 : 0 < y.fLevel <;> by_cases p2 : z.fLevel = y.fLevel <;> cases p3 : leS z.fLeast y.fMost <;> cases p4 : leS y.fLeast z.fMost <;> simp [p1, p2]
          rcases hpath with p1 | ⟨p1, p2⟩ | ⟨p1, p2, p3⟩ | ⟨p1, p2, p3, p4⟩ | ⟨p1, p2, p3, p4⟩
          · go_wp2
            exact ⟨⟨m + 1, by omega, by go_num, by rw [Hid, HA2.out]; simp [p1], HB1.out, HX1.out, HY1.out⟩, by simp [intOf]; omega⟩
          · go_wp2
            exact ⟨⟨m + 1, by omega, by go_num, by rw [Hid, HA2.out]; simp [meetB, p2], HB1.out, HX1.out, HY1.out⟩, by simp [intOf]; omega⟩
          · have p3' : (Op.bytesLess z.fLeast.toList y.fMost.toList || z.fLeast.toList == y.fMost.toList) = false := p3
            have t1 := HB1.out; have t2 := HX1.out; have t3 := HY1.out
            rw [p2] at t1 t2 t3
            clear HB1 HX1 HY1
            have HB1 := Lib.hid t1; have HX1 := Lib.hid t2; have HY1 := Lib.hid t3
            clear t1 t2 t3
            go_wp2
            exact ⟨⟨m + 1, by omega, by go_num, by rw [Hid, HA2.out]; simp [meetB, p3], HB1.out, HX1.out, HY1.out⟩, by simp [intOf]; omega⟩
          · have p3' : (Op.bytesLess z.fLeast.toList y.fMost.toList || z.fLeast.toList == y.fMost.toList) = true := p3
            have p4' : (Op.bytesLess y.fLeast.toList z.fMost.toList || y.fLeast.toList == z.fMost.toList) = false := p4
            have t1 := HB1.out; have t2 := HX1.out; have t3 := HY1.out
            rw [p2] at t1 t2 t3
            clear HB1 HX1 HY1
            have HB1 := Lib.hid t1; have HX1 := Lib.hid t2; have HY1 := Lib.hid t3
            clear t1 t2 t3
            go_wp2
            exact ⟨⟨m + 1, by omega, by go_num, by rw [Hid, HA2.out]; simp [meetB, p4], HB1.out, HX1.out, HY1.out⟩, by simp [intOf]; omega⟩
          · have p3' : (Op.bytesLess z.fLeast.toList y.fMost.toList || z.fLeast.toList == y.fMost.toList) = true := p3
            have p4' : (Op.bytesLess y.fLeast.toList z.fMost.toList || y.fLeast.toList == z.fMost.toList) = true := p4
            have hz := HM.out (fun n => decide (0 < y.fLevel) && meetB y n) (by simp [meetB, p1, p2, p3, p4])
            have HZ := Lib.hid hz; clear hz
            have t1 := HB1.out; have t2 := HX1.out; have t3 := HY1.out
            rw [p2] at t1 t2 t3
            clear HB1 HX1 HY1
            have HB1 := Lib.hid t1; have HX1 := Lib.hid t2; have HY1 := Lib.hid t3
            clear t1 t2 t3
            go_wp2
            go_ret
            exact ⟨by rw [HG.out, ← HD.out, HQ.out, HZ.out]; simp, HB1.out⟩
        · obtain rfl : m = k := by omega
          go_wp2
          exact ⟨⟨m + 1, by omega, by go_num, by rw [Hid, ← HD.out, HQ.out, HA.out, decide_eq_true hn]; simp, HB.out, HX.out⟩, by simp [intOf]; omega⟩
    · obtain rfl : k = x.fMetas.length := by omega
      have hE := HE.out
      rw [List.drop_length, verFrom] at hE
      have HE2 := Lib.hid hE; clear hE HE
      go_wp2
      go_ret
      exact ⟨by rw [HG.out, ← HE2.out]; rfl, HB.out⟩
theorem sGoodVersion_k {x : DVersion} {c0 : List Value} {w : World} (k0 : kVersion.K w x c0) (h0 : wfVersion x) (s0 : smVersion 1048576 x) : Calls Try.prog 17 #[.agg c0.toArray] w
    fun e w' => e = .returned (.bool (goodVer x)) ∧ Below w.heap.size w w' := by
  obtain ⟨v2, rfl, g2⟩ := kVersion_read k0
  exact sGoodVersion_calls x v2 w g2 (Nat.le_trans s0 (by decide))
theorem iGoodVersion_k {x : DVersion} {c0 : List Value} {w : World} (k0 : kVersion.K w x c0) (h0 : wfVersion x) (s0 : smVersion 1048576 x) : Calls Try.prog 21 #[.agg c0.toArray] w
    fun e w' => e = .returned (.bool (goodVer x)) ∧ Below w.heap.size w w' := by
  obtain ⟨v2, rfl, g2⟩ := kVersion_read k0
  exact iGoodVersion_calls x v2 w g2 (Nat.le_trans s0 (by decide))
end Go.Proofs.Ytiliaijgkedhnaa
