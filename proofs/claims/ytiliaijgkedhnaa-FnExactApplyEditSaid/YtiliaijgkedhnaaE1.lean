/- The laws' own functions of some types, one by one. -/
import Derived.Test.YtiliaijgkedhnaaV2
namespace Go.Proofs.Ytiliaijgkedhnaa
open Go Go.RowKit Go.Sort
set_option linter.unusedVariables false
set_option linter.unusedSimpArgs false

structure DEdit where
  fNext : Int
  fSeq : Int
  fDrop : List (Int)
  fAdd : List (DMeta)
def kEdit : Rp DEdit := Rp.iso (Rp.pair (Rp.int .i64) (Rp.pair (Rp.int .i64) (Rp.pair (Rp.slice 3 (Rp.int .i64)) (Rp.slice 52 kMeta)))) (fun x => (x.fNext, x.fSeq, x.fDrop, x.fAdd))
def szNEdit (x : DEdit) : Nat := szL (fun _ => 0) x.fDrop + szL szNMeta x.fAdd
def wfEdit (x : DEdit) : Prop := ((∀ y ∈ x.fDrop, (fun _ => True) y) ∧ x.fDrop.length ≤ 140737488355328) ∧ ((∀ y ∈ x.fAdd, wfMeta y) ∧ x.fAdd.length ≤ 140737488355328)

set_option maxHeartbeats 1000000 in
set_option maxRecDepth 100000 in
theorem szEdit_calls (x : DEdit) (v2 v3 : Value) (left : Int) (w : World) (g2 : (Rp.int .i64).S w x.fDrop v2) (g3 : kMeta.S w x.fAdd v3) (h0 : 0 ≤ left) (h1 : left ≤ 140737488355328) (hw : wfEdit x) : Calls Try.prog 5 #[.agg #[.int .i64 x.fNext, .int .i64 x.fSeq, v2, v3], .int .i64 left] w
    fun e w' => e = .returned (.int .i64 (szR (szNEdit x) left)) ∧ Below w.heap.size w w' := by
  have HF := Lib.hid (show (szNEdit x : Int) = (szL (fun _ => 0) x.fDrop : Int) + (szL szNMeta x.fAdd : Int) by unfold szNEdit; omega)
  obtain ⟨⟨u2, l2⟩, ⟨u3, l3⟩⟩ := hw
  have G2 := Lib.hid g2; clear g2
  have U2 := Lib.hid u2; clear u2
  have G3 := Lib.hid g3; clear g3
  have U3 := Lib.hid u3; clear u3
  go_enter Try.func5, Try.ntmps5
  go_wp2_with fail
  (with_reducible refine (szIntS_calls x.fDrop _ v2 _ (by first | exact Rp.S_below G2.out (Below.alloc (Below.refl _ _) (Nat.le_refl _) _) | exact Rp.S_below G2.out HB.out) (by omega) (by omega) U2.out l2).mono ?_)
  rintro e w2 ⟨rfl, hb⟩
  have B0 : Box _ w.heap.size #[.int .i64 x.fNext, .int .i64 x.fSeq, v2, v3] 27 := Box.below (Box.new rfl) hb
  have HB2 := Lib.hid (Below.trans (Below.alloc (Below.refl w.heap.size w) (Nat.le_refl _) _) (hb.mono (by simp)))
  clear hb
  have e2 := Int.natCast_nonneg (szL (fun _ => 0) x.fDrop)
  by_cases q2 : (szL (fun _ => 0) x.fDrop : Int) ≤ left
  · rw [szR_yes q2]
    have c2_3 := B0.cell 3 (v := v3) rfl
    go_wp2_with fail
    (with_reducible refine (szMetaS_calls x.fAdd _ v3 _ (by first | exact Rp.S_below G3.out (Below.alloc (Below.refl _ _) (Nat.le_refl _) _) | exact Rp.S_below G3.out HB2.out) (by omega) (by omega) U3.out l3).mono ?_)
    rintro e w3 ⟨rfl, hb⟩
    have B0 := Box.below B0 hb
    have HB3 := Lib.hid (HB2.out.trans (hb.mono HB2.out.size))
    clear hb
    have e3 := Int.natCast_nonneg (szL szNMeta x.fAdd)
    by_cases q3 : (szL szNMeta x.fAdd : Int) ≤ left - szL (fun _ => 0) x.fDrop
    · rw [szR_yes q3]
      clear B0
      go_wp2
      all_goals (go_ret; exact ⟨ret_int (by rw [szR_of HF.out]; first | (rw [if_pos (by omega)]; try omega) | (rw [if_neg (by omega)])), HB3.out⟩)
    · rw [szR_no q3]
      go_wp2
      all_goals (go_ret; exact ⟨ret_int (by rw [szR_of HF.out]; first | (rw [if_pos (by omega)]; try omega) | (rw [if_neg (by omega)])), HB3.out⟩)
  · rw [szR_no q2]
    go_wp2
    all_goals (go_ret; exact ⟨ret_int (by rw [szR_of HF.out]; first | (rw [if_pos (by omega)]; try omega) | (rw [if_neg (by omega)])), HB2.out⟩)

set_option maxHeartbeats 1000000 in
set_option maxRecDepth 100000 in
theorem eqEdit_calls (x : DEdit) (v2 v3 u2 u3 : Value) (w : World) (g2 : (Rp.int .i64).S w x.fDrop v2) (g3 : kMeta.S w x.fAdd v3) (d2 : (Rp.int .i64).S w x.fDrop u2) (d3 : kMeta.S w x.fAdd u3) (hl : x.fDrop.length ≤ 140737488355328 ∧ x.fAdd.length ≤ 140737488355328) : Calls Try.prog 11 #[.agg #[.int .i64 x.fNext, .int .i64 x.fSeq, v2, v3], .agg #[.int .i64 x.fNext, .int .i64 x.fSeq, u2, u3]] w
    fun e w' => e = .returned (.bool true) ∧ Below w.heap.size w w' := by
  obtain ⟨l2, l3⟩ := hl
  have G2 := Lib.hid g2; clear g2
  have D2 := Lib.hid d2; clear d2
  have G3 := Lib.hid g3; clear g3
  have D3 := Lib.hid d3; clear d3
  go_enter Try.func11, Try.ntmps11
  go_wp2_with fail
  (with_reducible refine (eqIntS_calls x.fDrop v2 u2 _ (by first | exact Rp.S_below G2.out (((Below.refl _ _).alloc (Nat.le_refl _) _).alloc (by simp) _) | exact Rp.S_below G2.out HB.out) (by first | exact Rp.S_below D2.out (((Below.refl _ _).alloc (Nat.le_refl _) _).alloc (by simp) _) | exact Rp.S_below D2.out HB.out) l2).mono ?_)
  rintro e w2 ⟨rfl, hb⟩
  have B0 : Box _ w.heap.size #[.int .i64 x.fNext, .int .i64 x.fSeq, v2, v3] 37 := Box.below (Box.alloc (Box.new rfl)) hb
  have B1 : Box _ (w.heap.size + 1) #[.int .i64 x.fNext, .int .i64 x.fSeq, u2, u3] 37 := Box.below (Box.new (by simp)) hb
  have HB2 := Lib.hid (Below.trans (((Below.refl w.heap.size w).alloc (Nat.le_refl _) _).alloc (by simp) _) (hb.mono (by simp; omega)))
  clear hb
  have c2_0_3 := B0.cell 3 (v := v3) rfl
  have c2_1_3 := B1.cell 3 (v := u3) rfl
  go_wp2_with fail
  (with_reducible refine (eqMetaS_calls x.fAdd v3 u3 _ (by first | exact Rp.S_below G3.out (((Below.refl _ _).alloc (Nat.le_refl _) _).alloc (by simp) _) | exact Rp.S_below G3.out HB2.out) (by first | exact Rp.S_below D3.out (((Below.refl _ _).alloc (Nat.le_refl _) _).alloc (by simp) _) | exact Rp.S_below D3.out HB2.out) l3).mono ?_)
  rintro e w3 ⟨rfl, hb⟩
  have B0 := Box.below B0 hb
  have B1 := Box.below B1 hb
  have HB3 := Lib.hid (HB2.out.trans (hb.mono HB2.out.size))
  clear hb
  clear B0 B1
  go_wp2
  go_ret
  exact ⟨rfl, HB3.out⟩

theorem kEdit_open {w : World} {F : List Nat} {x : DEdit} {cs : List Value} (h : kEdit.M w F x cs) : ∃ v2 v3 F2 F3, cs = [.int .i64 x.fNext, .int .i64 x.fSeq, v2, v3] ∧ F = F2 ++ (F3) ∧ (Rp.int .i64).Row 3 w F2 x.fDrop v2 ∧ kMeta.Row 52 w F3 x.fAdd v3 := by
  obtain ⟨_, _, _, _, rfl, rfl, ⟨rfl, rfl⟩, ⟨_, _, _, _, rfl, rfl, ⟨rfl, rfl⟩, ⟨_, _, _, _, rfl, rfl, ⟨v2, rfl, r2⟩, ⟨v3, rfl, r3⟩⟩⟩⟩ := h
  exact ⟨v2, v3, _, _, rfl, by simp, r2, r3⟩
theorem kEdit_read {w : World} {x : DEdit} {cs : List Value} (h : kEdit.K w x cs) : ∃ v2 v3, cs = [.int .i64 x.fNext, .int .i64 x.fSeq, v2, v3] ∧ (Rp.int .i64).S w x.fDrop v2 ∧ kMeta.S w x.fAdd v3 := by
  obtain ⟨_, _, rfl, rfl, ⟨_, _, rfl, rfl, ⟨_, _, rfl, ⟨A2, c2, rfl, e2, r2⟩, ⟨A3, c3, rfl, e3, r3⟩⟩⟩⟩ := h
  exact ⟨_, _, rfl, ⟨A2, c2, rfl, e2, r2⟩, ⟨A3, c3, rfl, e3, r3⟩⟩
theorem kEdit_make {w : World} {x : DEdit} {v2 v3 : Value} {F2 F3 : List Nat} (r2 : (Rp.int .i64).Row 3 w F2 x.fDrop v2) (r3 : kMeta.Row 52 w F3 x.fAdd v3) : kEdit.M w (F2 ++ (F3)) x [.int .i64 x.fNext, .int .i64 x.fSeq, v2, v3] :=
  ⟨[.int .i64 x.fNext], [.int .i64 x.fSeq, v2, v3], [], F2 ++ F3, rfl, by simp, ⟨rfl, rfl⟩, ⟨[.int .i64 x.fSeq], [v2, v3], [], F2 ++ F3, rfl, by simp, ⟨rfl, rfl⟩, ⟨[v2], [v3], F2, F3, rfl, by simp, ⟨v2, rfl, r2⟩, ⟨v3, rfl, r3⟩⟩⟩⟩

set_option maxHeartbeats 1000000 in
set_option maxRecDepth 100000 in
theorem toEdit_calls (x : DEdit) (v2 v3 : Value) (w : World) (g2 : (Rp.int .i64).S w x.fDrop v2) (g3 : kMeta.S w x.fAdd v3) (hl : x.fDrop.length ≤ 1048576 ∧ x.fAdd.length ≤ 1048576) : Calls Try.prog 8 #[.agg #[.int .i64 x.fNext, .int .i64 x.fSeq, v2, v3]] w
    fun e w' => ∃ cs F, e = .returned (.agg cs.toArray) ∧ kEdit.M w' F x cs ∧ (∀ b ∈ F, w.heap.size ≤ b) ∧ F.Nodup ∧ Below w.heap.size w w' := by
  obtain ⟨l2, l3⟩ := hl
  have G2 := Lib.hid g2; clear g2
  have G3 := Lib.hid g3; clear g3
  go_enter Try.func8, Try.ntmps8
  go_wp2_with fail
  (with_reducible refine (toIntS_calls x.fDrop v2 _ (Rp.S_below G2.out ((((Below.refl _ _).alloc (Nat.le_refl _) _).alloc (by simp) _).alloc (by simp; omega) _)) l2).mono ?_)
  rintro e w2 ⟨p2, F2, rfl, hr, hfr, hnd, hb⟩
  have B0 : Box _ w.heap.size #[.int .i64 x.fNext, .int .i64 x.fSeq, v2, v3] 27 := Box.below (Box.alloc (Box.alloc (Box.new rfl))) hb
  have B1 : Box _ (w.heap.size + 1) #[.int .i64 0, .int .i64 0, .slice none 0 0, .slice none 0 0] 37 := Box.below (Box.alloc (Box.new (by simp))) hb
  have B2 : Box _ (w.heap.size + 1 + 1) #[.int .i64 x.fNext, .int .i64 x.fSeq, .slice none 0 0, .slice none 0 0] 37 := Box.below (Box.new (by simp)) hb
  have SZB := Lib.hid (show w.heap.size + 1 + 1 + 1 ≤ w2.heap.size by simpa using hb.size)
  have hB2 := Below.trans ((((Below.refl w.heap.size w).alloc (Nat.le_refl _) _).alloc (by simp) _).alloc (by simp; omega) _) (hb.mono (by simp; omega))
  have hf2 : ∀ b ∈ F2, w.heap.size + 1 + 1 + 1 ≤ b := by simpa using hfr
  have HB2 := Lib.hid hB2; clear hB2
  have Lt2 : ∀ b ∈ F2, b < w2.heap.size := Rp.Row_lt hr
  have LT2 := Lib.hid Lt2; clear Lt2
  obtain ⟨pa2, pc2, rfl, _, _⟩ := Rp.Row_K hr
  have hr2 := hr; clear hr
  have hn2 := Lib.hid hnd; clear hnd hfr hb
  have HF2 := Lib.hid hf2
  have c2_1_0 := B1.cell 0 (v := .int .i64 0) rfl
  have c2_2_0 := B2.cell 0 (v := .int .i64 x.fNext) rfl
  have c2_1_1 := B1.cell 1 (v := .int .i64 0) rfl
  have c2_2_1 := B2.cell 1 (v := .int .i64 x.fSeq) rfl
  have c2_1_2 := B1.cell 2 (v := .slice none 0 0) rfl
  have c2_2_2 := B2.cell 2 (v := .slice none 0 0) rfl
  have c2_0_3 := B0.cell 3 (v := v3) rfl
  have c2_1_3 := B1.cell 3 (v := .slice none 0 0) rfl
  have c2_2_3 := B2.cell 3 (v := .slice none 0 0) rfl
  have f2_1 := B1.fro
  have f2_2 := B2.fro
  have HX0 := Lib.hid B0; have HX1 := Lib.hid B1; have HX2 := Lib.hid B2; clear B0 B1 B2
  have HR2 := Lib.hid hr2; clear hr2 hf2
  go_wp2_with fail
  have B0 := HX0.out; have B1 := HX1.out; have B2 := HX2.out; clear HX0 HX1 HX2
  have hr2 := HR2.out; clear HR2; have hf2 := HF2.out
  clear c2_0_3 c2_1_0 c2_1_1 c2_1_2 c2_1_3 c2_2_0 c2_2_1 c2_2_2 c2_2_3 f2_1 f2_2
  go_wp2_with fail
  (with_reducible refine (toMetaS_calls x.fAdd v3 _ (by refine Rp.S_below G3.out ?_; exact (by repeat (first | exact HB2.out | (refine Below.setCell ?_ (by simp; omega) _)))) l3).mono ?_)
  rintro e w3 ⟨p3, F3, rfl, hr, hfr, hnd, hb⟩
  have hk : KeptF [w.heap.size + 1 + 1] w2 w3 := KeptF.below (by repeat (first | exact KeptF.refl _ _ | (refine KeptF.set ?_ (by simp) _))) hb
  have B2 : Box w3 (w.heap.size + 1 + 1) #[.int .i64 x.fNext, .int .i64 x.fSeq, .slice pa2 x.fDrop.length pc2, .slice none 0 0] 37 := Box.below (B2.set 2 (.slice pa2 x.fDrop.length pc2)) hb
  have B0 := B0.kept hk (by simp; omega)
  have B1 := B1.kept hk (by simp)
  have hr2 := Rp.Row_kept hr2 hk (fun b hb => by have := hf2 b hb; simp; omega)
  have hf3 : ∀ b ∈ F3, w2.heap.size ≤ b := by simpa [World.setCell] using hfr
  have hB3 : Below w.heap.size w w3 := HB2.out.trans (hk.toBelow HB2.out.size (by simp; omega))
  have HB3 := Lib.hid hB3; clear hB3
  have SZ3 := Lib.hid hk.size
  have Lt3 : ∀ b ∈ F3, b < w3.heap.size := Rp.Row_lt hr
  have LT3 := Lib.hid Lt3; clear Lt3
  obtain ⟨pa3, pc3, rfl, _, _⟩ := Rp.Row_K hr
  have hr3 := hr; clear hr
  have hn3 := Lib.hid hnd; clear hnd hfr hb hk
  have HF3 := Lib.hid hf3
  have c3_1_0 := B1.cell 0 (v := .int .i64 0) rfl
  have c3_2_0 := B2.cell 0 (v := .int .i64 x.fNext) rfl
  have c3_1_1 := B1.cell 1 (v := .int .i64 0) rfl
  have c3_2_1 := B2.cell 1 (v := .int .i64 x.fSeq) rfl
  have c3_1_2 := B1.cell 2 (v := .slice none 0 0) rfl
  have c3_2_2 := B2.cell 2 (v := .slice pa2 x.fDrop.length pc2) rfl
  have c3_1_3 := B1.cell 3 (v := .slice none 0 0) rfl
  have c3_2_3 := B2.cell 3 (v := .slice none 0 0) rfl
  have f3_1 := B1.fro
  have f3_2 := B2.fro
  have HX0 := Lib.hid B0; have HX1 := Lib.hid B1; have HX2 := Lib.hid B2; clear B0 B1 B2
  have HR2 := Lib.hid hr2; clear hr2 hf2
  have HR3 := Lib.hid hr3; clear hr3 hf3
  go_wp2
  have hk : KeptF [w.heap.size + 1, w.heap.size + 1 + 1] w3 (Rp.setN (Rp.setN w3 (w.heap.size + 1 + 1) 3 [.slice pa3 x.fAdd.length pc3]) (w.heap.size + 1) 0 [.int .i64 x.fNext, .int .i64 x.fSeq, .slice pa2 x.fDrop.length pc2, .slice pa3 x.fAdd.length pc3]) := Rp.setN_kept (by simp) _ _ _ (Rp.setN_kept (by simp) _ _ _ (KeptF.refl _ _))
  have q2 := Rp.Row_kept HR2.out hk (fun b hb => by have := HF2.out b hb; have := HB2.out.size; have := SZB.out; simp; omega)
  have q3 := Rp.Row_kept HR3.out hk (fun b hb => by have := HF3.out b hb; have := HB2.out.size; have := SZB.out; simp; omega)
  have bf : Box (Rp.setN (Rp.setN w3 (w.heap.size + 1 + 1) 3 [.slice pa3 x.fAdd.length pc3]) (w.heap.size + 1) 0 [.int .i64 x.fNext, .int .i64 x.fSeq, .slice pa2 x.fDrop.length pc2, .slice pa3 x.fAdd.length pc3]) (w.heap.size + 1) #[.int .i64 x.fNext, .int .i64 x.fSeq, .slice pa2 x.fDrop.length pc2, .slice pa3 x.fAdd.length pc3] 37 := Box.setN _ (Box.setN_other HX1.out _ _ _ (by omega)) 0
  change bodyPost _ _ _ _ _ (Rp.setN (Rp.setN w3 (w.heap.size + 1 + 1) 3 [.slice pa3 x.fAdd.length pc3]) (w.heap.size + 1) 0 [.int .i64 x.fNext, .int .i64 x.fSeq, .slice pa2 x.fDrop.length pc2, .slice pa3 x.fAdd.length pc3])
  generalize Rp.setN (Rp.setN w3 (w.heap.size + 1 + 1) 3 [.slice pa3 x.fAdd.length pc3]) (w.heap.size + 1) 0 [.int .i64 x.fNext, .int .i64 x.fSeq, .slice pa2 x.fDrop.length pc2, .slice pa3 x.fAdd.length pc3] = wf at *
  have d0 := bf.cell 0 (v := .int .i64 x.fNext) rfl
  have d1 := bf.cell 1 (v := .int .i64 x.fSeq) rfl
  have d2 := bf.cell 2 (v := .slice pa2 x.fDrop.length pc2) rfl
  have d3 := bf.cell 3 (v := .slice pa3 x.fAdd.length pc3) rfl
  exact bodyPost_ret (v := .agg #[.int .i64 x.fNext, .int .i64 x.fSeq, .slice pa2 x.fDrop.length pc2, .slice pa3 x.fAdd.length pc3]) (by simp [results, Try.results8, go_sem, d0, d1, d2, d3]) rfl ⟨_, _, rfl, kEdit_make q2 q3, (fun b hb => by simp only [List.mem_append] at hb; rcases hb with hb | hb <;> (first | (have := HF2.out b hb; have := HB2.out.size; have := HB3.out.size; omega) | (have := HF3.out b hb; have := HB2.out.size; have := HB3.out.size; omega))), (List.nodup_append.2 ⟨hn2.out, hn3.out, fun a ha b hb hab => by have h1 := LT2.out a ha; have := SZ3.out; (try simp only [List.mem_append] at hb); (first | (have h2 := HF3.out b hb; omega))⟩), HB3.out.trans (hk.toBelow HB3.out.size (by simp; omega))⟩

def mkEdit (x : DEdit) (k : Int) : DEdit × Int :=
  let a2 := mkL mkInt x.fDrop k
  let a3 := mkL mkMeta x.fAdd a2.2
  (⟨x.fNext, x.fSeq, a2.1, a3.1⟩, a3.2)
theorem mkEdit_le (x : DEdit) (k : Int) : k ≤ (mkEdit x k).2 := by
  have h2 := mkL_le mkInt_le x.fDrop (k)
  have h3 := mkL_le mkMeta_le x.fAdd ((mkL mkInt x.fDrop (k)).2)
  simp only [mkEdit]
  omega

set_option maxHeartbeats 1000000 in
set_option maxRecDepth 100000 in
theorem markEdit_calls (x : DEdit) (v2 v3 : Value) (F2 F3 : List Nat) (k : Int) (w : World) (r2 : (Rp.int .i64).Row 3 w F2 x.fDrop v2) (r3 : kMeta.Row 52 w F3 x.fAdd v3) (hn : (F2 ++ (F3)).Nodup) (h0 : 0 ≤ k) (h1 : (mkEdit x k).2 ≤ 4611686018427387904) (hl : x.fDrop.length ≤ 140737488355328 ∧ x.fAdd.length ≤ 140737488355328) :
    Calls Try.prog 13 #[.agg #[.int .i64 x.fNext, .int .i64 x.fSeq, v2, v3], .int .i64 k] w fun e w' => e = .returned (.int .i64 (mkEdit x k).2) ∧ (Rp.int .i64).Row 3 w' F2 (mkEdit x k).1.fDrop v2 ∧ kMeta.Row 52 w' F3 (mkEdit x k).1.fAdd v3 ∧ KeptF (F2 ++ (F3)) w w' := by
  obtain ⟨l2, l3⟩ := hl
  have m2 := mkL_le mkInt_le x.fDrop k
  have m3 := mkL_le mkMeta_le x.fAdd ((mkL mkInt x.fDrop k).2)
  have h2 : (mkL mkMeta x.fAdd (mkL mkInt x.fDrop k).2).2 ≤ 4611686018427387904 := h1
  have M2 := Lib.hid m2
  have z2 : (mkL mkInt x.fDrop k).2 ≤ 4611686018427387904 := by omega
  have Z2 := Lib.hid z2
  have n2 : 0 ≤ k := by omega
  have N2 := Lib.hid n2
  have M3 := Lib.hid m3
  have z3 : (mkL mkMeta x.fAdd (mkL mkInt x.fDrop k).2).2 ≤ 4611686018427387904 := by omega
  have Z3 := Lib.hid z3
  have n3 : 0 ≤ (mkL mkInt x.fDrop k).2 := by omega
  have N3 := Lib.hid n3
  clear h1 h2 m2 z2 n2 m3 z3 n3
  have R2 := Lib.hid r2
  have L2 := Lib.hid (fun b hb => Nat.ne_of_lt (Rp.Row_lt r2 b hb) : ∀ b ∈ F2, b ≠ w.heap.size)
  clear r2
  have R3 := Lib.hid r3
  have L3 := Lib.hid (fun b hb => Nat.ne_of_lt (Rp.Row_lt r3 b hb) : ∀ b ∈ F3, b ≠ w.heap.size)
  clear r3
  have HN := Lib.hid hn
  clear hn
  go_enter Try.func13, Try.ntmps13
  go_wp2_with fail
  (with_reducible refine (markIntS_calls x.fDrop _ F2 v2 _ (Rp.Row_below R2.out ((Below.refl _ _).alloc (Nat.le_refl _) _)) (List.nodup_append.1 HN.out).1 N2.out Z2.out l2).mono ?_)
  rintro e w2 ⟨rfl, hr, hk⟩
  have B0 : Box _ w.heap.size #[.int .i64 x.fNext, .int .i64 x.fSeq, v2, v3] 37 := Box.kept (Box.new rfl) hk (fun hm => L2.out _ hm rfl)
  have hK : KeptF (F2 ++ (F3)) w w2 := ((KeptF.refl _ _).alloc _).trans (hk.mono (by intro b hb; simp [hb]))
  have S3 := Lib.hid (Rp.Row_kept (Rp.Row_below R3.out ((Below.refl _ _).alloc (Nat.le_refl _) _)) hk (fun b hb hc => (List.nodup_append.1 HN.out).2.2 b (by simp [hc]) b (by simp [hb]) rfl))
  have R3 := S3; clear S3
  have Q2 := Lib.hid hr
  have HK2 := Lib.hid hK
  clear hr hk hK
  have c2_3 := B0.cell 3 (v := v3) rfl
  have BX := Lib.hid B0; clear B0
  go_wp2_with fail
  (with_reducible refine (markMetaS_calls x.fAdd _ F3 v3 _ R3.out (List.nodup_append.1 HN.out).2.1 N3.out Z3.out l3).mono ?_)
  rintro e w3 ⟨rfl, hr, hk⟩
  have B0 := BX.out.kept hk (fun hm => L3.out _ hm rfl)
  clear BX
  have hK : KeptF (F2 ++ (F3)) w w3 := HK2.out.trans (hk.mono (by intro b hb; simp [hb]))
  have T2 := Lib.hid (Rp.Row_kept Q2.out hk (fun b hb hc => (List.nodup_append.1 HN.out).2.2 b (by simp [hb]) b (by simp [hc]) rfl))
  have Q2 := T2; clear T2
  have Q3 := Lib.hid hr
  have HK3 := Lib.hid hK
  clear hr hk hK
  have BX := Lib.hid B0; clear B0
  clear c2_3
  go_wp2
  go_ret
  exact ⟨rfl, Q2.out, Q3.out, HK3.out⟩

end Go.Proofs.Ytiliaijgkedhnaa
