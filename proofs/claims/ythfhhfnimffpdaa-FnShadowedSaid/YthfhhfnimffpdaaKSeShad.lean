/- Contracts of the printed functions that the law FnShadowed calls. -/
import Derived.Test.YthfhhfnimffpdaaIShad
import Derived.Test.YthfhhfnimffpdaaPFnShadowedx9
import Derived.Test.YthfhhfnimffpdaaPFnShadowedx10
import Derived.Test.YthfhhfnimffpdaaPFnShadowedx6
import Derived.Test.YthfhhfnimffpdaaKit
import Derived.Test.YthfhhfnimffpdaaKitB
import Derived.Test.YthfhhfnimffpdaaCurK
namespace Go.Proofs.Ythfhhfnimffpdaa
open Go Go.RowKit Go.Sort Go.Proofs.YthfhhfnimffpdaaW.PrintWords Go.Proofs.YthfhhfnimffpdaaW.PrintLast Go.Proofs.YthfhhfnimffpdaaW.PrintMore Go.Proofs.Ythfhhfnimffpdaa.PFnShadowed
set_option linter.unusedVariables false
set_option linter.unusedSimpArgs false

/-- Items, read and one's own. -/
def kIt : Rp S50 where
  sz := 4
  K := fun _ x cs => cs = [.string x.f0, .int .i64 x.f1, .int .i64 x.f2, .string x.f3]
  M := fun _ F x cs => F = [] ∧ cs = [.string x.f0, .int .i64 x.f1, .int .i64 x.f2, .string x.f3]
  K_len := fun h => by rw [h]; rfl
  K_one := fun h u hu => by
    rw [h] at hu
    simp at hu
    rcases hu with rfl | rfl | rfl | rfl <;> rfl
  K_below := fun _ h => h
  M_K := fun h => h.2
  M_lt := fun h b hb => by rw [h.1] at hb; cases hb
  M_move := fun _ h => h
theorem kIt_flat : kIt.Flat := ⟨fun h => h.1, fun h => ⟨rfl, h⟩⟩
theorem infoIt : (Try.prog.info? 50).map (fun i => (i.zero, i.size, i.bytes)) = some (some (.agg #[.string ⟨#[]⟩, .int .i64 0, .int .i64 0, .string ⟨#[]⟩]), 4, 48) := by kernel_rfl
theorem addr_add (b o k : Nat) : (⟨b, o, none⟩ : Addr).add k = ⟨b, o + k, none⟩ := by
  unfold Addr.add
  by_cases hk : k = 0
  · subst hk; simp
  · rw [if_neg hk]
theorem kIt_C {w : World} {A : Option Addr} {l : List S50} {c : Nat} (h : kIt.S w l (.slice A l.length c)) (hl : l.length ≤ 1000000) : l.length ≤ c ∧ Kd.C k50 w A l.length l := by
  obtain ⟨A', c', e, hc, hC⟩ := h
  obtain ⟨rfl, _, rfl⟩ := Value.slice.inj e
  refine ⟨hc.1, rfl, by omega, fun h0 => ?_⟩
  rcases hC with hC | ⟨b, o, rfl, hC⟩
  · rw [hC] at h0; simp at h0
  · refine ⟨_, rfl, fun j p hp => ?_⟩
    obtain ⟨cs, hK, hcell⟩ := hC j p hp
    obtain rfl : cs = [.string p.f0, .int .i64 p.f1, .int .i64 p.f2, .string p.f3] := hK
    refine ⟨_, rfl, k50_mk w p, fun i u hu => ?_⟩
    have h1 := hcell i u hu
    rw [addr_add, ← Nat.add_assoc]
    exact h1
/-- An element's cells. -/
theorem it_at {w wr : World} {A : Option Addr} {xs : List S50} (h : kIt.C w A xs) (hB : Below w.heap.size w wr) (k : Nat) (hk : k < xs.length) : ∃ b o, A = some ⟨b, o, none⟩ ∧ wr.cell? ⟨b, o + k * 4, none⟩ = some (.string xs[k].f0) ∧ wr.cell? ⟨b, o + k * 4 + 1, none⟩ = some (.int .i64 xs[k].f1) ∧ wr.cell? ⟨b, o + k * 4 + 2, none⟩ = some (.int .i64 xs[k].f2) ∧ wr.cell? ⟨b, o + k * 4 + 3, none⟩ = some (.string xs[k].f3) := by
  obtain ⟨b, o, cs, rfl, k1, q1⟩ := Rp.C_get h k hk
  obtain rfl : cs = [.string xs[k].f0, .int .i64 xs[k].f1, .int .i64 xs[k].f2, .string xs[k].f3] := k1
  have mv : ∀ j u, [.string xs[k].f0, .int .i64 xs[k].f1, .int .i64 xs[k].f2, .string xs[k].f3][j]? = some u → wr.cell? ⟨b, o + k * 4 + j, none⟩ = some u := fun j u hu => by
    have h1 := q1 j u hu
    rw [World.cell?_of_block (hB.block b (World.block_lt_of_cell? w _ h1))]
    exact h1
  exact ⟨b, o, rfl, by simpa using mv 0 _ rfl, mv 1 _ rfl, mv 2 _ rfl, mv 3 _ rfl⟩
/-- A row that the print tells of, read. -/
theorem kIt_of_R {w : World} {base : Nat} {ok : Nat → Prop} {v : Value} {l : List S50} (h : Kd.R k50 50 w base ok v l) : kIt.S w l v := by
  obtain ⟨_, inner, ho, hr⟩ := h
  obtain ⟨A, c, rfl, hc, h0⟩ := Rp.own_form (w := w) (e := 50) (size := 4) (v := v) (n := l.length) (xs := inner) (by obtain ⟨h1, h2⟩ := ho; exact ⟨h1, h2.imp id (fun ⟨g, cap, cur, e1, _, e3⟩ => ⟨g, cap, cur, e1, Nat.zero_le _, e3⟩)⟩)
  refine ⟨A, c, rfl, hc, ?_⟩
  rcases h0 with h0 | ⟨g, rfl, h0⟩
  · exact .inl (List.length_eq_zero_iff.1 h0)
  · refine .inr ⟨g, 0, rfl, fun i x hx => ?_⟩
    have hm := k50_openM (hr.2 i x hx)
    refine ⟨[.string x.f0, .int .i64 x.f1, .int .i64 x.f2, .string x.f3], rfl, fun j u hu => ?_⟩
    have h1 : ((inner.drop (i * 4)).take 4)[j]? = some u := by
      show (List.take k50.sz (List.drop (i * k50.sz) inner))[j]? = some u
      rw [hm]
      exact hu
    have hj : j < 4 := by
      have := (List.getElem?_eq_some_iff.1 hu).1
      simpa using this
    rw [List.getElem?_take_of_lt hj, List.getElem?_drop] at h1
    have h2 := h0 _ _ h1
    rw [Nat.zero_add]
    exact h2
theorem sCmp_calls (x y : S50) (w : World) : Calls Try.prog 47 #[.agg #[.string x.f0, .int .i64 x.f1, .int .i64 x.f2, .string x.f3], .agg #[.string y.f0, .int .i64 y.f1, .int .i64 y.f2, .string y.f3]] w
    fun e w' => e = .returned (.int .i64 (cmpI x y)) ∧ Below w.heap.size w w' := by
  obtain ⟨K, hK⟩ := order_s x y
  exact spec_l4Compare.calls K _ _ _ _ _ _ _ _ _ w (hK K (Nat.le_refl _))
theorem sGood_calls (x : S50) (w : World) : Calls Try.prog 41 #[.agg #[.string x.f0, .int .i64 x.f1, .int .i64 x.f2, .string x.f3]] w
    fun e w' => e = .returned (.bool (goodI x)) ∧ Below w.heap.size w w' :=
  spec_GoodItem.calls _ _ _ _ _ w (good_s x)
theorem iDrop_calls {l : List S50} {A : Option Addr} {c : Nat} (a : Int) (b : Bool) {w : World} (h : kIt.S w l (.slice A l.length c)) (hl : l.length ≤ 1000000) : Calls Try.prog 5 #[.agg #[.slice A l.length c], .int .i64 a, .bool b] w
    fun e w' => (∃ A2 c2, e = .returned (.tuple #[.agg #[.slice A2 (ansD l a b).1.length c2], .bool (ansD l a b).2]) ∧ kIt.S w' (ansD l a b).1 (.slice A2 (ansD l a b).1.length c2)) ∧ Below w.heap.size w w' := by
  obtain ⟨K, hK⟩ := ans_i l a b (by omega)
  obtain ⟨h1, h2⟩ := kIt_C h hl
  refine (impl_DropShadowed.calls K A c l a b _ _ w h2 h1 (hK K (Nat.le_refl _))).mono ?_
  rintro e w' ⟨v, rfl, hr, hb⟩
  have hs := kIt_of_R hr
  obtain ⟨A2, c2, rfl, _, _⟩ := id hs
  exact ⟨⟨A2, c2, rfl, hs⟩, hb⟩
theorem sDrop_calls {l : List S50} {A : Option Addr} {c : Nat} (a : Int) (b : Bool) {w : World} (h : kIt.S w l (.slice A l.length c)) (hl : l.length ≤ 1000000) : Calls Try.prog 6 #[.agg #[.slice A l.length c], .int .i64 a, .bool b] w
    fun e w' => (∃ A2 c2, e = .returned (.tuple #[.agg #[.slice A2 (ansD l a b).1.length c2], .bool (ansD l a b).2]) ∧ kIt.S w' (ansD l a b).1 (.slice A2 (ansD l a b).1.length c2)) ∧ Below w.heap.size w w' := by
  obtain ⟨K, hK⟩ := ans_s l a b (by omega)
  obtain ⟨h1, h2⟩ := kIt_C h hl
  refine (spec_DropShadowed.calls K A c l a b _ _ w h2 h1 (hK K (Nat.le_refl _))).mono ?_
  rintro e w' ⟨v, rfl, hr, hb⟩
  have hs := kIt_of_R hr
  obtain ⟨A2, c2, rfl, _, _⟩ := id hs
  exact ⟨⟨A2, c2, rfl, hs⟩, hb⟩
theorem iOk_calls {l : List S50} {A : Option Addr} {c : Nat} {w : World} (h : kIt.S w l (.slice A l.length c)) (hl : l.length ≤ 1000000) : Calls Try.prog 15 #[.agg #[.slice A l.length c]] w
    fun e w' => e = .returned (.bool (okR l)) ∧ Below w.heap.size w w' := by
  obtain ⟨K, hK⟩ := okR_i l (by omega)
  obtain ⟨h1, h2⟩ := kIt_C h hl
  exact impl_runOk.calls K A c l _ w h2 h1 (hK K (Nat.le_refl _))
theorem sameI_calls {l : List S50} {A A2 : Option Addr} {c c2 : Nat} {w : World} (h : kIt.S w l (.slice A l.length c)) (h2 : kIt.S w l (.slice A2 l.length c2)) (hl : l.length ≤ 1000000) : Calls Try.prog 7 #[.slice A l.length c, .slice A2 l.length c2] w
    fun e w' => e = .returned (.bool true) ∧ Below w.heap.size w w' := by
  obtain ⟨K, hK⟩ := sameI_alw l (by omega)
  obtain ⟨h1, h3⟩ := kIt_C h hl
  obtain ⟨h4, h5⟩ := kIt_C h2 hl
  refine (laws_sameItems.calls K A c l A2 c2 l true w h3 h1 h5 h4 (hK K (Nat.le_refl _))).mono ?_
  rintro e w' ⟨rfl, hd⟩
  exact ⟨rfl, hd.below⟩
theorem kByte_C {w : World} {A : Option Addr} {l : List Int} {c : Nat} (h : kByte.S w l (.slice A l.length c)) (hl : l.length ≤ 1048576) : l.length ≤ c ∧ Kd.C (Kd.int .u8) w A l.length l := by
  obtain ⟨A', c', e, hc, hC⟩ := h
  obtain ⟨rfl, _, rfl⟩ := Value.slice.inj e
  refine ⟨hc.1, rfl, by omega, fun h0 => ?_⟩
  rcases hC with hC | ⟨b, o, rfl, hC⟩
  · rw [hC] at h0; simp at h0
  · refine ⟨_, rfl, fun j p hp => ?_⟩
    obtain ⟨cs, hK, hcell⟩ := hC j p hp
    obtain rfl : cs = [.int .u8 p] := hK
    refine ⟨[.int .u8 p], rfl, rfl, fun i u hu => ?_⟩
    have h1 := hcell i u hu
    rw [addr_add, ← Nat.add_assoc]
    exact h1
theorem num_calls {l : List Int} {A : Option Addr} {c : Nat} {w : World} (h : kByte.S w l (.slice A l.length c)) (hb : ∀ x ∈ l, 0 ≤ x ∧ x ≤ 255) (hl : l.length ≤ 1048576) : Calls Try.prog 8 #[.slice A l.length c] w
    fun e w' => ∃ r : Int, e = .returned (.int .i64 r) ∧ 0 ≤ r ∧ r < 1000003 ∧ Below w.heap.size w w' := by
  obtain ⟨r, r0, r1, K, hK⟩ := number_alw l hb (by omega)
  obtain ⟨h1, h2⟩ := kByte_C h hl
  refine (laws_numberOf.calls K A c l r w h2 h1 (hK K (Nat.le_refl _))).mono ?_
  rintro e w' ⟨rfl, hd⟩
  exact ⟨r, rfl, r0, r1, hd.below⟩
theorem iVis_calls {l : List S50} {A : Option Addr} {c : Nat} (a : Int) {w : World} (h : kIt.S w l (.slice A l.length c)) (hl : l.length ≤ 1000000) : Calls Try.prog 9 #[.agg #[.slice A l.length c], .int .i64 a] w
    fun e w' => (∃ A2 c2, e = .returned (.tuple #[.slice A2 (visA l a).1.length c2, .bool (visA l a).2]) ∧ (visA l a).1.length ≤ c2 ∧ Kd.C k53 w' A2 (visA l a).1.length (visA l a).1) ∧ Below w.heap.size w w' := by
  obtain ⟨K, hK⟩ := visA_i l a (by omega)
  obtain ⟨h1, h2⟩ := kIt_C h hl
  refine (impl_VisibleAt.calls K A c l a _ _ w h2 h1 (hK K (Nat.le_refl _))).mono ?_
  rintro e w' ⟨v, rfl, hr, hb⟩
  obtain ⟨A2, c2, rfl, h3, h4⟩ := Kd.R_reads hr
  exact ⟨⟨A2, c2, rfl, h3, h4⟩, hb⟩
theorem same_calls {l : List S53} {A A2 : Option Addr} {c c2 : Nat} {w : World} (h : Kd.C k53 w A l.length l) (hc : l.length ≤ c) (h2 : Kd.C k53 w A2 l.length l) (hc2 : l.length ≤ c2) (hl : l.length ≤ 1000000) : Calls Try.prog 10 #[.slice A l.length c, .slice A2 l.length c2] w
    fun e w' => e = .returned (.bool true) ∧ Below w.heap.size w w' := by
  obtain ⟨K, hK⟩ := same_alw l (by omega)
  refine (laws_samePairs.calls K A c l A2 c2 l true w h hc h2 hc2 (hK K (Nat.le_refl _))).mono ?_
  rintro e w' ⟨rfl, hd⟩
  exact ⟨rfl, hd.below⟩
end Go.Proofs.Ythfhhfnimffpdaa
