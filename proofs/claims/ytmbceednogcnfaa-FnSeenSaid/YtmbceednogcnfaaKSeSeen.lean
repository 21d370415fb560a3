/- Contracts of the printed functions that the law FnSeen calls. -/
import Derived.Test.YtmbceednogcnfaaISeen
import Derived.Test.YtmbceednogcnfaaPFnSeenx9
import Derived.Test.YtmbceednogcnfaaKit
import Derived.Test.YtmbceednogcnfaaKitB
import Derived.Test.YtmbceednogcnfaaCurK
namespace Go.Proofs.Ytmbceednogcnfaa
open Go Go.RowKit Go.Sort Go.Proofs.YtmbceednogcnfaaW.PrintWords Go.Proofs.YtmbceednogcnfaaW.PrintLast Go.Proofs.YtmbceednogcnfaaW.PrintMore Go.Proofs.Ytmbceednogcnfaa.PFnSeen
set_option linter.unusedVariables false
set_option linter.unusedSimpArgs false

/-- Items, read and one's own. -/
def kIt : Rp S52 where
  sz := 4
  K := fun _ x cs => cs = [.string x.f0, .int .i64 x.f1, .int .i64 x.f2, .string x.f3]
  M := fun _ F x cs => F = [] ∧ cs = [.string x.f0, .int .i64 x.f1, .int .i64 x.f2, .string x.f3]
  K_len := fun h => by rw [h]; rfl
  K_one := fun h u hu => by
    rw [h] at hu
    simp at hu
    rcases hu with rfl | rfl | rfl | rfl <;> rfl
  K_below := fun _ h => h
  M_K := fun h => h.2
  M_lt := fun h b hb => by rw [h.1] at hb; cases hb
  M_move := fun _ h => h
theorem kIt_flat : kIt.Flat := ⟨fun h => h.1, fun h => ⟨rfl, h⟩⟩
theorem infoIt : (Try.prog.info? 52).map (fun i => (i.zero, i.size, i.bytes)) = some (some (.agg #[.string ⟨#[]⟩, .int .i64 0, .int .i64 0, .string ⟨#[]⟩]), 4, 48) := by kernel_rfl
theorem addr_add (b o k : Nat) : (⟨b, o, none⟩ : Addr).add k = ⟨b, o + k, none⟩ := by
  unfold Addr.add
  by_cases hk : k = 0
  · subst hk; simp
  · rw [if_neg hk]
theorem kIt_C {w : World} {A : Option Addr} {l : List S52} {c : Nat} (h : kIt.S w l (.slice A l.length c)) (hl : l.length ≤ 1000000) : l.length ≤ c ∧ Kd.C k52 w A l.length l := by
  obtain ⟨A', c', e, hc, hC⟩ := h
  obtain ⟨rfl, _, rfl⟩ := Value.slice.inj e
  refine ⟨hc.1, rfl, by omega, fun h0 => ?_⟩
  rcases hC with hC | ⟨b, o, rfl, hC⟩
  · rw [hC] at h0; simp at h0
  · refine ⟨_, rfl, fun j p hp => ?_⟩
    obtain ⟨cs, hK, hcell⟩ := hC j p hp
    obtain rfl : cs = [.string p.f0, .int .i64 p.f1, .int .i64 p.f2, .string p.f3] := hK
    refine ⟨_, rfl, k52_mk w p, fun i u hu => ?_⟩
    have h1 := hcell i u hu
    rw [addr_add, ← Nat.add_assoc]
    exact h1
/-- An element's cells. -/
theorem it_at {w wr : World} {A : Option Addr} {xs : List S52} (h : kIt.C w A xs) (hB : Below w.heap.size w wr) (k : Nat) (hk : k < xs.length) : ∃ b o, A = some ⟨b, o, none⟩ ∧ wr.cell? ⟨b, o + k * 4, none⟩ = some (.string xs[k].f0) ∧ wr.cell? ⟨b, o + k * 4 + 1, none⟩ = some (.int .i64 xs[k].f1) ∧ wr.cell? ⟨b, o + k * 4 + 2, none⟩ = some (.int .i64 xs[k].f2) ∧ wr.cell? ⟨b, o + k * 4 + 3, none⟩ = some (.string xs[k].f3) := by
  obtain ⟨b, o, cs, rfl, k1, q1⟩ := Rp.C_get h k hk
  obtain rfl : cs = [.string xs[k].f0, .int .i64 xs[k].f1, .int .i64 xs[k].f2, .string xs[k].f3] := k1
  have mv : ∀ j u, [.string xs[k].f0, .int .i64 xs[k].f1, .int .i64 xs[k].f2, .string xs[k].f3][j]? = some u → wr.cell? ⟨b, o + k * 4 + j, none⟩ = some u := fun j u hu => by
    have h1 := q1 j u hu
    rw [World.cell?_of_block (hB.block b (World.block_lt_of_cell? w _ h1))]
    exact h1
  exact ⟨b, o, rfl, by simpa using mv 0 _ rfl, mv 1 _ rfl, mv 2 _ rfl, mv 3 _ rfl⟩
theorem sCmp_calls (x y : S52) (w : World) : Calls Try.prog 46 #[.agg #[.string x.f0, .int .i64 x.f1, .int .i64 x.f2, .string x.f3], .agg #[.string y.f0, .int .i64 y.f1, .int .i64 y.f2, .string y.f3]] w
    fun e w' => e = .returned (.int .i64 (cmpI x y)) ∧ Below w.heap.size w w' := by
  obtain ⟨K, hK⟩ := order_s x y
  exact spec_l4Compare.calls K _ _ _ _ _ _ _ _ _ w (hK K (Nat.le_refl _))
theorem sGood_calls (x : S52) (w : World) : Calls Try.prog 40 #[.agg #[.string x.f0, .int .i64 x.f1, .int .i64 x.f2, .string x.f3]] w
    fun e w' => e = .returned (.bool (goodI x)) ∧ Below w.heap.size w w' :=
  spec_GoodItem.calls _ _ _ _ _ w (good_s x)
theorem iLook_calls {l : List S52} {A : Option Addr} {c : Nat} (key : ByteArray) (a : Int) {w : World} (h : kIt.S w l (.slice A l.length c)) (hl : l.length ≤ 1000000) : Calls Try.prog 5 #[.agg #[.slice A l.length c], .string key, .int .i64 a] w
    fun e w' => e = .returned (.tuple #[.string (ansL l key a).1, .int .i64 (ansL l key a).2.1, .bool (ansL l key a).2.2]) ∧ Below w.heap.size w w' := by
  obtain ⟨K, hK⟩ := ans_i l key a (by omega)
  obtain ⟨h1, h2⟩ := kIt_C h hl
  exact impl_LookIn.calls K A c l key a _ _ _ w h2 h1 (hK K (Nat.le_refl _))
theorem sLook_calls {l : List S52} {A : Option Addr} {c : Nat} (key : ByteArray) (a : Int) {w : World} (h : kIt.S w l (.slice A l.length c)) (hl : l.length ≤ 1000000) : Calls Try.prog 6 #[.agg #[.slice A l.length c], .string key, .int .i64 a] w
    fun e w' => e = .returned (.tuple #[.string (ansL l key a).1, .int .i64 (ansL l key a).2.1, .bool (ansL l key a).2.2]) ∧ Below w.heap.size w w' := by
  obtain ⟨K, hK⟩ := ans_s l key a (by omega)
  obtain ⟨h1, h2⟩ := kIt_C h hl
  exact spec_LookIn.calls K A c l key a _ _ _ w h2 h1 (hK K (Nat.le_refl _))
theorem iScan_calls {l : List S52} {A : Option Addr} {c : Nat} (lo hi : ByteArray) (a : Int) {w : World} (h : kIt.S w l (.slice A l.length c)) (hl : l.length ≤ 1000000) : Calls Try.prog 9 #[.agg #[.slice A l.length c], .string lo, .string hi, .int .i64 a] w
    fun e w' => (∃ A2 c2, e = .returned (.tuple #[.slice A2 (scanA l lo hi a).1.length c2, .bool (scanA l lo hi a).2]) ∧ (scanA l lo hi a).1.length ≤ c2 ∧ Kd.C k34 w' A2 (scanA l lo hi a).1.length (scanA l lo hi a).1) ∧ Below w.heap.size w w' := by
  obtain ⟨K, hK⟩ := scanA_i l lo hi a (by omega)
  obtain ⟨h1, h2⟩ := kIt_C h hl
  refine (impl_ScanAt.calls K A c l lo hi a _ _ w h2 h1 (hK K (Nat.le_refl _))).mono ?_
  rintro e w' ⟨v, rfl, hr, hb⟩
  obtain ⟨A2, c2, rfl, h3, h4⟩ := Kd.R_reads hr
  exact ⟨⟨A2, c2, rfl, h3, h4⟩, hb⟩
theorem sScan_calls {l : List S52} {A : Option Addr} {c : Nat} (lo hi : ByteArray) (a : Int) {w : World} (h : kIt.S w l (.slice A l.length c)) (hl : l.length ≤ 1000000) : Calls Try.prog 10 #[.agg #[.slice A l.length c], .string lo, .string hi, .int .i64 a] w
    fun e w' => (∃ A2 c2, e = .returned (.tuple #[.slice A2 (scanA l lo hi a).1.length c2, .bool (scanA l lo hi a).2]) ∧ (scanA l lo hi a).1.length ≤ c2 ∧ Kd.C k34 w' A2 (scanA l lo hi a).1.length (scanA l lo hi a).1) ∧ Below w.heap.size w w' := by
  obtain ⟨K, hK⟩ := scanA_s l lo hi a (by omega)
  obtain ⟨h1, h2⟩ := kIt_C h hl
  refine (spec_ScanAt.calls K A c l lo hi a _ _ w h2 h1 (hK K (Nat.le_refl _))).mono ?_
  rintro e w' ⟨v, rfl, hr, hb⟩
  obtain ⟨A2, c2, rfl, h3, h4⟩ := Kd.R_reads hr
  exact ⟨⟨A2, c2, rfl, h3, h4⟩, hb⟩
theorem iVis_calls {l : List S52} {A : Option Addr} {c : Nat} (a : Int) {w : World} (h : kIt.S w l (.slice A l.length c)) (hl : l.length ≤ 1000000) : Calls Try.prog 7 #[.agg #[.slice A l.length c], .int .i64 a] w
    fun e w' => (∃ A2 c2, e = .returned (.tuple #[.slice A2 (visA l a).1.length c2, .bool (visA l a).2]) ∧ (visA l a).1.length ≤ c2 ∧ Kd.C k34 w' A2 (visA l a).1.length (visA l a).1) ∧ Below w.heap.size w w' := by
  obtain ⟨K, hK⟩ := visA_i l a (by omega)
  obtain ⟨h1, h2⟩ := kIt_C h hl
  refine (impl_VisibleAt.calls K A c l a _ _ w h2 h1 (hK K (Nat.le_refl _))).mono ?_
  rintro e w' ⟨v, rfl, hr, hb⟩
  obtain ⟨A2, c2, rfl, h3, h4⟩ := Kd.R_reads hr
  exact ⟨⟨A2, c2, rfl, h3, h4⟩, hb⟩
theorem same_calls {l : List S34} {A A2 : Option Addr} {c c2 : Nat} {w : World} (h : Kd.C k34 w A l.length l) (hc : l.length ≤ c) (h2 : Kd.C k34 w A2 l.length l) (hc2 : l.length ≤ c2) (hl : l.length ≤ 1000000) : Calls Try.prog 11 #[.slice A l.length c, .slice A2 l.length c2] w
    fun e w' => e = .returned (.bool true) ∧ Below w.heap.size w w' := by
  obtain ⟨K, hK⟩ := same_alw l (by omega)
  refine (laws_samePairs.calls K A c l A2 c2 l true w h hc h2 hc2 (hK K (Nat.le_refl _))).mono ?_
  rintro e w' ⟨rfl, hd⟩
  exact ⟨rfl, hd.below⟩
end Go.Proofs.Ytmbceednogcnfaa
