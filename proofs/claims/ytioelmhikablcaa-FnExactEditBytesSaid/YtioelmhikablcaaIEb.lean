/- The plain laws that FnExactEditBytes leans on. -/
import Derived.Test.YtioelmhikablcaaHEb
import Derived.Test.YtioelmhikablcaaPFnExactEditBytesx1
import Derived.Test.YtioelmhikablcaaPFnExactEditBytesx2
import Derived.Test.YtioelmhikablcaaPFnExactEditBytesx3
import Derived.Test.YtioelmhikablcaaPFnExactEditBytesx4
import Derived.Test.YtioelmhikablcaaPFnExactEditBytesx5
import Derived.Test.YtioelmhikablcaaPFnExactEditBytesx6
import Derived.Test.YtioelmhikablcaaPFnExactEditBytesx7
import Derived.Test.YtioelmhikablcaaPFnExactEditBytesx8
namespace Go.Proofs.Ytioelmhikablcaa
open Go Go.RowKit Go.Proofs.YtioelmhikablcaaW.PrintWords Go.Proofs.YtioelmhikablcaaW.PrintLast Go.Proofs.YtioelmhikablcaaW.PrintMore Go.Proofs.Ytioelmhikablcaa.PFnExactEditBytes
set_option linter.unusedVariables false
set_option linter.unusedSimpArgs false

theorem in_s (a lo hi : Int) : spec_l1In.f a lo hi = some (decide (lo ≤ a ∧ a ≤ hi)) := by
  unfold spec_l1In.f
  by_cases h : a ≥ lo
  · rw [if_pos h]; congr 1; simp; omega
  · rw [if_neg h]; congr 1; simp; omega
theorem in_i (a lo hi : Int) : impl_in.f a lo hi = some (decide (lo ≤ a ∧ a ≤ hi)) := in_s a lo hi

def keyT (s : ByteArray) : Bool := decide (1 ≤ (s.size : Int) ∧ (s.size : Int) ≤ 16)
def leT (a b : ByteArray) : Bool := Op.bytesLess a.toList b.toList || (a.toList == b.toList)
def goodM (x : S175) : Bool := decide (1 ≤ x.f0 ∧ x.f0 ≤ 100000) && decide (0 ≤ x.f1 ∧ x.f1 ≤ 3) && keyT x.f2 && keyT x.f3 && leT x.f2 x.f3
def upM (p x : S175) : Bool := decide (p.f0 < x.f0)
def metasO (l : List S175) : Bool := okFrom goodM upM l l.length 0

theorem meta_s (x : S175) : spec_l9Meta.f x.f0 x.f1 x.f2 x.f3 = some (goodM x) := by
  unfold spec_l9Meta.f spec_l4Key.f goodM keyT leT
  simp only [in_s, Option.bind_some]
  cases h1 : decide (1 ≤ x.f0 ∧ x.f0 ≤ 100000) <;> cases h2 : decide (0 ≤ x.f1 ∧ x.f1 ≤ 3) <;> cases h3 : decide (1 ≤ (x.f2.size : Int) ∧ (x.f2.size : Int) ≤ 16) <;> cases h4 : decide (1 ≤ (x.f3.size : Int) ∧ (x.f3.size : Int) ≤ 16) <;> simp

set_option maxHeartbeats 1000000 in
theorem metas_go (l : List S175) (hl : l.length ≤ 4611686018427387904) : ∀ (d i : Nat), i + d = l.length → Alw fun k => spec_l9Metas.l0 k l l (l.length : Int) (i : Int) = some (okFrom goodM upM l d i && decide ((l.length : Int) ≤ 30))
  | 0, i, h => Alw.one fun k => by rw [spec_l9Metas.l0, if_neg (by omega)]; rfl
  | d + 1, i, h => by
    have hi : i < l.length := by omega
    refine (metas_go l hl d (i + 1) (by omega)).succ fun k ih => ?_
    rw [okFrom, spec_l9Metas.l0, if_pos (by omega), if_pos (by omega), if_pos (by omega), rdMetai_at hi, meta_s, Option.bind_some]
    rcases i with _ | j
    · rw [okAt_zero hi]
      cases hg : goodM l[0]
      · rw [if_neg (by decide)]; rfl
      · rw [if_pos rfl, if_neg (by omega), wS (by omega), ih]; rfl
    · have hj : j < l.length := by omega
      rw [okAt_succ hi]
      cases hg : goodM l[j + 1]
      · rw [if_neg (by decide)]; rfl
      · rw [if_pos rfl, if_pos (by omega), wP (by omega) (by omega), if_pos (by omega), if_pos (by omega)]
        simp only [Nat.add_sub_cancel]
        rw [rdMetai_at hj, upM]
        by_cases hc : l[j].f0 ≥ l[j + 1].f0
        · rw [if_pos hc, decide_eq_false (by omega)]; rfl
        · rw [if_neg hc, decide_eq_true (by omega), wS (by omega), ih]; rfl
theorem metas_s (l : List S175) (hl : l.length ≤ 4611686018427387904) : Alw fun k => spec_l9Metas.f k l = some (metasO l && decide ((l.length : Int) ≤ 30)) := metas_go l hl l.length 0 (by omega)

theorem metas_eq : ∀ (k : Nat) (a b : List S175) (n i : Int), impl_metasOk.l0 k a b n i = spec_l9Metas.l0 k a b n i
  | 0, _, _, _, _ => rfl
  | k + 1, a, b, n, i => by
    rw [impl_metasOk.l0, spec_l9Metas.l0, show impl_goodMeta.f = spec_l9Meta.f from rfl]
    simp only [metas_eq k]
theorem metas_i (l : List S175) (hl : l.length ≤ 4611686018427387904) : Alw fun k => impl_metasOk.f k l = some (metasO l && decide ((l.length : Int) ≤ 30)) := by
  refine (metas_s l hl).imp fun k h => ?_
  rw [← h]
  exact metas_eq _ _ _ _ _

def cntO (a b : Int) : Bool := decide (1 ≤ a ∧ a ≤ 100001) && decide (0 ≤ b ∧ b ≤ 1000000000)
theorem cnt_s (a b : Int) : spec_l9Counts.f a b = some (cntO a b) := by
  unfold spec_l9Counts.f spec_l4Seq.f cntO
  simp only [in_s, Option.bind_some]
  cases decide (1 ≤ a ∧ a ≤ 100001) <;> simp
theorem cnt_i (a b : Int) : impl_nextOk.f a b = some (cntO a b) := by
  unfold impl_nextOk.f impl_isSeq.f cntO
  simp only [in_i, Option.bind_some]
  cases decide (1 ≤ a ∧ a ≤ 100001) <;> simp

def goodN (x : Int) : Bool := decide (1 ≤ x ∧ x ≤ 100000)
def upN (p x : Int) : Bool := decide (p < x)
def numsO (l : List Int) : Bool := okFrom goodN upN l l.length 0
def editO (a b : Int) (d : List Int) (m : List S175) : Bool := numsO d && (cntO a b && (decide ((d.length : Int) ≤ 30) && (metasO m && decide ((m.length : Int) ≤ 30))))

set_option maxHeartbeats 1000000 in
theorem edit_go (a b : Int) (l : List Int) (m : List S175) (hl : l.length ≤ 4611686018427387904) (hm : m.length ≤ 4611686018427387904) : ∀ (d i : Nat), i + d = l.length →
    Alw fun k => spec_l9Edit.l0 k l (l.length : Int) (i : Int) a b l m = some (okFrom goodN upN l d i && (cntO a b && (decide ((l.length : Int) ≤ 30) && (metasO m && decide ((m.length : Int) ≤ 30)))))
  | 0, i, h => (metas_s m hm).succ fun k hk => by
    rw [spec_l9Edit.l0, if_neg (by omega), cnt_s, Option.bind_some, hk]
    cases cntO a b
    · rfl
    · by_cases h3 : (l.length : Int) ≤ 30
      · rw [if_pos rfl, if_pos h3, decide_eq_true h3]; rfl
      · rw [if_pos rfl, if_neg h3, decide_eq_false h3]; rfl
  | d + 1, i, h => by
    have hi : i < l.length := by omega
    refine (edit_go a b l m hl hm d (i + 1) (by omega)).succ fun k ih => ?_
    rw [okFrom, spec_l9Edit.l0, if_pos (by omega), if_pos (by omega), if_pos (by omega), rdInti_at hi, in_s, Option.bind_some]
    rcases i with _ | j
    · rw [okAt_zero hi, goodN]
      cases hg : decide (1 ≤ l[0] ∧ l[0] ≤ 100000)
      · rw [if_neg (by decide)]; rfl
      · rw [if_pos rfl, if_neg (by omega), wS (by omega), ih]; rfl
    · have hj : j < l.length := by omega
      rw [okAt_succ hi, goodN]
      cases hg : decide (1 ≤ l[j + 1] ∧ l[j + 1] ≤ 100000)
      · rw [if_neg (by decide)]; rfl
      · rw [if_pos rfl, if_pos (by omega), wP (by omega) (by omega), if_pos (by omega), if_pos (by omega)]
        simp only [Nat.add_sub_cancel]
        rw [rdInti_at hj, upN]
        by_cases hc : l[j] ≥ l[j + 1]
        · rw [if_pos hc, decide_eq_false (by omega)]; rfl
        · rw [if_neg hc, decide_eq_true (by omega), wS (by omega), ih]; rfl
theorem edit_s (a b : Int) (d : List Int) (m : List S175) (hl : d.length ≤ 4611686018427387904) (hm : m.length ≤ 4611686018427387904) : Alw fun k => spec_l9Edit.f k a b d m = some (editO a b d m) := edit_go a b d m hl hm d.length 0 (by omega)

set_option maxHeartbeats 1000000 in
theorem nums_go (l : List Int) (hl : l.length ≤ 4611686018427387904) : ∀ (d i : Nat), i + d = l.length → Alw fun k => impl_numbersOk.l0 k l l (l.length : Int) (i : Int) = some (okFrom goodN upN l d i)
  | 0, i, h => Alw.one fun k => by rw [impl_numbersOk.l0, if_neg (by omega)]; rfl
  | d + 1, i, h => by
    have hi : i < l.length := by omega
    refine (nums_go l hl d (i + 1) (by omega)).succ fun k ih => ?_
    rw [okFrom, impl_numbersOk.l0, if_pos (by omega), if_pos (by omega), if_pos (by omega), rdInti_at hi, in_i, Option.bind_some]
    rcases i with _ | j
    · rw [okAt_zero hi, goodN]
      cases hg : decide (1 ≤ l[0] ∧ l[0] ≤ 100000)
      · rw [if_neg (by decide)]; rfl
      · rw [if_pos rfl, if_neg (by omega), wS (by omega), ih]; rfl
    · have hj : j < l.length := by omega
      rw [okAt_succ hi, goodN]
      cases hg : decide (1 ≤ l[j + 1] ∧ l[j + 1] ≤ 100000)
      · rw [if_neg (by decide)]; rfl
      · rw [if_pos rfl, if_pos (by omega), wP (by omega) (by omega), if_pos (by omega), if_pos (by omega)]
        simp only [Nat.add_sub_cancel]
        rw [rdInti_at hj, upN]
        by_cases hc : l[j] ≥ l[j + 1]
        · rw [if_pos hc, decide_eq_false (by omega)]; rfl
        · rw [if_neg hc, decide_eq_true (by omega), wS (by omega), ih]; rfl

theorem edit_i (a b : Int) (d : List Int) (m : List S175) (hl : d.length ≤ 4611686018427387904) (hm : m.length ≤ 4611686018427387904) : Alw fun k => impl_goodEdit.f k a b d m = some (editO a b d m) := by
  refine ((nums_go d hl d.length 0 (by omega)).and (metas_i m hm)).imp fun k ⟨h, g⟩ => ?_
  unfold impl_goodEdit.f
  rw [cnt_i, Option.bind_some, g, show impl_numbersOk.f k d = some (numsO d) from h]
  unfold editO
  cases cntO a b
  · cases numsO d <;> rfl
  · by_cases h3 : (d.length : Int) ≤ 30
    · rw [if_pos rfl, if_pos h3, decide_eq_true h3]
      cases metasO m <;> cases decide ((m.length : Int) ≤ 30) <;> cases numsO d <;> rfl
    · rw [if_pos rfl, if_neg h3, decide_eq_false h3]
      cases numsO d <;> rfl

theorem varT_size (n : Nat) : (varT n).size ≤ 10 := by rw [varT, strOfNums_size]; exact vb_len _ _
theorem i_varZ {m : Int} (h0 : 0 ≤ m) (hm : m ≤ 9223372036854775807) : impl_varBytes.f m = some (varT m.toNat) := by
  rw [impl_varBytes.f, if_pos ⟨h0, hm⟩]
theorem s_varZ {m : Int} (h0 : 0 ≤ m) (hm : m ≤ 9223372036854775807) : spec_l2Var.f m = some (varT m.toNat) := by
  rw [spec_l2Var.f, if_pos ⟨h0, hm⟩]
theorem sized_i {x : ByteArray} (hx : x.size ≤ 40) : impl_sized.f x = some (varT x.size ++ x) := by
  unfold impl_sized.f
  have q := varT_size x.size
  rw [i_varZ (by omega) (by omega), Option.bind_some, Int.toNat_natCast, if_pos (by omega)]
def numB : List Int → ByteArray → ByteArray
  | [], s => s
  | x :: l, s => numB l (s ++ varT x.toNat)
def oneB (x : S175) : ByteArray := varT x.f0.toNat ++ varT x.f1.toNat ++ varT x.f2.size ++ x.f2 ++ varT x.f3.size ++ x.f3
def metB : List S175 → ByteArray → ByteArray
  | [], s => s
  | x :: l, s => metB l (s ++ oneB x)
theorem numB_size : ∀ (l : List Int) (s : ByteArray), (numB l s).size ≤ s.size + 10 * l.length
  | [], s => by simp [numB]
  | x :: l, s => by
    have h1 := numB_size l (s ++ varT x.toNat)
    have h2 := varT_size x.toNat
    rw [ByteArray.size_append] at h1
    rw [numB, List.length_cons]
    omega
theorem goodM_facts {x : S175} (h : goodM x = true) : (1 ≤ x.f0 ∧ x.f0 ≤ 100000) ∧ (0 ≤ x.f1 ∧ x.f1 ≤ 3) ∧ x.f2.size ≤ 16 ∧ x.f3.size ≤ 16 := by
  simp [goodM, keyT] at h
  omega
set_option maxHeartbeats 1000000 in
theorem metB_s (l : List S175) (hg : ∀ i (h : i < l.length), goodM l[i] = true) (hl : l.length ≤ 30) : ∀ (d i : Nat) (s : ByteArray), i + d = l.length → s.size ≤ 1000 + 100 * i → Alw fun k => spec_l9Bytes.l1 k s l (l.length : Int) (i : Int) = some (metB (l.drop i) s)
  | 0, i, s, h, hs => Alw.one fun k => by rw [spec_l9Bytes.l1, if_neg (by omega), List.drop_eq_nil_of_le (by omega), metB]
  | d + 1, i, s, h, hs => by
    have hi : i < l.length := by omega
    obtain ⟨f0, f1, f2, f3⟩ := goodM_facts (hg i hi)
    have z0 := varT_size l[i].f0.toNat; have z1 := varT_size l[i].f1.toNat; have z2 := varT_size l[i].f2.size; have z3 := varT_size l[i].f3.size
    have ho : (oneB l[i]).size ≤ 100 := by unfold oneB; simp only [ByteArray.size_append]; omega
    refine (metB_s l hg hl d (i + 1) (s ++ oneB l[i]) (by omega) (by rw [ByteArray.size_append]; omega)).succ fun k ih => ?_
    rw [spec_l9Bytes.l1, if_pos (by omega), if_pos (by omega), if_pos (by omega), rdMetai_at hi, wS (by omega), s_varZ (by omega) (by omega), s_varZ (by omega) (by omega)]
    simp only [Option.bind_some]
    rw [if_pos (by omega), s_varZ (by omega) (by omega)]
    simp only [Option.bind_some, Int.toNat_natCast]
    rw [if_pos (by simp only [ByteArray.size_append]; omega), if_pos (by simp only [ByteArray.size_append]; omega), s_varZ (by omega) (by omega)]
    simp only [Option.bind_some, Int.toNat_natCast]
    rw [if_pos (by simp only [ByteArray.size_append]; omega), if_pos (by simp only [ByteArray.size_append]; omega), if_pos (by simp only [ByteArray.size_append]; omega), List.drop_eq_getElem_cons hi, metB]
    exact ih
set_option maxHeartbeats 1000000 in
theorem bytes_s_go (a b : Int) (l : List Int) (m : List S175) (hg : ∀ i (h : i < l.length), goodN l[i] = true) (hl : l.length ≤ 30) (hgm : ∀ i (h : i < m.length), goodM m[i] = true) (hm : m.length ≤ 30) : ∀ (d i : Nat) (s : ByteArray), i + d = l.length → s.size ≤ 100 + 10 * i →
    Alw fun k => spec_l9Bytes.l0 k s l (l.length : Int) (i : Int) a b l m = some (metB m (numB (l.drop i) s ++ varT m.length))
  | 0, i, s, h, hs => by
    have z := varT_size m.length
    refine (metB_s m hgm hm m.length 0 (s ++ varT m.length) (by omega) (by rw [ByteArray.size_append]; omega)).succ fun k ih => ?_
    rw [spec_l9Bytes.l0, if_neg (by omega), s_varZ (by omega) (by omega), Option.bind_some, Int.toNat_natCast, if_pos (by omega), List.drop_eq_nil_of_le (by omega), numB]
    exact ih
  | d + 1, i, s, h, hs => by
    have hi : i < l.length := by omega
    have hn : 1 ≤ l[i] ∧ l[i] ≤ 100000 := by simpa [goodN] using hg i hi
    have z := varT_size l[i].toNat
    refine (bytes_s_go a b l m hg hl hgm hm d (i + 1) (s ++ varT l[i].toNat) (by omega) (by rw [ByteArray.size_append]; omega)).succ fun k ih => ?_
    rw [spec_l9Bytes.l0, if_pos (by omega), if_pos (by omega), if_pos (by omega), rdInti_at hi, s_varZ (by omega) (by omega), Option.bind_some, if_pos (by omega), wS (by omega), List.drop_eq_getElem_cons hi, numB]
    exact ih
def allB (a b : Int) (d : List Int) (m : List S175) : ByteArray := metB m (numB d (varT a.toNat ++ varT b.toNat ++ varT d.length) ++ varT m.length)
theorem editO_facts {a b : Int} {d : List Int} {m : List S175} (h : editO a b d m = true) : ((1 ≤ a ∧ a ≤ 100001) ∧ 0 ≤ b ∧ b ≤ 1000000000) ∧ d.length ≤ 30 ∧ m.length ≤ 30 ∧ numsO d = true ∧ metasO m = true := by
  simp [editO, cntO] at h
  obtain ⟨h1, h2, h3, h4, h5⟩ := h
  exact ⟨by omega, by omega, by omega, h1, h4⟩
theorem bytes_s {a b : Int} {d : List Int} {m : List S175} (h : editO a b d m = true) : Alw fun k => spec_l9Bytes.f k a b d m = some (allB a b d m) := by
  obtain ⟨⟨h1, h2⟩, h3, h4, h5, h6⟩ := editO_facts h
  have z0 := varT_size a.toNat; have z1 := varT_size b.toNat; have z2 := varT_size d.length
  refine (bytes_s_go a b d m (okFrom_good h5) h3 (okFrom_good h6) h4 d.length 0 (varT a.toNat ++ varT b.toNat ++ varT d.length) (by omega) (by simp only [ByteArray.size_append]; omega)).imp fun k ih => ?_
  unfold spec_l9Bytes.f
  rw [s_varZ (by omega) (by omega), s_varZ (by omega) (by omega)]
  simp only [Option.bind_some]
  rw [if_pos (by omega), s_varZ (by omega) (by omega)]
  simp only [Option.bind_some, Int.toNat_natCast]
  rw [if_pos (by simp only [ByteArray.size_append]; omega)]
  exact ih
def ansE (a b : Int) (d : List Int) (m : List S175) : ByteArray × Bool := if editO a b d m = true ∧ ¬ ((allB a b d m).size : Int) > 1000 then (allB a b d m, true) else (⟨#[]⟩, false)
theorem ans_s (a b : Int) (d : List Int) (m : List S175) (hl : d.length ≤ 4611686018427387904) (hm : m.length ≤ 4611686018427387904) : Alw fun k => spec_EditBytes.f k a b d m = some (ansE a b d m) := by
  have h1 := edit_s a b d m hl hm
  cases hg : editO a b d m
  · refine h1.imp fun k h => ?_
    unfold spec_EditBytes.f ansE
    rw [h, hg]
    simp
  · refine (h1.and (bytes_s hg)).imp fun k ⟨h, g⟩ => ?_
    unfold spec_EditBytes.f ansE
    rw [h, hg, Option.bind_some, if_pos rfl, g, Option.bind_some, Option.bind_some]
    by_cases hc : ((allB a b d m).size : Int) > 1000
    · rw [if_pos hc, if_neg (fun h => h.2 hc)]
    · rw [if_neg hc, if_pos ⟨rfl, hc⟩]
set_option maxHeartbeats 1000000 in
theorem metB_i (l : List S175) (hg : ∀ i (h : i < l.length), goodM l[i] = true) (hl : l.length ≤ 30) : ∀ (d i : Nat) (s : ByteArray), i + d = l.length → s.size ≤ 1000 + 100 * i → Alw fun k => impl_EditBytes.l1 k s l (l.length : Int) (i : Int) = some (if ((metB (l.drop i) s).size : Int) > 1000 then (⟨#[]⟩, false) else (metB (l.drop i) s, true))
  | 0, i, s, h, hs => Alw.one fun k => by
    rw [impl_EditBytes.l1, if_neg (by omega), List.drop_eq_nil_of_le (by omega), metB]
    split <;> rfl
  | d + 1, i, s, h, hs => by
    have hi : i < l.length := by omega
    obtain ⟨f0, f1, f2, f3⟩ := goodM_facts (hg i hi)
    have z0 := varT_size l[i].f0.toNat; have z1 := varT_size l[i].f1.toNat; have z2 := varT_size l[i].f2.size; have z3 := varT_size l[i].f3.size
    have ho : (oneB l[i]).size ≤ 100 := by unfold oneB; simp only [ByteArray.size_append]; omega
    refine (metB_i l hg hl d (i + 1) (s ++ oneB l[i]) (by omega) (by rw [ByteArray.size_append]; omega)).succ fun k ih => ?_
    rw [impl_EditBytes.l1, if_pos (by omega), if_pos (by omega), if_pos (by omega), rdMetai_at hi, wS (by omega), i_varZ (by omega) (by omega), i_varZ (by omega) (by omega)]
    simp only [Option.bind_some]
    rw [if_pos (by omega), sized_i (by omega)]
    simp only [Option.bind_some]
    rw [if_pos (by simp only [ByteArray.size_append]; omega), sized_i (by omega)]
    simp only [Option.bind_some]
    rw [if_pos (by simp only [ByteArray.size_append]; omega), if_pos (by simp only [ByteArray.size_append]; omega), List.drop_eq_getElem_cons hi, metB]
    have e : varT l[i].f0.toNat ++ varT l[i].f1.toNat ++ (varT l[i].f2.size ++ l[i].f2) ++ (varT l[i].f3.size ++ l[i].f3) = oneB l[i] := by
      unfold oneB
      simp only [ByteArray.append_assoc]
    rw [e]
    exact ih
set_option maxHeartbeats 1000000 in
theorem bytes_i_go (a b : Int) (l : List Int) (m : List S175) (hg : ∀ i (h : i < l.length), goodN l[i] = true) (hl : l.length ≤ 30) (hgm : ∀ i (h : i < m.length), goodM m[i] = true) (hm : m.length ≤ 30) : ∀ (d i : Nat) (s : ByteArray), i + d = l.length → s.size ≤ 100 + 10 * i →
    Alw fun k => impl_EditBytes.l0 k s l (l.length : Int) (i : Int) a b l m = some (if ((metB m (numB (l.drop i) s ++ varT m.length)).size : Int) > 1000 then (⟨#[]⟩, false) else (metB m (numB (l.drop i) s ++ varT m.length), true))
  | 0, i, s, h, hs => by
    have z := varT_size m.length
    refine (metB_i m hgm hm m.length 0 (s ++ varT m.length) (by omega) (by rw [ByteArray.size_append]; omega)).succ fun k ih => ?_
    rw [impl_EditBytes.l0, if_neg (by omega), i_varZ (by omega) (by omega), Option.bind_some, Int.toNat_natCast, if_pos (by omega), List.drop_eq_nil_of_le (by omega), numB]
    exact ih
  | d + 1, i, s, h, hs => by
    have hi : i < l.length := by omega
    have hn : 1 ≤ l[i] ∧ l[i] ≤ 100000 := by simpa [goodN] using hg i hi
    have z := varT_size l[i].toNat
    refine (bytes_i_go a b l m hg hl hgm hm d (i + 1) (s ++ varT l[i].toNat) (by omega) (by rw [ByteArray.size_append]; omega)).succ fun k ih => ?_
    rw [impl_EditBytes.l0, if_pos (by omega), if_pos (by omega), if_pos (by omega), rdInti_at hi, i_varZ (by omega) (by omega), Option.bind_some, if_pos (by omega), wS (by omega), List.drop_eq_getElem_cons hi, numB]
    exact ih
theorem ans_i (a b : Int) (d : List Int) (m : List S175) (hl : d.length ≤ 4611686018427387904) (hm : m.length ≤ 4611686018427387904) : Alw fun k => impl_EditBytes.f k a b d m = some (ansE a b d m) := by
  have h1 := edit_i a b d m hl hm
  cases hg : editO a b d m
  · refine h1.imp fun k h => ?_
    unfold impl_EditBytes.f ansE
    rw [h, hg]
    simp
  · obtain ⟨⟨g1, g2⟩, g3, g4, g5, g6⟩ := editO_facts hg
    have z0 := varT_size a.toNat; have z1 := varT_size b.toNat; have z2 := varT_size d.length
    refine (h1.and (bytes_i_go a b d m (okFrom_good g5) g3 (okFrom_good g6) g4 d.length 0 (varT a.toNat ++ varT b.toNat ++ varT d.length) (by omega) (by simp only [ByteArray.size_append]; omega))).imp fun k ⟨h, g⟩ => ?_
    unfold impl_EditBytes.f ansE
    rw [h, hg, Option.bind_some, if_pos rfl, i_varZ (by omega) (by omega), i_varZ (by omega) (by omega)]
    simp only [Option.bind_some]
    rw [if_pos (by omega), i_varZ (by omega) (by omega)]
    simp only [Option.bind_some, Int.toNat_natCast]
    rw [if_pos (by simp only [ByteArray.size_append]; omega)]
    refine Eq.trans g ?_
    rw [List.drop_zero]
    unfold allB
    split <;> rename_i hc
    · rw [if_neg (fun h => h.2 hc)]
    · rw [if_pos ⟨trivial, hc⟩]

end Go.Proofs.Ytioelmhikablcaa
