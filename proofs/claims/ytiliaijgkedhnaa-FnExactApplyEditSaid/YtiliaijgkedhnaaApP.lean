/- ApplyEdit: the plain law. -/
import Derived.Test.YtiliaijgkedhnaaVerP
import Derived.Test.YtiliaijgkedhnaaE2
namespace Go.Proofs.Ytiliaijgkedhnaa
open Go Go.RowKit Go.Sort
set_option linter.unusedVariables false
set_option linter.unusedSimpArgs false

def numFrom : Option Int → List Int → Bool
  | _, [] => true
  | o, n :: l => inR n 1 100000 && overI o n && numFrom (some n) l
def goodEd (e : DEdit) : Bool := cntOk e.fNext e.fSeq && decide ((e.fDrop.length : Int) ≤ 30) && metasOk e.fAdd && numFrom none e.fDrop
/-- Those whose number is not dropped. -/
def inD (dr : List Int) (m : DMeta) : Bool := dr.any (· == m.fNumber)
def keepM (x : List DMeta) (dr : List Int) : List DMeta := x.filter (fun m => !inD dr m)
def lessN (m y : DMeta) : Bool := decide (y.fNumber < m.fNumber)
def posM (l : List DMeta) (m : DMeta) : Nat := (l.takeWhile (lessN m)).length
def insM (l : List DMeta) (m : DMeta) : List DMeta := l.take (posM l m) ++ m :: l.drop (posM l m)
def addM (l ms : List DMeta) : List DMeta := ms.foldl insM l
def apL (x : DVersion) (e : DEdit) : List DMeta := addM (keepM x.fMetas e.fDrop) e.fAdd
def apE (x : DVersion) (e : DEdit) : DVersion := ⟨e.fNext, e.fSeq, apL x e⟩
def apIn (x : DVersion) (e : DEdit) : Bool := decide (x.fMetas.countP (inD e.fDrop) = e.fDrop.length)
def ap0 (x : DVersion) (e : DEdit) : Bool := goodVer x && goodEd e && decide (x.fNext ≤ e.fNext) && decide (x.fSeq ≤ e.fSeq)
def apOk (x : DVersion) (e : DEdit) : Bool := ap0 x e && (apIn x e && goodVer (apE x e))
def apV (x : DVersion) (e : DEdit) : DVersion := if apOk x e then apE x e else ⟨0, 0, []⟩

theorem mem_inD {dr : List Int} {m : DMeta} : inD dr m = true ↔ m.fNumber ∈ dr := by
  unfold inD
  rw [List.any_eq_true]
  constructor
  · rintro ⟨x, hx, h⟩
    rw [beq_iff_eq] at h
    subst h
    exact hx
  · intro h
    exact ⟨_, h, by simp⟩
def numLt (x y : DMeta) : Prop := x.fNumber < y.fNumber
def numLe (x y : DMeta) : Prop := x.fNumber ≤ y.fNumber
theorem metas_rise : ∀ {l : List DMeta} {o : Option Int}, metasFrom o l = true → (∀ k, o = some k → ∀ y ∈ l, k < y.fNumber) ∧ l.Pairwise numLt
  | [], _, _ => ⟨fun _ _ _ h => (by cases h), List.Pairwise.nil⟩
  | p :: ps, o, h => by
    simp only [metasFrom, Bool.and_eq_true] at h
    obtain ⟨⟨_, h1⟩, h2⟩ := h
    obtain ⟨h3, h4⟩ := metas_rise h2
    have h5 := h3 p.fNumber rfl
    refine ⟨fun k hk y hy => ?_, List.pairwise_cons.2 ⟨fun y hy => h5 y hy, h4⟩⟩
    subst hk
    simp only [overI, decide_eq_true_eq] at h1
    rcases List.mem_cons.1 hy with rfl | hy
    · exact h1
    · have := h5 y hy
      omega
theorem nums_rise : ∀ {l : List Int} {o : Option Int}, numFrom o l = true → (∀ k, o = some k → ∀ y ∈ l, k < y) ∧ l.Pairwise (· < ·)
  | [], _, _ => ⟨fun _ _ _ h => (by cases h), List.Pairwise.nil⟩
  | p :: ps, o, h => by
    simp only [numFrom, Bool.and_eq_true] at h
    obtain ⟨⟨_, h1⟩, h2⟩ := h
    obtain ⟨h3, h4⟩ := nums_rise h2
    have h5 := h3 p rfl
    refine ⟨fun k hk y hy => ?_, List.pairwise_cons.2 ⟨fun y hy => h5 y hy, h4⟩⟩
    subst hk
    simp only [overI, decide_eq_true_eq] at h1
    rcases List.mem_cons.1 hy with rfl | hy
    · exact h1
    · have := h5 y hy
      omega
theorem goodVer_rise {v : DVersion} (h : goodVer v = true) : v.fMetas.Pairwise numLt ∧ v.fMetas.length ≤ 30 := by
  simp only [goodVer, metasOk, Bool.and_eq_true, decide_eq_true_eq] at h
  exact ⟨(metas_rise h.1.2.1).2, h.1.2.2⟩
theorem goodEd_rise {e : DEdit} (h : goodEd e = true) : e.fDrop.Pairwise (· < ·) ∧ e.fAdd.Pairwise numLt ∧ e.fDrop.length ≤ 30 ∧ e.fAdd.length ≤ 30 := by
  simp only [goodEd, metasOk, Bool.and_eq_true, decide_eq_true_eq] at h
  exact ⟨(nums_rise h.2).2, (metas_rise h.1.2.1).2, by omega, h.1.2.2⟩
theorem eq_of_mem {α : Type} {R : α → α → Prop} (hi : ∀ x, ¬ R x x) (ha : ∀ x y, R x y → ¬ R y x) : ∀ {l m : List α}, l.Pairwise R → m.Pairwise R → (∀ x, x ∈ l ↔ x ∈ m) → l = m
  | [], [], _, _, _ => rfl
  | [], y :: m, _, _, h => by have := (h y).2 List.mem_cons_self; cases this
  | x :: l, [], _, _, h => by have := (h x).1 List.mem_cons_self; cases this
  | x :: l, y :: m, hl, hm, h => by
    rw [List.pairwise_cons] at hl hm
    have hxy : x = y := by
      rcases List.mem_cons.1 ((h x).1 List.mem_cons_self) with h1 | h1
      · exact h1
      · rcases List.mem_cons.1 ((h y).2 List.mem_cons_self) with h2 | h2
        · exact h2.symm
        · exact absurd (hm.1 x h1) (ha _ _ (hl.1 y h2))
    subst hxy
    rw [eq_of_mem hi ha hl.2 hm.2 fun z => ?_]
    constructor
    · intro hz
      rcases List.mem_cons.1 ((h z).1 (List.mem_cons_of_mem _ hz)) with rfl | h1
      · exact absurd (hl.1 z hz) (hi z)
      · exact h1
    · intro hz
      rcases List.mem_cons.1 ((h z).2 (List.mem_cons_of_mem _ hz)) with rfl | h1
      · exact absurd (hm.1 z hz) (hi z)
      · exact h1
theorem insM_perm (l : List DMeta) (m : DMeta) : (insM l m).Perm (m :: l) := by
  unfold insM
  refine List.perm_middle.trans ?_
  rw [List.take_append_drop]
theorem addM_perm : ∀ (ms l : List DMeta), (addM l ms).Perm (l ++ ms)
  | [], l => by simp [addM]
  | m :: ms, l => by
    have h := addM_perm ms (insM l m)
    refine h.trans ?_
    refine ((insM_perm l m).append_right ms).trans ?_
    rw [List.cons_append]
    exact List.perm_middle.symm
theorem addM_len (ms l : List DMeta) : (addM l ms).length = l.length + ms.length := by rw [(addM_perm ms l).length_eq, List.length_append]
theorem addM_take {ms : List DMeta} {k : Nat} (h : k < ms.length) (l : List DMeta) : addM l (ms.take (k + 1)) = insM (addM l (ms.take k)) ms[k] := by
  unfold addM
  rw [List.take_add_one, List.getElem?_eq_getElem h, List.foldl_append]
  rfl
theorem keepM_take {x : List DMeta} {dr : List Int} {k : Nat} (h : k < x.length) : keepM (x.take (k + 1)) dr = keepM (x.take k) dr ++ (if inD dr x[k] = true then [] else [x[k]]) := by
  unfold keepM
  rw [List.take_add_one, List.getElem?_eq_getElem h, List.filter_append]
  congr 1
  cases hd : inD dr x[k] <;> simp [hd]
theorem keepM_len (x : List DMeta) (dr : List Int) : (keepM x dr).length ≤ x.length := List.length_filter_le _ _
theorem countD_take {x : List DMeta} {dr : List Int} {k : Nat} (h : k < x.length) : (x.take (k + 1)).countP (inD dr) = (x.take k).countP (inD dr) + (if inD dr x[k] = true then 1 else 0) := by
  rw [List.take_add_one, List.getElem?_eq_getElem h, List.countP_append]
  cases hd : inD dr x[k] <;> simp [hd]
theorem keepM_nil (x : List DMeta) : keepM x [] = x := by
  unfold keepM inD
  simp
/-- All that is dropped is there just where so many are dropped. -/
theorem count_eq {x : List DMeta} {dr : List Int} (hx : x.Pairwise numLt) (hd : dr.Pairwise (· < ·)) : x.countP (inD dr) = dr.length ↔ ∀ n ∈ dr, ∃ m ∈ x, m.fNumber = n := by
  have e : (x.filter (inD dr)).map (·.fNumber) = dr.filter (fun n => x.any (fun m => m.fNumber == n)) := by
    refine eq_of_mem (R := (· < ·)) (fun n => Int.lt_irrefl n) (fun a b h1 h2 => by omega) ?_ (List.Pairwise.filter _ hd) fun n => ?_
    · rw [List.pairwise_map]
      exact List.Pairwise.filter _ hx
    · simp only [List.mem_map, List.mem_filter, mem_inD, List.any_eq_true, beq_iff_eq]
      constructor
      · rintro ⟨m, ⟨h1, h2⟩, rfl⟩
        exact ⟨h2, m, h1, rfl⟩
      · rintro ⟨h1, m, h2, rfl⟩
        exact ⟨m, ⟨h2, h1⟩, rfl⟩
  have hl : x.countP (inD dr) = (dr.filter (fun n => x.any (fun m => m.fNumber == n))).length := by
    rw [← e, List.length_map, List.countP_eq_length_filter]
  rw [hl, List.length_filter_eq_length_iff]
  simp only [List.any_eq_true, beq_iff_eq]
/-- One is dropped by its number. -/
def atN (l : List DMeta) (n : Int) : Nat := l.findIdx (fun m => m.fNumber == n)
theorem erase_filter : ∀ {l : List DMeta} {n : Int}, l.Pairwise numLt → atN l n < l.length → l.take (atN l n) ++ l.drop (atN l n + 1) = l.filter (fun m => !(m.fNumber == n))
  | [], n, _, h => by simp at h
  | y :: l, n, hp, h => by
    rw [List.pairwise_cons] at hp
    unfold atN at *
    rw [List.findIdx_cons] at *
    cases hy : (y.fNumber == n)
    · simp only [hy, cond_false] at h ⊢
      rw [List.take_succ_cons, List.drop_succ_cons, List.cons_append, List.filter_cons, hy]
      simp only [Bool.not_false, if_true]
      rw [← erase_filter (n := n) hp.2 (by simpa [atN] using h)]
      rfl
    · simp only [cond_true, List.take_zero, List.nil_append, Nat.zero_add, List.drop_succ_cons, List.drop_zero]
      rw [List.filter_cons, hy]
      simp only [Bool.not_true, Bool.false_eq_true, if_false]
      rw [eq_comm, List.filter_eq_self]
      intro m hm
      have h1 : y.fNumber < m.fNumber := hp.1 m hm
      rw [beq_iff_eq] at hy
      simp
      omega
theorem keepM_step {x : List DMeta} {dr : List Int} {k : Nat} (h : k < dr.length) : keepM x (dr.take (k + 1)) = (keepM x (dr.take k)).filter (fun m => !(m.fNumber == dr[k])) := by
  unfold keepM
  rw [List.filter_filter]
  refine List.filter_congr fun m _ => ?_
  unfold inD
  rw [List.take_add_one, List.getElem?_eq_getElem h, List.any_append]
  simp only [Option.toList_some, List.any_cons, List.any_nil, Bool.or_false, Bool.not_or]
  rw [Bool.and_comm]
  congr 1
  rw [Bool.not_eq_eq_eq_not, Bool.not_not]
  cases h1 : (dr[k] == m.fNumber)
  · simp at h1 ⊢
    omega
  · simp at h1 ⊢
    omega
theorem keepM_pair {x : List DMeta} (hx : x.Pairwise numLt) (dr : List Int) : (keepM x dr).Pairwise numLt := List.Pairwise.filter _ hx
theorem at_in {l : List DMeta} {n : Int} : atN l n < l.length ↔ ∃ m ∈ l, m.fNumber = n := by
  unfold atN
  rw [List.findIdx_lt_length]
  simp
/-- The program's own dropping: where it comes to its end all was there, else not. -/
theorem drop_in {x : List DMeta} {dr : List Int} (hd : dr.Pairwise (· < ·)) {k : Nat} (h : k < dr.length) : atN (keepM x (dr.take k)) dr[k] < (keepM x (dr.take k)).length ↔ ∃ m ∈ x, m.fNumber = dr[k] := by
  rw [at_in]
  constructor
  · rintro ⟨m, h1, h2⟩
    exact ⟨m, (List.mem_filter.1 h1).1, h2⟩
  · rintro ⟨m, h1, h2⟩
    refine ⟨m, List.mem_filter.2 ⟨h1, ?_⟩, h2⟩
    rw [Bool.not_eq_true', Bool.eq_false_iff]
    intro h3
    rw [mem_inD, h2] at h3
    obtain ⟨i, hi, he⟩ := List.mem_iff_getElem.1 h3
    rw [List.length_take] at hi
    rw [List.getElem_take] at he
    have := List.pairwise_iff_getElem.1 hd i k (by omega) h (by omega)
    omega
/-- What the program puts behind, sorted, is what the reference puts in its place; and nothing is there twice where that is good. -/
theorem add_once {x : DVersion} {e : DEdit} (hg : goodVer (apE x e) = true) : ∀ m ∈ keepM x.fMetas e.fDrop, ∀ y ∈ e.fAdd, m.fNumber ≠ y.fNumber := by
  obtain ⟨hp, _⟩ := goodVer_rise hg
  have hn : ((apL x e).map (·.fNumber)).Nodup := by
    have h2 : ((apL x e).map (·.fNumber)).Pairwise (· < ·) := by rw [List.pairwise_map]; exact hp
    exact List.Pairwise.imp (fun h => by omega) h2
  have h3 := ((addM_perm e.fAdd (keepM x.fMetas e.fDrop)).map (·.fNumber)).nodup_iff.1 hn
  rw [List.map_append, List.nodup_append] at h3
  intro m hm y hy he
  exact h3.2.2 _ (List.mem_map.2 ⟨m, hm, rfl⟩) _ (List.mem_map.2 ⟨y, hy, rfl⟩) he
theorem sort_eq {x : DVersion} {e : DEdit} (hx : x.fMetas.Pairwise numLt) (ha : e.fAdd.Pairwise numLt) {ys : List DMeta} (h1 : ys.Perm (keepM x.fMetas e.fDrop ++ e.fAdd)) (h2 : ys.Pairwise numLe)
    (h3 : ∀ m ∈ keepM x.fMetas e.fDrop, ∀ y ∈ e.fAdd, m.fNumber ≠ y.fNumber) (hs : (apL x e).Pairwise numLe) : ys = apL x e := by
  have hnd : ∀ {l : List DMeta}, l.Perm (keepM x.fMetas e.fDrop ++ e.fAdd) → (l.map (·.fNumber)).Nodup := fun hl => by
    refine (hl.map (·.fNumber)).nodup_iff.2 ?_
    rw [List.map_append, List.nodup_append]
    refine ⟨?_, ?_, ?_⟩
    · exact List.Pairwise.imp (fun h => by omega) (List.pairwise_map.2 (keepM_pair hx e.fDrop) : ((keepM x.fMetas e.fDrop).map (·.fNumber)).Pairwise (· < ·))
    · exact List.Pairwise.imp (fun h => by omega) (List.pairwise_map.2 ha : (e.fAdd.map (·.fNumber)).Pairwise (· < ·))
    · intro a h4 b h5 he
      obtain ⟨m, hm, rfl⟩ := List.mem_map.1 h4
      obtain ⟨y, hy, rfl⟩ := List.mem_map.1 h5
      exact h3 m hm y hy he
  have strict : ∀ {l : List DMeta}, l.Pairwise numLe → (l.map (·.fNumber)).Nodup → l.Pairwise numLt := fun hl hn => by
    have hn2 := List.pairwise_map.1 hn
    exact (hl.and hn2).imp fun ⟨q1, q2⟩ => by unfold numLe at q1; unfold numLt; omega
  refine eq_of_mem (R := numLt) (fun m => by unfold numLt; omega) (fun a b h4 h5 => by unfold numLt at *; omega) (strict h2 (hnd h1)) (strict hs (hnd (addM_perm _ _))) fun m => ?_
  rw [h1.mem_iff]
  exact (addM_perm e.fAdd (keepM x.fMetas e.fDrop)).mem_iff.symm
theorem take_less : ∀ (l : List DMeta) (m : DMeta), (∀ y ∈ l.take (posM l m), y.fNumber < m.fNumber) ∧ (∀ (h : posM l m < l.length), ¬ l[posM l m].fNumber < m.fNumber) ∧ posM l m ≤ l.length
  | [], m => by simp [posM]
  | y :: l, m => by
    unfold posM
    cases h : lessN m y
    · rw [List.takeWhile_cons, h]
      simp only [Bool.false_eq_true, if_false]
      exact ⟨by simp, fun _ => by simpa [lessN] using h, by simp⟩
    · obtain ⟨h1, h2, h3⟩ := take_less l m
      rw [List.takeWhile_cons, h]
      simp only [if_true, List.length_cons, List.take_succ_cons]
      refine ⟨fun z hz => ?_, fun hh => ?_, by unfold posM at h3; omega⟩
      · rcases List.mem_cons.1 hz with rfl | hz
        · simpa [lessN] using h
        · exact h1 z hz
      · have h4 := h2 (by unfold posM; omega)
        simp only [List.getElem_cons_succ]
        exact h4
theorem insM_le {l : List DMeta} {m : DMeta} (h : l.Pairwise numLe) : (insM l m).Pairwise numLe := by
  obtain ⟨h1, h2, h3⟩ := take_less l m
  have hd : ∀ y ∈ l.drop (posM l m), numLe m y := fun y hy => by
    obtain ⟨i, hi, rfl⟩ := List.mem_iff_getElem.1 hy
    rw [List.length_drop] at hi
    rw [List.getElem_drop]
    have h4 := h2 (by omega)
    unfold numLe
    rcases Nat.eq_zero_or_pos i with rfl | hi0
    · simp only [Nat.add_zero]
      omega
    · have h5 : numLe l[posM l m] l[posM l m + i] := List.pairwise_iff_getElem.1 h (posM l m) (posM l m + i) (by omega) (by omega) (by omega)
      unfold numLe at h5
      omega
  unfold insM
  rw [List.pairwise_append]
  refine ⟨List.Pairwise.sublist (List.take_sublist _ _) h, List.pairwise_cons.2 ⟨hd, List.Pairwise.sublist (List.drop_sublist _ _) h⟩, fun a ha b hb => ?_⟩
  have h6 := h1 a ha
  unfold numLe
  rcases List.mem_cons.1 hb with rfl | hb
  · omega
  · have := hd b hb
    unfold numLe at this
    omega
theorem addM_le : ∀ {ms l : List DMeta}, l.Pairwise numLe → (addM l ms).Pairwise numLe
  | [], l, h => by simpa [addM] using h
  | m :: ms, l, h => addM_le (ms := ms) (insM_le h)
theorem apL_le {x : DVersion} (hx : x.fMetas.Pairwise numLt) (e : DEdit) : (apL x e).Pairwise numLe := addM_le ((keepM_pair hx e.fDrop).imp fun h => by unfold numLt at h; unfold numLe; omega)
theorem posM_step {l : List DMeta} {m : DMeta} {k : Nat} (h1 : ∀ j (hj : j < l.length), j < k → l[j].fNumber < m.fNumber) (h2 : k ≤ l.length) (h3 : ∀ h : k < l.length, ¬ l[k].fNumber < m.fNumber) : posM l m = k := by
  obtain ⟨q1, q2, q3⟩ := take_less l m
  rcases Nat.lt_trichotomy (posM l m) k with h | h | h
  · exact absurd (h1 (posM l m) (by omega) h) (q2 (by omega))
  · exact h
  · exact absurd (q1 l[k] (List.mem_take_iff_getElem.2 ⟨k, by omega, rfl⟩)) (h3 (by omega))
end Go.Proofs.Ytiliaijgkedhnaa
