
/- Plain laws on sets of texts: the rising list without repetition (no program in sight). -/
import Derived.Sort.KeysCollected
import Derived.Sort.Walk0
set_option linter.unusedSimpArgs false
set_option linter.unusedVariables false
namespace Go.Proofs.Ytffnaabnbimhbaa.Keys
open Go.Proofs

abbrev BL := List UInt8
def dups : List BL → List BL
  | [] => []
  | a :: l => if a ∈ l then dups l else a :: dups l
theorem mem_dups (l : List BL) (x : BL) : x ∈ dups l ↔ x ∈ l := by
  induction l with
  | nil => exact Iff.rfl
  | cons a l ih =>
    unfold dups
    split
    · rename_i h
      rw [ih, List.mem_cons]
      constructor
      · exact .inr
      · rintro (rfl | h2)
        · exact h
        · exact h2
    · rw [List.mem_cons, List.mem_cons, ih]
theorem nodup_dups (l : List BL) : (dups l).Nodup := by
  induction l with
  | nil => exact List.nodup_nil
  | cons a l ih =>
    unfold dups
    split
    · exact ih
    · rename_i h
      exact List.nodup_cons.2 ⟨fun x => h ((mem_dups l a).1 x), ih⟩
theorem dups_len (l : List BL) : (dups l).length ≤ l.length := by
  induction l with
  | nil => exact Nat.le_refl _
  | cons a l ih =>
    unfold dups
    split
    · simp; omega
    · simp; omega
def setL (l : List BL) : List BL := (dups l).mergeSort leB

theorem lt_irr (x : BL) : ¬ x < x := List.lt_irrefl x
theorem nodup_of_lt {l : List BL} (h : l.Pairwise (· < ·)) : l.Nodup := h.imp fun {a b} hab e => by subst e; exact lt_irr _ hab
theorem le_of_lt' {x y : BL} (h : x < y) : x ≤ y := List.le_of_lt h
theorem lt_of_le_ne {x y : BL} (h : x ≤ y) (hne : x ≠ y) : x < y := by
  rcases List.le_iff_lt_or_eq.1 h with h | h
  · exact h
  · exact absurd h hne
theorem sort_self {r : List BL} (h : r.Pairwise (· < ·)) : r.mergeSort leB = r :=
  List.mergeSort_of_pairwise (h.imp fun {a b} hab => by simp only [leB, decide_eq_true_eq]; exact le_of_lt' hab)
theorem set_perm {ss l : List BL} (hn : ss.Nodup) (hm : ∀ x, x ∈ ss ↔ x ∈ l) : ss.mergeSort leB = setL l :=
  mergeSort_of_perm ((List.perm_ext_iff_of_nodup hn (nodup_dups l)).2 fun x => (hm x).trans (mem_dups l x).symm)
theorem set_unique {r l : List BL} (hp : r.Pairwise (· < ·)) (hm : ∀ x, x ∈ r ↔ x ∈ l) : r = setL l :=
  (sort_self hp).symm.trans (set_perm (nodup_of_lt hp) hm)
theorem mem_set (l : List BL) (x : BL) : x ∈ setL l ↔ x ∈ l := by
  unfold setL
  rw [List.mem_mergeSort, mem_dups]
theorem set_rises (l : List BL) : (setL l).Pairwise (· < ·) := by
  have tr : ∀ a b c : List UInt8, leB a b = true → leB b c = true → leB a c = true := fun a b c h1 h2 => by simp only [leB, decide_eq_true_eq] at *; exact List.le_trans h1 h2
  have to : ∀ a b : List UInt8, (leB a b || leB b a) = true := fun a b => by simp only [leB, Bool.or_eq_true, decide_eq_true_eq]; exact List.le_total a b
  have h1 := List.pairwise_mergeSort tr to (dups l)
  have h2 : (setL l).Nodup := (List.mergeSort_perm (dups l) leB).nodup_iff.2 (nodup_dups l)
  exact (h1.and h2).imp fun {a b} h => lt_of_le_ne (by simpa [leB] using h.1) h.2
theorem set_len (l : List BL) : (setL l).length ≤ l.length := by
  unfold setL
  rw [List.length_mergeSort]
  exact dups_len l
theorem set_set (l : List BL) : setL (setL l) = setL l := (set_unique (set_rises l) fun x => Iff.rfl).symm
theorem set_rev (l : List BL) : setL l.reverse = setL l := (set_unique (set_rises l) fun x => by rw [mem_set, List.mem_reverse]).symm

/-- One more into a rising list. -/
theorem ins_rises {r : List BL} {x : BL} {k : Nat} (h : r.Pairwise (· < ·)) (h1 : ∀ (j : Nat) (p : BL), j < k → r[j]? = some p → p < x) (h2 : ∀ p, r[k]? = some p → x < p) : (r.take k ++ x :: r.drop k).Pairwise (· < ·) := by
  rw [List.pairwise_append]
  refine ⟨h.sublist (List.take_sublist _ _), ?_, ?_⟩
  · rw [List.pairwise_cons]
    refine ⟨fun b hb => ?_, h.sublist (List.drop_sublist _ _)⟩
    obtain ⟨j, hj⟩ := List.mem_iff_getElem?.1 hb
    rw [List.getElem?_drop] at hj
    cases j with
    | zero => exact h2 b hj
    | succ j =>
      have hlt : k + (j + 1) < r.length := (List.getElem?_eq_some_iff.1 hj).1
      have hk : r[k]? = some r[k] := List.getElem?_eq_getElem (by omega)
      have e := (List.getElem?_eq_some_iff.1 hj).2
      have := List.pairwise_iff_getElem.1 h k (k + (j + 1)) (by omega) hlt (by omega)
      rw [e] at this
      exact List.lt_trans (h2 _ hk) this
  · intro a ha b hb
    obtain ⟨j, hj⟩ := List.mem_iff_getElem?.1 ha
    rw [List.getElem?_take] at hj
    split at hj
    · rename_i hjk
      have ha := h1 j a hjk hj
      rcases List.mem_cons.1 hb with rfl | hb
      · exact ha
      · obtain ⟨i, hi⟩ := List.mem_iff_getElem?.1 hb
        rw [List.getElem?_drop] at hi
        have e1 := List.getElem?_eq_some_iff.1 hj
        have e2 := List.getElem?_eq_some_iff.1 hi
        obtain ⟨l1, e1⟩ := e1
        obtain ⟨l2, e2⟩ := e2
        have := List.pairwise_iff_getElem.1 h j (k + i) l1 l2 (by omega)
        rw [e1, e2] at this
        exact this
    · cases hj
theorem ins_mem {r : List BL} {x : BL} {k : Nat} (y : BL) : y ∈ r.take k ++ x :: r.drop k ↔ y = x ∨ y ∈ r := by
  conv => rhs; rw [← List.take_append_drop k r]
  simp only [List.mem_append, List.mem_cons]
  constructor
  · rintro (h | h | h)
    · exact .inr (.inl h)
    · exact .inl h
    · exact .inr (.inr h)
  · rintro (h | h | h)
    · exact .inr (.inl h)
    · exact .inl h
    · exact .inr (.inr h)

/-- Does it rise, each once? -/
def sortedL : List BL → Bool
  | a :: b :: l => Op.bytesLess a b && sortedL (b :: l)
  | _ => true
theorem sorted_of {l : List BL} (h : l.Pairwise (· < ·)) : sortedL l = true := by
  induction l with
  | nil => rfl
  | cons a l ih =>
    cases l with
    | nil => rfl
    | cons b l =>
      have h1 := List.pairwise_cons.1 h
      rw [sortedL, bytesLess_eq, ih h1.2]
      simp [h1.1 b (by simp)]
end Go.Proofs.Ytffnaabnbimhbaa.Keys
