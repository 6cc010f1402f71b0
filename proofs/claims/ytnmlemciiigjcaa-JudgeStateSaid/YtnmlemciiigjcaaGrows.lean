/- StoryGrows in plain words. -/
import Derived.Test.YtnmlemciiigjcaaEnt4
set_option linter.unusedSimpArgs false
set_option linter.unusedVariables false
namespace Go.Proofs.Ytnmlemciiigjcaa
namespace Ent
open Ops
theorem alikeB_self (a : EntR) : alikeB a a = true := by simp [alikeB, twinB]
theorem alikeB_bare (a : EntR) : alikeB (bareE a) a = true := by simp [alikeB, twinB, bareE]
theorem sameE_self (a : EntR) : sameE a a = true := by simp [sameE, sameB]
theorem sameAllB_self (l : List EntR) : sameAllB l l = true := by
  induction l with
  | nil => rfl
  | cons a l ih => rw [sameAllB, ih, sameE_self]; rfl
theorem alikeAllB_iff (l m : List EntR) : alikeAllB l m = true ↔ l.length = m.length ∧ ∀ (i : Nat) (a b : EntR), l[i]? = some a → m[i]? = some b → alikeB a b = true := by
  induction l generalizing m with
  | nil =>
    cases m with
    | nil => simp [alikeAllB]
    | cons b m => simp [alikeAllB]
  | cons a l ih =>
    cases m with
    | nil => simp [alikeAllB]
    | cons b m =>
      rw [alikeAllB, Bool.and_eq_true, ih m]
      constructor
      · rintro ⟨h1, h2, h3⟩
        refine ⟨by simp [h2], fun i x y hx hy => ?_⟩
        cases i with
        | zero => simp at hx hy; subst hx; subst hy; exact h1
        | succ i => exact h3 i x y (by simpa using hx) (by simpa using hy)
      · rintro ⟨h1, h2⟩
        exact ⟨h2 0 a b rfl rfl, by simpa using h1, fun i x y hx hy => h2 (i + 1) x y (by simpa using hx) (by simpa using hy)⟩
theorem agreeB_iff (l m : List EntR) : agreeB l m = true ↔ ∀ (i : Nat) (a b : EntR), l[i]? = some a → m[i]? = some b → alikeB a b = true := by
  unfold agreeB
  rw [alikeAllB_iff]
  constructor
  · rintro ⟨_, h⟩ i a b ha hb
    have h1 := (List.getElem?_eq_some_iff.1 ha).1
    have h2 := (List.getElem?_eq_some_iff.1 hb).1
    exact h i a b (by rw [List.getElem?_take, if_pos (by omega)]; exact ha) (by rw [List.getElem?_take, if_pos (by omega)]; exact hb)
  · intro h
    refine ⟨by simp [List.length_take], fun i a b ha hb => ?_⟩
    rw [List.getElem?_take] at ha hb
    split at ha
    · rw [if_pos (by assumption)] at hb
      exact h i a b ha hb
    · cases ha
theorem grown_get {w log : List EntR} {n i : Nat} {a : EntR} (h : (grown w log n)[i]? = some a) : w[i]? = some a ∨ ∃ b, log[i]? = some b ∧ i < n ∧ a = bareE b := by
  unfold grown at h
  rcases Nat.lt_or_ge i w.length with hl | hl
  · rw [List.getElem?_append_left hl] at h; exact .inl h
  · rw [List.getElem?_append_right hl, List.getElem?_map, List.getElem?_drop, Nat.add_sub_cancel' hl, List.getElem?_take] at h
    right
    split at h
    · rename_i hi
      cases hb : log[i]? with
      | none => rw [hb] at h; cases h
      | some b => rw [hb] at h; injection h with h; exact ⟨b, rfl, hi, h.symm⟩
    · cases h
/-- What came agrees with what it came of. -/
theorem grown_agrees {w log : List EntR} {n : Nat} (h : agreeB w (log.take n) = true) : agreeB (grown w log n) (log.take n) = true := by
  rw [agreeB_iff] at h ⊢
  intro i a b ha hb
  rcases grown_get ha with h1 | ⟨c, h1, h2, rfl⟩
  · exact h i a b h1 hb
  · rw [List.getElem?_take, if_pos h2, h1] at hb
    injection hb with hb
    subst hb
    exact alikeB_bare _
theorem grown_length {w log : List EntR} {n : Nat} (hn : n ≤ log.length) : (grown w log n).length = max w.length n := by
  unfold grown
  simp
  omega
theorem grown_grown {w log : List EntR} {n : Nat} (hn : n ≤ log.length) : grown (grown w log n) log n = grown w log n := grown_small (by rw [grown_length hn]; omega)
theorem grown_take {w log : List EntR} {n : Nat} : (grown w log n).take w.length = w := by
  unfold grown
  rw [List.take_append_of_le_length (Nat.le_refl _), List.take_length]
theorem add_again {w log : List EntR} {st : Int} (h : (addL w log st).2 = 0) : addL (addL w log st).1 log st = addL w log st ∧ (addL w log st).1 = grown w log (addN log st) ∧ agreeB (addL w log st).1 (log.take (addN log st)) = true := by
  unfold addL at h ⊢
  split at h
  · rename_i ha
    simp only [ha, if_true]
    rw [if_pos (grown_agrees ha), grown_grown (addN_le _ _)]
    exact ⟨rfl, trivial, grown_agrees ha⟩
  · cases h
theorem holds_of {a log : List EntR} {n : Nat} (hn : n ≤ log.length) (hna : n ≤ a.length) (h : agreeB a (log.take n) = true) : holdsL (a.take n) log = 0 := by
  unfold holdsL
  rw [if_neg (by rw [List.length_take]; omega), if_pos]
  rw [agreeB_iff] at h ⊢
  intro i x y hx hy
  rw [List.getElem?_take] at hx
  split at hx
  · rename_i hi
    exact h i x y hx (by rw [List.getElem?_take, if_pos hi]; exact hy)
  · cases hx
end Ent
end Go.Proofs.Ytnmlemciiigjcaa
