/- Plain laws on texts as lists of bytes: the least text above another one (no program in sight). -/
import Derived.Lib.Strings
set_option linter.unusedSimpArgs false
set_option linter.unusedVariables false
namespace Go.Proofs.Ytploafhenmfmhaa.Keys

theorem less_irrefl (l : List UInt8) : Op.bytesLess l l = false := by
  induction l with
  | nil => rfl
  | cons a l ih => simp [Op.bytesLess, ih]

theorem less_total (x y : List UInt8) (h : Op.bytesLess x y = false) (hne : x ≠ y) : Op.bytesLess y x = true := by
  induction x generalizing y with
  | nil => cases y with
    | nil => exact absurd rfl hne
    | cons b y => simp [Op.bytesLess] at h
  | cons a x ih => cases y with
    | nil => rfl
    | cons b y =>
      simp only [Op.bytesLess, Bool.or_eq_false_iff, Bool.and_eq_false_iff, decide_eq_false_iff_not, beq_eq_false_iff_ne] at h
      simp only [Op.bytesLess, Bool.or_eq_true, Bool.and_eq_true, decide_eq_true_eq, beq_iff_eq]
      obtain ⟨h1, h2⟩ := h
      by_cases e : a = b
      · subst e
        rcases h2 with h2 | h2
        · exact absurd rfl h2
        · exact .inr ⟨rfl, ih y h2 (fun e => hne (by rw [e]))⟩
      · rw [UInt8.lt_iff_toNat_lt] at *
        have : a.toNat ≠ b.toNat := fun k => e (UInt8.toNat_inj.1 k)
        exact .inl (by omega)

theorem less_asymm (x y : List UInt8) (h : Op.bytesLess x y = true) : Op.bytesLess y x = false := by
  induction x generalizing y with
  | nil => cases y <;> rfl
  | cons a x ih => cases y with
    | nil => simp [Op.bytesLess] at h
    | cons b y =>
      simp only [Op.bytesLess, Bool.or_eq_true, Bool.and_eq_true, decide_eq_true_eq, beq_iff_eq] at h
      rcases h with h | ⟨rfl, h⟩
      · rw [UInt8.lt_iff_toNat_lt] at h
        have hne : (b == a) = false := by
          rw [beq_eq_false_iff_ne]
          intro e; subst e; omega
        simp only [Op.bytesLess, hne, Bool.false_and, Bool.or_false, decide_eq_false_iff_not, UInt8.lt_iff_toNat_lt]
        omega
      · simp [Op.bytesLess, ih y h]
theorem less_ne (x y : List UInt8) (h : Op.bytesLess x y = true) : x ≠ y := by
  rintro rfl
  rw [less_irrefl] at h
  exact absurd h (by decide)

def nextAt (l : List UInt8) : Nat → List UInt8
  | 0 => []
  | k + 1 => if l.getD k 0 < 255 then l.take k ++ [l.getD k 0 + 1] else nextAt l k
def nextL (l : List UInt8) : List UInt8 := if l.length < 8 then l ++ [0] else nextAt l 8

/-- The same, from the head on. -/
def nx : List UInt8 → Nat → List UInt8
  | _, 0 => []
  | [], _ + 1 => []
  | a :: l, k + 1 => if nx l k = [] then (if a < 255 then [a + 1] else []) else a :: nx l k

theorem nextAt_cons (a : UInt8) (l : List UInt8) (k : Nat) :
    nextAt (a :: l) (k + 1) = if nextAt l k = [] then (if a < 255 then [a + 1] else []) else a :: nextAt l k := by
  induction k with
  | zero => simp [nextAt]
  | succ k ih =>
    rw [nextAt, ih]
    have e : (a :: l).getD (k + 1) 0 = l.getD k 0 := by simp
    rw [e]
    by_cases h : l.getD k 0 < 255
    · rw [if_pos h]
      have e2 : nextAt l (k + 1) = l.take k ++ [l.getD k 0 + 1] := by rw [nextAt, if_pos h]
      rw [e2]
      simp
    · rw [if_neg h]
      have e2 : nextAt l (k + 1) = nextAt l k := by rw [nextAt, if_neg h]
      rw [e2]

theorem nextAt_eq (k : Nat) : ∀ l : List UInt8, k ≤ l.length → nextAt l k = nx l k := by
  induction k with
  | zero => intro l _; cases l <;> rfl
  | succ k ih =>
    intro l h
    cases l with
    | nil => simp at h
    | cons a l => rw [nextAt_cons, nx, ih l (by simpa using h)]

theorem nx_len (k : Nat) : ∀ l : List UInt8, (nx l k).length ≤ k := by
  induction k with
  | zero => intro l; cases l <;> simp [nx]
  | succ k ih =>
    intro l
    cases l with
    | nil => simp [nx]
    | cons a l =>
      have := ih l
      rw [nx]
      split
      · split <;> simp
      · simp; omega

theorem nx_gt (k : Nat) : ∀ l : List UInt8, nx l k ≠ [] → Op.bytesLess l (nx l k) = true := by
  induction k with
  | zero => intro l h; cases l <;> exact absurd rfl h
  | succ k ih =>
    intro l h
    cases l with
    | nil => exact absurd rfl h
    | cons a l =>
      rw [nx] at h ⊢
      split at h
      · rename_i h0
        rw [if_pos h0]
        split at h
        · rename_i h1
          rw [if_pos h1]
          have : a < a + 1 := by
            rw [UInt8.lt_iff_toNat_lt] at h1 ⊢
            have e255 : (255 : UInt8).toNat = 255 := rfl
            rw [UInt8.toNat_add]
            have e1 : (1 : UInt8).toNat = 1 := rfl
            omega
          simp [Op.bytesLess, this]
        · exact absurd rfl h
      · rename_i h0
        rw [if_neg h0]
        simp [Op.bytesLess, ih l h0]

theorem nx_least (k : Nat) : ∀ (l x : List UInt8), x.length ≤ k → k ≤ l.length → Op.bytesLess l x = true → nx l k ≠ [] ∧ Op.bytesLess x (nx l k) = false := by
  induction k with
  | zero =>
    intro l x hx _ h
    obtain rfl : x = [] := List.eq_nil_of_length_eq_zero (by omega)
    cases l <;> simp [Op.bytesLess] at h
  | succ k ih =>
    intro l x hx hl h
    cases l with
    | nil => simp at hl
    | cons a l =>
      cases x with
      | nil => simp [Op.bytesLess] at h
      | cons b x =>
        simp only [Op.bytesLess, Bool.or_eq_true, Bool.and_eq_true, decide_eq_true_eq, beq_iff_eq] at h
        have e255 : (255 : UInt8).toNat = 255 := rfl
        have e1 : (1 : UInt8).toNat = 1 := rfl
        rcases h with h | ⟨rfl, h⟩
        · have hb := UInt8.toNat_lt b
          rw [UInt8.lt_iff_toNat_lt] at h
          rw [nx]
          by_cases h0 : nx l k = []
          · rw [if_pos h0, if_pos (by rw [UInt8.lt_iff_toNat_lt]; omega)]
            refine ⟨by simp, ?_⟩
            have e2 : (a + 1).toNat = a.toNat + 1 := by rw [UInt8.toNat_add]; omega
            have hx0 : Op.bytesLess x [] = false := by cases x <;> rfl
            simp only [Op.bytesLess, hx0, Bool.and_false, Bool.or_false, decide_eq_false_iff_not, UInt8.lt_iff_toNat_lt]
            omega
          · rw [if_neg h0]
            refine ⟨by simp, ?_⟩
            have hne : (b == a) = false := by
              rw [beq_eq_false_iff_ne]
              intro e; subst e; omega
            simp only [Op.bytesLess, hne, Bool.false_and, Bool.or_false, decide_eq_false_iff_not, UInt8.lt_iff_toNat_lt]
            omega
        · obtain ⟨i1, i2⟩ := ih l x (by simpa using hx) (by simpa using hl) h
          rw [nx, if_neg i1]
          refine ⟨by simp, ?_⟩
          simp [Op.bytesLess, i2]

theorem snoc_gt (l : List UInt8) : Op.bytesLess l (l ++ [0]) = true := by
  induction l with
  | nil => rfl
  | cons a l ih => simp [Op.bytesLess, ih]

theorem snoc_least (l x : List UInt8) (h : Op.bytesLess l x = true) : Op.bytesLess x (l ++ [0]) = false := by
  induction l generalizing x with
  | nil => cases x with
    | nil => simp [Op.bytesLess] at h
    | cons b x =>
      have hx0 : Op.bytesLess x [] = false := by cases x <;> rfl
      have hb : ¬ b < 0 := by
        rw [UInt8.lt_iff_toNat_lt]
        have e0 : (0 : UInt8).toNat = 0 := rfl
        omega
      simp only [List.nil_append, Op.bytesLess, hx0, Bool.and_false, Bool.or_false, decide_eq_false_iff_not]
      exact hb
  | cons a l ih => cases x with
    | nil => simp [Op.bytesLess] at h
    | cons b x =>
      simp only [Op.bytesLess, Bool.or_eq_true, Bool.and_eq_true, decide_eq_true_eq, beq_iff_eq] at h
      rcases h with h | ⟨rfl, h⟩
      · rw [UInt8.lt_iff_toNat_lt] at h
        have hne : (b == a) = false := by
          rw [beq_eq_false_iff_ne]
          intro e; subst e; omega
        simp only [List.cons_append, Op.bytesLess, hne, Bool.false_and, Bool.or_false, decide_eq_false_iff_not, UInt8.lt_iff_toNat_lt]
        omega
      · simp [Op.bytesLess, ih x h]

/-- What comes next, of any text: a key above it, or none. -/
theorem nextL_gt (l : List UInt8) (h : nextL l ≠ []) : Op.bytesLess l (nextL l) = true ∧ (nextL l).length ≤ 8 := by
  unfold nextL at h ⊢
  by_cases h8 : l.length < 8
  · rw [if_pos h8] at h ⊢
    exact ⟨snoc_gt l, by simp; omega⟩
  · rw [if_neg h8, nextAt_eq 8 l (by omega)] at h ⊢
    exact ⟨nx_gt 8 l h, nx_len 8 l⟩
theorem nextL_least (l x : List UInt8) (hx : x.length ≤ 8) (h : Op.bytesLess l x = true) : nextL l ≠ [] ∧ Op.bytesLess x (nextL l) = false := by
  unfold nextL
  by_cases h8 : l.length < 8
  · rw [if_pos h8]
    exact ⟨by simp, snoc_least l x h⟩
  · rw [if_neg h8, nextAt_eq 8 l (by omega)]
    exact nx_least 8 l x hx (by omega) h
end Go.Proofs.Ytploafhenmfmhaa.Keys
