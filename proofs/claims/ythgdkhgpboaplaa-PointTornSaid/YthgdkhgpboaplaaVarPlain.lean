
/- Numbers as bytes, in plain words: how many bytes a number needs, its digits, its text, the number that stands in a text. -/
import Derived.Test.YthgdkhgpboaplaaBase
set_option linter.unusedSimpArgs false
set_option linter.unusedVariables false
namespace Go.Proofs.Ythgdkhgpboaplaa
namespace Vn
/-- The k last digits of n to the base 256, the greatest first. -/
def be : Nat → Nat → List Nat
  | 0, _ => []
  | k + 1, n => be k (n / 256) ++ [n % 256]
/-- How many digits. -/
def needs (n : Nat) : Nat := if h : n < 256 then 1 else 1 + needs (n / 256)
termination_by n
decreasing_by omega
def byt (l : List Nat) : List UInt8 := l.map fun x => UInt8.ofNat x
/-- A number's bytes. -/
def put (n : Nat) : List UInt8 := if n < 248 then byt [n] else byt ((247 + needs n) :: be (needs n) n)
def val (l : List Nat) : Nat := l.foldl (fun a b => a * 256 + b) 0

theorem be_length (k n : Nat) : (be k n).length = k := by
  induction k generalizing n with
  | zero => rfl
  | succ k ih => simp [be, ih]
theorem needs_pos (n : Nat) : 1 ≤ needs n := by
  rw [needs]; split <;> omega
theorem needs_small {n : Nat} (h : n < 256) : needs n = 1 := by rw [needs, dif_pos h]
theorem needs_big {n : Nat} (h : ¬ n < 256) : needs n = 1 + needs (n / 256) := by rw [needs, dif_neg h]
theorem needs_le (k n : Nat) (h : n < 256 ^ k) (hk : 1 ≤ k) : needs n ≤ k := by
  induction k generalizing n with
  | zero => omega
  | succ k ih =>
    by_cases hn : n < 256
    · rw [needs_small hn]; omega
    · rw [needs_big hn]
      have h1 : n / 256 < 256 ^ k := by
        rw [Nat.div_lt_iff_lt_mul (by decide)]; rw [Nat.pow_succ] at h; exact h
      have hk1 : 1 ≤ k := by
        rcases Nat.eq_zero_or_pos k with rfl | h0
        · simp at h; omega
        · exact h0
      have := ih (n / 256) h1 hk1
      omega
theorem needs_le8 {n : Nat} (h : n < 18446744073709551616) : needs n ≤ 8 := needs_le 8 n (by simpa using h) (by decide)
theorem lt_needs (n : Nat) : n < 256 ^ needs n := by
  induction n using Nat.strongRecOn with
  | ind n ih =>
    by_cases hn : n < 256
    · rw [needs_small hn]; simpa using hn
    · rw [needs_big hn, Nat.add_comm, Nat.pow_succ, ← Nat.div_lt_iff_lt_mul (by decide)]
      exact ih (n / 256) (by omega)
theorem be_get (k n i : Nat) (h : i < k) : (be k n)[i]? = some (n / 256 ^ (k - 1 - i) % 256) := by
  induction k generalizing n with
  | zero => omega
  | succ k ih =>
    by_cases hi : i < k
    · rw [be, List.getElem?_append_left (by rw [be_length]; exact hi), ih _ hi, Nat.div_div_eq_div_mul]
      have e : k + 1 - 1 - i = (k - 1 - i) + 1 := by omega
      rw [e, Nat.pow_succ, Nat.mul_comm]
    · obtain rfl : i = k := by omega
      rw [be, List.getElem?_append_right (by rw [be_length]; omega)]
      simp [be_length]
theorem be_take_succ (k n i : Nat) (h : i < k) : (be k n).take (i + 1) = (be k n).take i ++ [n / 256 ^ (k - 1 - i) % 256] := by
  rw [List.take_add_one, be_get k n i h]; rfl
theorem be_split (k j n : Nat) : be (k + j) n = be k (n / 256 ^ j) ++ be j n := by
  induction j generalizing n with
  | zero => simp [be]
  | succ j ih =>
    rw [← Nat.add_assoc, be, ih, be, Nat.div_div_eq_div_mul, Nat.pow_succ, Nat.mul_comm 256, List.append_assoc]
theorem be_lt (k n : Nat) : ∀ x ∈ be k n, x < 256 := by
  induction k generalizing n with
  | zero => simp [be]
  | succ k ih =>
    intro x hx
    simp [be] at hx
    rcases hx with h | rfl
    · exact ih _ _ h
    · omega
theorem val_snoc (l : List Nat) (x : Nat) : val (l ++ [x]) = val l * 256 + x := by simp [val]
theorem val_be (k n : Nat) : val (be k n) = n % 256 ^ k := by
  induction k generalizing n with
  | zero => simp [be, val, Nat.mod_one]
  | succ k ih =>
    rw [be, val_snoc, ih, Nat.pow_succ, Nat.mul_comm (256 ^ k) 256, Nat.mod_mul]
    omega
theorem val_needs (n : Nat) : val (be (needs n) n) = n := by rw [val_be]; exact Nat.mod_eq_of_lt (lt_needs n)
theorem val_lt (l : List Nat) (h : ∀ x ∈ l, x < 256) : val l < 256 ^ l.length := by
  suffices ∀ (m : List Nat), (∀ x ∈ m, x < 256) → val m.reverse < 256 ^ m.length by
    have := this l.reverse (by simpa using h)
    simpa using this
  intro m hm
  induction m with
  | nil => simp [val]
  | cons a m ih =>
    have h1 := ih (fun x hx => hm x (by simp [hx]))
    have h2 := hm a (by simp)
    rw [List.reverse_cons, val_snoc, List.length_cons, Nat.pow_succ]
    omega
theorem be_val (l : List Nat) (h : ∀ x ∈ l, x < 256) : be l.length (val l) = l := by
  suffices ∀ (m : List Nat), (∀ x ∈ m, x < 256) → be m.length (val m.reverse) = m.reverse by
    have := this l.reverse (by simpa using h)
    simpa using this
  intro m hm
  induction m with
  | nil => simp [be]
  | cons a m ih =>
    have h1 := ih (fun x hx => hm x (by simp [hx]))
    have h2 := hm a (by simp)
    rw [List.reverse_cons, val_snoc, List.length_cons, be]
    have e1 : (val m.reverse * 256 + a) / 256 = val m.reverse := by omega
    have e2 : (val m.reverse * 256 + a) % 256 = a := by omega
    rw [e1, e2, h1]
theorem put_small {n : Nat} (h : n < 248) : put n = [UInt8.ofNat n] := by simp [put, h, byt]
theorem put_big {n : Nat} (h : ¬ n < 248) : put n = byt ((247 + needs n) :: be (needs n) n) := by simp [put, h]
theorem put_length (n : Nat) : (put n).length = if n < 248 then 1 else 1 + needs n := by
  unfold put; split <;> simp [byt, be_length, Nat.add_comm]
theorem put_le {n : Nat} (h : n < 18446744073709551616) : (put n).length ≤ 9 := by
  have := needs_le8 h
  rw [put_length]; split <;> omega
theorem put_pos (n : Nat) : 1 ≤ (put n).length := by
  rw [put_length]; split <;> omega

/-- What stands at a place of a text: the number and the place behind it, or why there is none (2, 4). -/
def get (s : List UInt8) (i : Nat) : Except Nat (Nat × Nat) :=
  match s[i]? with
  | none => .error 2
  | some b =>
    if b.toNat < 248 then .ok (b.toNat, i + 1)
    else
      let k := b.toNat - 247
      let r := (s.drop (i + 1)).take k
      if r.length < k then .error 2
      else
        let n := val (r.map UInt8.toNat)
        if n < 248 ∨ needs n ≠ k then .error 4 else .ok (n, i + 1 + k)

theorem get_put (pre post : List UInt8) (n : Nat) (h : n < 18446744073709551616) : get (pre ++ put n ++ post) pre.length = .ok (n, pre.length + (put n).length) := by
  have h8 := needs_le8 h
  by_cases hs : n < 248
  · have e : (pre ++ put n ++ post)[pre.length]? = some (UInt8.ofNat n) := by
      rw [put_small hs, List.append_assoc, List.getElem?_append_right (Nat.le_refl _)]; simp
    have e2 : (UInt8.ofNat n).toNat = n := by rw [UInt8.toNat_ofNat']; omega
    unfold get
    rw [e]
    simp only [e2]
    rw [if_pos hs, put_small hs]; rfl
  · have hk := needs_pos n
    have e : (pre ++ put n ++ post)[pre.length]? = some (UInt8.ofNat (247 + needs n)) := by
      rw [put_big hs, List.append_assoc, List.getElem?_append_right (Nat.le_refl _)]; simp [byt]
    have e2 : (UInt8.ofNat (247 + needs n)).toNat = 247 + needs n := by rw [UInt8.toNat_ofNat']; omega
    have e3 : ((pre ++ put n ++ post).drop (pre.length + 1)).take (needs n) = byt (be (needs n) n) := by
      rw [put_big hs, List.append_assoc, List.drop_append, List.drop_eq_nil_of_le (by omega)]
      simp only [byt, List.map_cons, List.cons_append, List.nil_append, Nat.add_sub_cancel_left, List.drop_succ_cons, List.drop_zero]
      rw [List.take_append_of_le_length (by simp [be_length]), List.take_of_length_le (by simp [be_length])]
    have e4 : (byt (be (needs n) n)).map UInt8.toNat = be (needs n) n := by
      unfold byt
      rw [List.map_map]
      conv => rhs; rw [← List.map_id (be (needs n) n)]
      apply List.map_congr_left
      intro x hx
      have := be_lt _ _ x hx
      simp only [Function.comp, id]
      rw [UInt8.toNat_ofNat']
      omega
    unfold get
    rw [e]
    simp only [e2]
    rw [if_neg (by omega), Nat.add_sub_cancel_left, e3, e4, val_needs, if_neg (by simp [byt, be_length]), if_neg (by simp; omega), put_big hs]
    simp [byt, be_length]
    omega

theorem map_ofNat_toNat (l : List UInt8) : (l.map UInt8.toNat).map UInt8.ofNat = l := by
  rw [List.map_map]
  conv => rhs; rw [← List.map_id l]
  apply List.map_congr_left
  intro x _
  simp

theorem toNat_map_lt (l : List UInt8) : ∀ x ∈ l.map UInt8.toNat, x < 256 := by
  intro x hx
  rw [List.mem_map] at hx
  obtain ⟨y, _, rfl⟩ := hx
  have := UInt8.toNat_lt y
  omega

/-- What is read is put so. -/
theorem put_get {s : List UInt8} {i n j : Nat} (h : get s i = .ok (n, j)) : i < j ∧ j ≤ s.length ∧ n < 18446744073709551616 ∧ (s.drop i).take (j - i) = put n := by
  unfold get at h
  split at h
  · cases h
  · rename_i b hb
    have hi : i < s.length := (List.getElem?_eq_some_iff.1 hb).1
    have hbe : s[i] = b := (List.getElem?_eq_some_iff.1 hb).2
    have hdrop : s.drop i = b :: s.drop (i + 1) := by rw [List.drop_eq_getElem_cons hi, hbe]
    have hb256 := b.toNat_lt
    split at h
    · rename_i hs
      injection h with h
      injection h with h1 h2
      subst h1; subst h2
      refine ⟨by omega, by omega, by omega, ?_⟩
      rw [Nat.add_sub_cancel_left, hdrop, put_small hs]
      simp
    · rename_i hs
      dsimp only at h
      split at h
      · cases h
      · rename_i hk
        split at h
        · cases h
        · rename_i hn
          injection h with h
          injection h with h1 h2
          have hlen : ((s.drop (i + 1)).take (b.toNat - 247)).length = b.toNat - 247 := by
            have := List.length_take_le (b.toNat - 247) (s.drop (i + 1)); omega
          have hle : i + 1 + (b.toNat - 247) ≤ s.length := by
            rw [List.length_take, List.length_drop] at hlen; omega
          have hv := val_lt (((s.drop (i + 1)).take (b.toNat - 247)).map UInt8.toNat) (toNat_map_lt _)
          have hbe := be_val (((s.drop (i + 1)).take (b.toNat - 247)).map UInt8.toNat) (toNat_map_lt _)
          rw [List.length_map, hlen] at hv hbe
          simp only [h1] at hn hv hbe
          have hn2 : ¬ n < 248 := fun x => hn (.inl x)
          have hn3 : needs n = b.toNat - 247 := Classical.byContradiction fun x => hn (.inr x)
          refine ⟨by omega, by omega, ?_, ?_⟩
          · have : (256 : Nat) ^ (b.toNat - 247) ≤ 256 ^ 8 := Nat.pow_le_pow_right (by decide) (by omega)
            have e8 : (256 : Nat) ^ 8 = 18446744073709551616 := by decide
            omega
          · rw [put_big hn2, hn3, ← h2]
            have e : i + 1 + (b.toNat - 247) - i = (b.toNat - 247) + 1 := by omega
            have e9 : 247 + (b.toNat - 247) = b.toNat := by omega
            rw [e, hdrop, List.take_succ_cons, byt, List.map_cons, e9, hbe, map_ofNat_toNat]
            simp
end Vn
end Go.Proofs.Ythgdkhgpboaplaa
