
/- varnum.Get, the document's Get: the number at a place of a text. -/
import Derived.Test.YthgdkhgpboaplaaVar1
import Derived.Lib.EndianBits
set_option linter.unusedSimpArgs false
set_option linter.unusedVariables false
namespace Go.Proofs.Ythgdkhgpboaplaa
open Go.RowKit
set_option maxRecDepth 100000
namespace Vn
open Ops (ofL bl)
def getT : Except Nat (Nat × Nat) → Value
  | .ok (n, j) => .tuple #[.int .u64 n, .int .i64 j, .int .i64 0]
  | .error c => .tuple #[.int .u64 0, .int .i64 0, .int .i64 c]
theorem bl_get (s : ByteArray) (i : Nat) (h : i < s.size) : (bl s)[i]? = some s[i] := by
  have h' : i < s.data.toList.length := by simpa using h
  show s.data.toList[i]? = _
  rw [List.getElem?_eq_getElem h']
  rfl
theorem get_end (s : ByteArray) : get (bl s) s.size = .error 2 := by
  unfold get
  rw [List.getElem?_eq_none (by rw [Ops.size_bl]; exact Nat.le_refl _)]
theorem get_small (s : ByteArray) (i : Nat) (h : i < s.size) (hb : s[i].toNat < 248) : get (bl s) i = .ok (s[i].toNat, i + 1) := by
  unfold get
  rw [bl_get s i h]
  simp only [if_pos hb]
theorem get_short (s : ByteArray) (i : Nat) (h : i < s.size) (hb : ¬ s[i].toNat < 248) (hk : s.size - (i + 1) < s[i].toNat - 247) : get (bl s) i = .error 2 := by
  unfold get
  rw [bl_get s i h]
  simp only [if_neg hb]
  rw [if_pos (by rw [List.length_take, List.length_drop, Ops.size_bl]; omega)]
theorem get_long (s : ByteArray) (i k : Nat) (h : i < s.size) (hb : ¬ s[i].toNat < 248) (hk : s[i].toNat - 247 = k) (hl : k ≤ s.size - (i + 1)) :
    get (bl s) i = if val ((((bl s).drop (i + 1)).take k).map UInt8.toNat) < 248 ∨ needs (val ((((bl s).drop (i + 1)).take k).map UInt8.toNat)) ≠ k then .error 4 else .ok (val ((((bl s).drop (i + 1)).take k).map UInt8.toNat), i + 1 + k) := by
  unfold get
  rw [bl_get s i h]
  simp only [if_neg hb, hk]
  rw [if_neg (by rw [List.length_take, List.length_drop, Ops.size_bl]; omega)]
/-- The number of the first j bytes behind place i. -/
def numAt (s : ByteArray) (i j : Nat) : Nat := val ((((bl s).drop (i + 1)).take j).map UInt8.toNat)
theorem numAt_succ (s : ByteArray) (i j : Nat) (h : i + 1 + j < s.size) : numAt s i (j + 1) = numAt s i j * 256 + s[i + 1 + j].toNat := by
  unfold numAt
  rw [List.take_add_one, List.getElem?_drop, bl_get s _ h, List.map_append]
  exact val_snoc _ _
theorem numAt_lt (s : ByteArray) (i j : Nat) : numAt s i j < 256 ^ j := by
  unfold numAt
  refine Nat.lt_of_lt_of_le (val_lt _ (toNat_map_lt _)) (Nat.pow_le_pow_right (by decide) ?_)
  rw [List.length_map, List.length_take]; exact Nat.min_le_left _ _
theorem numAt_lt7 (s : ByteArray) (i j : Nat) (h : j < 8) : numAt s i j < 72057594037927936 := by
  have h1 := numAt_lt s i j
  have h2 : (256 : Nat) ^ j ≤ 256 ^ 7 := Nat.pow_le_pow_right (by decide) (by omega)
  have e : (256 : Nat) ^ 7 = 72057594037927936 := by decide
  omega
theorem numAt_lt8 (s : ByteArray) (i j : Nat) (h : j ≤ 8) : numAt s i j < 18446744073709551616 := by
  have h1 := numAt_lt s i j
  have h2 : (256 : Nat) ^ j ≤ 256 ^ 8 := Nat.pow_le_pow_right (by decide) (by omega)
  have e : (256 : Nat) ^ 8 = 18446744073709551616 := by decide
  omega
theorem or_byte (m x : Nat) (hm : m < 72057594037927936) (hx : x < 256) : bits .or .u64 ((m : Int) * 256) (x : Int) = (m : Int) * 256 + x :=
  bits_join .u64 64 (by decide) wraps_u64 8 _ _ (by omega) (by omega) (by omega) (by omega) (by omega) (by omega)
theorem ext_get (s : ByteArray) (i j : Nat) (h : i + 1 + j < s.size) (h' : j < (s.extract (i + 1) s.size).size) : (s.extract (i + 1) s.size)[j] = s[i + 1 + j] := by
  rw [ByteArray.getElem_extract]
set_option maxHeartbeats 2000000 in
theorem vget_any (s : ByteArray) (i : Nat) (hi : i ≤ s.size) (hs : s.size ≤ maxLen) (w : World) : Calls Try.prog 60 #[.string s, .int .i64 i] w fun e w' => e = .returned (getT (get (bl s) i)) ∧ w = w' := by
  unfold maxLen at hs
  by_cases he : i = s.size
  · subst he
    rw [get_end]
    go_enter Try.func60, Try.ntmps60
    go_wp2
    go_ret3
    exact ⟨rfl, rfl⟩
  have hil : i < s.size := by omega
  have hne : ((i : Int) == (s.size : Int)) = false := by rw [beq_eq_false_iff_ne]; omega
  have h256 := UInt8.toNat_lt s[i]
  by_cases hb : s[i].toNat < 248
  · rw [get_small s i hil hb]
    have hb2 : ((s[i].toNat : Int) < 248) := by omega
    clear he
    go_enter Try.func60, Try.ntmps60
    go_wp2
    go_ret3
    exact ⟨rfl, rfl⟩
  have hb2 : ¬ ((s[i].toNat : Int) < 248) := by omega
  obtain ⟨k, hk⟩ : ∃ k, s[i].toNat - 247 = k := ⟨_, rfl⟩
  have hk8 : k ≤ 8 := by omega
  have hk1 : 1 ≤ k := by omega
  have hb3 : (s[i].toNat : Int) - 247 = k := by omega
  by_cases hsh : s.size - (i + 1) < k
  · rw [get_short s i hil hb (by omega)]
    obtain ⟨x, hx⟩ : ∃ x, s[i].toNat = x := ⟨_, rfl⟩
    rw [hx] at h256 hb hb2 hk hb3
    have hx2 : (s[i].toNat : Int) = (x : Int) := by rw [hx]
    have HX := Lib.hid hx; clear hx
    clear he hk
    obtain rfl : x = k + 247 := by omega
    go_enter Try.func60, Try.ntmps60
    go_wp2
    go_ret3
    exact ⟨rfl, rfl⟩
  rw [get_long s i k hil hb hk (by omega)]
  have hkl : k ≤ s.size - (i + 1) := by omega
  have hnum : val ((((bl s).drop (i + 1)).take k).map UInt8.toNat) = numAt s i k := rfl
  rw [hnum]
  obtain ⟨G, hG⟩ : ∃ G, (if numAt s i k < 248 ∨ needs (numAt s i k) ≠ k then Except.error 4 else Except.ok (numAt s i k, i + 1 + k) : Except Nat (Nat × Nat)) = G := ⟨_, rfl⟩
  rw [hG]
  have HGG := Lib.hid hG; clear hG
  have hx2 : (s[i].toNat : Int) = ((k + 247 : Nat) : Int) := by omega
  have hnn : ¬ s.size - (i + 1) < k := hsh
  clear he hb hb2 hb3 hk h256 hnum
  have HNN := Lib.hid hnn; clear hnn hsh
  have q1 : decide ((i : Int) < 0) = false := decide_eq_false (by omega)
  have q2 : decide (s.size < i) = false := decide_eq_false (by omega)
  have q3 : decide ((k : Int) + 247 < 248) = false := decide_eq_false (by omega)
  go_enter Try.func60, Try.ntmps60
  go_wp2
  go_loop [9, 50] (fun v9 v50 => ∃ j : Nat, j ≤ k ∧ v50 = .int .i64 j ∧ v9 = .int .u64 (numAt s i j)) (fun _ v50 => k - (intOf v50).toNat)
  case atStart => exact ⟨0, Nat.zero_le _, rfl, rfl⟩
  case round =>
    obtain ⟨j, hj, rfl, rfl⟩ := hrel
    by_cases hjk : j < k
    · have h7 := numAt_lt7 s i j (by omega)
      obtain ⟨m, hm⟩ : ∃ m, numAt s i j = m := ⟨_, rfl⟩
      have hxs : j < (s.extract (i + 1) s.size).size := by rw [ByteArray.size_extract]; omega
      obtain ⟨y, hy⟩ : ∃ y, (s.extract (i + 1) s.size)[j].toNat = y := ⟨_, rfl⟩
      have hy256 : y < 256 := by rw [← hy]; exact UInt8.toNat_lt _
      have hs := numAt_succ s i j (by omega)
      rw [← ext_get s i j (by omega) hxs, hy, hm] at hs
      have HS := Lib.hid hs; clear hs
      rw [hm] at h7
      rw [hm]
      have HM := Lib.hid hm; clear hm
      have hwr : IntKind.u64.wrap (y : Int) = y := wraps_u64 _ (by omega) (by omega)
      have hor := or_byte m y h7 hy256
      go_wp2
      go_round
      case rel => exact ⟨j + 1, by omega, by go_num, by rw [HS.out]; go_num⟩
      case measure => simp [intOf]; omega
    · obtain rfl : j = k := by omega
      have h8 := numAt_lt8 s i j (by omega)
      obtain ⟨m, hm⟩ : ∃ m, numAt s i j = m := ⟨_, rfl⟩
      rw [hm] at h8
      rw [hm]
      have HM := Lib.hid hm; clear hm
      by_cases hb : m < 248
      · have hb2 : decide ((m : Int) < 248) = true := decide_eq_true (by omega)
        have HB := Lib.hid hb; clear hb
        go_wp2
        go_ret3
        exact ⟨by rw [← HGG.out, HM.out, if_pos (.inl HB.out)]; rfl, rfl⟩
      · have hb2 : decide ((m : Int) < 248) = false := decide_eq_false (by omega)
        have hnd := vneeds_any m h8
        obtain ⟨r, hr⟩ : ∃ r, needs m = r := ⟨_, rfl⟩
        rw [hr] at hnd
        have HND := Lib.hid hnd; clear hnd
        by_cases hrj : r = j
        · subst hrj
          have HB := Lib.hid hb; clear hb
          have HR := Lib.hid hr; clear hr
          go_wp2_with fail
          refine (HND.out _).mono ?_
          rintro e w2 ⟨rfl, rfl⟩
          go_wp2
          go_ret3
          exact ⟨by rw [← HGG.out, HM.out, HR.out, if_neg (by have := HB.out; simp; omega)]; rfl, rfl⟩
        · have hne : ((r : Int) != (j : Int)) = true := by simpa using fun e => hrj (by omega)
          have HRJ := Lib.hid hrj; clear hrj
          have HB := Lib.hid hb; clear hb
          have HR := Lib.hid hr; clear hr
          go_wp2_with fail
          refine (HND.out _).mono ?_
          rintro e w2 ⟨rfl, rfl⟩
          go_wp2
          go_ret3
          exact ⟨by rw [← HGG.out, HM.out, HR.out, if_pos (.inr HRJ.out)]; rfl, rfl⟩
end Vn
end Go.Proofs.Ythgdkhgpboaplaa
