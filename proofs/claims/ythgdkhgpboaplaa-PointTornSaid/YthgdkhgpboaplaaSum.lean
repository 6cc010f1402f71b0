
/- Sums and marks. -/
import Derived.Test.YthgdkhgpboaplaaVar1
set_option linter.unusedSimpArgs false
set_option linter.unusedVariables false
namespace Go.Proofs.Ythgdkhgpboaplaa
open Go.RowKit
set_option maxRecDepth 100000
namespace Fr
open Vn
def tab : List Nat := [0, 498536548, 997073096, 651767980, 1994146192, 1802195444, 1303535960, 1342533948, 3988292384, 4027552580, 3604390888, 3412177804, 2607071920, 2262029012, 2685067896, 3183342108]
def hN (x : Nat) : Nat := tab.getD (x &&& 15) 0
theorem hN_lt (x : Nat) : hN x < 4294967296 := by
  unfold hN
  have h : x &&& 15 < 16 := Nat.lt_of_le_of_lt Nat.and_le_right (by decide)
  generalize x &&& 15 = k at h
  have h2 : ∀ k : Fin 16, tab.getD k.val 0 < 4294967296 := by decide
  exact h2 ⟨k, h⟩
theorem tab_get (k : Nat) (h : k < 16) : ([Value.int .u32 0, .int .u32 498536548, .int .u32 997073096, .int .u32 651767980, .int .u32 1994146192, .int .u32 1802195444, .int .u32 1303535960, .int .u32 1342533948, .int .u32 3988292384, .int .u32 4027552580, .int .u32 3604390888, .int .u32 3412177804, .int .u32 2607071920, .int .u32 2262029012, .int .u32 2685067896, .int .u32 3183342108][k]'h) = .int .u32 ((tab.getD k 0 : Nat) : Int) := by
  have h2 : ∀ k : Fin 16, ([0, 498536548, 997073096, 651767980, 1994146192, 1802195444, 1303535960, 1342533948, 3988292384, 4027552580, 3604390888, 3412177804, 2607071920, 2262029012, 2685067896, 3183342108] : List Int)[k.val]'k.isLt = ((tab.getD k.val 0 : Nat) : Int) := by decide
  have h3 := h2 ⟨k, h⟩
  rw [← h3]
  exact (List.getElem_map (Value.int .u32) (l := [0, 498536548, 997073096, 651767980, 1994146192, 1802195444, 1303535960, 1342533948, 3988292384, 4027552580, 3604390888, 3412177804, 2607071920, 2262029012, 2685067896, 3183342108]) (h := h))
theorem halves_any (w : World) (x : Nat) (hx : x < 4294967296) : Calls Try.prog 72 #[.int .u32 (x : Int)] w fun e w' => e = .returned (.int .u32 (hN x : Nat)) ∧ Kept NoF w w' := by
  have hb : bits .and .u32 (x : Int) 15 = ((x &&& 15 : Nat) : Int) := u32_and_nat x 15 hx (by decide)
  have hlt : x &&& 15 < 16 := Nat.lt_of_le_of_lt Nat.and_le_right (by decide)
  have hr : hN x = tab.getD (x &&& 15) 0 := rfl
  rw [hr]
  obtain ⟨k, hk⟩ : ∃ k, x &&& 15 = k := ⟨_, rfl⟩
  rw [hk] at hb hlt ⊢
  have hlt' : (k : Int) < 16 := by omega
  have hg := tab_get k hlt
  have HR := Lib.hid hg
  clear hr hk hx hg
  go_enter Try.func72, Try.ntmps72
  go_wp2
  go_ret
  exact ⟨by rw [← HR.out]; rfl, by (repeat' (first | with_reducible exact Kept.refl _ _ | with_reducible refine Kept.put ?_ ?_ | with_reducible refine Kept.drewN ?_ _ | with_reducible refine Kept.drew ?_ | with_reducible refine Kept.alloc ?_ _ | (fail) | (right; simp; done)))⟩
def stN (w b : Nat) : Nat := ((w ^^^ b) / 16 ^^^ hN (w ^^^ b)) / 16 ^^^ hN ((w ^^^ b) / 16 ^^^ hN (w ^^^ b))
theorem xor_lt {a b : Nat} (ha : a < 4294967296) (hb : b < 4294967296) : a ^^^ b < 4294967296 := Nat.xor_lt_two_pow (n := 32) ha hb
def runN (s : List UInt8) : Nat := s.foldl (fun w b => stN w b.toNat) 4294967295
theorem stN_lt {w b : Nat} (hw : w < 4294967296) (hb : b < 256) : stN w b < 4294967296 := by
  unfold stN
  have h1 : w ^^^ b < 4294967296 := xor_lt hw (by omega)
  have h2 : (w ^^^ b) / 16 ^^^ hN (w ^^^ b) < 4294967296 := xor_lt (by omega) (hN_lt _)
  exact xor_lt (by omega) (hN_lt _)
theorem runN_lt (s : List UInt8) : runN s < 4294967296 := by
  have h : ∀ (l : List UInt8) (w : Nat), w < 4294967296 → l.foldl (fun w b => stN w b.toNat) w < 4294967296 := by
    intro l
    induction l with
    | nil => intro w h; exact h
    | cons b l ih => intro w h; exact ih _ (stN_lt h (UInt8.toNat_lt b))
  exact h s _ (by decide)
theorem runN_snoc (s : List UInt8) (b : UInt8) : runN (s ++ [b]) = stN (runN s) b.toNat := by simp [runN]
def sumN (s : List UInt8) : Nat := 4294967295 ^^^ runN s
theorem sumN_lt (s : List UInt8) : sumN s < 4294967296 := xor_lt (by decide) (runN_lt s)
set_option maxHeartbeats 2000000 in
theorem sum_any (w : World) (s : ByteArray) (hs : s.size ≤ 1000000000000) : Calls Try.prog 62 #[.string s] w fun e w' => e = .returned (.int .u32 (sumN s.data.toList : Nat)) ∧ Kept NoF w w' := by
  obtain ⟨R, hR⟩ : ∃ R, sumN s.data.toList = R := ⟨_, rfl⟩
  rw [hR]
  have HR := Lib.hid hR; clear hR
  go_enter Try.func62, Try.ntmps62
  go_wp2_with fail
  go_loopw [3, 4, 7] (fun v3 _ v7 wr => ∃ i : Nat, i ≤ s.size ∧ v7 = .int .i64 i ∧ v3 = .int .u32 (runN (s.data.toList.take i) : Nat) ∧ Kept NoF w wr) (fun _ _ v7 _ => s.size - (RowKit.intOf v7).toNat)
  case atStart => exact ⟨0, Nat.zero_le _, rfl, rfl, Kept.refl _ _⟩
  case round =>
    obtain ⟨i, hi, rfl, rfl, hk⟩ := hrel
    have HK := Lib.hid hk; clear hk
    by_cases hil : i < s.size
    · have hget : s.data.toList[i]? = some s[i] := by
        rw [Array.getElem?_toList]
        exact Array.getElem?_eq_getElem (xs := s.data) hil
      have hst : runN (s.data.toList.take (i + 1)) = stN (runN (s.data.toList.take i)) (s[i]).toNat := by
        rw [List.take_add_one, hget]
        exact runN_snoc _ _
      have hlt := runN_lt (s.data.toList.take i)
      obtain ⟨W, hW⟩ : ∃ W, runN (s.data.toList.take i) = W := ⟨_, rfl⟩
      rw [hW] at hst hlt
      rw [hW]
      obtain ⟨b, hb⟩ : ∃ b, (s[i]).toNat = b := ⟨_, rfl⟩
      have hb256 : b < 256 := by rw [← hb]; exact UInt8.toNat_lt _
      rw [hb] at hst
      have hx1 : bits .xor .u32 (W : Int) (b : Int) = ((W ^^^ b : Nat) : Int) := u32_xor_nat W b hlt (by omega)
      have hl1 : W ^^^ b < 4294967296 := xor_lt hlt (by omega)
      unfold stN at hst
      obtain ⟨X, hX⟩ : ∃ X, W ^^^ b = X := ⟨_, rfl⟩
      rw [hX] at hst hx1 hl1
      have hh1 := fun W => halves_any W X hl1
      have hl2 := hN_lt X
      obtain ⟨H, hH⟩ : ∃ H, hN X = H := ⟨_, rfl⟩
      rw [hH] at hst hl2
      simp only [hH] at hh1
      have hx2 : bits .xor .u32 ((X : Int) / 16) (H : Int) = ((X / 16 ^^^ H : Nat) : Int) := by
        have h := u32_xor_nat (X / 16) H (by omega) hl2
        simpa using h
      have hl3 : X / 16 ^^^ H < 4294967296 := xor_lt (by omega) hl2
      obtain ⟨Y, hY⟩ : ∃ Y, X / 16 ^^^ H = Y := ⟨_, rfl⟩
      rw [hY] at hst hx2 hl3
      have hh2 := fun W => halves_any W Y hl3
      have hl4 := hN_lt Y
      obtain ⟨G, hG⟩ : ∃ G, hN Y = G := ⟨_, rfl⟩
      rw [hG] at hst hl4
      simp only [hG] at hh2
      have hx3 : bits .xor .u32 ((Y : Int) / 16) (G : Int) = ((Y / 16 ^^^ G : Nat) : Int) := by
        have h := u32_xor_nat (Y / 16) G (by omega) hl4
        simpa using h
      obtain ⟨Z, hZ⟩ : ∃ Z, Y / 16 ^^^ G = Z := ⟨_, rfl⟩
      rw [hZ] at hst hx3
      have HST := Lib.hid hst; have HH1 := Lib.hid hh1; have HH2 := Lib.hid hh2
      clear hst hW hget hX hH hY hG hZ hh1 hh2 hl1 hl2 hl3 hl4 hlt
      go_wp2_with fail
      refine (HH1.out _).mono ?_
      rintro e w1 ⟨rfl, hk⟩
      have HK1 := Lib.hid (HK.out.then hk); clear hk
      go_wp2_with fail
      refine (HH2.out _).mono ?_
      rintro e w2 ⟨rfl, hk⟩
      have HK2 := Lib.hid (HK1.out.then hk); clear hk
      go_wp2
      go_roundw
      case rel => exact ⟨i + 1, by omega, by go_num, by rw [HST.out], HK2.out⟩
      case measure => simp [RowKit.intOf]; omega
    · obtain rfl : i = s.size := by omega
      have htk : s.data.toList.take s.size = s.data.toList := List.take_of_length_le (Nat.le_of_eq Array.length_toList)
      have hx1 : bits .xor .u32 IntKind.u32.max ((runN s.data.toList : Nat) : Int) = ((sumN s.data.toList : Nat) : Int) := u32_xor_nat 4294967295 (runN s.data.toList) (by decide) (runN_lt _)
      rw [htk]
      rw [HR.out] at hx1
      clear htk
      go_wp2
      go_ret
      exact ⟨rfl, HK.out⟩
end Fr
end Go.Proofs.Ythgdkhgpboaplaa
