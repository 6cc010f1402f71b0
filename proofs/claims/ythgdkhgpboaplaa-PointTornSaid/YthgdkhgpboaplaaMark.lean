
/- A sum's bytes. -/
import Derived.Test.YthgdkhgpboaplaaSum
set_option linter.unusedSimpArgs false
set_option linter.unusedVariables false
namespace Go.Proofs.Ythgdkhgpboaplaa
open Go.RowKit
set_option maxRecDepth 100000
namespace Fr
open Vn Ops
def mb (c i : Nat) : Nat := c / 256 ^ (3 - i) % 256
def mkN (c : Nat) : List UInt8 := [UInt8.ofNat (mb c 0), UInt8.ofNat (mb c 1), UInt8.ofNat (mb c 2), UInt8.ofNat (mb c 3)]
def mcells (c i : Nat) : Array Value := #[.int .u8 (if 0 < i then mb c 0 else 0 : Nat), .int .u8 (if 1 < i then mb c 1 else 0 : Nat), .int .u8 (if 2 < i then mb c 2 else 0 : Nat), .int .u8 (if 3 < i then mb c 3 else 0 : Nat)]
set_option maxHeartbeats 2000000 in
theorem mark_any (w : World) (c : Nat) (hc : c < 4294967296) : Calls Try.prog 61 #[.int .u32 (c : Int)] w fun e w' => e = .returned (.string (ofL (mkN c))) ∧ Kept NoF w w' := by
  go_enter Try.func61, Try.ntmps61
  go_wp2_with fail
  have hn0 := Has.new w 128 #[.int .u8 0, .int .u8 0, .int .u8 0, .int .u8 0]
  have HN := Lib.hid hn0; clear hn0
  go_loopw [4, 5] (fun _ v5 wr => ∃ i : Nat, i ≤ 4 ∧ v5 = .int .i64 i ∧ Has wr w.heap.size 128 (mcells c i) ∧ Kept NoF w wr) (fun _ v5 _ => 4 - (RowKit.intOf v5).toNat)
  case atStart => exact ⟨0, Nat.zero_le _, rfl, HN.out, by (repeat' (first | with_reducible exact Kept.refl _ _ | with_reducible refine Kept.put ?_ ?_ | with_reducible refine Kept.drewN ?_ _ | with_reducible refine Kept.drew ?_ | with_reducible refine Kept.alloc ?_ _ | (fail) | (right; simp; done)))⟩
  case round =>
    obtain ⟨i, hi, rfl, hh, hk⟩ := hrel
    have HK := Lib.hid hk; have HH := Lib.hid hh; clear hk hh
    by_cases hi4 : i < 4
    · have hi4' : i = 0 ∨ i = 1 ∨ i = 2 ∨ i = 3 := by omega
      rcases hi4' with rfl | rfl | rfl | rfl
      · have h0 := HH.out.cell 0
        have f0 := HH.out.frozen 0
        simp only [mcells, List.getElem?_toArray, List.getElem?_cons_zero] at h0
        have e0 : (c : Int) / 16777216 = ((mb c 0 : Nat) : Int) := by show _ = ((c / 16777216 % 256 : Nat) : Int); omega
        go_wp2_with fail
        refine ⟨⟨1, by omega, rfl, ?_, HK.out.put (.inr (Nat.le_refl _))⟩, by simp [RowKit.intOf]⟩
        exact HH.out.put_of rfl
      · have h0 := HH.out.cell 1
        have f0 := HH.out.frozen 1
        simp only [mcells, List.getElem?_toArray, List.getElem?_cons_zero, List.getElem?_cons_succ] at h0
        have e0 : (c : Int) / 65536 % 256 = ((mb c 1 : Nat) : Int) := by show _ = ((c / 65536 % 256 : Nat) : Int); omega
        go_wp2_with fail
        refine ⟨⟨2, by omega, rfl, ?_, HK.out.put (.inr (Nat.le_refl _))⟩, by simp [RowKit.intOf]⟩
        exact HH.out.put_of rfl
      · have h0 := HH.out.cell 2
        have f0 := HH.out.frozen 2
        simp only [mcells, List.getElem?_toArray, List.getElem?_cons_zero, List.getElem?_cons_succ] at h0
        have e0 : (c : Int) / 256 % 256 = ((mb c 2 : Nat) : Int) := by show _ = ((c / 256 % 256 : Nat) : Int); omega
        go_wp2_with fail
        refine ⟨⟨3, by omega, rfl, ?_, HK.out.put (.inr (Nat.le_refl _))⟩, by simp [RowKit.intOf]⟩
        exact HH.out.put_of rfl
      · have h0 := HH.out.cell 3
        have f0 := HH.out.frozen 3
        simp only [mcells, List.getElem?_toArray, List.getElem?_cons_zero, List.getElem?_cons_succ] at h0
        have e0 : (c : Int) % 256 = ((mb c 3 : Nat) : Int) := by show _ = ((c / 1 % 256 : Nat) : Int); omega
        go_wp2_with fail
        refine ⟨⟨4, by omega, rfl, ?_, HK.out.put (.inr (Nat.le_refl _))⟩, by simp [RowKit.intOf]⟩
        exact HH.out.put_of rfl
    · obtain rfl : i = 4 := by omega
      have hcv := conv_row wr w.heap.size (mkN c) 4 (fun j x hx => by
        have hj : j < 4 := (List.getElem?_eq_some_iff.1 hx).1
        have hm : ∀ j, mb c j < 256 := fun j => Nat.mod_lt _ (by decide)
        have hx' : x = UInt8.ofNat (mb c j) := by
          have : j = 0 ∨ j = 1 ∨ j = 2 ∨ j = 3 := by omega
          rcases this with rfl | rfl | rfl | rfl <;> (simp [mkN] at hx; exact hx.symm)
        have hxn : (x.toNat : Int) = ((mb c j : Nat) : Int) := by
          rw [hx']
          have := hm j
          simp only [UInt8.toNat_ofNat']
          rw [Nat.mod_eq_of_lt (by simpa using this)]
        rw [HH.out.cell j, hxn]
        have : j = 0 ∨ j = 1 ∨ j = 2 ∨ j = 3 := by omega
        rcases this with rfl | rfl | rfl | rfl <;> rfl)
      rw [show (mkN c).length = 4 from rfl] at hcv
      go_wp2_with fail
      go_ret
      exact ⟨rfl, HK.out⟩
end Fr
end Go.Proofs.Ythgdkhgpboaplaa
