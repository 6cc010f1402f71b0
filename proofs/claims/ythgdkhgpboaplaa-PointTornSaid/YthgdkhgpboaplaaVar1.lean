
/- varnum: what the program and the document compute of a number. -/
import Derived.Test.YthgdkhgpboaplaaSlice
import Derived.Test.YthgdkhgpboaplaaOpsPlain
import Derived.Test.YthgdkhgpboaplaaChecked
import Derived.WalkKit
import Derived.WalkSpells
import Derived.WalkMore
import Derived.WalkLawsBesides
import Derived.BigQuiet
import Derived.Deep.QuietTactic
import Derived.Lib.Hide
import Derived.Lib.UnsafeStr
import Derived.Deep.OwnRows
import Derived.Lib.SlBytesRow
set_option linter.unusedSimpArgs false
set_option linter.unusedVariables false
namespace Go.Proofs.Ythgdkhgpboaplaa
open Go.RowKit
set_option maxRecDepth 100000
namespace Vn
open Ops (ofL bl)
theorem elemU8 : Elem Try.prog 75 5 1 1 :=
  by
  obtain ⟨i0, hi, hz0, hz1, hz2⟩ := info_parts (show (Try.prog.info? 5).map (fun i => (i.zero, i.size, i.bytes)) = some (some (.int .u8 0), 1, 1) by kernel_rfl)
  exact ⟨Try.underlying75, ⟨i0, _, hi, hz0, hz1, hz2, rfl⟩, by decide⟩
/-- A slice of the call's own: its cells, and that its row is new. -/
def NewSl (e : TypeId) (size B : Nat) (w : World) (A : Option Addr) (n c : Nat) (xs : List Value) : Prop :=
  w.ownsRow 0 e size (.slice A n c) n xs ∧ ∀ k, (Value.slice A n c).ownBlock = some k → B ≤ k
theorem NewSl.kept {e : TypeId} {size B n c : Nat} {w w' : World} {A : Option Addr} {xs : List Value} (h : NewSl e size B w A n c xs) (hk : Kept NoF w w') : NewSl e size B w' A n c xs :=
  ⟨own_kept h.1 hk (fun _ _ x => x), h.2⟩
theorem NewSl.snoc {e : TypeId} {size B n c n' c' : Nat} {w w1 w' : World} {A A' : Option Addr} {xs ys : List Value} (h : NewSl e size B w A n c xs) (hB : B ≤ w1.heap.size) (ho : w'.ownsRow 0 e size (.slice A' n' c') n' ys)
    (ha : (Value.slice A' n' c').ownBlock = (Value.slice A n c).ownBlock ∨ (Value.slice A' n' c').ownBlock = some w1.heap.size) : NewSl e size B w' A' n' c' ys :=
  ⟨ho, fun k hk => by
    rcases ha with e1 | e1
    · exact h.2 k (e1.symm.trans hk)
    · rw [hk] at e1; injection e1 with e1; omega⟩
theorem conv_one (W : World) (b : Nat) (n : Int) (c : Nat) (hn : 0 ≤ n) (hn' : n < 256) (hc : W.cell? ⟨b, 0, none⟩ = some (.int .u8 n)) :
    (convert 75 9 (.slice (some ⟨b, 0, none⟩) 1 c)).run Try.prog W = .ok (.string ⟨#[UInt8.ofNat n.toNat]⟩) W := by
  refine Lib.run_convert_whole (P := Try.prog) W 75 5 9 Try.underlying75 Try.underlying5 Try.underlying9 b 0 ⟨#[UInt8.ofNat n.toNat]⟩ ?_ c
  intro i hi
  have h0 : i = 0 := by have : i < 1 := hi; omega
  subst h0
  rw [Nat.add_zero, hc]
  show _ = some (Value.int IntKind.u8 ((UInt8.ofNat n.toNat).toNat : Int))
  congr 2
  simp
  omega
theorem conv_row (W : World) (b : Nat) (l : List UInt8) (c : Nat) (h : ∀ (i : Nat) x, l[i]? = some x → W.cell? ⟨b, i, none⟩ = some (.int .u8 x.toNat)) :
    (convert 75 9 (.slice (some ⟨b, 0, none⟩) l.length c)).run Try.prog W = .ok (.string (ofL l)) W := by
  have hs : (ofL l).size = l.length := by simp [ofL, ByteArray.size]
  rw [← hs]
  refine Lib.run_convert_whole (P := Try.prog) W 75 5 9 Try.underlying75 Try.underlying5 Try.underlying9 b 0 (ofL l) ?_ c
  intro i hi
  have hi' : i < l.length := by omega
  rw [Nat.zero_add, h i l[i] (List.getElem?_eq_getElem hi')]
  rfl
theorem vneeds_any (n : Nat) (hn : n < 18446744073709551616) (w : World) : Calls Try.prog 59 #[.int .u64 n] w fun e w' => e = .returned (.int .i64 (needs n)) ∧ w = w' := by
  have h8 := needs_le8 hn
  go_enter Try.func59, Try.ntmps59
  go_wp2
  go_step3
  go_wp2
  go_step3
  go_wp2
  go_loop [0, 3] (fun v0 v3 => ∃ m k : Nat, v0 = .int .u64 m ∧ v3 = .int .i64 k ∧ m < 18446744073709551616 ∧ k + needs m = needs n) (fun v0 _ => (intOf v0).toNat)
  case atStart => exact ⟨n, 0, rfl, rfl, hn, by omega⟩
  case round =>
    obtain ⟨m, k, rfl, rfl, hm, he⟩ := hrel
    have hp := needs_pos m
    have hk : k < 8 := by omega
    by_cases h0 : m < 256
    · have e1 := needs_small h0
      have hz : m / 256 = 0 := by omega
      have hz2 : (m : Int) / 256 = 0 := by omega
      have hkn : k + 1 = needs n := by omega
      have HE := Lib.hid he; clear he
      have HK := Lib.hid hkn; clear hkn e1 hp h8
      go_wp2
      go_ret
      exact ⟨by rw [← HK.out]; simp, rfl⟩
    · have e1 := needs_big h0
      have hz : ¬ m / 256 = 0 := by omega
      have hz2 : ¬ (m : Int) / 256 = 0 := by omega
      have HE := Lib.hid he; clear he
      have HE1 := Lib.hid e1; clear e1 hp h8
      go_wp2
      go_round
      case rel => exact ⟨m / 256, k + 1, by go_num, by go_num, by omega, by rw [← HE.out, HE1.out]; omega⟩
      case measure => simp [intOf]; omega
theorem add_row (g i : Nat) : ((⟨g, 0, none⟩ : Addr).add i) = ⟨g, i, none⟩ := by unfold Addr.add; split <;> simp_all
theorem byteCells_get (l : List UInt8) (i : Nat) (x : UInt8) (h : l[i]? = some x) : (Lib.byteCells l)[i]? = some (.int .u8 x.toNat) := by simp [Lib.byteCells, h]
set_option maxHeartbeats 2000000 in
theorem vput_any (n : Nat) (hn : n < 18446744073709551616) (w : World) : Calls Try.prog 45 #[.int .u64 n] w fun e w' => e = .returned (.string (ofL (put n))) ∧ Kept NoF w w' := by
  by_cases hs : n < 248
  · have hp : put n = [UInt8.ofNat n] := put_small hs
    rw [hp]
    have hcv := conv_one (w.alloc (Obj.cells #[Value.int .u8 n] 5)) w.heap.size n 1 (by omega) (by omega) (by simp)
    have hs' : (n : Int) < 248 := by omega
    clear hp
    go_enter Try.func45, Try.ntmps45
    go_wp2
    go_ret
    exact ⟨rfl, (Kept.refl _ _).alloc _⟩
  · obtain ⟨i0, hi, hz0, hz1, hz2⟩ := info_parts (show (Try.prog.info? 5).map (fun i => (i.zero, i.size, i.bytes)) = some (some (.int .u8 0), 1, 1) by kernel_rfl)
    have hn8 := needs_le8 hn
    have hn1 := needs_pos n
    have hnd := vneeds_any n hn
    have hp := put_big hs
    obtain ⟨k, hk⟩ : ∃ k, needs n = k := ⟨_, rfl⟩
    rw [hk] at hn8 hn1 hnd hp
    have HP := Lib.hid hp; clear hp hk
    have HN := Lib.hid hnd; clear hnd
    have hs' : ¬ (n : Int) < 248 := by omega
    go_enter Try.func45, Try.ntmps45
    go_wp2_with fail
    refine (HN.out _).mono ?_
    rintro e w2 ⟨rfl, rfl⟩
    go_wp2_with (refine wpList_make_own _ rfl _ _ 75 rfl 0 5 i0 (.int .u8 0) 1 Try.underlying75 hi hz0 hz1 .i64 .i64 9 9 rfl rfl rfl (by rw [hz2]; decide) (by decide) (Nat.zero_le _) ?_)
    intro w3 hown hg
    have hk3 : Kept NoF w w3 := (Kept.refl _ _).grown hg (fun k hk => by cases hk)
    have hz3 : w.heap.size ≤ w3.heap.size := hk3.size
    have hrow : NewSl 5 1 w.heap.size w3 (some ⟨w.heap.size, 0, none⟩) 0 9 [] := ⟨hown, fun k hk => new_row hk (Nat.le_refl _)⟩
    have HROW := Lib.hid hrow; clear hrow hown hg
    have HK3 := Lib.hid hk3; clear hk3
    go_wp2_with (at_builtin; refine list_append_src elemU8 (.tmp 15) (.tmp 19) rfl rfl (Value.slice _ 0 9) rfl ((HROW.out.kept ((Kept.refl _ _).alloc _)).1) 1 rfl (Src.of_has (m := 1) (cs := #[.int .u8 (247 + k)]) (Has.new_at _ 5 _ (by simp)) rfl) (by intro u hu; simp at hu; subst hu; rfl) (by decide) (by decide) ?_; intro A c w4 ho4 hg4 ha4)
    have hz4 := HK3.out.size
    have hn3 : NewSl 5 1 w.heap.size w4 A 1 c [.int .u8 (247 + k)] := HROW.out.snoc (by simp; omega) ho4 ha4
    have hk4 : Kept NoF w w4 := (HK3.out.alloc _).grown hg4 (fun k hk => .inr (HROW.out.2 k hk))
    clear ho4 hg4 ha4
    have HN3 := Lib.hid hn3; clear hn3
    have HK4 := Lib.hid hk4; clear hk4
    go_loopw [4, 22] (fun v4 v22 wr => ∃ (i : Nat) (A : Option Addr) (c : Nat), i ≤ k ∧ v22 = .int .i64 i ∧ v4 = .slice A (1 + i) c ∧ NewSl 5 1 w.heap.size wr A (1 + i) c (Lib.byteCells (byt ((247 + k) :: (be k n).take i))) ∧ Kept NoF w wr) (fun _ v22 _ => k - (intOf v22).toNat)
    case atStart =>
      refine ⟨0, A, c, Nat.zero_le _, rfl, rfl, ?_, HK4.out⟩
      have e : Lib.byteCells (byt ((247 + k) :: (be k n).take 0)) = [.int .u8 (247 + k)] := by
        simp [Lib.byteCells, byt]; omega
      rw [e]
      exact HN3.out
    case round =>
      obtain ⟨i, A, c, hi, rfl, rfl, hrow, hk⟩ := hrel
      have HROW := Lib.hid hrow; clear hrow
      have HKR := Lib.hid hk; clear hk
      by_cases hik : i < k
      · have e1 : ((8 : Int) * (↑k - 1 - ↑i)) = ((8 * (k - 1 - i) : Nat) : Int) := by omega
        have e2 : 8 * (k - 1 - i) < 64 := by omega
        have e3 : (Value.int .u8 ((n : Int) / 2 ^ (8 * (k - 1 - i)) % 256)) = .int .u8 ((UInt8.ofNat (n / 256 ^ (k - 1 - i) % 256)).toNat : Nat) := by
          have h2 : ((2 : Int) ^ (8 * (k - 1 - i))) = ((256 ^ (k - 1 - i) : Nat) : Int) := by
            have : (256 : Nat) ^ (k - 1 - i) = 2 ^ (8 * (k - 1 - i)) := by rw [Nat.pow_mul]
            rw [this, Int.natCast_pow]; rfl
          have h3 : (UInt8.ofNat (n / 256 ^ (k - 1 - i) % 256)).toNat = n / 256 ^ (k - 1 - i) % 256 := by rw [UInt8.toNat_ofNat']; omega
          rw [h2, h3]
          norm_cast
        have e4 : Lib.byteCells (byt ((247 + k) :: (be k n).take (i + 1))) = Lib.byteCells (byt ((247 + k) :: (be k n).take i)) ++ [.int .u8 ((n : Int) / 2 ^ (8 * (k - 1 - i)) % 256)] := by
          rw [be_take_succ k n i hik, e3]
          simp [Lib.byteCells, byt]
        have HE4 := Lib.hid e4; clear e4 e3
        have hS : 1 + i + 1 ≤ maxLen := by unfold maxLen; omega
        have hS2 : (1 + i + 1) * 1 ≤ 140737488355328 := by omega
        have HS := Lib.hid hS; clear hS
        have HS2 := Lib.hid hS2; clear hS2
        have hzr := HKR.out.size
        have HZR := Lib.hid hzr; clear hzr
        go_wp2_with (at_builtin; refine list_append_src elemU8 (.tmp 25) (.tmp 34) rfl rfl (Value.slice A (1 + i) c) rfl ((HROW.out.kept ((Kept.refl _ _).alloc _)).1) 1 rfl (Src.of_has (m := 1) (cs := #[.int .u8 ((n : Int) / 2 ^ (8 * (k - 1 - i)) % 256)]) (Has.new_at _ 5 _ (by simp)) rfl) (by intro u hu; simp at hu; subst hu; rfl) HS.out HS2.out ?_; intro A5 c5 w5 ho5 hg5 ha5)
        have hn5 : NewSl 5 1 w.heap.size w5 A5 (1 + i + 1) c5 (Lib.byteCells (byt ((247 + k) :: (be k n).take (i + 1)))) := by
          rw [HE4.out]
          exact HROW.out.snoc (by simp; have := HZR.out; omega) ho5 ha5
        have hk5 : Kept NoF w w5 := (HKR.out.alloc _).grown hg5 (fun k hk => .inr (HROW.out.2 k hk))
        clear ho5 hg5 ha5
        have HN5 := Lib.hid hn5; clear hn5
        have HK5 := Lib.hid hk5; clear hk5
        go_wp2
        go_roundw
        case rel => exact ⟨i + 1, A5, c5, by omega, by go_num, rfl, HN5.out, HK5.out⟩
        case measure => simp [intOf]; omega
      · obtain rfl : i = k := by omega
        have hform := HROW.out.1.form (by omega)
        obtain ⟨b, cap, hv, _, hlt⟩ := hform
        injection hv with hA _ hC
        subst hA
        subst hC
        have hlen : (byt ((247 + i) :: (be i n).take i)).length = 1 + i := by simp [byt, be_length]; omega
        have hcv := conv_row wr b (byt ((247 + i) :: (be i n).take i)) c (fun j x hx => by
          have := HROW.out.1.cells (g := b) rfl j _ (byteCells_get _ _ _ hx)
          rwa [add_row] at this)
        rw [hlen, List.take_of_length_le (by rw [be_length]; exact Nat.le_refl _), ← HP.out] at hcv
        go_wp2
        go_ret
        exact ⟨rfl, HKR.out⟩
theorem made_eq (m : Nat) : (madeCells #[Value.int .u8 0] m) = (List.replicate m (.int .u8 0)).toArray := by
  have h := toList_madeCells_one (.int .u8 0) m
  rw [← h, Array.toArray_toList]
theorem set_tail (u : Value) (j : Nat) (z d : Value) (T T' : List Value) (h : T' = d :: T) : (u :: (List.replicate (j + 1) z ++ T)).toArray.setIfInBounds (j + 1) d = (u :: (List.replicate j z ++ T')).toArray := by
  subst h
  rw [List.setIfInBounds_toArray]
  congr 1
  rw [List.set_cons_succ, List.replicate_succ', List.append_assoc, List.set_append_right _ _ (by simp)]
  simp
end Vn
end Go.Proofs.Ythgdkhgpboaplaa
