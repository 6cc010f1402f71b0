/- Entries: how much, how many are stamped, twins, sameness. -/
import Derived.Test.YtnmlemciiigjcaaEnt0
import Derived.Test.YtnmlemciiigjcaaOpsSame
import Derived.Deep.RegionHeld3
import Derived.ChangeKeysEq
set_option linter.unusedSimpArgs false
set_option linter.unusedVariables false
namespace Go.Proofs.Ytnmlemciiigjcaa
open Go.RowKit
set_option maxRecDepth 100000
namespace Ent
open Ops
def muchAt (l : List EntR) (i : Nat) : Nat := l.length + ((l.take i).map fun e => e.ops.length).sum
def muchL (l : List EntR) : Nat := muchAt l 200
theorem sum_le (l : List EntR) (M : Nat) (h : ∀ e ∈ l, e.ops.length ≤ M) : (l.map fun e => e.ops.length).sum ≤ l.length * M := by
  induction l with
  | nil => simp
  | cons a l ih =>
    have h1 := h a (by simp)
    have h2 := ih fun e he => h e (by simp [he])
    simp only [List.map_cons, List.sum_cons, List.length_cons, Nat.succ_mul]
    omega
theorem muchAt_succ {l : List EntR} {i : Nat} {e : EntR} (h : l[i]? = some e) : muchAt l (i + 1) = muchAt l i + e.ops.length := by
  unfold muchAt
  rw [List.take_add_one, h]
  simp
  omega
theorem muchAt_all {l : List EntR} {i : Nat} (h : i = l.length ∨ i = 200) (hi : i ≤ l.length) (hi2 : i ≤ 200) : muchAt l i = muchL l := by
  unfold muchL muchAt
  rcases h with rfl | rfl
  · rw [List.take_of_length_le (Nat.le_refl _), List.take_of_length_le hi2]
  · rfl
theorem muchL_small {l : List EntR} (h : ¬ 100 < muchL l) : l.length ≤ 100 ∧ ∀ e ∈ l, e.ops.length ≤ 100 := by
  unfold muchL muchAt at h
  have h1 : l.length ≤ 100 := by omega
  refine ⟨h1, fun e he => ?_⟩
  rw [List.take_of_length_le (by omega)] at h
  have h2 : e.ops.length ≤ (l.map fun e => e.ops.length).sum := by
    clear h h1
    induction l with
    | nil => cases he
    | cons a l ih =>
      simp only [List.map_cons, List.sum_cons]
      rcases List.mem_cons.1 he with rfl | he
      · omega
      · have := ih he; omega
  omega
set_option maxHeartbeats 1000000 in
theorem much_any (w : World) (A : Option Addr) (c : Nat) (l : List EntR) (hl : Src w 4 A l.length (ecells l)) (hlk : LOk w l) (hz : l.length * 48 ≤ 140737488351232) :
    Calls Try.prog 24 #[.slice A l.length c] w fun e w' => e = .returned (.int .i64 (muchL l)) ∧ w = w' := by
  have hm : ∀ e ∈ l, e.ops.length ≤ 3518437208784 := fun e he => by have := (hlk e he).2.2.2.2.2.2; omega
  have hsum : ∀ i, i ≤ 200 → muchAt l i ≤ 1000000000000000 := by
    intro i hi
    unfold muchAt
    have h1 := sum_le (l.take i) 3518437208784 (fun e he => hm e (List.mem_of_mem_take he))
    have h2 : (l.take i).length ≤ 200 := by rw [List.length_take]; omega
    have h3 : (l.take i).length * 3518437208784 ≤ 200 * 3518437208784 := Nat.mul_le_mul_right _ h2
    omega
  have HSUM := Lib.hid hsum; clear hsum
  have HM := Lib.hid hm; clear hm hlk
  have HL := Lib.hid hl; clear hl
  go_enter Try.func24, Try.ntmps24
  go_wp2_with fail
  go_loop [3, 4] (fun v3 v4 => ∃ i : Nat, i ≤ l.length ∧ i ≤ 200 ∧ v4 = .int .i64 i ∧ v3 = .int .i64 (muchAt l i)) (fun _ v4 => l.length - (intOf v4).toNat)
  case atStart => exact ⟨0, Nat.zero_le _, Nat.zero_le _, rfl, by unfold muchAt; simp⟩
  case round =>
    obtain ⟨i, hi, hi2, rfl, rfl⟩ := hrel
    have hs := HSUM.out i hi2
    obtain ⟨m, hm⟩ : ∃ m, muchAt l i = m := ⟨_, rfl⟩
    rw [hm] at hs
    rw [hm]
    have HMM := Lib.hid hm; clear hm
    by_cases hil : i < l.length
    · by_cases hi200 : i < 200
      · obtain ⟨e, he⟩ : ∃ e, l[i]? = some e := ⟨_, List.getElem?_eq_getElem hil⟩
        obtain ⟨ad, rfl, had, e0, e1, e2, e3⟩ := ent_cells HL.out (by omega) i e he
        have hon := HM.out e (List.mem_of_getElem? he)
        have hsu := muchAt_succ he
        rw [HMM.out] at hsu
        have HS := Lib.hid hsu; clear hsu he
        go_wp2
        go_round
        case rel => exact ⟨i + 1, by omega, by omega, by go_num, by rw [HS.out]; go_num⟩
        case measure => simp [intOf]; omega
      · have h0 := muchAt_all (l := l) (i := i) (.inr (by omega)) hi hi2
        rw [HMM.out] at h0
        have H0 := Lib.hid h0; clear h0
        go_wp2
        go_ret
        exact ⟨by rw [← H0.out]; rfl, rfl⟩
    · have h0 := muchAt_all (l := l) (i := i) (.inl (by omega)) hi hi2
      rw [HMM.out] at h0
      have H0 := Lib.hid h0; clear h0
      obtain rfl : i = l.length := by omega
      go_wp2
      go_ret
      exact ⟨by rw [← H0.out]; rfl, rfl⟩
def stampL : List EntR → Nat
  | [] => 0
  | e :: l => if e.ts = 0 then 0 else stampL l + 1
theorem stampL_le (l : List EntR) : stampL l ≤ l.length := by
  induction l with
  | nil => exact Nat.le_refl _
  | cons e l ih =>
    unfold stampL
    split
    · exact Nat.zero_le _
    · simp; exact ih
theorem stampL_at {l : List EntR} {i : Nat} {e : EntR} (h : l[i]? = some e) : stampL (l.drop i) = if e.ts = 0 then 0 else stampL (l.drop (i + 1)) + 1 := by
  obtain ⟨hi, rfl⟩ := List.getElem?_eq_some_iff.1 h
  rw [List.drop_eq_getElem_cons hi, stampL]
set_option maxHeartbeats 1000000 in
theorem rstamped_any (w : World) (A : Option Addr) (c : Nat) (l : List EntR) (hl : Src w 4 A l.length (ecells l)) (hz : l.length ≤ 1000000000000) :
    Calls Try.prog 32 #[.slice A l.length c] w fun e w' => e = .returned (.int .i64 (stampL l)) ∧ w = w' := by
  have HL := Lib.hid hl; clear hl
  go_enter Try.func32, Try.ntmps32
  go_wp2_with fail
  go_loop [3] (fun v3 => ∃ i : Nat, i ≤ l.length ∧ v3 = .int .i64 i ∧ stampL l = i + stampL (l.drop i)) (fun v3 => l.length - (intOf v3).toNat)
  case atStart => exact ⟨0, Nat.zero_le _, rfl, by simp⟩
  case round =>
    obtain ⟨i, hi, rfl, hs⟩ := hrel
    by_cases hil : i < l.length
    · obtain ⟨e, he⟩ : ∃ e, l[i]? = some e := ⟨_, List.getElem?_eq_getElem hil⟩
      obtain ⟨ad, rfl, had, e0, e1, e2, e3⟩ := ent_cells HL.out (by omega) i e he
      have hd := stampL_at he
      clear he
      by_cases ht : e.ts = 0
      · rw [if_pos ht] at hd
        rw [hd] at hs
        have HS := Lib.hid hs; clear hs hd
        rw [ht] at e3
        clear ht
        go_wp2
        go_ret
        exact ⟨by rw [HS.out]; rfl, rfl⟩
      · rw [if_neg ht] at hd
        rw [hd] at hs
        have HS := Lib.hid hs; clear hs hd
        have hq : (e.ts == 0) = false := by rw [beq_eq_false_iff_ne]; exact ht
        clear ht
        go_wp2
        go_round
        case rel => exact ⟨i + 1, by omega, by go_num, by rw [HS.out]; omega⟩
        case measure => simp [intOf]; omega
    · obtain rfl : i = l.length := by omega
      rw [List.drop_length, stampL] at hs
      have HS := Lib.hid hs; clear hs
      go_wp2
      go_ret
      exact ⟨by rw [HS.out]; rfl, rfl⟩
set_option maxHeartbeats 1000000 in
theorem stamped_any (w : World) (A : Option Addr) (c : Nat) (l : List EntR) (hl : Src w 4 A l.length (ecells l)) (hz : l.length ≤ 1000000000000) :
    Calls Try.prog 71 #[.slice A l.length c] w fun e w' => e = .returned (.int .i64 (stampL l)) ∧ Kept NoF w w' := by
  have HL := Lib.hid hl; clear hl
  go_enter Try.func71, Try.ntmps71
  go_wp2_with fail
  go_loopw [7] (fun v7 wr => ∃ i : Nat, i ≤ l.length ∧ v7 = .int .i64 i ∧ stampL l = i + stampL (l.drop i) ∧ Kept NoF w wr) (fun v7 _ => l.length - (intOf v7).toNat)
  case atStart => exact ⟨0, Nat.zero_le _, rfl, by simp, Kept.refl _ _⟩
  case round =>
    obtain ⟨i, hi, rfl, hs, hk⟩ := hrel
    have HK := Lib.hid hk; clear hk
    by_cases hil : i < l.length
    · obtain ⟨e, he⟩ : ∃ e, l[i]? = some e := ⟨_, List.getElem?_eq_getElem hil⟩
      obtain ⟨ad, rfl, had, e0, e1, e2, e3⟩ := ent_cells (HL.out.kept HK.out (fun _ _ x => x)) (by omega) i e he
      have hd := stampL_at he
      clear he
      by_cases ht : e.ts = 0
      · rw [if_pos ht] at hd
        rw [hd] at hs
        have HS := Lib.hid hs; clear hs hd
        rw [ht] at e3
        clear ht
        go_wp2
        go_ret
        exact ⟨by rw [HS.out]; rfl, HK.out.alloc _⟩
      · rw [if_neg ht] at hd
        rw [hd] at hs
        have HS := Lib.hid hs; clear hs hd
        have hq : (e.ts == 0) = false := by rw [beq_eq_false_iff_ne]; exact ht
        clear ht
        go_wp2
        go_roundw
        case rel => exact ⟨i + 1, by omega, by go_num, by rw [HS.out]; omega, HK.out.alloc _⟩
        case measure => simp [intOf]; omega
    · obtain rfl : i = l.length := by omega
      rw [List.drop_length, stampL] at hs
      have HS := Lib.hid hs; clear hs
      go_wp2
      go_ret
      exact ⟨by rw [HS.out]; rfl, HK.out⟩
/-! ### twins, alike, the same -/
def twinB (a b : EntR) : Bool := decide (a.cl = b.cl) && decide (a.req = b.req)
def alikeB (a b : EntR) : Bool := twinB a b && decide (a.ts = b.ts)
def sameE (a b : EntR) : Bool := decide (a.ts = b.ts) && sameB (bat a) (bat b)
theorem run_eql_who (a b c d : Int) (W : World) : (binOp .eql 213 (.agg #[.int .i64 a, .int .i64 b]) (.agg #[.int .i64 c, .int .i64 d])).run Try.prog W = .ok (.bool (decide (a = c) && decide (b = d))) W := by
  obtain ⟨i0, hi, hz0, hz1, hz2⟩ := info_parts (show (Try.prog.info? 3).map (fun i => (i.zero, i.size, i.bytes)) = some (some (.int .i64 0), 1, 8) by kernel_rfl)
  have e1 : Try.prog.cellsOf 3 = 1 := by kernel_rfl
  have he := fun xs ys => run_equalIn_array (P := Try.prog) (w := W) 9999 xs ys Try.underlying213 hi
  rw [e1] at he
  have hr : List.range 2 = [0, 1] := rfl
  rw [hr] at he
  have h2 : ∀ xs ys, (Op.equalIn 10000 213 (.agg xs) (.agg ys)).run Try.prog W = (Op.eqItems 9999 3 1 xs ys [0, 1]).run Try.prog W := fun xs ys => he xs ys
  by_cases h1 : a = c <;> by_cases h3 : b = d <;> simp [go_sem, h2, h1, h3, Op.eqItems, part]
theorem of_any (w : World) (e : EntR) : Calls Try.prog 168 #[eagg e] w fun r w' => r = .returned (.agg #[.int .i64 e.cl, .int .i64 e.req]) ∧ Kept NoF w w' := by
  obtain ⟨cl, req, A, c, l, ts⟩ := e
  unfold eagg
  dsimp only
  go_enter Try.func168, Try.ntmps168
  go_wp2
  refine bodyPost_ret (v := .agg #[.int .i64 cl, .int .i64 req]) (by simp [results, Try.results168, go_sem]) rfl ⟨rfl, by (repeat' (first | with_reducible exact Kept.refl _ _ | with_reducible refine Kept.put ?_ ?_ | with_reducible refine Kept.drewN ?_ _ | with_reducible refine Kept.drew ?_ | with_reducible refine Kept.alloc ?_ _ | (fail) | (right; simp; done)))⟩
end Ent
end Go.Proofs.Ytnmlemciiigjcaa
