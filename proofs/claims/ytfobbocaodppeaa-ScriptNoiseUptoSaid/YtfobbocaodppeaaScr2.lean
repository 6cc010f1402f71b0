/- catenalaw36.Parts: the most parts of a step; Clean: a step's own parts, the program's and the document's. -/
import Derived.Test.YtfobbocaodppeaaScr1
import Derived.Deep.QuietTactic
import Derived.Laws.Cover1
set_option linter.unusedSimpArgs false
set_option linter.unusedVariables false
namespace Go.Proofs.Ytfobbocaodppeaa
open Go.RowKit
set_option maxRecDepth 100000
namespace Scr
open Ops Vn
/-- The greatest of the number and a step's three. -/
def partsS (n : Int) (e : EvR) : Int :=
  let a := if (e.x.ops.length : Int) > n then (e.x.ops.length : Int) else n
  let b := if (e.x.key.size : Int) - 80 > a then (e.x.key.size : Int) - 80 else a
  if (e.x.dst.size : Int) - 80 > b then (e.x.dst.size : Int) - 80 else b
def partsL (l : List EvR) : Int := (l.take 400).foldl partsS 0
theorem partsS_le (n : Int) (e : EvR) : n ≤ partsS n e ∧ (e.x.ops.length : Int) ≤ partsS n e ∧ (e.x.key.size : Int) - 80 ≤ partsS n e ∧ (e.x.dst.size : Int) - 80 ≤ partsS n e := by
  unfold partsS
  dsimp only
  refine ⟨?_, ?_, ?_, ?_⟩ <;> (repeat' split) <;> omega
theorem fold_le (l : List EvR) : ∀ n : Int, n ≤ l.foldl partsS n ∧ ∀ e ∈ l, (e.x.ops.length : Int) ≤ l.foldl partsS n ∧ (e.x.key.size : Int) - 80 ≤ l.foldl partsS n ∧ (e.x.dst.size : Int) - 80 ≤ l.foldl partsS n := by
  induction l with
  | nil => intro n; exact ⟨Int.le_refl _, fun e h => by cases h⟩
  | cons a l ih =>
    intro n
    have h1 := partsS_le n a
    have h2 := ih (partsS n a)
    rw [List.foldl_cons]
    refine ⟨by omega, fun e he => ?_⟩
    rcases List.mem_cons.1 he with rfl | he
    · omega
    · exact h2.2 e he
theorem parts_small {l : List EvR} (h : ¬ 20 < partsL l) (hl : l.length ≤ 100) : ∀ e ∈ l, e.x.ops.length ≤ 20 ∧ e.x.key.size ≤ 100 ∧ e.x.dst.size ≤ 100 := by
  intro e he
  unfold partsL at h
  rw [List.take_of_length_le (by omega)] at h
  have := (fold_le l 0).2 e he
  omega
def partsAt (l : List EvR) (i : Nat) : Int := (l.take i).foldl partsS 0
theorem partsAt_succ {l : List EvR} {i : Nat} {e : EvR} (h : l[i]? = some e) : partsAt l (i + 1) = partsS (partsAt l i) e := by
  unfold partsAt
  rw [List.take_add_one, h]
  simp
theorem partsAt_all {l : List EvR} {i : Nat} (h : i = l.length ∨ i = 400) (hi2 : i ≤ 400) : partsAt l i = partsL l := by
  unfold partsL partsAt
  rcases h with rfl | rfl
  · rw [List.take_of_length_le (Nat.le_refl _), List.take_of_length_le hi2]
  · rfl
theorem run_max_int4 {P : Program} {w : World} (ts : Array TypeId) (t : TypeId) (x y z u : Int) : (Builtin.max_ ts t #[.int .i64 x, .int .i64 y, .int .i64 z, .int .i64 u]).run P w =
    .ok (.int .i64 (if u > (if z > (if y > x then y else x) then z else (if y > x then y else x)) then u else (if z > (if y > x then y else x) then z else (if y > x then y else x)))) w := by
  simp [Builtin.max_, Builtin.max2]
set_option maxHeartbeats 2000000 in
theorem parts_any (w : World) (A : Option Addr) (c : Nat) (l : List EvR) (hl : Src w 10 A l.length (vcells l)) (hb : ∀ e ∈ l, wtE e.x ≤ 1048576) :
    Calls Try.prog 6 #[.slice A l.length c] w fun e w' => e = .returned (.int .i64 (partsL l)) ∧ Kept NoF w w' := by
  have HB := Lib.hid hb; clear hb
  have HL := Lib.hid hl; clear hl
  go_enter Try.func6, Try.ntmps6
  go_wp2_with fail
  go_loopw [3, 4] (fun v3 v4 wr => ∃ i m : Nat, i ≤ l.length ∧ i ≤ 400 ∧ v4 = .int .i64 i ∧ v3 = .int .i64 (partsAt l i) ∧ wr = w.drewN m) (fun _ v4 _ => l.length - (intOf v4).toNat)
  case atStart => exact ⟨0, 0, Nat.zero_le _, Nat.zero_le _, rfl, by unfold partsAt; simp, rfl⟩
  case round =>
    obtain ⟨i, m, hi, hi2, rfl, rfl, rfl⟩ := hrel
    obtain ⟨z, hz⟩ : ∃ z, partsAt l i = z := ⟨_, rfl⟩
    rw [hz]
    have HZ := Lib.hid hz; clear hz
    by_cases hil : i < l.length
    · by_cases hi4 : i < 400
      · obtain ⟨e, he⟩ : ∃ e, l[i]? = some e := ⟨_, List.getElem?_eq_getElem hil⟩
        obtain ⟨ad, rfl, had, e0, e1, e2, e3, e4, e5, e6, e7, e8, e9⟩ := ev_cells HL.out (by omega) i e he
        have hb := HB.out e (List.mem_of_getElem? he)
        unfold wtE at hb
        have hs := partsAt_succ he
        rw [HZ.out] at hs
        have HS := Lib.hid hs; clear hs he
        have hmx : ∀ W ts t, (Builtin.max_ ts t #[.int .i64 z, .int .i64 (e.x.ops.length : Int), .int .i64 ((e.x.key.size : Int) - 80), .int .i64 ((e.x.dst.size : Int) - 80)]).run Try.prog W = .ok (.int .i64 (partsS z e)) W := by
          intro W ts t
          rw [run_max_int4]
          rfl
        obtain ⟨z2, hz2⟩ : ∃ z2, partsS z e = z2 := ⟨_, rfl⟩
        rw [hz2] at hmx HS
        clear hz2 e0 e1 e2 e3 e4 e7 e8
        go_wp2_with fail
        go_quiet (fail)
        go_wp2
        go_roundw
        case rel => exact ⟨i + 1, _, by omega, by omega, by go_num, by rw [HS.out], rfl⟩
        case measure => simp [intOf]; omega
      · have h0 := partsAt_all (l := l) (i := i) (.inr (by omega)) hi2
        rw [HZ.out] at h0
        subst h0
        go_wp2
        go_ret
        exact ⟨rfl, Kept.quiet _ _ _⟩
    · have h0 := partsAt_all (l := l) (i := i) (.inl (by omega)) hi2
      rw [HZ.out] at h0
      subst h0
      obtain rfl : i = l.length := by omega
      go_wp2
      go_ret
      exact ⟨rfl, Kept.quiet _ _ _⟩
/-! ### Clean -/
def cleanR (e : EvR) : EvR := if e.x.k = 0 then e else ⟨bare e.x.k e.x.nd e.x.n, none, 0⟩
theorem cleanR_x (e : EvR) : (cleanR e).x = clean e.x := by
  unfold cleanR clean
  split <;> rfl
theorem cleanR_ok {W : World} {e : EvR} (h : VOk W e) : VOk W (cleanR e) := by
  unfold cleanR
  split
  · exact h
  · exact ⟨Src.nil _ _ _, Nat.le_refl _, Nat.zero_le _, ⟨Int.le_refl 0, (by decide : (0 : Int) ≤ 18446744073709551615)⟩⟩
set_option maxHeartbeats 2000000 in
theorem sclean_any (w : World) (e : EvR) : Calls Try.prog 13 #[vagg e] w fun r w' => r = .returned (vagg (cleanR e)) ∧ Kept NoF w w' := by
  have hc : cleanR e = if e.x.k = 0 then e else ⟨bare e.x.k e.x.nd e.x.n, none, 0⟩ := rfl
  obtain ⟨⟨k, nd, n, ak, an, key, dst, tm, am, l⟩, A, c⟩ := e
  unfold vagg
  dsimp only at hc ⊢
  by_cases hk : k = 0
  · rw [if_pos hk] at hc
    rw [hc]
    subst hk
    clear hc
    go_enter Try.func13, Try.ntmps13
    go_wp2
    refine bodyPost_ret (v := .agg #[.int .i64 0, .int .i64 nd, .int .i64 n, .int .i64 ak, .int .i64 an, .string key, .string dst, .int .u64 tm, .int .i64 am, .slice A l.length c]) (by simp [results, Try.results13, go_sem]) rfl ⟨rfl, by (repeat' (first | with_reducible exact Kept.refl _ _ | with_reducible refine Kept.put ?_ ?_ | with_reducible refine Kept.drewN ?_ _ | with_reducible refine Kept.drew ?_ | with_reducible refine Kept.alloc ?_ _ | (fail) | (right; simp; done)))⟩
  · rw [if_neg hk] at hc
    rw [hc]
    have hk2 : (k != 0) = true := by simpa using hk
    clear hc
    go_enter Try.func13, Try.ntmps13
    go_wp2
    refine bodyPost_ret (v := .agg #[.int .i64 k, .int .i64 nd, .int .i64 n, .int .i64 0, .int .i64 0, .string emp, .string emp, .int .u64 0, .int .i64 0, .slice none 0 0]) (by simp [results, Try.results13, go_sem]; rfl) rfl ⟨rfl, by (repeat' (first | with_reducible exact Kept.refl _ _ | with_reducible refine Kept.put ?_ ?_ | with_reducible refine Kept.drewN ?_ _ | with_reducible refine Kept.drew ?_ | with_reducible refine Kept.alloc ?_ _ | (fail) | (right; simp; done)))⟩
set_option maxHeartbeats 2000000 in
theorem rclean_any (w : World) (e : EvR) : Calls Try.prog 14 #[vagg e] w fun r w' => r = .returned (vagg (cleanR e)) ∧ Kept NoF w w' := by
  have hc : cleanR e = if e.x.k = 0 then e else ⟨bare e.x.k e.x.nd e.x.n, none, 0⟩ := rfl
  obtain ⟨⟨k, nd, n, ak, an, key, dst, tm, am, l⟩, A, c⟩ := e
  unfold vagg
  dsimp only at hc ⊢
  by_cases hk : k = 0
  · rw [if_pos hk] at hc
    rw [hc]
    subst hk
    clear hc
    go_enter Try.func14, Try.ntmps14
    go_wp2
    refine bodyPost_ret (v := .agg #[.int .i64 0, .int .i64 nd, .int .i64 n, .int .i64 ak, .int .i64 an, .string key, .string dst, .int .u64 tm, .int .i64 am, .slice A l.length c]) (by simp [results, Try.results14, go_sem]) rfl ⟨rfl, by (repeat' (first | with_reducible exact Kept.refl _ _ | with_reducible refine Kept.put ?_ ?_ | with_reducible refine Kept.drewN ?_ _ | with_reducible refine Kept.drew ?_ | with_reducible refine Kept.alloc ?_ _ | (fail) | (right; simp; done)))⟩
  · rw [if_neg hk] at hc
    rw [hc]
    have hk2 : (k != 0) = true := by simpa using hk
    clear hc
    go_enter Try.func14, Try.ntmps14
    go_wp2
    refine bodyPost_ret (v := .agg #[.int .i64 k, .int .i64 nd, .int .i64 n, .int .i64 0, .int .i64 0, .string emp, .string emp, .int .u64 0, .int .i64 0, .slice none 0 0]) (by simp [results, Try.results14, go_sem]; rfl) rfl ⟨rfl, by (repeat' (first | with_reducible exact Kept.refl _ _ | with_reducible refine Kept.put ?_ ?_ | with_reducible refine Kept.drewN ?_ _ | with_reducible refine Kept.drew ?_ | with_reducible refine Kept.alloc ?_ _ | (fail) | (right; simp; done)))⟩
end Scr
end Go.Proofs.Ytfobbocaodppeaa
