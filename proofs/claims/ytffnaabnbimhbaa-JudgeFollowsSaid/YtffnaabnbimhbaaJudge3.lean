
/- judge.Reads at one reading that tells too little; the layer computes at all. -/
import Derived.Test.YtffnaabnbimhbaaJudge2
import Derived.WalkMore
set_option linter.unusedSimpArgs false
set_option linter.unusedVariables false
namespace Go.Proofs.Ytffnaabnbimhbaa
open Go.RowKit
set_option maxRecDepth 100000
namespace Ops
open Vn

set_option maxHeartbeats 2000000 in
theorem equalPairs_any (w : World) (A B : Option Addr) (c d : Nat) (a b : List PairR) (ha : Src w 2 A a.length (pcells a)) (hb : Src w 2 B b.length (pcells b)) (hlen : a.length ≤ 1000000) :
    Calls Try.prog 29 #[.slice A a.length c, .slice B b.length d] w fun e w' => e = .returned (.bool (decide (a = b))) ∧ Kept NoF w w' := by
  have HA := Lib.hid ha; clear ha
  have HB := Lib.hid hb; clear hb
  by_cases hl : a.length = b.length
  rotate_left
  · have hd : decide (a = b) = false := decide_eq_false fun e => hl (by rw [e])
    rw [hd]
    have hne : ((a.length : Int) != (b.length : Int)) = true := by simpa using fun e => hl (by omega)
    clear hd HA HB
    go_enter Try.func29, Try.ntmps29
    go_wp2
    go_ret
    exact ⟨rfl, Kept.refl _ _⟩
  rw [← hl] at HB ⊢
  have HL := Lib.hid hl; clear hl
  obtain ⟨n, hn⟩ : ∃ n, a.length = n := ⟨_, rfl⟩
  rw [hn] at HA HB hlen ⊢
  have HN := Lib.hid hn; clear hn
  obtain ⟨r, hr⟩ : ∃ r, decide (a = b) = r := ⟨_, rfl⟩
  rw [hr]
  have HR := Lib.hid hr; clear hr
  go_enter Try.func29, Try.ntmps29
  go_wp2_with fail
  go_loopw [5, 13] (fun v5 v13 wr => ∃ i m : Nat, i ≤ n ∧ v13 = .int .i64 i ∧ a.take i = b.take i ∧ wr = w.drewN m) (fun _ v13 _ => n - (intOf v13).toNat)
  case atStart => exact ⟨0, 0, Nat.zero_le _, rfl, rfl, rfl⟩
  case round =>
    obtain ⟨i, m, hi, rfl, ht, rfl⟩ := hrel
    have HT := Lib.hid ht; clear ht
    by_cases hil : i < n
    · obtain ⟨p, hp⟩ : ∃ p, a[i]? = some p := ⟨_, List.getElem?_eq_getElem (by have := HN.out; omega)⟩
      obtain ⟨q, hq⟩ : ∃ q, b[i]? = some q := ⟨_, List.getElem?_eq_getElem (by have := HN.out; have := HL.out; omega)⟩
      obtain ⟨a1, rfl, hl1, d0, d1⟩ := pair_cells HA.out (by omega) i p hp
      obtain ⟨a2, rfl, hl2, f0, f1⟩ := pair_cells HB.out (by omega) i q hq
      have heq := run_neq_pair p q
      have HP := Lib.hid hp; clear hp
      have HQ := Lib.hid hq; clear hq
      by_cases hpq : p = q
      · subst hpq
        rw [decide_eq_true rfl] at heq
        have hnx := eq_take_succ HT.out HP.out HQ.out
        have HNX := Lib.hid hnx; clear hnx HP HQ
        obtain ⟨x0, x1⟩ := p
        unfold pagg at heq
        dsimp only at d0 d1 f0 f1 heq
        go_wp2_with fail
        go_quiet (fail)
        go_wp2
        go_roundw
        case rel => exact ⟨i + 1, _, by omega, by go_num, HNX.out, rfl⟩
        case measure => simp [intOf]; omega
      · have hrf : r = false := by
          rw [← HR.out]
          refine decide_eq_false fun e => hpq ?_
          have h1 := HP.out
          rw [e, HQ.out] at h1
          injection h1 with h1
          exact h1.symm
        rw [decide_eq_false hpq] at heq
        have HRF := Lib.hid hrf; clear hrf hpq HP HQ
        obtain ⟨x0, x1⟩ := p
        obtain ⟨y0, y1⟩ := q
        unfold pagg at heq
        dsimp only at d0 d1 f0 f1 heq
        go_wp2_with fail
        go_quiet (fail)
        go_wp2
        go_ret
        exact ⟨by rw [HRF.out]; rfl, (Kept.quiet _ _ _).drewN _⟩
    · obtain rfl : i = n := by omega
      have hrt : r = true := by
        rw [← HR.out]
        refine decide_eq_true ?_
        have h1 := HT.out
        rwa [List.take_of_length_le (by rw [HN.out]; exact Nat.le_refl _), List.take_of_length_le (by rw [← HL.out, HN.out]; exact Nat.le_refl _)] at h1
      have HRT := Lib.hid hrt; clear hrt
      go_wp2
      go_ret
      exact ⟨by rw [HRT.out]; rfl, Kept.quiet _ _ _⟩
end Ops
namespace Ent
open Ops Vn
/-- A deed that ended, a reading of one key at 7 that told nothing. -/
def dv (key : ByteArray) : Array Value := #[.int .i64 0, .int .i64 0, .int .i64 1, .int .i64 0, .string key, .string ⟨#[]⟩, .int .u64 0, .int .i64 0, .slice none 0 0, .int .i64 0, .int .i64 1, .int .i64 0, .int .i64 0, .int .u64 7, .int .i64 0, .slice none 0 0]
theorem run_equalIn_func_nil (d : Nat) {t : TypeId} {ps rs : Array TypeId} {v : Bool} (f : Fn) (a b : Array Value) (W : World) (h : Try.prog.underlying t = some (.func ps rs v)) : (Op.equalIn (d + 1) t (.func f a b) .nilFunc).run Try.prog W = .ok false W := by
  simp [Op.equalIn, run_underlying h]
theorem run_eql_nilfunc (f : Fn) (a b : Array Value) (W : World) : (binOp .eql 73 (.func f a b) .nilFunc).run Try.prog W = .ok (.bool false) W := by
  have h : (Op.equal 73 (.func f a b) .nilFunc).run Try.prog W = .ok false W := run_equalIn_func_nil 9999 f a b W Try.underlying73
  simp only [binOp]
  simp [h]
set_option maxHeartbeats 4000000 in
theorem reads1_any (w : World) (A : Option Addr) (c : Nat) (l : List EntR) (b : Nat) (key : ByteArray) (hb : Has w b 41 #[.slice A l.length c]) (hl : Src w 4 A l.length (ecells l)) (hlo : LOk w l) (hlen : l.length ≤ 1000) (htot : total l ≤ 1000)
    (hne : rowsL 1 (keyP key) (stateL l 7) ≠ []) :
    Calls Try.prog 27 #[.agg (dv key), .pointer (some ⟨b, 0, none⟩)] w fun e w' => e = .returned (.int .i64 18) ∧ Kept NoF w w' := by
  have hrow := fun W (hW : Kept NoF w W) => rows_get W A c l 7 key (hl.kept hW (fun _ _ x => x)) (hlo.kept hW) hlen htot
  have heq := fun W B d (hB : Src W 2 B (rowsL 1 (keyP key) (stateL l 7)).length (pcells (rowsL 1 (keyP key) (stateL l 7)))) => equalPairs_any W none B 0 d [] _ (Src.nil _ _ _) hB (by decide)
  have hd : decide ([] = rowsL 1 (keyP key) (stateL l 7)) = false := decide_eq_false (fun e => hne e.symm)
  rw [hd] at heq
  clear hd hne
  unfold NewPairs at hrow
  obtain ⟨R, hR⟩ : ∃ R, rowsL 1 (keyP key) (stateL l 7) = R := ⟨_, rfl⟩
  rw [hR] at hrow heq
  have hbox := Has.new w 51 (dv key)
  have hbw := hb.alloc (.cells (dv key) 51)
  have hk0 : Kept NoF w (w.alloc (.cells (dv key) 51)) := by (repeat' (first | with_reducible exact Kept.refl _ _ | with_reducible refine Kept.put ?_ ?_ | with_reducible refine Kept.drewN ?_ _ | with_reducible refine Kept.drew ?_ | with_reducible refine Kept.alloc ?_ _ | (fail) | (right; simp; done)))
  have HME := Lib.hid (fun W => meant_get W key)
  dsimp only [acell, dv] at *
  have HROW := Lib.hid hrow; clear hrow
  have HEQ := Lib.hid heq; clear heq hR hl hlo hlen htot
  have HBX := Lib.hid (And.intro hbox (And.intro hbw hk0)); clear hbox hbw hk0 hb
  have y2 := HBX.out.1.cell 2
  have y3 := HBX.out.1.cell 3
  have y4 := HBX.out.1.cell 4
  have y5 := HBX.out.1.cell 5
  have y6 := HBX.out.1.cell 6
  have y7 := HBX.out.1.cell 7
  have y8 := HBX.out.1.cell 8
  simp only [List.getElem?_toArray, List.getElem?_cons_zero, List.getElem?_cons_succ] at y2 y3 y4 y5 y6 y7 y8
  go_enter Try.func27, Try.ntmps27
  go_wp2_with fail
  refine (HME.out _).mono ?_
  rintro e w2 ⟨rfl, _, hk⟩
  have hx := HBX.out.1.kept hk (fun x => x)
  have hbx := HBX.out.2.1.kept hk (fun x => x)
  have x2 := hx.cell 2
  have x3 := hx.cell 3
  have x4 := hx.cell 4
  have x5 := hx.cell 5
  have x6 := hx.cell 6
  have x7 := hx.cell 7
  have x8 := hx.cell 8
  have x12 := hx.cell 12
  have x13 := hx.cell 13
  have x15 := hx.cell 15
  have z0 := hbx.cell 0
  simp only [List.getElem?_toArray, List.getElem?_cons_zero, List.getElem?_cons_succ] at x2 x3 x4 x5 x6 x7 x8 x12 x13 x15 z0
  clear y2 y3 y4 y5 y6 y7 y8
  have hlim : ∀ W, Kept NoF w2 W → (W.cell? ⟨w.heap.size, 2, none⟩ = some (.int .i64 1) ∧ W.cell? ⟨w.heap.size, 3, none⟩ = some (.int .i64 0) ∧ W.cell? ⟨w.heap.size, 4, none⟩ = some (.string key) ∧ W.cell? ⟨w.heap.size, 5, none⟩ = some (.string ⟨#[]⟩) ∧ W.cell? ⟨w.heap.size, 6, none⟩ = some (.int .u64 0) ∧ W.cell? ⟨w.heap.size, 7, none⟩ = some (.int .i64 0) ∧ W.cell? ⟨w.heap.size, 8, none⟩ = some (.slice none 0 0) ∧ W.cell? ⟨w.heap.size, 13, none⟩ = some (.int .u64 7) ∧ W.cell? ⟨w.heap.size, 15, none⟩ = some (.slice none 0 0) ∧ W.cell? ⟨b, 0, none⟩ = some (.slice A l.length c)) := fun W hW => by
    have h1 := hx.kept hW (fun x => x)
    exact ⟨h1.cell 2, h1.cell 3, h1.cell 4, h1.cell 5, h1.cell 6, h1.cell 7, h1.cell 8, h1.cell 13, h1.cell 15, (hbx.kept hW (fun x => x)).cell 0⟩
  have HC := Lib.hid hlim; clear hlim
  have H2 := Lib.hid (HBX.out.2.2.then hk); clear hk hx hbx HBX
  have hnf := run_eql_nilfunc
  go_wp2_with fail
  have HS := Lib.hid (Kept.refl NoF w2)
  go_region_held3 (fun W => W.cell? ⟨w.heap.size, 2, none⟩ = some (.int .i64 1) ∧ W.cell? ⟨w.heap.size, 3, none⟩ = some (.int .i64 0) ∧ W.cell? ⟨w.heap.size, 4, none⟩ = some (.string key) ∧ W.cell? ⟨w.heap.size, 5, none⟩ = some (.string ⟨#[]⟩) ∧ W.cell? ⟨w.heap.size, 6, none⟩ = some (.int .u64 0) ∧ W.cell? ⟨w.heap.size, 7, none⟩ = some (.int .i64 0) ∧ W.cell? ⟨w.heap.size, 8, none⟩ = some (.slice none 0 0) ∧ W.cell? ⟨w.heap.size, 13, none⟩ = some (.int .u64 7) ∧ W.cell? ⟨w.heap.size, 15, none⟩ = some (.slice none 0 0) ∧ W.cell? ⟨b, 0, none⟩ = some (.slice A l.length c))
    (first | with_reducible exact HC.out _ HS.out | exact HC.out _ HS.out.drew | exact HC.out _ (Kept.then (F := NoF) (a := w2) HS.out (by (repeat' (first | with_reducible exact Kept.refl _ _ | with_reducible refine Kept.put ?_ ?_ | with_reducible refine Kept.drewN ?_ _ | with_reducible refine Kept.drew ?_ | with_reducible refine Kept.alloc ?_ _ | (fail) | (right; simp; done))))) | (simp [go_sem, x2, x3, x4, x5, x6, x7, x8, x12, x13, x15, z0]; done))
    (first
      | (go_at_call 30; (refine (HROW.out _ ?_).mono ?_; exact H2.out.then (by (repeat' (first | with_reducible exact Kept.refl _ _ | with_reducible refine Kept.put ?_ ?_ | with_reducible refine Kept.drewN ?_ _ | with_reducible refine Kept.drew ?_ | with_reducible refine Kept.alloc ?_ _ | (exact HS.out) | (right; simp; done)))); rintro e w5 ⟨A5, c5, rfl, hr0, hk0⟩; have hr := Src.of_own hr0.1; have hk := Kept.then (F := NoF) (a := w2) (by (repeat' (first | with_reducible exact Kept.refl _ _ | with_reducible refine Kept.put ?_ ?_ | with_reducible refine Kept.drewN ?_ _ | with_reducible refine Kept.drew ?_ | with_reducible refine Kept.alloc ?_ _ | (exact HS.out) | (right; simp; done)))) hk0; clear HS hk0 hr0; have HS := Lib.hid hk; clear hk; have HR := Lib.hid hr; clear hr))
      | (go_at_call 29; (refine (HEQ.out _ _ _ ?_).mono ?_; exact HR.out.kept (F := NoF) (by (repeat' (first | with_reducible exact Kept.refl _ _ | with_reducible refine Kept.put ?_ ?_ | with_reducible refine Kept.drewN ?_ _ | with_reducible refine Kept.drew ?_ | with_reducible refine Kept.alloc ?_ _ | (fail) | (right; simp; done)))) (fun _ _ x => x); rintro e w5 ⟨rfl, hk0⟩; have hk := Kept.then (F := NoF) (a := w2) (by (repeat' (first | with_reducible exact Kept.refl _ _ | with_reducible refine Kept.put ?_ ?_ | with_reducible refine Kept.drewN ?_ _ | with_reducible refine Kept.drew ?_ | with_reducible refine Kept.alloc ?_ _ | (exact HS.out) | (right; simp; done)))) hk0; clear HS hk0; have HS := Lib.hid hk; clear hk)))
  all_goals
    go_wp2
    go_ret
    exact ⟨rfl, H2.out.then (by (repeat' (first | with_reducible exact Kept.refl _ _ | with_reducible refine Kept.put ?_ ?_ | with_reducible refine Kept.drewN ?_ _ | with_reducible refine Kept.drew ?_ | with_reducible refine Kept.alloc ?_ _ | (exact HS.out) | (right; simp; done))))⟩
set_option maxHeartbeats 4000000 in
theorem first1_any (w : World) (B : Option Addr) (d : Nat) (key : ByteArray) (b : Nat) (hd : Src w 16 B 1 (dv key).toList)
    (hr : ∀ W, Kept NoF w W → Calls Try.prog 27 #[.agg (dv key), .pointer (some ⟨b, 0, none⟩)] W fun e w' => e = .returned (.int .i64 18) ∧ Kept NoF W w') :
    Calls Try.prog 26 #[.slice B 1 d, .func (.func 27) #[] #[.pointer (some ⟨b, 0, none⟩)]] w fun e w' => e = .returned (.tuple #[.int .i64 0, .int .i64 18]) ∧ Kept NoF w w' := by
  obtain ⟨ad, rfl, had, hcell⟩ := hd.2 (by decide)
  have hk : ∀ j v, 0 < j → (dv key).toList[j]? = some v → w.cell? ⟨ad.block, ad.off + j, none⟩ = some v := fun j v hj hv => by
    rw [← add_lit _ (by omega)]; exact hcell _ _ hv
  have x0 : w.cell? ad = some (.int .i64 0) := hcell 0 _ rfl
  have x1 : w.cell? ⟨ad.block, ad.off + 1, none⟩ = some (.int .i64 0) := hk 1 _ (by decide) rfl
  have x2 : w.cell? ⟨ad.block, ad.off + 2, none⟩ = some (.int .i64 1) := hk 2 _ (by decide) rfl
  have x3 : w.cell? ⟨ad.block, ad.off + 3, none⟩ = some (.int .i64 0) := hk 3 _ (by decide) rfl
  have x4 : w.cell? ⟨ad.block, ad.off + 4, none⟩ = some (.string key) := hk 4 _ (by decide) rfl
  have x5 : w.cell? ⟨ad.block, ad.off + 5, none⟩ = some (.string ⟨#[]⟩) := hk 5 _ (by decide) rfl
  have x6 : w.cell? ⟨ad.block, ad.off + 6, none⟩ = some (.int .u64 0) := hk 6 _ (by decide) rfl
  have x7 : w.cell? ⟨ad.block, ad.off + 7, none⟩ = some (.int .i64 0) := hk 7 _ (by decide) rfl
  have x8 : w.cell? ⟨ad.block, ad.off + 8, none⟩ = some (.slice none 0 0) := hk 8 _ (by decide) rfl
  have x9 : w.cell? ⟨ad.block, ad.off + 9, none⟩ = some (.int .i64 0) := hk 9 _ (by decide) rfl
  have x10 : w.cell? ⟨ad.block, ad.off + 10, none⟩ = some (.int .i64 1) := hk 10 _ (by decide) rfl
  have x11 : w.cell? ⟨ad.block, ad.off + 11, none⟩ = some (.int .i64 0) := hk 11 _ (by decide) rfl
  have x12 : w.cell? ⟨ad.block, ad.off + 12, none⟩ = some (.int .i64 0) := hk 12 _ (by decide) rfl
  have x13 : w.cell? ⟨ad.block, ad.off + 13, none⟩ = some (.int .u64 7) := hk 13 _ (by decide) rfl
  have x14 : w.cell? ⟨ad.block, ad.off + 14, none⟩ = some (.int .i64 0) := hk 14 _ (by decide) rfl
  have x15 : w.cell? ⟨ad.block, ad.off + 15, none⟩ = some (.slice none 0 0) := hk 15 _ (by decide) rfl
  dsimp only [dv] at *
  have HR := Lib.hid hr; clear hr hd hcell hk
  go_enter Try.func26, Try.ntmps26
  go_wp2
  go_step3
  go_wp2
  go_step3
  go_wp2_with fail
  go_loopw [6, 11] (fun v6 v11 wr => v11 = .int .i64 0 ∧ wr = w) (fun _ v11 _ => 1 - (intOf v11).toNat)
  case atStart => exact ⟨rfl, rfl⟩
  case round =>
    obtain ⟨rfl, rfl⟩ := hrel
    go_wp2_with fail
    refine (HR.out _ (by (repeat' (first | with_reducible exact Kept.refl _ _ | with_reducible refine Kept.put ?_ ?_ | with_reducible refine Kept.drewN ?_ _ | with_reducible refine Kept.drew ?_ | with_reducible refine Kept.alloc ?_ _ | (fail) | (right; simp; done))))).mono ?_
    rintro e w2 ⟨rfl, hk⟩
    have HK := Lib.hid (Kept.then (F := NoF) (a := wr) (by (repeat' (first | with_reducible exact Kept.refl _ _ | with_reducible refine Kept.put ?_ ?_ | with_reducible refine Kept.drewN ?_ _ | with_reducible refine Kept.drew ?_ | with_reducible refine Kept.alloc ?_ _ | (fail) | (right; simp; done)))) hk); clear hk
    go_wp2
    try rw [Exit.noGoto_ret]
    go_ret2
    exact ⟨rfl, HK.out⟩
end Ent
end Go.Proofs.Ytffnaabnbimhbaa
