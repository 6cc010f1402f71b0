/- Equality of batches, of lists of operations, of lists of pairs: the program's and the document's. -/
import Derived.Test.YtnmlemciiigjcaaOps1
import Derived.Test.YtnmlemciiigjcaaOverPlain
import Derived.Deep.QuietTactic
import Derived.Deep.RegionLaw
set_option linter.unusedSimpArgs false
set_option linter.unusedVariables false
namespace Go.Proofs.Ytnmlemciiigjcaa
open Go.RowKit Go.Shelf
set_option maxRecDepth 100000
namespace Ops
open Vn
theorem tl_eq (a b : ByteArray) : (a.toList == b.toList) = decide (a = b) := by
  rw [ByteArray.toList_eq, ByteArray.toList_eq]
  by_cases h : a = b
  · simp [h]
  · have : a.data.toList ≠ b.data.toList := fun e => h (ByteArray.ext (Array.toList_inj.1 e))
    rw [decide_eq_false h, beq_eq_false_iff_ne]
    exact this
abbrev pagg (p : PairR) : Value := .agg #[.string p.key, .string p.val]
theorem run_neq_op (p q : OpR) (W : World) : (binOp .neq 106 (oagg p) (oagg q)).run Try.prog W = .ok (.bool (!decide (p = q))) W := by
  obtain ⟨p1, p2, p3⟩ := p
  obtain ⟨q1, q2, q3⟩ := q
  have e1 := tl_eq p1 q1
  have e2 := tl_eq p2 q2
  unfold oagg
  by_cases h1 : p1 = q1 <;> by_cases h2 : p2 = q2 <;> by_cases h3 : p3 = q3 <;> simp [go_sem, h1, h2, h3, e1, e2]
theorem run_neq_pair (p q : PairR) (W : World) : (binOp .neq 54 (pagg p) (pagg q)).run Try.prog W = .ok (.bool (!decide (p = q))) W := by
  obtain ⟨p1, p2⟩ := p
  obtain ⟨q1, q2⟩ := q
  have e1 := tl_eq p1 q1
  have e2 := tl_eq p2 q2
  unfold pagg
  by_cases h1 : p1 = q1 <;> by_cases h2 : p2 = q2 <;> simp [go_sem, h1, h2, e1, e2]
theorem pair_cells {w : World} {A : Option Addr} {m : Nat} {l : List PairR} (h : Src w 2 A m (pcells l)) (hm : 0 < m) (i : Nat) (p : PairR) (hp : l[i]? = some p) :
    ∃ ad, A = some ad ∧ ad.block < w.heap.size ∧ w.cell? (ad.add (i * 2)) = some (.string p.key) ∧ w.cell? ⟨(ad.add (i * 2)).block, (ad.add (i * 2)).off + 1, none⟩ = some (.string p.val) := by
  obtain ⟨ad, rfl, had, hcell⟩ := h.2 hm
  have k0 : (pcells l)[i * 2]? = some (.string p.key) := by
    unfold pcells
    rw [flat_get pcell 2 (by decide) (fun _ => rfl), show i * 2 / 2 = i by omega, show i * 2 % 2 = 0 by omega, hp]; rfl
  have k1 : (pcells l)[i * 2 + 1]? = some (.string p.val) := by
    unfold pcells
    rw [flat_get pcell 2 (by decide) (fun _ => rfl), show (i * 2 + 1) / 2 = i by omega, show (i * 2 + 1) % 2 = 1 by omega, hp]; rfl
  refine ⟨ad, rfl, had, hcell _ _ k0, ?_⟩
  rw [← add_lit _ (by omega), add_add]; exact hcell _ _ k1
theorem eq_take_succ {α : Type} {a b : List α} {i : Nat} {p : α} (h : a.take i = b.take i) (ha : a[i]? = some p) (hb : b[i]? = some p) : a.take (i + 1) = b.take (i + 1) := by
  rw [List.take_add_one, List.take_add_one, h, ha, hb]

set_option maxHeartbeats 2000000 in
theorem rsameOps_any (w : World) (A B : Option Addr) (c d : Nat) (a b : List OpR) (ha : Src w 3 A a.length (cells a)) (hb : Src w 3 B b.length (cells b)) (hlen : a.length ≤ 1000000) :
    Calls Try.prog 56 #[.slice A a.length c, .slice B b.length d] w fun e w' => e = .returned (.bool (decide (a = b))) ∧ Kept NoF w w' := by
  have HA := Lib.hid ha; clear ha
  have HB := Lib.hid hb; clear hb
  by_cases hl : a.length = b.length
  rotate_left
  · have hd : decide (a = b) = false := decide_eq_false fun e => hl (by rw [e])
    rw [hd]
    have hne : ((a.length : Int) != (b.length : Int)) = true := by simpa using fun e => hl (by omega)
    clear hd HA HB
    go_enter Try.func56, Try.ntmps56
    go_wp2
    go_ret
    exact ⟨rfl, Kept.refl _ _⟩
  rw [← hl] at HB ⊢
  have HL := Lib.hid hl; clear hl
  obtain ⟨n, hn⟩ : ∃ n, a.length = n := ⟨_, rfl⟩
  rw [hn] at HA HB hlen ⊢
  have HN := Lib.hid hn; clear hn
  obtain ⟨r, hr⟩ : ∃ r, decide (a = b) = r := ⟨_, rfl⟩
  rw [hr]
  have HR := Lib.hid hr; clear hr
  go_enter Try.func56, Try.ntmps56
  go_wp2_with fail
  go_loopw [5] (fun v5 wr => ∃ i m : Nat, i ≤ n ∧ v5 = .int .i64 i ∧ a.take i = b.take i ∧ wr = w.drewN m) (fun v5 _ => n - (intOf v5).toNat)
  case atStart => exact ⟨0, 0, Nat.zero_le _, rfl, rfl, rfl⟩
  case round =>
    obtain ⟨i, m, hi, rfl, ht, rfl⟩ := hrel
    have HT := Lib.hid ht; clear ht
    by_cases hil : i < n
    · obtain ⟨p, hp⟩ : ∃ p, a[i]? = some p := ⟨_, List.getElem?_eq_getElem (by have := HN.out; omega)⟩
      obtain ⟨q, hq⟩ : ∃ q, b[i]? = some q := ⟨_, List.getElem?_eq_getElem (by have := HN.out; have := HL.out; omega)⟩
      obtain ⟨a1, rfl, hl1, d0, d1, d2⟩ := op_cells HA.out (by omega) i p hp
      obtain ⟨a2, rfl, hl2, f0, f1, f2⟩ := op_cells HB.out (by omega) i q hq
      have heq := run_neq_op p q
      have HP := Lib.hid hp; clear hp
      have HQ := Lib.hid hq; clear hq
      by_cases hpq : p = q
      · subst hpq
        rw [decide_eq_true rfl] at heq
        have hnx := eq_take_succ HT.out HP.out HQ.out
        have HNX := Lib.hid hnx; clear hnx HP HQ
        obtain ⟨x0, x1, x2⟩ := p
        unfold oagg at heq
        dsimp only at d0 d1 d2 f0 f1 f2 heq
        go_wp2_with fail
        go_quiet (fail)
        go_wp2
        go_roundw
        case rel => exact ⟨i + 1, _, by omega, by go_num, HNX.out, rfl⟩
        case measure => simp [intOf]; omega
      · have hrf : r = false := by
          rw [← HR.out]
          refine decide_eq_false fun e => hpq ?_
          have h1 := HP.out
          rw [e, HQ.out] at h1
          injection h1 with h1
          exact h1.symm
        rw [decide_eq_false hpq] at heq
        have HRF := Lib.hid hrf; clear hrf hpq HP HQ
        obtain ⟨x0, x1, x2⟩ := p
        obtain ⟨y0, y1, y2⟩ := q
        unfold oagg at heq
        dsimp only at d0 d1 d2 f0 f1 f2 heq
        go_wp2_with fail
        go_quiet (fail)
        go_wp2
        go_ret
        exact ⟨by rw [HRF.out]; rfl, (Kept.quiet _ _ _).drewN _⟩
    · obtain rfl : i = n := by omega
      have hrt : r = true := by
        rw [← HR.out]
        refine decide_eq_true ?_
        have h1 := HT.out
        rwa [List.take_of_length_le (by rw [HN.out]; exact Nat.le_refl _), List.take_of_length_le (by rw [← HL.out, HN.out]; exact Nat.le_refl _)] at h1
      have HRT := Lib.hid hrt; clear hrt
      go_wp2
      go_ret
      exact ⟨by rw [HRT.out]; rfl, Kept.quiet _ _ _⟩

set_option maxHeartbeats 2000000 in
theorem rsamePairs_any (w : World) (A B : Option Addr) (c d : Nat) (a b : List PairR) (ha : Src w 2 A a.length (pcells a)) (hb : Src w 2 B b.length (pcells b)) (hlen : a.length ≤ 1000000) :
    Calls Try.prog 28 #[.slice A a.length c, .slice B b.length d] w fun e w' => e = .returned (.bool (decide (a = b))) ∧ Kept NoF w w' := by
  have HA := Lib.hid ha; clear ha
  have HB := Lib.hid hb; clear hb
  by_cases hl : a.length = b.length
  rotate_left
  · have hd : decide (a = b) = false := decide_eq_false fun e => hl (by rw [e])
    rw [hd]
    have hne : ((a.length : Int) != (b.length : Int)) = true := by simpa using fun e => hl (by omega)
    clear hd HA HB
    go_enter Try.func28, Try.ntmps28
    go_wp2
    go_ret
    exact ⟨rfl, Kept.refl _ _⟩
  rw [← hl] at HB ⊢
  have HL := Lib.hid hl; clear hl
  obtain ⟨n, hn⟩ : ∃ n, a.length = n := ⟨_, rfl⟩
  rw [hn] at HA HB hlen ⊢
  have HN := Lib.hid hn; clear hn
  obtain ⟨r, hr⟩ : ∃ r, decide (a = b) = r := ⟨_, rfl⟩
  rw [hr]
  have HR := Lib.hid hr; clear hr
  go_enter Try.func28, Try.ntmps28
  go_wp2_with fail
  go_loopw [5] (fun v5 wr => ∃ i m : Nat, i ≤ n ∧ v5 = .int .i64 i ∧ a.take i = b.take i ∧ wr = w.drewN m) (fun v5 _ => n - (intOf v5).toNat)
  case atStart => exact ⟨0, 0, Nat.zero_le _, rfl, rfl, rfl⟩
  case round =>
    obtain ⟨i, m, hi, rfl, ht, rfl⟩ := hrel
    have HT := Lib.hid ht; clear ht
    by_cases hil : i < n
    · obtain ⟨p, hp⟩ : ∃ p, a[i]? = some p := ⟨_, List.getElem?_eq_getElem (by have := HN.out; omega)⟩
      obtain ⟨q, hq⟩ : ∃ q, b[i]? = some q := ⟨_, List.getElem?_eq_getElem (by have := HN.out; have := HL.out; omega)⟩
      obtain ⟨a1, rfl, hl1, d0, d1⟩ := pair_cells HA.out (by omega) i p hp
      obtain ⟨a2, rfl, hl2, f0, f1⟩ := pair_cells HB.out (by omega) i q hq
      have heq := run_neq_pair p q
      have HP := Lib.hid hp; clear hp
      have HQ := Lib.hid hq; clear hq
      by_cases hpq : p = q
      · subst hpq
        rw [decide_eq_true rfl] at heq
        have hnx := eq_take_succ HT.out HP.out HQ.out
        have HNX := Lib.hid hnx; clear hnx HP HQ
        obtain ⟨x0, x1⟩ := p
        unfold pagg at heq
        dsimp only at d0 d1 f0 f1 heq
        go_wp2_with fail
        go_quiet (fail)
        go_wp2
        go_roundw
        case rel => exact ⟨i + 1, _, by omega, by go_num, HNX.out, rfl⟩
        case measure => simp [intOf]; omega
      · have hrf : r = false := by
          rw [← HR.out]
          refine decide_eq_false fun e => hpq ?_
          have h1 := HP.out
          rw [e, HQ.out] at h1
          injection h1 with h1
          exact h1.symm
        rw [decide_eq_false hpq] at heq
        have HRF := Lib.hid hrf; clear hrf hpq HP HQ
        obtain ⟨x0, x1⟩ := p
        obtain ⟨y0, y1⟩ := q
        unfold pagg at heq
        dsimp only at d0 d1 f0 f1 heq
        go_wp2_with fail
        go_quiet (fail)
        go_wp2
        go_ret
        exact ⟨by rw [HRF.out]; rfl, (Kept.quiet _ _ _).drewN _⟩
    · obtain rfl : i = n := by omega
      have hrt : r = true := by
        rw [← HR.out]
        refine decide_eq_true ?_
        have h1 := HT.out
        rwa [List.take_of_length_le (by rw [HN.out]; exact Nat.le_refl _), List.take_of_length_le (by rw [← HL.out, HN.out]; exact Nat.le_refl _)] at h1
      have HRT := Lib.hid hrt; clear hrt
      go_wp2
      go_ret
      exact ⟨by rw [HRT.out]; rfl, Kept.quiet _ _ _⟩

set_option maxHeartbeats 2000000 in
theorem equalOps_any (w : World) (A B : Option Addr) (c d : Nat) (a b : List OpR) (ha : Src w 3 A a.length (cells a)) (hb : Src w 3 B b.length (cells b)) (hlen : a.length ≤ 1000000) :
    Calls Try.prog 99 #[.slice A a.length c, .slice B b.length d] w fun e w' => e = .returned (.bool (decide (a = b))) ∧ Kept NoF w w' := by
  have HA := Lib.hid ha; clear ha
  have HB := Lib.hid hb; clear hb
  by_cases hl : a.length = b.length
  rotate_left
  · have hd : decide (a = b) = false := decide_eq_false fun e => hl (by rw [e])
    rw [hd]
    have hne : ((a.length : Int) != (b.length : Int)) = true := by simpa using fun e => hl (by omega)
    clear hd HA HB
    go_enter Try.func99, Try.ntmps99
    go_wp2
    go_ret
    exact ⟨rfl, Kept.refl _ _⟩
  rw [← hl] at HB ⊢
  have HL := Lib.hid hl; clear hl
  obtain ⟨n, hn⟩ : ∃ n, a.length = n := ⟨_, rfl⟩
  rw [hn] at HA HB hlen ⊢
  have HN := Lib.hid hn; clear hn
  obtain ⟨r, hr⟩ : ∃ r, decide (a = b) = r := ⟨_, rfl⟩
  rw [hr]
  have HR := Lib.hid hr; clear hr
  go_enter Try.func99, Try.ntmps99
  go_wp2_with fail
  go_loopw [5, 13] (fun v5 v13 wr => ∃ i m : Nat, i ≤ n ∧ v13 = .int .i64 i ∧ a.take i = b.take i ∧ wr = w.drewN m) (fun _ v13 _ => n - (intOf v13).toNat)
  case atStart => exact ⟨0, 0, Nat.zero_le _, rfl, rfl, rfl⟩
  case round =>
    obtain ⟨i, m, hi, rfl, ht, rfl⟩ := hrel
    have HT := Lib.hid ht; clear ht
    by_cases hil : i < n
    · obtain ⟨p, hp⟩ : ∃ p, a[i]? = some p := ⟨_, List.getElem?_eq_getElem (by have := HN.out; omega)⟩
      obtain ⟨q, hq⟩ : ∃ q, b[i]? = some q := ⟨_, List.getElem?_eq_getElem (by have := HN.out; have := HL.out; omega)⟩
      obtain ⟨a1, rfl, hl1, d0, d1, d2⟩ := op_cells HA.out (by omega) i p hp
      obtain ⟨a2, rfl, hl2, f0, f1, f2⟩ := op_cells HB.out (by omega) i q hq
      have heq := run_neq_op p q
      have HP := Lib.hid hp; clear hp
      have HQ := Lib.hid hq; clear hq
      by_cases hpq : p = q
      · subst hpq
        rw [decide_eq_true rfl] at heq
        have hnx := eq_take_succ HT.out HP.out HQ.out
        have HNX := Lib.hid hnx; clear hnx HP HQ
        obtain ⟨x0, x1, x2⟩ := p
        unfold oagg at heq
        dsimp only at d0 d1 d2 f0 f1 f2 heq
        go_wp2_with fail
        go_quiet (fail)
        go_wp2
        go_roundw
        case rel => exact ⟨i + 1, _, by omega, by go_num, HNX.out, rfl⟩
        case measure => simp [intOf]; omega
      · have hrf : r = false := by
          rw [← HR.out]
          refine decide_eq_false fun e => hpq ?_
          have h1 := HP.out
          rw [e, HQ.out] at h1
          injection h1 with h1
          exact h1.symm
        rw [decide_eq_false hpq] at heq
        have HRF := Lib.hid hrf; clear hrf hpq HP HQ
        obtain ⟨x0, x1, x2⟩ := p
        obtain ⟨y0, y1, y2⟩ := q
        unfold oagg at heq
        dsimp only at d0 d1 d2 f0 f1 f2 heq
        go_wp2_with fail
        go_quiet (fail)
        go_wp2
        go_ret
        exact ⟨by rw [HRF.out]; rfl, (Kept.quiet _ _ _).drewN _⟩
    · obtain rfl : i = n := by omega
      have hrt : r = true := by
        rw [← HR.out]
        refine decide_eq_true ?_
        have h1 := HT.out
        rwa [List.take_of_length_le (by rw [HN.out]; exact Nat.le_refl _), List.take_of_length_le (by rw [← HL.out, HN.out]; exact Nat.le_refl _)] at h1
      have HRT := Lib.hid hrt; clear hrt
      go_wp2
      go_ret
      exact ⟨by rw [HRT.out]; rfl, Kept.quiet _ _ _⟩

def sameB (a b : Batch) : Bool := decide (a.cl = b.cl) && decide (a.req = b.req) && decide (a.ops = b.ops)

set_option maxHeartbeats 2000000 in
theorem osame_any (w : World) (a b : Batch) (A B : Option Addr) (c d : Nat) (ha : Src w 3 A a.ops.length (cells a.ops)) (hb : Src w 3 B b.ops.length (cells b.ops)) (hlen : a.ops.length ≤ 1000000) :
    Calls Try.prog 51 #[bagg a A c, bagg b B d] w fun e w' => e = .returned (.bool (sameB a b)) ∧ Kept NoF w w' := by
  have hs := fun W (hW : Kept NoF w W) => equalOps_any W A B c d a.ops b.ops (ha.kept hW (fun _ _ x => x)) (hb.kept hW (fun _ _ x => x)) hlen
  have HS := Lib.hid hs; clear hs ha hb
  unfold sameB bagg
  obtain ⟨a1, a2, a3⟩ := a
  obtain ⟨b1, b2, b3⟩ := b
  dsimp only at HS hlen ⊢
  by_cases h1 : a1 = b1
  · subst h1
    by_cases h2 : a2 = b2
    · subst h2
      simp only [decide_true, Bool.true_and]
      go_enter Try.func51, Try.ntmps51
      go_wp2_with fail
      refine (HS.out _ (by (repeat' (first | with_reducible exact Kept.refl _ _ | with_reducible refine Kept.put ?_ ?_ | with_reducible refine Kept.drewN ?_ _ | with_reducible refine Kept.drew ?_ | with_reducible refine Kept.alloc ?_ _ | (fail) | (right; simp; done))))).mono ?_
      rintro e w2 ⟨rfl, hk⟩
      have hk2 : Kept NoF w w2 := Kept.then (by (repeat' (first | with_reducible exact Kept.refl _ _ | with_reducible refine Kept.put ?_ ?_ | with_reducible refine Kept.drewN ?_ _ | with_reducible refine Kept.drew ?_ | with_reducible refine Kept.alloc ?_ _ | (fail) | (right; simp; done)))) hk
      have HK := Lib.hid hk2; clear hk2 hk
      go_wp2
      go_ret
      exact ⟨rfl, HK.out⟩
    · have h2' : (a2 == b2) = false := by rw [beq_eq_false_iff_ne]; exact h2
      simp only [decide_true, Bool.true_and, decide_eq_false h2, Bool.false_and]
      clear HS h2
      go_enter Try.func51, Try.ntmps51
      go_wp2
      go_ret
      exact ⟨rfl, by (repeat' (first | with_reducible exact Kept.refl _ _ | with_reducible refine Kept.put ?_ ?_ | with_reducible refine Kept.drewN ?_ _ | with_reducible refine Kept.drew ?_ | with_reducible refine Kept.alloc ?_ _ | (fail) | (right; simp; done)))⟩
  · have h1' : (a1 == b1) = false := by rw [beq_eq_false_iff_ne]; exact h1
    simp only [decide_eq_false h1, Bool.false_and]
    clear HS h1
    go_enter Try.func51, Try.ntmps51
    go_wp2
    go_ret
    exact ⟨rfl, by (repeat' (first | with_reducible exact Kept.refl _ _ | with_reducible refine Kept.put ?_ ?_ | with_reducible refine Kept.drewN ?_ _ | with_reducible refine Kept.drew ?_ | with_reducible refine Kept.alloc ?_ _ | (fail) | (right; simp; done)))⟩

set_option maxHeartbeats 2000000 in
theorem rsame_any (w : World) (a b : Batch) (A B : Option Addr) (c d : Nat) (ha : Src w 3 A a.ops.length (cells a.ops)) (hb : Src w 3 B b.ops.length (cells b.ops)) (hlen : a.ops.length ≤ 1000000) :
    Calls Try.prog 52 #[bagg a A c, bagg b B d] w fun e w' => e = .returned (.bool (sameB a b)) ∧ Kept NoF w w' := by
  have hs := fun W (hW : Kept NoF w W) => rsameOps_any W A B c d a.ops b.ops (ha.kept hW (fun _ _ x => x)) (hb.kept hW (fun _ _ x => x)) hlen
  have HS := Lib.hid hs; clear hs ha hb
  unfold sameB bagg
  obtain ⟨a1, a2, a3⟩ := a
  obtain ⟨b1, b2, b3⟩ := b
  dsimp only at HS hlen ⊢
  by_cases h1 : a1 = b1
  · subst h1
    by_cases h2 : a2 = b2
    · subst h2
      simp only [decide_true, Bool.true_and]
      go_enter Try.func52, Try.ntmps52
      go_wp2_with fail
      refine (HS.out _ (by (repeat' (first | with_reducible exact Kept.refl _ _ | with_reducible refine Kept.put ?_ ?_ | with_reducible refine Kept.drewN ?_ _ | with_reducible refine Kept.drew ?_ | with_reducible refine Kept.alloc ?_ _ | (fail) | (right; simp; done))))).mono ?_
      rintro e w2 ⟨rfl, hk⟩
      have hk2 : Kept NoF w w2 := Kept.then (by (repeat' (first | with_reducible exact Kept.refl _ _ | with_reducible refine Kept.put ?_ ?_ | with_reducible refine Kept.drewN ?_ _ | with_reducible refine Kept.drew ?_ | with_reducible refine Kept.alloc ?_ _ | (fail) | (right; simp; done)))) hk
      have HK := Lib.hid hk2; clear hk2 hk
      go_wp2
      go_ret
      exact ⟨rfl, HK.out⟩
    · have h2' : (a2 == b2) = false := by rw [beq_eq_false_iff_ne]; exact h2
      simp only [decide_true, Bool.true_and, decide_eq_false h2, Bool.false_and]
      clear HS h2
      go_enter Try.func52, Try.ntmps52
      go_wp2
      go_ret
      exact ⟨rfl, by (repeat' (first | with_reducible exact Kept.refl _ _ | with_reducible refine Kept.put ?_ ?_ | with_reducible refine Kept.drewN ?_ _ | with_reducible refine Kept.drew ?_ | with_reducible refine Kept.alloc ?_ _ | (fail) | (right; simp; done)))⟩
  · have h1' : (a1 == b1) = false := by rw [beq_eq_false_iff_ne]; exact h1
    simp only [decide_eq_false h1, Bool.false_and]
    clear HS h1
    go_enter Try.func52, Try.ntmps52
    go_wp2
    go_ret
    exact ⟨rfl, by (repeat' (first | with_reducible exact Kept.refl _ _ | with_reducible refine Kept.put ?_ ?_ | with_reducible refine Kept.drewN ?_ _ | with_reducible refine Kept.drew ?_ | with_reducible refine Kept.alloc ?_ _ | (fail) | (right; simp; done)))⟩
end Ops
end Go.Proofs.Ytnmlemciiigjcaa
