/- conf's Head; slices.Contains at numbers; mstate's next. -/
import Derived.Test.YtolipnnjeehnfaaMst13
import Derived.Deep.RegionHeld3
set_option linter.unusedSimpArgs false
set_option linter.unusedVariables false
namespace Go.Proofs.Ytolipnnjeehnfaa
open Go.RowKit
set_option maxRecDepth 100000
namespace Mst
open Plan Vn
/-- The Id of the head; -1: there is none. -/
def headI : List Mem → Int
  | [] => -1
  | m :: _ => m.1
theorem phead_any (w : World) (ep fl : Int) (A : Option Addr) (c : Nat) (l : List Mem) (hl : Src w 2 A l.length (mcells l)) (hlen : l.length ≤ 1000000) :
    Calls Try.prog 53 #[cagg ep A l.length c fl] w fun e w' => e = .returned (.int .i64 (headI l)) ∧ Kept NoF w w' := by
  cases l with
  | nil =>
    clear hl
    simp only [List.length_nil]
    go_enter Try.func53, Try.ntmps53
    go_wp2
    go_ret
    exact ⟨rfl, by (repeat' (first | with_reducible exact Kept.refl _ _ | with_reducible refine Kept.put ?_ ?_ | with_reducible refine Kept.drewN ?_ _ | with_reducible refine Kept.drew ?_ | with_reducible refine Kept.alloc ?_ _ | (fail) | (right; simp; done)))⟩
  | cons m r =>
    obtain ⟨ad, rfl, had, d0, d1⟩ := mem_cells hl (by simp) 0 m rfl
    have d0' : w.cell? ad = some (.int .i64 m.1) := d0
    have d0'' : ∀ o, (w.alloc o).cell? ad = some (.int .i64 m.1) := fun o => by rw [World.cell?_of_block (w := w) (((Kept.refl NoF w).alloc o).block _ had (fun x => x))]; exact d0'
    have e0 := d0'' (.cells #[.int .i64 ep, .slice (some ad) (m :: r).length c, .int .u64 fl] 31)
    have hpos : 0 < (m :: r).length := by simp
    have HH := Lib.hid (rfl : headI (m :: r) = m.1)
    generalize (m :: r).length = N at *
    rw [HH.out]
    have hp1 : ¬ (N : Int) = 0 := by omega
    have hp2 : ¬ (N : Int) ≤ 0 := by omega
    clear d0 d1 d0' d0'' hl had HH
    have hadd : ad.add 0 = ad := by unfold Addr.add; rw [if_pos rfl]
    go_enter Try.func53, Try.ntmps53
    go_wp2
    go_ret
    exact ⟨rfl, by (repeat' (first | with_reducible exact Kept.refl _ _ | with_reducible refine Kept.put ?_ ?_ | with_reducible refine Kept.drewN ?_ _ | with_reducible refine Kept.drew ?_ | with_reducible refine Kept.alloc ?_ _ | (fail) | (right; simp; done)))⟩
theorem indexI_any (w : World) (A : Option Addr) (c : Nat) (l : List Int) (x : Int) (hl : Src w 1 A l.length (ints l)) (hlen : l.length ≤ 1000000) :
    Calls Try.prog 75 #[.slice A l.length c, .int .i64 x] w fun e w' => e = .returned (.int .i64 (idxW (fun y => decide (y = x)) l 0)) ∧ Kept NoF w w' := by
  have HL := Lib.hid hl; clear hl
  obtain ⟨r, hr⟩ : ∃ r, idxW (fun y => decide (y = x)) l 0 = r := ⟨_, rfl⟩
  rw [hr]
  have HR := Lib.hid hr; clear hr
  go_enter Try.func75, Try.ntmps75
  go_wp2_with fail
  go_loop [5, 8] (fun v5 v8 => ∃ i : Nat, i ≤ l.length ∧ v8 = .int .i64 i ∧ r = idxW (fun y => decide (y = x)) (l.drop i) i) (fun _ v8 => l.length - (intOf v8).toNat)
  case atStart => exact ⟨0, Nat.zero_le _, rfl, HR.out.symm⟩
  case round =>
    obtain ⟨i, hi, rfl, hrr⟩ := hrel
    by_cases hil : i < l.length
    · obtain ⟨y, hy⟩ : ∃ y, l[i]? = some y := ⟨_, List.getElem?_eq_getElem hil⟩
      have hsa := idxW_at (fun y => decide (y = x)) hy
      obtain ⟨ad, rfl, hl1, x0⟩ := int_cells HL.out (by omega) i y hy
      rw [hsa] at hrr
      clear hsa hy
      by_cases hyx : y = x
      · subst hyx
        rw [if_pos (by simp)] at hrr
        have HRR := Lib.hid hrr; clear hrr
        go_wp2
        go_ret
        exact ⟨by rw [HRR.out]; rfl, Kept.refl _ _⟩
      · rw [if_neg (by simpa using hyx)] at hrr
        have HRR := Lib.hid hrr; clear hrr
        have hxy : ¬ x = y := fun h => hyx h.symm
        go_wp2
        go_round
        case rel => exact ⟨i + 1, by omega, by go_num, HRR.out⟩
        case measure => simp [intOf]; omega
    · obtain rfl : i = l.length := by omega
      rw [List.drop_length, idxW] at hrr
      have HRR := Lib.hid hrr; clear hrr
      go_wp2
      go_ret
      exact ⟨by rw [HRR.out]; rfl, Kept.refl _ _⟩
theorem inB_any (l : List Int) (x : Int) : (l.any fun y => decide (y = x)) = inB l x := by
  unfold inB
  induction l with
  | nil => rfl
  | cons a l ih =>
    have e : (x == a) = decide (a = x) := by rw [Bool.eq_iff_iff, beq_iff_eq, decide_eq_true_iff]; exact eq_comm
    rw [List.any_cons, List.contains_cons, ih, e]
theorem containsI_any (w : World) (A : Option Addr) (c : Nat) (l : List Int) (x : Int) (hl : Src w 1 A l.length (ints l)) (hlen : l.length ≤ 1000000) :
    Calls Try.prog 52 #[.slice A l.length c, .int .i64 x] w fun e w' => e = .returned (.bool (inB l x)) ∧ Kept NoF w w' := by
  have hi := indexI_any w A c l x hl hlen
  have ha := idxW_any (fun y => decide (y = x)) l 0
  rw [inB_any] at ha
  obtain ⟨k, hk⟩ : ∃ k, idxW (fun y => decide (y = x)) l 0 = k := ⟨_, rfl⟩
  rw [hk] at hi ha
  rw [← ha]
  have HI := Lib.hid hi; clear hi hk hl ha
  go_enter Try.func52, Try.ntmps52
  go_wp2_with fail
  refine HI.out.mono ?_
  rintro e w2 ⟨rfl, hk⟩
  have HK := Lib.hid hk; clear hk
  go_wp2
  go_ret
  exact ⟨by simp, HK.out⟩
theorem next1_any (w : World) (x : NoteR) (b : Nat) (id : Int) (hb : Has w b 48 (ncell x).toArray) (h : NOk w x) :
    Calls Try.prog 49 #[.int .i64 id, .pointer (some ⟨b, 0, none⟩)] w fun e w' => e = .returned (.bool (!anyId x.ms id)) ∧ Kept NoF w w' := by
  have hm := fun W (hW : Kept NoF w W) => member_any W x.ep x.fl x.mA x.mc x.ms id (h.kept hW).m (by have := h.ml; omega)
  obtain ⟨r, hr⟩ : ∃ r, anyId x.ms id = r := ⟨_, rfl⟩
  rw [hr] at hm ⊢
  clear hr h
  obtain ⟨k, n, at2, ep, mA, mc, ms, fl, lA, lc, lg, oA, oc, ⟨bcl, breq, ops⟩, ts, ⟨p1, p2, p3⟩, ⟨s1, s2, s3, s4⟩⟩ := x
  have c3 := hb.cell 3
  have c4 := hb.cell 4
  have c5 := hb.cell 5
  simp only [ncell, List.getElem?_toArray, List.getElem?_cons_zero, List.getElem?_cons_succ] at c3 c4 c5 hm
  have HM := Lib.hid hm; clear hm hb
  go_enter Try.func49, Try.ntmps49
  go_wp2_with fail
  refine (HM.out _ (by (repeat' (first | with_reducible exact Kept.refl _ _ | with_reducible refine Kept.put ?_ ?_ | with_reducible refine Kept.drewN ?_ _ | with_reducible refine Kept.drew ?_ | with_reducible refine Kept.alloc ?_ _ | (fail) | (right; simp; done))))).mono ?_
  rintro e w2 ⟨rfl, hk⟩
  have HK := Lib.hid hk; clear hk
  go_wp2
  go_ret
  exact ⟨rfl, HK.out⟩
end Mst
end Go.Proofs.Ytolipnnjeehnfaa
