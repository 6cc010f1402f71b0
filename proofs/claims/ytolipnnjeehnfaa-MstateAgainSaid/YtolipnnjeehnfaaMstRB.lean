/- The document's Said; the law's Same. -/
import Derived.Test.YtolipnnjeehnfaaMstRA
import Derived.Test.YtolipnnjeehnfaaMst23
import Derived.Test.YtolipnnjeehnfaaMstP
import Derived.Test.YtolipnnjeehnfaaMst24
set_option linter.unusedSimpArgs false
set_option linter.unusedVariables false
namespace Go.Proofs.Ytolipnnjeehnfaa
open Go.RowKit
set_option maxRecDepth 100000
namespace Mst
open Plan Vn Go.Sort
theorem rsaid_at {w : World} {b : Nat} {F : Nat → Prop} {s : StR} (h : RAt w b F s) (i : Int) : Calls Try.prog 42 #[.pointer (some ⟨b, 0, none⟩), .int .i64 i] w fun e w' => e = .returned (ansagg (saidOf s i)) ∧ Kept NoF w w' := by
  obtain ⟨mA, mc, lA, lc, pA, pc, hF, hb, hm, hl, hp⟩ := h
  have hk0 : Kept NoF w (w.alloc (.cells #[.int .i64 0, .int .i64 0, .int .i64 0, .int .i64 0] 46)) := by (repeat' (first | with_reducible exact Kept.refl _ _ | with_reducible refine Kept.put ?_ ?_ | with_reducible refine Kept.drewN ?_ _ | with_reducible refine Kept.drew ?_ | with_reducible refine Kept.alloc ?_ _ | (fail) | (right; simp; done)))
  have hce : ∀ j, (w.alloc (.cells #[.int .i64 0, .int .i64 0, .int .i64 0, .int .i64 0] 46)).cell? ⟨b, j, none⟩ = (rcells s mA mc lA lc pA pc)[j]? := fun j => (hb.kept hk0 (fun z => z)).cell j
  have hn := Has.new w 46 #[.int .i64 0, .int .i64 0, .int .i64 0, .int .i64 0]
  have hbn : b ≠ w.heap.size := by have := hb.lt; omega
  have hbl := hb.lt
  by_cases hi : i < 0 ∨ 3 ≤ i
  · rw [saidOf, if_pos hi]
    have HN := Lib.hid hn
    have HK0 := Lib.hid hk0
    clear hce hn hF hb hm hl hp hk0
    by_cases h0 : i < 0
    · go_enter Try.func42, Try.ntmps42
      go_wp2
      refine bodyPost_ret (results_cell_row rfl _ _ w.heap.size 46 _ (0, 0) _ rfl (by first | exact HN.out | exact HN.out.put_of rfl) Try.underlying46 rfl (by kernel_rfl)) rfl ?_
      exact ⟨rfl, HK0.out⟩
    · have h3 : 3 ≤ i := by omega
      go_enter Try.func42, Try.ntmps42
      go_wp2
      refine bodyPost_ret (results_cell_row rfl _ _ w.heap.size 46 _ (0, 0) _ rfl (by first | exact HN.out | exact HN.out.put_of rfl) Try.underlying46 rfl (by kernel_rfl)) rfl ?_
      exact ⟨rfl, HK0.out⟩
  · rw [saidOf, if_neg hi]
    have h3 : i = 0 ∨ i = 1 ∨ i = 2 := by omega
    rcases h3 with rfl | rfl | rfl
    · have c0 := hce 7
      have c1 := hce (7 + 1)
      have c2 := hce (7 + 2)
      have c3 := hce (7 + 3)
      simp only [List.getElem?_toArray, List.getElem?_cons_zero, List.getElem?_cons_succ] at c0 c1 c2 c3
      have e0 : w.cell? ⟨b, 7, none⟩ = some (.int .i64 s.t0.cl) := hb.cell 7
      have e1 : w.cell? ⟨b, 7 + 1, none⟩ = some (.int .i64 s.t0.req) := hb.cell (7 + 1)
      have e2 : w.cell? ⟨b, 7 + 2, none⟩ = some (.int .i64 s.t0.e) := hb.cell (7 + 2)
      have e3 : w.cell? ⟨b, 7 + 3, none⟩ = some (.int .i64 s.t0.pin) := hb.cell (7 + 3)
      have HN := Lib.hid hn
      have HK0 := Lib.hid hk0
      clear hce hn hF hb hm hl hp hk0 hi
      go_enter Try.func42, Try.ntmps42
      go_wp2
      refine bodyPost_ret (results_cell_row rfl _ _ w.heap.size 46 _ (0, 0) _ rfl (by first | exact Has.new _ _ _ | exact (((HN.out.put 0 (.int .i64 s.t0.cl)).put 1 (.int .i64 s.t0.req)).put 2 (.int .i64 s.t0.e)).put 3 (.int .i64 s.t0.pin)) Try.underlying46 rfl (by kernel_rfl)) rfl ?_
      exact ⟨rfl, by (repeat' (first | with_reducible exact Kept.refl _ _ | with_reducible refine Kept.put ?_ ?_ | with_reducible refine Kept.drewN ?_ _ | with_reducible refine Kept.drew ?_ | with_reducible refine Kept.alloc ?_ _ | (first | exact .inr (Nat.le_refl _)) | (right; simp; done)))⟩
    · have c0 := hce 11
      have c1 := hce (11 + 1)
      have c2 := hce (11 + 2)
      have c3 := hce (11 + 3)
      simp only [List.getElem?_toArray, List.getElem?_cons_zero, List.getElem?_cons_succ] at c0 c1 c2 c3
      have e0 : w.cell? ⟨b, 11, none⟩ = some (.int .i64 s.t1.cl) := hb.cell 11
      have e1 : w.cell? ⟨b, 11 + 1, none⟩ = some (.int .i64 s.t1.req) := hb.cell (11 + 1)
      have e2 : w.cell? ⟨b, 11 + 2, none⟩ = some (.int .i64 s.t1.e) := hb.cell (11 + 2)
      have e3 : w.cell? ⟨b, 11 + 3, none⟩ = some (.int .i64 s.t1.pin) := hb.cell (11 + 3)
      have HN := Lib.hid hn
      have HK0 := Lib.hid hk0
      clear hce hn hF hb hm hl hp hk0 hi
      go_enter Try.func42, Try.ntmps42
      go_wp2
      refine bodyPost_ret (results_cell_row rfl _ _ w.heap.size 46 _ (0, 0) _ rfl (by first | exact Has.new _ _ _ | exact (((HN.out.put 0 (.int .i64 s.t1.cl)).put 1 (.int .i64 s.t1.req)).put 2 (.int .i64 s.t1.e)).put 3 (.int .i64 s.t1.pin)) Try.underlying46 rfl (by kernel_rfl)) rfl ?_
      exact ⟨rfl, by (repeat' (first | with_reducible exact Kept.refl _ _ | with_reducible refine Kept.put ?_ ?_ | with_reducible refine Kept.drewN ?_ _ | with_reducible refine Kept.drew ?_ | with_reducible refine Kept.alloc ?_ _ | (first | exact .inr (Nat.le_refl _)) | (right; simp; done)))⟩
    · have c0 := hce 15
      have c1 := hce (15 + 1)
      have c2 := hce (15 + 2)
      have c3 := hce (15 + 3)
      simp only [List.getElem?_toArray, List.getElem?_cons_zero, List.getElem?_cons_succ] at c0 c1 c2 c3
      have e0 : w.cell? ⟨b, 15, none⟩ = some (.int .i64 s.t2.cl) := hb.cell 15
      have e1 : w.cell? ⟨b, 15 + 1, none⟩ = some (.int .i64 s.t2.req) := hb.cell (15 + 1)
      have e2 : w.cell? ⟨b, 15 + 2, none⟩ = some (.int .i64 s.t2.e) := hb.cell (15 + 2)
      have e3 : w.cell? ⟨b, 15 + 3, none⟩ = some (.int .i64 s.t2.pin) := hb.cell (15 + 3)
      have HN := Lib.hid hn
      have HK0 := Lib.hid hk0
      clear hce hn hF hb hm hl hp hk0 hi
      go_enter Try.func42, Try.ntmps42
      go_wp2
      refine bodyPost_ret (results_cell_row rfl _ _ w.heap.size 46 _ (0, 0) _ rfl (by first | exact Has.new _ _ _ | exact (((HN.out.put 0 (.int .i64 s.t2.cl)).put 1 (.int .i64 s.t2.req)).put 2 (.int .i64 s.t2.e)).put 3 (.int .i64 s.t2.pin)) Try.underlying46 rfl (by kernel_rfl)) rfl ?_
      exact ⟨rfl, by (repeat' (first | with_reducible exact Kept.refl _ _ | with_reducible refine Kept.put ?_ ?_ | with_reducible refine Kept.drewN ?_ _ | with_reducible refine Kept.drew ?_ | with_reducible refine Kept.alloc ?_ _ | (first | exact .inr (Nat.le_refl _)) | (right; simp; done)))⟩
theorem psame_eq (w : World) (A B : Option Addr) (c d : Nat) (l : List PinR) (hl : Src w 3 A l.length (pcells l)) (hm : Src w 3 B l.length (pcells l)) (hlen : l.length ≤ 1000000) :
    Calls Try.prog 41 #[.slice A l.length c, .slice B l.length d] w fun e w' => e = .returned (.bool true) ∧ Kept NoF w w' := by
  have HL := Lib.hid hl; clear hl
  have HM := Lib.hid hm; clear hm
  go_enter Try.func41, Try.ntmps41
  go_wp2_with fail
  go_loopw [5] (fun v5 wr => ∃ i : Nat, i ≤ l.length ∧ v5 = .int .i64 i ∧ Kept NoF w wr) (fun v5 _ => l.length - (RowKit.intOf v5).toNat)
  case atStart => exact ⟨0, Nat.zero_le _, rfl, Kept.refl _ _⟩
  case round =>
    obtain ⟨i, hi, rfl, hk⟩ := hrel
    have HK := Lib.hid hk; clear hk
    by_cases hil : i < l.length
    · obtain ⟨b, hb⟩ : ∃ b, l[i]? = some b := ⟨_, List.getElem?_eq_getElem hil⟩
      obtain ⟨ad, rfl, _, e0, e1, e2⟩ := pin_cells (HL.out.kept HK.out (fun _ _ x => x)) (by omega) i b hb
      obtain ⟨bd, rfl, _, g0, g1, g2⟩ := pin_cells (HM.out.kept HK.out (fun _ _ x => x)) (by omega) i b hb
      clear hb
      have hne := run_neq_pin b b
      rw [decide_eq_false (by simp)] at hne
      go_wp2_with fail
      go_quiet (fail)
      go_wp2
      go_roundw
      case rel => exact ⟨i + 1, by omega, by go_num, HK.out.drewN _⟩
      case measure => simp [RowKit.intOf]; omega
    · obtain rfl : i = l.length := by omega
      go_wp2
      go_ret
      exact ⟨rfl, HK.out⟩
theorem run_neq_ans (p : AnsR) (W : World) : (binOp .neq 46 (ansagg p) (ansagg p)).run Try.prog W = .ok (.bool false) W := by
  obtain ⟨p1, p2, p3, p4⟩ := p
  simp [go_sem]
set_option maxHeartbeats 8000000 in
theorem same_eq (w : World) (b c : Nat) (F G : Nat → Prop) (s : StR) (hs : StAt w b F s) (hx : RAt w c G s) (hok : SOk s) :
    Calls Try.prog 18 #[.pointer (some ⟨b, 0, none⟩), .pointer (some ⟨c, 0, none⟩)] w fun e w' => e = .returned (.int .i64 1) ∧ Kept NoF w w' := by
  obtain ⟨mA, mc, lA, lc, pA, pc, hG, hb, hm, hl, hp⟩ := hx
  have hrx : RAt w c G s := ⟨mA, mc, lA, lc, pA, pc, hG, hb, hm, hl, hp⟩
  have hce : ∀ W, Kept NoF w W → W.cell? ⟨c, 0, none⟩ = some (.int .i64 s.ep) ∧ W.cell? ⟨c, 1, none⟩ = some (.slice mA s.ms.length mc) ∧ W.cell? ⟨c, 2, none⟩ = some (.int .u64 s.fl) ∧ W.cell? ⟨c, 3, none⟩ = some (.slice lA s.lg.length lc) ∧ W.cell? ⟨c, 4, none⟩ = some (.int .u64 s.hz) ∧ W.cell? ⟨c, 5, none⟩ = some (.slice pA s.pins.length pc) ∧ W.cell? ⟨c, 6, none⟩ = some (.int .i64 s.top) := fun W hW => by
    have g := hb.kept hW (fun z => z)
    exact ⟨g.cell 0, g.cell 1, g.cell 2, g.cell 3, g.cell 4, g.cell 5, g.cell 6⟩
  have hst := fun W (hW : Kept NoF w W) => hs.still hW
  have hmm := fun W A d (hW : Kept NoF w W) (hA : Src W 2 A s.ms.length (mcells s.ms)) => by
    have h9 := rsame_any W s.ep s.fl s.ep s.fl A mA d mc s.ms s.ms hA ((Src.of_own hm).kept hW (fun _ _ z => z)) (by have := hok.m; omega) (by have := hok.m; omega)
    have e1 : (s.ep == s.ep && (s.fl == s.fl && eqL s.ms s.ms)) = true := by simp [eqL]
    rw [e1] at h9
    exact h9
  have hll := fun W A d (hW : Kept NoF w W) (hA : Src W 1 A s.lg.length (ints s.lg)) => sameints_eq W A lA d lc s.lg hA ((Src.of_own hl).kept hW (fun _ _ z => z)) (by have := hok.l; omega)
  have hpp := fun W A d (hW : Kept NoF w W) (hA : Src W 3 A s.pins.length (pcells s.pins)) => psame_eq W A pA d pc s.pins hA ((Src.of_own hp).kept hW (fun _ _ z => z)) (by have := hok.p; omega)
  have hrs := fun W (hW : Kept NoF w W) => hrx.still hW
  have HCE := Lib.hid hce; have HST := Lib.hid hst; have HMM := Lib.hid hmm; have HLL := Lib.hid hll; have HPP := Lib.hid hpp; have HRS := Lib.hid hrs; have HOK := Lib.hid hok
  clear hce hst hmm hll hpp hrs hok hrx hs hG hb hm hl hp
  obtain ⟨z0, z1, z2, z3, z4, z5, z6⟩ := HCE.out w (Kept.refl _ _)
  go_enter Try.func18, Try.ntmps18
  go_wp2_with fail
  have HS := Lib.hid (Kept.refl NoF w)
  first
  | (go_region_held3 (fun W => W.cell? ⟨c, 0, none⟩ = some (.int .i64 s.ep) ∧ W.cell? ⟨c, 1, none⟩ = some (.slice mA s.ms.length mc) ∧ W.cell? ⟨c, 2, none⟩ = some (.int .u64 s.fl) ∧ W.cell? ⟨c, 3, none⟩ = some (.slice lA s.lg.length lc) ∧ W.cell? ⟨c, 4, none⟩ = some (.int .u64 s.hz) ∧ W.cell? ⟨c, 5, none⟩ = some (.slice pA s.pins.length pc) ∧ W.cell? ⟨c, 6, none⟩ = some (.int .i64 s.top))
      (first | with_reducible exact HCE.out _ HS.out | exact HCE.out _ HS.out.drew | (simp [go_sem, z0, z1, z2, z3, z4, z5, z6]; done))
      (first
        | (go_at_call 10; ((with_reducible refine (conf_at (HST.out _ ?_) HOK.out).mono ?_); ((repeat' (first | with_reducible exact Kept.refl _ _ | with_reducible refine Kept.put ?_ ?_ | with_reducible refine Kept.drewN ?_ _ | with_reducible refine Kept.drew ?_ | with_reducible refine Kept.alloc ?_ _ | (exact HS.out) | (right; simp; done)))); rintro e w1 ⟨A1, c1, rfl, hn, hk0⟩; have hk := Kept.then (F := NoF) (a := w) (by (repeat' (first | with_reducible exact Kept.refl _ _ | with_reducible refine Kept.put ?_ ?_ | with_reducible refine Kept.drewN ?_ _ | with_reducible refine Kept.drew ?_ | with_reducible refine Kept.alloc ?_ _ | (exact HS.out) | (right; simp; done)))) hk0; have HM1 := Lib.hid (Src.of_own hn.1); clear HS hk0 hn; have HS := Lib.hid hk; clear hk))
        | (go_at_call 39; ((with_reducible refine (HMM.out _ _ _ ?_ ?_).mono ?_); ((repeat' (first | with_reducible exact Kept.refl _ _ | with_reducible refine Kept.put ?_ ?_ | with_reducible refine Kept.drewN ?_ _ | with_reducible refine Kept.drew ?_ | with_reducible refine Kept.alloc ?_ _ | (exact HS.out) | (right; simp; done)))); exact HM1.out; rintro e w2 ⟨rfl, hk0⟩; have hk := Kept.then (F := NoF) (a := w) (by (repeat' (first | with_reducible exact Kept.refl _ _ | with_reducible refine Kept.put ?_ ?_ | with_reducible refine Kept.drewN ?_ _ | with_reducible refine Kept.drew ?_ | with_reducible refine Kept.alloc ?_ _ | (exact HS.out) | (right; simp; done)))) hk0; clear HS hk0; have HS := Lib.hid hk; clear hk))
        | (go_at_call 14; ((with_reducible refine (legit_at (HST.out _ ?_) HOK.out).mono ?_); ((repeat' (first | with_reducible exact Kept.refl _ _ | with_reducible refine Kept.put ?_ ?_ | with_reducible refine Kept.drewN ?_ _ | with_reducible refine Kept.drew ?_ | with_reducible refine Kept.alloc ?_ _ | (exact HS.out) | (right; simp; done)))); rintro e w3 ⟨A3, c3, rfl, hn, hk0⟩; have hk := Kept.then (F := NoF) (a := w) (by (repeat' (first | with_reducible exact Kept.refl _ _ | with_reducible refine Kept.put ?_ ?_ | with_reducible refine Kept.drewN ?_ _ | with_reducible refine Kept.drew ?_ | with_reducible refine Kept.alloc ?_ _ | (exact HS.out) | (right; simp; done)))) hk0; have HM3 := Lib.hid (Src.of_own hn.1); clear HS hk0 hn; have HS := Lib.hid hk; clear hk))
        | (go_at_call 40; ((with_reducible refine (HLL.out _ _ _ ?_ ?_).mono ?_); ((repeat' (first | with_reducible exact Kept.refl _ _ | with_reducible refine Kept.put ?_ ?_ | with_reducible refine Kept.drewN ?_ _ | with_reducible refine Kept.drew ?_ | with_reducible refine Kept.alloc ?_ _ | (exact HS.out) | (right; simp; done)))); exact HM3.out; rintro e w4 ⟨rfl, hk0⟩; have hk := Kept.then (F := NoF) (a := w) (by (repeat' (first | with_reducible exact Kept.refl _ _ | with_reducible refine Kept.put ?_ ?_ | with_reducible refine Kept.drewN ?_ _ | with_reducible refine Kept.drew ?_ | with_reducible refine Kept.alloc ?_ _ | (exact HS.out) | (right; simp; done)))) hk0; clear HS hk0; have HS := Lib.hid hk; clear hk))
        | (go_at_call 9; ((with_reducible refine (horizon_at (HST.out _ ?_)).mono ?_); ((repeat' (first | with_reducible exact Kept.refl _ _ | with_reducible refine Kept.put ?_ ?_ | with_reducible refine Kept.drewN ?_ _ | with_reducible refine Kept.drew ?_ | with_reducible refine Kept.alloc ?_ _ | (exact HS.out) | (right; simp; done)))); rintro e w5 ⟨rfl, hk0⟩; have hk := Kept.then (F := NoF) (a := w) (by (repeat' (first | with_reducible exact Kept.refl _ _ | with_reducible refine Kept.put ?_ ?_ | with_reducible refine Kept.drewN ?_ _ | with_reducible refine Kept.drew ?_ | with_reducible refine Kept.alloc ?_ _ | (exact HS.out) | (right; simp; done)))) hk0; clear HS hk0; have HS := Lib.hid hk; clear hk))
        | (go_at_call 11; ((with_reducible refine (pins_at (HST.out _ ?_) HOK.out).mono ?_); ((repeat' (first | with_reducible exact Kept.refl _ _ | with_reducible refine Kept.put ?_ ?_ | with_reducible refine Kept.drewN ?_ _ | with_reducible refine Kept.drew ?_ | with_reducible refine Kept.alloc ?_ _ | (exact HS.out) | (right; simp; done)))); rintro e w6 ⟨A6, c6, rfl, hn, hk0⟩; have hk := Kept.then (F := NoF) (a := w) (by (repeat' (first | with_reducible exact Kept.refl _ _ | with_reducible refine Kept.put ?_ ?_ | with_reducible refine Kept.drewN ?_ _ | with_reducible refine Kept.drew ?_ | with_reducible refine Kept.alloc ?_ _ | (exact HS.out) | (right; simp; done)))) hk0; have HM6 := Lib.hid (Src.of_own hn.1); clear HS hk0 hn; have HS := Lib.hid hk; clear hk))
        | (go_at_call 41; ((with_reducible refine (HPP.out _ _ _ ?_ ?_).mono ?_); ((repeat' (first | with_reducible exact Kept.refl _ _ | with_reducible refine Kept.put ?_ ?_ | with_reducible refine Kept.drewN ?_ _ | with_reducible refine Kept.drew ?_ | with_reducible refine Kept.alloc ?_ _ | (exact HS.out) | (right; simp; done)))); exact HM6.out; rintro e w7 ⟨rfl, hk0⟩; have hk := Kept.then (F := NoF) (a := w) (by (repeat' (first | with_reducible exact Kept.refl _ _ | with_reducible refine Kept.put ?_ ?_ | with_reducible refine Kept.drewN ?_ _ | with_reducible refine Kept.drew ?_ | with_reducible refine Kept.alloc ?_ _ | (exact HS.out) | (right; simp; done)))) hk0; clear HS hk0; have HS := Lib.hid hk; clear hk))
        | (go_at_call 19; ((with_reducible refine (top_at (HST.out _ ?_)).mono ?_); ((repeat' (first | with_reducible exact Kept.refl _ _ | with_reducible refine Kept.put ?_ ?_ | with_reducible refine Kept.drewN ?_ _ | with_reducible refine Kept.drew ?_ | with_reducible refine Kept.alloc ?_ _ | (exact HS.out) | (right; simp; done)))); rintro e w8 ⟨rfl, hk0⟩; have hk := Kept.then (F := NoF) (a := w) (by (repeat' (first | with_reducible exact Kept.refl _ _ | with_reducible refine Kept.put ?_ ?_ | with_reducible refine Kept.drewN ?_ _ | with_reducible refine Kept.drew ?_ | with_reducible refine Kept.alloc ?_ _ | (exact HS.out) | (right; simp; done)))) hk0; clear HS hk0; have HS := Lib.hid hk; clear hk))))
  | fail
  all_goals
    clear z0 z1 z2 z3 z4 z5 z6
    have HK := Lib.hid (Kept.then (F := NoF) (a := w) HS.out (by (repeat' (first | with_reducible exact Kept.refl _ _ | with_reducible refine Kept.put ?_ ?_ | with_reducible refine Kept.drewN ?_ _ | with_reducible refine Kept.drew ?_ | with_reducible refine Kept.alloc ?_ _ | (fail) | (right; simp; done)))))
    clear HS
    go_wp2_with fail
    go_loopw [5] (fun v5 wr => ∃ i : Int, -1 ≤ i ∧ i ≤ 4 ∧ v5 = .int .i64 i ∧ Kept NoF w wr) (fun v5 _ => (4 - RowKit.intOf v5).toNat)
    case atStart => exact ⟨-1, by decide, by decide, rfl, by (repeat' (first | with_reducible exact Kept.refl _ _ | with_reducible refine Kept.put ?_ ?_ | with_reducible refine Kept.drewN ?_ _ | with_reducible refine Kept.drew ?_ | with_reducible refine Kept.alloc ?_ _ | (exact HK.out) | (right; simp; done)))⟩
    case round =>
      obtain ⟨i, hi0, hi, rfl, hk⟩ := hrel
      clear HK
      have HK := Lib.hid hk; clear hk
      by_cases hi4 : i ≤ 3
      · have hne := run_neq_ans (saidOf s i)
        obtain ⟨a, ha⟩ : ∃ a, saidOf s i = a := ⟨_, rfl⟩
        have h1 := fun W (hW : Kept NoF w W) => said_at (HST.out W hW) i
        have h2 := fun W (hW : Kept NoF w W) => rsaid_at (HRS.out W hW) i
        rw [ha] at hne
        simp only [ha] at h1 h2
        have H1 := Lib.hid h1; have H2 := Lib.hid h2; clear h1 h2 ha
        go_wp2_with fail
        refine (H1.out _ HK.out).mono ?_
        rintro e w1 ⟨rfl, hk0⟩
        have HK1 := Lib.hid (HK.out.then hk0); clear hk0
        go_wp2_with fail
        refine (H2.out _ HK1.out).mono ?_
        rintro e w2 ⟨rfl, hk0⟩
        have HK2 := Lib.hid (HK1.out.then hk0); clear hk0
        have hw : IntKind.i64.wrap (i + 1) = i + 1 := IntWalk.i64_in _ (by omega)
        go_wp2
        go_roundw
        case rel => exact ⟨i + 1, by omega, by omega, by go_num, HK2.out⟩
        case measure => simp [RowKit.intOf]; omega
      · obtain rfl : i = 4 := by omega
        go_wp2
        go_ret
        exact ⟨rfl, HK.out⟩
end Mst
end Go.Proofs.Ytolipnnjeehnfaa
/- mstate's Notes. -/
namespace Go.Proofs.Ytolipnnjeehnfaa
open Go.RowKit
set_option maxRecDepth 100000
namespace Mst
open Plan Vn Go.Sort
theorem elemNote : Elem Try.prog 22 48 18 192 := by
  obtain ⟨i0, hi, hz0, hz1, hz2⟩ := info_parts (show (Try.prog.info? 48).map (fun i => (i.zero, i.size, i.bytes)) = some (some (.agg #[.int .i64 0, .int .i64 0, .int .u64 0, .int .i64 0, .slice none 0 0, .int .u64 0, .slice none 0 0, .int .i64 0, .int .i64 0, .slice none 0 0, .int .u64 0, .int .i64 0, .int .u64 0, .int .i64 0, .int .i64 0, .int .i64 0, .int .i64 0, .int .i64 0]), 18, 192) by kernel_rfl)
  exact ⟨Try.underlying22, ⟨i0, _, hi, hz0, hz1, hz2, rfl⟩, by decide⟩
theorem one_ncell (x : NoteR) : ∀ u ∈ ncell x, u.oneCell' = true := by
  intro u hu
  simp [ncell] at hu
  rcases hu with rfl | rfl | rfl | rfl | rfl | rfl | rfl | rfl | rfl | rfl | rfl | rfl | rfl | rfl | rfl | rfl | rfl | rfl <;> rfl
theorem ncells_snoc (l : List NoteR) (x : NoteR) : ncells (l ++ [x]) = ncells l ++ ncell x := by simp [ncells]
def zn : NoteR := ⟨0, 0, 0, 0, none, 0, [], 0, none, 0, [], none, 0, ⟨0, 0, []⟩, 0, ⟨0, 0, 0⟩, ⟨0, 0, 0, 0⟩⟩
/-- The notes that make the same. -/
def cnote (s : StR) (A : Option Addr) (c : Nat) (B : Option Addr) (d : Nat) : NoteR := { zn with k := 1, ep := s.ep, mA := A, mc := c, ms := s.ms, fl := s.fl, lA := B, lc := d, lg := s.lg }
def pnote (p : PinR) : NoteR := { zn with k := 6, pin := p }
def unote (n : Int) : NoteR := { zn with k := 7, n := n }
def hnote (h : Int) : NoteR := { zn with k := 4, at' := h }
def snote (a : AnsR) : NoteR := { zn with k := 8, said := a }
def upart (s : StR) : List NoteR := if s.pins.any (fun p => decide (p.id = s.top)) = true then [] else [unote s.top]
def told3 (s : StR) : List AnsR := [s.t0, s.t1, s.t2]
def sparts (l : List AnsR) : List NoteR := (l.filter fun a => decide (a ≠ ans0)).map snote
def PreAt (w : World) (s : StR) (pre : List NoteR) : Prop := (pre = [] ∧ ¬ 0 < s.ep) ∨ (0 < s.ep ∧ ∃ A c B d, pre = [cnote s A c B d] ∧ w.ownsRow 0 86 2 (.slice A s.ms.length c) s.ms.length (mcells s.ms) ∧ w.ownsRow 0 3 1 (.slice B s.lg.length d) s.lg.length (ints s.lg))
theorem PreAt.row {w w' : World} {s : StR} {pre : List NoteR} {v : Value} {n : Nat} {xs : List Value} (h : PreAt w s pre) (ho : w.ownsRow 0 48 18 v n xs) (hk : Kept (RowOf v) w w') : PreAt w' s pre := by
  rcases h with h | ⟨h0, A, c, B, d, h1, h2, h3⟩
  · exact .inl h
  · refine .inr ⟨h0, A, c, B, d, h1, own_kept h2 hk (fun g hg hr => ?_), own_kept h3 hk (fun g hg hr => ?_)⟩
    · obtain ⟨cs, hh⟩ := own_has ho hr
      exact own_ne h2 hh (by decide) hg
    · obtain ⟨cs, hh⟩ := own_has ho hr
      exact own_ne h3 hh (by decide) hg
structure OutAt (w0 : World) (s : StR) (w : World) (pre l : List NoteR) (A : Option Addr) (c : Nat) : Prop where
  own : w.ownsRow 0 48 18 (.slice A l.length c) l.length (ncells l)
  new : ∀ k, RowOf (.slice A l.length c) k → w0.heap.size ≤ k
  pre : PreAt w s pre
  kept : Kept NoF w0 w
theorem OutAt.still {w0 w w' : World} {s : StR} {pre l : List NoteR} {A : Option Addr} {c : Nat} (h : OutAt w0 s w pre l A c) (hk : Kept NoF w w') : OutAt w0 s w' pre l A c :=
  ⟨own_kept h.own hk (fun _ _ z => z), h.new, h.pre.row h.own (Kept.up hk), h.kept.then hk⟩
theorem OutAt.push {w0 w W w' : World} {s : StR} {pre l : List NoteR} {A A1 : Option Addr} {c c1 : Nat} (x : NoteR) (h : OutAt w0 s w pre l A c) (hW : Kept NoF w W)
    (ho : w'.ownsRow 0 48 18 (.slice A1 (l.length + 1) c1) (l.length + 1) (ncells l ++ ncell x)) (hg : W.grownBy w' (Value.slice A l.length c).ownBlock)
    (ha : (Value.slice A1 (l.length + 1) c1).ownBlock = (Value.slice A l.length c).ownBlock ∨ (Value.slice A1 (l.length + 1) c1).ownBlock = some W.heap.size) : OutAt w0 s w' pre (l ++ [x]) A1 c1 := by
  have h2 := h.still hW
  refine ⟨?_, ?_, ?_, ?_⟩
  · rw [ncells_snoc, List.length_append]; exact ho
  · intro k hk
    rw [List.length_append] at hk
    rcases ha with e | e
    · exact h.new k (e.symm.trans hk)
    · have h9 := e.symm.trans hk
      injection h9 with h9
      have := h2.kept.size
      omega
  · exact h2.pre.row h2.own (Kept.grown (Kept.refl _ _) hg (fun k hk => .inl hk))
  · exact h2.kept.grown hg (fun k hk => .inr (h2.new k hk))
theorem notes1_any (w : World) (p : PinR) (g b : Nat) (s : StR) (mA : Option Addr) (mc : Nat) (lA : Option Addr) (lc : Nat) (pA : Option Addr) (pc : Nat) (hg : Has w g 25 #[.pointer (some ⟨b, 0, none⟩)]) (hb : Has w b 62 (scells s mA mc lA lc pA pc true)) :
    Calls Try.prog 33 #[pagg p, .pointer (some ⟨g, 0, none⟩)] w fun e w' => e = .returned (.bool (decide (p.id = s.top))) ∧ Kept NoF w w' := by
  obtain ⟨p1, p2, p3⟩ := p
  obtain ⟨W0, hW0⟩ : ∃ W0, w.alloc (.cells #[.int .i64 p1, .int .u64 p2, .int .i64 p3] 44) = W0 := ⟨_, rfl⟩
  have hk0 : Kept NoF w W0 := by rw [← hW0]; (repeat' (first | with_reducible exact Kept.refl _ _ | with_reducible refine Kept.put ?_ ?_ | with_reducible refine Kept.drewN ?_ _ | with_reducible refine Kept.drew ?_ | with_reducible refine Kept.alloc ?_ _ | (fail) | (right; simp; done)))
  have hn0 : Has W0 w.heap.size 44 #[.int .i64 p1, .int .u64 p2, .int .i64 p3] := by rw [← hW0]; exact Has.new _ _ _
  have c0 : W0.cell? ⟨w.heap.size, 0, none⟩ = some (.int .i64 p1) := hn0.cell 0
  have c1 : W0.cell? ⟨g, 0, none⟩ = some (.pointer (some ⟨b, 0, none⟩)) := (hg.kept hk0 (fun z => z)).cell 0
  have c6 : W0.cell? ⟨b, 6, none⟩ = some (.int .i64 s.top) := (hb.kept hk0 (fun z => z)).cell 6
  have HK0 := Lib.hid hk0
  clear hn0 hg hb hk0
  go_enter Try.func33, Try.ntmps33
  go_wp2_with fail
  clear hW0
  go_quiet (fail)
  go_wp2
  go_ret
  exact ⟨rfl, HK0.out.drewN _⟩
end Mst
end Go.Proofs.Ytolipnnjeehnfaa
/- mstate's Notes: the walk. -/
namespace Go.Proofs.Ytolipnnjeehnfaa
open Go.RowKit
set_option maxRecDepth 100000
namespace Mst
open Plan Vn Go.Sort
theorem run_index0 (x0 x1 x2 x3 x4 x5 x6 x7 x8 x9 x10 x11 : Int) (W : World) : (Instr.index 55 (.agg #[.int .i64 x0, .int .i64 x1, .int .i64 x2, .int .i64 x3, .int .i64 x4, .int .i64 x5, .int .i64 x6, .int .i64 x7, .int .i64 x8, .int .i64 x9, .int .i64 x10, .int .i64 x11]) (.int .i64 0)).run Try.prog W = .ok (.agg #[.int .i64 x0, .int .i64 x1, .int .i64 x2, .int .i64 x3]) W := by kernel_rfl
theorem run_index1 (x0 x1 x2 x3 x4 x5 x6 x7 x8 x9 x10 x11 : Int) (W : World) : (Instr.index 55 (.agg #[.int .i64 x0, .int .i64 x1, .int .i64 x2, .int .i64 x3, .int .i64 x4, .int .i64 x5, .int .i64 x6, .int .i64 x7, .int .i64 x8, .int .i64 x9, .int .i64 x10, .int .i64 x11]) (.int .i64 1)).run Try.prog W = .ok (.agg #[.int .i64 x4, .int .i64 x5, .int .i64 x6, .int .i64 x7]) W := by kernel_rfl
theorem run_index2 (x0 x1 x2 x3 x4 x5 x6 x7 x8 x9 x10 x11 : Int) (W : World) : (Instr.index 55 (.agg #[.int .i64 x0, .int .i64 x1, .int .i64 x2, .int .i64 x3, .int .i64 x4, .int .i64 x5, .int .i64 x6, .int .i64 x7, .int .i64 x8, .int .i64 x9, .int .i64 x10, .int .i64 x11]) (.int .i64 2)).run Try.prog W = .ok (.agg #[.int .i64 x8, .int .i64 x9, .int .i64 x10, .int .i64 x11]) W := by kernel_rfl
attribute [local go_sem ↓] run_index0 run_index1 run_index2
theorem out_nil {W0 w : World} {s : StR} {pre l l' : List NoteR} {A : Option Addr} {c : Nat} (h : OutAt W0 s w pre l A c) (e : l = l') : OutAt W0 s w pre l' A c := e ▸ h
theorem pins_step {pre : List NoteR} {l : List PinR} {i : Nat} {p : PinR} (h : l[i]? = some p) : pre ++ (l.take (i + 1)).map pnote = (pre ++ (l.take i).map pnote) ++ [pnote p] := by
  rw [take_snoc h, List.map_append, List.append_assoc]; rfl
theorem sparts_step {l : List AnsR} {i : Nat} {a : AnsR} (h : l[i]? = some a) : sparts (l.take (i + 1)) = if decide (a ≠ ans0) = true then sparts (l.take i) ++ [snote a] else sparts (l.take i) := by
  unfold sparts
  rw [take_snoc h, List.filter_append, List.filter_cons]
  split <;> simp
theorem sparts_len (l : List AnsR) (i : Nat) : (sparts (l.take i)).length ≤ l.length := by
  unfold sparts
  rw [List.length_map]
  refine Nat.le_trans (List.length_filter_le ..) ?_
  rw [List.length_take]
  exact Nat.min_le_right _ _
def NotesPost (w : World) (s : StR) (e : Ending) (w' : World) : Prop :=
  ∃ A c pre, e = .returned (.slice A (pre ++ s.pins.map pnote ++ upart s ++ [hnote s.hz] ++ sparts (told3 s)).length c) ∧ OutAt w s w' pre (pre ++ s.pins.map pnote ++ upart s ++ [hnote s.hz] ++ sparts (told3 s)) A c
theorem run_neq_ans0 (p : AnsR) (W : World) : (binOp .neq 46 (ansagg p) (.agg #[.int .i64 0, .int .i64 0, .int .i64 0, .int .i64 0])).run Try.prog W = .ok (.bool (decide (p ≠ ans0))) W := by
  obtain ⟨p1, p2, p3, p4⟩ := p
  by_cases h1 : p1 = 0 <;> by_cases h2 : p2 = 0 <;> by_cases h3 : p3 = 0 <;> by_cases h4 : p4 = 0 <;> simp [go_sem, ans0, h1, h2, h3, h4]
set_option maxHeartbeats 8000000 in
theorem notes_any (w : World) (b : Nat) (F : Nat → Prop) (s : StR) (hs : StAt w b F s) (hok : SOk s) :
    Calls Try.prog 16 #[.pointer (some ⟨b, 0, none⟩)] w (NotesPost w s) := by
  obtain ⟨mA, mc, lA, lc, pA, pc, hF, hb, hm, hl, hp⟩ := hs
  have hnone := fun W (hW : Kept NoF w W) => none_any W b s mA mc lA lc pA pc true (hb.kept hW (fun z => z))
  have hown := fun W (hW : Kept NoF w W) => own_any W s.ep s.fl mA mc s.ms ((Src.of_own hm).kept hW (fun _ _ z => z)) (by have := hok.m; omega)
  have hcl := fun W (hW : Kept NoF w W) => cloneInt_any W lA lc s.lg ((Src.of_own hl).kept hW (fun _ _ z => z)) (by have := hok.l; omega)
  have hce : ∀ W, Kept NoF w W → W.cell? ⟨b, 0, none⟩ = some (.int .i64 s.ep) ∧ W.cell? ⟨b, 1, none⟩ = some (.slice mA s.ms.length mc) ∧ W.cell? ⟨b, 2, none⟩ = some (.int .u64 s.fl) ∧ W.cell? ⟨b, 3, none⟩ = some (.slice lA s.lg.length lc) ∧ W.cell? ⟨b, 4, none⟩ = some (.int .u64 s.hz) ∧ W.cell? ⟨b, 5, none⟩ = some (.slice pA s.pins.length pc) ∧ W.cell? ⟨b, 6, none⟩ = some (.int .i64 s.top) := fun W hW => by
    have g := hb.kept hW (fun z => z)
    exact ⟨g.cell 0, g.cell 1, g.cell 2, g.cell 3, g.cell 4, g.cell 5, g.cell 6⟩
  have hct : ∀ W, Kept NoF w W → (W.cell? ⟨b, 7, none⟩ = some (.int .i64 s.t0.cl) ∧ W.cell? ⟨b, 7 + 1, none⟩ = some (.int .i64 s.t0.req) ∧ W.cell? ⟨b, 7 + 2, none⟩ = some (.int .i64 s.t0.e) ∧ W.cell? ⟨b, 7 + 3, none⟩ = some (.int .i64 s.t0.pin)) ∧ (W.cell? ⟨b, 7 + 4, none⟩ = some (.int .i64 s.t1.cl) ∧ W.cell? ⟨b, 7 + 5, none⟩ = some (.int .i64 s.t1.req) ∧ W.cell? ⟨b, 7 + 6, none⟩ = some (.int .i64 s.t1.e) ∧ W.cell? ⟨b, 7 + 7, none⟩ = some (.int .i64 s.t1.pin)) ∧ W.cell? ⟨b, 7 + 8, none⟩ = some (.int .i64 s.t2.cl) ∧ W.cell? ⟨b, 7 + 9, none⟩ = some (.int .i64 s.t2.req) ∧ W.cell? ⟨b, 7 + 10, none⟩ = some (.int .i64 s.t2.e) ∧ W.cell? ⟨b, 7 + 11, none⟩ = some (.int .i64 s.t2.pin) := fun W hW => by
    have g := hb.kept hW (fun z => z)
    exact ⟨⟨g.cell 7, g.cell 8, g.cell 9, g.cell 10⟩, ⟨g.cell 11, g.cell 12, g.cell 13, g.cell 14⟩, g.cell 15, g.cell 16, g.cell 17, g.cell 18⟩
  have hpins := fun W (hW : Kept NoF w W) => (Src.of_own hp).kept hW (fun _ _ z => z)
  obtain ⟨W0, hW0⟩ : ∃ W0, w.alloc (.cells #[.pointer (some ⟨b, 0, none⟩)] 25) = W0 := ⟨_, rfl⟩
  have hk0 : Kept NoF w W0 := by rw [← hW0]; (repeat' (first | with_reducible exact Kept.refl _ _ | with_reducible refine Kept.put ?_ ?_ | with_reducible refine Kept.drewN ?_ _ | with_reducible refine Kept.drew ?_ | with_reducible refine Kept.alloc ?_ _ | (fail) | (right; simp; done)))
  have hn0 : Has W0 w.heap.size 25 #[.pointer (some ⟨b, 0, none⟩)] := by rw [← hW0]; exact Has.new _ _ _
  have hx : ∀ W, Kept NoF W0 W → W.cell? ⟨w.heap.size, 0, none⟩ = some (.pointer (some ⟨b, 0, none⟩)) := fun W hW => (hn0.kept hW (fun z => z)).cell 0
  have hhas := fun W (hW : Kept NoF W0 W) => hasPin_any W pA pc s.pins 33 (.pointer (some ⟨w.heap.size, 0, none⟩)) (fun p => decide (p.id = s.top)) (fun args W => enters Try.func33 (by kernel_rfl) rfl args W) (hpins W (hk0.then hW)) (by have := hok.p; omega)
    (fun W2 p hW2 _ => notes1_any W2 p w.heap.size b s mA mc lA lc pA pc (hn0.kept (hW.then hW2) (fun z => z)) (hb.kept (hk0.then (hW.then hW2)) (fun z => z)))
  obtain ⟨un, hun⟩ : ∃ un, (s.pins.any fun p => decide (p.id = s.top)) = un := ⟨_, rfl⟩
  rw [hun] at hhas
  have hup : upart s = if un = true then [] else [unote s.top] := by unfold upart; rw [hun]
  have hpl := hok.p
  have HNO := Lib.hid hnone; have HOWN := Lib.hid hown; have HCL := Lib.hid hcl; have HCE := Lib.hid hce; have HCT := Lib.hid hct; have HPI := Lib.hid hpins; have HK0 := Lib.hid hk0; have HX := Lib.hid hx; have HHAS := Lib.hid hhas
  have HUP := Lib.hid hup; have HLT := Lib.hid hb.lt
  clear hnone hown hcl hce hct hpins hk0 hx hhas hun hup hn0 hF hb hm hl hp hok
  go_enter Try.func16, Try.ntmps16
  have x0 := HX.out _ (Kept.refl _ _)
  go_wp2_with fail
  clear hW0
  refine (HNO.out _ HK0.out).mono ?_
  rintro e w2 ⟨rfl, hk⟩
  have HK2 := Lib.hid hk; clear hk x0
  obtain ⟨z0, z1, z2, z3, z4, z5, z6⟩ := HCE.out w2 (HK0.out.then HK2.out)
  have x0 := HX.out _ HK2.out
  by_cases hep : 0 < s.ep
  case' neg =>
    have hep' : (0 < s.ep) = False := eq_false hep
    go_wp2_with fail
    clear hep' z0 z1 z2 z3 z4 z5 z6 x0
    obtain ⟨w5, hw5⟩ : ∃ w5, w5 = w2 := ⟨_, rfl⟩
    obtain ⟨pre, hpre⟩ : ∃ pre : List NoteR, pre = [] := ⟨_, rfl⟩
    have hout : OutAt W0 s w5 pre pre none 0 := by
      subst hpre
      exact ⟨⟨rfl, .inl ⟨rfl, rfl⟩⟩, (fun k hk => by cases hk), .inl ⟨rfl, by omega⟩, hw5 ▸ HK2.out⟩
    obtain ⟨V, hV⟩ : ∃ V : Value, V = .slice none 0 0 := ⟨_, rfl⟩
    have HOUT : Hid (∃ A c, Value.slice none 0 0 = .slice A pre.length c ∧ OutAt W0 s w5 pre pre A c) := Lib.hid ⟨none, 0, by rw [hpre]; rfl, hout⟩
    have HPL : Hid (pre.length ≤ 1) := Lib.hid (by rw [hpre]; decide)
    rw [← hw5]
    clear hout hV V hpre hw5 HK2
    skip
  case' pos =>
    have hep' : (0 < s.ep) = True := eq_true hep
    have HS := Lib.hid (Kept.refl NoF w2)
    have HM1 : Hid (0 + 1 ≤ maxLen) := Lib.hid (by decide)
    have HM2 : Hid ((0 + 1) * 192 ≤ 140737488355328) := Lib.hid (by decide)
    have HSS : Hid (∀ W, Kept NoF w2 W → W.cell? ⟨w.heap.size, 0, none⟩ = some (.pointer (some ⟨b, 0, none⟩)) ∧ W.cell? ⟨b, 0, none⟩ = some (.int .i64 s.ep) ∧ W.cell? ⟨b, 1, none⟩ = some (.slice mA s.ms.length mc) ∧ W.cell? ⟨b, 2, none⟩ = some (.int .u64 s.fl) ∧ W.cell? ⟨b, 3, none⟩ = some (.slice lA s.lg.length lc)) := Lib.hid fun W hW => by
      have r := HCE.out _ (HK0.out.then (HK2.out.then hW))
      exact ⟨HX.out _ (HK2.out.then hW), r.1, r.2.1, r.2.2.1, r.2.2.2.1⟩
    go_wp2_with fail
    (go_region_held3 (fun W => W.cell? ⟨w.heap.size, 0, none⟩ = some (.pointer (some ⟨b, 0, none⟩)) ∧ W.cell? ⟨b, 0, none⟩ = some (.int .i64 s.ep) ∧ W.cell? ⟨b, 1, none⟩ = some (.slice mA s.ms.length mc) ∧ W.cell? ⟨b, 2, none⟩ = some (.int .u64 s.fl) ∧ W.cell? ⟨b, 3, none⟩ = some (.slice lA s.lg.length lc))
        (first | with_reducible exact HSS.out _ HS.out | (refine HSS.out _ ?_; (repeat' (first | with_reducible exact Kept.refl _ _ | with_reducible refine Kept.put ?_ ?_ | with_reducible refine Kept.drewN ?_ _ | with_reducible refine Kept.drew ?_ | with_reducible refine Kept.alloc ?_ _ | (exact HS.out) | (right; simp; done))); done) | (simp [go_sem, x0, z0, z1, z2, z3]; done))
        (first
          | (go_at_call 22; ((with_reducible refine (HOWN.out _ ?_).mono ?_); (exact HK0.out.then (HK2.out.then (by (repeat' (first | with_reducible exact Kept.refl _ _ | with_reducible refine Kept.put ?_ ?_ | with_reducible refine Kept.drewN ?_ _ | with_reducible refine Kept.drew ?_ | with_reducible refine Kept.alloc ?_ _ | (exact HS.out) | (right; simp; done)))))); rintro e w4 ⟨A4, c4, rfl, hn4, hk4⟩; have hk := Kept.then (F := NoF) (a := w2) (by (repeat' (first | with_reducible exact Kept.refl _ _ | with_reducible refine Kept.put ?_ ?_ | with_reducible refine Kept.drewN ?_ _ | with_reducible refine Kept.drew ?_ | with_reducible refine Kept.alloc ?_ _ | (exact HS.out) | (right; simp; done)))) hk4; have HN4 := Lib.hid hn4.1; clear HS hk4 hn4; have HS := Lib.hid hk; clear hk))
          | (go_at_call 30; ((with_reducible refine (HCL.out _ ?_).mono ?_); (exact HK0.out.then (HK2.out.then (by (repeat' (first | with_reducible exact Kept.refl _ _ | with_reducible refine Kept.put ?_ ?_ | with_reducible refine Kept.drewN ?_ _ | with_reducible refine Kept.drew ?_ | with_reducible refine Kept.alloc ?_ _ | (exact HS.out) | (right; simp; done)))))); rintro e w3 ⟨A5, c5, rfl, hn5, hk5⟩; have hk := Kept.then (F := NoF) (a := w2) (by (repeat' (first | with_reducible exact Kept.refl _ _ | with_reducible refine Kept.put ?_ ?_ | with_reducible refine Kept.drewN ?_ _ | with_reducible refine Kept.drew ?_ | with_reducible refine Kept.alloc ?_ _ | (exact HS.out) | (right; simp; done)))) hk5; have HN5 := Lib.hid (And.intro (own_kept HN4.out (F := NoF) (Kept.then (F := NoF) (a := w4) (by (repeat' (first | with_reducible exact Kept.refl _ _ | with_reducible refine Kept.put ?_ ?_ | with_reducible refine Kept.drewN ?_ _ | with_reducible refine Kept.drew ?_ | with_reducible refine Kept.alloc ?_ _ | (fail) | (right; simp; done)))) hk5) (fun _ _ z => z)) hn5.1); have HSZ3 := Lib.hid hk.size; clear HS hk5 hn5 HN4; have HS := Lib.hid hk; clear hk))
          | (with_reducible apply step_append_src elemNote (.tmp 16) (.tmp 28) (n := 0) (xs := []) (m := 1) (c := 1) (news := [.int .i64 1, .int .i64 0, .int .u64 0, .int .i64 s.ep, .slice A4 s.ms.length c4, .int .u64 s.fl, .slice A5 s.lg.length c5, .int .i64 0, .int .i64 0, .slice none 0 0, .int .u64 0, .int .i64 0, .int .u64 0, .int .i64 0, .int .i64 0, .int .i64 0, .int .i64 0, .int .i64 0])
             rfl
             rfl
             exact (rfl : _ = Value.slice none 0 0)
             (exact ⟨rfl, .inl ⟨rfl, rfl⟩⟩)
             exact (rfl : _ = Value.slice (some ⟨_, 0, none⟩) 1 1)
             ((with_reducible apply Src.of_has (t := 48) (m := 1) (cs := #[.int .i64 1, .int .i64 0, .int .u64 0, .int .i64 s.ep, .slice A4 s.ms.length c4, .int .u64 s.fl, .slice A5 s.lg.length c5, .int .i64 0, .int .i64 0, .slice none 0 0, .int .u64 0, .int .i64 0, .int .u64 0, .int .i64 0, .int .i64 0, .int .i64 0, .int .i64 0, .int .i64 0])); (repeat (first | with_reducible exact Has.new_at _ _ _ (by simp) | with_reducible apply Has.drew | with_reducible apply Has.drewN | with_reducible apply Has.alloc | (with_reducible apply Has.past <;> (try omega)) )); rfl)
             exact one_ncell (cnote s A4 c4 A5 c5)
             exact HM1.out
             exact HM2.out
             intro A6 c6 w6 ho6 hg6 ha6
             simp only [Nat.zero_add, List.nil_append] at ho6 ha6 ⊢
             (have hk6 : Kept NoF w2 w6 := Kept.grown (Kept.then (F := NoF) (a := w2) HS.out (by (repeat' (first | with_reducible exact Kept.refl _ _ | with_reducible refine Kept.put ?_ ?_ | with_reducible refine Kept.drewN ?_ _ | with_reducible refine Kept.drew ?_ | with_reducible refine Kept.alloc ?_ _ | (fail) | (right; simp; done))))) hg6 (fun k hk => by cases hk))
             (have hk36 : Kept NoF w3 w6 := Kept.grown (by (repeat' (first | with_reducible exact Kept.refl _ _ | with_reducible refine Kept.put ?_ ?_ | with_reducible refine Kept.drewN ?_ _ | with_reducible refine Kept.drew ?_ | with_reducible refine Kept.alloc ?_ _ | (fail) | (right; simp; done)))) hg6 (fun k hk => by cases hk))
             have HP6 : Hid (PreAt w6 s [cnote s A4 c4 A5 c5]) := Lib.hid (.inr ⟨hep, A4, c4, A5, c5, rfl, own_kept HN5.out.1 hk36 (fun _ _ z => z), own_kept HN5.out.2 hk36 (fun _ _ z => z)⟩)
             have HZ6 := Lib.hid (And.intro ho6 ha6)
             clear HS
             have HS := Lib.hid hk6
             clear ho6 hg6 ha6 hk6 hk36)))
    obtain ⟨pre, hpre⟩ : ∃ pre : List NoteR, pre = [cnote s A4 c4 A5 c5] := ⟨_, rfl⟩
    have HOUT : Hid (∃ A c, Value.slice A6 1 c6 = .slice A pre.length c ∧ OutAt W0 s w6 pre pre A c) := Lib.hid ⟨A6, c6, by rw [hpre]; rfl, by
      subst hpre
      refine ⟨HZ6.out.1, fun k hk => ?_, HP6.out, HK2.out.then HS.out⟩
      rcases HZ6.out.2 with e | e
      · have h9 := e.symm.trans hk; cases h9
      · have h9 := e.symm.trans hk
        injection h9 with h9
        have h8 := HK2.out.size
        have h7 := HSZ3.out
        first | (simp at h9; omega) | omega⟩
    have HPL : Hid (pre.length ≤ 1) := Lib.hid (by rw [hpre]; exact Nat.le_refl _)
    obtain ⟨w5, hw5⟩ : ∃ w5, w5 = w6 := ⟨_, rfl⟩
    rw [← hw5] at HOUT ⊢
    clear hpre hw5 HZ6 HP6 HS HN5 HSS HK2 HM1 HM2 hep' z0 z1 z2 z3 z4 z5 z6 x0 HSZ3
    skip
  all_goals
    have hk5 : Kept NoF W0 w5 := by obtain ⟨A, c, _, ho⟩ := HOUT.out; exact ho.kept
    obtain ⟨z0, z1, z2, z3, z4, z5, z6⟩ := HCE.out w5 (HK0.out.then hk5)
    have x0 := HX.out _ hk5
    have HK5 := Lib.hid hk5
    clear hk5
    go_wp2_with fail
    clear z0 z1 z2 z3 z4 z5 z6 x0
    go_loopw [3, 5, 35] (fun v3 v5 v35 wr => ∃ (i : Nat) (A : Option Addr) (c : Nat), i ≤ s.pins.length ∧ v35 = .int .i64 i ∧ v3 = .slice A (pre ++ (s.pins.take i).map pnote).length c ∧ OutAt W0 s wr pre (pre ++ (s.pins.take i).map pnote) A c) (fun _ _ v35 _ => s.pins.length - (intOf v35).toNat)
    case atStart =>
      obtain ⟨A, c, e, ho⟩ := HOUT.out
      exact ⟨0, A, c, Nat.zero_le _, rfl, by rw [List.take_zero, List.map_nil, List.append_nil]; exact e, out_nil ho (by simp)⟩
    case round =>
      obtain ⟨i, A, c, hi, rfl, rfl, ho⟩ := hrel
      have HO := Lib.hid ho; clear ho HOUT HK5
      have hlen : (pre ++ (s.pins.take i).map pnote).length ≤ 1 + i := by
        rw [List.length_append, List.length_map, List.length_take]
        have := HPL.out
        omega
      by_cases hil : i < s.pins.length
      · obtain ⟨⟨p1, p2, p3⟩, hp⟩ : ∃ p, s.pins[i]? = some p := ⟨_, List.getElem?_eq_getElem hil⟩
        obtain ⟨ad, rfl, had, q0, q1, q2⟩ := pin_cells (HPI.out _ (HK0.out.then HO.out.kept)) (by omega) i _ hp
        dsimp only at q0 q1 q2
        have hst := pins_step (pre := pre) hp
        have HST := Lib.hid hst; clear hst hp
        obtain ⟨L, hL⟩ : ∃ L, pre ++ (s.pins.take i).map pnote = L := ⟨_, rfl⟩
        rw [hL] at HO HST hlen
        simp only [hL]
        clear hL
        have HM1 : Hid (L.length + 1 ≤ maxLen) := Lib.hid (by unfold maxLen; omega)
        have HM2 : Hid ((L.length + 1) * 192 ≤ 140737488355328) := Lib.hid (by omega)
        clear hlen
        go_wp2_with (at_builtin; refine list_append_src elemNote (.tmp 39) (.tmp 42) rfl rfl (Value.slice A (L).length c) rfl (own_kept HO.out.own (F := NoF) (by (repeat' (first | with_reducible exact Kept.refl _ _ | with_reducible refine Kept.put ?_ ?_ | with_reducible refine Kept.drewN ?_ _ | with_reducible refine Kept.drew ?_ | with_reducible refine Kept.alloc ?_ _ | (fail) | (right; simp; done)))) (fun _ _ x => x)) 1 rfl (Src.of_has (t := 48) (m := 1) (cs := #[.int .i64 6, .int .i64 0, .int .u64 0, .int .i64 0, .slice none 0 0, .int .u64 0, .slice none 0 0, .int .i64 0, .int .i64 0, .slice none 0 0, .int .u64 0, .int .i64 p1, .int .u64 p2, .int .i64 p3, .int .i64 0, .int .i64 0, .int .i64 0, .int .i64 0]) (by (repeat (first | with_reducible exact Has.new_at _ _ _ (by simp) | with_reducible apply Has.drew | with_reducible apply Has.drewN | with_reducible apply Has.alloc | (with_reducible apply Has.past <;> (try omega)) ))) rfl) (one_ncell (pnote ⟨p1, p2, p3⟩)) HM1.out HM2.out ?_; intro A1 c1 w9 ho1 hg1 ha1; have hpush := OutAt.push (pnote ⟨p1, p2, p3⟩) HO.out (by (repeat' (first | with_reducible exact Kept.refl _ _ | with_reducible refine Kept.put ?_ ?_ | with_reducible refine Kept.drewN ?_ _ | with_reducible refine Kept.drew ?_ | with_reducible refine Kept.alloc ?_ _ | (fail) | (right; simp; done)))) ho1 hg1 ha1; have HP := Lib.hid hpush; clear ho1 hg1 ha1 hpush)
        go_roundw
        case rel => exact ⟨i + 1, A1, c1, by omega, by go_num, by rw [HST.out]; simp, out_nil HP.out HST.out.symm⟩
        case measure => simp [intOf]; omega
      · obtain rfl : i = s.pins.length := by omega
        rw [List.take_length] at hlen HO
        rw [List.take_length]
        obtain ⟨L, hL⟩ : ∃ L, pre ++ s.pins.map pnote = L := ⟨_, rfl⟩
        rw [hL] at HO hlen
        rw [hL]
        have HL := Lib.hid hL; clear hL
        obtain ⟨z0, z1, z2, z3, z4, z5, z6⟩ := HCE.out _ (HK0.out.then HO.out.kept)
        have x0 := HX.out _ HO.out.kept
        go_wp2_with fail
        clear z0 z1 z2 z3 z4 z5 z6 x0
        refine (HHAS.out _ HO.out.kept).mono ?_
        rintro e w6 ⟨rfl, hk⟩
        have HO6 := Lib.hid (HO.out.still hk); clear hk
        obtain ⟨z0, z1, z2, z3, z4, z5, z6⟩ := HCE.out _ (HK0.out.then HO6.out.kept)
        have x0 := HX.out _ HO6.out.kept
        have HM1 : Hid (L.length + 1 ≤ maxLen) := Lib.hid (by unfold maxLen; omega)
        have HM2 : Hid ((L.length + 1) * 192 ≤ 140737488355328) := Lib.hid (by omega)
        cases un
        case' true =>
          rw [if_pos rfl] at HUP
          go_wp2_with (at_builtin; refine list_append_src elemNote (.tmp 60) (.tmp 66) rfl rfl (Value.slice A (L).length c) rfl (own_kept HO6.out.own (F := NoF) (by (repeat' (first | with_reducible exact Kept.refl _ _ | with_reducible refine Kept.put ?_ ?_ | with_reducible refine Kept.drewN ?_ _ | with_reducible refine Kept.drew ?_ | with_reducible refine Kept.alloc ?_ _ | (fail) | (right; simp; done)))) (fun _ _ x => x)) 1 rfl (Src.of_has (t := 48) (m := 1) (cs := #[.int .i64 4, .int .i64 0, .int .u64 s.hz, .int .i64 0, .slice none 0 0, .int .u64 0, .slice none 0 0, .int .i64 0, .int .i64 0, .slice none 0 0, .int .u64 0, .int .i64 0, .int .u64 0, .int .i64 0, .int .i64 0, .int .i64 0, .int .i64 0, .int .i64 0]) (by (repeat (first | with_reducible exact Has.new_at _ _ _ (by simp) | with_reducible apply Has.drew | with_reducible apply Has.drewN | with_reducible apply Has.alloc | (with_reducible apply Has.past <;> (try omega)) ))) rfl) (one_ncell (hnote s.hz)) HM1.out HM2.out ?_; intro A1 c1 w9 ho1 hg1 ha1; have hpush := OutAt.push (hnote s.hz) HO6.out (by (repeat' (first | with_reducible exact Kept.refl _ _ | with_reducible refine Kept.put ?_ ?_ | with_reducible refine Kept.drewN ?_ _ | with_reducible refine Kept.drew ?_ | with_reducible refine Kept.alloc ?_ _ | (fail) | (right; simp; done)))) ho1 hg1 ha1; have HO9 := Lib.hid hpush; clear ho1 hg1 ha1 hpush; clear z0 z1 z2 z3 z4 z5 z6 x0; have y0 := HX.out _ HO9.out.kept; obtain ⟨⟨t00, t01, t02, t03⟩, ⟨t10, t11, t12, t13⟩, t20, t21, t22, t23⟩ := HCT.out _ (HK0.out.then HO9.out.kept))
          have HL9 : Hid (L ++ [hnote s.hz] = pre ++ s.pins.map pnote ++ upart s ++ [hnote s.hz]) := Lib.hid (by rw [HUP.out, List.append_nil, HL.out])
          have hlen9 : (L ++ [hnote s.hz]).length ≤ 4 + s.pins.length := by rw [List.length_append]; simp; omega
          have e9 : L.length + 1 = (L ++ [hnote s.hz]).length := by simp
          rw [e9] at ⊢
          obtain ⟨L9, hL9⟩ : ∃ L9, L9 = L ++ [hnote s.hz] := ⟨_, rfl⟩
          rw [← hL9] at HO9 HL9 hlen9 ⊢
          clear HO6 hL9 hlen HM1 HM2 e9 y0 t00 t01 t02 t03 t10 t11 t12 t13 t20 t21 t22 t23
          skip
        case' false =>
          rw [if_neg (by simp)] at HUP
          go_wp2_with (first | (at_builtin; refine list_append_src elemNote (.tmp 60) (.tmp 66) rfl rfl (Value.slice A1 (L8).length c1) rfl (own_kept HO8.out.own (F := NoF) (by (repeat' (first | with_reducible exact Kept.refl _ _ | with_reducible refine Kept.put ?_ ?_ | with_reducible refine Kept.drewN ?_ _ | with_reducible refine Kept.drew ?_ | with_reducible refine Kept.alloc ?_ _ | (fail) | (right; simp; done)))) (fun _ _ x => x)) 1 rfl (Src.of_has (t := 48) (m := 1) (cs := #[.int .i64 4, .int .i64 0, .int .u64 s.hz, .int .i64 0, .slice none 0 0, .int .u64 0, .slice none 0 0, .int .i64 0, .int .i64 0, .slice none 0 0, .int .u64 0, .int .i64 0, .int .u64 0, .int .i64 0, .int .i64 0, .int .i64 0, .int .i64 0, .int .i64 0]) (by (repeat (first | with_reducible exact Has.new_at _ _ _ (by simp) | with_reducible apply Has.drew | with_reducible apply Has.drewN | with_reducible apply Has.alloc | (with_reducible apply Has.past <;> (try omega)) ))) rfl) (one_ncell (hnote s.hz)) HM3.out HM4.out ?_; intro A2 c2 w10 ho1 hg1 ha1; have hpush := OutAt.push (hnote s.hz) HO8.out (by (repeat' (first | with_reducible exact Kept.refl _ _ | with_reducible refine Kept.put ?_ ?_ | with_reducible refine Kept.drewN ?_ _ | with_reducible refine Kept.drew ?_ | with_reducible refine Kept.alloc ?_ _ | (fail) | (right; simp; done)))) ho1 hg1 ha1; have HO9 := Lib.hid hpush; clear ho1 hg1 ha1 hpush; clear y0 y1 y2 y3 y4 y5 y6 y7; have y0 := HX.out _ HO9.out.kept; obtain ⟨⟨t00, t01, t02, t03⟩, ⟨t10, t11, t12, t13⟩, t20, t21, t22, t23⟩ := HCT.out _ (HK0.out.then HO9.out.kept)) | (at_builtin; refine list_append_src elemNote (.tmp 52) (.tmp 58) rfl rfl (Value.slice A (L).length c) rfl (own_kept HO6.out.own (F := NoF) (by (repeat' (first | with_reducible exact Kept.refl _ _ | with_reducible refine Kept.put ?_ ?_ | with_reducible refine Kept.drewN ?_ _ | with_reducible refine Kept.drew ?_ | with_reducible refine Kept.alloc ?_ _ | (fail) | (right; simp; done)))) (fun _ _ x => x)) 1 rfl (Src.of_has (t := 48) (m := 1) (cs := #[.int .i64 7, .int .i64 s.top, .int .u64 0, .int .i64 0, .slice none 0 0, .int .u64 0, .slice none 0 0, .int .i64 0, .int .i64 0, .slice none 0 0, .int .u64 0, .int .i64 0, .int .u64 0, .int .i64 0, .int .i64 0, .int .i64 0, .int .i64 0, .int .i64 0]) (by (repeat (first | with_reducible exact Has.new_at _ _ _ (by simp) | with_reducible apply Has.drew | with_reducible apply Has.drewN | with_reducible apply Has.alloc | (with_reducible apply Has.past <;> (try omega)) ))) rfl) (one_ncell (unote s.top)) HM1.out HM2.out ?_; intro A1 c1 w9 ho1 hg1 ha1; have hpush := OutAt.push (unote s.top) HO6.out (by (repeat' (first | with_reducible exact Kept.refl _ _ | with_reducible refine Kept.put ?_ ?_ | with_reducible refine Kept.drewN ?_ _ | with_reducible refine Kept.drew ?_ | with_reducible refine Kept.alloc ?_ _ | (fail) | (right; simp; done)))) ho1 hg1 ha1; have HO8 := Lib.hid hpush; clear ho1 hg1 ha1 hpush; have e8 : L.length + 1 = (L ++ [unote s.top]).length := (by simp); obtain ⟨L8, hL8⟩ : ∃ L8, L8 = L ++ [unote s.top] := ⟨_, rfl⟩; rw [← hL8] at HO8 e8; rw [e8]; have HM3 : Hid (L8.length + 1 ≤ maxLen) := Lib.hid (by unfold maxLen; omega); have HM4 : Hid ((L8.length + 1) * 192 ≤ 140737488355328) := Lib.hid (by omega); have HE8 := Lib.hid hL8; clear hL8 e8; have y0 := HX.out _ HO8.out.kept; obtain ⟨y1, y2, y3, y4, y5, y6, y7⟩ := HCE.out _ (HK0.out.then HO8.out.kept)))
          have hl8 : L8.length = L.length + 1 := by rw [HE8.out]; simp
          have HL9 : Hid (L8 ++ [hnote s.hz] = pre ++ s.pins.map pnote ++ upart s ++ [hnote s.hz]) := Lib.hid (by rw [HE8.out, HUP.out, HL.out])
          have hlen9 : (L8 ++ [hnote s.hz]).length ≤ 4 + s.pins.length := by rw [List.length_append]; simp; omega
          have e9 : L8.length + 1 = (L8 ++ [hnote s.hz]).length := by simp
          rw [e9] at ⊢
          obtain ⟨L9, hL9⟩ : ∃ L9, L9 = L8 ++ [hnote s.hz] := ⟨_, rfl⟩
          rw [← hL9] at HO9 HL9 hlen9 ⊢
          clear z0 z1 z2 z3 z4 z5 z6 x0 HO6 HO8 hL9 hlen HM1 HM2 HM3 HM4 HE8 hl8 e9 y0 t00 t01 t02 t03 t10 t11 t12 t13 t20 t21 t22 t23
          skip
        all_goals
          rename_i A9 c9 w9
          go_loopw [3, 7, 72] (fun v3 _ v72 wr => ∃ (i : Nat) (A : Option Addr) (c : Nat), i ≤ 3 ∧ v72 = .int .i64 i ∧ v3 = .slice A (L9 ++ sparts ((told3 s).take i)).length c ∧ OutAt W0 s wr pre (L9 ++ sparts ((told3 s).take i)) A c) (fun _ _ v72 _ => 3 - (intOf v72).toNat)
          case atStart => exact ⟨0, _, _, Nat.zero_le _, rfl, by rw [List.take_zero]; simp [sparts], out_nil HO9.out (by simp [sparts])⟩
          case round =>
            obtain ⟨i, A, c, hi, rfl, rfl, ho⟩ := hrel
            have HO := Lib.hid ho; clear ho HO9
            have hlen : (L9 ++ sparts ((told3 s).take i)).length ≤ 7 + s.pins.length := by
              rw [List.length_append]
              have := sparts_len (told3 s) i
              have : (told3 s).length = 3 := rfl
              omega
            by_cases hi3 : i < 3
            · have hi3' : i = 0 ∨ i = 1 ∨ i = 2 := by omega
              rcases hi3' with rfl | rfl | rfl
              · have hst := sparts_step (show (told3 s)[0]? = some s.t0 from rfl)
                have hne := run_neq_ans0 s.t0
                obtain ⟨d, hd⟩ : ∃ d, decide (s.t0 ≠ ans0) = d := ⟨_, rfl⟩
                rw [hd] at hne hst
                clear hd
                obtain ⟨L, hL⟩ : ∃ L, L9 ++ sparts ((told3 s).take 0) = L := ⟨_, rfl⟩
                have hst2 : L9 ++ sparts ((told3 s).take (0 + 1)) = if d = true then L ++ [snote s.t0] else L := by
                  rw [hst, ← hL]
                  split
                  · rw [List.append_assoc]
                  · rfl
                rw [hL] at HO hlen
                have HM1 : Hid (L.length + 1 ≤ maxLen) := Lib.hid (by unfold maxLen; omega)
                have HM2 : Hid ((L.length + 1) * 192 ≤ 140737488355328) := Lib.hid (by omega)
                simp only [hL]
                clear hL hlen hst
                dsimp only [ansagg] at hne
                cases d
                · rw [if_neg (by simp)] at hst2
                  have HST := Lib.hid hst2; clear hst2
                  go_wp2
                  go_roundw
                  case rel => exact ⟨0 + 1, A, c, by omega, by go_num, by rw [HST.out], out_nil (HO.out.still (by (repeat' (first | with_reducible exact Kept.refl _ _ | with_reducible refine Kept.put ?_ ?_ | with_reducible refine Kept.drewN ?_ _ | with_reducible refine Kept.drew ?_ | with_reducible refine Kept.alloc ?_ _ | (fail) | (right; simp; done))))) HST.out.symm⟩
                  case measure => simp [intOf]
                · rw [if_pos rfl] at hst2
                  have HST := Lib.hid hst2; clear hst2
                  go_wp2_with (at_builtin; refine list_append_src elemNote (.tmp 78) (.tmp 81) rfl rfl (Value.slice A (L).length c) rfl (own_kept HO.out.own (F := NoF) (by (repeat' (first | with_reducible exact Kept.refl _ _ | with_reducible refine Kept.put ?_ ?_ | with_reducible refine Kept.drewN ?_ _ | with_reducible refine Kept.drew ?_ | with_reducible refine Kept.alloc ?_ _ | (fail) | (right; simp; done)))) (fun _ _ x => x)) 1 rfl (Src.of_has (t := 48) (m := 1) (cs := #[.int .i64 8, .int .i64 0, .int .u64 0, .int .i64 0, .slice none 0 0, .int .u64 0, .slice none 0 0, .int .i64 0, .int .i64 0, .slice none 0 0, .int .u64 0, .int .i64 0, .int .u64 0, .int .i64 0, .int .i64 s.t0.cl, .int .i64 s.t0.req, .int .i64 s.t0.e, .int .i64 s.t0.pin]) (by (repeat (first | with_reducible exact Has.new_at _ _ _ (by simp) | with_reducible apply Has.drew | with_reducible apply Has.drewN | with_reducible apply Has.alloc | (with_reducible apply Has.past <;> (try omega)) ))) rfl) (one_ncell (snote s.t0)) HM1.out HM2.out ?_; intro A1 c1 w9 ho1 hg1 ha1; have hpush := OutAt.push (snote s.t0) HO.out (by (repeat' (first | with_reducible exact Kept.refl _ _ | with_reducible refine Kept.put ?_ ?_ | with_reducible refine Kept.drewN ?_ _ | with_reducible refine Kept.drew ?_ | with_reducible refine Kept.alloc ?_ _ | (fail) | (right; simp; done)))) ho1 hg1 ha1; have HP := Lib.hid hpush; clear ho1 hg1 ha1 hpush)
                  go_roundw
                  case rel => exact ⟨0 + 1, A1, c1, by omega, by go_num, by rw [HST.out]; simp, out_nil HP.out HST.out.symm⟩
                  case measure => simp [intOf]
              · have hst := sparts_step (show (told3 s)[1]? = some s.t1 from rfl)
                have hne := run_neq_ans0 s.t1
                obtain ⟨d, hd⟩ : ∃ d, decide (s.t1 ≠ ans0) = d := ⟨_, rfl⟩
                rw [hd] at hne hst
                clear hd
                obtain ⟨L, hL⟩ : ∃ L, L9 ++ sparts ((told3 s).take 1) = L := ⟨_, rfl⟩
                have hst2 : L9 ++ sparts ((told3 s).take (1 + 1)) = if d = true then L ++ [snote s.t1] else L := by
                  rw [hst, ← hL]
                  split
                  · rw [List.append_assoc]
                  · rfl
                rw [hL] at HO hlen
                have HM1 : Hid (L.length + 1 ≤ maxLen) := Lib.hid (by unfold maxLen; omega)
                have HM2 : Hid ((L.length + 1) * 192 ≤ 140737488355328) := Lib.hid (by omega)
                simp only [hL]
                clear hL hlen hst
                dsimp only [ansagg] at hne
                cases d
                · rw [if_neg (by simp)] at hst2
                  have HST := Lib.hid hst2; clear hst2
                  go_wp2
                  go_roundw
                  case rel => exact ⟨1 + 1, A, c, by omega, by go_num, by rw [HST.out], out_nil (HO.out.still (by (repeat' (first | with_reducible exact Kept.refl _ _ | with_reducible refine Kept.put ?_ ?_ | with_reducible refine Kept.drewN ?_ _ | with_reducible refine Kept.drew ?_ | with_reducible refine Kept.alloc ?_ _ | (fail) | (right; simp; done))))) HST.out.symm⟩
                  case measure => simp [intOf]
                · rw [if_pos rfl] at hst2
                  have HST := Lib.hid hst2; clear hst2
                  go_wp2_with (at_builtin; refine list_append_src elemNote (.tmp 78) (.tmp 81) rfl rfl (Value.slice A (L).length c) rfl (own_kept HO.out.own (F := NoF) (by (repeat' (first | with_reducible exact Kept.refl _ _ | with_reducible refine Kept.put ?_ ?_ | with_reducible refine Kept.drewN ?_ _ | with_reducible refine Kept.drew ?_ | with_reducible refine Kept.alloc ?_ _ | (fail) | (right; simp; done)))) (fun _ _ x => x)) 1 rfl (Src.of_has (t := 48) (m := 1) (cs := #[.int .i64 8, .int .i64 0, .int .u64 0, .int .i64 0, .slice none 0 0, .int .u64 0, .slice none 0 0, .int .i64 0, .int .i64 0, .slice none 0 0, .int .u64 0, .int .i64 0, .int .u64 0, .int .i64 0, .int .i64 s.t1.cl, .int .i64 s.t1.req, .int .i64 s.t1.e, .int .i64 s.t1.pin]) (by (repeat (first | with_reducible exact Has.new_at _ _ _ (by simp) | with_reducible apply Has.drew | with_reducible apply Has.drewN | with_reducible apply Has.alloc | (with_reducible apply Has.past <;> (try omega)) ))) rfl) (one_ncell (snote s.t1)) HM1.out HM2.out ?_; intro A1 c1 w9 ho1 hg1 ha1; have hpush := OutAt.push (snote s.t1) HO.out (by (repeat' (first | with_reducible exact Kept.refl _ _ | with_reducible refine Kept.put ?_ ?_ | with_reducible refine Kept.drewN ?_ _ | with_reducible refine Kept.drew ?_ | with_reducible refine Kept.alloc ?_ _ | (fail) | (right; simp; done)))) ho1 hg1 ha1; have HP := Lib.hid hpush; clear ho1 hg1 ha1 hpush)
                  go_roundw
                  case rel => exact ⟨1 + 1, A1, c1, by omega, by go_num, by rw [HST.out]; simp, out_nil HP.out HST.out.symm⟩
                  case measure => simp [intOf]
              · have hst := sparts_step (show (told3 s)[2]? = some s.t2 from rfl)
                have hne := run_neq_ans0 s.t2
                obtain ⟨d, hd⟩ : ∃ d, decide (s.t2 ≠ ans0) = d := ⟨_, rfl⟩
                rw [hd] at hne hst
                clear hd
                obtain ⟨L, hL⟩ : ∃ L, L9 ++ sparts ((told3 s).take 2) = L := ⟨_, rfl⟩
                have hst2 : L9 ++ sparts ((told3 s).take (2 + 1)) = if d = true then L ++ [snote s.t2] else L := by
                  rw [hst, ← hL]
                  split
                  · rw [List.append_assoc]
                  · rfl
                rw [hL] at HO hlen
                have HM1 : Hid (L.length + 1 ≤ maxLen) := Lib.hid (by unfold maxLen; omega)
                have HM2 : Hid ((L.length + 1) * 192 ≤ 140737488355328) := Lib.hid (by omega)
                simp only [hL]
                clear hL hlen hst
                dsimp only [ansagg] at hne
                cases d
                · rw [if_neg (by simp)] at hst2
                  have HST := Lib.hid hst2; clear hst2
                  go_wp2
                  go_roundw
                  case rel => exact ⟨2 + 1, A, c, by omega, by go_num, by rw [HST.out], out_nil (HO.out.still (by (repeat' (first | with_reducible exact Kept.refl _ _ | with_reducible refine Kept.put ?_ ?_ | with_reducible refine Kept.drewN ?_ _ | with_reducible refine Kept.drew ?_ | with_reducible refine Kept.alloc ?_ _ | (fail) | (right; simp; done))))) HST.out.symm⟩
                  case measure => simp [intOf]
                · rw [if_pos rfl] at hst2
                  have HST := Lib.hid hst2; clear hst2
                  go_wp2_with (at_builtin; refine list_append_src elemNote (.tmp 78) (.tmp 81) rfl rfl (Value.slice A (L).length c) rfl (own_kept HO.out.own (F := NoF) (by (repeat' (first | with_reducible exact Kept.refl _ _ | with_reducible refine Kept.put ?_ ?_ | with_reducible refine Kept.drewN ?_ _ | with_reducible refine Kept.drew ?_ | with_reducible refine Kept.alloc ?_ _ | (fail) | (right; simp; done)))) (fun _ _ x => x)) 1 rfl (Src.of_has (t := 48) (m := 1) (cs := #[.int .i64 8, .int .i64 0, .int .u64 0, .int .i64 0, .slice none 0 0, .int .u64 0, .slice none 0 0, .int .i64 0, .int .i64 0, .slice none 0 0, .int .u64 0, .int .i64 0, .int .u64 0, .int .i64 0, .int .i64 s.t2.cl, .int .i64 s.t2.req, .int .i64 s.t2.e, .int .i64 s.t2.pin]) (by (repeat (first | with_reducible exact Has.new_at _ _ _ (by simp) | with_reducible apply Has.drew | with_reducible apply Has.drewN | with_reducible apply Has.alloc | (with_reducible apply Has.past <;> (try omega)) ))) rfl) (one_ncell (snote s.t2)) HM1.out HM2.out ?_; intro A1 c1 w9 ho1 hg1 ha1; have hpush := OutAt.push (snote s.t2) HO.out (by (repeat' (first | with_reducible exact Kept.refl _ _ | with_reducible refine Kept.put ?_ ?_ | with_reducible refine Kept.drewN ?_ _ | with_reducible refine Kept.drew ?_ | with_reducible refine Kept.alloc ?_ _ | (fail) | (right; simp; done)))) ho1 hg1 ha1; have HP := Lib.hid hpush; clear ho1 hg1 ha1 hpush)
                  go_roundw
                  case rel => exact ⟨2 + 1, A1, c1, by omega, by go_num, by rw [HST.out]; simp, out_nil HP.out HST.out.symm⟩
                  case measure => simp [intOf]
            · obtain rfl : i = 3 := by omega
              go_wp2
              go_ret
              refine ⟨A, c, pre, ?_, ?_⟩
              · rw [← HL9.out]; rfl
              · rw [← HL9.out]
                have h9 := HO.out
                exact ⟨h9.own, fun k hk => Nat.le_trans HK0.out.size (h9.new k hk), h9.pre, HK0.out.then h9.kept⟩
end Mst
end Go.Proofs.Ytolipnnjeehnfaa
/- The notes that a state tells make the same state: the plain law. -/
namespace Go.Proofs.Ytolipnnjeehnfaa
open Go.RowKit
set_option maxRecDepth 100000
namespace Mst
open Plan Vn Go.Sort
def runN (s : StR) (l : List NoteR) : StR := l.foldl applyS s
def okRun : StR → List NoteR → Prop
  | _, [] => True
  | s, x :: l => applyE s x = 0 ∧ okRun (applyS s x) l
theorem okRun_append {a b : List NoteR} : ∀ {s : StR}, okRun s a → okRun (runN s a) b → okRun s (a ++ b) := by
  induction a with
  | nil => intro s _ h; exact h
  | cons x a ih => intro s h1 h2; exact ⟨h1.1, ih h1.2 h2⟩
theorem runN_append (s : StR) (a b : List NoteR) : runN s (a ++ b) = runN (runN s a) b := by simp [runN]
theorem okRun_at {l : List NoteR} : ∀ {s : StR} {i : Nat} {x : NoteR}, okRun s l → l[i]? = some x → applyE (runN s (l.take i)) x = 0 := by
  induction l with
  | nil => intro s i x _ h; simp at h
  | cons y l ih =>
    intro s i x h hx
    cases i with
    | zero => obtain rfl : y = x := by simpa using hx
              exact h.1
    | succ i => exact ih h.2 (by simpa using hx)
theorem runN_step {s : StR} {l : List NoteR} {i : Nat} {x : NoteR} (h : l[i]? = some x) : runN s (l.take (i + 1)) = applyS (runN s (l.take i)) x := by
  rw [take_snoc h, runN_append]; rfl
theorem runN_inv {l : List NoteR} (hl : ∀ x ∈ l, 0 ≤ x.at' ∧ 0 ≤ x.pin.at' ∧ 0 ≤ x.fl) : ∀ {s : StR}, Inv s → Inv (runN s l) := by
  induction l with
  | nil => intro s h; exact h
  | cons x l ih => intro s h; exact ih (fun y hy => hl y (List.mem_cons_of_mem _ hy)) (h.apply (hl x (List.mem_cons_self ..))).1
def lastId (l : List PinR) : Int := (l.getLast?.map (·.id)).getD 0
theorem lastId_snoc (l : List PinR) (p : PinR) : lastId (l ++ [p]) = p.id := by simp [lastId]
theorem pinAt_no {l : List PinR} {id : Int} (h : ∀ p ∈ l, p.id ≠ id) : pinAt l id < 0 := by
  rcases pinAt_cases l id with h1 | ⟨k, x, _, h2, h3⟩
  · omega
  · exact absurd h3 (h x (List.mem_of_getElem? h2))
theorem lastId_cases (l : List PinR) : (l = [] ∧ lastId l = 0) ∨ ∃ p ∈ l, lastId l = p.id := by
  rcases List.eq_nil_or_concat l with rfl | ⟨a, p, rfl⟩
  · exact .inl ⟨rfl, rfl⟩
  · rw [List.concat_eq_append]; exact .inr ⟨p, by simp, lastId_snoc a p⟩
theorem rise_last {l : List PinR} (h : l.Pairwise (fun a b => a.id < b.id)) : ∀ p ∈ l, p.id ≤ lastId l := by
  rcases List.eq_nil_or_concat l with rfl | ⟨a, q, rfl⟩
  · intro p hp; cases hp
  · rw [List.concat_eq_append] at h ⊢
    intro p hp
    rw [lastId_snoc]
    rcases List.mem_append.1 hp with h1 | h1
    · have := (List.pairwise_append.1 h).2.2 p h1 q (by simp)
      omega
    · obtain rfl : p = q := by simpa using h1
      exact Int.le_refl _
theorem rngL1 {x : Int} (h : 0 ≤ x ∧ x ≤ 1073741824) : rngL [x] = 0 := by
  refine rngL_zero.2 (fun y hy => ?_)
  obtain rfl : y = x := by simpa using hy
  exact h
theorem pins_run (b : StR) (hb : b.hz = 0) : ∀ (rest done : List PinR), (done ++ rest).length ≤ 3 → (done ++ rest).Pairwise (fun a b => a.id < b.id) → (∀ p ∈ done ++ rest, 1 ≤ p.id ∧ p.id ≤ 1073741824 ∧ p.left = 8 ∧ 0 ≤ p.at') →
    okRun { b with pins := done, top := lastId done } (rest.map pnote) ∧ runN { b with pins := done, top := lastId done } (rest.map pnote) = { b with pins := done ++ rest, top := lastId (done ++ rest) }
  | [], done, _, _, _ => ⟨trivial, by rw [List.append_nil]; rfl⟩
  | p :: rest, done, hlen, hr, hp => by
    have hpp := hp p (by simp)
    have hlt : ∀ q ∈ done, q.id < p.id := fun q hq => (List.pairwise_append.1 hr).2.2 q hq p (by simp)
    have hno : pinAt done p.id < 0 := pinAt_no (fun q hq e => by have := hlt q hq; omega)
    have hlast : lastId done < p.id := by
      rcases lastId_cases done with ⟨_, e⟩ | ⟨q, hq, e⟩
      · rw [e]; omega
      · rw [e]; exact hlt q hq
    have hl3 : done.length < 3 := by simp at hlen; omega
    have hk : (pnote p).k = 6 := rfl
    have hne : noteE (pnote p) = 0 := by
      unfold noteE
      rw [if_neg (by omega), if_neg (by omega), if_neg (by omega), if_pos hk]
      refine rngL_zero.2 (fun y hy => ?_)
      have : y = p.id ∨ y = p.left := by simpa [pnote] using hy
      rcases this with rfl | rfl <;> omega
    have hpe : pinE { b with pins := done, top := lastId done } p = 0 := by
      unfold pinE
      rw [if_neg (by show ¬ 0 ≤ pinAt done p.id; omega), if_neg (by show ¬ 3 ≤ done.length; omega), if_neg (by show ¬ p.id ≤ lastId done; omega), if_neg (by show ¬ p.at' < b.hz; rw [hb]; omega)]
    have hE : applyE { b with pins := done, top := lastId done } (pnote p) = 0 := by
      unfold applyE
      rw [if_neg (by rw [hne]; decide), if_neg (by omega), if_neg (by omega), if_neg (by omega), if_pos hk]
      exact hpe
    have hS : applyS { b with pins := done, top := lastId done } (pnote p) = { b with pins := done ++ [p], top := lastId (done ++ [p]) } := by
      unfold applyS
      rw [if_neg (by rw [hE]; decide), if_neg (by omega), if_neg (by omega), if_neg (by omega), if_pos hk]
      unfold pinS
      have e : (⟨p.id, p.at', 8⟩ : PinR) = p := by rw [← hpp.2.2.1]
      rw [if_neg (by show ¬ 0 ≤ pinAt done p.id; omega), lastId_snoc]
      show { b with pins := done ++ [(⟨p.id, p.at', 8⟩ : PinR)], top := p.id } = _
      rw [e]
    have ih := pins_run b hb rest (done ++ [p]) (by simpa using hlen) (by simpa using hr) (by simpa using hp)
    rw [List.append_assoc] at ih
    refine ⟨⟨hE, ?_⟩, ?_⟩
    · rw [hS]; exact ih.1
    · show runN (applyS _ (pnote p)) (rest.map pnote) = _
      rw [hS]; exact ih.2
theorem freed_no {l : List PinR} {id : Int} (h : ∀ p ∈ l, p.id ≠ id) : freed l id = l := by unfold freed; rw [if_pos (pinAt_no h)]
theorem said_run (b : StR) (a : AnsR) (h : saidE a = 0) (hr : (toldOf b a.cl).req = 0) : applyE b (snote a) = 0 ∧ applyS b (snote a) = withTold b a := by
  have hk : (snote a).k = 8 := rfl
  have hne : noteE (snote a) = 0 := by
    unfold noteE
    rw [if_neg (by omega), if_neg (by omega), if_neg (by omega), if_neg (by omega), if_pos hk]
    exact h
  have hreq : 0 ≤ a.req := by
    unfold saidE at h
    split at h
    · omega
    · split at h
      · rename_i h2; exact absurd h h2
      · rename_i h2
        exact (rngL_zero.1 (Classical.not_not.1 h2) a.req (by simp)).1
  have hE : applyE b (snote a) = 0 := by
    unfold applyE
    rw [if_neg (by rw [hne]; decide), if_neg (by omega), if_neg (by omega), if_neg (by omega), if_neg (by omega), if_neg (by omega), if_pos hk]
    rw [if_neg (by show ¬ a.req < (toldOf b a.cl).req; rw [hr]; omega)]
  refine ⟨hE, ?_⟩
  unfold applyS
  rw [if_neg (by rw [hE]; decide), if_neg (by omega), if_neg (by omega), if_neg (by omega), if_neg (by omega), if_neg (by omega)]
  rfl
theorem saids_run (b : StR) (s : StR) (h : Inv s) (h0 : b.t0 = ans0) (h1 : b.t1 = ans0) (h2 : b.t2 = ans0) : okRun b (sparts (told3 s)) ∧ runN b (sparts (told3 s)) = { b with t0 := s.t0, t1 := s.t1, t2 := s.t2 } := by
  have e : sparts (told3 s) = sparts [s.t0] ++ (sparts [s.t1] ++ sparts [s.t2]) := by
    unfold sparts told3
    rw [show [s.t0, s.t1, s.t2] = [s.t0] ++ ([s.t1] ++ [s.t2]) from rfl, List.filter_append, List.filter_append, List.map_append, List.map_append]
  have one : ∀ a : AnsR, sparts [a] = if a = ans0 then [] else [snote a] := fun a => by
    unfold sparts
    by_cases ha : a = ans0
    · rw [if_pos ha, ha]; rfl
    · rw [if_neg ha, List.filter_cons, if_pos (by simpa using ha)]; rfl
  have r0 : okRun b (sparts [s.t0]) ∧ runN b (sparts [s.t0]) = { b with t0 := s.t0 } := by
    rw [one]
    by_cases ha : s.t0 = ans0
    · rw [if_pos ha, ha, ← h0]; exact ⟨trivial, rfl⟩
    · rw [if_neg ha]
      rcases h.a0 with hx | ⟨hx, hc⟩
      · exact absurd hx ha
      · obtain ⟨q1, q2⟩ := said_run b s.t0 hx (by rw [hc, toldOf, if_pos rfl, h0]; rfl)
        refine ⟨⟨q1, trivial⟩, ?_⟩
        show applyS b (snote s.t0) = _
        rw [q2, withTold, if_pos hc]
  have r1 : okRun { b with t0 := s.t0 } (sparts [s.t1]) ∧ runN { b with t0 := s.t0 } (sparts [s.t1]) = { b with t0 := s.t0, t1 := s.t1 } := by
    rw [one]
    by_cases ha : s.t1 = ans0
    · rw [if_pos ha, ha, ← h1]; exact ⟨trivial, rfl⟩
    · rw [if_neg ha]
      rcases h.a1 with hx | ⟨hx, hc⟩
      · exact absurd hx ha
      · obtain ⟨q1, q2⟩ := said_run { b with t0 := s.t0 } s.t1 hx (by rw [hc, toldOf, if_neg (by decide), if_pos rfl]; show b.t1.req = 0; rw [h1]; rfl)
        refine ⟨⟨q1, trivial⟩, ?_⟩
        show applyS _ (snote s.t1) = _
        rw [q2, withTold, if_neg (by omega), if_pos hc]
  have r2 : okRun { b with t0 := s.t0, t1 := s.t1 } (sparts [s.t2]) ∧ runN { b with t0 := s.t0, t1 := s.t1 } (sparts [s.t2]) = { b with t0 := s.t0, t1 := s.t1, t2 := s.t2 } := by
    rw [one]
    by_cases ha : s.t2 = ans0
    · rw [if_pos ha, ha, ← h2]; exact ⟨trivial, rfl⟩
    · rw [if_neg ha]
      rcases h.a2 with hx | ⟨hx, hc⟩
      · exact absurd hx ha
      · obtain ⟨q1, q2⟩ := said_run { b with t0 := s.t0, t1 := s.t1 } s.t2 hx (by rw [hc, toldOf, if_neg (by decide), if_neg (by decide)]; show b.t2.req = 0; rw [h2]; rfl)
        refine ⟨⟨q1, trivial⟩, ?_⟩
        show applyS _ (snote s.t2) = _
        rw [q2, withTold, if_neg (by omega), if_neg (by omega)]
  rw [e]
  refine ⟨okRun_append r0.1 ?_, ?_⟩
  · rw [r0.2]
    refine okRun_append r1.1 ?_
    rw [r1.2]
    exact r2.1
  · rw [runN_append, r0.2, runN_append, r1.2, r2.2]
/-- The notes that a state tells are taken, and make the same. -/
theorem same_run {w : World} {s : StR} {pre : List NoteR} (h : Inv s) (hpre : PreAt w s pre) :
    okRun st0 (pre ++ s.pins.map pnote ++ upart s ++ [hnote s.hz] ++ sparts (told3 s)) ∧ runN st0 (pre ++ s.pins.map pnote ++ upart s ++ [hnote s.hz] ++ sparts (told3 s)) = s := by
  have c1 : okRun st0 pre ∧ runN st0 pre = { st0 with ep := s.ep, ms := s.ms, fl := s.fl, lg := s.lg } := by
    rcases hpre with ⟨rfl, h0⟩ | ⟨h0, A, c, B, d, rfl, _⟩
    · rcases h.conf with ⟨e1, e2, e3, e4⟩ | ⟨e1, _⟩
      · rw [e1, e2, e3, e4]; exact ⟨trivial, rfl⟩
      · have := (chk_zero e1).1; omega
    · rcases h.conf with ⟨e1, _⟩ | ⟨e1, e2, e3, e4, e5⟩
      · omega
      · have hk : (cnote s A c B d).k = 1 := rfl
        have hne : noteE (cnote s A c B d) = 0 := by
          unfold noteE
          rw [if_pos hk]
          show (if chk s.ep s.ms = 0 then legE s.lg else chk s.ep s.ms) = 0
          rw [if_pos e1, e2]
        have hnx : nextE st0 (cnote s A c B d) = 0 := by
          unfold nextE
          rw [if_neg (by show ¬ s.ep ≤ 0; omega), if_neg, if_neg]
          · show ¬ inB s.lg (headI s.ms) = false
            rw [inB_iff.2 e4]; decide
          · show ¬ (s.lg.any fun id => !anyId s.ms id) = true
            rw [List.any_eq_true]
            rintro ⟨x, hx, hn⟩
            rw [e3 x hx] at hn
            cases hn
        have hE : applyE st0 (cnote s A c B d) = 0 := by
          unfold applyE
          rw [if_neg (by rw [hne]; decide), if_pos hk]
          exact hnx
        refine ⟨⟨hE, trivial⟩, ?_⟩
        show applyS st0 (cnote s A c B d) = _
        unfold applyS
        rw [if_neg (by rw [hE]; decide), if_pos hk]
        rfl
  have ht := h.top
  have hpin : ∀ p ∈ s.pins, 1 ≤ p.id ∧ p.id ≤ 1073741824 ∧ p.left = 8 ∧ 0 ≤ p.at' := fun p hp => by
    obtain ⟨a1, a2, a3, a4⟩ := h.pin p hp
    exact ⟨a1, by omega, a3, a4⟩
  have c2 := pins_run { st0 with ep := s.ep, ms := s.ms, fl := s.fl, lg := s.lg } rfl s.pins [] h.pl h.rise hpin
  have hlast : lastId s.pins ≤ s.top := by
    rcases lastId_cases s.pins with ⟨_, e⟩ | ⟨p, hp, e⟩
    · rw [e]; exact ht.1
    · rw [e]; exact (h.pin p hp).2.1
  have c3 : okRun { st0 with ep := s.ep, ms := s.ms, fl := s.fl, lg := s.lg, pins := s.pins, top := lastId s.pins } (upart s) ∧ runN { st0 with ep := s.ep, ms := s.ms, fl := s.fl, lg := s.lg, pins := s.pins, top := lastId s.pins } (upart s) = { st0 with ep := s.ep, ms := s.ms, fl := s.fl, lg := s.lg, pins := s.pins, top := s.top } := by
    unfold upart
    split
    · rename_i hu
      obtain ⟨p, hp, he⟩ := List.any_eq_true.1 hu
      have e1 : p.id = s.top := of_decide_eq_true he
      have := rise_last h.rise p hp
      have e2 : lastId s.pins = s.top := by omega
      rw [e2]; exact ⟨trivial, rfl⟩
    · rename_i hu
      have hno : ∀ p ∈ s.pins, p.id ≠ s.top := fun p hp e => hu (List.any_eq_true.2 ⟨p, hp, decide_eq_true e⟩)
      have hk : (unote s.top).k = 7 := rfl
      have hne : noteE (unote s.top) = 0 := by
        unfold noteE
        rw [if_neg (by omega), if_neg (by omega), if_pos (by omega)]
        exact rngL1 ht
      have hE : applyE { st0 with ep := s.ep, ms := s.ms, fl := s.fl, lg := s.lg, pins := s.pins, top := lastId s.pins } (unote s.top) = 0 := by
        unfold applyE
        rw [if_neg (by rw [hne]; decide), if_neg (by omega), if_neg (by omega), if_neg (by omega), if_neg (by omega), if_pos hk]
      refine ⟨⟨hE, trivial⟩, ?_⟩
      show applyS _ (unote s.top) = _
      unfold applyS
      rw [if_neg (by rw [hE]; decide), if_neg (by omega), if_neg (by omega), if_neg (by omega), if_neg (by omega), if_pos hk]
      show ({ st0 with ep := s.ep, ms := s.ms, fl := s.fl, lg := s.lg, pins := freed s.pins s.top, top := max (lastId s.pins) s.top } : StR) = _
      rw [freed_no hno, show max (lastId s.pins) s.top = s.top by omega]
  have c4 : okRun { st0 with ep := s.ep, ms := s.ms, fl := s.fl, lg := s.lg, pins := s.pins, top := s.top } [hnote s.hz] ∧ runN { st0 with ep := s.ep, ms := s.ms, fl := s.fl, lg := s.lg, pins := s.pins, top := s.top } [hnote s.hz] = { st0 with ep := s.ep, ms := s.ms, fl := s.fl, lg := s.lg, pins := s.pins, top := s.top, hz := s.hz } := by
    have hk : (hnote s.hz).k = 4 := rfl
    have hne : noteE (hnote s.hz) = 0 := by
      unfold noteE
      rw [if_neg (by omega), if_neg (by omega), if_pos (by omega)]
      exact rngL1 (x := 0) ⟨by decide, by decide⟩
    have hE : applyE { st0 with ep := s.ep, ms := s.ms, fl := s.fl, lg := s.lg, pins := s.pins, top := s.top } (hnote s.hz) = 0 := by
      unfold applyE
      rw [if_neg (by rw [hne]; decide), if_neg (by omega), if_neg (by omega), if_pos hk]
      rw [if_neg (by show ¬ s.hz < 0; have := h.hz; omega)]
    refine ⟨⟨hE, trivial⟩, ?_⟩
    show applyS _ (hnote s.hz) = _
    unfold applyS
    rw [if_neg (by rw [hE]; decide), if_neg (by omega), if_neg (by omega), if_pos hk]
    rfl
  have c5 := saids_run { st0 with ep := s.ep, ms := s.ms, fl := s.fl, lg := s.lg, pins := s.pins, top := s.top, hz := s.hz } s h rfl rfl rfl
  have e0 : (({ st0 with ep := s.ep, ms := s.ms, fl := s.fl, lg := s.lg } : StR)) = { st0 with ep := s.ep, ms := s.ms, fl := s.fl, lg := s.lg, pins := [], top := lastId [] } := rfl
  have q2 : okRun st0 (pre ++ s.pins.map pnote) := okRun_append c1.1 (by rw [c1.2]; exact c2.1)
  have p2 := runN_append st0 pre (s.pins.map pnote)
  rw [c1.2] at p2
  have p2 := p2.trans c2.2
  have q3 := okRun_append q2 (b := upart s) (by rw [p2]; exact c3.1)
  have p3 := runN_append st0 (pre ++ s.pins.map pnote) (upart s)
  rw [p2] at p3
  have p3' := p3.trans c3.2
  have q4 := okRun_append q3 (b := [hnote s.hz]) (by rw [p3']; exact c4.1)
  have p4 := runN_append st0 (pre ++ s.pins.map pnote ++ upart s) [hnote s.hz]
  rw [p3'] at p4
  have p4' := p4.trans c4.2
  refine ⟨okRun_append q4 (by rw [p4']; exact c5.1), ?_⟩
  rw [runN_append, p4']
  exact c5.2
end Mst
end Go.Proofs.Ytolipnnjeehnfaa
/- The law MstateAgain: its walk. -/
namespace Go.Proofs.Ytolipnnjeehnfaa
open Go.RowKit
set_option maxRecDepth 100000
namespace Mst
open Plan Vn Go.Sort
attribute [local go_sem ↓] loadVar_note
attribute [local go_sem] run_loadNote
/-- A list of notes, as it lies. -/
structure NList (w : World) (A : Option Addr) (l : List NoteR) : Prop where
  src : Src w 18 A l.length (ncells l)
  good : ∀ x ∈ l, NGood w x
theorem NList.kept {w w' : World} {A : Option Addr} {l : List NoteR} (h : NList w A l) (hk : Kept NoF w w') : NList w' A l := ⟨h.src.kept hk (fun _ _ z => z), fun x hx => (h.good x hx).kept hk⟩
theorem out_list {w0 w : World} {s : StR} {pre l : List NoteR} {A : Option Addr} {c : Nat} (h : OutAt w0 s w pre l A c) (hl : l = pre ++ s.pins.map pnote ++ upart s ++ [hnote s.hz] ++ sparts (told3 s)) (hinv : Inv s) :
    NList w A l ∧ (∀ x ∈ l, x.ms.length ≤ 1000 ∧ x.lg.length ≤ 1000) ∧ l.length ≤ 9 := by
  have hok := hinv.ok
  have hz := hinv.hz
  have base : ∀ x : NoteR, x.ms = [] → x.lg = [] → x.b.ops = [] → 0 ≤ x.at' → 0 ≤ x.pin.at' → 0 ≤ x.fl → NGood w x ∧ x.ms.length ≤ 1000 ∧ x.lg.length ≤ 1000 := fun x h1 h2 h3 h4 h5 h6 =>
    ⟨⟨by rw [h1]; exact Src.nil _ _ _, by rw [h1]; exact Nat.zero_le _, by rw [h2]; exact Src.nil _ _ _, by rw [h2]; exact Nat.zero_le _, by rw [h3]; exact Src.nil _ _ _, by rw [h3]; exact Nat.zero_le _, h4, h5, h6⟩, by rw [h1]; exact Nat.zero_le _, by rw [h2]; exact Nat.zero_le _⟩
  have key : ∀ x ∈ l, NGood w x ∧ x.ms.length ≤ 1000 ∧ x.lg.length ≤ 1000 := by
    intro x hx
    rw [hl] at hx
    rcases List.mem_append.1 hx with hx | hx
    · rcases List.mem_append.1 hx with hx | hx
      · rcases List.mem_append.1 hx with hx | hx
        · rcases List.mem_append.1 hx with hx | hx
          · rcases h.pre with ⟨e, _⟩ | ⟨_, A1, c1, B1, d1, e, h2, h3⟩
            · rw [e] at hx; cases hx
            · rw [e] at hx
              obtain rfl : x = cnote s A1 c1 B1 d1 := by simpa using hx
              have hfl : 0 ≤ s.fl := by rcases hinv.conf with ⟨_, _, e3, _⟩ | ⟨_, _, _, _, e5⟩ <;> omega
              exact ⟨⟨Src.of_own h2, (own_cap h2).1, Src.of_own h3, (own_cap h3).1, Src.nil _ _ _, Nat.le_refl _, Int.le_refl _, Int.le_refl _, hfl⟩, hok.m, hok.l⟩
          · obtain ⟨p, hp, rfl⟩ := List.mem_map.1 hx
            exact base _ rfl rfl rfl (Int.le_refl _) (hinv.pin p hp).2.2.2 (Int.le_refl _)
        · unfold upart at hx
          split at hx
          · cases hx
          · obtain rfl : x = unote s.top := by simpa using hx
            exact base _ rfl rfl rfl (Int.le_refl _) (Int.le_refl _) (Int.le_refl _)
      · obtain rfl : x = hnote s.hz := by simpa using hx
        exact base _ rfl rfl rfl hz (Int.le_refl _) (Int.le_refl _)
    · unfold sparts at hx
      obtain ⟨a, _, rfl⟩ := List.mem_map.1 hx
      exact base _ rfl rfl rfl (Int.le_refl _) (Int.le_refl _) (Int.le_refl _)
  refine ⟨⟨Src.of_own h.own, fun x hx => (key x hx).1⟩, fun x hx => (key x hx).2, ?_⟩
  have h1 : pre.length ≤ 1 := by
    rcases h.pre with ⟨e, _⟩ | ⟨_, A1, c1, B1, d1, e, _⟩
    · rw [e]; exact Nat.zero_le _
    · rw [e]; exact Nat.le_refl _
  have h2 : (upart s).length ≤ 1 := by unfold upart; split <;> simp
  have h3 : (sparts (told3 s)).length ≤ 3 := by
    have := sparts_len (told3 s) 3
    rwa [show (told3 s).take 3 = told3 s from rfl] at this
  have h4 := hinv.pl
  rw [hl]
  simp only [List.length_append, List.length_map, List.length_cons, List.length_nil]
  omega
/-- What the walk wants of a note that a call is handed. -/
structure NUse (w : World) (a : Addr) (x : NoteR) : Prop where
  read : NoteIn w a ∧ noteAt w a = (ncell x).toArray
  ok : NOk w x
  cap : x.b.ops.length ≤ x.oc
theorem NList.use {w : World} {A : Option Addr} {l : List NoteR} (h : NList w A l) {i : Nat} {x : NoteR} (hx : l[i]? = some x) (h1 : x.ms.length ≤ 1000) (h2 : x.lg.length ≤ 1000) : ∃ ad, A = some ad ∧ ad.block < w.heap.size ∧ NUse w (ad.add (i * 18)) x := by
  have hi : i < l.length := (List.getElem?_eq_some_iff.1 hx).1
  obtain ⟨ad, rfl, hb, hc⟩ := note_cells h.src (by omega) i x hx
  exact ⟨ad, rfl, hb, noteIn_of rfl hc, (h.good x (List.mem_of_getElem? hx)).ok h1 h2, (h.good x (List.mem_of_getElem? hx)).oc⟩
theorem NGood.lblock {w : World} {x : NoteR} (h : NGood w x) {b : Nat} (hb : w.heap.size ≤ b) : 0 < x.lg.length → ∀ ad, x.lA = some ad → ad.block ≠ b := fun h0 ad e => by
  obtain ⟨ad2, e2, h2, _⟩ := h.l.2 h0
  rw [e] at e2
  injection e2 with e2
  subst e2
  omega
theorem small_take {l : List NoteR} {m : Int} {i : Nat} {x : NoteR} (h : SmallTo l 60 m) (hm : ¬ 20 < m) (hi : i < 60) (hx : l[i]? = some x) : x.ms.length ≤ 1000 ∧ x.lg.length ≤ 1000 := by
  have h1 : x ∈ l.take 60 := by
    have h2 : (l.take 60)[i]? = some x := by rw [List.getElem?_take_of_lt (by omega)]; exact hx
    exact List.mem_of_getElem? h2
  obtain ⟨a, b, _⟩ := h x h1
  omega
end Mst
end Go.Proofs.Ytolipnnjeehnfaa
/- The law MstateAgain: its walk. -/
namespace Go.Proofs.Ytolipnnjeehnfaa
open Go.RowKit
set_option maxRecDepth 100000
namespace Mst
open Plan Vn Go.Sort
attribute [local go_sem ↓] loadVar_note
attribute [local go_sem] run_loadNote
/-- Two of the program's states and the document's. -/
structure Trio (w : World) (b1 b2 b3 : Nat) (F1 F2 F3 : Nat → Prop) (s1 s2 : StR) : Prop where
  h1 : StAt w b1 F1 s1
  h2 : StAt w b2 F2 s2
  h3 : RAt w b3 F3 s2
  p12 : Sep F1 F2
  p13 : Sep F1 F3
  p23 : Sep F2 F3
theorem Trio.still {w w' : World} {b1 b2 b3 : Nat} {F1 F2 F3 : Nat → Prop} {s1 s2 : StR} (h : Trio w b1 b2 b3 F1 F2 F3 s1 s2) (hk : Kept NoF w w') : Trio w' b1 b2 b3 F1 F2 F3 s1 s2 :=
  ⟨h.h1.still hk, h.h2.still hk, h.h3.still hk, h.p12, h.p13, h.p23⟩
set_option maxHeartbeats 8000000 in
theorem law_again (w : World) (A B : Option Addr) (c d : Nat) (l m : List NoteR) (hl : NList w A l) (hm : NList w B m) :
    Calls Try.prog 4 #[.slice A l.length c, .slice B m.length d] w fun e w' => e = .returned (.bool true) ∧ Below w.heap.size w w' := by
  have hpa := parts_any w A c l hl.src
  have hpb := fun W (hW : Kept NoF w W) => parts_any W B d m (hm.kept hW).src
  have hAW := fun W => awake_any W
  have HL := Lib.hid hl; have HM := Lib.hid hm; have HPA := Lib.hid hpa; have HPB := Lib.hid hpb; have HAW := Lib.hid hAW
  clear hl hm hpa hpb hAW
  have hend : ∀ w', Kept NoF w w' → Below w.heap.size w w' := fun w' hk => hk.below (Nat.le_refl _) (fun _ z => z.elim)
  have HEND := Lib.hid hend; clear hend
  go_enter Try.func4, Try.ntmps4
  go_wp2_with fail
  refine HPA.out.mono ?_
  rintro e w1 ⟨pa, rfl, hsa, hk1⟩
  have HSA := Lib.hid hsa; have HK1 := Lib.hid hk1; clear hsa hk1
  by_cases hpa : 20 < pa
  · go_wp2_with fail
    refine (HAW.out _).mono ?_
    rintro e w3 ⟨rfl, hk3⟩
    have HK3 := Lib.hid hk3; clear hk3
    go_wp2
    go_ret
    exact ⟨rfl, HEND.out _ (HK1.out.then HK3.out)⟩
  go_wp2_with fail
  refine (HPB.out _ HK1.out).mono ?_
  rintro e w2 ⟨pb, rfl, hsb, hk2⟩
  have HSB := Lib.hid hsb; have HK2 := Lib.hid (HK1.out.then hk2); clear hsb hk2 HK1
  by_cases hpb : 20 < pb
  · go_wp2_with fail
    refine (HAW.out _).mono ?_
    rintro e w3 ⟨rfl, hk3⟩
    have HK3 := Lib.hid hk3; clear hk3
    go_wp2
    go_ret
    exact ⟨rfl, HEND.out _ (HK2.out.then HK3.out)⟩
  have HP := Lib.hid (And.intro hpa hpb)
  go_wp2_with fail
  clear hpa hpb
  refine (new_at _).mono ?_
  rintro e w3 ⟨rfl, hs3, hk3⟩
  obtain ⟨b, hb⟩ : ∃ b, w2.heap.size = b := ⟨_, rfl⟩
  rw [hb] at hs3 ⊢
  have hFb : ∀ k, k = b → w.heap.size ≤ k := fun k e => by have := HK2.out.size; omega
  have HF3 := Lib.hid hFb; have HS3 := Lib.hid hs3; have HK3 := Lib.hid (HK2.out.then hk3); clear hFb hs3 hk3 hb HK2
  go_wp2_with fail
  go_loopw [6] (fun v6 wr => ∃ (i : Nat) (s : StR) (F : Nat → Prop), i ≤ l.length ∧ i ≤ 40 ∧ v6 = .int .i64 i ∧ StAt wr b F s ∧ Inv s ∧ (∀ k, F k → w.heap.size ≤ k) ∧ Kept NoF w wr) (fun v6 _ => l.length - (intOf v6).toNat)
  case atStart => exact ⟨0, st0, _, Nat.zero_le _, Nat.zero_le _, rfl, HS3.out, inv0, HF3.out, HK3.out⟩
  case round =>
    obtain ⟨i, s, F, hi, hi2, rfl, hst, hinv, hF, hk⟩ := hrel
    have HST := Lib.hid hst; have HINV := Lib.hid hinv; have HF := Lib.hid hF; have HK := Lib.hid hk
    clear hst hinv hF hk HF3 HS3 HK3
    by_cases hmore : i < l.length ∧ i < 40
    · obtain ⟨hil, hi4⟩ := hmore
      obtain ⟨x, hx⟩ : ∃ x, l[i]? = some x := ⟨_, List.getElem?_eq_getElem hil⟩
      have hsm := small_take HSA.out (by have := HP.out.1; omega) (by omega) hx
      obtain ⟨ad, rfl, had, huse⟩ := (HL.out.kept HK.out).use hx hsm.1 hsm.2
      obtain ⟨u1, u2⟩ := huse.read
      have happ := apply_any wr b F s x HST.out HINV.out.ok huse.ok
      unfold ApplyPost at happ
      have hgx := HL.out.good x (List.mem_of_getElem? hx)
      have hinv2 := (HINV.out.apply hgx.t).1
      obtain ⟨s2, hs2⟩ : ∃ s2, applyS s x = s2 := ⟨_, rfl⟩
      obtain ⟨E, hE⟩ : ∃ E, applyE s x = E := ⟨_, rfl⟩
      rw [hs2, hE] at happ
      rw [hs2] at hinv2
      have HAPP := Lib.hid happ; have HI2 := Lib.hid hinv2
      clear happ hinv2 hs2 hE hgx huse hsm hx
      simp only [ncell] at u2
      go_wp2_with fail
      clear u1 u2
      refine HAPP.out.mono ?_
      rintro e w4 ⟨F', rfl, hst4, hgr, hk4⟩
      have hF' : ∀ k, F' k → w.heap.size ≤ k := hgr.above HF.out HK.out.size
      have hkw4 : Kept NoF w w4 := HK.out.trans hk4 (fun k h => .inr (HF.out k h))
      have HZ := Lib.hid (And.intro hst4 (And.intro hF' hkw4))
      clear hst4 hgr hk4 hF' hkw4
      go_wp2
      go_roundw
      case rel => exact ⟨i + 1, s2, F', by omega, by omega, by go_num, HZ.out.1, HI2.out, HZ.out.2.1, HZ.out.2.2⟩
      case measure => simp [intOf]; omega
    · have hx : i = l.length ∨ (i < l.length ∧ i = 40) := by omega
      rcases hx with hx | ⟨hx1, hx2⟩
      all_goals
        go_wp2_with fail
        refine (notes_any wr b F s HST.out HINV.out.ok).mono ?_
        rintro e w4 ⟨A4, c4, pre, rfl, hout⟩
        obtain ⟨hlist, hsml, hlen9⟩ := out_list hout rfl HINV.out
        have hrun := same_run HINV.out hout.pre
        have hst4 := HST.out.still hout.kept
        have hk4 := HK.out.then hout.kept
        obtain ⟨L, hL⟩ : ∃ L, pre ++ s.pins.map pnote ++ upart s ++ [hnote s.hz] ++ sparts (told3 s) = L := ⟨_, rfl⟩
        rw [hL] at hlist hsml hlen9 hrun ⊢
        have HLI := Lib.hid hlist; have HSML := Lib.hid hsml; have HRUN := Lib.hid hrun; have HST4 := Lib.hid hst4; have HK4 := Lib.hid hk4
        clear hlist hsml hrun hst4 hk4 hout hL HST HK
        go_wp2_with fail
        refine (new_at _).mono ?_
        rintro e w5 ⟨rfl, hs5, hk5⟩
        obtain ⟨b2, hb2⟩ : ∃ b2, w4.heap.size = b2 := ⟨_, rfl⟩
        rw [hb2] at hs5 ⊢
        obtain ⟨b3, hb3⟩ : ∃ b3, w5.heap.size = b3 := ⟨_, rfl⟩
        obtain ⟨W6, hW6⟩ : ∃ W6, w5.alloc (.cells (rcells st0 none 0 none 0 none 0) 57) = W6 := ⟨_, rfl⟩
        have hk6 : Kept NoF w5 W6 := by rw [← hW6]; (repeat' (first | with_reducible exact Kept.refl _ _ | with_reducible refine Kept.put ?_ ?_ | with_reducible refine Kept.drewN ?_ _ | with_reducible refine Kept.drew ?_ | with_reducible refine Kept.alloc ?_ _ | (fail) | (right; simp; done)))
        have hn6 : Has W6 b3 57 (rcells st0 none 0 none 0 none 0) := by rw [← hW6, ← hb3]; exact Has.new _ _ _
        have hr6 : RAt W6 b3 (fun k => k = b3) st0 := ⟨none, 0, none, 0, none, 0, fun k => by simp [RowOf, Value.ownBlock], hn6, ⟨rfl, .inl ⟨rfl, rfl⟩⟩, ⟨rfl, .inl ⟨rfl, rfl⟩⟩, ⟨rfl, .inl ⟨rfl, rfl⟩⟩⟩
        have htr : Trio W6 b b2 b3 F (fun k => k = b2) (fun k => k = b3) s st0 := by
          have hlt4 := HST4.out.lt
          have hs45 : w4.heap.size ≤ w5.heap.size := hk5.size
          have hb5 := hs5.lt b2 rfl
          exact ⟨HST4.out.still (hk5.then hk6), hs5.still hk6, hr6, fun k h e => by have := hlt4 k h; omega, fun k h e => by have := hlt4 k h; omega, fun k h e => by omega⟩
        have hge : (∀ k, k = b2 → w4.heap.size ≤ k) ∧ (∀ k, k = b3 → w4.heap.size ≤ k) := ⟨fun k e => by omega, fun k e => by have : w4.heap.size ≤ w5.heap.size := hk5.size; omega⟩
        have HTR := Lib.hid htr; have HGE := Lib.hid hge; have HK6 := Lib.hid (hk5.then hk6)
        have HB := Lib.hid (show w4.heap.size ≤ b2 ∧ w4.heap.size ≤ b3 from ⟨hge.1 b2 rfl, hge.2 b3 rfl⟩)
        clear htr hge hk5 hk6 hr6 hn6 hs5
        simp only [rcells, st0, ans0, List.length_nil] at hW6
        go_wp2_with fail
        (try rw [hb3])
        clear hb2 hb3 hW6
        go_loopw [10] (fun v10 wr => ∃ (i : Nat) (F2 F3 : Nat → Prop), i ≤ L.length ∧ v10 = .int .i64 i ∧ Trio wr b b2 b3 F F2 F3 s (runN st0 (L.take i)) ∧ (∀ k, F2 k → w4.heap.size ≤ k) ∧ (∀ k, F3 k → w4.heap.size ≤ k) ∧ Kept NoF w4 wr) (fun v10 _ => L.length - (intOf v10).toNat)
        case atStart => exact ⟨0, _, _, Nat.zero_le _, rfl, HTR.out, HGE.out.1, HGE.out.2, HK6.out⟩
        case round =>
          obtain ⟨i2, F2, F3, hi2, rfl, htr, hF2, hF3, hk⟩ := hrel
          have HTRI := Lib.hid htr; have HFS := Lib.hid (And.intro hF2 hF3); have HKW := Lib.hid hk
          clear htr hF2 hF3 hk HTR HGE HK6
          by_cases hil : i2 < L.length
          · obtain ⟨x, hx⟩ : ∃ x, L[i2]? = some x := ⟨_, List.getElem?_eq_getElem hil⟩
            have hmem := List.mem_of_getElem? hx
            have hsm := HSML.out x hmem
            have huse := fun W (hW : Kept NoF w4 W) => (HLI.out.kept hW).use hx hsm.1 hsm.2
            obtain ⟨ad, rfl, had, hu⟩ := huse wr HKW.out
            have hrd : ∀ W, Kept NoF w4 W → NUse W (ad.add (i2 * 18)) x := fun W hW => by
              obtain ⟨ad2, e2, _, h2⟩ := huse W hW
              injection e2 with e2
              subst e2
              exact h2
            obtain ⟨s', hs'⟩ : ∃ s', runN st0 (L.take i2) = s' := ⟨_, rfl⟩
            have hinv' : Inv s' := by
              rw [← hs']
              exact runN_inv (fun y hy => (HLI.out.good y (List.mem_of_mem_take hy)).t) inv0
            have hE := okRun_at HRUN.out.1 hx
            have hS := runN_step (s := st0) hx
            have hlb := (HLI.out.good x hmem).lblock HB.out.2
            rw [hs'] at hE hS
            have happ := apply_any wr b2 F2 s' x (by rw [← hs']; exact HTRI.out.h2) hinv'.ok hu.ok
            unfold ApplyPost at happ
            rw [hE] at happ
            have hrapp := fun W (hW : Kept NoF w4 W) (hR : RAt W b3 F3 s') => rapply_any W b3 F3 s' x hR hinv' (hrd W hW).ok (hrd W hW).cap hlb
            unfold RApplyPost at hrapp
            rw [hE] at hrapp
            rw [hs'] at HTRI
            obtain ⟨sn, hsn⟩ : ∃ sn, applyS s' x = sn := ⟨_, rfl⟩
            rw [hsn] at happ hrapp hS
            obtain ⟨u1, u2⟩ := hu.read
            have HAPP := Lib.hid happ; have HRAPP := Lib.hid hrapp; have HRD := Lib.hid hrd; have HS := Lib.hid hS
            clear happ hrapp hrd hS hE hlb hinv' hsn hs' huse hu hsm hmem hx
            simp only [ncell] at u2
            go_wp2_with fail
            clear u1 u2
            refine HAPP.out.mono ?_
            rintro e w7 ⟨F2', rfl, hst7, hgr7, hk7⟩
            have ht := HTRI.out
            have hlt3 := ht.h3.lt
            have hlt1 := ht.h1.lt
            have hk47 : Kept NoF w4 w7 := HKW.out.trans hk7 (fun k h => .inr (HFS.out.1 k h))
            have hF2' : ∀ k, F2' k → w4.heap.size ≤ k := hgr7.above HFS.out.1 HKW.out.size
            have h37 : RAt w7 b3 F3 s' := ht.h3.kept hk7 ht.p23.symm
            have h17 : StAt w7 b F s := ht.h1.kept hk7 ht.p12
            have p12 : Sep F F2' := (ht.p12.symm.grow hgr7 hlt1).symm
            have p23 : Sep F2' F3 := ht.p23.grow hgr7 hlt3
            obtain ⟨u1, u2⟩ := (HRD.out w7 hk47).read
            simp only [ncell] at u2
            have HZ := Lib.hid (And.intro hst7 (And.intro h17 (And.intro h37 (And.intro p12 (And.intro p23 (And.intro hk47 hF2'))))))
            have HP13 := Lib.hid ht.p13
            clear hst7 h17 h37 p12 p23 hk47 hF2' hgr7 hk7 ht hlt1 hlt3 HTRI
            go_wp2_with fail
            clear u1 u2
            obtain ⟨hst7, h17, h37, p12, p23, hk47, hF2'⟩ := HZ.out
            refine (HRAPP.out _ hk47 h37).mono ?_
            rintro e w8 ⟨F3', rfl, hst8, hgr8, hk8⟩
            have hlt2 := hst7.lt
            have hlt1 := h17.lt
            have hrel8 : Trio w8 b b2 b3 F F2' F3' s sn := ⟨h17.kept hk8 HP13.out, hst7.kept hk8 p23, hst8, p12, (HP13.out.symm.grow hgr8 hlt1).symm, (p23.symm.grow hgr8 hlt2).symm⟩
            have hk48 : Kept NoF w4 w8 := hk47.trans hk8 (fun k h => .inr (HFS.out.2 k h))
            have hF3' : ∀ k, F3' k → w4.heap.size ≤ k := hgr8.above HFS.out.2 hk47.size
            have HY := Lib.hid (And.intro hrel8 (And.intro hF2' (And.intro hF3' hk48)))
            clear hst7 h17 h37 p12 p23 hk47 hF2' hst8 hgr8 hk8 hlt1 hlt2 hrel8 hk48 hF3' HZ
            go_wp2
            go_roundw
            case rel => exact ⟨i2 + 1, F2', F3', by omega, by go_num, by rw [HS.out]; exact HY.out.1, HY.out.2.1, HY.out.2.2.1, HY.out.2.2.2⟩
            case measure => simp [intOf]; omega
          · obtain rfl : i2 = L.length := by omega
            have ht := HTRI.out
            rw [List.take_length, HRUN.out.2] at ht
            have hall : (∀ k, F k → w.heap.size ≤ k) ∧ (∀ k, F2 k → w.heap.size ≤ k) ∧ (∀ k, F3 k → w.heap.size ≤ k) ∧ Kept NoF w wr := by
              have h4 := HK4.out.size
              exact ⟨HF.out, fun k h => Nat.le_trans h4 (HFS.out.1 k h), fun k h => Nat.le_trans h4 (HFS.out.2 k h), HK4.out.then HKW.out⟩
            have hb3w : w.heap.size ≤ b3 := Nat.le_trans HK4.out.size HB.out.2
            have HT0 := Lib.hid ht; have HALL := Lib.hid hall; have HB3 := Lib.hid hb3w
            clear ht hall hb3w HTRI HFS HKW
            go_wp2_with fail
            go_loopw [11] (fun v11 wr => ∃ (j : Nat) (s : StR) (F1 F2 F3 : Nat → Prop), j ≤ m.length ∧ j ≤ 20 ∧ v11 = .int .i64 j ∧ Trio wr b b2 b3 F1 F2 F3 s s ∧ Inv s ∧ (∀ k, F1 k → w.heap.size ≤ k) ∧ (∀ k, F2 k → w.heap.size ≤ k) ∧ (∀ k, F3 k → w.heap.size ≤ k) ∧ Kept NoF w wr) (fun v11 _ => m.length - (intOf v11).toNat)
            case atStart => exact ⟨0, s, F, F2, F3, Nat.zero_le _, Nat.zero_le _, rfl, HT0.out, HINV.out, HALL.out⟩
            case round =>
              obtain ⟨j, sj, G1, G2, G3, hj, hj2, rfl, htr, hinv, hG1, hG2, hG3, hk⟩ := hrel
              have HTRI := Lib.hid htr; have HIJ := Lib.hid hinv; have HG := Lib.hid (And.intro hG1 (And.intro hG2 hG3)); have HKW := Lib.hid hk
              clear htr hinv hG1 hG2 hG3 hk HT0 HALL
              by_cases hmore : j < m.length ∧ j < 20
              · obtain ⟨hjl, hj4⟩ := hmore
                obtain ⟨x, hx⟩ : ∃ x, m[j]? = some x := ⟨_, List.getElem?_eq_getElem hjl⟩
                have hsm := small_take HSB.out (by have := HP.out.2; omega) (by omega) hx
                have huse := fun W (hW : Kept NoF w W) => (HM.out.kept hW).use hx hsm.1 hsm.2
                obtain ⟨ad, rfl, had, hu⟩ := huse wr HKW.out
                have hrd : ∀ W, Kept NoF w W → NUse W (ad.add (j * 18)) x := fun W hW => by
                  obtain ⟨ad2, e2, _, h2⟩ := huse W hW
                  injection e2 with e2
                  subst e2
                  exact h2
                have hgx := HM.out.good x (List.mem_of_getElem? hx)
                have hinv2 := (HIJ.out.apply hgx.t).1
                have hlb := hgx.lblock HB3.out
                have hap1 := fun W (hW : Kept NoF w W) (hS : StAt W b G1 sj) => apply_any W b G1 sj x hS HIJ.out.ok (hrd W hW).ok
                have hap2 := fun W (hW : Kept NoF w W) (hS : StAt W b2 G2 sj) => apply_any W b2 G2 sj x hS HIJ.out.ok (hrd W hW).ok
                have hap3 := fun W (hW : Kept NoF w W) (hS : RAt W b3 G3 sj) => rapply_any W b3 G3 sj x hS HIJ.out (hrd W hW).ok (hrd W hW).cap hlb
                unfold ApplyPost at hap1 hap2
                unfold RApplyPost at hap3
                obtain ⟨sn, hsn⟩ : ∃ sn, applyS sj x = sn := ⟨_, rfl⟩
                obtain ⟨E, hE⟩ : ∃ E, applyE sj x = E := ⟨_, rfl⟩
                simp only [hsn, hE] at hap1 hap2 hap3
                rw [hsn] at hinv2
                have hread : ∀ W, Kept NoF w W → NoteIn W (ad.add (j * 18)) ∧ noteAt W (ad.add (j * 18)) = (ncell x).toArray := fun W hW => (hrd W hW).read
                simp only [ncell] at hread
                simp only [nagg, ncell] at hap1 hap2 hap3
                have HA1 := Lib.hid hap1; have HA2 := Lib.hid hap2; have HA3 := Lib.hid hap3; have HI2 := Lib.hid hinv2; have HRE := Lib.hid hread
                obtain ⟨u1, u2⟩ := hread wr HKW.out
                clear hap1 hap2 hap3 hinv2 hread hrd hgx hlb huse hu hsm hx hsn hE
                have HS := Lib.hid HKW.out
                have HC1 := Lib.hid (Kept.refl NoF wr)
                obtain ⟨X, hX⟩ : ∃ X, X = x := ⟨_, rfl⟩
                clear hX X
                go_wp2_with fail
                (go_region_held3 (fun W => NoteIn W (ad.add (j * 18)) ∧ noteAt W (ad.add (j * 18)) = #[.int .i64 x.k, .int .i64 x.n, .int .u64 x.at', .int .i64 x.ep, .slice x.mA x.ms.length x.mc, .int .u64 x.fl, .slice x.lA x.lg.length x.lc, .int .i64 x.b.cl, .int .i64 x.b.req, .slice x.oA x.b.ops.length x.oc, .int .u64 x.ts, .int .i64 x.pin.id, .int .u64 x.pin.at', .int .i64 x.pin.left, .int .i64 x.said.cl, .int .i64 x.said.req, .int .i64 x.said.e, .int .i64 x.said.pin])
                  (first | with_reducible exact HRE.out _ HS.out | exact HRE.out _ HS.out.drew | (exact ⟨u1, u2⟩) | (refine HRE.out _ ?_; (repeat' (first | with_reducible exact Kept.refl _ _ | with_reducible refine Kept.put ?_ ?_ | with_reducible refine Kept.drewN ?_ _ | with_reducible refine Kept.drew ?_ | with_reducible refine Kept.alloc ?_ _ | (exact HS.out) | (right; simp; done))); done))
                  (first
                    | (go_at_call 12; ((with_reducible refine (HA1.out _ ?_ ?_).mono ?_); ((repeat' (first | with_reducible exact Kept.refl _ _ | with_reducible refine Kept.put ?_ ?_ | with_reducible refine Kept.drewN ?_ _ | with_reducible refine Kept.drew ?_ | with_reducible refine Kept.alloc ?_ _ | (exact HS.out) | (right; simp; done)))); (exact HTRI.out.h1.still (by (repeat' (first | with_reducible exact Kept.refl _ _ | with_reducible refine Kept.put ?_ ?_ | with_reducible refine Kept.drewN ?_ _ | with_reducible refine Kept.drew ?_ | with_reducible refine Kept.alloc ?_ _ | (fail) | (right; simp; done))))); rintro e w5 ⟨G1', rfl, hst5, hgr5, hk5⟩; have hk := Kept.trans (F := NoF) (a := w) (b := _) (c := w5) (by (repeat' (first | with_reducible exact Kept.refl _ _ | with_reducible refine Kept.put ?_ ?_ | with_reducible refine Kept.drewN ?_ _ | with_reducible refine Kept.drew ?_ | with_reducible refine Kept.alloc ?_ _ | (exact HS.out) | (right; simp; done)))) hk5 (fun k h => .inr (HG.out.1 k h)); have hkk := Kept.then (F := G1) (a := wr) (by (repeat' (first | with_reducible exact Kept.refl _ _ | with_reducible refine Kept.put ?_ ?_ | with_reducible refine Kept.drewN ?_ _ | with_reducible refine Kept.drew ?_ | with_reducible refine Kept.alloc ?_ _ | (fail) | (right; simp; done)))) hk5; have H5 := Lib.hid (And.intro hst5 (And.intro hgr5 hkk)); clear hkk; clear HS hst5 hgr5 hk5; have HS := Lib.hid hk; clear hk))
                    | (go_at_call 12; ((with_reducible refine (HA2.out _ ?_ ?_).mono ?_); ((repeat' (first | with_reducible exact Kept.refl _ _ | with_reducible refine Kept.put ?_ ?_ | with_reducible refine Kept.drewN ?_ _ | with_reducible refine Kept.drew ?_ | with_reducible refine Kept.alloc ?_ _ | (exact HS.out) | (right; simp; done)))); (exact (HTRI.out.h2.kept H5.out.2.2 HTRI.out.p12.symm).still (by (repeat' (first | with_reducible exact Kept.refl _ _ | with_reducible refine Kept.put ?_ ?_ | with_reducible refine Kept.drewN ?_ _ | with_reducible refine Kept.drew ?_ | with_reducible refine Kept.alloc ?_ _ | (fail) | (right; simp; done))))); rintro e w6 ⟨G2', rfl, hst6, hgr6, hk6⟩; have hk := Kept.trans (F := NoF) (a := w) (b := _) (c := w6) (by (repeat' (first | with_reducible exact Kept.refl _ _ | with_reducible refine Kept.put ?_ ?_ | with_reducible refine Kept.drewN ?_ _ | with_reducible refine Kept.drew ?_ | with_reducible refine Kept.alloc ?_ _ | (exact HS.out) | (right; simp; done)))) hk6 (fun k h => .inr (HG.out.2.1 k h)); have hkk := Kept.then (F := G2) (a := w5) (by (repeat' (first | with_reducible exact Kept.refl _ _ | with_reducible refine Kept.put ?_ ?_ | with_reducible refine Kept.drewN ?_ _ | with_reducible refine Kept.drew ?_ | with_reducible refine Kept.alloc ?_ _ | (fail) | (right; simp; done)))) hk6; have H6 := Lib.hid (And.intro hst6 (And.intro hgr6 hkk)); clear hkk; clear HS hst6 hgr6 hk6; have HS := Lib.hid hk; clear hk))))
                all_goals
                  have ht := HTRI.out
                  obtain ⟨hst5, hgr5, hk5⟩ := H5.out
                  obtain ⟨hst6, hgr6, hk6⟩ := H6.out
                  have lt1 := ht.h1.lt
                  have lt2 := ht.h2.lt
                  have lt3 := ht.h3.lt
                  have hgr5' : Grows wr G1 G1' := hgr5
                  have hgr6' : Grows w5 G2 G2' := hgr6
                  have hz5 := hk5.size
                  have p12 : Sep G1' G2 := ht.p12.grow hgr5' lt2
                  have p13 : Sep G1' G3 := ht.p13.grow hgr5' lt3
                  have lt1' := hst5.lt
                  have lt3' : ∀ k, G3 k → k < w5.heap.size := fun k h => Nat.lt_of_lt_of_le (lt3 k h) hz5
                  have p12' : Sep G1' G2' := (p12.symm.grow hgr6' lt1').symm
                  have p23' : Sep G2' G3 := ht.p23.grow hgr6' lt3'
                  have hs5 : StAt w6 b G1' sn := hst5.kept hk6 p12
                  have hr5 : RAt w5 b3 G3 sj := ht.h3.kept hk5 ht.p13.symm
                  have hr6 : RAt w6 b3 G3 sj := hr5.kept hk6 ht.p23.symm
                  have hG1' : ∀ k, G1' k → w.heap.size ≤ k := hgr5'.above HG.out.1 HKW.out.size
                  have hG2' : ∀ k, G2' k → w.heap.size ≤ k := hgr6'.above HG.out.2.1 (Nat.le_trans HKW.out.size hz5)
                  have HZ := Lib.hid (And.intro hs5 (And.intro hst6 (And.intro hr6 (And.intro p12' (And.intro p13 (And.intro p23' (And.intro hG1' hG2')))))))
                  have hwz : World.heap w6 = w6.heap := rfl
                  clear ht hst5 hgr5 hk5 hst6 hgr6 hk6 lt1 lt2 lt3 hgr5' hgr6' hz5 p12 p13 lt1' lt3' p12' p23' hs5 hr5 hr6 hG1' hG2' hwz H5 H6 HTRI u1 u2
                  have HSA2 := HS
                  clear HS
                  obtain ⟨u1, u2⟩ := HRE.out w6 HSA2.out
                  have hne : (E != E) = false := by simp
                  go_wp2_with fail
                  clear u1 u2
                  obtain ⟨hs5, hst6, hr6, p12, p13, p23, hG1', hG2'⟩ := HZ.out
                  refine (HA3.out _ HSA2.out hr6).mono ?_
                  rintro e w8 ⟨G3', rfl, hst8, hgr8, hk8⟩
                  have lt1 := hs5.lt
                  have lt2 := hst6.lt
                  have hrel8 : Trio w8 b b2 b3 G1' G2' G3' sn sn := ⟨hs5.kept hk8 p13, hst6.kept hk8 p23, hst8, p12, (p13.symm.grow hgr8 lt1).symm, (p23.symm.grow hgr8 lt2).symm⟩
                  have hk48 : Kept NoF w w8 := HSA2.out.trans hk8 (fun k h => .inr (HG.out.2.2 k h))
                  have hG3' : ∀ k, G3' k → w.heap.size ≤ k := hgr8.above HG.out.2.2 HSA2.out.size
                  have HY := Lib.hid (And.intro hrel8 (And.intro hG1' (And.intro hG2' (And.intro hG3' hk48))))
                  clear hs5 hst6 hr6 p12 p13 p23 hG1' hG2' hst8 hgr8 hk8 lt1 lt2 hrel8 hk48 hG3' HZ hne
                  go_wp2
                  go_roundw
                  case rel => exact ⟨j + 1, sn, G1', G2', G3', by omega, by omega, by go_num, HY.out.1, HI2.out, HY.out.2.1, HY.out.2.2.1, HY.out.2.2.2.1, HY.out.2.2.2.2⟩
                  case measure => simp [intOf]; omega
              · have hx : j = m.length ∨ (j < m.length ∧ j = 20) := by omega
                have ht := HTRI.out
                have hsm1 := fun W (hW : Kept NoF wr W) => same_eq W b b3 G1 G3 sj (ht.h1.still hW) (ht.h3.still hW) HIJ.out.ok
                have hsm2 := fun W (hW : Kept NoF wr W) => same_eq W b2 b3 G2 G3 sj (ht.h2.still hW) (ht.h3.still hW) HIJ.out.ok
                have HM1 := Lib.hid hsm1; have HM2 := Lib.hid hsm2
                clear ht hsm1 hsm2
                rcases hx with hx | ⟨hx1, hx2⟩
                all_goals
                  go_wp2_with fail
                  refine (HM1.out _ (Kept.refl _ _)).mono ?_
                  rintro e w5 ⟨rfl, hk⟩
                  have HS := Lib.hid hk; clear hk
                  go_wp2_with fail
                  refine (HM2.out _ HS.out).mono ?_
                  rintro e w6 ⟨rfl, hk⟩
                  have HS6 := Lib.hid (HS.out.then hk); clear hk
                  go_wp2_with fail
                  refine (HAW.out _).mono ?_
                  rintro e w7 ⟨rfl, hk⟩
                  have HS7 := Lib.hid (HS6.out.then hk); clear hk
                  go_wp2
                  go_ret
                  exact ⟨rfl, HEND.out _ (HKW.out.then HS7.out)⟩
end Mst
end Go.Proofs.Ytolipnnjeehnfaa
