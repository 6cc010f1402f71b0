/- mstate's Conf and Said of a state that was made; Notes of one that was not; awake. -/
import Derived.Test.YtolipnnjeehnfaaMst22
set_option linter.unusedSimpArgs false
set_option linter.unusedVariables false
namespace Go.Proofs.Ytolipnnjeehnfaa
open Go.RowKit
set_option maxRecDepth 100000
namespace Mst
open Plan Vn Go.Sort
theorem getConf_any (w : World) (b : Nat) (s : StR) (mA : Option Addr) (mc : Nat) (lA : Option Addr) (lc : Nat) (pA : Option Addr) (pc : Nat) (hb : Has w b 62 (scells s mA mc lA lc pA pc true)) (hm : Src w 2 mA s.ms.length (mcells s.ms)) (hml : s.ms.length ≤ 1000) :
    Calls Try.prog 10 #[.pointer (some ⟨b, 0, none⟩)] w (OwnPost w s.ep s.fl s.ms) := by
  have h := fun W (hW : Kept NoF w W) => none_any W b s mA mc lA lc pA pc true (hb.kept hW (fun z => z))
  have hown := fun W (hW : Kept NoF w W) => own_any W s.ep s.fl mA mc s.ms (hm.kept hW (fun _ _ z => z)) (by omega)
  have hce : ∀ W, Kept NoF w W → W.cell? ⟨b, 0, none⟩ = some (.int .i64 s.ep) ∧ W.cell? ⟨b, 1, none⟩ = some (.slice mA s.ms.length mc) ∧ W.cell? ⟨b, 2, none⟩ = some (.int .u64 s.fl) := fun W hW => by
    have g := hb.kept hW (fun z => z)
    exact ⟨g.cell 0, g.cell 1, g.cell 2⟩
  have HLT := Lib.hid hb.lt
  have H := Lib.hid h; have HOWN := Lib.hid hown; have HCE := Lib.hid hce; clear h hb hown hm hce
  go_enter Try.func10, Try.ntmps10
  go_wp2_with fail
  refine (H.out _ (by (repeat' (first | with_reducible exact Kept.refl _ _ | with_reducible refine Kept.put ?_ ?_ | with_reducible refine Kept.drewN ?_ _ | with_reducible refine Kept.drew ?_ | with_reducible refine Kept.alloc ?_ _ | (fail) | (right; simp; done))))).mono ?_
  rintro e w2 ⟨rfl, hk⟩
  have hb1 := (Has.new w 31 #[.int .i64 0, .slice none 0 0, .int .u64 0]).kept hk (fun z => z)
  have hk2 := Kept.then (F := NoF) (a := w) (by (repeat' (first | with_reducible exact Kept.refl _ _ | with_reducible refine Kept.put ?_ ?_ | with_reducible refine Kept.drewN ?_ _ | with_reducible refine Kept.drew ?_ | with_reducible refine Kept.alloc ?_ _ | (fail) | (right; simp; done)))) hk
  obtain ⟨q0, q1, q2⟩ := HCE.out _ hk2
  have HB := Lib.hid hb1; have HK := Lib.hid hk2; have HZ := Lib.hid hk.size; clear hk hk2 hb1
  go_wp2_with fail
  refine (HOWN.out _ HK.out).mono ?_
  rintro e w3 ⟨A1, c1, rfl, hn, hk⟩
  clear q0 q1 q2
  have hb1 := HB.out.kept hk (fun z => z)
  have c0 := hb1.cell 0
  have f0 := hb1.frozen 0
  have c1' := hb1.cell 1
  have f1 := hb1.frozen 1
  have c2 := hb1.cell 2
  have f2 := hb1.frozen 2
  simp only [List.getElem?_toArray, List.getElem?_cons_zero, List.getElem?_cons_succ] at c0 c1' c2
  have HB1 := Lib.hid hb1; have HN := Lib.hid hn; have HK3 := Lib.hid (HK.out.then hk); clear hb1 hn hk
  go_wp2
  have hfin := ((HB1.out.put 0 (Value.int .i64 s.ep)).put 1 (Value.slice A1 s.ms.length c1)).put 2 (Value.int .u64 s.fl)
  refine bodyPost_ret (results_cell_row rfl _ _ w.heap.size 31 _ (0, 0) _ rfl hfin Try.underlying31 rfl (by kernel_rfl)) rfl ?_
  have hk9 : ∀ W (i : Nat) u, Kept NoF w W → Kept NoF w (W.setCell ⟨w.heap.size, i, none⟩ u) := fun W i u hW => hW.put (.inr (Nat.le_refl _))
  have hz := HZ.out
  simp only [size_alloc] at hz
  refine ⟨A1, c1, rfl, ⟨?_, fun g hg => by have := HN.out.2 g hg; omega⟩, hk9 _ _ _ (hk9 _ _ _ (hk9 _ _ _ (HK3.out)))⟩
  refine own_kept (F := fun k => k = w.heap.size) HN.out.1 ((((Kept.refl (fun k => k = w.heap.size) w3).put (.inl rfl)).put (.inl rfl)).put (.inl rfl)) (fun g hg hF => ?_)
  have h1 := HN.out.2 g hg
  omega
def saidOf (s : StR) (i : Int) : AnsR := if i < 0 ∨ 3 ≤ i then ans0 else toldOf s i
theorem getSaid_out (w : World) (i : Int) (b : Nat) (s : StR) (mA : Option Addr) (mc : Nat) (lA : Option Addr) (lc : Nat) (pA : Option Addr) (pc : Nat) (hb : Has w b 62 (scells s mA mc lA lc pA pc true)) (hi : i < 0 ∨ 3 ≤ i) :
    Calls Try.prog 20 #[.pointer (some ⟨b, 0, none⟩), .int .i64 i] w fun e w' => e = .returned (ansagg ans0) ∧ Kept NoF w w' := by
  have h := fun W (hW : Kept NoF w W) => none_any W b s mA mc lA lc pA pc true (hb.kept hW (fun z => z))
  have H := Lib.hid h; clear h hb
  have hfin : ∀ (W : World), Has W w.heap.size 46 #[.int .i64 0, .int .i64 0, .int .i64 0, .int .i64 0] → Kept NoF w W → ∀ W2, W2 = (((W.setCell ⟨w.heap.size, 0, none⟩ (.int .i64 0)).setCell ⟨w.heap.size, 1, none⟩ (.int .i64 0)).setCell ⟨w.heap.size, 2, none⟩ (.int .i64 0)).setCell ⟨w.heap.size, 3, none⟩ (.int .i64 0) → Has W2 w.heap.size 46 #[.int .i64 0, .int .i64 0, .int .i64 0, .int .i64 0] ∧ Kept NoF w W2 := by
    rintro W h1 h2 W2 rfl
    have hk9 : ∀ W (i : Nat) u, Kept NoF w W → Kept NoF w (W.setCell ⟨w.heap.size, i, none⟩ u) := fun W i u hW => hW.put (.inr (Nat.le_refl _))
    exact ⟨(((h1.put 0 (Value.int .i64 0)).put 1 (Value.int .i64 0)).put 2 (Value.int .i64 0)).put 3 (Value.int .i64 0), hk9 _ _ _ (hk9 _ _ _ (hk9 _ _ _ (hk9 _ _ _ h2)))⟩
  have HFIN := Lib.hid hfin; clear hfin
  by_cases h0 : i < 0
  · go_enter Try.func20, Try.ntmps20
    go_wp2_with fail
    refine (H.out _ (by (repeat' (first | with_reducible exact Kept.refl _ _ | with_reducible refine Kept.put ?_ ?_ | with_reducible refine Kept.drewN ?_ _ | with_reducible refine Kept.drew ?_ | with_reducible refine Kept.alloc ?_ _ | (fail) | (right; simp; done))))).mono ?_
    rintro e w2 ⟨rfl, hk⟩
    have hb1 := (Has.new w 46 #[.int .i64 0, .int .i64 0, .int .i64 0, .int .i64 0]).kept hk (fun z => z)
    have hk2 := Kept.then (F := NoF) (a := w) (by (repeat' (first | with_reducible exact Kept.refl _ _ | with_reducible refine Kept.put ?_ ?_ | with_reducible refine Kept.drewN ?_ _ | with_reducible refine Kept.drew ?_ | with_reducible refine Kept.alloc ?_ _ | (fail) | (right; simp; done)))) hk
    have c0 := hb1.cell 0
    have f0 := hb1.frozen 0
    have c1 := hb1.cell 1
    have f1 := hb1.frozen 1
    have c2 := hb1.cell 2
    have f2 := hb1.frozen 2
    have c3 := hb1.cell 3
    have f3 := hb1.frozen 3
    simp only [List.getElem?_toArray, List.getElem?_cons_zero, List.getElem?_cons_succ] at c0 c1 c2 c3
    have HB := Lib.hid hb1; have HK := Lib.hid hk2; clear hk hk2 hb1
    go_wp2
    obtain ⟨h1, h2⟩ := HFIN.out _ HB.out HK.out _ rfl
    exact bodyPost_ret (results_cell_row rfl _ _ w.heap.size 46 _ (0, 0) _ rfl h1 Try.underlying46 rfl (by kernel_rfl)) rfl ⟨rfl, h2⟩
  · have h3 : 3 ≤ i := by omega
    clear hi
    go_enter Try.func20, Try.ntmps20
    go_wp2_with fail
    refine (H.out _ (by (repeat' (first | with_reducible exact Kept.refl _ _ | with_reducible refine Kept.put ?_ ?_ | with_reducible refine Kept.drewN ?_ _ | with_reducible refine Kept.drew ?_ | with_reducible refine Kept.alloc ?_ _ | (fail) | (right; simp; done))))).mono ?_
    rintro e w2 ⟨rfl, hk⟩
    have hb1 := (Has.new w 46 #[.int .i64 0, .int .i64 0, .int .i64 0, .int .i64 0]).kept hk (fun z => z)
    have hk2 := Kept.then (F := NoF) (a := w) (by (repeat' (first | with_reducible exact Kept.refl _ _ | with_reducible refine Kept.put ?_ ?_ | with_reducible refine Kept.drewN ?_ _ | with_reducible refine Kept.drew ?_ | with_reducible refine Kept.alloc ?_ _ | (fail) | (right; simp; done)))) hk
    have c0 := hb1.cell 0
    have f0 := hb1.frozen 0
    have c1 := hb1.cell 1
    have f1 := hb1.frozen 1
    have c2 := hb1.cell 2
    have f2 := hb1.frozen 2
    have c3 := hb1.cell 3
    have f3 := hb1.frozen 3
    simp only [List.getElem?_toArray, List.getElem?_cons_zero, List.getElem?_cons_succ] at c0 c1 c2 c3
    have HB := Lib.hid hb1; have HK := Lib.hid hk2; clear hk hk2 hb1
    go_wp2
    obtain ⟨h1, h2⟩ := HFIN.out _ HB.out HK.out _ rfl
    exact bodyPost_ret (results_cell_row rfl _ _ w.heap.size 46 _ (0, 0) _ rfl h1 Try.underlying46 rfl (by kernel_rfl)) rfl ⟨rfl, h2⟩
theorem getSaid_in (w : World) (i : Nat) (a0 a1 a2 a3 : Int) (b : Nat) (s : StR) (mA : Option Addr) (mc : Nat) (lA : Option Addr) (lc : Nat) (pA : Option Addr) (pc : Nat) (hb : Has w b 62 (scells s mA mc lA lc pA pc true)) (hi : i < 3)
    (hat : (scells s mA mc lA lc pA pc true)[7 + i * 4]? = some (.int .i64 a0) ∧ (scells s mA mc lA lc pA pc true)[7 + i * 4 + 1]? = some (.int .i64 a1) ∧ (scells s mA mc lA lc pA pc true)[7 + i * 4 + 2]? = some (.int .i64 a2) ∧ (scells s mA mc lA lc pA pc true)[7 + i * 4 + 3]? = some (.int .i64 a3)) :
    Calls Try.prog 20 #[.pointer (some ⟨b, 0, none⟩), .int .i64 i] w fun e w' => e = .returned (ansagg ⟨a0, a1, a2, a3⟩) ∧ Kept NoF w w' := by
  have h := fun W (hW : Kept NoF w W) => none_any W b s mA mc lA lc pA pc true (hb.kept hW (fun z => z))
  have hce : ∀ W, Kept NoF w W → W.cell? ⟨b, 7 + i * 4, none⟩ = some (.int .i64 a0) ∧ W.cell? ⟨b, 7 + i * 4 + 1, none⟩ = some (.int .i64 a1) ∧ W.cell? ⟨b, 7 + i * 4 + 2, none⟩ = some (.int .i64 a2) ∧ W.cell? ⟨b, 7 + i * 4 + 3, none⟩ = some (.int .i64 a3) := fun W hW => by
    have g := hb.kept hW (fun z => z)
    exact ⟨(g.cell _).trans hat.1, (g.cell _).trans hat.2.1, (g.cell _).trans hat.2.2.1, (g.cell _).trans hat.2.2.2⟩
  have H := Lib.hid h; have HCE := Lib.hid hce; clear h hb hat hce
  go_enter Try.func20, Try.ntmps20
  go_wp2_with fail
  refine (H.out _ (by (repeat' (first | with_reducible exact Kept.refl _ _ | with_reducible refine Kept.put ?_ ?_ | with_reducible refine Kept.drewN ?_ _ | with_reducible refine Kept.drew ?_ | with_reducible refine Kept.alloc ?_ _ | (fail) | (right; simp; done))))).mono ?_
  rintro e w2 ⟨rfl, hk⟩
  have hb1 := (Has.new w 46 #[.int .i64 0, .int .i64 0, .int .i64 0, .int .i64 0]).kept hk (fun z => z)
  have hk2 := Kept.then (F := NoF) (a := w) (by (repeat' (first | with_reducible exact Kept.refl _ _ | with_reducible refine Kept.put ?_ ?_ | with_reducible refine Kept.drewN ?_ _ | with_reducible refine Kept.drew ?_ | with_reducible refine Kept.alloc ?_ _ | (fail) | (right; simp; done)))) hk
  obtain ⟨q0, q1, q2, q3⟩ := HCE.out _ hk2
  have c0 := hb1.cell 0
  have f0 := hb1.frozen 0
  have c1 := hb1.cell 1
  have f1 := hb1.frozen 1
  have c2 := hb1.cell 2
  have f2 := hb1.frozen 2
  have c3 := hb1.cell 3
  have f3 := hb1.frozen 3
  simp only [List.getElem?_toArray, List.getElem?_cons_zero, List.getElem?_cons_succ] at c0 c1 c2 c3
  have HB := Lib.hid hb1; have HK := Lib.hid hk2; clear hk hk2 hb1
  go_wp2
  have hfin := (((HB.out.put 0 (Value.int .i64 a0)).put 1 (Value.int .i64 a1)).put 2 (Value.int .i64 a2)).put 3 (Value.int .i64 a3)
  refine bodyPost_ret (results_cell_row rfl _ _ w.heap.size 46 _ (0, 0) _ rfl hfin Try.underlying46 rfl (by kernel_rfl)) rfl ?_
  have hk9 : ∀ W (i : Nat) u, Kept NoF w W → Kept NoF w (W.setCell ⟨w.heap.size, i, none⟩ u) := fun W i u hW => hW.put (.inr (Nat.le_refl _))
  exact ⟨rfl, hk9 _ _ _ (hk9 _ _ _ (hk9 _ _ _ (hk9 _ _ _ (HK.out))))⟩
/-! ### all that a state tells -/
section
variable {w : World} {b : Nat} {F : Nat → Prop} {s : StR}
theorem horizon_at (h : StAt w b F s) : Calls Try.prog 9 #[.pointer (some ⟨b, 0, none⟩)] w fun e w' => e = .returned (.int .u64 s.hz) ∧ Kept NoF w w' := by
  obtain ⟨mA, mc, lA, lc, pA, pc, hF, hb, hm, hl, hp⟩ := h
  exact getHorizon_any w b s mA mc lA lc pA pc hb
theorem top_at (h : StAt w b F s) : Calls Try.prog 19 #[.pointer (some ⟨b, 0, none⟩)] w fun e w' => e = .returned (.int .i64 s.top) ∧ Kept NoF w w' := by
  obtain ⟨mA, mc, lA, lc, pA, pc, hF, hb, hm, hl, hp⟩ := h
  exact getTop_any w b s mA mc lA lc pA pc hb
theorem legit_at (h : StAt w b F s) (hok : SOk s) : Calls Try.prog 14 #[.pointer (some ⟨b, 0, none⟩)] w (NewInt w s.lg) := by
  obtain ⟨mA, mc, lA, lc, pA, pc, hF, hb, hm, hl, hp⟩ := h
  exact getLegit_any w b s mA mc lA lc pA pc hb (Src.of_own hl) (by have := hok.l; omega)
theorem pins_at (h : StAt w b F s) (hok : SOk s) : Calls Try.prog 11 #[.pointer (some ⟨b, 0, none⟩)] w (NewPin w s.pins) := by
  obtain ⟨mA, mc, lA, lc, pA, pc, hF, hb, hm, hl, hp⟩ := h
  exact getPins_any w b s mA mc lA lc pA pc hb (Src.of_own hp) (by have := hok.p; omega)
theorem conf_at (h : StAt w b F s) (hok : SOk s) : Calls Try.prog 10 #[.pointer (some ⟨b, 0, none⟩)] w (OwnPost w s.ep s.fl s.ms) := by
  obtain ⟨mA, mc, lA, lc, pA, pc, hF, hb, hm, hl, hp⟩ := h
  exact getConf_any w b s mA mc lA lc pA pc hb (Src.of_own hm) hok.m
theorem said_at (h : StAt w b F s) (i : Int) : Calls Try.prog 20 #[.pointer (some ⟨b, 0, none⟩), .int .i64 i] w fun e w' => e = .returned (ansagg (saidOf s i)) ∧ Kept NoF w w' := by
  obtain ⟨mA, mc, lA, lc, pA, pc, hF, hb, hm, hl, hp⟩ := h
  by_cases hi : i < 0 ∨ 3 ≤ i
  · rw [saidOf, if_pos hi]
    exact getSaid_out w i b s mA mc lA lc pA pc hb hi
  · rw [saidOf, if_neg hi]
    have h3 : i = 0 ∨ i = 1 ∨ i = 2 := by omega
    rcases h3 with rfl | rfl | rfl
    · exact getSaid_in w 0 _ _ _ _ b s mA mc lA lc pA pc hb (by decide) ⟨rfl, rfl, rfl, rfl⟩
    · exact getSaid_in w 1 _ _ _ _ b s mA mc lA lc pA pc hb (by decide) ⟨rfl, rfl, rfl, rfl⟩
    · exact getSaid_in w 2 _ _ _ _ b s mA mc lA lc pA pc hb (by decide) ⟨rfl, rfl, rfl, rfl⟩
end
theorem new_at (w : World) : Calls Try.prog 8 #[] w fun e w' => e = .returned (.pointer (some ⟨w.heap.size, 0, none⟩)) ∧ StAt w' w.heap.size (fun k => k = w.heap.size) st0 ∧ Kept NoF w w' := by
  refine (new_any w).mono ?_
  rintro e w' ⟨rfl, h, hk⟩
  exact ⟨rfl, ⟨none, 0, none, 0, none, 0, fun k => by simp [RowOf, Value.ownBlock], h, ⟨rfl, .inl ⟨rfl, rfl⟩⟩, ⟨rfl, .inl ⟨rfl, rfl⟩⟩, ⟨rfl, .inl ⟨rfl, rfl⟩⟩⟩, hk⟩
theorem notes_nil (w : World) : Calls Try.prog 16 #[.pointer none] w fun e w' => e = .returned (.slice none 0 0) ∧ Kept NoF w w' := by
  have h := fun W (hW : Kept NoF w W) => none_nil W
  have H := Lib.hid h; clear h
  go_enter Try.func16, Try.ntmps16
  go_wp2_with fail
  refine (H.out _ (by (repeat' (first | with_reducible exact Kept.refl _ _ | with_reducible refine Kept.put ?_ ?_ | with_reducible refine Kept.drewN ?_ _ | with_reducible refine Kept.drew ?_ | with_reducible refine Kept.alloc ?_ _ | (fail) | (right; simp; done))))).mono ?_
  rintro e w2 ⟨rfl, hk⟩
  have hk2 := Kept.then (F := NoF) (a := w) (by (repeat' (first | with_reducible exact Kept.refl _ _ | with_reducible refine Kept.put ?_ ?_ | with_reducible refine Kept.drewN ?_ _ | with_reducible refine Kept.drew ?_ | with_reducible refine Kept.alloc ?_ _ | (fail) | (right; simp; done)))) hk
  have HK := Lib.hid hk2; clear hk hk2
  go_wp2
  go_ret
  exact ⟨rfl, HK.out⟩
theorem notes_zero (w : World) (b : Nat) (s : StR) (mA : Option Addr) (mc : Nat) (lA : Option Addr) (lc : Nat) (pA : Option Addr) (pc : Nat) (hb : Has w b 62 (scells s mA mc lA lc pA pc false)) :
    Calls Try.prog 16 #[.pointer (some ⟨b, 0, none⟩)] w fun e w' => e = .returned (.slice none 0 0) ∧ Kept NoF w w' := by
  have h := fun W (hW : Kept NoF w W) => none_any W b s mA mc lA lc pA pc false (hb.kept hW (fun z => z))
  have H := Lib.hid h; clear h hb
  go_enter Try.func16, Try.ntmps16
  go_wp2_with fail
  refine (H.out _ (by (repeat' (first | with_reducible exact Kept.refl _ _ | with_reducible refine Kept.put ?_ ?_ | with_reducible refine Kept.drewN ?_ _ | with_reducible refine Kept.drew ?_ | with_reducible refine Kept.alloc ?_ _ | (fail) | (right; simp; done))))).mono ?_
  rintro e w2 ⟨rfl, hk⟩
  have hk2 := Kept.then (F := NoF) (a := w) (by (repeat' (first | with_reducible exact Kept.refl _ _ | with_reducible refine Kept.put ?_ ?_ | with_reducible refine Kept.drewN ?_ _ | with_reducible refine Kept.drew ?_ | with_reducible refine Kept.alloc ?_ _ | (fail) | (right; simp; done)))) hk
  have HK := Lib.hid hk2; clear hk hk2
  go_wp2
  go_ret
  exact ⟨rfl, HK.out⟩
def nt (k n : Int) (pin : PinR) (b : Ops.Batch) : NoteR := ⟨k, n, 0, 0, none, 0, [], 0, none, 0, [], none, 0, b, 0, pin, ans0⟩
theorem nt_ok (w : World) (k n : Int) (pin : PinR) (cl req : Int) : NOk w (nt k n pin ⟨cl, req, []⟩) := ⟨Src.nil _ _ _, Nat.le_refl _, Nat.zero_le _, Src.nil _ _ _, Nat.le_refl _, Nat.zero_le _, Src.nil _ _ _⟩
theorem awake_any (w : World) : Calls Try.prog 7 #[] w fun e w' => e = .returned (.bool true) ∧ Kept NoF w w' := by
  have b0 : applyE st0 (nt 6 0 ⟨1, 5, 0⟩ ⟨0, 0, []⟩) = 0 := by decide
  have s0 : applyS st0 (nt 6 0 ⟨1, 5, 0⟩ ⟨0, 0, []⟩) = ⟨0, [], 0, [], 0, [⟨1, 5, 8⟩], 1, ans0, ans0, ans0⟩ := by rfl
  have b1 : applyE ⟨0, [], 0, [], 0, [⟨1, 5, 8⟩], 1, ans0, ans0, ans0⟩ (nt 7 1 ⟨0, 0, 0⟩ ⟨0, 0, []⟩) = 0 := by decide
  have s1 : applyS ⟨0, [], 0, [], 0, [⟨1, 5, 8⟩], 1, ans0, ans0, ans0⟩ (nt 7 1 ⟨0, 0, 0⟩ ⟨0, 0, []⟩) = ⟨0, [], 0, [], 0, [], 1, ans0, ans0, ans0⟩ := by rfl
  have b2 : applyE ⟨0, [], 0, [], 0, [], 1, ans0, ans0, ans0⟩ (nt 2 0 ⟨0, 0, 0⟩ ⟨0, 1, []⟩) = 11 := by decide
  have h0 := fun W b F (hs : StAt W b F st0) => apply_any W b F st0 (nt 6 0 ⟨1, 5, 0⟩ ⟨0, 0, []⟩) hs ⟨by decide, by decide, by decide⟩ (nt_ok _ _ _ _ _ _)
  have h1 := fun W b F (hs : StAt W b F ⟨0, [], 0, [], 0, [⟨1, 5, 8⟩], 1, ans0, ans0, ans0⟩) => apply_any W b F _ (nt 7 1 ⟨0, 0, 0⟩ ⟨0, 0, []⟩) hs ⟨by decide, by decide, by decide⟩ (nt_ok _ _ _ _ _ _)
  have h2 := fun W b F (hs : StAt W b F ⟨0, [], 0, [], 0, [], 1, ans0, ans0, ans0⟩) => apply_any W b F _ (nt 2 0 ⟨0, 0, 0⟩ ⟨0, 1, []⟩) hs ⟨by decide, by decide, by decide⟩ (nt_ok _ _ _ _ _ _)
  have H0 : Hid (∀ W b F, StAt W b F st0 → Calls Try.prog 12 #[.pointer (some ⟨b, 0, none⟩), nagg (nt 6 0 ⟨1, 5, 0⟩ ⟨0, 0, []⟩)] W fun e W' => ∃ F', e = .returned (.int .i64 0) ∧ StAt W' b F' ⟨0, [], 0, [], 0, [⟨1, 5, 8⟩], 1, ans0, ans0, ans0⟩ ∧ Grows W F F' ∧ Kept F W W') :=
    Lib.hid fun W b F hs => (h0 W b F hs).mono fun e W' h => by unfold ApplyPost at h; rw [b0, s0] at h; exact h
  have H1 : Hid (∀ W b F, StAt W b F ⟨0, [], 0, [], 0, [⟨1, 5, 8⟩], 1, ans0, ans0, ans0⟩ → Calls Try.prog 12 #[.pointer (some ⟨b, 0, none⟩), nagg (nt 7 1 ⟨0, 0, 0⟩ ⟨0, 0, []⟩)] W fun e W' => ∃ F', e = .returned (.int .i64 0) ∧ StAt W' b F' ⟨0, [], 0, [], 0, [], 1, ans0, ans0, ans0⟩ ∧ Grows W F F' ∧ Kept F W W') :=
    Lib.hid fun W b F hs => (h1 W b F hs).mono fun e W' h => by unfold ApplyPost at h; rw [b1, s1] at h; exact h
  have H2 : Hid (∀ W b F, StAt W b F ⟨0, [], 0, [], 0, [], 1, ans0, ans0, ans0⟩ → Calls Try.prog 12 #[.pointer (some ⟨b, 0, none⟩), nagg (nt 2 0 ⟨0, 0, 0⟩ ⟨0, 1, []⟩)] W fun e W' => e = .returned (.int .i64 11) ∧ Kept F W W') :=
    Lib.hid fun W b F hs => (h2 W b F hs).mono fun e W' h => by obtain ⟨F', h1, _, _, h4⟩ := h; rw [b2] at h1; exact ⟨h1, h4⟩
  clear b0 b1 b2 s0 s1 h0 h1 h2
  simp only [nt, ncell, ans0, List.length_nil] at H0 H1 H2
  go_enter Try.func7, Try.ntmps7
  go_wp2_with fail
  refine (new_at _).mono ?_
  rintro e w1 ⟨rfl, hs1, hk1⟩
  have HS1 := Lib.hid hs1; have HK1 := Lib.hid hk1; clear hs1 hk1
  go_wp2_with fail
  refine (H0.out _ _ _ HS1.out).mono ?_
  rintro e w2 ⟨F2, rfl, hs2, hg2, hk2⟩
  have HS2 := Lib.hid hs2; have HK2 := Lib.hid (And.intro hg2 hk2); clear hs2 hg2 hk2
  go_wp2_with fail
  refine (H1.out _ _ _ HS2.out).mono ?_
  rintro e w3 ⟨F3, rfl, hs3, hg3, hk3⟩
  have HS3 := Lib.hid hs3; have HK3 := Lib.hid (And.intro hg3 hk3); clear hs3 hg3 hk3
  go_wp2_with fail
  refine (pins_at HS3.out ⟨by decide, by decide, by decide⟩).mono ?_
  rintro e w4 ⟨A4, c4, rfl, hn4, hk4⟩
  have HS4 := Lib.hid (HS3.out.still hk4); have HK4 := Lib.hid hk4; clear hk4 hn4
  simp only [List.length_nil]
  go_wp2_with fail
  refine (top_at HS4.out).mono ?_
  rintro e w5 ⟨rfl, hk5⟩
  have HS5 := Lib.hid (HS4.out.still hk5); have HK5 := Lib.hid hk5; clear hk5
  go_wp2_with fail
  refine (H2.out _ _ _ HS5.out).mono ?_
  rintro e w6 ⟨rfl, hk6⟩
  have HK6 := Lib.hid hk6; clear hk6
  go_wp2
  go_ret
  refine ⟨rfl, ?_⟩
  have hF1 : ∀ k, (fun k => k = w.heap.size) k → w.heap.size ≤ k := fun k h => by omega
  have hF2 := HK2.out.1.above hF1 HK1.out.size
  have q2 : Kept NoF w w2 := HK1.out.trans HK2.out.2 (fun k h => .inr (hF1 k h))
  have hF3 := HK3.out.1.above hF2 q2.size
  have q3 : Kept NoF w w3 := q2.trans HK3.out.2 (fun k h => .inr (hF2 k h))
  have q5 := (q3.then HK4.out).then HK5.out
  exact q5.trans HK6.out (fun k h => .inr (hF3 k h))
end Mst
end Go.Proofs.Ytolipnnjeehnfaa
