/- Conf and Said of a state that nobody made. -/
import Derived.Test.YtolipnnjeehnfaaMst11
set_option linter.unusedSimpArgs false
set_option linter.unusedVariables false
namespace Go.Proofs.Ytolipnnjeehnfaa
open Go.RowKit
set_option maxRecDepth 100000
namespace Mst
open Plan Vn
theorem getConf_nil (w : World) : Calls Try.prog 10 #[.pointer none] w fun e w' => e = .returned (.agg #[.int .i64 0, .slice none 0 0, .int .u64 0]) ∧ Kept NoF w w' := by
  have h := fun W (hW : Kept NoF w W) => none_nil W
  have H := Lib.hid h; clear h
  go_enter Try.func10, Try.ntmps10
  go_wp2_with fail
  refine (H.out _ (by (repeat' (first | with_reducible exact Kept.refl _ _ | with_reducible refine Kept.put ?_ ?_ | with_reducible refine Kept.drewN ?_ _ | with_reducible refine Kept.drew ?_ | with_reducible refine Kept.alloc ?_ _ | (fail) | (right; simp; done))))).mono ?_
  rintro e w2 ⟨rfl, hk⟩
  have hb1 := (Has.new w 31 #[.int .i64 0, .slice none 0 0, .int .u64 0]).kept hk (fun z => z)
  have hk2 := Kept.then (F := NoF) (a := w) (by (repeat' (first | with_reducible exact Kept.refl _ _ | with_reducible refine Kept.put ?_ ?_ | with_reducible refine Kept.drewN ?_ _ | with_reducible refine Kept.drew ?_ | with_reducible refine Kept.alloc ?_ _ | (fail) | (right; simp; done)))) hk
  have c0 := hb1.cell 0
  have f0 := hb1.frozen 0
  have c1 := hb1.cell 1
  have f1 := hb1.frozen 1
  have c2 := hb1.cell 2
  have f2 := hb1.frozen 2
  simp only [List.getElem?_toArray, List.getElem?_cons_zero, List.getElem?_cons_succ] at c0 c1 c2
  have HB := Lib.hid hb1; have HK := Lib.hid hk2; clear hk hk2 hb1
  go_wp2
  have hfin := ((HB.out.put 0 (Value.int .i64 0)).put 1 (Value.slice none 0 0)).put 2 (Value.int .u64 0)
  refine bodyPost_ret (results_cell_row rfl _ _ w.heap.size 31 _ (0, 0) _ rfl hfin Try.underlying31 rfl (by kernel_rfl)) rfl ?_
  have hk9 : ∀ W (i : Nat) u, Kept NoF w W → Kept NoF w (W.setCell ⟨w.heap.size, i, none⟩ u) := fun W i u hW => hW.put (.inr (Nat.le_refl _))
  exact ⟨rfl, hk9 _ _ _ (hk9 _ _ _ (hk9 _ _ _ (HK.out)))⟩
theorem getConf_zero (w : World) (b : Nat) (s : StR) (mA : Option Addr) (mc : Nat) (lA : Option Addr) (lc : Nat) (pA : Option Addr) (pc : Nat) (hb : Has w b 62 (scells s mA mc lA lc pA pc false)) : Calls Try.prog 10 #[.pointer (some ⟨b, 0, none⟩)] w fun e w' => e = .returned (.agg #[.int .i64 0, .slice none 0 0, .int .u64 0]) ∧ Kept NoF w w' := by
  have h := fun W (hW : Kept NoF w W) => none_any W b s mA mc lA lc pA pc false (hb.kept hW (fun z => z))
  have H := Lib.hid h; clear h hb
  go_enter Try.func10, Try.ntmps10
  go_wp2_with fail
  refine (H.out _ (by (repeat' (first | with_reducible exact Kept.refl _ _ | with_reducible refine Kept.put ?_ ?_ | with_reducible refine Kept.drewN ?_ _ | with_reducible refine Kept.drew ?_ | with_reducible refine Kept.alloc ?_ _ | (fail) | (right; simp; done))))).mono ?_
  rintro e w2 ⟨rfl, hk⟩
  have hb1 := (Has.new w 31 #[.int .i64 0, .slice none 0 0, .int .u64 0]).kept hk (fun z => z)
  have hk2 := Kept.then (F := NoF) (a := w) (by (repeat' (first | with_reducible exact Kept.refl _ _ | with_reducible refine Kept.put ?_ ?_ | with_reducible refine Kept.drewN ?_ _ | with_reducible refine Kept.drew ?_ | with_reducible refine Kept.alloc ?_ _ | (fail) | (right; simp; done)))) hk
  have c0 := hb1.cell 0
  have f0 := hb1.frozen 0
  have c1 := hb1.cell 1
  have f1 := hb1.frozen 1
  have c2 := hb1.cell 2
  have f2 := hb1.frozen 2
  simp only [List.getElem?_toArray, List.getElem?_cons_zero, List.getElem?_cons_succ] at c0 c1 c2
  have HB := Lib.hid hb1; have HK := Lib.hid hk2; clear hk hk2 hb1
  go_wp2
  have hfin := ((HB.out.put 0 (Value.int .i64 0)).put 1 (Value.slice none 0 0)).put 2 (Value.int .u64 0)
  refine bodyPost_ret (results_cell_row rfl _ _ w.heap.size 31 _ (0, 0) _ rfl hfin Try.underlying31 rfl (by kernel_rfl)) rfl ?_
  have hk9 : ∀ W (i : Nat) u, Kept NoF w W → Kept NoF w (W.setCell ⟨w.heap.size, i, none⟩ u) := fun W i u hW => hW.put (.inr (Nat.le_refl _))
  exact ⟨rfl, hk9 _ _ _ (hk9 _ _ _ (hk9 _ _ _ (HK.out)))⟩
theorem getSaid_nil (w : World) (i : Int) : Calls Try.prog 20 #[.pointer none, .int .i64 i] w fun e w' => e = .returned (.agg #[.int .i64 0, .int .i64 0, .int .i64 0, .int .i64 0]) ∧ Kept NoF w w' := by
  have h := fun W (hW : Kept NoF w W) => none_nil W
  have H := Lib.hid h; clear h
  go_enter Try.func20, Try.ntmps20
  go_wp2_with fail
  refine (H.out _ (by (repeat' (first | with_reducible exact Kept.refl _ _ | with_reducible refine Kept.put ?_ ?_ | with_reducible refine Kept.drewN ?_ _ | with_reducible refine Kept.drew ?_ | with_reducible refine Kept.alloc ?_ _ | (fail) | (right; simp; done))))).mono ?_
  rintro e w2 ⟨rfl, hk⟩
  have hb1 := (Has.new w 46 #[.int .i64 0, .int .i64 0, .int .i64 0, .int .i64 0]).kept hk (fun z => z)
  have hk2 := Kept.then (F := NoF) (a := w) (by (repeat' (first | with_reducible exact Kept.refl _ _ | with_reducible refine Kept.put ?_ ?_ | with_reducible refine Kept.drewN ?_ _ | with_reducible refine Kept.drew ?_ | with_reducible refine Kept.alloc ?_ _ | (fail) | (right; simp; done)))) hk
  have c0 := hb1.cell 0
  have f0 := hb1.frozen 0
  have c1 := hb1.cell 1
  have f1 := hb1.frozen 1
  have c2 := hb1.cell 2
  have f2 := hb1.frozen 2
  have c3 := hb1.cell 3
  have f3 := hb1.frozen 3
  simp only [List.getElem?_toArray, List.getElem?_cons_zero, List.getElem?_cons_succ] at c0 c1 c2 c3
  have HB := Lib.hid hb1; have HK := Lib.hid hk2; clear hk hk2 hb1
  go_wp2
  have hfin := (((HB.out.put 0 (Value.int .i64 0)).put 1 (Value.int .i64 0)).put 2 (Value.int .i64 0)).put 3 (Value.int .i64 0)
  refine bodyPost_ret (results_cell_row rfl _ _ w.heap.size 46 _ (0, 0) _ rfl hfin Try.underlying46 rfl (by kernel_rfl)) rfl ?_
  have hk9 : ∀ W (i : Nat) u, Kept NoF w W → Kept NoF w (W.setCell ⟨w.heap.size, i, none⟩ u) := fun W i u hW => hW.put (.inr (Nat.le_refl _))
  exact ⟨rfl, hk9 _ _ _ (hk9 _ _ _ (hk9 _ _ _ (hk9 _ _ _ (HK.out))))⟩
theorem getSaid_zero (w : World) (i : Int) (b : Nat) (s : StR) (mA : Option Addr) (mc : Nat) (lA : Option Addr) (lc : Nat) (pA : Option Addr) (pc : Nat) (hb : Has w b 62 (scells s mA mc lA lc pA pc false)) : Calls Try.prog 20 #[.pointer (some ⟨b, 0, none⟩), .int .i64 i] w fun e w' => e = .returned (.agg #[.int .i64 0, .int .i64 0, .int .i64 0, .int .i64 0]) ∧ Kept NoF w w' := by
  have h := fun W (hW : Kept NoF w W) => none_any W b s mA mc lA lc pA pc false (hb.kept hW (fun z => z))
  have H := Lib.hid h; clear h hb
  go_enter Try.func20, Try.ntmps20
  go_wp2_with fail
  refine (H.out _ (by (repeat' (first | with_reducible exact Kept.refl _ _ | with_reducible refine Kept.put ?_ ?_ | with_reducible refine Kept.drewN ?_ _ | with_reducible refine Kept.drew ?_ | with_reducible refine Kept.alloc ?_ _ | (fail) | (right; simp; done))))).mono ?_
  rintro e w2 ⟨rfl, hk⟩
  have hb1 := (Has.new w 46 #[.int .i64 0, .int .i64 0, .int .i64 0, .int .i64 0]).kept hk (fun z => z)
  have hk2 := Kept.then (F := NoF) (a := w) (by (repeat' (first | with_reducible exact Kept.refl _ _ | with_reducible refine Kept.put ?_ ?_ | with_reducible refine Kept.drewN ?_ _ | with_reducible refine Kept.drew ?_ | with_reducible refine Kept.alloc ?_ _ | (fail) | (right; simp; done)))) hk
  have c0 := hb1.cell 0
  have f0 := hb1.frozen 0
  have c1 := hb1.cell 1
  have f1 := hb1.frozen 1
  have c2 := hb1.cell 2
  have f2 := hb1.frozen 2
  have c3 := hb1.cell 3
  have f3 := hb1.frozen 3
  simp only [List.getElem?_toArray, List.getElem?_cons_zero, List.getElem?_cons_succ] at c0 c1 c2 c3
  have HB := Lib.hid hb1; have HK := Lib.hid hk2; clear hk hk2 hb1
  go_wp2
  have hfin := (((HB.out.put 0 (Value.int .i64 0)).put 1 (Value.int .i64 0)).put 2 (Value.int .i64 0)).put 3 (Value.int .i64 0)
  refine bodyPost_ret (results_cell_row rfl _ _ w.heap.size 46 _ (0, 0) _ rfl hfin Try.underlying46 rfl (by kernel_rfl)) rfl ?_
  have hk9 : ∀ W (i : Nat) u, Kept NoF w W → Kept NoF w (W.setCell ⟨w.heap.size, i, none⟩ u) := fun W i u hW => hW.put (.inr (Nat.le_refl _))
  exact ⟨rfl, hk9 _ _ _ (hk9 _ _ _ (hk9 _ _ _ (hk9 _ _ _ (HK.out))))⟩
end Mst
end Go.Proofs.Ytolipnnjeehnfaa
