/- mstate's member and own. -/
import Derived.Test.YtolipnnjeehnfaaMst6
set_option linter.unusedSimpArgs false
set_option linter.unusedVariables false
namespace Go.Proofs.Ytolipnnjeehnfaa
open Go.RowKit
set_option maxRecDepth 100000
namespace Mst
open Plan Vn
theorem member1_any (w : World) (x : Mem) (b : Nat) (id : Int) (hb : Has w b 3 #[.int .i64 id]) :
    Calls Try.prog 73 #[magg x, .pointer (some ⟨b, 0, none⟩)] w fun e w' => e = .returned (.bool (decide (x.1 = id))) ∧ Kept NoF w w' := by
  have c0 := (hb.alloc (.cells #[.int .i64 x.1, .int .i64 x.2] 86)).cell 0
  simp only [List.getElem?_toArray, List.getElem?_cons_zero, List.getElem?_cons_succ] at c0
  clear hb
  go_enter Try.func73, Try.ntmps73
  go_wp2
  go_ret
  exact ⟨rfl, by (repeat' (first | with_reducible exact Kept.refl _ _ | with_reducible refine Kept.put ?_ ?_ | with_reducible refine Kept.drewN ?_ _ | with_reducible refine Kept.drew ?_ | with_reducible refine Kept.alloc ?_ _ | (fail) | (right; simp; done)))⟩
theorem member_any (w : World) (ep fl : Int) (A : Option Addr) (c : Nat) (l : List Mem) (id : Int) (hl : Src w 2 A l.length (mcells l)) (hlen : l.length ≤ 1000000) :
    Calls Try.prog 50 #[cagg ep A l.length c fl, .int .i64 id] w fun e w' => e = .returned (.bool (anyId l id)) ∧ Kept NoF w w' := by
  have h := fun W b (hW : Kept NoF w W) (hb : Has W b 3 #[.int .i64 id]) => hasMem_any W A c l 73 (.pointer (some ⟨b, 0, none⟩)) (fun x => decide (x.1 = id)) (fun args W => enters Try.func73 (by kernel_rfl) rfl args W) (hl.kept hW (fun _ _ z => z)) hlen
    (fun W2 x hW2 _ => member1_any W2 x b id (hb.kept hW2 (fun z => z)))
  have hr : (l.any fun x => decide (x.1 = id)) = anyId l id := rfl
  rw [hr] at h
  obtain ⟨r, hr⟩ : ∃ r, anyId l id = r := ⟨_, rfl⟩
  rw [hr] at h ⊢
  have H := Lib.hid h; clear h hr hl
  go_enter Try.func50, Try.ntmps50
  go_wp2_with fail
  refine (H.out _ (w.heap.size + 1) (by (repeat' (first | with_reducible exact Kept.refl _ _ | with_reducible refine Kept.put ?_ ?_ | with_reducible refine Kept.drewN ?_ _ | with_reducible refine Kept.drew ?_ | with_reducible refine Kept.alloc ?_ _ | (fail) | (right; simp; done)))) (Has.new_at _ _ _ (by simp))).mono ?_
  rintro e w2 ⟨rfl, hk⟩
  have hk2 := Kept.then (F := NoF) (a := w) (by (repeat' (first | with_reducible exact Kept.refl _ _ | with_reducible refine Kept.put ?_ ?_ | with_reducible refine Kept.drewN ?_ _ | with_reducible refine Kept.drew ?_ | with_reducible refine Kept.alloc ?_ _ | (fail) | (right; simp; done)))) hk
  have HK := Lib.hid hk2; clear hk hk2
  go_wp2
  go_ret
  exact ⟨rfl, HK.out⟩
def OwnPost (w : World) (ep fl : Int) (l : List Mem) (e : Ending) (w' : World) : Prop :=
  ∃ A c, e = .returned (cagg ep A l.length c fl) ∧ NewSl 86 2 w.heap.size w' A l.length c (mcells l) ∧ Kept NoF w w'
set_option maxHeartbeats 2000000 in
theorem own_any (w : World) (ep fl : Int) (A : Option Addr) (c : Nat) (l : List Mem) (hl : Src w 2 A l.length (mcells l)) (hlen : l.length ≤ 1000000) :
    Calls Try.prog 22 #[cagg ep A l.length c fl] w (OwnPost w ep fl l) := by
  have h := fun W (hW : Kept NoF w W) => cloneMem_any W A c l (hl.kept hW (fun _ _ z => z)) hlen
  have hP : ∀ w' A c, NewSl 86 2 w.heap.size w' A l.length c (mcells l) → Kept NoF w w' → OwnPost w ep fl l (.returned (cagg ep A l.length c fl)) w' := fun w' A c h1 h2 => ⟨A, c, rfl, h1, h2⟩
  have H := Lib.hid h; have HP := Lib.hid hP; clear h hl hP
  go_enter Try.func22, Try.ntmps22
  go_wp2_with fail
  refine (H.out _ (by (repeat' (first | with_reducible exact Kept.refl _ _ | with_reducible refine Kept.put ?_ ?_ | with_reducible refine Kept.drewN ?_ _ | with_reducible refine Kept.drew ?_ | with_reducible refine Kept.alloc ?_ _ | (fail) | (right; simp; done))))).mono ?_
  rintro e w2 ⟨A1, c1, rfl, hn, hk⟩
  have hb1 := ((Has.new w 31 #[.int .i64 ep, .slice A l.length c, .int .u64 fl]).alloc (.cells #[.int .i64 0, .slice none 0 0, .int .u64 0] 31)).kept hk (fun z => z)
  have hb2 := (Has.new_at (w.alloc (.cells #[.int .i64 ep, .slice A l.length c, .int .u64 fl] 31)) 31 #[.int .i64 0, .slice none 0 0, .int .u64 0] (g := w.heap.size + 1) (by simp)).kept hk (fun z => z)
  have hk2 := Kept.then (F := NoF) (a := w) (by (repeat' (first | with_reducible exact Kept.refl _ _ | with_reducible refine Kept.put ?_ ?_ | with_reducible refine Kept.drewN ?_ _ | with_reducible refine Kept.drew ?_ | with_reducible refine Kept.alloc ?_ _ | (fail) | (right; simp; done)))) hk
  have c0 := hb1.cell 0
  have c1' := hb1.cell 1
  have c2 := hb1.cell 2
  have f0 := hb1.frozen 1
  have d0 := hb2.cell 0
  have d1 := hb2.cell 1
  have d2 := hb2.cell 2
  have g0 := hb2.frozen 0
  have g1 := hb2.frozen 1
  have g2 := hb2.frozen 2
  simp only [List.getElem?_toArray, List.getElem?_cons_zero, List.getElem?_cons_succ] at c0 c1' c2 d0 d1 d2
  have HK := Lib.hid hk2; have HN := Lib.hid hn
  have HB := Lib.hid (And.intro hb1 hb2)
  clear hk hk2 hn hb1 hb2
  go_wp2
  have hfin := (((HB.out.2.past (b := w.heap.size) (i := 1) (u := Value.slice A1 l.length c1) (by omega)).put 0 (Value.int .i64 ep)).put 1 (Value.slice A1 l.length c1)).put 2 (Value.int .u64 fl)
  refine bodyPost_ret (results_cell_row rfl _ _ (w.heap.size + 1) 31 _ (0, 0) _ rfl hfin Try.underlying31 rfl (by kernel_rfl)) rfl ?_
  have hk9 : ∀ W (j i : Nat) u, Kept NoF w W → Kept NoF w (W.setCell ⟨w.heap.size + j, i, none⟩ u) := fun W j i u hW => hW.put (.inr (by omega))
  refine HP.out _ _ _ ⟨?_, fun g hg => by have h1 := HN.out.2 g hg; have h2 := HK.out.size; simp only [size_alloc] at h1; omega⟩ (hk9 _ 1 _ _ (hk9 _ 1 _ _ (hk9 _ 1 _ _ (hk9 _ 0 _ _ HK.out))))
  refine own_kept (F := fun k => k = w.heap.size ∨ k = w.heap.size + 1) HN.out.1 ((((((Kept.refl _ _).put (.inl (.inl rfl))).put (.inl (.inr rfl))).put (.inl (.inr rfl)))).put (.inl (.inr rfl))) (fun g hg hF => ?_)
  have h1 := HN.out.2 g hg
  simp only [size_alloc] at h1
  omega
end Mst
end Go.Proofs.Ytolipnnjeehnfaa
