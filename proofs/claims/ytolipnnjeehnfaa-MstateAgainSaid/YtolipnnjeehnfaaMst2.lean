/- note's answers; conf's and item's Check. -/
import Derived.Test.YtolipnnjeehnfaaMst1
import Derived.Test.YtolipnnjeehnfaaOps1
set_option linter.unusedSimpArgs false
set_option linter.unusedVariables false
namespace Go.Proofs.Ytolipnnjeehnfaa
open Go.RowKit
set_option maxRecDepth 100000
namespace Mst
open Plan
theorem two_ints {w : World} (a b : Int) : Src (w.alloc (.cells #[.int .i64 a, .int .i64 b] 3)) 1 (some ⟨w.heap.size, 0, none⟩) 2 (ints [a, b]) := by
  have h := Has.new w 3 #[.int .i64 a, .int .i64 b]
  exact Src.of_has h rfl
theorem one_int {w : World} (a : Int) : Src (w.alloc (.cells #[.int .i64 a] 3)) 1 (some ⟨w.heap.size, 0, none⟩) 1 (ints [a]) := by
  have h := Has.new w 3 #[.int .i64 a]
  exact Src.of_has h rfl
set_option maxHeartbeats 2000000 in
theorem said_any (w : World) (a : AnsR) : Calls Try.prog 48 #[ansagg a] w fun e w' => e = .returned (.int .i64 (saidE a)) ∧ Kept NoF w w' := by
  obtain ⟨cl, req, e, pin⟩ := a
  have hrg := range0_any (World.alloc (w.alloc (.cells #[.int .i64 cl, .int .i64 req, .int .i64 e, .int .i64 pin] 46)) (.cells #[.int .i64 req, .int .i64 pin] 3)) (some ⟨w.heap.size + 1, 0, none⟩) 2 [req, pin] (by have h := two_ints (w := w.alloc (.cells #[.int .i64 cl, .int .i64 req, .int .i64 e, .int .i64 pin] 46)) req pin; rwa [size_alloc] at h) (by simp)
  obtain ⟨r, hr⟩ : ∃ r, saidE ⟨cl, req, e, pin⟩ = r := ⟨_, rfl⟩
  rw [hr]
  unfold saidE at hr
  dsimp only at hr ⊢
  obtain ⟨g, hg⟩ : ∃ g, rngL [req, pin] = g := ⟨_, rfl⟩
  rw [hg] at hr hrg
  simp only [List.length_cons, List.length_nil] at hrg
  have HG := Lib.hid hrg; clear hrg hg
  have HR := Lib.hid hr; clear hr
  by_cases h1 : cl < 0
  · go_enter Try.func48, Try.ntmps48
    go_wp2
    go_ret
    exact ⟨by rw [← HR.out, if_pos (.inl h1)]; rfl, by (repeat' (first | with_reducible exact Kept.refl _ _ | with_reducible refine Kept.put ?_ ?_ | with_reducible refine Kept.drewN ?_ _ | with_reducible refine Kept.drew ?_ | with_reducible refine Kept.alloc ?_ _ | (fail) | (right; simp; done)))⟩
  by_cases h2 : 3 ≤ cl
  · go_enter Try.func48, Try.ntmps48
    go_wp2
    go_ret
    exact ⟨by rw [← HR.out, if_pos (.inr h2)]; rfl, by (repeat' (first | with_reducible exact Kept.refl _ _ | with_reducible refine Kept.put ?_ ?_ | with_reducible refine Kept.drewN ?_ _ | with_reducible refine Kept.drew ?_ | with_reducible refine Kept.alloc ?_ _ | (fail) | (right; simp; done)))⟩
  have hr2 := HR.out
  rw [if_neg (by omega)] at hr2
  clear HR
  by_cases hg0 : g = 0
  rotate_left
  · have hg1 : (g != 0) = true := by simpa using hg0
    rw [if_pos hg0] at hr2
    subst hr2
    clear hg0
    go_enter Try.func48, Try.ntmps48
    go_wp2_with fail
    refine HG.out.mono ?_
    rintro e w2 ⟨rfl, hk⟩
    have hk2 := Kept.then (F := NoF) (a := w) (by (repeat' (first | with_reducible exact Kept.refl _ _ | with_reducible refine Kept.put ?_ ?_ | with_reducible refine Kept.drewN ?_ _ | with_reducible refine Kept.drew ?_ | with_reducible refine Kept.alloc ?_ _ | (fail) | (right; simp; done)))) hk
    have HK := Lib.hid hk2; clear hk hk2
    go_wp2
    go_ret
    exact ⟨rfl, HK.out⟩
  subst hg0
  rw [if_neg (by simp)] at hr2
  have HR := Lib.hid hr2; clear hr2
  by_cases h3 : e < 0
  · go_enter Try.func48, Try.ntmps48
    go_wp2_with fail
    refine HG.out.mono ?_
    rintro e w2 ⟨rfl, hk⟩
    have hk2 := Kept.then (F := NoF) (a := w) (by (repeat' (first | with_reducible exact Kept.refl _ _ | with_reducible refine Kept.put ?_ ?_ | with_reducible refine Kept.drewN ?_ _ | with_reducible refine Kept.drew ?_ | with_reducible refine Kept.alloc ?_ _ | (fail) | (right; simp; done)))) hk
    have hx := (((Has.new w 46 #[.int .i64 cl, .int .i64 req, .int .i64 e, .int .i64 pin]).alloc (.cells #[.int .i64 req, .int .i64 pin] 3)).kept hk (fun z => z)).cell 2
    simp only [List.getElem?_toArray, List.getElem?_cons_zero, List.getElem?_cons_succ] at hx
    have HK := Lib.hid hk2; clear hk hk2
    go_wp2
    go_ret
    exact ⟨by rw [← HR.out, if_pos (.inl h3)]; rfl, HK.out⟩
  by_cases h4 : 21 < e
  · go_enter Try.func48, Try.ntmps48
    go_wp2_with fail
    refine HG.out.mono ?_
    rintro e w2 ⟨rfl, hk⟩
    have hk2 := Kept.then (F := NoF) (a := w) (by (repeat' (first | with_reducible exact Kept.refl _ _ | with_reducible refine Kept.put ?_ ?_ | with_reducible refine Kept.drewN ?_ _ | with_reducible refine Kept.drew ?_ | with_reducible refine Kept.alloc ?_ _ | (fail) | (right; simp; done)))) hk
    have hx := (((Has.new w 46 #[.int .i64 cl, .int .i64 req, .int .i64 e, .int .i64 pin]).alloc (.cells #[.int .i64 req, .int .i64 pin] 3)).kept hk (fun z => z)).cell 2
    simp only [List.getElem?_toArray, List.getElem?_cons_zero, List.getElem?_cons_succ] at hx
    have HK := Lib.hid hk2; clear hk hk2
    go_wp2
    go_ret
    exact ⟨by rw [← HR.out, if_pos (.inr h4)]; rfl, HK.out⟩
  go_enter Try.func48, Try.ntmps48
  go_wp2_with fail
  refine HG.out.mono ?_
  rintro e w2 ⟨rfl, hk⟩
  have hk2 := Kept.then (F := NoF) (a := w) (by (repeat' (first | with_reducible exact Kept.refl _ _ | with_reducible refine Kept.put ?_ ?_ | with_reducible refine Kept.drewN ?_ _ | with_reducible refine Kept.drew ?_ | with_reducible refine Kept.alloc ?_ _ | (fail) | (right; simp; done)))) hk
  have hx := (((Has.new w 46 #[.int .i64 cl, .int .i64 req, .int .i64 e, .int .i64 pin]).alloc (.cells #[.int .i64 req, .int .i64 pin] 3)).kept hk (fun z => z)).cell 2
  simp only [List.getElem?_toArray, List.getElem?_cons_zero, List.getElem?_cons_succ] at hx
  have HK := Lib.hid hk2; clear hk hk2
  go_wp2
  go_ret
  exact ⟨by rw [← HR.out, if_neg (by omega)]; rfl, HK.out⟩
theorem one1_any (w : World) (x m : Mem) (b : Nat) (hb : Has w b 86 #[.int .i64 m.1, .int .i64 m.2]) :
    Calls Try.prog 80 #[magg x, .pointer (some ⟨b, 0, none⟩)] w fun e w' => e = .returned (.bool (decide (x.1 = m.1))) ∧ Kept NoF w w' := by
  have c0 := (hb.alloc (.cells #[.int .i64 x.1, .int .i64 x.2] 86)).cell 0
  simp only [List.getElem?_toArray, List.getElem?_cons_zero, List.getElem?_cons_succ] at c0
  clear hb
  go_enter Try.func80, Try.ntmps80
  go_wp2
  go_ret
  exact ⟨rfl, by (repeat' (first | with_reducible exact Kept.refl _ _ | with_reducible refine Kept.put ?_ ?_ | with_reducible refine Kept.drewN ?_ _ | with_reducible refine Kept.drew ?_ | with_reducible refine Kept.alloc ?_ _ | (fail) | (right; simp; done)))⟩
set_option maxHeartbeats 2000000 in
theorem one_any (w : World) (m : Mem) (A : Option Addr) (c : Nat) (l : List Mem) (hl : Src w 2 A l.length (mcells l)) (hlen : l.length ≤ 1000000) :
    Calls Try.prog 67 #[magg m, .slice A l.length c] w fun e w' => e = .returned (.int .i64 (oneE m l)) ∧ Kept NoF w w' := by
  have hk1 : Kept NoF w (w.alloc (.cells #[.int .i64 m.1, .int .i64 m.2] 86)) := by (repeat' (first | with_reducible exact Kept.refl _ _ | with_reducible refine Kept.put ?_ ?_ | with_reducible refine Kept.drewN ?_ _ | with_reducible refine Kept.drew ?_ | with_reducible refine Kept.alloc ?_ _ | (fail) | (right; simp; done)))
  have hb := Has.new w 86 #[.int .i64 m.1, .int .i64 m.2]
  have hh := hasMem_any _ A c l 80 (.pointer (some ⟨w.heap.size, 0, none⟩)) (fun x => decide (x.1 = m.1)) (fun args W => enters Try.func80 (by kernel_rfl) rfl args W) (hl.kept hk1 (fun _ _ z => z)) hlen
    (fun W x hW _ => one1_any W x m w.heap.size (hb.kept hW (fun z => z)))
  obtain ⟨r, hr⟩ : ∃ r, oneE m l = r := ⟨_, rfl⟩
  rw [hr]
  unfold oneE at hr
  obtain ⟨t, ht⟩ : ∃ t, (l.any fun x => decide (x.1 = m.1)) = t := ⟨_, rfl⟩
  rw [ht] at hr hh
  clear ht hl hb hk1
  obtain ⟨m1, m2⟩ := m
  dsimp only at *
  have HH := Lib.hid hh; clear hh
  have HR := Lib.hid hr; clear hr
  by_cases h1 : m1 < 0
  · go_enter Try.func67, Try.ntmps67
    go_wp2
    go_ret
    exact ⟨by rw [← HR.out, if_pos (.inl h1)]; rfl, by (repeat' (first | with_reducible exact Kept.refl _ _ | with_reducible refine Kept.put ?_ ?_ | with_reducible refine Kept.drewN ?_ _ | with_reducible refine Kept.drew ?_ | with_reducible refine Kept.alloc ?_ _ | (fail) | (right; simp; done)))⟩
  by_cases h2 : 4 ≤ m1
  · go_enter Try.func67, Try.ntmps67
    go_wp2
    go_ret
    exact ⟨by rw [← HR.out, if_pos (.inr h2)]; rfl, by (repeat' (first | with_reducible exact Kept.refl _ _ | with_reducible refine Kept.put ?_ ?_ | with_reducible refine Kept.drewN ?_ _ | with_reducible refine Kept.drew ?_ | with_reducible refine Kept.alloc ?_ _ | (fail) | (right; simp; done)))⟩
  have hr2 := HR.out
  rw [if_neg (by omega)] at hr2
  clear HR
  have HR := Lib.hid hr2; clear hr2
  by_cases h3 : m2 < 1
  · go_enter Try.func67, Try.ntmps67
    go_wp2
    go_ret
    exact ⟨by rw [← HR.out, if_pos (.inl h3)]; rfl, by (repeat' (first | with_reducible exact Kept.refl _ _ | with_reducible refine Kept.put ?_ ?_ | with_reducible refine Kept.drewN ?_ _ | with_reducible refine Kept.drew ?_ | with_reducible refine Kept.alloc ?_ _ | (fail) | (right; simp; done)))⟩
  by_cases h4 : 1073741824 < m2
  · go_enter Try.func67, Try.ntmps67
    go_wp2
    go_ret
    exact ⟨by rw [← HR.out, if_pos (.inr h4)]; rfl, by (repeat' (first | with_reducible exact Kept.refl _ _ | with_reducible refine Kept.put ?_ ?_ | with_reducible refine Kept.drewN ?_ _ | with_reducible refine Kept.drew ?_ | with_reducible refine Kept.alloc ?_ _ | (fail) | (right; simp; done)))⟩
  have hr2 := HR.out
  rw [if_neg (by omega)] at hr2
  clear HR
  have HR := Lib.hid hr2; clear hr2
  go_enter Try.func67, Try.ntmps67
  go_wp2_with fail
  refine HH.out.mono ?_
  rintro e w2 ⟨rfl, hk⟩
  have hk2 := Kept.then (F := NoF) (a := w) (by (repeat' (first | with_reducible exact Kept.refl _ _ | with_reducible refine Kept.put ?_ ?_ | with_reducible refine Kept.drewN ?_ _ | with_reducible refine Kept.drew ?_ | with_reducible refine Kept.alloc ?_ _ | (fail) | (right; simp; done)))) hk
  have HK := Lib.hid hk2; clear hk hk2
  cases t
  · have hr3 := HR.out
    rw [if_neg (by simp)] at hr3
    subst hr3
    clear HR
    go_wp2
    go_ret
    exact ⟨rfl, HK.out⟩
  · have hr3 := HR.out
    rw [if_pos rfl] at hr3
    subst hr3
    clear HR
    go_wp2
    go_ret
    exact ⟨rfl, HK.out⟩
theorem icheck_any (w : World) (b : Ops.Batch) (A : Option Addr) (c : Nat) (ts : Int) (hs : Src w 3 A b.ops.length (Ops.cells b.ops)) :
    Calls Try.prog 47 #[.agg #[.int .i64 b.cl, .int .i64 b.req, .slice A b.ops.length c, .int .u64 ts]] w fun e w' => e = .returned (.int .i64 (Ops.chk b)) ∧ Kept NoF w w' := by
  have h := fun W (hW : Kept NoF w W) => Ops.ocheck_any W b A c (hs.kept hW (fun _ _ z => z))
  obtain ⟨cl, req, ops⟩ := b
  dsimp only [Ops.bagg] at *
  obtain ⟨r, hr⟩ : ∃ r, Ops.chk ⟨cl, req, ops⟩ = r := ⟨_, rfl⟩
  rw [hr] at h ⊢
  have H := Lib.hid h; clear h hr hs
  go_enter Try.func47, Try.ntmps47
  go_wp2_with fail
  refine (H.out _ (by (repeat' (first | with_reducible exact Kept.refl _ _ | with_reducible refine Kept.put ?_ ?_ | with_reducible refine Kept.drewN ?_ _ | with_reducible refine Kept.drew ?_ | with_reducible refine Kept.alloc ?_ _ | (fail) | (right; simp; done))))).mono ?_
  rintro e w2 ⟨rfl, hk⟩
  have hk2 := Kept.then (F := NoF) (a := w) (by (repeat' (first | with_reducible exact Kept.refl _ _ | with_reducible refine Kept.put ?_ ?_ | with_reducible refine Kept.drewN ?_ _ | with_reducible refine Kept.drew ?_ | with_reducible refine Kept.alloc ?_ _ | (fail) | (right; simp; done)))) hk
  have HK := Lib.hid hk2; clear hk hk2
  go_wp2
  go_ret
  exact ⟨rfl, HK.out⟩
end Mst
end Go.Proofs.Ytolipnnjeehnfaa
