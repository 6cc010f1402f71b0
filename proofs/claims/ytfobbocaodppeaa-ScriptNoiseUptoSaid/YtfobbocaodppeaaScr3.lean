/- catenaref40.Same: are two lists of steps one? -/
import Derived.Test.YtfobbocaodppeaaScr2
import Derived.Test.YtfobbocaodppeaaScrO
set_option linter.unusedSimpArgs false
set_option linter.unusedVariables false
namespace Go.Proofs.Ytfobbocaodppeaa
open Go.RowKit
set_option maxRecDepth 100000
namespace Scr
open Ops Vn
def xs (l : List EvR) : List EvC := l.map fun e => e.x
theorem xs_get {l : List EvR} {i : Nat} {e : EvR} (h : l[i]? = some e) : (xs l)[i]? = some e.x := by unfold xs; simp [h]
theorem xs_len (l : List EvR) : (xs l).length = l.length := by simp [xs]
def sameS (a b : List EvR) : Bool := decide (xs a = xs b)
theorem sameS_no {a b : List EvR} {i : Nat} {p q : EvR} (hp : a[i]? = some p) (hq : b[i]? = some q) (hne : p.x ≠ q.x) : sameS a b = false := by
  refine decide_eq_false fun e => hne ?_
  have h1 := xs_get hp
  rw [e, xs_get hq] at h1
  injection h1 with h1
  exact h1.symm
set_option maxHeartbeats 8000000 in
theorem rsame_any (w : World) (A B : Option Addr) (c d : Nat) (a b : List EvR) (ha : Src w 10 A a.length (vcells a)) (hb : Src w 10 B b.length (vcells b)) (hak : SOk w a) (hbk : SOk w b) (hlen : a.length ≤ 1000000)
    (ho : ∀ e ∈ a, e.x.ops.length ≤ 1000000) :
    Calls Try.prog 10 #[.slice A a.length c, .slice B b.length d] w fun e w' => e = .returned (.bool (sameS a b)) ∧ Kept NoF w w' := by
  have HA := Lib.hid ha; clear ha
  have HB := Lib.hid hb; clear hb
  have HAK := Lib.hid hak; clear hak
  have HBK := Lib.hid hbk; clear hbk
  have HOL := Lib.hid ho; clear ho
  by_cases hl : a.length = b.length
  rotate_left
  · have hd : sameS a b = false := decide_eq_false fun e => hl (by rw [← xs_len a, ← xs_len b, e])
    rw [hd]
    have hne : ((a.length : Int) != (b.length : Int)) = true := by simpa using fun e => hl (by omega)
    clear hd HA HB
    go_enter Try.func10, Try.ntmps10
    go_wp2
    go_ret
    exact ⟨rfl, Kept.refl _ _⟩
  rw [← hl] at HB ⊢
  have HL := Lib.hid hl; clear hl
  obtain ⟨n, hn⟩ : ∃ n, a.length = n := ⟨_, rfl⟩
  rw [hn] at HA HB hlen ⊢
  have HN := Lib.hid hn; clear hn
  obtain ⟨r, hr⟩ : ∃ r, sameS a b = r := ⟨_, rfl⟩
  rw [hr]
  have HR := Lib.hid hr; clear hr
  go_enter Try.func10, Try.ntmps10
  go_wp2_with fail
  go_loopw [5] (fun v5 wr => ∃ i : Nat, i ≤ n ∧ v5 = .int .i64 i ∧ (xs a).take i = (xs b).take i ∧ Kept NoF w wr) (fun v5 _ => n - (intOf v5).toNat)
  case atStart => exact ⟨0, Nat.zero_le _, rfl, rfl, Kept.refl _ _⟩
  case round =>
    obtain ⟨i, hi, rfl, ht, hk⟩ := hrel
    have HT := Lib.hid ht; clear ht
    have HK := Lib.hid hk; clear hk
    by_cases hil : i < n
    rotate_left
    · obtain rfl : i = n := by omega
      have hrt : r = true := by
        rw [← HR.out]
        refine decide_eq_true ?_
        have h1 := HT.out
        rwa [List.take_of_length_le (by rw [xs_len, HN.out]; exact Nat.le_refl _), List.take_of_length_le (by rw [xs_len, ← HL.out, HN.out]; exact Nat.le_refl _)] at h1
      have HRT := Lib.hid hrt; clear hrt
      go_wp2
      go_ret
      exact ⟨by rw [HRT.out]; rfl, HK.out⟩
    obtain ⟨p, hp⟩ : ∃ p, a[i]? = some p := ⟨_, List.getElem?_eq_getElem (by have := HN.out; omega)⟩
    obtain ⟨q, hq⟩ : ∃ q, b[i]? = some q := ⟨_, List.getElem?_eq_getElem (by have := HN.out; have := HL.out; omega)⟩
    obtain ⟨a1, rfl, hl1, x0, x1, x2, x3, x4, x5, x6, x7, x8, x9⟩ := ev_cells (HA.out.kept HK.out (fun _ _ z => z)) (by omega) i p hp
    obtain ⟨a2, rfl, hl2, y0, y1, y2, y3, y4, y5, y6, y7, y8, y9⟩ := ev_cells (HB.out.kept HK.out (fun _ _ z => z)) (by omega) i q hq
    have hno : p.x ≠ q.x → r = false := fun hne => by rw [← HR.out]; exact sameS_no hp hq hne
    have HNO := Lib.hid hno; clear hno
    have hpo := (HAK.out.kept HK.out) p (List.mem_of_getElem? hp)
    have hqo := (HBK.out.kept HK.out) q (List.mem_of_getElem? hq)
    have hpl := HOL.out p (List.mem_of_getElem? hp)
    have HPO := Lib.hid hpo; clear hpo
    have HQO := Lib.hid hqo; clear hqo
    have hnx : p.x = q.x → (xs a).take (i + 1) = (xs b).take (i + 1) := fun e => eq_take_succ HT.out (xs_get hp) (by rw [e]; exact xs_get hq)
    have HNX := Lib.hid hnx; clear hnx hp hq
    obtain ⟨⟨p1, p2, p3, p4, p5, p6, p7, p8, p9, pl⟩, pA, pc⟩ := p
    obtain ⟨⟨q1, q2, q3, q4, q5, q6, q7, q8, q9, ql⟩, qA, qc⟩ := q
    dsimp only at x0 x1 x2 x3 x4 x5 x6 x7 x8 x9 y0 y1 y2 y3 y4 y5 y6 y7 y8 y9 hpl
    have hb1 : (a1.add (i * 10)).block < wr.heap.size := by rw [block_add]; exact hl1
    have hb2 : (a2.add (i * 10)).block < wr.heap.size := by rw [block_add]; exact hl2
    have Y : ∀ (j : Nat) (u : Value), wr.cell? ⟨(a2.add (i * 10)).block, j, none⟩ = some u → ∀ o, (wr.alloc o).cell? ⟨(a2.add (i * 10)).block, j, none⟩ = some u := fun j u h o => cell_al (p := ⟨(a2.add (i * 10)).block, j, none⟩) hb2 h o
    have X2 : ∀ (p : Addr) (u : Value), p.block < wr.heap.size → wr.cell? p = some u → ∀ o o', ((wr.alloc o).alloc o').cell? p = some u := fun p u hb h o o' => cell_al (by simp; omega) (cell_al hb h o) o'
    have Y3 := Y _ _ y3
    have Y4 := Y _ _ y4
    have Y5 := Y _ _ y5
    have Y6 := Y _ _ y6
    have Y7 := Y _ _ y7
    have Y8 := Y _ _ y8
    have Y9 := Y _ _ y9
    have XX0 := X2 (a1.add (i * 10)) _ hb1 x0
    have XX1 := X2 ⟨(a1.add (i * 10)).block, (a1.add (i * 10)).off + 1, none⟩ _ hb1 x1
    have XX2 := X2 ⟨(a1.add (i * 10)).block, (a1.add (i * 10)).off + 2, none⟩ _ hb1 x2
    have YY0 := X2 (a2.add (i * 10)) _ hb2 y0
    have YY1 := X2 ⟨(a2.add (i * 10)).block, (a2.add (i * 10)).off + 1, none⟩ _ hb2 y1
    have YY2 := X2 ⟨(a2.add (i * 10)).block, (a2.add (i * 10)).off + 2, none⟩ _ hb2 y2
    clear Y X2 hb1 hb2
    obtain ⟨wo, hwo⟩ : ∃ wo : World, wo = wr := ⟨_, rfl⟩
    subst hwo
    have HX := Lib.hid (Has.new wo 39 #[.int .i64 p4, .int .i64 p5, .string p6, .string p7, .int .u64 p8, .int .i64 p9, .slice pA pl.length pc])
    have HY := Lib.hid (Has.new (wo.alloc (.cells #[.int .i64 p4, .int .i64 p5, .string p6, .string p7, .int .u64 p8, .int .i64 p9, .slice pA pl.length pc] 39)) 39 #[.int .i64 q4, .int .i64 q5, .string q6, .string q7, .int .u64 q8, .int .i64 q9, .slice qA ql.length qc])
    go_wp2_with fail
    try dsimp only [List.append]
    refine wp_region_quiet_lit (by kernel_rfl) (by kernel_rfl) ?_
    by_cases g : p1 = q1
    rotate_left
    · as_aux_lemma =>
        have hrf : r = false := HNO.out fun e => g (congrArg EvC.k e)
        subst hrf
        have h2 : (p1 != q1) = true := by simpa using g
        clear g HNO HNX HPO HQO hpl HX HY
        repeat (go_big_quiet_step (fail))
        refine wpQuiet_nil ?_
        intro _ hw'
        obtain ⟨nq, hw2⟩ := hw'
        subst hw2
        go_wp2
        go_ret
        exact ⟨rfl, by (repeat' (first | with_reducible exact Kept.refl _ _ | with_reducible refine Kept.put ?_ ?_ | with_reducible refine Kept.drewN ?_ _ | with_reducible refine Kept.drew ?_ | with_reducible refine Kept.alloc ?_ _ | (with_reducible exact HK.out) | (right; simp; done)))⟩
    subst g
    iterate 12 (go_big_quiet_step (fail))
    by_cases g : p2 = q2
    rotate_left
    · as_aux_lemma =>
        have hrf : r = false := HNO.out fun e => g (congrArg EvC.nd e)
        subst hrf
        have h2 : (p2 != q2) = true := by simpa using g
        clear g HNO HNX HPO HQO hpl HX HY
        repeat (go_big_quiet_step (fail))
        refine wpQuiet_nil ?_
        intro _ hw'
        obtain ⟨nq, hw2⟩ := hw'
        subst hw2
        go_wp2
        go_ret
        exact ⟨rfl, by (repeat' (first | with_reducible exact Kept.refl _ _ | with_reducible refine Kept.put ?_ ?_ | with_reducible refine Kept.drewN ?_ _ | with_reducible refine Kept.drew ?_ | with_reducible refine Kept.alloc ?_ _ | (with_reducible exact HK.out) | (right; simp; done)))⟩
    subst g
    iterate 13 (go_big_quiet_step (fail))
    by_cases g : p3 = q3
    rotate_left
    · as_aux_lemma =>
        have hrf : r = false := HNO.out fun e => g (congrArg EvC.n e)
        subst hrf
        have h2 : (p3 != q3) = true := by simpa using g
        clear g HNO HNX HPO HQO hpl HX HY
        repeat (go_big_quiet_step (fail))
        refine wpQuiet_nil ?_
        intro _ hw'
        obtain ⟨nq, hw2⟩ := hw'
        subst hw2
        go_wp2
        go_ret
        exact ⟨rfl, by (repeat' (first | with_reducible exact Kept.refl _ _ | with_reducible refine Kept.put ?_ ?_ | with_reducible refine Kept.drewN ?_ _ | with_reducible refine Kept.drew ?_ | with_reducible refine Kept.alloc ?_ _ | (with_reducible exact HK.out) | (right; simp; done)))⟩
    subst g
    iterate 13 (go_big_quiet_step (fail))
    by_cases g : p4 = q4
    rotate_left
    · as_aux_lemma =>
        have hrf : r = false := HNO.out fun e => g (congrArg EvC.ak e)
        subst hrf
        have h2 : (p4 != q4) = true := by simpa using g
        clear g HNO HNX HPO HQO hpl HX HY
        repeat (go_big_quiet_step (fail))
        refine wpQuiet_nil ?_
        intro _ hw'
        obtain ⟨nq, hw2⟩ := hw'
        subst hw2
        go_wp2
        go_ret
        exact ⟨rfl, by (repeat' (first | with_reducible exact Kept.refl _ _ | with_reducible refine Kept.put ?_ ?_ | with_reducible refine Kept.drewN ?_ _ | with_reducible refine Kept.drew ?_ | with_reducible refine Kept.alloc ?_ _ | (with_reducible exact HK.out) | (right; simp; done)))⟩
    subst g
    iterate 7 (go_big_quiet_step (fail))
    by_cases g : p5 = q5
    rotate_left
    · as_aux_lemma =>
        have hrf : r = false := HNO.out fun e => g (congrArg EvC.an e)
        subst hrf
        have h2 : (p5 != q5) = true := by simpa using g
        clear g HNO HNX HPO HQO hpl HX HY
        repeat (go_big_quiet_step (fail))
        refine wpQuiet_nil ?_
        intro _ hw'
        obtain ⟨nq, hw2⟩ := hw'
        subst hw2
        go_wp2
        go_ret
        exact ⟨rfl, by (repeat' (first | with_reducible exact Kept.refl _ _ | with_reducible refine Kept.put ?_ ?_ | with_reducible refine Kept.drewN ?_ _ | with_reducible refine Kept.drew ?_ | with_reducible refine Kept.alloc ?_ _ | (with_reducible exact HK.out) | (right; simp; done)))⟩
    subst g
    iterate 7 (go_big_quiet_step (fail))
    by_cases g : p9 = q9
    rotate_left
    · as_aux_lemma =>
        have hrf : r = false := HNO.out fun e => g (congrArg EvC.am e)
        subst hrf
        have h2 : (p9 != q9) = true := by simpa using g
        clear g HNO HNX HPO HQO hpl HX HY
        repeat (go_big_quiet_step (fail))
        refine wpQuiet_nil ?_
        intro _ hw'
        obtain ⟨nq, hw2⟩ := hw'
        subst hw2
        go_wp2
        go_ret
        exact ⟨rfl, by (repeat' (first | with_reducible exact Kept.refl _ _ | with_reducible refine Kept.put ?_ ?_ | with_reducible refine Kept.drewN ?_ _ | with_reducible refine Kept.drew ?_ | with_reducible refine Kept.alloc ?_ _ | (with_reducible exact HK.out) | (right; simp; done)))⟩
    subst g
    iterate 7 (go_big_quiet_step (fail))
    by_cases g : p8 = q8
    rotate_left
    · as_aux_lemma =>
        have hrf : r = false := HNO.out fun e => g (congrArg EvC.tm e)
        subst hrf
        have h2 : (p8 != q8) = true := by simpa using g
        clear g HNO HNX HPO HQO hpl HX HY
        repeat (go_big_quiet_step (fail))
        refine wpQuiet_nil ?_
        intro _ hw'
        obtain ⟨nq, hw2⟩ := hw'
        subst hw2
        go_wp2
        go_ret
        exact ⟨rfl, by (repeat' (first | with_reducible exact Kept.refl _ _ | with_reducible refine Kept.put ?_ ?_ | with_reducible refine Kept.drewN ?_ _ | with_reducible refine Kept.drew ?_ | with_reducible refine Kept.alloc ?_ _ | (with_reducible exact HK.out) | (right; simp; done)))⟩
    subst g
    iterate 7 (go_big_quiet_step (fail))
    by_cases g : p6 = q6
    rotate_left
    · as_aux_lemma =>
        have hrf : r = false := HNO.out fun e => g (congrArg EvC.key e)
        subst hrf
        have h2 : (p6.toList == q6.toList) = false := by rw [tl_eq]; exact decide_eq_false g
        clear g HNO HNX HPO HQO hpl HX HY
        repeat (go_big_quiet_step (fail))
        refine wpQuiet_nil ?_
        intro _ hw'
        obtain ⟨nq, hw2⟩ := hw'
        subst hw2
        go_wp2
        go_ret
        exact ⟨rfl, by (repeat' (first | with_reducible exact Kept.refl _ _ | with_reducible refine Kept.put ?_ ?_ | with_reducible refine Kept.drewN ?_ _ | with_reducible refine Kept.drew ?_ | with_reducible refine Kept.alloc ?_ _ | (with_reducible exact HK.out) | (right; simp; done)))⟩
    subst g
    iterate 7 (go_big_quiet_step (fail))
    by_cases g : p7 = q7
    rotate_left
    · as_aux_lemma =>
        have hrf : r = false := HNO.out fun e => g (congrArg EvC.dst e)
        subst hrf
        have h2 : (p7.toList == q7.toList) = false := by rw [tl_eq]; exact decide_eq_false g
        clear g HNO HNX HPO HQO hpl HX HY
        repeat (go_big_quiet_step (fail))
        refine wpQuiet_nil ?_
        intro _ hw'
        obtain ⟨nq, hw2⟩ := hw'
        subst hw2
        go_wp2
        go_ret
        exact ⟨rfl, by (repeat' (first | with_reducible exact Kept.refl _ _ | with_reducible refine Kept.put ?_ ?_ | with_reducible refine Kept.drewN ?_ _ | with_reducible refine Kept.drew ?_ | with_reducible refine Kept.alloc ?_ _ | (with_reducible exact HK.out) | (right; simp; done)))⟩
    subst g
    iterate 7 (go_big_quiet_step (fail))
    by_cases hll : pl.length = ql.length
    rotate_left
    · as_aux_lemma =>
        have hrf : r = false := HNO.out fun e => hll (congrArg (fun x : EvC => x.ops.length) e)
        subst hrf
        have h2 : ((pl.length : Int) != (ql.length : Int)) = true := by simpa using fun e => hll (by omega)
        clear hll HNO HNX HPO HQO hpl HX HY
        repeat (go_big_quiet_step (fail))
        refine wpQuiet_nil ?_
        intro _ hw'
        obtain ⟨nq, hw2⟩ := hw'
        subst hw2
        go_wp2
        go_ret
        exact ⟨rfl, by (repeat' (first | with_reducible exact Kept.refl _ _ | with_reducible refine Kept.put ?_ ?_ | with_reducible refine Kept.drewN ?_ _ | with_reducible refine Kept.drew ?_ | with_reducible refine Kept.alloc ?_ _ | (with_reducible exact HK.out) | (right; simp; done)))⟩
    rw [← hll] at y9 Y9 HY ⊢
    repeat (go_big_quiet_step (fail))
    refine wpQuiet_nil ?_
    intro _ hw'
    obtain ⟨nq, hw2⟩ := hw'
    subst hw2
    have hqs := HQO.out.1
    dsimp only at hqs
    rw [← hll] at hqs
    have hps := HPO.out.1
    dsimp only at hps
    have HQS := Lib.hid hqs; clear hqs
    have HPS := Lib.hid hps; clear hps
    have HLL := Lib.hid hll; clear hll
    obtain ⟨m, hm⟩ : ∃ m, pl.length = m := ⟨_, rfl⟩
    rw [hm] at HX HY HQS HPS hpl ⊢
    have HM := Lib.hid hm; clear hm
    have hno : pl ≠ ql → r = false := fun hne => HNO.out fun e => hne (by injection e)
    have hnx : pl = ql → (xs a).take (i + 1) = (xs b).take (i + 1) := fun e => HNX.out (by subst e; rfl)
    clear HNO HNX HPO HQO
    have HNO := Lib.hid hno; clear hno
    have HNX := Lib.hid hnx; clear hnx
    clear x0 x1 x2 x3 x4 x5 x6 x7 x8 x9 y0 y1 y2 y3 y4 y5 y6 y7 y8 y9 Y3 Y4 Y5 Y6 Y7 Y8 Y9 XX0 XX1 XX2 YY0 YY1 YY2
    go_wp2_with fail
    go_loopw [8] (fun v8 wi => ∃ k : Nat, k ≤ m ∧ v8 = .int .i64 k ∧ pl.take k = ql.take k ∧ Has wi wo.heap.size 39 #[.int .i64 p4, .int .i64 p5, .string p6, .string p7, .int .u64 p8, .int .i64 p9, .slice pA m pc] ∧
        Has wi (wo.heap.size + 1) 39 #[.int .i64 p4, .int .i64 p5, .string p6, .string p7, .int .u64 p8, .int .i64 p9, .slice qA m qc] ∧ Kept NoF wo wi) (fun v8 _ => m - (intOf v8).toNat)
    case atStart => exact ⟨0, Nat.zero_le _, rfl, rfl, Has.drewN (HX.out.alloc _) _, by have := HY.out; rw [size_alloc] at this; exact this.drewN _, by (repeat' (first | with_reducible exact Kept.refl _ _ | with_reducible refine Kept.put ?_ ?_ | with_reducible refine Kept.drewN ?_ _ | with_reducible refine Kept.drew ?_ | with_reducible refine Kept.alloc ?_ _ | (fail) | (right; simp; done)))⟩
    case round =>
      obtain ⟨k, hkm, rfl, htk, hx, hy, hk2⟩ := hrel
      have u6 := hx.cell 6
      have v6 := hy.cell 6
      simp only [List.getElem?_toArray, List.getElem?_cons_zero, List.getElem?_cons_succ] at u6 v6
      have HX2 := Lib.hid hx; clear hx
      have HY2 := Lib.hid hy; clear hy
      have HK2 := Lib.hid hk2; clear hk2
      have HTK := Lib.hid htk; clear htk
      by_cases hkl : k < m
      · obtain ⟨o, ho⟩ : ∃ o, pl[k]? = some o := ⟨_, List.getElem?_eq_getElem (by have := HM.out; omega)⟩
        obtain ⟨o2, ho2⟩ : ∃ o, ql[k]? = some o := ⟨_, List.getElem?_eq_getElem (by have := HM.out; have := HLL.out; omega)⟩
        obtain ⟨a3, rfl, hl3, d0, d1, d2⟩ := op_cells (HPS.out.kept HK2.out (fun _ _ z => z)) (by omega) k o ho
        obtain ⟨a4, rfl, hl4, f0, f1, f2⟩ := op_cells (HQS.out.kept HK2.out (fun _ _ z => z)) (by omega) k o2 ho2
        have heq := run_neq_op o o2
        by_cases hoo : o = o2
        · subst hoo
          rw [decide_eq_true rfl] at heq
          have hnk := eq_take_succ HTK.out ho ho2
          have HNK := Lib.hid hnk; clear hnk ho ho2
          obtain ⟨o1, o2, o3⟩ := o
          unfold opg at heq
          dsimp only at d0 d1 d2 f0 f1 f2 heq
          go_wp2_with fail
          go_quiet (fail)
          go_wp2
          go_roundw
          case rel => exact ⟨k + 1, by omega, by go_num, HNK.out, HX2.out.drewN _, HY2.out.drewN _, HK2.out.drewN _⟩
          case measure => simp [intOf]; omega
        · have hrf : r = false := HNO.out fun e => hoo (by rw [e, ho2] at ho; injection ho with ho; exact ho.symm)
          subst hrf
          rw [decide_eq_false hoo] at heq
          clear hoo ho ho2
          obtain ⟨o1, o2', o3⟩ := o
          obtain ⟨o4, o5, o6⟩ := o2
          unfold opg at heq
          dsimp only at d0 d1 d2 f0 f1 f2 heq
          go_wp2_with fail
          go_quiet (fail)
          go_wp2
          go_ret
          exact ⟨rfl, (HK.out.then HK2.out).drewN _⟩
      · obtain rfl : k = m := by omega
        have hpq : pl = ql := by
          have h1 := HTK.out
          rwa [List.take_of_length_le (by rw [HM.out]; exact Nat.le_refl _), List.take_of_length_le (by rw [← HLL.out, HM.out]; exact Nat.le_refl _)] at h1
        have hn2 := HNX.out hpq
        have HN2 := Lib.hid hn2; clear hn2 hpq
        go_wp2
        go_roundw
        case rel => exact ⟨i + 1, by omega, by go_num, HN2.out, HK.out.then HK2.out⟩
        case measure => simp [intOf]; omega
end Scr
end Go.Proofs.Ytfobbocaodppeaa
