/- Entries: twins, alike, the same, all the same. -/
import Derived.Test.YtnmlemciiigjcaaEnt1
set_option linter.unusedSimpArgs false
set_option linter.unusedVariables false
namespace Go.Proofs.Ytnmlemciiigjcaa
open Go.RowKit
set_option maxRecDepth 100000
namespace Ent
open Ops
abbrev earr (e : EntR) : Array Value := #[.int .i64 e.cl, .int .i64 e.req, .slice e.A e.ops.length e.c, .int .u64 e.ts]
set_option maxHeartbeats 2000000 in
theorem twins_any (w : World) (a b : EntR) : Calls Try.prog 135 #[eagg a, eagg b] w fun r w' => r = .returned (.bool (twinB a b)) ∧ Kept NoF w w' := by
  have hb0 : ∀ W, Kept NoF ((w.alloc (.cells (earr a) 47)).alloc (.cells (earr b) 47)) W → (W.cell? ⟨w.heap.size, 0, none⟩ = some (.int .i64 a.cl) ∧ W.cell? ⟨w.heap.size, 1, none⟩ = some (.int .i64 a.req) ∧ W.cell? ⟨w.heap.size, 2, none⟩ = some (.slice a.A a.ops.length a.c) ∧ W.cell? ⟨w.heap.size, 3, none⟩ = some (.int .u64 a.ts) ∧
      W.cell? ⟨w.heap.size + 1, 0, none⟩ = some (.int .i64 b.cl) ∧ W.cell? ⟨w.heap.size + 1, 1, none⟩ = some (.int .i64 b.req) ∧ W.cell? ⟨w.heap.size + 1, 2, none⟩ = some (.slice b.A b.ops.length b.c) ∧ W.cell? ⟨w.heap.size + 1, 3, none⟩ = some (.int .u64 b.ts)) := by
    intro W hW
    have h1 : Has W w.heap.size 47 (earr a) := ((Has.new w 47 (earr a)).alloc (.cells (earr b) 47)).kept hW (fun x => x)
    have h2 : Has W (w.heap.size + 1) 47 (earr b) := (Has.new_at (w.alloc (.cells (earr a) 47)) 47 (earr b) (by simp)).kept hW (fun x => x)
    exact ⟨h1.cell 0, h1.cell 1, h1.cell 2, h1.cell 3, h2.cell 0, h2.cell 1, h2.cell 2, h2.cell 3⟩
  have hk0 : Kept NoF w ((w.alloc (.cells (earr a) 47)).alloc (.cells (earr b) 47)) := by (repeat' (first | with_reducible exact Kept.refl _ _ | with_reducible refine Kept.put ?_ ?_ | with_reducible refine Kept.drewN ?_ _ | with_reducible refine Kept.drew ?_ | with_reducible refine Kept.alloc ?_ _ | (fail) | (right; simp; done)))
  have ho1 := fun W => of_any W a
  have ho2 := fun W => of_any W b
  have hq := run_eql_who a.cl a.req b.cl b.req
  obtain ⟨r, hr⟩ : ∃ r, twinB a b = r := ⟨_, rfl⟩
  have hr2 : (decide (a.cl = b.cl) && decide (a.req = b.req)) = r := hr
  rw [hr]
  rw [hr2] at hq
  clear hr hr2
  obtain ⟨cl, req, A, c, l, ts⟩ := a
  obtain ⟨cl', req', A', c', l', ts'⟩ := b
  dsimp only [eagg, earr] at *
  have HC := Lib.hid hb0; clear hb0
  have HK := Lib.hid hk0; clear hk0
  have HO1 := Lib.hid ho1; clear ho1
  have HO2 := Lib.hid ho2; clear ho2
  have c0 := HC.out _ (Kept.refl _ _)
  go_enter Try.func135, Try.ntmps135
  go_wp2_with fail
  have HST := Lib.hid (Kept.refl NoF ((w.alloc (.cells #[.int .i64 cl, .int .i64 req, .slice A l.length c, .int .u64 ts] 47)).alloc (.cells #[.int .i64 cl', .int .i64 req', .slice A' l'.length c', .int .u64 ts'] 47)))
  go_region_held3 (fun W => W.cell? ⟨w.heap.size, 0, none⟩ = some (.int .i64 cl) ∧ W.cell? ⟨w.heap.size, 1, none⟩ = some (.int .i64 req) ∧ W.cell? ⟨w.heap.size, 2, none⟩ = some (.slice A l.length c) ∧ W.cell? ⟨w.heap.size, 3, none⟩ = some (.int .u64 ts) ∧
      W.cell? ⟨w.heap.size + 1, 0, none⟩ = some (.int .i64 cl') ∧ W.cell? ⟨w.heap.size + 1, 1, none⟩ = some (.int .i64 req') ∧ W.cell? ⟨w.heap.size + 1, 2, none⟩ = some (.slice A' l'.length c') ∧ W.cell? ⟨w.heap.size + 1, 3, none⟩ = some (.int .u64 ts'))
    (first | with_reducible exact HC.out _ HST.out | exact HC.out _ HST.out.drew | exact c0 | (simp [go_sem, c0]; done))
    (first
      | (go_at_call 168; ((with_reducible refine (HO1.out _).mono ?_); rintro e w5 ⟨rfl, hk0⟩; have hk := Kept.then (F := NoF) (a := ((w.alloc (.cells #[.int .i64 cl, .int .i64 req, .slice A l.length c, .int .u64 ts] 47)).alloc (.cells #[.int .i64 cl', .int .i64 req', .slice A' l'.length c', .int .u64 ts'] 47))) (by (repeat' (first | with_reducible exact Kept.refl _ _ | with_reducible refine Kept.put ?_ ?_ | with_reducible refine Kept.drewN ?_ _ | with_reducible refine Kept.drew ?_ | with_reducible refine Kept.alloc ?_ _ | (exact HST.out) | (right; simp; done)))) hk0; clear HST hk0; have HST := Lib.hid hk; clear hk))
      | (go_at_call 168; ((with_reducible refine (HO2.out _).mono ?_); rintro e w5 ⟨rfl, hk0⟩; have hk := Kept.then (F := NoF) (a := ((w.alloc (.cells #[.int .i64 cl, .int .i64 req, .slice A l.length c, .int .u64 ts] 47)).alloc (.cells #[.int .i64 cl', .int .i64 req', .slice A' l'.length c', .int .u64 ts'] 47))) (by (repeat' (first | with_reducible exact Kept.refl _ _ | with_reducible refine Kept.put ?_ ?_ | with_reducible refine Kept.drewN ?_ _ | with_reducible refine Kept.drew ?_ | with_reducible refine Kept.alloc ?_ _ | (exact HST.out) | (right; simp; done)))) hk0; clear HST hk0; have HST := Lib.hid hk; clear hk)))
  all_goals
    go_wp2
    go_ret
    exact ⟨rfl, HK.out.then (by (repeat' (first | with_reducible exact Kept.refl _ _ | with_reducible refine Kept.put ?_ ?_ | with_reducible refine Kept.drewN ?_ _ | with_reducible refine Kept.drew ?_ | with_reducible refine Kept.alloc ?_ _ | (exact HST.out) | (right; simp; done))))⟩
set_option maxHeartbeats 1000000 in
theorem alike_any (w : World) (a b : EntR) : Calls Try.prog 73 #[eagg a, eagg b] w fun r w' => r = .returned (.bool (alikeB a b)) ∧ Kept NoF w w' := by
  have ht := fun W => twins_any W a b
  unfold alikeB
  obtain ⟨tw, htw⟩ : ∃ tw, twinB a b = tw := ⟨_, rfl⟩
  rw [htw] at ht ⊢
  clear htw
  have hb0 : ∀ W, Kept NoF ((w.alloc (.cells (earr a) 47)).alloc (.cells (earr b) 47)) W → (W.cell? ⟨w.heap.size, 3, none⟩ = some (.int .u64 a.ts) ∧ W.cell? ⟨w.heap.size + 1, 3, none⟩ = some (.int .u64 b.ts)) := by
    intro W hW
    have h1 : Has W w.heap.size 47 (earr a) := ((Has.new w 47 (earr a)).alloc (.cells (earr b) 47)).kept hW (fun x => x)
    have h2 : Has W (w.heap.size + 1) 47 (earr b) := (Has.new_at (w.alloc (.cells (earr a) 47)) 47 (earr b) (by simp)).kept hW (fun x => x)
    exact ⟨h1.cell 3, h2.cell 3⟩
  have hk0 : Kept NoF w ((w.alloc (.cells (earr a) 47)).alloc (.cells (earr b) 47)) := by (repeat' (first | with_reducible exact Kept.refl _ _ | with_reducible refine Kept.put ?_ ?_ | with_reducible refine Kept.drewN ?_ _ | with_reducible refine Kept.drew ?_ | with_reducible refine Kept.alloc ?_ _ | (fail) | (right; simp; done)))
  obtain ⟨cl, req, A, c, l, ts⟩ := a
  obtain ⟨cl', req', A', c', l', ts'⟩ := b
  dsimp only [eagg, earr] at *
  obtain ⟨q, hq⟩ : ∃ q, decide (ts = ts') = q := ⟨_, rfl⟩
  have hq2 : (ts == ts') = q := by
    rw [← hq]
    by_cases h : ts = ts'
    · subst h; simp
    · rw [decide_eq_false h, beq_eq_false_iff_ne]; exact h
  rw [hq]
  clear hq
  have HC := Lib.hid hb0; clear hb0
  have HK := Lib.hid hk0; clear hk0
  have HT := Lib.hid ht; clear ht
  cases tw
  · go_enter Try.func73, Try.ntmps73
    go_wp2_with fail
    refine (HT.out _).mono ?_
    rintro e w2 ⟨rfl, hk⟩
    have hk2 := HK.out.then hk
    have HK2 := Lib.hid hk2; clear hk2 hk
    go_wp2
    go_ret
    exact ⟨rfl, HK2.out⟩
  · go_enter Try.func73, Try.ntmps73
    go_wp2_with fail
    refine (HT.out _).mono ?_
    rintro e w2 ⟨rfl, hk⟩
    obtain ⟨c0, c1⟩ := HC.out _ hk
    have hk2 := HK.out.then hk
    have HK2 := Lib.hid hk2; clear hk2 hk
    go_wp2
    go_ret
    exact ⟨by simp, HK2.out⟩
def bareE (e : EntR) : EntR := ⟨e.cl, e.req, none, 0, [], e.ts⟩
theorem bare_any (w : World) (e : EntR) : Calls Try.prog 75 #[eagg e] w fun r w' => r = .returned (eagg (bareE e)) ∧ Kept NoF w w' := by
  obtain ⟨cl, req, A, c, l, ts⟩ := e
  dsimp only [eagg, bareE]
  go_enter Try.func75, Try.ntmps75
  go_wp2
  refine bodyPost_ret (v := .agg #[.int .i64 cl, .int .i64 req, .slice none 0 0, .int .u64 ts]) (by simp [results, Try.results75, go_sem]) rfl ⟨rfl, by (repeat' (first | with_reducible exact Kept.refl _ _ | with_reducible refine Kept.put ?_ ?_ | with_reducible refine Kept.drewN ?_ _ | with_reducible refine Kept.drew ?_ | with_reducible refine Kept.alloc ?_ _ | (fail) | (right; simp; done)))⟩
set_option maxHeartbeats 1000000 in
theorem rsameE_any (w : World) (a b : EntR) (ha : EOk w a) (hb : EOk w b) (hla : a.ops.length ≤ 1000000) : Calls Try.prog 76 #[eagg a, eagg b] w fun r w' => r = .returned (.bool (sameE a b)) ∧ Kept NoF w w' := by
  have hk0 : Kept NoF w ((w.alloc (.cells (earr a) 47)).alloc (.cells (earr b) 47)) := by (repeat' (first | with_reducible exact Kept.refl _ _ | with_reducible refine Kept.put ?_ ?_ | with_reducible refine Kept.drewN ?_ _ | with_reducible refine Kept.drew ?_ | with_reducible refine Kept.alloc ?_ _ | (fail) | (right; simp; done)))
  have hs := rsame_any ((w.alloc (.cells (earr a) 47)).alloc (.cells (earr b) 47)) (bat a) (bat b) a.A b.A a.c b.c (ha.1.kept hk0 (fun _ _ x => x)) (hb.1.kept hk0 (fun _ _ x => x)) hla
  unfold sameE
  obtain ⟨sb, hsb⟩ : ∃ sb, sameB (bat a) (bat b) = sb := ⟨_, rfl⟩
  rw [hsb] at hs ⊢
  clear hsb ha hb hla
  obtain ⟨cl, req, A, c, l, ts⟩ := a
  obtain ⟨cl', req', A', c', l', ts'⟩ := b
  unfold bagg bat at hs
  dsimp only [eagg, earr] at *
  have HK := Lib.hid hk0; clear hk0
  have HS := Lib.hid hs; clear hs
  by_cases h : ts = ts'
  · subst h
    simp only [decide_true, Bool.true_and]
    go_enter Try.func76, Try.ntmps76
    go_wp2_with fail
    refine HS.out.mono ?_
    rintro e w2 ⟨rfl, hk⟩
    have hk2 := HK.out.then hk
    have HK2 := Lib.hid hk2; clear hk2 hk
    go_wp2
    go_ret
    exact ⟨rfl, HK2.out⟩
  · have hq2 : (ts == ts') = false := by rw [beq_eq_false_iff_ne]; exact h
    rw [decide_eq_false h, Bool.false_and]
    clear h HS
    go_enter Try.func76, Try.ntmps76
    go_wp2
    go_ret
    exact ⟨rfl, HK.out⟩
theorem LOk.at {w : World} {l : List EntR} (h : LOk w l) {i : Nat} {e : EntR} (he : l[i]? = some e) : EOk w e := h e (List.mem_of_getElem? he)
def sameAllB : List EntR → List EntR → Bool
  | [], [] => true
  | a :: l, b :: m => sameE a b && sameAllB l m
  | _, _ => false
theorem sameAllB_len {l m : List EntR} (h : l.length ≠ m.length) : sameAllB l m = false := by
  induction l generalizing m with
  | nil => cases m <;> simp_all [sameAllB]
  | cons a l ih =>
    cases m with
    | nil => rfl
    | cons b m => rw [sameAllB, ih (by simpa using h), Bool.and_false]
theorem sameAllB_at {l m : List EntR} {i : Nat} {a b : EntR} (ha : l[i]? = some a) (hb : m[i]? = some b) : sameAllB (l.drop i) (m.drop i) = (sameE a b && sameAllB (l.drop (i + 1)) (m.drop (i + 1))) := by
  obtain ⟨hi, rfl⟩ := List.getElem?_eq_some_iff.1 ha
  obtain ⟨hj, rfl⟩ := List.getElem?_eq_some_iff.1 hb
  rw [List.drop_eq_getElem_cons hi, List.drop_eq_getElem_cons hj, sameAllB]
set_option maxHeartbeats 4000000 in
theorem rsameAll_any (w : World) (A B : Option Addr) (c d : Nat) (l m : List EntR) (hl : Src w 4 A l.length (ecells l)) (hm : Src w 4 B m.length (ecells m)) (hlo : LOk w l) (hmo : LOk w m) (hlen : l.length ≤ 1000000) (hops : ∀ e ∈ l, e.ops.length ≤ 1000000) :
    Calls Try.prog 31 #[.slice A l.length c, .slice B m.length d] w fun e w' => e = .returned (.bool (sameAllB l m)) ∧ Kept NoF w w' := by
  have HL := Lib.hid (And.intro hl hlo); clear hl hlo
  have HM := Lib.hid (And.intro hm hmo); clear hm hmo
  have HOPS := Lib.hid hops; clear hops
  by_cases hne : l.length = m.length
  rotate_left
  · rw [sameAllB_len hne]
    have hq : ((l.length : Int) != (m.length : Int)) = true := by simpa using fun e => hne (by omega)
    clear hne
    go_enter Try.func31, Try.ntmps31
    go_wp2
    go_ret
    exact ⟨rfl, Kept.refl _ _⟩
  obtain ⟨n, hn⟩ : ∃ n, l.length = n := ⟨_, rfl⟩
  rw [← hne]
  rw [← hne] at HM
  rw [hn] at HL HM hlen ⊢
  have HN := Lib.hid (And.intro hn hne); clear hn hne
  obtain ⟨r, hr⟩ : ∃ r, sameAllB l m = r := ⟨_, rfl⟩
  rw [hr]
  have HR := Lib.hid hr; clear hr
  go_enter Try.func31, Try.ntmps31
  go_wp2_with fail
  go_loopw [5] (fun v5 wr => ∃ i : Nat, i ≤ n ∧ v5 = .int .i64 i ∧ r = sameAllB (l.drop i) (m.drop i) ∧ Kept NoF w wr) (fun v5 _ => n - (intOf v5).toNat)
  case atStart => exact ⟨0, Nat.zero_le _, rfl, HR.out.symm, Kept.refl _ _⟩
  case round =>
    obtain ⟨i, hi, rfl, hrr, hk⟩ := hrel
    have HK := Lib.hid hk; clear hk
    have HRR := Lib.hid hrr; clear hrr
    by_cases hil : i < n
    · obtain ⟨a, ha⟩ : ∃ a, l[i]? = some a := ⟨_, List.getElem?_eq_getElem (by have := HN.out.1; omega)⟩
      obtain ⟨b, hb⟩ : ∃ b, m[i]? = some b := ⟨_, List.getElem?_eq_getElem (by have := HN.out; omega)⟩
      have hsa := sameAllB_at ha hb
      have hcell : ∀ W, Kept NoF w W → ∃ ad bd, A = some ad ∧ B = some bd ∧ (W.cell? (ad.add (i * 4)) = some (.int .i64 a.cl) ∧ W.cell? ⟨(ad.add (i * 4)).block, (ad.add (i * 4)).off + 1, none⟩ = some (.int .i64 a.req) ∧
          W.cell? ⟨(ad.add (i * 4)).block, (ad.add (i * 4)).off + 2, none⟩ = some (.slice a.A a.ops.length a.c) ∧ W.cell? ⟨(ad.add (i * 4)).block, (ad.add (i * 4)).off + 3, none⟩ = some (.int .u64 a.ts) ∧
          W.cell? (bd.add (i * 4)) = some (.int .i64 b.cl) ∧ W.cell? ⟨(bd.add (i * 4)).block, (bd.add (i * 4)).off + 1, none⟩ = some (.int .i64 b.req) ∧
          W.cell? ⟨(bd.add (i * 4)).block, (bd.add (i * 4)).off + 2, none⟩ = some (.slice b.A b.ops.length b.c) ∧ W.cell? ⟨(bd.add (i * 4)).block, (bd.add (i * 4)).off + 3, none⟩ = some (.int .u64 b.ts)) := by
        intro W hW
        obtain ⟨ad, e1, _, x0, x1, x2, x3⟩ := ent_cells (HL.out.1.kept hW (fun _ _ x => x)) (by omega) i a ha
        obtain ⟨bd, e2, _, y0, y1, y2, y3⟩ := ent_cells (HM.out.1.kept hW (fun _ _ x => x)) (by omega) i b hb
        exact ⟨ad, bd, e1, e2, x0, x1, x2, x3, y0, y1, y2, y3⟩
      obtain ⟨ad, bd, rfl, rfl, c0⟩ := hcell _ HK.out
      have hcell2 : ∀ W, Kept NoF w W → (W.cell? (ad.add (i * 4)) = some (.int .i64 a.cl) ∧ W.cell? ⟨(ad.add (i * 4)).block, (ad.add (i * 4)).off + 1, none⟩ = some (.int .i64 a.req) ∧
          W.cell? ⟨(ad.add (i * 4)).block, (ad.add (i * 4)).off + 2, none⟩ = some (.slice a.A a.ops.length a.c) ∧ W.cell? ⟨(ad.add (i * 4)).block, (ad.add (i * 4)).off + 3, none⟩ = some (.int .u64 a.ts) ∧
          W.cell? (bd.add (i * 4)) = some (.int .i64 b.cl) ∧ W.cell? ⟨(bd.add (i * 4)).block, (bd.add (i * 4)).off + 1, none⟩ = some (.int .i64 b.req) ∧
          W.cell? ⟨(bd.add (i * 4)).block, (bd.add (i * 4)).off + 2, none⟩ = some (.slice b.A b.ops.length b.c) ∧ W.cell? ⟨(bd.add (i * 4)).block, (bd.add (i * 4)).off + 3, none⟩ = some (.int .u64 b.ts)) := by
        intro W hW
        obtain ⟨ad', bd', e1, e2, h⟩ := hcell W hW
        injection e1 with e1
        injection e2 with e2
        subst e1
        subst e2
        exact h
      have hcall := fun W (hW : Kept NoF w W) => rsameE_any W a b ((HL.out.2.at ha).kept hW) ((HM.out.2.at hb).kept hW) (HOPS.out a (List.mem_of_getElem? ha))
      rw [hsa] at HRR
      obtain ⟨t, ht⟩ : ∃ t, sameE a b = t := ⟨_, rfl⟩
      rw [ht] at hcall HRR
      have i0 : (0 : Int) ≤ (i : Int) := by omega
      have i1 : (i : Int) < n := by omega
      have HC := Lib.hid hcell2; clear hcell2 hcell hsa ht ha hb
      have HCALL := Lib.hid hcall; clear hcall
      obtain ⟨cl, req, eA, ec, el, ts⟩ := a
      obtain ⟨cl', req', eA', ec', el', ts'⟩ := b
      dsimp only [eagg] at HC HCALL c0
      cases t
      · have hrf : r = false := by rw [HRR.out]; simp
        have HRF := Lib.hid hrf; clear hrf HRR
        go_wp2_with fail
        go_region_held3 (fun W => W.cell? (ad.add (i * 4)) = some (.int .i64 cl) ∧ W.cell? ⟨(ad.add (i * 4)).block, (ad.add (i * 4)).off + 1, none⟩ = some (.int .i64 req) ∧
          W.cell? ⟨(ad.add (i * 4)).block, (ad.add (i * 4)).off + 2, none⟩ = some (.slice eA el.length ec) ∧ W.cell? ⟨(ad.add (i * 4)).block, (ad.add (i * 4)).off + 3, none⟩ = some (.int .u64 ts) ∧
          W.cell? (bd.add (i * 4)) = some (.int .i64 cl') ∧ W.cell? ⟨(bd.add (i * 4)).block, (bd.add (i * 4)).off + 1, none⟩ = some (.int .i64 req') ∧
          W.cell? ⟨(bd.add (i * 4)).block, (bd.add (i * 4)).off + 2, none⟩ = some (.slice eA' el'.length ec') ∧ W.cell? ⟨(bd.add (i * 4)).block, (bd.add (i * 4)).off + 3, none⟩ = some (.int .u64 ts'))
          (first | with_reducible exact q | exact c0 | (simp [go_sem, c0]; done))
          (first | (go_at_call 76; refine (HCALL.out _ (by (repeat' (first | with_reducible exact Kept.refl _ _ | with_reducible refine Kept.put ?_ ?_ | with_reducible refine Kept.drewN ?_ _ | with_reducible refine Kept.drew ?_ | with_reducible refine Kept.alloc ?_ _ | (exact HK.out) | (right; simp; done))))).mono ?_; rintro e w5 ⟨rfl, hk0⟩; have hk := Kept.then (F := NoF) (a := w) (by (repeat' (first | with_reducible exact Kept.refl _ _ | with_reducible refine Kept.put ?_ ?_ | with_reducible refine Kept.drewN ?_ _ | with_reducible refine Kept.drew ?_ | with_reducible refine Kept.alloc ?_ _ | (exact HK.out) | (right; simp; done)))) hk0; clear hk0; have q := HC.out _ hk; have HK5 := Lib.hid hk; clear hk))
        go_wp2
        go_ret
        exact ⟨by rw [HRF.out]; rfl, HK5.out⟩
      · have hrf : r = sameAllB (l.drop (i + 1)) (m.drop (i + 1)) := by rw [HRR.out]; simp
        have HRF := Lib.hid hrf; clear hrf HRR
        go_wp2_with fail
        go_region_held3 (fun W => W.cell? (ad.add (i * 4)) = some (.int .i64 cl) ∧ W.cell? ⟨(ad.add (i * 4)).block, (ad.add (i * 4)).off + 1, none⟩ = some (.int .i64 req) ∧
          W.cell? ⟨(ad.add (i * 4)).block, (ad.add (i * 4)).off + 2, none⟩ = some (.slice eA el.length ec) ∧ W.cell? ⟨(ad.add (i * 4)).block, (ad.add (i * 4)).off + 3, none⟩ = some (.int .u64 ts) ∧
          W.cell? (bd.add (i * 4)) = some (.int .i64 cl') ∧ W.cell? ⟨(bd.add (i * 4)).block, (bd.add (i * 4)).off + 1, none⟩ = some (.int .i64 req') ∧
          W.cell? ⟨(bd.add (i * 4)).block, (bd.add (i * 4)).off + 2, none⟩ = some (.slice eA' el'.length ec') ∧ W.cell? ⟨(bd.add (i * 4)).block, (bd.add (i * 4)).off + 3, none⟩ = some (.int .u64 ts'))
          (first | with_reducible exact q | exact c0 | (simp [go_sem, c0]; done))
          (first | (go_at_call 76; refine (HCALL.out _ (by (repeat' (first | with_reducible exact Kept.refl _ _ | with_reducible refine Kept.put ?_ ?_ | with_reducible refine Kept.drewN ?_ _ | with_reducible refine Kept.drew ?_ | with_reducible refine Kept.alloc ?_ _ | (exact HK.out) | (right; simp; done))))).mono ?_; rintro e w5 ⟨rfl, hk0⟩; have hk := Kept.then (F := NoF) (a := w) (by (repeat' (first | with_reducible exact Kept.refl _ _ | with_reducible refine Kept.put ?_ ?_ | with_reducible refine Kept.drewN ?_ _ | with_reducible refine Kept.drew ?_ | with_reducible refine Kept.alloc ?_ _ | (exact HK.out) | (right; simp; done)))) hk0; clear hk0; have q := HC.out _ hk; have HK5 := Lib.hid hk; clear hk))
        go_wp2
        go_roundw
        case rel => exact ⟨i + 1, by omega, by go_num, HRF.out, HK5.out⟩
        case measure => simp [intOf]; omega
    · obtain rfl : i = n := by omega
      have hrt : r = true := by
        rw [HRR.out, List.drop_of_length_le (by rw [HN.out.1]; exact Nat.le_refl _), List.drop_of_length_le (by have := HN.out; omega)]; rfl
      have HRT := Lib.hid hrt; clear hrt
      go_wp2
      go_ret
      exact ⟨by rw [HRT.out]; rfl, HK.out⟩
end Ent
end Go.Proofs.Ytnmlemciiigjcaa
