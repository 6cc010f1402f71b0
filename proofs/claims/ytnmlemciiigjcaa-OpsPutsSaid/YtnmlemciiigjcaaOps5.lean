/- OpsPuts: the law walked. -/
import Derived.Test.YtnmlemciiigjcaaAwake6
import Derived.Test.YtnmlemciiigjcaaOpsOpen
import Derived.Deep.RegionHeld3
set_option linter.unusedSimpArgs false
set_option linter.unusedVariables false
namespace Go.Proofs.Ytnmlemciiigjcaa
open Go.RowKit Go.Maps
set_option maxRecDepth 100000
namespace Ops
open Vn
/-- Two blocks beside which nothing old has turned. -/
def AB (w : World) (x y : Nat) (t u : TypeId) (cx cy : Array Value) (W : World) : Prop := Has W x t cx ∧ Has W y u cy ∧ Kept NoF w W
section
variable {w W W' : World} {x y : Nat} {t u : TypeId} {cx cy : Array Value}
theorem AB.drew (h : AB w x y t u cx cy W) : AB w x y t u cx cy W.drew := ⟨h.1, h.2.1, h.2.2.drew⟩
theorem AB.drewN (h : AB w x y t u cx cy W) (n : Nat) : AB w x y t u cx cy (W.drewN n) := ⟨h.1, h.2.1, h.2.2.drewN n⟩
theorem AB.alloc (h : AB w x y t u cx cy W) (o : Obj) : AB w x y t u cx cy (W.alloc o) := ⟨h.1.alloc o, h.2.1.alloc o, h.2.2.alloc o⟩
theorem AB.step (h : AB w x y t u cx cy W) (hk : Kept NoF W W') : AB w x y t u cx cy W' := ⟨h.1.kept hk (fun z => z), h.2.1.kept hk (fun z => z), h.2.2.then hk⟩
end
theorem sameB_self (a : Batch) : sameB a a = true := by simp [sameB]
set_option maxHeartbeats 8000000 in
theorem law_puts (w : World) (a b : Batch) (A B : Option Addr) (c d : Nat) (ha : Src w 3 A a.ops.length (cells a.ops)) (hb : Src w 3 B b.ops.length (cells b.ops)) (hac : a.ops.length ≤ c) (hbd : b.ops.length ≤ d) (hc : c ≤ maxLen) (hd : d ≤ maxLen) :
    Calls Try.prog 11 #[bagg a A c, bagg b B d] w fun e w' => e = .returned (.bool true) ∧ Below w.heap.size w w' := by
  have hself := sameB_self a
  obtain ⟨cl, req, l⟩ := a
  obtain ⟨cl', req', l'⟩ := b
  unfold bagg
  dsimp only at ha hb hac hbd ⊢
  unfold maxLen at hc hd
  have haw : ∀ W, Kept NoF w W → Calls Try.prog 46 #[] W fun e w' => e = .returned (.bool true) ∧ Kept NoF w w' :=
    fun W hW => (awake6_any W).mono fun e w' ⟨h1, h2⟩ => ⟨h1, hW.then h2⟩
  have HAW := Lib.hid haw; clear haw
  by_cases h1 : 20 < l.length
  · clear ha hb hself
    go_enter Try.func11, Try.ntmps11
    go_wp2_with fail
    refine (HAW.out _ (by (repeat' (first | with_reducible exact Kept.refl _ _ | with_reducible refine Kept.put ?_ ?_ | with_reducible refine Kept.drewN ?_ _ | with_reducible refine Kept.drew ?_ | with_reducible refine Kept.alloc ?_ _ | (fail) | (right; simp; done))))).mono ?_
    rintro e w2 ⟨rfl, hk⟩
    have hb := hk.below (Nat.le_refl _) (fun _ x => x.elim)
    have HB := Lib.hid hb; clear hb hk
    go_wp2
    go_ret
    exact ⟨rfl, HB.out⟩
  by_cases h2 : 20 < l'.length
  · clear ha hb hself
    go_enter Try.func11, Try.ntmps11
    go_wp2_with fail
    refine (HAW.out _ (by (repeat' (first | with_reducible exact Kept.refl _ _ | with_reducible refine Kept.put ?_ ?_ | with_reducible refine Kept.drewN ?_ _ | with_reducible refine Kept.drew ?_ | with_reducible refine Kept.alloc ?_ _ | (fail) | (right; simp; done))))).mono ?_
    rintro e w2 ⟨rfl, hk⟩
    have hb := hk.below (Nat.le_refl _) (fun _ x => x.elim)
    have HB := Lib.hid hb; clear hb hk
    go_wp2
    go_ret
    exact ⟨rfl, HB.out⟩
  have hlen : l.length ≤ 1000000 := by omega
  obtain ⟨S, hS⟩ : ∃ S, S = AB w w.heap.size (w.heap.size + 1) 45 45 #[.int .i64 cl, .int .i64 req, .slice A l.length c] #[.int .i64 cl', .int .i64 req', .slice B l'.length d] := ⟨_, rfl⟩
  have hSk : ∀ W, S W → Kept NoF w W := fun W h => by rw [hS] at h; exact h.2.2
  have hSd : ∀ W, S W → S W.drew := fun W h => by rw [hS] at h ⊢; exact h.drew
  have hSn : ∀ W n, S W → S (W.drewN n) := fun W n h => by rw [hS] at h ⊢; exact h.drewN n
  have hSs : ∀ W W', S W → Kept NoF W W' → S W' := fun W W' h hk => by rw [hS] at h ⊢; exact h.step hk
  have hSc : ∀ W, S W → W.cell? ⟨w.heap.size, 0, none⟩ = some (.int .i64 cl) ∧ W.cell? ⟨w.heap.size, 1, none⟩ = some (.int .i64 req) ∧ W.cell? ⟨w.heap.size, 2, none⟩ = some (.slice A l.length c) ∧
      W.cell? ⟨w.heap.size + 1, 0, none⟩ = some (.int .i64 cl') ∧ W.cell? ⟨w.heap.size + 1, 1, none⟩ = some (.int .i64 req') ∧ W.cell? ⟨w.heap.size + 1, 2, none⟩ = some (.slice B l'.length d) := fun W h => by
    rw [hS] at h
    exact ⟨h.1.cell 0, h.1.cell 1, h.1.cell 2, h.2.1.cell 0, h.2.1.cell 1, h.2.1.cell 2⟩
  have hS0 : S ((w.alloc (.cells #[.int .i64 cl, .int .i64 req, .slice A l.length c] 45)).alloc (.cells #[.int .i64 cl', .int .i64 req', .slice B l'.length d] 45)) := by
    rw [hS]
    exact ⟨(Has.new _ _ _).alloc _, Has.new_at _ _ _ (by simp), by (repeat' (first | with_reducible exact Kept.refl _ _ | with_reducible refine Kept.put ?_ ?_ | with_reducible refine Kept.drewN ?_ _ | with_reducible refine Kept.drew ?_ | with_reducible refine Kept.alloc ?_ _ | (fail) | (right; simp; done)))⟩
  have hp1 : ∀ W, S W → Calls Try.prog 47 #[.agg #[.int .i64 cl, .int .i64 req, .slice A l.length c]] W fun e w' => e = .returned (.tuple #[.string (putR ⟨cl, req, l⟩), .int .i64 (chk ⟨cl, req, l⟩)]) ∧ S w' :=
    fun W hW => (oput_any W ⟨cl, req, l⟩ A c (ha.kept (hSk W hW) (fun _ _ x => x))).mono fun e w' ⟨h1, h2⟩ => ⟨h1, hSs _ _ hW h2⟩
  have hp2 : ∀ W, S W → Calls Try.prog 48 #[.agg #[.int .i64 cl, .int .i64 req, .slice A l.length c]] W fun e w' => e = .returned (.tuple #[.string (putR ⟨cl, req, l⟩), .int .i64 (chk ⟨cl, req, l⟩)]) ∧ S w' :=
    fun W hW => (rput2_any W ⟨cl, req, l⟩ A c (ha.kept (hSk W hW) (fun _ _ x => x)) hac).mono fun e w' ⟨h1, h2⟩ => ⟨h1, hSs _ _ hW h2⟩
  have hc1 : ∀ W, S W → Calls Try.prog 49 #[.agg #[.int .i64 cl, .int .i64 req, .slice A l.length c]] W fun e w' => e = .returned (.int .i64 (chk ⟨cl, req, l⟩)) ∧ S w' :=
    fun W hW => (ocheck_any W ⟨cl, req, l⟩ A c (ha.kept (hSk W hW) (fun _ _ x => x))).mono fun e w' ⟨h1, h2⟩ => ⟨h1, hSs _ _ hW h2⟩
  have hc2 : ∀ W, S W → Calls Try.prog 50 #[.agg #[.int .i64 cl, .int .i64 req, .slice A l.length c]] W fun e w' => e = .returned (.int .i64 (chk ⟨cl, req, l⟩)) ∧ S w' :=
    fun W hW => (rcheck_any W ⟨cl, req, l⟩ A c (ha.kept (hSk W hW) (fun _ _ x => x)) hac).mono fun e w' ⟨h1, h2⟩ => ⟨h1, hSs _ _ hW h2⟩
  have hs1 : ∀ W, S W → Calls Try.prog 51 #[.agg #[.int .i64 cl, .int .i64 req, .slice A l.length c], .agg #[.int .i64 cl', .int .i64 req', .slice B l'.length d]] W fun e w' => e = .returned (.bool (sameB ⟨cl, req, l⟩ ⟨cl', req', l'⟩)) ∧ S w' :=
    fun W hW => (osame_any W ⟨cl, req, l⟩ ⟨cl', req', l'⟩ A B c d (ha.kept (hSk W hW) (fun _ _ x => x)) (hb.kept (hSk W hW) (fun _ _ x => x)) hlen).mono fun e w' ⟨h1, h2⟩ => ⟨h1, hSs _ _ hW h2⟩
  have hs2 : ∀ W, S W → Calls Try.prog 52 #[.agg #[.int .i64 cl, .int .i64 req, .slice A l.length c], .agg #[.int .i64 cl', .int .i64 req', .slice B l'.length d]] W fun e w' => e = .returned (.bool (sameB ⟨cl, req, l⟩ ⟨cl', req', l'⟩)) ∧ S w' :=
    fun W hW => (rsame_any W ⟨cl, req, l⟩ ⟨cl', req', l'⟩ A B c d (ha.kept (hSk W hW) (fun _ _ x => x)) (hb.kept (hSk W hW) (fun _ _ x => x)) hlen).mono fun e w' ⟨h1, h2⟩ => ⟨h1, hSs _ _ hW h2⟩
  have hs3 : ∀ W, S W → Calls Try.prog 51 #[.agg #[.int .i64 cl, .int .i64 req, .slice A l.length c], .agg #[.int .i64 cl, .int .i64 req, .slice A l.length c]] W fun e w' => e = .returned (.bool true) ∧ S w' :=
    fun W hW => (osame_any W ⟨cl, req, l⟩ ⟨cl, req, l⟩ A A c c (ha.kept (hSk W hW) (fun _ _ x => x)) (ha.kept (hSk W hW) (fun _ _ x => x)) hlen).mono fun e w' ⟨h1, h2⟩ => ⟨by rw [h1, hself], hSs _ _ hW h2⟩
  have haw2 : ∀ W, S W → Calls Try.prog 46 #[] W fun e w' => e = .returned (.bool true) ∧ S w' :=
    fun W hW => (awake6_any W).mono fun e w' ⟨h1, h2⟩ => ⟨h1, hSs _ _ hW h2⟩
  obtain ⟨k, hk⟩ : ∃ k, chk ⟨cl, req, l⟩ = k := ⟨_, rfl⟩
  obtain ⟨s, hs⟩ : ∃ s, putR ⟨cl, req, l⟩ = s := ⟨_, rfl⟩
  obtain ⟨z, hz⟩ : ∃ z, sameB ⟨cl, req, l⟩ ⟨cl', req', l'⟩ = z := ⟨_, rfl⟩
  rw [hk, hs] at hp1 hp2
  rw [hk] at hc1 hc2
  rw [hz] at hs1 hs2
  clear hk hs hz hself ha hb hS HAW
  have HP1 := Lib.hid hp1; clear hp1
  have HP2 := Lib.hid hp2; clear hp2
  have HC1 := Lib.hid hc1; clear hc1
  have HC2 := Lib.hid hc2; clear hc2
  have HS1 := Lib.hid hs1; clear hs1
  have HS2 := Lib.hid hs2; clear hs2
  have HS3 := Lib.hid hs3; clear hs3
  have HAW2 := Lib.hid haw2; clear haw2
  have HSK := Lib.hid hSk; clear hSk
  have HSD := Lib.hid hSd; clear hSd
  have HSN := Lib.hid hSn; clear hSn
  have HSS := Lib.hid hSs; clear hSs
  have HSC := Lib.hid hSc; clear hSc
  have HST := Lib.hid hS0; clear hS0
  go_enter Try.func11, Try.ntmps11
  go_wp2_with fail
  refine (HP1.out _ HST.out).mono ?_
  rintro e w2 ⟨rfl, hst⟩
  clear HST
  obtain ⟨x0, x1, x2, y0, y1, y2⟩ := HSC.out _ hst
  have HST := Lib.hid hst; clear hst
  go_wp2_with fail
  refine (HP2.out _ HST.out).mono ?_
  rintro e w3 ⟨rfl, hst⟩
  clear HST x0 x1 x2 y0 y1 y2
  obtain ⟨x0, x1, x2, y0, y1, y2⟩ := HSC.out _ hst
  have HST := Lib.hid hst; clear hst
  go_wp2_with fail
  go_region_held3 (fun W => W.cell? ⟨w.heap.size, 0, none⟩ = some (.int .i64 cl) ∧ W.cell? ⟨w.heap.size, 1, none⟩ = some (.int .i64 req) ∧ W.cell? ⟨w.heap.size, 2, none⟩ = some (.slice A l.length c) ∧
      W.cell? ⟨w.heap.size + 1, 0, none⟩ = some (.int .i64 cl') ∧ W.cell? ⟨w.heap.size + 1, 1, none⟩ = some (.int .i64 req') ∧ W.cell? ⟨w.heap.size + 1, 2, none⟩ = some (.slice B l'.length d))
    (first | with_reducible exact HSC.out _ HST.out | exact ⟨x0, x1, x2, y0, y1, y2⟩ | (simp [go_sem, x0, x1, x2, y0, y1, y2]; done))
    (first
      | (go_at_call 49; refine (HC1.out _ (by first | exact HST.out | exact HSD.out _ HST.out | exact HSN.out _ _ HST.out)).mono ?_; rintro e w5 ⟨rfl, hst⟩; clear HST; have HST := Lib.hid hst; clear hst)
      | (go_at_call 50; refine (HC2.out _ (by first | exact HST.out | exact HSD.out _ HST.out | exact HSN.out _ _ HST.out)).mono ?_; rintro e w5 ⟨rfl, hst⟩; clear HST; have HST := Lib.hid hst; clear hst)
      | (go_at_call 51; ((with_reducible refine (HS1.out _ ?_).mono ?_); (first | exact HST.out | exact HSD.out _ HST.out | exact HSN.out _ _ HST.out); rintro e w5 ⟨rfl, hst⟩; clear HST; have HST := Lib.hid hst; clear hst))
      | (go_at_call 51; ((with_reducible refine (HS3.out _ ?_).mono ?_); (first | exact HST.out | exact HSD.out _ HST.out | exact HSN.out _ _ HST.out); rintro e w5 ⟨rfl, hst⟩; clear HST; have HST := Lib.hid hst; clear hst))
      | (go_at_call 52; refine (HS2.out _ (by first | exact HST.out | exact HSD.out _ HST.out | exact HSN.out _ _ HST.out)).mono ?_; rintro e w5 ⟨rfl, hst⟩; clear HST; have HST := Lib.hid hst; clear hst)
      | (go_at_call 46; refine (HAW2.out _ (by first | exact HST.out | exact HSD.out _ HST.out | exact HSN.out _ _ HST.out)).mono ?_; rintro e w5 ⟨rfl, hst⟩; clear HST; have HST := Lib.hid hst; clear hst))
  all_goals
    have hb := (HSK.out _ HST.out).below (Nat.le_refl _) (fun _ x => x.elim)
    have HB := Lib.hid hb; clear hb
    go_wp2
    go_ret
    exact ⟨rfl, HB.out⟩
end Ops
end Go.Proofs.Ytnmlemciiigjcaa
