/- The reference of the ether, more: all cases of Send and Take; Drop; Double. -/
import Derived.Test.YtploafhenmfmhaaEtherRef
set_option linter.unusedSimpArgs false
set_option linter.unusedVariables false
namespace Go.Proofs.Ytploafhenmfmhaa
open Go.RowKit
set_option maxRecDepth 100000
namespace Ether

theorem rsend_bad {G : Nat → Prop} {w : World} {x : Nat} {ps : List Pk} {lost : Int} (h : RefAt w x G ps lost) (p : Pk) (hb : (!nodeB p.1 || !nodeB p.2.1) = true) :
    Calls Try.prog 21 #[.pointer (some ⟨x, 0, none⟩), agg p] w (AfterR w x G (.int .i64 1) ps lost) := by
  have H := Lib.hid h; clear h
  obtain ⟨p1, p2, p3⟩ := p
  have hcase : p1 < 0 ∨ (0 ≤ p1 ∧ 8 ≤ p1) ∨ (0 ≤ p1 ∧ p1 < 8 ∧ p2 < 0) ∨ (0 ≤ p1 ∧ p1 < 8 ∧ 0 ≤ p2 ∧ 8 ≤ p2) := by
    unfold nodeB at hb
    simp at hb
    omega
  clear hb
  unfold agg
  rcases hcase with h1 | ⟨h1, h2⟩ | ⟨h1, h2, h3⟩ | ⟨h1, h2, h3, h4⟩
  all_goals
    go_enter Try.func21, Try.ntmps21
    go_wp2
    go_ret
    exact ⟨rfl, G, H.out.kept ((Kept.refl NoF _).alloc _) (fun _ _ x => x), Grows.refl _ _, (Kept.refl _ _).alloc _⟩

theorem rsend_full {G : Nat → Prop} {w : World} {x : Nat} {ps : List Pk} {lost : Int} (h : RefAt w x G ps lost) (g0 : 0 ≤ lost) (gL : lost ≤ 1073741824) (p : Pk) (a0 : 0 ≤ p.1) (a1 : p.1 < 8) (b0 : 0 ≤ p.2.1) (b1 : p.2.1 < 8) (hlen : 400 ≤ ps.length) :
    Calls Try.prog 21 #[.pointer (some ⟨x, 0, none⟩), agg p] w (AfterR w x G (.int .i64 6) ps (min (lost + 1) 1073741824)) := by
  have hsep := h.lt
  obtain ⟨A, c, hG, hx, ho⟩ := h
  have c0 : w.cell? ⟨x, 0, none⟩ = some (.slice A ps.length c) := hx.cell 0
  have c1 : w.cell? ⟨x, 1, none⟩ = some (.int .i64 lost) := hx.cell 1
  have f1 := hx.frozen 1
  have hxl := hx.lt
  have HX := Lib.hid hx; clear hx
  have HO := Lib.hid ho; clear ho
  have HG := Lib.hid hG; clear hG hsep
  obtain ⟨p1, p2, p3⟩ := p
  dsimp only at a0 a1 b0 b1
  unfold agg
  go_enter Try.func21, Try.ntmps21
  go_wp2
  all_goals
    go_ret
    refine ⟨rfl, G, ⟨A, c, HG.out, ?_, ?_⟩, Grows.refl _ _, by (repeat' (first | with_reducible exact Kept.refl _ _ | with_reducible refine Kept.put ?_ ?_ | with_reducible refine Kept.drewN ?_ _ | with_reducible refine Kept.drew ?_ | with_reducible refine Kept.alloc ?_ _ | (left; rfl) | (right; simp; done)))⟩
    · first | rw [show min (lost + 1) 1073741824 = lost + 1 by omega] | rw [show min (lost + 1) 1073741824 = 1073741824 by omega]
      ((repeat (first | with_reducible exact HX.out | with_reducible apply Has.put_of | with_reducible apply Has.past | with_reducible apply Has.drewN | with_reducible apply Has.drew | with_reducible apply Has.alloc)) <;> first | omega | rfl)
    · refine own_kept HO.out (F := fun k => k = x) (by (repeat' (first | with_reducible exact Kept.refl _ _ | with_reducible refine Kept.put ?_ ?_ | with_reducible refine Kept.drewN ?_ _ | with_reducible refine Kept.drew ?_ | with_reducible refine Kept.alloc ?_ _ | (left; rfl) | (right; simp; done)))) ?_
      intro g hg e
      subst e
      exact own_ne HO.out HX.out (by decide) hg

theorem rsend_any {G : Nat → Prop} {w : World} {x : Nat} {ps : List Pk} {lost : Int} (h : RefAt w x G ps lost) (h0 : 0 ≤ lost) (hL : lost ≤ 1073741824) (p : Pk) :
    Calls Try.prog 21 #[.pointer (some ⟨x, 0, none⟩), agg p] w (AfterR w x G (.int .i64 (sendE ps p)) (sendP ps p) (sendL ps lost p)) := by
  unfold sendL sendP sendE
  by_cases hb : (!nodeB p.1 || !nodeB p.2.1) = true
  · rw [if_pos hb]
    exact rsend_bad h p hb
  · rw [if_neg hb]
    have hh : (0 ≤ p.1 ∧ p.1 < 8) ∧ (0 ≤ p.2.1 ∧ p.2.1 < 8) := by
      unfold nodeB at hb
      simp at hb
      omega
    by_cases hf : 400 ≤ ps.length
    · rw [if_pos hf]
      exact rsend_full h h0 hL p hh.1.1 hh.1.2 hh.2.1 hh.2.2 hf
    · rw [if_neg hf]
      exact rsend_ok h p hh.1.1 hh.1.2 hh.2.1 hh.2.2 (by omega)

theorem rtake_any {G : Nat → Prop} {w : World} {x : Nat} {ps : List Pk} {lost : Int} (h : RefAt w x G ps lost) (hlen : ps.length ≤ 1000) (k : Int) :
    Calls Try.prog 24 #[.pointer (some ⟨x, 0, none⟩), .int .i64 k] w (AfterR w x G (.tuple #[agg (takeV ps k), .int .i64 (takeE ps)]) (takeP ps k) lost) := by
  unfold takeV takeE takeP
  by_cases hp : ps = []
  · rw [if_pos hp, if_pos hp, if_pos hp]
    exact rtake_no h hp k
  · rw [if_neg hp, if_neg hp, if_neg hp]
    have hp' : 0 < ps.length := List.length_pos_iff.2 hp
    refine rtake_ok h hp' hlen k _ rfl _ ?_
    rw [List.getD_eq_getElem?_getD, List.getElem?_eq_getElem (place_lt hp' k)]
    rfl

theorem rdrop_any {G : Nat → Prop} {w : World} {x : Nat} {ps : List Pk} {lost : Int} (h : RefAt w x G ps lost) (h0 : 0 ≤ lost) (h1 : lost ≤ 1073741824) (hlen : ps.length ≤ 1000) (k : Int) :
    Calls Try.prog 38 #[.pointer (some ⟨x, 0, none⟩), .int .i64 k] w (AfterR w x G (.int .i64 (takeE ps)) (takeP ps k) (dropL ps lost)) := by
  have ht := rtake_any h hlen k
  have HT := Lib.hid ht; clear ht
  have HXL := Lib.hid h.lt
  unfold dropL
  have e : takeE ps = 0 ∨ takeE ps = 7 := by unfold takeE; split <;> simp
  generalize hE : takeE ps = E at *
  generalize hV : takeV ps k = V at *
  generalize hQ : takeP ps k = qs at *
  clear hE hV hQ
  obtain ⟨v1, v2, v3⟩ := V
  unfold agg at HT
  rcases e with rfl | rfl
  · go_enter Try.func38, Try.ntmps38
    go_wp2_with fail
    refine HT.out.mono ?_
    rintro e w1 ⟨rfl, G1, ⟨A, c, hG, hx, ho⟩, hgr, hk⟩
    have c1 : w1.cell? ⟨x, 1, none⟩ = some (.int .i64 lost) := hx.cell 1
    have f1 := hx.frozen 1
    have hxl := hx.lt
    have HX := Lib.hid hx; clear hx
    have HO := Lib.hid ho; clear ho
    have HG := Lib.hid hG; clear hG
    go_wp2
    all_goals
      go_ret
      refine ⟨rfl, G1, ⟨A, c, HG.out, ?_, ?_⟩, hgr, hk.trans (G := fun k => k = x) (by (repeat' (first | with_reducible exact Kept.refl _ _ | with_reducible refine Kept.put ?_ ?_ | with_reducible refine Kept.drewN ?_ _ | with_reducible refine Kept.drew ?_ | with_reducible refine Kept.alloc ?_ _ | (left; rfl) | (right; simp; done)))) (fun k h => .inl h)⟩
      · first | rw [show min (lost + 1) 1073741824 = lost + 1 by omega] | rw [show min (lost + 1) 1073741824 = 1073741824 by omega]
        ((repeat (first | with_reducible exact HX.out | with_reducible apply Has.put_of | with_reducible apply Has.past | with_reducible apply Has.drewN | with_reducible apply Has.drew | with_reducible apply Has.alloc)) <;> first | omega | rfl)
      · refine own_kept HO.out (F := fun k => k = x) (by (repeat' (first | with_reducible exact Kept.refl _ _ | with_reducible refine Kept.put ?_ ?_ | with_reducible refine Kept.drewN ?_ _ | with_reducible refine Kept.drew ?_ | with_reducible refine Kept.alloc ?_ _ | (left; rfl) | (right; simp; done)))) ?_
        intro g hg e
        subst e
        exact own_ne HO.out HX.out (by decide) hg
  · go_enter Try.func38, Try.ntmps38
    go_wp2_with fail
    refine HT.out.mono ?_
    rintro e w1 ⟨rfl, G1, hA, hgr, hk⟩
    go_wp2_with fail
    go_ret
    exact ⟨rfl, G1, hA.kept ((Kept.refl NoF _).alloc _) (fun _ _ x => x), hgr, hk.alloc _⟩
end Ether
end Go.Proofs.Ytploafhenmfmhaa
