/- The reference's Same on two equal lists; all cases of its Double. -/
import Derived.Test.YtploafhenmfmhaaEtherAll
import Derived.Test.YtploafhenmfmhaaEtherDbl
set_option linter.unusedSimpArgs false
set_option linter.unusedVariables false
namespace Go.Proofs.Ytploafhenmfmhaa
open Go.RowKit
set_option maxRecDepth 100000
namespace Ether

theorem run_neq_pk (p : Pk) (W : World) : (binOp .neq 36 (agg p) (agg p)).run Try.prog W = .ok (.bool false) W := by
  obtain ⟨p1, p2, p3⟩ := p
  have e3 : (p3.toList == p3.toList) = true := by simp
  unfold agg
  simp [go_sem, e3]

theorem pk_cells {w : World} {A : Option Addr} {m : Nat} {ps : List Pk} (h : Src w 3 A m (cellsOf ps)) (hm : 0 < m) (i : Nat) (p : Pk) (hp : ps[i]? = some p) :
    ∃ ad, A = some ad ∧ ad.block < w.heap.size ∧ w.cell? (ad.add (i * 3)) = some (.int .i64 p.1) ∧ w.cell? ⟨(ad.add (i * 3)).block, (ad.add (i * 3)).off + 1, none⟩ = some (.int .i64 p.2.1) ∧ w.cell? ⟨(ad.add (i * 3)).block, (ad.add (i * 3)).off + 2, none⟩ = some (.string p.2.2) := by
  obtain ⟨ad, rfl, had, hcell⟩ := h.2 hm
  obtain ⟨k0, k1, k2⟩ := cellsOf_at ps i p hp
  refine ⟨ad, rfl, had, hcell _ _ k0, ?_, ?_⟩
  · rw [← add_lit _ (by omega), add_add]; exact hcell _ _ k1
  · rw [← add_lit _ (by omega), add_add]; exact hcell _ _ k2

theorem rsame_eq {w : World} {A B : Option Addr} {c d : Nat} {ps : List Pk} (hA : Src w 3 A ps.length (cellsOf ps)) (hB : Src w 3 B ps.length (cellsOf ps)) (hlen : ps.length ≤ 1000) :
    Calls Try.prog 40 #[.slice A ps.length c, .slice B ps.length d] w fun e w' => e = .returned (.bool true) ∧ Kept NoF w w' := by
  have HA := Lib.hid hA; clear hA
  have HB := Lib.hid hB; clear hB
  go_enter Try.func40, Try.ntmps40
  go_wp2_with fail
  go_loopw [5] (fun v5 wr => ∃ i n : Nat, i ≤ ps.length ∧ v5 = .int .i64 i ∧ wr = w.drewN n) (fun v5 _ => ps.length - (intOf v5).toNat)
  case atStart => exact ⟨0, 0, Nat.zero_le _, rfl, rfl⟩
  case round =>
    obtain ⟨i, n, hi, rfl, rfl⟩ := hrel
    by_cases hil : i < ps.length
    · obtain ⟨q, hq⟩ : ∃ q, ps[i]? = some q := ⟨_, List.getElem?_eq_getElem hil⟩
      obtain ⟨a1, rfl, hl1, d0, d1, d2⟩ := pk_cells HA.out (by omega) i q hq
      obtain ⟨a2, rfl, hl2, f0, f1, f2⟩ := pk_cells HB.out (by omega) i q hq
      have heq := run_neq_pk q
      obtain ⟨x1, x2, x3⟩ := q
      unfold agg at heq
      dsimp only at d0 d1 d2 f0 f1 f2
      clear hq
      go_wp2_with fail
      go_quiet (fail)
      go_wp2
      go_roundw
      case rel => exact ⟨i + 1, _, by omega, by go_num, rfl⟩
      case measure => simp [intOf]; omega
    · obtain rfl : i = ps.length := by omega
      go_wp2
      go_ret
      exact ⟨rfl, Kept.quiet _ _ _⟩

theorem rdouble_no {G : Nat → Prop} {w : World} {x : Nat} {ps : List Pk} {lost : Int} (h : RefAt w x G ps lost) (hp : ps = []) (k : Int) :
    Calls Try.prog 39 #[.pointer (some ⟨x, 0, none⟩), .int .i64 k] w (AfterR w x G (.int .i64 7) ps lost) := by
  have H := Lib.hid h
  obtain ⟨A, c, hG, hx, ho⟩ := h
  subst hp
  have c0 : w.cell? ⟨x, 0, none⟩ = some (.slice A 0 c) := hx.cell 0
  clear hG hx ho
  go_enter Try.func39, Try.ntmps39
  go_wp2_with fail
  go_ret
  exact ⟨rfl, G, H.out, Grows.refl _ _, Kept.refl _ _⟩

theorem rdouble_full {G : Nat → Prop} {w : World} {x : Nat} {ps : List Pk} {lost : Int} (h : RefAt w x G ps lost) (hp : 400 ≤ ps.length) (hlen : ps.length ≤ 1000) (k : Int) :
    Calls Try.prog 39 #[.pointer (some ⟨x, 0, none⟩), .int .i64 k] w (AfterR w x G (.int .i64 6) ps lost) := by
  have H := Lib.hid h
  obtain ⟨A, c, hG, hx, ho⟩ := h
  have c0 : w.cell? ⟨x, 0, none⟩ = some (.slice A ps.length c) := hx.cell 0
  have hne : ((ps.length : Int) == 0) = false := by rw [beq_eq_false_iff_ne]; omega
  clear hG hx ho
  go_enter Try.func39, Try.ntmps39
  go_wp2_with fail
  go_ret
  exact ⟨rfl, G, H.out, Grows.refl _ _, Kept.refl _ _⟩

theorem rdouble_any {G : Nat → Prop} {w : World} {x : Nat} {ps : List Pk} {lost : Int} (h : RefAt w x G ps lost) (hlen : ps.length ≤ 1000) (k : Int) :
    Calls Try.prog 39 #[.pointer (some ⟨x, 0, none⟩), .int .i64 k] w (AfterR w x G (.int .i64 (doubleE ps)) (doubleP ps k) lost) := by
  unfold doubleP doubleE
  by_cases hp : ps = []
  · rw [if_pos hp]
    exact rdouble_no h hp k
  · rw [if_neg hp]
    have hp' : 0 < ps.length := List.length_pos_iff.2 hp
    by_cases hf : 400 ≤ ps.length
    · rw [if_pos hf]
      exact rdouble_full h hf hlen k
    · rw [if_neg hf]
      refine rdouble_ok h hp' (by omega) k _ rfl _ ?_
      rw [List.getD_eq_getElem?_getD, List.getElem?_eq_getElem (place_lt hp' k)]
      rfl
end Ether
end Go.Proofs.Ytploafhenmfmhaa
