/- Layer 40 computes at all; what is read is small and may be compared. -/
import Derived.Test.YtfobbocaodppeaaScr3
import Derived.Test.YtfobbocaodppeaaScr6
import Derived.Test.YtfobbocaodppeaaScr8
import Derived.Test.YtfobbocaodppeaaScr15
set_option linter.unusedSimpArgs false
set_option linter.unusedVariables false
namespace Go.Proofs.Ytfobbocaodppeaa
open Go.RowKit
set_option maxRecDepth 100000
namespace Scr
open Ops Vn Wire
theorem wtO_flat (l : List OpR) : wtO l ≤ (l.flatMap putO).length := by
  induction l with
  | nil => exact Nat.le_refl _
  | cons a l ih =>
    have e : wtO (a :: l) = a.key.size + a.val.size + 1 + wtO l := by unfold wtO; rw [List.map_cons, List.sum_cons]
    have h : a.key.size + a.val.size + 1 ≤ (putO a).length := by
      unfold putO putT
      simp only [List.length_append, size_bl]
      have : (putF a.del).length = 1 := rfl
      omega
    rw [e, List.flatMap_cons, List.length_append]
    omega
theorem wtE_small {x : EvC} (h : oneC x = 0) (hc : clean x = x) : wtE x ≤ 1000 ∧ x.ops.length ≤ 255 := by
  have hl := (oneC_ok h).2
  unfold wtE
  by_cases hk : x.k = 0
  · unfold putE at hl
    rw [if_pos hk] at hl
    simp only [List.length_append] at hl
    have h1 := putA_ge x
    have h2 := wtO_flat x.ops
    have h3 : (x.ops.flatMap putO).length ≤ (putA x).length := by
      unfold putA
      simp only [List.length_append]
      omega
    omega
  · unfold clean at hc
    rw [if_neg hk] at hc
    have a1 : x.key.size = 0 := by rw [← hc]; rfl
    have a2 : x.dst.size = 0 := by rw [← hc]; rfl
    have a3 : x.ops = [] := by rw [← hc]; rfl
    rw [a1, a2, a3]
    exact ⟨by decide, by decide⟩
theorem pcs_all : ∀ (n : Nat) (l : List UInt8), l.length ≤ n → (ofS l).length ≤ l.length ∧ (putS (ofS l)).length ≤ l.length := by
  intro n
  induction n with
  | zero =>
    intro l hl
    obtain rfl : l = [] := List.eq_nil_of_length_eq_zero (by omega)
    unfold ofS
    rw [pcs_nil]
    exact ⟨Nat.le_refl _, Nat.le_refl _⟩
  | succ n ih =>
    intro l hl
    cases l with
    | nil =>
      unfold ofS
      rw [pcs_nil]
      exact ⟨Nat.le_refl _, Nat.le_refl _⟩
    | cons b l =>
      by_cases hb : b.toNat ≤ l.length
      · have hlen : (l.take b.toNat).length = b.toNat := by rw [List.length_take]; omega
        have e := ofS_piece (l.take b.toNat) (l.drop b.toNat) b hlen.symm
        rw [List.take_append_drop] at e
        rw [e]
        simp only [List.length_cons] at hl ⊢
        obtain ⟨h1, h2⟩ := ih (l.drop b.toNat) (by rw [List.length_drop]; omega)
        rw [List.length_drop] at h1 h2
        obtain ⟨q, hq⟩ : ∃ q, readE (ofL (l.take b.toNat)) = q := ⟨_, rfl⟩
        rw [hq]
        cases q with
        | none =>
          rw [show (none : Option EvC).toList = [] from rfl, List.nil_append]
          omega
        | some x =>
          obtain ⟨h3, h4, h5, h6⟩ := readE_back hq
          rw [bl_ofL] at h3
          have h7 : (byteE x).length = b.toNat + 1 := by unfold byteE; rw [List.length_cons, h3, hlen]
          rw [show (some x).toList = [x] from rfl]
          unfold putS at h2 ⊢
          rw [List.flatMap_append, List.length_append, List.length_append, List.flatMap_singleton, h7]
          simp only [List.length_cons, List.length_nil]
          omega
      · unfold ofS
        rw [pcs_cons, if_neg hb]
        exact ⟨Nat.zero_le _, Nat.zero_le _⟩
theorem evl_facts {B : Nat} {W : World} {A : Option Addr} {c : Nat} {l : List EvR} {bs : List UInt8} (h : EvL B W A c l) (hm : l.map (fun e => e.x) = ofS bs) :
    Src W 10 A l.length (vcells l) ∧ SOk W l ∧ (∀ e ∈ l, wtE e.x ≤ 1048576 ∧ e.x.ops.length ≤ 1000000 ∧ oneC e.x = 0) ∧ l.length ≤ c ∧ l.length ≤ bs.length := by
  have hx : ∀ e ∈ l, e.x ∈ ofS bs := fun e he => by rw [← hm]; exact List.mem_map.2 ⟨e, he, rfl⟩
  have hlen : l.length ≤ bs.length := by
    have := (pcs_all bs.length bs (Nat.le_refl _)).1
    rw [← hm, List.length_map] at this
    exact this
  refine ⟨Src.of_own h.1.1, fun e he => ?_, fun e he => ?_, (own_cap h.1.1).1, hlen⟩
  · have h1 := own_cap (h.2 e he).1
    exact ⟨Src.of_own (h.2 e he).1, h1.1, h1.2, (ofS_ok bs e.x (hx e he)).2.1⟩
  · obtain ⟨h1, h2, h3⟩ := ofS_ok bs e.x (hx e he)
    have h4 := wtE_small h1 h3
    exact ⟨by omega, by omega, h1⟩
theorem cts_map (l : List EvR) : cts l = l.map (fun e => e.x) := rfl
theorem xs_map (l : List EvR) : xs l = l.map (fun e => e.x) := rfl
theorem readE_a : readE (ofL [1, 4, 0]) = some (bare 1 4 0) := by decide +kernel
theorem ofS_a : ofS [3, 1, 4, 0, 1, 9] = [bare 1 4 0] := by decide +kernel
theorem put_a : putR [bare 1 4 0] = ofL [3, 1, 4, 0] ∧ chkS [bare 1 4 0] = 0 := by decide +kernel
end Scr
end Go.Proofs.Ytfobbocaodppeaa
