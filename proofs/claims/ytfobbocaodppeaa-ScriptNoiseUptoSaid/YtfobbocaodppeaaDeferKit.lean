
/- recover inside a region that draws its order. -/
import Derived.Test.YtfobbocaodppeaaBase
import Derived.Recover
import Derived.Orders
set_option linter.unusedSimpArgs false
set_option linter.unusedVariables false
namespace Go.Proofs.Ytfobbocaodppeaa
open Go.RowKit
theorem wpS_region_open {P : Program} {Q : Exit → Act → List Frame → World → Prop} {a : Act} {cs : List Frame} {w : World} {id : Nat} {ops : Array Oper}
    (h : ∀ t, wpOpsS P ops Q (Region.schedule (P.follows .mixedOrders) ops t) a cs { w with drawn := w.drawn + 1 }) : (Code.region id ops true).wpS P Q a cs w :=
  fun b k hb hr => let ⟨e, a', cs', w', q, r⟩ := wp_opsS _ a cs _ (h _) b k hb hr; ⟨e, a', cs', w', q, .of_steps (.one step_region_draw) r⟩
def lin (md : Region.Mode) (ops : Array Oper) : Nat → Nat → Array Bool → List Nat
  | 0, _, _ => []
  | n + 1, t, l =>
    match (Region.ready md ops l)[t % (Region.ready md ops l).length]? with
    | some i => i :: lin md ops n (t / (Region.ready md ops l).length) (l.setIfInBounds i true)
    | none => []
theorem go_lin (md : Region.Mode) (ops : Array Oper) : ∀ (fuel t : Nat) (l : Array Bool), Region.linearise.go md ops fuel t l [] = lin md ops fuel t l := by
  intro fuel
  induction fuel with
  | zero => intro t l; simp [Region.linearise.go, lin]
  | succ fuel ih =>
    intro t l
    simp only [Region.linearise.go]
    change (match (Region.ready md ops l)[t % (Region.ready md ops l).length]? with
      | some i => Region.linearise.go md ops fuel (t / (Region.ready md ops l).length) (l.setIfInBounds i true) [i]
      | none => [].reverse) = _
    unfold lin
    cases (Region.ready md ops l)[t % (Region.ready md ops l).length]? with
    | none => rfl
    | some i => simp only; rw [linearise_go_acc, ih]; rfl
theorem sched3 {m : Bool} {ops : Array Oper} (hm : m = true) (hs : ops.size = 3) (r0 : Region.ready .any ops #[false, false, false] = [0, 1]) (r1 : Region.ready .any ops #[true, false, false] = [1]) (r2 : Region.ready .any ops #[false, true, false] = [0])
    (r3 : Region.ready .any ops #[true, true, false] = [2]) (t : Nat) : Region.schedule m ops t = [0, 1, 2] ∨ Region.schedule m ops t = [1, 0, 2] := by
  have e : Region.schedule m ops t = lin .any ops 3 t #[false, false, false] := by
    subst hm
    simp only [Region.schedule, Bool.true_or, if_true, Region.linearise]
    rw [hs]
    exact go_lin _ _ _ _ _
  rw [e]
  unfold lin
  rw [r0]
  rcases (show t % 2 = 0 ∨ t % 2 = 1 by omega) with h | h
  · left
    have h' : t % [0, 1].length = 0 := h
    rw [h']
    simp only [List.getElem?_cons_zero]
    have e1 : (#[false, false, false] : Array Bool).setIfInBounds 0 true = #[true, false, false] := rfl
    rw [e1]
    unfold lin
    rw [r1]
    have h1 : ∀ x, x % [1].length = 0 := fun x => by simp [Nat.mod_one]
    rw [h1]
    simp only [List.getElem?_cons_zero]
    have e2 : (#[true, false, false] : Array Bool).setIfInBounds 1 true = #[true, true, false] := rfl
    rw [e2]
    unfold lin
    rw [r3]
    have h2 : ∀ x, x % [2].length = 0 := fun x => by simp [Nat.mod_one]
    rw [h2]
    rfl
  · right
    have h' : t % [0, 1].length = 1 := h
    rw [h']
    simp only [List.getElem?_cons_succ, List.getElem?_cons_zero]
    have e1 : (#[false, false, false] : Array Bool).setIfInBounds 1 true = #[false, true, false] := rfl
    rw [e1]
    unfold lin
    rw [r2]
    have h1 : ∀ x, x % [0].length = 0 := fun x => by simp [Nat.mod_one]
    rw [h1]
    simp only [List.getElem?_cons_zero]
    have e2 : (#[false, true, false] : Array Bool).setIfInBounds 0 true = #[true, true, false] := rfl
    rw [e2]
    unfold lin
    rw [r3]
    have h2 : ∀ x, x % [2].length = 0 := fun x => by simp [Nat.mod_one]
    rw [h2]
    rfl
/-- A region of three operations, the third behind the two others. -/
theorem wpS_region_open3 {P : Program} {Q : Exit → Act → List Frame → World → Prop} {a : Act} {cs : List Frame} {w : World} {id : Nat} {ops : Array Oper}
    (hm : P.follows .mixedOrders = true) (hs : ops.size = 3) (r0 : Region.ready .any ops #[false, false, false] = [0, 1]) (r1 : Region.ready .any ops #[true, false, false] = [1]) (r2 : Region.ready .any ops #[false, true, false] = [0])
    (r3 : Region.ready .any ops #[true, true, false] = [2]) (h1 : wpOpsS P ops Q [0, 1, 2] a cs w.drew) (h2 : wpOpsS P ops Q [1, 0, 2] a cs w.drew) : (Code.region id ops true).wpS P Q a cs w := by
  refine wpS_region_open fun t => ?_
  rcases sched3 (t := t) hm hs r0 r1 r2 r3 with e | e
  · rw [e]; exact h1
  · rw [e]; exact h2
end Go.Proofs.Ytfobbocaodppeaa
