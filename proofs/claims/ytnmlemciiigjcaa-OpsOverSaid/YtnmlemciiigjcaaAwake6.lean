/- Layer 6 computes at all. -/
import Derived.Test.YtnmlemciiigjcaaOver
import Derived.Test.YtnmlemciiigjcaaOps4
set_option linter.unusedSimpArgs false
set_option linter.unusedVariables false
namespace Go.Proofs.Ytnmlemciiigjcaa
open Go.RowKit Go.Maps
set_option maxRecDepth 100000
namespace Ops
open Vn
def sa : ByteArray := ⟨#[97]⟩
def sb : ByteArray := ⟨#[98]⟩
def s1 : ByteArray := ⟨#[49]⟩
def s2 : ByteArray := ⟨#[50]⟩
def batA : Batch := ⟨0, 1, [⟨sa, sb, false⟩]⟩
theorem chk_batA : chk batA = 0 := by decide
theorem putR_batA : putR batA = ⟨#[0, 1, 1, 1, 97, 0, 1, 98]⟩ := by
  unfold putR
  rw [if_pos chk_batA]
  rfl
theorem overL_A : overL [⟨sa, s1⟩] [⟨sa, emp, true⟩, ⟨sb, s2, false⟩] = [⟨sb, s2⟩] := by
  have hk : overK [⟨sa, s1⟩] [⟨sa, emp, true⟩, ⟨sb, s2, false⟩] = [[98]] := by
    refine (overK_unique (by simp) fun x => ?_).symm
    simp only [finE, envP, List.foldl_cons, List.foldl_nil, stepO, stepP, put1, if_true, bl, sa, sb, List.mem_singleton]
    by_cases h1 : x = [98]
    · simp [h1]
    · by_cases h2 : x = [97]
      · simp [h2]
      · simp [h1, h2]
  unfold overL
  rw [hk]
  rfl
set_option maxHeartbeats 4000000 in
theorem awake6_any (w : World) : Calls Try.prog 46 #[] w fun e w' => e = .returned (.bool true) ∧ Kept NoF w w' := by
  have hput : ∀ x W, Has W x 106 #[.string ⟨#[97]⟩, .string ⟨#[98]⟩, .bool false] → Calls Try.prog 47 #[.agg #[.int .i64 0, .int .i64 1, .slice (some ⟨x, 0, none⟩) 1 1]] W fun e w' => e = .returned (.tuple #[.string ⟨#[0, 1, 1, 1, 97, 0, 1, 98]⟩, .int .i64 0]) ∧ Kept NoF W w' := by
    intro x W hW
    have h := oput_any W batA (some ⟨x, 0, none⟩) 1 (Src.of_has (m := 1) hW rfl)
    rw [putR_batA, chk_batA] at h
    exact h
  have hov : ∀ x y W, Has W x 54 #[.string ⟨#[97]⟩, .string ⟨#[49]⟩] → Has W y 106 #[.string ⟨#[97]⟩, .string ⟨#[]⟩, .bool true, .string ⟨#[98]⟩, .string ⟨#[50]⟩, .bool false] →
      Calls Try.prog 55 #[.slice (some ⟨x, 0, none⟩) 1 1, .slice (some ⟨y, 0, none⟩) 2 2] W (NewPairs W [⟨sb, s2⟩]) := by
    intro x y W hx hy
    have h := oover_any W (some ⟨x, 0, none⟩) (some ⟨y, 0, none⟩) 1 2 [⟨sa, s1⟩] [⟨sa, emp, true⟩, ⟨sb, s2, false⟩] (Src.of_has (m := 1) hx rfl) (Src.of_has (m := 2) hy rfl) (by decide) (by decide)
      (by intro p hp; simp at hp; subst hp; decide) (by intro p hp; simp at hp; rcases hp with rfl | rfl <;> decide)
    rw [overL_A] at h
    exact h
  have HPUT := Lib.hid hput; clear hput
  have HOV := Lib.hid hov; clear hov
  go_enter Try.func46, Try.ntmps46
  go_wp2_with fail
  refine (HPUT.out _ _ (Has.new _ _ _)).mono ?_
  rintro e w2 ⟨rfl, hk⟩
  have hk2 := Kept.then (a := w) (by (repeat' (first | with_reducible exact Kept.refl _ _ | with_reducible refine Kept.put ?_ ?_ | with_reducible refine Kept.drewN ?_ _ | with_reducible refine Kept.drew ?_ | with_reducible refine Kept.alloc ?_ _ | (fail) | (right; simp; done)))) hk
  have HK2 := Lib.hid hk2; clear hk2 hk
  go_wp2_with fail
  refine (HOV.out _ _ _ (Has.alloc (Has.new _ _ _) _) (Has.new_at _ _ _ (by simp))).mono ?_
  rintro e w3 ⟨A, c, rfl, hrow, hk⟩
  have hk3 := Kept.then (a := w) (by (repeat' (first | with_reducible exact Kept.refl _ _ | with_reducible refine Kept.put ?_ ?_ | with_reducible refine Kept.drewN ?_ _ | with_reducible refine Kept.drew ?_ | with_reducible refine Kept.alloc ?_ _ | (with_reducible exact HK2.out) | (right; simp; done)))) hk
  have HK3 := Lib.hid hk3; clear hk3 hk
  obtain ⟨ad, rfl, hlt, e0, e1⟩ := pair_cells (Src.of_own hrow.1) (by decide) 0 ⟨sb, s2⟩ rfl
  clear hrow
  simp only [Nat.zero_mul] at e0 e1
  have e00 : w3.cell? ad = some (.string ⟨#[98]⟩) := e0
  clear e0 e1
  go_wp2
  go_ret
  exact ⟨rfl, HK3.out⟩
end Ops
end Go.Proofs.Ytnmlemciiigjcaa
