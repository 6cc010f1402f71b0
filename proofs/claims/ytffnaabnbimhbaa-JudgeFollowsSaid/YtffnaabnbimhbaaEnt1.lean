
/- Entries: how much, how many are stamped, twins, sameness. -/
import Derived.Test.YtffnaabnbimhbaaEnt0
import Derived.Test.YtffnaabnbimhbaaOpsSame
import Derived.Deep.RegionHeld3
import Derived.ChangeKeysEq
set_option linter.unusedSimpArgs false
set_option linter.unusedVariables false
namespace Go.Proofs.Ytffnaabnbimhbaa
open Go.RowKit
set_option maxRecDepth 100000
namespace Ent
open Ops
def muchAt (l : List EntR) (i : Nat) : Nat := l.length + ((l.take i).map fun e => e.ops.length).sum
def muchL (l : List EntR) : Nat := muchAt l 200
theorem sum_le (l : List EntR) (M : Nat) (h : ∀ e ∈ l, e.ops.length ≤ M) : (l.map fun e => e.ops.length).sum ≤ l.length * M := by
  induction l with
  | nil => simp
  | cons a l ih =>
    have h1 := h a (by simp)
    have h2 := ih fun e he => h e (by simp [he])
    simp only [List.map_cons, List.sum_cons, List.length_cons, Nat.succ_mul]
    omega
theorem muchAt_succ {l : List EntR} {i : Nat} {e : EntR} (h : l[i]? = some e) : muchAt l (i + 1) = muchAt l i + e.ops.length := by
  unfold muchAt
  rw [List.take_add_one, h]
  simp
  omega
theorem muchAt_all {l : List EntR} {i : Nat} (h : i = l.length ∨ i = 200) (hi : i ≤ l.length) (hi2 : i ≤ 200) : muchAt l i = muchL l := by
  unfold muchL muchAt
  rcases h with rfl | rfl
  · rw [List.take_of_length_le (Nat.le_refl _), List.take_of_length_le hi2]
  · rfl
theorem muchL_small {l : List EntR} (h : ¬ 100 < muchL l) : l.length ≤ 100 ∧ ∀ e ∈ l, e.ops.length ≤ 100 := by
  unfold muchL muchAt at h
  have h1 : l.length ≤ 100 := by omega
  refine ⟨h1, fun e he => ?_⟩
  rw [List.take_of_length_le (by omega)] at h
  have h2 : e.ops.length ≤ (l.map fun e => e.ops.length).sum := by
    clear h h1
    induction l with
    | nil => cases he
    | cons a l ih =>
      simp only [List.map_cons, List.sum_cons]
      rcases List.mem_cons.1 he with rfl | he
      · omega
      · have := ih he; omega
  omega
def stampL : List EntR → Nat
  | [] => 0
  | e :: l => if e.ts = 0 then 0 else stampL l + 1
theorem stampL_le (l : List EntR) : stampL l ≤ l.length := by
  induction l with
  | nil => exact Nat.le_refl _
  | cons e l ih =>
    unfold stampL
    split
    · exact Nat.zero_le _
    · simp; exact ih
theorem stampL_at {l : List EntR} {i : Nat} {e : EntR} (h : l[i]? = some e) : stampL (l.drop i) = if e.ts = 0 then 0 else stampL (l.drop (i + 1)) + 1 := by
  obtain ⟨hi, rfl⟩ := List.getElem?_eq_some_iff.1 h
  rw [List.drop_eq_getElem_cons hi, stampL]
/-! ### twins, alike, the same -/
def twinB (a b : EntR) : Bool := decide (a.cl = b.cl) && decide (a.req = b.req)
def alikeB (a b : EntR) : Bool := twinB a b && decide (a.ts = b.ts)
def sameE (a b : EntR) : Bool := decide (a.ts = b.ts) && sameB (bat a) (bat b)
end Ent
end Go.Proofs.Ytffnaabnbimhbaa
