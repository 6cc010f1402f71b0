
/- Entries: story.Add, story.Holds. -/
import Derived.Test.YtffnaabnbimhbaaEnt2
import Derived.StillTailTactics
import Derived.WalkSpells
set_option linter.unusedSimpArgs false
set_option linter.unusedVariables false
namespace Go.Proofs.Ytffnaabnbimhbaa
open Go.RowKit
set_option maxRecDepth 100000
namespace Ent
open Ops Vn
theorem elemEnt : Elem Try.prog 41 40 4 48 := by
  obtain ⟨i0, hi, hz0, hz1, hz2⟩ := info_parts (show (Try.prog.info? 40).map (fun i => (i.zero, i.size, i.bytes)) = some (some (.agg #[.int .i64 0, .int .i64 0, .slice none 0 0, .int .u64 0]), 4, 48) by kernel_rfl)
  exact ⟨Try.underlying41, ⟨i0, _, hi, hz0, hz1, hz2, rfl⟩, by decide⟩
/-- A new slice that holds the entries l. -/
def NewEnts (w : World) (l : List EntR) (e : Ending) (w' : World) : Prop :=
  ∃ A c, e = .returned (.slice A l.length c) ∧ NewSl 40 4 w.heap.size w' A l.length c (ecells l) ∧ Kept NoF w w'
def alikeAllB : List EntR → List EntR → Bool
  | [], [] => true
  | a :: l, b :: m => alikeB a b && alikeAllB l m
  | _, _ => false
theorem alikeAllB_len {l m : List EntR} (h : l.length ≠ m.length) : alikeAllB l m = false := by
  induction l generalizing m with
  | nil => cases m <;> simp_all [alikeAllB]
  | cons a l ih =>
    cases m with
    | nil => rfl
    | cons b m => rw [alikeAllB, ih (by simpa using h), Bool.and_false]
theorem alikeAllB_at {l m : List EntR} {i : Nat} {a b : EntR} (ha : l[i]? = some a) (hb : m[i]? = some b) : alikeAllB (l.drop i) (m.drop i) = (alikeB a b && alikeAllB (l.drop (i + 1)) (m.drop (i + 1))) := by
  obtain ⟨hi, rfl⟩ := List.getElem?_eq_some_iff.1 ha
  obtain ⟨hj, rfl⟩ := List.getElem?_eq_some_iff.1 hb
  rw [List.drop_eq_getElem_cons hi, List.drop_eq_getElem_cons hj, alikeAllB]
def agreeB (l m : List EntR) : Bool := alikeAllB (l.take (min l.length m.length)) (m.take (min l.length m.length))
theorem Src.takeE {w : World} {A : Option Addr} {l : List EntR} (h : Src w 4 A l.length (ecells l)) {k : Nat} (hk : k ≤ l.length) : Src w 4 A (l.take k).length (ecells (l.take k)) := by
  have h1 := h.take hk
  rw [ecells_take] at h1
  rwa [List.length_take, Nat.min_eq_left hk]
end Ent
end Go.Proofs.Ytffnaabnbimhbaa
