
/- Entries: twins, alike, the same, all the same. -/
import Derived.Test.YtffnaabnbimhbaaEnt1
set_option linter.unusedSimpArgs false
set_option linter.unusedVariables false
namespace Go.Proofs.Ytffnaabnbimhbaa
open Go.RowKit
set_option maxRecDepth 100000
namespace Ent
open Ops
abbrev earr (e : EntR) : Array Value := #[.int .i64 e.cl, .int .i64 e.req, .slice e.A e.ops.length e.c, .int .u64 e.ts]
def bareE (e : EntR) : EntR := ⟨e.cl, e.req, none, 0, [], e.ts⟩
theorem LOk.at {w : World} {l : List EntR} (h : LOk w l) {i : Nat} {e : EntR} (he : l[i]? = some e) : EOk w e := h e (List.mem_of_getElem? he)
def sameAllB : List EntR → List EntR → Bool
  | [], [] => true
  | a :: l, b :: m => sameE a b && sameAllB l m
  | _, _ => false
theorem sameAllB_len {l m : List EntR} (h : l.length ≠ m.length) : sameAllB l m = false := by
  induction l generalizing m with
  | nil => cases m <;> simp_all [sameAllB]
  | cons a l ih =>
    cases m with
    | nil => rfl
    | cons b m => rw [sameAllB, ih (by simpa using h), Bool.and_false]
theorem sameAllB_at {l m : List EntR} {i : Nat} {a b : EntR} (ha : l[i]? = some a) (hb : m[i]? = some b) : sameAllB (l.drop i) (m.drop i) = (sameE a b && sameAllB (l.drop (i + 1)) (m.drop (i + 1))) := by
  obtain ⟨hi, rfl⟩ := List.getElem?_eq_some_iff.1 ha
  obtain ⟨hj, rfl⟩ := List.getElem?_eq_some_iff.1 hb
  rw [List.drop_eq_getElem_cons hi, List.drop_eq_getElem_cons hj, sameAllB]
end Ent
end Go.Proofs.Ytffnaabnbimhbaa
