
/- story.Holds, story.Add. -/
import Derived.Test.YtffnaabnbimhbaaEnt3
set_option linter.unusedSimpArgs false
set_option linter.unusedVariables false
namespace Go.Proofs.Ytffnaabnbimhbaa
open Go.RowKit
set_option maxRecDepth 100000
namespace Ent
open Ops Vn
def holdsL (w log : List EntR) : Int := if log.length < w.length then 7 else if agreeB w log = true then 0 else 18
def addN (log : List EntR) (st : Int) : Nat := min (max st 0).toNat (stampL log)
theorem addN_le (log : List EntR) (st : Int) : addN log st ≤ log.length := by
  have := stampL_le log
  unfold addN
  omega
def grown (w log : List EntR) (i : Nat) : List EntR := w ++ ((log.take i).drop w.length).map bareE
theorem grown_small {w log : List EntR} {i : Nat} (h : i ≤ w.length) : grown w log i = w := by
  unfold grown
  rw [List.drop_of_length_le (by rw [List.length_take]; omega)]
  simp
theorem grown_succ {w log : List EntR} {i : Nat} {e : EntR} (he : log[i]? = some e) (h : w.length ≤ i) : grown w log (i + 1) = grown w log i ++ [bareE e] := by
  unfold grown
  have hi := (List.getElem?_eq_some_iff.1 he).1
  rw [List.take_add_one, he, List.drop_append_of_le_length (by rw [List.length_take]; omega)]
  simp
theorem grown_len (w log : List EntR) (i : Nat) : (grown w log i).length ≤ w.length + i := by
  unfold grown
  simp
  omega
def addL (w log : List EntR) (st : Int) : List EntR × Int := if agreeB w (log.take (addN log st)) = true then (grown w log (addN log st), 0) else ([], 18)
def AddPost (w : World) (r : List EntR × Int) (e : Ending) (w' : World) : Prop :=
  ∃ A c, e = .returned (.tuple #[.slice A r.1.length c, .int .i64 r.2]) ∧ NewSl 40 4 w.heap.size w' A r.1.length c (ecells r.1) ∧ Kept NoF w w'
end Ent
end Go.Proofs.Ytffnaabnbimhbaa
