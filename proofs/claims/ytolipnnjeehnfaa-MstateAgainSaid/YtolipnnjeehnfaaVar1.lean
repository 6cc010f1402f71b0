
/- varnum: what the program and the document compute of a number. -/
import Derived.Test.YtolipnnjeehnfaaSlice
import Derived.Test.YtolipnnjeehnfaaOpsPlain
import Derived.Test.YtolipnnjeehnfaaChecked
import Derived.WalkKit
import Derived.WalkSpells
import Derived.WalkMore
import Derived.WalkLawsBesides
import Derived.BigQuiet
import Derived.Deep.QuietTactic
import Derived.Lib.Hide
import Derived.Lib.UnsafeStr
import Derived.Deep.OwnRows
import Derived.Lib.SlBytesRow
set_option linter.unusedSimpArgs false
set_option linter.unusedVariables false
namespace Go.Proofs.Ytolipnnjeehnfaa
open Go.RowKit
set_option maxRecDepth 100000
namespace Vn
open Ops (ofL bl)
/-- A slice of the call's own: its cells, and that its row is new. -/
def NewSl (e : TypeId) (size B : Nat) (w : World) (A : Option Addr) (n c : Nat) (xs : List Value) : Prop :=
  w.ownsRow 0 e size (.slice A n c) n xs ∧ ∀ k, (Value.slice A n c).ownBlock = some k → B ≤ k
theorem NewSl.kept {e : TypeId} {size B n c : Nat} {w w' : World} {A : Option Addr} {xs : List Value} (h : NewSl e size B w A n c xs) (hk : Kept NoF w w') : NewSl e size B w' A n c xs :=
  ⟨own_kept h.1 hk (fun _ _ x => x), h.2⟩
theorem NewSl.snoc {e : TypeId} {size B n c n' c' : Nat} {w w1 w' : World} {A A' : Option Addr} {xs ys : List Value} (h : NewSl e size B w A n c xs) (hB : B ≤ w1.heap.size) (ho : w'.ownsRow 0 e size (.slice A' n' c') n' ys)
    (ha : (Value.slice A' n' c').ownBlock = (Value.slice A n c).ownBlock ∨ (Value.slice A' n' c').ownBlock = some w1.heap.size) : NewSl e size B w' A' n' c' ys :=
  ⟨ho, fun k hk => by
    rcases ha with e1 | e1
    · exact h.2 k (e1.symm.trans hk)
    · rw [hk] at e1; injection e1 with e1; omega⟩
theorem add_row (g i : Nat) : ((⟨g, 0, none⟩ : Addr).add i) = ⟨g, i, none⟩ := by unfold Addr.add; split <;> simp_all
theorem byteCells_get (l : List UInt8) (i : Nat) (x : UInt8) (h : l[i]? = some x) : (Lib.byteCells l)[i]? = some (.int .u8 x.toNat) := by simp [Lib.byteCells, h]
theorem made_eq (m : Nat) : (madeCells #[Value.int .u8 0] m) = (List.replicate m (.int .u8 0)).toArray := by
  have h := toList_madeCells_one (.int .u8 0) m
  rw [← h, Array.toArray_toList]
theorem set_tail (u : Value) (j : Nat) (z d : Value) (T T' : List Value) (h : T' = d :: T) : (u :: (List.replicate (j + 1) z ++ T)).toArray.setIfInBounds (j + 1) d = (u :: (List.replicate j z ++ T')).toArray := by
  subst h
  rw [List.setIfInBounds_toArray]
  congr 1
  rw [List.set_cons_succ, List.replicate_succ', List.append_assoc, List.set_append_right _ _ (by simp)]
  simp
end Vn
end Go.Proofs.Ytolipnnjeehnfaa
