/-
  No cell of these rows narrows 'for every input' (looked for: loops, veiled, ifaces, maps, wideKeys, modest, calm, conditions, laid).
  DERIVED. THE GIVEN ROWS OF THIS SEAT. 3 by the template 'for every input the law returns true; each argument reads behind the call as it read before'; 0 by the template 'total and deterministic' (their statements: YthgdkhgpboaplaaTotals.lean).
  GIVEN WITH THE SEED: the statements are not yours to turn. If you find one false, say at which input.
  Laid BY PROGRAM, IN A SANDBOX (cutbox-rows.mjs): the forced cells as the released guide's own fill.sh prints them over the translation fd205a8c1d524c0c… (all of the seat's roots in one cut). By AI agents, Wed Nov 11 2026. No macro, syntax, notation, axiom, sorry.
-/
import Derived.Test.YthgdkhgpboaplaaChecked
import GoSem.Claim
import GoSem.ClaimJoined
import GoSem.ClaimMapViews
import Derived.JoinedTies
import Derived.KernelRfl
namespace Go.Proofs.Ythgdkhgpboaplaa
/- THE CELL 'sum', in the pinned program and in every row, IS THE sha256 OF THE DUMP (.gsa) THAT YthgdkhgpboaplaaProg.lean LOADS. Nothing in Lean hashes anything: it is a label: what it is worth is what the hold of that sum in a sandbox is worth. -/
noncomputable def Try.pinned : Pinned := { name := "ythgdkhgpboaplaa", sum := "fd205a8c1d524c0c6a51740d7d3ff4841351bd16712e8f03cc7caf29f3f7d5bc", checked := Try.checked }
namespace Rows
def none {H : Type} : Left H := { results := [], args := [] }

/-- 'catenalaw13.PointZero': WHATEVER THE INPUT: true; the input reads as it did. -/
def pointZeroSpec : ChangeSpec := { name := "pointZero", fn := fun _ => fun
  | [d1, d2] => { results := [.lit (.bool true)], args := [d1, d2] }
  | _ => none }
def pointZeroRow : OpenClaim := { program := "ythgdkhgpboaplaa", sum := "fd205a8c1d524c0c6a51740d7d3ff4841351bd16712e8f03cc7caf29f3f7d5bc", func := "catena/catenalaw13.PointZero", spec := "pointZero", inPlace := ["internal/abi.NoEscape"], unfollowed := true, recurses := true, apart := false }
def PointZeroSaid : Prop := pointZeroRow.holds Try.pinned (OpenSpec.ofChange pointZeroSpec)

/-- ITS FALSE NEIGHBOUR: 'it returns false'. Refute it at one input. -/
def pointZeroWrong : ChangeSpec := { name := "pointZero", fn := fun _ => fun
  | [d1, d2] => { results := [.lit (.bool false)], args := [d1, d2] }
  | _ => none }
def PointZeroWrongFalsely : Prop := pointZeroRow.holds Try.pinned (OpenSpec.ofChange pointZeroWrong)

/-- 'catenalaw13.PointKeeps': WHATEVER THE INPUT: true; the input reads as it did. -/
def pointKeepsSpec : ChangeSpec := { name := "pointKeeps", fn := fun _ => fun
  | [d] => { results := [.lit (.bool true)], args := [d] }
  | _ => none }
def pointKeepsRow : OpenClaim := { program := "ythgdkhgpboaplaa", sum := "fd205a8c1d524c0c6a51740d7d3ff4841351bd16712e8f03cc7caf29f3f7d5bc", func := "catena/catenalaw13.PointKeeps", spec := "pointKeeps", inPlace := ["internal/abi.NoEscape"], unfollowed := true, recurses := true, apart := false }
def PointKeepsSaid : Prop := pointKeepsRow.holds Try.pinned (OpenSpec.ofChange pointKeepsSpec)

/-- ITS FALSE NEIGHBOUR: 'it returns false'. Refute it at one input. -/
def pointKeepsWrong : ChangeSpec := { name := "pointKeeps", fn := fun _ => fun
  | [d] => { results := [.lit (.bool false)], args := [d] }
  | _ => none }
def PointKeepsWrongFalsely : Prop := pointKeepsRow.holds Try.pinned (OpenSpec.ofChange pointKeepsWrong)

/-- 'catenalaw13.PointTorn': WHATEVER THE INPUT: true; the input reads as it did. -/
def pointTornSpec : ChangeSpec := { name := "pointTorn", fn := fun _ => fun
  | [d1, d2, d3] => { results := [.lit (.bool true)], args := [d1, d2, d3] }
  | _ => none }
def pointTornRow : OpenClaim := { program := "ythgdkhgpboaplaa", sum := "fd205a8c1d524c0c6a51740d7d3ff4841351bd16712e8f03cc7caf29f3f7d5bc", func := "catena/catenalaw13.PointTorn", spec := "pointTorn", inPlace := ["internal/abi.NoEscape"], unfollowed := true, recurses := true, apart := false }
def PointTornSaid : Prop := pointTornRow.holds Try.pinned (OpenSpec.ofChange pointTornSpec)

/-- ITS FALSE NEIGHBOUR: 'it returns false'. Refute it at one input. -/
def pointTornWrong : ChangeSpec := { name := "pointTorn", fn := fun _ => fun
  | [d1, d2, d3] => { results := [.lit (.bool false)], args := [d1, d2, d3] }
  | _ => none }
def PointTornWrongFalsely : Prop := pointTornRow.holds Try.pinned (OpenSpec.ofChange pointTornWrong)

/- THE SECOND FORM. 'bulk': how many values and letters a reading holds, each counted each time it is reached (what is shared counts as often as it is met; a slice's spare places count too). A statement '..UptoSaid' is the law's where the arguments, and the package variables that the reading takes, are together of bulk at most 1048576: NARROWER than '..Said'. Prove '..Said' where nothing that the law and all that it calls make is longer than what came in: it says more and counts as full. Else prove '..UptoSaid'. A law counts once. -/
mutual
def uptoBulk {H : Type} : DataW H → Nat
  | .lit (.string bytes) => bytes.length + 1
  | .lit _ => 1
  | .nil => 1
  | .ptr d => uptoBulk d + 1
  | .slice elems spare => uptoBulkAll elems + uptoBulkAll spare + 1
  | .agg parts => uptoBulkAll parts + 1
  | .iface _ d => uptoBulk d + 1
  | .map entries => uptoBulkEntries entries + 1
  | .held _ => 1
def uptoBulkAll {H : Type} : List (DataW H) → Nat
  | [] => 0
  | d :: r => uptoBulk d + uptoBulkAll r
def uptoBulkEntries {H : Type} : List (Lit × DataW H) → Nat
  | [] => 0
  | x :: r => uptoBulkEntry x + uptoBulkEntries r
def uptoBulkEntry {H : Type} : Lit × DataW H → Nat
  | (.string bytes, d) => bytes.length + uptoBulk d + 1
  | (_, d) => uptoBulk d + 1
 end
def uptoSmall : (H : Type) → List (DataW H) → Bool := fun _ ds => decide (uptoBulkAll ds ≤ 1048576)
def OpenSpec.upto (s : _root_.Go.ChangeSpec) : _root_.Go.OpenSpec := { _root_.Go.OpenSpec.ofChange s with cond := some uptoSmall }

/-- 'catenalaw13.PointZero', WHERE WHAT IT READS IS OF BULK AT MOST 1048576: true; the input reads as it did. -/
def pointZeroUptoRow : OpenClaim := { program := "ythgdkhgpboaplaa", sum := "fd205a8c1d524c0c6a51740d7d3ff4841351bd16712e8f03cc7caf29f3f7d5bc", func := "catena/catenalaw13.PointZero", spec := "pointZero", inPlace := ["internal/abi.NoEscape"], unfollowed := true, recurses := true, apart := false, narrowed := true }
def PointZeroUptoSaid : Prop := pointZeroUptoRow.holds Try.pinned (OpenSpec.upto pointZeroSpec)

/-- 'catenalaw13.PointKeeps', WHERE WHAT IT READS IS OF BULK AT MOST 1048576: true; the input reads as it did. -/
def pointKeepsUptoRow : OpenClaim := { program := "ythgdkhgpboaplaa", sum := "fd205a8c1d524c0c6a51740d7d3ff4841351bd16712e8f03cc7caf29f3f7d5bc", func := "catena/catenalaw13.PointKeeps", spec := "pointKeeps", inPlace := ["internal/abi.NoEscape"], unfollowed := true, recurses := true, apart := false, narrowed := true }
def PointKeepsUptoSaid : Prop := pointKeepsUptoRow.holds Try.pinned (OpenSpec.upto pointKeepsSpec)

/-- 'catenalaw13.PointTorn', WHERE WHAT IT READS IS OF BULK AT MOST 1048576: true; the input reads as it did. -/
def pointTornUptoRow : OpenClaim := { program := "ythgdkhgpboaplaa", sum := "fd205a8c1d524c0c6a51740d7d3ff4841351bd16712e8f03cc7caf29f3f7d5bc", func := "catena/catenalaw13.PointTorn", spec := "pointTorn", inPlace := ["internal/abi.NoEscape"], unfollowed := true, recurses := true, apart := false, narrowed := true }
def PointTornUptoSaid : Prop := pointTornUptoRow.holds Try.pinned (OpenSpec.upto pointTornSpec)

end Rows
end Go.Proofs.Ythgdkhgpboaplaa
