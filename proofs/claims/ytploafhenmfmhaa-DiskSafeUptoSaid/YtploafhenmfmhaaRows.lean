/-
  No cell of these rows narrows 'for every input' (looked for: loops, veiled, ifaces, maps, wideKeys, modest, calm, conditions, laid).
  DERIVED. THE GIVEN ROWS OF THIS SEAT. 13 by the template 'for every input the law returns true; each argument reads behind the call as it read before'; 0 by the template 'total and deterministic' (their statements: YtploafhenmfmhaaTotals.lean).
  GIVEN WITH THE SEED: the statements are not yours to turn. If you find one false, say at which input.
  Laid BY PROGRAM, IN A SANDBOX (cutbox-rows.mjs): the forced cells as the released guide's own fill.sh prints them over the translation fdc6864d2ee6e3d2… (all of the seat's roots in one cut). By AI agents, Wed Nov 11 2026. No macro, syntax, notation, axiom, sorry.
-/
import Derived.Test.YtploafhenmfmhaaChecked
import GoSem.Claim
import GoSem.ClaimJoined
import GoSem.ClaimMapViews
import Derived.JoinedTies
import Derived.KernelRfl
namespace Go.Proofs.Ytploafhenmfmhaa
/- THE CELL 'sum', in the pinned program and in every row, IS THE sha256 OF THE DUMP (.gsa) THAT YtploafhenmfmhaaProg.lean LOADS. Nothing in Lean hashes anything: it is a label: what it is worth is what the hold of that sum in a sandbox is worth. -/
noncomputable def Try.pinned : Pinned := { name := "ytploafhenmfmhaa", sum := "fdc6864d2ee6e3d2f4ff7e0846d5518841a06082ddfa823501a86004cc025920", checked := Try.checked }
namespace Rows
def none {H : Type} : Left H := { results := [], args := [] }

/-- 'catenalaw05.KeysNext': WHATEVER THE INPUT: true; the input reads as it did. -/
def keysNextSpec : ChangeSpec := { name := "keysNext", fn := fun _ => fun
  | [d1, d2] => { results := [.lit (.bool true)], args := [d1, d2] }
  | _ => none }
def keysNextRow : OpenClaim := { program := "ytploafhenmfmhaa", sum := "fdc6864d2ee6e3d2f4ff7e0846d5518841a06082ddfa823501a86004cc025920", func := "catena/catenalaw05.KeysNext", spec := "keysNext", apart := false }
def KeysNextSaid : Prop := keysNextRow.holds Try.pinned (OpenSpec.ofChange keysNextSpec)

/-- ITS FALSE NEIGHBOUR: 'it returns false'. Refute it at one input. -/
def keysNextWrong : ChangeSpec := { name := "keysNext", fn := fun _ => fun
  | [d1, d2] => { results := [.lit (.bool false)], args := [d1, d2] }
  | _ => none }
def KeysNextWrongFalsely : Prop := keysNextRow.holds Try.pinned (OpenSpec.ofChange keysNextWrong)

/-- 'catenalaw21.EtherAll': WHATEVER THE INPUT: true; the input reads as it did. -/
def etherAllSpec : ChangeSpec := { name := "etherAll", fn := fun _ => fun
  | [d1, d2] => { results := [.lit (.bool true)], args := [d1, d2] }
  | _ => none }
def etherAllRow : OpenClaim := { program := "ytploafhenmfmhaa", sum := "fdc6864d2ee6e3d2f4ff7e0846d5518841a06082ddfa823501a86004cc025920", func := "catena/catenalaw21.EtherAll", spec := "etherAll", apart := false }
def EtherAllSaid : Prop := etherAllRow.holds Try.pinned (OpenSpec.ofChange etherAllSpec)

/-- ITS FALSE NEIGHBOUR: 'it returns false'. Refute it at one input. -/
def etherAllWrong : ChangeSpec := { name := "etherAll", fn := fun _ => fun
  | [d1, d2] => { results := [.lit (.bool false)], args := [d1, d2] }
  | _ => none }
def EtherAllWrongFalsely : Prop := etherAllRow.holds Try.pinned (OpenSpec.ofChange etherAllWrong)

/-- 'catenalaw21.EtherFull': WHATEVER THE INPUT: true; the input reads as it did. -/
def etherFullSpec : ChangeSpec := { name := "etherFull", fn := fun _ => fun
  | [d1, d2] => { results := [.lit (.bool true)], args := [d1, d2] }
  | _ => none }
def etherFullRow : OpenClaim := { program := "ytploafhenmfmhaa", sum := "fdc6864d2ee6e3d2f4ff7e0846d5518841a06082ddfa823501a86004cc025920", func := "catena/catenalaw21.EtherFull", spec := "etherFull", apart := false }
def EtherFullSaid : Prop := etherFullRow.holds Try.pinned (OpenSpec.ofChange etherFullSpec)

/-- ITS FALSE NEIGHBOUR: 'it returns false'. Refute it at one input. -/
def etherFullWrong : ChangeSpec := { name := "etherFull", fn := fun _ => fun
  | [d1, d2] => { results := [.lit (.bool false)], args := [d1, d2] }
  | _ => none }
def EtherFullWrongFalsely : Prop := etherFullRow.holds Try.pinned (OpenSpec.ofChange etherFullWrong)

/-- 'catenalaw11.DiskOrder': WHATEVER THE INPUT: true; the input reads as it did. -/
def diskOrderSpec : ChangeSpec := { name := "diskOrder", fn := fun _ => fun
  | [d1, d2] => { results := [.lit (.bool true)], args := [d1, d2] }
  | _ => none }
def diskOrderRow : OpenClaim := { program := "ytploafhenmfmhaa", sum := "fdc6864d2ee6e3d2f4ff7e0846d5518841a06082ddfa823501a86004cc025920", func := "catena/catenalaw11.DiskOrder", spec := "diskOrder", inPlace := ["internal/abi.NoEscape"], apart := false }
def DiskOrderSaid : Prop := diskOrderRow.holds Try.pinned (OpenSpec.ofChange diskOrderSpec)

/-- ITS FALSE NEIGHBOUR: 'it returns false'. Refute it at one input. -/
def diskOrderWrong : ChangeSpec := { name := "diskOrder", fn := fun _ => fun
  | [d1, d2] => { results := [.lit (.bool false)], args := [d1, d2] }
  | _ => none }
def DiskOrderWrongFalsely : Prop := diskOrderRow.holds Try.pinned (OpenSpec.ofChange diskOrderWrong)

/-- 'catenalaw21.EtherPlays': WHATEVER THE INPUT: true; the input reads as it did. -/
def etherPlaysSpec : ChangeSpec := { name := "etherPlays", fn := fun _ => fun
  | [d] => { results := [.lit (.bool true)], args := [d] }
  | _ => none }
def etherPlaysRow : OpenClaim := { program := "ytploafhenmfmhaa", sum := "fdc6864d2ee6e3d2f4ff7e0846d5518841a06082ddfa823501a86004cc025920", func := "catena/catenalaw21.EtherPlays", spec := "etherPlays", unfollowed := true, recurses := true, apart := false }
def EtherPlaysSaid : Prop := etherPlaysRow.holds Try.pinned (OpenSpec.ofChange etherPlaysSpec)

/-- ITS FALSE NEIGHBOUR: 'it returns false'. Refute it at one input. -/
def etherPlaysWrong : ChangeSpec := { name := "etherPlays", fn := fun _ => fun
  | [d] => { results := [.lit (.bool false)], args := [d] }
  | _ => none }
def EtherPlaysWrongFalsely : Prop := etherPlaysRow.holds Try.pinned (OpenSpec.ofChange etherPlaysWrong)

/-- 'catenalaw21.EtherZero': WHATEVER THE INPUT: true; the input reads as it did. -/
def etherZeroSpec : ChangeSpec := { name := "etherZero", fn := fun _ => fun
  | [d1, d2] => { results := [.lit (.bool true)], args := [d1, d2] }
  | _ => none }
def etherZeroRow : OpenClaim := { program := "ytploafhenmfmhaa", sum := "fdc6864d2ee6e3d2f4ff7e0846d5518841a06082ddfa823501a86004cc025920", func := "catena/catenalaw21.EtherZero", spec := "etherZero", unfollowed := true, recurses := true, apart := false }
def EtherZeroSaid : Prop := etherZeroRow.holds Try.pinned (OpenSpec.ofChange etherZeroSpec)

/-- ITS FALSE NEIGHBOUR: 'it returns false'. Refute it at one input. -/
def etherZeroWrong : ChangeSpec := { name := "etherZero", fn := fun _ => fun
  | [d1, d2] => { results := [.lit (.bool false)], args := [d1, d2] }
  | _ => none }
def EtherZeroWrongFalsely : Prop := etherZeroRow.holds Try.pinned (OpenSpec.ofChange etherZeroWrong)

/-- 'catenalaw05.KeysPlays': WHATEVER THE INPUT: true; the input reads as it did. -/
def keysPlaysSpec : ChangeSpec := { name := "keysPlays", fn := fun _ => fun
  | [d1, d2, d3, d4] => { results := [.lit (.bool true)], args := [d1, d2, d3, d4] }
  | _ => none }
def keysPlaysRow : OpenClaim := { program := "ytploafhenmfmhaa", sum := "fdc6864d2ee6e3d2f4ff7e0846d5518841a06082ddfa823501a86004cc025920", func := "catena/catenalaw05.KeysPlays", spec := "keysPlays", recurses := true, apart := false }
def KeysPlaysSaid : Prop := keysPlaysRow.holds Try.pinned (OpenSpec.ofChange keysPlaysSpec)

/-- ITS FALSE NEIGHBOUR: 'it returns false'. Refute it at one input. -/
def keysPlaysWrong : ChangeSpec := { name := "keysPlays", fn := fun _ => fun
  | [d1, d2, d3, d4] => { results := [.lit (.bool false)], args := [d1, d2, d3, d4] }
  | _ => none }
def KeysPlaysWrongFalsely : Prop := keysPlaysRow.holds Try.pinned (OpenSpec.ofChange keysPlaysWrong)

/-- 'catenalaw05.KeysSets': WHATEVER THE INPUT: true; the input reads as it did. -/
def keysSetsSpec : ChangeSpec := { name := "keysSets", fn := fun _ => fun
  | [d1, d2] => { results := [.lit (.bool true)], args := [d1, d2] }
  | _ => none }
def keysSetsRow : OpenClaim := { program := "ytploafhenmfmhaa", sum := "fdc6864d2ee6e3d2f4ff7e0846d5518841a06082ddfa823501a86004cc025920", func := "catena/catenalaw05.KeysSets", spec := "keysSets", recurses := true, apart := false }
def KeysSetsSaid : Prop := keysSetsRow.holds Try.pinned (OpenSpec.ofChange keysSetsSpec)

/-- ITS FALSE NEIGHBOUR: 'it returns false'. Refute it at one input. -/
def keysSetsWrong : ChangeSpec := { name := "keysSets", fn := fun _ => fun
  | [d1, d2] => { results := [.lit (.bool false)], args := [d1, d2] }
  | _ => none }
def KeysSetsWrongFalsely : Prop := keysSetsRow.holds Try.pinned (OpenSpec.ofChange keysSetsWrong)

/-- 'catenalaw11.DiskSafe': WHATEVER THE INPUT: true; the input reads as it did. -/
def diskSafeSpec : ChangeSpec := { name := "diskSafe", fn := fun _ => fun
  | [d1, d2, d3] => { results := [.lit (.bool true)], args := [d1, d2, d3] }
  | _ => none }
def diskSafeRow : OpenClaim := { program := "ytploafhenmfmhaa", sum := "fdc6864d2ee6e3d2f4ff7e0846d5518841a06082ddfa823501a86004cc025920", func := "catena/catenalaw11.DiskSafe", spec := "diskSafe", inPlace := ["internal/abi.NoEscape"], unfollowed := true, recurses := true, apart := false }
def DiskSafeSaid : Prop := diskSafeRow.holds Try.pinned (OpenSpec.ofChange diskSafeSpec)

/-- ITS FALSE NEIGHBOUR: 'it returns false'. Refute it at one input. -/
def diskSafeWrong : ChangeSpec := { name := "diskSafe", fn := fun _ => fun
  | [d1, d2, d3] => { results := [.lit (.bool false)], args := [d1, d2, d3] }
  | _ => none }
def DiskSafeWrongFalsely : Prop := diskSafeRow.holds Try.pinned (OpenSpec.ofChange diskSafeWrong)

/-- 'catenalaw11.DiskPlays': WHATEVER THE INPUT: true; the input reads as it did. -/
def diskPlaysSpec : ChangeSpec := { name := "diskPlays", fn := fun _ => fun
  | [d] => { results := [.lit (.bool true)], args := [d] }
  | _ => none }
def diskPlaysRow : OpenClaim := { program := "ytploafhenmfmhaa", sum := "fdc6864d2ee6e3d2f4ff7e0846d5518841a06082ddfa823501a86004cc025920", func := "catena/catenalaw11.DiskPlays", spec := "diskPlays", inPlace := ["internal/abi.NoEscape"], unfollowed := true, recurses := true, apart := false }
def DiskPlaysSaid : Prop := diskPlaysRow.holds Try.pinned (OpenSpec.ofChange diskPlaysSpec)

/-- ITS FALSE NEIGHBOUR: 'it returns false'. Refute it at one input. -/
def diskPlaysWrong : ChangeSpec := { name := "diskPlays", fn := fun _ => fun
  | [d] => { results := [.lit (.bool false)], args := [d] }
  | _ => none }
def DiskPlaysWrongFalsely : Prop := diskPlaysRow.holds Try.pinned (OpenSpec.ofChange diskPlaysWrong)

/-- 'catenalaw11.DiskZero': WHATEVER THE INPUT: true; the input reads as it did. -/
def diskZeroSpec : ChangeSpec := { name := "diskZero", fn := fun _ => fun
  | [d1, d2] => { results := [.lit (.bool true)], args := [d1, d2] }
  | _ => none }
def diskZeroRow : OpenClaim := { program := "ytploafhenmfmhaa", sum := "fdc6864d2ee6e3d2f4ff7e0846d5518841a06082ddfa823501a86004cc025920", func := "catena/catenalaw11.DiskZero", spec := "diskZero", inPlace := ["internal/abi.NoEscape"], unfollowed := true, recurses := true, apart := false }
def DiskZeroSaid : Prop := diskZeroRow.holds Try.pinned (OpenSpec.ofChange diskZeroSpec)

/-- ITS FALSE NEIGHBOUR: 'it returns false'. Refute it at one input. -/
def diskZeroWrong : ChangeSpec := { name := "diskZero", fn := fun _ => fun
  | [d1, d2] => { results := [.lit (.bool false)], args := [d1, d2] }
  | _ => none }
def DiskZeroWrongFalsely : Prop := diskZeroRow.holds Try.pinned (OpenSpec.ofChange diskZeroWrong)

/-- 'catenalaw12.WalZero': WHATEVER THE INPUT: true; the input reads as it did. -/
def walZeroSpec : ChangeSpec := { name := "walZero", fn := fun _ => fun
  | [d1, d2] => { results := [.lit (.bool true)], args := [d1, d2] }
  | _ => none }
def walZeroRow : OpenClaim := { program := "ytploafhenmfmhaa", sum := "fdc6864d2ee6e3d2f4ff7e0846d5518841a06082ddfa823501a86004cc025920", func := "catena/catenalaw12.WalZero", spec := "walZero", inPlace := ["internal/abi.NoEscape"], unfollowed := true, recurses := true, apart := false }
def WalZeroSaid : Prop := walZeroRow.holds Try.pinned (OpenSpec.ofChange walZeroSpec)

/-- ITS FALSE NEIGHBOUR: 'it returns false'. Refute it at one input. -/
def walZeroWrong : ChangeSpec := { name := "walZero", fn := fun _ => fun
  | [d1, d2] => { results := [.lit (.bool false)], args := [d1, d2] }
  | _ => none }
def WalZeroWrongFalsely : Prop := walZeroRow.holds Try.pinned (OpenSpec.ofChange walZeroWrong)

/-- 'catenalaw12.WalKeeps': WHATEVER THE INPUT: true; the input reads as it did. -/
def walKeepsSpec : ChangeSpec := { name := "walKeeps", fn := fun _ => fun
  | [d] => { results := [.lit (.bool true)], args := [d] }
  | _ => none }
def walKeepsRow : OpenClaim := { program := "ytploafhenmfmhaa", sum := "fdc6864d2ee6e3d2f4ff7e0846d5518841a06082ddfa823501a86004cc025920", func := "catena/catenalaw12.WalKeeps", spec := "walKeeps", inPlace := ["internal/abi.NoEscape"], unfollowed := true, recurses := true, apart := false }
def WalKeepsSaid : Prop := walKeepsRow.holds Try.pinned (OpenSpec.ofChange walKeepsSpec)

/-- ITS FALSE NEIGHBOUR: 'it returns false'. Refute it at one input. -/
def walKeepsWrong : ChangeSpec := { name := "walKeeps", fn := fun _ => fun
  | [d] => { results := [.lit (.bool false)], args := [d] }
  | _ => none }
def WalKeepsWrongFalsely : Prop := walKeepsRow.holds Try.pinned (OpenSpec.ofChange walKeepsWrong)

/- THE SECOND FORM. 'bulk': how many values and letters a reading holds, each counted each time it is reached (what is shared counts as often as it is met; a slice's spare places count too). A statement '..UptoSaid' is the law's where the arguments, and the package variables that the reading takes, are together of bulk at most 1048576: NARROWER than '..Said'. Prove '..Said' where nothing that the law and all that it calls make is longer than what came in: it says more and counts as full. Else prove '..UptoSaid'. A law counts once. -/
mutual
def uptoBulk {H : Type} : DataW H → Nat
  | .lit (.string bytes) => bytes.length + 1
  | .lit _ => 1
  | .nil => 1
  | .ptr d => uptoBulk d + 1
  | .slice elems spare => uptoBulkAll elems + uptoBulkAll spare + 1
  | .agg parts => uptoBulkAll parts + 1
  | .iface _ d => uptoBulk d + 1
  | .map entries => uptoBulkEntries entries + 1
  | .held _ => 1
def uptoBulkAll {H : Type} : List (DataW H) → Nat
  | [] => 0
  | d :: r => uptoBulk d + uptoBulkAll r
def uptoBulkEntries {H : Type} : List (Lit × DataW H) → Nat
  | [] => 0
  | x :: r => uptoBulkEntry x + uptoBulkEntries r
def uptoBulkEntry {H : Type} : Lit × DataW H → Nat
  | (.string bytes, d) => bytes.length + uptoBulk d + 1
  | (_, d) => uptoBulk d + 1
 end
def uptoSmall : (H : Type) → List (DataW H) → Bool := fun _ ds => decide (uptoBulkAll ds ≤ 1048576)
def OpenSpec.upto (s : _root_.Go.ChangeSpec) : _root_.Go.OpenSpec := { _root_.Go.OpenSpec.ofChange s with cond := some uptoSmall }

/-- 'catenalaw05.KeysNext', WHERE WHAT IT READS IS OF BULK AT MOST 1048576: true; the input reads as it did. -/
def keysNextUptoRow : OpenClaim := { program := "ytploafhenmfmhaa", sum := "fdc6864d2ee6e3d2f4ff7e0846d5518841a06082ddfa823501a86004cc025920", func := "catena/catenalaw05.KeysNext", spec := "keysNext", apart := false, narrowed := true }
def KeysNextUptoSaid : Prop := keysNextUptoRow.holds Try.pinned (OpenSpec.upto keysNextSpec)

/-- 'catenalaw21.EtherAll', WHERE WHAT IT READS IS OF BULK AT MOST 1048576: true; the input reads as it did. -/
def etherAllUptoRow : OpenClaim := { program := "ytploafhenmfmhaa", sum := "fdc6864d2ee6e3d2f4ff7e0846d5518841a06082ddfa823501a86004cc025920", func := "catena/catenalaw21.EtherAll", spec := "etherAll", apart := false, narrowed := true }
def EtherAllUptoSaid : Prop := etherAllUptoRow.holds Try.pinned (OpenSpec.upto etherAllSpec)

/-- 'catenalaw21.EtherFull', WHERE WHAT IT READS IS OF BULK AT MOST 1048576: true; the input reads as it did. -/
def etherFullUptoRow : OpenClaim := { program := "ytploafhenmfmhaa", sum := "fdc6864d2ee6e3d2f4ff7e0846d5518841a06082ddfa823501a86004cc025920", func := "catena/catenalaw21.EtherFull", spec := "etherFull", apart := false, narrowed := true }
def EtherFullUptoSaid : Prop := etherFullUptoRow.holds Try.pinned (OpenSpec.upto etherFullSpec)

/-- 'catenalaw11.DiskOrder', WHERE WHAT IT READS IS OF BULK AT MOST 1048576: true; the input reads as it did. -/
def diskOrderUptoRow : OpenClaim := { program := "ytploafhenmfmhaa", sum := "fdc6864d2ee6e3d2f4ff7e0846d5518841a06082ddfa823501a86004cc025920", func := "catena/catenalaw11.DiskOrder", spec := "diskOrder", inPlace := ["internal/abi.NoEscape"], apart := false, narrowed := true }
def DiskOrderUptoSaid : Prop := diskOrderUptoRow.holds Try.pinned (OpenSpec.upto diskOrderSpec)

/-- 'catenalaw21.EtherPlays', WHERE WHAT IT READS IS OF BULK AT MOST 1048576: true; the input reads as it did. -/
def etherPlaysUptoRow : OpenClaim := { program := "ytploafhenmfmhaa", sum := "fdc6864d2ee6e3d2f4ff7e0846d5518841a06082ddfa823501a86004cc025920", func := "catena/catenalaw21.EtherPlays", spec := "etherPlays", unfollowed := true, recurses := true, apart := false, narrowed := true }
def EtherPlaysUptoSaid : Prop := etherPlaysUptoRow.holds Try.pinned (OpenSpec.upto etherPlaysSpec)

/-- 'catenalaw21.EtherZero', WHERE WHAT IT READS IS OF BULK AT MOST 1048576: true; the input reads as it did. -/
def etherZeroUptoRow : OpenClaim := { program := "ytploafhenmfmhaa", sum := "fdc6864d2ee6e3d2f4ff7e0846d5518841a06082ddfa823501a86004cc025920", func := "catena/catenalaw21.EtherZero", spec := "etherZero", unfollowed := true, recurses := true, apart := false, narrowed := true }
def EtherZeroUptoSaid : Prop := etherZeroUptoRow.holds Try.pinned (OpenSpec.upto etherZeroSpec)

/-- 'catenalaw05.KeysPlays', WHERE WHAT IT READS IS OF BULK AT MOST 1048576: true; the input reads as it did. -/
def keysPlaysUptoRow : OpenClaim := { program := "ytploafhenmfmhaa", sum := "fdc6864d2ee6e3d2f4ff7e0846d5518841a06082ddfa823501a86004cc025920", func := "catena/catenalaw05.KeysPlays", spec := "keysPlays", recurses := true, apart := false, narrowed := true }
def KeysPlaysUptoSaid : Prop := keysPlaysUptoRow.holds Try.pinned (OpenSpec.upto keysPlaysSpec)

/-- 'catenalaw05.KeysSets', WHERE WHAT IT READS IS OF BULK AT MOST 1048576: true; the input reads as it did. -/
def keysSetsUptoRow : OpenClaim := { program := "ytploafhenmfmhaa", sum := "fdc6864d2ee6e3d2f4ff7e0846d5518841a06082ddfa823501a86004cc025920", func := "catena/catenalaw05.KeysSets", spec := "keysSets", recurses := true, apart := false, narrowed := true }
def KeysSetsUptoSaid : Prop := keysSetsUptoRow.holds Try.pinned (OpenSpec.upto keysSetsSpec)

/-- 'catenalaw11.DiskSafe', WHERE WHAT IT READS IS OF BULK AT MOST 1048576: true; the input reads as it did. -/
def diskSafeUptoRow : OpenClaim := { program := "ytploafhenmfmhaa", sum := "fdc6864d2ee6e3d2f4ff7e0846d5518841a06082ddfa823501a86004cc025920", func := "catena/catenalaw11.DiskSafe", spec := "diskSafe", inPlace := ["internal/abi.NoEscape"], unfollowed := true, recurses := true, apart := false, narrowed := true }
def DiskSafeUptoSaid : Prop := diskSafeUptoRow.holds Try.pinned (OpenSpec.upto diskSafeSpec)

/-- 'catenalaw11.DiskPlays', WHERE WHAT IT READS IS OF BULK AT MOST 1048576: true; the input reads as it did. -/
def diskPlaysUptoRow : OpenClaim := { program := "ytploafhenmfmhaa", sum := "fdc6864d2ee6e3d2f4ff7e0846d5518841a06082ddfa823501a86004cc025920", func := "catena/catenalaw11.DiskPlays", spec := "diskPlays", inPlace := ["internal/abi.NoEscape"], unfollowed := true, recurses := true, apart := false, narrowed := true }
def DiskPlaysUptoSaid : Prop := diskPlaysUptoRow.holds Try.pinned (OpenSpec.upto diskPlaysSpec)

/-- 'catenalaw11.DiskZero', WHERE WHAT IT READS IS OF BULK AT MOST 1048576: true; the input reads as it did. -/
def diskZeroUptoRow : OpenClaim := { program := "ytploafhenmfmhaa", sum := "fdc6864d2ee6e3d2f4ff7e0846d5518841a06082ddfa823501a86004cc025920", func := "catena/catenalaw11.DiskZero", spec := "diskZero", inPlace := ["internal/abi.NoEscape"], unfollowed := true, recurses := true, apart := false, narrowed := true }
def DiskZeroUptoSaid : Prop := diskZeroUptoRow.holds Try.pinned (OpenSpec.upto diskZeroSpec)

/-- 'catenalaw12.WalZero', WHERE WHAT IT READS IS OF BULK AT MOST 1048576: true; the input reads as it did. -/
def walZeroUptoRow : OpenClaim := { program := "ytploafhenmfmhaa", sum := "fdc6864d2ee6e3d2f4ff7e0846d5518841a06082ddfa823501a86004cc025920", func := "catena/catenalaw12.WalZero", spec := "walZero", inPlace := ["internal/abi.NoEscape"], unfollowed := true, recurses := true, apart := false, narrowed := true }
def WalZeroUptoSaid : Prop := walZeroUptoRow.holds Try.pinned (OpenSpec.upto walZeroSpec)

/-- 'catenalaw12.WalKeeps', WHERE WHAT IT READS IS OF BULK AT MOST 1048576: true; the input reads as it did. -/
def walKeepsUptoRow : OpenClaim := { program := "ytploafhenmfmhaa", sum := "fdc6864d2ee6e3d2f4ff7e0846d5518841a06082ddfa823501a86004cc025920", func := "catena/catenalaw12.WalKeeps", spec := "walKeeps", inPlace := ["internal/abi.NoEscape"], unfollowed := true, recurses := true, apart := false, narrowed := true }
def WalKeepsUptoSaid : Prop := walKeepsUptoRow.holds Try.pinned (OpenSpec.upto walKeepsSpec)

end Rows
end Go.Proofs.Ytploafhenmfmhaa
