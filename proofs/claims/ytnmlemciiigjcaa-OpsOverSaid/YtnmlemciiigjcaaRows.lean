/-
  No cell of these rows narrows 'for every input' (looked for: loops, veiled, ifaces, maps, wideKeys, modest, calm, conditions, laid).
  DERIVED. THE GIVEN ROWS OF THIS SEAT. 12 by the template 'for every input the law returns true; each argument reads behind the call as it read before'; 0 by the template 'total and deterministic' (their statements: YtnmlemciiigjcaaTotals.lean).
  GIVEN WITH THE SEED: the statements are not yours to turn. If you find one false, say at which input.
  Laid BY PROGRAM, IN A SANDBOX (cutbox-rows.mjs): the forced cells as the released guide's own fill.sh prints them over the translation c61a2e3ba2ddd049… (all of the seat's roots in one cut). By AI agents, Wed Nov 11 2026. No macro, syntax, notation, axiom, sorry.
-/
import Derived.Test.YtnmlemciiigjcaaChecked
import GoSem.Claim
import GoSem.ClaimJoined
import GoSem.ClaimMapViews
import Derived.JoinedTies
import Derived.KernelRfl
namespace Go.Proofs.Ytnmlemciiigjcaa
/- THE CELL 'sum', in the pinned program and in every row, IS THE sha256 OF THE DUMP (.gsa) THAT YtnmlemciiigjcaaProg.lean LOADS. Nothing in Lean hashes anything: it is a label: what it is worth is what the hold of that sum in a sandbox is worth. -/
noncomputable def Try.pinned : Pinned := { name := "ytnmlemciiigjcaa", sum := "c61a2e3ba2ddd049d91725139a04b5d1ab399d3e33caadc9364d9241dcfda655", checked := Try.checked }
namespace Rows
def none {H : Type} : Left H := { results := [], args := [] }

/-- 'catenalaw40.ScriptPuts': WHATEVER THE INPUT: true; the input reads as it did. -/
def scriptPutsSpec : ChangeSpec := { name := "scriptPuts", fn := fun _ => fun
  | [d1, d2] => { results := [.lit (.bool true)], args := [d1, d2] }
  | _ => none }
def scriptPutsRow : OpenClaim := { program := "ytnmlemciiigjcaa", sum := "c61a2e3ba2ddd049d91725139a04b5d1ab399d3e33caadc9364d9241dcfda655", func := "catena/catenalaw40.ScriptPuts", spec := "scriptPuts", inPlace := ["internal/abi.NoEscape"], unfollowed := true, recurses := true, apart := false }
def ScriptPutsSaid : Prop := scriptPutsRow.holds Try.pinned (OpenSpec.ofChange scriptPutsSpec)

/-- ITS FALSE NEIGHBOUR: 'it returns false'. Refute it at one input. -/
def scriptPutsWrong : ChangeSpec := { name := "scriptPuts", fn := fun _ => fun
  | [d1, d2] => { results := [.lit (.bool false)], args := [d1, d2] }
  | _ => none }
def ScriptPutsWrongFalsely : Prop := scriptPutsRow.holds Try.pinned (OpenSpec.ofChange scriptPutsWrong)

/-- 'catenalaw40.ScriptNoise': WHATEVER THE INPUT: true; the input reads as it did. -/
def scriptNoiseSpec : ChangeSpec := { name := "scriptNoise", fn := fun _ => fun
  | [d1, d2, d3] => { results := [.lit (.bool true)], args := [d1, d2, d3] }
  | _ => none }
def scriptNoiseRow : OpenClaim := { program := "ytnmlemciiigjcaa", sum := "c61a2e3ba2ddd049d91725139a04b5d1ab399d3e33caadc9364d9241dcfda655", func := "catena/catenalaw40.ScriptNoise", spec := "scriptNoise", inPlace := ["internal/abi.NoEscape"], unfollowed := true, recurses := true, apart := false }
def ScriptNoiseSaid : Prop := scriptNoiseRow.holds Try.pinned (OpenSpec.ofChange scriptNoiseSpec)

/-- ITS FALSE NEIGHBOUR: 'it returns false'. Refute it at one input. -/
def scriptNoiseWrong : ChangeSpec := { name := "scriptNoise", fn := fun _ => fun
  | [d1, d2, d3] => { results := [.lit (.bool false)], args := [d1, d2, d3] }
  | _ => none }
def ScriptNoiseWrongFalsely : Prop := scriptNoiseRow.holds Try.pinned (OpenSpec.ofChange scriptNoiseWrong)

/-- 'catenalaw40.ScriptBack': WHATEVER THE INPUT: true; the input reads as it did. -/
def scriptBackSpec : ChangeSpec := { name := "scriptBack", fn := fun _ => fun
  | [d1, d2] => { results := [.lit (.bool true)], args := [d1, d2] }
  | _ => none }
def scriptBackRow : OpenClaim := { program := "ytnmlemciiigjcaa", sum := "c61a2e3ba2ddd049d91725139a04b5d1ab399d3e33caadc9364d9241dcfda655", func := "catena/catenalaw40.ScriptBack", spec := "scriptBack", inPlace := ["internal/abi.NoEscape"], unfollowed := true, recurses := true, apart := false }
def ScriptBackSaid : Prop := scriptBackRow.holds Try.pinned (OpenSpec.ofChange scriptBackSpec)

/-- ITS FALSE NEIGHBOUR: 'it returns false'. Refute it at one input. -/
def scriptBackWrong : ChangeSpec := { name := "scriptBack", fn := fun _ => fun
  | [d1, d2] => { results := [.lit (.bool false)], args := [d1, d2] }
  | _ => none }
def ScriptBackWrongFalsely : Prop := scriptBackRow.holds Try.pinned (OpenSpec.ofChange scriptBackWrong)

/-- 'catenalaw38.JudgeState': WHATEVER THE INPUT: true; the input reads as it did. -/
def judgeStateSpec : ChangeSpec := { name := "judgeState", fn := fun _ => fun
  | [d1, d2, d3] => { results := [.lit (.bool true)], args := [d1, d2, d3] }
  | _ => none }
def judgeStateRow : OpenClaim := { program := "ytnmlemciiigjcaa", sum := "c61a2e3ba2ddd049d91725139a04b5d1ab399d3e33caadc9364d9241dcfda655", func := "catena/catenalaw38.JudgeState", spec := "judgeState", unfollowed := true, recurses := true, apart := false }
def JudgeStateSaid : Prop := judgeStateRow.holds Try.pinned (OpenSpec.ofChange judgeStateSpec)

/-- ITS FALSE NEIGHBOUR: 'it returns false'. Refute it at one input. -/
def judgeStateWrong : ChangeSpec := { name := "judgeState", fn := fun _ => fun
  | [d1, d2, d3] => { results := [.lit (.bool false)], args := [d1, d2, d3] }
  | _ => none }
def JudgeStateWrongFalsely : Prop := judgeStateRow.holds Try.pinned (OpenSpec.ofChange judgeStateWrong)

/-- 'catenalaw37.StoryGrows': WHATEVER THE INPUT: true; the input reads as it did. -/
def storyGrowsSpec : ChangeSpec := { name := "storyGrows", fn := fun _ => fun
  | [d1, d2, d3] => { results := [.lit (.bool true)], args := [d1, d2, d3] }
  | _ => none }
def storyGrowsRow : OpenClaim := { program := "ytnmlemciiigjcaa", sum := "c61a2e3ba2ddd049d91725139a04b5d1ab399d3e33caadc9364d9241dcfda655", func := "catena/catenalaw37.StoryGrows", spec := "storyGrows", unfollowed := true, recurses := true, apart := false }
def StoryGrowsSaid : Prop := storyGrowsRow.holds Try.pinned (OpenSpec.ofChange storyGrowsSpec)

/-- ITS FALSE NEIGHBOUR: 'it returns false'. Refute it at one input. -/
def storyGrowsWrong : ChangeSpec := { name := "storyGrows", fn := fun _ => fun
  | [d1, d2, d3] => { results := [.lit (.bool false)], args := [d1, d2, d3] }
  | _ => none }
def StoryGrowsWrongFalsely : Prop := storyGrowsRow.holds Try.pinned (OpenSpec.ofChange storyGrowsWrong)

/-- 'catenalaw27.PlanPlays': WHATEVER THE INPUT: true; the input reads as it did. -/
def planPlaysSpec : ChangeSpec := { name := "planPlays", fn := fun _ => fun
  | [d1, d2, d3, d4, d5] => { results := [.lit (.bool true)], args := [d1, d2, d3, d4, d5] }
  | _ => none }
def planPlaysRow : OpenClaim := { program := "ytnmlemciiigjcaa", sum := "c61a2e3ba2ddd049d91725139a04b5d1ab399d3e33caadc9364d9241dcfda655", func := "catena/catenalaw27.PlanPlays", spec := "planPlays", unfollowed := true, recurses := true, apart := false }
def PlanPlaysSaid : Prop := planPlaysRow.holds Try.pinned (OpenSpec.ofChange planPlaysSpec)

/-- ITS FALSE NEIGHBOUR: 'it returns false'. Refute it at one input. -/
def planPlaysWrong : ChangeSpec := { name := "planPlays", fn := fun _ => fun
  | [d1, d2, d3, d4, d5] => { results := [.lit (.bool false)], args := [d1, d2, d3, d4, d5] }
  | _ => none }
def PlanPlaysWrongFalsely : Prop := planPlaysRow.holds Try.pinned (OpenSpec.ofChange planPlaysWrong)

/-- 'catenalaw27.PlanHead': WHATEVER THE INPUT: true; the input reads as it did. -/
def planHeadSpec : ChangeSpec := { name := "planHead", fn := fun _ => fun
  | [d1, d2, d3, d4, d5] => { results := [.lit (.bool true)], args := [d1, d2, d3, d4, d5] }
  | _ => none }
def planHeadRow : OpenClaim := { program := "ytnmlemciiigjcaa", sum := "c61a2e3ba2ddd049d91725139a04b5d1ab399d3e33caadc9364d9241dcfda655", func := "catena/catenalaw27.PlanHead", spec := "planHead", unfollowed := true, recurses := true, apart := false }
def PlanHeadSaid : Prop := planHeadRow.holds Try.pinned (OpenSpec.ofChange planHeadSpec)

/-- ITS FALSE NEIGHBOUR: 'it returns false'. Refute it at one input. -/
def planHeadWrong : ChangeSpec := { name := "planHead", fn := fun _ => fun
  | [d1, d2, d3, d4, d5] => { results := [.lit (.bool false)], args := [d1, d2, d3, d4, d5] }
  | _ => none }
def PlanHeadWrongFalsely : Prop := planHeadRow.holds Try.pinned (OpenSpec.ofChange planHeadWrong)

/-- 'catenalaw27.PlanAgain': WHATEVER THE INPUT: true; the input reads as it did. -/
def planAgainSpec : ChangeSpec := { name := "planAgain", fn := fun _ => fun
  | [d1, d2, d3, d4, d5] => { results := [.lit (.bool true)], args := [d1, d2, d3, d4, d5] }
  | _ => none }
def planAgainRow : OpenClaim := { program := "ytnmlemciiigjcaa", sum := "c61a2e3ba2ddd049d91725139a04b5d1ab399d3e33caadc9364d9241dcfda655", func := "catena/catenalaw27.PlanAgain", spec := "planAgain", unfollowed := true, recurses := true, apart := false }
def PlanAgainSaid : Prop := planAgainRow.holds Try.pinned (OpenSpec.ofChange planAgainSpec)

/-- ITS FALSE NEIGHBOUR: 'it returns false'. Refute it at one input. -/
def planAgainWrong : ChangeSpec := { name := "planAgain", fn := fun _ => fun
  | [d1, d2, d3, d4, d5] => { results := [.lit (.bool false)], args := [d1, d2, d3, d4, d5] }
  | _ => none }
def PlanAgainWrongFalsely : Prop := planAgainRow.holds Try.pinned (OpenSpec.ofChange planAgainWrong)

/-- 'catenalaw06.OpsPuts': WHATEVER THE INPUT: true; the input reads as it did. -/
def opsPutsSpec : ChangeSpec := { name := "opsPuts", fn := fun _ => fun
  | [d1, d2] => { results := [.lit (.bool true)], args := [d1, d2] }
  | _ => none }
def opsPutsRow : OpenClaim := { program := "ytnmlemciiigjcaa", sum := "c61a2e3ba2ddd049d91725139a04b5d1ab399d3e33caadc9364d9241dcfda655", func := "catena/catenalaw06.OpsPuts", spec := "opsPuts", inPlace := ["internal/abi.NoEscape"], unfollowed := true, recurses := true, apart := false }
def OpsPutsSaid : Prop := opsPutsRow.holds Try.pinned (OpenSpec.ofChange opsPutsSpec)

/-- ITS FALSE NEIGHBOUR: 'it returns false'. Refute it at one input. -/
def opsPutsWrong : ChangeSpec := { name := "opsPuts", fn := fun _ => fun
  | [d1, d2] => { results := [.lit (.bool false)], args := [d1, d2] }
  | _ => none }
def OpsPutsWrongFalsely : Prop := opsPutsRow.holds Try.pinned (OpenSpec.ofChange opsPutsWrong)

/-- 'catenalaw06.OpsReads': WHATEVER THE INPUT: true; the input reads as it did. -/
def opsReadsSpec : ChangeSpec := { name := "opsReads", fn := fun _ => fun
  | [d] => { results := [.lit (.bool true)], args := [d] }
  | _ => none }
def opsReadsRow : OpenClaim := { program := "ytnmlemciiigjcaa", sum := "c61a2e3ba2ddd049d91725139a04b5d1ab399d3e33caadc9364d9241dcfda655", func := "catena/catenalaw06.OpsReads", spec := "opsReads", inPlace := ["internal/abi.NoEscape"], unfollowed := true, recurses := true, apart := false }
def OpsReadsSaid : Prop := opsReadsRow.holds Try.pinned (OpenSpec.ofChange opsReadsSpec)

/-- ITS FALSE NEIGHBOUR: 'it returns false'. Refute it at one input. -/
def opsReadsWrong : ChangeSpec := { name := "opsReads", fn := fun _ => fun
  | [d] => { results := [.lit (.bool false)], args := [d] }
  | _ => none }
def OpsReadsWrongFalsely : Prop := opsReadsRow.holds Try.pinned (OpenSpec.ofChange opsReadsWrong)

/-- 'catenalaw06.OpsBack': WHATEVER THE INPUT: true; the input reads as it did. -/
def opsBackSpec : ChangeSpec := { name := "opsBack", fn := fun _ => fun
  | [d1, d2] => { results := [.lit (.bool true)], args := [d1, d2] }
  | _ => none }
def opsBackRow : OpenClaim := { program := "ytnmlemciiigjcaa", sum := "c61a2e3ba2ddd049d91725139a04b5d1ab399d3e33caadc9364d9241dcfda655", func := "catena/catenalaw06.OpsBack", spec := "opsBack", inPlace := ["internal/abi.NoEscape"], unfollowed := true, recurses := true, apart := false }
def OpsBackSaid : Prop := opsBackRow.holds Try.pinned (OpenSpec.ofChange opsBackSpec)

/-- ITS FALSE NEIGHBOUR: 'it returns false'. Refute it at one input. -/
def opsBackWrong : ChangeSpec := { name := "opsBack", fn := fun _ => fun
  | [d1, d2] => { results := [.lit (.bool false)], args := [d1, d2] }
  | _ => none }
def OpsBackWrongFalsely : Prop := opsBackRow.holds Try.pinned (OpenSpec.ofChange opsBackWrong)

/-- 'catenalaw06.OpsOver': WHATEVER THE INPUT: true; the input reads as it did. -/
def opsOverSpec : ChangeSpec := { name := "opsOver", fn := fun _ => fun
  | [d1, d2, d3] => { results := [.lit (.bool true)], args := [d1, d2, d3] }
  | _ => none }
def opsOverRow : OpenClaim := { program := "ytnmlemciiigjcaa", sum := "c61a2e3ba2ddd049d91725139a04b5d1ab399d3e33caadc9364d9241dcfda655", func := "catena/catenalaw06.OpsOver", spec := "opsOver", inPlace := ["internal/abi.NoEscape"], unfollowed := true, recurses := true, apart := false }
def OpsOverSaid : Prop := opsOverRow.holds Try.pinned (OpenSpec.ofChange opsOverSpec)

/-- ITS FALSE NEIGHBOUR: 'it returns false'. Refute it at one input. -/
def opsOverWrong : ChangeSpec := { name := "opsOver", fn := fun _ => fun
  | [d1, d2, d3] => { results := [.lit (.bool false)], args := [d1, d2, d3] }
  | _ => none }
def OpsOverWrongFalsely : Prop := opsOverRow.holds Try.pinned (OpenSpec.ofChange opsOverWrong)

/- THE SECOND FORM. 'bulk': how many values and letters a reading holds, each counted each time it is reached (what is shared counts as often as it is met; a slice's spare places count too). A statement '..UptoSaid' is the law's where the arguments, and the package variables that the reading takes, are together of bulk at most 1048576: NARROWER than '..Said'. Prove '..Said' where nothing that the law and all that it calls make is longer than what came in: it says more and counts as full. Else prove '..UptoSaid'. A law counts once. -/
mutual
def uptoBulk {H : Type} : DataW H → Nat
  | .lit (.string bytes) => bytes.length + 1
  | .lit _ => 1
  | .nil => 1
  | .ptr d => uptoBulk d + 1
  | .slice elems spare => uptoBulkAll elems + uptoBulkAll spare + 1
  | .agg parts => uptoBulkAll parts + 1
  | .iface _ d => uptoBulk d + 1
  | .map entries => uptoBulkEntries entries + 1
  | .held _ => 1
def uptoBulkAll {H : Type} : List (DataW H) → Nat
  | [] => 0
  | d :: r => uptoBulk d + uptoBulkAll r
def uptoBulkEntries {H : Type} : List (Lit × DataW H) → Nat
  | [] => 0
  | x :: r => uptoBulkEntry x + uptoBulkEntries r
def uptoBulkEntry {H : Type} : Lit × DataW H → Nat
  | (.string bytes, d) => bytes.length + uptoBulk d + 1
  | (_, d) => uptoBulk d + 1
 end
def uptoSmall : (H : Type) → List (DataW H) → Bool := fun _ ds => decide (uptoBulkAll ds ≤ 1048576)
def OpenSpec.upto (s : _root_.Go.ChangeSpec) : _root_.Go.OpenSpec := { _root_.Go.OpenSpec.ofChange s with cond := some uptoSmall }

/-- 'catenalaw40.ScriptPuts', WHERE WHAT IT READS IS OF BULK AT MOST 1048576: true; the input reads as it did. -/
def scriptPutsUptoRow : OpenClaim := { program := "ytnmlemciiigjcaa", sum := "c61a2e3ba2ddd049d91725139a04b5d1ab399d3e33caadc9364d9241dcfda655", func := "catena/catenalaw40.ScriptPuts", spec := "scriptPuts", inPlace := ["internal/abi.NoEscape"], unfollowed := true, recurses := true, apart := false, narrowed := true }
def ScriptPutsUptoSaid : Prop := scriptPutsUptoRow.holds Try.pinned (OpenSpec.upto scriptPutsSpec)

/-- 'catenalaw40.ScriptNoise', WHERE WHAT IT READS IS OF BULK AT MOST 1048576: true; the input reads as it did. -/
def scriptNoiseUptoRow : OpenClaim := { program := "ytnmlemciiigjcaa", sum := "c61a2e3ba2ddd049d91725139a04b5d1ab399d3e33caadc9364d9241dcfda655", func := "catena/catenalaw40.ScriptNoise", spec := "scriptNoise", inPlace := ["internal/abi.NoEscape"], unfollowed := true, recurses := true, apart := false, narrowed := true }
def ScriptNoiseUptoSaid : Prop := scriptNoiseUptoRow.holds Try.pinned (OpenSpec.upto scriptNoiseSpec)

/-- 'catenalaw40.ScriptBack', WHERE WHAT IT READS IS OF BULK AT MOST 1048576: true; the input reads as it did. -/
def scriptBackUptoRow : OpenClaim := { program := "ytnmlemciiigjcaa", sum := "c61a2e3ba2ddd049d91725139a04b5d1ab399d3e33caadc9364d9241dcfda655", func := "catena/catenalaw40.ScriptBack", spec := "scriptBack", inPlace := ["internal/abi.NoEscape"], unfollowed := true, recurses := true, apart := false, narrowed := true }
def ScriptBackUptoSaid : Prop := scriptBackUptoRow.holds Try.pinned (OpenSpec.upto scriptBackSpec)

/-- 'catenalaw38.JudgeState', WHERE WHAT IT READS IS OF BULK AT MOST 1048576: true; the input reads as it did. -/
def judgeStateUptoRow : OpenClaim := { program := "ytnmlemciiigjcaa", sum := "c61a2e3ba2ddd049d91725139a04b5d1ab399d3e33caadc9364d9241dcfda655", func := "catena/catenalaw38.JudgeState", spec := "judgeState", unfollowed := true, recurses := true, apart := false, narrowed := true }
def JudgeStateUptoSaid : Prop := judgeStateUptoRow.holds Try.pinned (OpenSpec.upto judgeStateSpec)

/-- 'catenalaw37.StoryGrows', WHERE WHAT IT READS IS OF BULK AT MOST 1048576: true; the input reads as it did. -/
def storyGrowsUptoRow : OpenClaim := { program := "ytnmlemciiigjcaa", sum := "c61a2e3ba2ddd049d91725139a04b5d1ab399d3e33caadc9364d9241dcfda655", func := "catena/catenalaw37.StoryGrows", spec := "storyGrows", unfollowed := true, recurses := true, apart := false, narrowed := true }
def StoryGrowsUptoSaid : Prop := storyGrowsUptoRow.holds Try.pinned (OpenSpec.upto storyGrowsSpec)

/-- 'catenalaw27.PlanPlays', WHERE WHAT IT READS IS OF BULK AT MOST 1048576: true; the input reads as it did. -/
def planPlaysUptoRow : OpenClaim := { program := "ytnmlemciiigjcaa", sum := "c61a2e3ba2ddd049d91725139a04b5d1ab399d3e33caadc9364d9241dcfda655", func := "catena/catenalaw27.PlanPlays", spec := "planPlays", unfollowed := true, recurses := true, apart := false, narrowed := true }
def PlanPlaysUptoSaid : Prop := planPlaysUptoRow.holds Try.pinned (OpenSpec.upto planPlaysSpec)

/-- 'catenalaw27.PlanHead', WHERE WHAT IT READS IS OF BULK AT MOST 1048576: true; the input reads as it did. -/
def planHeadUptoRow : OpenClaim := { program := "ytnmlemciiigjcaa", sum := "c61a2e3ba2ddd049d91725139a04b5d1ab399d3e33caadc9364d9241dcfda655", func := "catena/catenalaw27.PlanHead", spec := "planHead", unfollowed := true, recurses := true, apart := false, narrowed := true }
def PlanHeadUptoSaid : Prop := planHeadUptoRow.holds Try.pinned (OpenSpec.upto planHeadSpec)

/-- 'catenalaw27.PlanAgain', WHERE WHAT IT READS IS OF BULK AT MOST 1048576: true; the input reads as it did. -/
def planAgainUptoRow : OpenClaim := { program := "ytnmlemciiigjcaa", sum := "c61a2e3ba2ddd049d91725139a04b5d1ab399d3e33caadc9364d9241dcfda655", func := "catena/catenalaw27.PlanAgain", spec := "planAgain", unfollowed := true, recurses := true, apart := false, narrowed := true }
def PlanAgainUptoSaid : Prop := planAgainUptoRow.holds Try.pinned (OpenSpec.upto planAgainSpec)

/-- 'catenalaw06.OpsPuts', WHERE WHAT IT READS IS OF BULK AT MOST 1048576: true; the input reads as it did. -/
def opsPutsUptoRow : OpenClaim := { program := "ytnmlemciiigjcaa", sum := "c61a2e3ba2ddd049d91725139a04b5d1ab399d3e33caadc9364d9241dcfda655", func := "catena/catenalaw06.OpsPuts", spec := "opsPuts", inPlace := ["internal/abi.NoEscape"], unfollowed := true, recurses := true, apart := false, narrowed := true }
def OpsPutsUptoSaid : Prop := opsPutsUptoRow.holds Try.pinned (OpenSpec.upto opsPutsSpec)

/-- 'catenalaw06.OpsReads', WHERE WHAT IT READS IS OF BULK AT MOST 1048576: true; the input reads as it did. -/
def opsReadsUptoRow : OpenClaim := { program := "ytnmlemciiigjcaa", sum := "c61a2e3ba2ddd049d91725139a04b5d1ab399d3e33caadc9364d9241dcfda655", func := "catena/catenalaw06.OpsReads", spec := "opsReads", inPlace := ["internal/abi.NoEscape"], unfollowed := true, recurses := true, apart := false, narrowed := true }
def OpsReadsUptoSaid : Prop := opsReadsUptoRow.holds Try.pinned (OpenSpec.upto opsReadsSpec)

/-- 'catenalaw06.OpsBack', WHERE WHAT IT READS IS OF BULK AT MOST 1048576: true; the input reads as it did. -/
def opsBackUptoRow : OpenClaim := { program := "ytnmlemciiigjcaa", sum := "c61a2e3ba2ddd049d91725139a04b5d1ab399d3e33caadc9364d9241dcfda655", func := "catena/catenalaw06.OpsBack", spec := "opsBack", inPlace := ["internal/abi.NoEscape"], unfollowed := true, recurses := true, apart := false, narrowed := true }
def OpsBackUptoSaid : Prop := opsBackUptoRow.holds Try.pinned (OpenSpec.upto opsBackSpec)

/-- 'catenalaw06.OpsOver', WHERE WHAT IT READS IS OF BULK AT MOST 1048576: true; the input reads as it did. -/
def opsOverUptoRow : OpenClaim := { program := "ytnmlemciiigjcaa", sum := "c61a2e3ba2ddd049d91725139a04b5d1ab399d3e33caadc9364d9241dcfda655", func := "catena/catenalaw06.OpsOver", spec := "opsOver", inPlace := ["internal/abi.NoEscape"], unfollowed := true, recurses := true, apart := false, narrowed := true }
def OpsOverUptoSaid : Prop := opsOverUptoRow.holds Try.pinned (OpenSpec.upto opsOverSpec)

end Rows
end Go.Proofs.Ytnmlemciiigjcaa
