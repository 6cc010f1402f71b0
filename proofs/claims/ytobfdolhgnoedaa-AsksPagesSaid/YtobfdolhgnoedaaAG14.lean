/- Part 15 of what the proof needs. -/
import Derived.Test.YtobfdolhgnoedaaAG00
import Derived.Test.YtobfdolhgnoedaaAG01
import Derived.Test.YtobfdolhgnoedaaAG02
import Derived.Test.YtobfdolhgnoedaaChecked
import Derived.Shelf.SlSortCmp.WholeK
import Derived.Shelf.SlSortCmp.NoneTotal
import Derived.Ground.SlsfProg
import Derived.Maps.RangeWalk
set_option linter.unusedSimpArgs false
set_option linter.unusedVariables false
set_option maxHeartbeats 32000000
set_option maxRecDepth 100000
namespace Go.Proofs.Ytobfdolhgnoedaa
open Go.Shelf Go.Sort Go.RowKit Go.Maps Go.Proofs
set_option maxRecDepth 100000
namespace Nrm
def sortFA_ren : Go.Shelf.Ren := ⟨fun | 6 => 44 | 15 => 58 | 14 => 57 | 28 => 70 | 29 => 71 | 20 => 62 | 21 => 63 | 22 => 64 | 23 => 65 | 24 => 66 | 25 => 67 | 26 => 68 | 27 => 69 | 46 => 73 | 47 => 74 | 48 => 75 | 49 => 76 | 50 => 77 | 57 => 78 | n => n,fun | 22 => 102 | 24 => 103 | 25 => 105 | 3 => 3 | 39 => 122 | 0 => 0 | 53 => 136 | 55 => 22 | 4 => 4 | 46 => 129 | 45 => 128 | 50 => 133 | 5 => 5 | 9 => 9 | 66 => 139 | 70 => 143 | 76 => 145 | 77 => 146 | n => n,fun | n => n⟩
theorem sortFA : Go.Proofs.SlLaysF0.n6 Try.prog sortFA_ren := {
 mixed := by kernel_rfl
 f6 := ⟨Try.f44.name,by decide,Try.func44.trans (congrArg some (by kernel_rfl))⟩
 f14 := ⟨Try.f57.name,by decide,Try.func57.trans (congrArg some (by kernel_rfl))⟩
 f15 := Try.func58.trans (congrArg some (by kernel_rfl))
 f20 := ⟨Try.f62.name,by decide,Try.func62.trans (congrArg some (by kernel_rfl))⟩
 f21 := ⟨Try.f63.name,by decide,Try.func63.trans (congrArg some (by kernel_rfl))⟩
 f22 := ⟨Try.f64.name,by decide,Try.func64.trans (congrArg some (by kernel_rfl))⟩
 f23 := ⟨Try.f65.name,by decide,Try.func65.trans (congrArg some (by kernel_rfl))⟩
 f24 := ⟨Try.f66.name,by decide,Try.func66.trans (congrArg some (by kernel_rfl))⟩
 f25 := ⟨Try.f67.name,by decide,Try.func67.trans (congrArg some (by kernel_rfl))⟩
 f26 := ⟨Try.f68.name,by decide,Try.func68.trans (congrArg some (by kernel_rfl))⟩
 f27 := ⟨Try.f69.name,by decide,Try.func69.trans (congrArg some (by kernel_rfl))⟩
 f28 := Try.func70.trans (congrArg some (by kernel_rfl))
 f29 := Try.func71.trans (congrArg some (by kernel_rfl))
 f46 := ⟨Try.f73.name,by decide,Try.func73.trans (congrArg some (by kernel_rfl))⟩
 f47 := Try.func74.trans (congrArg some (by kernel_rfl))
 f48 := Try.func75.trans (congrArg some (by kernel_rfl))
 f49 := ⟨Try.f76.name,by decide,Try.func76.trans (congrArg some (by kernel_rfl))⟩
 f50 := ⟨Try.f77.name,by decide,Try.func77.trans (congrArg some (by kernel_rfl))⟩
 f57 := ⟨Try.f78.name,by decide,Try.func78.trans (congrArg some (by kernel_rfl))⟩
 t0 := Try.underlying0
 a0 := Try.isAgg0
 z0 := Try.sizeOf0
 v0 := Try.zeroValue0
 t3 := Try.underlying3
 a3 := Try.isAgg3
 z3 := Try.sizeOf3
 v3 := Try.zeroValue3
 t4 := Try.underlying4
 a4 := Try.isAgg4
 z4 := Try.sizeOf4
 v4 := Try.zeroValue4
 t5 := Try.underlying5
 a5 := Try.isAgg5
 z5 := Try.sizeOf5
 v5 := Try.zeroValue5
 t9 := Try.underlying9
 a9 := Try.isAgg9
 z9 := Try.sizeOf9
 v9 := Try.zeroValue9
 t22 := Try.underlying102
 a22 := Try.isAgg102
 z22 := Try.sizeOf102
 v22 := Try.zeroValue102
 t25 := Try.underlying105
 a25 := Try.isAgg105
 z25 := Try.sizeOf105
 v25 := Try.zeroValue105
 t39 := Try.underlying122
 a39 := Try.isAgg122
 z39 := Try.sizeOf122
 v39 := Try.zeroValue122
 t45 := Try.underlying128
 a45 := Try.isAgg128
 z45 := Try.sizeOf128
 v45 := Try.zeroValue128
 t46 := Try.underlying129
 a46 := Try.isAgg129
 z46 := Try.sizeOf129
 v46 := Try.zeroValue129
 t50 := Try.underlying133
 a50 := Try.isAgg133
 z50 := Try.sizeOf133
 v50 := Try.zeroValue133
 t53 := Try.underlying136
 a53 := Try.isAgg136
 z53 := Try.sizeOf136
 v53 := Try.zeroValue136
 t55 := Try.underlying22
 a55 := Try.isAgg22
 z55 := Try.sizeOf22
 v55 := Try.zeroValue22
 t66 := Try.underlying139
 a66 := Try.isAgg139
 z66 := Try.sizeOf139
 v66 := Try.zeroValue139
 t70 := Try.underlying143
 a70 := Try.isAgg143
 z70 := Try.sizeOf143
 v70 := Try.zeroValue143
 t76 := Try.underlying145
 a76 := Try.isAgg145
 z76 := Try.sizeOf145
 v76 := Try.zeroValue145
 t77 := Try.underlying146
 a77 := Try.isAgg146
 z77 := Try.sizeOf146
 v77 := Try.zeroValue146 }
theorem sortF_none (p : Option Addr) (cap : Nat) (fv : Value) (w : World) : Calls Try.prog 44 #[.slice p 0 cap,fv] w fun e w' => e = .returned (.tuple #[]) /\ w' = w :=
 AnyF.slices_SortFunc_none sortFA p cap fv w
end Nrm
end Go.Proofs.Ytobfdolhgnoedaa
