/- Part 53 of what the proof needs. -/
import Derived.Test.YtolkgbafebehfaaGreatChecked
import Derived.Still
set_option linter.unusedSimpArgs false
set_option linter.unusedVariables false
set_option maxHeartbeats 32000000
set_option maxRecDepth 100000
namespace Go.Proofs.YtolkgbafebehfaaGreat
set_option maxRecDepth 100000
namespace dM
def mQ(n:Nat):Code->Option (Array Oper)
 | .region id ops _=>if id=n then some ops else none
 | .seq a b=>(mQ n a).or (mQ n b)
 | .cond _ a b=>(mQ n a).or (mQ n b)
 | .block _ c=>mQ n c
 | .loop c=>mQ n c
 | .scope c=>mQ n c
 | .rangeFunc _ _ a c=>(mQ n a).or (mQ n c)
 |_=>none
noncomputable def U8:Array Oper:=(Tryz.f4.body.bind (mQ 7)).getD #[]
theorem abS:Region.lexB .any U8=true:=by kernel_rfl
end dM
end Go.Proofs.YtolkgbafebehfaaGreat
