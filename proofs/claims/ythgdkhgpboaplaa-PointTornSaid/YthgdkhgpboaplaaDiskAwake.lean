
/- The disk: awake. -/
import Derived.Test.YthgdkhgpboaplaaDisk5
set_option linter.unusedSimpArgs false
set_option linter.unusedVariables false
namespace Go.Proofs.Ythgdkhgpboaplaa
open Go.RowKit
set_option maxRecDepth 100000
namespace Disk

def mA : Safe := syncM (fun _ => none) [(1, ⟨#[97, 98]⟩)]
def mB : Safe := crashM mA 3 [(2, ⟨#[99, 100]⟩), (1, ⟨#[101, 102]⟩)]
theorem mA_le (k : Int) : (sget mA k).size ≤ 2 := by
  show (sget (sput _ 1 _) k).size ≤ 2
  rw [sget_sput]
  split
  · decide
  · exact Nat.zero_le _
theorem i64_small {k : Int} (h0 : 0 ≤ k) (h1 : k ≤ 4611686018427387904) : I64 k := by
  unfold I64 Lit.wf
  have hb : (2 : Int) ^ (IntKind.i64.bits - 1) = 9223372036854775808 := by decide
  simp [IntKind.signed, IntKind.min, IntKind.max, hb]
  omega

end Disk
end Go.Proofs.Ythgdkhgpboaplaa
