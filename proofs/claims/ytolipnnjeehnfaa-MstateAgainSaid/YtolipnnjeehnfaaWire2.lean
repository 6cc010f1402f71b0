
/- catenaref02.Writer: what its methods do. -/
import Derived.Test.YtolipnnjeehnfaaWire1
import Derived.Deep.RegionLaw
set_option linter.unusedSimpArgs false
set_option linter.unusedVariables false
namespace Go.Proofs.Ytolipnnjeehnfaa
open Go.RowKit Go.Shelf
set_option maxRecDepth 100000
namespace Wire
open Vn Ops
theorem conv_u64 (n : Nat) (hn : n < 18446744073709551616) (W : World) : (convert 3 27 (.int .i64 (n : Int))).run Try.prog W = .ok (.int .u64 n) W := by
  have hw : IntKind.u64.wrap (n : Int) = n := by
    simp [IntKind.wrap, IntKind.signed, IntKind.bits]
    omega
  simp [go_sem, hw]
theorem ofL_append (a b : List UInt8) : ofL a ++ ofL b = ofL (a ++ b) := by
  apply bl_inj
  rw [bl_ofL]
  simp [bl, ofL]
theorem ofL_append_bl (a : List UInt8) (s : ByteArray) : ofL a ++ s = ofL (a ++ bl s) := by
  rw [← ofL_append, ofL_bl]
end Wire
end Go.Proofs.Ytolipnnjeehnfaa
