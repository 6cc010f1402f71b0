
/- Closed facts of the loaded program that every row's last step asks; arguments that nothing has turned read as they did. -/
import Derived.Test.YtopkeknpdimimaaChecked
import Derived.Test.YtopkeknpdimimaaPost
import Derived.Carry
import Derived.KernelRfl
import Derived.Lib.SmallJoins
set_option linter.unusedSimpArgs false
set_option linter.unusedVariables false
namespace Go.Proofs.Ytopkeknpdimimaa
open Go.RowKit Go.WideShapes Go.ChangeShapes
theorem own : ownKnob Try.prog.godebug = none := by kernel_rfl
theorem laid : laidOutB Try.prog = true := by kernel_rfl
theorem row_lt {t : Nat} (h : Nat.blt t Try.prog.types.size = true) : t < Try.prog.types.size := Nat.le_of_ble_eq_true h

/-- An argument that lies below the old heap's end reads as it did. -/
theorem arg_stays {H : Type} {enc : TypeId × Value → H} {t : TypeId} {W W' : World} {v : Value} {d : DataW H} {ps before : List MemPlace} {sp : Nat → Bool}
    (hr : Try.prog.readableRec t = true) (ht : Nat.blt t Try.prog.types.size = true)
    (h : DataW.Trod enc Try.prog W 0 (fun _ => true) true t v d ps) (hb : Below W.heap.size W W') (hlt : ∀ x ∈ before, x.block < W.heap.size)
    (hsp : ∀ x ∈ before, sp x.block = true) (hin : ∀ x ∈ ps, x ∈ before) : DataW.Trod enc Try.prog W' 0 sp true t v d ps :=
  WideElems.Trod_stays laid hr (row_lt ht) h (fun x hx => hb.same (hlt x (hin x hx))) fun x hx => hsp x (hin x hx)
end Go.Proofs.Ytopkeknpdimimaa
