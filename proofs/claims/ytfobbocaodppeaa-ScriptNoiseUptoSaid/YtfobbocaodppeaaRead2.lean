
/- wire.Reader: what its methods do. -/
import Derived.Test.YtfobbocaodppeaaRead1
import Derived.Test.YtfobbocaodppeaaOpsRead0
import Derived.Defers
import Derived.Recover
set_option linter.unusedSimpArgs false
set_option linter.unusedVariables false
namespace Go.Proofs.Ytfobbocaodppeaa
open Go.RowKit
set_option maxRecDepth 100000
namespace Wire
open Vn Ops
/-- The reader in block g: its text, its place, its first error. -/
def RdAt (w : World) (g : Nat) (s : ByteArray) (r : RS) : Prop := Has w g 99 #[.string s, .int .i64 r.1, .int .i64 r.2, .bool true] ∧ r.1 ≤ s.size
abbrev thrown (c : Int) : Ending := .panicked [{ v := .iface 25 (.int .i64 c), recovered := false }]
theorem bad_ok (w : World) : Calls Try.prog 69 #[.int .i64 0] w fun e w' => e = .returned (.tuple #[]) ∧ w = w' := by
  go_enter Try.func69, Try.ntmps69
  go_wp2
  go_end0
  exact ⟨rfl, rfl⟩
theorem bad_no (c : Int) (hc : c ≠ 0) (w : World) : Calls Try.prog 69 #[.int .i64 c] w fun e w' => e = thrown c ∧ w = w' := by
  have h : (c != 0) = true := by simpa using hc
  go_enter Try.func69, Try.ntmps69
  go_wp2
  exact ⟨rfl, rfl, rfl⟩
theorem fails_ok (c : Int) (w : World) : Calls Try.prog 58 #[.bool false, .int .i64 c] w fun e w' => e = .returned (.tuple #[]) ∧ w = w' := by
  go_enter Try.func58, Try.ntmps58
  go_wp2
  go_end0
  exact ⟨rfl, rfl⟩
theorem fails_no (c : Int) (hc : c ≠ 0) (w : World) : Calls Try.prog 58 #[.bool true, .int .i64 c] w fun e w' => e = thrown c ∧ w = w' := by
  have h := bad_no c hc
  have H := Lib.hid h; clear h
  go_enter Try.func58, Try.ntmps58
  go_wp2_with fail
  refine (H.out _).mono ?_
  rintro e w2 ⟨rfl, rfl⟩
  go_wp2
  exact ⟨rfl, rfl, rfl⟩
theorem none_any {v0 v1 v2 : Value} (w : World) (g : Nat) (c3 : w.cell? ⟨g, 3, none⟩ = some (.bool true)) :
    Calls Try.prog 59 #[.pointer (some ⟨g, 0, none⟩)] w fun e w' => e = .returned (.bool false) ∧ w = w' := by
  go_enter Try.func59, Try.ntmps59
  go_wp2
  go_ret
  exact ⟨rfl, rfl⟩
theorem err_any (w : World) (g : Nat) (s : ByteArray) (r : RS) (h : RdAt w g s r) : Calls Try.prog 42 #[.pointer (some ⟨g, 0, none⟩)] w fun e w' => e = .returned (.int .i64 r.2) ∧ w = w' := by
  have c2 := h.1.cell 2
  have c3 := h.1.cell 3
  simp only [List.getElem?_toArray, List.getElem?_cons_zero, List.getElem?_cons_succ] at c2 c3
  clear h
  go_enter Try.func42, Try.ntmps42
  go_wp2
  go_ret
  exact ⟨rfl, rfl⟩
theorem ta_some (c : Int) (W : World) : (Instr.typeAssert (.iface 25 (.int .i64 c)) 20 25 true).run Try.prog W = .ok (.tuple #[.int .i64 c, .bool true]) W := by kernel_rfl
theorem ta_none (W : World) : (Instr.typeAssert .nilIface 20 25 true).run Try.prog W = .ok (.tuple #[.int .i64 0, .bool false]) W := by kernel_rfl
theorem stays_some (w : World) (g : Nat) (s : ByteArray) (r : RS) (c : Int) (h : RdAt w g s r) : Calls Try.prog 56 #[.pointer (some ⟨g, 0, none⟩), .iface 25 (.int .i64 c)] w fun e w' => e = .returned (.tuple #[]) ∧ w' = w.setCell ⟨g, 2, none⟩ (.int .i64 c) := by
  have c2 := h.1.cell 2
  have f2 := h.1.frozen 2
  simp only [List.getElem?_toArray, List.getElem?_cons_zero, List.getElem?_cons_succ] at c2
  clear h
  have hta := ta_some c
  go_enter Try.func56, Try.ntmps56
  go_wp2
  go_end0
  exact ⟨rfl, rfl⟩
theorem stays_none (w : World) (g : Nat) : Calls Try.prog 56 #[.pointer (some ⟨g, 0, none⟩), .nilIface] w fun e w' => e = .returned (.tuple #[]) ∧ w' = w := by
  have hta := ta_none
  go_enter Try.func56, Try.ntmps56
  go_wp2
  go_end0
  exact ⟨rfl, rfl⟩
end Wire
end Go.Proofs.Ytfobbocaodppeaa
