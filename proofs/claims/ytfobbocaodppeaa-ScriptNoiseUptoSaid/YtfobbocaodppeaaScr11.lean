/- script.read's deferred closure. -/
import Derived.Test.YtfobbocaodppeaaScr10
import Derived.Test.YtfobbocaodppeaaRead3
set_option linter.unusedSimpArgs false
set_option linter.unusedVariables false
namespace Go.Proofs.Ytfobbocaodppeaa
open Go.RowKit
set_option maxRecDepth 100000
namespace Scr
open Ops Vn Wire
theorem neq_err (c : Int) (w : World) : (binOp .neq 20 (.iface 25 (.int .i64 c)) .nilIface).run Try.prog w = .ok (.bool true) w := by kernel_rfl
theorem neq_nil (w : World) : (binOp .neq 20 .nilIface .nilIface).run Try.prog w = .ok (.bool false) w := by kernel_rfl
abbrev zeroV : Array Value := #[.int .i64 0, .int .i64 0, .int .i64 0, .int .i64 0, .int .i64 0, .string ⟨#[]⟩, .string ⟨#[]⟩, .int .u64 0, .int .i64 0, .slice none 0 0]
/-- What the closure leaves of a panic: the result's cells are zero again. -/
def CaughtE (w : World) (y1 y2 : Nat) (c : Int) (older : List PanicEntry) (e : Ending) (u : FrameMode) (w' : World) : Prop :=
  e = .returned (.tuple #[]) ∧ u = .panicking ({ v := .iface 25 (.int .i64 c), recovered := true } :: older) ∧ Has w' y1 41 zeroV ∧ Has w' y2 4 #[.bool false] ∧ Kept (fun k => k = y1 ∨ k = y2) w w'
set_option maxHeartbeats 4000000 in
theorem catchRead (w : World) (y1 y2 : Nat) (c : Int) (older : List PanicEntry) (a0 a1 a2 a3 a4 a5 a6 a7 a8 a9 b0 : Value) (h1 : Has w y1 41 #[a0, a1, a2, a3, a4, a5, a6, a7, a8, a9]) (h2 : Has w y2 4 #[b0]) (hne : y1 ≠ y2) :
    CallsD Try.prog 38 #[.pointer (some ⟨y1, 0, none⟩), .pointer (some ⟨y2, 0, none⟩)] (.panicking ({ v := .iface 25 (.int .i64 c), recovered := false } :: older)) w (CaughtE w y1 y2 c older) := by
  refine callsD_of_wpS Try.func38 rfl fun c₀ cs hu => ?_
  apply wpS_seq
  apply wpS_region
  have hn := neq_err c
  simp [wpOpsS, go_sem, recoverD, hu, Try.ntmps38, Exit.thenS, hn]
  refine wpS_cond (t := true) (by simp [Act.eval]) ?_
  simp only [if_true]
  refine wpS_of_wp ?_
  have y0 := h1.cell 0
  have y1' := h1.cell 1
  have y2' := h1.cell 2
  have y3 := h1.cell 3
  have y4 := h1.cell 4
  have y5 := h1.cell 5
  have y6 := h1.cell 6
  have y7 := h1.cell 7
  have y8 := h1.cell 8
  have y9 := h1.cell 9
  have f0 := h1.frozen 0
  have f1 := h1.frozen 1
  have f2 := h1.frozen 2
  have f3 := h1.frozen 3
  have f4 := h1.frozen 4
  have f5 := h1.frozen 5
  have f6 := h1.frozen 6
  have f7 := h1.frozen 7
  have f8 := h1.frozen 8
  have f9 := h1.frozen 9
  have z0 := h2.cell 0
  have g0 := h2.frozen 0
  simp only [List.getElem?_toArray, List.getElem?_cons_zero, List.getElem?_cons_succ] at y0 y1' y2' y3 y4 y5 y6 y7 y8 y9 z0
  go_wp2
  have hp : y2 ≠ y1 := fun e => hne e.symm
  have k1 := ((((((((((h1.put 0 (.int .i64 0)).put 1 (.int .i64 0)).put 2 (.int .i64 0)).put 3 (.int .i64 0)).put 4 (.int .i64 0)).put 5 (.string ⟨#[]⟩)).put 6 (.string ⟨#[]⟩)).put 7 (.int .u64 0)).put 8 (.int .i64 0)).put 9 (.slice none 0 0)).past (b := y2) (i := 0) (u := .bool false) hne
  have k2 := ((((((((((h2.past (b := y1) (i := 0) (u := .int .i64 0) hp).past (b := y1) (i := 1) (u := .int .i64 0) hp).past (b := y1) (i := 2) (u := .int .i64 0) hp).past (b := y1) (i := 3) (u := .int .i64 0) hp).past (b := y1) (i := 4) (u := .int .i64 0) hp).past (b := y1) (i := 5) (u := .string ⟨#[]⟩) hp).past (b := y1) (i := 6) (u := .string ⟨#[]⟩) hp).past (b := y1) (i := 7) (u := .int .u64 0) hp).past (b := y1) (i := 8) (u := .int .i64 0) hp).past (b := y1) (i := 9) (u := .slice none 0 0) hp).put 0 (.bool false)
  have k3 := Kept.put (g := y2) (i := 0) (u := .bool false) (Kept.put (g := y1) (i := 9) (u := .slice none 0 0) (Kept.put (g := y1) (i := 8) (u := .int .i64 0) (Kept.put (g := y1) (i := 7) (u := .int .u64 0) (Kept.put (g := y1) (i := 6) (u := .string ⟨#[]⟩) (Kept.put (g := y1) (i := 5) (u := .string ⟨#[]⟩) (Kept.put (g := y1) (i := 4) (u := .int .i64 0) (Kept.put (g := y1) (i := 3) (u := .int .i64 0) (Kept.put (g := y1) (i := 2) (u := .int .i64 0) (Kept.put (g := y1) (i := 1) (u := .int .i64 0) (Kept.put (g := y1) (i := 0) (u := .int .i64 0) (Kept.refl (fun k => k = y1 ∨ k = y2) w) (.inl (.inl rfl))) (.inl (.inl rfl))) (.inl (.inl rfl))) (.inl (.inl rfl))) (.inl (.inl rfl))) (.inl (.inl rfl))) (.inl (.inl rfl))) (.inl (.inl rfl))) (.inl (.inl rfl))) (.inl (.inl rfl))) (.inl (.inr rfl))
  simp only [List.setIfInBounds_toArray, List.set_cons_zero, List.set_cons_succ] at k1 k2
  exact ⟨rfl, _, rfl, _, results_none rfl _ _ _, rfl, rfl, k1, k2, k3⟩
theorem idleRead (w : World) (y1 y2 : Nat) :
    CallsD Try.prog 38 #[.pointer (some ⟨y1, 0, none⟩), .pointer (some ⟨y2, 0, none⟩)] .returning w fun e u w' => e = .returned (.tuple #[]) ∧ u = .returning ∧ w' = w := by
  refine callsD_of_wpS Try.func38 rfl fun c₀ cs hu => ?_
  apply wpS_seq
  apply wpS_region
  have hn := neq_nil
  simp [wpOpsS, go_sem, recoverD, hu, Try.ntmps38, Exit.thenS, hn]
  refine wpS_cond (t := false) (by simp [Act.eval]) ?_
  simp only [if_false, Bool.false_eq_true]
  refine wpS_of_wp ?_
  go_wp2
  cases c₀
  simp_all [bodyPostS, results, Try.results38, Exit.thenS]
end Scr
end Go.Proofs.Ytfobbocaodppeaa
