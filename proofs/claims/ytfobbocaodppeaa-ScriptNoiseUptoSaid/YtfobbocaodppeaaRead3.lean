
/- wire.Reader's deferred closures: what was thrown is noted. -/
import Derived.Test.YtfobbocaodppeaaRead2
import Derived.Test.YtfobbocaodppeaaDeferKit
import Derived.Tactics
import Derived.Tactics2
set_option linter.unusedSimpArgs false
set_option linter.unusedVariables false
namespace Go.Proofs.Ytfobbocaodppeaa
open Go.RowKit
set_option maxRecDepth 100000
namespace Wire
open Vn Ops
def Caught (w : World) (g : Nat) (c : Int) (older : List PanicEntry) (e : Ending) (u : FrameMode) (w' : World) : Prop :=
  e = .returned (.tuple #[]) ∧ u = .panicking ({ v := .iface 25 (.int .i64 c), recovered := true } :: older) ∧ w' = w.drew.setCell ⟨g, 2, none⟩ (.int .i64 c)
def Idle (w : World) (e : Ending) (u : FrameMode) (w' : World) : Prop := e = .returned (.tuple #[]) ∧ u = .returning ∧ w' = w.drew

theorem catchBig (w : World) (B g : Nat) (s : ByteArray) (r : RS) (c : Int) (older : List PanicEntry) (h : RdAt w g s r) (hB : w.cell? ⟨B, 0, none⟩ = some (.pointer (some ⟨g, 0, none⟩))) :
    CallsD Try.prog 70 #[.pointer (some ⟨B, 0, none⟩)] (.panicking ({ v := .iface 25 (.int .i64 c), recovered := false } :: older)) w (Caught w g c older) := by
  have hst := stays_some w.drew g s r c h
  have hB2 : w.drew.cell? ⟨B, 0, none⟩ = some (.pointer (some ⟨g, 0, none⟩)) := hB
  refine callsD_of_wpS Try.func70 rfl fun c₀ cs hu => ?_
  refine wpS_region_open3 (by kernel_rfl) (by rfl) (by kernel_rfl) (by kernel_rfl) (by kernel_rfl) (by kernel_rfl) ?_ ?_
  all_goals
    simp [wpOpsS, go_sem, recoverD, hu, Try.ntmps70, Exit.thenS, hB2]
    refine hst.mono ?_
    rintro e w' ⟨rfl, rfl⟩
    exact ⟨rfl, _, rfl, _, results_none rfl _ _ _, rfl, rfl, rfl⟩
theorem idleBig (w : World) (B g : Nat) (hB : w.cell? ⟨B, 0, none⟩ = some (.pointer (some ⟨g, 0, none⟩))) :
    CallsD Try.prog 70 #[.pointer (some ⟨B, 0, none⟩)] .returning w (Idle w) := by
  have hst := stays_none w.drew g
  have hB2 : w.drew.cell? ⟨B, 0, none⟩ = some (.pointer (some ⟨g, 0, none⟩)) := hB
  refine callsD_of_wpS Try.func70 rfl fun c₀ cs hu => ?_
  refine wpS_region_open3 (by kernel_rfl) (by rfl) (by kernel_rfl) (by kernel_rfl) (by kernel_rfl) (by kernel_rfl) ?_ ?_
  all_goals
    simp [wpOpsS, go_sem, recoverD, hu, Try.ntmps70, Exit.thenS, hB2]
    refine hst.mono ?_
    rintro e w' ⟨rfl, rfl⟩
    refine ⟨rfl, .returning, ?_, _, results_none rfl _ _ _, rfl, rfl, rfl⟩
    cases c₀
    simp_all

theorem catchNum (w : World) (B g : Nat) (s : ByteArray) (r : RS) (c : Int) (older : List PanicEntry) (h : RdAt w g s r) (hB : w.cell? ⟨B, 0, none⟩ = some (.pointer (some ⟨g, 0, none⟩))) :
    CallsD Try.prog 55 #[.pointer (some ⟨B, 0, none⟩)] (.panicking ({ v := .iface 25 (.int .i64 c), recovered := false } :: older)) w (Caught w g c older) := by
  have hst := stays_some w.drew g s r c h
  have hB2 : w.drew.cell? ⟨B, 0, none⟩ = some (.pointer (some ⟨g, 0, none⟩)) := hB
  refine callsD_of_wpS Try.func55 rfl fun c₀ cs hu => ?_
  refine wpS_region_open3 (by kernel_rfl) (by rfl) (by kernel_rfl) (by kernel_rfl) (by kernel_rfl) (by kernel_rfl) ?_ ?_
  all_goals
    simp [wpOpsS, go_sem, recoverD, hu, Try.ntmps55, Exit.thenS, hB2]
    refine hst.mono ?_
    rintro e w' ⟨rfl, rfl⟩
    exact ⟨rfl, _, rfl, _, results_none rfl _ _ _, rfl, rfl, rfl⟩
theorem idleNum (w : World) (B g : Nat) (hB : w.cell? ⟨B, 0, none⟩ = some (.pointer (some ⟨g, 0, none⟩))) :
    CallsD Try.prog 55 #[.pointer (some ⟨B, 0, none⟩)] .returning w (Idle w) := by
  have hst := stays_none w.drew g
  have hB2 : w.drew.cell? ⟨B, 0, none⟩ = some (.pointer (some ⟨g, 0, none⟩)) := hB
  refine callsD_of_wpS Try.func55 rfl fun c₀ cs hu => ?_
  refine wpS_region_open3 (by kernel_rfl) (by rfl) (by kernel_rfl) (by kernel_rfl) (by kernel_rfl) (by kernel_rfl) ?_ ?_
  all_goals
    simp [wpOpsS, go_sem, recoverD, hu, Try.ntmps55, Exit.thenS, hB2]
    refine hst.mono ?_
    rintro e w' ⟨rfl, rfl⟩
    refine ⟨rfl, .returning, ?_, _, results_none rfl _ _ _, rfl, rfl, rfl⟩
    cases c₀
    simp_all

theorem catchText (w : World) (B g : Nat) (s : ByteArray) (r : RS) (c : Int) (older : List PanicEntry) (h : RdAt w g s r) (hB : w.cell? ⟨B, 0, none⟩ = some (.pointer (some ⟨g, 0, none⟩))) :
    CallsD Try.prog 71 #[.pointer (some ⟨B, 0, none⟩)] (.panicking ({ v := .iface 25 (.int .i64 c), recovered := false } :: older)) w (Caught w g c older) := by
  have hst := stays_some w.drew g s r c h
  have hB2 : w.drew.cell? ⟨B, 0, none⟩ = some (.pointer (some ⟨g, 0, none⟩)) := hB
  refine callsD_of_wpS Try.func71 rfl fun c₀ cs hu => ?_
  refine wpS_region_open3 (by kernel_rfl) (by rfl) (by kernel_rfl) (by kernel_rfl) (by kernel_rfl) (by kernel_rfl) ?_ ?_
  all_goals
    simp [wpOpsS, go_sem, recoverD, hu, Try.ntmps71, Exit.thenS, hB2]
    refine hst.mono ?_
    rintro e w' ⟨rfl, rfl⟩
    exact ⟨rfl, _, rfl, _, results_none rfl _ _ _, rfl, rfl, rfl⟩
theorem idleText (w : World) (B g : Nat) (hB : w.cell? ⟨B, 0, none⟩ = some (.pointer (some ⟨g, 0, none⟩))) :
    CallsD Try.prog 71 #[.pointer (some ⟨B, 0, none⟩)] .returning w (Idle w) := by
  have hst := stays_none w.drew g
  have hB2 : w.drew.cell? ⟨B, 0, none⟩ = some (.pointer (some ⟨g, 0, none⟩)) := hB
  refine callsD_of_wpS Try.func71 rfl fun c₀ cs hu => ?_
  refine wpS_region_open3 (by kernel_rfl) (by rfl) (by kernel_rfl) (by kernel_rfl) (by kernel_rfl) (by kernel_rfl) ?_ ?_
  all_goals
    simp [wpOpsS, go_sem, recoverD, hu, Try.ntmps71, Exit.thenS, hB2]
    refine hst.mono ?_
    rintro e w' ⟨rfl, rfl⟩
    refine ⟨rfl, .returning, ?_, _, results_none rfl _ _ _, rfl, rfl, rfl⟩
    cases c₀
    simp_all

theorem catchFlag (w : World) (B g : Nat) (s : ByteArray) (r : RS) (c : Int) (older : List PanicEntry) (h : RdAt w g s r) (hB : w.cell? ⟨B, 0, none⟩ = some (.pointer (some ⟨g, 0, none⟩))) :
    CallsD Try.prog 72 #[.pointer (some ⟨B, 0, none⟩)] (.panicking ({ v := .iface 25 (.int .i64 c), recovered := false } :: older)) w (Caught w g c older) := by
  have hst := stays_some w.drew g s r c h
  have hB2 : w.drew.cell? ⟨B, 0, none⟩ = some (.pointer (some ⟨g, 0, none⟩)) := hB
  refine callsD_of_wpS Try.func72 rfl fun c₀ cs hu => ?_
  refine wpS_region_open3 (by kernel_rfl) (by rfl) (by kernel_rfl) (by kernel_rfl) (by kernel_rfl) (by kernel_rfl) ?_ ?_
  all_goals
    simp [wpOpsS, go_sem, recoverD, hu, Try.ntmps72, Exit.thenS, hB2]
    refine hst.mono ?_
    rintro e w' ⟨rfl, rfl⟩
    exact ⟨rfl, _, rfl, _, results_none rfl _ _ _, rfl, rfl, rfl⟩
theorem idleFlag (w : World) (B g : Nat) (hB : w.cell? ⟨B, 0, none⟩ = some (.pointer (some ⟨g, 0, none⟩))) :
    CallsD Try.prog 72 #[.pointer (some ⟨B, 0, none⟩)] .returning w (Idle w) := by
  have hst := stays_none w.drew g
  have hB2 : w.drew.cell? ⟨B, 0, none⟩ = some (.pointer (some ⟨g, 0, none⟩)) := hB
  refine callsD_of_wpS Try.func72 rfl fun c₀ cs hu => ?_
  refine wpS_region_open3 (by kernel_rfl) (by rfl) (by kernel_rfl) (by kernel_rfl) (by kernel_rfl) (by kernel_rfl) ?_ ?_
  all_goals
    simp [wpOpsS, go_sem, recoverD, hu, Try.ntmps72, Exit.thenS, hB2]
    refine hst.mono ?_
    rintro e w' ⟨rfl, rfl⟩
    refine ⟨rfl, .returning, ?_, _, results_none rfl _ _ _, rfl, rfl, rfl⟩
    cases c₀
    simp_all
end Wire
end Go.Proofs.Ytfobbocaodppeaa
