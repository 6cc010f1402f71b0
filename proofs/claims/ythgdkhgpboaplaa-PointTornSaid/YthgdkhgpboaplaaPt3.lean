
/- The checkpointed log: must, long, Clone of texts, the deferred closure. -/
import Derived.Test.YthgdkhgpboaplaaPt2
import Derived.Recover
set_option linter.unusedSimpArgs false
set_option linter.unusedVariables false
namespace Go.Proofs.Ythgdkhgpboaplaa
open Go.RowKit
set_option maxRecDepth 100000
namespace Pt
open Disk Fr Vn Ops Wl
theorem must_ok (w : World) : Calls Try.prog 44 #[.int .i64 0] w fun e w' => e = .returned (.tuple #[]) ∧ w = w' := by
  go_enter Try.func44, Try.ntmps44
  go_wp2
  go_end0
  exact ⟨rfl, rfl⟩
theorem long_any (w : World) (s : ByteArray) (b : Bool) (hb : decide ((65536 : Int) ≤ (s.size : Int)) = b) : Calls Try.prog 30 #[.string s] w fun e w' => e = .returned (.bool b) ∧ w = w' := by
  subst hb
  go_enter Try.func30, Try.ntmps30
  go_wp2
  go_ret
  exact ⟨rfl, rfl⟩
/-! ### Clone -/
theorem clone_any (w : World) (A : Option Addr) (c : Nat) (l : List ByteArray) (hl : Src w 1 A l.length (l.map Value.string)) (hlen : l.length ≤ 1000000000) :
    Calls Try.prog 33 #[.slice A l.length c] w fun e w' => ∃ A' c', e = .returned (.slice A' l.length c') ∧ NewSl 9 1 w.heap.size w' A' l.length c' (l.map Value.string) ∧ Below w.heap.size w w' := by
  have hnil : ∀ W n' c', (binOp .eql 22 (.slice A l.length c) (.slice none n' c')).run Try.prog W = .ok (.bool A.isNone) W := fun W n' c' => Lib.run_eql_slice_nil W _ _ A _ _ _ _ Try.underlying22
  cases A with
  | none =>
    obtain rfl : l = [] := by
      rcases l with _ | ⟨a, l⟩
      · rfl
      · obtain ⟨ad, h, _⟩ := hl.2 (by simp)
        cases h
    clear hl hlen
    have hnil0 : ∀ W n' c', (binOp .eql 22 (.slice none 0 c) (.slice none n' c')).run Try.prog W = .ok (.bool true) W := fun W n' c' => Lib.run_eql_slice_nil W _ _ none _ _ _ _ Try.underlying22
    clear hnil
    go_enter Try.func33, Try.ntmps33
    go_wp2
    go_ret
    exact ⟨none, 0, rfl, ⟨⟨rfl, .inl ⟨rfl, rfl⟩⟩, fun k hk => by cases hk⟩, Below.refl _ _⟩
  | some ad =>
    simp only [Option.isNone_some] at hnil
    have hk1 : Kept NoF w (w.alloc (.cells #[] 9)) := (Kept.refl _ _).alloc _
    have hown : (w.alloc (.cells #[] 9)).ownsRow 0 9 1 (.slice (some ⟨w.heap.size, 0, none⟩) 0 0) 0 [] := own_empty (Has.new w 9 #[]) rfl
    have HS := Lib.hid (hl.kept hk1 (fun _ _ z => z)); have HO := Lib.hid hown
    have hone : ∀ u ∈ l.map Value.string, u.oneCell' = true := by
      intro u hu
      rw [List.mem_map] at hu
      obtain ⟨x, _, rfl⟩ := hu
      rfl
    have HONE := Lib.hid hone
    have hM : 0 + l.length ≤ maxLen := by unfold maxLen; omega
    have hY : (0 + l.length) * 16 ≤ 140737488355328 := by omega
    have HM := Lib.hid hM; have HY := Lib.hid hY
    clear hl hown hone hM hY hk1 hlen
    go_enter Try.func33, Try.ntmps33
    go_wp2_with (at_builtin; refine list_append_src elemStr (.tmp 5) (.tmp 6) rfl rfl (Value.slice (some ⟨w.heap.size, 0, none⟩) 0 0) rfl HO.out c rfl HS.out HONE.out HM.out HY.out ?_; intro A9 c9 w9 ho9 hg9 ha9; have HO9 := Lib.hid ho9; have HG9 := Lib.hid hg9; have HA9 := Lib.hid ha9; clear ho9 hg9 ha9)
    go_ret
    have ho := HO9.out
    rw [Nat.zero_add, List.nil_append] at ho
    have ha := HA9.out
    rw [Nat.zero_add] at ha
    refine ⟨A9, c9, rfl, ⟨ho, fun k hk => ?_⟩, ?_⟩
    · rcases ha with e | e
      · have h9 := e.symm.trans hk
        simp [Value.ownBlock] at h9
        omega
      · have h9 := e.symm.trans hk
        injection h9 with h9
        simp at h9
        omega
    · exact (Kept.grown ((Kept.refl NoF w).alloc _) HG9.out (fun k hk => by simp [Value.ownBlock] at hk; exact .inr (by omega))).below (Nat.le_refl _) (fun _ z => z.elim)
/-! ### the deferred closure -/
theorem ta_none (W : World) : (Instr.typeAssert .nilIface 20 33 true).run Try.prog W = .ok (.tuple #[.int .i64 0, .bool false]) W := by kernel_rfl
theorem catch_nil (w : World) (p : Option Addr) : Calls Try.prog 43 #[.nilIface, .pointer p] w fun e w' => e = .returned (.tuple #[]) ∧ w' = w := by
  have hta := fun W => ta_none W
  go_enter Try.func43, Try.ntmps43
  go_wp2
  go_end0
  exact ⟨rfl, rfl⟩
theorem idleBegin (w : World) (y1 : Nat) :
    CallsD Try.prog 42 #[.pointer (some ⟨y1, 0, none⟩)] .returning w fun e u w' => e = .returned (.tuple #[]) ∧ u = .returning ∧ w' = w := by
  have hst := catch_nil w (some ⟨y1, 0, none⟩)
  refine callsD_of_wpS Try.func42 rfl fun c₀ cs hu => ?_
  apply wpS_region
  simp [wpOpsS, go_sem, recoverD, hu, Try.ntmps42, Exit.thenS]
  refine hst.mono ?_
  rintro e w' ⟨rfl, rfl⟩
  refine ⟨rfl, .returning, ?_, _, results_none rfl _ _ _, rfl, rfl, rfl⟩
  cases c₀
  simp_all
end Pt
end Go.Proofs.Ythgdkhgpboaplaa
