/- How many parts the lists of notes have. -/
import Derived.Test.YtolipnnjeehnfaaMst21
import Derived.Test.YtolipnnjeehnfaaMstO
set_option linter.unusedSimpArgs false
set_option linter.unusedVariables false
namespace Go.Proofs.Ytolipnnjeehnfaa
open Go.RowKit
set_option maxRecDepth 100000
namespace Mst
open Plan Vn Go.Sort
def max4 (x y z u : Int) : Int := (if u > (if z > (if y > x then y else x) then z else (if y > x then y else x)) then u else (if z > (if y > x then y else x) then z else (if y > x then y else x)))
theorem run_max_int4 {P : Program} {w : World} (ts : Array TypeId) (t : TypeId) (x y z u : Int) : (Builtin.max_ ts t #[.int .i64 x, .int .i64 y, .int .i64 z, .int .i64 u]).run P w =
    .ok (.int .i64 (max4 x y z u)) w := by
  simp [Builtin.max_, Builtin.max2, max4]
theorem max4_le {x y z u m : Int} (h : max4 x y z u ≤ m) : x ≤ m ∧ y ≤ m ∧ z ≤ m ∧ u ≤ m := by
  unfold max4 at h
  split at h <;> split at h <;> split at h <;> (try split at *) <;> omega
def SmallTo (l : List NoteR) (i : Nat) (m : Int) : Prop := ∀ x ∈ l.take i, (x.ms.length : Int) ≤ m ∧ (x.lg.length : Int) ≤ m ∧ (x.b.ops.length : Int) ≤ m
theorem SmallTo.step {l : List NoteR} {i : Nat} {m : Int} {x : NoteR} (h : SmallTo l i m) (hx : l[i]? = some x) : SmallTo l (i + 1) (max4 m x.ms.length x.lg.length x.b.ops.length) := by
  intro y hy
  obtain ⟨h1, h2, h3, h4⟩ := max4_le (Int.le_refl (max4 m x.ms.length x.lg.length x.b.ops.length))
  rw [List.take_add_one, hx] at hy
  rcases List.mem_append.1 hy with hy | hy
  · obtain ⟨a, b, c⟩ := h y hy
    exact ⟨by omega, by omega, by omega⟩
  · obtain rfl : y = x := by simpa using hy
    exact ⟨h2, h3, h4⟩
theorem parts_any (w : World) (A : Option Addr) (c : Nat) (l : List NoteR) (hl : Src w 18 A l.length (ncells l)) :
    Calls Try.prog 6 #[.slice A l.length c] w fun e w' => ∃ m : Int, e = .returned (.int .i64 m) ∧ SmallTo l 60 m ∧ Kept NoF w w' := by
  have HL := Lib.hid hl; clear hl
  go_enter Try.func6, Try.ntmps6
  go_wp2_with fail
  go_loopw [3, 4] (fun v3 v4 wr => ∃ (i : Nat) (m : Int) (k : Nat), i ≤ l.length ∧ i ≤ 60 ∧ v4 = .int .i64 i ∧ v3 = .int .i64 m ∧ SmallTo l i m ∧ wr = w.drewN k) (fun _ v4 _ => l.length - (intOf v4).toNat)
  case atStart => exact ⟨0, 0, 0, Nat.zero_le _, Nat.zero_le _, rfl, rfl, fun x hx => by simp at hx, rfl⟩
  case round =>
    obtain ⟨i, m, k, hi, hi2, rfl, rfl, hsm, rfl⟩ := hrel
    have HSM := Lib.hid hsm; clear hsm
    by_cases hil : i < l.length
    · by_cases hi4 : i < 60
      · obtain ⟨x, hx⟩ : ∃ x, l[i]? = some x := ⟨_, List.getElem?_eq_getElem hil⟩
        obtain ⟨ad, rfl, had, hc⟩ := note_cells HL.out (by omega) i x hx
        have hs := HSM.out.step hx
        have e4 : w.cell? ⟨(ad.add (i * 18)).block, (ad.add (i * 18)).off + 4, none⟩ = some (.slice x.mA x.ms.length x.mc) := by rw [← add_lit _ (by omega)]; exact hc 4 _ rfl
        have e6 : w.cell? ⟨(ad.add (i * 18)).block, (ad.add (i * 18)).off + 6, none⟩ = some (.slice x.lA x.lg.length x.lc) := by rw [← add_lit _ (by omega)]; exact hc 6 _ rfl
        have e9 : w.cell? ⟨(ad.add (i * 18)).block, (ad.add (i * 18)).off + 9, none⟩ = some (.slice x.oA x.b.ops.length x.oc) := by rw [← add_lit _ (by omega)]; exact hc 9 _ rfl
        have hmx : ∀ W ts t, (Builtin.max_ ts t #[.int .i64 m, .int .i64 (x.ms.length : Int), .int .i64 (x.lg.length : Int), .int .i64 (x.b.ops.length : Int)]).run Try.prog W = .ok (.int .i64 (max4 m x.ms.length x.lg.length x.b.ops.length)) W := fun W ts t => run_max_int4 ts t _ _ _ _
        obtain ⟨z2, hz2⟩ : ∃ z2, max4 m x.ms.length x.lg.length x.b.ops.length = z2 := ⟨_, rfl⟩
        rw [hz2] at hmx hs
        have HS := Lib.hid hs
        clear hz2 hs hx hc
        go_wp2_with fail
        go_quiet (fail)
        go_wp2
        go_roundw
        case rel => exact ⟨i + 1, _, _, by omega, by omega, by go_num, rfl, HS.out, rfl⟩
        case measure => simp [intOf]; omega
      · obtain rfl : i = 60 := by omega
        go_wp2
        go_ret
        exact ⟨m, rfl, HSM.out, Kept.quiet _ _ _⟩
    · have h0 : SmallTo l 60 m := by
        intro x hx
        refine HSM.out x ?_
        rw [List.take_of_length_le (by omega)]
        exact List.mem_of_mem_take hx
      have H0 := Lib.hid h0; clear h0
      obtain rfl : i = l.length := by omega
      go_wp2
      go_ret
      exact ⟨m, rfl, H0.out, Kept.quiet _ _ _⟩
end Mst
end Go.Proofs.Ytolipnnjeehnfaa
