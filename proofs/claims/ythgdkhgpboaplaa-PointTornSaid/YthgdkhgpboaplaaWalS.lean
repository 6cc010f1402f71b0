
/- A log of its own on a disk: its sizes. -/
import Derived.Test.YthgdkhgpboaplaaWal4
set_option linter.unusedSimpArgs false
set_option linter.unusedVariables false
namespace Go.Proofs.Ythgdkhgpboaplaa
open Go.RowKit
set_option maxRecDepth 100000
namespace Wl
open Disk Fr Vn Ops
/-- Nothing lies below the log's first number. -/
structure Low (first : Int) (m : Disk.Safe) (ps : List Disk.Pc) : Prop where
  file : ∀ x, x < first → (sget m x).size = 0
  pc : ∀ p ∈ ps, first ≤ p.1
theorem pcsOf_mem (first : Int) : ∀ (R : St) (T : List (List UInt8)), (∀ t ∈ T, t.length ≤ 65536) → ∀ p ∈ pcsOf first R T, p.2.size ≤ 65549 ∧ first ≤ p.1 ∧ p.1 ≤ first + (R.length + T.length : Nat)
  | R, [], _, p, hp => by cases hp
  | R, t :: T, hT, p, hp => by
    rcases List.mem_cons.1 hp with rfl | hp
    · refine ⟨by rw [ofL_sz]; exact frame_le (hT t (by simp)), ?_, ?_⟩
      · show first ≤ first + (lastOf R : Int); omega
      · have := lastOf_le R; show first + (lastOf R : Int) ≤ _; omega
    · obtain ⟨h1, h2, h3⟩ := pcsOf_mem first (app R t) T (fun x hx => hT x (by simp [hx])) p hp
      have := app_grow R t
      exact ⟨h1, h2, by simp only [List.length_cons]; omega⟩
section
variable {first : Int} {R : St} {T : List (List UInt8)} {m : Disk.Safe} {ps : List Disk.Pc}
theorem Low.pcs (h : Low first m ps) (hl : Log first R T m ps) : ps = pcsOf first R T := by
  rw [← hl.rest, List.filter_eq_self.2]
  intro p hp
  have := h.pc p hp
  simpa [mine] using this
theorem bts_le {R : St} (h : Ok R) (i : Nat) : (bts R i).length ≤ 66000 := by
  induction R with
  | nil => exact Nat.zero_le _
  | cons f R ih =>
    simp only [bts]
    split
    · exact (h f (by simp)).size
    · exact ih (fun g hg => h g (List.mem_cons_of_mem _ hg))
theorem Low.size (h : Low first m ps) (hl : Log first R T m ps) (f : Int) : (sget m f).size ≤ 66000 := by
  by_cases hf : f < first
  · rw [h.file f hf]; exact Nat.zero_le _
  · have h2 := hl.safe (f - first).toNat
    rw [show first + ((f - first).toNat : Int) = f by omega] at h2
    unfold sget
    rw [h2, getD_fileAt, ofL_sz]
    exact bts_le hl.ok _
theorem Low.fits {n : Nat} (h : Low first m ps) (hl : Log first R T m ps) (h1 : 1 ≤ first) (h2 : first + (R.length + T.length : Nat) ≤ 1073741824) (hn : n ≤ 100000) (hT : T.length < 100000) : Fits n m ps := by
  have hp := h.pcs hl
  refine ⟨hn, by rw [hp, pcsOf_len]; exact hT, fun f => by have := h.size hl f; omega, fun p hq => ?_⟩
  rw [hp] at hq
  obtain ⟨h3, h4, h5⟩ := pcsOf_mem first R T hl.T p hq
  exact ⟨h3, by omega, by omega⟩
theorem Low.append (h : Low first m ps) {f : Int} {s : ByteArray} (hf : first ≤ f) : Low first m (ps ++ [(f, s)]) :=
  ⟨h.file, fun p hp => by
    rcases List.mem_append.1 hp with hp | hp
    · exact h.pc p hp
    · simp at hp; subst hp; exact hf⟩
theorem sget_low {x f : Int} (hx : x < f) (s : ByteArray) (m : Disk.Safe) : sget (sput m f s) x = sget m x := by
  rw [sget_sput, if_neg (by omega)]
theorem Low.sync (h : Low first m ps) : Low first (syncM m ps) [] := by
  refine ⟨fun x hx => ?_, fun p hp => by cases hp⟩
  have : ∀ (ps : List Disk.Pc) (m : Disk.Safe), (∀ p ∈ ps, first ≤ p.1) → sget (syncM m ps) x = sget m x := by
    intro ps
    induction ps with
    | nil => intro m _; rfl
    | cons p ps ih =>
      intro m hp
      have h1 := hp p (by simp)
      rw [syncM, ih _ (fun q hq => hp q (by simp [hq])), sget_low (by omega)]
  rw [this ps m h.pc]
  exact h.file x hx
theorem Low.crash (h : Low first m ps) (left : Nat) : Low first (crashM m left ps) [] := by
  refine ⟨fun x hx => ?_, fun p hp => by cases hp⟩
  have : ∀ (ps : List Disk.Pc) (m : Disk.Safe) (left : Nat), (∀ p ∈ ps, first ≤ p.1) → sget (crashM m left ps) x = sget m x := by
    intro ps
    induction ps with
    | nil => intro m left _; rfl
    | cons p ps ih =>
      intro m left hp
      have h1 := hp p (by simp)
      unfold crashM
      split
      · split
        · rfl
        · rw [sget_low (by omega)]
      · rw [ih _ _ (fun q hq => hp q (by simp [hq])), sget_low (by omega)]
  rw [this ps m left h.pc]
  exact h.file x hx
end
theorem lastOf_cur (R : St) (T : List (List UInt8)) : lastOf (cur R T) ≤ R.length + T.length := Nat.le_trans (lastOf_le _) (cur_grow R T)
end Wl
end Go.Proofs.Ythgdkhgpboaplaa
