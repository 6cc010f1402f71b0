
/- The document's Reader: Flag, End. -/
import Derived.Test.YtfobbocaodppeaaRead7
set_option linter.unusedSimpArgs false
set_option linter.unusedVariables false
namespace Go.Proofs.Ytfobbocaodppeaa
open Go.RowKit
set_option maxRecDepth 100000
namespace Wire
open Vn Ops
set_option maxHeartbeats 4000000 in
theorem dflag_any (w : World) (g : Nat) (s : ByteArray) (r : RS) (h : DdAt w g s r) (hs : s.size ≤ maxLen) :
    Calls Try.prog 48 #[.pointer (some ⟨g, 0, none⟩)] w (DRead w g s (.bool (rFlag s r).1) (rFlag s r).2) := by
  obtain ⟨i, e0⟩ := r
  have hi : i ≤ s.size := h.2
  have c0 := h.1.cell 0
  have c1 := h.1.cell 1
  have c2 := h.1.cell 2
  have f1 := h.1.frozen 1
  have f2 := h.1.frozen 2
  simp only [List.getElem?_toArray, List.getElem?_cons_zero, List.getElem?_cons_succ] at c0 c1 c2
  have H := Lib.hid h; clear h
  unfold maxLen at hs
  by_cases he : e0 = 0
  rotate_left
  · have hr := rFlag_err (s := s) (q := (i, e0)) he
    rw [hr]
    have q1 : (e0 == 0) = false := by rw [beq_eq_false_iff_ne]; exact he
    have q2 : (e0 != 0) = true := by simpa using he
    clear he hr
    go_enter Try.func48, Try.ntmps48
    go_wp2
    go_quiet (fail)
    go_wp2
    go_quiet (fail)
    go_wp2
    go_ret
    exact ⟨rfl, ⟨H.out.1.drewN _, H.out.2⟩, (Kept.refl (fun k => k = g) w).drewN _⟩
  subst he
  by_cases hil : i = s.size
  · have hr : rFlag s (i, 0) = (false, (i, 2)) := by
      unfold rFlag
      rw [if_neg (by simp)]
      have : (bl s)[i]? = none := List.getElem?_eq_none (by rw [size_bl]; omega)
      rw [this]
    rw [hr]
    subst hil
    clear hr
    go_enter Try.func48, Try.ntmps48
    go_wp2
    go_quiet (fail)
    go_wp2
    go_quiet (fail)
    go_wp2
    go_ret
    exact ⟨rfl, ⟨(Has.put_of (H.out.1.drewN _) rfl).drewN _, hi⟩, ((Kept.refl (fun k => k = g) w).drewN _ |>.put (.inl rfl)).drewN _⟩
  have hlt : i < s.size := by omega
  have hq : ((i : Int) == (s.size : Int)) = false := by rw [beq_eq_false_iff_ne]; omega
  have hbl := bl_get s i hlt
  have i0 : (0 : Int) ≤ (i : Int) := by omega
  have i1 : (i : Int) < s.size := by omega
  obtain ⟨y, hy⟩ : ∃ y, s[i].toNat = y := ⟨_, rfl⟩
  clear hil
  by_cases hbig : 1 < y
  · have hr : rFlag s (i, 0) = (false, (i, 4)) := by
      unfold rFlag
      rw [if_neg (by simp), hbl]
      simp only [hy, hbig, if_true]
    rw [hr]
    have hd : decide ((1 : Int) < y) = true := decide_eq_true (by omega)
    clear hr hbl hbig
    go_enter Try.func48, Try.ntmps48
    go_wp2
    go_quiet (fail)
    go_wp2
    go_quiet (fail)
    go_wp2
    go_ret
    exact ⟨rfl, ⟨Has.put_of (H.out.1.drewN _) rfl, hi⟩, ((Kept.refl (fun k => k = g) w).drewN _ |>.put (.inl rfl))⟩
  · have hr : rFlag s (i, 0) = (decide (y = 1), (i + 1, 0)) := by
      unfold rFlag
      rw [if_neg (by simp), hbl]
      simp only [hy, hbig, if_false]
    rw [hr]
    obtain ⟨b, hb⟩ : ∃ b, decide (y = 1) = b := ⟨_, rfl⟩
    have hb2 : ((y : Int) == 1) = b := by
      rw [← hb]
      by_cases h : y = 1
      · subst h; rfl
      · rw [decide_eq_false h, beq_eq_false_iff_ne]; omega
    rw [hb]
    have hd : decide ((1 : Int) < y) = false := decide_eq_false (by omega)
    clear hr hbl hbig hb
    go_enter Try.func48, Try.ntmps48
    go_wp2
    go_quiet (fail)
    go_wp2
    go_quiet (fail)
    go_wp2
    go_quiet (fail)
    go_wp2
    go_ret
    exact ⟨rfl, ⟨Has.put_of (H.out.1.drewN _) rfl, by omega⟩, ((Kept.refl (fun k => k = g) w).drewN _ |>.put (.inl rfl))⟩
theorem dend_any (w : World) (g : Nat) (s : ByteArray) (r : RS) (h : DdAt w g s r) (hs : s.size ≤ maxLen) :
    Calls Try.prog 49 #[.pointer (some ⟨g, 0, none⟩)] w fun e w' => e = .returned (.int .i64 (rEnd s r)) ∧ Kept NoF w w' := by
  obtain ⟨i, e0⟩ := r
  have hi : i ≤ s.size := h.2
  have c0 := h.1.cell 0
  have c1 := h.1.cell 1
  have c2 := h.1.cell 2
  simp only [List.getElem?_toArray, List.getElem?_cons_zero, List.getElem?_cons_succ] at c0 c1 c2
  clear h
  unfold maxLen at hs
  unfold rEnd
  dsimp only
  by_cases h0 : e0 = 0
  rotate_left
  · rw [if_pos h0]
    have q1 : (e0 == 0) = false := by rw [beq_eq_false_iff_ne]; exact h0
    clear h0
    go_enter Try.func49, Try.ntmps49
    go_wp2_with fail
    go_quiet (fail)
    go_wp2
    go_ret
    exact ⟨rfl, (Kept.refl _ _).drewN _⟩
  subst h0
  rw [if_neg (by simp)]
  by_cases hlt : i < s.size
  · rw [if_pos hlt]
    go_enter Try.func49, Try.ntmps49
    go_wp2_with fail
    go_quiet (fail)
    go_wp2
    go_ret
    exact ⟨rfl, (Kept.refl _ _).drewN _⟩
  · rw [if_neg hlt]
    go_enter Try.func49, Try.ntmps49
    go_wp2_with fail
    go_quiet (fail)
    go_wp2
    go_ret
    exact ⟨rfl, (Kept.refl _ _).drewN _⟩
end Wire
end Go.Proofs.Ytfobbocaodppeaa
