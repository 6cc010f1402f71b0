/- The two disks: step. -/
import Derived.Test.YtopkeknpdimimaaPl1
set_option linter.unusedSimpArgs false
set_option linter.unusedVariables false
namespace Go.Proofs.Ytopkeknpdimimaa
open Go.RowKit Go.Maps
set_option maxRecDepth 100000
namespace Disk
variable {w : World} {g x i S B : Nat}

set_option maxHeartbeats 4000000 in
theorem step_write (h : PlAt w B g x i S) (hB : B ≤ w.heap.size) (hi : i ≤ 1000) (a : DAct) (ha : a.1 = 0 ∨ a.1 = 1) :
    Calls Try.prog 6 #[.pointer (some ⟨g, 0, none⟩), .pointer (some ⟨x, 0, none⟩), actV a] w (StepPost w B g x (i + 1) (S + a.2.2.1.size)) := by
  obtain ⟨v, F, G, hF, hG, hb⟩ := both_write h hB hi a.2.1 a.2.2.1
  obtain ⟨a0, f, s, N⟩ := a
  dsimp only at *
  obtain ⟨w1, hw1⟩ : ∃ w1, w.alloc (.cells #[.int .i64 a0, .int .i64 f, .string s, .int .i64 N] 29) = w1 := ⟨_, rfl⟩
  have hk1 : Kept NoF w w1 := by rw [← hw1]; exact (Kept.refl _ _).alloc _
  have hb1 : Has w1 w.heap.size 29 #[.int .i64 a0, .int .i64 f, .string s, .int .i64 N] := by rw [← hw1]; exact Has.new _ _ _
  have c0 : w1.cell? ⟨w.heap.size, 0, none⟩ = some (.int .i64 a0) := hb1.cell 0
  have c1 : w1.cell? ⟨w.heap.size, 1, none⟩ = some (.int .i64 f) := hb1.cell 1
  have c2 : w1.cell? ⟨w.heap.size, 2, none⟩ = some (.string s) := hb1.cell 2
  have HW1 := Lib.hid hw1; have HB1 := Lib.hid hb1; have HK1 := Lib.hid hk1
  have HF := Lib.hid hF; have HGL := Lib.hid hG; have HC := Lib.hid hb
  clear hw1 hb1 hk1 hF hG hb h
  go_enter Try.func6, Try.ntmps6
  rcases ha with rfl | rfl
  all_goals
    go_wp2_with fail
    rw [HW1.out]
    go_wp2_with fail
    go_region_held3 (fun W => W.cell? ⟨w.heap.size, 1, none⟩ = some (.int .i64 f) ∧ W.cell? ⟨w.heap.size, 2, none⟩ = some (.string s)) (first | exact ⟨c1, c2⟩ | exact q4 | exact q5 | (simp [go_sem, c1, c2]; done))
      (first
        | (go_at_call 10; refine (HC.out _ (HK1.out.then (by (repeat' (first | with_reducible exact Kept.refl _ _ | with_reducible refine Kept.put ?_ ?_ | with_reducible refine Kept.drewN ?_ _ | with_reducible refine Kept.drew ?_ | with_reducible refine Kept.alloc ?_ _ | (fail) | (right; simp; done)))))).mono ?_; rintro e w4 ⟨rfl, hk4, hn4⟩; have hb4 := HB1.out.kept (Kept.then (F := F) (by (repeat' (first | with_reducible exact Kept.refl _ _ | with_reducible refine Kept.put ?_ ?_ | with_reducible refine Kept.drewN ?_ _ | with_reducible refine Kept.drew ?_ | with_reducible refine Kept.alloc ?_ _ | (fail) | (right; simp; done)))) hk4) (fun e => by have := HF.out _ e; omega); have q4 := And.intro (hb4.cell 1) (hb4.cell 2); have HN4 := Lib.hid hn4; have HB4 := Lib.hid hb4; clear hn4 hb4)
        | (go_at_call 11; refine (HN4.out _ (by (repeat' (first | with_reducible exact Kept.refl _ _ | with_reducible refine Kept.put ?_ ?_ | with_reducible refine Kept.drewN ?_ _ | with_reducible refine Kept.drew ?_ | with_reducible refine Kept.alloc ?_ _ | (fail) | (right; simp; done))))).mono ?_; rintro e w5 ⟨rfl, hk5, hp5⟩; have hb5 := (HB4.out.kept (F := NoF) (by (repeat' (first | with_reducible exact Kept.refl _ _ | with_reducible refine Kept.put ?_ ?_ | with_reducible refine Kept.drewN ?_ _ | with_reducible refine Kept.drew ?_ | with_reducible refine Kept.alloc ?_ _ | (fail) | (right; simp; done)))) (fun x => x)).kept hk5 (fun e => by have := HGL.out _ e; omega); have q5 := And.intro (hb5.cell 1) (hb5.cell 2); clear hb5; have HP5 := Lib.hid hp5; clear hp5))
    go_wp2_with fail
    go_ret
    exact ⟨rfl, HP5.out⟩

set_option maxHeartbeats 4000000 in
theorem step_drop (h : PlAt w B g x i S) (hB : B ≤ w.heap.size) (hi : i ≤ 1000) (a : DAct) (ha : a.1 = 3) (hf : I64 a.2.1) :
    Calls Try.prog 6 #[.pointer (some ⟨g, 0, none⟩), .pointer (some ⟨x, 0, none⟩), actV a] w (StepPost w B g x (i + 1) (S + a.2.2.1.size)) := by
  obtain ⟨v, F, G, hF, hG, hb⟩ := both_drop h hB hi a.2.2.1.size a.2.1 hf
  obtain ⟨a0, f, s, N⟩ := a
  dsimp only at *
  obtain ⟨w1, hw1⟩ : ∃ w1, w.alloc (.cells #[.int .i64 a0, .int .i64 f, .string s, .int .i64 N] 29) = w1 := ⟨_, rfl⟩
  have hk1 : Kept NoF w w1 := by rw [← hw1]; exact (Kept.refl _ _).alloc _
  have hb1 : Has w1 w.heap.size 29 #[.int .i64 a0, .int .i64 f, .string s, .int .i64 N] := by rw [← hw1]; exact Has.new _ _ _
  have c0 : w1.cell? ⟨w.heap.size, 0, none⟩ = some (.int .i64 a0) := hb1.cell 0
  have c1 : w1.cell? ⟨w.heap.size, 1, none⟩ = some (.int .i64 f) := hb1.cell 1
  have c3 : w1.cell? ⟨w.heap.size, 3, none⟩ = some (.int .i64 N) := hb1.cell 3
  have HW1 := Lib.hid hw1; have HB1 := Lib.hid hb1; have HK1 := Lib.hid hk1
  have HF := Lib.hid hF; have HGL := Lib.hid hG; have HC := Lib.hid hb
  clear hw1 hb1 hk1 hF hG hb h
  go_enter Try.func6, Try.ntmps6
  subst ha
  go_wp2_with fail
  rw [HW1.out]
  go_wp2_with fail
  go_region_held3 (fun W => W.cell? ⟨w.heap.size, 1, none⟩ = some (.int .i64 f)) (first | exact c1 | exact q4 | exact q5 | (simp [go_sem, c1]; done))
    (first
      | (go_at_call 14; refine (HC.out _ (HK1.out.then (by (repeat' (first | with_reducible exact Kept.refl _ _ | with_reducible refine Kept.put ?_ ?_ | with_reducible refine Kept.drewN ?_ _ | with_reducible refine Kept.drew ?_ | with_reducible refine Kept.alloc ?_ _ | (fail) | (right; simp; done)))))).mono ?_; rintro e w4 ⟨rfl, hk4, hn4⟩; have hb4 := HB1.out.kept (Kept.then (F := F) (by (repeat' (first | with_reducible exact Kept.refl _ _ | with_reducible refine Kept.put ?_ ?_ | with_reducible refine Kept.drewN ?_ _ | with_reducible refine Kept.drew ?_ | with_reducible refine Kept.alloc ?_ _ | (fail) | (right; simp; done)))) hk4) (fun e => by have := HF.out _ e; omega); have q4 := hb4.cell 1; have HN4 := Lib.hid hn4; have HB4 := Lib.hid hb4; clear hn4 hb4)
      | (go_at_call 15; refine (HN4.out _ (by (repeat' (first | with_reducible exact Kept.refl _ _ | with_reducible refine Kept.put ?_ ?_ | with_reducible refine Kept.drewN ?_ _ | with_reducible refine Kept.drew ?_ | with_reducible refine Kept.alloc ?_ _ | (fail) | (right; simp; done))))).mono ?_; rintro e w5 ⟨rfl, hk5, hp5⟩; have hb5 := (HB4.out.kept (F := NoF) (by (repeat' (first | with_reducible exact Kept.refl _ _ | with_reducible refine Kept.put ?_ ?_ | with_reducible refine Kept.drewN ?_ _ | with_reducible refine Kept.drew ?_ | with_reducible refine Kept.alloc ?_ _ | (fail) | (right; simp; done)))) (fun x => x)).kept hk5 (fun e => by have := HGL.out _ e; omega); have q5 := hb5.cell 1; clear hb5; have HP5 := Lib.hid hp5; clear hp5))
  go_wp2_with fail
  go_ret
  exact ⟨rfl, HP5.out⟩

set_option maxHeartbeats 4000000 in
theorem step_sync (h : PlAt w B g x i S) (hB : B ≤ w.heap.size) (hi : i ≤ 1000) (hS : S ≤ 10000000) (a : DAct) (ha : a.1 = 2) :
    Calls Try.prog 6 #[.pointer (some ⟨g, 0, none⟩), .pointer (some ⟨x, 0, none⟩), actV a] w (StepPost w B g x (i + 1) (S + a.2.2.1.size)) := by
  obtain ⟨v, F, G, hF, hG, hb⟩ := both_sync h hB hi hS a.2.2.1.size
  obtain ⟨a0, f, s, N⟩ := a
  dsimp only at *
  obtain ⟨w1, hw1⟩ : ∃ w1, w.alloc (.cells #[.int .i64 a0, .int .i64 f, .string s, .int .i64 N] 29) = w1 := ⟨_, rfl⟩
  have hk1 : Kept NoF w w1 := by rw [← hw1]; exact (Kept.refl _ _).alloc _
  have hb1 : Has w1 w.heap.size 29 #[.int .i64 a0, .int .i64 f, .string s, .int .i64 N] := by rw [← hw1]; exact Has.new _ _ _
  have c0 : w1.cell? ⟨w.heap.size, 0, none⟩ = some (.int .i64 a0) := hb1.cell 0
  have c1 : w1.cell? ⟨w.heap.size, 1, none⟩ = some (.int .i64 f) := hb1.cell 1
  have c3 : w1.cell? ⟨w.heap.size, 3, none⟩ = some (.int .i64 N) := hb1.cell 3
  have HW1 := Lib.hid hw1; have HB1 := Lib.hid hb1; have HK1 := Lib.hid hk1
  have HF := Lib.hid hF; have HGL := Lib.hid hG; have HC := Lib.hid hb
  clear hw1 hb1 hk1 hF hG hb h
  go_enter Try.func6, Try.ntmps6
  subst ha
  go_wp2_with fail
  rw [HW1.out]
  go_wp2_with fail
  refine (HC.out _ HK1.out).mono ?_
  rintro e w4 ⟨rfl, hk4, hn4⟩
  have hb4 := HB1.out.kept hk4 (fun e => by have := HF.out _ e; omega)
  have q3 := hb4.cell 3
  have HN4 := Lib.hid hn4; clear hn4 hb4
  go_wp2_with fail
  refine (HN4.out _ (Kept.refl _ _)).mono ?_
  rintro e w5 ⟨rfl, hk5, hp5⟩
  have HP5 := Lib.hid hp5; clear hp5
  go_wp2_with fail
  go_ret
  exact ⟨rfl, HP5.out⟩

set_option maxHeartbeats 4000000 in
theorem step_crash (h : PlAt w B g x i S) (hB : B ≤ w.heap.size) (hi : i ≤ 1000) (hS : S ≤ 10000000) (a : DAct) (ha : a.1 = 4) (hN : a.2.2.2 ≤ 9223372036854775807) :
    Calls Try.prog 6 #[.pointer (some ⟨g, 0, none⟩), .pointer (some ⟨x, 0, none⟩), actV a] w (StepPost w B g x (i + 1) (S + a.2.2.1.size)) := by
  obtain ⟨F, G, hF, hG, hb⟩ := both_crash h hB hi hS a.2.2.1.size a.2.2.2 hN
  obtain ⟨a0, f, s, N⟩ := a
  dsimp only at *
  obtain ⟨w1, hw1⟩ : ∃ w1, w.alloc (.cells #[.int .i64 a0, .int .i64 f, .string s, .int .i64 N] 29) = w1 := ⟨_, rfl⟩
  have hk1 : Kept NoF w w1 := by rw [← hw1]; exact (Kept.refl _ _).alloc _
  have hb1 : Has w1 w.heap.size 29 #[.int .i64 a0, .int .i64 f, .string s, .int .i64 N] := by rw [← hw1]; exact Has.new _ _ _
  have c0 : w1.cell? ⟨w.heap.size, 0, none⟩ = some (.int .i64 a0) := hb1.cell 0
  have c1 : w1.cell? ⟨w.heap.size, 1, none⟩ = some (.int .i64 f) := hb1.cell 1
  have c3 : w1.cell? ⟨w.heap.size, 3, none⟩ = some (.int .i64 N) := hb1.cell 3
  have HW1 := Lib.hid hw1; have HB1 := Lib.hid hb1; have HK1 := Lib.hid hk1
  have HF := Lib.hid hF; have HGL := Lib.hid hG; have HC := Lib.hid hb
  clear hw1 hb1 hk1 hF hG hb h
  go_enter Try.func6, Try.ntmps6
  subst ha
  go_wp2_with fail
  rw [HW1.out]
  go_wp2_with fail
  refine (HC.out _ HK1.out).mono ?_
  rintro e w4 ⟨rfl, hk4, hn4⟩
  have hb4 := HB1.out.kept hk4 (fun e => by have := HF.out _ e; omega)
  have q3 := hb4.cell 3
  have HN4 := Lib.hid hn4; clear hn4 hb4
  go_wp2_with fail
  refine (HN4.out _ (Kept.refl _ _)).mono ?_
  rintro e w5 ⟨rfl, hk5, hp5⟩
  have HP5 := Lib.hid hp5; clear hp5
  go_wp2_with fail
  go_ret
  exact ⟨rfl, HP5.out⟩

set_option maxHeartbeats 4000000 in
theorem step_erase (h : PlAt w B g x i S) (hB : B ≤ w.heap.size) (hi : i ≤ 1000) (hS : S ≤ 10000000) (a : DAct) (h0 : a.1 ≠ 0) (h1 : a.1 ≠ 1) (h2 : a.1 ≠ 2) (h3 : a.1 ≠ 3) (h4 : a.1 ≠ 4) :
    Calls Try.prog 6 #[.pointer (some ⟨g, 0, none⟩), .pointer (some ⟨x, 0, none⟩), actV a] w (StepPost w B g x (i + 1) (S + a.2.2.1.size)) := by
  obtain ⟨F, G, hF, hG, hb⟩ := both_erase h hB a.2.2.1.size
  obtain ⟨a0, f, s, N⟩ := a
  dsimp only at *
  obtain ⟨w1, hw1⟩ : ∃ w1, w.alloc (.cells #[.int .i64 a0, .int .i64 f, .string s, .int .i64 N] 29) = w1 := ⟨_, rfl⟩
  have hk1 : Kept NoF w w1 := by rw [← hw1]; exact (Kept.refl _ _).alloc _
  have hb1 : Has w1 w.heap.size 29 #[.int .i64 a0, .int .i64 f, .string s, .int .i64 N] := by rw [← hw1]; exact Has.new _ _ _
  have c0 : w1.cell? ⟨w.heap.size, 0, none⟩ = some (.int .i64 a0) := hb1.cell 0
  have c1 : w1.cell? ⟨w.heap.size, 1, none⟩ = some (.int .i64 f) := hb1.cell 1
  have c3 : w1.cell? ⟨w.heap.size, 3, none⟩ = some (.int .i64 N) := hb1.cell 3
  have HW1 := Lib.hid hw1; have HB1 := Lib.hid hb1; have HK1 := Lib.hid hk1
  have HF := Lib.hid hF; have HGL := Lib.hid hG; have HC := Lib.hid hb
  clear hw1 hb1 hk1 hF hG hb h
  go_enter Try.func6, Try.ntmps6
  have k0 : (a0 == 0) = false := by simpa using h0
  have k1 : (a0 == 1) = false := by simpa using h1
  have k2 : (a0 == 2) = false := by simpa using h2
  have k3 : (a0 == 3) = false := by simpa using h3
  have k4 : (a0 == 4) = false := by simpa using h4
  go_wp2_with fail
  rw [HW1.out]
  go_wp2_with fail
  refine (HC.out _ HK1.out).mono ?_
  rintro e w4 ⟨rfl, hk4, hn4⟩
  have hb4 := HB1.out.kept hk4 (fun e => by have := HF.out _ e; omega)
  have q3 := hb4.cell 3
  have HN4 := Lib.hid hn4; clear hn4 hb4
  go_wp2_with fail
  refine (HN4.out _ (Kept.refl _ _)).mono ?_
  rintro e w5 ⟨rfl, hk5, hp5⟩
  have HP5 := Lib.hid hp5; clear hp5
  go_wp2_with fail
  go_ret
  exact ⟨rfl, HP5.out⟩

theorem step_any (h : PlAt w B g x i S) (hB : B ≤ w.heap.size) (hi : i ≤ 1000) (hS : S ≤ 10000000) (a : DAct) (hf : I64 a.2.1) (hN : a.2.2.2 ≤ 9223372036854775807) :
    Calls Try.prog 6 #[.pointer (some ⟨g, 0, none⟩), .pointer (some ⟨x, 0, none⟩), actV a] w (StepPost w B g x (i + 1) (S + a.2.2.1.size)) := by
  by_cases h0 : a.1 = 0
  · exact step_write h hB hi a (.inl h0)
  by_cases h1 : a.1 = 1
  · exact step_write h hB hi a (.inr h1)
  by_cases h2 : a.1 = 2
  · exact step_sync h hB hi hS a h2
  by_cases h3 : a.1 = 3
  · exact step_drop h hB hi a h3 hf
  by_cases h4 : a.1 = 4
  · exact step_crash h hB hi hS a h4 hN
  exact step_erase h hB hi hS a h0 h1 h2 h3 h4
end Disk
end Go.Proofs.Ytopkeknpdimimaa
