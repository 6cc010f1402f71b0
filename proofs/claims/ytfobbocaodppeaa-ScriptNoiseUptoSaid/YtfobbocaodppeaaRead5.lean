
/- wire.Reader.Text. -/
import Derived.Test.YtfobbocaodppeaaRead4
import Derived.StillTailTactics
set_option linter.unusedSimpArgs false
set_option linter.unusedVariables false
namespace Go.Proofs.Ytfobbocaodppeaa
open Go.RowKit
set_option maxRecDepth 100000
namespace Wire
open Vn Ops
theorem conv_sub (a b : Nat) (h : b ≤ a) (ha : a ≤ 9223372036854775807) (W : World) : (convert 3 36 (.int .i64 ((a : Int) - b))).run Try.prog W = .ok (.int .u64 ((a : Int) - b)) W := by
  have e : (a : Int) - b = ((a - b : Nat) : Int) := by omega
  rw [e]
  exact conv_u64 _ (by omega) W
set_option maxHeartbeats 4000000 in
theorem text_any (w : World) (g : Nat) (s : ByteArray) (r : RS) (most : Nat) (h : RdAt w g s r) (hs : s.size ≤ maxLen) (hm : most ≤ 9223372036854775807) :
    Calls Try.prog 62 #[.pointer (some ⟨g, 0, none⟩), .int .i64 most] w (RRead w g s (.string (rText s most r).1) (rText s most r).2) := by
  have hmf : ∀ (fn : Fn) (first cap : Array Value) (w : World), (Instr.makeFunc fn first cap).run Try.prog w = .ok (.func fn first cap) w := fun _ _ _ _ => rfl
  have hgl := h.1.lt
  have H0 := Lib.hid (h.alloc (.cells #[.pointer (some ⟨g, 0, none⟩)] 81))
  have HK0 := Lib.hid ((Kept.refl (fun k => k = g) w).alloc (.cells #[.pointer (some ⟨g, 0, none⟩)] 81))
  have HX0 := Lib.hid (Has.new w 81 #[.pointer (some ⟨g, 0, none⟩)])
  obtain ⟨i, e0⟩ := r
  by_cases he : e0 = 0
  rotate_left
  · have hr := rText_err (s := s) (most := most) (q := (i, e0)) he
    rw [hr]
    have he2 : (e0 != 0) = true := by simpa using he
    clear he hr hm hs h
    go_enter_defers Try.func62, Try.ntmps62
    go_wp2_with fail
    refine (err_any _ _ _ _ H0.out).mono ?_
    rintro e w2 ⟨rfl, rfl⟩
    go_wp2
    exact ⟨_, results_tmp rfl _ _ _, rfl, H0.out, HK0.out⟩
  subst he
  have hx0 := HX0.out.cell 0
  simp only [List.getElem?_toArray, List.getElem?_cons_zero] at hx0
  cases hg : get (bl s) i with
  | error c =>
    have hr : rText s most (i, 0) = (emp, (i, (c : Int))) := by
      have := get_err hg
      have hc : ¬ c = 0 := by omega
      unfold rText rBig
      simp [hg, hc]
    rw [hr]
    have hb := fun W (hW : RdAt W g s (i, 0)) => big_no W g s i c hW hs hg
    have HB := Lib.hid hb; clear hb hr hm hs h hg
    go_enter_defers Try.func62, Try.ntmps62
    go_wp2_with fail
    refine (err_any _ _ _ _ H0.out).mono ?_
    rintro e w2 ⟨rfl, rfl⟩
    go_wp2_with fail
    refine (HB.out _ H0.out).mono ?_
    rintro e w2 ⟨rfl, hr, hk⟩
    have HR := Lib.hid (And.intro hr hk); clear hr hk
    go_wp2
    refine leaves_cons (f := 71) (args := #[.pointer (some ⟨w.heap.size, 0, none⟩)]) (by simp) (by simp [go_sem]) ?_
    refine (catchText _ w.heap.size g s (i, 0) c [] HR.out.1 ((HX0.out.kept HR.out.2 (fun x => x)).cell 0)).mono ?_
    rintro e u w3 ⟨rfl, rfl, rfl⟩
    simp [Leaves, settle, results, Try.results62, go_sem]
    exact ⟨rfl, ⟨Has.put_of HR.out.1.1.drew rfl, HR.out.1.2⟩, ((HK0.out.then (HR.out.2.mono fun _ x => x.elim)).drew).put (.inl rfl)⟩
  | ok q =>
    obtain ⟨n, j⟩ := q
    obtain ⟨p1, p2, p3, p4⟩ := put_get hg
    rw [size_bl] at p2
    have hcv := conv_u64 most (by omega)
    have hb := fun W (hW : RdAt W g s (i, 0)) => big_ok W g s i n j hW hs hg p2
    have HB := Lib.hid hb; clear hb
    unfold maxLen at hs
    by_cases hlt : most < n
    · have hr : rText s most (i, 0) = (emp, (j, 3)) := by
        unfold rText rBig
        simp [hg, hlt]
      rw [hr]
      have hf := fails_no 3 (by decide)
      have HF := Lib.hid hf
      clear hf hr hm hs h hg p1 p2 p3 p4
      go_enter_defers Try.func62, Try.ntmps62
      go_wp2_with fail
      refine (err_any _ _ _ _ H0.out).mono ?_
      rintro e w2 ⟨rfl, rfl⟩
      go_wp2_with fail
      refine (HB.out _ H0.out).mono ?_
      rintro e w2 ⟨rfl, hr, hk⟩
      have HR := Lib.hid (And.intro hr hk); clear hr hk
      have hx2 := (HX0.out.kept HR.out.2 (by omega)).cell 0
      simp only [List.getElem?_toArray, List.getElem?_cons_zero] at hx2
      go_wp2_with fail
      refine (HF.out _).mono ?_
      rintro e w3 ⟨rfl, rfl⟩
      go_wp2
      refine leaves_cons (f := 71) (args := #[.pointer (some ⟨w.heap.size, 0, none⟩)]) (by simp) (by simp [go_sem]) ?_
      refine (catchText _ w.heap.size g s (j, 0) 3 [] HR.out.1 hx2).mono ?_
      rintro e u w3 ⟨rfl, rfl, rfl⟩
      simp [Leaves, settle, results, Try.results62, go_sem]
      exact ⟨rfl, ⟨Has.put_of HR.out.1.1.drew rfl, HR.out.1.2⟩, ((HK0.out.then HR.out.2).drew).put (.inl rfl)⟩
    have hf3 := fails_ok 3
    have HF3 := Lib.hid hf3; clear hf3
    have hcv3 := conv_sub s.size j p2 hs
    by_cases hsh : s.size - j < n
    · have hr : rText s most (i, 0) = (emp, (j, 2)) := by
        unfold rText rBig
        simp [hg, hlt, hsh]
      rw [hr]
      have hsh2 : decide ((s.size : Int) - j < n) = true := decide_eq_true (by omega)
      have hf : ∀ W, Calls Try.prog 58 #[.bool (decide ((s.size : Int) - j < n)), .int .i64 2] W fun e w' => e = thrown 2 ∧ W = w' := by rw [hsh2]; exact fails_no 2 (by decide)
      have HF := Lib.hid hf
      clear hsh2 hf hr hm h hg p1 p3 p4 hsh
      go_enter_defers Try.func62, Try.ntmps62
      go_wp2_with fail
      refine (err_any _ _ _ _ H0.out).mono ?_
      rintro e w2 ⟨rfl, rfl⟩
      go_wp2_with fail
      refine (HB.out _ H0.out).mono ?_
      rintro e w2 ⟨rfl, hr, hk⟩
      have HR := Lib.hid (And.intro hr hk); clear hr hk
      have hx2 := (HX0.out.kept HR.out.2 (by omega)).cell 0
      have c0 := HR.out.1.1.cell 0
      have c1 := HR.out.1.1.cell 1
      simp only [List.getElem?_toArray, List.getElem?_cons_zero, List.getElem?_cons_succ] at hx2 c0 c1
      go_wp2_with fail
      refine (HF3.out _).mono ?_
      rintro e w3 ⟨rfl, rfl⟩
      go_wp2_with fail
      refine wp_region_still_tail 13 (by kernel_rfl) (by kernel_rfl) ?_
      simp only [List.take_succ_cons, List.take_zero, List.drop_succ_cons, List.drop_zero]
      change wpStill _ _ (World.drew w2) _ _ _
      repeat still_step
      refine wpStill_nil ?_
      change wpList _ _ _ _ _ (World.drew w2)
      go_wp2_with fail
      refine (HF.out _).mono ?_
      rintro e w3 ⟨rfl, rfl⟩
      go_wp2
      refine leaves_cons (f := 71) (args := #[.pointer (some ⟨w.heap.size, 0, none⟩)]) (by simp) (by simp [go_sem]) ?_
      refine (catchText _ w.heap.size g s (j, 0) 2 [] ⟨HR.out.1.1.drew, HR.out.1.2⟩ hx2).mono ?_
      rintro e u w3 ⟨rfl, rfl, rfl⟩
      simp [Leaves, settle, results, Try.results62, go_sem]
      exact ⟨rfl, ⟨Has.put_of HR.out.1.1.drew rfl, HR.out.1.2⟩, ((HK0.out.then HR.out.2).drew.drew).put (.inl rfl)⟩
    · have hr : rText s most (i, 0) = (s.extract j (j + n), (j + n, 0)) := by
        unfold rText rBig
        simp [hg, hlt, hsh]
      rw [hr]
      have hcv2 := conv_i64 n (by omega)
      have hsh2 : decide ((s.size : Int) - j < n) = false := decide_eq_false (by omega)
      have hf : ∀ W, Calls Try.prog 58 #[.bool (decide ((s.size : Int) - j < n)), .int .i64 2] W fun e w' => e = .returned (.tuple #[]) ∧ W = w' := by rw [hsh2]; exact fails_ok 2
      have HF := Lib.hid hf
      clear hsh2
      have hto : (j : Int) + n ≤ s.size := by omega
      have hw : IntKind.i64.wrap ((j : Int) + n) = (j : Int) + n := IntWalk.i64_in _ (by omega)
      have htn : ((j : Int) + n).toNat = j + n := by omega
      have ht0 : (0 : Int) ≤ (j : Int) + n := by omega
      have ht1 : (j : Int) ≤ (j : Int) + n := by omega
      clear hf hr hm h hg p1 p3 p4 hsh
      go_enter_defers Try.func62, Try.ntmps62
      go_wp2_with fail
      refine (err_any _ _ _ _ H0.out).mono ?_
      rintro e w2 ⟨rfl, rfl⟩
      go_wp2_with fail
      refine (HB.out _ H0.out).mono ?_
      rintro e w2 ⟨rfl, hr, hk⟩
      have HR := Lib.hid (And.intro hr hk); clear hr hk
      have hx2 := (HX0.out.kept HR.out.2 (by omega)).cell 0
      have c0 := HR.out.1.1.cell 0
      have c1 := HR.out.1.1.cell 1
      have f1 := HR.out.1.1.frozen 1
      simp only [List.getElem?_toArray, List.getElem?_cons_zero, List.getElem?_cons_succ] at hx2 c0 c1
      go_wp2_with fail
      refine (HF3.out _).mono ?_
      rintro e w3 ⟨rfl, rfl⟩
      go_wp2_with fail
      refine wp_region_still_tail 13 (by kernel_rfl) (by kernel_rfl) ?_
      simp only [List.take_succ_cons, List.take_zero, List.drop_succ_cons, List.drop_zero]
      change wpStill _ _ (World.drew w2) _ _ _
      repeat still_step
      refine wpStill_nil ?_
      change wpList _ _ _ _ _ (World.drew w2)
      go_wp2_with fail
      refine (HF.out _).mono ?_
      rintro e w3 ⟨rfl, rfl⟩
      go_wp2_with fail
      refine wp_region_still_tail 15 (by kernel_rfl) (by kernel_rfl) ?_
      simp only [List.take_succ_cons, List.take_zero, List.drop_succ_cons, List.drop_zero]
      change wpStill _ _ (World.drew w2.drew) _ _ _
      repeat still_step
      refine wpStill_nil ?_
      change wpList _ _ _ _ _ (World.drew w2.drew)
      go_wp2
      refine leaves_cons (f := 71) (args := #[.pointer (some ⟨w.heap.size, 0, none⟩)]) (by simp) (by simp [go_sem]) ?_
      refine (idleText _ w.heap.size g ?_).mono ?_
      · exact (((HX0.out.kept HR.out.2 (by omega)).past (by omega)).cell 0)
      rintro e u w3 ⟨rfl, rfl, rfl⟩
      simp [Leaves, settle, results, Try.results62, go_sem]
      exact ⟨rfl, ⟨Has.put_of HR.out.1.1 rfl, by omega⟩, ((HK0.out.then HR.out.2).put (.inl rfl)).drew.drew.drew⟩
end Wire
end Go.Proofs.Ytfobbocaodppeaa
