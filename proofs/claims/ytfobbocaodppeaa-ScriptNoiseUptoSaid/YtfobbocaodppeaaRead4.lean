
/- wire.Reader.Num, Big. -/
import Derived.Test.YtfobbocaodppeaaRead3
import Derived.Test.YtfobbocaodppeaaWire2
import Derived.Deep.QuietTactic
import Derived.BigQuiet
set_option linter.unusedSimpArgs false
set_option linter.unusedVariables false
namespace Go.Proofs.Ytfobbocaodppeaa
open Go.RowKit
set_option maxRecDepth 100000
namespace Wire
open Vn Ops
theorem get_err {l : List UInt8} {i c : Nat} (h : get l i = .error c) : c = 2 ∨ c = 4 := by
  unfold Vn.get at h
  split at h
  · injection h with h; exact .inl h.symm
  · split at h
    · cases h
    · dsimp only at h
      split at h
      · injection h with h; exact .inl h.symm
      · split at h
        · injection h with h; exact .inr h.symm
        · cases h
theorem RdAt.kept {F : Nat → Prop} {w w' : World} {g : Nat} {s : ByteArray} {r : RS} (h : RdAt w g s r) (hk : Kept F w w') (hf : ¬ F g) : RdAt w' g s r := ⟨h.1.kept hk hf, h.2⟩
theorem RdAt.alloc {w : World} {g : Nat} {s : ByteArray} {r : RS} (h : RdAt w g s r) (o : Obj) : RdAt (w.alloc o) g s r := ⟨h.1.alloc o, h.2⟩
/-- What a method of the reader leaves. -/
def RRead (w : World) (g : Nat) (s : ByteArray) (v : Value) (r : RS) (e : Ending) (w' : World) : Prop := e = .returned v ∧ RdAt w' g s r ∧ Kept (fun k => k = g) w w'
set_option maxHeartbeats 1000000 in
theorem big_ok (w : World) (g : Nat) (s : ByteArray) (i n j : Nat) (h : RdAt w g s (i, 0)) (hs : s.size ≤ maxLen) (hg : get (bl s) i = .ok (n, j)) (hj : j ≤ s.size) :
    Calls Try.prog 57 #[.pointer (some ⟨g, 0, none⟩)] w (RRead w g s (.int .u64 n) (j, 0)) := by
  have hv := vget_any s i h.2 hs
  rw [hg] at hv
  simp only [getT] at hv
  have HV := Lib.hid hv; clear hv
  have c0 := h.1.cell 0
  have c1 := h.1.cell 1
  have f1 := h.1.frozen 1
  simp only [List.getElem?_toArray, List.getElem?_cons_zero, List.getElem?_cons_succ] at c0 c1
  have H := Lib.hid h; clear h
  have hb := bad_ok
  have HB := Lib.hid hb; clear hb hg
  go_enter Try.func57, Try.ntmps57
  go_wp2_with fail
  go_quiet ((go_at_call 68; exact Calls.quiet_of_same ((HV.out _).mono fun e w' h => ⟨h.1, h.2.symm⟩)))
  go_wp2_with fail
  refine (HB.out _).mono ?_
  rintro e w2 ⟨rfl, rfl⟩
  go_wp2
  go_ret
  exact ⟨rfl, ⟨Has.put_of (H.out.1.drewN _) rfl, hj⟩, ((Kept.refl _ _).drewN _).put (.inl rfl)⟩
theorem big_no (w : World) (g : Nat) (s : ByteArray) (i c : Nat) (h : RdAt w g s (i, 0)) (hs : s.size ≤ maxLen) (hg : get (bl s) i = .error c) :
    Calls Try.prog 57 #[.pointer (some ⟨g, 0, none⟩)] w fun e w' => e = thrown c ∧ RdAt w' g s (i, 0) ∧ Kept NoF w w' := by
  have hc := get_err hg
  have hv := vget_any s i h.2 hs
  rw [hg] at hv
  simp only [getT] at hv
  have HV := Lib.hid hv; clear hv
  have c0 := h.1.cell 0
  have c1 := h.1.cell 1
  simp only [List.getElem?_toArray, List.getElem?_cons_zero, List.getElem?_cons_succ] at c0 c1
  have H := Lib.hid h; clear h
  have hb := bad_no c (by omega)
  have HB := Lib.hid hb; clear hb hg
  go_enter Try.func57, Try.ntmps57
  go_wp2_with fail
  go_quiet ((go_at_call 68; exact Calls.quiet_of_same ((HV.out _).mono fun e w' h => ⟨h.1, h.2.symm⟩)))
  go_wp2_with fail
  refine (HB.out _).mono ?_
  rintro e w2 ⟨rfl, rfl⟩
  go_wp2
  exact ⟨rfl, rfl, ⟨H.out.1.drewN _, H.out.2⟩, (Kept.refl _ _).drewN _⟩
theorem conv_i64 (n : Nat) (hn : n ≤ 9223372036854775807) (W : World) : (convert 36 3 (.int .u64 (n : Int))).run Try.prog W = .ok (.int .i64 n) W := by
  have hw : IntKind.i64.wrap (n : Int) = n := IntWalk.i64_in _ (by omega)
  simp [go_sem, hw]
set_option maxHeartbeats 1000000 in
theorem num_any (w : World) (g : Nat) (s : ByteArray) (r : RS) (most : Nat) (h : RdAt w g s r) (hs : s.size ≤ maxLen) (hm : most ≤ 9223372036854775807) :
    Calls Try.prog 40 #[.pointer (some ⟨g, 0, none⟩), .int .i64 most] w (RRead w g s (.int .i64 (rNum s most r).1) (rNum s most r).2) := by
  have hmf : ∀ (fn : Fn) (first cap : Array Value) (w : World), (Instr.makeFunc fn first cap).run Try.prog w = .ok (.func fn first cap) w := fun _ _ _ _ => rfl
  have hgl := h.1.lt
  have H0 := Lib.hid (h.alloc (.cells #[.pointer (some ⟨g, 0, none⟩)] 81))
  have HK0 := Lib.hid ((Kept.refl (fun k => k = g) w).alloc (.cells #[.pointer (some ⟨g, 0, none⟩)] 81))
  have HX0 := Lib.hid (Has.new w 81 #[.pointer (some ⟨g, 0, none⟩)])
  obtain ⟨i, e0⟩ := r
  by_cases he : e0 = 0
  rotate_left
  · have hr := rNum_err (s := s) (most := most) (q := (i, e0)) he
    rw [hr]
    have he2 : (e0 != 0) = true := by simpa using he
    clear he hr hm hs h
    go_enter_defers Try.func40, Try.ntmps40
    go_wp2_with fail
    refine (err_any _ _ _ _ H0.out).mono ?_
    rintro e w2 ⟨rfl, rfl⟩
    go_wp2
    exact ⟨_, results_tmp rfl _ _ _, rfl, H0.out, HK0.out⟩
  subst he
  have hx0 := HX0.out.cell 0
  simp only [List.getElem?_toArray, List.getElem?_cons_zero] at hx0
  cases hg : get (bl s) i with
  | error c =>
    have hr : rNum s most (i, 0) = (0, (i, (c : Int))) := by
      have := get_err hg
      unfold rNum rBig
      simp [hg]
    rw [hr]
    have hb := fun W (hW : RdAt W g s (i, 0)) => big_no W g s i c hW hs hg
    have HB := Lib.hid hb; clear hb hr hm hs h hg
    go_enter_defers Try.func40, Try.ntmps40
    go_wp2_with fail
    refine (err_any _ _ _ _ H0.out).mono ?_
    rintro e w2 ⟨rfl, rfl⟩
    go_wp2_with fail
    refine (HB.out _ H0.out).mono ?_
    rintro e w2 ⟨rfl, hr, hk⟩
    have HR := Lib.hid (And.intro hr hk); clear hr hk
    go_wp2
    refine leaves_cons (f := 55) (args := #[.pointer (some ⟨w.heap.size, 0, none⟩)]) (by simp) (by simp [go_sem]) ?_
    refine (catchNum _ w.heap.size g s (i, 0) c [] HR.out.1 ((HX0.out.kept HR.out.2 (fun x => x)).cell 0)).mono ?_
    rintro e u w3 ⟨rfl, rfl, rfl⟩
    simp [Leaves, settle, results, Try.results40, go_sem]
    exact ⟨rfl, ⟨Has.put_of HR.out.1.1.drew rfl, HR.out.1.2⟩, ((HK0.out.then (HR.out.2.mono fun _ x => x.elim)).drew).put (.inl rfl)⟩
  | ok q =>
    obtain ⟨n, j⟩ := q
    obtain ⟨p1, p2, p3, p4⟩ := put_get hg
    rw [size_bl] at p2
    have hcv := conv_u64 most (by omega)
    have hb := fun W (hW : RdAt W g s (i, 0)) => big_ok W g s i n j hW hs hg p2
    have HB := Lib.hid hb; clear hb
    by_cases hlt : most < n
    · have hr : rNum s most (i, 0) = (0, (j, 5)) := by
        unfold rNum rBig
        simp [hg, hlt]
      rw [hr]
      have hf := fails_no 5 (by decide)
      have HF := Lib.hid hf
      clear hf hr hm hs h hg p1 p2 p3 p4
      go_enter_defers Try.func40, Try.ntmps40
      go_wp2_with fail
      refine (err_any _ _ _ _ H0.out).mono ?_
      rintro e w2 ⟨rfl, rfl⟩
      go_wp2_with fail
      refine (HB.out _ H0.out).mono ?_
      rintro e w2 ⟨rfl, hr, hk⟩
      have HR := Lib.hid (And.intro hr hk); clear hr hk
      have hx2 := (HX0.out.kept HR.out.2 (by omega)).cell 0
      simp only [List.getElem?_toArray, List.getElem?_cons_zero] at hx2
      go_wp2_with fail
      refine (HF.out _).mono ?_
      rintro e w3 ⟨rfl, rfl⟩
      go_wp2
      refine leaves_cons (f := 55) (args := #[.pointer (some ⟨w.heap.size, 0, none⟩)]) (by simp) (by simp [go_sem]) ?_
      refine (catchNum _ w.heap.size g s (j, 0) 5 [] HR.out.1 hx2).mono ?_
      rintro e u w3 ⟨rfl, rfl, rfl⟩
      simp [Leaves, settle, results, Try.results40, go_sem]
      exact ⟨rfl, ⟨Has.put_of HR.out.1.1.drew rfl, HR.out.1.2⟩, ((HK0.out.then HR.out.2).drew).put (.inl rfl)⟩
    · have hr : rNum s most (i, 0) = (n, (j, 0)) := by
        unfold rNum rBig
        simp [hg, hlt]
      rw [hr]
      have hcv2 := conv_i64 n (by omega)
      have hf := fails_ok 5
      have HF := Lib.hid hf
      clear hf hr hm hs h hg p1 p2 p3 p4
      go_enter_defers Try.func40, Try.ntmps40
      go_wp2_with fail
      refine (err_any _ _ _ _ H0.out).mono ?_
      rintro e w2 ⟨rfl, rfl⟩
      go_wp2_with fail
      refine (HB.out _ H0.out).mono ?_
      rintro e w2 ⟨rfl, hr, hk⟩
      have HR := Lib.hid (And.intro hr hk); clear hr hk
      have hx2 := (HX0.out.kept HR.out.2 (by omega)).cell 0
      simp only [List.getElem?_toArray, List.getElem?_cons_zero] at hx2
      go_wp2_with fail
      refine (HF.out _).mono ?_
      rintro e w3 ⟨rfl, rfl⟩
      go_wp2
      refine leaves_cons (f := 55) (args := #[.pointer (some ⟨w.heap.size, 0, none⟩)]) (by simp) (by simp [go_sem]) ?_
      refine (idleNum _ w.heap.size g hx2).mono ?_
      rintro e u w3 ⟨rfl, rfl, rfl⟩
      simp [Leaves, settle, results, Try.results40, go_sem]
      exact ⟨rfl, ⟨HR.out.1.1.drew, HR.out.1.2⟩, (HK0.out.then HR.out.2).drew⟩
end Wire
end Go.Proofs.Ytfobbocaodppeaa
