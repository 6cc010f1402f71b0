
/- catenaref02.Writer: what its methods do. -/
import Derived.Test.YtfobbocaodppeaaWire1
import Derived.Deep.RegionLaw
set_option linter.unusedSimpArgs false
set_option linter.unusedVariables false
namespace Go.Proofs.Ytfobbocaodppeaa
open Go.RowKit Go.Shelf
set_option maxRecDepth 100000
namespace Wire
open Vn Ops
/-- The document's writer in block g, that holds the bytes bs; no error. -/
def RwAt (w : World) (g : Nat) (bs : List UInt8) : Prop := Has w g 74 #[.string (ofL bs), .int .i64 0]
def RWrote (w : World) (g : Nat) (bs : List UInt8) (e : Ending) (w' : World) : Prop := e = .returned (.tuple #[]) ∧ RwAt w' g bs ∧ Kept (fun k => k = g) w w'
theorem conv_u64 (n : Nat) (hn : n < 18446744073709551616) (W : World) : (convert 3 36 (.int .i64 (n : Int))).run Try.prog W = .ok (.int .u64 n) W := by
  have hw : IntKind.u64.wrap (n : Int) = n := by
    simp [IntKind.wrap, IntKind.signed, IntKind.bits]
    omega
  simp [go_sem, hw]
theorem ofL_append (a b : List UInt8) : ofL a ++ ofL b = ofL (a ++ b) := by
  apply bl_inj
  rw [bl_ofL]
  simp [bl, ofL]
theorem ofL_append_bl (a : List UInt8) (s : ByteArray) : ofL a ++ s = ofL (a ++ bl s) := by
  rw [← ofL_append, ofL_bl]
set_option maxHeartbeats 2000000 in
theorem rwbig_any (w : World) (g : Nat) (bs : List UInt8) (n : Nat) (hn : n < 18446744073709551616) (h : RwAt w g bs) (hlen : bs.length + 9 ≤ 140737488355328) :
    Calls Try.prog 33 #[.pointer (some ⟨g, 0, none⟩), .int .u64 n] w (RWrote w g (bs ++ put n)) := by
  have hv := rput_any n (by omega)
  have HV := Lib.hid hv; clear hv
  have c0 := h.cell 0
  have c1 := h.cell 1
  simp only [List.getElem?_toArray, List.getElem?_cons_zero, List.getElem?_cons_succ] at c0 c1
  have H := Lib.hid h; clear h
  have hp := put_le (n := n) (by omega)
  have hsum : ¬ 9223372036854775807 < (ofL bs).size + (ofL (put n)).size := by rw [ofL_size, ofL_size]; omega
  clear hp
  go_enter Try.func33, Try.ntmps33
  go_wp2
  go_region_law (go_simp; go_at_call 54; refine (HV.out _).mono ?_; rintro e w2 ⟨rfl, hk0⟩; have hk : Kept NoF w w2 := Kept.then (a := w) (by (repeat' (first | with_reducible exact Kept.refl _ _ | with_reducible refine Kept.put ?_ ?_ | with_reducible refine Kept.drewN ?_ _ | with_reducible refine Kept.drew ?_ | with_reducible refine Kept.alloc ?_ _ | (fail) | (right; simp; done)))) hk0; clear hk0; have hx := Has.kept (F := NoF) H.out hk (fun x => x); have d0 := hx.cell 0; have f0 := hx.frozen 0; simp only [List.getElem?_toArray, List.getElem?_cons_zero, List.getElem?_cons_succ] at d0; have HX := Lib.hid hx; clear hx; have HK := Lib.hid hk; clear hk)
  all_goals (go_end0; exact ⟨rfl, Has.put_of HX.out (by rw [ofL_append]; simp), (HK.out.mono fun _ x => x.elim).put (.inl rfl)⟩)
set_option maxHeartbeats 2000000 in
theorem rwnum_any (w : World) (g : Nat) (bs : List UInt8) (n : Nat) (hn : n ≤ 9223372036854775807) (h : RwAt w g bs) (hlen : bs.length + 9 ≤ 140737488355328) :
    Calls Try.prog 32 #[.pointer (some ⟨g, 0, none⟩), .int .i64 n] w (RWrote w g (bs ++ put n)) := by
  have hv := rput_any n (by omega)
  have HV := Lib.hid hv; clear hv
  have c0 := h.cell 0
  have c1 := h.cell 1
  simp only [List.getElem?_toArray, List.getElem?_cons_zero, List.getElem?_cons_succ] at c0 c1
  have H := Lib.hid h; clear h
  have hcv := conv_u64 n (by omega)
  have hp := put_le (n := n) (by omega)
  have hsum : ¬ 9223372036854775807 < (ofL bs).size + (ofL (put n)).size := by rw [ofL_size, ofL_size]; omega
  clear hp
  go_enter Try.func32, Try.ntmps32
  go_wp2
  go_region_law (go_simp; go_at_call 54; refine (HV.out _).mono ?_; rintro e w2 ⟨rfl, hk0⟩; have hk : Kept NoF w w2 := Kept.then (a := w) (by (repeat' (first | with_reducible exact Kept.refl _ _ | with_reducible refine Kept.put ?_ ?_ | with_reducible refine Kept.drewN ?_ _ | with_reducible refine Kept.drew ?_ | with_reducible refine Kept.alloc ?_ _ | (fail) | (right; simp; done)))) hk0; clear hk0; have hx := Has.kept (F := NoF) H.out hk (fun x => x); have d0 := hx.cell 0; have f0 := hx.frozen 0; simp only [List.getElem?_toArray, List.getElem?_cons_zero, List.getElem?_cons_succ] at d0; have HX := Lib.hid hx; clear hx; have HK := Lib.hid hk; clear hk)
  all_goals (go_end0; exact ⟨rfl, Has.put_of HX.out (by rw [ofL_append]; simp), (HK.out.mono fun _ x => x.elim).put (.inl rfl)⟩)
set_option maxHeartbeats 2000000 in
theorem rwtext_any (w : World) (g : Nat) (bs : List UInt8) (s : ByteArray) (h : RwAt w g bs) (hlen : bs.length + 9 + s.size ≤ 140737488355328) :
    Calls Try.prog 34 #[.pointer (some ⟨g, 0, none⟩), .string s] w (RWrote w g (bs ++ putT s)) := by
  have hsz : (s.size : Int) < 18446744073709551616 := by omega
  have hv := rput_any s.size (by omega)
  have HV := Lib.hid hv; clear hv
  have c0 := h.cell 0
  have c1 := h.cell 1
  simp only [List.getElem?_toArray, List.getElem?_cons_zero, List.getElem?_cons_succ] at c0 c1
  have H := Lib.hid h; clear h
  have hcv := conv_u64 s.size (by omega)
  have hp := put_le (n := s.size) (by omega)
  have hsum : ¬ 9223372036854775807 < (ofL bs).size + (ofL (put s.size)).size := by rw [ofL_size, ofL_size]; omega
  have hsum2 : ¬ 9223372036854775807 < (ofL bs ++ ofL (put s.size)).size + s.size := by rw [ofL_append, ofL_size, List.length_append]; omega
  have hsum3 : ¬ 9223372036854775807 < (ofL bs).size + (ofL (put s.size)).size + s.size := by rw [ofL_size, ofL_size]; omega
  clear hp
  go_enter Try.func34, Try.ntmps34
  go_wp2
  go_region_law (go_simp; go_at_call 54; refine (HV.out _).mono ?_; rintro e w2 ⟨rfl, hk0⟩; have hk : Kept NoF w w2 := Kept.then (a := w) (by (repeat' (first | with_reducible exact Kept.refl _ _ | with_reducible refine Kept.put ?_ ?_ | with_reducible refine Kept.drewN ?_ _ | with_reducible refine Kept.drew ?_ | with_reducible refine Kept.alloc ?_ _ | (fail) | (right; simp; done)))) hk0; clear hk0; have hx := Has.kept (F := NoF) H.out hk (fun x => x); have d0 := hx.cell 0; have f0 := hx.frozen 0; simp only [List.getElem?_toArray, List.getElem?_cons_zero, List.getElem?_cons_succ] at d0; have HX := Lib.hid hx; clear hx; have HK := Lib.hid hk; clear hk)
  all_goals (go_end0; exact ⟨rfl, Has.put_of HX.out (by rw [ofL_append, ofL_append_bl, List.append_assoc]; simp [putT]), (HK.out.mono fun _ x => x.elim).put (.inl rfl)⟩)
theorem rwflag_any (w : World) (g : Nat) (bs : List UInt8) (b : Bool) (h : RwAt w g bs) (hlen : bs.length + 9 ≤ 140737488355328) :
    Calls Try.prog 35 #[.pointer (some ⟨g, 0, none⟩), .bool b] w (RWrote w g (bs ++ putF b)) := by
  cases b
  · have hp2 := rwbig_any w g bs 0 (by decide) h hlen
    have HP := Lib.hid hp2; clear hp2 h
    go_enter Try.func35, Try.ntmps35
    go_wp2_with fail
    refine HP.out.mono ?_
    rintro e w4 ⟨rfl, hw⟩
    have HW := Lib.hid hw; clear hw
    go_wp2
    go_end0
    exact ⟨rfl, HW.out⟩
  · have hp2 := rwbig_any w g bs 1 (by decide) h hlen
    have HP := Lib.hid hp2; clear hp2 h
    go_enter Try.func35, Try.ntmps35
    go_wp2_with fail
    refine HP.out.mono ?_
    rintro e w4 ⟨rfl, hw⟩
    have HW := Lib.hid hw; clear hw
    go_wp2
    go_end0
    exact ⟨rfl, HW.out⟩
theorem rwdone_any (w : World) (g : Nat) (bs : List UInt8) (h : RwAt w g bs) :
    Calls Try.prog 36 #[.pointer (some ⟨g, 0, none⟩)] w fun e w' => e = .returned (.tuple #[.string (ofL bs), .int .i64 0]) ∧ w = w' := by
  have c0 := h.cell 0
  have c1 := h.cell 1
  simp only [List.getElem?_toArray, List.getElem?_cons_zero, List.getElem?_cons_succ] at c0 c1
  clear h
  go_enter Try.func36, Try.ntmps36
  go_wp2
  go_ret2
  exact ⟨rfl, rfl⟩
end Wire
end Go.Proofs.Ytfobbocaodppeaa
