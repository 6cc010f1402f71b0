/- script.Put: steps as bytes. -/
import Derived.Test.YtfobbocaodppeaaScr5
import Derived.Test.YtfobbocaodppeaaBuilder2
set_option linter.unusedSimpArgs false
set_option linter.unusedVariables false
namespace Go.Proofs.Ytfobbocaodppeaa
open Go.RowKit Go.Shelf
set_option maxRecDepth 100000
namespace Scr
open Ops Vn Wire Bld
def cts (l : List EvR) : List EvC := l.map fun e => e.x
theorem cts_get {l : List EvR} {i : Nat} {e : EvR} (h : l[i]? = some e) : (cts l)[i]? = some e.x := by unfold cts; simp [h]
theorem cts_len (l : List EvR) : (cts l).length = l.length := by simp [cts]
theorem putS_take {l : List EvC} {i : Nat} {e : EvC} (h : l[i]? = some e) : putS (l.take (i + 1)) = putS (l.take i) ++ byteE e := by
  unfold putS
  rw [List.take_add_one, h, List.flatMap_append]
  simp
theorem chkS_next {l : List EvC} {i : Nat} {e : EvC} (h : l[i]? = some e) : chkS (l.drop i) = if oneC e ≠ 0 then oneC e else chkS (l.drop (i + 1)) := by
  obtain ⟨hi, rfl⟩ := List.getElem?_eq_some_iff.1 h
  exact chkS_at l i hi
theorem putS_le (l : List EvC) (h : ∀ e ∈ l, oneC e = 0) : (putS l).length ≤ 256 * l.length := by
  unfold putS
  induction l with
  | nil => simp
  | cons a l ih =>
    have h1 := ih fun e he => h e (by simp [he])
    have h2 := (oneC_ok (h a (by simp))).2
    rw [List.flatMap_cons, List.length_append, List.length_cons]
    have h3 : (byteE a).length = (putE a).length + 1 := rfl
    omega
theorem conv_len (n : Nat) (h : n ≤ 255) (W : World) : (convert 3 5 (.int .i64 (n : Int))).run Try.prog W = .ok (.int .u8 n) W := by
  have hw : IntKind.u8.wrap (n : Int) = n := by
    simp [IntKind.wrap, IntKind.signed, IntKind.bits]
    omega
  simp [go_sem, hw]
/-- What Put leaves. -/
def PutPost (w : World) (l : List EvC) (r : Ending) (w' : World) : Prop := r = .returned (.tuple #[.string (putR l), .int .i64 (chkS l)]) ∧ Kept NoF w w'
set_option maxHeartbeats 8000000 in
theorem put_any (w : World) (A : Option Addr) (c : Nat) (l : List EvR) (hl : Src w 10 A l.length (vcells l)) (hk : SOk w l) (hb : ∀ e ∈ l, wtE e.x ≤ 1048576) (hlen : l.length ≤ 100000) :
    Calls Try.prog 8 #[.slice A l.length c] w (PutPost w (cts l)) := by
  have HL := Lib.hid hl; clear hl
  have HK := Lib.hid hk; clear hk
  have HB := Lib.hid hb; clear hb
  obtain ⟨ws, hws⟩ : ∃ ws, cts l = ws := ⟨_, rfl⟩
  rw [hws]
  have HWS := Lib.hid hws; clear hws
  obtain ⟨N, hN⟩ : ∃ N, w.heap.size = N := ⟨_, rfl⟩
  have h0 := bd_new w
  have hk0 := (Kept.refl NoF w).alloc (.cells #[.pointer none, .slice none 0 0] 45)
  rw [hN] at h0
  have H0 := Lib.hid (And.intro h0 hk0); clear h0 hk0
  have HN := Lib.hid hN
  go_enter Try.func8, Try.ntmps8
  go_wp2_with fail
  clear hN
  go_loopw [11] (fun v11 wr => ∃ i : Nat, i ≤ l.length ∧ v11 = .int .i64 i ∧ Bd N N (putS (ws.take i)) wr ∧ Kept NoF w wr ∧ chkS ws = chkS (ws.drop i) ∧ ∀ e ∈ ws.take i, oneC e = 0) (fun v11 _ => l.length - (intOf v11).toNat)
  case atStart => exact ⟨0, Nat.zero_le _, rfl, H0.out.1, H0.out.2, rfl, by simp⟩
  case round =>
    obtain ⟨i, hi, rfl, hbd, hk, hck, hok⟩ := hrel
    have HKW := Lib.hid hk; clear hk
    by_cases hil : i < l.length
    · obtain ⟨e, he⟩ : ∃ e, l[i]? = some e := ⟨_, List.getElem?_eq_getElem hil⟩
      obtain ⟨ad, rfl, had, e0, e1, e2, e3, e4, e5, e6, e7, e8, e9⟩ := ev_cells (HL.out.kept HKW.out (fun _ _ z => z)) (by omega) i e he
      have hwi : ws[i]? = some e.x := by rw [← HWS.out]; exact cts_get he
      have hm := List.mem_of_getElem? he
      have hone := fun W (hW : Kept NoF wr W) => one_any W e (((HK.out e hm).kept HKW.out).kept hW) (HB.out e hm)
      have hnx := chkS_next hwi
      have hpt := putS_take hwi
      have hle := putS_le _ hok
      rw [List.length_take] at hle
      have hok2 : oneC e.x = 0 → ∀ z ∈ ws.take (i + 1), oneC z = 0 := fun h z hz => by
        rw [List.take_add_one, hwi] at hz
        rcases List.mem_append.1 hz with hz | hz
        · exact hok z hz
        · simp at hz; rw [hz]; exact h
      obtain ⟨x, eA, ec⟩ := e
      unfold vagg OnePost at hone
      dsimp only at hone hnx hpt hok2 e0 e1 e2 e3 e4 e5 e6 e7 e8 e9
      obtain ⟨k, nd, n, ak, an, key, dst, tm, am, ol⟩ := x
      dsimp only at hone e0 e1 e2 e3 e4 e5 e6 e7 e8 e9
      obtain ⟨x, hx⟩ : ∃ x : EvC, (⟨k, nd, n, ak, an, key, dst, tm, am, ol⟩ : EvC) = x := ⟨_, rfl⟩
      rw [hx] at hone hnx hpt hok2
      obtain ⟨cur, hcur⟩ : ∃ cur, putS (ws.take i) = cur := ⟨_, rfl⟩
      rw [hcur] at hbd hpt hle
      have HBD := Lib.hid hbd; clear hbd
      have HONE := Lib.hid hone; clear hone
      have hcl : cur.length ≤ 256 * 100000 := by have := Nat.min_le_left i ws.length; omega
      have HCL := Lib.hid hcl; clear hcl
      clear hle hcur hok hwi hm he hx
      go_wp2_with fail
      refine (HONE.out _ (by (repeat' (first | with_reducible exact Kept.refl _ _ | with_reducible refine Kept.put ?_ ?_ | with_reducible refine Kept.drewN ?_ _ | with_reducible refine Kept.drew ?_ | with_reducible refine Kept.alloc ?_ _ | (fail) | (right; simp; done))))).mono ?_
      rintro r w2 ⟨rfl, hk2⟩
      have hk3 : Kept NoF wr w2 := Kept.then (by (repeat' (first | with_reducible exact Kept.refl _ _ | with_reducible refine Kept.put ?_ ?_ | with_reducible refine Kept.drewN ?_ _ | with_reducible refine Kept.drew ?_ | with_reducible refine Kept.alloc ?_ _ | (fail) | (right; simp; done)))) hk2
      have hb3 := HBD.out.kept hk3
      have HR := Lib.hid (And.intro hb3 (HKW.out.then hk3)); clear hb3 hk3 hk2 HONE HBD
      by_cases hz : oneC x = 0
      · have hlen := (oneC_ok hz).2
        have hs : oneR x = ofL (putE x) := by unfold oneR; rw [if_pos hz]
        rw [hs, hz]
        rw [if_neg (by simp [hz])] at hnx
        have hok3 := hok2 hz
        have hcv := conv_len (ofL (putE x)).size (by rw [ofL_size]; exact hlen)
        have hsz : (ofL (putE x)).size = (putE x).length := ofL_size _
        have hw1 : Calls Try.prog 16 #[.pointer (some ⟨N, 0, none⟩), .int .u8 ((ofL (putE x)).size : Nat)] w2 fun e w' => e = .returned .nilIface ∧ Bd N N (cur ++ [UInt8.ofNat (putE x).length]) w' ∧ Below N w2 w' := by
          have h1 := bd_byte N N cur (UInt8.ofNat (putE x).length) w2 HR.out.1 (by have := HCL.out; omega)
          rw [ofNat_len hlen] at h1
          rw [hsz]
          exact h1
        have hw2 := fun W (hW : Bd N N (cur ++ [UInt8.ofNat (putE x).length]) W) => bd_write N N _ (ofL (putE x)) W hW (by rw [hsz]; have := HCL.out; rw [List.length_append]; simp only [List.length_cons, List.length_nil]; omega)
        have hpt2 : putS (ws.take (i + 1)) = (cur ++ [UInt8.ofNat (putE x).length]) ++ bl (ofL (putE x)) := by rw [hpt, bl_ofL]; unfold byteE; simp
        rw [← hpt2] at hw2
        obtain ⟨c1, hc1⟩ : ∃ c1, cur ++ [UInt8.ofNat (putE x).length] = c1 := ⟨_, rfl⟩
        rw [hc1] at hw1 hw2
        clear hc1
        have HW1 := Lib.hid hw1; clear hw1
        have HW2 := Lib.hid hw2; clear hw2
        have HE := Lib.hid (And.intro hok3 (hck.trans hnx)); clear hok3 hck hnx hok2 hpt hpt2 hs
        obtain ⟨S, hS⟩ : ∃ S, ofL (putE x) = S := ⟨_, rfl⟩
        rw [hS] at hcv HW1 HW2 ⊢
        clear hS hsz hlen hz
        go_wp2_with fail
        refine HW1.out.mono ?_
        rintro r w3 ⟨rfl, hb3, hk3⟩
        have HB3 := Lib.hid hb3; clear hb3
        have HK3 := Lib.hid hk3; clear hk3
        go_wp2_with fail
        refine (HW2.out _ HB3.out).mono ?_
        rintro r w4 ⟨rfl, hb4, hk4⟩
        have hkk : Kept NoF w w4 := behind (behind HR.out.2 HK3.out (by rw [HN.out]; exact Nat.le_refl _)) hk4 (by rw [HN.out]; exact Nat.le_refl _)
        have HF := Lib.hid (And.intro hb4 hkk); clear hb4 hkk hk4
        go_wp2_with fail
        go_roundw
        case rel => exact ⟨i + 1, by omega, by go_num, HF.out.1, HF.out.2, HE.out.2, HE.out.1⟩
        case measure => simp [intOf]; omega
      · rw [if_pos hz] at hnx
        have hck2 := hck.trans hnx
        have hR : PutPost w ws (.returned (.tuple #[.string ⟨#[]⟩, .int .i64 (oneC x)])) w2 := ⟨by rw [hck2]; unfold putR; rw [if_neg (by rw [hck2]; exact hz)]; rfl, HR.out.2⟩
        obtain ⟨m, hm⟩ : ∃ m, oneC x = m := ⟨_, rfl⟩
        rw [hm] at hz hR ⊢
        have hz2 : (m != 0) = true := by simpa using hz
        have HRR := Lib.hid hR
        clear hck hnx hok2 hpt hck2 hR hm hz
        go_wp2
        go_ret2
        exact HRR.out
    · obtain rfl : i = l.length := by omega
      have hwl : ws.length = l.length := by rw [← HWS.out]; exact cts_len l
      rw [List.drop_of_length_le (by omega)] at hck
      rw [List.take_of_length_le (by omega)] at hbd
      have hck0 : chkS ws = 0 := hck
      have hs := bd_string N N _ wr hbd
      have HS := Lib.hid hs; clear hs
      clear hbd hck hok
      go_wp2_with fail
      refine HS.out.mono ?_
      rintro r w3 ⟨rfl, hk3⟩
      have hkk : Kept NoF w w3 := behind HKW.out hk3 (by rw [HN.out]; exact Nat.le_refl _)
      have hR : PutPost w ws (.returned (.tuple #[.string (ofL (putS ws)), .int .i64 0])) w3 := ⟨by rw [hck0]; unfold putR; rw [if_pos hck0], hkk⟩
      have HRR := Lib.hid hR
      clear hR hkk hk3 hck0
      go_wp2
      go_ret2
      exact HRR.out
end Scr
end Go.Proofs.Ytfobbocaodppeaa
