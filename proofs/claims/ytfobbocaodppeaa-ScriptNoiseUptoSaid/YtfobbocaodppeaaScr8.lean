/- catenaref40.Put: the document's bytes of steps. -/
import Derived.Test.YtfobbocaodppeaaScr6
import Derived.Test.YtfobbocaodppeaaScr7
import Derived.Deep.RegionLaw
set_option linter.unusedSimpArgs false
set_option linter.unusedVariables false
namespace Go.Proofs.Ytfobbocaodppeaa
open Go.RowKit Go.Shelf
set_option maxRecDepth 100000
namespace Scr
open Ops Vn Wire
set_option maxHeartbeats 8000000 in
theorem rput_any (w : World) (A : Option Addr) (c : Nat) (l : List EvR) (hl : Src w 10 A l.length (vcells l)) (hk : SOk w l) (hb : ∀ e ∈ l, wtE e.x ≤ 1048576) (hlen : l.length ≤ 100000) (hcap : l.length ≤ c) :
    Calls Try.prog 9 #[.slice A l.length c] w (PutPost w (cts l)) := by
  have HL := Lib.hid hl; clear hl
  have HK := Lib.hid hk; clear hk
  have HB := Lib.hid hb; clear hb
  obtain ⟨ws, hws⟩ : ∃ ws, cts l = ws := ⟨_, rfl⟩
  rw [hws]
  have HWS := Lib.hid hws; clear hws
  go_enter Try.func9, Try.ntmps9
  go_wp2_with fail
  go_loopw [4, 5] (fun v4 v5 wr => ∃ i : Nat, i ≤ l.length ∧ v5 = .int .i64 i ∧ v4 = .string (ofL (putS (ws.take i))) ∧ Kept NoF w wr ∧ chkS ws = chkS (ws.drop i) ∧ ∀ e ∈ ws.take i, oneC e = 0) (fun _ v5 _ => l.length - (intOf v5).toNat)
  case atStart => exact ⟨0, Nat.zero_le _, rfl, rfl, Kept.refl _ _, rfl, by simp⟩
  case round =>
    obtain ⟨i, hi, rfl, rfl, hk, hck, hok⟩ := hrel
    have HKW := Lib.hid hk; clear hk
    by_cases hil : i < l.length
    · obtain ⟨e, he⟩ : ∃ e, l[i]? = some e := ⟨_, List.getElem?_eq_getElem hil⟩
      obtain ⟨ad, rfl, had, e0, e1, e2, e3, e4, e5, e6, e7, e8, e9⟩ := ev_cells (HL.out.kept HKW.out (fun _ _ z => z)) (by omega) i e he
      have hwi : ws[i]? = some e.x := by rw [← HWS.out]; exact cts_get he
      have hm := List.mem_of_getElem? he
      have hone := rone_any wr e ((HK.out e hm).kept HKW.out) (HB.out e hm)
      have hnx := chkS_next hwi
      have hpt := putS_take hwi
      have hle := putS_le _ hok
      rw [List.length_take] at hle
      have hok2 : oneC e.x = 0 → ∀ z ∈ ws.take (i + 1), oneC z = 0 := fun h z hz => by
        rw [List.take_add_one, hwi] at hz
        rcases List.mem_append.1 hz with hz | hz
        · exact hok z hz
        · simp at hz; rw [hz]; exact h
      obtain ⟨x, eA, ec⟩ := e
      unfold vagg OnePost at hone
      dsimp only at hone hnx hpt hok2 e0 e1 e2 e3 e4 e5 e6 e7 e8 e9
      obtain ⟨k, nd, n, ak, an, key, dst, tm, am, ol⟩ := x
      dsimp only at hone e0 e1 e2 e3 e4 e5 e6 e7 e8 e9
      obtain ⟨x, hx⟩ : ∃ x : EvC, (⟨k, nd, n, ak, an, key, dst, tm, am, ol⟩ : EvC) = x := ⟨_, rfl⟩
      rw [hx] at hone hnx hpt hok2
      obtain ⟨cur, hcur⟩ : ∃ cur, putS (ws.take i) = cur := ⟨_, rfl⟩
      rw [hcur] at hpt hle ⊢
      have HONE := Lib.hid hone; clear hone
      have hcl : cur.length ≤ 256 * 100000 := by have := Nat.min_le_left i ws.length; omega
      have HCL := Lib.hid hcl; clear hcl
      clear hle hcur hok hwi hm he hx
      go_wp2_with fail
      refine HONE.out.mono ?_
      rintro r w2 ⟨rfl, hk2⟩
      have HR := Lib.hid (HKW.out.then hk2); clear hk2 HONE
      clear e0 e1 e2 e3 e4 e5 e6 e7 e8 e9
      by_cases hz : oneC x = 0
      · have hlen := (oneC_ok hz).2
        have hs : oneR x = ofL (putE x) := by unfold oneR; rw [if_pos hz]
        rw [hs, hz]
        rw [if_neg (by simp [hz])] at hnx
        have hok3 := hok2 hz
        have hcv := conv_len (ofL (putE x)).size (by rw [ofL_size]; exact hlen)
        have hsz : (ofL (putE x)).size = (putE x).length := ofL_size _
        have hl2 : (ofL (putE x)).size < 256 := by omega
        have hadd : (ofL cur ++ ⟨#[UInt8.ofNat (ofL (putE x)).size]⟩) ++ ofL (putE x) = ofL (putS (ws.take (i + 1))) := by
          have e1 : (⟨#[UInt8.ofNat (ofL (putE x)).size]⟩ : ByteArray) = ofL [UInt8.ofNat (ofL (putE x)).size] := rfl
          rw [e1, ofL_append, ofL_append, hpt, hsz]
          unfold byteE
          simp
        have hsa : ¬ 9223372036854775807 < (ofL cur).size + 1 := by rw [ofL_size]; have := HCL.out; omega
        have hsb : ¬ 9223372036854775807 < (ofL cur ++ ⟨#[UInt8.ofNat (ofL (putE x)).size]⟩).size + (ofL (putE x)).size := by
          have e1 : (⟨#[UInt8.ofNat (ofL (putE x)).size]⟩ : ByteArray) = ofL [UInt8.ofNat (ofL (putE x)).size] := rfl
          rw [e1, ofL_append, ofL_size, ofL_size, List.length_append]
          have := HCL.out
          simp only [List.length_cons, List.length_nil]
          omega
        have HE := Lib.hid (And.intro hok3 (hck.trans hnx)); clear hok3 hck hnx hok2 hpt hs
        have HADD := Lib.hid hadd; clear hadd
        obtain ⟨S, hS⟩ : ∃ S, ofL (putE x) = S := ⟨_, rfl⟩
        rw [hS] at hcv HADD hsb hl2 ⊢
        clear hS hsz hlen hz
        have hcv1 : ∀ W b, W.cell? ⟨b, 0, none⟩ = some (.int .u8 (S.size : Int)) → (convert 34 9 (.slice (some ⟨b, 0, none⟩) 1 1)).run Try.prog W = .ok (.string ⟨#[UInt8.ofNat S.size]⟩) W := fun W b hc => by
          have h := conv_one W b S.size 1 (by omega) (by omega) hc
          simpa using h
        have hnew := Has.new w2 5 #[.int .u8 (S.size : Int)]
        have HC := Lib.hid (hcv1 _ _ (hnew.cell 0)); clear hcv1 hnew
        have hcv2 := HC.out
        go_wp2_with fail
        go_roundw
        case rel => exact ⟨i + 1, by omega, by go_num, by rw [HADD.out], HR.out.alloc _, HE.out.2, HE.out.1⟩
        case measure => simp [intOf]; omega
      · rw [if_pos hz] at hnx
        have hck2 := hck.trans hnx
        have hR : PutPost w ws (.returned (.tuple #[.string ⟨#[]⟩, .int .i64 (oneC x)])) w2 := ⟨by rw [hck2]; unfold putR; rw [if_neg (by rw [hck2]; exact hz)]; rfl, HR.out⟩
        obtain ⟨m, hm⟩ : ∃ m, oneC x = m := ⟨_, rfl⟩
        rw [hm] at hz hR ⊢
        have hz2 : (m != 0) = true := by simpa using hz
        have HRR := Lib.hid hR
        clear hck hnx hok2 hpt hck2 hR hm hz
        go_wp2
        go_ret2
        exact HRR.out
    · obtain rfl : i = l.length := by omega
      have hwl : ws.length = l.length := by rw [← HWS.out]; exact cts_len l
      rw [List.drop_of_length_le (by omega)] at hck
      rw [List.take_of_length_le (by omega)]
      have hck0 : chkS ws = 0 := hck
      have hR : PutPost w ws (.returned (.tuple #[.string (ofL (putS ws)), .int .i64 0])) wr := ⟨by rw [hck0]; unfold putR; rw [if_pos hck0], HKW.out⟩
      have HRR := Lib.hid hR
      clear hR hck0 hck hok
      go_wp2
      go_ret2
      exact HRR.out
end Scr
end Go.Proofs.Ytfobbocaodppeaa
