/- The two disks: Alike. -/
import Derived.Test.YtopkeknpdimimaaPl2
set_option linter.unusedSimpArgs false
set_option linter.unusedVariables false
namespace Go.Proofs.Ytopkeknpdimimaa
open Go.RowKit Go.Maps
set_option maxRecDepth 100000
namespace Disk
variable {w : World} {g x i S B : Nat}

set_option maxHeartbeats 4000000 in
theorem alike_any (h : PlAt w B g x i S) (hi : i ≤ 1000) (hS : S ≤ 10000000) :
    Calls Try.prog 7 #[.pointer (some ⟨g, 0, none⟩), .pointer (some ⟨x, 0, none⟩)] w fun e w' => e = .returned (.int .i64 0) ∧ Kept NoF w w' := by
  obtain ⟨F, G, n, m, fs, ps, ser, boot, hd, hr, hs, hF, hG, hm⟩ := h
  have h1 := hm.cf
  have h2 := hm.cn
  have h3 : total ps ≤ S := by have := hm.sz 0; omega
  have hfi := files_any hd (fun p hp => i64_num (hm.kp p hp)) (by omega) (by omega)
  have hrf : ∀ W, Kept NoF w W → _ := fun W hW => rfiles_any (hr.kept hW (fun _ _ x => x)) (by omega) (by omega) S (fun p hp => by have := hm.sizes p hp; omega) (by omega)
  have hpe : ∀ W, Kept NoF w W → _ := fun W hW => pending_any (hd.kept hW (fun _ _ x => x)) (by omega) (by omega)
  have hrp : ∀ W, Kept NoF w W → _ := fun W hW => rpending_any (hr.kept hW (fun _ _ x => x)) (by omega) (by omega)
  have hse : ∀ W, Kept NoF w W → _ := fun W hW => serial_any (hd.kept hW (fun _ _ x => x))
  have hbo : ∀ W, Kept NoF w W → _ := fun W hW => boots_any (hd.kept hW (fun _ _ x => x))
  have hda : ∀ W, Kept NoF w W → ∀ f, I64 f → _ := fun W hW f hf => data_any (hd.kept hW (fun _ _ x => x)) f hf (by omega) (by have := hm.sz f; omega)
  have hrd : ∀ W, Kept NoF w W → ∀ f, _ := fun W hW f => rdata_any (hr.kept hW (fun _ _ x => x)) f (by omega) (by omega) (by have := hm.sz f; rw [hm.like.get] at this; omega)
  have hsame : ∀ f, dataOf m ps f = dataR fs ps f := hm.like.data
  obtain ⟨A, c, Bq, d, _, hx, _, _⟩ := id hr
  have HX := Lib.hid hx; clear hx
  have HFI := Lib.hid hfi; have HRF := Lib.hid hrf; have HPE := Lib.hid hpe; have HRP := Lib.hid hrp; have HSE := Lib.hid hse; have HBO := Lib.hid hbo; have HDA := Lib.hid hda; have HRD := Lib.hid hrd; have HSM := Lib.hid hsame
  clear hfi hrf hpe hrp hse hbo hda hrd hsame hd hr hs hF hG
  have HM := Lib.hid hm; clear hm
  go_enter Try.func7, Try.ntmps7
  go_wp2_with fail
  refine HFI.out.mono ?_
  rintro e w3 ⟨fl, A3, c3, rfl, hfa, ho3, hn3, hk3⟩
  have hfl : fl = (touchR fs ps).map Prod.fst := HM.out.like.files hfa (fun p hp => i64_num (HM.out.keys p hp)) (fun p hp => i64_num (HM.out.kp p hp))
  have hll : fl.length ≤ 100000 := by rw [hfl, List.length_map]; have := touch_len ps fs; omega
  rw [← hfl] at HRF
  have hx3 := HX.out.kept hk3 (fun x => x)
  have q0 : w3.cell? ⟨x, 2, none⟩ = some (.int .i64 ser) := hx3.cell 2
  have q1 : w3.cell? ⟨x, 3, none⟩ = some (.int .i64 boot) := hx3.cell 3
  have HX3 := Lib.hid hx3; clear hx3
  have HO3 := Lib.hid ho3; clear ho3
  have HK3 := Lib.hid hk3; clear hk3
  have HFA := Lib.hid hfa; clear hfa hfl hn3
  have hcap3 := own_cap HO3.out
  go_wp2_with fail
  go_region_held3 (fun W => W.cell? ⟨x, 2, none⟩ = some (.int .i64 ser) ∧ W.cell? ⟨x, 3, none⟩ = some (.int .i64 boot)) (first | exact ⟨q0, q1⟩ | exact q4 | exact q5 | exact q6 | (simp [go_sem, q0, q1]; done))
    (first
      | (go_at_call 23; refine (HPE.out _ (HK3.out.then (by (repeat' (first | with_reducible exact Kept.refl _ _ | with_reducible refine Kept.put ?_ ?_ | with_reducible refine Kept.drewN ?_ _ | with_reducible refine Kept.drew ?_ | with_reducible refine Kept.alloc ?_ _ | (with_reducible exact hk6) | (right; simp; done)))))).mono ?_; rintro e w6 ⟨rfl, hk7'⟩; have hk7 : Kept NoF w3 w6 := Kept.then (by (repeat' (first | with_reducible exact Kept.refl _ _ | with_reducible refine Kept.put ?_ ?_ | with_reducible refine Kept.drewN ?_ _ | with_reducible refine Kept.drew ?_ | with_reducible refine Kept.alloc ?_ _ | (with_reducible exact hk6) | (right; simp; done)))) hk7'; have hx7 := Has.kept HX3.out hk7 (fun x => x); have q6 := And.intro (hx7.cell 2) (hx7.cell 3); clear hx7)
      | (go_at_call 24; refine (HRP.out _ (HK3.out.then (by (repeat' (first | with_reducible exact Kept.refl _ _ | with_reducible refine Kept.put ?_ ?_ | with_reducible refine Kept.drewN ?_ _ | with_reducible refine Kept.drew ?_ | with_reducible refine Kept.alloc ?_ _ | (with_reducible exact hk7) | (right; simp; done)))))).mono ?_; rintro e w' ⟨rfl, rfl⟩)
      | (go_at_call 25; refine (HSE.out _ (HK3.out.then (by (repeat' (first | with_reducible exact Kept.refl _ _ | with_reducible refine Kept.put ?_ ?_ | with_reducible refine Kept.drewN ?_ _ | with_reducible refine Kept.drew ?_ | with_reducible refine Kept.alloc ?_ _ | (with_reducible exact hk7) | (right; simp; done)))))).mono ?_; rintro e w' ⟨rfl, rfl⟩)
      | (go_at_call 26; refine (HBO.out _ (HK3.out.then (by (repeat' (first | with_reducible exact Kept.refl _ _ | with_reducible refine Kept.put ?_ ?_ | with_reducible refine Kept.drewN ?_ _ | with_reducible refine Kept.drew ?_ | with_reducible refine Kept.alloc ?_ _ | (with_reducible exact hk7) | (right; simp; done)))))).mono ?_; rintro e w' ⟨rfl, rfl⟩)
      | (go_at_call 22; refine (HRF.out _ (HK3.out.then (by (repeat' (first | with_reducible exact Kept.refl _ _ | with_reducible refine Kept.put ?_ ?_ | with_reducible refine Kept.drewN ?_ _ | with_reducible refine Kept.drew ?_ | with_reducible refine Kept.alloc ?_ _ | (fail) | (right; simp; done)))))).mono ?_; rintro e w4 ⟨A4, c4', rfl, ho4, hn4, hb4⟩; have hk4 : Kept NoF w3 w4 := Kept.then (by (repeat' (first | with_reducible exact Kept.refl _ _ | with_reducible refine Kept.put ?_ ?_ | with_reducible refine Kept.drewN ?_ _ | with_reducible refine Kept.drew ?_ | with_reducible refine Kept.alloc ?_ _ | (fail) | (right; simp; done)))) hb4; have hx4 := Has.kept HX3.out hk4 (fun x => x); have q4 := And.intro (hx4.cell 2) (hx4.cell 3); have HO4 := Lib.hid ho4; clear ho4 hx4 hn4)
      | (go_at_call 21; refine (zsame_eq _ A3 A4 c3 c4' fl (Src.kept (F := NoF) (Src.of_own HO3.out) (by (repeat' (first | with_reducible exact Kept.refl _ _ | with_reducible refine Kept.put ?_ ?_ | with_reducible refine Kept.drewN ?_ _ | with_reducible refine Kept.drew ?_ | with_reducible refine Kept.alloc ?_ _ | (with_reducible exact hk4) | (right; simp; done)))) (fun _ _ x => x)) (Src.kept (F := NoF) (Src.of_own HO4.out) (by (repeat' (first | with_reducible exact Kept.refl _ _ | with_reducible refine Kept.put ?_ ?_ | with_reducible refine Kept.drewN ?_ _ | with_reducible refine Kept.drew ?_ | with_reducible refine Kept.alloc ?_ _ | (fail) | (right; simp; done)))) (fun _ _ x => x)) (by omega)).mono ?_; rintro e w5 ⟨rfl, hk5⟩; have hk6 : Kept NoF w3 w5 := Kept.then (by (repeat' (first | with_reducible exact Kept.refl _ _ | with_reducible refine Kept.put ?_ ?_ | with_reducible refine Kept.drewN ?_ _ | with_reducible refine Kept.drew ?_ | with_reducible refine Kept.alloc ?_ _ | (with_reducible exact hk4) | (right; simp; done)))) hk5; have hx5 := Has.kept HX3.out hk6 (fun x => x); have q5 := And.intro (hx5.cell 2) (hx5.cell 3); clear hx5))
  have hk8 := HK3.out.then hk7
  have HK8 := Lib.hid (And.intro hk7 hk8)
  clear hk4 hk5 hk6 hk7 hk8 q0 q1 q4 q5 q6 hb4 hk7' HO4
  obtain ⟨w8, hw8⟩ : ∃ w8, w8 = w6 := ⟨_, rfl⟩
  subst hw8
  go_wp2_with fail
  go_loopw [6] (fun v6 wr => ∃ j : Nat, j ≤ fl.length ∧ v6 = .int .i64 j ∧ Kept NoF w8 wr) (fun v6 _ => fl.length - (intOf v6).toNat)
  case atStart => exact ⟨0, Nat.zero_le _, rfl, Kept.refl _ _⟩
  case round =>
    obtain ⟨j, hj, rfl, hk⟩ := hrel
    by_cases hjl : j < fl.length
    · obtain ⟨f, hf⟩ : ∃ f, fl[j]? = some f := ⟨_, List.getElem?_eq_getElem hjl⟩
      have hfi : I64 f := ((HFA.out.mem f).1 (List.mem_of_getElem? hf)).1
      have hcell : ∀ W, Kept NoF wr W → ∃ ad, A3 = some ad ∧ W.cell? (ad.add j) = some (.int .i64 f) := by
        intro W hW
        have hS := (Src.of_own HO3.out).kept ((HK8.out.1.then hk).then hW) (fun _ _ x => x)
        obtain ⟨ad, e, _, hc⟩ := hS.2 (by omega)
        exact ⟨ad, e, hc j _ (by simp [hf])⟩
      obtain ⟨ad, rfl, e0⟩ := hcell wr (Kept.refl _ _)
      have hcell2 : ∀ W, Kept NoF wr W → W.cell? (ad.add j) = some (.int .i64 f) := by
        intro W hW
        obtain ⟨ad', e, h⟩ := hcell W hW
        injection e with e
        subst e
        exact h
      have HC := Lib.hid hcell2; clear hcell hcell2
      have hkk := HK8.out.2.then hk
      have HKK := Lib.hid (And.intro hkk hk); clear hkk hk
      have HFI2 := Lib.hid hfi; clear hfi hf
      go_wp2_with fail
      go_region_held3 (fun W => W.cell? (ad.add j) = some (.int .i64 f)) (first | exact e0 | exact q4 | exact q5 | (simp [go_sem, e0]; done))
        (first
          | (go_at_call 8; refine (HDA.out _ (HKK.out.1.then (by (repeat' (first | with_reducible exact Kept.refl _ _ | with_reducible refine Kept.put ?_ ?_ | with_reducible refine Kept.drewN ?_ _ | with_reducible refine Kept.drew ?_ | with_reducible refine Kept.alloc ?_ _ | (fail) | (right; simp; done))))) f HFI2.out).mono ?_; rintro e w4 ⟨rfl, hk4'⟩; rw [HSM.out]; have hk4 : Kept NoF wr w4 := Kept.then (by (repeat' (first | with_reducible exact Kept.refl _ _ | with_reducible refine Kept.put ?_ ?_ | with_reducible refine Kept.drewN ?_ _ | with_reducible refine Kept.drew ?_ | with_reducible refine Kept.alloc ?_ _ | (fail) | (right; simp; done)))) hk4'; have q4 := HC.out _ hk4)
          | (go_at_call 27; refine (HRD.out _ (HKK.out.1.then (by (repeat' (first | with_reducible exact Kept.refl _ _ | with_reducible refine Kept.put ?_ ?_ | with_reducible refine Kept.drewN ?_ _ | with_reducible refine Kept.drew ?_ | with_reducible refine Kept.alloc ?_ _ | (with_reducible exact hk4) | (right; simp; done))))) f).mono ?_; rintro e w5 ⟨rfl, hk5'⟩; have hk5 : Kept NoF wr w5 := Kept.then (by (repeat' (first | with_reducible exact Kept.refl _ _ | with_reducible refine Kept.put ?_ ?_ | with_reducible refine Kept.drewN ?_ _ | with_reducible refine Kept.drew ?_ | with_reducible refine Kept.alloc ?_ _ | (with_reducible exact hk4) | (right; simp; done)))) hk5'; have q5 := HC.out _ hk5))
      have HK5 := Lib.hid (HKK.out.2.then hk5)
      clear hk4 hk4' hk5 hk5' q4 q5 e0
      go_wp2_with fail
      go_roundw
      case rel => exact ⟨j + 1, by omega, by go_num, HK5.out⟩
      case measure => simp [intOf]; omega
    · obtain rfl : j = fl.length := by omega
      go_wp2_with fail
      go_ret
      exact ⟨rfl, HK8.out.2.then hk⟩
end Disk
end Go.Proofs.Ytopkeknpdimimaa
