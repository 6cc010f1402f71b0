/- The getters Horizon, Top, Legit, Pins. -/
import Derived.Test.YtolipnnjeehnfaaMst9
set_option linter.unusedSimpArgs false
set_option linter.unusedVariables false
namespace Go.Proofs.Ytolipnnjeehnfaa
open Go.RowKit
set_option maxRecDepth 100000
namespace Mst
open Plan Vn
theorem getHorizon_nil (w : World) : Calls Try.prog 9 #[.pointer none] w fun e w' => e = .returned (.int .u64 0) ∧ Kept NoF w w' := by
  have h := fun W (hW : Kept NoF w W) => none_nil W
  have H := Lib.hid h; clear h
  go_enter Try.func9, Try.ntmps9
  go_wp2_with fail
  refine (H.out _ (by (repeat' (first | with_reducible exact Kept.refl _ _ | with_reducible refine Kept.put ?_ ?_ | with_reducible refine Kept.drewN ?_ _ | with_reducible refine Kept.drew ?_ | with_reducible refine Kept.alloc ?_ _ | (fail) | (right; simp; done))))).mono ?_
  rintro e w2 ⟨rfl, hk⟩
  have HK := Lib.hid hk; clear hk
  go_wp2
  go_ret
  exact ⟨rfl, HK.out⟩
theorem getHorizon_zero (w : World) (b : Nat) (s : StR) (mA : Option Addr) (mc : Nat) (lA : Option Addr) (lc : Nat) (pA : Option Addr) (pc : Nat) (hb : Has w b 62 (scells s mA mc lA lc pA pc false)) : Calls Try.prog 9 #[.pointer (some ⟨b, 0, none⟩)] w fun e w' => e = .returned (.int .u64 0) ∧ Kept NoF w w' := by
  have h := fun W (hW : Kept NoF w W) => none_any W b s mA mc lA lc pA pc false (hb.kept hW (fun z => z))
  have H := Lib.hid h; clear h
  go_enter Try.func9, Try.ntmps9
  go_wp2_with fail
  refine (H.out _ (by (repeat' (first | with_reducible exact Kept.refl _ _ | with_reducible refine Kept.put ?_ ?_ | with_reducible refine Kept.drewN ?_ _ | with_reducible refine Kept.drew ?_ | with_reducible refine Kept.alloc ?_ _ | (fail) | (right; simp; done))))).mono ?_
  rintro e w2 ⟨rfl, hk⟩
  have HK := Lib.hid hk; clear hk
  go_wp2
  go_ret
  exact ⟨rfl, HK.out⟩
theorem getHorizon_any (w : World) (b : Nat) (s : StR) (mA : Option Addr) (mc : Nat) (lA : Option Addr) (lc : Nat) (pA : Option Addr) (pc : Nat) (hb : Has w b 62 (scells s mA mc lA lc pA pc true)) : Calls Try.prog 9 #[.pointer (some ⟨b, 0, none⟩)] w fun e w' => e = .returned (.int .u64 s.hz) ∧ Kept NoF w w' := by
  have h := fun W (hW : Kept NoF w W) => none_any W b s mA mc lA lc pA pc true (hb.kept hW (fun z => z))
  have hc := fun W (hW : Kept NoF w W) => (hb.kept hW (fun z => z)).cell 4
  simp only [List.getElem?_toArray, List.getElem?_cons_zero, List.getElem?_cons_succ] at hc
  have H := Lib.hid h; have HC := Lib.hid hc; clear h hc hb
  go_enter Try.func9, Try.ntmps9
  go_wp2_with fail
  refine (H.out _ (by (repeat' (first | with_reducible exact Kept.refl _ _ | with_reducible refine Kept.put ?_ ?_ | with_reducible refine Kept.drewN ?_ _ | with_reducible refine Kept.drew ?_ | with_reducible refine Kept.alloc ?_ _ | (fail) | (right; simp; done))))).mono ?_
  rintro e w2 ⟨rfl, hk⟩
  have c0 := HC.out _ hk
  have HK := Lib.hid hk; clear hk
  go_wp2
  go_ret
  exact ⟨rfl, HK.out⟩
theorem getTop_nil (w : World) : Calls Try.prog 19 #[.pointer none] w fun e w' => e = .returned (.int .i64 0) ∧ Kept NoF w w' := by
  have h := fun W (hW : Kept NoF w W) => none_nil W
  have H := Lib.hid h; clear h
  go_enter Try.func19, Try.ntmps19
  go_wp2_with fail
  refine (H.out _ (by (repeat' (first | with_reducible exact Kept.refl _ _ | with_reducible refine Kept.put ?_ ?_ | with_reducible refine Kept.drewN ?_ _ | with_reducible refine Kept.drew ?_ | with_reducible refine Kept.alloc ?_ _ | (fail) | (right; simp; done))))).mono ?_
  rintro e w2 ⟨rfl, hk⟩
  have HK := Lib.hid hk; clear hk
  go_wp2
  go_ret
  exact ⟨rfl, HK.out⟩
theorem getTop_zero (w : World) (b : Nat) (s : StR) (mA : Option Addr) (mc : Nat) (lA : Option Addr) (lc : Nat) (pA : Option Addr) (pc : Nat) (hb : Has w b 62 (scells s mA mc lA lc pA pc false)) : Calls Try.prog 19 #[.pointer (some ⟨b, 0, none⟩)] w fun e w' => e = .returned (.int .i64 0) ∧ Kept NoF w w' := by
  have h := fun W (hW : Kept NoF w W) => none_any W b s mA mc lA lc pA pc false (hb.kept hW (fun z => z))
  have H := Lib.hid h; clear h
  go_enter Try.func19, Try.ntmps19
  go_wp2_with fail
  refine (H.out _ (by (repeat' (first | with_reducible exact Kept.refl _ _ | with_reducible refine Kept.put ?_ ?_ | with_reducible refine Kept.drewN ?_ _ | with_reducible refine Kept.drew ?_ | with_reducible refine Kept.alloc ?_ _ | (fail) | (right; simp; done))))).mono ?_
  rintro e w2 ⟨rfl, hk⟩
  have HK := Lib.hid hk; clear hk
  go_wp2
  go_ret
  exact ⟨rfl, HK.out⟩
theorem getTop_any (w : World) (b : Nat) (s : StR) (mA : Option Addr) (mc : Nat) (lA : Option Addr) (lc : Nat) (pA : Option Addr) (pc : Nat) (hb : Has w b 62 (scells s mA mc lA lc pA pc true)) : Calls Try.prog 19 #[.pointer (some ⟨b, 0, none⟩)] w fun e w' => e = .returned (.int .i64 s.top) ∧ Kept NoF w w' := by
  have h := fun W (hW : Kept NoF w W) => none_any W b s mA mc lA lc pA pc true (hb.kept hW (fun z => z))
  have hc := fun W (hW : Kept NoF w W) => (hb.kept hW (fun z => z)).cell 6
  simp only [List.getElem?_toArray, List.getElem?_cons_zero, List.getElem?_cons_succ] at hc
  have H := Lib.hid h; have HC := Lib.hid hc; clear h hc hb
  go_enter Try.func19, Try.ntmps19
  go_wp2_with fail
  refine (H.out _ (by (repeat' (first | with_reducible exact Kept.refl _ _ | with_reducible refine Kept.put ?_ ?_ | with_reducible refine Kept.drewN ?_ _ | with_reducible refine Kept.drew ?_ | with_reducible refine Kept.alloc ?_ _ | (fail) | (right; simp; done))))).mono ?_
  rintro e w2 ⟨rfl, hk⟩
  have c0 := HC.out _ hk
  have HK := Lib.hid hk; clear hk
  go_wp2
  go_ret
  exact ⟨rfl, HK.out⟩
theorem getLegit_nil (w : World) : Calls Try.prog 14 #[.pointer none] w fun e w' => e = .returned (.slice none 0 0) ∧ Kept NoF w w' := by
  have h := fun W (hW : Kept NoF w W) => none_nil W
  have H := Lib.hid h; clear h
  go_enter Try.func14, Try.ntmps14
  go_wp2_with fail
  refine (H.out _ (by (repeat' (first | with_reducible exact Kept.refl _ _ | with_reducible refine Kept.put ?_ ?_ | with_reducible refine Kept.drewN ?_ _ | with_reducible refine Kept.drew ?_ | with_reducible refine Kept.alloc ?_ _ | (fail) | (right; simp; done))))).mono ?_
  rintro e w2 ⟨rfl, hk⟩
  have HK := Lib.hid hk; clear hk
  go_wp2
  go_ret
  exact ⟨rfl, HK.out⟩
theorem getLegit_zero (w : World) (b : Nat) (s : StR) (mA : Option Addr) (mc : Nat) (lA : Option Addr) (lc : Nat) (pA : Option Addr) (pc : Nat) (hb : Has w b 62 (scells s mA mc lA lc pA pc false)) : Calls Try.prog 14 #[.pointer (some ⟨b, 0, none⟩)] w fun e w' => e = .returned (.slice none 0 0) ∧ Kept NoF w w' := by
  have h := fun W (hW : Kept NoF w W) => none_any W b s mA mc lA lc pA pc false (hb.kept hW (fun z => z))
  have H := Lib.hid h; clear h
  go_enter Try.func14, Try.ntmps14
  go_wp2_with fail
  refine (H.out _ (by (repeat' (first | with_reducible exact Kept.refl _ _ | with_reducible refine Kept.put ?_ ?_ | with_reducible refine Kept.drewN ?_ _ | with_reducible refine Kept.drew ?_ | with_reducible refine Kept.alloc ?_ _ | (fail) | (right; simp; done))))).mono ?_
  rintro e w2 ⟨rfl, hk⟩
  have HK := Lib.hid hk; clear hk
  go_wp2
  go_ret
  exact ⟨rfl, HK.out⟩
theorem getLegit_any (w : World) (b : Nat) (s : StR) (mA : Option Addr) (mc : Nat) (lA : Option Addr) (lc : Nat) (pA : Option Addr) (pc : Nat) (hb : Has w b 62 (scells s mA mc lA lc pA pc true)) (hl : Src w 1 lA s.lg.length (ints s.lg)) (hlen : s.lg.length ≤ 1000000) : Calls Try.prog 14 #[.pointer (some ⟨b, 0, none⟩)] w (NewInt w s.lg) := by
  have hcl := fun W (hW : Kept NoF w W) => cloneInt_any W lA lc s.lg (hl.kept hW (fun _ _ z => z)) hlen
  have hP : ∀ W w' A c, Kept NoF w W → NewSl 3 1 W.heap.size w' A s.lg.length c (ints s.lg) → Kept NoF W w' → NewInt w s.lg (.returned (.slice A s.lg.length c)) w' := fun W w' A c hW h1 h2 => ⟨A, c, rfl, ⟨h1.1, fun k hk => Nat.le_trans hW.size (h1.2 k hk)⟩, hW.then h2⟩
  have HCL := Lib.hid hcl; have HP := Lib.hid hP; clear hcl hl hP
  have h := fun W (hW : Kept NoF w W) => none_any W b s mA mc lA lc pA pc true (hb.kept hW (fun z => z))
  have hc := fun W (hW : Kept NoF w W) => (hb.kept hW (fun z => z)).cell 3
  simp only [List.getElem?_toArray, List.getElem?_cons_zero, List.getElem?_cons_succ] at hc
  have H := Lib.hid h; have HC := Lib.hid hc; clear h hc hb
  go_enter Try.func14, Try.ntmps14
  go_wp2_with fail
  refine (H.out _ (by (repeat' (first | with_reducible exact Kept.refl _ _ | with_reducible refine Kept.put ?_ ?_ | with_reducible refine Kept.drewN ?_ _ | with_reducible refine Kept.drew ?_ | with_reducible refine Kept.alloc ?_ _ | (fail) | (right; simp; done))))).mono ?_
  rintro e w2 ⟨rfl, hk⟩
  have c0 := HC.out _ hk
  have HK := Lib.hid hk; clear hk
  go_wp2_with fail
  refine (HCL.out _ HK.out).mono ?_
  rintro e w3 ⟨A3, c3, rfl, hn, hk⟩
  have HN := Lib.hid (And.intro hn hk); clear hn hk
  go_wp2
  go_ret
  exact HP.out _ _ _ _ HK.out HN.out.1 HN.out.2
theorem getPins_nil (w : World) : Calls Try.prog 11 #[.pointer none] w fun e w' => e = .returned (.slice none 0 0) ∧ Kept NoF w w' := by
  have h := fun W (hW : Kept NoF w W) => none_nil W
  have H := Lib.hid h; clear h
  go_enter Try.func11, Try.ntmps11
  go_wp2_with fail
  refine (H.out _ (by (repeat' (first | with_reducible exact Kept.refl _ _ | with_reducible refine Kept.put ?_ ?_ | with_reducible refine Kept.drewN ?_ _ | with_reducible refine Kept.drew ?_ | with_reducible refine Kept.alloc ?_ _ | (fail) | (right; simp; done))))).mono ?_
  rintro e w2 ⟨rfl, hk⟩
  have HK := Lib.hid hk; clear hk
  go_wp2
  go_ret
  exact ⟨rfl, HK.out⟩
theorem getPins_zero (w : World) (b : Nat) (s : StR) (mA : Option Addr) (mc : Nat) (lA : Option Addr) (lc : Nat) (pA : Option Addr) (pc : Nat) (hb : Has w b 62 (scells s mA mc lA lc pA pc false)) : Calls Try.prog 11 #[.pointer (some ⟨b, 0, none⟩)] w fun e w' => e = .returned (.slice none 0 0) ∧ Kept NoF w w' := by
  have h := fun W (hW : Kept NoF w W) => none_any W b s mA mc lA lc pA pc false (hb.kept hW (fun z => z))
  have H := Lib.hid h; clear h
  go_enter Try.func11, Try.ntmps11
  go_wp2_with fail
  refine (H.out _ (by (repeat' (first | with_reducible exact Kept.refl _ _ | with_reducible refine Kept.put ?_ ?_ | with_reducible refine Kept.drewN ?_ _ | with_reducible refine Kept.drew ?_ | with_reducible refine Kept.alloc ?_ _ | (fail) | (right; simp; done))))).mono ?_
  rintro e w2 ⟨rfl, hk⟩
  have HK := Lib.hid hk; clear hk
  go_wp2
  go_ret
  exact ⟨rfl, HK.out⟩
theorem getPins_any (w : World) (b : Nat) (s : StR) (mA : Option Addr) (mc : Nat) (lA : Option Addr) (lc : Nat) (pA : Option Addr) (pc : Nat) (hb : Has w b 62 (scells s mA mc lA lc pA pc true)) (hl : Src w 3 pA s.pins.length (pcells s.pins)) (hlen : s.pins.length ≤ 1000000) : Calls Try.prog 11 #[.pointer (some ⟨b, 0, none⟩)] w (NewPin w s.pins) := by
  have hcl := fun W (hW : Kept NoF w W) => clonePin_any W pA pc s.pins (hl.kept hW (fun _ _ z => z)) hlen
  have hP : ∀ W w' A c, Kept NoF w W → NewSl 44 3 W.heap.size w' A s.pins.length c (pcells s.pins) → Kept NoF W w' → NewPin w s.pins (.returned (.slice A s.pins.length c)) w' := fun W w' A c hW h1 h2 => ⟨A, c, rfl, ⟨h1.1, fun k hk => Nat.le_trans hW.size (h1.2 k hk)⟩, hW.then h2⟩
  have HCL := Lib.hid hcl; have HP := Lib.hid hP; clear hcl hl hP
  have h := fun W (hW : Kept NoF w W) => none_any W b s mA mc lA lc pA pc true (hb.kept hW (fun z => z))
  have hc := fun W (hW : Kept NoF w W) => (hb.kept hW (fun z => z)).cell 5
  simp only [List.getElem?_toArray, List.getElem?_cons_zero, List.getElem?_cons_succ] at hc
  have H := Lib.hid h; have HC := Lib.hid hc; clear h hc hb
  go_enter Try.func11, Try.ntmps11
  go_wp2_with fail
  refine (H.out _ (by (repeat' (first | with_reducible exact Kept.refl _ _ | with_reducible refine Kept.put ?_ ?_ | with_reducible refine Kept.drewN ?_ _ | with_reducible refine Kept.drew ?_ | with_reducible refine Kept.alloc ?_ _ | (fail) | (right; simp; done))))).mono ?_
  rintro e w2 ⟨rfl, hk⟩
  have c0 := HC.out _ hk
  have HK := Lib.hid hk; clear hk
  go_wp2_with fail
  refine (HCL.out _ HK.out).mono ?_
  rintro e w3 ⟨A3, c3, rfl, hn, hk⟩
  have HN := Lib.hid (And.intro hn hk); clear hn hk
  go_wp2
  go_ret
  exact HP.out _ _ _ _ HK.out HN.out.1 HN.out.2
end Mst
end Go.Proofs.Ytolipnnjeehnfaa
