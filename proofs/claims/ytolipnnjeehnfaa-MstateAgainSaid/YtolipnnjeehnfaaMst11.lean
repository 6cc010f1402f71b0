/- Apply of a state that nobody made. -/
import Derived.Test.YtolipnnjeehnfaaMst10
set_option linter.unusedSimpArgs false
set_option linter.unusedVariables false
namespace Go.Proofs.Ytolipnnjeehnfaa
open Go.RowKit
set_option maxRecDepth 100000
namespace Mst
open Plan Vn
theorem apply_nil (w : World) (x : NoteR) : Calls Try.prog 12 #[.pointer none, nagg x] w fun e w' => e = .returned (.int .i64 8) ∧ Kept NoF w w' := by
  have h := fun W => none_nil W
  have H := Lib.hid h; clear h
  unfold nagg ncell
  go_enter Try.func12, Try.ntmps12
  go_wp2_with fail
  refine (H.out _).mono ?_
  rintro e w2 ⟨rfl, hk⟩
  have hk2 := Kept.then (F := NoF) (a := w) (by (repeat' (first | with_reducible exact Kept.refl _ _ | with_reducible refine Kept.put ?_ ?_ | with_reducible refine Kept.drewN ?_ _ | with_reducible refine Kept.drew ?_ | with_reducible refine Kept.alloc ?_ _ | (fail) | (right; simp; done)))) hk
  have HK := Lib.hid hk2; clear hk hk2
  go_wp2
  go_ret
  exact ⟨rfl, HK.out⟩
theorem apply_zero (w : World) (x : NoteR) (b : Nat) (s : StR) (mA : Option Addr) (mc : Nat) (lA : Option Addr) (lc : Nat) (pA : Option Addr) (pc : Nat) (hb : Has w b 62 (scells s mA mc lA lc pA pc false)) : Calls Try.prog 12 #[.pointer (some ⟨b, 0, none⟩), nagg x] w fun e w' => e = .returned (.int .i64 8) ∧ Kept NoF w w' := by
  have h := fun W (hW : Kept NoF w W) => none_any W b s mA mc lA lc pA pc false (hb.kept hW (fun z => z))
  have H := Lib.hid h; clear h hb
  unfold nagg ncell
  go_enter Try.func12, Try.ntmps12
  go_wp2_with fail
  refine (H.out _ (by (repeat' (first | with_reducible exact Kept.refl _ _ | with_reducible refine Kept.put ?_ ?_ | with_reducible refine Kept.drewN ?_ _ | with_reducible refine Kept.drew ?_ | with_reducible refine Kept.alloc ?_ _ | (fail) | (right; simp; done))))).mono ?_
  rintro e w2 ⟨rfl, hk⟩
  have hk2 := Kept.then (F := NoF) (a := w) (by (repeat' (first | with_reducible exact Kept.refl _ _ | with_reducible refine Kept.put ?_ ?_ | with_reducible refine Kept.drewN ?_ _ | with_reducible refine Kept.drew ?_ | with_reducible refine Kept.alloc ?_ _ | (fail) | (right; simp; done)))) hk
  have HK := Lib.hid hk2; clear hk hk2
  go_wp2
  go_ret
  exact ⟨rfl, HK.out⟩
end Mst
end Go.Proofs.Ytolipnnjeehnfaa
