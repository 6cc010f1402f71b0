
/- The disk: awake. -/
import Derived.Test.YtopkeknpdimimaaDisk5
set_option linter.unusedSimpArgs false
set_option linter.unusedVariables false
namespace Go.Proofs.Ytopkeknpdimimaa
open Go.RowKit
set_option maxRecDepth 100000
namespace Disk

def mA : Safe := syncM (fun _ => none) [(1, ⟨#[97, 98]⟩)]
def mB : Safe := crashM mA 3 [(2, ⟨#[99, 100]⟩), (1, ⟨#[101, 102]⟩)]
theorem mA_le (k : Int) : (sget mA k).size ≤ 2 := by
  show (sget (sput _ 1 _) k).size ≤ 2
  rw [sget_sput]
  split
  · decide
  · exact Nat.zero_le _
theorem i64_small {k : Int} (h0 : 0 ≤ k) (h1 : k ≤ 4611686018427387904) : I64 k := by
  unfold I64 Lit.wf
  have hb : (2 : Int) ^ (IntKind.i64.bits - 1) = 9223372036854775808 := by decide
  simp [IntKind.signed, IntKind.min, IntKind.max, hb]
  omega

set_option maxHeartbeats 2000000 in
theorem awake_any (w : World) : Calls Try.prog 9 #[] w fun e w' => e = .returned (.bool true) ∧ Kept NoF w w' := by
  go_enter Try.func9, Try.ntmps9
  go_wp2_with fail
  refine (new_any _).mono ?_
  rintro e w1 ⟨g, F1, rfl, h1, k1, hF1⟩
  have H1 := Lib.hid h1; clear h1
  go_wp2_with fail
  refine (write_ok H1.out 1 ⟨#[97, 98]⟩ (by decide) (by decide) (by decide)).mono ?_
  rintro e w2 ⟨rfl, F2, h2, g2, k2⟩
  have H2 := Lib.hid h2; clear h2
  go_wp2_with fail
  refine (sync_any H2.out (by intro p hp; simp at hp; subst hp; exact i64_small (by decide) (by decide)) (by decide) (by decide) 0 (by intro k; exact Nat.le_refl _) (by decide)).mono ?_
  rintro e w3 ⟨rfl, h3, k3⟩
  have H3 := Lib.hid h3; clear h3
  go_wp2_with fail
  refine (write_ok H3.out 2 ⟨#[99, 100]⟩ (by decide) (by decide) (by decide)).mono ?_
  rintro e w4 ⟨rfl, F4, h4, g4, k4⟩
  have H4 := Lib.hid h4; clear h4
  go_wp2_with fail
  refine (write_ok H4.out 1 ⟨#[101, 102]⟩ (by decide) (by decide) (by decide)).mono ?_
  rintro e w5 ⟨rfl, F5, h5, g5, k5⟩
  have H5 := Lib.hid h5; clear h5
  go_wp2_with fail
  refine (crash_any H5.out (by decide) (by decide) 3 (by decide) (by intro p hp; simp at hp; rcases hp with rfl | rfl <;> exact i64_small (by decide) (by decide)) (by decide) (by decide) 2 mA_le (.inl (by decide))).mono ?_
  rintro e w6 ⟨rfl, h6, k6⟩
  have H6 : Hid (DiskAt w6 g F5 3 mB [] 1 2) := Lib.hid h6; clear h6
  go_wp2_with fail
  have hd1 : ∀ W, Kept NoF w6 W → _ := fun W hW => data_any (H6.out.kept hW fun _ _ x => x) 1 (i64_small (by decide) (by decide)) (by decide) (by decide)
  have hd2 : ∀ W, Kept NoF w6 W → _ := fun W hW => data_any (H6.out.kept hW fun _ _ x => x) 2 (i64_small (by decide) (by decide)) (by decide) (by decide)
  have e1 : dataOf mB [] 1 = ⟨#[97, 98, 101]⟩ := by decide
  have e2 : dataOf mB [] 2 = ⟨#[99, 100]⟩ := by decide
  have hse : ∀ W, Kept NoF w6 W → _ := fun W hW => serial_any (H6.out.kept hW fun _ _ x => x)
  have hbo : ∀ W, Kept NoF w6 W → _ := fun W hW => boots_any (H6.out.kept hW fun _ _ x => x)
  have a2 := g2.above hF1 k1.size
  have q2 : Kept NoF w w2 := k1.trans k2 fun i hi => .inr (hF1 i hi)
  have q3 : Kept NoF w w3 := q2.trans k3 fun i hi => .inr (a2 i hi)
  have q4 : Kept NoF w w4 := q3.trans k4 fun i hi => .inr (a2 i hi)
  have a4 := g4.above a2 q3.size
  have q5 : Kept NoF w w5 := q4.trans k5 fun i hi => .inr (a4 i hi)
  have a5 := g5.above a4 q4.size
  have hk : Kept NoF w w6 := q5.trans k6 fun i hi => .inr (a5 i hi)
  clear a2 q2 q3 q4 a4 q5 a5
  have HK := Lib.hid hk; clear hk
  refine (hd1 _ (Kept.refl _ _)).mono ?_
  rintro e w7 ⟨rfl, k7⟩
  rw [e1]
  go_wp2_with fail
  refine (hd2 _ k7).mono ?_
  rintro e w8 ⟨rfl, k8⟩
  rw [e2]
  go_wp2_with fail
  refine (hse _ (k7.then k8)).mono ?_
  rintro e w' ⟨rfl, rfl⟩
  go_wp2_with fail
  refine (hbo _ (k7.then k8)).mono ?_
  rintro e w' ⟨rfl, rfl⟩
  go_wp2_with fail
  go_ret
  exact ⟨rfl, HK.out.then (k7.then k8)⟩
end Disk
end Go.Proofs.Ytopkeknpdimimaa
