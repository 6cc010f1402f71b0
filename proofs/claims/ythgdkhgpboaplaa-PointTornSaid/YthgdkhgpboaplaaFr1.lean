
/- A text's frame. -/
import Derived.Test.YthgdkhgpboaplaaMark
set_option linter.unusedSimpArgs false
set_option linter.unusedVariables false
namespace Go.Proofs.Ythgdkhgpboaplaa
open Go.RowKit
set_option maxRecDepth 100000
namespace Fr
open Vn Ops
theorem ofL_sz (l : List UInt8) : (ofL l).size = l.length := by simp [ofL, ByteArray.size]
def frameL (s : List UInt8) : List UInt8 := put s.length ++ mkN (sumN (put s.length ++ s)) ++ s
set_option maxHeartbeats 2000000 in
theorem fput_any (w : World) (s : ByteArray) (hs : s.size ≤ 65536) : Calls Try.prog 53 #[.string s] w fun e w' => e = .returned (.tuple #[.string (ofL (frameL (bl s))), .int .i64 0]) ∧ Kept NoF w w' := by
  have hn : ¬ (65536 : Int) < (s.size : Int) := by omega
  have hp := fun W => vput_any s.size (by omega) W
  have hl : (bl s).length = s.size := size_bl s
  obtain ⟨p, hp2⟩ : ∃ p, put s.size = p := ⟨_, rfl⟩
  have hpl : p.length ≤ 9 := by rw [← hp2]; exact put_le (by omega)
  have hpz : (ofL p).size = p.length := ofL_sz p
  have hsum := fun W => sum_any W (ofL p ++ s) (by rw [ByteArray.size_append]; omega)
  have hd : (ofL p ++ s).data.toList = p ++ bl s := by simp [ofL]
  rw [hd] at hsum
  have hfr : frameL (bl s) = p ++ mkN (sumN (p ++ bl s)) ++ bl s := by unfold frameL; rw [hl, hp2]
  have hmk := fun W => mark_any W (sumN (p ++ bl s)) (sumN_lt _)
  obtain ⟨S, hS⟩ : ∃ S, sumN (p ++ bl s) = S := ⟨_, rfl⟩
  simp only [hS] at hsum hmk hfr
  simp only [hp2] at hp
  have hcat : ofL (p ++ mkN S ++ bl s) = ofL p ++ ofL (mkN S) ++ s := by
    apply ByteArray.ext
    simp [ofL]
  rw [hfr, hcat]
  have HP := Lib.hid hp; have HS := Lib.hid hsum; have HM := Lib.hid hmk
  clear hp hsum hmk hS hfr hcat hd hl hp2
  have q1 : ¬ 9223372036854775807 < (ofL p).size + s.size := by omega
  have q2 : ¬ 9223372036854775807 < (ofL p).size + (ofL (mkN S)).size := by rw [ofL_sz (mkN S)]; show ¬ _ < _ + 4; omega
  have q3 : ¬ 9223372036854775807 < (ofL p ++ ofL (mkN S)).size + s.size := by rw [ByteArray.size_append, ofL_sz (mkN S)]; show ¬ _ < _ + 4 + _; omega
  clear hpz
  go_enter Try.func53, Try.ntmps53
  go_wp2_with fail
  refine (HP.out _).mono ?_
  rintro e w1 ⟨rfl, hk⟩
  have HK1 := Lib.hid hk; clear hk
  go_wp2_with fail
  refine (HS.out _).mono ?_
  rintro e w2 ⟨rfl, hk⟩
  have HK2 := Lib.hid (HK1.out.then hk); clear hk
  go_wp2_with fail
  refine (HM.out _).mono ?_
  rintro e w3 ⟨rfl, hk⟩
  have HK3 := Lib.hid (HK2.out.then hk); clear hk
  go_wp2
  go_ret2
  exact ⟨rfl, HK3.out⟩
end Fr
end Go.Proofs.Ythgdkhgpboaplaa
