
/- The checkpointed log: begins, end. -/
import Derived.Test.YthgdkhgpboaplaaPt0
import Derived.Test.YthgdkhgpboaplaaDiskDrop
set_option linter.unusedSimpArgs false
set_option linter.unusedVariables false
namespace Go.Proofs.Ythgdkhgpboaplaa
open Go.RowKit
set_option maxRecDepth 100000
namespace Pt
open Disk Fr Vn Ops Wl
/-- How many texts a file tells, if it is a beginning. -/
def beg (b : List UInt8) : Option Nat := match nextR b 0 with
  | .ok t _ => cntR t
  | .bad _ => none
theorem nextR_len {s : List UInt8} {i to : Nat} {t : List UInt8} (h : nextR s i = .ok t to) : t.length ≤ s.length := by
  unfold nextR at h
  split at h
  · cases h
  · split at h
    · cases h
    · split at h
      · cases h
      · split at h
        · injection h with h3 h4
          rw [← h3]
          simp only [List.length_take, List.length_drop]
          omega
        · cases h
section
variable {F : Nat → Prop} {w : World} {g n : Nat} {m : Disk.Safe} {ps : List Disk.Pc} {ser boot : Int}
theorem data_size (f : Int) : (dataOf m ps f).size ≤ (sget m f).size + total ps := by
  have := ofFile_len f ps
  have e : (dataOf m ps f).size = (sget m f).size + (ofFile f ps).length := by
    show ((sget m f).data.toList ++ ofFile f ps).toArray.size = _
    rw [List.size_toArray, List.length_append, Array.length_toList]
    rfl
  omega
set_option maxHeartbeats 2000000 in
theorem begins_any (h : DiskAt w g F n m ps ser boot) (f : Int) (hf : I64 f) (hlen : ps.length ≤ 100000) (hsz : (dataOf m ps f).size ≤ 1000000000) (hsz2 : (sget m f).size + total ps ≤ 140737488355328) :
    Calls Try.prog 24 #[.pointer (some ⟨g, 0, none⟩), .int .i64 f] w fun e w' => e = .returned (cntT (beg (bl (dataOf m ps f)))) ∧ Kept NoF w w' := by
  have hda := data_any h f hf hlen hsz2
  generalize dataOf m ps f = D at hda hsz ⊢
  have hnx := fun W => next_any W D 0 (Nat.zero_le _) hsz
  unfold beg
  have HDA := Lib.hid hda
  clear hda h hlen hsz2
  rcases hR : nextR (bl D) 0 with e0 | ⟨t, to⟩
  · rw [hR] at hnx
    unfold nextT at hnx
    have he0 : ((e0 : Int) != 0) = true := by have := nextR_bad hR; simpa using this
    dsimp only at hnx ⊢
    have HN := Lib.hid hnx
    clear hnx hR
    go_enter Try.func24, Try.ntmps24
    go_wp2_with fail
    refine HDA.out.mono ?_
    rintro e w1 ⟨rfl, hk1⟩
    go_wp2_with fail
    refine (HN.out _).mono ?_
    rintro e w2 ⟨rfl, hk2⟩
    have HK := Lib.hid (hk1.then hk2); clear hk1 hk2
    go_wp2
    go_ret2
    exact ⟨rfl, HK.out⟩
  · rw [hR] at hnx
    unfold nextT at hnx
    dsimp only at hnx ⊢
    have hto := nextR_to hR
    have hts : (ofL t).size ≤ 1000000000 := by
      rw [ofL_sz]
      have := nextR_len hR
      rw [size_bl] at this
      omega
    have hco := fun W => count_any W (ofL t) hts
    rw [bl_ofL] at hco
    have HN := Lib.hid hnx; have HC := Lib.hid hco
    clear hnx hR hco hto hts
    obtain ⟨o, ho⟩ : ∃ o, cntR t = o := ⟨_, rfl⟩
    rw [ho] at HC ⊢
    unfold cntT at HC ⊢
    clear ho
    go_enter Try.func24, Try.ntmps24
    go_wp2_with fail
    refine HDA.out.mono ?_
    rintro e w1 ⟨rfl, hk1⟩
    go_wp2_with fail
    refine (HN.out _).mono ?_
    rintro e w2 ⟨rfl, hk2⟩
    have HK := Lib.hid (hk1.then hk2); clear hk1 hk2
    go_wp2_with fail
    refine (HC.out _).mono ?_
    rintro e w3 ⟨rfl, rfl⟩
    go_wp2
    go_ret2
    exact ⟨rfl, HK.out⟩
set_option maxHeartbeats 4000000 in
theorem end_any (h : DiskAt w g F n m ps ser boot) (f : Int) (K : Nat) (hpi : ∀ p ∈ ps, I64 p.1) (hn : n ≤ 100000) (hlen : ps.length ≤ 100000) (hsz : ∀ x, (sget m x).size + total ps ≤ 1000000000) (hf0 : 0 ≤ f) (hfK : f + K ≤ 1152921504606846976)
    (h1 : ∀ j : Nat, j < K → isFile m ps (f + 1 + j) = true ∧ beg (bl (dataOf m ps (f + 1 + j))) = none) (h2 : isFile m ps (f + 1 + K) = false ∨ ∃ c, beg (bl (dataOf m ps (f + 1 + K))) = some c) :
    Calls Try.prog 27 #[.pointer (some ⟨g, 0, none⟩), .int .i64 f] w fun e w' => e = .returned (.int .i64 (f + 1 + K)) ∧ Kept NoF w w' := by
  have hfi := files_any h hpi hn hlen
  have hbe := fun (x : Int) (hx : 0 ≤ x ∧ x ≤ 2305843009213693952) (W : World) (hW : Kept NoF w W) => begins_any (h.kept hW (fun _ _ z => z)) x (i64_small hx.1 (by omega)) hlen (by have := data_size (m := m) (ps := ps) x; have := hsz x; omega) (by have := hsz x; omega)
  have HFI := Lib.hid hfi; have HBE := Lib.hid hbe; have H1 := Lib.hid h1; have H2 := Lib.hid h2
  clear hfi hbe h1 h2 hpi hn hlen hsz h
  go_enter Try.func27, Try.ntmps27
  go_wp2_with fail
  refine HFI.out.mono ?_
  rintro e w1 ⟨fl, A, c, rfl, hfa, hown, hnew, hk1⟩
  have HFA := Lib.hid hfa; have HOWN := Lib.hid hown; have HK1 := Lib.hid hk1
  clear hfa hown hnew hk1
  go_wp2_with fail
  go_loopw [6] (fun v6 wr => ∃ j : Nat, j ≤ K ∧ v6 = .int .i64 (f + 1 + j) ∧ Kept NoF w1 wr) (fun v6 _ => (f + 1 + K - intOf v6).toNat)
  case atStart => exact ⟨0, Nat.zero_le _, by simp, Kept.refl _ _⟩
  case round =>
    obtain ⟨j, hj, rfl, hk⟩ := hrel
    obtain ⟨x, hx⟩ : ∃ x, f + 1 + (j : Int) = x := ⟨_, rfl⟩
    have hx1 : 0 ≤ x := by omega
    have hx2 : x ≤ 2305843009213693952 := by omega
    rw [hx]
    have HX0 := Lib.hid hx
    have hsrc : Src wr 1 A fl.length (fl.map (Value.int .i64)) := (Src.of_own HOWN.out).kept hk (fun _ _ z => z)
    have hco := SlI.containsI_any wr A c fl x hsrc (Nat.le_trans (own_cap HOWN.out).1 (own_cap HOWN.out).2)
    have hin : SlI.inB fl x = isFile m ps x := by
      rw [Bool.eq_iff_iff, SlI.inB_iff, HFA.out.mem x]
      exact ⟨fun h => h.2, fun h => ⟨i64_small hx1 (by omega), h⟩⟩
    rw [hin] at hco
    have HK := Lib.hid hk
    have hbx := HBE.out x ⟨hx1, hx2⟩ wr (HK1.out.then hk)
    clear hin hsrc hk
    by_cases hjK : j < K
    · have h3 := H1.out j hjK
      rw [hx] at h3
      rw [h3.1] at hco
      rw [h3.2] at hbx
      have HCO := Lib.hid hco; have HBX := Lib.hid hbx; have HX := Lib.hid hx
      unfold cntT at HBX
      clear hco hbx h3 hx
      go_wp2_with fail
      refine HCO.out.mono ?_
      rintro e w2 ⟨rfl, rfl⟩
      go_wp2_with fail
      refine HBX.out.mono ?_
      rintro e w2 ⟨rfl, hk2⟩
      have HK2 := Lib.hid (HK.out.then hk2)
      clear hk2
      go_wp2
      go_roundw
      case rel => exact ⟨j + 1, by omega, by rw [← HX.out]; congr 1; omega, HK2.out⟩
      case measure => have := HX.out; simp [intOf]; omega
    · obtain rfl : j = K := by omega
      rcases H2.out with h3 | ⟨cc, h3⟩
      · rw [hx] at h3
        rw [h3] at hco
        have HCO := Lib.hid hco
        clear hco hbx h3
        go_wp2_with fail
        refine HCO.out.mono ?_
        rintro e w2 ⟨rfl, rfl⟩
        go_wp2
        go_ret
        exact ⟨by rw [HX0.out]; rfl, HK1.out.then HK.out⟩
      · rw [hx] at h3
        rw [h3] at hbx
        unfold cntT at hbx
        have HBX := Lib.hid hbx
        obtain ⟨bb, hbb⟩ : ∃ bb, isFile m ps x = bb := ⟨_, rfl⟩
        rw [hbb] at hco
        have HCO := Lib.hid hco
        clear hco hbx h3 hbb
        cases bb
        · go_wp2_with fail
          refine HCO.out.mono ?_
          rintro e w2 ⟨rfl, rfl⟩
          go_wp2
          go_ret
          exact ⟨by rw [HX0.out]; rfl, HK1.out.then HK.out⟩
        · go_wp2_with fail
          refine HCO.out.mono ?_
          rintro e w2 ⟨rfl, rfl⟩
          go_wp2_with fail
          refine HBX.out.mono ?_
          rintro e w2 ⟨rfl, hk2⟩
          have HK2 := Lib.hid (HK.out.then hk2)
          clear hk2
          go_wp2
          go_ret
          exact ⟨by rw [HX0.out]; rfl, HK1.out.then HK2.out⟩
end
end Pt
end Go.Proofs.Ythgdkhgpboaplaa
