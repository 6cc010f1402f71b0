/- The two disks: the law. -/
import Derived.Test.YtopkeknpdimimaaPl3
import Derived.Test.YtopkeknpdimimaaDiskAwake
set_option linter.unusedSimpArgs false
set_option linter.unusedVariables false
namespace Go.Proofs.Ytopkeknpdimimaa
open Go.RowKit Go.Maps
set_option maxRecDepth 100000
namespace Disk

def szs (l : List DAct) : Nat := (l.map fun a => a.2.2.1.size).sum
theorem szs_take (l : List DAct) (i : Nat) : szs (l.take i) ≤ szs l := by
  induction l generalizing i with
  | nil => simp
  | cons a l ih =>
    cases i with
    | zero => simp [szs]
    | succ i =>
      have := ih i
      simp only [szs, List.take_succ_cons, List.map_cons, List.sum_cons] at *
      omega
theorem szs_snoc {l : List DAct} {i : Nat} {a : DAct} (h : l[i]? = some a) : szs (l.take (i + 1)) = szs (l.take i) + a.2.2.1.size := by
  rw [take_snoc h]
  simp [szs]

set_option maxHeartbeats 4000000 in
theorem law_plays (w : World) (A : Option Addr) (c : Nat) (l : List DAct) (hl : Src w 4 A l.length (acs l)) (hlc : l.length ≤ c) (hcm : c ≤ maxLen) (hgood : ∀ a ∈ l, I64 a.2.1 ∧ I64 a.2.2.2 ∧ a.2.2.1.size ≤ maxLen) (hbulk : szs l ≤ 1048576) :
    Calls Try.prog 3 #[.slice A l.length c] w fun e w' => e = .returned (.bool true) ∧ Below w.heap.size w w' := by
  unfold maxLen at hcm hgood
  have HL := Lib.hid hl; clear hl
  have HGO := Lib.hid hgood; clear hgood
  go_enter Try.func3, Try.ntmps3
  go_wp2_with fail
  refine (new_any _).mono ?_
  rintro e w1 ⟨g, F1, rfl, hA1, hk1, hF1⟩
  have HA1 := Lib.hid hA1; clear hA1
  go_wp2_with fail
  refine (rnew_any _).mono ?_
  rintro e w2 ⟨x, G1, rfl, hR1, hk2, hG1⟩
  have hpl : PlAt w2 w.heap.size g x 0 0 := by
    have hz := hk1.size
    exact ⟨F1, G1, 0, _, [], [], 1, 1, HA1.out.kept hk2 (fun _ _ x => x), hR1, fun k hk hg => by have := hG1 k hg; have := HA1.out.lt k hk; omega, hF1, fun k hk => by have := hG1 k hk; omega, Mo.zero⟩
  have hB0 : Below w.heap.size w w2 := (hk1.then hk2).below (Nat.le_refl _) (fun _ x => x.elim)
  have HPL := Lib.hid (And.intro hpl hB0); clear hpl hB0 hR1 hG1 HA1 hF1
  clear hk1 hk2
  go_wp2_with fail
  go_loopw [5] (fun v5 wr => ∃ i : Nat, i ≤ l.length ∧ i ≤ 40 ∧ v5 = .int .i64 i ∧ PlAt wr w.heap.size g x i (szs (l.take i)) ∧ Below w.heap.size w wr) (fun v5 _ => l.length - (intOf v5).toNat)
  case atStart => exact ⟨0, by omega, by omega, rfl, HPL.out.1, HPL.out.2⟩
  case round =>
    obtain ⟨i, hi, hi40, rfl, hp, hB⟩ := hrel
    have hsz := hB.size
    have HP := Lib.hid hp; clear hp
    have hst := szs_take l i
    by_cases hlt : i < l.length ∧ i < 40
    · obtain ⟨hlt1, hlt2⟩ := hlt
      obtain ⟨a, ha⟩ : ∃ a, l[i]? = some a := ⟨_, List.getElem?_eq_getElem hlt1⟩
      obtain ⟨hg1, hg2, hg3'⟩ := HGO.out a (List.mem_of_getElem? ha)
      obtain ⟨ad, rfl, had, k0, k1, k2, k3⟩ := dact_cells HL.out (by omega) i a ha
      have HSN := Lib.hid (szs_snoc ha)
      have hst2 := szs_take l (i + 1)
      rw [szs_snoc ha] at hst2
      clear ha
      have d0 : ∀ W, Below w.heap.size w W → W.cell? (ad.add (i * 4)) = some (.int .i64 a.1) ∧ W.cell? ⟨(ad.add (i * 4)).block, (ad.add (i * 4)).off + 1, none⟩ = some (.int .i64 a.2.1) ∧ W.cell? ⟨(ad.add (i * 4)).block, (ad.add (i * 4)).off + 2, none⟩ = some (.string a.2.2.1) ∧ W.cell? ⟨(ad.add (i * 4)).block, (ad.add (i * 4)).off + 3, none⟩ = some (.int .i64 a.2.2.2) := by
        intro W hW
        have hk : ∀ j u, w.cell? ⟨(ad.add (i * 4)).block, j, none⟩ = some u → W.cell? ⟨(ad.add (i * 4)).block, j, none⟩ = some u := fun j u hu => (hW.cell (p := ⟨(ad.add (i * 4)).block, j, none⟩) (by rw [block_add]; exact had)).trans hu
        exact ⟨(hW.cell (p := ad.add (i * 4)) (by rw [block_add]; exact had)).trans k0, hk _ _ k1, hk _ _ k2, hk _ _ k3⟩
      obtain ⟨c0, c1, c2, c3⟩ := d0 wr hB
      clear d0 k0 k1 k2 k3
      have hN : a.2.2.2 ≤ 9223372036854775807 := by
        have := hg2
        unfold I64 Lit.wf at this
        have hb : (2 : Int) ^ (IntKind.i64.bits - 1) = 9223372036854775808 := by decide
        simp [IntKind.signed, IntKind.min, IntKind.max, hb] at this
        omega
      have hstep := step_any HP.out hsz (by omega) (by omega) a hg1 hN
      have HST := Lib.hid hstep; clear hstep
      have HB := Lib.hid hB; clear hB
      have h40 : (i : Int) < 40 := by omega
      go_wp2_with fail
      refine HST.out.mono ?_
      rintro e w3 ⟨rfl, hp3, hb3⟩
      have hal := alike_any hp3 (by omega) (by omega)
      have HAL := Lib.hid hal; clear hal
      have HP3 := Lib.hid (And.intro hp3 hb3); clear hp3 hb3
      go_wp2_with fail
      refine HAL.out.mono ?_
      rintro e w4 ⟨rfl, hk4⟩
      have HK4 := Lib.hid hk4; clear hk4
      go_wp2_with fail
      go_roundw
      case rel =>
        refine ⟨i + 1, by omega, by omega, by go_num, ?_, ?_⟩
        · rw [HSN.out]
          obtain ⟨F, G, n, m, fs, ps, ser, boot, hd, hr, hs, hF, hG, hm⟩ := HP3.out.1
          exact ⟨F, G, n, m, fs, ps, ser, boot, hd.kept HK4.out (fun _ _ x => x), hr.kept HK4.out (fun _ _ x => x), hs, hF, hG, hm⟩
        · have hb3 := HB.out.trans HP3.out.2
          exact hb3.trans (HK4.out.below hb3.size (fun _ x => x.elim))
      case measure => simp [intOf]; omega
    · have hx : i = l.length ∨ (i < l.length ∧ i = 40) := by omega
      obtain ⟨F, G, n, m, fs, ps, ser, boot, hd, hr, hs, hF, hG, hm⟩ := HP.out
      have n0 := hm.nothing (f := 0) (by omega)
      have n1 := hm.nothing (f := -1) (by omega)
      have h1 := hm.cf
      have hd0 : ∀ W, Kept NoF wr W → _ := fun W hW => data_any (hd.kept hW (fun _ _ x => x)) 0 (by unfold I64; decide) (by omega) (by have := hm.sz 0; omega)
      have hd1 : ∀ W, Kept NoF wr W → _ := fun W hW => data_any (hd.kept hW (fun _ _ x => x)) (-1) (by unfold I64; decide) (by omega) (by have := hm.sz (-1); omega)
      rw [n0] at hd0
      rw [n1] at hd1
      have HD0 := Lib.hid hd0; have HD1 := Lib.hid hd1
      clear hd0 hd1 hd hr hs hF hG hm n0 n1 HP
      have HB := Lib.hid hB; clear hB
      clear hlt
      rcases hx with rfl | ⟨hx1, rfl⟩
      all_goals
        go_wp2_with fail
        refine (HD0.out _ (Kept.refl _ _)).mono ?_
        rintro e w3 ⟨rfl, hk3⟩
        go_wp2_with fail
        refine (HD1.out _ hk3).mono ?_
        rintro e w4 ⟨rfl, hk4⟩
        go_wp2_with fail
        refine (awake_any _).mono ?_
        rintro e w5 ⟨rfl, hk5⟩
        go_wp2_with fail
        go_ret
        exact ⟨rfl, HB.out.trans (((hk3.then hk4).then hk5).below HB.out.size (fun _ x => x.elim))⟩
end Disk
end Go.Proofs.Ytopkeknpdimimaa
