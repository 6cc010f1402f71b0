/- For every two lists of calls of bulk at most 1048576 and every number, DiskSafe returns true: what was made safe is there behind a crash, and a beginning of what was written since. -/
import Derived.Test.YtploafhenmfmhaaDiskSafe0
import Derived.Test.YtploafhenmfmhaaOpenBulk
import Derived.Test.YtploafhenmfmhaaKeysSet
import Derived.Test.YtploafhenmfmhaaRows
import Derived.Test.YtploafhenmfmhaaKit
import Derived.ProofKit
import Derived.OpenShut
import Derived.Lib.SmallJoins
import Derived.Deep.DeepCutAuto
import Derived.Deep.CutBlock
set_option linter.unusedSimpArgs false
set_option linter.unusedVariables false
namespace Go.Proofs.Ytploafhenmfmhaa
open Go.RowKit
set_option maxRecDepth 100000
namespace Disk

def szs (l : List DAct) : Nat := (l.map fun a => a.2.2.1.size).sum
theorem szs_take_succ {l : List DAct} {i : Nat} {a : DAct} (h : l[i]? = some a) : szs (l.take (i + 1)) = szs (l.take i) + a.2.2.1.size := by
  unfold szs
  rw [List.take_add_one, h]
  simp
theorem szs_take_le (l : List DAct) (i : Nat) : szs (l.take i) ≤ szs l := by
  unfold szs
  conv => rhs; rw [← List.take_append_drop i l]
  simp only [List.map_append, List.sum_append]
  omega

theorem int_cells {w : World} {A : Option Addr} {m : Nat} {l : List Int} (h : Src w 1 A m (l.map (Value.int .i64))) (hm : 0 < m) (i : Nat) (x : Int) (hx : l[i]? = some x) :
    ∃ ad, A = some ad ∧ ad.block < w.heap.size ∧ w.cell? (ad.add i) = some (.int .i64 x) := by
  obtain ⟨ad, rfl, had, hcell⟩ := h.2 hm
  exact ⟨ad, rfl, had, hcell i _ (by simp [hx])⟩

theorem i64_le {k : Int} (h : (Lit.int .i64 k).wf = true) : k ≤ 9223372036854775807 := by
  unfold Lit.wf at h
  have hb : (2 : Int) ^ (IntKind.i64.bits - 1) = 9223372036854775808 := by decide
  simp [IntKind.signed, IntKind.min, IntKind.max, hb] at h
  omega

set_option maxHeartbeats 8000000 in
theorem law_safe (w : World) (A0 : Option Addr) (c0 : Nat) (l0 : List DAct) (hl0 : Src w 4 A0 l0.length (acs l0)) (hlc0 : l0.length ≤ c0) (hcm0 : c0 ≤ maxLen) (hg0 : ∀ a ∈ l0, I64 a.2.1 ∧ I64 a.2.2.2 ∧ a.2.2.1.size ≤ maxLen) (hs0 : szs l0 ≤ 1048576)
    (A1 : Option Addr) (c1 : Nat) (l1 : List DAct) (hl1 : Src w 4 A1 l1.length (acs l1)) (hlc1 : l1.length ≤ c1) (hcm1 : c1 ≤ maxLen) (hg1 : ∀ a ∈ l1, I64 a.2.1 ∧ I64 a.2.2.2 ∧ a.2.2.1.size ≤ maxLen) (hs1 : szs l1 ≤ 1048576) (K : Int) (hK : K ≤ 9223372036854775807) :
    Calls Try.prog 11 #[.slice A0 l0.length c0, .slice A1 l1.length c1, .int .i64 K] w fun e w' => e = .returned (.bool true) ∧ Below w.heap.size w w' := by
  unfold maxLen at hcm0 hcm1
  have HL0 := Lib.hid hl0; clear hl0
  have HL1 := Lib.hid hl1; clear hl1
  have HGO0 := Lib.hid hg0; clear hg0
  have HGO1 := Lib.hid hg1; clear hg1
  go_enter Try.func11, Try.ntmps11
  go_wp2_with fail
  refine (new_any _).mono ?_
  rintro e w1 ⟨g, F1, rfl, hA1, hk1, hF1⟩
  have HA1 := Lib.hid hA1; clear hA1
  have hB1 : Below w.heap.size w w1 := hk1.below (Nat.le_refl _) (fun _ x => x.elim)
  have HB1 := Lib.hid hB1; clear hB1
  go_upto_block 0 with fail
  go_cut [] (fun wx => ∃ F P, DiskAt wx g F 0 (fun _ => none) P 1 1 ∧ P.length ≤ 30 ∧ total P ≤ 1048576 ∧ (∀ p ∈ P, I64 p.1) ∧ (∀ k, F k → w.heap.size ≤ k) ∧ Below w.heap.size w wx)
  case first =>
    go_wp2_with fail
    go_loopw [8] (fun v8 wr => ∃ (i : Nat) (F : Nat → Prop) (P : List Pc), i ≤ l0.length ∧ i ≤ 30 ∧ v8 = .int .i64 i ∧ DiskAt wr g F 0 (fun _ => none) P 1 1 ∧ P.length ≤ i ∧ total P ≤ szs (l0.take i) ∧ (∀ p ∈ P, I64 p.1) ∧ (∀ k, F k → w.heap.size ≤ k) ∧ Below w.heap.size w wr) (fun v8 _ => l0.length - (intOf v8).toNat)
    case atStart => exact ⟨0, F1, [], by omega, by omega, rfl, HA1.out, Nat.le_refl _, by simp [total], (fun p hp => by cases hp), hF1, HB1.out⟩
    case round =>
      obtain ⟨i, F, P, hi, hi30, rfl, hD, hPl, hPt, hPi, hFl, hB⟩ := hrel
      have hszw := hB.size
      have HD := Lib.hid hD; clear hD
      have HPI := Lib.hid hPi; clear hPi
      by_cases hlt : i < l0.length ∧ i < 30
      · obtain ⟨hlt1, hlt2⟩ := hlt
        obtain ⟨a, ha⟩ : ∃ a, l0[i]? = some a := ⟨_, List.getElem?_eq_getElem hlt1⟩
        obtain ⟨hg1, hg2, hg3'⟩ := HGO0.out a (List.mem_of_getElem? ha)
        obtain ⟨ad, rfl, had, k0, k1, k2, k3⟩ := dact_cells (HL0.out.below hB) (by omega) i a ha
        have hst := szs_take_succ ha
        have hst2 := szs_take_le l0 (i + 1)
        have HST := Lib.hid hst
        rw [hst] at hst2
        clear ha hst
        obtain ⟨aK, aF, aS, aN⟩ := a
        dsimp only at k0 k1 k2 k3 hg1 hg2 hg3' HST hst2
        have h30 : (i : Int) < 30 := by omega
        by_cases hr : 1 ≤ aF ∧ aF ≤ 1073741824
        · obtain ⟨hr1, hr2⟩ := hr
          go_wp2_with fail
          refine wp_region_still_tail 11 (by kernel_rfl) (by kernel_rfl) ?_
          simp only [List.take_succ_cons, List.take_zero, List.drop_succ_cons, List.drop_zero]
          change wpStill _ _ (World.drew wr) _ _ _
          repeat still_step
          refine wpStill_nil ?_
          change wpList _ _ _ _ _ (World.drew wr)
          go_wp2_with fail
          refine (write_ok (HD.out.kept (G := NoF) (Kept.refl _ _).drew (fun _ _ x => x)) aF aS hr1 hr2 (by omega)).mono ?_
          rintro e w2 ⟨rfl, F2, hD2, hG2, hk2⟩
          have hq2 : Kept F wr w2 := ((Kept.refl _ _).drew).then hk2
          have hB2 : Below w.heap.size w w2 := hB.trans (hq2.below hszw hFl)
          have HD2 := Lib.hid hD2; clear hD2
          have HB2 := Lib.hid hB2; clear hB2
          have hP3 : ∀ p ∈ P ++ [(aF, aS)], I64 p.1 := by
            intro p hp
            rcases List.mem_append.1 hp with h | h
            · exact HPI.out p h
            · rw [List.mem_singleton.1 h]; exact hg1
          have HP3 := Lib.hid hP3; clear hP3
          go_wp2_with fail
          go_roundw
          case rel => exact ⟨i + 1, F2, P ++ [(aF, aS)], by omega, by omega, by go_num, HD2.out, by simp; omega, by rw [total_snoc, HST.out]; show total P + aS.size ≤ _; omega, HP3.out, hG2.above hFl hszw, HB2.out⟩
          case measure => simp [intOf]; omega
        · go_wp2_with fail
          refine wp_region_still_tail 11 (by kernel_rfl) (by kernel_rfl) ?_
          simp only [List.take_succ_cons, List.take_zero, List.drop_succ_cons, List.drop_zero]
          change wpStill _ _ (World.drew wr) _ _ _
          repeat still_step
          refine wpStill_nil ?_
          change wpList _ _ _ _ _ (World.drew wr)
          go_wp2_with fail
          refine (write_bad (HD.out.kept (G := NoF) (Kept.refl _ _).drew (fun _ _ x => x)) aF aS (by omega)).mono ?_
          rintro e w2 ⟨rfl, F2, hD2, hG2, hk2⟩
          have hq2 : Kept F wr w2 := ((Kept.refl _ _).drew).then hk2
          have hB2 : Below w.heap.size w w2 := hB.trans (hq2.below hszw hFl)
          have HD2 := Lib.hid hD2; clear hD2
          have HB2 := Lib.hid hB2; clear hB2
          go_wp2_with fail
          go_roundw
          case rel => exact ⟨i + 1, F2, P, by omega, by omega, by go_num, HD2.out, by omega, by rw [HST.out]; omega, HPI.out, hG2.above hFl hszw, HB2.out⟩
          case measure => simp [intOf]; omega
      · have hx : l0.length ≤ i ∨ (i < l0.length ∧ 30 ≤ i) := by omega
        clear hlt
        have hst2 := szs_take_le l0 i
        rcases hx with hx | ⟨hx1, hx2⟩
        all_goals
          go_wp2_with fail
          go_meet
          exact ⟨F, P, HD.out, by omega, by omega, HPI.out, hFl, hB⟩
  case rest =>
    obtain ⟨Fo, P0, hD, hPl, hPt, hPi, hFl, hB⟩ := hcut
    have hszw := hB.size
    go_wp2_with fail
    refine (sync_any hD hPi (by omega) (by decide) 0 (fun k => Nat.le_refl _) (by omega)).mono ?_
    rintro e w2 ⟨rfl, hD2, hk2⟩
    have hB2 : Below w.heap.size w w2 := hB.trans (hk2.below hszw hFl)
    have hz2 := hB2.size
    have hfiles := files_any hD2 (by intro p hp; cases hp) (by omega) (by decide)
    have hMs : ∀ f, (sget (syncM (fun _ => none) P0) f).size ≤ 1048576 := fun f => by have := sync_size P0 f; omega
    have hfew : ∀ fl, FilesAre (syncM (fun _ => none) P0) [] fl → fl.length ≤ 30 := fun fl h => by have := files_few h; omega
    generalize syncM (fun _ => none) P0 = M at *
    have HD2 := Lib.hid hD2; clear hD2 hD hPi
    have HMS := Lib.hid hMs; clear hMs
    have HFEW := Lib.hid hfew; clear hfew
    have HFILES := Lib.hid hfiles; clear hfiles
    go_wp2_with fail
    refine HFILES.out.mono ?_
    rintro e w3 ⟨fl, A, c, rfl, hfa, hrow, hnew, hk3⟩
    have hB3 : Below w.heap.size w w3 := hB2.trans (hk3.below hz2 (fun _ x => x.elim))
    have hz3 := hB3.size
    have hfl30 := HFEW.out fl hfa
    have hD3 := HD2.out.kept hk3 (fun _ _ x => x)
    have HD3 := Lib.hid hD3; clear hD3
    have HFA := Lib.hid hfa; clear hfa
    have HFL := Lib.hid hrow; clear hrow
    have HFLN := Lib.hid hnew; clear hnew
    have HKFLw3 := Lib.hid (Kept.refl NoF w3)
    have HB3 := Lib.hid hB3; clear hB3
    go_wp2_with fail
    go_loopw [10, 11] (fun v10 v11 wr => ∃ (i : Nat) (T : Option Addr) (tc : Nat), i ≤ fl.length ∧ v11 = .int .i64 i ∧ v10 = .slice T i tc ∧ wr.ownsRow 0 9 1 (.slice T i tc) i (Keys.strs ((fl.take i).map (dataOf M []))) ∧ (∀ k, (Value.slice T i tc).ownBlock = some k → w3.heap.size ≤ k) ∧ Kept NoF w3 wr) (fun _ v11 _ => fl.length - (intOf v11).toNat)
    case atStart => exact ⟨0, none, 0, Nat.zero_le _, rfl, rfl, ⟨rfl, .inl ⟨rfl, rfl⟩⟩, (fun k hk => by cases hk), Kept.refl _ _⟩
    case round =>
      obtain ⟨i, T, tc, hi, rfl, rfl, hrow, hnew, hkw⟩ := hrel
      have HROW := Lib.hid hrow; clear hrow
      have HNEW := Lib.hid hnew; clear hnew
      have hszw := hkw.size
      have hfs := (Src.of_own HFL.out).kept (HKFLw3.out.then hkw) (fun _ _ x => x)
      by_cases hil : i < fl.length
      · obtain ⟨f, hf⟩ : ∃ f, fl[i]? = some f := ⟨_, List.getElem?_eq_getElem hil⟩
        obtain ⟨fd, hfd, -, e0⟩ := int_cells hfs (by omega) i f hf
        subst hfd
        have hfi : I64 f := ((HFA.out.mem f).1 (List.mem_of_getElem? hf)).1
        have hstr : Keys.strs ((fl.take (i + 1)).map (dataOf M [])) = Keys.strs ((fl.take i).map (dataOf M [])) ++ [Value.string (dataOf M [] f)] := by
          rw [take_snoc hf, List.map_append]; simp [Keys.strs]
        have HSTR := Lib.hid hstr; clear hstr hf hfs
        have hMs := HMS.out f
        have hda := data_any (HD3.out.kept hkw (fun _ _ x => x)) f hfi (by decide) (by simp only [total, List.map_nil, List.sum_nil]; omega)
        obtain ⟨X, hX⟩ : ∃ X, X = dataOf M [] f := ⟨_, rfl⟩
        rw [← hX] at hda HSTR
        clear hX
        have HDA := Lib.hid hda; clear hda
        have HM1 : Hid (i + 1 ≤ maxLen) := Lib.hid (by unfold maxLen; omega)
        have HM2 : Hid ((i + 1) * 16 ≤ 140737488355328) := Lib.hid (by omega)
        go_wp2_with fail
        refine HDA.out.mono ?_
        rintro e w8 ⟨rfl, hk8⟩
        have hrow8 := own_kept HROW.out hk8 (fun _ _ x => x)
        have HROW8 := Lib.hid hrow8; clear hrow8
        have hk9 := hkw.then hk8
        go_wp2_with (at_builtin; refine list_append_src Keys.elemStr (.tmp 52) (.tmp 59) rfl rfl (Value.slice T i tc) rfl (own_kept HROW8.out (F := NoF) ((Kept.refl _ _).alloc _) (fun _ _ x => x)) 1 rfl (Src.of_has (m := 1) (Has.new w8 9 #[.string X]) rfl) (by intro u hu; simp at hu; subst hu; rfl) HM1.out HM2.out ?_; intro T3 tc3 w9 ho3 hg3 ha3)
        have hk10 : Kept NoF w3 w9 := (hk9.alloc _).grown hg3 (fun k hk => .inr (HNEW.out k hk))
        have hn4 : ∀ k, (Value.slice T3 (i + 1) tc3).ownBlock = some k → w3.heap.size ≤ k := by
          intro k hk
          rcases ha3 with h | h
          · exact HNEW.out k (h.symm.trans hk)
          · rw [hk] at h
            injection h with h
            have := hk9.size
            simp at h
            omega
        have ho4 : w9.ownsRow 0 9 1 (.slice T3 (i + 1) tc3) (i + 1) (Keys.strs ((fl.take (i + 1)).map (dataOf M []))) := by rw [HSTR.out]; exact ho3
        have HO4 := Lib.hid ho4; clear ho4 ho3 hg3 ha3
        have HN4 := Lib.hid hn4; clear hn4
        have HK10 := Lib.hid hk10; clear hk10
        go_roundw
        case rel => exact ⟨i + 1, T3, tc3, by omega, by go_num, rfl, HO4.out, HN4.out, HK10.out⟩
        case measure => simp [intOf]; omega
      · obtain rfl : i = fl.length := by omega
        rw [List.take_length] at HROW
        have hB4 : Below w.heap.size w wr := HB3.out.trans (hkw.below hz3 (fun _ x => x.elim))
        have hz4 := hB4.size
        have HHAD := HROW; clear HROW
        have HHN := HNEW; clear HNEW
        have hD4 := HD3.out.kept hkw (fun _ _ x => x)
        have hfl4 := own_kept HFL.out hkw (fun _ _ x => x)
        obtain ⟨w4, hw4⟩ : ∃ w4 : World, w4 = wr := ⟨_, rfl⟩
        subst hw4
        have HFL4 := Lib.hid hfl4; clear hfl4
        have HD4 := Lib.hid hD4; clear hD4
        have HB4 := Lib.hid hB4; clear hB4
        have hFl0 := hFl
        have hmg : (0 : Nat) + P0.length ≤ 30 := by omega
        generalize (0 : Nat) + P0.length = N at *
        go_upto_block 4 with fail
        go_cut [] (fun wx => ∃ F P, DiskAt wx g F N M P 1 1 ∧ P.length ≤ 30 ∧ total P ≤ 1048576 ∧ (∀ p ∈ P, I64 p.1) ∧ (∀ k, F k → w.heap.size ≤ k) ∧ (Kept Fo w4 wx ∧ Grows w4 Fo F))
        case first =>
          go_wp2_with fail
          go_loopw [12] (fun v8 wr => ∃ (i : Nat) (F : Nat → Prop) (P : List Pc), i ≤ l1.length ∧ i ≤ 30 ∧ v8 = .int .i64 i ∧ DiskAt wr g F N M P 1 1 ∧ P.length ≤ i ∧ total P ≤ szs (l1.take i) ∧ (∀ p ∈ P, I64 p.1) ∧ (∀ k, F k → w.heap.size ≤ k) ∧ (Kept Fo w4 wr ∧ Grows w4 Fo F)) (fun v8 _ => l1.length - (intOf v8).toNat)
          case atStart => exact ⟨0, Fo, [], by omega, by omega, rfl, HD4.out, Nat.le_refl _, by simp [total], (fun p hp => by cases hp), hFl, ⟨Kept.refl _ _, Grows.refl _ _⟩⟩
          case round =>
            obtain ⟨i, F, P, hi, hi30, rfl, hD, hPl, hPt, hPi, hFl, hB⟩ := hrel
            have hszw := hB.1.size
            have HD := Lib.hid hD; clear hD
            have HPI := Lib.hid hPi; clear hPi
            by_cases hlt : i < l1.length ∧ i < 30
            · obtain ⟨hlt1, hlt2⟩ := hlt
              obtain ⟨a, ha⟩ : ∃ a, l1[i]? = some a := ⟨_, List.getElem?_eq_getElem hlt1⟩
              obtain ⟨hg1, hg2, hg3'⟩ := HGO1.out a (List.mem_of_getElem? ha)
              obtain ⟨ad, rfl, had, k0, k1, k2, k3⟩ := dact_cells (HL1.out.below (HB4.out.trans (hB.1.below hz4 hFl0))) (by omega) i a ha
              have hst := szs_take_succ ha
              have hst2 := szs_take_le l1 (i + 1)
              have HST := Lib.hid hst
              rw [hst] at hst2
              clear ha hst
              obtain ⟨aK, aF, aS, aN⟩ := a
              dsimp only at k0 k1 k2 k3 hg1 hg2 hg3' HST hst2
              have h30 : (i : Int) < 30 := by omega
              by_cases hr : 1 ≤ aF ∧ aF ≤ 1073741824
              · obtain ⟨hr1, hr2⟩ := hr
                go_wp2_with fail
                refine wp_region_still_tail 11 (by kernel_rfl) (by kernel_rfl) ?_
                simp only [List.take_succ_cons, List.take_zero, List.drop_succ_cons, List.drop_zero]
                change wpStill _ _ (World.drew wr) _ _ _
                repeat still_step
                refine wpStill_nil ?_
                change wpList _ _ _ _ _ (World.drew wr)
                go_wp2_with fail
                refine (write_ok (HD.out.kept (G := NoF) (Kept.refl _ _).drew (fun _ _ x => x)) aF aS hr1 hr2 (by omega)).mono ?_
                rintro e w2 ⟨rfl, F2, hD2, hG2, hk2⟩
                have hq2 : Kept F wr w2 := ((Kept.refl _ _).drew).then hk2
                have hB2 : (Kept Fo w4 w2 ∧ Grows w4 Fo F2) := ⟨hB.1.trans hq2 (fun k hk => hB.2 k hk), hB.2.trans hG2 hszw⟩
                have HD2 := Lib.hid hD2; clear hD2
                have HB2 := Lib.hid hB2; clear hB2
                have hP3 : ∀ p ∈ P ++ [(aF, aS)], I64 p.1 := by
                  intro p hp
                  rcases List.mem_append.1 hp with h | h
                  · exact HPI.out p h
                  · rw [List.mem_singleton.1 h]; exact hg1
                have HP3 := Lib.hid hP3; clear hP3
                go_wp2_with fail
                go_roundw
                case rel => exact ⟨i + 1, F2, P ++ [(aF, aS)], by omega, by omega, by go_num, HD2.out, by simp; omega, by rw [total_snoc, HST.out]; show total P + aS.size ≤ _; omega, HP3.out, hG2.above hFl (Nat.le_trans hz4 hszw), HB2.out⟩
                case measure => simp [intOf]; omega
              · go_wp2_with fail
                refine wp_region_still_tail 11 (by kernel_rfl) (by kernel_rfl) ?_
                simp only [List.take_succ_cons, List.take_zero, List.drop_succ_cons, List.drop_zero]
                change wpStill _ _ (World.drew wr) _ _ _
                repeat still_step
                refine wpStill_nil ?_
                change wpList _ _ _ _ _ (World.drew wr)
                go_wp2_with fail
                refine (write_bad (HD.out.kept (G := NoF) (Kept.refl _ _).drew (fun _ _ x => x)) aF aS (by omega)).mono ?_
                rintro e w2 ⟨rfl, F2, hD2, hG2, hk2⟩
                have hq2 : Kept F wr w2 := ((Kept.refl _ _).drew).then hk2
                have hB2 : (Kept Fo w4 w2 ∧ Grows w4 Fo F2) := ⟨hB.1.trans hq2 (fun k hk => hB.2 k hk), hB.2.trans hG2 hszw⟩
                have HD2 := Lib.hid hD2; clear hD2
                have HB2 := Lib.hid hB2; clear hB2
                go_wp2_with fail
                go_roundw
                case rel => exact ⟨i + 1, F2, P, by omega, by omega, by go_num, HD2.out, by omega, by rw [HST.out]; omega, HPI.out, hG2.above hFl (Nat.le_trans hz4 hszw), HB2.out⟩
                case measure => simp [intOf]; omega
            · have hx : l1.length ≤ i ∨ (i < l1.length ∧ 30 ≤ i) := by omega
              clear hlt
              have hst2 := szs_take_le l1 i
              rcases hx with hx | ⟨hx1, hx2⟩
              all_goals
                go_wp2_with fail
                go_meet
                exact ⟨F, P, HD.out, by omega, by omega, HPI.out, hFl, hB⟩
        case rest =>
          obtain ⟨F5, P2, hD5, hP2l, hP2t, hP2i, hF5l, hKG⟩ := hcut
          obtain ⟨w5, hw5⟩ : ∃ w5 : World, w5 = wc := ⟨_, rfl⟩
          subst hw5
          have hk45 := hKG.1
          have hz5 : w4.heap.size ≤ w5.heap.size := hk45.size
          have hfl5 := own_kept HFL4.out hk45 (HD4.out.apart HFL4.out (by decide) (by decide))
          have hhad5 := own_kept HHAD.out hk45 (HD4.out.apart HHAD.out (by decide) (by decide))
          have hB5 : Below w.heap.size w w5 := HB4.out.trans (hk45.below hz4 hFl0)
          have hz55 := hB5.size
          have HD5 := Lib.hid hD5; clear hD5
          have HP2I := Lib.hid hP2i; clear hP2i
          have HHAD5 := Lib.hid hhad5; clear hhad5
          clear HFL HD3 HB3 HFILES HFEW HKFLw3 HA1 HB1
          have HFL := Lib.hid hfl5; clear hfl5
          have HKFLw5 := Lib.hid (Kept.refl NoF w5)
          have HB5 := Lib.hid hB5; clear hB5
          go_wp2_with fail
          go_loopw [13, 14] (fun v10 v11 wr => ∃ (i : Nat) (T2 : Option Addr) (tc2 : Nat), i ≤ fl.length ∧ v11 = .int .i64 i ∧ v10 = .slice T2 i tc2 ∧ wr.ownsRow 0 9 1 (.slice T2 i tc2) i (Keys.strs ((fl.take i).map (dataOf M P2))) ∧ (∀ k, (Value.slice T2 i tc2).ownBlock = some k → w5.heap.size ≤ k) ∧ Kept NoF w5 wr) (fun _ v11 _ => fl.length - (intOf v11).toNat)
          case atStart => exact ⟨0, none, 0, Nat.zero_le _, rfl, rfl, ⟨rfl, .inl ⟨rfl, rfl⟩⟩, (fun k hk => by cases hk), Kept.refl _ _⟩
          case round =>
            obtain ⟨i, T2, tc2, hi, rfl, rfl, hrow, hnew, hkw⟩ := hrel
            have HROW := Lib.hid hrow; clear hrow
            have HNEW := Lib.hid hnew; clear hnew
            have hszw := hkw.size
            have hfs := (Src.of_own HFL.out).kept (HKFLw5.out.then hkw) (fun _ _ x => x)
            by_cases hil : i < fl.length
            · obtain ⟨f, hf⟩ : ∃ f, fl[i]? = some f := ⟨_, List.getElem?_eq_getElem hil⟩
              obtain ⟨fd, hfd, -, e0⟩ := int_cells hfs (by omega) i f hf
              subst hfd
              have hfi : I64 f := ((HFA.out.mem f).1 (List.mem_of_getElem? hf)).1
              have hstr : Keys.strs ((fl.take (i + 1)).map (dataOf M P2)) = Keys.strs ((fl.take i).map (dataOf M P2)) ++ [Value.string (dataOf M P2 f)] := by
                rw [take_snoc hf, List.map_append]; simp [Keys.strs]
              have HSTR := Lib.hid hstr; clear hstr hf hfs
              have hMs := HMS.out f
              have hda := data_any (HD5.out.kept hkw (fun _ _ x => x)) f hfi (by omega) (by omega)
              obtain ⟨X, hX⟩ : ∃ X, X = dataOf M P2 f := ⟨_, rfl⟩
              rw [← hX] at hda HSTR
              clear hX
              have HDA := Lib.hid hda; clear hda
              have HM1 : Hid (i + 1 ≤ maxLen) := Lib.hid (by unfold maxLen; omega)
              have HM2 : Hid ((i + 1) * 16 ≤ 140737488355328) := Lib.hid (by omega)
              go_wp2_with fail
              refine HDA.out.mono ?_
              rintro e w8 ⟨rfl, hk8⟩
              have hrow8 := own_kept HROW.out hk8 (fun _ _ x => x)
              have HROW8 := Lib.hid hrow8; clear hrow8
              have hk9 := hkw.then hk8
              go_wp2_with (at_builtin; refine list_append_src Keys.elemStr (.tmp 89) (.tmp 96) rfl rfl (Value.slice T2 i tc2) rfl (own_kept HROW8.out (F := NoF) ((Kept.refl _ _).alloc _) (fun _ _ x => x)) 1 rfl (Src.of_has (m := 1) (Has.new w8 9 #[.string X]) rfl) (by intro u hu; simp at hu; subst hu; rfl) HM1.out HM2.out ?_; intro T3 tc3 w9 ho3 hg3 ha3)
              have hk10 : Kept NoF w5 w9 := (hk9.alloc _).grown hg3 (fun k hk => .inr (HNEW.out k hk))
              have hn4 : ∀ k, (Value.slice T3 (i + 1) tc3).ownBlock = some k → w5.heap.size ≤ k := by
                intro k hk
                rcases ha3 with h | h
                · exact HNEW.out k (h.symm.trans hk)
                · rw [hk] at h
                  injection h with h
                  have := hk9.size
                  simp at h
                  omega
              have ho4 : w9.ownsRow 0 9 1 (.slice T3 (i + 1) tc3) (i + 1) (Keys.strs ((fl.take (i + 1)).map (dataOf M P2))) := by rw [HSTR.out]; exact ho3
              have HO4 := Lib.hid ho4; clear ho4 ho3 hg3 ha3
              have HN4 := Lib.hid hn4; clear hn4
              have HK10 := Lib.hid hk10; clear hk10
              go_roundw
              case rel => exact ⟨i + 1, T3, tc3, by omega, by go_num, rfl, HO4.out, HN4.out, HK10.out⟩
              case measure => simp [intOf]; omega
            · obtain rfl : i = fl.length := by omega
              rw [List.take_length] at HROW
              have hD6 := HD5.out.kept hkw (fun _ _ x => x)
              have hfl6 := own_kept HFL.out hkw (fun _ _ x => x)
              have hhad6 := own_kept HHAD5.out hkw (fun _ _ x => x)
              have hB6 : Below w.heap.size w wr := HB5.out.trans (hkw.below hz55 (fun _ x => x.elim))
              obtain ⟨w6, hw6⟩ : ∃ w6 : World, w6 = wr := ⟨_, rfl⟩
              subst hw6
              have hz6 := hB6.size
              have hpd := pending_any hD6 (by omega) (by omega)
              have HPD := Lib.hid hpd; clear hpd
              go_wp2_with fail
              refine HPD.out.mono ?_
              rintro e w7 ⟨rfl, hk7⟩
              have hD7 := hD6.kept hk7 (fun _ _ x => x)
              have hB7 : Below w.heap.size w w7 := hB6.trans (hk7.below hz6 (fun _ x => x.elim))
              have hz7 := hB7.size
              obtain ⟨L, hL⟩ : ∃ L : Nat, max K 0 = (L : Int) := ⟨(max K 0).toNat, by omega⟩
              have hcr := crash_any hD7 (by decide) (by decide) K hK HP2I.out (by omega) (by omega) 1048576 HMS.out (.inl (by omega))
              rw [hL, Int.toNat_natCast] at hcr
              have HCR := Lib.hid hcr; clear hcr
              have HL := Lib.hid hL; clear hL
              go_wp2_with fail
              refine HCR.out.mono ?_
              rintro e w8 ⟨rfl, hD8, hk8⟩
              have hap1 := hD7.apart (own_kept hfl6 hk7 (fun _ _ x => x)) (by decide) (by decide)
              have hap2 := hD7.apart (own_kept hhad6 hk7 (fun _ _ x => x)) (by decide) (by decide)
              have hap3 := hD7.apart (own_kept HROW.out hk7 (fun _ _ x => x)) (by decide) (by decide)
              have HF8 := Lib.hid (own_kept (own_kept hfl6 hk7 (fun _ _ x => x)) hk8 hap1)
              have HH8 := Lib.hid (own_kept (own_kept hhad6 hk7 (fun _ _ x => x)) hk8 hap2)
              have HA8 := Lib.hid (own_kept (own_kept HROW.out hk7 (fun _ _ x => x)) hk8 hap3)
              have hB8 : Below w.heap.size w w8 := hB7.trans (hk8.below hz7 hF5l)
              have hz8 := hB8.size
              have HB8 := Lib.hid hB8; clear hB8
              have HD8 := Lib.hid hD8; clear hD8 hD7 hD6 hfl6 hhad6 hap1 hap2 hap3
              have hnd : fl.Nodup := HFA.out.rises.imp fun {a b} hab e => by omega
              have HND := Lib.hid hnd; clear hnd
              have htc1 := total_cuts P2 L
              have htc2 := total_cuts_le P2 L
              go_wp2_with fail
              go_loopw [16, 17, 18] (fun v16 v17 v18 wr => ∃ i : Nat, i ≤ fl.length ∧ v17 = .int .i64 i ∧ v16 = .int .i64 (((fl.take i).map fun f => (ofFile f (cuts L P2)).length).sum : Nat) ∧ Kept NoF w8 wr) (fun _ v17 _ _ => fl.length - (intOf v17).toNat)
              case atStart => exact ⟨0, Nat.zero_le _, rfl, by simp, Kept.refl _ _⟩
              case round =>
                obtain ⟨i, hi, rfl, rfl, hkw⟩ := hrel
                have hsb := sum_take_files (cuts L P2) fl i HND.out
                by_cases hil : i < fl.length
                · obtain ⟨f, hf⟩ : ∃ f, fl[i]? = some f := ⟨_, List.getElem?_eq_getElem hil⟩
                  obtain ⟨fd, hfd, -, e0⟩ := int_cells ((Src.of_own HF8.out).kept hkw (fun _ _ x => x)) (by omega) i f hf
                  subst hfd
                  have hfi : I64 f := ((HFA.out.mem f).1 (List.mem_of_getElem? hf)).1
                  have hMs := HMS.out f
                  obtain ⟨s1, s2, s3, s4⟩ := safe_facts M L P2 f
                  have hda := data_any (HD8.out.kept hkw (fun _ _ x => x)) f hfi (by decide) (by simp only [total, List.map_nil, List.sum_nil]; omega)
                  have hsm : ((fl.take (i + 1)).map fun f => (ofFile f (cuts L P2)).length).sum = ((fl.take i).map fun f => (ofFile f (cuts L P2)).length).sum + (ofFile f (cuts L P2)).length := by rw [take_snoc hf]; simp
                  have hsb2 := sum_take_files (cuts L P2) fl (i + 1) HND.out
                  rw [hsm] at hsb2
                  have HSM := Lib.hid hsm; clear hsm
                  have hHc : ∀ W, Kept NoF w8 W → ∃ hd, T = some hd ∧ W.cell? (hd.add i) = some (.string (dataOf M [] f)) := fun W hW => by
                    obtain ⟨hd, e, -, hc⟩ := Keys.str_cells (m := fl.length) (l := fl.map (dataOf M [])) ((Src.of_own HH8.out).kept hW (fun _ _ x => x)) (by omega) i (dataOf M [] f) (by simp [hf])
                    exact ⟨hd, e, hc⟩
                  have hAc : ∀ W, Kept NoF w8 W → ∃ hd, T2 = some hd ∧ W.cell? (hd.add i) = some (.string (dataOf M P2 f)) := fun W hW => by
                    obtain ⟨hd, e, -, hc⟩ := Keys.str_cells (m := fl.length) (l := fl.map (dataOf M P2)) ((Src.of_own HA8.out).kept hW (fun _ _ x => x)) (by omega) i (dataOf M P2 f) (by simp [hf])
                    exact ⟨hd, e, hc⟩
                  obtain ⟨hd1, rfl, -⟩ := hHc _ hkw
                  obtain ⟨hd2, rfl, -⟩ := hAc _ hkw
                  have HHC := Lib.hid hHc; clear hHc
                  have HAC := Lib.hid hAc; clear hAc
                  have hSz : (dataOf (crashM M L P2) [] f).size ≤ 2097152 := by
                    have h1 := ofFile_len f (cuts L P2)
                    have h2 : (dataOf M [] f).size = (sget M f).size := by
                      show (((sget M f).data.toList ++ ofFile f []).toArray).size = _
                      simp [ofFile]
                    omega
                  generalize (ofFile f (cuts L P2)).length = E at *
                  generalize dataOf (crashM M L P2) [] f = S at *
                  generalize dataOf M [] f = Hh at *
                  generalize dataOf M P2 f = Aa at *
                  have h1a : Hh.size + E ≤ S.size := by omega
                  have h1b : S.size ≤ Hh.size + E := by omega
                  have h1c : Hh.size ≤ S.size := by omega
                  clear s1 s4 hf hfi hMs
                  have HDA := Lib.hid hda; clear hda
                  have HS3 := Lib.hid s3; clear s3
                  generalize ((fl.take i).map fun f => (ofFile f (cuts L P2)).length).sum = Q at *
                  go_wp2_with fail
                  refine HDA.out.mono ?_
                  rintro e w9 ⟨rfl, hk9⟩
                  have hk10 := hkw.then hk9
                  obtain ⟨_, e1, c1⟩ := HHC.out w9 hk10
                  injection e1 with e1
                  subst e1
                  obtain ⟨_, e2, c2⟩ := HAC.out w9 hk10
                  injection e2 with e2
                  subst e2
                  have hx := HS3.out
                  go_wp2_with fail
                  go_roundw
                  case rel => exact ⟨i + 1, by omega, by go_num, by rw [HSM.out]; go_num, hk10⟩
                  case measure => simp [intOf]; omega
                · obtain rfl : i = fl.length := by omega
                  rw [List.take_length] at hsb ⊢
                  obtain ⟨mn, hmn0⟩ : ∃ mn : Nat, mn = min L (total P2) := ⟨_, rfl⟩
                  have hle : (fl.map fun f => (ofFile f (cuts L P2)).length).sum ≤ mn := by omega
                  have hmx : ∀ (W : World) (ts : Array TypeId) (t : TypeId), (Builtin.max_ ts t #[.int .i64 K, .int .i64 0]).run Try.prog W = .ok (.int .i64 L) W := by
                    intro W ts t
                    rw [run_max_int2, ← HL.out]
                    split
                    · rw [show max K 0 = 0 by omega]
                    · rw [show max K 0 = K by omega]
                  have hmn : ∀ (W : World) (ts : Array TypeId) (t : TypeId), (Builtin.min_ ts t #[.int .i64 L, .int .i64 (total P2)]).run Try.prog W = .ok (.int .i64 mn) W := by
                    intro W ts t
                    rw [run_min_int2, hmn0]
                    split
                    · rw [show min L (total P2) = total P2 by omega]
                    · rw [show min L (total P2) = L by omega]
                  clear hmn0
                  generalize (fl.map fun f => (ofFile f (cuts L P2)).length).sum = Q at *
                  have hpd := pending_any (HD8.out.kept hkw (fun _ _ x => x)) (by decide) (by decide)
                  rw [show total [] = 0 from rfl] at hpd
                  have HPD := Lib.hid hpd; clear hpd
                  go_wp2_with fail
                  refine HPD.out.mono ?_
                  rintro e w9 ⟨rfl, hk9⟩
                  go_wp2_with fail
                  refine (awake_any _).mono ?_
                  rintro e w10 ⟨rfl, hk10⟩
                  go_wp2_with fail
                  go_ret
                  exact ⟨rfl, HB8.out.trans (((hkw.then hk9).then hk10).below hz8 (fun _ x => x.elim))⟩
end Disk
end Go.Proofs.Ytploafhenmfmhaa

namespace Go.Proofs.Ytploafhenmfmhaa.diskSafeUpto
open Go.ChangeShapes Go.WideShapes Go.ChangeAt Go.RowKit
open Go.ChangeMaps (open_string shut_string)
set_option maxRecDepth 100000 in
theorem contract (H : Type) (enc : TypeId × Value → H) (W : World) (base : Nat) (args : Array Value) (ds gs : List (DataW H)) (before : List MemPlace)
    (hval : ∀ (j : Nat) t v, Try.f11.params[j]? = some t → args[j]? = some v → Value.okWide Try.prog W .any base t v)
    (hW : DataW.Whole enc Try.prog Try.f11.params.toList Rows.diskSafeSpec.vars false W args.toList ds gs before) (hk : Rows.uptoSmall H (ds ++ gs) = true) :
    Calls Try.prog 11 args W fun e W' => ∃ v, e = .returned v ∧ Rows.diskSafeSpec.post enc Try.prog Try.f11 false true false false W args v W' := by
  have hW' := hW
  obtain ⟨p, q, hA0, hV, rfl, hfz, hnd⟩ := hW
  have hA : DataW.TrodAll enc Try.prog W 0 (fun _ => true) true Try.f11.params.toList args.toList ds p := hA0
  rw [Try.params11] at hA hval
  obtain ⟨v0, vs0, d0, ds0, p0, q0, hargs, rfl, rfl, h0, r0⟩ := trodAll_cons hA
  obtain ⟨v1, vs1, d1, ds1, p1, q1, rfl, rfl, rfl, h1, r1⟩ := trodAll_cons r0
  obtain ⟨v2, vs2, d2, ds2, p2, q2, rfl, rfl, rfl, h2, r2⟩ := trodAll_cons r1
  obtain ⟨rfl, rfl, rfl⟩ := trodAll_nil r2
  obtain rfl : args = #[v0, v1, v2] := by cases args; simp_all
  obtain ⟨rfl, rfl⟩ := trodVars_none hV
  have hlt : ∀ x : MemPlace, x ∈ _ → x.block < W.heap.size := fun x hx => hW'.lt x hx
  have g0 := h0
  have g1 := h1
  have g2 := h2
  obtain ⟨A0, c0, l0, rfl, hlc0, hcm0, hs0, hg0, hb0⟩ := open_dacts_bulk (hval 0 46 v0 rfl rfl) h0
  obtain ⟨A1, c1, l1, rfl, hlc1, hcm1, hs1, hg1, hb1⟩ := open_dacts_bulk (hval 1 46 v1 rfl rfl) h1
  obtain ⟨a2, rfl, rfl, rfl, w2⟩ := open_int Try.underlying3 (hval 2 3 v2 rfl rfl) h2
  clear hA0
  have hk1 := bulk_le hk
  have hk2 : Rows.uptoBulk d0 ≤ 1048576 ∧ Rows.uptoBulk d1 ≤ 1048576 := by
    simp only [List.cons_append, List.nil_append, bulk_cons] at hk1
    omega
  refine (Disk.law_safe W A0 c0 l0 hs0 hlc0 hcm0 hg0 (Nat.le_trans hb0 hk2.1) A1 c1 l1 hs1 hlc1 hcm1 hg1 (Nat.le_trans hb1 hk2.2) a2 (Disk.i64_le w2)).mono fun e W' ⟨he, hb⟩ => ?_
  subst he
  exact ⟨_, rfl, post_below (pv := []) hW' (fun _ _ _ => trodAll_cons_mk (shut_bool Try.underlying4 _) trodAll_mk0)
    (fun sp hsp => (trodAll_cons_mk (arg_stays (by kernel_rfl) (by kernel_rfl) g0 hb hlt (fun x hx => hsp x hx) (fun x hx => by first | (simp at hx; done) | simp [hx])) (trodAll_cons_mk (arg_stays (by kernel_rfl) (by kernel_rfl) g1 hb hlt (fun x hx => hsp x hx) (fun x hx => by first | (simp at hx; done) | simp [hx])) (trodAll_cons_mk (arg_stays (by kernel_rfl) (by kernel_rfl) g2 hb hlt (fun x hx => hsp x hx) (fun x hx => by first | (simp at hx; done) | simp [hx])) trodAll_mk0)))) (fun _ _ => rfl) (by simp)
    hb (ok_one (by kernel_rfl) rfl (okWide_bool_mk Try.underlying4 _))⟩

set_option maxRecDepth 100000 in
theorem lifted (os : Os) (started : os.Started) (H : Type) (enc : TypeId × Value → H) (F : Stop.Interp) :
    ReturnsInHanded {} Try.checked os 11 .any ((Rows.OpenSpec.upto Rows.diskSafeSpec).pre6 enc Try.prog Try.f11 Rows.diskSafeUptoRow.domain false) (((Rows.OpenSpec.upto Rows.diskSafeSpec).at F).post enc Try.prog Try.f11 false true false false) := by
  refine returnsInHanded_of_cond (C := Try.checked) (s := Rows.OpenSpec.upto Rows.diskSafeSpec) (k := Rows.uptoSmall) rfl own started (by kernel_rfl) Try.func11
    (OpenSpec.witness (enc := enc) (C := Try.checked) (s := Rows.OpenSpec.upto Rows.diskSafeSpec) (k := Rows.uptoSmall) rfl false ⟨#[], #[.slice none 0 0, .slice none 0 0, .int .i64 0], []⟩ 8 (by kernel_rfl) (by kernel_rfl) (by kernel_rfl)
      (x := ([.nil, .nil, .lit (.int .i64 0)], [], [])) (by kernel_rfl) rfl (by kernel_rfl)) ?_
  intro W base args ds gs before hval hW _ hk _
  exact contract H enc W base args ds gs before hval hW hk

set_option maxRecDepth 100000 in
theorem proved : Rows.DiskSafeUptoSaid :=
  OpenClaim.holds_of_cond 11 Try.f11 rfl rfl rfl rfl rfl rfl rfl ⟨rfl, rfl, rfl, rfl, rfl⟩ rfl rfl rfl rfl rfl (by kernel_rfl) Try.func11 (by kernel_rfl)
    (of_decide_eq_true (by kernel_rfl)) (by unfold Func.isWrapper; first | (rw [if_pos (by decide +kernel)]; kernel_rfl) | (rw [if_neg (by decide +kernel)]; exact ⟨rfl, rfl⟩))
    (fun os started H enc _ F => lifted os started H enc F)
#print axioms proved
end Go.Proofs.Ytploafhenmfmhaa.diskSafeUpto
