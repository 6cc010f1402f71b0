/- The law MstateNever: its walk. -/
import Derived.Test.YtolipnnjeehnfaaMst24
import Derived.Test.YtolipnnjeehnfaaMstP
set_option linter.unusedSimpArgs false
set_option linter.unusedVariables false
namespace Go.Proofs.Ytolipnnjeehnfaa
open Go.RowKit
set_option maxRecDepth 100000
namespace Mst
open Plan Vn Go.Sort
attribute [local go_sem ↓] loadVar_note
attribute [local go_sem] run_loadNote run_field_epoch
theorem headI_cons {l : List Mem} (h : l ≠ []) : ∃ m r, l = m :: r ∧ headI l = m.1 := by
  cases l with
  | nil => exact absurd rfl h
  | cons m r => exact ⟨m, r, rfl, rfl⟩
set_option maxHeartbeats 8000000 in
theorem law_never (w : World) (A : Option Addr) (c : Nat) (l : List NoteR) (hl : Src w 18 A l.length (ncells l)) (hg : ∀ x ∈ l, NGood w x) :
    Calls Try.prog 3 #[.slice A l.length c] w fun e w' => e = .returned (.bool true) ∧ Below w.heap.size w w' := by
  have hpa := parts_any w A c l hl
  have hAW := fun W => awake_any W
  have HL := Lib.hid hl; have HG := Lib.hid hg; have HPA := Lib.hid hpa; have HAW := Lib.hid hAW
  clear hl hg hpa hAW
  have hend : ∀ w', Kept NoF w w' → Below w.heap.size w w' := fun w' hk => hk.below (Nat.le_refl _) (fun _ z => z.elim)
  have HEND := Lib.hid hend; clear hend
  go_enter Try.func3, Try.ntmps3
  go_wp2_with fail
  refine HPA.out.mono ?_
  rintro e w1 ⟨m, rfl, hsm, hk1⟩
  have HSM := Lib.hid hsm; have HK1 := Lib.hid hk1; clear hsm hk1
  by_cases hm : 20 < m
  · go_wp2_with fail
    refine (HAW.out _).mono ?_
    rintro e w3 ⟨rfl, hk3⟩
    have HK3 := Lib.hid hk3; clear hk3
    go_wp2
    go_ret
    exact ⟨rfl, HEND.out _ (HK1.out.then HK3.out)⟩
  · go_wp2_with fail
    refine (new_at _).mono ?_
    rintro e w2 ⟨rfl, hs2, hk2⟩
    obtain ⟨b, hb⟩ : ∃ b, w1.heap.size = b := ⟨_, rfl⟩
    rw [hb] at hs2 ⊢
    have hFb : ∀ k, k = b → w.heap.size ≤ k := fun k e => by have := HK1.out.size; omega
    have HF2 := Lib.hid hFb; have HS2 := Lib.hid hs2; have HK2 := Lib.hid (HK1.out.then hk2); clear hFb hs2 hk2 hb
    have HM := Lib.hid hm; clear hm
    go_wp2_with fail
    go_loopw [4, 5, 6, 7, 8, 9] (fun v4 v5 v6 v7 v8 v9 wr => ∃ (i : Nat) (s : StR) (F : Nat → Prop), i ≤ l.length ∧ i ≤ 40 ∧ v4 = .int .i64 i ∧ StAt wr b F s ∧ Inv s ∧ (∀ k, F k → w.heap.size ≤ k) ∧ Kept NoF w wr) (fun v4 _ _ _ _ _ _ => l.length - (intOf v4).toNat)
    case atStart => exact ⟨0, st0, _, Nat.zero_le _, Nat.zero_le _, rfl, HS2.out, inv0, HF2.out, HK2.out⟩
    case round =>
      obtain ⟨i, s, F, hi, hi2, rfl, hst, hinv, hF, hk⟩ := hrel
      have HST := Lib.hid hst; have HINV := Lib.hid hinv; have HF := Lib.hid hF; have HK := Lib.hid hk; have HOK := Lib.hid hinv.ok
      clear hst hinv hF hk HF2 HS2 HK2
      by_cases hil : i < l.length
      · by_cases hi4 : i < 40
        · obtain ⟨x, hx⟩ : ∃ x, l[i]? = some x := ⟨_, List.getElem?_eq_getElem hil⟩
          have hgx := HG.out x (List.mem_of_getElem? hx)
          have hsmall : x.ms.length ≤ 20 ∧ x.lg.length ≤ 20 := by
            have h1 : x ∈ l.take 60 := by
              have h2 : (l.take 60)[i]? = some x := by rw [List.getElem?_take_of_lt (by omega)]; exact hx
              exact List.mem_of_getElem? h2
            obtain ⟨a, b, _⟩ := HSM.out x h1
            have := HM.out
            omega
          have hnok := fun W (hW : Kept NoF w W) => (hgx.kept hW).ok (by omega) (by omega)
          obtain ⟨hinv2, hmono1, hmono2, hpin⟩ := HINV.out.apply hgx.t
          have hsrc := fun W (hW : Kept NoF w W) => note_cells (HL.out.kept hW (fun _ _ z => z)) (by omega) i x hx
          obtain ⟨ad, rfl, _⟩ := hsrc w (Kept.refl _ _)
          have hload : ∀ W, Kept NoF w W → NoteIn W (ad.add (i * 18)) ∧ noteAt W (ad.add (i * 18)) = (ncell x).toArray := fun W hW => by
            obtain ⟨ad2, e2, _, hc⟩ := hsrc W hW
            injection e2 with e2
            subst e2
            exact noteIn_of rfl hc
          have hkc : ∀ W, Kept NoF w W → W.cell? (ad.add (i * 18)) = some (.int .i64 x.k) := fun W hW => by
            obtain ⟨ad2, e2, _, hc⟩ := hsrc W hW
            injection e2 with e2
            subst e2
            have h9 := hc 0 _ rfl
            rw [add_add] at h9
            exact h9
          have hpc : ∀ W, Kept NoF w W → W.cell? ⟨(ad.add (i * 18)).block, (ad.add (i * 18)).off + 12, none⟩ = some (.int .u64 x.pin.at') := fun W hW => by
            obtain ⟨ad2, e2, _, hc⟩ := hsrc W hW
            injection e2 with e2
            subst e2
            rw [← add_lit _ (by omega)]
            exact hc 12 _ rfl
          have happ := fun W F (hs : StAt W b F s) (hW : Kept NoF w W) => apply_any W b F s x hs HOK.out (hnok W hW)
          have HLD := Lib.hid hload; have HKC := Lib.hid hkc; have HPC := Lib.hid hpc
          have HI2 := Lib.hid hinv2; have HO2 := Lib.hid hinv2.ok
          clear hnok hsrc hload hkc hpc hgx hx hsmall hinv2
          unfold ApplyPost at happ
          obtain ⟨s2, hs2⟩ : ∃ s2, applyS s x = s2 := ⟨_, rfl⟩
          rw [hs2] at HI2 HO2 hmono1 hmono2 hpin
          simp only [hs2] at happ
          obtain ⟨E, hE⟩ : ∃ E, applyE s x = E := ⟨_, rfl⟩
          rw [hE] at hpin
          simp only [hE] at happ
          have HAPP := Lib.hid happ; clear happ
          have HSE := Lib.hid (And.intro hs2 hE); clear hs2 hE
          have HMO := Lib.hid (And.intro hmono1 (And.intro hmono2 hpin)); clear hmono1 hmono2 hpin
          go_wp2_with fail
          refine (horizon_at HST.out).mono ?_
          rintro e w3 ⟨rfl, hk3⟩
          have HST3 := Lib.hid (HST.out.still hk3); have HK3 := Lib.hid (HK.out.then hk3); clear hk3
          go_wp2_with fail
          refine (conf_at HST3.out HOK.out).mono ?_
          rintro e w4 ⟨A4, c4, rfl, hn4, hk4⟩
          have HST4 := Lib.hid (HST3.out.still hk4); have HK4 := Lib.hid (HK3.out.then hk4); clear hk4 hn4
          go_wp2_with fail
          obtain ⟨gc, hgc⟩ : ∃ gc, w4.heap.size = gc := ⟨_, rfl⟩
          obtain ⟨W4, hW4⟩ : ∃ W4, w4.alloc (.cells #[.int .i64 s.ep, .slice A4 s.ms.length c4, .int .u64 s.fl] 31) = W4 := ⟨_, rfl⟩
          have hk4 : Kept NoF w4 W4 := by rw [← hW4]; (repeat' (first | with_reducible exact Kept.refl _ _ | with_reducible refine Kept.put ?_ ?_ | with_reducible refine Kept.drewN ?_ _ | with_reducible refine Kept.drew ?_ | with_reducible refine Kept.alloc ?_ _ | (fail) | (right; simp; done)))
          have hc4 : Has W4 gc 31 #[.int .i64 s.ep, .slice A4 s.ms.length c4, .int .u64 s.fl] := by rw [← hW4, ← hgc]; exact Has.new _ _ _
          have hFg : ¬ F gc := fun h => by have := HST4.out.lt gc h; omega
          rw [hgc, hW4]
          have HST5 := Lib.hid (HST4.out.still hk4); have HK5 := Lib.hid (HK4.out.then hk4); have HC4 := Lib.hid hc4; have HFG := Lib.hid hFg
          clear hk4 hc4 hFg hgc hW4
          refine (pins_at HST5.out HOK.out).mono ?_
          rintro e w5 ⟨A5, c5, rfl, hn5, hk5⟩
          have HST6 := Lib.hid (HST5.out.still hk5); have HK6 := Lib.hid (HK5.out.then hk5); have HC5 := Lib.hid (HC4.out.kept hk5 (fun z => z)); clear hk5 hn5
          obtain ⟨u1, u2⟩ := HLD.out _ HK6.out
          simp only [ncell] at u2
          go_wp2_with fail
          refine (HAPP.out _ _ HST6.out HK6.out).mono ?_
          rintro e w6 ⟨F', rfl, hst6, hgr, hk6⟩
          clear u1 u2
          have hF' : ∀ k, F' k → w.heap.size ≤ k := hgr.above HF.out HK6.out.size
          have hkw6 : Kept NoF w w6 := HK6.out.trans hk6 (fun k h => .inr (HF.out k h))
          have hc6 := HC5.out.kept hk6 HFG.out
          have hst := fun W (hW : Kept NoF w6 W) => hst6.still hW
          have hgce := fun W (hW : Kept NoF w6 W) => (hc6.kept hW (fun z => z)).cell 0
          simp only [List.getElem?_toArray, List.getElem?_cons_zero] at hgce
          have q0 := hgce w6 (Kept.refl _ _)
          have HSTN := Lib.hid hst; have HGC := Lib.hid hgce; have HF2 := Lib.hid hF'; have HKW := Lib.hid hkw6
          clear hst6 hgr hk6 hF' hkw6 hc6 hst hgce
          obtain ⟨hm1, hm2, hm3⟩ := HMO.out
          have hm1' : (s2.hz < s.hz) = False := eq_false (by omega)
          have hm2' : (s2.ep < s.ep) = False := eq_false (by omega)
          have hm4 : ((3 : Int) < (s2.pins.length : Int)) = False := eq_false (by have := HI2.out.pl; omega)
          have HM3 := Lib.hid hm3
          clear hm1 hm2 hm3
          have HS := Lib.hid (Kept.refl NoF w6)
          go_wp2_with fail
          first
          | (go_region_held3 (fun W => W.cell? ⟨gc, 0, none⟩ = some (.int .i64 s.ep))
              (first | with_reducible exact HGC.out _ HS.out | exact HGC.out _ HS.out.drew | (simp [go_sem, q0]; done))
              (first
                | (go_at_call 9; ((with_reducible refine (horizon_at (HSTN.out _ ?_)).mono ?_); ((repeat' (first | with_reducible exact Kept.refl _ _ | with_reducible refine Kept.put ?_ ?_ | with_reducible refine Kept.drewN ?_ _ | with_reducible refine Kept.drew ?_ | with_reducible refine Kept.alloc ?_ _ | (exact HS.out) | (right; simp; done)))); rintro e w7 ⟨rfl, hk0⟩; have hk := Kept.then (F := NoF) (a := w6) (by (repeat' (first | with_reducible exact Kept.refl _ _ | with_reducible refine Kept.put ?_ ?_ | with_reducible refine Kept.drewN ?_ _ | with_reducible refine Kept.drew ?_ | with_reducible refine Kept.alloc ?_ _ | (exact HS.out) | (right; simp; done)))) hk0; clear HS hk0; have HS := Lib.hid hk; clear hk))
                | (go_at_call 10; ((with_reducible refine (conf_at (HSTN.out _ ?_) HO2.out).mono ?_); ((repeat' (first | with_reducible exact Kept.refl _ _ | with_reducible refine Kept.put ?_ ?_ | with_reducible refine Kept.drewN ?_ _ | with_reducible refine Kept.drew ?_ | with_reducible refine Kept.alloc ?_ _ | (exact HS.out) | (right; simp; done)))); rintro e w8 ⟨A8, c8, rfl, _, hk0⟩; have hk := Kept.then (F := NoF) (a := w6) (by (repeat' (first | with_reducible exact Kept.refl _ _ | with_reducible refine Kept.put ?_ ?_ | with_reducible refine Kept.drewN ?_ _ | with_reducible refine Kept.drew ?_ | with_reducible refine Kept.alloc ?_ _ | (exact HS.out) | (right; simp; done)))) hk0; clear HS hk0; have HS := Lib.hid hk; clear hk))
                | (go_at_call 11; ((with_reducible refine (pins_at (HSTN.out _ ?_) HO2.out).mono ?_); ((repeat' (first | with_reducible exact Kept.refl _ _ | with_reducible refine Kept.put ?_ ?_ | with_reducible refine Kept.drewN ?_ _ | with_reducible refine Kept.drew ?_ | with_reducible refine Kept.alloc ?_ _ | (exact HS.out) | (right; simp; done)))); rintro e w9 ⟨A9, c9, rfl, _, hk0⟩; have hk := Kept.then (F := NoF) (a := w6) (by (repeat' (first | with_reducible exact Kept.refl _ _ | with_reducible refine Kept.put ?_ ?_ | with_reducible refine Kept.drewN ?_ _ | with_reducible refine Kept.drew ?_ | with_reducible refine Kept.alloc ?_ _ | (exact HS.out) | (right; simp; done)))) hk0; clear HS hk0; have HS := Lib.hid hk; clear hk))))
          | fail
          clear hm1' hm2' hm4 q0
          have hwrap : IntKind.i64.wrap ((i : Int) + 1) = (i : Int) + 1 := IntWalk.i64_in _ (by omega)
          have HWR := Lib.hid hwrap; clear hwrap
          have HROUND : Hid (∀ W, Kept NoF w6 W → ∃ (i' : Nat) (s : StR) (F : Nat → Prop), i' ≤ l.length ∧ i' ≤ 40 ∧ Value.int .i64 ((i : Int) + 1) = .int .i64 i' ∧ StAt W b F s ∧ Inv s ∧ (∀ k, F k → w.heap.size ≤ k) ∧ Kept NoF w W) :=
            Lib.hid fun W hW => ⟨i + 1, s2, F', by omega, by omega, by simp, HSTN.out W hW, HI2.out, HF2.out, HKW.out.then hW⟩
          have hcase : E ≠ 0 ∨ (E = 0 ∧ x.k ≠ 6) ∨ (E = 0 ∧ x.k = 6 ∧ ¬ s.pins.length < s2.pins.length) ∨ (E = 0 ∧ x.k = 6 ∧ s.pins.length < s2.pins.length) := by omega
          rcases hcase with h1 | ⟨h1, h2⟩ | ⟨h1, h2, h3⟩ | ⟨h1, h2, h3⟩
          case' inl =>
            have h1' : (E == 0) = false := by simpa using h1
            have h1'' : (E = 0) = False := eq_false h1
            clear h1
            go_wp2_with fail
            clear h1' h1''
            skip
          case' inr.inl =>
            subst h1
            have g1 := HKC.out _ (HKW.out.then HS.out)
            have h2' : (x.k = 6) = False := eq_false h2
            go_wp2_with fail
            clear h2' g1
            skip
          case' inr.inr.inl =>
            subst h1
            have g1 := HKC.out _ (HKW.out.then HS.out)
            rw [h2] at g1
            go_wp2_with fail
            clear g1
            refine (pins_at (HSTN.out _ HS.out) HO2.out).mono ?_
            rintro e w10 ⟨A10, c10, rfl, _, hk0⟩
            have hk := HS.out.then hk0; clear HS hk0; have HS := Lib.hid hk; clear hk
            have h3' : ((s.pins.length : Int) < (s2.pins.length : Int)) = False := eq_false (by omega)
            go_wp2_with fail
            clear h3'
            skip
          case' inr.inr.inr =>
            subst h1
            have g1 := HKC.out _ (HKW.out.then HS.out)
            rw [h2] at g1
            go_wp2_with fail
            clear g1
            refine (pins_at (HSTN.out _ HS.out) HO2.out).mono ?_
            rintro e w10 ⟨A10, c10, rfl, _, hk0⟩
            have hk := HS.out.then hk0; clear HS hk0; have HS := Lib.hid hk; clear hk
            have h3' : ((s.pins.length : Int) < (s2.pins.length : Int)) = True := eq_true (by omega)
            have g2 := HPC.out _ (HKW.out.then HS.out)
            have h9 : s.hz ≤ x.pin.at' := by first | exact HM3.out trivial h2 h3 | exact HM3.out rfl h2 h3
            have h4 : (x.pin.at' < s.hz) = False := eq_false (by omega)
            clear h9
            go_wp2_with fail
            clear h3' g2 h4
            skip
          all_goals
            refine (conf_at (HSTN.out _ HS.out) HO2.out).mono ?_
            rintro e w11 ⟨A11, c11, rfl, hn11, hk0⟩
            have hk := HS.out.then hk0; clear HS hk0
            obtain ⟨gd, hgd⟩ : ∃ gd, w11.heap.size = gd := ⟨_, rfl⟩
            obtain ⟨W12, hW12⟩ : ∃ W12, w11.alloc (.cells #[.int .i64 s2.ep, .slice A11 s2.ms.length c11, .int .u64 s2.fl] 31) = W12 := ⟨_, rfl⟩
            have hk12 : Kept NoF w11 W12 := by rw [← hW12]; (repeat' (first | with_reducible exact Kept.refl _ _ | with_reducible refine Kept.put ?_ ?_ | with_reducible refine Kept.drewN ?_ _ | with_reducible refine Kept.drew ?_ | with_reducible refine Kept.alloc ?_ _ | (fail) | (right; simp; done)))
            have hd12 : Has W12 gd 31 #[.int .i64 s2.ep, .slice A11 s2.ms.length c11, .int .u64 s2.fl] := by rw [← hW12, ← hgd]; exact Has.new _ _ _
            have hm12 : Src W12 2 A11 s2.ms.length (mcells s2.ms) := (Src.of_own hn11.1).kept hk12 (fun _ _ z => z)
            have HN := Lib.hid (hk.then hk12)
            have hce : ∀ W, Kept NoF W12 W → W.cell? ⟨gd, 0, none⟩ = some (.int .i64 s2.ep) ∧ W.cell? ⟨gd, 1, none⟩ = some (.slice A11 s2.ms.length c11) ∧ W.cell? ⟨gd, 2, none⟩ = some (.int .u64 s2.fl) := fun W hW => by
              have g := hd12.kept hW (fun z => z)
              exact ⟨g.cell 0, g.cell 1, g.cell 2⟩
            obtain ⟨y0, y1, y2⟩ := hce W12 (Kept.refl _ _)
            have HCE := Lib.hid hce; have HM12 := Lib.hid hm12
            clear hk hk12 hd12 hn11 hce hm12
            by_cases hep : 0 < s2.ep
            · obtain ⟨mh, rh, hms, hhd⟩ : ∃ m r, s2.ms = m :: r ∧ headI s2.ms = m.1 := by
                rcases HI2.out.conf with ⟨e0, _⟩ | ⟨e0, _⟩
                · omega
                · exact headI_cons (chk_zero e0).2.1
              have hin : inB s2.lg mh.1 = true := by
                rcases HI2.out.conf with ⟨e0, _⟩ | ⟨_, _, _, e1, _⟩
                · omega
                · rw [← hhd]; exact inB_iff.2 e1
              have hhead := fun W (hW : Kept NoF W12 W) => rhead_any W s2.ep s2.fl A11 c11 s2.ms mh rh hms (HM12.out.kept hW (fun _ _ z => z)) (by have := HO2.out.m; omega)
              have hinb := fun W A c (hs : Src W 1 A s2.lg.length (ints s2.lg)) => in_any W A c s2.lg mh.1 hs (by have := HO2.out.l; omega)
              rw [hin] at hinb
              have HHD := Lib.hid hhead; have HIN := Lib.hid hinb
              clear hhead hinb hms hhd hin
              have hep' : (0 < s2.ep) = True := eq_true hep
              go_wp2_with fail
              try rw [hgd]
              try rw [hW12]
              clear hgd hW12
              have HS := Lib.hid (Kept.refl NoF W12)
              first
              | (go_region_held3 (fun W => W.cell? ⟨gd, 0, none⟩ = some (.int .i64 s2.ep) ∧ W.cell? ⟨gd, 1, none⟩ = some (.slice A11 s2.ms.length c11) ∧ W.cell? ⟨gd, 2, none⟩ = some (.int .u64 s2.fl))
                  (first | with_reducible exact HCE.out _ HS.out | exact HCE.out _ HS.out.drew | (simp [go_sem, y0, y1, y2]; done))
                  (first
                    | (go_at_call 14; ((with_reducible refine (legit_at (HSTN.out _ ?_) HO2.out).mono ?_); exact HN.out.then (by (repeat' (first | with_reducible exact Kept.refl _ _ | with_reducible refine Kept.put ?_ ?_ | with_reducible refine Kept.drewN ?_ _ | with_reducible refine Kept.drew ?_ | with_reducible refine Kept.alloc ?_ _ | (exact HS.out) | (right; simp; done)))); rintro e w13 ⟨A13, c13, rfl, hn13, hk0⟩; have hk := Kept.then (F := NoF) (a := W12) (by (repeat' (first | with_reducible exact Kept.refl _ _ | with_reducible refine Kept.put ?_ ?_ | with_reducible refine Kept.drewN ?_ _ | with_reducible refine Kept.drew ?_ | with_reducible refine Kept.alloc ?_ _ | (exact HS.out) | (right; simp; done)))) hk0; have hsrc := Src.of_own hn13.1; clear HS hk0 hn13; have HS := Lib.hid hk; clear hk; have HSRC := Lib.hid hsrc; clear hsrc))
                    | (go_at_call 15; ((with_reducible refine (HHD.out _ ?_).mono ?_); ((repeat' (first | with_reducible exact Kept.refl _ _ | with_reducible refine Kept.put ?_ ?_ | with_reducible refine Kept.drewN ?_ _ | with_reducible refine Kept.drew ?_ | with_reducible refine Kept.alloc ?_ _ | (exact HS.out) | (right; simp; done)))); rintro e w14 ⟨rfl, hk0⟩; have hk := Kept.then (F := NoF) (a := W12) (by (repeat' (first | with_reducible exact Kept.refl _ _ | with_reducible refine Kept.put ?_ ?_ | with_reducible refine Kept.drewN ?_ _ | with_reducible refine Kept.drew ?_ | with_reducible refine Kept.alloc ?_ _ | (exact HS.out) | (right; simp; done)))) hk0; have hsrc := HSRC.out.kept hk0 (fun _ _ z => z); clear HS hk0 HSRC; have HS := Lib.hid hk; clear hk; have HSRC := Lib.hid hsrc; clear hsrc))
                    | (go_at_call 13; ((with_reducible refine (HIN.out _ _ _ ?_).mono ?_); exact HSRC.out; rintro e w15 ⟨rfl, rfl⟩))))
              | fail
              all_goals
                go_wp2
                go_roundw
                case rel => exact ⟨i + 1, s2, F', by omega, by omega, by go_num, HSTN.out _ (HN.out.then (by (repeat' (first | with_reducible exact Kept.refl _ _ | with_reducible refine Kept.put ?_ ?_ | with_reducible refine Kept.drewN ?_ _ | with_reducible refine Kept.drew ?_ | with_reducible refine Kept.alloc ?_ _ | (exact HS.out) | (right; simp; done))))), HI2.out, HF2.out, HKW.out.then (HN.out.then (by (repeat' (first | with_reducible exact Kept.refl _ _ | with_reducible refine Kept.put ?_ ?_ | with_reducible refine Kept.drewN ?_ _ | with_reducible refine Kept.drew ?_ | with_reducible refine Kept.alloc ?_ _ | (exact HS.out) | (right; simp; done)))))⟩
                case measure => simp [intOf]; omega
            · have hep' : (0 < s2.ep) = False := eq_false hep
              clear hep
              go_wp2_with fail
              try rw [hgd]
              try rw [hW12]
              clear hgd hW12
              have HS := Lib.hid (Kept.refl NoF W12)
              go_quiet (fail)
              all_goals
                go_wp2
                go_roundw
                case rel => exact ⟨i + 1, s2, F', by omega, by omega, by go_num, HSTN.out _ (HN.out.then (by (repeat' (first | with_reducible exact Kept.refl _ _ | with_reducible refine Kept.put ?_ ?_ | with_reducible refine Kept.drewN ?_ _ | with_reducible refine Kept.drew ?_ | with_reducible refine Kept.alloc ?_ _ | (exact HS.out) | (right; simp; done))))), HI2.out, HF2.out, HKW.out.then (HN.out.then (by (repeat' (first | with_reducible exact Kept.refl _ _ | with_reducible refine Kept.put ?_ ?_ | with_reducible refine Kept.drewN ?_ _ | with_reducible refine Kept.drew ?_ | with_reducible refine Kept.alloc ?_ _ | (exact HS.out) | (right; simp; done)))))⟩
                case measure => simp [intOf]; omega
        · obtain rfl : i = 40 := by omega
          go_wp2_with fail
          refine (HAW.out _).mono ?_
          rintro e w3 ⟨rfl, hk3⟩
          have HK3 := Lib.hid hk3; clear hk3
          go_wp2
          go_ret
          exact ⟨rfl, HEND.out _ (HK.out.then HK3.out)⟩
      · obtain rfl : i = l.length := by omega
        go_wp2_with fail
        refine (HAW.out _).mono ?_
        rintro e w3 ⟨rfl, hk3⟩
        have HK3 := Lib.hid hk3; clear hk3
        go_wp2
        go_ret
        exact ⟨rfl, HEND.out _ (HK.out.then HK3.out)⟩
end Mst
end Go.Proofs.Ytolipnnjeehnfaa
