/- The law MstateZero: its walk. -/
import Derived.Test.YtolipnnjeehnfaaMst23
import Derived.Test.YtolipnnjeehnfaaLoadN
set_option linter.unusedSimpArgs false
set_option linter.unusedVariables false
namespace Go.Proofs.Ytolipnnjeehnfaa
open Go.RowKit
set_option maxRecDepth 100000
namespace Mst
open Plan Vn Go.Sort
theorem run_field_epoch (x f : Int) (A : Option Addr) (n c : Nat) (W : World) : (Instr.field 31 (.agg #[.int .i64 x, .slice A n c, .int .u64 f]) 0).run Try.prog W = .ok (.int .i64 x) W := by kernel_rfl
attribute [local go_sem ↓] loadVar_note
attribute [local go_sem] run_loadNote run_field_epoch
set_option maxHeartbeats 4000000 in
theorem law_zero (w : World) (x : NoteR) (hg : NGood w x) :
    Calls Try.prog 5 #[nagg x] w fun e w' => e = .returned (.bool true) ∧ Below w.heap.size w w' := by
  obtain ⟨W0, hW0⟩ : ∃ W0, w.alloc (.cells (ncell x).toArray 48) = W0 := ⟨_, rfl⟩
  have hk0 : Kept NoF w W0 := by rw [← hW0]; (repeat' (first | with_reducible exact Kept.refl _ _ | with_reducible refine Kept.put ?_ ?_ | with_reducible refine Kept.drewN ?_ _ | with_reducible refine Kept.drew ?_ | with_reducible refine Kept.alloc ?_ _ | (fail) | (right; simp; done)))
  have hn0 : Has W0 w.heap.size 48 (ncell x).toArray := by rw [← hW0]; exact Has.new _ _ _
  obtain ⟨W1, hW1⟩ : ∃ W1, W0.alloc (.cells (ncell x).toArray 48) = W1 := ⟨_, rfl⟩
  have hk1 : Kept NoF W0 W1 := by rw [← hW1]; (repeat' (first | with_reducible exact Kept.refl _ _ | with_reducible refine Kept.put ?_ ?_ | with_reducible refine Kept.drewN ?_ _ | with_reducible refine Kept.drew ?_ | with_reducible refine Kept.alloc ?_ _ | (fail) | (right; simp; done)))
  have hn1 : Has W1 W0.heap.size 48 (ncell x).toArray := by rw [← hW1]; exact Has.new _ _ _
  have hsrc : Src W1 18 (some ⟨W0.heap.size, 0, none⟩) [x].length (ncells [x]) := by
    have h1 := Src.of_has (size := 18) (m := 1) hn1 rfl
    have e1 : ncells [x] = (ncell x).toArray.toList := by simp [ncells]
    rw [e1]
    exact h1
  have hpa := parts_any W1 _ 1 [x] hsrc
  have hAW := fun W => awake_any W
  have hnx : ∀ W, Kept NoF W0 W → Has W w.heap.size 48 (ncell x).toArray := fun W hW => hn0.kept hW (fun z => z)
  have hs0 : W0.heap.size = w.heap.size + 1 := by rw [← hW0]; simp
  have HNX := Lib.hid hnx; have HPA := Lib.hid hpa; have HAW := Lib.hid hAW; have HK0 := Lib.hid hk0; have HK1 := Lib.hid hk1; have HSM := Lib.hid hs0
  clear hnx hpa hAW hk0 hk1 hn0 hn1 hsrc hg hs0
  have hap0 := fun W => apply_nil W x
  have hap1 := fun W b s mA mc lA lc pA pc hb => apply_zero W x b s mA mc lA lc pA pc hb
  have hN : x.n = x.n := rfl
  have HAP0 := Lib.hid hap0; have HAP1 := Lib.hid hap1; clear hap0 hap1 hN
  obtain ⟨k, n, at2, ep, mA2, mc2, ms, fl, lA2, lc2, lg, oA, oc, ⟨bcl, breq, ops⟩, ts, ⟨p1, p2, p3⟩, ⟨s1, s2, s3, s4⟩⟩ := x
  simp only [ncell] at HNX hW1 HAP0 HAP1
  have e18 : [(⟨k, n, at2, ep, mA2, mc2, ms, fl, lA2, lc2, lg, oA, oc, ⟨bcl, breq, ops⟩, ts, ⟨p1, p2, p3⟩, ⟨s1, s2, s3, s4⟩⟩ : NoteR)].length = 1 := rfl
  rw [e18] at HPA
  clear e18
  go_enter Try.func5, Try.ntmps5
  go_wp2_with (refine wpList_load_row rfl 48 (.tmp 1) rfl w.heap.size rfl 48 _ (0, 0) _ (HNX.out _ (Kept.refl _ _)) Try.underlying48 rfl (by kernel_rfl) ?_)
  clear hW0 hW1
  refine HPA.out.mono ?_
  rintro e w2 ⟨m, rfl, _, hk2⟩
  have HK2 := Lib.hid (HK1.out.then hk2); clear hk2
  by_cases hm : 20 < m
  · go_wp2_with fail
    refine (HAW.out _).mono ?_
    rintro e w3 ⟨rfl, hk3⟩
    have HK3 := Lib.hid hk3; clear hk3
    go_wp2
    go_ret
    exact ⟨rfl, ((HK0.out.then HK2.out).then HK3.out).below (Nat.le_refl _) (fun _ z => z.elim)⟩
  · obtain ⟨W3, hW3⟩ : ∃ W3, w2.alloc (.cells (scells st0 none 0 none 0 none 0 false) 62) = W3 := ⟨_, rfl⟩
    have hk3 : Kept NoF w2 W3 := by rw [← hW3]; (repeat' (first | with_reducible exact Kept.refl _ _ | with_reducible refine Kept.put ?_ ?_ | with_reducible refine Kept.drewN ?_ _ | with_reducible refine Kept.drew ?_ | with_reducible refine Kept.alloc ?_ _ | (fail) | (right; simp; done)))
    have hb3 : Has W3 w2.heap.size 62 (scells st0 none 0 none 0 none 0 false) := by rw [← hW3]; exact Has.new _ _ _
    have HB3 := Lib.hid hb3; have HK3 := Lib.hid (HK2.out.then hk3); clear hb3 hk3
    obtain ⟨u1, u2⟩ := noteIn_has rfl (HNX.out _ HK3.out)
    simp only [scells, st0, ans0, List.length_nil] at hW3
    go_wp2_with fail
    clear u1 u2
    clear hW3
    refine (HAP0.out _).mono ?_
    rintro e w4 ⟨rfl, hk4⟩
    have HK4 := Lib.hid (HK3.out.then hk4); have HB4 := Lib.hid (HB3.out.kept hk4 (fun z => z)); clear hk4
    obtain ⟨u1, u2⟩ := noteIn_has rfl (HNX.out _ HK4.out)
    go_wp2_with fail
    clear u1 u2
    refine (HAP1.out _ _ _ _ _ _ _ _ _ HB4.out).mono ?_
    rintro e w5 ⟨rfl, hk5⟩
    have HK5 := Lib.hid (HK4.out.then hk5); have HB5 := Lib.hid (HB4.out.kept hk5 (fun z => z)); clear hk5
    go_wp2_with fail
    refine (notes_nil _).mono ?_
    rintro e w6 ⟨rfl, hk6⟩
    have HK6 := Lib.hid (HK5.out.then hk6); have HB6 := Lib.hid (HB5.out.kept hk6 (fun z => z)); clear hk6
    go_wp2_with fail
    refine (notes_zero _ _ _ _ _ _ _ _ _ HB6.out).mono ?_
    rintro e w7 ⟨rfl, hk7⟩
    have HK7 := Lib.hid (HK6.out.then hk7); have HB7 := Lib.hid (HB6.out.kept hk7 (fun z => z)); clear hk7
    go_wp2_with fail
    refine (getLegit_nil _).mono ?_
    rintro e w8 ⟨rfl, hk8⟩
    have HK8 := Lib.hid (HK7.out.then hk8); have HB8 := Lib.hid (HB7.out.kept hk8 (fun z => z)); clear hk8
    go_wp2_with fail
    refine (getLegit_zero _ _ _ _ _ _ _ _ _ HB8.out).mono ?_
    rintro e w9 ⟨rfl, hk9⟩
    have HK9 := Lib.hid (HK8.out.then hk9); have HB9 := Lib.hid (HB8.out.kept hk9 (fun z => z)); clear hk9
    go_wp2_with fail
    refine (getPins_nil _).mono ?_
    rintro e w10 ⟨rfl, hk10⟩
    have HK10 := Lib.hid (HK9.out.then hk10); have HB10 := Lib.hid (HB9.out.kept hk10 (fun z => z)); clear hk10
    go_wp2_with fail
    refine (getPins_zero _ _ _ _ _ _ _ _ _ HB10.out).mono ?_
    rintro e w11 ⟨rfl, hk11⟩
    have HK11 := Lib.hid (HK10.out.then hk11); have HB11 := Lib.hid (HB10.out.kept hk11 (fun z => z)); clear hk11
    go_wp2_with fail
    refine (getTop_nil _).mono ?_
    rintro e w12 ⟨rfl, hk12⟩
    have HK12 := Lib.hid (HK11.out.then hk12); have HB12 := Lib.hid (HB11.out.kept hk12 (fun z => z)); clear hk12
    go_wp2_with fail
    refine (getTop_zero _ _ _ _ _ _ _ _ _ HB12.out).mono ?_
    rintro e w13 ⟨rfl, hk13⟩
    have HK13 := Lib.hid (HK12.out.then hk13); have HB13 := Lib.hid (HB12.out.kept hk13 (fun z => z)); clear hk13
    go_wp2_with fail
    refine (getConf_nil _).mono ?_
    rintro e w14 ⟨rfl, hk14⟩
    have HK14 := Lib.hid (HK13.out.then hk14); have HB14 := Lib.hid (HB13.out.kept hk14 (fun z => z)); clear hk14
    go_wp2_with fail
    refine (getConf_zero _ _ _ _ _ _ _ _ _ HB14.out).mono ?_
    rintro e w15 ⟨rfl, hk15⟩
    have HK15 := Lib.hid (HK14.out.then hk15); have HB15 := Lib.hid (HB14.out.kept hk15 (fun z => z)); clear hk15
    go_wp2_with fail
    refine (getHorizon_nil _).mono ?_
    rintro e w16 ⟨rfl, hk16⟩
    have HK16 := Lib.hid (HK15.out.then hk16); have HB16 := Lib.hid (HB15.out.kept hk16 (fun z => z)); clear hk16
    go_wp2_with fail
    refine (getHorizon_zero _ _ _ _ _ _ _ _ _ HB16.out).mono ?_
    rintro e w17 ⟨rfl, hk17⟩
    have HK17 := Lib.hid (HK16.out.then hk17); have HB17 := Lib.hid (HB16.out.kept hk17 (fun z => z)); clear hk17
    have q17 : w17.cell? ⟨w.heap.size, 1, none⟩ = some (.int .i64 n) := (HNX.out _ HK17.out).cell 1
    go_wp2_with fail
    clear q17
    refine (getSaid_nil _ _).mono ?_
    rintro e w18 ⟨rfl, hk18⟩
    have HK18 := Lib.hid (HK17.out.then hk18); have HB18 := Lib.hid (HB17.out.kept hk18 (fun z => z)); clear hk18
    have q18 : w18.cell? ⟨w.heap.size, 1, none⟩ = some (.int .i64 n) := (HNX.out _ HK18.out).cell 1
    go_wp2_with fail
    clear q18
    refine (getSaid_zero _ _ _ _ _ _ _ _ _ _ HB18.out).mono ?_
    rintro e w19 ⟨rfl, hk19⟩
    have HK19 := Lib.hid (HK18.out.then hk19); clear hk19
    go_wp2_with fail
    refine (HAW.out _).mono ?_
    rintro e w20 ⟨rfl, hk20⟩
    have HK20 := Lib.hid (HK19.out.then hk20); clear hk20
    go_wp2
    go_ret
    exact ⟨rfl, (HK0.out.then HK20.out).below (Nat.le_refl _) (fun _ z => z.elim)⟩
end Mst
end Go.Proofs.Ytolipnnjeehnfaa
