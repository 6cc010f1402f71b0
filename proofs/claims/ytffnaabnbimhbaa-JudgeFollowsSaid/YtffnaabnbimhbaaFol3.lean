/- The program's Follows. -/
import Derived.Test.YtffnaabnbimhbaaFol2
set_option linter.unusedSimpArgs false
set_option linter.unusedVariables false
namespace Go.Proofs.Ytffnaabnbimhbaa
open Go.RowKit
set_option maxRecDepth 100000
namespace Plan
set_option maxHeartbeats 8000000 in
theorem follows_any (w : World) (ep1 fl1 : Int) (A1 : Option Addr) (c1 : Nat) (l1 : List Mem) (ep2 fl2 : Int) (A2 : Option Addr) (c2 : Nat) (l2 : List Mem) (T : Option Addr) (tc : Nat) (t : List Int)
    (h1 : Src w 2 A1 l1.length (mcells l1)) (h2 : Src w 2 A2 l2.length (mcells l2)) (ht : Src w 1 T t.length (ints t)) (hl1 : l1.length ≤ 1000000) (hl2 : l2.length ≤ 1000000) (hlt : t.length ≤ 1000000)
    (hc1 : l1.length ≤ c1) (hm1 : c1 ≤ 9223372036854775807) (hc2 : l2.length ≤ c2) (hm2 : c2 ≤ 9223372036854775807) :
    Calls Try.prog 5 #[cagg ep1 A1 l1.length c1 fl1, cagg ep2 A2 l2.length c2 fl2, .slice T t.length tc] w fun e w' => e = .returned (.int .i64 (folE ep1 fl1 l1 ep2 fl2 l2 t)) ∧ Kept NoF w w' := by
  have k1 := fun W (hW : Kept NoF w W) => check_any W ep1 fl1 A1 c1 l1 (h1.kept hW (fun _ _ x => x)) hl1 hc1 hm1
  have k2 := fun W (hW : Kept NoF w W) => check_any W ep2 fl2 A2 c2 l2 (h2.kept hW (fun _ _ x => x)) hl2 hc2 hm2
  have hpl := fun W m (hW : Kept NoF w W) => pplace_any W ep1 fl1 A1 c1 l1 m (h1.kept hW (fun _ _ x => x)) hl1
  have hin := fun W x (hW : Kept NoF w W) => containsI_any W T tc t x (ht.kept hW (fun _ _ x => x)) hlt
  have hS2 := fun W (hW : Kept NoF w W) => h2.kept hW (fun _ _ x => x)
  obtain ⟨R, hR⟩ : ∃ R, folE ep1 fl1 l1 ep2 fl2 l2 t = R := ⟨_, rfl⟩
  rw [hR]
  have HR := Lib.hid hR; clear hR
  have K1 := Lib.hid k1; clear k1
  have K2 := Lib.hid k2; clear k2
  have HPL := Lib.hid hpl; clear hpl
  have HIN := Lib.hid hin; clear hin
  have HS2 := Lib.hid hS2; clear hS2 h1 h2 ht
  have hn1 := ((Has.new w 25 #[.int .i64 ep1, .slice A1 l1.length c1, .int .u64 fl1]).alloc (.cells #[.int .i64 ep2, .slice A2 l2.length c2, .int .u64 fl2] 25)).alloc (.cells #[.int .i64 ep1, .slice A1 l1.length c1, .int .u64 fl1, .int .i64 ep2, .slice A2 l2.length c2, .int .u64 fl2] 25)
  have hn2 := (Has.new_at (w.alloc (.cells #[.int .i64 ep1, .slice A1 l1.length c1, .int .u64 fl1] 25)) 25 #[.int .i64 ep2, .slice A2 l2.length c2, .int .u64 fl2] (g := w.heap.size + 1) (by simp)).alloc (.cells #[.int .i64 ep1, .slice A1 l1.length c1, .int .u64 fl1, .int .i64 ep2, .slice A2 l2.length c2, .int .u64 fl2] 25)
  have hn3 := Has.new_at ((w.alloc (.cells #[.int .i64 ep1, .slice A1 l1.length c1, .int .u64 fl1] 25)).alloc (.cells #[.int .i64 ep2, .slice A2 l2.length c2, .int .u64 fl2] 25)) 25 #[.int .i64 ep1, .slice A1 l1.length c1, .int .u64 fl1, .int .i64 ep2, .slice A2 l2.length c2, .int .u64 fl2] (g := w.heap.size + 1 + 1) (by simp)
  have HB0 := Lib.hid (And.intro hn1 (And.intro hn2 hn3)); clear hn1 hn2 hn3
  go_enter Try.func5, Try.ntmps5
  go_wp2_with fail
  go_loopw [9, 15] (fun _ v15 wr => (v15 = .int .i64 0 ∨ (v15 = .int .i64 1 ∧ chk ep1 l1 = 0) ∨ (v15 = .int .i64 2 ∧ chk ep1 l1 = 0 ∧ chk ep2 l2 = 0)) ∧ Has wr w.heap.size 25 #[.int .i64 ep1, .slice A1 l1.length c1, .int .u64 fl1] ∧ Has wr (w.heap.size + 1) 25 #[.int .i64 ep2, .slice A2 l2.length c2, .int .u64 fl2] ∧
      Has wr (w.heap.size + 1 + 1) 25 #[.int .i64 ep1, .slice A1 l1.length c1, .int .u64 fl1, .int .i64 ep2, .slice A2 l2.length c2, .int .u64 fl2] ∧ Kept NoF w wr) (fun _ v15 _ => 2 - (intOf v15).toNat)
  case atStart => exact ⟨.inl rfl, HB0.out.1, HB0.out.2.1, HB0.out.2.2, by (repeat' (first | with_reducible exact Kept.refl _ _ | with_reducible refine Kept.put ?_ ?_ | with_reducible refine Kept.drewN ?_ _ | with_reducible refine Kept.drew ?_ | with_reducible refine Kept.alloc ?_ _ | (fail) | (right; simp; done)))⟩
  case round =>
    obtain ⟨hcase, hx1, hx2, hx3, hk⟩ := hrel
    have f0 := hx3.cell 0
    have f1 := hx3.cell 1
    have f2 := hx3.cell 2
    have f3 := hx3.cell 3
    have f4 := hx3.cell 4
    have f5 := hx3.cell 5
    simp only [List.getElem?_toArray, List.getElem?_cons_zero, List.getElem?_cons_succ] at f0 f1 f2 f3 f4 f5
    have HX := Lib.hid (And.intro hx1 (And.intro hx2 (And.intro hx3 hk))); clear hx1 hx2 hx3 hk
    rcases hcase with rfl | ⟨rfl, e1⟩ | ⟨rfl, e1, e2⟩
    · have hk1 := K1.out
      by_cases e1 : chk ep1 l1 = 0
      · rw [e1] at hk1
        have HK1 := Lib.hid hk1; clear hk1
        have HE := Lib.hid e1; clear e1
        go_wp2_with fail
        refine (HK1.out _ (HX.out.2.2.2.alloc _)).mono ?_
        rintro e w2 ⟨rfl, hk⟩
        have HX2 := Lib.hid (And.intro ((HX.out.1.alloc _).kept hk (fun x => x)) (And.intro ((HX.out.2.1.alloc _).kept hk (fun x => x)) (And.intro ((HX.out.2.2.1.alloc _).kept hk (fun x => x)) ((HX.out.2.2.2.alloc _).then hk)))); clear hk
        go_wp2
        go_roundw
        case rel => exact ⟨.inr (.inl ⟨rfl, HE.out⟩), HX2.out.1, HX2.out.2.1, HX2.out.2.2.1, HX2.out.2.2.2⟩
        case measure => simp [intOf]
      · have hr := HR.out
        rw [folE_a e1] at hr
        rw [hr] at hk1 e1
        have hz : (R != 0) = true := by simpa using e1
        have HK1 := Lib.hid hk1; clear hk1 e1 hr
        go_wp2_with fail
        refine (HK1.out _ (HX.out.2.2.2.alloc _)).mono ?_
        rintro e w2 ⟨rfl, hk⟩
        have HK := Lib.hid ((HX.out.2.2.2.alloc _).then hk); clear hk
        go_wp2
        go_ret
        exact ⟨rfl, HK.out⟩
    · have hk2 := K2.out
      by_cases e2 : chk ep2 l2 = 0
      · rw [e2] at hk2
        have HK2 := Lib.hid hk2; clear hk2
        have HE := Lib.hid (And.intro e1 e2); clear e1 e2
        go_wp2_with fail
        refine (HK2.out _ (HX.out.2.2.2.alloc _)).mono ?_
        rintro e w2 ⟨rfl, hk⟩
        have HX2 := Lib.hid (And.intro ((HX.out.1.alloc _).kept hk (fun x => x)) (And.intro ((HX.out.2.1.alloc _).kept hk (fun x => x)) (And.intro ((HX.out.2.2.1.alloc _).kept hk (fun x => x)) ((HX.out.2.2.2.alloc _).then hk)))); clear hk
        go_wp2
        go_roundw
        case rel => exact ⟨.inr (.inr ⟨rfl, HE.out.1, HE.out.2⟩), HX2.out.1, HX2.out.2.1, HX2.out.2.2.1, HX2.out.2.2.2⟩
        case measure => simp [intOf]
      · have hr := HR.out
        rw [folE_b e1 e2] at hr
        rw [hr] at hk2 e2
        have hz : (R != 0) = true := by simpa using e2
        have HK2 := Lib.hid hk2; clear hk2 e1 e2 hr
        go_wp2_with fail
        refine (HK2.out _ (HX.out.2.2.2.alloc _)).mono ?_
        rintro e w2 ⟨rfl, hk⟩
        have HK := Lib.hid ((HX.out.2.2.2.alloc _).then hk); clear hk
        go_wp2
        go_ret
        exact ⟨rfl, HK.out⟩
    · clear f0 f1 f2 f3 f4 f5
      obtain ⟨hb1, _⟩ := chk_bounds e1
      obtain ⟨_, m, r, rfl⟩ := chk_bounds e2
      have hwr : IntKind.i64.wrap (ep1 + 1) = ep1 + 1 := IntWalk.i64_in _ (by omega)
      have a0 := HX.out.1.cell 0
      have a1 := HX.out.1.cell 1
      have a2 := HX.out.1.cell 2
      have b0 := HX.out.2.1.cell 0
      have b1 := HX.out.2.1.cell 1
      have b2 := HX.out.2.1.cell 2
      simp only [List.getElem?_toArray, List.getElem?_cons_zero, List.getElem?_cons_succ] at a0 a1 a2 b0 b1 b2
      obtain ⟨ad, hA, hlt2, d0, d1⟩ := mem_cells (HS2.out _ HX.out.2.2.2) (by simp) 0 m rfl
      subst hA
      have d0' : wr.cell? ad = some (.int .i64 m.1) := d0
      have d1' : wr.cell? ⟨ad.block, ad.off + 1, none⟩ = some (.int .i64 m.2) := d1
      clear d0 d1
      obtain ⟨n2, hn2⟩ : ∃ n, (m :: r).length = n := ⟨_, rfl⟩
      have hpos : 0 < n2 := by rw [← hn2]; simp
      rw [hn2] at b1
      have hr := HR.out
      obtain ⟨m1, m2⟩ := m
      dsimp only at d0' d1'
      have hhd : ∀ (h : ¬ (ep2 ≠ ep1 + 1 ∨ fl2 < fl1)), (if (m1, m2) ∈ l1 ∧ m1 ∈ t then 0 else 7) = R := fun h => by rw [← hr, folE_d e1 e2 h]
      have hbd : (ep2 ≠ ep1 + 1 ∨ fl2 < fl1) → 18 = R := fun h => by rw [← hr, folE_c e1 e2 h]
      clear hr e1 e2 HB0 K1 K2
      rw [hn2]
      clear hn2
      have al0 : ∀ o, (wr.alloc o).cell? ⟨w.heap.size, 0, none⟩ = some (.int .i64 ep1) := fun o => (HX.out.1.alloc o).cell 0
      have al1 : ∀ o, (wr.alloc o).cell? ⟨w.heap.size, 1, none⟩ = some (.slice A1 l1.length c1) := fun o => (HX.out.1.alloc o).cell 1
      have al2 : ∀ o, (wr.alloc o).cell? ⟨w.heap.size, 2, none⟩ = some (.int .u64 fl1) := fun o => (HX.out.1.alloc o).cell 2
      have bl0 : ∀ o, (wr.alloc o).cell? ⟨w.heap.size + 1, 0, none⟩ = some (.int .i64 ep2) := fun o => (HX.out.2.1.alloc o).cell 0
      have bl2 : ∀ o, (wr.alloc o).cell? ⟨w.heap.size + 1, 2, none⟩ = some (.int .u64 fl2) := fun o => (HX.out.2.1.alloc o).cell 2
      by_cases hep : ep2 = ep1 + 1
      rotate_left
      · obtain rfl := hbd (.inl hep)
        have hne : (ep2 != ep1 + 1) = true := by simpa using hep
        have HK := Lib.hid HX.out.2.2.2
        clear hep hhd hbd HX
        go_wp2_with fail
        go_ret
        exact ⟨rfl, HK.out.alloc _⟩
      subst hep
      have hne : ((ep1 + 1) != (ep1 + 1)) = false := by simp
      by_cases hfl : fl2 < fl1
      · obtain rfl := hbd (.inr hfl)
        have HK := Lib.hid HX.out.2.2.2
        clear hhd hbd HX
        go_wp2_with fail
        go_ret
        exact ⟨rfl, HK.out.alloc _⟩
      have hr := hhd (fun h => by rcases h with h | h; exact h rfl; exact hfl h)
      have hp := HPL.out (wr.alloc (.cells #[.int .i64 m1, .int .i64 m2] 58)) (m1, m2) (HX.out.2.2.2.alloc _)
      have HP := Lib.hid hp; clear hp
      have hnb := Has.new wr 58 #[.int .i64 m1, .int .i64 m2]
      have HNB := Lib.hid (And.intro hnb (HX.out.2.2.2.alloc (.cells #[.int .i64 m1, .int .i64 m2] 58))); clear hnb
      clear hhd hbd
      by_cases hmm : (m1, m2) ∈ l1
      rotate_left
      · have hr2 : R = 7 := by rw [← hr, if_neg (fun h => hmm h.1)]
        subst hr2
        have HMM := Lib.hid hmm; clear hr hmm
        go_wp2_with fail
        refine HP.out.mono ?_
        rintro e w3 ⟨⟨n, rfl, hn, hz⟩, hk⟩
        have hn1 : n = -1 := by
          rcases hz with h | h
          · exact h
          · exact absurd (hn.1 h) HMM.out
        subst hn1
        have HK := Lib.hid (HNB.out.2.then hk); clear hk hn hz
        go_wp2
        go_ret
        exact ⟨rfl, HK.out⟩
      have hr2 : R = if m1 ∈ t then 0 else 7 := by
        rw [← hr]
        by_cases h : m1 ∈ t
        · rw [if_pos ⟨hmm, h⟩, if_pos h]
        · rw [if_neg (fun x => h x.2), if_neg h]
      have HMM := Lib.hid hmm; clear hr hmm
      have HR2 := Lib.hid hr2; clear hr2
      go_wp2_with fail
      refine HP.out.mono ?_
      rintro e w3 ⟨⟨n, rfl, hn, hz⟩, hk⟩
      have hn1 : ¬ n < 0 := by have := hn.2 HMM.out; omega
      have c0 := (HNB.out.1.kept hk (fun x => x)).cell 0
      simp only [List.getElem?_toArray, List.getElem?_cons_zero, List.getElem?_cons_succ] at c0
      have HK := Lib.hid (HNB.out.2.then hk); clear hk hn hz
      have hq := HIN.out w3 m1 HK.out
      by_cases hti : m1 ∈ t
      · have hq2 : inB t m1 = true := by unfold inB; simpa using hti
        rw [hq2] at hq
        have hR0 : R = 0 := by rw [HR2.out, if_pos hti]
        subst hR0
        have HQ := Lib.hid hq; clear hq hq2 hti
        go_wp2_with fail
        refine HQ.out.mono ?_
        rintro e w4 ⟨rfl, rfl⟩
        go_wp2
        go_ret
        exact ⟨rfl, HK.out⟩
      · have hq2 : inB t m1 = false := by unfold inB; simpa using hti
        rw [hq2] at hq
        have hR0 : R = 7 := by rw [HR2.out, if_neg hti]
        subst hR0
        have HQ := Lib.hid hq; clear hq hq2 hti
        go_wp2_with fail
        refine HQ.out.mono ?_
        rintro e w4 ⟨rfl, rfl⟩
        go_wp2
        go_ret
        exact ⟨rfl, HK.out⟩
end Plan
end Go.Proofs.Ytffnaabnbimhbaa
