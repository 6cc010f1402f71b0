/- Follows: the program's, the document's. -/
import Derived.Test.YtffnaabnbimhbaaFol1
import Derived.Test.YtffnaabnbimhbaaFolP
import Derived.Test.YtffnaabnbimhbaaPlan1
import Derived.Deep.RegionHeld3
import Derived.Deep.RegionLaw
set_option linter.unusedSimpArgs false
set_option linter.unusedVariables false
namespace Go.Proofs.Ytffnaabnbimhbaa
open Go.RowKit
set_option maxRecDepth 100000
namespace Plan
theorem chk_bounds {ep : Int} {l : List Mem} (h : chk ep l = 0) : (1 ≤ ep ∧ ep ≤ 1073741824) ∧ ∃ m r, l = m :: r := by
  obtain ⟨h1, h2, _, _⟩ := chk_zero h
  cases l with
  | nil => exact absurd rfl h2
  | cons m r => exact ⟨h1, m, r, rfl⟩
theorem folE_a {ep1 fl1 : Int} {l1 : List Mem} {ep2 fl2 : Int} {l2 : List Mem} {t : List Int} (h : chk ep1 l1 ≠ 0) : folE ep1 fl1 l1 ep2 fl2 l2 t = chk ep1 l1 := by unfold folE; rw [if_pos h]
theorem folE_b {ep1 fl1 : Int} {l1 : List Mem} {ep2 fl2 : Int} {l2 : List Mem} {t : List Int} (h1 : chk ep1 l1 = 0) (h : chk ep2 l2 ≠ 0) : folE ep1 fl1 l1 ep2 fl2 l2 t = chk ep2 l2 := by unfold folE; rw [if_neg (by rw [h1]; simp), if_pos h]
theorem folE_c {ep1 fl1 : Int} {l1 : List Mem} {ep2 fl2 : Int} {l2 : List Mem} {t : List Int} (h1 : chk ep1 l1 = 0) (h2 : chk ep2 l2 = 0) (h : ep2 ≠ ep1 + 1 ∨ fl2 < fl1) : folE ep1 fl1 l1 ep2 fl2 l2 t = 18 := by
  unfold folE
  rw [if_neg (by rw [h1]; simp), if_neg (by rw [h2]; simp), if_pos h]
theorem folE_d {ep1 fl1 : Int} {l1 : List Mem} {ep2 fl2 : Int} {m : Mem} {r : List Mem} {t : List Int} (h1 : chk ep1 l1 = 0) (h2 : chk ep2 (m :: r) = 0) (h : ¬ (ep2 ≠ ep1 + 1 ∨ fl2 < fl1)) : folE ep1 fl1 l1 ep2 fl2 (m :: r) t = if m ∈ l1 ∧ m.1 ∈ t then 0 else 7 := by
  unfold folE
  rw [if_neg (by rw [h1]; simp), if_neg (by rw [h2]; simp), if_neg h]
  rfl
set_option maxHeartbeats 8000000 in
theorem rfollows_any (w : World) (ep1 fl1 : Int) (A1 : Option Addr) (c1 : Nat) (l1 : List Mem) (ep2 fl2 : Int) (A2 : Option Addr) (c2 : Nat) (l2 : List Mem) (T : Option Addr) (tc : Nat) (t : List Int)
    (h1 : Src w 2 A1 l1.length (mcells l1)) (h2 : Src w 2 A2 l2.length (mcells l2)) (ht : Src w 1 T t.length (ints t)) (hl1 : l1.length ≤ 1000000) (hl2 : l2.length ≤ 1000000) (hlt : t.length ≤ 1000000) :
    Calls Try.prog 6 #[cagg ep1 A1 l1.length c1 fl1, cagg ep2 A2 l2.length c2 fl2, .slice T t.length tc] w fun e w' => e = .returned (.int .i64 (folE ep1 fl1 l1 ep2 fl2 l2 t)) ∧ Kept NoF w w' := by
  have k1 := fun W (hW : Kept NoF w W) => rcheck_any W ep1 fl1 A1 c1 l1 (h1.kept hW (fun _ _ x => x)) hl1
  have k2 := fun W (hW : Kept NoF w W) => rcheck_any W ep2 fl2 A2 c2 l2 (h2.kept hW (fun _ _ x => x)) hl2
  have hn1 := (Has.new w 25 #[.int .i64 ep1, .slice A1 l1.length c1, .int .u64 fl1]).alloc (.cells #[.int .i64 ep2, .slice A2 l2.length c2, .int .u64 fl2] 25)
  have hn2 := Has.new (w.alloc (.cells #[.int .i64 ep1, .slice A1 l1.length c1, .int .u64 fl1] 25)) 25 #[.int .i64 ep2, .slice A2 l2.length c2, .int .u64 fl2]
  rw [size_alloc] at hn2
  have hk0 : Kept NoF w ((w.alloc (.cells #[.int .i64 ep1, .slice A1 l1.length c1, .int .u64 fl1] 25)).alloc (.cells #[.int .i64 ep2, .slice A2 l2.length c2, .int .u64 fl2] 25)) := by (repeat' (first | with_reducible exact Kept.refl _ _ | with_reducible refine Kept.put ?_ ?_ | with_reducible refine Kept.drewN ?_ _ | with_reducible refine Kept.drew ?_ | with_reducible refine Kept.alloc ?_ _ | (fail) | (right; simp; done)))
  have K1 := Lib.hid k1; clear k1
  have K2 := Lib.hid k2; clear k2
  have a0 := hn1.cell 0
  have a1 := hn1.cell 1
  have a2 := hn1.cell 2
  simp only [List.getElem?_toArray, List.getElem?_cons_zero, List.getElem?_cons_succ] at a0 a1 a2
  have HN := Lib.hid (And.intro hn1 (And.intro hn2 hk0)); clear hn1 hn2 hk0
  by_cases e1 : chk ep1 l1 = 0
  rotate_left
  · rw [folE_a e1]
    obtain ⟨r, hr⟩ : ∃ r, chk ep1 l1 = r := ⟨_, rfl⟩
    rw [hr] at K1 e1
    rw [hr]
    clear hr h1 h2 ht K2
    have hz : (r != 0) = true := by simpa using e1
    clear e1
    go_enter Try.func6, Try.ntmps6
    go_wp2_with fail
    refine (K1.out _ HN.out.2.2).mono ?_
    rintro e w2 ⟨rfl, hk⟩
    have HK := Lib.hid (HN.out.2.2.then hk); clear hk
    go_wp2
    go_ret
    exact ⟨rfl, HK.out⟩
  rw [e1] at K1
  by_cases e2 : chk ep2 l2 = 0
  rotate_left
  · rw [folE_b e1 e2]
    obtain ⟨r, hr⟩ : ∃ r, chk ep2 l2 = r := ⟨_, rfl⟩
    rw [hr] at K2 e2
    rw [hr]
    clear hr h1 h2 ht e1
    have hz : (r != 0) = true := by simpa using e2
    clear e2
    go_enter Try.func6, Try.ntmps6
    go_wp2_with fail
    refine (K1.out _ HN.out.2.2).mono ?_
    rintro e w2 ⟨rfl, hk⟩
    have b0 := (HN.out.2.1.kept hk (fun x => x)).cell 0
    have b1 := (HN.out.2.1.kept hk (fun x => x)).cell 1
    have b2 := (HN.out.2.1.kept hk (fun x => x)).cell 2
    simp only [List.getElem?_toArray, List.getElem?_cons_zero, List.getElem?_cons_succ] at b0 b1 b2
    have HK := Lib.hid (HN.out.2.2.then hk); clear hk
    go_wp2_with fail
    refine (K2.out _ HK.out).mono ?_
    rintro e w3 ⟨rfl, hk⟩
    have HK3 := Lib.hid (HK.out.then hk); clear hk
    go_wp2
    go_ret
    exact ⟨rfl, HK3.out⟩
  obtain ⟨hb1, _⟩ := chk_bounds e1
  obtain ⟨_, m, r, rfl⟩ := chk_bounds e2
  rw [e2] at K2
  have hwr : IntKind.i64.wrap (ep1 + 1) = ep1 + 1 := IntWalk.i64_in _ (by omega)
  obtain ⟨n2, hn2⟩ : ∃ n, (m :: r).length = n := ⟨_, rfl⟩
  have hpos : 0 < n2 := by rw [← hn2]; simp
  have hpos2 : (0 : Int) < n2 := by omega
  have hS2 := fun W (hW : Kept NoF w W) => h2.kept hW (fun _ _ x => x)
  have hpl := fun W (hW : Kept NoF w W) => rplaceS_any W ep1 fl1 A1 c1 l1 m (h1.kept hW (fun _ _ x => x)) hl1
  have hin := fun W (hW : Kept NoF w W) => in_any W T tc t m.1 (ht.kept hW (fun _ _ x => x)) hlt
  rw [hn2] at hS2 K2 HN hl2
  have HS2 := Lib.hid hS2; clear hS2
  have HPL := Lib.hid hpl; clear hpl
  have HIN := Lib.hid hin; clear hin
  obtain ⟨R, hR⟩ : ∃ R, folE ep1 fl1 l1 ep2 fl2 (m :: r) t = R := ⟨_, rfl⟩
  rw [hR]
  unfold cagg
  rw [hn2]
  have HE := Lib.hid (And.intro e1 e2); clear e1 e2 h1 h2 ht hn2
  obtain ⟨m1, m2⟩ := m
  dsimp only at HIN
  by_cases hep : ep2 = ep1 + 1
  rotate_left
  · have hR2 : R = 18 := by rw [← hR]; exact folE_c HE.out.1 HE.out.2 (.inl hep)
    subst hR2
    clear hR
    have hne : (ep2 != ep1 + 1) = true := by simpa using hep
    clear hep
    go_enter Try.func6, Try.ntmps6
    go_wp2_with fail
    refine (K1.out _ HN.out.2.2).mono ?_
    rintro e w2 ⟨rfl, hk⟩
    have hx1 := HN.out.1.kept hk (fun x => x)
    have hx2 := HN.out.2.1.kept hk (fun x => x)
    have b0 := hx2.cell 0
    have b1 := hx2.cell 1
    have b2 := hx2.cell 2
    simp only [List.getElem?_toArray, List.getElem?_cons_zero, List.getElem?_cons_succ] at b0 b1 b2
    have HK := Lib.hid (HN.out.2.2.then hk); clear hk
    have HX := Lib.hid (And.intro hx1 hx2); clear hx1 hx2
    go_wp2_with fail
    refine (K2.out _ HK.out).mono ?_
    rintro e w3 ⟨rfl, hk⟩
    clear a0 a1 a2 b0 b1 b2
    have hx1 := HX.out.1.kept hk (fun x => x)
    have hx2 := HX.out.2.kept hk (fun x => x)
    have a0 := hx1.cell 0
    have b0 := hx2.cell 0
    simp only [List.getElem?_toArray, List.getElem?_cons_zero, List.getElem?_cons_succ] at a0 b0
    have HK3 := Lib.hid (HK.out.then hk); clear hk hx1 hx2
    go_wp2
    go_ret
    exact ⟨rfl, HK3.out⟩
  subst hep
  have hne : ((ep1 + 1) != (ep1 + 1)) = false := by simp
  by_cases hfl : fl2 < fl1
  · have hR2 : R = 18 := by rw [← hR]; exact folE_c HE.out.1 HE.out.2 (.inr hfl)
    subst hR2
    clear hR
    go_enter Try.func6, Try.ntmps6
    go_wp2_with fail
    refine (K1.out _ HN.out.2.2).mono ?_
    rintro e w2 ⟨rfl, hk⟩
    have hx1 := HN.out.1.kept hk (fun x => x)
    have hx2 := HN.out.2.1.kept hk (fun x => x)
    have b0 := hx2.cell 0
    have b1 := hx2.cell 1
    have b2 := hx2.cell 2
    simp only [List.getElem?_toArray, List.getElem?_cons_zero, List.getElem?_cons_succ] at b0 b1 b2
    have HK := Lib.hid (HN.out.2.2.then hk); clear hk
    have HX := Lib.hid (And.intro hx1 hx2); clear hx1 hx2
    go_wp2_with fail
    refine (K2.out _ HK.out).mono ?_
    rintro e w3 ⟨rfl, hk⟩
    clear a0 a1 a2 b0 b1 b2
    have hx1 := HX.out.1.kept hk (fun x => x)
    have hx2 := HX.out.2.kept hk (fun x => x)
    have a0 := hx1.cell 0
    have a1 := hx1.cell 1
    have a2 := hx1.cell 2
    have b0 := hx2.cell 0
    have b1 := hx2.cell 1
    have b2 := hx2.cell 2
    simp only [List.getElem?_toArray, List.getElem?_cons_zero, List.getElem?_cons_succ] at a0 a1 a2 b0 b1 b2
    have HK3 := Lib.hid (HK.out.then hk); clear hk
    clear hx1 hx2
    go_wp2
    go_ret
    exact ⟨rfl, HK3.out⟩
  have hR2 := folE_d (t := t) HE.out.1 HE.out.2 (fun h => by rcases h with h | h; exact h rfl; exact hfl h)
  rw [hR] at hR2
  by_cases hmm : (m1, m2) ∈ l1
  rotate_left
  · have hR3 : R = 7 := by rw [hR2, if_neg (fun h => hmm h.1)]
    subst hR3
    have hpl2 := fun W (hW : Kept NoF w W) => (HPL.out W hW).mono (R' := fun e w' => e = .returned (.int .i64 (-1)) ∧ Kept NoF W w') fun e w' ⟨⟨n, h, hn, hz⟩, hk⟩ => ⟨by rw [h]; rcases hz with hz | hz; rw [hz]; exact absurd (hn.1 hz) hmm, hk⟩
    have HPL2 := Lib.hid hpl2; clear hpl2 hR hR2
    go_enter Try.func6, Try.ntmps6
    go_wp2_with fail
    refine (K1.out _ HN.out.2.2).mono ?_
    rintro e w2 ⟨rfl, hk⟩
    have hx1 := HN.out.1.kept hk (fun x => x)
    have hx2 := HN.out.2.1.kept hk (fun x => x)
    have b0 := hx2.cell 0
    have b1 := hx2.cell 1
    have b2 := hx2.cell 2
    simp only [List.getElem?_toArray, List.getElem?_cons_zero, List.getElem?_cons_succ] at b0 b1 b2
    have HK := Lib.hid (HN.out.2.2.then hk); clear hk
    have HX := Lib.hid (And.intro hx1 hx2); clear hx1 hx2
    go_wp2_with fail
    refine (K2.out _ HK.out).mono ?_
    rintro e w3 ⟨rfl, hk⟩
    clear a0 a1 a2 b0 b1 b2
    have hx1 := HX.out.1.kept hk (fun x => x)
    have hx2 := HX.out.2.kept hk (fun x => x)
    have a0 := hx1.cell 0
    have a1 := hx1.cell 1
    have a2 := hx1.cell 2
    have b0 := hx2.cell 0
    have b1 := hx2.cell 1
    have b2 := hx2.cell 2
    simp only [List.getElem?_toArray, List.getElem?_cons_zero, List.getElem?_cons_succ] at a0 a1 a2 b0 b1 b2
    have HK3 := Lib.hid (HK.out.then hk); clear hk
    obtain ⟨ad, hA, hlt, d0, d1⟩ := mem_cells (HS2.out _ HK3.out) hpos 0 (m1, m2) rfl
    subst hA
    have d0' : w3.cell? ad = some (.int .i64 m1) := d0
    have d1' : w3.cell? ⟨ad.block, ad.off + 1, none⟩ = some (.int .i64 m2) := d1
    have hlim : ∀ W, Kept NoF w3 W → (W.cell? ⟨w.heap.size, 0, none⟩ = some (.int .i64 ep1) ∧ W.cell? ⟨w.heap.size, 1, none⟩ = some (.slice A1 l1.length c1) ∧ W.cell? ⟨w.heap.size, 2, none⟩ = some (.int .u64 fl1) ∧ W.cell? ⟨w.heap.size + 1, 1, none⟩ = some (.slice (some ad) n2 c2) ∧ W.cell? ad = some (.int .i64 m1) ∧ W.cell? ⟨ad.block, ad.off + 1, none⟩ = some (.int .i64 m2)) := fun W hW => by
      have g1 := hx1.kept hW (fun x => x)
      obtain ⟨ad2, hA2, _, q0, q1⟩ := mem_cells (HS2.out _ (HK3.out.then hW)) hpos 0 (m1, m2) rfl
      obtain rfl : ad = ad2 := by injection hA2
      exact ⟨g1.cell 0, g1.cell 1, g1.cell 2, (hx2.kept hW (fun x => x)).cell 1, q0, q1⟩
    have HC := Lib.hid hlim; clear hlim hx1 hx2 d0 d1
    go_wp2_with fail
    first
    | (go_region_law (first
      | (go_simp
         go_at_call 14
         refine (HPL2.out _ ?_).mono ?_
         exact HK3.out.then (by (repeat' (first | with_reducible exact Kept.refl _ _ | with_reducible refine Kept.put ?_ ?_ | with_reducible refine Kept.drewN ?_ _ | with_reducible refine Kept.drew ?_ | with_reducible refine Kept.alloc ?_ _ | (fail) | (right; simp; done))))
         rintro e w5 ⟨rfl, hk0⟩
         have hk : Kept NoF w w5 := Kept.then (F := NoF) (Kept.then (F := NoF) HK3.out (by (repeat' (first | with_reducible exact Kept.refl _ _ | with_reducible refine Kept.put ?_ ?_ | with_reducible refine Kept.drewN ?_ _ | with_reducible refine Kept.drew ?_ | with_reducible refine Kept.alloc ?_ _ | (fail) | (right; simp; done))))) hk0
         clear hk0)))
    | fail
    all_goals
      have HK5 := Lib.hid hk; clear hk
      go_wp2
      go_ret
      exact ⟨rfl, HK5.out⟩
  have hpl2 := fun W (hW : Kept NoF w W) => (HPL.out W hW).mono (R' := fun e w' => (∃ k : Nat, e = .returned (.int .i64 (k : Int))) ∧ Kept NoF W w') fun e w' ⟨⟨n, h, hn, hz⟩, hk⟩ => ⟨⟨n.toNat, by rw [h, Int.toNat_of_nonneg (hn.2 hmm)]⟩, hk⟩
  have HPL2 := Lib.hid hpl2; clear hpl2
  by_cases hti : m1 ∈ t
  · have hR3 : R = 0 := by rw [hR2, if_pos ⟨hmm, hti⟩]
    subst hR3
    have hq : inB t m1 = true := by unfold inB; simpa using hti
    rw [hq] at HIN
    clear hR hR2 hq
    go_enter Try.func6, Try.ntmps6
    go_wp2_with fail
    refine (K1.out _ HN.out.2.2).mono ?_
    rintro e w2 ⟨rfl, hk⟩
    have hx1 := HN.out.1.kept hk (fun x => x)
    have hx2 := HN.out.2.1.kept hk (fun x => x)
    have b0 := hx2.cell 0
    have b1 := hx2.cell 1
    have b2 := hx2.cell 2
    simp only [List.getElem?_toArray, List.getElem?_cons_zero, List.getElem?_cons_succ] at b0 b1 b2
    have HK := Lib.hid (HN.out.2.2.then hk); clear hk
    have HX := Lib.hid (And.intro hx1 hx2); clear hx1 hx2
    go_wp2_with fail
    refine (K2.out _ HK.out).mono ?_
    rintro e w3 ⟨rfl, hk⟩
    clear a0 a1 a2 b0 b1 b2
    have hx1 := HX.out.1.kept hk (fun x => x)
    have hx2 := HX.out.2.kept hk (fun x => x)
    have a0 := hx1.cell 0
    have a1 := hx1.cell 1
    have a2 := hx1.cell 2
    have b0 := hx2.cell 0
    have b1 := hx2.cell 1
    have b2 := hx2.cell 2
    simp only [List.getElem?_toArray, List.getElem?_cons_zero, List.getElem?_cons_succ] at a0 a1 a2 b0 b1 b2
    have HK3 := Lib.hid (HK.out.then hk); clear hk
    obtain ⟨ad, hA, hlt, d0, d1⟩ := mem_cells (HS2.out _ HK3.out) hpos 0 (m1, m2) rfl
    subst hA
    have d0' : w3.cell? ad = some (.int .i64 m1) := d0
    have d1' : w3.cell? ⟨ad.block, ad.off + 1, none⟩ = some (.int .i64 m2) := d1
    have hlim : ∀ W, Kept NoF w3 W → (W.cell? ⟨w.heap.size, 0, none⟩ = some (.int .i64 ep1) ∧ W.cell? ⟨w.heap.size, 1, none⟩ = some (.slice A1 l1.length c1) ∧ W.cell? ⟨w.heap.size, 2, none⟩ = some (.int .u64 fl1) ∧ W.cell? ⟨w.heap.size + 1, 1, none⟩ = some (.slice (some ad) n2 c2) ∧ W.cell? ad = some (.int .i64 m1) ∧ W.cell? ⟨ad.block, ad.off + 1, none⟩ = some (.int .i64 m2)) := fun W hW => by
      have g1 := hx1.kept hW (fun x => x)
      obtain ⟨ad2, hA2, _, q0, q1⟩ := mem_cells (HS2.out _ (HK3.out.then hW)) hpos 0 (m1, m2) rfl
      obtain rfl : ad = ad2 := by injection hA2
      exact ⟨g1.cell 0, g1.cell 1, g1.cell 2, (hx2.kept hW (fun x => x)).cell 1, q0, q1⟩
    have HC := Lib.hid hlim; clear hlim hx1 hx2 d0 d1
    go_wp2_with fail
    have HS := Lib.hid (Kept.refl NoF w3)
    go_region_held3 (fun W => W.cell? ⟨w.heap.size, 0, none⟩ = some (.int .i64 ep1) ∧ W.cell? ⟨w.heap.size, 1, none⟩ = some (.slice A1 l1.length c1) ∧ W.cell? ⟨w.heap.size, 2, none⟩ = some (.int .u64 fl1) ∧ W.cell? ⟨w.heap.size + 1, 1, none⟩ = some (.slice (some ad) n2 c2) ∧ W.cell? ad = some (.int .i64 m1) ∧ W.cell? ⟨ad.block, ad.off + 1, none⟩ = some (.int .i64 m2))
      (first | with_reducible exact HC.out _ HS.out | exact HC.out _ HS.out.drew | (simp [go_sem, a0, a1, a2, b1, d0', d1']; done))
      (first
        | (go_at_call 14; ((with_reducible refine (HPL2.out _ ?_).mono ?_); exact HK3.out.then (by (repeat' (first | with_reducible exact Kept.refl _ _ | with_reducible refine Kept.put ?_ ?_ | with_reducible refine Kept.drewN ?_ _ | with_reducible refine Kept.drew ?_ | with_reducible refine Kept.alloc ?_ _ | (exact HS.out) | (right; simp; done)))); rintro e w5 ⟨⟨n, rfl⟩, hk0⟩; have hk := Kept.then (F := NoF) (a := w3) (by (repeat' (first | with_reducible exact Kept.refl _ _ | with_reducible refine Kept.put ?_ ?_ | with_reducible refine Kept.drewN ?_ _ | with_reducible refine Kept.drew ?_ | with_reducible refine Kept.alloc ?_ _ | (exact HS.out) | (right; simp; done)))) hk0; clear HS hk0; have HS := Lib.hid hk; clear hk))
        | (go_at_call 15; ((with_reducible refine (HIN.out _ ?_).mono ?_); exact HK3.out.then (by (repeat' (first | with_reducible exact Kept.refl _ _ | with_reducible refine Kept.put ?_ ?_ | with_reducible refine Kept.drewN ?_ _ | with_reducible refine Kept.drew ?_ | with_reducible refine Kept.alloc ?_ _ | (exact HS.out) | (right; simp; done)))); rintro e w5 ⟨rfl, rfl⟩)))
    all_goals
      go_wp2
      go_ret
      exact ⟨rfl, HK3.out.then (by (repeat' (first | with_reducible exact Kept.refl _ _ | with_reducible refine Kept.put ?_ ?_ | with_reducible refine Kept.drewN ?_ _ | with_reducible refine Kept.drew ?_ | with_reducible refine Kept.alloc ?_ _ | (exact HS.out) | (right; simp; done))))⟩
  · have hR3 : R = 7 := by rw [hR2, if_neg (fun h => hti h.2)]
    subst hR3
    have hq : inB t m1 = false := by unfold inB; simpa using hti
    rw [hq] at HIN
    clear hR hR2 hq
    go_enter Try.func6, Try.ntmps6
    go_wp2_with fail
    refine (K1.out _ HN.out.2.2).mono ?_
    rintro e w2 ⟨rfl, hk⟩
    have hx1 := HN.out.1.kept hk (fun x => x)
    have hx2 := HN.out.2.1.kept hk (fun x => x)
    have b0 := hx2.cell 0
    have b1 := hx2.cell 1
    have b2 := hx2.cell 2
    simp only [List.getElem?_toArray, List.getElem?_cons_zero, List.getElem?_cons_succ] at b0 b1 b2
    have HK := Lib.hid (HN.out.2.2.then hk); clear hk
    have HX := Lib.hid (And.intro hx1 hx2); clear hx1 hx2
    go_wp2_with fail
    refine (K2.out _ HK.out).mono ?_
    rintro e w3 ⟨rfl, hk⟩
    clear a0 a1 a2 b0 b1 b2
    have hx1 := HX.out.1.kept hk (fun x => x)
    have hx2 := HX.out.2.kept hk (fun x => x)
    have a0 := hx1.cell 0
    have a1 := hx1.cell 1
    have a2 := hx1.cell 2
    have b0 := hx2.cell 0
    have b1 := hx2.cell 1
    have b2 := hx2.cell 2
    simp only [List.getElem?_toArray, List.getElem?_cons_zero, List.getElem?_cons_succ] at a0 a1 a2 b0 b1 b2
    have HK3 := Lib.hid (HK.out.then hk); clear hk
    obtain ⟨ad, hA, hlt, d0, d1⟩ := mem_cells (HS2.out _ HK3.out) hpos 0 (m1, m2) rfl
    subst hA
    have d0' : w3.cell? ad = some (.int .i64 m1) := d0
    have d1' : w3.cell? ⟨ad.block, ad.off + 1, none⟩ = some (.int .i64 m2) := d1
    have hlim : ∀ W, Kept NoF w3 W → (W.cell? ⟨w.heap.size, 0, none⟩ = some (.int .i64 ep1) ∧ W.cell? ⟨w.heap.size, 1, none⟩ = some (.slice A1 l1.length c1) ∧ W.cell? ⟨w.heap.size, 2, none⟩ = some (.int .u64 fl1) ∧ W.cell? ⟨w.heap.size + 1, 1, none⟩ = some (.slice (some ad) n2 c2) ∧ W.cell? ad = some (.int .i64 m1) ∧ W.cell? ⟨ad.block, ad.off + 1, none⟩ = some (.int .i64 m2)) := fun W hW => by
      have g1 := hx1.kept hW (fun x => x)
      obtain ⟨ad2, hA2, _, q0, q1⟩ := mem_cells (HS2.out _ (HK3.out.then hW)) hpos 0 (m1, m2) rfl
      obtain rfl : ad = ad2 := by injection hA2
      exact ⟨g1.cell 0, g1.cell 1, g1.cell 2, (hx2.kept hW (fun x => x)).cell 1, q0, q1⟩
    have HC := Lib.hid hlim; clear hlim hx1 hx2 d0 d1
    go_wp2_with fail
    have HS := Lib.hid (Kept.refl NoF w3)
    go_region_held3 (fun W => W.cell? ⟨w.heap.size, 0, none⟩ = some (.int .i64 ep1) ∧ W.cell? ⟨w.heap.size, 1, none⟩ = some (.slice A1 l1.length c1) ∧ W.cell? ⟨w.heap.size, 2, none⟩ = some (.int .u64 fl1) ∧ W.cell? ⟨w.heap.size + 1, 1, none⟩ = some (.slice (some ad) n2 c2) ∧ W.cell? ad = some (.int .i64 m1) ∧ W.cell? ⟨ad.block, ad.off + 1, none⟩ = some (.int .i64 m2))
      (first | with_reducible exact HC.out _ HS.out | exact HC.out _ HS.out.drew | (simp [go_sem, a0, a1, a2, b1, d0', d1']; done))
      (first
        | (go_at_call 14; ((with_reducible refine (HPL2.out _ ?_).mono ?_); exact HK3.out.then (by (repeat' (first | with_reducible exact Kept.refl _ _ | with_reducible refine Kept.put ?_ ?_ | with_reducible refine Kept.drewN ?_ _ | with_reducible refine Kept.drew ?_ | with_reducible refine Kept.alloc ?_ _ | (exact HS.out) | (right; simp; done)))); rintro e w5 ⟨⟨n, rfl⟩, hk0⟩; have hk := Kept.then (F := NoF) (a := w3) (by (repeat' (first | with_reducible exact Kept.refl _ _ | with_reducible refine Kept.put ?_ ?_ | with_reducible refine Kept.drewN ?_ _ | with_reducible refine Kept.drew ?_ | with_reducible refine Kept.alloc ?_ _ | (exact HS.out) | (right; simp; done)))) hk0; clear HS hk0; have HS := Lib.hid hk; clear hk))
        | (go_at_call 15; ((with_reducible refine (HIN.out _ ?_).mono ?_); exact HK3.out.then (by (repeat' (first | with_reducible exact Kept.refl _ _ | with_reducible refine Kept.put ?_ ?_ | with_reducible refine Kept.drewN ?_ _ | with_reducible refine Kept.drew ?_ | with_reducible refine Kept.alloc ?_ _ | (exact HS.out) | (right; simp; done)))); rintro e w5 ⟨rfl, rfl⟩)))
    all_goals
      go_wp2
      go_ret
      exact ⟨rfl, HK3.out.then (by (repeat' (first | with_reducible exact Kept.refl _ _ | with_reducible refine Kept.put ?_ ?_ | with_reducible refine Kept.drewN ?_ _ | with_reducible refine Kept.drew ?_ | with_reducible refine Kept.alloc ?_ _ | (exact HS.out) | (right; simp; done))))⟩
end Plan
end Go.Proofs.Ytffnaabnbimhbaa
