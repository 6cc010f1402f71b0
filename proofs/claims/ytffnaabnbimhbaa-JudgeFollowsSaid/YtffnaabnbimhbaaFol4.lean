/- JudgeFollows: the law walked. -/
import Derived.Test.YtffnaabnbimhbaaFol3
import Derived.Test.YtffnaabnbimhbaaJudge4
import Derived.Test.YtffnaabnbimhbaaPlan5
import Derived.Deep.RegionHeld3
set_option linter.unusedSimpArgs false
set_option linter.unusedVariables false
namespace Go.Proofs.Ytffnaabnbimhbaa
open Go.RowKit
set_option maxRecDepth 100000
namespace Plan
set_option maxHeartbeats 8000000 in
theorem law_follows (w : World) (ep fl ep' fl' : Int) (A A' A2 A3 A4 : Option Addr) (c c' c2 c3 c4 : Nat) (l l' j : List Mem) (t g : List Int) (last : Int)
    (hl : Src w 2 A l.length (mcells l)) (hl' : Src w 2 A' l'.length (mcells l')) (ht : Src w 1 A2 t.length (ints t)) (hg : Src w 1 A3 g.length (ints g)) (hj : Src w 2 A4 j.length (mcells j))
    (hc : l.length ≤ c) (hm : c ≤ maxLen) (hc' : l'.length ≤ c') (hm' : c' ≤ maxLen) (hfl : 0 ≤ fl ∧ fl ≤ maxTs) (hla : 0 ≤ last ∧ last ≤ maxTs) (hti : ∀ x ∈ t, I64 x) (hgi : ∀ x ∈ g, I64 x) (hli : ∀ m ∈ l, I64 m.1) :
    Calls Try.prog 3 #[cagg ep A l.length c fl, cagg ep' A' l'.length c' fl', .slice A2 t.length c2, .slice A3 g.length c3, .slice A4 j.length c4, .int .u64 last] w fun e w' => e = .returned (.bool true) ∧ Below w.heap.size w w' := by
  unfold maxLen at hm hm'
  have haw : ∀ W, Kept NoF w W → Calls Try.prog 4 #[] W fun e w' => e = .returned (.bool true) ∧ Kept NoF w w' :=
    fun W hW => (Ent.awake38_any W).mono fun e w' ⟨h1, h2⟩ => ⟨h1, hW.then h2⟩
  have HAW := Lib.hid haw; clear haw
  have hx1 := (Has.new w 25 #[.int .i64 ep, .slice A l.length c, .int .u64 fl]).alloc (.cells #[.int .i64 ep', .slice A' l'.length c', .int .u64 fl'] 25)
  have hx2 := Has.new_at (w.alloc (.cells #[.int .i64 ep, .slice A l.length c, .int .u64 fl] 25)) 25 #[.int .i64 ep', .slice A' l'.length c', .int .u64 fl'] (g := w.heap.size + 1) (by simp)
  have a0 := hx1.cell 0
  have a1 := hx1.cell 1
  have a2 := hx1.cell 2
  have b0 := hx2.cell 0
  have b1 := hx2.cell 1
  have b2 := hx2.cell 2
  simp only [List.getElem?_toArray, List.getElem?_cons_zero, List.getElem?_cons_succ] at a0 a1 a2 b0 b1 b2
  have hk0 : Kept NoF w ((w.alloc (.cells #[.int .i64 ep, .slice A l.length c, .int .u64 fl] 25)).alloc (.cells #[.int .i64 ep', .slice A' l'.length c', .int .u64 fl'] 25)) := by (repeat' (first | with_reducible exact Kept.refl _ _ | with_reducible refine Kept.put ?_ ?_ | with_reducible refine Kept.drewN ?_ _ | with_reducible refine Kept.drew ?_ | with_reducible refine Kept.alloc ?_ _ | (fail) | (right; simp; done)))
  have HX := Lib.hid (And.intro hx1 (And.intro hx2 hk0)); clear hx1 hx2 hk0
  by_cases h1 : 20 < l.length ∨ (¬ 20 < l.length ∧ 20 < l'.length) ∨ (¬ 20 < l.length ∧ ¬ 20 < l'.length ∧ 20 < t.length) ∨ (¬ 20 < l.length ∧ ¬ 20 < l'.length ∧ ¬ 20 < t.length ∧ 20 < g.length) ∨ (¬ 20 < l.length ∧ ¬ 20 < l'.length ∧ ¬ 20 < t.length ∧ ¬ 20 < g.length ∧ 20 < j.length)
  · clear hl hl' ht hg hj hti hgi hli
    rcases h1 with h1 | ⟨h1, h2⟩ | ⟨h1, h2, h3⟩ | ⟨h1, h2, h3, h4⟩ | ⟨h1, h2, h3, h4, h5⟩
    all_goals
      go_enter Try.func3, Try.ntmps3
      go_wp2_with fail
      refine (HAW.out _ HX.out.2.2).mono ?_
      rintro e w2 ⟨rfl, hk⟩
      have hb := hk.below (Nat.le_refl _) (fun _ x => x.elim)
      have HB := Lib.hid hb; clear hb hk
      go_wp2
      go_ret
      exact ⟨rfl, HB.out⟩
  obtain ⟨h1, h2, h3, h4, h5⟩ : ¬ 20 < l.length ∧ ¬ 20 < l'.length ∧ ¬ 20 < t.length ∧ ¬ 20 < g.length ∧ ¬ 20 < j.length := by omega
  have g1 := fun W (hW : Kept NoF w W) => follows_any W ep fl A c l ep' fl' A' c' l' A2 c2 t (hl.kept hW (fun _ _ x => x)) (hl'.kept hW (fun _ _ x => x)) (ht.kept hW (fun _ _ x => x)) (by omega) (by omega) (by omega) hc (by omega) hc' (by omega)
  have g2 := fun W (hW : Kept NoF w W) => rfollows_any W ep fl A c l ep' fl' A' c' l' A2 c2 t (hl.kept hW (fun _ _ x => x)) (hl'.kept hW (fun _ _ x => x)) (ht.kept hW (fun _ _ x => x)) (by omega) (by omega) (by omega)
  have g3 := fun W (hW : Kept NoF w W) => pnext_any W ep fl A A2 A3 A4 c c2 c3 c4 l j t g last (hl.kept hW (fun _ _ x => x)) (ht.kept hW (fun _ _ x => x)) (hg.kept hW (fun _ _ x => x)) (hj.kept hW (fun _ _ x => x)) (by omega) (by omega) (by omega) (by omega) hfl hla hc (by omega) hti hgi hli
  have hIs := fun h => And.intro ((next_is (ep := ep) (c := l) (fl := fl) (t := t) (g := g) (j := j) (last := last) h).follows hfl.2) (chk_zero (next_is (ep := ep) (c := l) (fl := fl) (t := t) (g := g) (j := j) (last := last) h).chk).2.2.1
  obtain ⟨N, hN⟩ : ∃ N, nextOf ep l fl t g j last = N := ⟨_, rfl⟩
  rw [hN] at g3 hIs
  have g4 := fun W B d (hW : Kept NoF w W) (hN4 : N.l.length ≤ 4) (hs : Src W 2 B N.l.length (mcells N.l)) (hd : N.l.length ≤ d) (hdm : d ≤ 9223372036854775807) => follows_any W ep fl A c l N.ep N.fl B d N.l A2 c2 t (hl.kept hW (fun _ _ x => x)) hs (ht.kept hW (fun _ _ x => x)) (by omega) (by omega) (by omega) hc (by omega) hd hdm
  obtain ⟨R, hR⟩ : ∃ R, folE ep fl l ep' fl' l' t = R := ⟨_, rfl⟩
  rw [hR] at g1 g2
  have G1 := Lib.hid g1; clear g1
  have G2 := Lib.hid g2; clear g2
  have G3 := Lib.hid g3; clear g3
  have G4 := Lib.hid g4; clear g4
  have HIS := Lib.hid hIs; clear hIs hR hN hl hl' ht hg hj hti hgi hli
  have hlim : ∀ W, Kept NoF ((w.alloc (.cells #[.int .i64 ep, .slice A l.length c, .int .u64 fl] 25)).alloc (.cells #[.int .i64 ep', .slice A' l'.length c', .int .u64 fl'] 25)) W → (W.cell? ⟨w.heap.size, 0, none⟩ = some (.int .i64 ep) ∧ W.cell? ⟨w.heap.size, 1, none⟩ = some (.slice A l.length c) ∧ W.cell? ⟨w.heap.size, 2, none⟩ = some (.int .u64 fl) ∧ W.cell? ⟨w.heap.size + 1, 0, none⟩ = some (.int .i64 ep') ∧ W.cell? ⟨w.heap.size + 1, 1, none⟩ = some (.slice A' l'.length c') ∧ W.cell? ⟨w.heap.size + 1, 2, none⟩ = some (.int .u64 fl')) := fun W hW => by
    have q1 := HX.out.1.kept hW (fun x => x)
    have q2 := HX.out.2.1.kept hW (fun x => x)
    exact ⟨q1.cell 0, q1.cell 1, q1.cell 2, q2.cell 0, q2.cell 1, q2.cell 2⟩
  have HC := Lib.hid hlim; clear hlim
  obtain ⟨Ne, Nep, Nl, Nfl, Nt⟩ := N
  unfold NextPost nagg at G3
  dsimp only at G3 G4 HIS
  go_enter Try.func3, Try.ntmps3
  go_wp2_with fail
  obtain ⟨W0, hW0⟩ : ∃ W0, (w.alloc (.cells #[.int .i64 ep, .slice A l.length c, .int .u64 fl] 25)).alloc (.cells #[.int .i64 ep', .slice A' l'.length c', .int .u64 fl'] 25) = W0 := ⟨_, rfl⟩
  rw [hW0] at HC HX a0 a1 a2 b0 b1 b2
  rw [hW0]
  clear hW0
  have HS := Lib.hid (Kept.refl NoF W0)
  go_region_held3 (fun W => W.cell? ⟨w.heap.size, 0, none⟩ = some (.int .i64 ep) ∧ W.cell? ⟨w.heap.size, 1, none⟩ = some (.slice A l.length c) ∧ W.cell? ⟨w.heap.size, 2, none⟩ = some (.int .u64 fl) ∧ W.cell? ⟨w.heap.size + 1, 0, none⟩ = some (.int .i64 ep') ∧ W.cell? ⟨w.heap.size + 1, 1, none⟩ = some (.slice A' l'.length c') ∧ W.cell? ⟨w.heap.size + 1, 2, none⟩ = some (.int .u64 fl'))
    (first | with_reducible exact HC.out _ HS.out | exact HC.out _ HS.out.drew | (simp [go_sem, a0, a1, a2, b0, b1, b2]; done))
    (first
      | (go_at_call 5; ((with_reducible refine (G1.out _ ?_).mono ?_); exact HX.out.2.2.then (by (repeat' (first | with_reducible exact Kept.refl _ _ | with_reducible refine Kept.put ?_ ?_ | with_reducible refine Kept.drewN ?_ _ | with_reducible refine Kept.drew ?_ | with_reducible refine Kept.alloc ?_ _ | (exact HS.out) | (right; simp; done)))); rintro e w5 ⟨rfl, hk0⟩; have hk := Kept.then (F := NoF) (a := W0) (by (repeat' (first | with_reducible exact Kept.refl _ _ | with_reducible refine Kept.put ?_ ?_ | with_reducible refine Kept.drewN ?_ _ | with_reducible refine Kept.drew ?_ | with_reducible refine Kept.alloc ?_ _ | (exact HS.out) | (right; simp; done)))) hk0; clear HS hk0; have HS := Lib.hid hk; clear hk))
      | (go_at_call 6; ((with_reducible refine (G2.out _ ?_).mono ?_); exact HX.out.2.2.then (by (repeat' (first | with_reducible exact Kept.refl _ _ | with_reducible refine Kept.put ?_ ?_ | with_reducible refine Kept.drewN ?_ _ | with_reducible refine Kept.drew ?_ | with_reducible refine Kept.alloc ?_ _ | (exact HS.out) | (right; simp; done)))); rintro e w5 ⟨rfl, hk0⟩; have hk := Kept.then (F := NoF) (a := W0) (by (repeat' (first | with_reducible exact Kept.refl _ _ | with_reducible refine Kept.put ?_ ?_ | with_reducible refine Kept.drewN ?_ _ | with_reducible refine Kept.drew ?_ | with_reducible refine Kept.alloc ?_ _ | (exact HS.out) | (right; simp; done)))) hk0; clear HS hk0; have HS := Lib.hid hk; clear hk)))
  all_goals
    have hks := HX.out.2.2.then HS.out
    have hcs := HC.out _ HS.out
    clear a0 a1 a2 b0 b1 b2
    obtain ⟨a0, a1, a2, b0, b1, b2⟩ := hcs
    have HKS := Lib.hid hks; clear hks
    go_wp2_with fail
    refine (G3.out _ HKS.out).mono ?_
    rintro e w6 ⟨B, n, d, C, m, f, rfl, hrow, hint, hk⟩
    have hk6 : Kept NoF W0 w6 := Kept.then (F := NoF) (by (repeat' (first | with_reducible exact Kept.refl _ _ | with_reducible refine Kept.put ?_ ?_ | with_reducible refine Kept.drewN ?_ _ | with_reducible refine Kept.drew ?_ | with_reducible refine Kept.alloc ?_ _ | (exact HS.out) | (right; simp; done)))) hk
    have hkw := HKS.out.then hk
    have hx1 := (HX.out.1.kept hk6 (fun x => x)).alloc (.cells #[.int .i64 Nep, .slice B n d, .int .u64 Nfl] 25)
    clear a0 a1 a2 b0 b1 b2
    have a0 := hx1.cell 0
    have a1 := hx1.cell 1
    have a2 := hx1.cell 2
    simp only [List.getElem?_toArray, List.getElem?_cons_zero, List.getElem?_cons_succ] at a0 a1 a2
    have HKW := Lib.hid hkw; clear hkw hk6 hx1 hk hint
    by_cases hz : Ne = 0
    · subst hz
      obtain ⟨hf0, hl4⟩ := HIS.out rfl
      have hcap := own_cap hrow.2.1
      have hn := hrow.1
      have hsrc := hrow.src
      rw [← hn] at hl4 hsrc
      have g5 := G4.out (w6.alloc (.cells #[.int .i64 Nep, .slice B n d, .int .u64 Nfl] 25)) B d (HKW.out.alloc _) (by rw [← hn]; exact hl4) (by rw [← hn]; exact hsrc.kept ((Kept.refl NoF _).alloc _) (fun _ _ x => x)) (by rw [← hn]; exact hcap.1) (by have := hcap.2; unfold maxLen at this; omega)
      rw [hf0, ← hn] at g5
      have G5 := Lib.hid g5; clear g5 hf0 hcap hsrc hrow
      clear hn
      go_wp2_with fail
      refine G5.out.mono ?_
      rintro e w7 ⟨rfl, hk⟩
      have HK7 := Lib.hid ((HKW.out.alloc _).then hk); clear hk
      go_wp2_with fail
      refine (HAW.out _ HK7.out).mono ?_
      rintro e w8 ⟨rfl, hk⟩
      have hb := hk.below (Nat.le_refl _) (fun _ x => x.elim)
      have HB := Lib.hid hb; clear hb hk
      go_wp2
      go_ret
      exact ⟨rfl, HB.out⟩
    · have hz1 : (Ne != 0) = true := by simpa using hz
      clear hz hrow
      go_wp2_with fail
      refine (HAW.out _ (HKW.out.alloc _)).mono ?_
      rintro e w8 ⟨rfl, hk⟩
      have hb := hk.below (Nat.le_refl _) (fun _ x => x.elim)
      have HB := Lib.hid hb; clear hb hk
      go_wp2
      go_ret
      exact ⟨rfl, HB.out⟩
end Plan
end Go.Proofs.Ytffnaabnbimhbaa
