/- PlanPlays: the law's walk. -/
import Derived.Test.YtnmlemciiigjcaaPlan6
import Derived.Deep.RegionHeld3
set_option linter.unusedSimpArgs false
set_option linter.unusedVariables false
namespace Go.Proofs.Ytnmlemciiigjcaa
open Go.RowKit Go.Shelf Go.Maps
set_option maxRecDepth 100000
namespace Plan
def longB (a b c d : Nat) : Bool := decide (20 < a) || (decide (20 < b) || (decide (20 < c) || decide (20 < d)))
theorem long_any (w : World) (ep fl : Int) (A0 A1 A2 A3 : Option Addr) (n0 n1 n2 n3 c0 c1 c2 c3 : Nat) (h0 : n0 ≤ 9223372036854775807) (h1 : n1 ≤ 9223372036854775807) (h2 : n2 ≤ 9223372036854775807) (h3 : n3 ≤ 9223372036854775807) :
    Calls Try.prog 34 #[cagg ep A0 n0 c0 fl, .slice A1 n1 c1, .slice A2 n2 c2, .slice A3 n3 c3] w fun e w' => e = .returned (.bool (longB n0 n1 n2 n3)) ∧ Kept NoF w w' := by
  by_cases g0 : 20 < n0
  · have hb : longB n0 n1 n2 n3 = true := by unfold longB; simp [g0]
    rw [hb]
    clear hb
    have g0' : (20 : Int) < n0 := by omega
    go_enter Try.func34, Try.ntmps34
    go_wp2
    go_ret
    exact ⟨rfl, (Kept.refl _ _).alloc _⟩
  have g0' : ¬ (20 : Int) < n0 := by omega
  by_cases g1 : 20 < n1
  · have hb : longB n0 n1 n2 n3 = true := by unfold longB; simp [g1]
    rw [hb]
    clear hb
    have g1' : (20 : Int) < n1 := by omega
    go_enter Try.func34, Try.ntmps34
    go_wp2
    go_ret
    exact ⟨rfl, (Kept.refl _ _).alloc _⟩
  have g1' : ¬ (20 : Int) < n1 := by omega
  by_cases g2 : 20 < n2
  · have hb : longB n0 n1 n2 n3 = true := by unfold longB; simp [g2]
    rw [hb]
    clear hb
    have g2' : (20 : Int) < n2 := by omega
    go_enter Try.func34, Try.ntmps34
    go_wp2
    go_ret
    exact ⟨rfl, (Kept.refl _ _).alloc _⟩
  have g2' : ¬ (20 : Int) < n2 := by omega
  by_cases g3 : 20 < n3
  · have hb : longB n0 n1 n2 n3 = true := by unfold longB; simp [g3]
    rw [hb]
    clear hb
    have g3' : (20 : Int) < n3 := by omega
    go_enter Try.func34, Try.ntmps34
    go_wp2
    go_ret
    exact ⟨rfl, (Kept.refl _ _).alloc _⟩
  have g3' : ¬ (20 : Int) < n3 := by omega
  have hb : longB n0 n1 n2 n3 = false := by unfold longB; simp; omega
  rw [hb]
  clear hb
  go_enter Try.func34, Try.ntmps34
  go_wp2
  go_ret
  exact ⟨rfl, (Kept.refl _ _).alloc _⟩

theorem rsame_eq (w : World) (ep fl : Int) (A B : Option Addr) (n n' c d : Nat) (l : List Mem) (hn : n = l.length) (hn' : n' = l.length) (hl : Src w 2 A l.length (mcells l)) (hl' : Src w 2 B l.length (mcells l)) (hlen : l.length ≤ 1000000) :
    Calls Try.prog 38 #[cagg ep A n c fl, cagg ep B n' d fl] w fun e w' => e = .returned (.bool true) ∧ Kept NoF w w' := by
  subst hn
  subst hn'
  have h := rsame_any w ep fl ep fl A B c d l l hl hl' hlen hlen
  have hb : (ep == ep && (fl == fl && eqL l l)) = true := by simp [eqL]
  rw [hb] at h
  exact h
theorem sameints_two (w : World) (A B : Option Addr) (n n' c d : Nat) (l : List Int) (hn : n = l.length) (hn' : n' = l.length) (hl : Src w 1 A l.length (ints l)) (hm : Src w 1 B l.length (ints l)) (hlen : l.length ≤ 1000000) :
    Calls Try.prog 39 #[.slice A n c, .slice B n' d] w fun e w' => e = .returned (.bool true) ∧ Kept NoF w w' := by
  subst hn
  subst hn'
  exact sameints_eq w A B c d l hl hm hlen
theorem joinAll_len : ∀ (a : List Mem) (b : List Mem), (joinAll b a).length ≤ b.length + a.length := by
  intro a
  induction a with
  | nil => intro b; simp [joinAll]
  | cons x a ih =>
    intro b
    have h2 := ih (joinOne b x)
    have h3 : (joinOne b x).length ≤ b.length + 1 := by unfold joinOne; split <;> simp
    have h4 : joinAll b (x :: a) = joinAll (joinOne b x) a := rfl
    rw [h4, List.length_cons]
    omega
theorem next_len (ep : Int) (c : List Mem) (fl : Int) (t g : List Int) (j : List Mem) (last : Int) : (nextOf ep c fl t g j last).l.length ≤ c.length + j.length ∧ (nextOf ep c fl t g j last).t.length ≤ c.length := by
  have h1 := joinAll_len j (firsts c t g ++ rests c t g)
  have h2 := len_two c g t
  have h3 : (firsts c t g).length ≤ c.length := List.length_filter_le _ _
  unfold nextOf
  split
  · simp
  · split
    · simp
    · split
      · simp
      · split
        · simp
        · rw [ids_len]
          refine ⟨?_, h3⟩
          show (allOf c t g j).length ≤ _
          unfold allOf; omega

set_option maxHeartbeats 8000000 in
theorem law_plays (w : World) (ep fl : Int) (A0 A1 A2 A3 : Option Addr) (c0 c1 c2 c3 : Nat) (l j : List Mem) (t g : List Int) (last : Int) (hl : Src w 2 A0 l.length (mcells l)) (ht : Src w 1 A1 t.length (ints t)) (hg : Src w 1 A2 g.length (ints g)) (hj : Src w 2 A3 j.length (mcells j))
    (hcap : l.length ≤ c0) (hcm : c0 ≤ maxLen) (hcap1 : t.length ≤ c1) (hcm1 : c1 ≤ maxLen) (hcap2 : g.length ≤ c2) (hcm2 : c2 ≤ maxLen) (hcap3 : j.length ≤ c3) (hcm3 : c3 ≤ maxLen) (hfl : 0 ≤ fl ∧ fl ≤ maxTs) (hla : 0 ≤ last ∧ last ≤ maxTs)
    (hti : ∀ x ∈ t, I64 x) (hgi : ∀ x ∈ g, I64 x) (hli : ∀ m ∈ l, I64 m.1) :
    Calls Try.prog 8 #[cagg ep A0 l.length c0 fl, .slice A1 t.length c1, .slice A2 g.length c2, .slice A3 j.length c3, .int .u64 last] w fun e w' => e = .returned (.bool true) ∧ Below w.heap.size w w' := by
  unfold maxLen at hcm hcm1 hcm2 hcm3
  have hlo := fun W => long_any W ep fl A0 A1 A2 A3 l.length t.length g.length j.length c0 c1 c2 c3 (by omega) (by omega) (by omega) (by omega)
  obtain ⟨lb, hlb⟩ : ∃ lb, longB l.length t.length g.length j.length = lb := ⟨_, rfl⟩
  rw [hlb] at hlo
  have HLO := Lib.hid hlo; clear hlo
  cases lb
  rotate_left
  · clear hlb hl ht hg hj
    go_enter Try.func8, Try.ntmps8
    go_wp2_with fail
    refine (HLO.out _).mono ?_
    rintro e w2 ⟨rfl, hk⟩
    have hk2 := Kept.then (a := w) (by (repeat' (first | with_reducible exact Kept.refl _ _ | with_reducible refine Kept.put ?_ ?_ | with_reducible refine Kept.drewN ?_ _ | with_reducible refine Kept.drew ?_ | with_reducible refine Kept.alloc ?_ _ | (fail) | (right; simp; done)))) hk
    have HK2 := Lib.hid hk2; clear hk2 hk
    go_wp2_with fail
    refine (awake_any _).mono ?_
    rintro e w3 ⟨rfl, hk⟩
    have hk3 := HK2.out.then hk
    have HK3 := Lib.hid hk3; clear hk3 hk
    go_wp2
    go_ret
    exact ⟨rfl, HK3.out.below (Nat.le_refl _) (fun _ x => x.elim)⟩
  have hlens : l.length ≤ 20 ∧ t.length ≤ 20 ∧ g.length ≤ 20 ∧ j.length ≤ 20 := by
    unfold longB at hlb
    simp at hlb
    omega
  obtain ⟨hl0, hl1, hl2, hl3⟩ := hlens
  clear hlb
  have hpn := fun W (hW : Kept NoF w W) => pnext_any W ep fl A0 A1 A2 A3 c0 c1 c2 c3 l j t g last (hl.kept hW (fun _ _ x => x)) (ht.kept hW (fun _ _ x => x)) (hg.kept hW (fun _ _ x => x)) (hj.kept hW (fun _ _ x => x)) (by omega) (by omega) (by omega) (by omega) hfl hla hcap hcm hti hgi hli
  have hrn := fun W (hW : Kept NoF w W) => rnext_any W ep fl A0 A1 A2 A3 c0 c1 c2 c3 l j t g last (hl.kept hW (fun _ _ x => x)) (ht.kept hW (fun _ _ x => x)) (hg.kept hW (fun _ _ x => x)) (hj.kept hW (fun _ _ x => x)) (by omega) (by omega) (by omega) (by omega) hfl hla
  have hnl := next_len ep l fl t g j last
  have hf1 := fun W => pfloor_any W fl last hfl hla
  have hf2 := fun W => rfloor_any W fl last hfl hla
  obtain ⟨N, hN⟩ : ∃ N, nextOf ep l fl t g j last = N := ⟨_, rfl⟩
  obtain ⟨fl', hfl'⟩ : ∃ f, floorOf fl last = f := ⟨_, rfl⟩
  rw [hN] at hpn hrn hnl
  rw [hfl'] at hf1 hf2
  clear hN hfl' hl ht hg hj hti hgi hli hfl hla hcap hcap1 hcap2 hcap3
  have HPN := Lib.hid hpn; clear hpn
  have HRN := Lib.hid hrn; clear hrn
  have HF1 := Lib.hid hf1; clear hf1
  have HF2 := Lib.hid hf2; clear hf2
  have hNl : N.l.length ≤ 1000000 := by omega
  have hNt : N.t.length ≤ 1000000 := by omega
  clear hnl
  obtain ⟨Ne, Nep, Nl, Nfl, Nt⟩ := N
  unfold NextPost nagg at HPN HRN
  dsimp only at HPN HRN hNl hNt
  have HN0 := Lib.hid (Has.new w 63 #[.int .i64 ep, .slice A0 l.length c0, .int .u64 fl])
  go_enter Try.func8, Try.ntmps8
  go_wp2_with fail
  refine (HLO.out _).mono ?_
  rintro e w2 ⟨rfl, hk⟩
  have hh := HN0.out.kept hk (fun x => x)
  have hk2 := Kept.then (a := w) (by (repeat' (first | with_reducible exact Kept.refl _ _ | with_reducible refine Kept.put ?_ ?_ | with_reducible refine Kept.drewN ?_ _ | with_reducible refine Kept.drew ?_ | with_reducible refine Kept.alloc ?_ _ | (fail) | (right; simp; done)))) hk
  have e0 : w2.cell? ⟨w.heap.size, 0, none⟩ = some (.int .i64 ep) := hh.cell 0
  have e1 : w2.cell? ⟨w.heap.size, 1, none⟩ = some (.slice A0 l.length c0) := hh.cell 1
  have e2 : w2.cell? ⟨w.heap.size, 2, none⟩ = some (.int .u64 fl) := hh.cell 2
  have HH2 := Lib.hid hh; clear hh
  have HK2 := Lib.hid hk2; clear hk2 hk HLO HN0
  go_wp2_with fail
  refine (HPN.out _ HK2.out).mono ?_
  rintro e w3 ⟨A, n, c, B, m, d, rfl, hrow, hint, hk⟩
  have hk3 := HK2.out.then hk
  have hh := HH2.out.kept hk (fun x => x)
  clear e0 e1 e2
  have e0 : ∀ o, (w3.alloc o).cell? ⟨w.heap.size, 0, none⟩ = some (.int .i64 ep) := fun o => (hh.alloc o).cell 0
  have e1 : ∀ o, (w3.alloc o).cell? ⟨w.heap.size, 1, none⟩ = some (.slice A0 l.length c0) := fun o => (hh.alloc o).cell 1
  have e2 : ∀ o, (w3.alloc o).cell? ⟨w.heap.size, 2, none⟩ = some (.int .u64 fl) := fun o => (hh.alloc o).cell 2
  have HH3 := Lib.hid hh; clear hh HH2
  have HK3 := Lib.hid hk3; clear hk3 hk HK2
  have HROW := Lib.hid hrow; clear hrow
  have HINT := Lib.hid hint; clear hint
  go_wp2_with fail
  refine (HRN.out _ (HK3.out.alloc _)).mono ?_
  rintro e w4 ⟨A', n', c', B', m', d', rfl, hrow', hint', hk⟩
  have hka := ((Kept.refl NoF w3).alloc _).then hk
  have hk4 := HK3.out.then hka
  have hh := HH3.out.kept hka (fun x => x)
  have hx := (Has.new w3 63 #[.int .i64 Nep, .slice A n c, .int .u64 Nfl]).kept hk (fun x => x)
  have hrow := HROW.out.kept hka
  have hint := HINT.out.kept hka
  clear e0 e1 e2 hk hka
  clear HROW HINT
  have HH4 := Lib.hid (hh.alloc (.cells #[.int .i64 Nep, .slice A' n' c', .int .u64 Nfl] 63)); clear hh HH3
  have HX4 := Lib.hid (hx.alloc (.cells #[.int .i64 Nep, .slice A' n' c', .int .u64 Nfl] 63)); clear hx
  have HY4 := Lib.hid (Has.new w4 63 #[.int .i64 Nep, .slice A' n' c', .int .u64 Nfl])
  have HROW := Lib.hid (hrow.kept ((Kept.refl NoF w4).alloc (.cells #[.int .i64 Nep, .slice A' n' c', .int .u64 Nfl] 63))); clear hrow
  have HINT := Lib.hid (hint.kept ((Kept.refl NoF w4).alloc (.cells #[.int .i64 Nep, .slice A' n' c', .int .u64 Nfl] 63))); clear hint
  have HROW' := Lib.hid (hrow'.kept ((Kept.refl NoF w4).alloc (.cells #[.int .i64 Nep, .slice A' n' c', .int .u64 Nfl] 63))); clear hrow'
  have HINT' := Lib.hid (hint'.kept ((Kept.refl NoF w4).alloc (.cells #[.int .i64 Nep, .slice A' n' c', .int .u64 Nfl] 63))); clear hint'
  have HK4 := Lib.hid (hk4.alloc (.cells #[.int .i64 Nep, .slice A' n' c', .int .u64 Nfl] 63)); clear hk4 HK3 HPN HRN
  go_wp2_with fail
  generalize w4.alloc (.cells #[.int .i64 Nep, .slice A' n' c', .int .u64 Nfl] 63) = w5 at *
  have hsm := fun W (hW : Kept NoF w5 W) => rsame_eq W Nep Nfl A A' n n' c c' Nl HROW.out.1 HROW'.out.1 ((HROW.out.kept hW).src) ((HROW'.out.kept hW).src) hNl
  have hsi := fun W (hW : Kept NoF w5 W) => sameints_two W B B' m m' d d' Nt HINT.out.1 HINT'.out.1 ((HINT.out.kept hW).src) ((HINT'.out.kept hW).src) hNt
  have HSM := Lib.hid hsm; clear hsm
  have HSI := Lib.hid hsi; clear hsi
  clear HROW HROW' HINT HINT'
  have hcs : ∀ W, Kept NoF w5 W → W.cell? ⟨w3.heap.size, 0, none⟩ = some (.int .i64 Nep) ∧ W.cell? ⟨w3.heap.size, 1, none⟩ = some (.slice A n c) ∧ W.cell? ⟨w3.heap.size, 2, none⟩ = some (.int .u64 Nfl) ∧ W.cell? ⟨w4.heap.size, 0, none⟩ = some (.int .i64 Nep) ∧ W.cell? ⟨w4.heap.size, 1, none⟩ = some (.slice A' n' c') ∧ W.cell? ⟨w4.heap.size, 2, none⟩ = some (.int .u64 Nfl) ∧ W.cell? ⟨w.heap.size, 2, none⟩ = some (.int .u64 fl) :=
    fun W hW => ⟨(HX4.out.kept hW (fun x => x)).cell 0, (HX4.out.kept hW (fun x => x)).cell 1, (HX4.out.kept hW (fun x => x)).cell 2, (HY4.out.kept hW (fun x => x)).cell 0, (HY4.out.kept hW (fun x => x)).cell 1, (HY4.out.kept hW (fun x => x)).cell 2, (HH4.out.kept hW (fun x => x)).cell 2⟩
  obtain ⟨q0, q1, q2, q3, q4, q5, q6⟩ := hcs w5 (Kept.refl _ _)
  have HCS := Lib.hid hcs; clear hcs HX4 HY4 HH4
  go_region_held3 (fun W => W.cell? ⟨w3.heap.size, 0, none⟩ = some (.int .i64 Nep) ∧ W.cell? ⟨w3.heap.size, 1, none⟩ = some (.slice A n c) ∧ W.cell? ⟨w3.heap.size, 2, none⟩ = some (.int .u64 Nfl) ∧ W.cell? ⟨w4.heap.size, 0, none⟩ = some (.int .i64 Nep) ∧ W.cell? ⟨w4.heap.size, 1, none⟩ = some (.slice A' n' c') ∧ W.cell? ⟨w4.heap.size, 2, none⟩ = some (.int .u64 Nfl) ∧ W.cell? ⟨w.heap.size, 2, none⟩ = some (.int .u64 fl))
    (first | exact ⟨q0, q1, q2, q3, q4, q5, q6⟩ | exact e2 | exact e3 | exact e4 | (simp [go_sem, q0, q1, q2, q3, q4, q5, q6]; done))
    (first
      | (go_at_call 38; refine (HSM.out _ (by (repeat' (first | with_reducible exact Kept.refl _ _ | with_reducible refine Kept.put ?_ ?_ | with_reducible refine Kept.drewN ?_ _ | with_reducible refine Kept.drew ?_ | with_reducible refine Kept.alloc ?_ _ | (fail) | (right; simp; done))))).mono ?_; rintro e w6 ⟨rfl, hk6⟩; have p6 : Kept NoF w5 w6 := Kept.then (by (repeat' (first | with_reducible exact Kept.refl _ _ | with_reducible refine Kept.put ?_ ?_ | with_reducible refine Kept.drewN ?_ _ | with_reducible refine Kept.drew ?_ | with_reducible refine Kept.alloc ?_ _ | (fail) | (right; simp; done)))) hk6; have e2 := HCS.out w6 p6)
      | (go_at_call 39; refine (HSI.out _ (by (repeat' (first | with_reducible exact Kept.refl _ _ | with_reducible refine Kept.put ?_ ?_ | with_reducible refine Kept.drewN ?_ _ | with_reducible refine Kept.drew ?_ | with_reducible refine Kept.alloc ?_ _ | (with_reducible exact p6) | (right; simp; done))))).mono ?_; rintro e w7 ⟨rfl, hk7⟩; have p7 : Kept NoF w5 w7 := Kept.then (by (repeat' (first | with_reducible exact Kept.refl _ _ | with_reducible refine Kept.put ?_ ?_ | with_reducible refine Kept.drewN ?_ _ | with_reducible refine Kept.drew ?_ | with_reducible refine Kept.alloc ?_ _ | (with_reducible exact p6) | (right; simp; done)))) hk7; have e3 := HCS.out w7 p7)
      | (go_at_call 40; refine (HF1.out _).mono ?_; rintro e w' ⟨rfl, rfl⟩)
      | (go_at_call 41; refine (HF2.out _).mono ?_; rintro e w' ⟨rfl, rfl⟩)
      | (go_at_call 35; refine (awake_any _).mono ?_; rintro e w8 ⟨rfl, hk8⟩; have p8 : Kept NoF w5 w8 := Kept.then (by (repeat' (first | with_reducible exact Kept.refl _ _ | with_reducible refine Kept.put ?_ ?_ | with_reducible refine Kept.drewN ?_ _ | with_reducible refine Kept.drew ?_ | with_reducible refine Kept.alloc ?_ _ | (with_reducible exact p7) | (right; simp; done)))) hk8; have e4 := HCS.out w8 p8))
  go_wp2
  go_ret
  exact ⟨rfl, (HK4.out.then p8).below (Nat.le_refl _) (fun _ x => x.elim)⟩
end Plan
end Go.Proofs.Ytnmlemciiigjcaa
