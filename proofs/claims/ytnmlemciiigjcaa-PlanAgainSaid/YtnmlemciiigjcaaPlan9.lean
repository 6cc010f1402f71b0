/- PlanAgain: the law's walk. -/
import Derived.Test.YtnmlemciiigjcaaPlan7
import Derived.Deep.RegionHeld3
set_option linter.unusedSimpArgs false
set_option linter.unusedVariables false
namespace Go.Proofs.Ytnmlemciiigjcaa
open Go.RowKit Go.Shelf Go.Maps
set_option maxRecDepth 100000
namespace Plan
set_option maxHeartbeats 8000000 in
theorem law_again (w : World) (ep fl : Int) (A0 A1 A2 A3 : Option Addr) (c0 c1 c2 c3 : Nat) (l j : List Mem) (t g : List Int) (last : Int) (hl : Src w 2 A0 l.length (mcells l)) (ht : Src w 1 A1 t.length (ints t)) (hg : Src w 1 A2 g.length (ints g)) (hj : Src w 2 A3 j.length (mcells j))
    (hcap : l.length ≤ c0) (hcm : c0 ≤ maxLen) (hcap1 : t.length ≤ c1) (hcm1 : c1 ≤ maxLen) (hcap2 : g.length ≤ c2) (hcm2 : c2 ≤ maxLen) (hcap3 : j.length ≤ c3) (hcm3 : c3 ≤ maxLen) (hfl : 0 ≤ fl ∧ fl ≤ maxTs) (hla : 0 ≤ last ∧ last ≤ maxTs)
    (hti : ∀ x ∈ t, I64 x) (hgi : ∀ x ∈ g, I64 x) (hli : ∀ m ∈ l, I64 m.1) (hji : ∀ m ∈ j, I64 m.1) :
    Calls Try.prog 10 #[cagg ep A0 l.length c0 fl, .slice A1 t.length c1, .slice A2 g.length c2, .slice A3 j.length c3, .int .u64 last] w fun e w' => e = .returned (.bool true) ∧ Below w.heap.size w w' := by
  unfold maxLen at hcm hcm1 hcm2 hcm3
  have hlo := fun W => long_any W ep fl A0 A1 A2 A3 l.length t.length g.length j.length c0 c1 c2 c3 (by omega) (by omega) (by omega) (by omega)
  obtain ⟨lb, hlb⟩ : ∃ lb, longB l.length t.length g.length j.length = lb := ⟨_, rfl⟩
  rw [hlb] at hlo
  have HLO := Lib.hid hlo; clear hlo
  cases lb
  rotate_left
  · clear hlb hl ht hg hj
    go_enter Try.func10, Try.ntmps10
    go_wp2_with fail
    refine (HLO.out _).mono ?_
    rintro e w2 ⟨rfl, hk⟩
    have hk2 := Kept.then (a := w) (by (repeat' (first | with_reducible exact Kept.refl _ _ | with_reducible refine Kept.put ?_ ?_ | with_reducible refine Kept.drewN ?_ _ | with_reducible refine Kept.drew ?_ | with_reducible refine Kept.alloc ?_ _ | (fail) | (right; simp; done)))) hk
    have HK2 := Lib.hid hk2; clear hk2 hk
    go_wp2_with fail
    refine (awake_any _).mono ?_
    rintro e w3 ⟨rfl, hk⟩
    have hk3 := HK2.out.then hk
    have HK3 := Lib.hid hk3; clear hk3 hk
    go_wp2
    go_ret
    exact ⟨rfl, HK3.out.below (Nat.le_refl _) (fun _ x => x.elim)⟩
  have hlens : l.length ≤ 20 ∧ t.length ≤ 20 ∧ g.length ≤ 20 ∧ j.length ≤ 20 := by
    unfold longB at hlb
    simp at hlb
    omega
  obtain ⟨hl0, hl1, hl2, hl3⟩ := hlens
  clear hlb
  have hpn := fun W (hW : Kept NoF w W) => pnext_any W ep fl A0 A1 A2 A3 c0 c1 c2 c3 l j t g last (hl.kept hW (fun _ _ x => x)) (ht.kept hW (fun _ _ x => x)) (hg.kept hW (fun _ _ x => x)) (hj.kept hW (fun _ _ x => x)) (by omega) (by omega) (by omega) (by omega) hfl hla hcap hcm hti hgi hli
  have hnl := next_len ep l fl t g j last
  have hIs := fun h => next_is (ep := ep) (c := l) (fl := fl) (t := t) (g := g) (j := j) (last := last) h
  have hBad := fun h => next_bad (ep := ep) (c := l) (fl := fl) (t := t) (g := g) (j := j) (last := last) h
  obtain ⟨N, hN⟩ : ∃ N, nextOf ep l fl t g j last = N := ⟨_, rfl⟩
  rw [hN] at hpn hnl hIs hBad
  have HLI := Lib.hid hli
  have HJI := Lib.hid hji
  have HLA := Lib.hid hla
  clear hN hti hgi hli hji hla hcap hcap1 hcap2 hcap3
  have HPN := Lib.hid hpn; clear hpn
  have hNl : N.l.length ≤ 1000 := by omega
  have hNt : N.t.length ≤ 1000 := by omega
  clear hnl
  have HIS := Lib.hid hIs; clear hIs
  have HBAD := Lib.hid hBad; clear hBad
  have HFL := Lib.hid hfl; clear hfl
  have HL := Lib.hid hl; clear hl
  have HT := Lib.hid ht; clear ht
  have HG := Lib.hid hg; clear hg
  have HJ := Lib.hid hj; clear hj
  have HN0 := Lib.hid (Has.new w 63 #[.int .i64 ep, .slice A0 l.length c0, .int .u64 fl])
  by_cases hz : N.e = 0
  rotate_left
  · obtain ⟨b1, b2, b3, b4⟩ := HBAD.out hz
    clear HBAD HIS
    obtain ⟨Ne, Nep, Nl, Nfl, Nt⟩ := N
    dsimp only at b1 b2 b3 b4 hz
    subst b1
    subst b2
    subst b3
    subst b4
    unfold NextPost nagg at HPN
    dsimp only at HPN hNl hNt
    have hz1 : (Ne != 0) = true := by simpa using hz
    have hz2 : (Ne == 0) = false := by simpa using hz
    clear hz
    go_enter Try.func10, Try.ntmps10
    go_wp2_with fail
    refine (HLO.out _).mono ?_
    rintro e w2 ⟨rfl, hk⟩
    have hh := HN0.out.kept hk (fun x => x)
    have hk2 := Kept.then (a := w) (by (repeat' (first | with_reducible exact Kept.refl _ _ | with_reducible refine Kept.put ?_ ?_ | with_reducible refine Kept.drewN ?_ _ | with_reducible refine Kept.drew ?_ | with_reducible refine Kept.alloc ?_ _ | (fail) | (right; simp; done)))) hk
    have e0 : w2.cell? ⟨w.heap.size, 0, none⟩ = some (.int .i64 ep) := hh.cell 0
    have e1 : w2.cell? ⟨w.heap.size, 1, none⟩ = some (.slice A0 l.length c0) := hh.cell 1
    have e2 : w2.cell? ⟨w.heap.size, 2, none⟩ = some (.int .u64 fl) := hh.cell 2
    have HH2 := Lib.hid hh; clear hh
    have HK2 := Lib.hid hk2; clear hk2 hk HLO HN0
    go_wp2_with fail
    refine (HPN.out _ HK2.out).mono ?_
    rintro e w3 ⟨A, n, c, B, m, d, rfl, hrow, hint, hk⟩
    obtain rfl : n = 0 := hrow.1
    obtain rfl : m = 0 := hint.1
    have hk3 := HK2.out.then hk
    clear e0 e1 e2 hrow hint
    have HK3 := Lib.hid hk3; clear hk3 hk HK2
    go_wp2_with fail
    refine (awake_any _).mono ?_
    rintro e w4 ⟨rfl, hk⟩
    have hk3 := (HK3.out.alloc _).then hk
    have HK4 := Lib.hid hk3; clear hk3 hk
    go_wp2
    go_ret
    exact ⟨rfl, HK4.out.below (Nat.le_refl _) (fun _ x => x.elim)⟩
  have his := HIS.out hz
  have hagain := his.again
  have hep := his.epv
  have hmx := his.maxv
  have hep1 := (chk_zero his.chkc).1.1
  have hflv := his.flv
  have hff := floor_floor fl last HLA.out.2 HFL.out.2
  have hflr : 0 ≤ floorOf fl last ∧ floorOf fl last ≤ maxTs := by
    have := HFL.out
    have := HLA.out
    unfold floorOf
    split <;> omega
  have hNtI : ∀ x ∈ N.t, I64 x := by
    intro x hx
    rw [his.tv, mem_ids] at hx
    obtain ⟨m, hm, rfl⟩ := hx
    exact HLI.out m (List.mem_filter.1 hm).1
  have hNlI : ∀ m ∈ N.l, I64 m.1 := by
    intro m hm
    by_cases hj' : m ∈ j
    · exact HJI.out m hj'
    · exact HLI.out m (his.stays hm hj').1
  clear HBAD HIS his
  obtain ⟨Ne, Nep, Nl, Nfl, Nt⟩ := N
  dsimp only at hz hagain hep hflv hNtI hNlI hNl hNt
  subst hz
  subst hep
  rw [← hflv] at hff hflr
  clear hflv
  unfold NextPost nagg at HPN
  dsimp only at HPN
  have hfo := fun W => pfloor_any W Nfl last hflr HLA.out
  rw [hff] at hfo
  have HFO := Lib.hid hfo; clear hfo hff
  have HNTI := Lib.hid hNtI; clear hNtI
  have HNLI := Lib.hid hNlI; clear hNlI
  have HAG := Lib.hid hagain; clear hagain
  have HFLR := Lib.hid hflr; clear hflr
  clear HG HT HJ HLI HJI
  go_enter Try.func10, Try.ntmps10
  go_wp2_with fail
  refine (HLO.out _).mono ?_
  rintro e w2 ⟨rfl, hk⟩
  have hh := HN0.out.kept hk (fun x => x)
  have hk2 := Kept.then (a := w) (by (repeat' (first | with_reducible exact Kept.refl _ _ | with_reducible refine Kept.put ?_ ?_ | with_reducible refine Kept.drewN ?_ _ | with_reducible refine Kept.drew ?_ | with_reducible refine Kept.alloc ?_ _ | (fail) | (right; simp; done)))) hk
  have e0 : w2.cell? ⟨w.heap.size, 0, none⟩ = some (.int .i64 ep) := hh.cell 0
  have e1 : w2.cell? ⟨w.heap.size, 1, none⟩ = some (.slice A0 l.length c0) := hh.cell 1
  have e2 : w2.cell? ⟨w.heap.size, 2, none⟩ = some (.int .u64 fl) := hh.cell 2
  clear hh
  have HK2 := Lib.hid hk2; clear hk2 hk HLO HN0
  go_wp2_with fail
  refine (HPN.out _ HK2.out).mono ?_
  rintro e w3 ⟨A, n, c, B, m, d, rfl, hrow, hint, hk⟩
  have hk3 := HK2.out.then hk
  clear e0 e1 e2 hk HPN
  have HX3 := Lib.hid (Has.new w3 63 #[.int .i64 (ep + 1), .slice A n c, .int .u64 Nfl])
  have HROW := Lib.hid (hrow.kept ((Kept.refl NoF w3).alloc (.cells #[.int .i64 (ep + 1), .slice A n c, .int .u64 Nfl] 63))); clear hrow
  have HINT := Lib.hid (hint.kept ((Kept.refl NoF w3).alloc (.cells #[.int .i64 (ep + 1), .slice A n c, .int .u64 Nfl] 63))); clear hint
  have HK3 := Lib.hid (hk3.alloc (.cells #[.int .i64 (ep + 1), .slice A n c, .int .u64 Nfl] 63)); clear hk3 HK2
  have hcap := own_cap HROW.out.2.1
  unfold maxLen at hcap
  have hpn := pnext_any (w3.alloc (.cells #[.int .i64 (ep + 1), .slice A n c, .int .u64 Nfl] 63)) (ep + 1) Nfl A B none none c d 0 0 Nl [] Nt [] last HROW.out.src HINT.out.src (Src.nil _ _ _) (Src.nil _ _ _) (by omega) (by omega) (by decide) (by decide) HFLR.out HLA.out (by rw [← HROW.out.1]; omega) (by omega) HNTI.out (fun x hx => by cases hx) HNLI.out
  rw [HAG.out, ← HROW.out.1, ← HINT.out.1] at hpn
  unfold NextPost nagg at hpn
  dsimp only at hpn
  have HPN := Lib.hid hpn; clear hpn hcap HROW HINT
  go_wp2_with fail
  refine HPN.out.mono ?_
  rintro e w4 ⟨A', n', c', B', m', d', rfl, -, -, hk⟩
  have hx := HX3.out.kept hk (fun x => x)
  have hk4 := HK3.out.then hk
  have HX4 := Lib.hid (hx.alloc (.cells #[.int .i64 0, .slice A' n' c', .int .u64 0] 63)); clear hx HX3
  have HK4 := Lib.hid (hk4.alloc (.cells #[.int .i64 0, .slice A' n' c', .int .u64 0] 63)); clear hk4 hk HK3 HPN
  go_wp2_with fail
  generalize w4.alloc (.cells #[.int .i64 0, .slice A' n' c', .int .u64 0] 63) = w5 at *
  have q2 : w5.cell? ⟨w3.heap.size, 2, none⟩ = some (.int .u64 Nfl) := HX4.out.cell 2
  have HX5 := HX4; clear HX4
  go_region_held3 (fun W => W.cell? ⟨w3.heap.size, 2, none⟩ = some (.int .u64 Nfl)) (first | exact q2 | exact e4 | (simp [go_sem, q2]; done))
    (first
      | (go_at_call 40; refine (HFO.out _).mono ?_; rintro e w' ⟨rfl, rfl⟩)
      | (go_at_call 35; refine (awake_any _).mono ?_; rintro e w8 ⟨rfl, hk8⟩; have p8 : Kept NoF w5 w8 := Kept.then (by (repeat' (first | with_reducible exact Kept.refl _ _ | with_reducible refine Kept.put ?_ ?_ | with_reducible refine Kept.drewN ?_ _ | with_reducible refine Kept.drew ?_ | with_reducible refine Kept.alloc ?_ _ | (fail) | (right; simp; done)))) hk8; have e4 := (HX5.out.kept p8 (fun x => x)).cell 2))
  go_wp2
  go_ret
  exact ⟨rfl, (HK4.out.then p8).below (Nat.le_refl _) (fun _ x => x.elim)⟩
end Plan
end Go.Proofs.Ytnmlemciiigjcaa
