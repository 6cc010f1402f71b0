/- PlanHead: the law's walk. -/
import Derived.Test.YtnmlemciiigjcaaPlan7
import Derived.Deep.DeepCutAuto
import Derived.Deep.CutBlock
set_option linter.unusedSimpArgs false
set_option linter.unusedVariables false
namespace Go.Proofs.Ytnmlemciiigjcaa
open Go.RowKit Go.Shelf Go.Maps
set_option maxRecDepth 100000
namespace Plan
set_option maxHeartbeats 8000000 in
theorem law_head (w : World) (ep fl : Int) (A0 A1 A2 A3 : Option Addr) (c0 c1 c2 c3 : Nat) (l j : List Mem) (t g : List Int) (last : Int) (hl : Src w 2 A0 l.length (mcells l)) (ht : Src w 1 A1 t.length (ints t)) (hg : Src w 1 A2 g.length (ints g)) (hj : Src w 2 A3 j.length (mcells j))
    (hcap : l.length ≤ c0) (hcm : c0 ≤ maxLen) (hcap1 : t.length ≤ c1) (hcm1 : c1 ≤ maxLen) (hcap2 : g.length ≤ c2) (hcm2 : c2 ≤ maxLen) (hcap3 : j.length ≤ c3) (hcm3 : c3 ≤ maxLen) (hfl : 0 ≤ fl ∧ fl ≤ maxTs) (hla : 0 ≤ last ∧ last ≤ maxTs)
    (hti : ∀ x ∈ t, I64 x) (hgi : ∀ x ∈ g, I64 x) (hli : ∀ m ∈ l, I64 m.1) (hji : ∀ m ∈ j, I64 m.1) :
    Calls Try.prog 9 #[cagg ep A0 l.length c0 fl, .slice A1 t.length c1, .slice A2 g.length c2, .slice A3 j.length c3, .int .u64 last] w fun e w' => e = .returned (.bool true) ∧ Below w.heap.size w w' := by
  unfold maxLen at hcm hcm1 hcm2 hcm3
  have hlo := fun W => long_any W ep fl A0 A1 A2 A3 l.length t.length g.length j.length c0 c1 c2 c3 (by omega) (by omega) (by omega) (by omega)
  obtain ⟨lb, hlb⟩ : ∃ lb, longB l.length t.length g.length j.length = lb := ⟨_, rfl⟩
  rw [hlb] at hlo
  have HLO := Lib.hid hlo; clear hlo
  cases lb
  rotate_left
  · clear hlb hl ht hg hj
    go_enter Try.func9, Try.ntmps9
    go_wp2_with fail
    refine (HLO.out _).mono ?_
    rintro e w2 ⟨rfl, hk⟩
    have hk2 := Kept.then (a := w) (by (repeat' (first | with_reducible exact Kept.refl _ _ | with_reducible refine Kept.put ?_ ?_ | with_reducible refine Kept.drewN ?_ _ | with_reducible refine Kept.drew ?_ | with_reducible refine Kept.alloc ?_ _ | (fail) | (right; simp; done)))) hk
    have HK2 := Lib.hid hk2; clear hk2 hk
    go_wp2_with fail
    refine (awake_any _).mono ?_
    rintro e w3 ⟨rfl, hk⟩
    have hk3 := HK2.out.then hk
    have HK3 := Lib.hid hk3; clear hk3 hk
    go_wp2
    go_ret
    exact ⟨rfl, HK3.out.below (Nat.le_refl _) (fun _ x => x.elim)⟩
  have hlens : l.length ≤ 20 ∧ t.length ≤ 20 ∧ g.length ≤ 20 ∧ j.length ≤ 20 := by
    unfold longB at hlb
    simp at hlb
    omega
  obtain ⟨hl0, hl1, hl2, hl3⟩ := hlens
  clear hlb
  have hpn := fun W (hW : Kept NoF w W) => pnext_any W ep fl A0 A1 A2 A3 c0 c1 c2 c3 l j t g last (hl.kept hW (fun _ _ x => x)) (ht.kept hW (fun _ _ x => x)) (hg.kept hW (fun _ _ x => x)) (hj.kept hW (fun _ _ x => x)) (by omega) (by omega) (by omega) (by omega) hfl hla hcap hcm hti hgi hli
  have hnl := next_len ep l fl t g j last
  have hIs := fun h => next_is (ep := ep) (c := l) (fl := fl) (t := t) (g := g) (j := j) (last := last) h
  have hBad := fun h => next_bad (ep := ep) (c := l) (fl := fl) (t := t) (g := g) (j := j) (last := last) h
  obtain ⟨N, hN⟩ : ∃ N, nextOf ep l fl t g j last = N := ⟨_, rfl⟩
  rw [hN] at hpn hnl hIs hBad
  clear hN hti hgi hli hji hla hcap hcap1 hcap2 hcap3
  have HPN := Lib.hid hpn; clear hpn
  have hNl : N.l.length ≤ 1000 := by omega
  have hNt : N.t.length ≤ 1000 := by omega
  clear hnl
  have HIS := Lib.hid hIs; clear hIs
  have HBAD := Lib.hid hBad; clear hBad
  have HFL := Lib.hid hfl; clear hfl
  have HL := Lib.hid hl; clear hl
  have HT := Lib.hid ht; clear ht
  have HG := Lib.hid hg; clear hg
  have HJ := Lib.hid hj; clear hj
  have HN0 := Lib.hid (Has.new w 63 #[.int .i64 ep, .slice A0 l.length c0, .int .u64 fl])
  by_cases hz : N.e = 0
  rotate_left
  · obtain ⟨b1, b2, b3, b4⟩ := HBAD.out hz
    clear HBAD HIS
    obtain ⟨Ne, Nep, Nl, Nfl, Nt⟩ := N
    dsimp only at b1 b2 b3 b4 hz
    subst b1
    subst b2
    subst b3
    subst b4
    unfold NextPost nagg at HPN
    dsimp only at HPN hNl hNt
    have hz1 : (Ne != 0) = true := by simpa using hz
    have hz2 : (Ne == 0) = false := by simpa using hz
    clear hz
    go_enter Try.func9, Try.ntmps9
    go_wp2_with fail
    refine (HLO.out _).mono ?_
    rintro e w2 ⟨rfl, hk⟩
    have hh := HN0.out.kept hk (fun x => x)
    have hk2 := Kept.then (a := w) (by (repeat' (first | with_reducible exact Kept.refl _ _ | with_reducible refine Kept.put ?_ ?_ | with_reducible refine Kept.drewN ?_ _ | with_reducible refine Kept.drew ?_ | with_reducible refine Kept.alloc ?_ _ | (fail) | (right; simp; done)))) hk
    have e0 : w2.cell? ⟨w.heap.size, 0, none⟩ = some (.int .i64 ep) := hh.cell 0
    have e1 : w2.cell? ⟨w.heap.size, 1, none⟩ = some (.slice A0 l.length c0) := hh.cell 1
    have e2 : w2.cell? ⟨w.heap.size, 2, none⟩ = some (.int .u64 fl) := hh.cell 2
    have HH2 := Lib.hid hh; clear hh
    have HK2 := Lib.hid hk2; clear hk2 hk HLO HN0
    go_wp2_with fail
    refine (HPN.out _ HK2.out).mono ?_
    rintro e w3 ⟨A, n, c, B, m, d, rfl, hrow, hint, hk⟩
    obtain rfl : n = 0 := hrow.1
    obtain rfl : m = 0 := hint.1
    have hk3 := HK2.out.then hk
    clear e0 e1 e2 hrow hint
    have HK3 := Lib.hid hk3; clear hk3 hk HK2
    go_wp2_with fail
    refine (awake_any _).mono ?_
    rintro e w4 ⟨rfl, hk⟩
    have hk3 := (HK3.out.alloc _).then hk
    have HK4 := Lib.hid hk3; clear hk3 hk
    go_wp2
    go_ret
    exact ⟨rfl, HK4.out.below (Nat.le_refl _) (fun _ x => x.elim)⟩
  have his := HIS.out hz
  have hchk := his.chk
  have hep := his.epv
  have hfloor := his.floor HFL.out.2
  obtain ⟨hd, rr, hhd, hhdt⟩ := his.head
  have hnt := his.t_ne
  have hrise := his.rise
  have hmem : ∀ m ∈ N.l, m.1 ∈ N.t → m ∈ l ∧ m.1 ∈ t ∧ m.1 ∉ g := fun m hm ht => his.trusted hm ht
  have hstay : ∀ m ∈ N.l, m ∉ j → m ∈ l ∧ m.1 ∉ g := fun m hm hj => his.stays hm hj
  have hmx := his.maxv
  have hep1 := (chk_zero his.chkc).1.1
  clear HBAD HIS his
  obtain ⟨Ne, Nep, Nl, Nfl, Nt⟩ := N
  dsimp only at hz hchk hep hfloor hhd hhdt hnt hrise hmem hstay hNl hNt
  subst hz
  subst hep
  unfold NextPost nagg at HPN
  dsimp only at HPN
  have hin1 : inB Nt hd.1 = true := by unfold inB; simpa using hhdt
  have hntl : Nt.length ≠ 0 := fun e => hnt (List.eq_nil_of_length_eq_zero e)
  clear hnt hhdt
  have HMEM := Lib.hid hmem; clear hmem
  have HSTAY := Lib.hid hstay; clear hstay
  have HRISE := Lib.hid hrise; clear hrise
  have HCHK := Lib.hid hchk; clear hchk
  have HHD := Lib.hid hhd; clear hhd
  have HIN1 := Lib.hid hin1; clear hin1
  go_enter Try.func9, Try.ntmps9
  go_wp2_with fail
  refine (HLO.out _).mono ?_
  rintro e w2 ⟨rfl, hk⟩
  have hh := HN0.out.kept hk (fun x => x)
  have hk2 := Kept.then (a := w) (by (repeat' (first | with_reducible exact Kept.refl _ _ | with_reducible refine Kept.put ?_ ?_ | with_reducible refine Kept.drewN ?_ _ | with_reducible refine Kept.drew ?_ | with_reducible refine Kept.alloc ?_ _ | (fail) | (right; simp; done)))) hk
  have e0 : w2.cell? ⟨w.heap.size, 0, none⟩ = some (.int .i64 ep) := hh.cell 0
  have e1 : w2.cell? ⟨w.heap.size, 1, none⟩ = some (.slice A0 l.length c0) := hh.cell 1
  have e2 : w2.cell? ⟨w.heap.size, 2, none⟩ = some (.int .u64 fl) := hh.cell 2
  have HH2 := Lib.hid hh; clear hh
  have HK2 := Lib.hid hk2; clear hk2 hk HLO HN0
  go_wp2_with fail
  refine (HPN.out _ HK2.out).mono ?_
  rintro e w3 ⟨A, n, c, B, m, d, rfl, hrow, hint, hk⟩
  have hk3 := HK2.out.then hk
  have hh := HH2.out.kept hk (fun x => x)
  clear e0 e1 e2 hk HPN
  have HX3 := Lib.hid (Has.new w3 63 #[.int .i64 (ep + 1), .slice A n c, .int .u64 Nfl])
  have HH3 := Lib.hid (hh.alloc (.cells #[.int .i64 (ep + 1), .slice A n c, .int .u64 Nfl] 63)); clear hh HH2
  have HROW := Lib.hid (hrow.kept ((Kept.refl NoF w3).alloc (.cells #[.int .i64 (ep + 1), .slice A n c, .int .u64 Nfl] 63))); clear hrow
  have HINT := Lib.hid (hint.kept ((Kept.refl NoF w3).alloc (.cells #[.int .i64 (ep + 1), .slice A n c, .int .u64 Nfl] 63))); clear hint
  have HK3 := Lib.hid (hk3.alloc (.cells #[.int .i64 (ep + 1), .slice A n c, .int .u64 Nfl] 63)); clear hk3 HK2
  have hrc := fun W (hW : Kept NoF (w3.alloc (.cells #[.int .i64 (ep + 1), .slice A n c, .int .u64 Nfl] 63)) W) => rcheck_any W (ep + 1) Nfl A c Nl ((HROW.out.kept hW).src) (by omega)
  rw [← HROW.out.1, HCHK.out] at hrc
  have hrh := fun W (hW : Kept NoF (w3.alloc (.cells #[.int .i64 (ep + 1), .slice A n c, .int .u64 Nfl] 63)) W) => rhead_any W (ep + 1) Nfl A c Nl hd rr HHD.out ((HROW.out.kept hW).src) (by omega)
  rw [← HROW.out.1] at hrh
  have hin := fun W (hW : Kept NoF (w3.alloc (.cells #[.int .i64 (ep + 1), .slice A n c, .int .u64 Nfl] 63)) W) (x : Int) => in_any W B d Nt x ((HINT.out.kept hW).src) (by omega)
  rw [← HINT.out.1] at hin
  have HRC := Lib.hid hrc; clear hrc
  have HRH := Lib.hid hrh; clear hrh
  have HIN := Lib.hid hin; clear hin
  have hmz : m ≠ 0 := by rw [HINT.out.1]; exact hntl
  have hm0 : ((m : Int) == 0) = false := by rw [beq_eq_false_iff_ne]; omega
  have hnlen : n ≤ 1000 := by rw [HROW.out.1]; exact hNl
  have hmlen : m ≤ 1000 := by rw [HINT.out.1]; exact hNt
  clear hntl hmz
  have y0 : (w3.alloc (.cells #[.int .i64 (ep + 1), .slice A n c, .int .u64 Nfl] 63)).cell? ⟨w.heap.size, 0, none⟩ = some (.int .i64 ep) := HH3.out.cell 0
  go_wp2_with fail
  refine (HRC.out _ (Kept.refl _ _)).mono ?_
  rintro e w4 ⟨rfl, hk⟩
  have y0' : w4.cell? ⟨w.heap.size, 0, none⟩ = some (.int .i64 ep) := (HH3.out.kept hk (fun x => x)).cell 0
  have y2' : w4.cell? ⟨w.heap.size, 2, none⟩ = some (.int .u64 fl) := (HH3.out.kept hk (fun x => x)).cell 2
  have x0' : w4.cell? ⟨w3.heap.size, 0, none⟩ = some (.int .i64 (ep + 1)) := (HX3.out.kept hk (fun x => x)).cell 0
  have x1' : w4.cell? ⟨w3.heap.size, 1, none⟩ = some (.slice A n c) := (HX3.out.kept hk (fun x => x)).cell 1
  have x2' : w4.cell? ⟨w3.heap.size, 2, none⟩ = some (.int .u64 Nfl) := (HX3.out.kept hk (fun x => x)).cell 2
  have HK4 := Lib.hid hk; clear hk y0
  have heq1 : (ep + 1 == ep + 1) = true := by simp
  have heq2 : (ep + 1 != ep + 1) = false := by simp
  have hnfl : ¬ Nfl < fl := by omega
  go_wp2_with fail
  refine (HRH.out _ HK4.out).mono ?_
  rintro e w5 ⟨rfl, hk⟩
  have hk5 := HK4.out.then hk
  have HK5 := Lib.hid hk5; clear hk5 hk HK4 y0' y2' x0' x1' x2' heq1 heq2
  have hi1 := HIN.out w5 HK5.out hd.1
  rw [HIN1.out] at hi1
  have HI1 := Lib.hid hi1; clear hi1
  go_wp2_with fail
  refine HI1.out.mono ?_
  rintro e w6 ⟨rfl, rfl⟩
  have HHW := Lib.hid (HH3.out.kept HK5.out (fun x => x))
  have HXW := Lib.hid (HX3.out.kept HK5.out (fun x => x))
  have HROWW := Lib.hid (HROW.out.kept HK5.out)
  have HINTW := Lib.hid (HINT.out.kept HK5.out)
  have HKW := Lib.hid (HK3.out.then HK5.out)
  have HINW := Lib.hid (fun W (hW : Kept NoF w5 W) x => HIN.out W (HK5.out.then hW) x)
  clear HRC HRH HIN HK5 HH3 HX3 HROW HINT HK3 HI1 HIN1 HCHK HHD
  have hpl := fun W (hW : Kept NoF w5 W) (x : Mem) => rplace_any W ep fl A0 c0 l x (HL.out.kept (HKW.out.then hW) (fun _ _ x => x)) (by omega)
  have hit := fun W (hW : Kept NoF w5 W) (x : Int) => in_any W A1 c1 t x (HT.out.kept (HKW.out.then hW) (fun _ _ x => x)) (by omega)
  have hig := fun W (hW : Kept NoF w5 W) (x : Int) => in_any W A2 c2 g x (HG.out.kept (HKW.out.then hW) (fun _ _ x => x)) (by omega)
  have HPL := Lib.hid hpl; clear hpl
  have HIT := Lib.hid hit; clear hit
  have HIG := Lib.hid hig; clear hig
  go_wp2_with fail
  go_loopw [14] (fun v14 wr => ∃ i : Nat, i ≤ n ∧ v14 = .int .i64 i ∧ Kept NoF w5 wr) (fun v14 _ => n - (intOf v14).toNat)
  case atStart => exact ⟨0, Nat.zero_le _, rfl, Kept.refl _ _⟩
  case round =>
    obtain ⟨i, hi, rfl, hk⟩ := hrel
    have x1 : wr.cell? ⟨w3.heap.size, 1, none⟩ = some (.slice A n c) := (HXW.out.kept hk (fun x => x)).cell 1
    have z0 : ∀ o, (wr.alloc o).cell? ⟨w.heap.size, 0, none⟩ = some (.int .i64 ep) := fun o => ((HHW.out.kept hk (fun x => x)).alloc o).cell 0
    have z1 : ∀ o, (wr.alloc o).cell? ⟨w.heap.size, 1, none⟩ = some (.slice A0 l.length c0) := fun o => ((HHW.out.kept hk (fun x => x)).alloc o).cell 1
    have z2 : ∀ o, (wr.alloc o).cell? ⟨w.heap.size, 2, none⟩ = some (.int .u64 fl) := fun o => ((HHW.out.kept hk (fun x => x)).alloc o).cell 2
    have HK := Lib.hid hk; clear hk
    obtain ⟨wo, hwo⟩ : ∃ wo : World, wo = wr := ⟨_, rfl⟩
    subst hwo
    by_cases hin : i < n
    · obtain ⟨x, hx⟩ : ∃ x, Nl[i]? = some x := ⟨_, List.getElem?_eq_getElem (by rw [← HROWW.out.1]; exact hin)⟩
      obtain ⟨ad, hA, had, d0, d1⟩ := mem_cells ((HROWW.out.kept HK.out).src) (by rw [← HROWW.out.1]; omega) i x hx
      subst hA
      have hxm := List.mem_of_getElem? hx
      have hm1 := HMEM.out x hxm
      have hs1 := HSTAY.out x hxm
      have hp := fun W (hW : Kept NoF w5 W) => HPL.out W hW x
      have h1 := fun W (hW : Kept NoF w5 W) => HINW.out W hW x.1
      have h2 := fun W (hW : Kept NoF w5 W) => HIT.out W hW x.1
      have h3 := fun W (hW : Kept NoF w5 W) => HIG.out W hW x.1
      have hNM := Has.new wo 77 #[.int .i64 x.1, .int .i64 x.2]
      obtain ⟨b1, hb1⟩ : ∃ b, inB Nt x.1 = b := ⟨_, rfl⟩
      obtain ⟨b2, hb2⟩ : ∃ b, inB t x.1 = b := ⟨_, rfl⟩
      obtain ⟨b3, hb3⟩ : ∃ b, inB g x.1 = b := ⟨_, rfl⟩
      obtain ⟨bj, hbj⟩ : ∃ b, decide (x ∈ j) = b := ⟨_, rfl⟩
      rw [hb1] at h1
      rw [hb2] at h2
      rw [hb3] at h3
      have hA1 : b1 = true → x ∈ l ∧ b2 = true ∧ b3 = false := by
        intro e
        rw [e] at hb1
        have h := hm1 (by unfold inB at hb1; simpa using hb1)
        refine ⟨h.1, ?_, ?_⟩
        · rw [← hb2]; unfold inB; simpa using h.2.1
        · rw [← hb3]; unfold inB; simpa using h.2.2
      have hA2 : bj = false → x ∈ l ∧ b3 = false := by
        intro e
        rw [e] at hbj
        have h := hs1 (by simpa using hbj)
        refine ⟨h.1, ?_⟩
        rw [← hb3]; unfold inB; simpa using h.2
      have hjk : ∀ k q, j[k]? = some q → decide (x ∈ j.take (k + 1)) = (decide (x ∈ j.take k) || decide (q = x)) := by
        intro k q hq
        rw [take_snoc hq]
        by_cases e1 : x ∈ j.take k <;> by_cases e2 : x = q <;> simp [e1, e2, eq_comm (a := q) (b := x)]
      have hjend : decide (x ∈ j.take j.length) = bj := by rw [List.take_length]; exact hbj
      clear hm1 hs1 hb1 hb2 hb3 hbj hx hxm
      have hnq := fun q W => run_eql_mem q x W
      obtain ⟨x1', x2'⟩ := x
      unfold magg at hnq hp
      dsimp only at d0 d1 h1 h2 h3 hp hNM hnq
      have HP := Lib.hid hp; clear hp
      have H1 := Lib.hid h1; clear h1
      have H2 := Lib.hid h2; clear h2
      have H3 := Lib.hid h3; clear h3
      have HNM := Lib.hid hNM; clear hNM
      have HA1 := Lib.hid hA1; clear hA1
      have HA2 := Lib.hid hA2; clear hA2
      have HJK := Lib.hid hjk; clear hjk
      have HJE := Lib.hid hjend; clear hjend
      have HNQ := Lib.hid hnq; clear hnq
      go_wp2_with fail
      refine (HP.out _ (HK.out.alloc _)).mono ?_
      rintro e w7 ⟨⟨np, rfl, hnp⟩, hk⟩
      have hk7 := (HK.out.alloc _).then hk
      have hnm := HNM.out.kept hk (fun x => x)
      have HNP := Lib.hid hnp; clear hnp
      have HK7 := Lib.hid hk7; clear hk7 hk z0 z1 z2
      have m0 : w7.cell? ⟨wo.heap.size, 0, none⟩ = some (.int .i64 x1') := hnm.cell 0
      have m1 : w7.cell? ⟨wo.heap.size, 1, none⟩ = some (.int .i64 x2') := hnm.cell 1
      have HNM7 := Lib.hid hnm; clear hnm HNM
      cases b1
      · by_cases hnp0 : 0 ≤ np
        all_goals
          go_wp2_with fail
          refine (H1.out _ HK7.out).mono ?_
          rintro e w8 ⟨rfl, rfl⟩
          go_wp2_with fail
          go_loopw [17, 18] (fun v17 v18 wr => ∃ k : Nat, k ≤ j.length ∧ v18 = .int .i64 k ∧ v17 = .bool (decide ((x1', x2') ∈ j.take k)) ∧ Kept NoF w7 wr) (fun _ v18 _ => j.length - (intOf v18).toNat)
          case atStart => exact ⟨0, Nat.zero_le _, rfl, by simp, Kept.refl _ _⟩
          case round =>
            obtain ⟨k, hkj, rfl, rfl, hk⟩ := hrel
            have m0' : wr.cell? ⟨wo.heap.size, 0, none⟩ = some (.int .i64 x1') := (HNM7.out.kept hk (fun x => x)).cell 0
            have m1' : wr.cell? ⟨wo.heap.size, 1, none⟩ = some (.int .i64 x2') := (HNM7.out.kept hk (fun x => x)).cell 1
            have HKI := Lib.hid hk; clear hk
            by_cases hkl : k < j.length
            · obtain ⟨q, hq⟩ : ∃ q, j[k]? = some q := ⟨_, List.getElem?_eq_getElem hkl⟩
              obtain ⟨jd, hJA, hjd, f0, f1⟩ := mem_cells (HJ.out.kept (HKW.out.then (HK7.out.then HKI.out)) (fun _ _ x => x)) (by omega) k q hq
              have hjk := HJK.out k q hq
              have hneq := HNQ.out q
              obtain ⟨eb, heb⟩ : ∃ eb, decide (q = (x1', x2')) = eb := ⟨_, rfl⟩
              obtain ⟨cb, hcb⟩ : ∃ cb, decide ((x1', x2') ∈ j.take k) = cb := ⟨_, rfl⟩
              rw [heb] at hjk hneq
              rw [hcb] at hjk ⊢
              have HJ2 := Lib.hid hjk; clear hjk hq heb hcb
              obtain ⟨q1, q2⟩ := q
              dsimp only at f0 f1 hneq
              clear m0 m1
              have hsrc : A3 = some jd := hJA
              subst hsrc
              cases cb
              · go_wp2_with fail
                go_quiet (fail)
                go_wp2
                go_roundw
                case rel => exact ⟨k + 1, by omega, by go_num, by rw [HJ2.out]; rfl, HKI.out.drewN _⟩
                case measure => simp [intOf]; omega
              · go_wp2_with fail
                go_quiet (fail)
                go_wp2
                go_roundw
                case rel => exact ⟨k + 1, by omega, by go_num, by rw [HJ2.out]; rfl, HKI.out.drewN _⟩
                case measure => simp [intOf]; omega
            · obtain rfl : k = j.length := by omega
              rw [HJE.out]
              have HKO := Lib.hid (HK7.out.then HKI.out)
              cases bj
              · obtain ⟨ha1, ha2⟩ := HA2.out rfl
                have hnp1 : 0 ≤ np := HNP.out.2 ha1
                rw [ha2] at H3
                clear ha1 ha2
                first
                  | (exfalso; omega)
                  | (go_wp2_with fail
                     refine (H3.out _ HKO.out).mono ?_
                     rintro e w9 ⟨rfl, rfl⟩
                     go_wp2
                     go_roundw
                     case rel => exact ⟨i + 1, by omega, by go_num, HKO.out⟩
                     case measure => simp [intOf]; omega)
              · go_wp2
                go_roundw
                case rel => exact ⟨i + 1, by omega, by go_num, HKO.out⟩
                case measure => simp [intOf]; omega
      · obtain ⟨ha1, ha2, ha3⟩ := HA1.out rfl
        have hnp0 : 0 ≤ np := HNP.out.2 ha1
        rw [ha2] at H2
        rw [ha3] at H3
        clear ha1 ha2
        go_wp2_with fail
        refine (H1.out _ HK7.out).mono ?_
        rintro e w8 ⟨rfl, rfl⟩
        go_wp2_with fail
        refine (H2.out _ HK7.out).mono ?_
        rintro e w8 ⟨rfl, rfl⟩
        go_wp2_with fail
        refine (H3.out _ HK7.out).mono ?_
        rintro e w8 ⟨rfl, rfl⟩
        go_wp2_with fail
        go_loopw [17, 18] (fun v17 v18 wr => ∃ k : Nat, k ≤ j.length ∧ v18 = .int .i64 k ∧ v17 = .bool (decide ((x1', x2') ∈ j.take k)) ∧ Kept NoF w7 wr) (fun _ v18 _ => j.length - (intOf v18).toNat)
        case atStart => exact ⟨0, Nat.zero_le _, rfl, by simp, Kept.refl _ _⟩
        case round =>
          obtain ⟨k, hkj, rfl, rfl, hk⟩ := hrel
          have m0' : wr.cell? ⟨wo.heap.size, 0, none⟩ = some (.int .i64 x1') := (HNM7.out.kept hk (fun x => x)).cell 0
          have m1' : wr.cell? ⟨wo.heap.size, 1, none⟩ = some (.int .i64 x2') := (HNM7.out.kept hk (fun x => x)).cell 1
          have HKI := Lib.hid hk; clear hk
          by_cases hkl : k < j.length
          · obtain ⟨q, hq⟩ : ∃ q, j[k]? = some q := ⟨_, List.getElem?_eq_getElem hkl⟩
            obtain ⟨jd, hJA, hjd, f0, f1⟩ := mem_cells (HJ.out.kept (HKW.out.then (HK7.out.then HKI.out)) (fun _ _ x => x)) (by omega) k q hq
            have hjk := HJK.out k q hq
            have hneq := HNQ.out q
            obtain ⟨eb, heb⟩ : ∃ eb, decide (q = (x1', x2')) = eb := ⟨_, rfl⟩
            obtain ⟨cb, hcb⟩ : ∃ cb, decide ((x1', x2') ∈ j.take k) = cb := ⟨_, rfl⟩
            rw [heb] at hjk hneq
            rw [hcb] at hjk ⊢
            have HJ2 := Lib.hid hjk; clear hjk hq heb hcb
            obtain ⟨q1, q2⟩ := q
            dsimp only at f0 f1 hneq
            clear m0 m1
            have hsrc : A3 = some jd := hJA
            subst hsrc
            cases cb
            · go_wp2_with fail
              go_quiet (fail)
              go_wp2
              go_roundw
              case rel => exact ⟨k + 1, by omega, by go_num, by rw [HJ2.out]; rfl, HKI.out.drewN _⟩
              case measure => simp [intOf]; omega
            · go_wp2_with fail
              go_quiet (fail)
              go_wp2
              go_roundw
              case rel => exact ⟨k + 1, by omega, by go_num, by rw [HJ2.out]; rfl, HKI.out.drewN _⟩
              case measure => simp [intOf]; omega
          · obtain rfl : k = j.length := by omega
            rw [HJE.out]
            have HKO := Lib.hid (HK7.out.then HKI.out)
            cases bj
            · obtain ⟨ha1, ha2⟩ := HA2.out rfl
              have hnp1 : 0 ≤ np := HNP.out.2 ha1
              clear ha1 ha2
              first
                | (exfalso; omega)
                | (go_wp2_with fail
                   refine (H3.out _ HKO.out).mono ?_
                   rintro e w9 ⟨rfl, rfl⟩
                   go_wp2
                   go_roundw
                   case rel => exact ⟨i + 1, by omega, by go_num, HKO.out⟩
                   case measure => simp [intOf]; omega)
            · go_wp2
              go_roundw
              case rel => exact ⟨i + 1, by omega, by go_num, HKO.out⟩
              case measure => simp [intOf]; omega
    · obtain rfl : i = n := by omega
      have HWW := Lib.hid (HKW.out.then HK.out)
      have HINTO := Lib.hid (HINTW.out.kept HK.out)
      clear z0 z1 z2
      go_wp2_with fail
      go_loopw [19] (fun v19 wr => ∃ k : Nat, k ≤ m ∧ v19 = .int .i64 k ∧ Kept NoF wo wr) (fun v19 _ => m - (intOf v19).toNat)
      case atStart => exact ⟨0, Nat.zero_le _, rfl, Kept.refl _ _⟩
      case round =>
        obtain ⟨k, hkm, rfl, hk⟩ := hrel
        have HKI := Lib.hid hk; clear hk
        by_cases hkl : k < m
        · by_cases hk0 : k = 0
          · subst hk0
            go_wp2_with fail
            go_quiet (fail)
            go_wp2
            go_roundw
            case rel => exact ⟨1, by omega, by go_num, HKI.out.drewN _⟩
            case measure => simp [intOf]; omega
          · obtain ⟨b, hb⟩ : ∃ b, Nt[k]? = some b := ⟨_, List.getElem?_eq_getElem (by rw [← HINTO.out.1]; exact hkl)⟩
            obtain ⟨a, ha⟩ : ∃ a, Nt[k - 1]? = some a := ⟨_, List.getElem?_eq_getElem (by rw [← HINTO.out.1]; omega)⟩
            obtain ⟨bd, hbd, -, e1⟩ := int_cells ((HINTO.out.kept HKI.out).src) (by rw [← HINTO.out.1]; omega) k b hb
            obtain ⟨bd', hbd', -, e0⟩ := int_cells ((HINTO.out.kept HKI.out).src) (by rw [← HINTO.out.1]; omega) (k - 1) a ha
            have hab : a < b := by
              have h1 := List.pairwise_iff_getElem.1 HRISE.out (k - 1) k (List.getElem?_eq_some_iff.1 ha).1 (List.getElem?_eq_some_iff.1 hb).1 (by omega)
              rw [(List.getElem?_eq_some_iff.1 ha).2, (List.getElem?_eq_some_iff.1 hb).2] at h1
              exact h1
            rw [hbd] at hbd'
            injection hbd' with hbd'
            subst hbd'
            subst hbd
            have hw : IntKind.i64.wrap ((k : Int) - 1) = (k : Int) - 1 := IntWalk.i64_in _ (by omega)
            have hd1 : 0 ≤ (k : Int) - 1 := by omega
            have hd2 : (k : Int) - 1 < m := by omega
            have ht : ((k : Int) - 1).toNat = k - 1 := by omega
            have hk0' : 0 < k := by omega
            have hab' : ¬ b ≤ a := by omega
            clear ha hb hk0
            go_wp2_with fail
            go_quiet (fail)
            clear hw hd1 hd2 ht
            go_wp2
            go_roundw
            case rel => exact ⟨k + 1, by omega, by go_num, HKI.out.drewN _⟩
            case measure => simp [intOf]; omega
        · obtain rfl : k = m := by omega
          go_wp2_with fail
          refine (awake_any _).mono ?_
          rintro e w9 ⟨rfl, hk⟩
          have hk9 := (HWW.out.then HKI.out).then hk
          have HK9 := Lib.hid hk9; clear hk9 hk
          go_wp2
          go_ret
          exact ⟨rfl, HK9.out.below (Nat.le_refl _) (fun _ x => x.elim)⟩
end Plan
end Go.Proofs.Ytnmlemciiigjcaa
