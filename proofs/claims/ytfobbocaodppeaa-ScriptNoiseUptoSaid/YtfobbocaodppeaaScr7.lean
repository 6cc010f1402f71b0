/- catenaref40.one: the document's bytes of a step. -/
import Derived.Test.YtfobbocaodppeaaScr5
set_option linter.unusedSimpArgs false
set_option linter.unusedVariables false
namespace Go.Proofs.Ytfobbocaodppeaa
open Go.RowKit Go.Shelf
set_option maxRecDepth 100000
namespace Scr
open Ops Vn Wire
/-- The document's writer in g, the step in bx, its ask in bq. -/
def DSt (w0 : World) (bx bq : Nat) (ev aq : Array Value) (g : Nat) (W : World) (bs : List UInt8) : Prop :=
  (w0.heap.size ≤ g ∧ bx ≠ g ∧ bq ≠ g) ∧ RwAt W g bs ∧ Has W bx 41 ev ∧ Has W bq 39 aq ∧ Kept NoF w0 W
theorem DSt.step {w0 W w' : World} {bx bq g : Nat} {ev aq : Array Value} {bs bs' : List UInt8} {e : Ending} (h : DSt w0 bx bq ev aq g W bs) (hw : RWrote W g bs' e w') : e = .returned (.tuple #[]) ∧ DSt w0 bx bq ev aq g w' bs' := by
  obtain ⟨h0, h1, h2, h3, h4⟩ := h
  obtain ⟨he, g1, g2⟩ := hw
  exact ⟨he, h0, g1, h2.kept g2 h0.2.1, h3.kept g2 h0.2.2, h4.trans g2 fun i hi => by rw [hi]; exact .inr h0.1⟩
theorem okE_cases (x : EvC) : (okE x = true ∧ may x.k = true ∧ may x.nd = true ∧ may x.n = true ∧ (x.k = 0 → may x.ak = true ∧ may x.an = true ∧ may x.am = true)) ∨ (oneC x = 5 ∧ oneR x = emp ∧
    (may x.k = false ∨ (may x.k = true ∧ may x.nd = false) ∨ (may x.k = true ∧ may x.nd = true ∧ may x.n = false) ∨ (x.k = 0 ∧ may x.k = true ∧ may x.nd = true ∧ may x.n = true ∧
      (may x.ak = false ∨ (may x.ak = true ∧ may x.an = false) ∨ (may x.ak = true ∧ may x.an = true ∧ may x.am = false))))) := by
  by_cases h : okE x = true
  · refine .inl ⟨h, ?_⟩
    unfold okE at h
    simp only [Bool.and_eq_true, Bool.or_eq_true, decide_eq_true_eq] at h
    obtain ⟨⟨⟨h1, h2⟩, h3⟩, h4⟩ := h
    refine ⟨h1, h2, h3, fun hz => ?_⟩
    rcases h4 with h4 | ⟨⟨a, b⟩, c⟩
    · exact absurd hz h4
    · exact ⟨a, b, c⟩
  · have h5 : oneC x = 5 := by unfold oneC; rw [if_neg h]
    refine .inr ⟨h5, by unfold oneR; rw [if_neg (by rw [h5]; decide)], ?_⟩
    unfold okE at h
    cases h1 : may x.k
    · exact .inl rfl
    · cases h2 : may x.nd
      · exact .inr (.inl ⟨rfl, rfl⟩)
      · cases h3 : may x.n
        · exact .inr (.inr (.inl ⟨rfl, rfl, rfl⟩))
        · rw [h1, h2, h3] at h
          by_cases hz : x.k = 0
          · refine .inr (.inr (.inr ⟨hz, rfl, rfl, rfl, ?_⟩))
            cases h4 : may x.ak
            · exact .inl rfl
            · cases h5 : may x.an
              · exact .inr (.inl ⟨rfl, rfl⟩)
              · cases h6 : may x.am
                · exact .inr (.inr ⟨rfl, rfl, rfl⟩)
                · rw [h4, h5, h6] at h
                  simp at h
          · simp [hz] at h
set_option maxHeartbeats 4000000 in
theorem rone_bad (w : World) (e : EvR) (hb : oneC e.x = 5 ∧ oneR e.x = emp ∧
    (may e.x.k = false ∨ (may e.x.k = true ∧ may e.x.nd = false) ∨ (may e.x.k = true ∧ may e.x.nd = true ∧ may e.x.n = false) ∨ (e.x.k = 0 ∧ may e.x.k = true ∧ may e.x.nd = true ∧ may e.x.n = true ∧
      (may e.x.ak = false ∨ (may e.x.ak = true ∧ may e.x.an = false) ∨ (may e.x.ak = true ∧ may e.x.an = true ∧ may e.x.am = false))))) : Calls Try.prog 19 #[vagg e] w (OnePost w e.x) := by
  obtain ⟨h5, hr, hc⟩ := hb
  have hR : ∀ W, Kept NoF w W → OnePost w e.x (.returned (.tuple #[.string ⟨#[]⟩, .int .i64 5])) W := fun W hW => ⟨by rw [h5, hr]; rfl, hW⟩
  clear h5 hr
  obtain ⟨R, hRR⟩ : ∃ R, OnePost w e.x = R := ⟨_, rfl⟩
  rw [hRR] at hR ⊢
  clear hRR
  have HR := Lib.hid hR; clear hR
  have hmay := may_any
  have HM := Lib.hid hmay; clear hmay
  obtain ⟨⟨k, nd, n, ak, an, key, dst, tm, am, l⟩, A, c⟩ := e
  unfold vagg
  dsimp only at hc ⊢
  rcases hc with h1 | ⟨h1, h2⟩ | ⟨h1, h2, h3⟩ | ⟨rfl, h1, h2, h3, h4 | ⟨h4, h5⟩ | ⟨h4, h5, h6⟩⟩
  all_goals
    go_enter Try.func19, Try.ntmps19
    go_wp2_with (go_at_call 31; refine (HM.out _ _).mono ?_; rintro e w' ⟨rfl, rfl⟩)
    exact HR.out _ (by (repeat' (first | with_reducible exact Kept.refl _ _ | with_reducible refine Kept.put ?_ ?_ | with_reducible refine Kept.drewN ?_ _ | with_reducible refine Kept.drew ?_ | with_reducible refine Kept.alloc ?_ _ | (fail) | (right; simp; done))))
set_option maxHeartbeats 16000000 in
theorem rone_any (w : World) (e : EvR) (hv : VOk w e) (hb : wtE e.x ≤ 1048576) : Calls Try.prog 19 #[vagg e] w (OnePost w e.x) := by
  rcases okE_cases e.x with hok | hbad
  rotate_left
  · exact rone_bad w e hbad
  obtain ⟨x, A, c⟩ := e
  unfold vagg
  dsimp only at hb hok ⊢
  have hs := hv.1
  dsimp only at hs
  obtain ⟨hgood, m1, m2, m3, m4⟩ := hok
  have hput : putE x = put x.k.toNat ++ put x.nd.toNat ++ put x.n.toNat ++ (if x.k = 0 then put x.ak.toNat ++ put x.an.toNat ++ put x.am.toNat ++ put x.tm.toNat ++ putT x.key ++ putT x.dst ++ put x.ops.length ++ x.ops.flatMap putO else []) := by
    unfold putE putA
    split <;> simp only [List.append_assoc]
  have hfin := one_fin (x := x) hgood
  have htm := hv.2.2.2
  have hcap := hv.2.1
  unfold TmOk at htm
  dsimp only at htm hcap
  clear hv hgood
  obtain ⟨R, hR⟩ : ∃ R, R = OnePost w x := ⟨_, rfl⟩
  rw [← hR]
  have hend : ∀ W s, Kept NoF w W → s = ofL (putE x) → (255 < s.size → R (.returned (.tuple #[.string ⟨#[]⟩, .int .i64 3])) W) ∧ (¬ 255 < s.size → R (.returned (.tuple #[.string s, .int .i64 0])) W) := fun W s hW hs => by
    rw [hR]
    have hsz : s.size = (putE x).length := by rw [hs, ofL_size]
    rw [hsz]
    rcases hfin with ⟨a1, a2, a3⟩ | ⟨a1, a2, a3⟩
    · exact ⟨fun _ => ⟨by rw [a2, a3]; rfl, hW⟩, fun h => absurd a1 h⟩
    · exact ⟨fun h => absurd h a1, fun _ => ⟨by rw [a2, a3, hs], hW⟩⟩
  have HEND := Lib.hid hend; clear hend hfin hR
  obtain ⟨pe, hpe⟩ : ∃ pe, putE x = pe := ⟨_, rfl⟩
  rw [hpe] at HEND hput
  clear hpe
  have HS := Lib.hid hs; clear hs
  obtain ⟨k, nd, n, ak, an, key, dst, tm, am, l⟩ := x
  dsimp only at HS hb htm hput m1 m2 m3 m4 hcap ⊢
  have b1 := may_ok m1
  have b2 := may_ok m2
  have b3 := may_ok m3
  obtain ⟨kn, rfl⟩ : ∃ kn : Nat, k = kn := ⟨k.toNat, by omega⟩
  obtain ⟨ndn, rfl⟩ : ∃ kn : Nat, nd = kn := ⟨nd.toNat, by omega⟩
  obtain ⟨nn, rfl⟩ : ∃ kn : Nat, n = kn := ⟨n.toNat, by omega⟩
  obtain ⟨tn, rfl⟩ : ∃ tn : Nat, tm = tn := ⟨tm.toNat, by omega⟩
  have htn : tn < 18446744073709551616 := by omega
  have HTN := Lib.hid htn; clear htn htm
  unfold wtE at hb
  dsimp only at hb
  have HWT := Lib.hid hb; clear hb
  have hmay := may_any
  have HM := Lib.hid hmay; clear hmay
  simp only [Int.toNat_natCast] at hput
  have p1 := put_le (n := kn) (by omega)
  have p2 := put_le (n := ndn) (by omega)
  have p3 := put_le (n := nn) (by omega)
  have HP := Lib.hid (And.intro p1 (And.intro p2 p3)); clear p1 p2 p3
  have HPUT := Lib.hid hput; clear hput
  obtain ⟨N, hN⟩ : ∃ N, w.heap.size = N := ⟨_, rfl⟩
  obtain ⟨ev, hev⟩ : ∃ ev : Array Value, ev = #[.int .i64 kn, .int .i64 ndn, .int .i64 nn, .int .i64 ak, .int .i64 an, .string key, .string dst, .int .u64 tn, .int .i64 am, .slice A l.length c] := ⟨_, rfl⟩
  obtain ⟨aq, haq⟩ : ∃ aq : Array Value, aq = #[.int .i64 ak, .int .i64 an, .string key, .string dst, .int .u64 tn, .int .i64 am, .slice A l.length c] := ⟨_, rfl⟩
  have hst0 : DSt w N (N + 1) ev aq (N + 1 + 1) (((w.alloc (.cells ev 41)).alloc (.cells aq 39)).alloc (.cells #[.string ⟨#[]⟩, .int .i64 0] 74)) [] := by
    subst hN
    exact ⟨⟨by omega, by omega, by omega⟩, Has.new_at _ _ _ (by simp), ((Has.new _ _ _).alloc _).alloc _, (Has.new_at _ _ _ (by simp)).alloc _, by (repeat' (first | with_reducible exact Kept.refl _ _ | with_reducible refine Kept.put ?_ ?_ | with_reducible refine Kept.drewN ?_ _ | with_reducible refine Kept.drew ?_ | with_reducible refine Kept.alloc ?_ _ | (fail) | (right; simp; done)))⟩
  obtain ⟨W3, hW3⟩ : ∃ W3, (((w.alloc (.cells ev 41)).alloc (.cells aq 39)).alloc (.cells #[.string ⟨#[]⟩, .int .i64 0] 74)) = W3 := ⟨_, rfl⟩
  rw [hW3] at hst0
  have hss : ∀ W bs, DSt w N (N + 1) ev aq (N + 1 + 1) W bs → ((W.cell? ⟨N, 0, none⟩ = some (.int .i64 kn) ∧ W.cell? ⟨N, 1, none⟩ = some (.int .i64 ndn) ∧ W.cell? ⟨N, 2, none⟩ = some (.int .i64 nn)) ∧
      (W.cell? ⟨N + 1, 0, none⟩ = some (.int .i64 ak) ∧ W.cell? ⟨N + 1, 1, none⟩ = some (.int .i64 an) ∧ W.cell? ⟨N + 1, 2, none⟩ = some (.string key) ∧ W.cell? ⟨N + 1, 3, none⟩ = some (.string dst) ∧ W.cell? ⟨N + 1, 4, none⟩ = some (.int .u64 tn) ∧ W.cell? ⟨N + 1, 5, none⟩ = some (.int .i64 am) ∧ W.cell? ⟨N + 1, 6, none⟩ = some (.slice A l.length c))) := fun W bs hW => by
    obtain ⟨_, _, h2, h3, _⟩ := hW
    rw [hev] at h2
    rw [haq] at h3
    exact ⟨⟨h2.cell 0, h2.cell 1, h2.cell 2⟩, h3.cell 0, h3.cell 1, h3.cell 2, h3.cell 3, h3.cell 4, h3.cell 5, h3.cell 6⟩
  have HSS := Lib.hid hss; clear hss
  rw [hev, haq] at hW3
  have HW3 := Lib.hid hW3; clear hW3
  clear hev haq
  have HST := Lib.hid hst0; clear hst0
  have HN := Lib.hid hN
  by_cases hk0 : (kn : Int) = 0
  rotate_left
  · have hk1 : ((kn : Int) == 0) = false := by simpa using hk0
    have hput := HPUT.out
    rw [if_neg hk0, List.append_nil] at hput
    clear HPUT HS HTN HWT m4 hk0
    have HPUT := Lib.hid hput; clear hput
    go_enter Try.func19, Try.ntmps19
    go_wp2_with (go_at_call 31; refine (HM.out _ _).mono ?_; rintro e w' ⟨rfl, rfl⟩)
    rw [HW3.out]
    refine (rwnum_any _ _ _ kn (by omega) HST.out.2.1 (by have := HP.out; simp only [List.length_append, List.length_nil]; omega)).mono ?_
    intro e wq hw
    obtain ⟨rfl, hst⟩ := HST.out.step hw
    clear HST hw
    obtain ⟨⟨c0, c1, c2⟩, d0, d1, d2, d3, d4, d5, d6⟩ := HSS.out _ _ hst
    have HST := Lib.hid hst; clear hst
    go_wp2_with fail
    refine (rwnum_any _ _ _ ndn (by omega) HST.out.2.1 (by have := HP.out; simp only [List.length_append, List.length_nil]; omega)).mono ?_
    intro e wq hw
    obtain ⟨rfl, hst⟩ := HST.out.step hw
    clear HST hw c0 c1 c2 d0 d1 d2 d3 d4 d5 d6
    obtain ⟨⟨c0, c1, c2⟩, d0, d1, d2, d3, d4, d5, d6⟩ := HSS.out _ _ hst
    have HST := Lib.hid hst; clear hst
    go_wp2_with fail
    refine (rwnum_any _ _ _ nn (by omega) HST.out.2.1 (by have := HP.out; simp only [List.length_append, List.length_nil]; omega)).mono ?_
    intro e wq hw
    obtain ⟨rfl, hst⟩ := HST.out.step hw
    clear HST hw c0 c1 c2 d0 d1 d2 d3 d4 d5 d6
    obtain ⟨⟨c0, c1, c2⟩, d0, d1, d2, d3, d4, d5, d6⟩ := HSS.out _ _ hst
    have HST := Lib.hid hst; clear hst
    have hst := HST.out
    rw [List.nil_append, ← HPUT.out] at hst
    clear HST
    have HST := Lib.hid hst; clear hst
    go_wp2_with fail
    refine (rwdone_any _ _ _ HST.out.2.1).mono ?_
    rintro r w5 ⟨rfl, rfl⟩
    obtain ⟨t1, t2⟩ := HEND.out _ _ HST.out.2.2.2.2 rfl
    have HT1 := Lib.hid t1; clear t1
    have HT2 := Lib.hid t2; clear t2
    obtain ⟨S, hS⟩ : ∃ S, ofL pe = S := ⟨_, rfl⟩
    rw [hS] at HT1 HT2 ⊢
    clear hS
    by_cases hlong : (255 : Int) < S.size
    · go_wp2
      exact HT1.out (by omega)
    · go_wp2
      exact HT2.out (by omega)
  · have hput := HPUT.out
    rw [if_pos hk0] at hput
    obtain rfl : kn = 0 := by omega
    obtain ⟨m5, m6, m7⟩ := m4 rfl
    have b5 := may_ok m5
    have b6 := may_ok m6
    have b7 := may_ok m7
    obtain ⟨akn, rfl⟩ : ∃ kn : Nat, ak = kn := ⟨ak.toNat, by omega⟩
    obtain ⟨ann, rfl⟩ : ∃ kn : Nat, an = kn := ⟨an.toNat, by omega⟩
    obtain ⟨amn, rfl⟩ : ∃ kn : Nat, am = kn := ⟨am.toNat, by omega⟩
    simp only [Int.toNat_natCast] at hput
    have pt1 : (putT key).length ≤ 9 + key.size := by
      have h1 := put_le (n := key.size) (by have := HWT.out; omega)
      unfold putT; rw [List.length_append, size_bl]; omega
    have pt2 : (putT dst).length ≤ 9 + dst.size := by
      have h1 := put_le (n := dst.size) (by have := HWT.out; omega)
      unfold putT; rw [List.length_append, size_bl]; omega
    have pt3 := put_le (n := tn) HTN.out
    have hll := wtO_len l
    have pt4 := put_le (n := l.length) (by have := HWT.out; omega)
    have pt5 := put_le (n := akn) (by omega)
    have pt6 := put_le (n := ann) (by omega)
    have pt7 := put_le (n := amn) (by omega)
    have hlb : l.length ≤ 1048576 := by have := HWT.out; omega
    obtain ⟨h2, hh2⟩ : ∃ h2, ([] ++ put 0 ++ put ndn ++ put nn ++ put akn ++ put ann ++ put amn ++ put tn ++ putT key ++ putT dst ++ put l.length : List UInt8) = h2 := ⟨_, rfl⟩
    have hput2 : pe = h2 ++ l.flatMap putO := by
      rw [hput, ← hh2]
      simp only [List.append_assoc, List.nil_append]
    have h2l : h2.length ≤ 1100000 := by
      rw [← hh2]
      have := HWT.out
      have := HP.out
      simp only [List.length_append, List.length_nil]
      omega
    clear hput HPUT m4 hk0
    have HPUT := Lib.hid (And.intro hput2 h2l); clear hput2 h2l
    have HH2 := Lib.hid hh2; clear hh2
    have HPT := Lib.hid (And.intro pt1 (And.intro pt2 (And.intro pt3 (And.intro pt4 (And.intro pt5 (And.intro pt6 pt7)))))); clear pt1 pt2 pt3 pt4 pt5 pt6 pt7
    have HB := Lib.hid (And.intro b2 (And.intro b3 (And.intro b5 (And.intro b6 b7)))); clear b1 b2 b3 b5 b6 b7
    have ez : ((0 : Nat) : Int) = 0 := rfl
    have hw3 := HW3.out
    have hss := HSS.out
    simp only [ez] at hw3 hss
    clear HW3 HSS
    have HW3 := Lib.hid hw3; clear hw3
    have HSS := Lib.hid hss; clear hss
    rw [ez] at *
    go_enter Try.func19, Try.ntmps19
    go_wp2_with (go_at_call 31; refine (HM.out _ _).mono ?_; rintro e w' ⟨rfl, rfl⟩)
    rw [HW3.out]
    refine (rwnum_any _ _ _ 0 (by omega) HST.out.2.1 (by have := HP.out; have := HPT.out; have := HWT.out; simp only [List.length_append, List.length_nil]; omega)).mono ?_
    intro e wq hw
    obtain ⟨rfl, hst⟩ := HST.out.step hw
    clear HST hw
    obtain ⟨⟨c0, c1, c2⟩, d0, d1, d2, d3, d4, d5, d6⟩ := HSS.out _ _ hst
    have HST := Lib.hid hst; clear hst
    go_wp2_with fail
    refine (rwnum_any _ _ _ ndn (by have := HB.out; omega) HST.out.2.1 (by have := HP.out; have := HPT.out; have := HWT.out; simp only [List.length_append, List.length_nil]; omega)).mono ?_
    intro e wq hw
    obtain ⟨rfl, hst⟩ := HST.out.step hw
    clear HST hw c0 c1 c2 d0 d1 d2 d3 d4 d5 d6
    obtain ⟨⟨c0, c1, c2⟩, d0, d1, d2, d3, d4, d5, d6⟩ := HSS.out _ _ hst
    have HST := Lib.hid hst; clear hst
    go_wp2_with fail
    refine (rwnum_any _ _ _ nn (by have := HB.out; omega) HST.out.2.1 (by have := HP.out; have := HPT.out; have := HWT.out; simp only [List.length_append, List.length_nil]; omega)).mono ?_
    intro e wq hw
    obtain ⟨rfl, hst⟩ := HST.out.step hw
    clear HST hw c0 c1 c2 d0 d1 d2 d3 d4 d5 d6
    obtain ⟨⟨c0, c1, c2⟩, d0, d1, d2, d3, d4, d5, d6⟩ := HSS.out _ _ hst
    have HST := Lib.hid hst; clear hst
    go_wp2_with fail
    refine (rwnum_any _ _ _ akn (by have := HB.out; omega) HST.out.2.1 (by have := HP.out; have := HPT.out; have := HWT.out; simp only [List.length_append, List.length_nil]; omega)).mono ?_
    intro e wq hw
    obtain ⟨rfl, hst⟩ := HST.out.step hw
    clear HST hw c0 c1 c2 d0 d1 d2 d3 d4 d5 d6
    obtain ⟨⟨c0, c1, c2⟩, d0, d1, d2, d3, d4, d5, d6⟩ := HSS.out _ _ hst
    have HST := Lib.hid hst; clear hst
    go_wp2_with fail
    refine (rwnum_any _ _ _ ann (by have := HB.out; omega) HST.out.2.1 (by have := HP.out; have := HPT.out; have := HWT.out; simp only [List.length_append, List.length_nil]; omega)).mono ?_
    intro e wq hw
    obtain ⟨rfl, hst⟩ := HST.out.step hw
    clear HST hw c0 c1 c2 d0 d1 d2 d3 d4 d5 d6
    obtain ⟨⟨c0, c1, c2⟩, d0, d1, d2, d3, d4, d5, d6⟩ := HSS.out _ _ hst
    have HST := Lib.hid hst; clear hst
    go_wp2_with fail
    refine (rwnum_any _ _ _ amn (by have := HB.out; omega) HST.out.2.1 (by have := HP.out; have := HPT.out; have := HWT.out; simp only [List.length_append, List.length_nil]; omega)).mono ?_
    intro e wq hw
    obtain ⟨rfl, hst⟩ := HST.out.step hw
    clear HST hw c0 c1 c2 d0 d1 d2 d3 d4 d5 d6
    obtain ⟨⟨c0, c1, c2⟩, d0, d1, d2, d3, d4, d5, d6⟩ := HSS.out _ _ hst
    have HST := Lib.hid hst; clear hst
    go_wp2_with fail
    refine (rwbig_any _ _ _ tn HTN.out HST.out.2.1 (by have := HP.out; have := HPT.out; have := HWT.out; simp only [List.length_append, List.length_nil]; omega)).mono ?_
    intro e wq hw
    obtain ⟨rfl, hst⟩ := HST.out.step hw
    clear HST hw c0 c1 c2 d0 d1 d2 d3 d4 d5 d6
    obtain ⟨⟨c0, c1, c2⟩, d0, d1, d2, d3, d4, d5, d6⟩ := HSS.out _ _ hst
    have HST := Lib.hid hst; clear hst
    go_wp2_with fail
    refine (rwtext_any _ _ _ key HST.out.2.1 (by have := HP.out; have := HPT.out; have := HWT.out; simp only [List.length_append, List.length_nil]; omega)).mono ?_
    intro e wq hw
    obtain ⟨rfl, hst⟩ := HST.out.step hw
    clear HST hw c0 c1 c2 d0 d1 d2 d3 d4 d5 d6
    obtain ⟨⟨c0, c1, c2⟩, d0, d1, d2, d3, d4, d5, d6⟩ := HSS.out _ _ hst
    have HST := Lib.hid hst; clear hst
    go_wp2_with fail
    refine (rwtext_any _ _ _ dst HST.out.2.1 (by have := HP.out; have := HPT.out; have := HWT.out; simp only [List.length_append, List.length_nil]; omega)).mono ?_
    intro e wq hw
    obtain ⟨rfl, hst⟩ := HST.out.step hw
    clear HST hw c0 c1 c2 d0 d1 d2 d3 d4 d5 d6
    obtain ⟨⟨c0, c1, c2⟩, d0, d1, d2, d3, d4, d5, d6⟩ := HSS.out _ _ hst
    have HST := Lib.hid hst; clear hst
    go_wp2_with fail
    refine (rwnum_any _ _ _ l.length (by omega) HST.out.2.1 (by have := HP.out; have := HPT.out; have := HWT.out; simp only [List.length_append, List.length_nil]; omega)).mono ?_
    intro e wq hw
    obtain ⟨rfl, hst⟩ := HST.out.step hw
    clear HST hw c0 c1 c2 d0 d1 d2 d3 d4 d5 d6
    obtain ⟨⟨c0, c1, c2⟩, d0, d1, d2, d3, d4, d5, d6⟩ := HSS.out _ _ hst
    have HST := Lib.hid hst; clear hst
    have hst := HST.out
    rw [HH2.out] at hst
    clear HST c0 c1 c2 d0 d1 d2 d3 d4 d5 d6
    have HST := Lib.hid hst; clear hst
    go_wp2_with fail
    go_loopw [6] (fun v6 wr => ∃ i : Nat, i ≤ l.length ∧ v6 = .int .i64 i ∧ DSt w N (N + 1) ev aq (N + 1 + 1) wr (h2 ++ (l.take i).flatMap putO)) (fun v6 _ => l.length - (intOf v6).toNat)
    case atStart => exact ⟨0, Nat.zero_le _, rfl, by simpa using HST.out⟩
    case round =>
      obtain ⟨i, hi, rfl, hst⟩ := hrel
      clear HST
      obtain ⟨⟨c0, c1, c2⟩, d0, d1, d2, d3, d4, d5, d6⟩ := HSS.out _ _ hst
      clear c0 c1 c2 d0 d1 d2 d3 d4 d5
      have HST := Lib.hid hst; clear hst
      by_cases hil : i < l.length
      · obtain ⟨o, ho⟩ : ∃ o, l[i]? = some o := ⟨_, List.getElem?_eq_getElem hil⟩
        have hoi : l[i] = o := by rw [List.getElem?_eq_getElem hil] at ho; exact Option.some.inj ho
        have hoc : ∀ W bs, DSt w N (N + 1) ev aq (N + 1 + 1) W bs → ∃ ad, A = some ad ∧ ad.block < W.heap.size ∧ W.cell? (ad.add (i * 3)) = some (.string o.key) ∧ W.cell? ⟨(ad.add (i * 3)).block, (ad.add (i * 3)).off + 1, none⟩ = some (.string o.val) ∧ W.cell? ⟨(ad.add (i * 3)).block, (ad.add (i * 3)).off + 2, none⟩ = some (.bool o.del) :=
          fun W bs hW => op_cells (HS.out.kept hW.2.2.2.2 (fun _ _ z => z)) (by omega) i o ho
        have HOC := Lib.hid hoc; clear hoc
        have hflat := flat_succ putO l i hil
        rw [hoi] at hflat
        have hwo := wtO_mem (List.mem_of_getElem? ho)
        have hft := flatO_le (l.take i) (by have := wtO_take l i; have := HWT.out; omega)
        have htk := wtO_take l i
        obtain ⟨cur, hcur⟩ : ∃ cur, h2 ++ (l.take i).flatMap putO = cur := ⟨_, rfl⟩
        have hLB : cur.length ≤ 30000000 := by
          rw [← hcur, List.length_append]
          have := HPUT.out.2
          have := HWT.out
          omega
        rw [hcur] at HST
        have hnext : h2 ++ (l.take (i + 1)).flatMap putO = ((cur ++ putT o.key) ++ putF o.del) ++ putT o.val := by
          rw [hflat, ← List.append_assoc, hcur]
          unfold putO
          simp only [List.append_assoc]
        have HNX := Lib.hid hnext; clear hnext hflat hft htk hcur ho hoi
        have HLB := Lib.hid hLB; clear hLB
        have hob : o.key.size + o.val.size + 1 ≤ 1048576 := by have := HWT.out; omega
        have HOB := Lib.hid hob; clear hob hwo
        have pt1 : (putT o.key).length ≤ 9 + o.key.size := by
          have h1 := put_le (n := o.key.size) (by have := HOB.out; omega)
          unfold putT; rw [List.length_append, size_bl]; omega
        have HPT1 := Lib.hid pt1; clear pt1
        have q0 : (0 : Int) ≤ (i : Int) := by omega
        obtain ⟨ad, rfl, had, e0, e1, e2⟩ := HOC.out _ _ HST.out
        go_wp2_with fail
        refine (rwtext_any _ _ _ o.key HST.out.2.1 (by have := HLB.out; have := HOB.out; omega)).mono ?_
        intro e w6 hw
        obtain ⟨rfl, hst⟩ := HST.out.step hw
        clear HST hw d6 e0 e1 e2 had
        obtain ⟨_, _, _, _, _, _, _, d6⟩ := HSS.out _ _ hst
        obtain ⟨ad1, had1, had, e0, e1, e2⟩ := HOC.out _ _ hst
        injection had1 with had1
        subst had1
        have HST := Lib.hid hst; clear hst
        go_wp2_with fail
        refine (rwflag_any _ _ _ o.del HST.out.2.1 (by have := HLB.out; have := HOB.out; have := HPT1.out; rw [List.length_append]; omega)).mono ?_
        intro e w7 hw
        obtain ⟨rfl, hst⟩ := HST.out.step hw
        clear HST hw d6 e0 e1 e2 had
        obtain ⟨_, _, _, _, _, _, _, d6⟩ := HSS.out _ _ hst
        obtain ⟨ad1, had1, had, e0, e1, e2⟩ := HOC.out _ _ hst
        injection had1 with had1
        subst had1
        have HST := Lib.hid hst; clear hst
        go_wp2_with fail
        refine (rwtext_any _ _ _ o.val HST.out.2.1 (by have := HLB.out; have := HOB.out; have := HPT1.out; rw [List.length_append, List.length_append]; have : (putF o.del).length = 1 := rfl; omega)).mono ?_
        intro e w8 hw
        obtain ⟨rfl, hst⟩ := HST.out.step hw
        rw [← HNX.out] at hst
        clear HST hw d6 e0 e1 e2 had
        have HST := Lib.hid hst; clear hst
        go_wp2_with fail
        go_roundw
        case rel => exact ⟨i + 1, by omega, by go_num, HST.out⟩
        case measure => simp [intOf]; omega
      · obtain rfl : i = l.length := by omega
        have hst := HST.out
        rw [List.take_length, ← HPUT.out.1] at hst
        clear HST
        have HST := Lib.hid hst; clear hst
        go_wp2_with fail
        refine (rwdone_any _ _ _ HST.out.2.1).mono ?_
        rintro r w5 ⟨rfl, rfl⟩
        obtain ⟨t1, t2⟩ := HEND.out _ _ HST.out.2.2.2.2 rfl
        have HT1 := Lib.hid t1; clear t1
        have HT2 := Lib.hid t2; clear t2
        obtain ⟨S, hS⟩ : ∃ S, ofL pe = S := ⟨_, rfl⟩
        rw [hS] at HT1 HT2 ⊢
        clear hS
        by_cases hlong : (255 : Int) < S.size
        · go_wp2
          exact HT1.out (by omega)
        · go_wp2
          exact HT2.out (by omega)
end Scr
end Go.Proofs.Ytfobbocaodppeaa
