/- catenalaw40.awake; the walk of ScriptPuts. -/
import Derived.Test.YtfobbocaodppeaaScr16
import Derived.Test.YtfobbocaodppeaaWire3
set_option linter.unusedSimpArgs false
set_option linter.unusedVariables false
namespace Go.Proofs.Ytfobbocaodppeaa
open Go.RowKit
set_option maxRecDepth 100000
namespace Scr
open Ops Vn Wire
set_option maxHeartbeats 4000000 in
theorem awake40_any (w : World) : Calls Try.prog 7 #[] w fun e w' => e = .returned (.bool true) ∧ Kept NoF w w' := by
  have hof := of_any w (ofL [3, 1, 4, 0, 1, 9]) (by decide)
  unfold OfPost at hof
  rw [bl_ofL] at hof
  have HOF := Lib.hid hof; clear hof
  go_enter Try.func7, Try.ntmps7
  go_wp2_with fail
  refine HOF.out.mono ?_
  rintro e w2 ⟨A, c, l, rfl, hev, hm, hk⟩
  obtain ⟨h1, h2, h3, h4, h5⟩ := evl_facts hev hm
  have hm2 := hm
  rw [ofS_a] at hm2
  obtain ⟨ev, rfl, hx⟩ : ∃ ev, l = [ev] ∧ ev.x = bare 1 4 0 := by
    cases l with
    | nil => cases hm2
    | cons a l =>
      rw [List.map_cons] at hm2
      injection hm2 with e1 e2
      have : l = [] := List.map_eq_nil_iff.1 e2
      exact ⟨a, by rw [this], e1⟩
  have hput := put_any w2 A c [ev] h1 h2 (fun e he => (h3 e he).1) (by simp)
  unfold PutPost at hput
  rw [cts_map, hm2, put_a.1, put_a.2] at hput
  have hcells : ∀ W, Kept NoF w2 W → ∃ ad, A = some ad ∧ W.cell? ad = some (.int .i64 1) ∧ W.cell? ⟨ad.block, ad.off + 1, none⟩ = some (.int .i64 4) := fun W hW => by
    obtain ⟨ad, h6, h7, h8, h9, _⟩ := ev_cells (h1.kept hW (fun _ _ z => z)) (by simp) 0 ev rfl
    simp only [Nat.zero_mul] at h8 h9
    rw [hx] at h8 h9
    exact ⟨ad, h6, h8, h9⟩
  have HC := Lib.hid hcells; clear hcells
  have HP := Lib.hid hput; clear hput
  have HK := Lib.hid hk; clear hk hev hm hm2 hx h1 h2 h3 h4 h5
  go_wp2_with fail
  refine HP.out.mono ?_
  rintro e w3 ⟨rfl, hk3⟩
  obtain ⟨ad, rfl, x0, x1⟩ := HC.out w3 hk3
  have hkk := HK.out.then hk3
  have HKK := Lib.hid hkk; clear hkk hk3
  have hs : ofL [3, 1, 4, 0] = ⟨#[3, 1, 4, 0]⟩ := rfl
  rw [hs]
  go_wp2
  go_ret
  exact ⟨rfl, HKK.out⟩
set_option maxHeartbeats 8000000 in
theorem law_puts (w : World) (A : Option Addr) (c : Nat) (l : List EvR) (hl : Src w 10 A l.length (vcells l)) (hcap : l.length ≤ c) (hk : SOk w l) (hb : ∀ e ∈ l, wtE e.x ≤ 1048576) (s : ByteArray) :
    Calls Try.prog 3 #[.slice A l.length c, .string s] w fun e w' => e = .returned (.bool true) ∧ Below w.heap.size w w' := by
  have hp := parts_any w A c l hl hb
  obtain ⟨z, hz⟩ : ∃ z, partsL l = z := ⟨_, rfl⟩
  rw [hz] at hp
  have HP := Lib.hid hp; clear hp hz
  have HA := Lib.hid awake40_any
  have hfin : ∀ W, Kept NoF w W → Below w.heap.size w W := fun W hW => hW.below (Nat.le_refl _) (fun _ x => x.elim)
  have HFIN := Lib.hid hfin; clear hfin
  by_cases hbig : 20 < z ∨ (¬ 20 < z ∧ 100 < l.length) ∨ (¬ 20 < z ∧ ¬ 100 < l.length ∧ 4000 < s.size)
  · rcases hbig with h1 | ⟨h1, h2⟩ | ⟨h1, h2, h3⟩
    all_goals
      go_enter Try.func3, Try.ntmps3
      go_wp2_with fail
      refine HP.out.mono ?_
      rintro e w2 ⟨rfl, hk2⟩
      have HK2 := Lib.hid hk2; clear hk2
      go_wp2_with fail
      refine (HA.out _).mono ?_
      rintro e w3 ⟨rfl, hk3⟩
      have HK3 := Lib.hid (HK2.out.then hk3); clear hk3
      go_wp2
      go_ret
      exact ⟨rfl, HFIN.out _ HK3.out⟩
  · have h1 : ¬ 20 < z := fun h => hbig (.inl h)
    have h2 : ¬ 100 < l.length := fun h => hbig (.inr (.inl ⟨h1, h⟩))
    have h3 : ¬ 4000 < s.size := fun h => hbig (.inr (.inr ⟨h1, h2, h⟩))
    clear hbig
    have hput := fun W (hW : Kept NoF w W) => put_any W A c l (hl.kept hW (fun _ _ x => x)) (hk.kept hW) hb (by omega)
    have hrput := fun W (hW : Kept NoF w W) => rput_any W A c l (hl.kept hW (fun _ _ x => x)) (hk.kept hW) hb (by omega) hcap
    have hof := fun W => of_any W s (by omega)
    have hrof := fun W => rof_any W s (by omega)
    unfold PutPost at hput hrput
    unfold OfPost at hof hrof
    obtain ⟨S, hS⟩ : ∃ S, putR (cts l) = S := ⟨_, rfl⟩
    obtain ⟨m, hm⟩ : ∃ m, chkS (cts l) = m := ⟨_, rfl⟩
    rw [hS, hm] at hput hrput
    clear hS hm
    have HPUT := Lib.hid hput; clear hput
    have HRPUT := Lib.hid hrput; clear hrput
    have HOF := Lib.hid hof; clear hof
    have HROF := Lib.hid hrof; clear hrof hl hk hb hcap
    go_enter Try.func3, Try.ntmps3
    go_wp2_with fail
    refine HP.out.mono ?_
    rintro e w2 ⟨rfl, hk2⟩
    have HK2 := Lib.hid hk2; clear hk2
    go_wp2_with fail
    refine (HPUT.out _ HK2.out).mono ?_
    rintro e w3 ⟨rfl, hk3⟩
    have HK3 := Lib.hid (HK2.out.then hk3); clear hk3
    go_wp2_with fail
    refine (HRPUT.out _ HK3.out).mono ?_
    rintro e w4 ⟨rfl, hk4⟩
    have HK4 := Lib.hid (HK3.out.then hk4); clear hk4
    go_wp2_with fail
    refine (HOF.out _).mono ?_
    rintro e w5 ⟨B1, c1, l1, rfl, hev1, hm1, hk5⟩
    have hk5' := HK4.out.then hk5
    have HK5 := Lib.hid hk5'; clear hk5' hk5
    have HE1 := Lib.hid hev1; clear hev1
    go_wp2_with fail
    refine (HROF.out _).mono ?_
    rintro e w6 ⟨B2, c2, l2, rfl, hev2, hm2, hk6⟩
    obtain ⟨f1, f2, f3, f4, f5⟩ := evl_facts (HE1.out.kept hk6) hm1
    obtain ⟨g1, g2, g3, g4, g5⟩ := evl_facts hev2 hm2
    rw [size_bl] at f5 g5
    have hsame := rsame_any w6 B1 B2 c1 c2 l1 l2 f1 g1 f2 g2 (by omega) (fun e he => (f3 e he).2.1)
    have hst : sameS l1 l2 = true := decide_eq_true (by rw [xs_map, xs_map, hm1, hm2])
    rw [hst] at hsame
    have hk6' := HK5.out.then hk6
    have HK6 := Lib.hid hk6'; clear hk6' hk6 hst f1 f2 f3 f4 g1 g2 g3 g4 hm1 hm2 hev2
    have HS := Lib.hid hsame; clear hsame
    go_wp2_with fail
    refine HS.out.mono ?_
    rintro e w7 ⟨rfl, hk7⟩
    have HK7 := Lib.hid (HK6.out.then hk7); clear hk7
    go_wp2_with fail
    refine (HA.out _).mono ?_
    rintro e w8 ⟨rfl, hk8⟩
    have HK8 := Lib.hid (HK7.out.then hk8); clear hk8
    go_wp2
    go_ret
    exact ⟨rfl, HFIN.out _ HK8.out⟩
end Scr
end Go.Proofs.Ytfobbocaodppeaa
