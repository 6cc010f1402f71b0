/- StoryGrows: the law walked. -/
import Derived.Test.YtnmlemciiigjcaaAwake37
import Derived.Test.YtnmlemciiigjcaaGrows
set_option linter.unusedSimpArgs false
set_option linter.unusedVariables false
namespace Go.Proofs.Ytnmlemciiigjcaa
open Go.RowKit
set_option maxRecDepth 100000
namespace Ent
open Ops Vn
theorem LOk.grown {W : World} {w log : List EntR} (hw : LOk W w) (hl : LOk W log) (n : Nat) : LOk W (Ent.grown w log n) := by
  intro e he
  unfold Ent.grown at he
  rcases List.mem_append.1 he with h | h
  · exact hw e h
  · obtain ⟨b, hb, rfl⟩ := List.mem_map.1 h
    have hb2 := hl b (List.mem_of_mem_take (List.mem_of_mem_drop hb))
    exact ⟨Src.nil _ _ _, Nat.le_refl _, Nat.zero_le _, fun o ho => absurd ho List.not_mem_nil, hb2.2.2.2.2.1, hb2.2.2.2.2.2.1, Nat.zero_le _⟩
theorem grown_ops {w log : List EntR} {n M : Nat} (hw : ∀ e ∈ w, e.ops.length ≤ M) : ∀ e ∈ grown w log n, e.ops.length ≤ M := by
  intro e he
  unfold grown at he
  rcases List.mem_append.1 he with h | h
  · exact hw e h
  · obtain ⟨b, hb, rfl⟩ := List.mem_map.1 h
    exact Nat.zero_le _
theorem addL_err {w log : List EntR} {st : Int} (h : (addL w log st).2 ≠ 0) : addL w log st = ([], 18) := by
  unfold addL at h ⊢
  split at h
  · exact absurd rfl h
  · rename_i ha
    rw [if_neg ha]
theorem run_min3 {P : Program} {w : World} (ts : Array TypeId) (t : TypeId) (x y z : Int) : (Builtin.min_ ts t #[.int .i64 x, .int .i64 y, .int .i64 z]).run P w = .ok (.int .i64 (if z < (if y < x then y else x) then z else (if y < x then y else x))) w := by
  simp [Builtin.min_, Builtin.min2]
theorem below_of' {w w' : World} (hk : Kept NoF w w') : Below w.heap.size w w' := hk.below (Nat.le_refl _) (fun _ x => x.elim)
set_option maxHeartbeats 8000000 in
theorem law_grows (w : World) (A B : Option Addr) (c d : Nat) (l m : List EntR) (st : Int) (hl : Src w 4 A l.length (ecells l)) (hm : Src w 4 B m.length (ecells m)) (hlo : LOk w l) (hmo : LOk w m) (hc : l.length ≤ c) (hd : m.length ≤ d)
    (hlz : l.length * 48 ≤ 140737488351232) (hmz : m.length * 48 ≤ 140737488351232) :
    Calls Try.prog 7 #[.slice A l.length c, .slice B m.length d, .int .i64 st] w fun e w' => e = .returned (.bool true) ∧ Below w.heap.size w w' := by
  have haw : ∀ W, Kept NoF w W → Calls Try.prog 29 #[] W fun e w' => e = .returned (.bool true) ∧ Kept NoF w w' :=
    fun W hW => (awake37_any W).mono fun e w' ⟨h1, h2⟩ => ⟨h1, hW.then h2⟩
  have HAW := Lib.hid haw; clear haw
  have hm1 := much_any w A c l hl hlo hlz
  have hm2 := much_any w B d m hm hmo hmz
  by_cases h1 : 100 < muchL l
  · obtain ⟨k, hk⟩ : ∃ k, muchL l = k := ⟨_, rfl⟩
    rw [hk] at hm1 h1
    have HM1 := Lib.hid hm1; clear hm1 hm2 hl hm hlo hmo hk
    go_enter Try.func7, Try.ntmps7
    go_wp2_with fail
    refine HM1.out.mono ?_
    rintro e w2 ⟨rfl, rfl⟩
    go_wp2_with fail
    refine (HAW.out _ (Kept.refl _ _)).mono ?_
    rintro e w3 ⟨rfl, hk⟩
    have HB := Lib.hid (below_of' hk); clear hk
    go_wp2
    go_ret
    exact ⟨rfl, HB.out⟩
  obtain ⟨hl100, hlops⟩ := muchL_small h1
  by_cases h2 : 100 < muchL m
  · obtain ⟨k, hk⟩ : ∃ k, muchL l = k := ⟨_, rfl⟩
    obtain ⟨k2, hk2⟩ : ∃ k, muchL m = k := ⟨_, rfl⟩
    rw [hk] at hm1 h1
    rw [hk2] at hm2 h2
    have HM1 := Lib.hid hm1; clear hm1
    have HM2 := Lib.hid hm2; clear hm2 hl hm hlo hmo hk hk2 hlops
    go_enter Try.func7, Try.ntmps7
    go_wp2_with fail
    refine HM1.out.mono ?_
    rintro e w2 ⟨rfl, rfl⟩
    go_wp2_with fail
    refine HM2.out.mono ?_
    rintro e w2 ⟨rfl, rfl⟩
    go_wp2_with fail
    refine (HAW.out _ (Kept.refl _ _)).mono ?_
    rintro e w3 ⟨rfl, hk⟩
    have HB := Lib.hid (below_of' hk); clear hk
    go_wp2
    go_ret
    exact ⟨rfl, HB.out⟩
  obtain ⟨hm100, hmops⟩ := muchL_small h2
  obtain ⟨k1, hk1⟩ : ∃ k, muchL l = k := ⟨_, rfl⟩
  obtain ⟨k2, hk2⟩ : ∃ k, muchL m = k := ⟨_, rfl⟩
  rw [hk1] at hm1 h1
  rw [hk2] at hm2 h2
  have HM1 := Lib.hid hm1; clear hm1 hk1
  have HM2 := Lib.hid hm2; clear hm2 hk2
  have hadd := add_any w A B c d l m st hl hm (by omega) (by omega) hc hd
  by_cases he : (addL l m st).2 = 0
  rotate_left
  · rw [addL_err he] at hadd
    have HADD := Lib.hid hadd; clear hadd he hl hm hlo hmo hlops hmops
    go_enter Try.func7, Try.ntmps7
    go_wp2_with fail
    refine HM1.out.mono ?_
    rintro e w2 ⟨rfl, rfl⟩
    go_wp2_with fail
    refine HM2.out.mono ?_
    rintro e w2 ⟨rfl, rfl⟩
    go_wp2_with fail
    refine HADD.out.mono ?_
    rintro e w3 ⟨A1, c1, rfl, hrow, hk⟩
    have HK := Lib.hid hk; clear hk hrow
    go_wp2_with fail
    refine (HAW.out _ HK.out).mono ?_
    rintro e w4 ⟨rfl, hk⟩
    have HB := Lib.hid (below_of' hk); clear hk
    go_wp2
    go_ret
    exact ⟨rfl, HB.out⟩
  obtain ⟨hag1, hag2, hag3⟩ := add_again he
  obtain ⟨a, ha⟩ : ∃ a, (addL l m st).1 = a := ⟨_, rfl⟩
  have hAL : addL l m st = (a, 0) := by rw [← ha, ← he]
  rw [hAL] at hadd hag1
  dsimp only at hag1
  rw [ha] at hag2 hag3
  have hnm := addN_le m st
  have hal : a.length = max l.length (addN m st) := by rw [hag2, grown_length hnm]
  have hta : a.take l.length = l := by rw [hag2, grown_take]
  have hho := holds_of (a := a) hnm (by omega) hag3
  have haok : ∀ W, Kept NoF w W → LOk W a := fun W hW => by rw [hag2]; exact (hlo.kept hW).grown (hmo.kept hW) _
  have haops : ∀ e ∈ a, e.ops.length ≤ 100 := by rw [hag2]; exact grown_ops hlops
  obtain ⟨n, hn⟩ : ∃ n, addN m st = n := ⟨_, rfl⟩
  rw [hn] at hnm hal hho
  have hna : n ≤ a.length := by omega
  have hla : l.length ≤ a.length := by omega
  have ha200 : a.length ≤ 200 := by omega
  obtain ⟨k, hk⟩ : ∃ k, (max st 0).toNat = k := ⟨_, rfl⟩
  obtain ⟨s, hs⟩ : ∃ s, stampL m = s := ⟨_, rfl⟩
  have hnk : n = min k s := by rw [← hn, ← hk, ← hs]; rfl
  have hmx : ∀ W ts t, (Builtin.max_ ts t #[.int .i64 st, .int .i64 0]).run Try.prog W = .ok (.int .i64 k) W := by
    intro W ts t
    rw [run_max_int2, ← hk]
    split <;> (congr 2; omega)
  obtain ⟨an, han⟩ : ∃ an, a.length = an := ⟨_, rfl⟩
  have hmn : ∀ W ts t, (Builtin.min_ ts t #[.int .i64 (an : Int), .int .i64 (s : Int), .int .i64 (k : Int)]).run Try.prog W = .ok (.int .i64 n) W := by
    intro W ts t
    have e : (if (k : Int) < (if (s : Int) < (an : Int) then (s : Int) else an) then (k : Int) else (if (s : Int) < (an : Int) then (s : Int) else an)) = n := by
      split <;> split at * <;> omega
    rw [run_min3, e]
  have hstm := fun W (hW : Kept NoF w W) => rstamped_any W B d m (hm.kept hW (fun _ _ x => x)) (by omega)
  rw [hs] at hstm
  have hadd2 : ∀ W A' c', Kept NoF w W → Src W 4 A' an (ecells a) → an ≤ c' → Calls Try.prog 30 #[.slice A' an c', .slice B m.length d, .int .i64 st] W (AddPost W (a, 0)) := by
    intro W A' c' hW hs hc'
    have h := add_any W A' B c' d a m st (by rw [han]; exact hs) (hm.kept hW (fun _ _ x => x)) (by omega) (by omega) (by omega) hd
    rw [hag1, han] at h
    exact h
  have hsame1 : ∀ W A' c', Kept NoF w W → Src W 4 A' an (ecells a) → Calls Try.prog 31 #[.slice A' l.length c', .slice A l.length c] W fun e w' => e = .returned (.bool true) ∧ Kept NoF W w' := by
    intro W A' c' hW hs
    have h1 := Src.takeE (by rw [han]; exact hs) hla
    rw [hta] at h1
    have h := rsameAll_any W A' A c' c l l h1 (hl.kept hW (fun _ _ x => x)) (hlo.kept hW) (hlo.kept hW) (by omega) (fun e he => by have := hlops e he; omega)
    rw [sameAllB_self] at h
    exact h
  have hsame2 : ∀ W A' B' c' d', Kept NoF w W → Src W 4 A' an (ecells a) → Src W 4 B' an (ecells a) → Calls Try.prog 31 #[.slice A' an c', .slice B' an d'] W fun e w' => e = .returned (.bool true) ∧ Kept NoF W w' := by
    intro W A' B' c' d' hW hs hs'
    have h := rsameAll_any W A' B' c' d' a a (by rw [han]; exact hs) (by rw [han]; exact hs') (haok W hW) (haok W hW) (by omega) (fun e he => by have := haops e he; omega)
    rw [sameAllB_self, han] at h
    exact h
  have hhold : ∀ W A' c', Kept NoF w W → Src W 4 A' an (ecells a) → an ≤ c' → Calls Try.prog 33 #[.slice A' n c', .slice B m.length d] W fun e w' => e = .returned (.int .i64 0) ∧ Kept NoF W w' := by
    intro W A' c' hW hs hc'
    have h1 := Src.takeE (by rw [han]; exact hs) hna
    have hlen : (a.take n).length = n := by rw [List.length_take]; omega
    have h := holds_any W A' B c' d (a.take n) m h1 (hm.kept hW (fun _ _ x => x)) (by omega) (by omega) (by omega) hd
    rw [hho, hlen] at h
    exact h
  rw [han] at hla hna
  unfold AddPost at hadd
  dsimp only at hadd
  rw [han] at hadd
  have HADD := Lib.hid hadd; clear hadd
  have HADD2 := Lib.hid hadd2; clear hadd2
  have HS1 := Lib.hid hsame1; clear hsame1
  have HS2 := Lib.hid hsame2; clear hsame2
  have HH := Lib.hid hhold; clear hhold
  have HST := Lib.hid hstm; clear hstm
  have HAN := Lib.hid han; clear han
  clear hag1 hag2 hag3 ha hAL hal hta hho haok haops hn hk hs hnk he hl hm hlo hmo hlops hmops hnm ha200
  go_enter Try.func7, Try.ntmps7
  go_wp2_with fail
  refine HM1.out.mono ?_
  rintro e w2 ⟨rfl, rfl⟩
  go_wp2_with fail
  refine HM2.out.mono ?_
  rintro e w2 ⟨rfl, rfl⟩
  go_wp2_with fail
  refine HADD.out.mono ?_
  rintro e w3 ⟨A1, c1, rfl, hrow, hk⟩
  have hs1 := Src.of_own hrow.1
  have hcap1 := (own_cap hrow.1).1
  have H3 := Lib.hid (And.intro hs1 hk); clear hs1 hk hrow
  have hc1 : (l.length : Int) ≤ c1 := by omega
  have hl0 : (0 : Int) ≤ l.length := by omega
  have hn0 : (0 : Int) ≤ n := by omega
  have hn1 : (n : Int) ≤ c1 := by omega
  go_wp2_with fail
  refine (HS1.out _ _ _ H3.out.2 H3.out.1).mono ?_
  rintro e w4 ⟨rfl, hk⟩
  have H4 := Lib.hid (And.intro (H3.out.1.kept hk (fun _ _ x => x)) (H3.out.2.then hk)); clear hk H3
  go_wp2_with fail
  refine (HADD2.out _ _ _ H4.out.2 H4.out.1 hcap1).mono ?_
  rintro e w5 ⟨A2, c2, rfl, hrow, hk⟩
  dsimp only at hrow ⊢
  rw [HAN.out] at hrow ⊢
  have H5 := Lib.hid (And.intro (H4.out.1.kept hk (fun _ _ x => x)) (And.intro (Src.of_own hrow.1) (H4.out.2.then hk))); clear hk hrow H4
  go_wp2_with fail
  refine (HST.out _ H5.out.2.2).mono ?_
  rintro e w6 ⟨rfl, rfl⟩
  go_wp2_with fail
  refine (HS2.out _ _ _ _ _ H5.out.2.2 H5.out.1 H5.out.2.1).mono ?_
  rintro e w7 ⟨rfl, hk⟩
  have H7 := Lib.hid (And.intro (H5.out.1.kept hk (fun _ _ x => x)) (H5.out.2.2.then hk)); clear hk H5
  go_wp2_with fail
  refine (HH.out _ _ _ H7.out.2 H7.out.1 hcap1).mono ?_
  rintro e w8 ⟨rfl, hk⟩
  have HK8 := Lib.hid (H7.out.2.then hk); clear hk
  go_wp2_with fail
  refine (HAW.out _ HK8.out).mono ?_
  rintro e w9 ⟨rfl, hk⟩
  have HB := Lib.hid (below_of' hk); clear hk
  go_wp2
  go_ret
  exact ⟨rfl, HB.out⟩
end Ent
end Go.Proofs.Ytnmlemciiigjcaa
