/- OpsOver: the law walked. -/
import Derived.Test.YtnmlemciiigjcaaAwake6
import Derived.Test.YtnmlemciiigjcaaOpsOpen
import Derived.Test.YtnmlemciiigjcaaNorm5
set_option linter.unusedSimpArgs false
set_option linter.unusedVariables false
namespace Go.Proofs.Ytnmlemciiigjcaa
open Go.RowKit Go.Maps
set_option maxRecDepth 100000
namespace Ops
open Vn
theorem samePairs_refl (w : World) (A B : Option Addr) (c d : Nat) (n : Nat) (S : List PairR) (hn : S.length = n) (ha : Src w 2 A n (pcells S)) (hb : Src w 2 B n (pcells S)) (h : n ≤ 1000000) :
    Calls Try.prog 28 #[.slice A n c, .slice B n d] w fun e w' => e = .returned (.bool true) ∧ Kept NoF w w' := by
  subst hn
  have h1 := rsamePairs_any w A B c d S S ha hb h
  rw [decide_eq_true rfl] at h1
  exact h1
theorem sameOps_refl (w : World) (A B : Option Addr) (c d : Nat) (n : Nat) (S : List OpR) (hn : S.length = n) (ha : Src w 3 A n (cells S)) (hb : Src w 3 B n (cells S)) (h : n ≤ 1000000) :
    Calls Try.prog 56 #[.slice A n c, .slice B n d] w fun e w' => e = .returned (.bool true) ∧ Kept NoF w w' := by
  subst hn
  have h1 := rsameOps_any w A B c d S S ha hb h
  rw [decide_eq_true rfl] at h1
  exact h1
theorem overL_good {l : List PairR} {m : List OpR} (hl : ∀ p ∈ l, p.key.size ≤ maxLen ∧ p.val.size ≤ maxLen) (hm : ∀ o ∈ m, o.key.size ≤ maxLen ∧ o.val.size ≤ maxLen) : ∀ p ∈ overL l m, p.key.size ≤ maxLen ∧ p.val.size ≤ maxLen := by
  intro p hp
  unfold overL at hp
  obtain ⟨x, hx, rfl⟩ := List.mem_map.1 hp
  obtain ⟨v, hv⟩ := Option.isSome_iff_exists.1 (mem_overK.1 hx)
  have h := finE_key_size hl hm hv
  rw [hv]
  exact h
theorem normL_mem {m : List OpR} {o : OpR} (h : o ∈ normL m) : o ∈ m := by
  unfold normL at h
  obtain ⟨x, hx, rfl⟩ := List.mem_map.1 h
  obtain ⟨o, ho⟩ := lastF_some (normK_mem.1 hx)
  rw [ho]
  exact (lastF_key ho).2
set_option maxHeartbeats 8000000 in
theorem law_over (w : World) (A B C : Option Addr) (c d f : Nat) (l : List PairR) (m n : List OpR) (hl : Src w 2 A l.length (pcells l)) (hm : Src w 3 B m.length (cells m)) (hn : Src w 3 C n.length (cells n))
    (hc : l.length ≤ c) (hcm : c ≤ maxLen) (hd : m.length ≤ d) (hdm : d ≤ maxLen) (hf : n.length ≤ f) (hfm : f ≤ maxLen)
    (hgl : ∀ p ∈ l, p.key.size ≤ maxLen ∧ p.val.size ≤ maxLen) (hgm : ∀ o ∈ m, o.key.size ≤ maxLen ∧ o.val.size ≤ maxLen) (hgn : ∀ o ∈ n, o.key.size ≤ maxLen ∧ o.val.size ≤ maxLen) :
    Calls Try.prog 14 #[.slice A l.length c, .slice B m.length d, .slice C n.length f] w fun e w' => e = .returned (.bool true) ∧ Below w.heap.size w w' := by
  unfold maxLen at hcm hdm hfm
  have haw : ∀ W, Kept NoF w W → Calls Try.prog 46 #[] W fun e w' => e = .returned (.bool true) ∧ Kept NoF w w' :=
    fun W hW => (awake6_any W).mono fun e w' ⟨h1, h2⟩ => ⟨h1, hW.then h2⟩
  have HAW := Lib.hid haw; clear haw
  by_cases h1 : 30 < l.length ∨ (¬ 30 < l.length ∧ 30 < m.length) ∨ (¬ 30 < l.length ∧ ¬ 30 < m.length ∧ 30 < n.length)
  · clear hl hm hn hgl hgm hgn
    rcases h1 with h1 | ⟨h1, h2⟩ | ⟨h1, h2, h3⟩
    all_goals
      go_enter Try.func14, Try.ntmps14
      go_wp2_with fail
      refine (HAW.out _ (by (repeat' (first | with_reducible exact Kept.refl _ _ | with_reducible refine Kept.put ?_ ?_ | with_reducible refine Kept.drewN ?_ _ | with_reducible refine Kept.drew ?_ | with_reducible refine Kept.alloc ?_ _ | (fail) | (right; simp; done))))).mono ?_
      rintro e w2 ⟨rfl, hk⟩
      have hb := hk.below (Nat.le_refl _) (fun _ x => x.elim)
      have HB := Lib.hid hb; clear hb hk
      go_wp2
      go_ret
      exact ⟨rfl, HB.out⟩
  obtain ⟨h1, h2, h3⟩ : ¬ 30 < l.length ∧ ¬ 30 < m.length ∧ ¬ 30 < n.length := by omega
  have hkm := fun o ho => (hgm o ho).1
  have g1 := fun W (hW : Kept NoF w W) => oover_any W A B c d l m (hl.kept hW (fun _ _ x => x)) (hm.kept hW (fun _ _ x => x)) (by omega) (by omega) hgl hgm
  have g2 := fun W (hW : Kept NoF w W) => Nrm.norm_any W B d m (hm.kept hW (fun _ _ x => x)) (by omega) hkm
  have g3 := fun W (hW : Kept NoF w W) => rnorm_any W B d m (hm.kept hW (fun _ _ x => x)) (by omega)
  have g5 := fun W (hW : Kept NoF w W) => rover_any W A B c d l m (hl.kept hW (fun _ _ x => x)) (hm.kept hW (fun _ _ x => x)) (by omega)
  have hNl := normL_len m
  have g7 := fun W A' c' (hW : Kept NoF w W) (hs : Src W 3 A' (normL m).length (cells (normL m))) => oover_any W A A' c c' l (normL m) (hl.kept hW (fun _ _ x => x)) hs (by omega) (by omega) hgl (fun o ho => hgm o (normL_mem ho))
  have hal : (overL l m).length ≤ 60 := by rw [overL_length]; have := overK_len l m; omega
  have hag := overL_good hgl hgm
  have g8 := fun W A' c' (hW : Kept NoF w W) (hs : Src W 2 A' (overL l m).length (pcells (overL l m))) => oover_any W A' C c' f (overL l m) n hs (hn.kept hW (fun _ _ x => x)) (by omega) (by omega) hag hgn
  have g9 := fun W A' c' (hW : Kept NoF w W) (hs : Src W 3 A' (m ++ n).length (cells (m ++ n))) => oover_any W A A' c c' l (m ++ n) (hl.kept hW (fun _ _ x => x)) hs (by omega) (by rw [List.length_append]; omega) hgl (fun o ho => by
    rcases List.mem_append.1 ho with h | h
    · exact hgm o h
    · exact hgn o h)
  rw [overL_append, List.length_append] at g9
  rw [overL_norm] at g7
  rw [overR_eq] at g5
  have hel : (overL (overL l m) n).length ≤ 90 := by rw [overL_length]; have := overK_len (overL l m) n; omega
  have hsm := fun W (hW : Kept NoF w W) => hm.kept hW (fun _ _ x => x)
  have hsn := fun W (hW : Kept NoF w W) => hn.kept hW (fun _ _ x => x)
  clear hag hkm hgl hgm hgn hl hm hn
  obtain ⟨a, ha⟩ : ∃ a, overL l m = a := ⟨_, rfl⟩
  rw [ha] at g1 g5 g7 g8 g9 hal hel
  obtain ⟨b, hb⟩ : ∃ b, overL a n = b := ⟨_, rfl⟩
  rw [hb] at g8 g9 hel
  obtain ⟨N, hN⟩ : ∃ N, normL m = N := ⟨_, rfl⟩
  rw [hN] at g2 g3 g7 hNl
  clear ha hb hN
  obtain ⟨an, han⟩ : ∃ k, a.length = k := ⟨_, rfl⟩
  obtain ⟨bn, hbn⟩ : ∃ k, b.length = k := ⟨_, rfl⟩
  obtain ⟨nn, hnn⟩ : ∃ k, N.length = k := ⟨_, rfl⟩
  have g4 := fun W A' B' c' d' hs hs' => sameOps_refl W A' B' c' d' nn N hnn hs hs' (by omega)
  have g6 := fun W A' B' c' d' hs hs' => samePairs_refl W A' B' c' d' an a han hs hs' (by omega)
  have g10 := fun W A' B' c' d' hs hs' => samePairs_refl W A' B' c' d' bn b hbn hs hs' (by omega)
  unfold NewPairs at g1 g5 g7 g8 g9
  unfold NewOps at g2 g3
  rw [han] at g1 g5 g7 g8
  rw [hbn] at g8 g9
  rw [hnn] at g2 g3 g7
  have G1 := Lib.hid g1; clear g1
  have G2 := Lib.hid g2; clear g2
  have G3 := Lib.hid g3; clear g3
  have G4 := Lib.hid g4; clear g4
  have G5 := Lib.hid g5; clear g5
  have G6 := Lib.hid g6; clear g6
  have G7 := Lib.hid g7; clear g7
  have G8 := Lib.hid g8; clear g8
  have G9 := Lib.hid g9; clear g9
  have G10 := Lib.hid g10; clear g10
  have HSM := Lib.hid hsm; clear hsm
  have HSN := Lib.hid hsn; clear hsn
  have HM0 : Hid (0 + m.length ≤ maxLen) := Lib.hid (by unfold maxLen; omega)
  have HY0 : Hid ((0 + m.length) * 40 ≤ 140737488355328) := Lib.hid (by omega)
  have HM1 : Hid (m.length + n.length ≤ maxLen) := Lib.hid (by unfold maxLen; omega)
  have HY1 : Hid ((m.length + n.length) * 40 ≤ 140737488355328) := Lib.hid (by omega)
  clear hNl hal hel han hbn hnn
  go_enter Try.func14, Try.ntmps14
  go_wp2_with fail
  refine (G1.out _ (Kept.refl _ _)).mono ?_
  rintro e w1 ⟨A1, c1, rfl, hr, hk⟩
  have H1 := Lib.hid (And.intro (Src.of_own hr.1) hk); clear hr hk
  go_wp2_with (first
    | (at_builtin; refine list_append_src elemOp (.tmp 26) (.tmp 27) rfl rfl (Value.slice (some ⟨w1.heap.size, 0, none⟩) 0 0) rfl (own_empty (Has.new w1 106 #[]) rfl) d rfl (HSM.out _ (H1.out.2.alloc _)) (one_cells m) HM0.out HY0.out ?_; intro A2 c2 w2 ho2 hg2 ha2; simp only [Nat.zero_add, List.nil_append] at ho2 ha2; have hk2 : Kept NoF w1 w2 := ((Kept.refl NoF w1).alloc _).grown hg2 (fun k hk => .inr (new_row hk (Nat.le_refl _))); have hn2 : ∀ k, (Value.slice A2 m.length c2).ownBlock = some k → w1.heap.size ≤ k := (fun k hk => new_row2 hk ha2 (Nat.le_refl _) (by simp)); have H2 := Lib.hid (And.intro ho2 (And.intro hn2 hk2)); clear ho2 hg2 ha2 hk2 hn2)
    | (at_builtin; refine list_append_src elemOp (.tmp 28) (.tmp 29) rfl rfl (Value.slice A2 m.length c2) rfl H2.out.1 f rfl (HSN.out _ (H1.out.2.then H2.out.2.2)) (one_cells n) HM1.out HY1.out ?_; intro A3 c3 w3 ho3 hg3 ha3; have hk3 : Kept NoF w1 w3 := H2.out.2.2.grown hg3 (fun k hk => .inr (H2.out.2.1 k hk)); have H3 := Lib.hid (And.intro (Src.of_own ho3) hk3); clear ho3 hg3 ha3 hk3))
  have S3 := Lib.hid (And.intro (H1.out.1.kept H3.out.2 (fun _ _ x => x)) (And.intro H3.out.1 (H1.out.2.then H3.out.2)))
  refine (G2.out _ S3.out.2.2).mono ?_
  rintro e w4 ⟨A4, c4, rfl, hr, hk⟩
  have X4 := Lib.hid (Src.of_own hr.1)
  have S4 := Lib.hid (And.intro (S3.out.1.kept hk (fun _ _ x => x)) (And.intro (S3.out.2.1.kept hk (fun _ _ x => x)) ((S3.out.2.2).then hk)))
  clear hr hk
  go_wp2_with fail
  refine (G3.out _ S4.out.2.2).mono ?_
  rintro e w5 ⟨A5, c5, rfl, hr, hk⟩
  have X5 := Lib.hid (And.intro (X4.out.kept hk (fun _ _ x => x)) (Src.of_own hr.1))
  have S5 := Lib.hid (And.intro (S4.out.1.kept hk (fun _ _ x => x)) (And.intro (S4.out.2.1.kept hk (fun _ _ x => x)) ((S4.out.2.2).then hk)))
  clear hr hk
  go_wp2_with fail
  refine (G4.out _ _ _ _ _ X5.out.1 X5.out.2).mono ?_
  rintro e w6 ⟨rfl, hk⟩
  have S6 := Lib.hid (And.intro (S5.out.1.kept hk (fun _ _ x => x)) (And.intro (S5.out.2.1.kept hk (fun _ _ x => x)) ((S5.out.2.2).then hk)))
  clear hk
  go_wp2_with fail
  refine (G5.out _ S6.out.2.2).mono ?_
  rintro e w7 ⟨A7, c7, rfl, hr, hk⟩
  have X7 := Lib.hid (Src.of_own hr.1)
  have S7 := Lib.hid (And.intro (S6.out.1.kept hk (fun _ _ x => x)) (And.intro (S6.out.2.1.kept hk (fun _ _ x => x)) ((S6.out.2.2).then hk)))
  clear hr hk
  go_wp2_with fail
  refine (G6.out _ _ _ _ _ S7.out.1 X7.out).mono ?_
  rintro e w8 ⟨rfl, hk⟩
  have S8 := Lib.hid (And.intro (S7.out.1.kept hk (fun _ _ x => x)) (And.intro (S7.out.2.1.kept hk (fun _ _ x => x)) ((S7.out.2.2).then hk)))
  clear hk
  go_wp2_with fail
  refine (G2.out _ S8.out.2.2).mono ?_
  rintro e w9 ⟨A9, c9, rfl, hr, hk⟩
  have X9 := Lib.hid (Src.of_own hr.1)
  have S9 := Lib.hid (And.intro (S8.out.1.kept hk (fun _ _ x => x)) (And.intro (S8.out.2.1.kept hk (fun _ _ x => x)) ((S8.out.2.2).then hk)))
  clear hr hk
  go_wp2_with fail
  refine (G7.out _ _ _ S9.out.2.2 X9.out).mono ?_
  rintro e w10 ⟨A10, c10, rfl, hr, hk⟩
  have X10 := Lib.hid (Src.of_own hr.1)
  have S10 := Lib.hid (And.intro (S9.out.1.kept hk (fun _ _ x => x)) (And.intro (S9.out.2.1.kept hk (fun _ _ x => x)) ((S9.out.2.2).then hk)))
  clear hr hk
  go_wp2_with fail
  refine (G6.out _ _ _ _ _ X10.out S10.out.1).mono ?_
  rintro e w11 ⟨rfl, hk⟩
  have S11 := Lib.hid (And.intro (S10.out.1.kept hk (fun _ _ x => x)) (And.intro (S10.out.2.1.kept hk (fun _ _ x => x)) ((S10.out.2.2).then hk)))
  clear hk
  go_wp2_with fail
  refine (G8.out _ _ _ S11.out.2.2 S11.out.1).mono ?_
  rintro e w12 ⟨A12, c12, rfl, hr, hk⟩
  have X12 := Lib.hid (Src.of_own hr.1)
  have S12 := Lib.hid (And.intro (S11.out.1.kept hk (fun _ _ x => x)) (And.intro (S11.out.2.1.kept hk (fun _ _ x => x)) ((S11.out.2.2).then hk)))
  clear hr hk
  go_wp2_with fail
  refine (G9.out _ _ _ S12.out.2.2 (by rw [cells_two]; exact S12.out.2.1)).mono ?_
  rintro e w13 ⟨A13, c13, rfl, hr, hk⟩
  have X13 := Lib.hid (And.intro (X12.out.kept hk (fun _ _ x => x)) (Src.of_own hr.1))
  have S13 := Lib.hid (And.intro (S12.out.1.kept hk (fun _ _ x => x)) (And.intro (S12.out.2.1.kept hk (fun _ _ x => x)) ((S12.out.2.2).then hk)))
  clear hr hk
  go_wp2_with fail
  refine (G10.out _ _ _ _ _ X13.out.1 X13.out.2).mono ?_
  rintro e w14 ⟨rfl, hk⟩
  have S14 := Lib.hid (And.intro (S13.out.1.kept hk (fun _ _ x => x)) (And.intro (S13.out.2.1.kept hk (fun _ _ x => x)) ((S13.out.2.2).then hk)))
  clear hk
  go_wp2_with fail
  refine (HAW.out _ S14.out.2.2).mono ?_
  rintro e w15 ⟨rfl, hk⟩
  have hb := hk.below (Nat.le_refl _) (fun _ x => x.elim)
  have HB := Lib.hid hb; clear hb hk
  go_wp2
  go_ret
  exact ⟨rfl, HB.out⟩
end Ops
end Go.Proofs.Ytnmlemciiigjcaa
