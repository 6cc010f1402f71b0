/- OpsReads, OpsBack: the laws walked. -/
import Derived.Test.YtnmlemciiigjcaaOps7
import Derived.Test.YtnmlemciiigjcaaAwake6
set_option linter.unusedSimpArgs false
set_option linter.unusedVariables false
namespace Go.Proofs.Ytnmlemciiigjcaa
open Go.RowKit
set_option maxRecDepth 100000
namespace Ops
open Vn Wire
theorem ofB_len (s : ByteArray) : (ofB s).1.ops.length ≤ 4 := by
  unfold ofB
  dsimp only
  split
  · exact Nat.zero_le _
  · split
    · exact Nat.zero_le _
    · dsimp only
      rw [rOps_len]
      exact rNum_le _ _ _
theorem ofB_bad (s : ByteArray) (h : (ofB s).2 ≠ 0) : (ofB s).1 = zero := by
  unfold ofB at h ⊢
  dsimp only at h ⊢
  split
  · rfl
  · rename_i h1
    rw [if_neg h1] at h
    split
    · rfl
    · rename_i h2
      rw [if_neg h2] at h
      exact absurd rfl h
theorem sameB_self' (a : Batch) : sameB a a = true := by simp [sameB]
def GotB (w : World) (cl rq : Int) (l : List OpR) (e0 : Int) (e : Ending) (w' : World) : Prop :=
  ∃ A c, e = .returned (.tuple #[.agg #[.int .i64 cl, .int .i64 rq, .slice A l.length c], .int .i64 e0]) ∧ Src w' 3 A l.length (cells l) ∧ l.length ≤ c ∧ c ≤ maxLen ∧ Kept NoF w w'
theorem oof2 (w : World) (s : ByteArray) (hs : s.size ≤ maxLen) {cl rq : Int} {l : List OpR} {e0 : Int} (h : ofB s = (⟨cl, rq, l⟩, e0)) : Calls Try.prog 53 #[.string s] w (GotB w cl rq l e0) := by
  refine (oof_any w s hs).mono ?_
  rintro e w' ⟨A, c, h1, h2, h3, h4, h5⟩
  rw [h] at h1 h2 h3
  exact ⟨A, c, h1, h2, h3, h4, h5⟩
theorem rof2 (w : World) (s : ByteArray) (hs : s.size ≤ maxLen) {cl rq : Int} {l : List OpR} {e0 : Int} (h : ofB s = (⟨cl, rq, l⟩, e0)) : Calls Try.prog 54 #[.string s] w (GotB w cl rq l e0) := by
  refine (rof_any w s hs).mono ?_
  rintro e w' ⟨A, c, h1, h2, h3, h4, h5⟩
  rw [h] at h1 h2 h3
  exact ⟨A, c, h1, h2, h3, h4, h5⟩
theorem below_of {w w' : World} (hk : Kept NoF w w') : Below w.heap.size w w' := hk.below (Nat.le_refl _) (fun _ x => x.elim)
set_option maxHeartbeats 4000000 in
theorem law_reads (w : World) (s : ByteArray) (hs : s.size ≤ maxLen) : Calls Try.prog 12 #[.string s] w fun e w' => e = .returned (.bool true) ∧ Below w.heap.size w w' := by
  have haw : ∀ W, Kept NoF w W → Calls Try.prog 46 #[] W fun e w' => e = .returned (.bool true) ∧ Kept NoF w w' :=
    fun W hW => (awake6_any W).mono fun e w' ⟨h1, h2⟩ => ⟨h1, hW.then h2⟩
  have HAW := Lib.hid haw; clear haw
  by_cases h1 : 2000 < s.size
  · go_enter Try.func12, Try.ntmps12
    go_wp2_with fail
    refine (HAW.out _ (by (repeat' (first | with_reducible exact Kept.refl _ _ | with_reducible refine Kept.put ?_ ?_ | with_reducible refine Kept.drewN ?_ _ | with_reducible refine Kept.drew ?_ | with_reducible refine Kept.alloc ?_ _ | (fail) | (right; simp; done))))).mono ?_
    rintro e w2 ⟨rfl, hk⟩
    have HB := Lib.hid (below_of hk); clear hk
    go_wp2
    go_ret
    exact ⟨rfl, HB.out⟩
  have hl4 := ofB_len s
  obtain ⟨p, hp⟩ : ∃ p, ofB s = p := ⟨_, rfl⟩
  rw [hp] at hl4
  obtain ⟨⟨cl, rq, l⟩, e0⟩ := p
  dsimp only at hl4
  have ho := fun W => oof2 W s hs hp
  have hr := fun W => rof2 W s hs hp
  have hsame : ∀ W A B c d, Src W 3 A l.length (cells l) → Src W 3 B l.length (cells l) → Calls Try.prog 52 #[.agg #[.int .i64 cl, .int .i64 rq, .slice A l.length c], .agg #[.int .i64 cl, .int .i64 rq, .slice B l.length d]] W fun e w' => e = .returned (.bool true) ∧ Kept NoF W w' :=
    fun W A B c d ha hb => (rsame_any W ⟨cl, rq, l⟩ ⟨cl, rq, l⟩ A B c d ha hb (by dsimp only; omega)).mono fun e w' ⟨h1, h2⟩ => ⟨by rw [h1, sameB_self'], h2⟩
  have HO := Lib.hid ho; clear ho
  have HR := Lib.hid hr; clear hr
  have HSA := Lib.hid hsame; clear hsame hp hl4
  go_enter Try.func12, Try.ntmps12
  go_wp2_with fail
  refine (HO.out _).mono ?_
  rintro e w2 ⟨A, c, rfl, g1, g2, g3, g4⟩
  have hb0 := Has.new w2 45 #[.int .i64 cl, .int .i64 rq, .slice A l.length c]
  have hk0 : Kept NoF w (w2.alloc (.cells #[.int .i64 cl, .int .i64 rq, .slice A l.length c] 45)) := g4.alloc _
  have hs0 := g1.kept ((Kept.refl NoF w2).alloc (.cells #[.int .i64 cl, .int .i64 rq, .slice A l.length c] 45)) (fun _ _ x => x)
  have H0 := Lib.hid (And.intro hb0 (And.intro hk0 hs0)); clear hb0 hk0 hs0 g1 g2 g3 g4
  go_wp2_with fail
  refine (HR.out _).mono ?_
  rintro e w3 ⟨A', c', rfl, g1, g2, g3, g4⟩
  have hb0 := H0.out.1.kept g4 (fun x => x)
  have hx0 := (hb0.alloc (.cells #[.int .i64 cl, .int .i64 rq, .slice A' l.length c'] 45)).cell 0
  have hx1 := (hb0.alloc (.cells #[.int .i64 cl, .int .i64 rq, .slice A' l.length c'] 45)).cell 1
  have hx2 := (hb0.alloc (.cells #[.int .i64 cl, .int .i64 rq, .slice A' l.length c'] 45)).cell 2
  simp only [List.getElem?_toArray, List.getElem?_cons_zero, List.getElem?_cons_succ] at hx0 hx1 hx2
  have hk3 : Kept NoF w (w3.alloc (.cells #[.int .i64 cl, .int .i64 rq, .slice A' l.length c'] 45)) := (H0.out.2.1.then g4).alloc _
  have hs3 := (H0.out.2.2.kept g4 (fun _ _ x => x)).kept ((Kept.refl NoF w3).alloc (.cells #[.int .i64 cl, .int .i64 rq, .slice A' l.length c'] 45)) (fun _ _ x => x)
  have hs4 := g1.kept ((Kept.refl NoF w3).alloc (.cells #[.int .i64 cl, .int .i64 rq, .slice A' l.length c'] 45)) (fun _ _ x => x)
  have H1 := Lib.hid (And.intro hk3 (And.intro hs3 hs4)); clear hb0 hk3 hs3 hs4 g1 g2 g3 g4 H0
  go_wp2_with fail
  refine (HSA.out _ _ _ _ _ H1.out.2.1 H1.out.2.2).mono ?_
  rintro e w4 ⟨rfl, hk⟩
  have hk4 := H1.out.1.then hk
  have HK4 := Lib.hid hk4; clear hk4 hk
  go_wp2_with fail
  refine (HAW.out _ HK4.out).mono ?_
  rintro e w5 ⟨rfl, hk⟩
  have HB := Lib.hid (below_of hk); clear hk
  go_wp2
  go_ret
  exact ⟨rfl, HB.out⟩

theorem getR_size (b : Batch) (h : chk b = 0) : (putR b).size ≤ maxLen := by
  unfold putR
  rw [if_pos h]
  have h1 := chk_ok h
  have hok := chkL_ok h1.2.2.2.2.2
  have e : (ofL (putB b)).size = (putB b).length := by simp [ofL, ByteArray.size]
  rw [e, putB]
  have f := flat_len b.ops (fun o ho => putO_len (hok o ho).2.1 (hok o ho).2.2.1)
  have p1 := put_le (n := b.cl.toNat) (by omega)
  have p2 := put_le (n := b.req.toNat) (by omega)
  have p3 := put_le (n := b.ops.length) (by omega)
  simp only [List.length_append]
  unfold maxLen
  omega
set_option maxHeartbeats 8000000 in
theorem law_back (w : World) (a : Batch) (A : Option Addr) (c : Nat) (s : ByteArray) (ha : Src w 3 A a.ops.length (cells a.ops)) (hac : a.ops.length ≤ c) (hc : c ≤ maxLen) (hs : s.size ≤ maxLen) :
    Calls Try.prog 13 #[bagg a A c, .string s] w fun e w' => e = .returned (.bool true) ∧ Below w.heap.size w w' := by
  have hself := sameB_self' a
  have hpb := ofB_putB a
  have hsz := getR_size a
  have hpr : chk a = 0 → putR a = ofL (putB a) := fun h => by unfold putR; rw [if_pos h]
  obtain ⟨cl, req, l⟩ := a
  unfold bagg
  dsimp only at ha hac ⊢
  unfold maxLen at hc
  have haw : ∀ W, Kept NoF w W → Calls Try.prog 46 #[] W fun e w' => e = .returned (.bool true) ∧ Kept NoF w w' :=
    fun W hW => (awake6_any W).mono fun e w' ⟨h1, h2⟩ => ⟨h1, hW.then h2⟩
  have HAW := Lib.hid haw; clear haw
  by_cases h1 : 20 < l.length
  · clear ha hself hpb hsz hpr
    go_enter Try.func13, Try.ntmps13
    go_wp2_with fail
    refine (HAW.out _ (by (repeat' (first | with_reducible exact Kept.refl _ _ | with_reducible refine Kept.put ?_ ?_ | with_reducible refine Kept.drewN ?_ _ | with_reducible refine Kept.drew ?_ | with_reducible refine Kept.alloc ?_ _ | (fail) | (right; simp; done))))).mono ?_
    rintro e w2 ⟨rfl, hk⟩
    have HB := Lib.hid (below_of hk); clear hk
    go_wp2
    go_ret
    exact ⟨rfl, HB.out⟩
  by_cases h2 : 2000 < s.size
  · clear ha hself hpb hsz hpr
    go_enter Try.func13, Try.ntmps13
    go_wp2_with fail
    refine (HAW.out _ (by (repeat' (first | with_reducible exact Kept.refl _ _ | with_reducible refine Kept.put ?_ ?_ | with_reducible refine Kept.drewN ?_ _ | with_reducible refine Kept.drew ?_ | with_reducible refine Kept.alloc ?_ _ | (fail) | (right; simp; done))))).mono ?_
    rintro e w2 ⟨rfl, hk⟩
    have HB := Lib.hid (below_of hk); clear hk
    go_wp2
    go_ret
    exact ⟨rfl, HB.out⟩
  have hl4 := ofB_len s
  have hbad := ofB_bad s
  have hgood := putB_ofB s
  obtain ⟨p, hp⟩ : ∃ p, ofB s = p := ⟨_, rfl⟩
  rw [hp] at hl4 hbad hgood
  obtain ⟨⟨cl2, rq2, l2⟩, e2⟩ := p
  dsimp only at hl4 hbad hgood
  have ho2 := fun W (_ : Kept NoF w W) => oof2 W s hs hp
  have HO2 := Lib.hid ho2; clear ho2 hp
  have hz : (e2 = 0 ∧ ∀ W B d, Src W 3 B l2.length (cells l2) → Calls Try.prog 47 #[.agg #[.int .i64 cl2, .int .i64 rq2, .slice B l2.length d]] W fun e w' => e = .returned (.tuple #[.string s, .int .i64 0]) ∧ Kept NoF W w') ∨
      (e2 ≠ 0 ∧ ∀ W B d, Src W 3 B l2.length (cells l2) → Calls Try.prog 52 #[.agg #[.int .i64 cl2, .int .i64 rq2, .slice B l2.length d], .agg #[.int .i64 0, .int .i64 0, .slice none 0 0]] W fun e w' => e = .returned (.bool true) ∧ Kept NoF W w') := by
    by_cases h : e2 = 0
    · left
      refine ⟨h, fun W B d hb => (oput_any W ⟨cl2, rq2, l2⟩ B d hb).mono ?_⟩
      obtain ⟨q1, q2⟩ := hgood h
      have q3 : putR ⟨cl2, rq2, l2⟩ = s := by unfold putR; rw [if_pos q2, q1, ofL_bl]
      rintro e w' ⟨r1, r2⟩
      rw [q3, q2] at r1
      exact ⟨r1, r2⟩
    · right
      refine ⟨h, fun W B d hb => ?_⟩
      have q := hbad h
      unfold zero at q
      injection q with q1 q2 q3
      subst q1
      subst q2
      subst q3
      refine (rsame_any W ⟨0, 0, []⟩ ⟨0, 0, []⟩ B none d 0 hb (Src.nil _ _ _) (by decide)).mono ?_
      rintro e w' ⟨r1, r2⟩
      rw [sameB_self'] at r1
      exact ⟨r1, r2⟩
  have HZ := Lib.hid hz; clear hz hl4 hbad hgood
  have hput1 := oput_any (w.alloc (.cells #[.int .i64 cl, .int .i64 req, .slice A l.length c] 45)) ⟨cl, req, l⟩ A c (ha.kept ((Kept.refl NoF w).alloc _) (fun _ _ x => x))
  unfold bagg at hput1
  dsimp only at hput1
  by_cases hz : chk ⟨cl, req, l⟩ = 0
  · have hpb2 := hpb hz
    have hsz2 := hsz hz
    rw [← hpr hz] at hpb2
    obtain ⟨t, ht⟩ : ∃ t, putR ⟨cl, req, l⟩ = t := ⟨_, rfl⟩
    rw [ht] at hpb2 hsz2 hput1
    rw [hz] at hput1
    have ho := fun W => oof2 W t hsz2 hpb2
    have HO := Lib.hid ho; clear ho
    have HP1 := Lib.hid hput1; clear hput1
    have hsame : ∀ W B d, Kept NoF w W → Src W 3 B l.length (cells l) → Calls Try.prog 52 #[.agg #[.int .i64 cl, .int .i64 req, .slice A l.length c], .agg #[.int .i64 cl, .int .i64 req, .slice B l.length d]] W fun e w' => e = .returned (.bool true) ∧ Kept NoF W w' :=
      fun W B d hW hb => (rsame_any W ⟨cl, req, l⟩ ⟨cl, req, l⟩ A B c d (ha.kept hW (fun _ _ x => x)) hb (by dsimp only; omega)).mono fun e w' ⟨h1, h2⟩ => ⟨by rw [h1, hself], h2⟩
    have HSA := Lib.hid hsame; clear hsame
    clear hself hpb hsz hpr hz ht hpb2 hsz2 ha
    have HX0 := Lib.hid (Has.new w 45 #[.int .i64 cl, .int .i64 req, .slice A l.length c])
    go_enter Try.func13, Try.ntmps13
    go_wp2_with fail
    refine HP1.out.mono ?_
    rintro e w2 ⟨rfl, hk⟩
    have hx := HX0.out.kept hk (fun x => x)
    have hk2 : Kept NoF w w2 := Kept.then (by (repeat' (first | with_reducible exact Kept.refl _ _ | with_reducible refine Kept.put ?_ ?_ | with_reducible refine Kept.drewN ?_ _ | with_reducible refine Kept.drew ?_ | with_reducible refine Kept.alloc ?_ _ | (fail) | (right; simp; done)))) hk
    have H2 := Lib.hid (And.intro hx hk2); clear hx hk2 hk
    go_wp2_with fail
    refine (HO.out _).mono ?_
    rintro e w3 ⟨B, d, rfl, g1, g2, g3, g4⟩
    have hk3 := H2.out.2.then g4
    have hx3 := (H2.out.1.kept g4 (fun x => x)).alloc (.cells #[.int .i64 cl, .int .i64 req, .slice B l.length d] 45)
    have hx0 := hx3.cell 0
    have hx1 := hx3.cell 1
    have hx2 := hx3.cell 2
    simp only [List.getElem?_toArray, List.getElem?_cons_zero, List.getElem?_cons_succ] at hx0 hx1 hx2
    have hs3 := g1.kept ((Kept.refl NoF w3).alloc (.cells #[.int .i64 cl, .int .i64 req, .slice B l.length d] 45)) (fun _ _ x => x)
    have hk4 : Kept NoF w (w3.alloc (.cells #[.int .i64 cl, .int .i64 req, .slice B l.length d] 45)) := hk3.alloc _
    have H3 := Lib.hid (And.intro hk4 hs3); clear hk3 hk4 hs3 hx3 g1 g2 g3 g4 H2
    go_wp2_with fail
    refine (HSA.out _ _ _ H3.out.1 H3.out.2).mono ?_
    rintro e w4 ⟨rfl, hk⟩
    have hk5 := H3.out.1.then hk
    have HK5 := Lib.hid hk5; clear hk5 hk hx0 hx1 hx2
    go_wp2_with fail
    refine (HO2.out _ HK5.out).mono ?_
    rintro e w6 ⟨B, d, rfl, g1, g2, g3, g4⟩
    have hb6 := Has.new w6 45 #[.int .i64 cl2, .int .i64 rq2, .slice B l2.length d]
    have hx0 := hb6.cell 0
    have hx1 := hb6.cell 1
    have hx2 := hb6.cell 2
    simp only [List.getElem?_toArray, List.getElem?_cons_zero, List.getElem?_cons_succ] at hx0 hx1 hx2
    have hk6 : Kept NoF w (w6.alloc (.cells #[.int .i64 cl2, .int .i64 rq2, .slice B l2.length d] 45)) := (HK5.out.then g4).alloc _
    have hs6 := g1.kept ((Kept.refl NoF w6).alloc (.cells #[.int .i64 cl2, .int .i64 rq2, .slice B l2.length d] 45)) (fun _ _ x => x)
    have H6 := Lib.hid (And.intro hk6 hs6); clear hb6 hk6 hs6 g1 g2 g3 g4
    rcases HZ.out with ⟨rfl, hput⟩ | ⟨hne, hzero⟩
    · have HPUT := Lib.hid hput; clear hput
      go_wp2_with fail
      refine (HPUT.out _ _ _ H6.out.2).mono ?_
      rintro e w7 ⟨rfl, hk⟩
      have hk7 := H6.out.1.then hk
      have HK7 := Lib.hid hk7; clear hk7 hk
      go_wp2_with fail
      refine (HAW.out _ HK7.out).mono ?_
      rintro e w8 ⟨rfl, hk⟩
      have HB := Lib.hid (below_of hk); clear hk
      go_wp2
      go_ret
      exact ⟨rfl, HB.out⟩
    · have hne2 : (e2 != 0) = true := by simpa using hne
      have HSZ := Lib.hid hzero; clear hzero hne
      go_wp2_with fail
      refine (HSZ.out _ _ _ H6.out.2).mono ?_
      rintro e w7 ⟨rfl, hk⟩
      have hk7 := H6.out.1.then hk
      have HK7 := Lib.hid hk7; clear hk7 hk
      go_wp2_with fail
      refine (HAW.out _ HK7.out).mono ?_
      rintro e w8 ⟨rfl, hk⟩
      have HB := Lib.hid (below_of hk); clear hk
      go_wp2
      go_ret
      exact ⟨rfl, HB.out⟩
  · obtain ⟨ck, hck⟩ : ∃ ck, chk ⟨cl, req, l⟩ = ck := ⟨_, rfl⟩
    rw [hck] at hput1 hz
    have hz2 : (ck == 0) = false := by rw [beq_eq_false_iff_ne]; exact hz
    have HP1 := Lib.hid hput1; clear hput1
    clear hself hpb hsz hpr hz hck ha
    go_enter Try.func13, Try.ntmps13
    go_wp2_with fail
    refine HP1.out.mono ?_
    rintro e w2 ⟨rfl, hk⟩
    have hk2 : Kept NoF w w2 := Kept.then (by (repeat' (first | with_reducible exact Kept.refl _ _ | with_reducible refine Kept.put ?_ ?_ | with_reducible refine Kept.drewN ?_ _ | with_reducible refine Kept.drew ?_ | with_reducible refine Kept.alloc ?_ _ | (fail) | (right; simp; done)))) hk
    have HK5 := Lib.hid hk2; clear hk2 hk
    go_wp2_with fail
    refine (HO2.out _ HK5.out).mono ?_
    rintro e w6 ⟨B, d, rfl, g1, g2, g3, g4⟩
    have hb6 := Has.new w6 45 #[.int .i64 cl2, .int .i64 rq2, .slice B l2.length d]
    have hx0 := hb6.cell 0
    have hx1 := hb6.cell 1
    have hx2 := hb6.cell 2
    simp only [List.getElem?_toArray, List.getElem?_cons_zero, List.getElem?_cons_succ] at hx0 hx1 hx2
    have hk6 : Kept NoF w (w6.alloc (.cells #[.int .i64 cl2, .int .i64 rq2, .slice B l2.length d] 45)) := (HK5.out.then g4).alloc _
    have hs6 := g1.kept ((Kept.refl NoF w6).alloc (.cells #[.int .i64 cl2, .int .i64 rq2, .slice B l2.length d] 45)) (fun _ _ x => x)
    have H6 := Lib.hid (And.intro hk6 hs6); clear hb6 hk6 hs6 g1 g2 g3 g4
    rcases HZ.out with ⟨rfl, hput⟩ | ⟨hne, hzero⟩
    · have HPUT := Lib.hid hput; clear hput
      go_wp2_with fail
      refine (HPUT.out _ _ _ H6.out.2).mono ?_
      rintro e w7 ⟨rfl, hk⟩
      have hk7 := H6.out.1.then hk
      have HK7 := Lib.hid hk7; clear hk7 hk
      go_wp2_with fail
      refine (HAW.out _ HK7.out).mono ?_
      rintro e w8 ⟨rfl, hk⟩
      have HB := Lib.hid (below_of hk); clear hk
      go_wp2
      go_ret
      exact ⟨rfl, HB.out⟩
    · have hne2 : (e2 != 0) = true := by simpa using hne
      have HSZ := Lib.hid hzero; clear hzero hne
      go_wp2_with fail
      refine (HSZ.out _ _ _ H6.out.2).mono ?_
      rintro e w7 ⟨rfl, hk⟩
      have hk7 := H6.out.1.then hk
      have HK7 := Lib.hid hk7; clear hk7 hk
      go_wp2_with fail
      refine (HAW.out _ HK7.out).mono ?_
      rintro e w8 ⟨rfl, hk⟩
      have HB := Lib.hid (below_of hk); clear hk
      go_wp2
      go_ret
      exact ⟨rfl, HB.out⟩
end Ops
end Go.Proofs.Ytnmlemciiigjcaa
