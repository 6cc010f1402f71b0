/- JudgeState: the law walked. -/
import Derived.Test.YtnmlemciiigjcaaJudge4
import Derived.Test.YtnmlemciiigjcaaJudgeP
import Derived.Test.YtnmlemciiigjcaaStory1
import Derived.Deep.RegionLaw
set_option linter.unusedSimpArgs false
set_option linter.unusedVariables false
namespace Go.Proofs.Ytnmlemciiigjcaa
open Go.RowKit
set_option maxRecDepth 100000
namespace Ent
open Ops Vn
theorem samePairs_self (w : World) (A B : Option Addr) (c d : Nat) (n : Nat) (S : List PairR) (hn : S.length = n) (ha : Src w 2 A n (pcells S)) (hb : Src w 2 B n (pcells S)) (h : n ≤ 1000000) :
    Calls Try.prog 28 #[.slice A n c, .slice B n d] w fun e w' => e = .returned (.bool true) ∧ Kept NoF w w' := by
  subst hn
  have h1 := rsamePairs_any w A B c d S S ha hb h
  rw [decide_eq_true rfl] at h1
  exact h1
set_option maxHeartbeats 8000000 in
theorem law_state (w : World) (A : Option Addr) (c : Nat) (l : List EntR) (t : Int) (e : EntR) (hl : Src w 4 A l.length (ecells l)) (hlo : LOk w l) (hc : l.length ≤ c) (hlz : l.length * 48 ≤ 140737488351232) (_ : (Lit.int .u64 t).wf = true) (heo : EOk w e) :
    Calls Try.prog 6 #[.slice A l.length c, .int .u64 t, eagg e] w fun e w' => e = .returned (.bool true) ∧ Below w.heap.size w w' := by
  have haw : ∀ W, Kept NoF w W → Calls Try.prog 25 #[] W fun e w' => e = .returned (.bool true) ∧ Kept NoF w w' :=
    fun W hW => (awake38_any W).mono fun e w' ⟨h1, h2⟩ => ⟨h1, hW.then h2⟩
  have HAW := Lib.hid haw; clear haw
  have hbx := Has.new w 47 (earr e)
  have hk0 : Kept NoF w (w.alloc (.cells (earr e) 47)) := by (repeat' (first | with_reducible exact Kept.refl _ _ | with_reducible refine Kept.put ?_ ?_ | with_reducible refine Kept.drewN ?_ _ | with_reducible refine Kept.drew ?_ | with_reducible refine Kept.alloc ?_ _ | (fail) | (right; simp; done)))
  have hm1 := much_any (w.alloc (.cells (earr e) 47)) A c l (hl.kept hk0 (fun _ _ x => x)) (hlo.kept hk0) hlz
  obtain ⟨k, hk⟩ : ∃ k, muchL l = k := ⟨_, rfl⟩
  rw [hk] at hm1
  by_cases h1 : 100 < k
  · obtain ⟨cl, rq, A2, c2, ops, ts⟩ := e
    dsimp only [earr, eagg] at *
    have HM1 := Lib.hid hm1; clear hm1 hl hlo hk hbx heo
    have HK0 := Lib.hid hk0; clear hk0
    go_enter Try.func6, Try.ntmps6
    go_wp2_with fail
    refine HM1.out.mono ?_
    rintro e w2 ⟨rfl, rfl⟩
    go_wp2_with fail
    refine (HAW.out _ HK0.out).mono ?_
    rintro e w3 ⟨rfl, hk⟩
    have HB := Lib.hid (below_of' hk); clear hk
    go_wp2
    go_ret
    exact ⟨rfl, HB.out⟩
  by_cases h2 : 20 < e.ops.length
  · obtain ⟨cl, rq, A2, c2, ops, ts⟩ := e
    dsimp only [earr, eagg] at *
    have b2 := hbx.cell 2
    simp only [List.getElem?_toArray, List.getElem?_cons_zero, List.getElem?_cons_succ] at b2
    have HM1 := Lib.hid hm1; clear hm1 hl hlo hk hbx heo
    have HK0 := Lib.hid hk0; clear hk0
    go_enter Try.func6, Try.ntmps6
    go_wp2_with fail
    refine HM1.out.mono ?_
    rintro e w2 ⟨rfl, rfl⟩
    go_wp2_with fail
    refine (HAW.out _ HK0.out).mono ?_
    rintro e w3 ⟨rfl, hk⟩
    have HB := Lib.hid (below_of' hk); clear hk
    go_wp2
    go_ret
    exact ⟨rfl, HB.out⟩
  have hl100 := (muchL_small (by rw [hk]; exact h1)).1
  have htot : total l ≤ 100 := total_much (by rw [hk]; exact h1)
  have hst := fun W (hW : Kept NoF w W) => state_any W A c l t (hl.kept hW (fun _ _ x => x)) (hlo.kept hW) (by omega) (by omega)
  have hscan := fun W (hW : Kept NoF w W) => rows_scan W A c l t (hl.kept hW (fun _ _ x => x)) (hlo.kept hW) (by omega) (by omega)
  have hget := fun W key (hW : Kept NoF w W) => rows_get W A c l t key (hl.kept hW (fun _ _ x => x)) (hlo.kept hW) (by omega) (by omega)
  have hst2 : t < e.ts → ∀ W A' c', Kept NoF w W → Src W 4 A' (l.length + 1) (ecells l ++ [.int .i64 e.cl, .int .i64 e.req, .slice e.A e.ops.length e.c, .int .u64 e.ts]) → Calls Try.prog 26 #[.slice A' (l.length + 1) c', .int .u64 t] W (NewPairs W (stateL l t)) := by
    intro ht W A' c' hW hs
    have e1 : (l ++ [e]).length = l.length + 1 := by simp
    have h := state_any W A' c' (l ++ [e]) t (by rw [e1, ecells_snoc]; exact hs) (fun x hx => by
      rcases List.mem_append.1 hx with h | h
      · exact (hlo.kept hW) x h
      · rw [List.mem_singleton.1 h]; exact heo.kept hW) (by omega) (by rw [total_snoc]; omega)
    rw [e1] at h
    have e2 : stateL (l ++ [e]) t = stateL l t := by unfold stateL; rw [opsTo_later l e t ht]
    rw [e2] at h
    exact h
  have hsl : (stateL l t).length ≤ 100 := Nat.le_trans (stateL_len l t) htot
  have hnd := stateL_nodup l t
  rw [rowsL_all (by omega)] at hscan
  have hgetx : ∀ W (i : Nat) (x : PairR), (stateL l t)[i]? = some x → Kept NoF w W → Calls Try.prog 27 #[.slice A l.length c, .agg (acell 1 x.key ⟨#[]⟩ 0), .int .u64 t] W (NewPairs W [x]) := fun W i x hx hW => by
    have h := hget W x.key hW
    rw [rowsL_key hnd hx] at h
    exact h
  obtain ⟨S, hS⟩ : ∃ S, stateL l t = S := ⟨_, rfl⟩
  rw [hS] at hst hscan hst2 hsl hgetx
  clear hget hnd hS htot
  have hsr := fun W (hW : Kept NoF w W) => hl.kept hW (fun _ _ x => x)
  unfold NewPairs at hst hscan hst2 hgetx
  dsimp only [acell] at hscan hgetx
  obtain ⟨n, hn⟩ : ∃ n, S.length = n := ⟨_, rfl⟩
  have hsame := fun W B B' d d' (hB : Src W 2 B n (pcells S)) (hB' : Src W 2 B' n (pcells S)) => samePairs_self W B B' d d' n S hn hB hB' (by omega)
  rw [hn] at hst hscan hst2 hsl
  obtain ⟨cl, rq, A2, c2, ops, ts⟩ := e
  dsimp only [earr, eagg] at *
  have HM1 := Lib.hid hm1; clear hm1
  have HST := Lib.hid hst; clear hst
  have HSC := Lib.hid hscan; clear hscan
  have HST2 := Lib.hid hst2; clear hst2
  have HGET := Lib.hid hgetx; clear hgetx
  have HSM := Lib.hid hsame; clear hsame
  have HSR := Lib.hid hsr; clear hsr
  have HN := Lib.hid hn; clear hn
  clear hl hlo hk heo
  have HBX := Lib.hid (And.intro hbx hk0)
  have b2 := hbx.cell 2
  simp only [List.getElem?_toArray, List.getElem?_cons_zero, List.getElem?_cons_succ] at b2
  clear hbx hk0
  go_enter Try.func6, Try.ntmps6
  go_wp2_with fail
  refine HM1.out.mono ?_
  rintro e w2 ⟨rfl, rfl⟩
  go_wp2_with fail
  refine (HST.out _ HBX.out.2).mono ?_
  rintro e w3 ⟨A3, c3, rfl, hr, hk⟩
  have H3 := Lib.hid (And.intro (Src.of_own hr.1) (And.intro (HBX.out.1.kept hk (fun x => x)) (HBX.out.2.then hk))); clear hr hk HBX b2
  go_wp2_with fail
  refine (HSC.out _ H3.out.2.2).mono ?_
  rintro e w4 ⟨A4, c4, rfl, hr, hk⟩
  have hbx := H3.out.2.1.kept hk (fun x => x)
  have b0 := hbx.cell 0
  have b1 := hbx.cell 1
  have b2 := hbx.cell 2
  have b3 := hbx.cell 3
  have hlt4 := hbx.lt
  simp only [List.getElem?_toArray, List.getElem?_cons_zero, List.getElem?_cons_succ] at b0 b1 b2 b3
  have H4 := Lib.hid (And.intro (H3.out.1.kept hk (fun _ _ x => x)) (And.intro (Src.of_own hr.1) (And.intro hbx (H3.out.2.2.then hk)))); clear hr hk H3 hbx
  by_cases htl : t < ts
  · have HT := Lib.hid (HST2.out htl)
    have hone : ∀ u ∈ ([.int .i64 cl, .int .i64 rq, .slice A2 ops.length c2, .int .u64 ts] : List Value), u.oneCell' = true := by
      intro u hu
      simp at hu
      rcases hu with rfl | rfl | rfl | rfl <;> rfl
    have HONE := Lib.hid hone; clear hone
    have HM0 : Hid (0 + l.length ≤ maxLen) := Lib.hid (by unfold maxLen; omega)
    have HY0 : Hid ((0 + l.length) * 48 ≤ 140737488355328) := Lib.hid (by omega)
    have HM : Hid (l.length + 1 ≤ maxLen) := Lib.hid (by unfold maxLen; omega)
    have HY : Hid ((l.length + 1) * 48 ≤ 140737488355328) := Lib.hid (by omega)
    go_wp2_with fail
    go_region_law (first
      | (with_reducible apply step_append_src elemEnt (.tmp 34) (.tmp 35) (n := 0) (xs := []) (A := A) (m := l.length) (c := c) (news := ecells l)
         rfl
         rfl
         exact (rfl : _ = Value.slice (some ⟨_, 0, none⟩) 0 0)
         (refine own_empty (cs := #[]) ?_ rfl; (repeat (first | with_reducible exact Has.new_at _ _ _ (by simp) | with_reducible apply Has.drew | with_reducible apply Has.drewN | with_reducible apply Has.alloc | (with_reducible apply Has.past <;> (try omega)) )))
         exact (rfl : _ = Value.slice A l.length c)
         (exact HSR.out _ (H4.out.2.2.2.then (by (repeat' (first | with_reducible exact Kept.refl _ _ | with_reducible refine Kept.put ?_ ?_ | with_reducible refine Kept.drewN ?_ _ | with_reducible refine Kept.drew ?_ | with_reducible refine Kept.alloc ?_ _ | (fail) | (right; simp; done))))))
         exact one_ents _
         exact HM0.out
         exact HY0.out
         intro A5 c5 w5 ho1 hg1 ha1
         have hk1 : Kept NoF w4 w5 := by refine Kept.grown ?_ hg1 ?_; (repeat' (first | with_reducible exact Kept.refl _ _ | with_reducible refine Kept.put ?_ ?_ | with_reducible refine Kept.drewN ?_ _ | with_reducible refine Kept.drew ?_ | with_reducible refine Kept.alloc ?_ _ | (fail) | (right; simp; done))); exact fun k hk => .inr (new_row hk (by simp))
         have P := H4.out.2.2.1.kept hk1 (fun x => x)
         have P0 : w5.cell? ⟨w.heap.size, 0, none⟩ = some (.int .i64 cl) := P.cell 0
         have P1 : w5.cell? ⟨w.heap.size, 1, none⟩ = some (.int .i64 rq) := P.cell 1
         have P2 : w5.cell? ⟨w.heap.size, 2, none⟩ = some (.slice A2 ops.length c2) := P.cell 2
         have P3 : w5.cell? ⟨w.heap.size, 3, none⟩ = some (.int .u64 ts) := P.cell 3
         clear P
         have hz1 := hk1.size
         simp only [Nat.zero_add, List.nil_append] at ho1 ha1 ⊢)
      | (with_reducible apply step_append_src elemEnt (.tmp 36) (.tmp 38) (n := l.length) (xs := ecells l) (A := some ⟨_, 0, none⟩) (m := 1) (c := 1) (news := [.int .i64 cl, .int .i64 rq, .slice A2 ops.length c2, .int .u64 ts])
         rfl
         rfl
         exact (rfl : _ = Value.slice A5 l.length c5)
         (refine own_kept ho1 (F := NoF) ?_ (fun _ _ x => x); (repeat' (first | with_reducible exact Kept.refl _ _ | with_reducible refine Kept.put ?_ ?_ | with_reducible refine Kept.drewN ?_ _ | with_reducible refine Kept.drew ?_ | with_reducible refine Kept.alloc ?_ _ | (fail) | (right; simp; done))))
         exact (rfl : _ = Value.slice (some ⟨_, 0, none⟩) 1 1)
         ((with_reducible apply Src.of_has (t := 47) (m := 1) (cs := #[.int .i64 cl, .int .i64 rq, .slice A2 ops.length c2, .int .u64 ts])); (first | (focus ((repeat (first | with_reducible exact Has.new_at _ _ _ (by simp) | with_reducible apply Has.drew | with_reducible apply Has.drewN | with_reducible apply Has.alloc | (with_reducible apply Has.past <;> (try omega)) )); done)) | (focus (refine Has.grown ?_ hg1 ?_; (repeat (first | with_reducible exact Has.new_at _ _ _ (by simp) | with_reducible apply Has.drew | with_reducible apply Has.drewN | with_reducible apply Has.alloc | (with_reducible apply Has.past <;> (try omega)) )); (simp [Value.ownBlock] <;> omega)))); rfl)
         exact HONE.out
         exact HM.out
         exact HY.out
         intro A6 c6 w6 ho2 hg2 ha2
         have hk2 : Kept NoF w4 w6 := by refine Kept.grown (Kept.then hk1 ?_) hg2 ?_; (repeat' (first | with_reducible exact Kept.refl _ _ | with_reducible refine Kept.put ?_ ?_ | with_reducible refine Kept.drewN ?_ _ | with_reducible refine Kept.drew ?_ | with_reducible refine Kept.alloc ?_ _ | (fail) | (right; simp; done))); exact fun k hk => .inr (new_row2 hk ha1 (by first | (simp; done) | (simp; omega)) (by first | (simp; done) | (simp; omega))))
      | (go_simp; go_at_call 26; refine (HT.out _ _ _ ?_ ?_).mono ?_; exact H4.out.2.2.2.then (Kept.then (F := NoF) hk2 (by (repeat' (first | with_reducible exact Kept.refl _ _ | with_reducible refine Kept.put ?_ ?_ | with_reducible refine Kept.drewN ?_ _ | with_reducible refine Kept.drew ?_ | with_reducible refine Kept.alloc ?_ _ | (fail) | (right; simp; done))))); exact (Src.of_own ho2).kept (F := NoF) (by (repeat' (first | with_reducible exact Kept.refl _ _ | with_reducible refine Kept.put ?_ ?_ | with_reducible refine Kept.drewN ?_ _ | with_reducible refine Kept.drew ?_ | with_reducible refine Kept.alloc ?_ _ | (fail) | (right; simp; done)))) (fun _ _ x => x); rintro e w7 ⟨A7, c7, rfl, hr7, hk0⟩; have hk7 : Kept NoF w4 w7 := Kept.then (F := NoF) (Kept.then (F := NoF) hk2 (by (repeat' (first | with_reducible exact Kept.refl _ _ | with_reducible refine Kept.put ?_ ?_ | with_reducible refine Kept.drewN ?_ _ | with_reducible refine Kept.drew ?_ | with_reducible refine Kept.alloc ?_ _ | (fail) | (right; simp; done))))) hk0; have hs7 := Src.of_own hr7.1; clear hr7 hk0))
    all_goals
      have HF := Lib.hid (And.intro (H4.out.1.kept hk7 (fun _ _ x => x)) (And.intro hs7 (And.intro (H4.out.2.2.2.then hk7) (H4.out.2.1.kept hk7 (fun _ _ x => x)))))
      clear hk7 hs7 ho1 hg1 ha1 hk1 P0 P1 P2 P3 hz1 ho2 hg2 ha2 hk2 b0 b1 b2 b3
      go_wp2_with fail
      refine (HSM.out _ _ _ _ _ HF.out.1 HF.out.2.1).mono ?_
      rintro e w8 ⟨rfl, hk⟩
      have HF2 := Lib.hid (And.intro (HF.out.1.kept hk (fun _ _ x => x)) (And.intro (HF.out.2.2.2.kept hk (fun _ _ x => x)) (HF.out.2.2.1.then hk)))
      clear HF hk
      have HF := HF2
      clear HF2
      go_wp2_with fail
      go_loopw [10, 11] (fun v10 _ wr => ∃ i : Nat, i ≤ n ∧ v10 = .int .i64 i ∧ Kept NoF w8 wr) (fun v10 _ _ => n - (intOf v10).toNat)
      case atStart => exact ⟨0, Nat.zero_le _, rfl, Kept.refl _ _⟩
      case round =>
        obtain ⟨i, hi, rfl, hk⟩ := hrel
        have HK := Lib.hid hk; clear hk
        by_cases hil : i < n
        · obtain ⟨⟨pk, pv⟩, hp⟩ : ∃ p, S[i]? = some p := ⟨_, List.getElem?_eq_getElem (by have := HN.out; omega)⟩
          obtain ⟨ad, hA, hl1, q0, q1⟩ := pair_cells (HF.out.1.kept HK.out (fun _ _ x => x)) (by omega) i _ hp
          subst hA
          have hg := HGET.out _ i _ hp (HF.out.2.2.then HK.out)
          dsimp only at q0 q1 hg
          have HG := Lib.hid hg; clear hg
          have HP := Lib.hid hp; clear hp
          go_wp2_with fail
          refine HG.out.mono ?_
          rintro e w6 ⟨A6, c6, rfl, hr, hk⟩
          have hk6 := HK.out.then hk
          obtain ⟨ad6, hA6, hl6, r0, r1⟩ := pair_cells (Src.of_own hr.1) (by show 0 < 1; decide) 0 _ rfl
          subst hA6
          have r0' : w6.cell? ad6 = some (.string pk) := r0
          have r1' : w6.cell? ⟨ad6.block, ad6.off + 1, none⟩ = some (.string pv) := r1
          clear r0 r1 q0 q1
          obtain ⟨ad', hA', hl', s0, s1⟩ := pair_cells (HF.out.1.kept hk6 (fun _ _ x => x)) (by omega) i _ HP.out
          obtain rfl : ad = ad' := by injection hA'
          dsimp only at s0 s1
          have hneq : ∀ W, (binOp .neq 54 (.agg #[.string pk, .string pv]) (.agg #[.string pk, .string pv])).run Try.prog W = .ok (.bool false) W := fun W => by
            have h := run_neq_pair ⟨pk, pv⟩ ⟨pk, pv⟩ W
            simpa using h
          have HK6 := Lib.hid hk6; clear hk6 hk hr hA'
          go_wp2_with fail
          go_quiet (fail)
          go_wp2
          go_roundw
          case rel => exact ⟨i + 1, by omega, by go_num, by (repeat' (first | with_reducible exact Kept.refl _ _ | with_reducible refine Kept.put ?_ ?_ | with_reducible refine Kept.drewN ?_ _ | with_reducible refine Kept.drew ?_ | with_reducible refine Kept.alloc ?_ _ | (exact HK6.out) | (right; simp; done)))⟩
          case measure => simp [intOf]; omega
        · obtain rfl : i = n := by omega
          go_wp2_with fail
          refine (HSM.out _ _ _ _ _ (HF.out.1.kept HK.out (fun _ _ x => x)) (HF.out.2.1.kept HK.out (fun _ _ x => x))).mono ?_
          rintro e w7 ⟨rfl, hk⟩
          have HK7 := Lib.hid ((HF.out.2.2.then HK.out).then hk); clear hk
          go_wp2_with fail
          refine (HAW.out _ HK7.out).mono ?_
          rintro e w8 ⟨rfl, hk⟩
          have HB := Lib.hid (below_of' hk); clear hk
          go_wp2
          go_ret
          exact ⟨rfl, HB.out⟩
  · have HF := Lib.hid (And.intro H4.out.1 (And.intro H4.out.2.1 H4.out.2.2.2))
    go_wp2_with fail
    go_loopw [10, 11] (fun v10 _ wr => ∃ i : Nat, i ≤ n ∧ v10 = .int .i64 i ∧ Kept NoF w4 wr) (fun v10 _ _ => n - (intOf v10).toNat)
    case atStart => exact ⟨0, Nat.zero_le _, rfl, Kept.refl _ _⟩
    case round =>
      obtain ⟨i, hi, rfl, hk⟩ := hrel
      have HK := Lib.hid hk; clear hk
      by_cases hil : i < n
      · obtain ⟨⟨pk, pv⟩, hp⟩ : ∃ p, S[i]? = some p := ⟨_, List.getElem?_eq_getElem (by have := HN.out; omega)⟩
        obtain ⟨ad, hA, hl1, q0, q1⟩ := pair_cells (HF.out.1.kept HK.out (fun _ _ x => x)) (by omega) i _ hp
        subst hA
        have hg := HGET.out _ i _ hp (HF.out.2.2.then HK.out)
        dsimp only at q0 q1 hg
        have HG := Lib.hid hg; clear hg
        have HP := Lib.hid hp; clear hp
        go_wp2_with fail
        refine HG.out.mono ?_
        rintro e w6 ⟨A6, c6, rfl, hr, hk⟩
        have hk6 := HK.out.then hk
        obtain ⟨ad6, hA6, hl6, r0, r1⟩ := pair_cells (Src.of_own hr.1) (by show 0 < 1; decide) 0 _ rfl
        subst hA6
        have r0' : w6.cell? ad6 = some (.string pk) := r0
        have r1' : w6.cell? ⟨ad6.block, ad6.off + 1, none⟩ = some (.string pv) := r1
        clear r0 r1 q0 q1
        obtain ⟨ad', hA', hl', s0, s1⟩ := pair_cells (HF.out.1.kept hk6 (fun _ _ x => x)) (by omega) i _ HP.out
        obtain rfl : ad = ad' := by injection hA'
        dsimp only at s0 s1
        have hneq : ∀ W, (binOp .neq 54 (.agg #[.string pk, .string pv]) (.agg #[.string pk, .string pv])).run Try.prog W = .ok (.bool false) W := fun W => by
          have h := run_neq_pair ⟨pk, pv⟩ ⟨pk, pv⟩ W
          simpa using h
        have HK6 := Lib.hid hk6; clear hk6 hk hr hA'
        go_wp2_with fail
        go_quiet (fail)
        go_wp2
        go_roundw
        case rel => exact ⟨i + 1, by omega, by go_num, by (repeat' (first | with_reducible exact Kept.refl _ _ | with_reducible refine Kept.put ?_ ?_ | with_reducible refine Kept.drewN ?_ _ | with_reducible refine Kept.drew ?_ | with_reducible refine Kept.alloc ?_ _ | (exact HK6.out) | (right; simp; done)))⟩
        case measure => simp [intOf]; omega
      · obtain rfl : i = n := by omega
        go_wp2_with fail
        refine (HSM.out _ _ _ _ _ (HF.out.1.kept HK.out (fun _ _ x => x)) (HF.out.2.1.kept HK.out (fun _ _ x => x))).mono ?_
        rintro e w7 ⟨rfl, hk⟩
        have HK7 := Lib.hid ((HF.out.2.2.then HK.out).then hk); clear hk
        go_wp2_with fail
        refine (HAW.out _ HK7.out).mono ?_
        rintro e w8 ⟨rfl, hk⟩
        have HB := Lib.hid (below_of' hk); clear hk
        go_wp2
        go_ret
        exact ⟨rfl, HB.out⟩
end Ent
end Go.Proofs.Ytnmlemciiigjcaa
