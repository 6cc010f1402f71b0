/- The document's Over. -/
import Derived.Test.YtnmlemciiigjcaaNorm1
import Derived.Deep.RegionLaw
set_option linter.unusedSimpArgs false
set_option linter.unusedVariables false
namespace Go.Proofs.Ytnmlemciiigjcaa
open Go.RowKit
set_option maxRecDepth 100000
namespace Ops
open Vn
def opOf (p : PairR) : OpR := ⟨p.key, p.val, false⟩
def prOf (o : OpR) : PairR := ⟨o.key, o.val⟩
def liveL (l : List OpR) : List PairR := (l.filter fun o => !o.del).map prOf
def overR (l : List PairR) (m : List OpR) : List PairR := liveL (normL (l.map opOf ++ m))
theorem liveL_snoc {l : List OpR} {i : Nat} {o : OpR} (h : l[i]? = some o) : liveL (l.take (i + 1)) = liveL (l.take i) ++ if o.del = true then [] else [prOf o] := by
  unfold liveL
  rw [List.take_add_one, h, Option.toList_some, List.filter_append, List.map_append]
  congr 1
  cases hd : o.del <;> simp [hd]
theorem liveL_len (l : List OpR) : (liveL l).length ≤ l.length := by
  unfold liveL
  rw [List.length_map]
  exact List.length_filter_le _ _
theorem normL_len (m : List OpR) : (normL m).length ≤ m.length := by
  unfold normL
  rw [List.length_map]
  exact normK_len m
theorem pairs_at (l : List PairR) (p : PairR) : pcells (l ++ [p]) = pcells l ++ [.string p.key, .string p.val] := by
  unfold pcells
  rw [List.flatMap_append]
  simp [pcell]
theorem cells_two (l m : List OpR) : cells (l ++ m) = cells l ++ cells m := by
  unfold cells
  rw [List.flatMap_append]
theorem one_cells (l : List OpR) : ∀ u ∈ cells l, u.oneCell' = true := by
  intro u hu
  unfold cells at hu
  rw [List.mem_flatMap] at hu
  obtain ⟨e, _, hu⟩ := hu
  simp [cell] at hu
  rcases hu with rfl | rfl | rfl <;> rfl
set_option maxHeartbeats 8000000 in
theorem rover_any (w : World) (A B : Option Addr) (c d : Nat) (l : List PairR) (m : List OpR) (hl : Src w 2 A l.length (pcells l)) (hm : Src w 3 B m.length (cells m)) (hlen : l.length + m.length ≤ 1000) :
    Calls Try.prog 59 #[.slice A l.length c, .slice B m.length d] w (NewPairs w (overR l m)) := by
  have HL := Lib.hid hl; clear hl
  have HM := Lib.hid hm; clear hm
  go_enter Try.func59, Try.ntmps59
  go_wp2_with fail
  go_loopw [5, 6] (fun v5 v6 wr => ∃ (i : Nat) (A' : Option Addr) (c' : Nat), i ≤ l.length ∧ v6 = .int .i64 i ∧ v5 = .slice A' i c' ∧ NewSl 106 3 w.heap.size wr A' i c' (cells ((l.take i).map opOf)) ∧ Kept NoF w wr) (fun _ v6 _ => l.length - (intOf v6).toNat)
  case atStart => exact ⟨0, none, 0, Nat.zero_le _, rfl, rfl, ⟨⟨rfl, .inl ⟨rfl, rfl⟩⟩, fun k hk => by cases hk⟩, Kept.refl _ _⟩
  case round =>
    obtain ⟨i, A5, c5, hi, rfl, rfl, hrow, hk⟩ := hrel
    have hsz := hk.size
    have HROW := Lib.hid (And.intro hrow hsz); clear hrow hsz
    have HK := Lib.hid hk; clear hk
    by_cases hil : i < l.length
    · obtain ⟨p, hp⟩ : ∃ p, l[i]? = some p := ⟨_, List.getElem?_eq_getElem hil⟩
      obtain ⟨ad, rfl, hlt, e0, e1⟩ := pair_cells (HL.out.kept HK.out (fun _ _ x => x)) (by omega) i p hp
      have hsn : cells ((l.take (i + 1)).map opOf) = cells ((l.take i).map opOf) ++ [.string p.key, .string p.val, .bool false] := by
        rw [List.take_add_one, hp, Option.toList_some, List.map_append, cells_two]
        rfl
      have HSN := Lib.hid hsn; clear hsn hp
      have hm1 : i + 1 ≤ maxLen := by unfold maxLen; omega
      have hm2 : (i + 1) * 40 ≤ 140737488355328 := by omega
      have HM1 := Lib.hid hm1; clear hm1
      have HM2 := Lib.hid hm2; clear hm2
      obtain ⟨k0, v0⟩ := p
      dsimp only at e0 e1 HSN
      obtain ⟨wo, hwo⟩ : ∃ wo : World, wo = wr := ⟨_, rfl⟩
      subst hwo
      go_wp2_with fail
      go_region_law (first
          | (with_reducible apply step_append_src elemOp (.tmp 15) (.tmp 27) (n := i) (xs := cells ((l.take i).map opOf)) (A := some ⟨_, 0, none⟩) (m := 1) (c := 1) (news := [.string k0, .string v0, .bool false])
             rfl
             rfl
             exact (rfl : _ = Value.slice A5 i c5)
             (refine own_kept HROW.out.1.1 (F := NoF) ?_ (fun _ _ x => x); (repeat' (first | with_reducible exact Kept.refl _ _ | with_reducible refine Kept.put ?_ ?_ | with_reducible refine Kept.drewN ?_ _ | with_reducible refine Kept.drew ?_ | with_reducible refine Kept.alloc ?_ _ | (fail) | (right; simp; done))))
             exact (rfl : _ = Value.slice (some ⟨_, 0, none⟩) 1 1)
             (refine Src.of_has (t := 106) (cs := #[.string k0, .string v0, .bool false]) ?_ rfl; (repeat (first | with_reducible exact Has.new_at _ _ _ (by simp) | with_reducible apply Has.drew | with_reducible apply Has.drewN | with_reducible apply Has.alloc | (with_reducible apply Has.past <;> (try omega)) )))
             (intro u hu; simp at hu; rcases hu with rfl | rfl | rfl <;> rfl)
             exact HM1.out
             exact HM2.out
             intro A6 c6 w6 ho6 hg6 ha6
             have hk6 : Kept NoF w w6 := by refine Kept.grown (Kept.then (F := NoF) HK.out ?_) hg6 ?_; (repeat' (first | with_reducible exact Kept.refl _ _ | with_reducible refine Kept.put ?_ ?_ | with_reducible refine Kept.drewN ?_ _ | with_reducible refine Kept.drew ?_ | with_reducible refine Kept.alloc ?_ _ | (fail) | (right; simp; done))); exact fun k hk => .inr (HROW.out.1.2 k hk)))
      all_goals
        have hn6 : NewSl 106 3 w.heap.size w6 A6 (i + 1) c6 (cells ((l.take (i + 1)).map opOf)) := by
          rw [HSN.out]
          exact HROW.out.1.snoc (by have := HROW.out.2; first | (simp; omega) | omega) ho6 ha6
        have HN6 := Lib.hid (And.intro hn6 hk6); clear hn6 hk6 ho6 hg6 ha6
        go_wp2
        go_roundw
        case rel => exact ⟨i + 1, A6, c6, by omega, by go_num, rfl, HN6.out.1, HN6.out.2⟩
        case measure => simp [intOf]; omega
    · obtain rfl : i = l.length := by omega
      rw [List.take_length] at HROW
      have hm1 : l.length + m.length ≤ maxLen := by unfold maxLen; omega
      have hm2 : (l.length + m.length) * 40 ≤ 140737488355328 := by omega
      have HM1 := Lib.hid hm1; clear hm1
      have HM2 := Lib.hid hm2; clear hm2
      have HSO := Lib.hid (HM.out.kept HK.out (fun _ _ x => x))
      obtain ⟨w2, hw2⟩ : ∃ w2 : World, w2 = wr := ⟨_, rfl⟩
      subst hw2
      go_wp2_with (at_builtin; refine list_append_src elemOp (.tmp 29) (.tmp 30) rfl rfl (Value.slice A5 l.length c5) rfl HROW.out.1.1 d rfl HSO.out (one_cells m) HM1.out HM2.out ?_; intro A6 c6 w6 ho6 hg6 ha6; have hn6 : NewSl 106 3 w.heap.size w6 A6 (l.length + m.length) c6 (cells (l.map opOf ++ m)) := (by rw [cells_two]; exact HROW.out.1.snoc HROW.out.2 ho6 ha6); have hk6 : Kept NoF w w6 := HK.out.grown hg6 (fun k hk => .inr (HROW.out.1.2 k hk)); have HN6 := Lib.hid (And.intro hn6 hk6); clear hn6 hk6 ho6 hg6 ha6)
      have hnorm := rnorm_any w6 A6 c6 (l.map opOf ++ m) (by rw [List.length_append, List.length_map]; exact Src.of_own HN6.out.1.1) (by rw [List.length_append, List.length_map]; exact hlen)
      rw [List.length_append, List.length_map] at hnorm
      have HNO := Lib.hid hnorm; clear hnorm
      go_wp2_with fail
      refine HNO.out.mono ?_
      rintro e w3 ⟨A3, c3, rfl, hrow, hk⟩
      have hk3 := HN6.out.2.then hk
      have hsrc := Src.of_own hrow.1
      have hnl := normL_len (l.map opOf ++ m)
      rw [List.length_append, List.length_map] at hnl
      obtain ⟨N, hN⟩ : ∃ N, normL (l.map opOf ++ m) = N := ⟨_, rfl⟩
      have hov : overR l m = liveL N := by unfold overR; rw [hN]
      rw [hN] at hsrc hnl
      rw [hN]
      clear hN hrow hk
      obtain ⟨n, hn⟩ : ∃ n, N.length = n := ⟨_, rfl⟩
      rw [hn] at hsrc hnl
      rw [hn]
      have HN := Lib.hid hn; clear hn
      have HSRC := Lib.hid hsrc; clear hsrc
      have HOV := Lib.hid hov; clear hov
      have HK3 := Lib.hid hk3; clear hk3 HN6 HROW HK HNO HSO HM1 HM2
      go_wp2_with fail
      go_loopw [7, 8] (fun v7 v8 wr => ∃ (i : Nat) (A' : Option Addr) (c' : Nat), i ≤ n ∧ v8 = .int .i64 i ∧ v7 = .slice A' (liveL (N.take i)).length c' ∧ NewSl 54 2 w3.heap.size wr A' (liveL (N.take i)).length c' (pcells (liveL (N.take i))) ∧ Kept NoF w3 wr) (fun _ v8 _ => n - (intOf v8).toNat)
      case atStart => exact ⟨0, none, 0, Nat.zero_le _, rfl, rfl, ⟨⟨rfl, .inl ⟨rfl, rfl⟩⟩, fun k hk => by cases hk⟩, Kept.refl _ _⟩
      case round =>
        obtain ⟨i, A5, c5, hi, rfl, rfl, hrow, hk⟩ := hrel
        have hsz := hk.size
        have HROW := Lib.hid (And.intro hrow hsz); clear hrow hsz
        have HK := Lib.hid hk; clear hk
        by_cases hil : i < n
        · obtain ⟨o, ho⟩ : ∃ o, N[i]? = some o := ⟨_, List.getElem?_eq_getElem (by have := HN.out; omega)⟩
          obtain ⟨ad, rfl, hlt, e0, e1, e2⟩ := op_cells (HSRC.out.kept HK.out (fun _ _ x => x)) (by omega) i o ho
          have hsn := liveL_snoc ho
          have hll := liveL_len (N.take i)
          rw [List.length_take] at hll
          clear ho
          obtain ⟨cur, hcur⟩ : ∃ cur, liveL (N.take i) = cur := ⟨_, rfl⟩
          rw [hcur] at HROW hsn hll
          rw [hcur]
          clear hcur
          obtain ⟨k0, v0, d0⟩ := o
          dsimp only at e0 e1 e2 hsn
          unfold prOf at hsn
          dsimp only at hsn
          obtain ⟨wo, hwo⟩ : ∃ wo : World, wo = wr := ⟨_, rfl⟩
          subst hwo
          cases d0
          · rw [if_neg (by simp)] at hsn
            have HSN := Lib.hid hsn; clear hsn
            have hm1 : cur.length + 1 ≤ maxLen := by unfold maxLen; omega
            have hm2 : (cur.length + 1) * 32 ≤ 140737488355328 := by omega
            have HM1 := Lib.hid hm1; clear hm1
            have HM2 := Lib.hid hm2; clear hm2
            go_wp2_with fail
            go_region_law (first
                | (with_reducible apply step_append_src elemPair (.tmp 46) (.tmp 58) (n := cur.length) (xs := pcells cur) (A := some ⟨_, 0, none⟩) (m := 1) (c := 1) (news := [.string k0, .string v0])
                   rfl
                   rfl
                   exact (rfl : _ = Value.slice A5 cur.length c5)
                   (refine own_kept HROW.out.1.1 (F := NoF) ?_ (fun _ _ x => x); (repeat' (first | with_reducible exact Kept.refl _ _ | with_reducible refine Kept.put ?_ ?_ | with_reducible refine Kept.drewN ?_ _ | with_reducible refine Kept.drew ?_ | with_reducible refine Kept.alloc ?_ _ | (fail) | (right; simp; done))))
                   exact (rfl : _ = Value.slice (some ⟨_, 0, none⟩) 1 1)
                   (refine Src.of_has (t := 54) (cs := #[.string k0, .string v0]) ?_ rfl; (repeat (first | with_reducible exact Has.new_at _ _ _ (by simp) | with_reducible apply Has.drew | with_reducible apply Has.drewN | with_reducible apply Has.alloc | (with_reducible apply Has.past <;> (try omega)) )))
                   (intro u hu; simp at hu; rcases hu with rfl | rfl <;> rfl)
                   exact HM1.out
                   exact HM2.out
                   intro A6 c6 w6 ho6 hg6 ha6
                   have hk6 : Kept NoF w3 w6 := by refine Kept.grown (Kept.then (F := NoF) HK.out ?_) hg6 ?_; (repeat' (first | with_reducible exact Kept.refl _ _ | with_reducible refine Kept.put ?_ ?_ | with_reducible refine Kept.drewN ?_ _ | with_reducible refine Kept.drew ?_ | with_reducible refine Kept.alloc ?_ _ | (fail) | (right; simp; done))); exact fun k hk => .inr (HROW.out.1.2 k hk)))
            all_goals
              have hgl : (liveL (N.take (i + 1))).length = cur.length + 1 := by rw [HSN.out, List.length_append]; rfl
              have hn6 : NewSl 54 2 w3.heap.size w6 A6 (liveL (N.take (i + 1))).length c6 (pcells (liveL (N.take (i + 1)))) := by
                rw [hgl, HSN.out, pairs_at]
                exact HROW.out.1.snoc (by have := HROW.out.2; first | (simp; omega) | omega) ho6 ha6
              have HN6 := Lib.hid (And.intro hn6 (And.intro hk6 hgl)); clear hn6 hk6 ho6 hg6 ha6 hgl
              go_wp2
              go_roundw
              case rel => exact ⟨i + 1, A6, c6, by omega, by go_num, by rw [HN6.out.2.2], HN6.out.1, HN6.out.2.1⟩
              case measure => simp [intOf]; omega
          · rw [if_pos rfl, List.append_nil] at hsn
            have HSN := Lib.hid hsn; clear hsn
            go_wp2
            go_roundw
            case rel => exact ⟨i + 1, A5, c5, by omega, by go_num, by rw [HSN.out], by rw [HSN.out]; exact HROW.out.1, HK.out⟩
            case measure => simp [intOf]; omega
        · obtain rfl : i = n := by omega
          have h2 : N.take N.length = N := List.take_length
          rw [HN.out] at h2
          rw [h2] at HROW ⊢
          go_wp2
          go_ret
          refine ⟨A5, c5, by rw [HOV.out]; rfl, ?_, HK3.out.then HK.out⟩
          rw [HOV.out]
          exact ⟨HROW.out.1.1, fun k hk => Nat.le_trans HK3.out.size (HROW.out.1.2 k hk)⟩
end Ops
end Go.Proofs.Ytnmlemciiigjcaa
