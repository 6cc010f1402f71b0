
/- judge.Rows. -/
import Derived.Test.YtffnaabnbimhbaaJudge1
set_option linter.unusedSimpArgs false
set_option linter.unusedVariables false
namespace Go.Proofs.Ytffnaabnbimhbaa
open Go.RowKit
set_option maxRecDepth 100000
namespace Ent
open Ops Vn
def rowsL (most : Nat) (is : PairR → Bool) (ps : List PairR) : List PairR := (ps.filter is).take most
theorem rowsL_snoc {most : Nat} {is : PairR → Bool} {ps : List PairR} {i : Nat} {p : PairR} (h : ps[i]? = some p) :
    rowsL most is (ps.take (i + 1)) = if (rowsL most is (ps.take i)).length < most ∧ is p = true then rowsL most is (ps.take i) ++ [p] else rowsL most is (ps.take i) := by
  unfold rowsL
  rw [List.take_add_one, h, List.filter_append]
  generalize (ps.take i).filter is = F
  rw [List.take_append]
  by_cases hl : F.length < most
  · have h1 : (F.take most).length = F.length := by rw [List.length_take]; omega
    by_cases hp : is p = true
    · rw [if_pos ⟨by omega, hp⟩]
      obtain ⟨d, hd⟩ : ∃ d, most - F.length = d + 1 := ⟨most - F.length - 1, by omega⟩
      rw [hd]
      simp [hp]
    · rw [if_neg (fun x => hp x.2)]
      simp [hp]
  · have h1 : (F.take most).length = most := by rw [List.length_take]; omega
    rw [if_neg (fun x => by omega)]
    have h2 : most - F.length = 0 := by omega
    rw [h2]
    simp
def keyP (key : ByteArray) (p : PairR) : Bool := decide (p.key = key)
def allP (_ : PairR) : Bool := true
theorem rowsL_len (most : Nat) (is : PairR → Bool) (ps : List PairR) : (rowsL most is ps).length ≤ ps.length := by
  unfold rowsL
  have := List.length_filter_le is ps
  rw [List.length_take]
  omega
theorem one_pair (k v : ByteArray) : ∀ u ∈ [Value.string k, .string v], u.oneCell' = true := by
  intro u hu
  simp at hu
  rcases hu with rfl | rfl <;> rfl
theorem stateL_len (l : List EntR) (t : Int) : (stateL l t).length ≤ total l := by
  unfold stateL
  rw [overL_length]
  have := overK_len [] (opsTo l t)
  have := opsTo_len l t
  simp at *
  omega

set_option maxHeartbeats 4000000 in
theorem rows_get (w : World) (A : Option Addr) (c : Nat) (l : List EntR) (t : Int) (key : ByteArray) (hl : Src w 4 A l.length (ecells l)) (hlo : LOk w l) (hlen : l.length ≤ 1000) (htot : total l ≤ 1000) :
    Calls Try.prog 30 #[.slice A l.length c, .agg (acell 1 key ⟨#[]⟩ 0), .int .u64 t] w (NewPairs w (rowsL 1 (keyP key) (stateL l t))) := by
  have hst := fun W (hW : Kept NoF w W) => state_any W A c l t (hl.kept hW (fun _ _ x => x)) (hlo.kept hW) hlen htot
  have hpl := Nat.le_trans (stateL_len l t) htot
  obtain ⟨ps, hps⟩ : ∃ ps, stateL l t = ps := ⟨_, rfl⟩
  rw [hps] at hst hpl ⊢
  clear hps hl hlo
  have hme := fun W => meant_get W key
  have hcl : ∀ (W : World) (b : Nat) (p : PairR) (hb : Has W b 47 (acell 1 key ⟨#[]⟩ 0)), Calls Try.prog 41 #[pagg p, .pointer (some ⟨b, 0, none⟩)] W (fun e w' => e = .returned (.bool ((keyP key) p)) ∧ Kept NoF W w') := fun W b p hb => get_any W p b key ⟨#[]⟩ 1 0 hb
  have HST := Lib.hid hst; clear hst
  have HME := Lib.hid hme; clear hme
  have HCL := Lib.hid hcl; clear hcl
  have HPL := Lib.hid hpl; clear hpl
  dsimp only [acell] at HME HCL ⊢
  go_enter Try.func30, Try.ntmps30
  go_wp2_with fail
  refine (HME.out _).mono ?_
  rintro e w2 ⟨rfl, hb, hk⟩
  rw [size_alloc] at hb ⊢
  have hk2 := Kept.then (F := NoF) (a := w) (by (repeat' (first | with_reducible exact Kept.refl _ _ | with_reducible refine Kept.put ?_ ?_ | with_reducible refine Kept.drewN ?_ _ | with_reducible refine Kept.drew ?_ | with_reducible refine Kept.alloc ?_ _ | (fail) | (right; simp; done)))) hk
  have HB := Lib.hid (And.intro hb hk2); clear hb hk2 hk
  obtain ⟨b, hbb⟩ : ∃ b, w.heap.size + 1 = b := ⟨_, rfl⟩
  rw [hbb] at HB
  rw [hbb]
  clear hbb
  go_wp2_with fail
  refine (HST.out _ HB.out.2).mono ?_
  rintro e w3 ⟨A3, c3, rfl, hr3, hk3⟩
  have HS3 := Lib.hid (And.intro (Src.of_own hr3.1) (And.intro (HB.out.1.kept hk3 (fun x => x)) (HB.out.2.then hk3))); clear hr3 hk3 HB HST
  have hpl := HPL.out
  go_wp2_with fail
  go_loopw [9, 21] (fun v9 v21 wr => ∃ (i : Nat) (A' : Option Addr) (c' : Nat), i ≤ ps.length ∧ v21 = .int .i64 i ∧ v9 = .slice A' (rowsL 1 (keyP key) (ps.take i)).length c' ∧ NewSl 54 2 w3.heap.size wr A' (rowsL 1 (keyP key) (ps.take i)).length c' (pcells (rowsL 1 (keyP key) (ps.take i))) ∧ Kept NoF w3 wr) (fun _ v21 _ => ps.length - (intOf v21).toNat)
  case atStart => exact ⟨0, none, 0, Nat.zero_le _, rfl, by simp [rowsL], ⟨⟨by simp [rowsL, pcells], .inl ⟨by simp [rowsL], by simp [rowsL]⟩⟩, fun k hk => by cases hk⟩, Kept.refl _ _⟩
  case round =>
    obtain ⟨i, A5, c5, hi, rfl, rfl, hrow, hk⟩ := hrel
    have hsz := hk.size
    have HROW := Lib.hid (And.intro hrow hsz); clear hrow hsz
    have HK := Lib.hid hk; clear hk
    by_cases hil : i < ps.length
    · obtain ⟨p, hp⟩ : ∃ p, ps[i]? = some p := ⟨_, List.getElem?_eq_getElem hil⟩
      obtain ⟨ad, rfl, hlt, e0, e1⟩ := pair_cells (HS3.out.1.kept HK.out (fun _ _ x => x)) (by omega) i p hp
      have hsu := rowsL_snoc (most := 1) (is := (keyP key)) hp
      have hrl := rowsL_len 1 (keyP key) (ps.take i)
      rw [List.length_take] at hrl
      clear hp
      obtain ⟨cur, hcur⟩ : ∃ cur, rowsL 1 (keyP key) (ps.take i) = cur := ⟨_, rfl⟩
      rw [hcur] at HROW hsu hrl
      rw [hcur]
      clear hcur
      have hcall := HCL.out (wr.alloc (.cells #[.string p.key, .string p.val] 54)) b p ((HS3.out.2.1.kept HK.out (fun x => x)).alloc _)
      by_cases hmo : cur.length < 1
      · obtain ⟨q, hq⟩ : ∃ q, (keyP key) p = q := ⟨_, rfl⟩
        rw [hq] at hsu hcall
        clear hq
        have hm1 : cur.length + 1 ≤ maxLen := by unfold maxLen; omega
        have hm2 : (cur.length + 1) * 32 ≤ 140737488355328 := by omega
        have HM1 := Lib.hid hm1; clear hm1
        have HM2 := Lib.hid hm2; clear hm2
        obtain ⟨pk, pv⟩ := p
        dsimp only [pagg] at *
        have hbx := Has.new wr 54 #[.string pk, .string pv]
        have HBX := Lib.hid hbx; clear hbx
        have HCALL := Lib.hid hcall; clear hcall
        cases q
        · rw [if_neg (by simp)] at hsu
          have HSU := Lib.hid hsu; clear hsu
          go_wp2_with fail
          refine HCALL.out.mono ?_
          rintro e w5 ⟨rfl, hk⟩
          have hk5 := Kept.then (F := NoF) (a := w3) (by (repeat' (first | with_reducible exact Kept.refl _ _ | with_reducible refine Kept.put ?_ ?_ | with_reducible refine Kept.drewN ?_ _ | with_reducible refine Kept.drew ?_ | with_reducible refine Kept.alloc ?_ _ | (exact HK.out) | (right; simp; done)))) hk
          have hr5 := (HROW.out.1.kept ((Kept.refl NoF wr).alloc (.cells #[.string pk, .string pv] 54))).kept hk
          have H5 := Lib.hid (And.intro hr5 hk5); clear hr5 hk5 hk
          go_wp2
          go_roundw
          case rel => exact ⟨i + 1, A5, c5, by omega, by go_num, by rw [HSU.out], by rw [HSU.out]; exact H5.out.1, H5.out.2⟩
          case measure => simp [intOf]; omega
        · rw [if_pos ⟨hmo, rfl⟩] at hsu
          have HSU := Lib.hid hsu; clear hsu
          go_wp2_with fail
          refine HCALL.out.mono ?_
          rintro e w5 ⟨rfl, hk⟩
          have hk5 := Kept.then (F := NoF) (a := w3) (by (repeat' (first | with_reducible exact Kept.refl _ _ | with_reducible refine Kept.put ?_ ?_ | with_reducible refine Kept.drewN ?_ _ | with_reducible refine Kept.drew ?_ | with_reducible refine Kept.alloc ?_ _ | (exact HK.out) | (right; simp; done)))) hk
          have hr5 := (HROW.out.1.kept ((Kept.refl NoF wr).alloc (.cells #[.string pk, .string pv] 54))).kept hk
          have hx5 := HBX.out.kept hk (fun x => x)
          have x0 := hx5.cell 0
          have x1 := hx5.cell 1
          simp only [List.getElem?_toArray, List.getElem?_cons_zero, List.getElem?_cons_succ] at x0 x1
          have hz5 := hk5.size
          have H5 := Lib.hid (And.intro hr5 (And.intro hk5 hz5)); clear hr5 hk5 hk hx5 hz5
          go_wp2_with (at_builtin; refine list_append_src elemPair (.tmp 34) (.tmp 36) rfl rfl (Value.slice A5 cur.length c5) rfl ((H5.out.1.kept ((Kept.refl _ _).alloc _)).1) 1 rfl (Src.of_has (m := 1) (cs := #[.string pk, .string pv]) (Has.new_at _ 54 _ (by simp)) rfl) (one_pair _ _) HM1.out HM2.out ?_; intro A6 c6 w6 ho6 hg6 ha6)
          have hn6 : NewSl 54 2 w3.heap.size w6 A6 (rowsL 1 (keyP key) (ps.take (i + 1))).length c6 (pcells (rowsL 1 (keyP key) (ps.take (i + 1)))) := by
            rw [HSU.out, List.length_append]
            have e : pcells (cur ++ [⟨pk, pv⟩]) = pcells cur ++ [.string pk, .string pv] := by unfold pcells; rw [List.flatMap_append]; simp [pcell]
            rw [e]
            exact H5.out.1.snoc (by simp; have := H5.out.2.2; omega) ho6 ha6
          have hk6 : Kept NoF w3 w6 := (H5.out.2.1.alloc _).trans (G := fun k => (Value.slice A5 cur.length c5).ownBlock = some k) (Kept.grown (Kept.refl _ _) hg6 (fun k hk => .inl hk)) (fun k hk => .inr (HROW.out.1.2 k hk))
          have hgl6 : (rowsL 1 (keyP key) (ps.take (i + 1))).length = cur.length + 1 := by rw [HSU.out, List.length_append]; rfl
          clear ho6 hg6 ha6
          have HN6 := Lib.hid (And.intro hn6 (And.intro hk6 hgl6)); clear hn6 hk6 hgl6
          go_wp2
          go_roundw
          case rel => exact ⟨i + 1, A6, c6, by omega, by go_num, by rw [HN6.out.2.2], HN6.out.1, HN6.out.2.1⟩
          case measure => simp [intOf]; omega
      · rw [if_neg (fun x => hmo x.1)] at hsu
        have HSU := Lib.hid hsu; clear hsu hcall
        obtain ⟨pk, pv⟩ := p
        dsimp only at *
        go_wp2
        go_roundw
        case rel => exact ⟨i + 1, A5, c5, by omega, by go_num, by rw [HSU.out], by rw [HSU.out]; exact HROW.out.1.kept ((Kept.refl _ _).alloc _), HK.out.alloc _⟩
        case measure => simp [intOf]; omega
    · obtain rfl : i = ps.length := by omega
      rw [List.take_length] at HROW
      rw [List.take_length]
      go_wp2
      go_ret
      exact ⟨A5, c5, rfl, ⟨HROW.out.1.1, fun k hk => Nat.le_trans HS3.out.2.2.size (HROW.out.1.2 k hk)⟩, HS3.out.2.2.then HK.out⟩

set_option maxHeartbeats 4000000 in
theorem rows_scan (w : World) (A : Option Addr) (c : Nat) (l : List EntR) (t : Int) (hl : Src w 4 A l.length (ecells l)) (hlo : LOk w l) (hlen : l.length ≤ 1000) (htot : total l ≤ 1000) :
    Calls Try.prog 30 #[.slice A l.length c, .agg (acell 2 ⟨#[]⟩ ⟨#[]⟩ 1000), .int .u64 t] w (NewPairs w (rowsL 1000 allP (stateL l t))) := by
  have hst := fun W (hW : Kept NoF w W) => state_any W A c l t (hl.kept hW (fun _ _ x => x)) (hlo.kept hW) hlen htot
  have hpl := Nat.le_trans (stateL_len l t) htot
  obtain ⟨ps, hps⟩ : ∃ ps, stateL l t = ps := ⟨_, rfl⟩
  rw [hps] at hst hpl ⊢
  clear hps hl hlo
  have hme := fun W => meant_scan W 1000
  have hcl : ∀ (W : World) (b : Nat) (p : PairR) (hb : Has W b 47 (acell 2 ⟨#[]⟩ ⟨#[]⟩ 1000)), Calls Try.prog 42 #[pagg p, .pointer (some ⟨b, 0, none⟩)] W (fun e w' => e = .returned (.bool (allP p)) ∧ Kept NoF W w') := fun W b p hb => scan_any W p b 2 1000 hb
  have HST := Lib.hid hst; clear hst
  have HME := Lib.hid hme; clear hme
  have HCL := Lib.hid hcl; clear hcl
  have HPL := Lib.hid hpl; clear hpl
  dsimp only [acell] at HME HCL ⊢
  go_enter Try.func30, Try.ntmps30
  go_wp2_with fail
  refine (HME.out _).mono ?_
  rintro e w2 ⟨rfl, hb, hk⟩
  rw [size_alloc] at hb ⊢
  have hk2 := Kept.then (F := NoF) (a := w) (by (repeat' (first | with_reducible exact Kept.refl _ _ | with_reducible refine Kept.put ?_ ?_ | with_reducible refine Kept.drewN ?_ _ | with_reducible refine Kept.drew ?_ | with_reducible refine Kept.alloc ?_ _ | (fail) | (right; simp; done)))) hk
  have HB := Lib.hid (And.intro hb hk2); clear hb hk2 hk
  obtain ⟨b, hbb⟩ : ∃ b, w.heap.size + 1 = b := ⟨_, rfl⟩
  rw [hbb] at HB
  rw [hbb]
  clear hbb
  go_wp2_with fail
  refine (HST.out _ HB.out.2).mono ?_
  rintro e w3 ⟨A3, c3, rfl, hr3, hk3⟩
  have HS3 := Lib.hid (And.intro (Src.of_own hr3.1) (And.intro (HB.out.1.kept hk3 (fun x => x)) (HB.out.2.then hk3))); clear hr3 hk3 HB HST
  have hpl := HPL.out
  go_wp2_with fail
  go_loopw [9, 21] (fun v9 v21 wr => ∃ (i : Nat) (A' : Option Addr) (c' : Nat), i ≤ ps.length ∧ v21 = .int .i64 i ∧ v9 = .slice A' (rowsL 1000 allP (ps.take i)).length c' ∧ NewSl 54 2 w3.heap.size wr A' (rowsL 1000 allP (ps.take i)).length c' (pcells (rowsL 1000 allP (ps.take i))) ∧ Kept NoF w3 wr) (fun _ v21 _ => ps.length - (intOf v21).toNat)
  case atStart => exact ⟨0, none, 0, Nat.zero_le _, rfl, by simp [rowsL], ⟨⟨by simp [rowsL, pcells], .inl ⟨by simp [rowsL], by simp [rowsL]⟩⟩, fun k hk => by cases hk⟩, Kept.refl _ _⟩
  case round =>
    obtain ⟨i, A5, c5, hi, rfl, rfl, hrow, hk⟩ := hrel
    have hsz := hk.size
    have HROW := Lib.hid (And.intro hrow hsz); clear hrow hsz
    have HK := Lib.hid hk; clear hk
    by_cases hil : i < ps.length
    · obtain ⟨p, hp⟩ : ∃ p, ps[i]? = some p := ⟨_, List.getElem?_eq_getElem hil⟩
      obtain ⟨ad, rfl, hlt, e0, e1⟩ := pair_cells (HS3.out.1.kept HK.out (fun _ _ x => x)) (by omega) i p hp
      have hsu := rowsL_snoc (most := 1000) (is := allP) hp
      have hrl := rowsL_len 1000 allP (ps.take i)
      rw [List.length_take] at hrl
      clear hp
      obtain ⟨cur, hcur⟩ : ∃ cur, rowsL 1000 allP (ps.take i) = cur := ⟨_, rfl⟩
      rw [hcur] at HROW hsu hrl
      rw [hcur]
      clear hcur
      have hcall := HCL.out (wr.alloc (.cells #[.string p.key, .string p.val] 54)) b p ((HS3.out.2.1.kept HK.out (fun x => x)).alloc _)
      by_cases hmo : cur.length < 1000
      · obtain ⟨q, hq⟩ : ∃ q, allP p = q := ⟨_, rfl⟩
        rw [hq] at hsu hcall
        clear hq
        have hm1 : cur.length + 1 ≤ maxLen := by unfold maxLen; omega
        have hm2 : (cur.length + 1) * 32 ≤ 140737488355328 := by omega
        have HM1 := Lib.hid hm1; clear hm1
        have HM2 := Lib.hid hm2; clear hm2
        obtain ⟨pk, pv⟩ := p
        dsimp only [pagg] at *
        have hbx := Has.new wr 54 #[.string pk, .string pv]
        have HBX := Lib.hid hbx; clear hbx
        have HCALL := Lib.hid hcall; clear hcall
        cases q
        · rw [if_neg (by simp)] at hsu
          have HSU := Lib.hid hsu; clear hsu
          go_wp2_with fail
          refine HCALL.out.mono ?_
          rintro e w5 ⟨rfl, hk⟩
          have hk5 := Kept.then (F := NoF) (a := w3) (by (repeat' (first | with_reducible exact Kept.refl _ _ | with_reducible refine Kept.put ?_ ?_ | with_reducible refine Kept.drewN ?_ _ | with_reducible refine Kept.drew ?_ | with_reducible refine Kept.alloc ?_ _ | (exact HK.out) | (right; simp; done)))) hk
          have hr5 := (HROW.out.1.kept ((Kept.refl NoF wr).alloc (.cells #[.string pk, .string pv] 54))).kept hk
          have H5 := Lib.hid (And.intro hr5 hk5); clear hr5 hk5 hk
          go_wp2
          go_roundw
          case rel => exact ⟨i + 1, A5, c5, by omega, by go_num, by rw [HSU.out], by rw [HSU.out]; exact H5.out.1, H5.out.2⟩
          case measure => simp [intOf]; omega
        · rw [if_pos ⟨hmo, rfl⟩] at hsu
          have HSU := Lib.hid hsu; clear hsu
          go_wp2_with fail
          refine HCALL.out.mono ?_
          rintro e w5 ⟨rfl, hk⟩
          have hk5 := Kept.then (F := NoF) (a := w3) (by (repeat' (first | with_reducible exact Kept.refl _ _ | with_reducible refine Kept.put ?_ ?_ | with_reducible refine Kept.drewN ?_ _ | with_reducible refine Kept.drew ?_ | with_reducible refine Kept.alloc ?_ _ | (exact HK.out) | (right; simp; done)))) hk
          have hr5 := (HROW.out.1.kept ((Kept.refl NoF wr).alloc (.cells #[.string pk, .string pv] 54))).kept hk
          have hx5 := HBX.out.kept hk (fun x => x)
          have x0 := hx5.cell 0
          have x1 := hx5.cell 1
          simp only [List.getElem?_toArray, List.getElem?_cons_zero, List.getElem?_cons_succ] at x0 x1
          have hz5 := hk5.size
          have H5 := Lib.hid (And.intro hr5 (And.intro hk5 hz5)); clear hr5 hk5 hk hx5 hz5
          go_wp2_with (at_builtin; refine list_append_src elemPair (.tmp 34) (.tmp 36) rfl rfl (Value.slice A5 cur.length c5) rfl ((H5.out.1.kept ((Kept.refl _ _).alloc _)).1) 1 rfl (Src.of_has (m := 1) (cs := #[.string pk, .string pv]) (Has.new_at _ 54 _ (by simp)) rfl) (one_pair _ _) HM1.out HM2.out ?_; intro A6 c6 w6 ho6 hg6 ha6)
          have hn6 : NewSl 54 2 w3.heap.size w6 A6 (rowsL 1000 allP (ps.take (i + 1))).length c6 (pcells (rowsL 1000 allP (ps.take (i + 1)))) := by
            rw [HSU.out, List.length_append]
            have e : pcells (cur ++ [⟨pk, pv⟩]) = pcells cur ++ [.string pk, .string pv] := by unfold pcells; rw [List.flatMap_append]; simp [pcell]
            rw [e]
            exact H5.out.1.snoc (by simp; have := H5.out.2.2; omega) ho6 ha6
          have hk6 : Kept NoF w3 w6 := (H5.out.2.1.alloc _).trans (G := fun k => (Value.slice A5 cur.length c5).ownBlock = some k) (Kept.grown (Kept.refl _ _) hg6 (fun k hk => .inl hk)) (fun k hk => .inr (HROW.out.1.2 k hk))
          have hgl6 : (rowsL 1000 allP (ps.take (i + 1))).length = cur.length + 1 := by rw [HSU.out, List.length_append]; rfl
          clear ho6 hg6 ha6
          have HN6 := Lib.hid (And.intro hn6 (And.intro hk6 hgl6)); clear hn6 hk6 hgl6
          go_wp2
          go_roundw
          case rel => exact ⟨i + 1, A6, c6, by omega, by go_num, by rw [HN6.out.2.2], HN6.out.1, HN6.out.2.1⟩
          case measure => simp [intOf]; omega
      · exact absurd hmo (by omega)
    · obtain rfl : i = ps.length := by omega
      rw [List.take_length] at HROW
      rw [List.take_length]
      go_wp2
      go_ret
      exact ⟨A5, c5, rfl, ⟨HROW.out.1.1, fun k hk => Nat.le_trans HS3.out.2.2.size (HROW.out.1.2 k hk)⟩, HS3.out.2.2.then HK.out⟩
end Ent
end Go.Proofs.Ytffnaabnbimhbaa
