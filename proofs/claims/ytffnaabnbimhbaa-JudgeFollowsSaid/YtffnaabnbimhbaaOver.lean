
/- ops.Over: pairs behind operations. -/
import Derived.Test.YtffnaabnbimhbaaOpsSame
import Derived.Test.YtffnaabnbimhbaaStrLay
import Derived.Deep.RegionHeld3
set_option linter.unusedSimpArgs false
set_option linter.unusedVariables false
namespace Go.Proofs.Ytffnaabnbimhbaa
open Go.RowKit Go.Maps
set_option maxRecDepth 100000
namespace Ops
open Vn
theorem elemPair : Elem Try.prog 42 54 2 32 := by
  obtain ⟨i0, hi, hz0, hz1, hz2⟩ := info_parts (show (Try.prog.info? 54).map (fun i => (i.zero, i.size, i.bytes)) = some (some (.agg #[.string ⟨#[]⟩, .string ⟨#[]⟩]), 2, 32) by kernel_rfl)
  exact ⟨Try.underlying42, ⟨i0, _, hi, hz0, hz1, hz2, rfl⟩, by decide⟩
theorem elemOp : Elem Try.prog 36 35 3 40 := by
  obtain ⟨i0, hi, hz0, hz1, hz2⟩ := info_parts (show (Try.prog.info? 35).map (fun i => (i.zero, i.size, i.bytes)) = some (some (.agg #[.string ⟨#[]⟩, .string ⟨#[]⟩, .bool false]), 3, 40) by kernel_rfl)
  exact ⟨Try.underlying36, ⟨i0, _, hi, hz0, hz1, hz2, rfl⟩, by decide⟩
/-- What comes back: a new slice that holds the pairs l. -/
def NewPairs (w : World) (l : List PairR) (e : Ending) (w' : World) : Prop :=
  ∃ A c, e = .returned (.slice A l.length c) ∧ NewSl 54 2 w.heap.size w' A l.length c (pcells l) ∧ Kept NoF w w'
abbrev bstrs (l : List BL) : List Value := l.map encStr
theorem bstr_cells {w : World} {A : Option Addr} {m : Nat} {l : List BL} (h : Src w 1 A m (bstrs l)) (hm : 0 < m) (i : Nat) (x : BL) (hx : l[i]? = some x) :
    ∃ ad, A = some ad ∧ ad.block < w.heap.size ∧ w.cell? (ad.add i) = some (.string (ofL x)) := by
  obtain ⟨ad, rfl, had, hcell⟩ := h.2 hm
  exact ⟨ad, rfl, had, hcell i _ (by simp [bstrs, hx, encStr, ofL])⟩
theorem pcells_snoc {l : List PairR} {i : Nat} {p : PairR} (h : l[i]? = some p) : pcells (l.take (i + 1)) = pcells (l.take i) ++ [.string p.key, .string p.val] := by
  unfold pcells
  rw [List.take_add_one, h, List.flatMap_append]
  simp [pcell]
theorem finE_key_size {l : List PairR} {m : List OpR} {M : Nat} (hl : ∀ p ∈ l, p.key.size ≤ M ∧ p.val.size ≤ M) (hm : ∀ o ∈ m, o.key.size ≤ M ∧ o.val.size ≤ M) {x : BL} {v : ByteArray} (h : finE l m x = some v) : (ofL x).size ≤ M ∧ v.size ≤ M := by
  rcases finE_some h with ⟨p, hp, e, rfl⟩ | ⟨p, hp, e, rfl⟩
  · rw [← e, ofL_bl]; exact hl p hp
  · rw [← e, ofL_bl]; exact hm p hp
set_option maxHeartbeats 8000000 in
theorem oover_any (w : World) (A B : Option Addr) (c d : Nat) (l : List PairR) (m : List OpR) (hl : Src w 2 A l.length (pcells l)) (hm : Src w 3 B m.length (cells m)) (hll : l.length ≤ 1000000) (hml : m.length ≤ 1000000)
    (hgl : ∀ p ∈ l, p.key.size ≤ maxLen ∧ p.val.size ≤ maxLen) (hgm : ∀ o ∈ m, o.key.size ≤ maxLen ∧ o.val.size ≤ maxLen) :
    Calls Try.prog 25 #[.slice A l.length c, .slice B m.length d] w (NewPairs w (overL l m)) := by
  have hmk := @run_makeMap Try.prog
  have HL := Lib.hid hl; clear hl
  have HM := Lib.hid hm; clear hm
  have HGL := Lib.hid hgl; clear hgl
  have HGM := Lib.hid hgm; clear hgm
  go_enter Try.func25, Try.ntmps25
  go_wp2_with fail
  clear hmk
  have HB0 := Lib.hid ((Kept.refl NoF w).alloc (.map #[] 0))
  have HM0 := Lib.hid (SMap.made w)
  generalize w.alloc (.map #[] 0) = W0 at *
  obtain ⟨g, hg⟩ : ∃ g, w.heap.size = g := ⟨_, rfl⟩
  rw [hg] at HM0 ⊢
  have HG := Lib.hid hg; clear hg
  go_loopw [16] (fun v16 wr => ∃ i : Nat, i ≤ l.length ∧ v16 = .int .i64 i ∧ SMap wr g i (envP (l.take i)) ∧ Kept NoF w wr) (fun v16 _ => l.length - (intOf v16).toNat)
  case atStart => exact ⟨0, Nat.zero_le _, rfl, HM0.out, HB0.out⟩
  case round =>
    obtain ⟨i, hi, rfl, hmp, hk⟩ := hrel
    have HK := Lib.hid hk; clear hk
    by_cases hil : i < l.length
    · obtain ⟨p, hp⟩ : ∃ p, l[i]? = some p := ⟨_, List.getElem?_eq_getElem hil⟩
      obtain ⟨ad, rfl, hlt, e0, e1⟩ := pair_cells (HL.out.kept HK.out (fun _ _ x => x)) (by omega) i p hp
      obtain ⟨w2, hst, hm2, hk2⟩ := SMap.store (w := wr.alloc (.cells #[.string p.key, .string p.val] 54)) (hmp.kept ((Kept.refl NoF _).alloc _) (fun x => x)) (by unfold maxLen; omega) (HGL.out p (List.mem_of_getElem? hp)).1 p.val (HGL.out p (List.mem_of_getElem? hp)).2
      have hm3 : SMap w2 g (i + 1) (envP (l.take (i + 1))) := by rw [envP_snoc l i p hp]; exact hm2
      have HM3 := Lib.hid hm3; clear hm3 hm2 hp hmp
      have hk3 : Kept NoF w w2 := (HK.out.alloc _).trans hk2 (fun i hi => .inr (by rw [hi, HG.out]; exact Nat.le_refl _))
      have HK3 := Lib.hid hk3; clear hk3 hk2
      go_wp2_with fail
      go_roundw
      case rel => exact ⟨i + 1, by omega, by go_num, HM3.out, HK3.out⟩
      case measure => simp [intOf]; omega
    · obtain rfl : i = l.length := by omega
      rw [List.take_length] at hmp
      have HMP := Lib.hid hmp; clear hmp
      obtain ⟨w1, hw1⟩ : ∃ w1 : World, w1 = wr := ⟨_, rfl⟩
      subst hw1
      clear HM0 HB0
      go_wp2_with fail
      go_loopw [28] (fun v28 wr => ∃ i : Nat, i ≤ m.length ∧ v28 = .int .i64 i ∧ SMap wr g (l.length + i) (finE l (m.take i)) ∧ Kept NoF w wr) (fun v28 _ => m.length - (intOf v28).toNat)
      case atStart => exact ⟨0, Nat.zero_le _, rfl, HMP.out, HK.out⟩
      case round =>
        obtain ⟨i, hi, rfl, hmp, hk⟩ := hrel
        have HK := Lib.hid hk; clear hk
        by_cases hil : i < m.length
        · obtain ⟨o, ho⟩ : ∃ o, m[i]? = some o := ⟨_, List.getElem?_eq_getElem hil⟩
          obtain ⟨ad, rfl, hlt, e0, e1, e2⟩ := op_cells (HM.out.kept HK.out (fun _ _ x => x)) (by omega) i o ho
          have hsn := finE_snoc l m i o ho
          have hsz := HGM.out o (List.mem_of_getElem? ho)
          have HSN := Lib.hid hsn; clear hsn ho
          obtain ⟨ok, ov, od⟩ := o
          dsimp only at e0 e1 e2 hsz HSN
          cases od
          · obtain ⟨w2, hst, hm2, hk2⟩ := SMap.store (w := wr.alloc (.cells #[.string ok, .string ov, .bool false] 35)) (hmp.kept ((Kept.refl NoF _).alloc _) (fun x => x)) (by unfold maxLen; omega) hsz.1 ov hsz.2
            have hm3 : SMap w2 g (l.length + (i + 1)) (finE l (m.take (i + 1))) := by rw [HSN.out]; exact hm2
            have HM3 := Lib.hid hm3; clear hm3 hm2 hmp HSN hsz
            have hk3 : Kept NoF w w2 := (HK.out.alloc _).trans hk2 (fun i hi => .inr (by rw [hi, HG.out]; exact Nat.le_refl _))
            have HK3 := Lib.hid hk3; clear hk3 hk2
            go_wp2_with fail
            go_roundw
            case rel => exact ⟨i + 1, by omega, by go_num, HM3.out, HK3.out⟩
            case measure => simp [intOf]; omega
          · obtain ⟨w2, hst, hm2, hk2⟩ := SMap.drop (w := wr.alloc (.cells #[.string ok, .string ov, .bool true] 35)) (hmp.kept ((Kept.refl NoF _).alloc _) (fun x => x)) hsz.1 0
            have hm3 : SMap w2 g (l.length + (i + 1)) (finE l (m.take (i + 1))) := by rw [HSN.out]; exact hm2.mono (by omega)
            have HM3 := Lib.hid hm3; clear hm3 hm2 hmp HSN hsz
            have hk3 : Kept NoF w w2 := (HK.out.alloc _).trans hk2 (fun i hi => .inr (by rw [hi, HG.out]; exact Nat.le_refl _))
            have HK3 := Lib.hid hk3; clear hk3 hk2
            go_wp2_with fail
            go_roundw
            case rel => exact ⟨i + 1, by omega, by go_num, HM3.out, HK3.out⟩
            case measure => simp [intOf]; omega
        · obtain rfl : i = m.length := by omega
          rw [List.take_length] at hmp
          have HMP := Lib.hid hmp
          obtain ⟨D, hown, hD⟩ := hmp
          have hsz := hown.size_le
          obtain ⟨w1, hw1⟩ : ∃ w1 : World, w1 = wr := ⟨_, rfl⟩
          subst hw1
          have hsk := fun ss hp => sorted_keys hown (fun x => (hD x).1) (l := keysL l m) (fun x hx => finE_key hx) (ss := ss) hp
          have HSK := Lib.hid hsk; clear hsk hD
          have hso := Its.sorted_any _ _ _ _ _ hown (by unfold maxLen; omega) (by omega)
          have HSO := Lib.hid hso; clear hso hown hsz
          go_wp2_with fail
          refine (Its.keys_any _ _).mono ?_
          rintro e w2 ⟨rfl, rfl⟩
          go_wp2_with fail
          refine HSO.out.mono ?_
          rintro e w3 ⟨v, ss, rfl, hS, hrow, hb⟩
          obtain ⟨A4, c4, rfl, _⟩ := own_form hrow
          have hk13 : Kept NoF w1 w3 := ((Kept.refl NoF w1).alloc _).trans (G := fun k => (w1.alloc (.cells #[.map (some g)] 87)).heap.size ≤ k) (Kept.of_below hb fun k hk hf => by simp at hf; omega) (fun i hi => .inr (by simp at hi; omega))
          have hss : ss.mergeSort leB = overK l m := HSK.out ss hS
          have hlen : ss.length = (overK l m).length := by rw [← hss, List.length_mergeSort]
          have hsrc := Src.of_own hrow
          rw [hlen] at hsrc
          have hsrc2 : Src w3 1 A4 (overK l m).length (bstrs (overK l m)) := by rw [← hss] at hsrc ⊢; exact hsrc
          have hmp3 := HMP.out.kept hk13 (fun x => x)
          have hk3 := HK.out.then hk13
          have hkl := overK_len l m
          have hOL : ∀ i x, (overK l m)[i]? = some x → (overL l m)[i]? = some (⟨ofL x, (finE l m x).getD emp⟩ : PairR) := fun i x h => overL_get h
          have hLL := overL_length l m
          have hSZ : ∀ x ∈ overK l m, (ofL x).size ≤ maxLen := fun x hx => by
            obtain ⟨v, hv⟩ := Option.isSome_iff_exists.1 (mem_overK.1 hx)
            exact (finE_key_size HGL.out HGM.out hv).1
          clear hrow hb hS hsrc hss HSK HMP hk13
          rw [hlen]
          obtain ⟨ks, hks⟩ : ∃ ks, overK l m = ks := ⟨_, rfl⟩
          rw [hks] at hsrc2 hkl hOL hLL hSZ ⊢
          clear hks hlen
          obtain ⟨out, hout⟩ : ∃ out, overL l m = out := ⟨_, rfl⟩
          rw [hout] at hOL hLL
          have HOUT := Lib.hid hout; clear hout
          obtain ⟨n, hn⟩ : ∃ n, ks.length = n := ⟨_, rfl⟩
          rw [hn] at hsrc2 hkl hLL ⊢
          have HN := Lib.hid hn; clear hn
          have HSRC := Lib.hid hsrc2; clear hsrc2
          have HMP := Lib.hid hmp3; clear hmp3
          have HK3 := Lib.hid hk3; clear hk3 HSO
          have HOL := Lib.hid hOL; clear hOL
          have HLL := Lib.hid hLL; clear hLL
          have HSZ := Lib.hid hSZ; clear hSZ
          go_wp2_with fail
          go_loopw [10, 47] (fun v10 v47 wr => ∃ (i : Nat) (A' : Option Addr) (c' : Nat), i ≤ n ∧ v47 = .int .i64 i ∧ v10 = .slice A' i c' ∧ NewSl 54 2 w3.heap.size wr A' i c' (pcells (out.take i)) ∧ Kept NoF w3 wr) (fun _ v47 _ => n - (intOf v47).toNat)
          case atStart => exact ⟨0, none, 0, Nat.zero_le _, rfl, rfl, ⟨⟨rfl, .inl ⟨rfl, rfl⟩⟩, fun k hk => by cases hk⟩, Kept.refl _ _⟩
          case round =>
            obtain ⟨i, A5, c5, hi, rfl, rfl, hrow, hk⟩ := hrel
            have HROW := Lib.hid hrow; clear hrow
            have HKR := Lib.hid hk; clear hk
            by_cases hil : i < n
            · obtain ⟨x, hx⟩ : ∃ x, ks[i]? = some x := ⟨_, List.getElem?_eq_getElem (by have := HN.out; omega)⟩
              obtain ⟨ad, rfl, hlt, e0⟩ := bstr_cells (HSRC.out.kept HKR.out (fun _ _ x => x)) (by omega) i x hx
              have hox := HOL.out i x hx
              obtain ⟨hlk, hvs⟩ := SMap.look (HMP.out.kept HKR.out (fun x => x)) (HSZ.out x (List.mem_of_getElem? hx))
              rw [bl_ofL] at hlk
              obtain ⟨v, hv⟩ : ∃ v, (finE l m x).getD emp = v := ⟨_, rfl⟩
              rw [hv] at hlk hox
              obtain ⟨k, hkk⟩ : ∃ k, ofL x = k := ⟨_, rfl⟩
              rw [hkk] at hlk hox e0
              have hcs := pcells_snoc hox
              have HCS := Lib.hid hcs; clear hcs hox hv hkk hvs hx
              have hm1 : i + 1 ≤ maxLen := by unfold maxLen; omega
              have hm2 : (i + 1) * 32 ≤ 140737488355328 := by omega
              have HM1 := Lib.hid hm1; clear hm1
              have HM2 := Lib.hid hm2; clear hm2
              have hsz := HKR.out.size
              have HSZR := Lib.hid hsz; clear hsz
              go_wp2_with (at_builtin; refine list_append_src elemPair (.tmp 51) (.tmp 57) rfl rfl (Value.slice A5 i c5) rfl ((HROW.out.kept ((Kept.refl _ _).alloc _)).1) 1 rfl (Src.of_has (m := 1) (cs := #[.string k, .string v]) (Has.new_at _ 54 _ (by simp)) rfl) (by intro u hu; simp at hu; rcases hu with rfl | rfl <;> rfl) HM1.out HM2.out ?_; intro A6 c6 w6 ho6 hg6 ha6)
              have hn6 : NewSl 54 2 w3.heap.size w6 A6 (i + 1) c6 (pcells (out.take (i + 1))) := by
                rw [HCS.out]
                exact HROW.out.snoc (by simp; have := HSZR.out; omega) ho6 ha6
              have hk6 : Kept NoF w3 w6 := (HKR.out.alloc _).grown hg6 (fun k hk => .inr (HROW.out.2 k hk))
              clear ho6 hg6 ha6
              have HN6 := Lib.hid hn6; clear hn6
              have HK6 := Lib.hid hk6; clear hk6
              go_wp2
              go_roundw
              case rel => exact ⟨i + 1, A6, c6, by omega, by go_num, rfl, HN6.out, HK6.out⟩
              case measure => simp [intOf]; omega
            · obtain rfl : i = n := by omega
              go_wp2
              go_ret
              have h1 := HROW.out
              rw [List.take_of_length_le (by rw [HLL.out]; exact Nat.le_refl _)] at h1
              refine ⟨A5, c5, by rw [HOUT.out, HLL.out]; rfl, ?_, HK3.out.then HKR.out⟩
              rw [HOUT.out, HLL.out]
              exact ⟨h1.1, fun k hk => Nat.le_trans HK3.out.size (h1.2 k hk)⟩
end Ops
end Go.Proofs.Ytffnaabnbimhbaa
