/- For every list of texts and every text, KeysSets returns true: a set has what the list has, rises, and is its own set, in whatever order the list was. No condition. -/
import Derived.Test.YtploafhenmfmhaaRows
import Derived.Test.YtploafhenmfmhaaKeysSet
import Derived.Test.YtploafhenmfmhaaKit
import Derived.ProofKit
import Derived.OpenShut
import Derived.Lib.SmallJoins
set_option linter.unusedSimpArgs false
set_option linter.unusedVariables false
namespace Go.Proofs.Ytploafhenmfmhaa
open Go.RowKit
set_option maxRecDepth 100000
namespace Keys

theorem flat_strs (l : List ByteArray) : l.flatMap (fun a => [Value.string a]) = strs l := by induction l <;> simp_all [strs]
theorem mem_setB (l : List ByteArray) (x : BL) : x ∈ bl (setB l) ↔ x ∈ bl l := by rw [bl_setB, mem_set]
theorem bl_cons (s : ByteArray) (l : List ByteArray) : bl (s :: l) = s.toList :: bl l := rfl
theorem setB_eq {l m : List ByteArray} (h : setL (bl l) = setL (bl m)) : setB l = setB m := by unfold setB; rw [h]
theorem setB_setB (l : List ByteArray) : setB (setB l) = setB l := setB_eq (by rw [bl_setB, set_set])
theorem setB_rev (l : List ByteArray) : setB l.reverse = setB l := setB_eq (by unfold bl; rw [List.map_reverse, set_rev])
theorem setB_len (l : List ByteArray) : (setB l).length ≤ l.length := by
  have := set_len (bl l)
  unfold setB
  simpa [bl] using this
theorem setB_sorted (l : List ByteArray) : sortedB (setB l) = true := by
  unfold sortedB
  rw [bl_setB]
  exact sorted_of (set_rises _)
end Keys

section
open Go.WideShapes Go.ChangeShapes
variable {H : Type} {enc : TypeId × Value → H} {W : World} {v : Value} {d : DataW H} {ps : List MemPlace} {r : Reach} {b0 : Nat}
theorem open_strs (hv : Value.okWide Try.prog W r b0 69 v) (h : DataW.Trod enc Try.prog W 0 (fun _ => true) true 69 v d ps) :
    ∃ (A : Option Addr) (c : Nat) (l : List ByteArray), v = .slice A l.length c ∧ l.length ≤ c ∧ c ≤ maxLen ∧ Src W 1 A l.length (Keys.strs l) ∧ (∀ s ∈ l, s.size ≤ maxLen) := by
  obtain ⟨A, c, l, h1, h2, h3, h4, h5, _⟩ := open_rows (α := ByteArray) (fun a => [Value.string a]) (fun a => a.size ≤ maxLen) 1 Try.underlying69 (by kernel_rfl) (by decide) (fun _ => rfl)
    (fun fuel cs y hy => by
      obtain ⟨x, hx, _, hm⟩ := DataW.trod_string Try.underlying9 hy
      exact ⟨x, hx, hm⟩) h (okWide_slice Try.underlying69 hv)
  exact ⟨A, c, l, h1, h2, h3, by rw [← Keys.flat_strs]; exact h4, h5⟩
end

namespace Keys
set_option maxHeartbeats 4000000 in
theorem law_sets (w : World) (A : Option Addr) (c : Nat) (l : List ByteArray) (x : ByteArray) (hl : Src w 1 A l.length (strs l)) (hlc : l.length ≤ c) (hcm : c ≤ maxLen) (hgood : ∀ s ∈ l, s.size ≤ maxLen) :
    Calls Try.prog 10 #[.slice A l.length c, .string x] w fun e w' => e = .returned (.bool true) ∧ Below w.heap.size w w' := by
  unfold maxLen at hcm
  have HL := Lib.hid hl; clear hl
  have HGO := Lib.hid hgood; clear hgood
  by_cases h60 : 60 < l.length
  · go_enter Try.func10, Try.ntmps10
    go_wp2_with fail
    refine (awake_any _).mono ?_
    rintro e w1 ⟨rfl, hb⟩
    go_wp2_with fail
    go_ret
    exact ⟨rfl, hb⟩
  have h60' : l.length ≤ 60 := by omega
  clear h60
  go_enter Try.func10, Try.ntmps10
  go_wp2_with fail
  go_loopw [5, 6, 7] (fun v5 v6 v7 wr => ∃ (k : Nat) (T : Option Addr) (tc : Nat), k ≤ l.length ∧ v7 = .int .i64 ((k : Int) - 1) ∧ v5 = .slice T (l.drop k).reverse.length tc ∧ wr.ownsRow 0 9 1 (.slice T (l.drop k).reverse.length tc) (l.drop k).reverse.length (strs (l.drop k).reverse) ∧ v6 = .bool (decide (x.toList ∈ bl (l.drop k))) ∧ (∀ i, (Value.slice T (l.drop k).reverse.length tc).ownBlock = some i → w.heap.size ≤ i) ∧ Below w.heap.size w wr) (fun _ _ v7 _ => (intOf v7 + 1).toNat)
  case atStart => exact ⟨l.length, none, 0, Nat.le_refl _, by go_num, by simp, by simp [strs]; exact ⟨rfl, .inl ⟨rfl, rfl⟩⟩, by simp [bl], (fun i hi => by simp [Value.ownBlock] at hi), Below.refl _ _⟩
  case round =>
    obtain ⟨k, T, tc, hk, rfl, rfl, hrow, rfl, hT, hB⟩ := hrel
    have HROW := Lib.hid hrow; clear hrow
    have HB := Lib.hid hB; clear hB
    have HT := Lib.hid hT; clear hT
    have hsz := HB.out.size
    cases k with
    | succ m =>
      have e1 : ((m + 1 : Nat) : Int) - 1 = m := by omega
      rw [e1]
      obtain ⟨s, hs⟩ : ∃ s, l[m]? = some s := ⟨_, List.getElem?_eq_getElem (by omega)⟩
      obtain ⟨ad, rfl, hadl, e00⟩ := str_cells HL.out (by omega) m s hs
      have hcell : ∀ W, Below w.heap.size w W → W.cell? (ad.add m) = some (.string s) := fun W hW => (hW.cell (p := ad.add m) (by rw [block_add]; exact hadl)).trans e00
      have e0 := hcell wr HB.out
      have HC := Lib.hid hcell; clear hcell e00
      have hdr : l.drop m = s :: l.drop (m + 1) := by
        obtain ⟨hi, e⟩ := List.getElem?_eq_some_iff.1 hs
        rw [← e]; exact List.drop_eq_getElem_cons hi
      have hrl : (l.drop (m + 1)).reverse.length + 1 = (l.drop m).reverse.length := by rw [hdr]; simp
      have hll : (l.drop (m + 1)).reverse.length ≤ 60 := by simp; omega
      have hmx1 : (l.drop (m + 1)).reverse.length + 1 ≤ maxLen := by unfold maxLen; omega
      have hmx2 : ((l.drop (m + 1)).reverse.length + 1) * 16 ≤ 140737488355328 := by omega
      have hsr : strs (l.drop m).reverse = strs (l.drop (m + 1)).reverse ++ [Value.string s] := by rw [hdr]; simp [strs]
      have hhad : decide (x.toList ∈ bl (l.drop m)) = (decide (x.toList ∈ bl (l.drop (m + 1))) || decide (x.toList = s.toList)) := by
        rw [hdr, bl_cons]
        simp [List.mem_cons, Bool.or_comm]
      have HMX1 := Lib.hid hmx1; clear hmx1
      have HMX2 := Lib.hid hmx2; clear hmx2
      have HSR := Lib.hid hsr; clear hsr
      have HRL := Lib.hid hrl; clear hrl
      have HHAD := Lib.hid hhad; clear hhad hdr hs
      generalize (l.drop (m + 1)).reverse.length = n at *
      generalize decide (x.toList ∈ bl (l.drop (m + 1))) = hb at *
      have hcase : (hb = false ∧ x.toList ≠ s.toList) ∨ (hb = false ∧ x.toList = s.toList) ∨ hb = true := by
        cases hb
        · by_cases e : x.toList = s.toList
          · exact .inr (.inl ⟨rfl, e⟩)
          · exact .inl ⟨rfl, e⟩
        · exact .inr (.inr rfl)
      have hrel3 : ∀ (T3 : Option Addr) (tc3 : Nat) (w3 : World), w3.ownsRow 0 9 1 (.slice T3 (n + 1) tc3) (n + 1) (strs (l.drop (m + 1)).reverse ++ [Value.string s]) → (wr.alloc (.cells #[.string s] 9)).grownBy w3 (Value.slice T n tc).ownBlock → ((Value.slice T3 (n + 1) tc3).ownBlock = (Value.slice T n tc).ownBlock ∨ (Value.slice T3 (n + 1) tc3).ownBlock = some (wr.alloc (.cells #[.string s] 9)).heap.size) →
          Below w.heap.size w w3 ∧ w3.ownsRow 0 9 1 (.slice T3 (l.drop m).reverse.length tc3) (l.drop m).reverse.length (strs (l.drop m).reverse) ∧ ∀ i, (Value.slice T3 (l.drop m).reverse.length tc3).ownBlock = some i → w.heap.size ≤ i := by
        intro T3 tc3 w3 ho3 hg3 ha3
        refine ⟨HB.out.trans ((((Kept.refl (fun k => (Value.slice T n tc).ownBlock = some k) wr).alloc _).grown hg3 (fun k hk => .inl hk)).below hsz (fun k hk => HT.out k hk)), ?_, ?_⟩
        · rw [← HRL.out, HSR.out]
          exact ho3
        · rw [← HRL.out]
          intro i hi
          rcases ha3 with h | h
          · exact HT.out i (h.symm.trans hi)
          · rw [hi] at h
            injection h with h
            simp at h
            omega
      have HREL := Lib.hid hrel3; clear hrel3
      have HCASE := Lib.hid hcase; clear hcase
      go_wp2_with (at_builtin; refine list_append_src elemStr (.tmp 22) (.tmp 27) rfl rfl (Value.slice T n tc) rfl (own_kept HROW.out (F := NoF) ((Kept.refl _ _).alloc _) (fun _ _ x => x)) 1 rfl (Src.of_has (m := 1) (Has.new wr 9 #[.string s]) rfl) (by intro u hu; simp at hu; subst hu; rfl) HMX1.out HMX2.out ?_; intro T3 tc3 w3 ho3 hg3 ha3; obtain ⟨hB3, ho4, hn4⟩ := HREL.out T3 tc3 w3 ho3 hg3 ha3; have e3 := HC.out w3 hB3; have HO4 := Lib.hid ho4; clear ho4 ho3 hg3 ha3; have HN4 := Lib.hid hn4; clear hn4; have HB3 := Lib.hid hB3; clear hB3; rcases HCASE.out with ⟨rfl, hne⟩ | ⟨rfl, heq⟩ | rfl)
      all_goals
        go_roundw
        case rel => exact ⟨m, T3, tc3, by omega, by go_num, by rw [← HRL.out], HO4.out, by rw [HHAD.out]; first | rfl | (simp [hne, Ne.symm hne]; done) | (simp [heq]; done), HN4.out, HB3.out⟩
        case measure => first | (simp [intOf]; done) | (simp [intOf]; omega)
    | zero =>
      have e1 : ((0 : Nat) : Int) - 1 = -1 := rfl
      rw [e1]
      rw [List.drop_zero]
      obtain ⟨hb, hhb⟩ : ∃ hb, hb = decide (x.toList ∈ bl l) := ⟨_, rfl⟩
      rw [← hhb]
      have HHB := Lib.hid hhb; clear hhb
      rw [List.drop_zero] at HROW HT
      go_wp2_with fail
      refine (kset_any wr _ c l (HL.out.below HB.out) (by omega) HGO.out).mono ?_
      rintro e w1 ⟨S, sc, rfl, hrow1, hnew1, hb1⟩
      have hB1 := HB.out.trans (hb1.mono hsz)
      have hlen := setB_len l
      have hS := Src.of_own hrow1
      have hmem := mem_setB l x.toList
      have HMEM := Lib.hid hmem; clear hmem
      have HSET := Lib.hid (setB_setB l)
      have HREV := Lib.hid (setB_rev l)
      have HSRT := Lib.hid (setB_sorted l)
      have hgood2 : ∀ s ∈ setB l, s.size ≤ maxLen := by
        intro s hs
        have h1 : s.toList ∈ bl (setB l) := List.mem_map.2 ⟨s, hs, rfl⟩
        rw [mem_setB] at h1
        obtain ⟨a, ha, e⟩ := List.mem_map.1 h1
        have h2 := HGO.out a ha
        have h3 : a.size = s.size := by
          rw [ByteArray.toList_eq, ByteArray.toList_eq] at e
          have := congrArg List.length e
          simpa using this
        omega
      have HG2 := Lib.hid hgood2; clear hgood2
      have hrowT : wr.ownsRow 0 9 1 (.slice T l.reverse.length tc) l.reverse.length (strs l.reverse) := HROW.out
      have hST := (Src.of_own hrowT).below (hb1.mono (Nat.le_refl _))
      generalize setB l = m at *
      have HSS := Lib.hid hS; clear hS
      rw [List.length_reverse] at hST
      have HST := Lib.hid hST; clear hST hrowT
      have HB1 := Lib.hid hB1; clear hB1
      go_wp2_with fail
      go_loop [9, 10] (fun v9 v10 => ∃ i : Nat, i ≤ m.length ∧ v10 = .int .i64 i ∧ v9 = .bool (decide (x.toList ∈ bl (m.take i)))) (fun _ v10 => m.length - (intOf v10).toNat)
      case atStart => exact ⟨0, Nat.zero_le _, rfl, by simp [bl]⟩
      case round =>
        obtain ⟨i, hi, rfl, rfl⟩ := hrel
        by_cases hil : i < m.length
        · obtain ⟨s, hs⟩ : ∃ s, m[i]? = some s := ⟨_, List.getElem?_eq_getElem hil⟩
          obtain ⟨sd, rfl, -, e0⟩ := str_cells HSS.out (by omega) i s hs
          have hhad : decide (x.toList ∈ bl (m.take (i + 1))) = (decide (x.toList ∈ bl (m.take i)) || decide (x.toList = s.toList)) := by
            rw [bl_snoc hs]
            simp [List.mem_append]
          have HHAD := Lib.hid hhad; clear hhad hs
          generalize decide (x.toList ∈ bl (m.take i)) = hc at *
          have hcase : (hc = false ∧ x.toList ≠ s.toList) ∨ (hc = false ∧ x.toList = s.toList) ∨ hc = true := by
            cases hc
            · by_cases e : x.toList = s.toList
              · exact .inr (.inl ⟨rfl, e⟩)
              · exact .inl ⟨rfl, e⟩
            · exact .inr (.inr rfl)
          rcases hcase with ⟨rfl, hne⟩ | ⟨rfl, heq⟩ | rfl
          all_goals
            go_wp2_with fail
            go_round
            case rel => exact ⟨i + 1, by omega, by go_num, by rw [HHAD.out]; first | rfl | (simp [hne, Ne.symm hne]; done) | (simp [heq]; done)⟩
            case measure => simp [intOf]; omega
        · obtain rfl : i = m.length := by omega
          rw [List.take_length]
          obtain ⟨hd, hhd⟩ : ∃ hd, hd = decide (x.toList ∈ bl m) := ⟨_, rfl⟩
          rw [← hhd]
          have hdb : hb = hd := by rw [HHB.out, hhd]; exact decide_eq_decide.2 HMEM.out.symm
          clear hhd
          subst hdb
          go_wp2_with fail
          refine (ksorted_any _ _ _ _ HSS.out (by omega)).mono ?_
          rintro e w2 ⟨rfl, hk2⟩
          rw [HSRT.out]
          go_wp2_with fail
          have hS2 := HSS.out.kept hk2 (fun _ _ x => x)
          have hz2 := hk2.size
          have hz1 := HB1.out.size
          refine (kset_any _ _ _ _ hS2 (by omega) HG2.out).mono ?_
          rintro e w3 ⟨S3, sc3, rfl, hrow3, hnew3, hb3⟩
          rw [HSET.out] at hrow3 hnew3 ⊢
          have hS3 := hS2.below hb3
          have hB3 := (HB1.out.trans (hk2.below (by omega) (fun _ x => x.elim))).trans (hb3.mono (by omega))
          go_wp2_with fail
          refine (rsame_eq _ _ _ _ _ _ (Src.of_own hrow3) hS3 (by omega)).mono ?_
          rintro e w4 ⟨rfl, hk4⟩
          have hz3 := hB3.size
          have hT4 := ((HST.out.kept hk2 (fun _ _ x => x)).below hb3).kept hk4 (fun _ _ x => x)
          have hS4 := hS3.kept hk4 (fun _ _ x => x)
          have hB4 := hB3.trans (hk4.below hz3 (fun _ x => x.elim))
          have hk := kset_any w4 T tc l.reverse (by rw [List.length_reverse]; exact hT4) (by rw [List.length_reverse]; omega) (fun s hs => HGO.out s (List.mem_reverse.1 hs))
          rw [List.length_reverse, HREV.out] at hk
          go_wp2_with fail
          refine hk.mono ?_
          rintro e w5 ⟨S5, sc5, rfl, hrow5, hnew5, hb5⟩
          have hB5 := hB4.trans (hb5.mono (by have := hB4.size; omega))
          have hS5 := hS4.below hb5
          go_wp2_with fail
          refine (rsame_eq _ _ _ _ _ _ (Src.of_own hrow5) hS5 (by omega)).mono ?_
          rintro e w6 ⟨rfl, hk6⟩
          have hB6 := hB5.trans (hk6.below (by have := hB5.size; omega) (fun _ x => x.elim))
          go_wp2_with fail
          refine (awake_any _).mono ?_
          rintro e w7 ⟨rfl, hb7⟩
          go_wp2_with fail
          go_ret
          exact ⟨rfl, hB6.trans (hb7.mono (by have := hB6.size; omega))⟩
end Keys
end Go.Proofs.Ytploafhenmfmhaa

namespace Go.Proofs.Ytploafhenmfmhaa.keysSets
open Go.ChangeShapes Go.WideShapes Go.ChangeAt Go.RowKit
open Go.ChangeMaps (open_string shut_string)
set_option maxRecDepth 100000 in
theorem contract (H : Type) (enc : TypeId × Value → H) (W : World) (base : Nat) (args : Array Value) (ds gs : List (DataW H)) (before : List MemPlace)
    (hval : ∀ (j : Nat) t v, Try.f10.params[j]? = some t → args[j]? = some v → Value.okWide Try.prog W .any base t v)
    (hW : DataW.Whole enc Try.prog Try.f10.params.toList Rows.keysSetsSpec.vars false W args.toList ds gs before) :
    Calls Try.prog 10 args W fun e W' => ∃ v, e = .returned v ∧ Rows.keysSetsSpec.post enc Try.prog Try.f10 false true false false W args v W' := by
  have hW' := hW
  obtain ⟨p, q, hA0, hV, rfl, hfz, hnd⟩ := hW
  have hA : DataW.TrodAll enc Try.prog W 0 (fun _ => true) true Try.f10.params.toList args.toList ds p := hA0
  rw [Try.params10] at hA hval
  obtain ⟨v0, vs0, d0, ds0, p0, q0, hargs, rfl, rfl, h0, r0⟩ := trodAll_cons hA
  obtain ⟨v1, vs1, d1, ds1, p1, q1, rfl, rfl, rfl, h1, r1⟩ := trodAll_cons r0
  obtain ⟨rfl, rfl, rfl⟩ := trodAll_nil r1
  obtain rfl : args = #[v0, v1] := by cases args; simp_all
  obtain ⟨rfl, rfl⟩ := trodVars_none hV
  have hlt : ∀ x : MemPlace, x ∈ _ → x.block < W.heap.size := fun x hx => hW'.lt x hx
  have g0 := h0
  have g1 := h1
  obtain ⟨A0, c0, l0, rfl, hlc0, hcm0, hs0, hg0⟩ := open_strs (hval 0 69 v0 rfl rfl) h0
  obtain ⟨a1, rfl, rfl, rfl, w1⟩ := open_string Try.underlying9 (hval 1 9 v1 rfl rfl) h1
  clear hA0
  refine (Keys.law_sets W A0 c0 l0 a1 hs0 hlc0 hcm0 hg0).mono fun e W' ⟨he, hb⟩ => ?_
  subst he
  exact ⟨_, rfl, post_below (pv := []) hW' (fun _ _ _ => trodAll_cons_mk (shut_bool Try.underlying4 _) trodAll_mk0)
    (fun sp hsp => (trodAll_cons_mk (arg_stays (by kernel_rfl) (by kernel_rfl) g0 hb hlt (fun x hx => hsp x hx) (fun x hx => by first | (simp at hx; done) | simp [hx])) (trodAll_cons_mk (arg_stays (by kernel_rfl) (by kernel_rfl) g1 hb hlt (fun x hx => hsp x hx) (fun x hx => by first | (simp at hx; done) | simp [hx])) trodAll_mk0))) (fun _ _ => rfl) (by simp)
    hb (ok_one (by kernel_rfl) rfl (okWide_bool_mk Try.underlying4 _))⟩

set_option maxRecDepth 100000 in
theorem lifted (os : Os) (started : os.Started) (H : Type) (enc : TypeId × Value → H) :
    ReturnsInHanded {} Try.checked os 10 .any (Rows.keysSetsSpec.pre6 enc Try.prog Try.f10 Rows.keysSetsRow.domain false) (Rows.keysSetsSpec.post enc Try.prog Try.f10 false true false false) := by
  refine returnsInHanded_of_change (C := Try.checked) own started (by kernel_rfl) Try.func10
    (ChangeSpec.witness6 (enc := enc) (C := Try.checked) false ⟨#[], #[.slice none 0 0, .string .empty], []⟩ 8 (by kernel_rfl) (by kernel_rfl) (by kernel_rfl) (by kernel_rfl)) ?_
  intro W base args ds gs before hval hW _ _
  exact contract H enc W base args ds gs before hval hW

set_option maxRecDepth 100000 in
theorem proved : Rows.KeysSetsSaid :=
  OpenClaim.holds_of_wide 10 Try.f10 rfl rfl rfl rfl rfl rfl rfl ⟨rfl, rfl, rfl, rfl, rfl⟩ rfl rfl rfl rfl rfl (by kernel_rfl) Try.func10 (by kernel_rfl)
    (of_decide_eq_true (by kernel_rfl)) (by unfold Func.isWrapper; first | (rw [if_pos (by decide +kernel)]; kernel_rfl) | (rw [if_neg (by decide +kernel)]; exact ⟨rfl, rfl⟩))
    (fun os started H enc _ => lifted os started H enc)
#print axioms proved
end Go.Proofs.Ytploafhenmfmhaa.keysSets
