/- For every text, every two bounds and every list of texts, KeysPlays returns true: the program's keys are the document's. No condition. -/
import Derived.Test.YtploafhenmfmhaaRows
import Derived.Test.YtploafhenmfmhaaKeysRef
import Derived.Test.YtploafhenmfmhaaKeysSets
import Derived.Test.YtploafhenmfmhaaKit
import Derived.ProofKit
import Derived.OpenShut
import Derived.Lib.SmallJoins
set_option linter.unusedSimpArgs false
set_option linter.unusedVariables false
namespace Go.Proofs.Ytploafhenmfmhaa
open Go.RowKit
set_option maxRecDepth 100000
namespace Keys

set_option maxHeartbeats 4000000 in
theorem law_plays (w : World) (k f t : ByteArray) (A : Option Addr) (c : Nat) (l : List ByteArray) (hks : k.size ≤ maxLen) (hl : Src w 1 A l.length (strs l)) (hlc : l.length ≤ c) (hcm : c ≤ maxLen) (hgood : ∀ s ∈ l, s.size ≤ maxLen) :
    Calls Try.prog 9 #[.string k, .string f, .string t, .slice A l.length c] w fun e w' => e = .returned (.bool true) ∧ Below w.heap.size w w' := by
  unfold maxLen at hcm
  have HL := Lib.hid hl; clear hl
  have HGO := Lib.hid hgood; clear hgood
  have HKS := Lib.hid hks; clear hks
  by_cases h60 : 60 < l.length
  · go_enter Try.func9, Try.ntmps9
    go_wp2_with fail
    refine (awake_any _).mono ?_
    rintro e w1 ⟨rfl, hb⟩
    go_wp2_with fail
    go_ret
    exact ⟨rfl, hb⟩
  have h60' : l.length ≤ 60 := by omega
  clear h60
  have HC1 := Lib.hid (kcheck_any k)
  have HC2 := Lib.hid (rcheck_any k)
  have HI1 := Lib.hid (in_any k f t)
  have HI2 := Lib.hid (rin_any k f t)
  generalize (if k.size < 1 ∨ 8 < k.size then (10 : Int) else 0) = C at HC1 HC2
  generalize (!Op.bytesLess k.toList f.toList && (t.toList.isEmpty || Op.bytesLess k.toList t.toList)) = I at HI1 HI2
  go_enter Try.func9, Try.ntmps9
  go_wp2_with fail
  refine (HC1.out _).mono ?_
  rintro e w' ⟨rfl, rfl⟩
  go_wp2_with fail
  refine (HC2.out _).mono ?_
  rintro e w' ⟨rfl, rfl⟩
  go_wp2_with fail
  refine (HI1.out _).mono ?_
  rintro e w' ⟨rfl, rfl⟩
  go_wp2_with fail
  refine (HI2.out _).mono ?_
  rintro e w' ⟨rfl, rfl⟩
  go_wp2_with fail
  refine (next_any k _ HKS.out).mono ?_
  rintro e w1 ⟨s1, rfl, hs1, hb1⟩
  have HS1 := Lib.hid hs1; clear hs1
  go_wp2_with fail
  refine (rnext_any k _ HKS.out).mono ?_
  rintro e w2 ⟨s2, rfl, hs2, hb2⟩
  have hs12 : s2 = s1 := ByteArray.ext (Array.toList_inj.1 (hs2.trans HS1.out.symm))
  clear hs2
  subst hs12
  have hz1 := hb1.size
  have hB2 := hb1.trans (hb2.mono hz1)
  have hz2 := hB2.size
  go_wp2_with fail
  refine (ksorted_any _ _ _ _ (HL.out.below hB2) (by omega)).mono ?_
  rintro e w3 ⟨rfl, hk3⟩
  have hB3 := hB2.trans (hk3.below hz2 (fun _ x => x.elim))
  have hz3 := hB3.size
  go_wp2_with fail
  refine (rsorted_any _ _ _ _ (HL.out.below hB3) (by omega)).mono ?_
  rintro e w4 ⟨rfl, hk4⟩
  have hB4 := hB3.trans (hk4.below hz3 (fun _ x => x.elim))
  have hz4 := hB4.size
  go_wp2_with fail
  refine (kset_any _ _ _ _ (HL.out.below hB4) (by omega) HGO.out).mono ?_
  rintro e w5 ⟨S5, c5, rfl, hrow5, hnew5, hb5⟩
  have hB5 := hB4.trans (hb5.mono hz4)
  have hz5 := hB5.size
  have hlen := setB_len l
  have HROW5 := Lib.hid hrow5; clear hrow5 hnew5
  go_wp2_with fail
  refine (rset_any _ _ _ _ (HL.out.below hB5) (by omega)).mono ?_
  rintro e w6 ⟨S6, c6, rfl, hrow6, hnew6, hb6⟩
  have hB6 := hB5.trans (hb6.mono hz5)
  have hz6 := hB6.size
  have hs5 := (Src.of_own HROW5.out).below hb6
  have hs6 := Src.of_own hrow6
  clear hnew6
  have HS5 := Lib.hid hs5; clear hs5
  have HS6 := Lib.hid hs6; clear hs6 hrow6
  go_wp2_with fail
  refine (rsame_eq _ _ _ _ _ _ HS5.out HS6.out (by omega)).mono ?_
  rintro e w7 ⟨rfl, hk7⟩
  have hB7 := hB6.trans (hk7.below hz6 (fun _ x => x.elim))
  have hz7 := hB7.size
  go_wp2_with fail
  refine (awake_any _).mono ?_
  rintro e w8 ⟨rfl, hb8⟩
  have hB8 := hB7.trans (hb8.mono hz7)
  go_wp2_with fail
  go_ret
  exact ⟨rfl, hB8⟩
end Keys
end Go.Proofs.Ytploafhenmfmhaa

namespace Go.Proofs.Ytploafhenmfmhaa.keysPlays
open Go.ChangeShapes Go.WideShapes Go.ChangeAt Go.RowKit
open Go.ChangeMaps (open_string shut_string)
set_option maxRecDepth 100000 in
theorem contract (H : Type) (enc : TypeId × Value → H) (W : World) (base : Nat) (args : Array Value) (ds gs : List (DataW H)) (before : List MemPlace)
    (hval : ∀ (j : Nat) t v, Try.f9.params[j]? = some t → args[j]? = some v → Value.okWide Try.prog W .any base t v)
    (hW : DataW.Whole enc Try.prog Try.f9.params.toList Rows.keysPlaysSpec.vars false W args.toList ds gs before) :
    Calls Try.prog 9 args W fun e W' => ∃ v, e = .returned v ∧ Rows.keysPlaysSpec.post enc Try.prog Try.f9 false true false false W args v W' := by
  have hW' := hW
  obtain ⟨p, q, hA0, hV, rfl, hfz, hnd⟩ := hW
  have hA : DataW.TrodAll enc Try.prog W 0 (fun _ => true) true Try.f9.params.toList args.toList ds p := hA0
  rw [Try.params9] at hA hval
  obtain ⟨v0, vs0, d0, ds0, p0, q0, hargs, rfl, rfl, h0, r0⟩ := trodAll_cons hA
  obtain ⟨v1, vs1, d1, ds1, p1, q1, rfl, rfl, rfl, h1, r1⟩ := trodAll_cons r0
  obtain ⟨v2, vs2, d2, ds2, p2, q2, rfl, rfl, rfl, h2, r2⟩ := trodAll_cons r1
  obtain ⟨v3, vs3, d3, ds3, p3, q3, rfl, rfl, rfl, h3, r3⟩ := trodAll_cons r2
  obtain ⟨rfl, rfl, rfl⟩ := trodAll_nil r3
  obtain rfl : args = #[v0, v1, v2, v3] := by cases args; simp_all
  obtain ⟨rfl, rfl⟩ := trodVars_none hV
  have hlt : ∀ x : MemPlace, x ∈ _ → x.block < W.heap.size := fun x hx => hW'.lt x hx
  have g0 := h0
  have g1 := h1
  have g2 := h2
  have g3 := h3
  obtain ⟨a0, rfl, rfl, rfl, w0⟩ := open_string Try.underlying9 (hval 0 9 v0 rfl rfl) h0
  obtain ⟨a1, rfl, rfl, rfl, w1⟩ := open_string Try.underlying9 (hval 1 9 v1 rfl rfl) h1
  obtain ⟨a2, rfl, rfl, rfl, w2⟩ := open_string Try.underlying9 (hval 2 9 v2 rfl rfl) h2
  obtain ⟨A3, c3, l3, rfl, hlc3, hcm3, hs3, hg3⟩ := open_strs (hval 3 69 v3 rfl rfl) h3
  clear hA0
  refine (Keys.law_plays W a0 a1 a2 A3 c3 l3 w0 hs3 hlc3 hcm3 hg3).mono fun e W' ⟨he, hb⟩ => ?_
  subst he
  exact ⟨_, rfl, post_below (pv := []) hW' (fun _ _ _ => trodAll_cons_mk (shut_bool Try.underlying4 _) trodAll_mk0)
    (fun sp hsp => (trodAll_cons_mk (arg_stays (by kernel_rfl) (by kernel_rfl) g0 hb hlt (fun x hx => hsp x hx) (fun x hx => by first | (simp at hx; done) | simp [hx])) (trodAll_cons_mk (arg_stays (by kernel_rfl) (by kernel_rfl) g1 hb hlt (fun x hx => hsp x hx) (fun x hx => by first | (simp at hx; done) | simp [hx])) (trodAll_cons_mk (arg_stays (by kernel_rfl) (by kernel_rfl) g2 hb hlt (fun x hx => hsp x hx) (fun x hx => by first | (simp at hx; done) | simp [hx])) (trodAll_cons_mk (arg_stays (by kernel_rfl) (by kernel_rfl) g3 hb hlt (fun x hx => hsp x hx) (fun x hx => by first | (simp at hx; done) | simp [hx])) trodAll_mk0))))) (fun _ _ => rfl) (by simp)
    hb (ok_one (by kernel_rfl) rfl (okWide_bool_mk Try.underlying4 _))⟩

set_option maxRecDepth 100000 in
theorem lifted (os : Os) (started : os.Started) (H : Type) (enc : TypeId × Value → H) :
    ReturnsInHanded {} Try.checked os 9 .any (Rows.keysPlaysSpec.pre6 enc Try.prog Try.f9 Rows.keysPlaysRow.domain false) (Rows.keysPlaysSpec.post enc Try.prog Try.f9 false true false false) := by
  refine returnsInHanded_of_change (C := Try.checked) own started (by kernel_rfl) Try.func9
    (ChangeSpec.witness6 (enc := enc) (C := Try.checked) false ⟨#[], #[.string .empty, .string .empty, .string .empty, .slice none 0 0], []⟩ 8 (by kernel_rfl) (by kernel_rfl) (by kernel_rfl) (by kernel_rfl)) ?_
  intro W base args ds gs before hval hW _ _
  exact contract H enc W base args ds gs before hval hW

set_option maxRecDepth 100000 in
theorem proved : Rows.KeysPlaysSaid :=
  OpenClaim.holds_of_wide 9 Try.f9 rfl rfl rfl rfl rfl rfl rfl ⟨rfl, rfl, rfl, rfl, rfl⟩ rfl rfl rfl rfl rfl (by kernel_rfl) Try.func9 (by kernel_rfl)
    (of_decide_eq_true (by kernel_rfl)) (by unfold Func.isWrapper; first | (rw [if_pos (by decide +kernel)]; kernel_rfl) | (rw [if_neg (by decide +kernel)]; exact ⟨rfl, rfl⟩))
    (fun os started H enc _ => lifted os started H enc)
#print axioms proved
end Go.Proofs.Ytploafhenmfmhaa.keysPlays
