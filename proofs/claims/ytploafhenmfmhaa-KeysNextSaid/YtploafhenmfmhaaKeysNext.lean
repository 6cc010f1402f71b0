/- For every two texts k and x, KeysNext of the keys' layer returns true: what Next gives is a key above k with none between, and there is none just if no key is above k. No condition. -/
import Derived.Test.YtploafhenmfmhaaRows
import Derived.Test.YtploafhenmfmhaaKeysWalk
import Derived.Test.YtploafhenmfmhaaPost
import Derived.ProofKit
import Derived.OpenShut
namespace Go.Proofs.Ytploafhenmfmhaa
open Go.RowKit
namespace Keys

theorem valid_of (x : ByteArray) : (x.toList.isEmpty = true ∨ 8 < x.size) ∨ (x.toList.isEmpty = false ∧ x.size ≤ 8) := by
  cases h : x.toList.isEmpty
  · by_cases h8 : 8 < x.size
    · exact .inl (.inr h8)
    · exact .inr ⟨rfl, by omega⟩
  · exact .inl (.inl rfl)

theorem law_next (k x : ByteArray) (w : World) (hk : k.size ≤ maxLen) :
    Calls Try.prog 3 #[.string k, .string x] w fun e w' => e = .returned (.bool true) ∧ Below w.heap.size w w' := by
  have hxl : x.data.toList.length = x.size := by simp
  have hnx := next_any k w hk
  by_cases hn : nextL k.data.toList = []
  · rw [hn] at hnx
    have hno : x.size ≤ 8 → (Op.bytesLess x.toList k.toList || x.toList == k.toList) = true := by
      intro h8
      rw [ByteArray.toList_eq, ByteArray.toList_eq]
      by_cases e : x.data.toList = k.data.toList
      · simp [e]
      · cases hl : Op.bytesLess x.data.toList k.data.toList with
        | true => rfl
        | false => exact absurd hn (nextL_least _ _ (by omega) (less_total _ _ hl e)).1
    have HN := Lib.hid hnx; clear hnx hn
    have HNO := Lib.hid hno; clear hno
    have finish : ∀ s' : ByteArray, s'.data.toList = [] → s' = ⟨#[]⟩ := fun s' h => ByteArray.ext (Array.toList_inj.1 h)
    rcases valid_of x with hx | ⟨hx, h8⟩
    · have HX := Lib.hid hx; clear hx
      go_enter Try.func3, Try.ntmps3
      go_wp2_with fail
      refine HN.out.mono ?_
      rintro e w1 ⟨s', rfl, hs, hb⟩
      obtain rfl := finish s' hs
      go_wp2_with fail
      refine (check_bad x _ HX.out).mono ?_
      rintro e w' ⟨rfl, rfl⟩
      go_wp2_with fail
      refine (awake_any _).mono ?_
      rintro e w2 ⟨rfl, hb2⟩
      go_wp2_with fail
      go_ret
      exact ⟨rfl, hb.trans (hb2.mono hb.size)⟩
    · have hle := HNO.out h8
      go_enter Try.func3, Try.ntmps3
      go_wp2_with fail
      refine HN.out.mono ?_
      rintro e w1 ⟨s', rfl, hs, hb⟩
      obtain rfl := finish s' hs
      go_wp2_with fail
      refine (check_ok x _ hx h8).mono ?_
      rintro e w' ⟨rfl, rfl⟩
      go_wp2_with fail
      refine (awake_any _).mono ?_
      rintro e w2 ⟨rfl, hb2⟩
      go_wp2_with fail
      go_ret
      exact ⟨rfl, hb.trans (hb2.mono hb.size)⟩
  · obtain ⟨g1, g2⟩ := nextL_gt _ hn
    have hgt : ∀ s' : ByteArray, s'.data.toList = nextL k.data.toList → s'.toList.isEmpty = false ∧ s'.size ≤ 8 ∧ (!(Op.bytesLess s'.toList k.toList || s'.toList == k.toList)) = true := by
      intro s' h
      have hsl : s'.data.toList.length = s'.size := by simp
      refine ⟨?_, by rw [← hsl, h]; exact g2, ?_⟩
      · rw [ByteArray.toList_eq, h]
        cases hz : nextL k.data.toList with
        | nil => exact absurd hz hn
        | cons a l => rfl
      · rw [ByteArray.toList_eq, ByteArray.toList_eq, h, less_asymm _ _ g1]
        have := less_ne _ _ g1
        simp [Ne.symm this]
    have hno : ∀ s' : ByteArray, s'.data.toList = nextL k.data.toList → x.size ≤ 8 → (Op.bytesLess x.toList k.toList || x.toList == k.toList) = false → (!Op.bytesLess x.toList s'.toList) = true := by
      intro s' h h8 hf
      rw [ByteArray.toList_eq, ByteArray.toList_eq] at *
      rw [h]
      simp only [Bool.or_eq_false_iff, beq_eq_false_iff_ne] at hf
      rw [(nextL_least _ _ (by omega) (less_total _ _ hf.1 hf.2)).2]
      rfl
    have HN := Lib.hid hnx; clear hnx hn
    have HNO := Lib.hid hno; clear hno
    have HGT := Lib.hid hgt; clear hgt
    clear g1 g2
    rcases valid_of x with hx | ⟨hx, h8⟩
    · have HX := Lib.hid hx; clear hx
      go_enter Try.func3, Try.ntmps3
      go_wp2_with fail
      refine HN.out.mono ?_
      rintro e w1 ⟨s', rfl, hs, hb⟩
      obtain ⟨q1, q2, q3⟩ := HGT.out s' hs
      have HS := Lib.hid hs; clear hs
      go_wp2_with fail
      refine (check_ok s' _ q1 q2).mono ?_
      rintro e w' ⟨rfl, rfl⟩
      go_wp2_with fail
      refine (check_bad x _ HX.out).mono ?_
      rintro e w' ⟨rfl, rfl⟩
      go_wp2_with fail
      refine (awake_any _).mono ?_
      rintro e w2 ⟨rfl, hb2⟩
      go_wp2_with fail
      go_ret
      exact ⟨rfl, hb.trans (hb2.mono hb.size)⟩
    · cases hf : (Op.bytesLess x.toList k.toList || x.toList == k.toList)
      · go_enter Try.func3, Try.ntmps3
        go_wp2_with fail
        refine HN.out.mono ?_
        rintro e w1 ⟨s', rfl, hs, hb⟩
        obtain ⟨q1, q2, q3⟩ := HGT.out s' hs
        have q4 := HNO.out s' hs h8 hf
        have HS := Lib.hid hs; clear hs
        go_wp2_with fail
        refine (check_ok s' _ q1 q2).mono ?_
        rintro e w' ⟨rfl, rfl⟩
        go_wp2_with fail
        refine (check_ok x _ hx h8).mono ?_
        rintro e w' ⟨rfl, rfl⟩
        go_wp2_with fail
        refine (awake_any _).mono ?_
        rintro e w2 ⟨rfl, hb2⟩
        go_wp2_with fail
        go_ret
        exact ⟨rfl, hb.trans (hb2.mono hb.size)⟩
      · go_enter Try.func3, Try.ntmps3
        go_wp2_with fail
        refine HN.out.mono ?_
        rintro e w1 ⟨s', rfl, hs, hb⟩
        obtain ⟨q1, q2, q3⟩ := HGT.out s' hs
        have HS := Lib.hid hs; clear hs
        go_wp2_with fail
        refine (check_ok s' _ q1 q2).mono ?_
        rintro e w' ⟨rfl, rfl⟩
        go_wp2_with fail
        refine (check_ok x _ hx h8).mono ?_
        rintro e w' ⟨rfl, rfl⟩
        go_wp2_with fail
        refine (awake_any _).mono ?_
        rintro e w2 ⟨rfl, hb2⟩
        go_wp2_with fail
        go_ret
        exact ⟨rfl, hb.trans (hb2.mono hb.size)⟩
end Keys
end Go.Proofs.Ytploafhenmfmhaa

namespace Go.Proofs.Ytploafhenmfmhaa.keysNext
open Go.ChangeShapes Go.WideShapes Go.ChangeAt Go.RowKit
open Go.ChangeMaps (open_string shut_string)

theorem own : ownKnob Try.prog.godebug = none := by kernel_rfl

set_option maxRecDepth 100000 in
theorem contract (H : Type) (enc : TypeId × Value → H) (W : World) (base : Nat) (args : Array Value) (ds gs : List (DataW H)) (before : List MemPlace)
    (hval : ∀ (j : Nat) t v, Try.f3.params[j]? = some t → args[j]? = some v → Value.okWide Try.prog W .any base t v)
    (hW : DataW.Whole enc Try.prog Try.f3.params.toList Rows.keysNextSpec.vars false W args.toList ds gs before) :
    Calls Try.prog 3 args W fun e W' => ∃ v, e = .returned v ∧ Rows.keysNextSpec.post enc Try.prog Try.f3 false true false false W args v W' := by
  have hW' := hW
  obtain ⟨p, q, hA0, hV, rfl, hfz, hnd⟩ := hW
  have hA : DataW.TrodAll enc Try.prog W 0 (fun _ => true) true Try.f3.params.toList args.toList ds p := hA0
  rw [Try.params3] at hA hval
  obtain ⟨v0, vs0, d0, ds0, p0, q0, hargs, rfl, rfl, h0, r0⟩ := trodAll_cons hA
  obtain ⟨v1, vs1, d1, ds1, p1, q1, rfl, rfl, rfl, h1, r1⟩ := trodAll_cons r0
  obtain ⟨rfl, rfl, rfl⟩ := trodAll_nil r1
  obtain rfl : args = #[v0, v1] := by cases args; simp_all
  obtain ⟨rfl, rfl⟩ := trodVars_none hV
  obtain ⟨s0, rfl, rfl, rfl, w0⟩ := open_string Try.underlying9 (hval 0 9 v0 rfl rfl) h0
  obtain ⟨s1, rfl, rfl, rfl, w1⟩ := open_string Try.underlying9 (hval 1 9 v1 rfl rfl) h1
  clear hA0
  simp only [List.append_nil] at hW'
  refine (Keys.law_next s0 s1 W w0).mono fun e W' ⟨he, hb⟩ => ?_
  subst he
  exact ⟨_, rfl, post_below (pa := []) (pv := []) hW' (fun _ _ _ => trodAll_cons_mk (shut_bool Try.underlying4 _) trodAll_mk0)
    (fun _ _ => trodAll_cons_mk (shut_string Try.underlying9 w0) (trodAll_cons_mk (shut_string Try.underlying9 w1) trodAll_mk0)) (fun _ _ => rfl) rfl
    hb (ok_one (by kernel_rfl) rfl (okWide_bool_mk Try.underlying4 _))⟩

set_option maxRecDepth 100000 in
theorem lifted (os : Os) (started : os.Started) (H : Type) (enc : TypeId × Value → H) :
    ReturnsInHanded {} Try.checked os 3 .any (Rows.keysNextSpec.pre6 enc Try.prog Try.f3 Rows.keysNextRow.domain false) (Rows.keysNextSpec.post enc Try.prog Try.f3 false true false false) := by
  refine returnsInHanded_of_change (C := Try.checked) own started (by kernel_rfl) Try.func3
    (ChangeSpec.witness6 (enc := enc) (C := Try.checked) false ⟨#[], #[.string .empty, .string .empty], []⟩ 8 (by kernel_rfl) (by kernel_rfl) (by kernel_rfl) (by kernel_rfl)) ?_
  intro W base args ds gs before hval hW _ _
  exact contract H enc W base args ds gs before hval hW

set_option maxRecDepth 100000 in
theorem proved : Rows.KeysNextSaid :=
  OpenClaim.holds_of_wide 3 Try.f3 rfl rfl rfl rfl rfl rfl rfl ⟨rfl, rfl, rfl, rfl, rfl⟩ rfl rfl rfl rfl rfl (by kernel_rfl) Try.func3 (by kernel_rfl)
    (of_decide_eq_true (by kernel_rfl)) (by unfold Func.isWrapper; first | (rw [if_pos (by decide +kernel)]; kernel_rfl) | (rw [if_neg (by decide +kernel)]; exact ⟨rfl, rfl⟩))
    (fun os started H enc _ => lifted os started H enc)
#print axioms proved
end Go.Proofs.Ytploafhenmfmhaa.keysNext
