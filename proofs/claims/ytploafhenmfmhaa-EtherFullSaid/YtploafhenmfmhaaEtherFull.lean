/- For every number of packets past the limit and every place, EtherFull returns true: as many packets as the limit allows are there, all others are lost. No condition. -/
import Derived.Test.YtploafhenmfmhaaRows
import Derived.Test.YtploafhenmfmhaaEtherMore
import Derived.Test.YtploafhenmfmhaaPost
import Derived.ProofKit
import Derived.OpenShut
namespace Go.Proofs.Ytploafhenmfmhaa
open Go.RowKit
set_option maxRecDepth 100000
namespace Ether

def one : Pk := (1, 2, ⟨#[120]⟩)
def fullP (i : Nat) : List Pk := List.replicate (min i 400) one
def fullL (i : Nat) : Int := if i < 400 then 0 else (i : Int) - 400
theorem full_len (i : Nat) : (fullP i).length = min i 400 := by simp [fullP]
theorem full_lo (i : Nat) (h : i < 400) : sendE (fullP i) one = 0 ∧ sendP (fullP i) one = fullP (i + 1) ∧ sendL (fullP i) (fullL i) one = fullL (i + 1) := by
  have e : sendE (fullP i) one = 0 := by
    unfold sendE
    rw [if_neg (by decide), full_len, if_neg (by omega)]
  refine ⟨e, ?_, ?_⟩
  · unfold sendP
    rw [if_pos e]
    unfold fullP
    rw [show min (i + 1) 400 = min i 400 + 1 by omega, List.replicate_succ']
  · unfold sendL
    rw [e, if_neg (by decide)]
    unfold fullL
    by_cases h9 : i + 1 < 400
    · rw [if_pos h, if_pos h9]
    · rw [if_pos h, if_neg h9]; omega
theorem full_hi (i : Nat) (h : 400 ≤ i) (hi : i ≤ 1000) : sendE (fullP i) one = 6 ∧ sendP (fullP i) one = fullP (i + 1) ∧ sendL (fullP i) (fullL i) one = fullL (i + 1) := by
  have e : sendE (fullP i) one = 6 := by
    unfold sendE
    rw [if_neg (by decide), full_len, if_pos (by omega)]
  refine ⟨e, ?_, ?_⟩
  · unfold sendP
    rw [e, if_neg (by decide)]
    unfold fullP
    rw [show min (i + 1) 400 = min i 400 by omega]
  · unfold sendL
    rw [if_pos e]
    unfold fullL
    rw [if_neg (by omega), if_neg (by omega)]
    omega

theorem law_full (m : Int) (k : Int) (w : World) (h0 : 0 ≤ m) (h1 : m ≤ 255) :
    Calls Try.prog 5 #[.int .u8 m, .int .i64 k] w fun e w' => e = .returned (.bool true) ∧ Below w.heap.size w w' := by
  obtain ⟨n, rfl⟩ := Int.eq_ofNat_of_zero_le h0
  go_enter Try.func5, Try.ntmps5
  go_wp2_with fail
  refine (new_any _).mono ?_
  rintro e w1 ⟨g, F1, rfl, hA1, hk1, hF1⟩
  have HA1 := Lib.hid hA1; clear hA1
  go_wp2_with fail
  go_loopw [7, 8] (fun v7 v8 wr => ∃ (i : Nat) (F : Nat → Prop), i ≤ 400 + n ∧ v7 = .int .i64 i ∧ EtherAt wr g F (fullP i) (fullL i) ∧ Has wr w1.heap.size 36 #[.int .i64 1, .int .i64 2, .string ⟨#[120]⟩] ∧ ¬ F w1.heap.size ∧ (∀ k, F k → w.heap.size ≤ k) ∧ Below w.heap.size w wr) (fun v7 _ _ => 400 + n - (intOf v7).toNat)
  case atStart =>
    refine ⟨0, F1, by omega, rfl, HA1.out.kept ((Kept.refl NoF _).alloc _) (fun _ _ x => x), Has.new _ _ _, fun x => by have := HA1.out.lt _ x; omega, hF1, ?_⟩
    exact ((hk1.below (Nat.le_refl _) (fun _ x => x.elim)).alloc hk1.size _)
  case round =>
    obtain ⟨i, F, hi, rfl, hA, hb, hnF, hF, hB⟩ := hrel
    have b0 : wr.cell? ⟨w1.heap.size, 0, none⟩ = some (.int .i64 1) := hb.cell 0
    have b1 : wr.cell? ⟨w1.heap.size, 1, none⟩ = some (.int .i64 2) := hb.cell 1
    have b2 : wr.cell? ⟨w1.heap.size, 2, none⟩ = some (.string ⟨#[120]⟩) := hb.cell 2
    have hsz := hB.size
    by_cases hlt : i < 400 + n
    · have hs := send_any hA (by unfold fullL; split <;> omega) (by unfold fullL; split <;> omega) one
      have HS := Lib.hid hs; clear hs
      have HA := Lib.hid hA; clear hA
      have HB := Lib.hid hb; clear hb
      by_cases h4 : i < 400
      · obtain ⟨q1, q2, q3⟩ := full_lo i h4
        rw [q1, q2, q3] at HS
        clear q1 q2 q3
        go_wp2_with fail
        refine HS.out.mono ?_
        rintro e w2 ⟨rfl, F2, hA2, hG2, hk2⟩
        have HA2 := Lib.hid hA2; clear hA2
        go_wp2_with fail
        go_roundw
        case rel => exact ⟨i + 1, F2, by omega, by go_num, HA2.out, HB.out.kept hk2 hnF, fun x => (by rcases hG2 _ x with y | y; exact hnF y; have := HB.out.lt; omega), hG2.above hF hsz, hB.trans (hk2.below hsz hF)⟩
        case measure => simp [intOf]; omega
      · obtain ⟨q1, q2, q3⟩ := full_hi i (by omega) (by omega)
        rw [q1, q2, q3] at HS
        clear q1 q2 q3
        go_wp2_with fail
        refine HS.out.mono ?_
        rintro e w2 ⟨rfl, F2, hA2, hG2, hk2⟩
        have HA2 := Lib.hid hA2; clear hA2
        go_wp2_with fail
        go_roundw
        case rel => exact ⟨i + 1, F2, by omega, by go_num, HA2.out, HB.out.kept hk2 hnF, fun x => (by rcases hG2 _ x with y | y; exact hnF y; have := HB.out.lt; omega), hG2.above hF hsz, hB.trans (hk2.below hsz hF)⟩
        case measure => simp [intOf]; omega
    · obtain rfl : i = 400 + n := by omega
      have hle := len_any hA
      have hlo := lost_any hA
      have hdo := double_full hA (by rw [full_len]; omega) k
      have e1 : ((fullP (400 + n)).length : Int) = 400 := by rw [full_len]; omega
      have e2 : fullL (400 + n) = n := by unfold fullL; rw [if_neg (by omega)]; omega
      rw [e1] at hle
      rw [e2] at hlo hdo
      have HLE := Lib.hid hle; clear hle
      have HLO := Lib.hid hlo; clear hlo
      have HDO := Lib.hid hdo; clear hdo hA hb e1 e2 b0 b1 b2
      go_wp2_with fail
      refine HLE.out.mono ?_
      rintro e w2 ⟨rfl, rfl⟩
      go_wp2_with fail
      refine HLO.out.mono ?_
      rintro e w2 ⟨rfl, rfl⟩
      go_wp2_with fail
      refine HDO.out.mono ?_
      rintro e w2 ⟨rfl, F2, hA2, hG2, hk2⟩
      go_wp2_with fail
      refine (awake_any _).mono ?_
      rintro e w3 ⟨rfl, hk3⟩
      go_wp2_with fail
      go_ret
      exact ⟨rfl, (hB.trans (hk2.below hsz hF)).trans (hk3.below (by have := hk2.size; omega) (fun _ x => x.elim))⟩
end Ether
end Go.Proofs.Ytploafhenmfmhaa

namespace Go.Proofs.Ytploafhenmfmhaa.etherFull
open Go.ChangeShapes Go.WideShapes Go.ChangeAt Go.RowKit
open Go.ChangeMaps (open_string shut_string)

theorem own : ownKnob Try.prog.godebug = none := by kernel_rfl
set_option maxRecDepth 100000 in
theorem contract (H : Type) (enc : TypeId × Value → H) (W : World) (base : Nat) (args : Array Value) (ds gs : List (DataW H)) (before : List MemPlace)
    (hval : ∀ (j : Nat) t v, Try.f5.params[j]? = some t → args[j]? = some v → Value.okWide Try.prog W .any base t v)
    (hW : DataW.Whole enc Try.prog Try.f5.params.toList Rows.etherFullSpec.vars false W args.toList ds gs before) :
    Calls Try.prog 5 args W fun e W' => ∃ v, e = .returned v ∧ Rows.etherFullSpec.post enc Try.prog Try.f5 false true false false W args v W' := by
  have hW' := hW
  obtain ⟨p, q, hA0, hV, rfl, hfz, hnd⟩ := hW
  have hA : DataW.TrodAll enc Try.prog W 0 (fun _ => true) true Try.f5.params.toList args.toList ds p := hA0
  rw [Try.params5] at hA hval
  obtain ⟨v0, vs0, d0, ds0, p0, q0, hargs, rfl, rfl, h0, r0⟩ := trodAll_cons hA
  obtain ⟨v1, vs1, d1, ds1, p1, q1, rfl, rfl, rfl, h1, r1⟩ := trodAll_cons r0
  obtain ⟨rfl, rfl, rfl⟩ := trodAll_nil r1
  obtain rfl : args = #[v0, v1] := by cases args; simp_all
  obtain ⟨rfl, rfl⟩ := trodVars_none hV
  obtain ⟨a0, rfl, rfl, rfl, w0⟩ := open_int Try.underlying5 (hval 0 5 v0 rfl rfl) h0
  obtain ⟨a1, rfl, rfl, rfl, w1⟩ := open_int Try.underlying3 (hval 1 3 v1 rfl rfl) h1
  clear hA0
  simp only [List.append_nil] at hW'
  have hx : 0 ≤ a0 ∧ a0 ≤ 255 := by simpa [Lit.wf, IntKind.min, IntKind.max, IntKind.signed, IntKind.bits] using w0
  refine (Ether.law_full a0 a1 W hx.1 hx.2).mono fun e W' ⟨he, hb⟩ => ?_
  subst he
  exact ⟨_, rfl, post_below (pv := []) hW' (fun _ _ _ => trodAll_cons_mk (shut_bool Try.underlying4 _) trodAll_mk0)
    (fun sp hsp => (trodAll_cons_mk (shut_int Try.underlying5 w0) (trodAll_cons_mk (shut_int Try.underlying3 w1) trodAll_mk0))) (fun _ _ => rfl) (by simp)
    hb (ok_one (by kernel_rfl) rfl (okWide_bool_mk Try.underlying4 _))⟩

set_option maxRecDepth 100000 in
theorem lifted (os : Os) (started : os.Started) (H : Type) (enc : TypeId × Value → H) :
    ReturnsInHanded {} Try.checked os 5 .any (Rows.etherFullSpec.pre6 enc Try.prog Try.f5 Rows.etherFullRow.domain false) (Rows.etherFullSpec.post enc Try.prog Try.f5 false true false false) := by
  refine returnsInHanded_of_change (C := Try.checked) own started (by kernel_rfl) Try.func5
    (ChangeSpec.witness6 (enc := enc) (C := Try.checked) false ⟨#[], #[.int .u8 0, .int .i64 0], []⟩ 8 (by kernel_rfl) (by kernel_rfl) (by kernel_rfl) (by kernel_rfl)) ?_
  intro W base args ds gs before hval hW _ _
  exact contract H enc W base args ds gs before hval hW

set_option maxRecDepth 100000 in
theorem proved : Rows.EtherFullSaid :=
  OpenClaim.holds_of_wide 5 Try.f5 rfl rfl rfl rfl rfl rfl rfl ⟨rfl, rfl, rfl, rfl, rfl⟩ rfl rfl rfl rfl rfl (by kernel_rfl) Try.func5 (by kernel_rfl)
    (of_decide_eq_true (by kernel_rfl)) (by unfold Func.isWrapper; first | (rw [if_pos (by decide +kernel)]; kernel_rfl) | (rw [if_neg (by decide +kernel)]; exact ⟨rfl, rfl⟩))
    (fun os started H enc _ => lifted os started H enc)
#print axioms proved
end Go.Proofs.Ytploafhenmfmhaa.etherFull
