/- conf's Check. -/
import Derived.Test.YtolipnnjeehnfaaMst2
import Derived.Deep.RegionHeld3
set_option linter.unusedSimpArgs false
set_option linter.unusedVariables false
namespace Go.Proofs.Ytolipnnjeehnfaa
open Go.RowKit
set_option maxRecDepth 100000
namespace Mst
open Plan
theorem mcells_take (l : List Mem) (k : Nat) : (mcells l).take (k * 2) = mcells (l.take k) := by
  induction l generalizing k with
  | nil => cases k <;> rfl
  | cons m l ih =>
    cases k with
    | zero => rfl
    | succ k =>
      rw [show (k + 1) * 2 = k * 2 + 2 by omega, List.take_succ_cons]
      show List.take (k * 2 + 2) (.int .i64 m.1 :: .int .i64 m.2 :: mcells l) = .int .i64 m.1 :: .int .i64 m.2 :: mcells (l.take k)
      rw [List.take_succ_cons, List.take_succ_cons, ih]
theorem Src.takeM {w : World} {A : Option Addr} {l : List Mem} (h : Src w 2 A l.length (mcells l)) {k : Nat} (hk : k ≤ l.length) : Src w 2 A (l.take k).length (mcells (l.take k)) := by
  have h1 := h.take hk
  rw [mcells_take] at h1
  rwa [List.length_take, Nat.min_eq_left hk]
set_option maxHeartbeats 8000000 in
theorem ccheck_any (w : World) (ep fl : Int) (A : Option Addr) (c : Nat) (l : List Mem) (hl : Src w 2 A l.length (mcells l)) (hlc : l.length ≤ c) (hlen : l.length ≤ 1000000) :
    Calls Try.prog 44 #[cagg ep A l.length c fl] w fun e w' => e = .returned (.int .i64 (chk ep l)) ∧ Kept NoF w w' := by
  have HL := Lib.hid hl; clear hl
  by_cases h1 : ep < 1
  · have hr : chk ep l = 5 := by unfold chk; rw [if_pos (.inl h1)]
    have HR := Lib.hid hr; clear hr
    go_enter Try.func44, Try.ntmps44
    go_wp2
    go_ret
    exact ⟨by rw [HR.out]; rfl, (Kept.refl _ _).alloc _⟩
  by_cases h2 : 1073741824 < ep
  · have hr : chk ep l = 5 := by unfold chk; rw [if_pos (.inr h2)]
    have HR := Lib.hid hr; clear hr
    go_enter Try.func44, Try.ntmps44
    go_wp2
    go_ret
    exact ⟨by rw [HR.out]; rfl, (Kept.refl _ _).alloc _⟩
  by_cases h3 : l.length = 0
  · have hr : chk ep l = 7 := by unfold chk; rw [if_neg (by omega), if_pos h3]
    have HR := Lib.hid hr; clear hr
    rw [h3]
    clear h3
    go_enter Try.func44, Try.ntmps44
    go_wp2
    go_ret
    exact ⟨by rw [HR.out]; rfl, (Kept.refl _ _).alloc _⟩
  have h3' : ((l.length : Int) == 0) = false := by rw [beq_eq_false_iff_ne]; omega
  by_cases h4 : 4 < l.length
  · have hr : chk ep l = 6 := by unfold chk; rw [if_neg (by omega), if_neg h3, if_pos h4]
    have HR := Lib.hid hr; clear hr
    have h4' : (4 : Int) < l.length := by omega
    clear h3
    go_enter Try.func44, Try.ntmps44
    go_wp2
    go_ret
    exact ⟨by rw [HR.out]; rfl, (Kept.refl _ _).alloc _⟩
  have hr : chk ep l = chkFrom (l.take 0) (l.drop 0) := by unfold chk; rw [if_neg (by omega), if_neg h3, if_neg h4]; rfl
  have HR := Lib.hid hr; clear hr
  have h4' : ¬ (4 : Int) < l.length := by omega
  have hnew := Has.new w 31 #[.int .i64 ep, .slice A l.length c, .int .u64 fl]
  have HN := Lib.hid hnew; clear hnew
  clear h3 h4
  go_enter Try.func44, Try.ntmps44
  go_wp2_with fail
  go_loopw [3, 4, 5, 28] (fun _ _ _ v28 wr => ∃ i : Nat, i ≤ l.length ∧ v28 = .int .i64 i ∧ Has wr w.heap.size 31 #[.int .i64 ep, .slice A l.length c, .int .u64 fl] ∧ Kept NoF w wr ∧ chk ep l = chkFrom (l.take i) (l.drop i)) (fun _ _ _ v28 _ => l.length - (intOf v28).toNat)
  case atStart => exact ⟨0, Nat.zero_le _, rfl, HN.out, (Kept.refl _ _).alloc _, HR.out⟩
  case round =>
    obtain ⟨i, hi, rfl, hh, hk, he⟩ := hrel
    have hlt0 := hh.lt
    have hsz := hk.size
    have e0 : wr.cell? ⟨w.heap.size, 1, none⟩ = some (.slice A l.length c) := hh.cell 1
    have HH := Lib.hid hh; clear hh
    have HK := Lib.hid hk; clear hk
    have HE := Lib.hid he; clear he
    by_cases hil : i < l.length
    · obtain ⟨m, hm⟩ : ∃ m, l[i]? = some m := ⟨_, List.getElem?_eq_getElem hil⟩
      obtain ⟨ad, hA, had, d0, d1⟩ := mem_cells (HL.out.kept HK.out (fun _ _ x => x)) (by omega) i m hm
      subst hA
      have hone := fun W (hW : Kept NoF wr W) => one_any W m (some ad) c (l.take i) (Src.takeM (HL.out.kept (HK.out.then hW) (fun _ _ x => x)) hi) (by rw [List.length_take]; omega)
      rw [show (l.take i).length = i by rw [List.length_take]; omega] at hone
      obtain ⟨t, ht⟩ : ∃ t, oneE m (l.take i) = t := ⟨_, rfl⟩
      rw [ht] at hone
      have HM := Lib.hid (And.intro hm ht); clear hm ht
      have HO := Lib.hid hone; clear hone
      have b0 : (0 : Int) ≤ (i : Int) := by omega
      have b1 : (i : Int) ≤ (c : Int) := by omega
      have b2 : i ≤ c := by omega
      obtain ⟨m1, m2⟩ := m
      dsimp only [magg] at d0 d1 HO
      have q0 : (wr.alloc (.cells #[.int .i64 m1, .int .i64 m2] 86)).cell? ⟨wr.heap.size, 0, none⟩ = some (.int .i64 m1) := (Has.new wr 86 #[.int .i64 m1, .int .i64 m2]).cell 0
      have q1 : (wr.alloc (.cells #[.int .i64 m1, .int .i64 m2] 86)).cell? ⟨wr.heap.size, 1, none⟩ = some (.int .i64 m2) := (Has.new wr 86 #[.int .i64 m1, .int .i64 m2]).cell 1
      have q2 : (wr.alloc (.cells #[.int .i64 m1, .int .i64 m2] 86)).cell? ⟨w.heap.size, 1, none⟩ = some (.slice (some ad) l.length c) := (HH.out.alloc _).cell 1
      have hq : ∀ W, Kept NoF (wr.alloc (.cells #[.int .i64 m1, .int .i64 m2] 86)) W → W.cell? ⟨wr.heap.size, 0, none⟩ = some (.int .i64 m1) ∧ W.cell? ⟨wr.heap.size, 1, none⟩ = some (.int .i64 m2) ∧ W.cell? ⟨w.heap.size, 1, none⟩ = some (.slice (some ad) l.length c) := fun W hW =>
        ⟨((Has.new wr 86 #[.int .i64 m1, .int .i64 m2]).kept hW (fun z => z)).cell 0, ((Has.new wr 86 #[.int .i64 m1, .int .i64 m2]).kept hW (fun z => z)).cell 1, ((HH.out.alloc _).kept hW (fun z => z)).cell 1⟩
      have HQ := Lib.hid hq; clear hq
      go_wp2_with fail
      go_region_held3 (fun W => W.cell? ⟨wr.heap.size, 0, none⟩ = some (.int .i64 m1) ∧ W.cell? ⟨wr.heap.size, 1, none⟩ = some (.int .i64 m2) ∧ W.cell? ⟨w.heap.size, 1, none⟩ = some (.slice (some ad) l.length c))
        (first | with_reducible exact q3 | (refine HQ.out _ ?_; (repeat' (first | with_reducible exact Kept.refl _ _ | with_reducible refine Kept.put ?_ ?_ | with_reducible refine Kept.drewN ?_ _ | with_reducible refine Kept.drew ?_ | with_reducible refine Kept.alloc ?_ _ | (fail) | (right; simp; done)))))
        (first | (go_at_call 67; refine (HO.out _ (by (repeat' (first | with_reducible exact Kept.refl _ _ | with_reducible refine Kept.put ?_ ?_ | with_reducible refine Kept.drewN ?_ _ | with_reducible refine Kept.drew ?_ | with_reducible refine Kept.alloc ?_ _ | (fail) | (right; simp; done))))).mono ?_; rintro e w5 ⟨rfl, hk0⟩; have q3 := HQ.out w5 (Kept.then (by (repeat' (first | with_reducible exact Kept.refl _ _ | with_reducible refine Kept.put ?_ ?_ | with_reducible refine Kept.drewN ?_ _ | with_reducible refine Kept.drew ?_ | with_reducible refine Kept.alloc ?_ _ | (fail) | (right; simp; done)))) hk0); have hk5 := Kept.then (F := NoF) (a := wr) (by (repeat' (first | with_reducible exact Kept.refl _ _ | with_reducible refine Kept.put ?_ ?_ | with_reducible refine Kept.drewN ?_ _ | with_reducible refine Kept.drew ?_ | with_reducible refine Kept.alloc ?_ _ | (fail) | (right; simp; done)))) hk0; clear hk0; have HK5 := Lib.hid hk5; clear hk5))
      clear q0 q1 q2 d0 d1 HQ HO had
      by_cases ht0 : t = 0
      · have ht1 : (t != 0) = false := by simp [ht0]
        have hs := HE.out.trans (chkFrom_step HM.out.1 (HM.out.2.trans ht0))
        have HS := Lib.hid hs; clear hs ht0
        go_wp2
        go_roundw
        case rel => exact ⟨i + 1, by omega, by go_num, HH.out.kept HK5.out (fun z => z), HK.out.then HK5.out, HS.out⟩
        case measure => simp [intOf]; omega
      · have ht1 : (t != 0) = true := by simpa using ht0
        have hs := HE.out.trans ((chkFrom_stop HM.out.1 (by rw [HM.out.2]; exact ht0)).trans HM.out.2)
        have HS := Lib.hid hs; clear hs ht0
        go_wp2
        go_ret
        exact ⟨by rw [HS.out]; rfl, HK.out.then HK5.out⟩
    · obtain rfl : i = l.length := by omega
      have hr : chk ep l = 0 := by rw [HE.out, List.drop_length]; rfl
      have HR := Lib.hid hr; clear hr
      go_wp2
      go_ret
      exact ⟨by rw [HR.out]; rfl, HK.out⟩
end Mst
end Go.Proofs.Ytolipnnjeehnfaa
