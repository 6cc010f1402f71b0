/- lease's Free. -/
import Derived.Test.YtolipnnjeehnfaaMst12
import Derived.Test.YtolipnnjeehnfaaDel
set_option linter.unusedSimpArgs false
set_option linter.unusedVariables false
namespace Go.Proofs.Ytolipnnjeehnfaa
open Go.RowKit
set_option maxRecDepth 100000
namespace Mst
open Plan Vn
/-- One is gone. -/
def freed (l : List PinR) (id : Int) : List PinR := if pinAt l id < 0 then l else l.eraseIdx (pinAt l id).toNat
def FreePost (w : World) (l : List PinR) (id : Int) (e : Ending) (w' : World) : Prop :=
  (pinAt l id < 0 ∧ e = .returned (.tuple #[.slice none 0 0, .int .i64 7]) ∧ Kept NoF w w') ∨
  (0 ≤ pinAt l id ∧ ∃ A c, e = .returned (.tuple #[.slice A (freed l id).length c, .int .i64 0]) ∧ NewSl 44 3 w.heap.size w' A (freed l id).length c (pcells (freed l id)) ∧ Kept NoF w w')
set_option maxHeartbeats 4000000 in
theorem free_any (w : World) (A : Option Addr) (c : Nat) (l : List PinR) (id : Int) (hl : Src w 3 A l.length (pcells l)) (hlen : l.length ≤ 1000000) :
    Calls Try.prog 28 #[.slice A l.length c, .int .i64 id] w (FreePost w l id) := by
  have hf := fun W (hW : Kept NoF w W) (b : Nat) (hb : Has W b 3 #[.int .i64 id]) => find_any W A c l b id hb (hl.kept hW (fun _ _ z => z)) hlen
  have hwh := whose_any w id
  rcases pinAt_cases l id with h1 | ⟨k, x, h1, hx, hid⟩
  · rw [h1] at hf
    have hP : ∀ w', Kept NoF w w' → FreePost w l id (.returned (.tuple #[.slice none 0 0, .int .i64 7])) w' := fun w' hk => .inl ⟨by omega, rfl, hk⟩
    have HF := Lib.hid hf; have HP := Lib.hid hP; have HWH := Lib.hid hwh
    clear hf hP hwh hl h1
    go_enter Try.func28, Try.ntmps28
    go_wp2_with fail
    refine HWH.out.mono ?_
    rintro e w1 ⟨rfl, rfl⟩
    go_wp2_with fail
    refine (HF.out _ (by (repeat' (first | with_reducible exact Kept.refl _ _ | with_reducible refine Kept.put ?_ ?_ | with_reducible refine Kept.drewN ?_ _ | with_reducible refine Kept.drew ?_ | with_reducible refine Kept.alloc ?_ _ | (fail) | (right; simp; done)))) w.heap.size (Has.new w 3 #[.int .i64 id])).mono ?_
    rintro e w2 ⟨rfl, hk⟩
    have hk2 := Kept.then (F := NoF) (a := w) (by (repeat' (first | with_reducible exact Kept.refl _ _ | with_reducible refine Kept.put ?_ ?_ | with_reducible refine Kept.drewN ?_ _ | with_reducible refine Kept.drew ?_ | with_reducible refine Kept.alloc ?_ _ | (fail) | (right; simp; done)))) hk
    have HK := Lib.hid hk2; clear hk hk2
    go_wp2
    go_ret2
    exact HP.out _ HK.out
  · rw [h1] at hf
    have hkl : k < l.length := (List.getElem?_eq_some_iff.1 hx).1
    have hcl := fun W (hW : Kept NoF w W) => clonePin_any W A c l (hl.kept hW (fun _ _ z => z)) hlen
    have hP : ∀ w' A c, NewSl 44 3 w.heap.size w' A (l.length - 1) c (pcells (l.eraseIdx k)) → Kept NoF w w' → FreePost w l id (.returned (.tuple #[.slice A ((l.length - 1 : Nat)) c, .int .i64 0])) w' := fun w' A c hn hk => by
      have e1 : freed l id = l.eraseIdx k := by unfold freed; rw [h1, Int.toNat_natCast, if_neg (by omega)]
      have e2 : (freed l id).length = l.length - 1 := by rw [e1, List.length_eraseIdx_of_lt hkl]
      refine .inr ⟨by omega, A, c, ?_, ?_, hk⟩
      · rw [e2]
      · rw [e2, e1]; exact hn
    have hj : ∀ W g c, _ → _ := fun W g c h => delPin_any W g c k (k + 1) rfl l h hkl hlen
    have hcast : ((k + 1 : Nat) : Int) = (k : Int) + 1 := by omega
    rw [hcast] at hj
    have hw1 : IntKind.i64.wrap ((k : Int) + 1) = (k : Int) + 1 := IntWalk.i64_in _ (by omega)
    have HF := Lib.hid hf; have HP := Lib.hid hP; have HWH := Lib.hid hwh; have HC := Lib.hid hcl; have HJ := Lib.hid hj
    clear hf hP hwh hl h1 hcl hx hid hj hcast
    have b0 : (0 : Int) ≤ (k : Int) := by omega
    go_enter Try.func28, Try.ntmps28
    go_wp2_with fail
    refine HWH.out.mono ?_
    rintro e w1 ⟨rfl, rfl⟩
    go_wp2_with fail
    refine (HF.out _ (by (repeat' (first | with_reducible exact Kept.refl _ _ | with_reducible refine Kept.put ?_ ?_ | with_reducible refine Kept.drewN ?_ _ | with_reducible refine Kept.drew ?_ | with_reducible refine Kept.alloc ?_ _ | (fail) | (right; simp; done)))) w.heap.size (Has.new w 3 #[.int .i64 id])).mono ?_
    rintro e w2 ⟨rfl, hk⟩
    have hk2 := Kept.then (F := NoF) (a := w) (by (repeat' (first | with_reducible exact Kept.refl _ _ | with_reducible refine Kept.put ?_ ?_ | with_reducible refine Kept.drewN ?_ _ | with_reducible refine Kept.drew ?_ | with_reducible refine Kept.alloc ?_ _ | (fail) | (right; simp; done)))) hk
    have HK := Lib.hid hk2; clear hk hk2
    go_wp2_with fail
    refine (HC.out _ HK.out).mono ?_
    rintro e w3 ⟨A1, c1, rfl, hn, hk⟩
    have HK3 := Lib.hid (And.intro (HK.out.then hk) HK.out.size); clear HK hk
    obtain ⟨rb, cap, hv, _, hrl⟩ := hn.1.form (by omega)
    injection hv with hA _ hC
    subst hA
    subst hC
    have HN := Lib.hid hn; clear hn
    go_wp2_with fail
    refine (HJ.out _ _ _ HN.out.1).mono ?_
    rintro e w4 ⟨rfl, ho, hk⟩
    have HO := Lib.hid (And.intro ho hk); clear ho hk
    have hrb : w.heap.size ≤ rb := by have h1 := HN.out.2 rb rfl; have h2 := HK3.out.2; omega
    go_wp2
    go_ret2
    exact HP.out _ _ _ ⟨HO.out.1, fun g hg => by obtain rfl : rb = g := by simpa [Value.ownBlock] using hg
                                                 exact hrb⟩ (HK3.out.1.trans HO.out.2 (fun i hi => .inr (by subst hi; exact hrb)))
end Mst
end Go.Proofs.Ytolipnnjeehnfaa
