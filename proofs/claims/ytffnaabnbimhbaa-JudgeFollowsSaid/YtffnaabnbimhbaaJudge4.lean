
/- Layer 38 computes at all. -/
import Derived.Test.YtffnaabnbimhbaaJudge3
set_option linter.unusedSimpArgs false
set_option linter.unusedVariables false
namespace Go.Proofs.Ytffnaabnbimhbaa
open Go.RowKit
set_option maxRecDepth 100000
namespace Ent
open Ops Vn
set_option maxHeartbeats 4000000 in
theorem readsF_any (w : World) (A B : Option Addr) (c d : Nat) (l : List EntR) (key : ByteArray) (hl : Src w 4 A l.length (ecells l)) (hlo : LOk w l) (hlen : l.length ≤ 1000) (htot : total l ≤ 1000)
    (hne : rowsL 1 (keyP key) (stateL l 7) ≠ []) (hd : Src w 16 B 1 (dv key).toList) :
    Calls Try.prog 9 #[.slice A l.length c, .slice B 1 d] w fun e w' => e = .returned (.tuple #[.int .i64 0, .int .i64 18]) ∧ Kept NoF w w' := by
  have hmf : ∀ (fn : Fn) (first cap : Array Value) (w : World), (Instr.makeFunc fn first cap).run Try.prog w = .ok (.func fn first cap) w := fun _ _ _ _ => rfl
  have hbx := Has.new w 41 #[.slice A l.length c]
  have hk0 : Kept NoF w (w.alloc (.cells #[.slice A l.length c] 41)) := by (repeat' (first | with_reducible exact Kept.refl _ _ | with_reducible refine Kept.put ?_ ?_ | with_reducible refine Kept.drewN ?_ _ | with_reducible refine Kept.drew ?_ | with_reducible refine Kept.alloc ?_ _ | (fail) | (right; simp; done)))
  have hr := fun W (hW : Kept NoF (w.alloc (.cells #[.slice A l.length c] 41)) W) => reads1_any W A c l w.heap.size key (hbx.kept hW (fun x => x)) (hl.kept (hk0.then hW) (fun _ _ x => x)) (hlo.kept (hk0.then hW)) hlen htot hne
  have hf := first1_any _ B d key w.heap.size (hd.kept hk0 (fun _ _ x => x)) hr
  have HF := Lib.hid hf; clear hf hr hbx hl hlo hlen htot hne hd
  have HK := Lib.hid hk0; clear hk0
  go_enter Try.func9, Try.ntmps9
  go_wp2_with fail
  refine HF.out.mono ?_
  rintro e w2 ⟨rfl, hk⟩
  have HK2 := Lib.hid (HK.out.then hk); clear hk
  go_wp2
  go_ret2
  exact ⟨rfl, HK2.out⟩
def L2 (A1 A2 : Option Addr) : List EntR := [⟨0, 1, A1, 1, [⟨⟨#[97]⟩, ⟨#[49]⟩, false⟩], 3⟩, ⟨0, 2, A2, 1, [⟨⟨#[97]⟩, ⟨#[50]⟩, false⟩], 7⟩]
theorem st5 (A1 A2 : Option Addr) : stateL (L2 A1 A2) 5 = [⟨⟨#[97]⟩, ⟨#[49]⟩⟩] := by
  have h : opsTo (L2 A1 A2) 5 = [⟨⟨#[97]⟩, ⟨#[49]⟩, false⟩] := rfl
  unfold stateL
  rw [h]
  decide +kernel
theorem st7 (A1 A2 : Option Addr) : stateL (L2 A1 A2) 7 = [⟨⟨#[97]⟩, ⟨#[50]⟩⟩] := by
  have h : opsTo (L2 A1 A2) 7 = [⟨⟨#[97]⟩, ⟨#[49]⟩, false⟩, ⟨⟨#[97]⟩, ⟨#[50]⟩, false⟩] := rfl
  unfold stateL
  rw [h]
  decide +kernel
theorem rw7 (A1 A2 : Option Addr) : rowsL 1 (keyP ⟨#[97]⟩) (stateL (L2 A1 A2) 7) ≠ [] := by
  rw [st7]
  decide +kernel
theorem L2_ok {W : World} {x y : Nat} (hx : Has W x 35 #[.string ⟨#[97]⟩, .string ⟨#[49]⟩, .bool false]) (hy : Has W y 35 #[.string ⟨#[97]⟩, .string ⟨#[50]⟩, .bool false]) : LOk W (L2 (some ⟨x, 0, none⟩) (some ⟨y, 0, none⟩)) := by
  intro e he
  have hm : ∀ k : ByteArray, k = ⟨#[97]⟩ ∨ k = ⟨#[49]⟩ ∨ k = ⟨#[50]⟩ → k.size ≤ maxLen := by rintro k (rfl | rfl | rfl) <;> decide
  rcases List.mem_cons.1 he with rfl | he
  · refine ⟨Src.of_has (t := 35) (m := 1) hx rfl, Nat.le_refl _, (by show 1 ≤ maxLen; decide), ?_, (by show (0 : Int) ≤ 3; decide), (by show (3 : Int) ≤ 18446744073709551615; decide), (by show 1 * 40 ≤ 140737488351232; decide)⟩
    intro o ho
    rcases List.mem_cons.1 ho with rfl | ho
    · exact ⟨hm _ (by simp), hm _ (by simp)⟩
    · cases ho
  · rcases List.mem_cons.1 he with rfl | he
    · refine ⟨Src.of_has (t := 35) (m := 1) hy rfl, Nat.le_refl _, (by show 1 ≤ maxLen; decide), ?_, (by show (0 : Int) ≤ 7; decide), (by show (7 : Int) ≤ 18446744073709551615; decide), (by show 1 * 40 ≤ 140737488351232; decide)⟩
      intro o ho
      rcases List.mem_cons.1 ho with rfl | ho
      · exact ⟨hm _ (by simp), hm _ (by simp)⟩
      · cases ho
    · cases he
set_option maxHeartbeats 4000000 in
theorem awake38_any (w : World) : Calls Try.prog 4 #[] w fun e w' => e = .returned (.bool true) ∧ Kept NoF w w' := by
  have hst : ∀ W x y z, Has W x 35 #[.string ⟨#[97]⟩, .string ⟨#[49]⟩, .bool false] → Has W y 35 #[.string ⟨#[97]⟩, .string ⟨#[50]⟩, .bool false] →
      Has W z 40 #[.int .i64 0, .int .i64 1, .slice (some ⟨x, 0, none⟩) 1 1, .int .u64 3, .int .i64 0, .int .i64 2, .slice (some ⟨y, 0, none⟩) 1 1, .int .u64 7] →
      Calls Try.prog 8 #[.slice (some ⟨z, 0, none⟩) 2 2, .int .u64 5] W fun e w' => ∃ A c, e = .returned (.slice A 1 c) ∧ Src w' 2 A 1 (pcells [⟨⟨#[97]⟩, ⟨#[49]⟩⟩]) ∧ Kept NoF W w' := by
    intro W x y z hx hy hz
    have h := state_any W (some ⟨z, 0, none⟩) 2 (L2 (some ⟨x, 0, none⟩) (some ⟨y, 0, none⟩)) 5 (Src.of_has (m := 2) hz rfl) (L2_ok hx hy) (by show 2 ≤ 1000; decide) (by show 2 ≤ 1000; decide)
    rw [st5] at h
    exact h.mono fun e w' ⟨A, c, h1, h2, h3⟩ => ⟨A, c, h1, Src.of_own h2.1, h3⟩
  have hrd : ∀ W x y z d, Has W x 35 #[.string ⟨#[97]⟩, .string ⟨#[49]⟩, .bool false] → Has W y 35 #[.string ⟨#[97]⟩, .string ⟨#[50]⟩, .bool false] →
      Has W z 40 #[.int .i64 0, .int .i64 1, .slice (some ⟨x, 0, none⟩) 1 1, .int .u64 3, .int .i64 0, .int .i64 2, .slice (some ⟨y, 0, none⟩) 1 1, .int .u64 7] → Has W d 51 (dv ⟨#[97]⟩) →
      Calls Try.prog 9 #[.slice (some ⟨z, 0, none⟩) 2 2, .slice (some ⟨d, 0, none⟩) 1 1] W fun e w' => e = .returned (.tuple #[.int .i64 0, .int .i64 18]) ∧ Kept NoF W w' := by
    intro W x y z d hx hy hz hd
    exact readsF_any W (some ⟨z, 0, none⟩) (some ⟨d, 0, none⟩) 2 1 (L2 (some ⟨x, 0, none⟩) (some ⟨y, 0, none⟩)) ⟨#[97]⟩ (Src.of_has (m := 2) hz rfl) (L2_ok hx hy) (by show 2 ≤ 1000; decide) (by show 2 ≤ 1000; decide) (rw7 _ _) (Src.of_has (m := 1) hd rfl)
  have HST := Lib.hid hst; clear hst
  have HRD := Lib.hid hrd; clear hrd
  dsimp only [dv] at HRD
  go_enter Try.func4, Try.ntmps4
  go_wp2_with fail
  refine (HST.out _ w.heap.size (w.heap.size + 1) (w.heap.size + 1 + 1) (((Has.new _ _ _).alloc _).alloc _) ((Has.new_at _ _ _ (by simp)).alloc _) (Has.new_at _ _ _ (by simp))).mono ?_
  rintro e w2 ⟨A, c, rfl, hs, hk⟩
  have hx := (((Has.new w 35 #[.string ⟨#[97]⟩, .string ⟨#[49]⟩, .bool false]).alloc _).alloc _).kept hk (fun x => x)
  have hy := ((Has.new_at (w.alloc (.cells #[.string ⟨#[97]⟩, .string ⟨#[49]⟩, .bool false] 35)) 35 #[.string ⟨#[97]⟩, .string ⟨#[50]⟩, .bool false] (g := w.heap.size + 1) (by simp)).alloc _).kept hk (fun x => x)
  have hz := (Has.new_at ((w.alloc (.cells #[.string ⟨#[97]⟩, .string ⟨#[49]⟩, .bool false] 35)).alloc (.cells #[.string ⟨#[97]⟩, .string ⟨#[50]⟩, .bool false] 35)) 40 #[.int .i64 0, .int .i64 1, .slice (some ⟨w.heap.size, 0, none⟩) 1 1, .int .u64 3, .int .i64 0, .int .i64 2, .slice (some ⟨w.heap.size + 1, 0, none⟩) 1 1, .int .u64 7] (g := w.heap.size + 1 + 1) (by simp)).kept hk (fun x => x)
  have hk2 := Kept.then (F := NoF) (a := w) (by (repeat' (first | with_reducible exact Kept.refl _ _ | with_reducible refine Kept.put ?_ ?_ | with_reducible refine Kept.drewN ?_ _ | with_reducible refine Kept.drew ?_ | with_reducible refine Kept.alloc ?_ _ | (fail) | (right; simp; done)))) hk
  have H2 := Lib.hid (And.intro hs (And.intro hx (And.intro hy (And.intro hz hk2)))); clear hs hx hy hz hk2 hk
  go_wp2_with fail
  refine (HRD.out _ w.heap.size (w.heap.size + 1) (w.heap.size + 1 + 1) w2.heap.size (H2.out.2.1.alloc _) (H2.out.2.2.1.alloc _) (H2.out.2.2.2.1.alloc _) (Has.new _ _ _)).mono ?_
  rintro e w3 ⟨rfl, hk⟩
  have hk3 := Kept.then (F := NoF) (a := w2) (by (repeat' (first | with_reducible exact Kept.refl _ _ | with_reducible refine Kept.put ?_ ?_ | with_reducible refine Kept.drewN ?_ _ | with_reducible refine Kept.drew ?_ | with_reducible refine Kept.alloc ?_ _ | (fail) | (right; simp; done)))) hk
  obtain ⟨ad, hA, hl1, q0, q1⟩ := pair_cells (H2.out.1.kept hk3 (fun _ _ x => x)) (by decide) 0 _ rfl
  subst hA
  have q1' : w3.cell? ⟨ad.block, ad.off + 1, none⟩ = some (.string ⟨#[49]⟩) := q1
  clear q0 q1
  have HK3 := Lib.hid (H2.out.2.2.2.2.then hk3); clear hk hk3
  go_wp2
  go_ret
  exact ⟨rfl, HK3.out⟩
end Ent
end Go.Proofs.Ytffnaabnbimhbaa
