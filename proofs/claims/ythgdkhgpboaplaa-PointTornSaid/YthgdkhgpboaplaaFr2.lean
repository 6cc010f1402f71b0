
/- The frame at a place. -/
import Derived.Test.YthgdkhgpboaplaaFr1
import Derived.Test.YthgdkhgpboaplaaRead1
import Derived.Deep.RegionHeld3
set_option linter.unusedSimpArgs false
set_option linter.unusedVariables false
namespace Go.Proofs.Ythgdkhgpboaplaa
open Go.RowKit
set_option maxRecDepth 100000
namespace Fr
open Vn Ops
inductive NextR
  | bad (e : Nat)
  | ok (t : List UInt8) (to : Nat)
def nextR (s : List UInt8) (i : Nat) : NextR :=
  match Vn.get s i with
  | .error e => .bad e
  | .ok (n, j) => if 65536 < n then .bad 3 else if s.length < j + (4 + n) then .bad 2 else
    if (s.drop j).take 4 = mkN (sumN ((s.drop i).take (j - i) ++ (s.drop (j + 4)).take n)) then .ok ((s.drop (j + 4)).take n) (j + 4 + n) else .bad 9
def nextT : NextR → Value
  | .bad e => .tuple #[.string ⟨#[]⟩, .int .i64 0, .int .i64 (e : Int)]
  | .ok t to => .tuple #[.string (ofL t), .int .i64 (to : Int), .int .i64 0]
theorem get_cases (s : List UInt8) (i : Nat) : (∃ e, Vn.get s i = .error e ∧ (e = 2 ∨ e = 4)) ∨ ∃ n j, Vn.get s i = .ok (n, j) := by
  unfold Vn.get
  split
  · exact .inl ⟨2, rfl, .inl rfl⟩
  · split
    · exact .inr ⟨_, _, rfl⟩
    · dsimp only
      split
      · exact .inl ⟨2, rfl, .inl rfl⟩
      · split
        · exact .inl ⟨4, rfl, .inr rfl⟩
        · exact .inr ⟨_, _, rfl⟩
theorem ext_drop (s : ByteArray) (a b : Nat) : (s.extract a b).data.toList = ((bl s).drop a).take (b - a) := by
  simp [bl, ByteArray.data_extract, List.extract_eq_take_drop]
theorem beq_bytes (p q : ByteArray) : (p.toList == q.toList) = decide (p = q) := by
  by_cases h : p = q
  · subst h; simp
  · have h2 : p.data.toList ≠ q.data.toList := fun e => h (ByteArray.ext (Array.toList_inj.1 e))
    rw [decide_eq_false h]
    rw [ByteArray.toList_eq, ByteArray.toList_eq, beq_eq_false_iff_ne]
    exact h2
set_option maxHeartbeats 4000000 in
theorem next_any (w : World) (s : ByteArray) (i : Nat) (hi : i ≤ s.size) (hs : s.size ≤ 1000000000) : Calls Try.prog 46 #[.string s, .int .i64 i] w fun e w' => e = .returned (nextT (nextR (bl s) i)) ∧ Kept NoF w w' := by
  have hg := fun W => vget_any s i hi (by unfold maxLen; omega) W
  unfold nextR
  rcases get_cases (bl s) i with ⟨e, he, h24⟩ | ⟨n, j, hnj⟩
  · rw [he]
    rw [he] at hg
    unfold getT at hg
    dsimp only at hg ⊢
    have HG := Lib.hid hg; clear hg he
    rcases h24 with rfl | rfl
    all_goals
      go_enter Try.func46, Try.ntmps46
      go_wp2_with fail
      refine (HG.out _).mono ?_
      rintro e w1 ⟨rfl, rfl⟩
      go_wp2
      go_ret3
      exact ⟨rfl, Kept.refl _ _⟩
  · rw [hnj]
    rw [hnj] at hg
    unfold getT at hg
    dsimp only at hg ⊢
    obtain ⟨hij, hjs, hn64, _⟩ := put_get hnj
    rw [size_bl] at hjs
    have HG := Lib.hid hg; clear hg hnj
    by_cases h1 : 65536 < n
    · rw [if_pos h1]
      have h1' : (65536 : Int) < (n : Int) := by omega
      clear h1
      go_enter Try.func46, Try.ntmps46
      go_wp2_with fail
      refine (HG.out _).mono ?_
      rintro e w1 ⟨rfl, rfl⟩
      go_wp2
      go_ret3
      exact ⟨rfl, Kept.refl _ _⟩
    rw [if_neg h1, size_bl]
    have h1' : ¬ (65536 : Int) < (n : Int) := by omega
    by_cases h2 : s.size < j + (4 + n)
    · rw [if_pos h2]
      have h2' : (s.size : Int) - (j : Int) < 4 + (n : Int) := by omega
      clear h1 h2
      go_enter Try.func46, Try.ntmps46
      go_wp2_with fail
      refine (HG.out _).mono ?_
      rintro e w1 ⟨rfl, rfl⟩
      go_wp2
      go_ret3
      exact ⟨rfl, Kept.refl _ _⟩
    rw [if_neg h2]
    have h2' : ¬ (s.size : Int) - (j : Int) < 4 + (n : Int) := by omega
    have hd1 := ext_drop s j (j + 4)
    have hd2 := ext_drop s i j
    have hd3 := ext_drop s (j + 4) (j + 4 + n)
    rw [show j + 4 - j = 4 by omega] at hd1
    rw [show j + 4 + n - (j + 4) = n by omega] at hd3
    have hsz2 : (s.extract i j).size = j - i := by rw [ByteArray.size_extract]; omega
    have hsz3 : (s.extract (j + 4) (j + 4 + n)).size = n := by rw [ByteArray.size_extract]; omega
    have hsum := fun W => sum_any W (s.extract i j ++ s.extract (j + 4) (j + 4 + n)) (by rw [ByteArray.size_append, hsz2, hsz3]; omega)
    rw [show (s.extract i j ++ s.extract (j + 4) (j + 4 + n)).data.toList = ((bl s).drop i).take (j - i) ++ ((bl s).drop (j + 4)).take n by rw [← hd2, ← hd3]; simp] at hsum
    have hmk := fun W => mark_any W (sumN (((bl s).drop i).take (j - i) ++ ((bl s).drop (j + 4)).take n)) (sumN_lt _)
    obtain ⟨S, hS⟩ : ∃ S, sumN (((bl s).drop i).take (j - i) ++ ((bl s).drop (j + 4)).take n) = S := ⟨_, rfl⟩
    simp only [hS] at hsum hmk
    rw [hS]
    have hcat : ¬ 9223372036854775807 < (s.extract i j).size + (s.extract (j + 4) (j + 4 + n)).size := by rw [hsz2, hsz3]; omega
    have ht : ofL (((bl s).drop (j + 4)).take n) = s.extract (j + 4) (j + 4 + n) := by rw [← hd3]; exact ofL_bl _
    have hcmp : ((bl s).drop j).take 4 = mkN S ↔ s.extract j (j + 4) = ofL (mkN S) := by
      rw [← hd1]
      constructor
      · intro h; rw [← h]; exact (ofL_bl _).symm
      · intro h; rw [h]; exact bl_ofL _
    have heq : ((s.extract j (j + 4)).toList == (ofL (mkN S)).toList) = decide (s.extract j (j + 4) = ofL (mkN S)) := beq_bytes _ _
    obtain ⟨v, hv⟩ : ∃ v, decide (s.extract j (j + 4) = ofL (mkN S)) = v := ⟨_, rfl⟩
    rw [hv] at heq
    have hres : nextT (if ((bl s).drop j).take 4 = mkN S then .ok (((bl s).drop (j + 4)).take n) (j + 4 + n) else .bad 9) = (if v = true then .tuple #[.string (s.extract (j + 4) (j + 4 + n)), .int .i64 ((j : Int) + 4 + n), .int .i64 0] else .tuple #[.string ⟨#[]⟩, .int .i64 0, .int .i64 9]) := by
      by_cases hc : s.extract j (j + 4) = ofL (mkN S)
      · rw [if_pos (hcmp.2 hc), ← hv, if_pos (decide_eq_true hc)]
        show Value.tuple #[.string (ofL (((bl s).drop (j + 4)).take n)), .int .i64 ((j + 4 + n : Nat) : Int), .int .i64 0] = _
        rw [ht, show ((j + 4 + n : Nat) : Int) = (j : Int) + 4 + n by omega]
      · rw [if_neg (fun h => hc (hcmp.1 h)), ← hv, if_neg (by rw [decide_eq_false hc]; decide)]
        rfl
    rw [hres]
    obtain ⟨E1, hE1⟩ : ∃ E1, s.extract i j = E1 := ⟨_, rfl⟩
    obtain ⟨E3, hE3⟩ : ∃ E3, s.extract (j + 4) (j + 4 + n) = E3 := ⟨_, rfl⟩
    rw [hE1, hE3] at hcat
    simp only [hE1, hE3] at hsum
    rw [hE3]
    have HS := Lib.hid hsum; have HM := Lib.hid hmk
    have HV := Lib.hid hv
    clear hsum hmk hres hcmp hv ht hd1 hd2 hd3 hS hsz2 hsz3 h1 h2
    have b1 : (j : Int) + 4 ≤ (s.size : Int) := by omega
    have b2 : (j : Int) + 4 + (n : Int) ≤ (s.size : Int) := by omega
    have b3 : ((j : Int) + 4).toNat = j + 4 := by omega
    have b4 : ((j : Int) + 4 + (n : Int)).toNat = j + 4 + n := by omega
    have b5 : (j : Int) ≤ (s.size : Int) := by omega
    have b6 : (i : Int) ≤ (j : Int) := by omega
    have b7 : (j : Int) ≤ (j : Int) + 4 := by omega
    have b8 : (j : Int) + 4 ≤ (j : Int) + 4 + (n : Int) := by omega
    have b9 : (0 : Int) ≤ (j : Int) + 4 := by omega
    have b10 : (0 : Int) ≤ (j : Int) + 4 + (n : Int) := by omega
    have b11 : (0 : Int) ≤ (j : Int) := by omega
    have b12 : (0 : Int) ≤ (i : Int) := by omega
    go_enter Try.func46, Try.ntmps46
    go_wp2_with fail
    refine (HG.out _).mono ?_
    rintro e w1 ⟨rfl, rfl⟩
    go_wp2_with fail
    have HW := Lib.hid (Kept.refl NoF w)
    go_region_held3 (fun _ => True) (trivial)
      (first
        | (go_at_call 62; ((with_reducible refine (HS.out _).mono ?_); rintro e w2 ⟨rfl, hk0⟩; have hk := Kept.then (F := NoF) (a := w) (by (repeat' (first | with_reducible exact Kept.refl _ _ | with_reducible refine Kept.put ?_ ?_ | with_reducible refine Kept.drewN ?_ _ | with_reducible refine Kept.drew ?_ | with_reducible refine Kept.alloc ?_ _ | (exact HW.out) | (right; simp; done)))) hk0; clear HW hk0; have HW := Lib.hid hk; clear hk))
        | (go_at_call 61; ((with_reducible refine (HM.out _).mono ?_); rintro e w3 ⟨rfl, hk0⟩; have hk := Kept.then (F := NoF) (a := w) (by (repeat' (first | with_reducible exact Kept.refl _ _ | with_reducible refine Kept.put ?_ ?_ | with_reducible refine Kept.drewN ?_ _ | with_reducible refine Kept.drew ?_ | with_reducible refine Kept.alloc ?_ _ | (exact HW.out) | (right; simp; done)))) hk0; clear HW hk0; have HW := Lib.hid hk; clear hk)))
    all_goals
      cases v
      all_goals
        go_wp2
        go_ret3
        refine ⟨?_, HW.out⟩
        first | rfl | (rw [if_neg (by decide)]; rfl) | (rw [if_pos rfl]; rfl)
end Fr
end Go.Proofs.Ythgdkhgpboaplaa
