
/- The checkpointed log: its small functions. -/
import Derived.Test.YthgdkhgpboaplaaWal4
import Derived.Test.YthgdkhgpboaplaaRevLay
set_option linter.unusedSimpArgs false
set_option linter.unusedVariables false
namespace Go.Proofs.Ythgdkhgpboaplaa
open Go.RowKit
set_option maxRecDepth 100000
namespace Pt
open Disk Fr Vn Ops Wl
/-- How many texts a first text tells. -/
def cntR (t : List UInt8) : Option Nat := if t.head? = some 80 then (match get t 1 with | .ok (n, j) => if j = t.length ∧ n ≤ 1073741824 then some n else none | .error _ => none) else none
def cntT (o : Option Nat) : Value := .tuple #[.int .i64 (o.getD 0 : Nat), .bool o.isSome]
theorem empty_size (s : ByteArray) : (s.toList == []) = decide (s.size = 0) := by
  rw [ByteArray.toList_eq, ← size_bl]
  cases h : bl s <;> simp [h]
theorem head_bl (s : ByteArray) (h : 0 < s.size) : (bl s).head? = some s[0] := by
  have h2 : 0 < (bl s).length := by rw [size_bl]; exact h
  rw [List.head?_eq_getElem?, List.getElem?_eq_getElem h2]
  rfl
set_option maxHeartbeats 2000000 in
theorem count_any (w : World) (s : ByteArray) (hs : s.size ≤ 1000000000) : Calls Try.prog 47 #[.string s] w fun e w' => e = .returned (cntT (cntR (bl s))) ∧ w = w' := by
  have he := empty_size s
  by_cases hz : s.size = 0
  · rw [decide_eq_true hz] at he
    have hc : cntR (bl s) = none := by
      have : bl s = [] := List.eq_nil_of_length_eq_zero (by rw [size_bl]; exact hz)
      rw [this]; rfl
    rw [hc]
    clear hc hz
    go_enter Try.func47, Try.ntmps47
    go_wp2
    go_ret2
    exact ⟨rfl, rfl⟩
  · rw [decide_eq_false hz] at he
    have hpos : 0 < s.size := by omega
    have hhd := head_bl s hpos
    have hlt : s[0].toNat < 256 := UInt8.toNat_lt _
    by_cases h80 : s[0] = 80
    · have hq : ((s[0].toNat : Int) == 80) = true := by rw [h80]; rfl
      have hq2 : ((s[0].toNat : Int) != 80) = false := by rw [h80]; rfl
      have hg := vget_any s 1 (by omega) (by unfold maxLen; omega) w
      have hc : cntR (bl s) = (match get (bl s) 1 with | .ok (n, j) => if j = s.size ∧ n ≤ 1073741824 then some n else none | .error _ => none) := by
        unfold cntR
        rw [hhd, h80, if_pos rfl, size_bl]
      rw [hc]
      rcases get_cases (bl s) 1 with ⟨e, hge, h24⟩ | ⟨n, j, hgo⟩
      · rw [hge]
        rw [hge] at hg
        unfold getT at hg
        dsimp only at hg ⊢
        have hne : ((e : Int) != 0) = true := by rcases h24 with rfl | rfl <;> rfl
        have HG := Lib.hid hg
        clear hg hc hhd hge h24 h80
        go_enter Try.func47, Try.ntmps47
        go_wp2_with fail
        refine HG.out.mono ?_
        rintro e' w' ⟨rfl, rfl⟩
        go_wp2
        go_ret2
        exact ⟨rfl, rfl⟩
      · rw [hgo]
        rw [hgo] at hg
        unfold getT at hg
        dsimp only at hg ⊢
        obtain ⟨hj1, hj2, hj3⟩ := put_get hgo
        rw [size_bl] at hj2
        have HG := Lib.hid hg
        clear hg hc hhd hgo h80
        by_cases hjs : j = s.size
        · by_cases hn : n ≤ 1073741824
          · rw [if_pos ⟨hjs, hn⟩]
            subst hjs
            have hn' : ¬ (1073741824 : Int) < (n : Int) := by omega
            go_enter Try.func47, Try.ntmps47
            go_wp2_with fail
            refine HG.out.mono ?_
            rintro e' w' ⟨rfl, rfl⟩
            go_wp2
            go_ret2
            exact ⟨rfl, rfl⟩
          · rw [if_neg (fun h => hn h.2)]
            subst hjs
            have hn' : (1073741824 : Int) < (n : Int) := by omega
            go_enter Try.func47, Try.ntmps47
            go_wp2_with fail
            refine HG.out.mono ?_
            rintro e' w' ⟨rfl, rfl⟩
            go_wp2
            go_ret2
            exact ⟨rfl, rfl⟩
        · rw [if_neg (fun h => hjs h.1)]
          have hjn : ((j : Int) != (s.size : Int)) = true := by simp; omega
          clear hjs
          go_enter Try.func47, Try.ntmps47
          go_wp2_with fail
          refine HG.out.mono ?_
          rintro e' w' ⟨rfl, rfl⟩
          go_wp2
          go_ret2
          exact ⟨rfl, rfl⟩
    · have hn80 : s[0].toNat ≠ 80 := fun h => h80 (UInt8.toNat_inj.1 (by rw [h]; rfl))
      have hq2 : ((s[0].toNat : Int) != 80) = true := by simp; omega
      have hc : cntR (bl s) = none := by
        unfold cntR
        rw [hhd, if_neg (fun h => h80 (by injection h))]
      rw [hc]
      clear hc hhd h80 hn80
      go_enter Try.func47, Try.ntmps47
      go_wp2
      go_ret2
      exact ⟨rfl, rfl⟩
end Pt
end Go.Proofs.Ythgdkhgpboaplaa
