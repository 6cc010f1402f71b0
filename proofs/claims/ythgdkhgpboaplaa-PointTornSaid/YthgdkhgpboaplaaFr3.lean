
/- All frames of a text, one by one. -/
import Derived.Test.YthgdkhgpboaplaaFr2
import Derived.RangeFuncNested
import Derived.RangeFuncBound
import Derived.RangeFuncCalls
import Derived.RangeFuncLeaves
import Derived.RangeFuncBox
import Derived.Shelf.Abstract
import Derived.Shelf.RegionOpen
import Derived.OwnWalkIn
import Derived.TacticsInMore
import Derived.LoopNIn
import Derived.LoopIn
import Derived.ScopeJumps
import Derived.WalkMore
set_option linter.unusedSimpArgs false
set_option linter.unusedVariables false
namespace Go.Proofs.Ythgdkhgpboaplaa
open Go.RowKit Go.Shelf
attribute [local go_sem] Oper.semAt_some
set_option maxRecDepth 100000
namespace Fr
open Vn Ops
/-- Every frame up to the first that is none. -/
def framesF (s : List UInt8) : Nat → Nat → List NextR
  | 0, _ => []
  | fuel + 1, i => if s.length ≤ i then [] else match nextR s i with
    | .bad e => [.bad e]
    | .ok t to => .ok t to :: framesF s fuel to
def framesL (s : List UInt8) : List NextR := framesF s (s.length + 1) 0
theorem nextR_to {s : List UInt8} {i to : Nat} {t : List UInt8} (h : nextR s i = .ok t to) : i < to ∧ to ≤ s.length := by
  unfold nextR at h
  rcases get_cases s i with ⟨e, he, _⟩ | ⟨n, j, hj⟩
  · rw [he] at h; cases h
  · rw [hj] at h
    obtain ⟨h1, h2, _⟩ := put_get hj
    dsimp only at h
    split at h
    · cases h
    · split at h
      · cases h
      · split at h
        · injection h with h3 h4
          omega
        · cases h
/-- An error's number as it is handed on: it is never 0. -/
def codeE (e : Nat) : Nat := if e = 0 then 2 else e
theorem codeE_ne (e : Nat) : codeE e ≠ 0 := by unfold codeE; split <;> omega
theorem codeE_eq {e : Nat} (h : e ≠ 0) : codeE e = e := if_neg h
def nextA : NextR → Value
  | .bad e => .agg #[.string ⟨#[]⟩, .int .i64 0, .int .i64 (codeE e : Int)]
  | .ok t to => .agg #[.string (ofL t), .int .i64 (to : Int), .int .i64 0]
theorem wpIn_scope_jumps_wide {n : Nat} {P : Program} {a : Act} {w : World} {Q : Exit → Act → World → Prop} {c rest : Code} (l : Nat) (J : Act → World → Prop) (μ : Act → World → Nat) (hf : findLabel c l = some rest)
    (first : c.wpIn Fence.wide n P (Exit.jump l J Q) a w)
    (pass : ∀ a w, J a w → rest.wpIn Fence.wide n P (Exit.jump l (fun a' w' => J a' w' ∧ μ a' w' < μ a w) Q) a w) : (Code.scope c).wpIn Fence.wide n P Q a w :=
  wpIn_wide.2 (wp_scope_jumps l J μ hf (wpIn_wide.1 first) fun a w h => wpIn_wide.1 (pass a w h))
theorem jump_ret {l : Nat} {J : Act → World → Prop} {Q : Exit → Act → World → Prop} {a : Act} {w : World} : Exit.jump l J Q .ret a w = Q .ret a w := rfl
def slot3 (a : Act) : Int := intOf (a.tmps.getD 3 undef)
/-- The box Bn is as it was. -/
structure KB (Bn : Nat) (A B : World) : Prop where
  size : A.heap.size ≤ B.heap.size
  block : Bn < A.heap.size → B.heap[Bn]? = A.heap[Bn]?
theorem KB.refl (Bn : Nat) (A : World) : KB Bn A A := ⟨Nat.le_refl _, fun _ => rfl⟩
theorem KB.trans {Bn : Nat} {A B C : World} (h : KB Bn A B) (k : KB Bn B C) : KB Bn A C := ⟨Nat.le_trans h.size k.size, fun hl => (k.block (Nat.lt_of_lt_of_le hl h.size)).trans (h.block hl)⟩
theorem KB.of_kept {Bn : Nat} {A B : World} (h : Kept NoF A B) : KB Bn A B := ⟨h.size, fun hl => h.block Bn hl (fun z => z)⟩
theorem KB.cell {Bn : Nat} {A B : World} (h : KB Bn A B) (hl : Bn < A.heap.size) (i : Nat) : B.cell? ⟨Bn, i, none⟩ = A.cell? ⟨Bn, i, none⟩ := World.cell?_of_block (h.block hl)
theorem KB.put {Bn : Nat} {w : World} (hl : Bn < w.heap.size) (W : World) (l : Nat) (o o' : Obj) (h : w.heap.size ≤ l) (_ : W.heap[l]? = some o) (_ : o.isCells = false) (_ : o.isWalk = false) : KB Bn W (W.putObj l o') :=
  ⟨Nat.le_of_eq (by simp [World.putObj]), fun _ => World.putObj_heap_other (by omega)⟩
theorem nextR_bad {s : List UInt8} {i e : Nat} (h : nextR s i = .bad e) : e ≠ 0 := by
  unfold nextR at h
  rcases get_cases s i with ⟨e', he, h24⟩ | ⟨n, j, hj⟩
  · rw [he] at h
    injection h with h
    omega
  · rw [hj] at h
    dsimp only at h
    split at h
    · injection h with h; omega
    · split at h
      · injection h with h; omega
      · split at h
        · cases h
        · injection h with h; omega
set_option maxHeartbeats 4000000 in
/-- The iterator's body, for every loop body that keeps the text's box. -/
theorem frames1_in (n : Nat) (hn : 1 ≤ n) (l Bn : Nat) (s : ByteArray) (hs : s.size ≤ 1000000000) (J Jx : List NextR → World → Prop) (W : World) (hBn : W.cell? ⟨Bn, 0, none⟩ = some (.string s)) (hlow : Bn < W.heap.size)
    (hA : ∀ pre A B, J pre A → Kept NoF A B → J pre B)
    (hY : ∀ pre x W, J pre W → pre.length < (framesL (bl s)).length → YieldAt Fence.wide (n - 1) Try.prog l #[nextA x] W fun e W' =>
      (e = .returned (.bool true) ∧ J (pre ++ [x]) W' ∧ KB Bn W W') ∨ (e = .returned (.bool false) ∧ Jx (pre ++ [x]) W'))
    (h0 : J [] W) :
    CallsIn Fence.wide n Try.prog 73 #[.func (.yield l) #[] #[], .pointer (some ⟨Bn, 0, none⟩)] W fun e W' => (∃ v, e = .returned v) ∧
      ((∃ ys, ys = framesL (bl s) ∧ J ys W') ∨ (∃ pre, pre <+: framesL (bl s) ∧ Jx pre W')) := by
  have hfn : ∀ k, Fence.wide.fn k := fun _ => trivial
  have HA := Lib.hid hA; have HY := Lib.hid hY; have HBN := Lib.hid hBn
  clear hA hY
  refine callsIn_of_wp Try.func73 rfl trivial ?_ rfl
  simp only [Try.ntmps73, List.size_toArray, List.length_cons, List.length_nil, Nat.reduceAdd, Nat.reduceSub, Array.replicate_succ, Array.replicate_zero, List.push_toArray, List.append_toArray, List.nil_append, List.cons_append]
  gi_wp2
  refine wpIn_scope_jumps_wide 0 (fun a' wr => ∃ (i fuel : Nat) (pre : List NextR) (u4 u5 u6 u7 u8 u9 u10 u11 u12 u13 u14 u15 u16 u17 u18 u19 u20 u21 u22 u23 u24 u25 u26 u27 u28 u29 : Value), a' = { tmps := #[.func (.yield l) #[] #[], .pointer (some ⟨Bn, 0, none⟩), undef, .int .i64 (i : Int), u4, u5, u6, u7, u8, u9, u10, u11, u12, u13, u14, u15, u16, u17, u18, u19, u20, u21, u22, u23, u24, u25, u26, u27, u28, u29], defers := [] } ∧ i ≤ s.size ∧ s.size < i + (fuel + 1) ∧ J pre wr ∧ KB Bn W wr ∧ framesL (bl s) = pre ++ framesF (bl s) (fuel + 1) i) (fun a' _ => s.size - (slot3 a').toNat) rfl ?first ?pass
  case first =>
    obtain ⟨fuel, hfuel⟩ : ∃ fuel, fuel = s.size := ⟨_, rfl⟩
    obtain ⟨pre, hpre⟩ : ∃ pre : List NextR, pre = [] := ⟨_, rfl⟩
    have hfl : framesL (bl s) = pre ++ framesF (bl s) (fuel + 1) 0 := by rw [hpre, hfuel]; unfold framesL; rw [size_bl]; rfl
    have HF := Lib.hid hfl
    have HJ : Hid (J pre W) := Lib.hid (by rw [hpre]; exact h0)
    have HB := Lib.hid (KB.refl Bn W)
    have c0 := hBn
    clear hfl h0 hpre hBn
    gi_wp2
    refine wpIn_label ?_
    by_cases hil : s.size ≤ 0
    · have hil' : (s.size : Int) ≤ (0 : Int) := by omega
      have hemp : (s = ByteArray.empty) = True := eq_true (ByteArray.ext (Array.eq_empty_of_size_eq_zero (Nat.le_zero.1 hil)))
      have hnil : framesF (bl s) (fuel + 1) 0 = [] := by rw [framesF, if_pos (by rw [size_bl]; exact hil)]
      have HNIL := Lib.hid hnil; clear hnil
      gi_wp2
      rw [jump_ret]
      refine bodyPost_ret (results_none rfl _ _ _) rfl ?_
      exact ⟨⟨_, rfl⟩, .inl ⟨_, by rw [HF.out, HNIL.out, List.append_nil], HJ.out⟩⟩
    · have hil' : ¬ (s.size : Int) ≤ (0 : Int) := by omega
      have hemp : (s = ByteArray.empty) = False := eq_false (fun e => by rw [e] at hil; exact hil (Nat.le_refl _))
      have hnx := fun W => next_any W s 0 (by omega) hs
      rcases hR : nextR (bl s) 0 with e0 | ⟨t, to⟩
      · have hcons : framesF (bl s) (fuel + 1) 0 = [.bad e0] := by rw [framesF, if_neg (by rw [size_bl]; exact hil), hR]
        have hfl := HF.out
        rw [hcons] at hfl
        have hlen : pre.length < (framesL (bl s)).length := by rw [hfl, List.length_append]; simp
        rw [hR] at hnx
        have he0 : e0 ≠ 0 := nextR_bad hR
        have he1 : ((e0 : Int) != 0) = true := by simpa using he0
        unfold nextT at hnx
        have HN := Lib.hid hnx; have HFL := Lib.hid hfl; have HLEN := Lib.hid hlen; have HE := Lib.hid he1; have HE0 := Lib.hid (codeE_eq he0)
        clear hnx hR hcons hfl hlen hil he0 he1
        gi_wp2_with (gi_at_call 46; (refine (callsIn_wide.2 (HN.out _)).mono ?_; rintro e w2 ⟨rfl, hk⟩; have HJ2 := Lib.hid (HA.out _ _ _ HJ.out hk); have HB2 := Lib.hid (HB.out.trans (KB.of_kept hk)); clear hk; obtain ⟨fn, tmps, assign, body, hy, hR⟩ := HY.out pre (.bad e0) w2 HJ2.out HLEN.out; simp only [nextA, HE0.out] at hy))
        refine hR.mono ?_
        rintro e W3 (⟨rfl, hJ3, hk3⟩ | ⟨rfl, hJx3⟩)
        · have HJ3 := Lib.hid hJ3; clear hJ3 hk3
          have he1 := HE.out
          gi_wp2
          rw [jump_ret]
          refine bodyPost_ret (results_none rfl _ _ _) rfl ?_
          exact ⟨⟨_, rfl⟩, .inl ⟨_, HFL.out.symm, HJ3.out⟩⟩
        · have HJx3 := Lib.hid hJx3; clear hJx3
          gi_wp2
          rw [jump_ret]
          refine bodyPost_ret (results_none rfl _ _ _) rfl ?_
          exact ⟨⟨_, rfl⟩, .inr ⟨_, by rw [HFL.out]; exact List.prefix_refl _, HJx3.out⟩⟩
      · have hcons : framesF (bl s) (fuel + 1) 0 = .ok t to :: framesF (bl s) fuel to := by rw [framesF, if_neg (by rw [size_bl]; exact hil), hR]
        have hto := nextR_to hR
        rw [size_bl] at hto
        have hfl := HF.out
        rw [hcons] at hfl
        have hlen : pre.length < (framesL (bl s)).length := by rw [hfl, List.length_append]; simp
        have hfl2 : framesL (bl s) = (pre ++ [.ok t to]) ++ framesF (bl s) fuel to := by rw [hfl]; simp
        rw [hR] at hnx
        unfold nextT at hnx
        have HN := Lib.hid hnx; have HFL := Lib.hid hfl2; have HLEN := Lib.hid hlen
        clear hnx hR hcons hfl hlen hil hfl2
        gi_wp2_with (gi_at_call 46; (refine (callsIn_wide.2 (HN.out _)).mono ?_; rintro e w2 ⟨rfl, hk⟩; have HJ2 := Lib.hid (HA.out _ _ _ HJ.out hk); have HB2 := Lib.hid (HB.out.trans (KB.of_kept hk)); clear hk; obtain ⟨fn, tmps, assign, body, hy, hR⟩ := HY.out pre (.ok t to) w2 HJ2.out HLEN.out; simp only [nextA] at hy))
        refine hR.mono ?_
        rintro e W3 (⟨rfl, hJ3, hk3⟩ | ⟨rfl, hJx3⟩)
        · have HJ3 := Lib.hid hJ3; have HB3 := Lib.hid (HB2.out.trans hk3); clear hJ3 hk3
          gi_wp2
          refine wpIn_goto ?_
          exact ⟨rfl, ⟨to, fuel - 1, pre ++ [.ok t to], _, _, _, _, _, _, _, _, _, _, _, _, _, _, _, _, _, _, _, _, _, _, _, _, _, _, rfl, by omega, by omega, HJ3.out, HB3.out, by rw [show fuel - 1 + 1 = fuel by omega]; exact HFL.out⟩⟩
        · have HJx3 := Lib.hid hJx3; clear hJx3
          gi_wp2
          rw [jump_ret]
          refine bodyPost_ret (results_none rfl _ _ _) rfl ?_
          exact ⟨⟨_, rfl⟩, .inr ⟨_, by rw [HFL.out]; exact List.prefix_append _ _, HJx3.out⟩⟩
  case pass =>
    rintro a' wr ⟨i, fuel, pre, u4, u5, u6, u7, u8, u9, u10, u11, u12, u13, u14, u15, u16, u17, u18, u19, u20, u21, u22, u23, u24, u25, u26, u27, u28, u29, rfl, hi, hfu, hJ, hB, hfl⟩
    have c0 : wr.cell? ⟨Bn, 0, none⟩ = some (.string s) := (hB.cell hlow 0).trans HBN.out
    have HF := Lib.hid hfl; have HJ := Lib.hid hJ; have HB := Lib.hid hB
    clear hfl hJ hB h0 hBn
    by_cases hil : s.size ≤ i
    · have hil' : (s.size : Int) ≤ (i : Int) := by omega
      skip
      have hnil : framesF (bl s) (fuel + 1) i = [] := by rw [framesF, if_pos (by rw [size_bl]; exact hil)]
      have HNIL := Lib.hid hnil; clear hnil
      gi_wp2
      rw [jump_ret]
      refine bodyPost_ret (results_none rfl _ _ _) rfl ?_
      exact ⟨⟨_, rfl⟩, .inl ⟨_, by rw [HF.out, HNIL.out, List.append_nil], HJ.out⟩⟩
    · have hil' : ¬ (s.size : Int) ≤ (i : Int) := by omega
      skip
      have hnx := fun W => next_any W s i (by omega) hs
      rcases hR : nextR (bl s) i with e0 | ⟨t, to⟩
      · have hcons : framesF (bl s) (fuel + 1) i = [.bad e0] := by rw [framesF, if_neg (by rw [size_bl]; exact hil), hR]
        have hfl := HF.out
        rw [hcons] at hfl
        have hlen : pre.length < (framesL (bl s)).length := by rw [hfl, List.length_append]; simp
        rw [hR] at hnx
        have he0 : e0 ≠ 0 := nextR_bad hR
        have he1 : ((e0 : Int) != 0) = true := by simpa using he0
        unfold nextT at hnx
        have HN := Lib.hid hnx; have HFL := Lib.hid hfl; have HLEN := Lib.hid hlen; have HE := Lib.hid he1; have HE0 := Lib.hid (codeE_eq he0)
        clear hnx hR hcons hfl hlen hil he0 he1
        gi_wp2_with (gi_at_call 46; (refine (callsIn_wide.2 (HN.out _)).mono ?_; rintro e w2 ⟨rfl, hk⟩; have HJ2 := Lib.hid (HA.out _ _ _ HJ.out hk); have HB2 := Lib.hid (HB.out.trans (KB.of_kept hk)); clear hk; obtain ⟨fn, tmps, assign, body, hy, hR⟩ := HY.out pre (.bad e0) w2 HJ2.out HLEN.out; simp only [nextA, HE0.out] at hy))
        refine hR.mono ?_
        rintro e W3 (⟨rfl, hJ3, hk3⟩ | ⟨rfl, hJx3⟩)
        · have HJ3 := Lib.hid hJ3; clear hJ3 hk3
          have he1 := HE.out
          gi_wp2
          rw [jump_ret]
          refine bodyPost_ret (results_none rfl _ _ _) rfl ?_
          exact ⟨⟨_, rfl⟩, .inl ⟨_, HFL.out.symm, HJ3.out⟩⟩
        · have HJx3 := Lib.hid hJx3; clear hJx3
          gi_wp2
          rw [jump_ret]
          refine bodyPost_ret (results_none rfl _ _ _) rfl ?_
          exact ⟨⟨_, rfl⟩, .inr ⟨_, by rw [HFL.out]; exact List.prefix_refl _, HJx3.out⟩⟩
      · have hcons : framesF (bl s) (fuel + 1) i = .ok t to :: framesF (bl s) fuel to := by rw [framesF, if_neg (by rw [size_bl]; exact hil), hR]
        have hto := nextR_to hR
        rw [size_bl] at hto
        have hfl := HF.out
        rw [hcons] at hfl
        have hlen : pre.length < (framesL (bl s)).length := by rw [hfl, List.length_append]; simp
        have hfl2 : framesL (bl s) = (pre ++ [.ok t to]) ++ framesF (bl s) fuel to := by rw [hfl]; simp
        rw [hR] at hnx
        unfold nextT at hnx
        have HN := Lib.hid hnx; have HFL := Lib.hid hfl2; have HLEN := Lib.hid hlen
        clear hnx hR hcons hfl hlen hil hfl2
        gi_wp2_with (gi_at_call 46; (refine (callsIn_wide.2 (HN.out _)).mono ?_; rintro e w2 ⟨rfl, hk⟩; have HJ2 := Lib.hid (HA.out _ _ _ HJ.out hk); have HB2 := Lib.hid (HB.out.trans (KB.of_kept hk)); clear hk; obtain ⟨fn, tmps, assign, body, hy, hR⟩ := HY.out pre (.ok t to) w2 HJ2.out HLEN.out; simp only [nextA] at hy))
        refine hR.mono ?_
        rintro e W3 (⟨rfl, hJ3, hk3⟩ | ⟨rfl, hJx3⟩)
        · have HJ3 := Lib.hid hJ3; have HB3 := Lib.hid (HB2.out.trans hk3); clear hJ3 hk3
          gi_wp2
          refine wpIn_goto ?_
          refine ⟨rfl, ⟨to, fuel - 1, pre ++ [.ok t to], _, _, _, _, _, _, _, _, _, _, _, _, _, _, _, _, _, _, _, _, _, _, _, _, _, _, rfl, by omega, by omega, HJ3.out, HB3.out, by rw [show fuel - 1 + 1 = fuel by omega]; exact HFL.out⟩, ?_⟩
          show (s.size - (slot3 _).toNat) < (s.size - (slot3 _).toNat)
          simp [slot3, intOf]
          omega
        · have HJx3 := Lib.hid hJx3; clear hJx3
          gi_wp2
          rw [jump_ret]
          refine bodyPost_ret (results_none rfl _ _ _) rfl ?_
          exact ⟨⟨_, rfl⟩, .inr ⟨_, by rw [HFL.out]; exact List.prefix_append _ _, HJx3.out⟩⟩
end Fr
end Go.Proofs.Ythgdkhgpboaplaa
