/- Part 16 of what the proof needs. -/
import Derived.Test.YtgffjliedjhbaaaGreatZS14
import Derived.Deep.RegionHeld3
import Derived.RangeFuncNested
import Derived.RangeFuncBound
import Derived.RangeFuncCalls
import Derived.RangeFuncLeaves
import Derived.RangeFuncBox
import Derived.Shelf.Abstract
import Derived.Shelf.RegionOpen
import Derived.OwnWalkIn
import Derived.TacticsInMore
import Derived.LoopNIn
import Derived.LoopIn
import Derived.ScopeJumps
import Derived.WalkMore
set_option linter.unusedSimpArgs false
set_option linter.unusedVariables false
set_option maxHeartbeats 32000000
set_option maxRecDepth 100000
namespace Go.Proofs.YtgffjliedjhbaaaGreat
open Go.RowKit
set_option maxRecDepth 100000
namespace Fr
open Vn Ops
inductive NextR
 | bad (e : Nat)
 | ok (t : List UInt8) (to : Nat)
def nextR (s : List UInt8) (i : Nat) : NextR :=
 match Vn.get s i with
 | .error e => .bad e
 | .ok (n,j) => if 65536 < n then .bad 3 else if s.length < j + (4 + n) then .bad 2 else
  if (s.drop j).take 4 = mkN (sumN ((s.drop i).take (j - i) ++ (s.drop (j + 4)).take n)) then .ok ((s.drop (j + 4)).take n) (j + 4 + n) else .bad 9
def nextT : NextR -> Value
 | .bad e => .tuple #[.string ⟨#[]⟩,.int .i64 0,.int .i64 (e : Int)]
 | .ok t to => .tuple #[.string (ofL t),.int .i64 (to : Int),.int .i64 0]
theorem get_cases (s : List UInt8) (i : Nat) : (∃ e,Vn.get s i = .error e /\ (e = 2 \/ e = 4)) \/ ∃ n j,Vn.get s i = .ok (n,j) := by
 unfold Vn.get
 split
 ·exact .inl ⟨2,rfl,.inl rfl⟩
 ·split
  ·exact .inr ⟨_,_,rfl⟩
  ·dsimp only
   split
   ·exact .inl ⟨2,rfl,.inl rfl⟩
   ·split
    ·exact .inl ⟨4,rfl,.inr rfl⟩
    ·exact .inr ⟨_,_,rfl⟩
theorem ext_drop (s : ByteArray) (a b : Nat) : (s.extract a b).data.toList = ((bl s).drop a).take (b - a) := by
 simp [bl,ByteArray.data_extract,List.extract_eq_take_drop]
theorem beq_bytes (p q : ByteArray) : (p.toList == q.toList) = decide (p = q) := by
 by_cases h : p = q
 ·subst h;simp
 ·have h2 : p.data.toList ≠ q.data.toList := fun e => h (ByteArray.ext (Array.toList_inj.1 e))
  rw [decide_eq_false h]
  rw [ByteArray.toList_eq,ByteArray.toList_eq,beq_eq_false_iff_ne]
  exact h2
theorem next_any (w : World) (s : ByteArray) (i : Nat) (hi : i <= s.size) (hs : s.size <= 1000000000) : Calls Tryz.prog 172 #[.string s,.int .i64 i] w fun e w' => e = .returned (nextT (nextR (bl s) i)) /\ Kept NoF w w' := by
 have hg := fun W => vget_any s i hi (by unfold maxLen;omega) W
 unfold nextR
 rcases get_cases (bl s) i with ⟨e,he,h24⟩ | ⟨n,j,hnj⟩
 ·rw [he]
  rw [he] at hg
  unfold getT at hg
  dsimp only at hg ⊢
  have HG := hZ0 hg;clear hg he
  rcases h24 with rfl | rfl
  all_goals
   go_enter Tryz.func172,Tryz.ntmps172
   go_wp2_with fail
   refine (HG.out _).mono ?_
   rintro e w1 ⟨rfl,rfl⟩
   go_wp2
   go_ret3
   exact ⟨rfl,Kept.refl _ _⟩
 ·rw [hnj]
  rw [hnj] at hg
  unfold getT at hg
  dsimp only at hg ⊢
  obtain ⟨hij,hjs,hn64,_⟩ := put_get hnj
  rw [size_bl] at hjs
  have HG := hZ0 hg;clear hg hnj
  by_cases h1 : 65536 < n
  ·rw [if_pos h1]
   have h1' : (65536 : Int) < (n : Int) := by omega
   clear h1
   go_enter Tryz.func172,Tryz.ntmps172
   go_wp2_with fail
   refine (HG.out _).mono ?_
   rintro e w1 ⟨rfl,rfl⟩
   go_wp2
   go_ret3
   exact ⟨rfl,Kept.refl _ _⟩
  rw [if_neg h1,size_bl]
  have h1' : ¬ (65536 : Int) < (n : Int) := by omega
  by_cases h2 : s.size < j + (4 + n)
  ·rw [if_pos h2]
   have h2' : (s.size : Int) - (j : Int) < 4 + (n : Int) := by omega
   clear h1 h2
   go_enter Tryz.func172,Tryz.ntmps172
   go_wp2_with fail
   refine (HG.out _).mono ?_
   rintro e w1 ⟨rfl,rfl⟩
   go_wp2
   go_ret3
   exact ⟨rfl,Kept.refl _ _⟩
  rw [if_neg h2]
  have h2' : ¬ (s.size : Int) - (j : Int) < 4 + (n : Int) := by omega
  have hd1 := ext_drop s j (j + 4)
  have hd2 := ext_drop s i j
  have hd3 := ext_drop s (j + 4) (j + 4 + n)
  rw [show j + 4 - j = 4 by omega] at hd1
  rw [show j + 4 + n - (j + 4) = n by omega] at hd3
  have hsz2 : (s.extract i j).size = j - i := by rw [ByteArray.size_extract];omega
  have hsz3 : (s.extract (j + 4) (j + 4 + n)).size = n := by rw [ByteArray.size_extract];omega
  have hsum := fun W => sum_any W (s.extract i j ++ s.extract (j + 4) (j + 4 + n)) (by rw [ByteArray.size_append,hsz2,hsz3];omega)
  rw [show (s.extract i j ++ s.extract (j + 4) (j + 4 + n)).data.toList = ((bl s).drop i).take (j - i) ++ ((bl s).drop (j + 4)).take n by rw [<- hd2,<- hd3];simp] at hsum
  have hmk := fun W => mark_any W (sumN (((bl s).drop i).take (j - i) ++ ((bl s).drop (j + 4)).take n)) (sumN_lt _)
  obtain ⟨S,hS⟩ : ∃ S,sumN (((bl s).drop i).take (j - i) ++ ((bl s).drop (j + 4)).take n) = S := ⟨_,rfl⟩
  simp only [hS] at hsum hmk
  rw [hS]
  have hcat : ¬ 9223372036854775807 < (s.extract i j).size + (s.extract (j + 4) (j + 4 + n)).size := by rw [hsz2,hsz3];omega
  have ht : ofL (((bl s).drop (j + 4)).take n) = s.extract (j + 4) (j + 4 + n) := by rw [<- hd3];exact ofL_bl _
  have hcmp : ((bl s).drop j).take 4 = mkN S ↔ s.extract j (j + 4) = ofL (mkN S) := by
   rw [<- hd1]
   constructor
   ·intro h;rw [<- h];exact (ofL_bl _).symm
   ·intro h;rw [h];exact bl_ofL _
  have heq : ((s.extract j (j + 4)).toList == (ofL (mkN S)).toList) = decide (s.extract j (j + 4) = ofL (mkN S)) := beq_bytes _ _
  obtain ⟨v,hv⟩ : ∃ v,decide (s.extract j (j + 4) = ofL (mkN S)) = v := ⟨_,rfl⟩
  rw [hv] at heq
  have hres : nextT (if ((bl s).drop j).take 4 = mkN S then .ok (((bl s).drop (j + 4)).take n) (j + 4 + n) else .bad 9) = (if v = true then .tuple #[.string (s.extract (j + 4) (j + 4 + n)),.int .i64 ((j : Int) + 4 + n),.int .i64 0] else .tuple #[.string ⟨#[]⟩,.int .i64 0,.int .i64 9]) := by
   by_cases hc : s.extract j (j + 4) = ofL (mkN S)
   ·rw [if_pos (hcmp.2 hc),<- hv,if_pos (decide_eq_true hc)]
    show Value.tuple #[.string (ofL (((bl s).drop (j + 4)).take n)),.int .i64 ((j + 4 + n : Nat) : Int),.int .i64 0] = _
    rw [ht,show ((j + 4 + n : Nat) : Int) = (j : Int) + 4 + n by omega]
   ·rw [if_neg (fun h => hc (hcmp.1 h)),<- hv,if_neg (by rw [decide_eq_false hc];decide)]
    rfl
  rw [hres]
  obtain ⟨E1,hE1⟩ : ∃ E1,s.extract i j = E1 := ⟨_,rfl⟩
  obtain ⟨E3,hE3⟩ : ∃ E3,s.extract (j + 4) (j + 4 + n) = E3 := ⟨_,rfl⟩
  rw [hE1,hE3] at hcat
  simp only [hE1,hE3] at hsum
  rw [hE3]
  have HS := hZ0 hsum;have HM := hZ0 hmk
  have HV := hZ0 hv
  clear hsum hmk hres hcmp hv ht hd1 hd2 hd3 hS hsz2 hsz3 h1 h2
  have b1 : (j : Int) + 4 <= (s.size : Int) := by omega
  have b2 : (j : Int) + 4 + (n : Int) <= (s.size : Int) := by omega
  have b3 : ((j : Int) + 4).toNat = j + 4 := by omega
  have b4 : ((j : Int) + 4 + (n : Int)).toNat = j + 4 + n := by omega
  have b5 : (j : Int) <= (s.size : Int) := by omega
  have b6 : (i : Int) <= (j : Int) := by omega
  have b7 : (j : Int) <= (j : Int) + 4 := by omega
  have b8 : (j : Int) + 4 <= (j : Int) + 4 + (n : Int) := by omega
  have b9 : (0 : Int) <= (j : Int) + 4 := by omega
  have b10 : (0 : Int) <= (j : Int) + 4 + (n : Int) := by omega
  have b11 : (0 : Int) <= (j : Int) := by omega
  have b12 : (0 : Int) <= (i : Int) := by omega
  go_enter Tryz.func172,Tryz.ntmps172
  go_wp2_with fail
  refine (HG.out _).mono ?_
  rintro e w1 ⟨rfl,rfl⟩
  go_wp2_with fail
  have HW := hZ0 (Kept.refl NoF w)
  go_region_held3 (fun _ => True) (trivial)
   (first
    | (go_at_call 235;((with_reducible refine (HS.out _).mono ?_);rintro e w2 ⟨rfl,hk0⟩;have hk := Kept.then (F := NoF) (a := w) (by (repeat' (first | (with_reducible first | exact kR0 | apply kP0 | apply kN0 | apply kD0 | apply kA0) | (exact HW.out) | (right;simp;done)))) hk0;clear HW hk0;have HW := hZ0 hk;clear hk))
    | (go_at_call 234;((with_reducible refine (HM.out _).mono ?_);rintro e w3 ⟨rfl,hk0⟩;have hk := Kept.then (F := NoF) (a := w) (by (repeat' (first | (with_reducible first | exact kR0 | apply kP0 | apply kN0 | apply kD0 | apply kA0) | (exact HW.out) | (right;simp;done)))) hk0;clear HW hk0;have HW := hZ0 hk;clear hk)))
  all_goals
   cases v
   all_goals
    go_wp2
    go_ret3
    refine ⟨?_,HW.out⟩
    first | rfl | (rw [if_neg (by decide)];rfl) | (rw [if_pos rfl];rfl)
end Fr
end Go.Proofs.YtgffjliedjhbaaaGreat
namespace Go.Proofs.YtgffjliedjhbaaaGreat
open Go.RowKit Go.Shelf
attribute [local go_sem] Oper.semAt_some
set_option maxRecDepth 100000
namespace Fr
open Vn Ops
def framesF (s : List UInt8) : Nat -> Nat -> List NextR
 | 0,_ => []
 | fuel + 1,i => if s.length <= i then [] else match nextR s i with
  | .bad e => [.bad e]
  | .ok t to => .ok t to :: framesF s fuel to
def framesL (s : List UInt8) : List NextR := framesF s (s.length + 1) 0
theorem nextR_to {s : List UInt8} {i to : Nat} {t : List UInt8} (h : nextR s i = .ok t to) : i < to /\ to <= s.length := by
 unfold nextR at h
 rcases get_cases s i with ⟨e,he,_⟩ | ⟨n,j,hj⟩
 ·rw [he] at h;cases h
 ·rw [hj] at h
  obtain ⟨h1,h2,_⟩ := put_get hj
  dsimp only at h
  split at h
  ·cases h
  ·split at h
   ·cases h
   ·split at h
    ·injection h with h3 h4
     omega
    ·cases h
def codeE (e : Nat) : Nat := if e = 0 then 2 else e
theorem codeE_ne (e : Nat) : codeE e ≠ 0 := by unfold codeE;split <;> omega
theorem codeE_eq {e : Nat} (h : e ≠ 0) : codeE e = e := if_neg h
def nextA : NextR -> Value
 | .bad e => .agg #[.string ⟨#[]⟩,.int .i64 0,.int .i64 (codeE e : Int)]
 | .ok t to => .agg #[.string (ofL t),.int .i64 (to : Int),.int .i64 0]
theorem wpIn_scope_jumps_wide {n : Nat} {P : Program} {a : Act} {w : World} {Q : Exit -> Act -> World -> Prop} {c rest : Code} (l : Nat) (J : Act -> World -> Prop) (μ : Act -> World -> Nat) (hf : findLabel c l = some rest)
  (first : c.wpIn Fence.wide n P (Exit.jump l J Q) a w)
  (pass : ∀ a w,J a w -> rest.wpIn Fence.wide n P (Exit.jump l (fun a' w' => J a' w' /\ μ a' w' < μ a w) Q) a w) : (Code.scope c).wpIn Fence.wide n P Q a w :=
 wpIn_wide.2 (wp_scope_jumps l J μ hf (wpIn_wide.1 first) fun a w h => wpIn_wide.1 (pass a w h))
theorem jump_ret {l : Nat} {J : Act -> World -> Prop} {Q : Exit -> Act -> World -> Prop} {a : Act} {w : World} : Exit.jump l J Q .ret a w = Q .ret a w := rfl
def slot3 (a : Act) : Int := intOf (a.tmps.getD 3 undef)
structure KB (Bn : Nat) (A B : World) : Prop where
 size : A.heap.size <= B.heap.size
 block : Bn < A.heap.size -> B.heap[Bn]? = A.heap[Bn]?
theorem KB.refl (Bn : Nat) (A : World) : KB Bn A A := ⟨Nat.le_refl _,fun _ => rfl⟩
theorem KB.trans {Bn : Nat} {A B C : World} (h : KB Bn A B) (k : KB Bn B C) : KB Bn A C := ⟨Nat.le_trans h.size k.size,fun hl => (k.block (Nat.lt_of_lt_of_le hl h.size)).trans (h.block hl)⟩
theorem KB.of_kept {Bn : Nat} {A B : World} (h : Kept NoF A B) : KB Bn A B := ⟨h.size,fun hl => h.block Bn hl (fun z => z)⟩
theorem KB.cell {Bn : Nat} {A B : World} (h : KB Bn A B) (hl : Bn < A.heap.size) (i : Nat) : B.cell? ⟨Bn,i,none⟩ = A.cell? ⟨Bn,i,none⟩ := World.cell?_of_block (h.block hl)
theorem KB.put {Bn : Nat} {w : World} (hl : Bn < w.heap.size) (W : World) (l : Nat) (o o' : Obj) (h : w.heap.size <= l) (_ : W.heap[l]? = some o) (_ : o.isCells = false) (_ : o.isWalk = false) : KB Bn W (W.putObj l o') :=
 ⟨Nat.le_of_eq (by simp [World.putObj]),fun _ => World.putObj_heap_other (by omega)⟩
theorem nextR_bad {s : List UInt8} {i e : Nat} (h : nextR s i = .bad e) : e ≠ 0 := by
 unfold nextR at h
 rcases get_cases s i with ⟨e',he,h24⟩ | ⟨n,j,hj⟩
 ·rw [he] at h
  injection h with h
  omega
 ·rw [hj] at h
  dsimp only at h
  split at h
  ·injection h with h;omega
  ·split at h
   ·injection h with h;omega
   ·split at h
    ·cases h
    ·injection h with h;omega
theorem frames1_in (n : Nat) (hn : 1 <= n) (l Bn : Nat) (s : ByteArray) (hs : s.size <= 1000000000) (J Jx : List NextR -> World -> Prop) (W : World) (hBn : W.cell? ⟨Bn,0,none⟩ = some (.string s)) (hlow : Bn < W.heap.size)
  (hA : ∀ pre A B,J pre A -> Kept NoF A B -> J pre B)
  (hY : ∀ pre x W,J pre W -> pre.length < (framesL (bl s)).length -> YieldAt Fence.wide (n - 1) Tryz.prog l #[nextA x] W fun e W' =>
   (e = .returned (.bool true) /\ J (pre ++ [x]) W' /\ KB Bn W W') \/ (e = .returned (.bool false) /\ Jx (pre ++ [x]) W'))
  (h0 : J [] W) :
  CallsIn Fence.wide n Tryz.prog 256 #[.func (.yield l) #[] #[],.pointer (some ⟨Bn,0,none⟩)] W fun e W' => (∃ v,e = .returned v) /\
   ((∃ ys,ys = framesL (bl s) /\ J ys W') \/ (∃ pre,pre <+: framesL (bl s) /\ Jx pre W')) := by
 have hfn : ∀ k,Fence.wide.fn k := fun _ => trivial
 have HA := hZ0 hA;have HY := hZ0 hY;have HBN := hZ0 hBn
 clear hA hY
 refine callsIn_of_wp Tryz.func256 rfl trivial ?_ rfl
 simp only [Tryz.ntmps256,List.size_toArray,List.length_cons,List.length_nil,Nat.reduceAdd,Nat.reduceSub,Array.replicate_succ,Array.replicate_zero,List.push_toArray,List.append_toArray,List.nil_append,List.cons_append]
 gi_wp2
 refine wpIn_scope_jumps_wide 0 (fun a' wr => ∃ (i fuel : Nat) (pre : List NextR) (u4 u5 u6 u7 u8 u9 u10 u11 u12 u13 u14 u15 u16 u17 u18 u19 u20 u21 u22 u23 u24 u25 u26 u27 u28 u29 : Value),a' = { tmps := #[.func (.yield l) #[] #[],.pointer (some ⟨Bn,0,none⟩),undef,.int .i64 (i : Int),u4,u5,u6,u7,u8,u9,u10,u11,u12,u13,u14,u15,u16,u17,u18,u19,u20,u21,u22,u23,u24,u25,u26,u27,u28,u29],defers := [] } /\ i <= s.size /\ s.size < i + (fuel + 1) /\ J pre wr /\ KB Bn W wr /\ framesL (bl s) = pre ++ framesF (bl s) (fuel + 1) i) (fun a' _ => s.size - (slot3 a').toNat) rfl ?first ?pass
 case first =>
  obtain ⟨fuel,hfuel⟩ : ∃ fuel,fuel = s.size := ⟨_,rfl⟩
  obtain ⟨pre,hpre⟩ : ∃ pre : List NextR,pre = [] := ⟨_,rfl⟩
  have hfl : framesL (bl s) = pre ++ framesF (bl s) (fuel + 1) 0 := by rw [hpre,hfuel];unfold framesL;rw [size_bl];rfl
  have HF := hZ0 hfl
  have HJ : Hid (J pre W) := hZ0 (by rw [hpre];exact h0)
  have HB := hZ0 (KB.refl Bn W)
  have c0 := hBn
  clear hfl h0 hpre hBn
  gi_wp2
  refine wpIn_label ?_
  by_cases hil : s.size <= 0
  ·have hil' : (s.size : Int) <= (0 : Int) := by omega
   have hemp : (s = ByteArray.empty) = True := eq_true (ByteArray.ext (Array.eq_empty_of_size_eq_zero (Nat.le_zero.1 hil)))
   have hnil : framesF (bl s) (fuel + 1) 0 = [] := by rw [framesF,if_pos (by rw [size_bl];exact hil)]
   have HNIL := hZ0 hnil;clear hnil
   gi_wp2
   rw [jump_ret]
   refine bodyPost_ret (results_none rfl _ _ _) rfl ?_
   exact ⟨⟨_,rfl⟩,.inl ⟨_,by rw [HF.out,HNIL.out,List.append_nil],HJ.out⟩⟩
  ·have hil' : ¬ (s.size : Int) <= (0 : Int) := by omega
   have hemp : (s = ByteArray.empty) = False := eq_false (fun e => by rw [e] at hil;exact hil (Nat.le_refl _))
   have hnx := fun W => next_any W s 0 (by omega) hs
   rcases hR : nextR (bl s) 0 with e0 | ⟨t,to⟩
   ·have hcons : framesF (bl s) (fuel + 1) 0 = [.bad e0] := by rw [framesF,if_neg (by rw [size_bl];exact hil),hR]
    have hfl := HF.out
    rw [hcons] at hfl
    have hlen : pre.length < (framesL (bl s)).length := by rw [hfl,List.length_append];simp
    rw [hR] at hnx
    have he0 : e0 ≠ 0 := nextR_bad hR
    have he1 : ((e0 : Int) != 0) = true := by simpa using he0
    unfold nextT at hnx
    have HN := hZ0 hnx;have HFL := hZ0 hfl;have HLEN := hZ0 hlen;have HE := hZ0 he1;have HE0 := hZ0 (codeE_eq he0)
    clear hnx hR hcons hfl hlen hil he0 he1
    gi_wp2_with (gi_at_call 172;(refine (callsIn_wide.2 (HN.out _)).mono ?_;rintro e w2 ⟨rfl,hk⟩;have HJ2 := hZ0 (HA.out _ _ _ HJ.out hk);have HB2 := hZ0 (HB.out.trans (KB.of_kept hk));clear hk;obtain ⟨fn,tmps,assign,body,hy,hR⟩ := HY.out pre (.bad e0) w2 HJ2.out HLEN.out;simp only [nextA,HE0.out] at hy))
    refine hR.mono ?_
    rintro e W3 (⟨rfl,hJ3,hk3⟩ | ⟨rfl,hJx3⟩)
    ·have HJ3 := hZ0 hJ3;clear hJ3 hk3
     have he1 := HE.out
     gi_wp2
     rw [jump_ret]
     refine bodyPost_ret (results_none rfl _ _ _) rfl ?_
     exact ⟨⟨_,rfl⟩,.inl ⟨_,HFL.out.symm,HJ3.out⟩⟩
    ·have HJx3 := hZ0 hJx3;clear hJx3
     gi_wp2
     rw [jump_ret]
     refine bodyPost_ret (results_none rfl _ _ _) rfl ?_
     exact ⟨⟨_,rfl⟩,.inr ⟨_,by rw [HFL.out];exact List.prefix_refl _,HJx3.out⟩⟩
   ·have hcons : framesF (bl s) (fuel + 1) 0 = .ok t to :: framesF (bl s) fuel to := by rw [framesF,if_neg (by rw [size_bl];exact hil),hR]
    have hto := nextR_to hR
    rw [size_bl] at hto
    have hfl := HF.out
    rw [hcons] at hfl
    have hlen : pre.length < (framesL (bl s)).length := by rw [hfl,List.length_append];simp
    have hfl2 : framesL (bl s) = (pre ++ [.ok t to]) ++ framesF (bl s) fuel to := by rw [hfl];simp
    rw [hR] at hnx
    unfold nextT at hnx
    have HN := hZ0 hnx;have HFL := hZ0 hfl2;have HLEN := hZ0 hlen
    clear hnx hR hcons hfl hlen hil hfl2
    gi_wp2_with (gi_at_call 172;(refine (callsIn_wide.2 (HN.out _)).mono ?_;rintro e w2 ⟨rfl,hk⟩;have HJ2 := hZ0 (HA.out _ _ _ HJ.out hk);have HB2 := hZ0 (HB.out.trans (KB.of_kept hk));clear hk;obtain ⟨fn,tmps,assign,body,hy,hR⟩ := HY.out pre (.ok t to) w2 HJ2.out HLEN.out;simp only [nextA] at hy))
    refine hR.mono ?_
    rintro e W3 (⟨rfl,hJ3,hk3⟩ | ⟨rfl,hJx3⟩)
    ·have HJ3 := hZ0 hJ3;have HB3 := hZ0 (HB2.out.trans hk3);clear hJ3 hk3
     gi_wp2
     refine wpIn_goto ?_
     exact ⟨rfl,⟨to,fuel - 1,pre ++ [.ok t to],_,_,_,_,_,_,_,_,_,_,_,_,_,_,_,_,_,_,_,_,_,_,_,_,_,_,rfl,by omega,by omega,HJ3.out,HB3.out,by rw [show fuel - 1 + 1 = fuel by omega];exact HFL.out⟩⟩
    ·have HJx3 := hZ0 hJx3;clear hJx3
     gi_wp2
     rw [jump_ret]
     refine bodyPost_ret (results_none rfl _ _ _) rfl ?_
     exact ⟨⟨_,rfl⟩,.inr ⟨_,by rw [HFL.out];exact List.prefix_append _ _,HJx3.out⟩⟩
 case pass =>
  rintro a' wr ⟨i,fuel,pre,u4,u5,u6,u7,u8,u9,u10,u11,u12,u13,u14,u15,u16,u17,u18,u19,u20,u21,u22,u23,u24,u25,u26,u27,u28,u29,rfl,hi,hfu,hJ,hB,hfl⟩
  have c0 : wr.cell? ⟨Bn,0,none⟩ = some (.string s) := (hB.cell hlow 0).trans HBN.out
  have HF := hZ0 hfl;have HJ := hZ0 hJ;have HB := hZ0 hB
  clear hfl hJ hB h0 hBn
  by_cases hil : s.size <= i
  ·have hil' : (s.size : Int) <= (i : Int) := by omega
   skip
   have hnil : framesF (bl s) (fuel + 1) i = [] := by rw [framesF,if_pos (by rw [size_bl];exact hil)]
   have HNIL := hZ0 hnil;clear hnil
   gi_wp2
   rw [jump_ret]
   refine bodyPost_ret (results_none rfl _ _ _) rfl ?_
   exact ⟨⟨_,rfl⟩,.inl ⟨_,by rw [HF.out,HNIL.out,List.append_nil],HJ.out⟩⟩
  ·have hil' : ¬ (s.size : Int) <= (i : Int) := by omega
   skip
   have hnx := fun W => next_any W s i (by omega) hs
   rcases hR : nextR (bl s) i with e0 | ⟨t,to⟩
   ·have hcons : framesF (bl s) (fuel + 1) i = [.bad e0] := by rw [framesF,if_neg (by rw [size_bl];exact hil),hR]
    have hfl := HF.out
    rw [hcons] at hfl
    have hlen : pre.length < (framesL (bl s)).length := by rw [hfl,List.length_append];simp
    rw [hR] at hnx
    have he0 : e0 ≠ 0 := nextR_bad hR
    have he1 : ((e0 : Int) != 0) = true := by simpa using he0
    unfold nextT at hnx
    have HN := hZ0 hnx;have HFL := hZ0 hfl;have HLEN := hZ0 hlen;have HE := hZ0 he1;have HE0 := hZ0 (codeE_eq he0)
    clear hnx hR hcons hfl hlen hil he0 he1
    gi_wp2_with (gi_at_call 172;(refine (callsIn_wide.2 (HN.out _)).mono ?_;rintro e w2 ⟨rfl,hk⟩;have HJ2 := hZ0 (HA.out _ _ _ HJ.out hk);have HB2 := hZ0 (HB.out.trans (KB.of_kept hk));clear hk;obtain ⟨fn,tmps,assign,body,hy,hR⟩ := HY.out pre (.bad e0) w2 HJ2.out HLEN.out;simp only [nextA,HE0.out] at hy))
    refine hR.mono ?_
    rintro e W3 (⟨rfl,hJ3,hk3⟩ | ⟨rfl,hJx3⟩)
    ·have HJ3 := hZ0 hJ3;clear hJ3 hk3
     have he1 := HE.out
     gi_wp2
     rw [jump_ret]
     refine bodyPost_ret (results_none rfl _ _ _) rfl ?_
     exact ⟨⟨_,rfl⟩,.inl ⟨_,HFL.out.symm,HJ3.out⟩⟩
    ·have HJx3 := hZ0 hJx3;clear hJx3
     gi_wp2
     rw [jump_ret]
     refine bodyPost_ret (results_none rfl _ _ _) rfl ?_
     exact ⟨⟨_,rfl⟩,.inr ⟨_,by rw [HFL.out];exact List.prefix_refl _,HJx3.out⟩⟩
   ·have hcons : framesF (bl s) (fuel + 1) i = .ok t to :: framesF (bl s) fuel to := by rw [framesF,if_neg (by rw [size_bl];exact hil),hR]
    have hto := nextR_to hR
    rw [size_bl] at hto
    have hfl := HF.out
    rw [hcons] at hfl
    have hlen : pre.length < (framesL (bl s)).length := by rw [hfl,List.length_append];simp
    have hfl2 : framesL (bl s) = (pre ++ [.ok t to]) ++ framesF (bl s) fuel to := by rw [hfl];simp
    rw [hR] at hnx
    unfold nextT at hnx
    have HN := hZ0 hnx;have HFL := hZ0 hfl2;have HLEN := hZ0 hlen
    clear hnx hR hcons hfl hlen hil hfl2
    gi_wp2_with (gi_at_call 172;(refine (callsIn_wide.2 (HN.out _)).mono ?_;rintro e w2 ⟨rfl,hk⟩;have HJ2 := hZ0 (HA.out _ _ _ HJ.out hk);have HB2 := hZ0 (HB.out.trans (KB.of_kept hk));clear hk;obtain ⟨fn,tmps,assign,body,hy,hR⟩ := HY.out pre (.ok t to) w2 HJ2.out HLEN.out;simp only [nextA] at hy))
    refine hR.mono ?_
    rintro e W3 (⟨rfl,hJ3,hk3⟩ | ⟨rfl,hJx3⟩)
    ·have HJ3 := hZ0 hJ3;have HB3 := hZ0 (HB2.out.trans hk3);clear hJ3 hk3
     gi_wp2
     refine wpIn_goto ?_
     refine ⟨rfl,⟨to,fuel - 1,pre ++ [.ok t to],_,_,_,_,_,_,_,_,_,_,_,_,_,_,_,_,_,_,_,_,_,_,_,_,_,_,rfl,by omega,by omega,HJ3.out,HB3.out,by rw [show fuel - 1 + 1 = fuel by omega];exact HFL.out⟩,?_⟩
     show (s.size - (slot3 _).toNat) < (s.size - (slot3 _).toNat)
     simp [slot3,intOf]
     omega
    ·have HJx3 := hZ0 hJx3;clear hJx3
     gi_wp2
     rw [jump_ret]
     refine bodyPost_ret (results_none rfl _ _ _) rfl ?_
     exact ⟨⟨_,rfl⟩,.inr ⟨_,by rw [HFL.out];exact List.prefix_append _ _,HJx3.out⟩⟩
end Fr
end Go.Proofs.YtgffjliedjhbaaaGreat
