/- Part 24 of what the proof needs. -/
import Derived.Test.YtolkgbafebehfaaGreatHP22
import Derived.RangeFuncNested
import Derived.RangeFuncBound
import Derived.RangeFuncCalls
import Derived.RangeFuncLeaves
import Derived.RangeFuncBox
import Derived.Shelf.Abstract
import Derived.Shelf.RegionOpen
import Derived.OwnWalkIn
import Derived.TacticsInMore
import Derived.LoopNIn
import Derived.LoopIn
import Derived.ScopeJumps
import Derived.WalkMore
import Derived.RegionIn
set_option linter.unusedSimpArgs false
set_option linter.unusedVariables false
set_option maxHeartbeats 32000000
set_option maxRecDepth 100000
namespace Go.Proofs.YtolkgbafebehfaaGreat
open Go.RowKit Go.Shelf
attribute [local go_sem] Oper.semAt_some
set_option maxRecDepth 100000
namespace Fr
open Vn Ops
def framesF (s : List UInt8) : Nat -> Nat -> List NextR
 | 0,_ => []
 | fuel + 1,i => if s.length <= i then [] else match nextR s i with
  | .bad e => [.bad e]
  | .ok t to => .ok t to :: framesF s fuel to
def framesL (s : List UInt8) : List NextR := framesF s (s.length + 1) 0
theorem nextR_to {s : List UInt8} {i to : Nat} {t : List UInt8} (h : nextR s i = .ok t to) : i < to /\ to <= s.length := by
 unfold nextR at h
 rcases get_cases s i with ⟨e,he,_⟩ | ⟨n,j,hj⟩
 ·rw [he] at h;cases h
 ·rw [hj] at h
  obtain ⟨h1,h2,_⟩ := put_get hj
  dsimp only at h
  split at h
  ·cases h
  ·split at h
   ·cases h
   ·split at h
    ·injection h with h3 h4
     omega
    ·cases h
def codeE (e : Nat) : Nat := if e = 0 then 2 else e
theorem codeE_ne (e : Nat) : codeE e ≠ 0 := by unfold codeE;split <;> omega
theorem codeE_eq {e : Nat} (h : e ≠ 0) : codeE e = e := if_neg h
def nextA : NextR -> Value
 | .bad e => .agg #[.string ⟨#[]⟩,.int .i64 0,.int .i64 (codeE e : Int)]
 | .ok t to => .agg #[.string (ofL t),.int .i64 (to : Int),.int .i64 0]
theorem wpIn_scope_jumps_wide {n : Nat} {P : Program} {a : Act} {w : World} {Q : Exit -> Act -> World -> Prop} {c rest : Code} (l : Nat) (J : Act -> World -> Prop) (μ : Act -> World -> Nat) (hf : findLabel c l = some rest)
  (first : c.wpIn Fence.wide n P (Exit.jump l J Q) a w)
  (pass : ∀ a w,J a w -> rest.wpIn Fence.wide n P (Exit.jump l (fun a' w' => J a' w' /\ μ a' w' < μ a w) Q) a w) : (Code.scope c).wpIn Fence.wide n P Q a w :=
 wpIn_wide.2 (wp_scope_jumps l J μ hf (wpIn_wide.1 first) fun a w h => wpIn_wide.1 (pass a w h))
theorem jump_ret {l : Nat} {J : Act -> World -> Prop} {Q : Exit -> Act -> World -> Prop} {a : Act} {w : World} : Exit.jump l J Q .ret a w = Q .ret a w := rfl
def slot3 (a : Act) : Int := intOf (a.tmps.getD 3 undef)
structure KB (Bn : Nat) (A B : World) : Prop where
 size : A.heap.size <= B.heap.size
 block : Bn < A.heap.size -> B.heap[Bn]? = A.heap[Bn]?
theorem KB.refl (Bn : Nat) (A : World) : KB Bn A A := ⟨Nat.le_refl _,fun _ => rfl⟩
theorem KB.trans {Bn : Nat} {A B C : World} (h : KB Bn A B) (k : KB Bn B C) : KB Bn A C := ⟨Nat.le_trans h.size k.size,fun hl => (k.block (Nat.lt_of_lt_of_le hl h.size)).trans (h.block hl)⟩
theorem KB.of_kept {Bn : Nat} {A B : World} (h : Kept NoF A B) : KB Bn A B := ⟨h.size,fun hl => h.block Bn hl (fun z => z)⟩
theorem KB.cell {Bn : Nat} {A B : World} (h : KB Bn A B) (hl : Bn < A.heap.size) (i : Nat) : B.cell? ⟨Bn,i,none⟩ = A.cell? ⟨Bn,i,none⟩ := World.cell?_of_block (h.block hl)
theorem KB.put {Bn : Nat} {w : World} (hl : Bn < w.heap.size) (W : World) (l : Nat) (o o' : Obj) (h : w.heap.size <= l) (_ : W.heap[l]? = some o) (_ : o.isCells = false) (_ : o.isWalk = false) : KB Bn W (W.putObj l o') :=
 ⟨Nat.le_of_eq (by simp [World.putObj]),fun _ => World.putObj_heap_other (by omega)⟩
theorem nextR_bad {s : List UInt8} {i e : Nat} (h : nextR s i = .bad e) : e ≠ 0 := by
 unfold nextR at h
 rcases get_cases s i with ⟨e',he,h24⟩ | ⟨n,j,hj⟩
 ·rw [he] at h
  injection h with h
  omega
 ·rw [hj] at h
  dsimp only at h
  split at h
  ·injection h with h;omega
  ·split at h
   ·injection h with h;omega
   ·split at h
    ·cases h
    ·injection h with h;omega
theorem frames1_in (n : Nat) (hn : 1 <= n) (l Bn : Nat) (s : ByteArray) (hs : s.size <= 1000000000) (J Jx : List NextR -> World -> Prop) (W : World) (hBn : W.cell? ⟨Bn,0,none⟩ = some (.string s)) (hlow : Bn < W.heap.size)
  (hA : ∀ pre A B,J pre A -> Kept NoF A B -> J pre B)
  (hY : ∀ pre x W,J pre W -> pre.length < (framesL (bl s)).length -> YieldAt Fence.wide (n - 1) Tryz.prog l #[nextA x] W fun e W' =>
   (e = .returned (.bool true) /\ J (pre ++ [x]) W' /\ KB Bn W W') \/ (e = .returned (.bool false) /\ Jx (pre ++ [x]) W'))
  (h0 : J [] W) :
  CallsIn Fence.wide n Tryz.prog 370 #[.func (.yield l) #[] #[],.pointer (some ⟨Bn,0,none⟩)] W fun e W' => (∃ v,e = .returned v) /\
   ((∃ ys,ys = framesL (bl s) /\ J ys W') \/ (∃ pre,pre <+: framesL (bl s) /\ Jx pre W')) := by
 have hfn : ∀ k,Fence.wide.fn k := fun _ => trivial
 have HA := hZ0 hA;have HY := hZ0 hY;have HBN := hZ0 hBn
 clear hA hY
 refine callsIn_of_wp Tryz.func370 rfl trivial ?_ rfl
 simp only [Tryz.ntmps370,List.size_toArray,List.length_cons,List.length_nil,Nat.reduceAdd,Nat.reduceSub,Array.replicate_succ,Array.replicate_zero,List.push_toArray,List.append_toArray,List.nil_append,List.cons_append]
 gi_wp2
 refine wpIn_scope_jumps_wide 0 (fun a' wr => ∃ (i fuel : Nat) (pre : List NextR) (u4 u5 u6 u7 u8 u9 u10 u11 u12 u13 u14 u15 u16 u17 u18 u19 u20 u21 u22 u23 u24 u25 u26 u27 u28 u29 : Value),a' = { tmps := #[.func (.yield l) #[] #[],.pointer (some ⟨Bn,0,none⟩),undef,.int .i64 (i : Int),u4,u5,u6,u7,u8,u9,u10,u11,u12,u13,u14,u15,u16,u17,u18,u19,u20,u21,u22,u23,u24,u25,u26,u27,u28,u29],defers := [] } /\ i <= s.size /\ s.size < i + (fuel + 1) /\ J pre wr /\ KB Bn W wr /\ framesL (bl s) = pre ++ framesF (bl s) (fuel + 1) i) (fun a' _ => s.size - (slot3 a').toNat) rfl ?first ?pass
 case first =>
  obtain ⟨fuel,hfuel⟩ : ∃ fuel,fuel = s.size := ⟨_,rfl⟩
  obtain ⟨pre,hpre⟩ : ∃ pre : List NextR,pre = [] := ⟨_,rfl⟩
  have hfl : framesL (bl s) = pre ++ framesF (bl s) (fuel + 1) 0 := by rw [hpre,hfuel];unfold framesL;rw [size_bl];rfl
  have HF := hZ0 hfl
  have HJ : Hid (J pre W) := hZ0 (by rw [hpre];exact h0)
  have HB := hZ0 (KB.refl Bn W)
  have c0 := hBn
  clear hfl h0 hpre hBn
  gi_wp2
  refine wpIn_label ?_
  by_cases hil : s.size <= 0
  ·have hil' : (s.size : Int) <= (0 : Int) := by omega
   have hemp : (s = ByteArray.empty) = True := eq_true (ByteArray.ext (Array.eq_empty_of_size_eq_zero (Nat.le_zero.1 hil)))
   have hnil : framesF (bl s) (fuel + 1) 0 = [] := by rw [framesF,if_pos (by rw [size_bl];exact hil)]
   have HNIL := hZ0 hnil;clear hnil
   gi_wp2
   rw [jump_ret]
   refine bodyPost_ret (results_none rfl _ _ _) rfl ?_
   exact ⟨⟨_,rfl⟩,.inl ⟨_,by rw [HF.out,HNIL.out,List.append_nil],HJ.out⟩⟩
  ·have hil' : ¬ (s.size : Int) <= (0 : Int) := by omega
   have hemp : (s = ByteArray.empty) = False := eq_false (fun e => by rw [e] at hil;exact hil (Nat.le_refl _))
   have hnx := fun W => next_any W s 0 (by omega) hs
   rcases hR : nextR (bl s) 0 with e0 | ⟨t,to⟩
   ·have hcons : framesF (bl s) (fuel + 1) 0 = [.bad e0] := by rw [framesF,if_neg (by rw [size_bl];exact hil),hR]
    have hfl := HF.out
    rw [hcons] at hfl
    have hlen : pre.length < (framesL (bl s)).length := by rw [hfl,List.length_append];simp
    rw [hR] at hnx
    have he0 : e0 ≠ 0 := nextR_bad hR
    have he1 : ((e0 : Int) != 0) = true := by simpa using he0
    unfold nextT at hnx
    have HN := hZ0 hnx;have HFL := hZ0 hfl;have HLEN := hZ0 hlen;have HE := hZ0 he1;have HE0 := hZ0 (codeE_eq he0)
    clear hnx hR hcons hfl hlen hil he0 he1
    gi_wp2_with (gi_at_call 208;(refine (callsIn_wide.2 (HN.out _)).mono ?_;rintro e w2 ⟨rfl,hk⟩;have HJ2 := hZ0 (HA.out _ _ _ HJ.out hk);have HB2 := hZ0 (HB.out.trans (KB.of_kept hk));clear hk;obtain ⟨fn,tmps,assign,body,hy,hR⟩ := HY.out pre (.bad e0) w2 HJ2.out HLEN.out;simp only [nextA,HE0.out] at hy))
    refine hR.mono ?_
    rintro e W3 (⟨rfl,hJ3,hk3⟩ | ⟨rfl,hJx3⟩)
    ·have HJ3 := hZ0 hJ3;clear hJ3 hk3
     have he1 := HE.out
     gi_wp2
     rw [jump_ret]
     refine bodyPost_ret (results_none rfl _ _ _) rfl ?_
     exact ⟨⟨_,rfl⟩,.inl ⟨_,HFL.out.symm,HJ3.out⟩⟩
    ·have HJx3 := hZ0 hJx3;clear hJx3
     gi_wp2
     rw [jump_ret]
     refine bodyPost_ret (results_none rfl _ _ _) rfl ?_
     exact ⟨⟨_,rfl⟩,.inr ⟨_,by rw [HFL.out];exact List.prefix_refl _,HJx3.out⟩⟩
   ·have hcons : framesF (bl s) (fuel + 1) 0 = .ok t to :: framesF (bl s) fuel to := by rw [framesF,if_neg (by rw [size_bl];exact hil),hR]
    have hto := nextR_to hR
    rw [size_bl] at hto
    have hfl := HF.out
    rw [hcons] at hfl
    have hlen : pre.length < (framesL (bl s)).length := by rw [hfl,List.length_append];simp
    have hfl2 : framesL (bl s) = (pre ++ [.ok t to]) ++ framesF (bl s) fuel to := by rw [hfl];simp
    rw [hR] at hnx
    unfold nextT at hnx
    have HN := hZ0 hnx;have HFL := hZ0 hfl2;have HLEN := hZ0 hlen
    clear hnx hR hcons hfl hlen hil hfl2
    gi_wp2_with (gi_at_call 208;(refine (callsIn_wide.2 (HN.out _)).mono ?_;rintro e w2 ⟨rfl,hk⟩;have HJ2 := hZ0 (HA.out _ _ _ HJ.out hk);have HB2 := hZ0 (HB.out.trans (KB.of_kept hk));clear hk;obtain ⟨fn,tmps,assign,body,hy,hR⟩ := HY.out pre (.ok t to) w2 HJ2.out HLEN.out;simp only [nextA] at hy))
    refine hR.mono ?_
    rintro e W3 (⟨rfl,hJ3,hk3⟩ | ⟨rfl,hJx3⟩)
    ·have HJ3 := hZ0 hJ3;have HB3 := hZ0 (HB2.out.trans hk3);clear hJ3 hk3
     gi_wp2
     refine wpIn_goto ?_
     exact ⟨rfl,⟨to,fuel - 1,pre ++ [.ok t to],_,_,_,_,_,_,_,_,_,_,_,_,_,_,_,_,_,_,_,_,_,_,_,_,_,_,rfl,by omega,by omega,HJ3.out,HB3.out,by rw [show fuel - 1 + 1 = fuel by omega];exact HFL.out⟩⟩
    ·have HJx3 := hZ0 hJx3;clear hJx3
     gi_wp2
     rw [jump_ret]
     refine bodyPost_ret (results_none rfl _ _ _) rfl ?_
     exact ⟨⟨_,rfl⟩,.inr ⟨_,by rw [HFL.out];exact List.prefix_append _ _,HJx3.out⟩⟩
 case pass =>
  rintro a' wr ⟨i,fuel,pre,u4,u5,u6,u7,u8,u9,u10,u11,u12,u13,u14,u15,u16,u17,u18,u19,u20,u21,u22,u23,u24,u25,u26,u27,u28,u29,rfl,hi,hfu,hJ,hB,hfl⟩
  have c0 : wr.cell? ⟨Bn,0,none⟩ = some (.string s) := (hB.cell hlow 0).trans HBN.out
  have HF := hZ0 hfl;have HJ := hZ0 hJ;have HB := hZ0 hB
  clear hfl hJ hB h0 hBn
  by_cases hil : s.size <= i
  ·have hil' : (s.size : Int) <= (i : Int) := by omega
   skip
   have hnil : framesF (bl s) (fuel + 1) i = [] := by rw [framesF,if_pos (by rw [size_bl];exact hil)]
   have HNIL := hZ0 hnil;clear hnil
   gi_wp2
   rw [jump_ret]
   refine bodyPost_ret (results_none rfl _ _ _) rfl ?_
   exact ⟨⟨_,rfl⟩,.inl ⟨_,by rw [HF.out,HNIL.out,List.append_nil],HJ.out⟩⟩
  ·have hil' : ¬ (s.size : Int) <= (i : Int) := by omega
   skip
   have hnx := fun W => next_any W s i (by omega) hs
   rcases hR : nextR (bl s) i with e0 | ⟨t,to⟩
   ·have hcons : framesF (bl s) (fuel + 1) i = [.bad e0] := by rw [framesF,if_neg (by rw [size_bl];exact hil),hR]
    have hfl := HF.out
    rw [hcons] at hfl
    have hlen : pre.length < (framesL (bl s)).length := by rw [hfl,List.length_append];simp
    rw [hR] at hnx
    have he0 : e0 ≠ 0 := nextR_bad hR
    have he1 : ((e0 : Int) != 0) = true := by simpa using he0
    unfold nextT at hnx
    have HN := hZ0 hnx;have HFL := hZ0 hfl;have HLEN := hZ0 hlen;have HE := hZ0 he1;have HE0 := hZ0 (codeE_eq he0)
    clear hnx hR hcons hfl hlen hil he0 he1
    gi_wp2_with (gi_at_call 208;(refine (callsIn_wide.2 (HN.out _)).mono ?_;rintro e w2 ⟨rfl,hk⟩;have HJ2 := hZ0 (HA.out _ _ _ HJ.out hk);have HB2 := hZ0 (HB.out.trans (KB.of_kept hk));clear hk;obtain ⟨fn,tmps,assign,body,hy,hR⟩ := HY.out pre (.bad e0) w2 HJ2.out HLEN.out;simp only [nextA,HE0.out] at hy))
    refine hR.mono ?_
    rintro e W3 (⟨rfl,hJ3,hk3⟩ | ⟨rfl,hJx3⟩)
    ·have HJ3 := hZ0 hJ3;clear hJ3 hk3
     have he1 := HE.out
     gi_wp2
     rw [jump_ret]
     refine bodyPost_ret (results_none rfl _ _ _) rfl ?_
     exact ⟨⟨_,rfl⟩,.inl ⟨_,HFL.out.symm,HJ3.out⟩⟩
    ·have HJx3 := hZ0 hJx3;clear hJx3
     gi_wp2
     rw [jump_ret]
     refine bodyPost_ret (results_none rfl _ _ _) rfl ?_
     exact ⟨⟨_,rfl⟩,.inr ⟨_,by rw [HFL.out];exact List.prefix_refl _,HJx3.out⟩⟩
   ·have hcons : framesF (bl s) (fuel + 1) i = .ok t to :: framesF (bl s) fuel to := by rw [framesF,if_neg (by rw [size_bl];exact hil),hR]
    have hto := nextR_to hR
    rw [size_bl] at hto
    have hfl := HF.out
    rw [hcons] at hfl
    have hlen : pre.length < (framesL (bl s)).length := by rw [hfl,List.length_append];simp
    have hfl2 : framesL (bl s) = (pre ++ [.ok t to]) ++ framesF (bl s) fuel to := by rw [hfl];simp
    rw [hR] at hnx
    unfold nextT at hnx
    have HN := hZ0 hnx;have HFL := hZ0 hfl2;have HLEN := hZ0 hlen
    clear hnx hR hcons hfl hlen hil hfl2
    gi_wp2_with (gi_at_call 208;(refine (callsIn_wide.2 (HN.out _)).mono ?_;rintro e w2 ⟨rfl,hk⟩;have HJ2 := hZ0 (HA.out _ _ _ HJ.out hk);have HB2 := hZ0 (HB.out.trans (KB.of_kept hk));clear hk;obtain ⟨fn,tmps,assign,body,hy,hR⟩ := HY.out pre (.ok t to) w2 HJ2.out HLEN.out;simp only [nextA] at hy))
    refine hR.mono ?_
    rintro e W3 (⟨rfl,hJ3,hk3⟩ | ⟨rfl,hJx3⟩)
    ·have HJ3 := hZ0 hJ3;have HB3 := hZ0 (HB2.out.trans hk3);clear hJ3 hk3
     gi_wp2
     refine wpIn_goto ?_
     refine ⟨rfl,⟨to,fuel - 1,pre ++ [.ok t to],_,_,_,_,_,_,_,_,_,_,_,_,_,_,_,_,_,_,_,_,_,_,_,_,_,_,rfl,by omega,by omega,HJ3.out,HB3.out,by rw [show fuel - 1 + 1 = fuel by omega];exact HFL.out⟩,?_⟩
     show (s.size - (slot3 _).toNat) < (s.size - (slot3 _).toNat)
     simp [slot3,intOf]
     omega
    ·have HJx3 := hZ0 hJx3;clear hJx3
     gi_wp2
     rw [jump_ret]
     refine bodyPost_ret (results_none rfl _ _ _) rfl ?_
     exact ⟨⟨_,rfl⟩,.inr ⟨_,by rw [HFL.out];exact List.prefix_append _ _,HJx3.out⟩⟩
end Fr
end Go.Proofs.YtolkgbafebehfaaGreat
namespace Go.Proofs.YtolkgbafebehfaaGreat
set_option maxRecDepth 100000
namespace Fr
open Vn Ops
theorem frameL_len (t : List UInt8) : (frameL t).length = (put t.length).length + 4 + t.length := by simp [frameL,mkN];omega
theorem next_frame (pre t rest : List UInt8) (ht : t.length <= 65536) : nextR (pre ++ frameL t ++ rest) pre.length = .ok t (pre.length + (frameL t).length) := by
 have e : pre ++ frameL t ++ rest = pre ++ put t.length ++ (mkN (sumN (put t.length ++ t)) ++ t ++ rest) := by simp [frameL]
 have hg := get_put pre (mkN (sumN (put t.length ++ t)) ++ t ++ rest) t.length (by omega)
 have hm : (mkN (sumN (put t.length ++ t))).length = 4 := rfl
 rw [frameL_len,e]
 generalize hp : put t.length = p at *
 generalize hmm : mkN (sumN (p ++ t)) = m at *
 unfold nextR
 rw [hg]
 dsimp only
 have d1 : (pre ++ p ++ (m ++ t ++ rest)).drop (pre.length + p.length) = m ++ t ++ rest := by
  rw [List.drop_append_of_le_length (by simp),List.drop_eq_nil_of_le (by simp)];rfl
 have d2 : (pre ++ p ++ (m ++ t ++ rest)).drop pre.length = p ++ (m ++ t ++ rest) := by simp
 have d3 : (pre ++ p ++ (m ++ t ++ rest)).drop (pre.length + p.length + 4) = t ++ rest := by
  rw [<- List.drop_drop,d1,<- hm];simp
 rw [if_neg (by omega),if_neg (by simp;omega),d1,d2,d3]
 have t1 : (m ++ t ++ rest).take 4 = m := by rw [<- hm];simp
 have t2 : (p ++ (m ++ t ++ rest)).take (pre.length + p.length - pre.length) = p := by rw [Nat.add_sub_cancel_left];simp
 have t3 : (t ++ rest).take t.length = t := by simp
 rw [t1,t2,t3,hmm,if_pos rfl]
 congr 1
 omega
theorem get_part (pre p : List UInt8) (n : Nat) (h : n < 18446744073709551616) (hp : p <+: put n) (hl : p.length < (put n).length) : Vn.get (pre ++ p) pre.length = .error 2 := by
 have h8 := needs_le8 h
 cases p with
 | nil => unfold Vn.get;rw [List.append_nil,List.getElem?_eq_none (Nat.le_refl _)]
 | cons b p =>
  by_cases hs : n < 248
  ·rw [put_small hs] at hl;simp at hl
  ·rw [put_big hs] at hp hl
   have hk := needs_pos n
   have hb : b = UInt8.ofNat (247 + needs n) := by
    obtain ⟨r,hr⟩ := hp
    simp only [byt,List.map_cons,List.cons_append] at hr
    exact (List.cons.inj hr).1
   have e2 : b.toNat = 247 + needs n := by rw [hb,UInt8.toNat_ofNat'];omega
   have hl2 : p.length < needs n := by simpa [byt,be_length] using hl
   unfold Vn.get
   rw [List.getElem?_append_right (Nat.le_refl _),Nat.sub_self]
   simp only [List.getElem?_cons_zero]
   rw [if_neg (by omega),if_pos (by simp;omega)]
theorem next_part (pre q t : List UInt8) (ht : t.length <= 65536) (hq : q <+: frameL t) (hl : q.length < (frameL t).length) : nextR (pre ++ q) pre.length = .bad 2 := by
 by_cases hp : q.length < (put t.length).length
 ·have h1 : q <+: put t.length := List.prefix_of_prefix_length_le hq (by unfold frameL;rw [List.append_assoc];exact List.prefix_append _ _) (by omega)
  unfold nextR
  rw [get_part pre q _ (by omega) h1 hp]
 ·have h1 : put t.length <+: q := List.prefix_of_prefix_length_le (by unfold frameL;rw [List.append_assoc];exact List.prefix_append _ _) hq (by omega)
  obtain ⟨r,rfl⟩ := h1
  unfold nextR
  rw [<- List.append_assoc,get_put pre r t.length (by omega)]
  dsimp only
  rw [frameL_len] at hl
  rw [if_neg (by omega),if_pos (by simp at hl ⊢;omega)]
def fileL (ts : List (List UInt8)) : List UInt8 := (ts.map frameL).flatten
theorem framesF_whole (q t' : List UInt8) (ht' : t'.length <= 65536) (hq : q <+: frameL t') (hl : q.length < (frameL t').length) : ∀ (ts : List (List UInt8)) (pre : List UInt8) (fuel : Nat),(∀ t ∈ ts,t.length <= 65536) -> ts.length + 1 <= fuel ->
  ∃ rs : List NextR,framesF (pre ++ fileL ts ++ q) fuel pre.length = rs ++ (if q = [] then [] else [.bad 2]) /\ rs.map (fun | .ok t _ => some t | .bad _ => none) = ts.map some
 | [],pre,fuel,_,hf => by
  obtain ⟨fuel,rfl⟩ : ∃ k,fuel = k + 1 := ⟨fuel - 1,by simp at hf;omega⟩
  refine ⟨[],?_,rfl⟩
  unfold framesF
  by_cases h : q = []
  ·subst h;simp [fileL]
  ·have : 0 < q.length := List.length_pos_iff.2 h
   have e : pre ++ fileL [] ++ q = pre ++ q := by simp [fileL]
   rw [e,if_neg (by simp;omega),next_part pre q t' ht' hq hl,if_neg h]
   rfl
 | t :: ts,pre,fuel,hb,hf => by
  obtain ⟨fuel,rfl⟩ : ∃ k,fuel = k + 1 := ⟨fuel - 1,by simp at hf;omega⟩
  obtain ⟨rs,h1,h2⟩ := framesF_whole q t' ht' hq hl ts (pre ++ frameL t) fuel (fun x hx => hb x (by simp [hx])) (by simp at hf;omega)
  have e : pre ++ fileL (t :: ts) ++ q = pre ++ frameL t ++ (fileL ts ++ q) := by simp [fileL]
  have e2 : pre ++ frameL t ++ fileL ts ++ q = pre ++ frameL t ++ (fileL ts ++ q) := by simp
  rw [e2] at h1
  refine ⟨.ok t (pre.length + (frameL t).length) :: rs,?_,by simp [h2]⟩
  rw [e]
  unfold framesF
  have hpos := frameL_len t
  rw [if_neg (by simp;omega),next_frame pre t _ (hb t (by simp))]
  dsimp only
  rw [List.length_append] at h1
  rw [h1]
  rfl
def okT : List NextR -> List (List UInt8)
 | .ok t _ :: l => t :: okT l
 | _ => []
def endAt : Nat -> List NextR -> Nat
 | _,.ok _ to :: l => endAt to l
 | a,_ => a
def endE : List NextR -> Nat
 | .ok _ _ :: l => endE l
 | .bad e :: _ => codeE e
 | [] => 0
def tcells (l : List (List UInt8)) : List Value := l.map fun t => .string (ofL t)
def allOk : List NextR -> Prop
 | .ok _ _ :: l => allOk l
 | .bad _ :: _ => False
 | [] => True
theorem okT_ok {pre : List NextR} (h : allOk pre) (t : List UInt8) (to : Nat) : okT (pre ++ [.ok t to]) = okT pre ++ [t] /\ (∀ a,endAt a (pre ++ [.ok t to]) = to) /\ allOk (pre ++ [.ok t to]) := by
 induction pre with
 | nil => exact ⟨rfl,fun _ => rfl,trivial⟩
 | cons x pre ih =>
  cases x with
  | bad e => exact h.elim
  | ok t' to' =>
   obtain ⟨h1,h2,h3⟩ := ih h
   exact ⟨by show t' :: okT (pre ++ _) = t' :: okT pre ++ [t];rw [h1];rfl,fun a => h2 to',h3⟩
theorem okT_bad {p : List NextR} (h : allOk p) (e : Nat) (r : List NextR) : okT (p ++ .bad e :: r) = okT p /\ (∀ a,endAt a (p ++ .bad e :: r) = endAt a p) /\ endE (p ++ .bad e :: r) = codeE e := by
 induction p with
 | nil => exact ⟨rfl,fun _ => rfl,rfl⟩
 | cons x p ih =>
  cases x with
  | bad e => exact h.elim
  | ok t' to' =>
   obtain ⟨h1,h2,h3⟩ := ih h
   exact ⟨by show t' :: okT (p ++ _) = t' :: okT p;rw [h1],fun a => h2 to',h3⟩
theorem endE_ok {p : List NextR} (h : allOk p) : endE p = 0 := by
 induction p with
 | nil => rfl
 | cons x p ih =>
  cases x with
  | bad e => exact h.elim
  | ok t' to' => exact ih h
theorem okT_len (p : List NextR) : (okT p).length <= p.length := by
 induction p with
 | nil => exact Nat.le_refl _
 | cons x p ih =>
  cases x with
  | bad e => exact Nat.zero_le _
  | ok t' to' => show (okT p).length + 1 <= p.length + 1;omega
theorem framesF_len (s : List UInt8) : ∀ (fuel i : Nat),(framesF s fuel i).length <= fuel
 | 0,_ => Nat.le_refl _
 | fuel + 1,i => by
  unfold framesF
  split
  ·exact Nat.zero_le _
  ·split
   ·simp
   ·have := framesF_len s fuel;simp;exact this _
theorem fileL_len (ts : List (List UInt8)) : ts.length <= (fileL ts).length := by
 induction ts with
 | nil => exact Nat.zero_le _
 | cons t ts ih =>
  have e : fileL (t :: ts) = frameL t ++ fileL ts := by simp [fileL]
  have := frameL_len t
  rw [e,List.length_append,List.length_cons]
  omega
theorem framesF_all (q t' : List UInt8) (ht' : t'.length <= 65536) (hq : q <+: frameL t') (hl : q.length < (frameL t').length) : ∀ (ts : List (List UInt8)) (pre : List UInt8) (fuel : Nat),(∀ t ∈ ts,t.length <= 65536) -> ts.length + 1 <= fuel ->
  okT (framesF (pre ++ fileL ts ++ q) fuel pre.length) = ts /\ endAt pre.length (framesF (pre ++ fileL ts ++ q) fuel pre.length) = pre.length + (fileL ts).length /\ endE (framesF (pre ++ fileL ts ++ q) fuel pre.length) = if q = [] then 0 else codeE 2
 | [],pre,fuel,_,hf => by
  obtain ⟨fuel,rfl⟩ : ∃ k,fuel = k + 1 := ⟨fuel - 1,by simp at hf;omega⟩
  unfold framesF
  by_cases h : q = []
  ·subst h;simp [fileL,okT,endAt,endE]
  ·have : 0 < q.length := List.length_pos_iff.2 h
   have e : pre ++ fileL [] ++ q = pre ++ q := by simp [fileL]
   rw [e,if_neg (by simp;omega),next_part pre q t' ht' hq hl,if_neg h]
   exact ⟨rfl,rfl,rfl⟩
 | t :: ts,pre,fuel,hb,hf => by
  obtain ⟨fuel,rfl⟩ : ∃ k,fuel = k + 1 := ⟨fuel - 1,by simp at hf;omega⟩
  obtain ⟨h1,h2,h3⟩ := framesF_all q t' ht' hq hl ts (pre ++ frameL t) fuel (fun x hx => hb x (by simp [hx])) (by simp at hf;omega)
  have e0 : fileL (t :: ts) = frameL t ++ fileL ts := by simp [fileL]
  have e : pre ++ fileL (t :: ts) ++ q = pre ++ frameL t ++ (fileL ts ++ q) := by simp [fileL]
  have e2 : pre ++ frameL t ++ fileL ts ++ q = pre ++ frameL t ++ (fileL ts ++ q) := by simp
  rw [e2,List.length_append] at h1 h2 h3
  rw [e]
  unfold framesF
  have hpos := frameL_len t
  rw [if_neg (by simp;omega),next_frame pre t _ (hb t (by simp))]
  dsimp only
  refine ⟨by show t :: okT _ = _;rw [h1],?_,h3⟩
  show endAt (pre.length + (frameL t).length) _ = _
  rw [h2,e0,List.length_append]
  omega
theorem all_whole (ts : List (List UInt8)) (q t' : List UInt8) (hb : ∀ t ∈ ts,t.length <= 65536) (ht' : t'.length <= 65536) (hq : q <+: frameL t') (hl : q.length < (frameL t').length) :
  okT (framesL (fileL ts ++ q)) = ts /\ endAt 0 (framesL (fileL ts ++ q)) = (fileL ts).length /\ endE (framesL (fileL ts ++ q)) = if q = [] then 0 else codeE 2 := by
 have h := framesF_all q t' ht' hq hl ts [] ((fileL ts ++ q).length + 1) hb (by have := fileL_len ts;simp;omega)
 simpa [framesL] using h
end Fr
end Go.Proofs.YtolkgbafebehfaaGreat
namespace Go.Proofs.YtolkgbafebehfaaGreat
set_option maxRecDepth 100000
namespace Fr
theorem wpOpIn_inRound {F : Fence} {n : Nat} {P : Program} {ops : Array Oper} {Q : Exit -> Act -> World -> Prop} {i l : Nat} {K : Act -> World -> Prop} {a : Act} {w : World} (hro : F.round = none) (hd : ∀ (j : Nat) (o : Oper),ops[j]? = some o -> ∀ c,o.op ≠ .defer c)
  (h : wpOpIn F n P ops Q i K a w) : wpOpIn (F.inRound l) n P ops Q i K a w := by
 unfold wpOpIn at *
 cases ho : ops[i]? with
 | none => simpa only [ho] using h
 | some o =>
  simp only [ho] at h ⊢
  split
  ·rename_i hw
   simp only [hw,if_true] at h
   unfold Oper.wpIn at *
   refine ⟨h.1,?_⟩
   have h2 := h.2
   rw [hro,Oper.semAt_none] at h2
   show o.uponIn (F.inRound l) n P a K Q ((o.semAt (some l) a.eval).run P w)
   rw [Oper.semAt_some l _ _ (hd i o ho)]
   exact h2
  ·rename_i hw
   simp only [hw] at h
   exact h
theorem wpAnyIn_inRound {F : Fence} {n : Nat} {P : Program} {md : Region.Mode} {ops : Array Oper} {Q : Exit -> Act -> World -> Prop} {l : Nat} (hro : F.round = none) (hd : ∀ (j : Nat) (o : Oper),ops[j]? = some o -> ∀ c,o.op ≠ .defer c) :
  ∀ (fuel : Nat) (listed : Array Bool) (a : Act) (w : World),wpAnyIn F n P md ops Q fuel listed a w -> wpAnyIn (F.inRound l) n P md ops Q fuel listed a w := by
 intro fuel
 induction fuel with
 | zero => intro listed a w h;exact h
 | succ fuel ih =>
  intro listed a w h
  exact ⟨h.1,fun i hi => wpOpIn_inRound hro hd (wpOpIn_mono (fun a w => ih _ a w) (h.2 i hi))⟩
theorem wpIn_region_round {F : Fence} {n : Nat} {P : Program} {ops : List Oper} {Q : Exit -> Act -> World -> Prop} {l id : Nat} {a : Act} {w : World} (hro : F.round = none) (hm : P.follows .mixedOrders = true) (hd : ∀ o ∈ ops,∀ c,o.op ≠ .defer c)
  (h : wpAnyIn F n P .any ops.toArray Q ops.toArray.size (Array.replicate ops.toArray.size false) a w.drew) : (Code.region id ops.toArray true).wpIn (F.inRound l) n P Q a w :=
 wpIn_region_any hm (wpAnyIn_inRound hro (fun j o ho => hd o (by
  have := Array.mem_of_getElem? ho
  simpa using this)) _ _ _ _ h)
end Fr
end Go.Proofs.YtolkgbafebehfaaGreat
