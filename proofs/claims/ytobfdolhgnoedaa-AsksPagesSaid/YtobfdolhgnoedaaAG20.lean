/- Part 21 of what the proof needs. -/
import Derived.Test.YtobfdolhgnoedaaAG02
import Derived.Test.YtobfdolhgnoedaaAG12
import Derived.Test.YtobfdolhgnoedaaAG19
import Derived.Deep.QuietTactic
set_option linter.unusedSimpArgs false
set_option linter.unusedVariables false
set_option maxHeartbeats 32000000
set_option maxRecDepth 100000
namespace Go.Proofs.Ytobfdolhgnoedaa
open Go.RowKit
set_option maxRecDepth 100000
namespace Ask
open Plan Ops Ent Msg MO Vn
theorem TOk.new {cl rq : Int} {a : AskR} (hn : I64 a.n) (h : newE cl rq a = 0) : TOk (newT cl rq a) := by
 have hm : mayB cl rq (boOf a) a = true := by
  unfold newE at h
  split at h
  ·cases h
  split at h
  ·cases h
  split at h
  ·assumption
  ·cases h
 refine ⟨hn,⟨by show (0 : Nat) <= 32;decide,fun hk => ?_⟩,by show (0 : Int) <= 0 /\ (0 : Int) <= 1073741824;decide,?_,fun hk => ?_,fun _ => rfl⟩
 ·have hk' : a.k = 2 := hk
  unfold mayB at hm
  rw [if_neg (by omega),if_neg (by omega),if_pos hk'] at hm
  simp only [Bool.and_eq_true,decide_eq_true_eq] at hm
  show ((0 : Nat) : Int) <= a.n
  omega
 ·show phOf a <= 2
  unfold phOf
  split
  ·omega
  ·split <;> omega
 ·have hk' : a.k = 2 := hk
  unfold mayB at hm
  rw [if_neg (by omega),if_neg (by omega),if_pos hk'] at hm
  simp only [Bool.and_eq_true,decide_eq_true_eq] at hm
  exact ⟨hm.2.2.2.1,hm.2.2.2.2⟩
theorem TOk.end {t : TS} (h : TOk t) (r : RepR) : TOk (endT t r) := ⟨h.n,h.ps,h.wt,h.ph,h.n1,h.np⟩
theorem TOk.page {t : TS} (h : TOk t) (hk : t.a.k = 2) (x : MsgR) : TOk (pageT t x).1 := by
 obtain ⟨_,h2,_,h4⟩ := pageL_len h hk x
 have h5 := h.n1 hk
 have hl : (t.ps ++ pageL t x).length = t.ps.length + (pageL t x).length := List.length_append
 unfold pageT
 split
 ·exact ⟨h.n,⟨by show (t.ps ++ pageL t x).length <= 32;rw [hl];omega,fun _ => by show ((t.ps ++ pageL t x).length : Int) <= t.a.n;rw [hl];exact h4⟩,by show (0 : Int) <= 0 /\ (0 : Int) <= 1073741824;decide,h.ph,h.n1,fun e => absurd hk e⟩
 ·exact ⟨h.n,⟨by show (t.ps ++ pageL t x).length <= 32;rw [hl];omega,fun _ => by show ((t.ps ++ pageL t x).length : Int) <= t.a.n;rw [hl];exact h4⟩,by show (0 : Int) <= 0 /\ (0 : Int) <= 1073741824;decide,h.ph,h.n1,fun e => absurd hk e⟩
theorem TOk.take {t : TS} (h : TOk t) (f : Int) (x : MsgR) : TOk (takeT t f x).1 := by
 unfold takeT
 split
 ·exact h
 split
 ·unfold takeW
  split
  ·exact h.end _
  split
  ·exact h
  split
  ·exact h.end _
  ·exact ⟨h.n,⟨by show (0 : Nat) <= 32;decide,fun hk => by have := h.n1 hk;show ((0 : Nat) : Int) <= t.a.n;omega⟩,by show (0 : Int) <= 0 /\ (0 : Int) <= 1073741824;decide,by show 1 <= 2;decide,h.n1,fun _ => rfl⟩
 split
 ·unfold takeR
  split
  ·exact h.end _
  split
  ·exact h
  split
  ·exact h.end _
  ·rename_i hk
   exact h.page (by omega) x
 ·unfold takeA
  split
  ·exact h.end _
  split
  ·exact h.end _
  ·exact h
def askA : AskR := ⟨2,1,⟨#[]⟩,⟨#[]⟩,5,3,none,0,[]⟩
def prsA : List PairR := [⟨⟨#[97]⟩,⟨#[]⟩⟩,⟨⟨#[98]⟩,⟨#[]⟩⟩]
def msgA (b : Nat) (c : Nat) : MsgR := { zmsg with k := 10,req := 3,at' := 5,fl := true,pA := some ⟨b,0,none⟩,pc := c,ps := prsA }
theorem askA_ok : newE 0 3 askA = 0 := by decide
theorem askA_next : nextT (newT 0 3 askA) 0 (-1) = (1,{ zmsg with k := 9,req := 3,at' := 5,n := 2 }) := rfl
theorem askA_goes (b c : Nat) : goesOn (newT 0 3 askA) (msgA b c) = true := by
 have h1 : nextKey prsA = ⟨#[98,0]⟩ := by unfold nextKey prsA;rfl
 have h2 : pageL (newT 0 3 askA) (msgA b c) = prsA := by unfold pageL;rfl
 unfold goesOn
 rw [h2,h1]
 show (true && (decide (0 < 2) && (decide (((0 + 2 : Nat) : Int) < 3) && decide ((⟨#[98,0]⟩ : ByteArray) ≠ emp)))) = true
 decide
def tsA : TS := ⟨0,3,askA,[],1,5,⟨#[98,0]⟩,prsA,0,false,rep0⟩
theorem askA_take (b c : Nat) : takeT (newT 0 3 askA) 1 (msgA b c) = (tsA,true) := by
 have h1 : takeT (newT 0 3 askA) 1 (msgA b c) = pageT (newT 0 3 askA) (msgA b c) := rfl
 rw [h1]
 unfold pageT
 rw [if_pos (askA_goes b c)]
 rfl
theorem askA_next2 : nextT tsA 0 (-1) = (1,{ zmsg with k := 9,req := 3,key := ⟨#[98,0]⟩,at' := 5,n := 1 }) := rfl
end Ask
namespace Ask
open Plan Ops Ent Msg MO Vn
attribute [local go_sem ↓] storeVar_msg loadVar_msg
section
variable (w : World) (x : MsgR)
structure Sends (w : World) (x : MsgR) : Prop where
 k : x.k = 5 \/ x.k = 8 \/ x.k = 9 \/ x.k = 11 \/ x.k = 12 \/ x.k = 13 \/ x.k = 15
 e : 0 <= x.ep /\ x.ep <= 1073741824
 r : 0 <= x.req /\ x.req <= 1073741824
 n : 0 <= x.n /\ x.n <= 1073741824
 key : x.key.size <= 8
 to : x.to.size <= 8
 s : Src w 3 x.oA x.ops.length (cells x.ops)
 c : x.ops.length <= x.oc
 b : x.k = 5 -> Ops.chk (xbat x) = 0
end
theorem Sends.kept {w w' : World} {x : MsgR} (h : Sends w x) (hk : Kept NoF w w') : Sends w' x := ⟨h.k,h.e,h.r,h.n,h.key,h.to,h.s.kept hk (fun _ _ z => z),h.c,h.b⟩
attribute [local go_sem] run_loadMsg
end Ask
namespace Ask
open Plan Ops Ent Msg MO Vn
structure JOk (t : TS) : Prop where
 ok : TOk t
 b : Ops.chk ⟨t.cl,t.rq,t.bo⟩ = 0
 key : t.a.k = 1 \/ t.a.k = 2 \/ t.a.k = 3 -> t.key.size <= 8 /\ t.a.key.size <= 8
 to : t.a.k = 2 -> t.a.to.size <= 8
 nd : t.a.k = 1 \/ t.a.k = 2 \/ t.a.k = 3 -> 0 <= t.a.nd /\ t.a.nd < 4
 n : t.a.k = 5 \/ t.a.k = 6 -> 0 <= t.a.n /\ t.a.n <= 1073741824
 p0 : t.ph = 0 -> t.a.k = 0 \/ t.a.k = 3
 p1 : t.ph = 1 -> t.a.k = 1 \/ t.a.k = 2 \/ t.a.k = 3
 p2 : t.ph = 2 -> t.a.k = 4 \/ t.a.k = 5 \/ t.a.k = 6
 e : t.r.e ≠ 0 -> t.r.ps = []
 rq : t.dn = true -> t.r.req = t.rq
 rl : t.r.ps.length <= 1000
theorem nextAt_len (l : List UInt8) (k : Nat) : (Keys.nextAt l k).length <= k := by
 induction k with
 | zero => exact Nat.le_refl _
 | succ k ih =>
  unfold Keys.nextAt
  split
  ·rw [List.length_append,List.length_take];show min k l.length + 1 <= k + 1;omega
  ·omega
theorem nextL_len (l : List UInt8) : (Keys.nextL l).length <= 8 := by
 unfold Keys.nextL
 split
 ·rw [List.length_append];show l.length + 1 <= 8;omega
 ·exact nextAt_len l 8
theorem nextKey_size (l : List PairR) : (nextKey l).size <= 8 := by
 unfold nextKey
 split
 ·decide
 ·rw [<- size_bl,bl_ofL];exact nextL_len _
theorem JOk.end {t : TS} (h : JOk t) {r : RepR} (he : r.e ≠ 0 -> r.ps = []) (hl : r.ps.length <= 1000) : JOk (endT t r) :=
 ⟨h.ok.end r,h.b,h.key,h.to,h.nd,h.n,h.p0,h.p1,h.p2,he,fun _ => rfl,hl⟩
theorem JOk.take {t : TS} (h : JOk t) (f : Int) (x : MsgR) : JOk (takeT t f x).1 := by
 have hok := h.ok.take f x
 unfold takeT at hok ⊢
 split
 ·exact h
 rename_i hg
 rw [if_neg hg] at hok
 split
 ·rename_i hp
  rw [if_pos hp] at hok
  have hkk := h.p0 hp
  unfold takeW at hok ⊢
  split
  ·exact h.end (fun _ => rfl) (by show (0 : Nat) <= 1000;decide)
  rename_i g1
  rw [if_neg g1] at hok
  split
  ·exact h
  rename_i g2
  rw [if_neg g2] at hok
  split
  ·exact h.end (fun e => absurd rfl e) (by show (0 : Nat) <= 1000;decide)
  ·rename_i g3
   rw [if_neg g3] at hok
   have hk3 : t.a.k = 3 := by omega
   refine ⟨hok,h.b,fun e => ⟨(h.key e).2,(h.key e).2⟩,h.to,h.nd,h.n,fun e => ?_,fun _ => .inr (.inr hk3),fun e => ?_,h.e,h.rq,h.rl⟩
   ·cases e
   ·cases e
 rename_i hp0
 rw [if_neg hp0] at hok
 split
 ·rename_i hp
  rw [if_pos hp] at hok
  unfold takeR at hok ⊢
  split
  ·exact h.end (fun _ => rfl) (by show (0 : Nat) <= 1000;decide)
  rename_i g1
  rw [if_neg g1] at hok
  split
  ·exact h
  rename_i g2
  rw [if_neg g2] at hok
  split
  ·exact h.end (fun e => absurd rfl e) (by show (x.ps.take 1).length <= 1000;rw [List.length_take];omega)
  ·rename_i g3
   rw [if_neg g3] at hok
   have hk2 : t.a.k = 2 := by omega
   unfold pageT at hok ⊢
   split
   ·rename_i g4
    rw [if_pos g4] at hok
    exact ⟨hok,h.b,fun e => ⟨nextKey_size _,(h.key e).2⟩,h.to,h.nd,h.n,h.p0,h.p1,h.p2,h.e,h.rq,h.rl⟩
   ·rename_i g4
    rw [if_neg g4] at hok
    have hl := hok.ps.1
    exact ⟨hok,h.b,h.key,h.to,h.nd,h.n,h.p0,h.p1,h.p2,fun e => absurd rfl e,fun _ => rfl,by show (t.ps ++ pageL t x).length <= 1000;exact Nat.le_trans hl (by decide)⟩
 ·unfold takeA
  split
  ·exact h.end (fun e => absurd rfl e) (by show (0 : Nat) <= 1000;decide)
  split
  ·exact h.end (fun _ => rfl) (by show (0 : Nat) <= 1000;decide)
  ·exact h
end Ask
end Go.Proofs.Ytobfdolhgnoedaa
