/- Part 27. -/
import Derived.Test.YtgbigpdiacjbgaaGreatCZ25
set_option linter.unusedSimpArgs false
set_option linter.unusedVariables false
set_option maxHeartbeats 32000000
set_option maxRecDepth 100000
namespace Go.Proofs.YtgbigpdiacjbgaaGreat
open Go.RowKit
namespace Ask
open aJ Ops dG bQ MO Vn
structure oK(t:TS):Prop where
 ok:fF t
 b:Ops.chk ⟨t.cl,t.rq,t.bo⟩=0
 key:t.a.k=1\/t.a.k=2\/t.a.k=3->t.key.size<=8/\t.a.key.size<=8
 to:t.a.k=2->t.a.to.size<=8
 nd:t.a.k=1\/t.a.k=2\/t.a.k=3->0<=t.a.nd/\t.a.nd<4
 n:t.a.k=5\/t.a.k=6->0<=t.a.n/\t.a.n<=1073741824
 p0:t.ph=0->t.a.k=0\/t.a.k=3
 p1:t.ph=1->t.a.k=1\/t.a.k=2\/t.a.k=3
 p2:t.ph=2->t.a.k=4\/t.a.k=5\/t.a.k=6
 e:t.r.e≠0->t.r.ps=[]
 rq:t.dn=true->t.r.req=t.rq
 rl:t.r.ps.length<=1000
theorem uJ(l:List UInt8)(k:Nat):(Keys.nO l k).length<=k:=by
 induction k with
 |zero=>exact Nat.le_refl _
 |succ k ih=>
  unfold Keys.nO;split
  ·rw[lA0,List.length_take];show min k l.length+1<=k+1;omega
  ·omega
theorem wY(l:List UInt8):(Keys.nextL l).length<=8:=by
 unfold Keys.nextL;split
 ·rw[lA0];show l.length+1<=8;omega
 ·exact uJ l 8
theorem rD(l:List bP):(lX l).size<=8:=by
 unfold lX;split
 ·decide
 ·rw[<-dJ,gy];exact wY _
theorem oK.new{cl rq:Int}{a:bF}(hn:I64 a.n)(h:newE cl rq a=0):oK (newT cl rq a):=by
 have hok:=fF.new hn h;have hm:(0<=cl/\cl<3)/\(1<=rq/\rq<=1073741824)/\eG cl rq (aY a) a=true:=by
  unfold newE at h;split at h
  ·cases h
  split at h
  ·cases h
  split at h
  ·exact⟨by omega,by omega,by assumption⟩
  ·cases h
 obtain⟨h1,h2,hm⟩:=hm;have hb0:Ops.chk ⟨cl,rq,[]⟩=0:=by unfold Ops.chk;dsimp only[List.length_nil];rw[if_neg (by omega),if_neg (by omega),if_neg (by omega)];rfl
 unfold eG at hm;by_cases k0:a.k=0
 ·rw[if_pos k0]at hm;refine⟨hok,of_decide_eq_true hm,fun e=> ?_,fun e=> ?_,fun e=> ?_,fun e=> ?_,fun _=> .inl k0,fun e=> ?_,fun e=> ?_,fun e=>absurd rfl e,fun e=> ?_,by show(0:Nat)<=1000;decide⟩
  ·have e':a.k=1\/a.k=2\/a.k=3:=e;omega
  ·have e':a.k=2:=e;omega
  ·have e':a.k=1\/a.k=2\/a.k=3:=e;omega
  ·have e':a.k=5\/a.k=6:=e;omega
  ·have e':bD a=1:=e;unfold bD at e';rw[if_pos (.inl k0)]at e';cases e'
  ·have e':bD a=2:=e;unfold bD at e';rw[if_pos (.inl k0)]at e';cases e'
  ·cases e
 rw[if_neg k0]at hm;have pR:aY a=[]:=by unfold aY;rw[if_neg k0]
 have hb:Ops.chk ⟨cl,rq,aY a⟩=0:=by rw[pR];exact hb0
 by_cases k1:a.k=1\/a.k=3
 ·rw[if_pos k1]at hm;simp only[Bool.and_eq_true,decide_eq_true_eq]at hm;have hs:a.key.size<=8:=by
   have:=hm.2;unfold keyE at this;split at this
   ·cases this
   ·omega
  refine⟨hok,hb,fun _=>⟨hs,hs⟩,fun e=> ?_,fun _=>hm.1,fun e=> ?_,fun e=> ?_,fun e=> ?_,fun e=> ?_,fun e=>absurd rfl e,fun e=> ?_,by show(0:Nat)<=1000;decide⟩
  ·have e':a.k=2:=e;omega
  ·have e':a.k=5\/a.k=6:=e;omega
  ·have e':bD a=0:=e;unfold bD at e';by_cases k3:a.k=3
   ·exact .inr k3
   ·rw[if_neg (by omega),if_pos (by omega)]at e';cases e'
  ·show a.k=1\/a.k=2\/a.k=3;omega
  ·have e':bD a=2:=e;unfold bD at e';split at e'
   ·cases e'
   ·rw[if_pos (by omega)]at e';cases e'
  ·cases e
 rw[if_neg k1]at hm;by_cases k2:a.k=2
 ·rw[if_pos k2]at hm;simp only[Bool.and_eq_true,decide_eq_true_eq]at hm;have hp:bD a=1:=by unfold bD;rw[if_neg (by omega),if_pos (by omega)]
  refine⟨hok,hb,fun _=>⟨hm.2.1,hm.2.1⟩,fun _=>hm.2.2.1,fun _=>hm.1,fun e=> ?_,fun e=> ?_,fun e=> .inr (.inl k2),fun e=> ?_,fun e=>absurd rfl e,fun e=> ?_,by show(0:Nat)<=1000;decide⟩
  ·have e':a.k=5\/a.k=6:=e;omega
  ·have e':bD a=0:=e;omega
  ·have e':bD a=2:=e;omega
  ·cases e
 rw[if_neg k2]at hm;have hp:bD a=2:=by unfold bD;rw[if_neg (by omega),if_neg (by omega)]
 by_cases k5:a.k=5\/a.k=6
 ·rw[if_pos k5]at hm;simp only[Bool.and_eq_true,decide_eq_true_eq]at hm;refine⟨hok,hb,fun e=> ?_,fun e=>absurd e k2,fun e=> ?_,fun _=>hm,fun e=> ?_,fun e=> ?_,fun e=> .inr k5,fun e=>absurd rfl e,fun e=> ?_,by show(0:Nat)<=1000;decide⟩
  ·have e':a.k=1\/a.k=2\/a.k=3:=e;omega
  ·have e':a.k=1\/a.k=2\/a.k=3:=e;omega
  ·have e':bD a=0:=e;omega
  ·have e':bD a=1:=e;omega
  ·cases e
 ·rw[if_neg k5]at hm;have k4:a.k=4:=of_decide_eq_true hm;refine⟨hok,hb,fun e=> ?_,fun e=>absurd e k2,fun e=> ?_,fun e=>absurd e k5,fun e=> ?_,fun e=> ?_,fun e=> .inl k4,fun e=>absurd rfl e,fun e=> ?_,by show(0:Nat)<=1000;decide⟩
  ·have e':a.k=1\/a.k=2\/a.k=3:=e;omega
  ·have e':a.k=1\/a.k=2\/a.k=3:=e;omega
  ·have e':bD a=0:=e;omega
  ·have e':bD a=1:=e;omega
  ·cases e
theorem oK.end{t:TS}(h:oK t){r:kF}(he:r.e≠0->r.ps=[])(hl:r.ps.length<=1000):oK (kG t r):=
 ⟨h.ok.end r,h.b,h.key,h.to,h.nd,h.n,h.p0,h.p1,h.p2,he,fun _=>rfl,hl⟩
theorem oK.take{t:TS}(h:oK t)(f:Int)(x:aH):oK (qg t f x).1:=by
 have hok:=h.ok.take f x;unfold qg at hok⊢;split
 ·exact h
 rename_i hg;rw[if_neg hg]at hok;split
 ·rename_i hp;rw[if_pos hp]at hok;have hkk:=h.p0 hp;unfold tV at hok⊢;split
  ·exact h.end (fun _=>rfl) (by show(0:Nat)<=1000;decide)
  rename_i g1;rw[if_neg g1]at hok;split
  ·exact h
  rename_i g2;rw[if_neg g2]at hok;split
  ·exact h.end (fun e=>absurd rfl e) (by show(0:Nat)<=1000;decide)
  ·rename_i g3;rw[if_neg g3]at hok;have hk3:t.a.k=3:=by omega
   refine⟨hok,h.b,fun e=>⟨(h.key e).2,(h.key e).2⟩,h.to,h.nd,h.n,fun e=> ?_,fun _=> .inr (.inr hk3),fun e=> ?_,h.e,h.rq,h.rl⟩
   ·cases e
   ·cases e
 rename_i hp0;rw[if_neg hp0]at hok;split
 ·rename_i hp;rw[if_pos hp]at hok;unfold tX at hok⊢;split
  ·exact h.end (fun _=>rfl) (by show(0:Nat)<=1000;decide)
  rename_i g1;rw[if_neg g1]at hok;split
  ·exact h
  rename_i g2;rw[if_neg g2]at hok;split
  ·exact h.end (fun e=>absurd rfl e) (by show(x.ps.take 1).length<=1000;rw[List.length_take];omega)
  ·rename_i g3;rw[if_neg g3]at hok;have hk2:t.a.k=2:=by omega
   unfold qc at hok⊢;split
   ·rename_i g4;rw[if_pos g4]at hok;exact⟨hok,h.b,fun e=>⟨rD _,(h.key e).2⟩,h.to,h.nd,h.n,h.p0,h.p1,h.p2,h.e,h.rq,h.rl⟩
   ·rename_i g4;rw[if_neg g4]at hok;have hl:=hok.ps.1;exact⟨hok,h.b,h.key,h.to,h.nd,h.n,h.p0,h.p1,h.p2,fun e=>absurd rfl e,fun _=>rfl,by show(t.ps++bZ t x).length<=1000;exact Nat.le_trans hl (by decide)⟩
 ·unfold takeA;split
  ·exact h.end (fun e=>absurd rfl e) (by show(0:Nat)<=1000;decide)
  split
  ·exact h.end (fun _=>rfl) (by show(0:Nat)<=1000;decide)
  ·exact h
end Ask
namespace Cli
open aJ Ops dG bQ Vn Go.Proofs.YtgbigpdiacjbgaaGreat.Ask
def atOk(t:TS):Prop:=(0<=t.at'/\t.at'<=aO)/\(0<=t.a.at'/\t.a.at'<=aO)
theorem Dh{w:World}{t:TS}(h:atOk t)(ep hd:Int){A:Option Addr}{c:Nat}(hs:Src w 3 A (aU t ep hd).2.ops.length (cells (aU t ep hd).2.ops)):dM w {(aU t ep hd).2 with oA:=A,oc:=c}:=by
 have z0:(0:Int)<=0/\(0:Int)<=aO:=by unfold aO;decide
 have hz:∀x:aH,x.ms=[]->x.es=[]->x.ss=[]->x.ps=[]->x.last=0->x.iT=0->x.mc=0->(0<=x.at'/\x.at'<=aO)->Src w 3 A x.ops.length (cells x.ops)->dM w {x with oA:=A,oc:=c}:=fun x e1 e2 e3 e4 e5 e6 e7 ht hs=>by
  refine⟨by show Src w 2 x.mA x.ms.length _;rw[e1];exact Src.nil _ _ _,by show x.ms.length<=x.mc;rw[e1];exact Nat.zero_le _,by show x.ms.length<=1000;rw[e1];exact Nat.zero_le _,hs,by show Src w 4 x.eA x.es.length _;rw[e2];exact Src.nil _ _ _,fun y hy=> ?_,by show x.es.length<=1000;rw[e2];exact Nat.zero_le _,by show Src w 1 x.sA x.ss.length _;rw[e3];exact Src.nil _ _ _,by show x.ss.length<=1000;rw[e3];exact Nat.zero_le _,fun y hy=> ?_,by show Src w 2 x.pA x.ps.length _;rw[e4];exact Src.nil _ _ _,by show x.ps.length<=1000;rw[e4];exact Nat.zero_le _,ht,?_,?_⟩
  ·have hy':y∈x.es:=hy;rw[e2]at hy';cases hy'
  ·have hy':y∈x.ss:=hy;rw[e3]at hy';cases hy'
  ·show 0<=x.last/\x.last<=aO;rw[e5];exact z0
  ·show 0<=x.iT/\x.iT<=aO;rw[e6];exact z0
 refine hz _ ?_ ?_ ?_ ?_ ?_ ?_ ?_ ?_ hs;all_goals unfold aU
 all_goals repeat' split
 all_goals first|rfl|exact z0|exact h.1|exact h.2
def wZ(C:iq)(a:bF):iq:={C with req:=C.req+1,t:=some (newT C.id (C.req+1) a)}
def oL(C:iq)(a:bF):List eF:=bT [] (aU (newT C.id (C.req+1) a) C.ep C.hd).1 (aU (newT C.id (C.req+1) a) C.ep C.hd).2
theorem mO(L:List eF)(to:Int)(m:aH):(bT L to m).length<=L.length+1:=by
 unfold bT;split
 ·simp
 ·omega
attribute [local go_sem↓] jK
attribute [local go_sem] jL
section
variable{w w':World}{X X':CX}{C C':iq}
