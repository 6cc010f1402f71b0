/- Part 7. -/
import Derived.Test.YtgbigpdiacjbgaaGreatCZ05
set_option linter.unusedSimpArgs false
set_option linter.unusedVariables false
set_option maxHeartbeats 32000000
set_option maxRecDepth 100000
namespace Go.Proofs.YtgbigpdiacjbgaaGreat
open Go.RowKit
namespace bQ
open aJ Ops dG Vn
structure aH where
 k:Int
 ep:Int
 req:Int
 jQ:Int
 fl:Bool
 at':Int
 last:Int
 n:Int
 m:Int
 p:Int
 e:Int
 key:ByteArray
 to:ByteArray
 jr:Int
 mA:Option Addr
 mc:Nat
 ms:List Mem
 iT:Int
 qG:Int
 ng:Int
 oA:Option Addr
 oc:Nat
 ops:List aS
 eA:Option Addr
 ec:Nat
 es:List dA
 sA:Option Addr
 sc:Nat
 ss:List Int
 pA:Option Addr
 pc:Nat
 ps:List bP
def tK(l:List Int):List Value:=l.map (Value.int .u64)
def au(x:aH):List Value:=[.int .i64 x.k,.int .i64 x.ep,.int .i64 x.req,.int .i64 x.jQ,.bool x.fl,.int .u64 x.at',.int .u64 x.last,.int .i64 x.n,.int .i64 x.m,.int .i64 x.p,.int .i64 x.e,.string x.key,.string x.to,
 .int .i64 x.jr,.slice x.mA x.ms.length x.mc,.int .u64 x.iT,.int .i64 x.qG,.int .i64 x.ng,.slice x.oA x.ops.length x.oc,.slice x.eA x.es.length x.ec,.slice x.sA x.ss.length x.sc,.slice x.pA x.ps.length x.pc]
abbrev bn(x:aH):Value:=.agg (au x).toArray
def eX(x:aH):Batch:=⟨x.qG,x.ng,x.ops⟩
structure dM(w:World)(x:aH):Prop where
 m:Src w 2 x.mA x.ms.length (aZ x.ms)
 mc:x.ms.length<=x.mc
 ml:x.ms.length<=1000
 o:Src w 3 x.oA x.ops.length (cells x.ops)
 e:Src w 4 x.eA x.es.length (jP x.es)
 eo:∀y∈x.es,Src w 3 y.A y.ops.length (cells y.ops)/\0<=y.ts/\y.ts<=aO
 el:x.es.length<=1000
 s:Src w 1 x.sA x.ss.length (tK x.ss)
 sl:x.ss.length<=1000
 so:∀y∈x.ss,0<=y/\y<=aO
 p:Src w 2 x.pA x.ps.length (dO x.ps)
 pl:x.ps.length<=1000
 t:(0<=x.at'/\x.at'<=aO)/\(0<=x.last/\x.last<=aO)/\(0<=x.iT/\x.iT<=aO)
theorem dM.kept{w w':World}{x:aH}(h:dM w x)(hk:Kept aj w w'):dM w' x:=
 ⟨h.m.kept hk (fun _ _ z=>z),h.mc,h.ml,h.o.kept hk (fun _ _ z=>z),h.e.kept hk (fun _ _ z=>z),fun y hy=>⟨(h.eo y hy).1.kept hk (fun _ _ z=>z),(h.eo y hy).2⟩,h.el,h.s.kept hk (fun _ _ z=>z),h.sl,h.so,h.p.kept hk (fun _ _ z=>z),h.pl,h.t⟩
def AP:List (List Nat):=[[],[67,97],[101,115,102,97,108],[101,110,109,112,114,97,69],[101,110,109,112,83],[101,66],[114,97],[114,120,101,110],[114,107,97],[114,107,116,97,110],[114,107,97,102,82],[114,97],[114,110],[114,110],[114,110],[]]
def isKind(k:Int):Bool:=decide (1<=k/\k<=15)
def partsOf(k:Int):List Nat:=if 1<=k/\k<=15 then AP.getD k.toNat []else []
def letters:List Nat:=[67,97,101,115,102,108,110,109,112,114,69,83,66,120,107,116,82]
theorem kM(k:Int):∀c∈partsOf k,c∈letters:=by
 unfold partsOf;by_cases h:1<=k/\k<=15
 ·rw[if_pos h];have:k=1\/k=2\/k=3\/k=4\/k=5\/k=6\/k=7\/k=8\/k=9\/k=10\/k=11\/k=12\/k=13\/k=14\/k=15:=by omega
  rcases this with rfl|rfl|rfl|rfl|rfl|rfl|rfl|rfl|rfl|rfl|rfl|rfl|rfl|rfl|rfl<;>decide
 ·rw[if_neg h];intro c hc;simp at hc
theorem pG(k:Int):(partsOf k).length<=7:=by
 unfold partsOf;by_cases h:1<=k/\k<=15
 ·rw[if_pos h];have:k=1\/k=2\/k=3\/k=4\/k=5\/k=6\/k=7\/k=8\/k=9\/k=10\/k=11\/k=12\/k=13\/k=14\/k=15:=by omega
  rcases this with rfl|rfl|rfl|rfl|rfl|rfl|rfl|rfl|rfl|rfl|rfl|rfl|rfl|rfl|rfl<;>decide
 ·rw[if_neg h];decide
def lets(l:List Nat):ByteArray:=bJ (gu l)
def eY(x:aH)(c:Nat):Int:=if c=101 then x.ep else if c=115 then x.jQ else if c=114 then x.req else if c=110 then x.n else if c=109 then x.m else x.p
def isNum(c:Nat):Bool:=decide (c=101\/c=115\/c=114\/c=110\/c=109\/c=112)
def numAt(c:Nat):Nat:=if c=101 then 1 else if c=115 then 3 else if c=114 then 2 else if c=110 then 7 else if c=109 then 8 else 9
def aK{α:Type}(f:α->Int):List α->Int
 |[]=>0
 |a::l=>if f a=0 then aK f l else f a
theorem kE{α:Type}(f:α->Int){l:List α}{i:Nat}{a:α}(h:l[i]? =some a):aK f (l.drop i)=if f a=0 then aK f (l.drop (i+1))else f a:=by obtain⟨hi,rfl⟩:=lD0.1 h;rw[List.drop_eq_getElem_cons hi,aK]
theorem jh{α:Type}{f:α->Int}{l:List α}(h:aK f l=0):∀a∈l,f a=0:=by
 induction l with
 |nil=>intro a ha;cases ha
 |cons b l ih=>
  rw[aK]at h;by_cases hb:f b=0
  ·rw[if_pos hb]at h;intro a ha;rcases List.mem_cons.1 ha with rfl|ha
   ·exact hb
   ·exact ih h a ha
  ·rw[if_neg hb]at h;exact absurd h hb
def keyE(s:ByteArray):Int:=if s.size<1\/8<s.size then 10 else 0
def dS(p:bP):Int:=if keyE p.key≠0 then keyE p.key else if 8<p.val.size then 3 else 0
def qH(n:Int):Int:=if n<0\/1073741824<n then 5 else 0
def aG(x:aH)(c:Nat):Int:=
 if isNum c=true then qH (eY x c)
 else if c=120 then (if x.e<0\/21<x.e then 1 else 0)
 else if c=107 then (if 8<x.key.size then 3 else 0)
 else if c=116 then (if 8<x.to.size then 3 else 0)
 else if c=67 then aJ.chk x.jr x.ms
 else if c=66 then Ops.chk (eX x)
 else if c=69 then (if 4<x.es.length then 6 else aK (fun y=>Ops.chk (dK y)) x.es)
 else if c=83 then (if 8<x.ss.length then 6 else 0)
 else if c=82 then (if 32<x.ps.length then 6 else aK dS x.ps)
 else 0
def fA(x:aH):Int:=if isKind x.k=true then aK (aG x) (partsOf x.k)else 11
def xK(ep:Int)(ms:List Mem)(fl:Int):List UInt8:=put ep.toNat++put ms.length++(ms.flatMap fun m=>put m.1.toNat++put m.2.toNat)++put fl.toNat
def gG(ep:Int)(ms:List Mem)(fl:Int):ByteArray:=if aJ.chk ep ms=0 then bJ (xK ep ms fl)else emp
def kV(b:Batch):ByteArray:=if Ops.chk b=0 then bJ (kT b)else emp
def xM(e:dA):List UInt8:=put e.ts.toNat++aP (bJ (kT (dK e)))
def dR(e:dA):ByteArray:=if Ops.chk (dK e)=0 then bJ (xM e)else emp
def aT(x:aH)(c:Nat):List UInt8:=
 if isNum c=true then put (eY x c).toNat
 else if c=120 then put x.e.toNat
 else if c=97 then put x.at'.toNat
 else if c=108 then put x.last.toNat
 else if c=102 then jF x.fl
 else if c=107 then aP x.key
 else if c=116 then aP x.to
 else if c=67 then aP (gG x.jr x.ms x.iT)
 else if c=66 then aP (kV (eX x))
 else if c=69 then put x.es.length++x.es.flatMap fun y=>aP (dR y)
 else if c=83 then put x.ss.length++x.ss.flatMap fun y=>put y.toNat
 else if c=82 then put x.ps.length++x.ps.flatMap fun y=>aP y.key++aP y.val
 else []
def qI(x:aH):List UInt8:=put x.k.toNat++(partsOf x.k).flatMap (aT x)
def iM(x:aH):ByteArray:=if fA x=0 then bJ (qI x)else emp
theorem aI{n:Nat}(h:n<=18446744073709551615):(put n).length<=9:=fD (by omega)
theorem bU{s:ByteArray}{m:Nat}(h:s.size<=m)(hm:m<=18446744073709551615):(aP s).length<=9+m:=by have:=aI (n:=s.size) (by omega);unfold aP;rw[lA0,dJ];omega
theorem dL{α β:Type}(f:α->List β)(l:List α)(M:Nat)(h:∀a∈l,(f a).length<=M):(l.flatMap f).length<=l.length*M:=by
 induction l with
 |nil=>simp
 |cons a l ih=>
  rw[List.flatMap_cons,lA0,List.length_cons];have h1:=h a (List.mem_cons_self ..);have h2:=ih fun b hb=>h b (List.mem_cons_of_mem _ hb);rw[Nat.succ_mul];omega
theorem xN{ep:Int}{ms:List Mem}{fl:Int}(h:aJ.chk ep ms=0)(hf:0<=fl/\fl<=aO):(xK ep ms fl).length<=99:=by
 obtain⟨h1,_,h2,h3⟩:=jf h;have a1:=aI (n:=ep.toNat) (by omega);have a2:=aI (n:=ms.length) (by omega);have a3:=aI (n:=fl.toNat) (by unfold aO at hf;omega)
 have a4:=dL (fun m:Mem=>put m.1.toNat++put m.2.toNat) ms 18 (fun m hm=>by have b1:=h3.id m hm;have b2:=h3.jQ m hm;have c1:=aI (n:=m.1.toNat) (by omega);have c2:=aI (n:=m.2.toNat) (by omega);rw[lA0];omega)
 unfold xK;rw[lA0,lA0,lA0];omega
theorem pI{ep:Int}{ms:List Mem}{fl:Int}(hf:0<=fl/\fl<=aO):(gG ep ms fl).size<=99:=by
 unfold gG;split
 ·rename_i h;have:=xN h hf;rw[<-dJ,gy];exact this
 ·decide
theorem qJ{b:Batch}(h:Ops.chk b=0):(kT b).length<=103:=by obtain⟨h1,h2,h3,h4,h5,h6⟩:=qo h;have hk:=rX h6;have a1:=aI (n:=b.cl.toNat) (by omega);have a2:=aI (n:=b.req.toNat) (by omega);have a3:=aI (n:=b.ops.length) (by omega);have a4:=je b.ops (fun o ho=>mO (hk o ho).2.1 (hk o ho).2.2.1);unfold kT;rw[lA0,lA0,lA0];omega
theorem ni(b:Batch):(kV b).size<=103:=by
 unfold kV;split
 ·rename_i h;have:=qJ h;rw[<-dJ,gy];exact this
 ·decide
theorem ny{e:dA}(h:0<=e.ts/\e.ts<=aO):(dR e).size<=121:=by
 unfold dR;split
 ·rename_i h0;have a1:=qJ h0;have a2:=bU (s:=bJ (kT (dK e))) (m:=103) (by rw[<-dJ,gy];exact a1) (by omega);have a3:=aI (n:=e.ts.toNat) (by unfold aO at h;omega);rw[<-dJ,gy];unfold xM;rw[lA0];omega
 ·decide
theorem pJ{w:World}{x:aH}(h:dM w x){c:Nat}(hc:aG x c=0):(aT x c).length<=1100:=by
 unfold aT;unfold aG at hc;obtain⟨⟨t1,t2⟩,⟨t3,t4⟩,t5⟩:=h.t;unfold aO at t2 t4;by_cases c1:isNum c=true
 ·rw[if_pos c1]at hc⊢;unfold qH at hc;by_cases hr:eY x c<0\/1073741824<eY x c
  ·rw[if_pos hr]at hc;cases hc
  ·have:=aI (n:=(eY x c).toNat) (by omega);omega
 rw[if_neg c1]at hc⊢;by_cases c2:c=120
 ·rw[if_pos c2]at hc⊢;by_cases hr:x.e<0\/21<x.e
  ·rw[if_pos hr]at hc;cases hc
  ·have:=aI (n:=x.e.toNat) (by omega);omega
 rw[if_neg c2]at hc⊢;by_cases c3:c=97
 ·rw[if_pos c3];have:=aI (n:=x.at'.toNat) (by omega);omega
 rw[if_neg c3];by_cases c4:c=108
 ·rw[if_pos c4];have:=aI (n:=x.last.toNat) (by omega);omega
 rw[if_neg c4];by_cases c5:c=102
 ·rw[if_pos c5];unfold jF;simp
 rw[if_neg c5];by_cases c6:c=107
 ·rw[if_pos c6]at hc⊢;have:=bU (s:=x.key) (m:=8) (by by_cases hr:8<x.key.size;rw[if_pos hr]at hc;cases hc;omega) (by omega);omega
 rw[if_neg c6]at hc⊢;by_cases c7:c=116
 ·rw[if_pos c7]at hc⊢;have:=bU (s:=x.to) (m:=8) (by by_cases hr:8<x.to.size;rw[if_pos hr]at hc;cases hc;omega) (by omega);omega
 rw[if_neg c7]at hc⊢;by_cases c8:c=67
 ·rw[if_pos c8]at hc⊢;have:=bU (s:=gG x.jr x.ms x.iT) (m:=99) (pI t5) (by omega);omega
 rw[if_neg c8]at hc⊢;by_cases c9:c=66
 ·rw[if_pos c9]at hc⊢;have:=bU (s:=kV (eX x)) (m:=103) (ni _) (by omega);omega
 rw[if_neg c9]at hc⊢;by_cases c10:c=69
 ·rw[if_pos c10]at hc⊢;by_cases hr:4<x.es.length
  ·rw[if_pos hr]at hc;cases hc
  ·have a1:=aI (n:=x.es.length) (by omega)
   have a2:=dL (fun y=>aP (dR y)) x.es 130 (fun y hy=>by have:=bU (s:=dR y) (m:=121) (ny (h.eo y hy).2) (by omega);omega)
   rw[lA0];omega
 rw[if_neg c10]at hc⊢;by_cases c11:c=83
 ·rw[if_pos c11]at hc⊢;by_cases hr:8<x.ss.length
  ·rw[if_pos hr]at hc;cases hc
  ·have a1:=aI (n:=x.ss.length) (by omega)
   have a2:=dL (fun y:Int=>put y.toNat) x.ss 9 (fun y hy=>by have b:=h.so y hy;unfold aO at b;exact aI (by omega))
   rw[lA0];omega
 rw[if_neg c11]at hc⊢;by_cases c12:c=82
 ·rw[if_pos c12]at hc⊢;by_cases hr:32<x.ps.length
  ·rw[if_pos hr]at hc;cases hc
  ·rw[if_neg hr]at hc;have hz:=jh hc;have a1:=aI (n:=x.ps.length) (by omega)
   have a2:=dL (fun y:bP=>aP y.key++aP y.val) x.ps 34 (fun y hy=>by
    have hy0:=hz y hy;unfold dS keyE at hy0;by_cases e1:y.key.size<1\/8<y.key.size
    ·rw[if_pos e1,if_pos (by decide)]at hy0;cases hy0
    ·rw[if_neg e1,if_neg (by decide)]at hy0;have b1:=bU (s:=y.key) (m:=8) (by omega) (by omega);have b2:=bU (s:=y.val) (m:=8) (by by_cases e2:8<y.val.size;rw[if_pos e2]at hy0;cases hy0;omega) (by omega);rw[lA0];omega)
   rw[lA0];omega
 rw[if_neg c12];simp
end bQ
end Go.Proofs.YtgbigpdiacjbgaaGreat
namespace Go.Proofs.YtgbigpdiacjbgaaGreat.Keys
theorem nN(x y:List UInt8)(h:Op.bytesLess x y=false)(hne:x≠y):Op.bytesLess y x=true:=by
 induction x generalizing y with
 |nil=>cases y with
  |nil=>exact absurd rfl hne
  |cons b y=>simp[Op.bytesLess]at h
 |cons a x ih=>cases y with
  |nil=>rfl
  |cons b y=>
   simp only[Op.bytesLess,Bool.or_eq_false_iff,Bool.and_eq_false_iff,decide_eq_false_iff_not,beq_eq_false_iff_ne]at h;simp only[Op.bytesLess,Bool.or_eq_true,Bool.and_eq_true,decide_eq_true_eq,beq_iff_eq];obtain⟨h1,h2⟩:=h;by_cases e:a=b
   ·subst e;rcases h2 with h2|h2
    ·exact absurd rfl h2
    ·exact .inr ⟨rfl,ih y h2 (fun e=>hne (by rw[e]))⟩
   ·rw[UInt8.lt_iff_toNat_lt]at*
    have:a.toNat≠b.toNat:=fun k=>e (UInt8.toNat_inj.1 k);exact .inl (by omega)
def nO(l:List UInt8):Nat->List UInt8
 |0=>[]
 |k+1=>if l.getD k 0<255 then l.take k++[l.getD k 0+1]else nO l k
def nextL(l:List UInt8):List UInt8:=if l.length<8 then l++[0]else nO l 8
end Go.Proofs.YtgbigpdiacjbgaaGreat.Keys
namespace Go.Proofs.YtgbigpdiacjbgaaGreat
open Go.RowKit
namespace Ask
open aJ Ops dG bQ
structure bF where
 k:Int
 nd:Int
 key:ByteArray
 to:ByteArray
 at':Int
 n:Int
 A:Option Addr
 c:Nat
 ops:List aS
def aQ(a:bF):List Value:=[.int .i64 a.k,.int .i64 a.nd,.string a.key,.string a.to,.int .u64 a.at',.int .i64 a.n,.slice a.A a.ops.length a.c]
abbrev iO(a:bF):Value:=.agg (aQ a).toArray
structure kF where
 req:Int
 e:Int
 at':Int
 pin:Int
 ps:List bP
def nC:kF:=⟨0,0,0,0,[]⟩
def pZ(r:kF)(A:Option Addr)(c:Nat):List Value:=[.int .i64 r.req,.int .i64 r.e,.int .u64 r.at',.int .i64 r.pin,.slice A r.ps.length c]
abbrev tN(r:kF)(A:Option Addr)(c:Nat):Value:=.agg (pZ r A c).toArray
structure TS where
 cl:Int
 rq:Int
 a:bF
 bo:List aS
 ph:Nat
 at':Int
 key:ByteArray
 ps:List bP
 waits:Int
 dn:Bool
 r:kF
def aV:aH:=⟨0,0,0,0,false,0,0,0,0,0,0,⟨#[]⟩,⟨#[]⟩,0,none,0,[],0,0,0,none,0,[],none,0,[],none,0,[],none,0,[]⟩
def iD(t:TS):Int:=min 2 (t.a.n-t.ps.length)
def aU(t:TS)(ep hd:Int):Int×aH:=
 if t.dn=true then (-1,aV)
 else if t.ph=0 then (if hd<0 then (4,{aV with k:=15})else(hd,{aV with k:=5,ep:=max ep 0,qG:=t.cl,ng:=t.rq,ops:=t.bo}))
 else if t.ph=1 then (if t.a.k=2 then (t.a.nd,{aV with k:=9,req:=t.rq,key:=t.key,to:=t.a.to,at':=t.at',n:=iD t})else(t.a.nd,{aV with k:=8,req:=t.rq,key:=t.key,at':=t.at'}))
 else if t.a.k=4 then (4,{aV with k:=11,req:=t.rq,at':=t.a.at'})
 else if t.a.k=5 then (4,{aV with k:=12,req:=t.rq,n:=t.a.n})
 else(4,{aV with k:=13,req:=t.rq,n:=t.a.n})
def kG(t:TS)(r:kF):TS:={t with dn:=true,r:={r with req:=t.rq}}
def lX(l:List bP):ByteArray:=match l.getLast? with
 |none=>emp
 |some p=>bJ (Keys.nextL (bl p.key))
def bZ(t:TS)(x:aH):List bP:=x.ps.take (iD t).toNat
def AQ(t:TS)(x:aH):Bool:=x.fl&&(decide (0<(bZ t x).length)&&(decide ((t.ps.length+(bZ t x).length:Nat)<t.a.n)&&decide (lX (bZ t x)≠emp)))
def qc(t:TS)(x:aH):TS×Bool:=
 if AQ t x=true then ({t with ps:=t.ps++bZ t x,waits:=0,key:=lX (bZ t x)},true)
 else(kG {t with ps:=t.ps++bZ t x,waits:=0} ⟨0,0,t.at',0,t.ps++bZ t x⟩,false)
def C5(t:TS)(f:Int):Bool:=if t.ph=0 then decide (0<=f/\f<4)else if t.ph=1 then decide (f=t.a.nd)else decide (f=4)
def tV(t:TS)(x:aH):TS×Bool:=
 if x.k=7/\x.e=16 then (kG t ⟨0,x.e,0,0,[]⟩,false)
 else if x.k≠6 then (t,false)
 else if t.a.k=0 then (kG t ⟨0,0,x.at',0,[]⟩,false)
 else({t with ph:=1,at':=x.at',key:=t.a.key,ps:=[],waits:=0},true)
def tX(t:TS)(x:aH):TS×Bool:=
 if x.k=7/\(t.a.k≠3\/x.e≠12)then (kG t ⟨0,x.e,0,0,[]⟩,false)
 else if x.k≠10\/x.at'≠t.at'\/x.key≠t.key then (t,false)
 else if t.a.k≠2 then (kG t ⟨0,0,t.at',0,x.ps.take 1⟩,false)
 else qc t x
def takeA(t:TS)(x:aH):TS×Bool:=
 if x.k=14 then (kG t ⟨0,0,0,x.n,[]⟩,false)
 else if x.k=7 then (kG t ⟨0,x.e,0,0,[]⟩,false)
 else(t,false)
def qg(t:TS)(f:Int)(x:aH):TS×Bool:=
 if t.dn=true\/x.req≠t.rq\/C5 t f=false then (t,false)
 else if t.ph=0 then tV t x else if t.ph=1 then tX t x else takeA t x
