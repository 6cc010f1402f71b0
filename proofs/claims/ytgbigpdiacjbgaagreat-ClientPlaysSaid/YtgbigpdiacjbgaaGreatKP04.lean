/- Part 5. -/
import Derived.Test.YtgbigpdiacjbgaaGreatKP03
set_option linter.unusedSimpArgs false
set_option linter.unusedVariables false
set_option maxHeartbeats 32000000
set_option maxRecDepth 100000
namespace Go.Proofs.YtgbigpdiacjbgaaGreat
open Go.RowKit
namespace eP
open bg Ops fG Vn
structure aO where
 k:Int
 ep:Int
 req:Int
 tK:Int
 fl:Bool
 at':Int
 last:Int
 n:Int
 m:Int
 p:Int
 e:Int
 key:ByteArray
 to:ByteArray
 fO:Int
 mA:Option Addr
 mc:Nat
 ms:List Mem
 mG:Int
 o7:Int
 lK:Int
 oA:Option Addr
 oc:Nat
 ops:List dU
 eA:Option Addr
 ec:Nat
 es:List iM
 sA:Option Addr
 sc:Nat
 ss:List Int
 pA:Option Addr
 pc:Nat
 ps:List iC
def rH(l:List Int):List Value:=l.map (Value.int .u64)
def au(x:aO):List Value:=[.int .i64 x.k,.int .i64 x.ep,.int .i64 x.req,.int .i64 x.tK,.bool x.fl,.int .u64 x.at',.int .u64 x.last,.int .i64 x.n,.int .i64 x.m,.int .i64 x.p,.int .i64 x.e,.string x.key,.string x.to,
 .int .i64 x.fO,.slice x.mA x.ms.length x.mc,.int .u64 x.mG,.int .i64 x.o7,.int .i64 x.lK,.slice x.oA x.ops.length x.oc,.slice x.eA x.es.length x.ec,.slice x.sA x.ss.length x.sc,.slice x.pA x.ps.length x.pc]
abbrev aK(x:aO):Value:=.agg (au x).toArray
def jU(x:aO):Batch:=⟨x.o7,x.lK,x.ops⟩
structure pU(w:World)(x:aO):Prop where
 m:Src w 2 x.mA x.ms.length (dL x.ms)
 mc:x.ms.length<=x.mc
 ml:x.ms.length<=1000
 o:Src w 3 x.oA x.ops.length (cells x.ops)
 e:Src w 4 x.eA x.es.length (kM x.es)
 eo:∀y∈x.es,Src w 3 y.A y.ops.length (cells y.ops)/\0<=y.ts/\y.ts<=aY
 el:x.es.length<=1000
 s:Src w 1 x.sA x.ss.length (rH x.ss)
 sl:x.ss.length<=1000
 so:∀y∈x.ss,0<=y/\y<=aY
 p:Src w 2 x.pA x.ps.length (bI x.ps)
 pl:x.ps.length<=1000
 t:(0<=x.at'/\x.at'<=aY)/\(0<=x.last/\x.last<=aY)/\(0<=x.mG/\x.mG<=aY)
theorem pU.kept{w w':World}{x:aO}(h:pU w x)(hk:Kept aj w w'):pU w' x:=
 ⟨h.m.kept hk (fun _ _ z=>z),h.mc,h.ml,h.o.kept hk (fun _ _ z=>z),h.e.kept hk (fun _ _ z=>z),fun y hy=>⟨(h.eo y hy).1.kept hk (fun _ _ z=>z),(h.eo y hy).2⟩,h.el,h.s.kept hk (fun _ _ z=>z),h.sl,h.so,h.p.kept hk (fun _ _ z=>z),h.pl,h.t⟩
def J7:List (List Nat):=[[],[67,97],[101,115,102,97,108],[101,110,109,112,114,97,69],[101,110,109,112,83],[101,66],[114,97],[114,120,101,110],[114,107,97],[114,107,116,97,110],[114,107,97,102,82],[114,97],[114,110],[114,110],[114,110],[]]
def isKind(k:Int):Bool:=decide (1<=k/\k<=15)
def partsOf(k:Int):List Nat:=if 1<=k/\k<=15 then J7.getD k.toNat []else []
def letters:List Nat:=[67,97,101,115,102,108,110,109,112,114,69,83,66,120,107,116,82]
theorem rP(k:Int):∀c∈partsOf k,c∈letters:=by
 unfold partsOf;by_cases h:1<=k/\k<=15
 ·rw[if_pos h];have:k=1\/k=2\/k=3\/k=4\/k=5\/k=6\/k=7\/k=8\/k=9\/k=10\/k=11\/k=12\/k=13\/k=14\/k=15:=by omega
  rcases this with rfl|rfl|rfl|rfl|rfl|rfl|rfl|rfl|rfl|rfl|rfl|rfl|rfl|rfl|rfl<;>decide
 ·rw[if_neg h];intro c hc;simp at hc
theorem pV(k:Int):(partsOf k).length<=7:=by
 unfold partsOf;by_cases h:1<=k/\k<=15
 ·rw[if_pos h];have:k=1\/k=2\/k=3\/k=4\/k=5\/k=6\/k=7\/k=8\/k=9\/k=10\/k=11\/k=12\/k=13\/k=14\/k=15:=by omega
  rcases this with rfl|rfl|rfl|rfl|rfl|rfl|rfl|rfl|rfl|rfl|rfl|rfl|rfl|rfl|rfl<;>decide
 ·rw[if_neg h];decide
def lets(l:List Nat):ByteArray:=fE (kX l)
def mP(x:aO)(c:Nat):Int:=if c=101 then x.ep else if c=115 then x.tK else if c=114 then x.req else if c=110 then x.n else if c=109 then x.m else x.p
def isNum(c:Nat):Bool:=decide (c=101\/c=115\/c=114\/c=110\/c=109\/c=112)
def numAt(c:Nat):Nat:=if c=101 then 1 else if c=115 then 3 else if c=114 then 2 else if c=110 then 7 else if c=109 then 8 else 9
def bK{α:Type}(f:α->Int):List α->Int
 |[]=>0
 |a::l=>if f a=0 then bK f l else f a
theorem uG{α:Type}(f:α->Int){l:List α}{i:Nat}{a:α}(h:l[i]? =some a):bK f (l.drop i)=if f a=0 then bK f (l.drop (i+1))else f a:=by obtain⟨hi,rfl⟩:=lD0.1 h;rw[List.drop_eq_getElem_cons hi,bK]
theorem zN{α:Type}{f:α->Int}{l:List α}(h:bK f l=0):∀a∈l,f a=0:=by
 induction l with
 |nil=>intro a ha;cases ha
 |cons b l ih=>
  rw[bK]at h;by_cases hb:f b=0
  ·rw[if_pos hb]at h;intro a ha;rcases List.mem_cons.1 ha with rfl|ha
   ·exact hb
   ·exact ih h a ha
  ·rw[if_neg hb]at h;exact absurd h hb
def keyE(s:ByteArray):Int:=if s.size<1\/8<s.size then 10 else 0
def mY(p:iC):Int:=if keyE p.key≠0 then keyE p.key else if 8<p.val.size then 3 else 0
def qM(n:Int):Int:=if n<0\/1073741824<n then 5 else 0
def aT(x:aO)(c:Nat):Int:=
 if isNum c=true then qM (mP x c)
 else if c=120 then (if x.e<0\/21<x.e then 1 else 0)
 else if c=107 then (if 8<x.key.size then 3 else 0)
 else if c=116 then (if 8<x.to.size then 3 else 0)
 else if c=67 then bg.chk x.fO x.ms
 else if c=66 then Ops.chk (jU x)
 else if c=69 then (if 4<x.es.length then 6 else bK (fun y=>Ops.chk (lZ y)) x.es)
 else if c=83 then (if 8<x.ss.length then 6 else 0)
 else if c=82 then (if 32<x.ps.length then 6 else bK mY x.ps)
 else 0
def dP(x:aO):Int:=if isKind x.k=true then bK (aT x) (partsOf x.k)else 11
def UC(ep:Int)(ms:List Mem)(fl:Int):List UInt8:=put ep.toNat++put ms.length++(ms.flatMap fun m=>put m.1.toNat++put m.2.toNat)++put fl.toNat
def wJ(ep:Int)(ms:List Mem)(fl:Int):ByteArray:=if bg.chk ep ms=0 then fE (UC ep ms fl)else emp
def wK(b:Batch):ByteArray:=if Ops.chk b=0 then fE (vH b)else emp
def UD(e:iM):List UInt8:=put e.ts.toNat++dA (fE (vH (lZ e)))
def su(e:iM):ByteArray:=if Ops.chk (lZ e)=0 then fE (UD e)else emp
def bT(x:aO)(c:Nat):List UInt8:=
 if isNum c=true then put (mP x c).toNat
 else if c=120 then put x.e.toNat
 else if c=97 then put x.at'.toNat
 else if c=108 then put x.last.toNat
 else if c=102 then sW x.fl
 else if c=107 then dA x.key
 else if c=116 then dA x.to
 else if c=67 then dA (wJ x.fO x.ms x.mG)
 else if c=66 then dA (wK (jU x))
 else if c=69 then put x.es.length++x.es.flatMap fun y=>dA (su y)
 else if c=83 then put x.ss.length++x.ss.flatMap fun y=>put y.toNat
 else if c=82 then put x.ps.length++x.ps.flatMap fun y=>dA y.key++dA y.val
 else []
def Bg(x:aO):List UInt8:=put x.k.toNat++(partsOf x.k).flatMap (bT x)
def nH(x:aO):ByteArray:=if dP x=0 then fE (Bg x)else emp
theorem dJ{n:Nat}(h:n<=18446744073709551615):(put n).length<=9:=nG (by omega)
theorem lF{s:ByteArray}{m:Nat}(h:s.size<=m)(hm:m<=18446744073709551615):(dA s).length<=9+m:=by have:=dJ (n:=s.size) (by omega);unfold dA;rw[lA0,iw];omega
theorem oW{α β:Type}(f:α->List β)(l:List α)(M:Nat)(h:∀a∈l,(f a).length<=M):(l.flatMap f).length<=l.length*M:=by
 induction l with
 |nil=>simp
 |cons a l ih=>
  rw[List.flatMap_cons,lA0,List.length_cons];have h1:=h a (List.mem_cons_self ..);have h2:=ih fun b hb=>h b (List.mem_cons_of_mem _ hb);rw[Nat.succ_mul];omega
theorem UE{ep:Int}{ms:List Mem}{fl:Int}(h:bg.chk ep ms=0)(hf:0<=fl/\fl<=aY):(UC ep ms fl).length<=99:=by
 obtain⟨h1,_,h2,h3⟩:=rG h;have a1:=dJ (n:=ep.toNat) (by omega);have a2:=dJ (n:=ms.length) (by omega);have a3:=dJ (n:=fl.toNat) (by unfold aY at hf;omega)
 have a4:=oW (fun m:Mem=>put m.1.toNat++put m.2.toNat) ms 18 (fun m hm=>by have b1:=h3.id m hm;have b2:=h3.tK m hm;have c1:=dJ (n:=m.1.toNat) (by omega);have c2:=dJ (n:=m.2.toNat) (by omega);rw[lA0];omega)
 unfold UC;rw[lA0,lA0,lA0];omega
theorem IL{ep:Int}{ms:List Mem}{fl:Int}(hf:0<=fl/\fl<=aY):(wJ ep ms fl).size<=99:=by
 unfold wJ;split
 ·rename_i h;have:=UE h hf;rw[<-iw,lH];exact this
 ·decide
theorem J8{b:Batch}(h:Ops.chk b=0):(vH b).length<=103:=by obtain⟨h1,h2,h3,h4,h5,h6⟩:=sZ h;have hk:=EJ h6;have a1:=dJ (n:=b.cl.toNat) (by omega);have a2:=dJ (n:=b.req.toNat) (by omega);have a3:=dJ (n:=b.ops.length) (by omega);have a4:=xP b.ops (fun o ho=>mO (hk o ho).2.1 (hk o ho).2.2.1);unfold vH;rw[lA0,lA0,lA0];omega
theorem xU(b:Batch):(wK b).size<=103:=by
 unfold wK;split
 ·rename_i h;have:=J8 h;rw[<-iw,lH];exact this
 ·decide
theorem Fq{e:iM}(h:0<=e.ts/\e.ts<=aY):(su e).size<=121:=by
 unfold su;split
 ·rename_i h0;have a1:=J8 h0;have a2:=lF (s:=fE (vH (lZ e))) (m:=103) (by rw[<-iw,lH];exact a1) (by omega);have a3:=dJ (n:=e.ts.toNat) (by unfold aY at h;omega);rw[<-iw,lH];unfold UD;rw[lA0];omega
 ·decide
theorem IP{w:World}{x:aO}(h:pU w x){c:Nat}(hc:aT x c=0):(bT x c).length<=1100:=by
 unfold bT;unfold aT at hc;obtain⟨⟨t1,t2⟩,⟨t3,t4⟩,t5⟩:=h.t;unfold aY at t2 t4;by_cases c1:isNum c=true
 ·rw[if_pos c1]at hc⊢;unfold qM at hc;by_cases hr:mP x c<0\/1073741824<mP x c
  ·rw[if_pos hr]at hc;cases hc
  ·have:=dJ (n:=(mP x c).toNat) (by omega);omega
 rw[if_neg c1]at hc⊢;by_cases c2:c=120
 ·rw[if_pos c2]at hc⊢;by_cases hr:x.e<0\/21<x.e
  ·rw[if_pos hr]at hc;cases hc
  ·have:=dJ (n:=x.e.toNat) (by omega);omega
 rw[if_neg c2]at hc⊢;by_cases c3:c=97
 ·rw[if_pos c3];have:=dJ (n:=x.at'.toNat) (by omega);omega
 rw[if_neg c3];by_cases c4:c=108
 ·rw[if_pos c4];have:=dJ (n:=x.last.toNat) (by omega);omega
 rw[if_neg c4];by_cases c5:c=102
 ·rw[if_pos c5];unfold sW;simp
 rw[if_neg c5];by_cases c6:c=107
 ·rw[if_pos c6]at hc⊢;have:=lF (s:=x.key) (m:=8) (by by_cases hr:8<x.key.size;rw[if_pos hr]at hc;cases hc;omega) (by omega);omega
 rw[if_neg c6]at hc⊢;by_cases c7:c=116
 ·rw[if_pos c7]at hc⊢;have:=lF (s:=x.to) (m:=8) (by by_cases hr:8<x.to.size;rw[if_pos hr]at hc;cases hc;omega) (by omega);omega
 rw[if_neg c7]at hc⊢;by_cases c8:c=67
 ·rw[if_pos c8]at hc⊢;have:=lF (s:=wJ x.fO x.ms x.mG) (m:=99) (IL t5) (by omega);omega
 rw[if_neg c8]at hc⊢;by_cases c9:c=66
 ·rw[if_pos c9]at hc⊢;have:=lF (s:=wK (jU x)) (m:=103) (xU _) (by omega);omega
 rw[if_neg c9]at hc⊢;by_cases c10:c=69
 ·rw[if_pos c10]at hc⊢;by_cases hr:4<x.es.length
  ·rw[if_pos hr]at hc;cases hc
  ·have a1:=dJ (n:=x.es.length) (by omega)
   have a2:=oW (fun y=>dA (su y)) x.es 130 (fun y hy=>by have:=lF (s:=su y) (m:=121) (Fq (h.eo y hy).2) (by omega);omega)
   rw[lA0];omega
 rw[if_neg c10]at hc⊢;by_cases c11:c=83
 ·rw[if_pos c11]at hc⊢;by_cases hr:8<x.ss.length
  ·rw[if_pos hr]at hc;cases hc
  ·have a1:=dJ (n:=x.ss.length) (by omega)
   have a2:=oW (fun y:Int=>put y.toNat) x.ss 9 (fun y hy=>by have b:=h.so y hy;unfold aY at b;exact dJ (by omega))
   rw[lA0];omega
 rw[if_neg c11]at hc⊢;by_cases c12:c=82
 ·rw[if_pos c12]at hc⊢;by_cases hr:32<x.ps.length
  ·rw[if_pos hr]at hc;cases hc
  ·rw[if_neg hr]at hc;have hz:=zN hc;have a1:=dJ (n:=x.ps.length) (by omega)
   have a2:=oW (fun y:iC=>dA y.key++dA y.val) x.ps 34 (fun y hy=>by
    have hy0:=hz y hy;unfold mY keyE at hy0;by_cases e1:y.key.size<1\/8<y.key.size
    ·rw[if_pos e1,if_pos (by decide)]at hy0;cases hy0
    ·rw[if_neg e1,if_neg (by decide)]at hy0;have b1:=lF (s:=y.key) (m:=8) (by omega) (by omega);have b2:=lF (s:=y.val) (m:=8) (by by_cases e2:8<y.val.size;rw[if_pos e2]at hy0;cases hy0;omega) (by omega);rw[lA0];omega)
   rw[lA0];omega
 rw[if_neg c12];simp
end eP
end Go.Proofs.YtgbigpdiacjbgaaGreat
namespace Go.Proofs.YtgbigpdiacjbgaaGreat.Keys
theorem F7(x y:List UInt8)(h:Op.bytesLess x y=false)(hne:x≠y):Op.bytesLess y x=true:=by
 induction x generalizing y with
 |nil=>cases y with
  |nil=>exact absurd rfl hne
  |cons b y=>simp[Op.bytesLess]at h
 |cons a x ih=>cases y with
  |nil=>rfl
  |cons b y=>
   simp only[Op.bytesLess,Bool.or_eq_false_iff,Bool.and_eq_false_iff,decide_eq_false_iff_not,beq_eq_false_iff_ne]at h;simp only[Op.bytesLess,Bool.or_eq_true,Bool.and_eq_true,decide_eq_true_eq,beq_iff_eq];obtain⟨h1,h2⟩:=h;by_cases e:a=b
   ·subst e;rcases h2 with h2|h2
    ·exact absurd rfl h2
    ·exact .inr ⟨rfl,ih y h2 (fun e=>hne (by rw[e]))⟩
   ·rw[UInt8.lt_iff_toNat_lt]at*
    have:a.toNat≠b.toNat:=fun k=>e (UInt8.toNat_inj.1 k);exact .inl (by omega)
def jM(l:List UInt8):Nat->List UInt8
 |0=>[]
 |k+1=>if l.getD k 0<255 then l.take k++[l.getD k 0+1]else jM l k
def nextL(l:List UInt8):List UInt8:=if l.length<8 then l++[0]else jM l 8
end Go.Proofs.YtgbigpdiacjbgaaGreat.Keys
namespace Go.Proofs.YtgbigpdiacjbgaaGreat
open Go.RowKit
namespace Ask
open bg Ops fG eP
structure iZ where
 k:Int
 nd:Int
 key:ByteArray
 to:ByteArray
 at':Int
 n:Int
 A:Option Addr
 c:Nat
 ops:List dU
def bQ(a:iZ):List Value:=[.int .i64 a.k,.int .i64 a.nd,.string a.key,.string a.to,.int .u64 a.at',.int .i64 a.n,.slice a.A a.ops.length a.c]
abbrev pN(a:iZ):Value:=.agg (bQ a).toArray
structure o8 where
 req:Int
 e:Int
 at':Int
 pin:Int
 ps:List iC
def oH:o8:=⟨0,0,0,0,[]⟩
def iO(r:o8)(A:Option Addr)(c:Nat):List Value:=[.int .i64 r.req,.int .i64 r.e,.int .u64 r.at',.int .i64 r.pin,.slice A r.ps.length c]
abbrev nV(r:o8)(A:Option Addr)(c:Nat):Value:=.agg (iO r A c).toArray
structure TS where
 cl:Int
 rq:Int
 a:iZ
 bo:List dU
 ph:Nat
 at':Int
 key:ByteArray
 ps:List iC
 waits:Int
 dn:Bool
 r:o8
def bP:aO:=⟨0,0,0,0,false,0,0,0,0,0,0,⟨#[]⟩,⟨#[]⟩,0,none,0,[],0,0,0,none,0,[],none,0,[],none,0,[],none,0,[]⟩
def mZ(t:TS):Int:=min 2 (t.a.n-t.ps.length)
def aJ(t:TS)(ep hd:Int):Int×aO:=
 if t.dn=true then (-1,bP)
 else if t.ph=0 then (if hd<0 then (4,{bP with k:=15})else(hd,{bP with k:=5,ep:=max ep 0,o7:=t.cl,lK:=t.rq,ops:=t.bo}))
 else if t.ph=1 then (if t.a.k=2 then (t.a.nd,{bP with k:=9,req:=t.rq,key:=t.key,to:=t.a.to,at':=t.at',n:=mZ t})else(t.a.nd,{bP with k:=8,req:=t.rq,key:=t.key,at':=t.at'}))
 else if t.a.k=4 then (4,{bP with k:=11,req:=t.rq,at':=t.a.at'})
 else if t.a.k=5 then (4,{bP with k:=12,req:=t.rq,n:=t.a.n})
 else(4,{bP with k:=13,req:=t.rq,n:=t.a.n})
def eG(t:TS)(r:o8):TS:={t with dn:=true,r:={r with req:=t.rq}}
def fQ(l:List iC):ByteArray:=match l.getLast? with
 |none=>emp
 |some p=>fE (Keys.nextL (bl p.key))
def lM(t:TS)(x:aO):List iC:=x.ps.take (mZ t).toNat
def jC(t:TS)(x:aO):Bool:=x.fl&&(decide (0<(lM t x).length)&&(decide ((t.ps.length+(lM t x).length:Nat)<t.a.n)&&decide (fQ (lM t x)≠emp)))
def ig(t:TS)(x:aO):TS×Bool:=
 if jC t x=true then ({t with ps:=t.ps++lM t x,waits:=0,key:=fQ (lM t x)},true)
 else(eG {t with ps:=t.ps++lM t x,waits:=0} ⟨0,0,t.at',0,t.ps++lM t x⟩,false)
def oI(t:TS)(f:Int):Bool:=if t.ph=0 then decide (0<=f/\f<4)else if t.ph=1 then decide (f=t.a.nd)else decide (f=4)
def lN(t:TS)(x:aO):TS×Bool:=
 if x.k=7/\x.e=16 then (eG t ⟨0,x.e,0,0,[]⟩,false)
 else if x.k≠6 then (t,false)
 else if t.a.k=0 then (eG t ⟨0,0,x.at',0,[]⟩,false)
 else({t with ph:=1,at':=x.at',key:=t.a.key,ps:=[],waits:=0},true)
def je(t:TS)(x:aO):TS×Bool:=
 if x.k=7/\(t.a.k≠3\/x.e≠12)then (eG t ⟨0,x.e,0,0,[]⟩,false)
 else if x.k≠10\/x.at'≠t.at'\/x.key≠t.key then (t,false)
 else if t.a.k≠2 then (eG t ⟨0,0,t.at',0,x.ps.take 1⟩,false)
 else ig t x
def takeA(t:TS)(x:aO):TS×Bool:=
 if x.k=14 then (eG t ⟨0,0,0,x.n,[]⟩,false)
 else if x.k=7 then (eG t ⟨0,x.e,0,0,[]⟩,false)
 else(t,false)
def aI(t:TS)(f:Int)(x:aO):TS×Bool:=
 if t.dn=true\/x.req≠t.rq\/oI t f=false then (t,false)
 else if t.ph=0 then lN t x else if t.ph=1 then je t x else takeA t x
def bu(t:TS):TS×Bool:=
 if t.dn=true then (t,false)
 else if t.ph=1/\16<min (t.waits+1) 1073741824 then (eG {t with waits:=min (t.waits+1) 1073741824} ⟨0,21,0,0,[]⟩,false)
 else({t with waits:=min (t.waits+1) 1073741824},true)
def pO(t:TS):o8:=if t.dn=true then t.r else oH
end Ask
namespace bg
theorem Dy{l:List Mem}{i:Nat}{m:Mem}(h:l[i]? =some m)(h0:rZ m (l.take i)=0):lX (l.take i) (l.drop i)=lX (l.take (i+1)) (l.drop (i+1)):=by
 rw[drop_cons h,take_snoc h];conv=>lhs;unfold lX
 rw[if_pos h0]
theorem qN{l:List Mem}{i:Nat}{m:Mem}(h:l[i]? =some m)(h0:rZ m (l.take i)≠0):lX (l.take i) (l.drop i)=rZ m (l.take i):=by rw[drop_cons h];unfold lX;rw[if_neg h0]
theorem ng(w:World)(ep fl:Int)(A:Option Addr)(c:Nat)(l:List Mem)(hl:Src w 2 A l.length (dL l))(hlen:l.length<=1000000):
  Calls Tryz.prog 112 #[zL ep A l.length c fl] w fun e w'=>e=.returned (.int .i64 (chk ep l))/\Kept aj w w':=by
 have HL:=ah hl;clear hl;by_cases h1:ep<1
 ·have hr:chk ep l=5:=by unfold chk;rw[if_pos (.inl h1)]
  have HR:=ah hr;clear hr;go_enter Tryz.func112,Tryz.ntmps112;go_wp2;go_ret;exact⟨by rw[HR.out];rfl,(Kept.refl _ _).alloc _⟩
 by_cases h2:1073741824<ep
 ·have hr:chk ep l=5:=by unfold chk;rw[if_pos (.inr h2)]
  have HR:=ah hr;clear hr;go_enter Tryz.func112,Tryz.ntmps112;go_wp2;go_ret;exact⟨by rw[HR.out];rfl,(Kept.refl _ _).alloc _⟩
 by_cases h3:l.length=0
 ·have hr:chk ep l=7:=by unfold chk;rw[if_neg (by omega),if_pos h3]
  have HR:=ah hr;clear hr;rw[h3];clear h3;go_enter Tryz.func112,Tryz.ntmps112;go_wp2;go_ret;exact⟨by rw[HR.out];rfl,(Kept.refl _ _).alloc _⟩
 have h3':((l.length:Int)==0)=false:=by rw[beq_eq_false_iff_ne];omega
 by_cases h4:4<l.length
 ·have hr:chk ep l=6:=by unfold chk;rw[if_neg (by omega),if_neg h3,if_pos h4]
  have HR:=ah hr;clear hr;have h4':(4:Int)<l.length:=by omega
  clear h3;go_enter Tryz.func112,Tryz.ntmps112;go_wp2;go_ret;exact⟨by rw[HR.out];rfl,(Kept.refl _ _).alloc _⟩
 have hr:chk ep l=lX (l.take 0) (l.drop 0):=by unfold chk;rw[if_neg (by omega),if_neg h3,if_neg h4];rfl
 have HR:=ah hr;clear hr;have h4':¬(4:Int)<l.length:=by omega
 have hnew:=Has.new w 57 #[.int .i64 ep,.slice A l.length c,.int .u64 fl];have HN:=ah hnew;clear hnew;clear h3 h4;go_enter Tryz.func112,Tryz.ntmps112;go_wp2_with fail;go_loopw [3] (fun v3 wr=>∃i:Nat,i<=l.length/\v3=.int .i64 i/\Has wr w.heap.size 57 #[.int .i64 ep,.slice A l.length c,.int .u64 fl]/\Kept aj w wr/\chk ep l=lX (l.take i) (l.drop i)) (fun v3 _=>l.length-(intOf v3).toNat)
 case atStart=>exact⟨0,Nat.zero_le _,rfl,HN.out,(Kept.refl _ _).alloc _,HR.out⟩
 case round=>
  obtain⟨i,hi,rfl,hh,hk,he⟩:=hrel;have hlt0:=hh.lt;have hsz:=hk.size;have e0:wr.cell? ⟨w.heap.size,1,none⟩=some (.slice A l.length c):=hh.cell 1;have HH:=ah hh;clear hh;have HK:=ah hk;clear hk;have HE:=ah he;clear he;by_cases hil:i<l.length
  ·obtain⟨m,hm⟩:∃m,l[i]? =some m:=⟨_,lB0 hil⟩;obtain⟨ad,hA,had,d0,d1⟩:=qX (HL.out.kept HK.out (fun _ _ x=>x)) (by omega) i m hm;subst hA;have HM:=ah hm;clear hm;have hone:rZ m (l.take i)=if m.1<0\/4<=m.1 then 1 else if m.2<1\/1073741824<m.2 then 5 else if Cf (l.take i) m.1 then 18 else 0:=rfl;have HO:=ah hone;clear hone;obtain⟨m1,m2⟩:=m;dsimp only at d0 d1 HO;by_cases g1:m1<0
   ·have hr:chk ep l=1:=by have h1:=HO.out;rw[if_pos (.inl g1)]at h1;rw[HE.out,qN HM.out (by rw[h1];decide),h1]
    have HR:=ah hr;clear hr;go_wp2;go_ret;exact⟨by rw[HR.out];rfl,HK.out.alloc _⟩
   by_cases g2:4<=m1
   ·have hr:chk ep l=1:=by have h1:=HO.out;rw[if_pos (.inr g2)]at h1;rw[HE.out,qN HM.out (by rw[h1];decide),h1]
    have HR:=ah hr;clear hr;go_wp2;go_ret;exact⟨by rw[HR.out];rfl,HK.out.alloc _⟩
   by_cases g3:m2<1
   ·have hr:chk ep l=5:=by have h1:=HO.out;rw[if_neg (by omega),if_pos (.inl g3)]at h1;rw[HE.out,qN HM.out (by rw[h1];decide),h1]
    have HR:=ah hr;clear hr;go_wp2;go_ret;exact⟨by rw[HR.out];rfl,HK.out.alloc _⟩
   by_cases g4:1073741824<m2
   ·have hr:chk ep l=5:=by have h1:=HO.out;rw[if_neg (by omega),if_pos (.inr g4)]at h1;rw[HE.out,qN HM.out (by rw[h1];decide),h1]
    have HR:=ah hr;clear hr;go_wp2;go_ret;exact⟨by rw[HR.out];rfl,HK.out.alloc _⟩
   have h1:=HO.out;rw[if_neg (by omega),if_neg (by omega)]at h1;clear HO;have HO:=ah h1;clear h1;obtain⟨wo,hwo⟩:∃wo:World,wo=wr:=⟨_,rfl⟩;subst hwo;have hnew2:=Has.new wo 175 #[.int .i64 m1,.int .i64 m2];have NK:=ah hnew2;clear hnew2;go_wp2_with fail;go_loopw [5] (fun v5 wi=>∃k:Nat,k<=i/\v5=.int .i64 k/\Has wi w.heap.size 57 #[.int .i64 ep,.slice (some ad) l.length c,.int .u64 fl]/\Has wi wo.heap.size 175 #[.int .i64 m1,.int .i64 m2]/\Kept aj w wi/\Cf (l.take i) m1=Cf ((l.take i).drop k) m1) (fun v5 _=>i-(intOf v5).toNat)
   case atStart=>exact⟨0,Nat.zero_le _,rfl,HH.out.alloc _,NK.out,HK.out.alloc _,rfl⟩
   case round=>
    obtain⟨k,hki,rfl,hh,hh2,hk,he2⟩:=hrel;have e0:wr.cell? ⟨w.heap.size,1,none⟩=some (.slice (some ad) l.length c):=hh.cell 1;have e1:wr.cell? ⟨wo.heap.size,0,none⟩=some (.int .i64 m1):=hh2.cell 0;have HH':=ah hh;clear hh;have HH2:=ah hh2;clear hh2;have WL:=ah hk;clear hk;have HE2:=ah he2;clear he2;by_cases hkl:k<i
    ·obtain⟨q,hq⟩:∃q,l[k]? =some q:=⟨_,lB0 (by omega)⟩;obtain⟨ad',hA,Dz,f0,f1⟩:=qX (HL.out.kept WL.out (fun _ _ x=>x)) (by omega) k q hq;injection hA with hA;subst hA;have hd:Cf ((l.take i).drop k) m1=(decide (q.1=m1)||Cf ((l.take i).drop (k+1)) m1):=by
      have:(l.take i)[k]? =some q:=by rw[List.getElem?_take,if_pos hkl];exact hq
      unfold Cf;rw[drop_cons this,List.any_cons]
     have HD:=ah hd;clear hd hq;obtain⟨q1,q2⟩:=q;dsimp only at f0 f1 HD;by_cases hqm:q1=m1
     ·subst hqm;have hr:chk ep l=18:=by have h1:=HO.out;rw[HE2.out,HD.out,if_pos (by simp)]at h1;rw[HE.out,qN HM.out (by rw[h1];decide),h1]
      have HR:=ah hr;clear hr;go_wp2_with fail;go_quiet (fail);go_wp2;go_ret;exact⟨by rw[HR.out];rfl,WL.out.drewN _⟩
     ·have hne:(q1==m1)=false:=by simpa using hqm
      go_wp2_with fail;go_quiet (fail);go_wp2;go_roundw
      case rel=>exact⟨k+1,by omega,by go_num,HH'.out.drewN _,HH2.out.drewN _,WL.out.drewN _,by rw[HE2.out,HD.out];simp[hqm]⟩
      case measure=>simp[intOf];omega
    ·obtain rfl:k=i:=by omega
     have hz:Cf (l.take k) m1=false:=by rw[HE2.out,List.drop_of_length_le (by simp;omega)];rfl
     have hs:chk ep l=lX (l.take (k+1)) (l.drop (k+1)):=by have h1:=HO.out;rw[hz,if_neg (by simp)]at h1;rw[HE.out,Dy HM.out h1]
     have HS:=ah hs;clear hs hz;go_wp2;go_roundw
     case rel=>exact⟨k+1,by omega,by go_num,HH'.out,WL.out,HS.out⟩
     case measure=>simp[intOf];omega
  ·obtain rfl:i=l.length:=by omega
   have hr:chk ep l=0:=by rw[HE.out,List.drop_length];rfl
   have HR:=ah hr;clear hr;go_wp2;go_ret;exact⟨by rw[HR.out];rfl,HK.out⟩
theorem IQ(w:World)(ep fl:Int)(A:Option Addr)(c:Nat)(l:List Mem)(m:Mem)(r:List Mem)(he:l=m::r)(hl:Src w 2 A l.length (dL l))(hlen:l.length<=1000000):
  Calls Tryz.prog 48 #[zL ep A l.length c fl] w fun e w'=>e=.returned (.int .i64 m.1)/\Kept aj w w':=by
 have hpos:0<l.length:=by rw[he];simp
 have h0:l[0]? =some m:=by rw[he];rfl
 obtain⟨ad,hA,had,d0,d1⟩:=qX hl hpos 0 m h0;subst hA;clear hl h0 he;have Qy:∀W,Kept aj w W->Calls Tryz.prog 79 #[zL ep (some ad) l.length c fl,.int .i64 0] W fun e w'=>e=.returned (.int .i64 m.1)/\Kept aj W w':=by
  intro W hW;have d0':∀o,(W.alloc o).cell? (ad.add (0*2))=some (.int .i64 m.1):=by intro o;rw[World.cell?_of_block (w:=w) (by rw[block_add];exact(hW.alloc o).block _ (by simpa [block_add]using had) (fun x=>x))];exact d0
  have YF:(ad.add (0*2))=ad:=by unfold Addr.add;rw[if_pos (by omega)]
  rw[YF]at d0';have hadd:ad.add 0=ad:=by unfold Addr.add;rw[if_pos rfl]
  clear d0 d1 had YF hW;have HW:=ah hadd;clear hadd;generalize l.length=N at*
  have hp1:N≠0:=by omega
  have hp2:¬N<=0:=by omega
  have hp3:¬((N:Int)<=0):=by omega
  go_enter Tryz.func79,Tryz.ntmps79;go_wp2;go_ret;exact⟨rfl,(Kept.refl _ _).alloc _⟩
 have HAT:=ah Qy;clear Qy d0 d1 had;go_enter Tryz.func48,Tryz.ntmps48;go_wp2_with fail;refine(HAT.out _ ((Kept.refl _ _).alloc _)).mono ?_;rintro e w2 ⟨rfl,hk⟩;go_wp2_with fail;go_ret;exact⟨rfl,((Kept.refl _ _).alloc _).then hk⟩
end bg
namespace bg
def tN(b:Nat)(w:World)(A:Option Addr)(n c:Nat)(l:List Mem):Prop:=
 n=l.length/\w.ownsRow 0 175 2 (.slice A n c) n (dL l)/\∀k,(Value.slice A n c).ownBlock=some k->b<=k
theorem tN.nil(b:Nat)(w:World):tN b w none 0 0 []:=⟨rfl,⟨rfl,.inl ⟨rfl,rfl⟩⟩,fun k hk=>by cases hk⟩
theorem tN.kept{b:Nat}{w w':World}{A:Option Addr}{n c:Nat}{l:List Mem}(h:tN b w A n c l)(hk:Kept aj w w'):tN b w' A n c l:=
 ⟨h.1,aP h.2.1 hk (fun _ _ x=>x),h.2.2⟩
end bg
namespace bg
def zG(b:Nat)(w:World)(A:Option Addr)(n c:Nat)(l:List Int):Prop:=
 n=l.length/\w.ownsRow 0 3 1 (.slice A n c) n (ints l)/\∀k,(Value.slice A n c).ownBlock=some k->b<=k
theorem zG.nil(b:Nat)(w:World):zG b w none 0 0 []:=⟨rfl,⟨rfl,.inl ⟨rfl,rfl⟩⟩,fun k hk=>by cases hk⟩
theorem zG.kept{b:Nat}{w w':World}{A:Option Addr}{n c:Nat}{l:List Int}(h:zG b w A n c l)(hk:Kept aj w w'):zG b w' A n c l:=
 ⟨h.1,aP h.2.1 hk (fun _ _ x=>x),h.2.2⟩
theorem tN.mono{b b':Nat}{w:World}{A:Option Addr}{n c:Nat}{l:List Mem}(h:tN b w A n c l)(hb:b'<=b):tN b' w A n c l:=⟨h.1,h.2.1,fun k hk=>Nat.le_trans hb (h.2.2 k hk)⟩
theorem tN.ne{b:Nat}{w:World}{A:Option Addr}{n c:Nat}{l:List Mem}(h:tN b w A n c l){g:Nat}{t:TypeId}{cs:Array Value}(hg:Has w g t cs)(hne:175≠t):(Value.slice A n c).ownBlock≠some g:=own_ne h.2.1 hg hne
def YG(N:Next)(A:Option Addr)(n c:Nat)(B:Option Addr)(m d:Nat):Value:=.tuple #[zL N.ep A n c N.fl,.slice B m d,.int .i64 N.e]
def jJ(w:World)(N:Next)(e:Ending)(w':World):Prop:=
 ∃A n c B m d,e=.returned (YG N A n c B m d)/\tN w.heap.size w' A n c N.l/\zG w.heap.size w' B m d N.t/\Kept aj w w'
