/- Part 5 of what the proof needs. -/
import Derived.Test.YtolkgbafebehfaaGreatZP03
set_option linter.unusedSimpArgs false
set_option linter.unusedVariables false
set_option maxHeartbeats 32000000
set_option maxRecDepth 100000
namespace Go.Proofs.YtolkgbafebehfaaGreat
open Go.RowKit
set_option maxRecDepth 100000
namespace gX
open aP Ops zY Vn
structure bH where
 k:Int
 ep:Int
 req:Int
 aV:Int
 fl:Bool
 at':Int
 last:Int
 n:Int
 m:Int
 p:Int
 e:Int
 key:ByteArray
 to:ByteArray
 wX:Int
 mA:Option Addr
 mc:Nat
 ms:List Mem
 yt:Int
 gZ:Int
 eG:Int
 oA:Option Addr
 oc:Nat
 ops:List qX
 eA:Option Addr
 ec:Nat
 es:List kF
 sA:Option Addr
 sc:Nat
 ss:List Int
 pA:Option Addr
 pc:Nat
 ps:List kT
def uM(l:List Int):List Value:=l.map (Value.int .u64)
def aG(x:bH):List Value:=[.int .i64 x.k,.int .i64 x.ep,.int .i64 x.req,.int .i64 x.aV,.bool x.fl,.int .u64 x.at',.int .u64 x.last,.int .i64 x.n,.int .i64 x.m,.int .i64 x.p,.int .i64 x.e,.string x.key,.string x.to,
 .int .i64 x.wX,.slice x.mA x.ms.length x.mc,.int .u64 x.yt,.int .i64 x.gZ,.int .i64 x.eG,.slice x.oA x.ops.length x.oc,.slice x.eA x.es.length x.ec,.slice x.sA x.ss.length x.sc,.slice x.pA x.ps.length x.pc]
abbrev eH(x:bH):Value:=.agg (aG x).toArray
def qM(x:bH):Batch:=⟨x.gZ,x.eG,x.ops⟩
structure iG(w:World)(x:bH):Prop where
 m:Src w 2 x.mA x.ms.length (aS x.ms)
 mc:x.ms.length<=x.mc
 ml:x.ms.length<=1000
 o:Src w 3 x.oA x.ops.length (cells x.ops)
 e:Src w 4 x.eA x.es.length (vU x.es)
 eo:∀y∈x.es,Src w 3 y.A y.ops.length (cells y.ops)/\0<=y.ts/\y.ts<=aT
 el:x.es.length<=1000
 s:Src w 1 x.sA x.ss.length (uM x.ss)
 sl:x.ss.length<=1000
 so:∀y∈x.ss,0<=y/\y<=aT
 p:Src w 2 x.pA x.ps.length (aK x.ps)
 pl:x.ps.length<=1000
 t:(0<=x.at'/\x.at'<=aT)/\(0<=x.last/\x.last<=aT)/\(0<=x.yt/\x.yt<=aT)
theorem iG.kept{w w':World}{x:bH}(h:iG w x)(hk:Kept aj w w'):iG w' x:=
 ⟨h.m.kept hk (fun _ _ z=>z),h.mc,h.ml,h.o.kept hk (fun _ _ z=>z),h.e.kept hk (fun _ _ z=>z),fun y hy=>⟨(h.eo y hy).1.kept hk (fun _ _ z=>z),(h.eo y hy).2⟩,h.el,h.s.kept hk (fun _ _ z=>z),h.sl,h.so,h.p.kept hk (fun _ _ z=>z),h.pl,h.t⟩
def aal:List (List Nat):=[[],[67,97],[101,115,102,97,108],[101,110,109,112,114,97,69],[101,110,109,112,83],[101,66],[114,97],[114,120,101,110],[114,107,97],[114,107,116,97,110],[114,107,97,102,82],[114,97],[114,110],[114,110],[114,110],[]]
def isKind(k:Int):Bool:=decide (1<=k/\k<=15)
def partsOf(k:Int):List Nat:=if 1<=k/\k<=15 then aal.getD k.toNat []else []
def letters:List Nat:=[67,97,101,115,102,108,110,109,112,114,69,83,66,120,107,116,82]
theorem zH(k:Int):∀c∈partsOf k,c∈letters:=by
 unfold partsOf
 by_cases h:1<=k/\k<=15
 ·rw[if_pos h]
  have:k=1\/k=2\/k=3\/k=4\/k=5\/k=6\/k=7\/k=8\/k=9\/k=10\/k=11\/k=12\/k=13\/k=14\/k=15:=by omega
  rcases this with rfl|rfl|rfl|rfl|rfl|rfl|rfl|rfl|rfl|rfl|rfl|rfl|rfl|rfl|rfl<;>decide
 ·rw[if_neg h];intro c hc;simp at hc
theorem QK(k:Int):(partsOf k).length<=7:=by
 unfold partsOf
 by_cases h:1<=k/\k<=15
 ·rw[if_pos h]
  have:k=1\/k=2\/k=3\/k=4\/k=5\/k=6\/k=7\/k=8\/k=9\/k=10\/k=11\/k=12\/k=13\/k=14\/k=15:=by omega
  rcases this with rfl|rfl|rfl|rfl|rfl|rfl|rfl|rfl|rfl|rfl|rfl|rfl|rfl|rfl|rfl<;>decide
 ·rw[if_neg h];decide
def lets(l:List Nat):ByteArray:=bu (lU l)
def qj(x:bH)(c:Nat):Int:=if c=101 then x.ep else if c=115 then x.aV else if c=114 then x.req else if c=110 then x.n else if c=109 then x.m else x.p
def isNum(c:Nat):Bool:=decide (c=101\/c=115\/c=114\/c=110\/c=109\/c=112)
def numAt(c:Nat):Nat:=if c=101 then 1 else if c=115 then 3 else if c=114 then 2 else if c=110 then 7 else if c=109 then 8 else 9
def dI{α:Type}(f:α->Int):List α->Int
 |[]=>0
 |a::l=>if f a=0 then dI f l else f a
theorem yS{α:Type}(f:α->Int){l:List α}{i:Nat}{a:α}(h:l[i]? =some a):dI f (l.drop i)=if f a=0 then dI f (l.drop (i+1))else f a:=by
 obtain⟨hi,rfl⟩:=List.getElem?_eq_some_iff.1 h
 rw[List.drop_eq_getElem_cons hi,dI]
theorem vV{α:Type}{f:α->Int}{l:List α}(h:dI f l=0):∀a∈l,f a=0:=by
 induction l with
 |nil=>intro a ha;cases ha
 |cons b l ih=>
  rw[dI]at h
  by_cases hb:f b=0
  ·rw[if_pos hb]at h
   intro a ha
   rcases List.mem_cons.1 ha with rfl|ha
   ·exact hb
   ·exact ih h a ha
  ·rw[if_neg hb]at h;exact absurd h hb
def keyE(s:ByteArray):Int:=if s.size<1\/8<s.size then 10 else 0
def oL(p:kT):Int:=if keyE p.key≠0 then keyE p.key else if 8<p.val.size then 3 else 0
def IU(n:Int):Int:=if n<0\/1073741824<n then 5 else 0
def bU(x:bH)(c:Nat):Int:=
 if isNum c=true then IU (qj x c)
 else if c=120 then (if x.e<0\/21<x.e then 1 else 0)
 else if c=107 then (if 8<x.key.size then 3 else 0)
 else if c=116 then (if 8<x.to.size then 3 else 0)
 else if c=67 then aP.chk x.wX x.ms
 else if c=66 then Ops.chk (qM x)
 else if c=69 then (if 4<x.es.length then 6 else dI (fun y=>Ops.chk (mV y)) x.es)
 else if c=83 then (if 8<x.ss.length then 6 else 0)
 else if c=82 then (if 32<x.ps.length then 6 else dI oL x.ps)
 else 0
def ni(x:bH):Int:=if isKind x.k=true then dI (bU x) (partsOf x.k)else 11
def VA(ep:Int)(ms:List Mem)(fl:Int):List UInt8:=put ep.toNat++put ms.length++(ms.flatMap fun m=>put m.1.toNat++put m.2.toNat)++put fl.toNat
def nU(ep:Int)(ms:List Mem)(fl:Int):ByteArray:=if aP.chk ep ms=0 then bu (VA ep ms fl)else emp
def zZ(b:Batch):ByteArray:=if Ops.chk b=0 then bu (zW b)else emp
def VB(e:kF):List UInt8:=put e.ts.toNat++dD (bu (zW (mV e)))
def lQ(e:kF):ByteArray:=if Ops.chk (mV e)=0 then bu (VB e)else emp
def fC(x:bH)(c:Nat):List UInt8:=
 if isNum c=true then put (qj x c).toNat
 else if c=120 then put x.e.toNat
 else if c=97 then put x.at'.toNat
 else if c=108 then put x.last.toNat
 else if c=102 then xO x.fl
 else if c=107 then dD x.key
 else if c=116 then dD x.to
 else if c=67 then dD (nU x.wX x.ms x.yt)
 else if c=66 then dD (zZ (qM x))
 else if c=69 then put x.es.length++x.es.flatMap fun y=>dD (lQ y)
 else if c=83 then put x.ss.length++x.ss.flatMap fun y=>put y.toNat
 else if c=82 then put x.ps.length++x.ps.flatMap fun y=>dD y.key++dD y.val
 else []
def VC(x:bH):List UInt8:=put x.k.toNat++(partsOf x.k).flatMap (fC x)
def Aa(x:bH):ByteArray:=if ni x=0 then bu (VC x)else emp
theorem bn{n:Nat}(h:n<=18446744073709551615):(put n).length<=9:=kX (by omega)
theorem iQ{s:ByteArray}{m:Nat}(h:s.size<=m)(hm:m<=18446744073709551615):(dD s).length<=9+m:=by
 have:=bn (n:=s.size) (by omega)
 unfold dD
 rw[List.length_append,dh]
 omega
theorem lS{α β:Type}(f:α->List β)(l:List α)(M:Nat)(h:∀a∈l,(f a).length<=M):(l.flatMap f).length<=l.length*M:=by
 induction l with
 |nil=>simp
 |cons a l ih=>
  rw[List.flatMap_cons,List.length_append,List.length_cons]
  have h1:=h a (List.mem_cons_self ..)
  have h2:=ih fun b hb=>h b (List.mem_cons_of_mem _ hb)
  rw[Nat.succ_mul]
  omega
theorem VD{ep:Int}{ms:List Mem}{fl:Int}(h:aP.chk ep ms=0)(hf:0<=fl/\fl<=aT):(VA ep ms fl).length<=99:=by
 obtain⟨h1,_,h2,h3⟩:=kH h
 have a1:=bn (n:=ep.toNat) (by omega)
 have a2:=bn (n:=ms.length) (by omega)
 have a3:=bn (n:=fl.toNat) (by unfold aT at hf;omega)
 have a4:=lS (fun m:Mem=>put m.1.toNat++put m.2.toNat) ms 18 (fun m hm=>by
  have b1:=h3.id m hm
  have b2:=h3.aV m hm
  have c1:=bn (n:=m.1.toNat) (by omega)
  have c2:=bn (n:=m.2.toNat) (by omega)
  rw[List.length_append];omega)
 unfold VA
 rw[List.length_append,List.length_append,List.length_append]
 omega
theorem wY{ep:Int}{ms:List Mem}{fl:Int}(hf:0<=fl/\fl<=aT):(nU ep ms fl).size<=99:=by
 unfold nU
 split
 ·rename_i h
  have:=VD h hf
  rw[<-dh,kN];exact this
 ·decide
theorem IV{b:Batch}(h:Ops.chk b=0):(zW b).length<=103:=by
 obtain⟨h1,h2,h3,h4,h5,h6⟩:=QE h
 have hk:=Np h6
 have a1:=bn (n:=b.cl.toNat) (by omega)
 have a2:=bn (n:=b.req.toNat) (by omega)
 have a3:=bn (n:=b.ops.length) (by omega)
 have a4:=Iz b.ops (fun o ho=>Iy (hk o ho).2.1 (hk o ho).2.2.1)
 unfold zW
 rw[List.length_append,List.length_append,List.length_append]
 omega
theorem Dq(b:Batch):(zZ b).size<=103:=by
 unfold zZ
 split
 ·rename_i h
  have:=IV h
  rw[<-dh,kN];exact this
 ·decide
theorem vW{e:kF}(h:0<=e.ts/\e.ts<=aT):(lQ e).size<=121:=by
 unfold lQ
 split
 ·rename_i h0
  have a1:=IV h0
  have a2:=iQ (s:=bu (zW (mV e))) (m:=103) (by rw[<-dh,kN];exact a1) (by omega)
  have a3:=bn (n:=e.ts.toNat) (by unfold aT at h;omega)
  rw[<-dh,kN]
  unfold VB
  rw[List.length_append]
  omega
 ·decide
theorem QL{w:World}{x:bH}(h:iG w x){c:Nat}(hc:bU x c=0):(fC x c).length<=1100:=by
 unfold fC
 unfold bU at hc
 obtain⟨⟨t1,t2⟩,⟨t3,t4⟩,t5⟩:=h.t
 unfold aT at t2 t4
 by_cases c1:isNum c=true
 ·rw[if_pos c1]at hc⊢
  unfold IU at hc
  by_cases hr:qj x c<0\/1073741824<qj x c
  ·rw[if_pos hr]at hc;cases hc
  ·have:=bn (n:=(qj x c).toNat) (by omega);omega
 rw[if_neg c1]at hc⊢
 by_cases c2:c=120
 ·rw[if_pos c2]at hc⊢
  by_cases hr:x.e<0\/21<x.e
  ·rw[if_pos hr]at hc;cases hc
  ·have:=bn (n:=x.e.toNat) (by omega);omega
 rw[if_neg c2]at hc⊢
 by_cases c3:c=97
 ·rw[if_pos c3];have:=bn (n:=x.at'.toNat) (by omega);omega
 rw[if_neg c3]
 by_cases c4:c=108
 ·rw[if_pos c4];have:=bn (n:=x.last.toNat) (by omega);omega
 rw[if_neg c4]
 by_cases c5:c=102
 ·rw[if_pos c5];unfold xO;simp
 rw[if_neg c5]
 by_cases c6:c=107
 ·rw[if_pos c6]at hc⊢
  have:=iQ (s:=x.key) (m:=8) (by by_cases hr:8<x.key.size;rw[if_pos hr]at hc;cases hc;omega) (by omega);omega
 rw[if_neg c6]at hc⊢
 by_cases c7:c=116
 ·rw[if_pos c7]at hc⊢
  have:=iQ (s:=x.to) (m:=8) (by by_cases hr:8<x.to.size;rw[if_pos hr]at hc;cases hc;omega) (by omega);omega
 rw[if_neg c7]at hc⊢
 by_cases c8:c=67
 ·rw[if_pos c8]at hc⊢
  have:=iQ (s:=nU x.wX x.ms x.yt) (m:=99) (wY t5) (by omega);omega
 rw[if_neg c8]at hc⊢
 by_cases c9:c=66
 ·rw[if_pos c9]at hc⊢
  have:=iQ (s:=zZ (qM x)) (m:=103) (Dq _) (by omega);omega
 rw[if_neg c9]at hc⊢
 by_cases c10:c=69
 ·rw[if_pos c10]at hc⊢
  by_cases hr:4<x.es.length
  ·rw[if_pos hr]at hc;cases hc
  ·have a1:=bn (n:=x.es.length) (by omega)
   have a2:=lS (fun y=>dD (lQ y)) x.es 130 (fun y hy=>by
    have:=iQ (s:=lQ y) (m:=121) (vW (h.eo y hy).2) (by omega);omega)
   rw[List.length_append];omega
 rw[if_neg c10]at hc⊢
 by_cases c11:c=83
 ·rw[if_pos c11]at hc⊢
  by_cases hr:8<x.ss.length
  ·rw[if_pos hr]at hc;cases hc
  ·have a1:=bn (n:=x.ss.length) (by omega)
   have a2:=lS (fun y:Int=>put y.toNat) x.ss 9 (fun y hy=>by
    have b:=h.so y hy
    unfold aT at b
    exact bn (by omega))
   rw[List.length_append];omega
 rw[if_neg c11]at hc⊢
 by_cases c12:c=82
 ·rw[if_pos c12]at hc⊢
  by_cases hr:32<x.ps.length
  ·rw[if_pos hr]at hc;cases hc
  ·rw[if_neg hr]at hc
   have hz:=vV hc
   have a1:=bn (n:=x.ps.length) (by omega)
   have a2:=lS (fun y:kT=>dD y.key++dD y.val) x.ps 34 (fun y hy=>by
    have hy0:=hz y hy
    unfold oL keyE at hy0
    by_cases e1:y.key.size<1\/8<y.key.size
    ·rw[if_pos e1,if_pos (by decide)]at hy0;cases hy0
    ·rw[if_neg e1,if_neg (by decide)]at hy0
     have b1:=iQ (s:=y.key) (m:=8) (by omega) (by omega)
     have b2:=iQ (s:=y.val) (m:=8) (by by_cases e2:8<y.val.size;rw[if_pos e2]at hy0;cases hy0;omega) (by omega)
     rw[List.length_append];omega)
   rw[List.length_append];omega
 rw[if_neg c12];simp
end gX
namespace aP
theorem Ac{l:List Mem}{i:Nat}{m:Mem}(h:l[i]? =some m)(h0:mZ m (l.take i)=0):jl (l.take i) (l.drop i)=jl (l.take (i+1)) (l.drop (i+1)):=by
 rw[drop_cons h,take_snoc h]
 conv=>lhs;unfold jl
 rw[if_pos h0]
theorem Ad{l:List Mem}{i:Nat}{m:Mem}(h:l[i]? =some m)(h0:mZ m (l.take i)≠0):jl (l.take i) (l.drop i)=mZ m (l.take i):=by
 rw[drop_cons h]
 unfold jl
 rw[if_neg h0]
def zI(a b:List Mem):Bool:=decide (a=b)
theorem Zo{a b:List Mem}(h:a.length≠b.length):zI a b=false:=by unfold zI;rw[decide_eq_false];rintro rfl;exact h rfl
theorem VE{a b:List Mem}{i:Nat}{x y:Mem}(ha:a[i]? =some x)(hb:b[i]? =some y):zI (a.drop i) (b.drop i)=(decide (x=y)&&zI (a.drop (i+1)) (b.drop (i+1))):=by
 unfold zI
 rw[drop_cons ha,drop_cons hb]
 by_cases h:x=y
 ·subst h;simp
 ·simp[h]
end aP
namespace aP
def bT(b:Nat)(w:World)(A:Option Addr)(n c:Nat)(l:List Mem):Prop:=
 n=l.length/\w.ownsRow 0 53 2 (.slice A n c) n (aS l)/\∀k,(Value.slice A n c).ownBlock=some k->b<=k
theorem bT.nil(b:Nat)(w:World):bT b w none 0 0 []:=⟨rfl,⟨rfl,.inl ⟨rfl,rfl⟩⟩,fun k hk=>by cases hk⟩
theorem bT.kept{b:Nat}{w w':World}{A:Option Addr}{n c:Nat}{l:List Mem}(h:bT b w A n c l)(hk:Kept aj w w'):bT b w' A n c l:=
 ⟨h.1,aC h.2.1 hk (fun _ _ x=>x),h.2.2⟩
theorem bT.src{b:Nat}{w:World}{A:Option Addr}{n c:Nat}{l:List Mem}(h:bT b w A n c l):Src w 2 A l.length (aS l):=by
 have h1:=Src.bC h.2.1
 rw[h.1]at h1
 exact h1
theorem bT.snoc{b:Nat}{w w':World}{A A':Option Addr}{n c c':Nat}{l:List Mem}{m:Mem}(h:bT b w A n c l)(hb:b<=w.heap.size)
  (ho:w'.ownsRow 0 53 2 (.slice A' (n+1) c') (n+1) (aS l++[.int .i64 m.1,.int .i64 m.2]))
  (ha:(Value.slice A' (n+1) c').ownBlock=(Value.slice A n c).ownBlock\/(Value.slice A' (n+1) c').ownBlock=some w.heap.size):bT b w' A' (n+1) c' (l++[m]):=by
 refine⟨by rw[h.1];simp,by rw[zG];exact ho,fun k hk=> ?_⟩
 rcases ha with e|e
 ·exact h.2.2 k (e.symm.trans hk)
 ·rw[hk]at e
  injection e with e
  omega
theorem CJ{l:List Mem}{i:Nat}{m:Mem}(p:Mem->Bool)(h:l[i]? =some m):(l.take (i+1)).filter p=(l.take i).filter p++if p m=true then [m]else []:=by
 rw[take_snoc h,List.filter_append]
 by_cases hp:p m=true<;>simp[hp]
theorem Ov{l:List Mem}{i:Nat}{m:Mem}{p:Mem->Bool}(h:l[i]? =some m)(hp:p m=true):(l.take (i+1)).filter p=(l.take i).filter p++[m]:=by rw[CJ p h,if_pos hp]
theorem QM{l:List Mem}{i:Nat}{m:Mem}{p:Mem->Bool}(h:l[i]? =some m)(hp:p m=false):(l.take (i+1)).filter p=(l.take i).filter p:=by rw[CJ p h,if_neg (by rw[hp];decide),List.append_nil]
theorem Ox(g t:List Int)(m:Mem):isFirst g t m=(!inB g m.1&&inB t m.1):=rfl
theorem QN(g t:List Int)(m:Mem):uh g t m=(!inB g m.1&& !inB t m.1):=rfl
end aP
namespace Mst
open aP
structure aZ where
 id:Int
 at':Int
 left:Int
deriving DecidableEq
def oK(p:aZ):List Value:=[.int .i64 p.id,.int .u64 p.at',.int .i64 p.left]
def aK(l:List aZ):List Value:=l.flatMap oK
abbrev yQ(p:aZ):Value:=.agg #[.int .i64 p.id,.int .u64 p.at',.int .i64 p.left]
theorem jU{w:World}{A:Option Addr}{m:Nat}{l:List aZ}(h:Src w 3 A m (aK l))(hm:0<m)(i:Nat)(p:aZ)(hp:l[i]? =some p):
  ∃ad,A=some ad/\ad.block<w.heap.size/\w.cell? (ad.add (i*3))=some (.int .i64 p.id)/\w.cell? ⟨(ad.add (i*3)).block,(ad.add (i*3)).off+1,none⟩=some (.int .u64 p.at')/\w.cell? ⟨(ad.add (i*3)).block,(ad.add (i*3)).off+2,none⟩=some (.int .i64 p.left):=by
 obtain⟨ad,rfl,had,hcell⟩:=h.2 hm
 have k0:(aK l)[i*3]? =some (.int .i64 p.id):=by
  unfold aK
  rw[flat_get oK 3 (by decide) (fun _=>rfl),show i*3/3=i by omega,show i*3%3=0 by omega,hp];rfl
 have k1:(aK l)[i*3+1]? =some (.int .u64 p.at'):=by
  unfold aK
  rw[flat_get oK 3 (by decide) (fun _=>rfl),show(i*3+1)/3=i by omega,show(i*3+1)%3=1 by omega,hp];rfl
 have k2:(aK l)[i*3+2]? =some (.int .i64 p.left):=by
  unfold aK
  rw[flat_get oK 3 (by decide) (fun _=>rfl),show(i*3+2)/3=i by omega,show(i*3+2)%3=2 by omega,hp];rfl
 refine⟨ad,rfl,had,hcell _ _ k0,?_,?_⟩
 ·rw[<-add_lit _ (by omega),add_add];exact hcell _ _ k1
 ·rw[<-add_lit _ (by omega),add_add];exact hcell _ _ k2
theorem enters{f:FuncId}{fn:Func}{c:Code}(hf:Tryz.prog.funcs[f]? =some fn)(hname:(fn.name== "runtime.NumGoroutine")=false)(hb:fn.body=some c)(args:Array Value)(w:World):
  (callFunc f args).run Tryz.prog w=.ok (.enter f args) w:=by
 have h1:fn.name≠ "runtime.NumGoroutine" :=by simpa using hname
 simp[callFunc,hf,h1,hb]
def iq{α:Type}(p:α->Bool):List α->Nat->Int
 |[],_=> -1
 |x::l,i=>if p x=true then i else iq p l (i+1)
theorem BQ{α:Type}(p:α->Bool){l:List α}{i:Nat}{x:α}(h:l[i]? =some x):iq p (l.drop i) i=if p x=true then (i:Int)else iq p (l.drop (i+1)) (i+1):=by
 obtain⟨hi,rfl⟩:=List.getElem?_eq_some_iff.1 h
 rw[List.drop_eq_getElem_cons hi,iq]
theorem yT{α:Type}(p:α->Bool)(l:List α)(i:Nat):decide (0<=iq p l i)=l.any p:=by
 induction l generalizing i with
 |nil=>simp[iq]
 |cons x l ih=>
  rw[iq,List.any_cons]
  cases hx:p x
  ·rw[if_neg (by simp),ih,Bool.false_or]
  ·rw[if_pos rfl,Bool.true_or];simp
theorem Oy(w:World)(A:Option Addr)(c:Nat)(l:List Int)(g:Nat)(cap:Value)(p:Int->Bool)(eg:∀args w,(callFunc g args).run Tryz.prog w=.ok (.enter g args) w)(hl:Src w 1 A l.length (ints l))(hlen:l.length<=1000000)
  (hf:∀W x,Kept aj w W->x∈l->Calls Tryz.prog g #[.int .i64 x,cap] W fun e W'=>e=.returned (.bool (p x))/\Kept aj W W'):
  Calls Tryz.prog 335 #[.slice A l.length c,.func (.func g) #[] #[cap]] w fun r w'=>r=.returned (.int .i64 (iq p l 0))/\Kept aj w w':=by
 have HL:=ah hl;clear hl
 have eX:=ah hf;clear hf
 obtain⟨r,hr⟩:∃r,iq p l 0=r:=⟨_,rfl⟩
 rw[hr]
 have HR:=ah hr;clear hr
 go_enter Tryz.func335,Tryz.ntmps335
 go_wp2_with fail
 go_loopw [5,8] (fun v5 v8 wr=>∃i:Nat,i<=l.length/\v8=.int .i64 i/\r=iq p (l.drop i) i/\Kept aj w wr) (fun _ v8 _=>l.length-(intOf v8).toNat)
 case atStart=>exact⟨0,Nat.zero_le _,rfl,HR.out.symm,Kept.refl _ _⟩
 case round=>
  obtain⟨i,hi,rfl,hrr,hk⟩:=hrel
  have HK:=ah hk;clear hk
  by_cases hil:i<l.length
  ·obtain⟨x,hx⟩:∃x,l[i]? =some x:=⟨_,List.getElem?_eq_getElem hil⟩
   have hsa:=BQ p hx
   obtain⟨ad,rfl,hl1,x0⟩:=o7 (HL.out.kept HK.out (fun _ _ x=>x)) (by omega) i x hx
   have hcall:=eX.out wr x HK.out (List.mem_of_getElem? hx)
   rw[hsa]at hrr
   obtain⟨t,ht⟩:∃t,p x=t:=⟨_,rfl⟩
   rw[ht]at hcall hrr
   clear hsa ht hx
   have HC:=ah hcall;clear hcall
   have HRR:=ah hrr;clear hrr
   go_wp2_with fail
   refine HC.out.mono ?_
   rintro e w5 ⟨rfl,hk0⟩
   have cO:=ah (HK.out.then hk0);clear hk0
   cases t
   ·have hrf:=HRR.out
    rw[if_neg (by simp)]at hrf
    have lH:=ah hrf;clear hrf HRR
    go_wp2
    go_roundw
    case rel=>exact⟨i+1,by omega,by go_num,lH.out,cO.out⟩
    case measure=>simp[intOf];omega
   ·have hrf:=HRR.out
    rw[if_pos rfl]at hrf
    have lH:=ah hrf;clear hrf HRR
    go_wp2
    go_ret
    exact⟨by rw[lH.out];rfl,cO.out⟩
  ·obtain rfl:i=l.length:=by omega
   rw[List.drop_length,iq]at hrr
   have HRR:=ah hrr;clear hrr
   go_wp2
   go_ret
   exact⟨by rw[HRR.out];rfl,HK.out⟩
theorem Oz(w:World)(A:Option Addr)(c:Nat)(l:List Int)(g:Nat)(cap:Value)(p:Int->Bool)(eg:∀args w,(callFunc g args).run Tryz.prog w=.ok (.enter g args) w)(hl:Src w 1 A l.length (ints l))(hlen:l.length<=1000000)
  (hf:∀W x,Kept aj w W->x∈l->Calls Tryz.prog g #[.int .i64 x,cap] W fun e W'=>e=.returned (.bool (p x))/\Kept aj W W'):
  Calls Tryz.prog 230 #[.slice A l.length c,.func (.func g) #[] #[cap]] w fun r w'=>r=.returned (.bool (l.any p))/\Kept aj w w':=by
 have hi:=Oy w A c l g cap p eg hl hlen hf
 have ha:=yT p l 0
 obtain⟨k,hk⟩:∃k,iq p l 0=k:=⟨_,rfl⟩
 rw[hk]at hi ha
 rw[<-ha]
 have HI:=ah hi;clear hi hk hf hl ha eg
 go_enter Tryz.func230,Tryz.ntmps230
 go_wp2_with fail
 refine HI.out.mono ?_
 rintro e w2 ⟨rfl,hk⟩
 have HK:=ah hk;clear hk
 go_wp2
 go_ret
 exact⟨by simp,HK.out⟩
theorem OA(w:World)(A:Option Addr)(c:Nat)(l:List Mem)(g:Nat)(cap:Value)(p:Mem->Bool)(eg:∀args w,(callFunc g args).run Tryz.prog w=.ok (.enter g args) w)(hl:Src w 2 A l.length (aS l))(hlen:l.length<=1000000)
  (hf:∀W x,Kept aj w W->x∈l->Calls Tryz.prog g #[iJ x,cap] W fun e W'=>e=.returned (.bool (p x))/\Kept aj W W'):
  Calls Tryz.prog 263 #[.slice A l.length c,.func (.func g) #[] #[cap]] w fun r w'=>r=.returned (.int .i64 (iq p l 0))/\Kept aj w w':=by
 have HL:=ah hl;clear hl
 have eX:=ah hf;clear hf
 obtain⟨r,hr⟩:∃r,iq p l 0=r:=⟨_,rfl⟩
 rw[hr]
 have HR:=ah hr;clear hr
 go_enter Tryz.func263,Tryz.ntmps263
 go_wp2_with fail
 go_loopw [5,8] (fun v5 v8 wr=>∃i:Nat,i<=l.length/\v8=.int .i64 i/\r=iq p (l.drop i) i/\Kept aj w wr) (fun _ v8 _=>l.length-(intOf v8).toNat)
 case atStart=>exact⟨0,Nat.zero_le _,rfl,HR.out.symm,Kept.refl _ _⟩
 case round=>
  obtain⟨i,hi,rfl,hrr,hk⟩:=hrel
  have HK:=ah hk;clear hk
  by_cases hil:i<l.length
  ·obtain⟨x,hx⟩:∃x,l[i]? =some x:=⟨_,List.getElem?_eq_getElem hil⟩
   have hsa:=BQ p hx
   obtain⟨ad,rfl,hl1,x0,x1⟩:=ig (HL.out.kept HK.out (fun _ _ x=>x)) (by omega) i x hx
   have hcall:=eX.out wr x HK.out (List.mem_of_getElem? hx)
   rw[hsa]at hrr
   obtain⟨t,ht⟩:∃t,p x=t:=⟨_,rfl⟩
   rw[ht]at hcall hrr
   clear hsa ht hx
   have HC:=ah hcall;clear hcall
   have HRR:=ah hrr;clear hrr
   go_wp2_with fail
   refine HC.out.mono ?_
   rintro e w5 ⟨rfl,hk0⟩
   have cO:=ah (HK.out.then hk0);clear hk0
   cases t
   ·have hrf:=HRR.out
    rw[if_neg (by simp)]at hrf
    have lH:=ah hrf;clear hrf HRR
    go_wp2
    go_roundw
    case rel=>exact⟨i+1,by omega,by go_num,lH.out,cO.out⟩
    case measure=>simp[intOf];omega
   ·have hrf:=HRR.out
    rw[if_pos rfl]at hrf
    have lH:=ah hrf;clear hrf HRR
    go_wp2
    go_ret
    exact⟨by rw[lH.out];rfl,cO.out⟩
  ·obtain rfl:i=l.length:=by omega
   rw[List.drop_length,iq]at hrr
   have HRR:=ah hrr;clear hrr
   go_wp2
   go_ret
   exact⟨by rw[HRR.out];rfl,HK.out⟩
theorem yU(w:World)(A:Option Addr)(c:Nat)(l:List Mem)(g:Nat)(cap:Value)(p:Mem->Bool)(eg:∀args w,(callFunc g args).run Tryz.prog w=.ok (.enter g args) w)(hl:Src w 2 A l.length (aS l))(hlen:l.length<=1000000)
  (hf:∀W x,Kept aj w W->x∈l->Calls Tryz.prog g #[iJ x,cap] W fun e W'=>e=.returned (.bool (p x))/\Kept aj W W'):
  Calls Tryz.prog 151 #[.slice A l.length c,.func (.func g) #[] #[cap]] w fun r w'=>r=.returned (.bool (l.any p))/\Kept aj w w':=by
 have hi:=OA w A c l g cap p eg hl hlen hf
 have ha:=yT p l 0
 obtain⟨k,hk⟩:∃k,iq p l 0=k:=⟨_,rfl⟩
 rw[hk]at hi ha
 rw[<-ha]
 have HI:=ah hi;clear hi hk hf hl ha eg
 go_enter Tryz.func151,Tryz.ntmps151
 go_wp2_with fail
 refine HI.out.mono ?_
 rintro e w2 ⟨rfl,hk⟩
 have HK:=ah hk;clear hk
 go_wp2
 go_ret
 exact⟨by simp,HK.out⟩
theorem ru(w:World)(A:Option Addr)(c:Nat)(l:List aZ)(g:Nat)(cap:Value)(p:aZ->Bool)(eg:∀args w,(callFunc g args).run Tryz.prog w=.ok (.enter g args) w)(hl:Src w 3 A l.length (aK l))(hlen:l.length<=1000000)
  (hf:∀W x,Kept aj w W->x∈l->Calls Tryz.prog g #[yQ x,cap] W fun e W'=>e=.returned (.bool (p x))/\Kept aj W W'):
  Calls Tryz.prog 249 #[.slice A l.length c,.func (.func g) #[] #[cap]] w fun r w'=>r=.returned (.int .i64 (iq p l 0))/\Kept aj w w':=by
 have HL:=ah hl;clear hl
 have eX:=ah hf;clear hf
 obtain⟨r,hr⟩:∃r,iq p l 0=r:=⟨_,rfl⟩
 rw[hr]
 have HR:=ah hr;clear hr
 go_enter Tryz.func249,Tryz.ntmps249
 go_wp2_with fail
 go_loopw [5,8] (fun v5 v8 wr=>∃i:Nat,i<=l.length/\v8=.int .i64 i/\r=iq p (l.drop i) i/\Kept aj w wr) (fun _ v8 _=>l.length-(intOf v8).toNat)
 case atStart=>exact⟨0,Nat.zero_le _,rfl,HR.out.symm,Kept.refl _ _⟩
 case round=>
  obtain⟨i,hi,rfl,hrr,hk⟩:=hrel
  have HK:=ah hk;clear hk
  by_cases hil:i<l.length
  ·obtain⟨x,hx⟩:∃x,l[i]? =some x:=⟨_,List.getElem?_eq_getElem hil⟩
   have hsa:=BQ p hx
   obtain⟨ad,rfl,hl1,x0,x1,x2⟩:=jU (HL.out.kept HK.out (fun _ _ x=>x)) (by omega) i x hx
   have hcall:=eX.out wr x HK.out (List.mem_of_getElem? hx)
   rw[hsa]at hrr
   obtain⟨t,ht⟩:∃t,p x=t:=⟨_,rfl⟩
   rw[ht]at hcall hrr
   clear hsa ht hx
   have HC:=ah hcall;clear hcall
   have HRR:=ah hrr;clear hrr
   go_wp2_with fail
   refine HC.out.mono ?_
   rintro e w5 ⟨rfl,hk0⟩
   have cO:=ah (HK.out.then hk0);clear hk0
   cases t
   ·have hrf:=HRR.out
    rw[if_neg (by simp)]at hrf
    have lH:=ah hrf;clear hrf HRR
    go_wp2
    go_roundw
    case rel=>exact⟨i+1,by omega,by go_num,lH.out,cO.out⟩
    case measure=>simp[intOf];omega
   ·have hrf:=HRR.out
    rw[if_pos rfl]at hrf
    have lH:=ah hrf;clear hrf HRR
    go_wp2
    go_ret
    exact⟨by rw[lH.out];rfl,cO.out⟩
  ·obtain rfl:i=l.length:=by omega
   rw[List.drop_length,iq]at hrr
   have HRR:=ah hrr;clear hrr
   go_wp2
   go_ret
   exact⟨by rw[HRR.out];rfl,HK.out⟩
theorem OB(w:World)(A:Option Addr)(c:Nat)(l:List aZ)(g:Nat)(cap:Value)(p:aZ->Bool)(eg:∀args w,(callFunc g args).run Tryz.prog w=.ok (.enter g args) w)(hl:Src w 3 A l.length (aK l))(hlen:l.length<=1000000)
  (hf:∀W x,Kept aj w W->x∈l->Calls Tryz.prog g #[yQ x,cap] W fun e W'=>e=.returned (.bool (p x))/\Kept aj W W'):
  Calls Tryz.prog 205 #[.slice A l.length c,.func (.func g) #[] #[cap]] w fun r w'=>r=.returned (.bool (l.any p))/\Kept aj w w':=by
 have hi:=ru w A c l g cap p eg hl hlen hf
 have ha:=yT p l 0
 obtain⟨k,hk⟩:∃k,iq p l 0=k:=⟨_,rfl⟩
 rw[hk]at hi ha
 rw[<-ha]
 have HI:=ah hi;clear hi hk hf hl ha eg
 go_enter Tryz.func205,Tryz.ntmps205
 go_wp2_with fail
 refine HI.out.mono ?_
 rintro e w2 ⟨rfl,hk⟩
 have HK:=ah hk;clear hk
 go_wp2
 go_ret
 exact⟨by simp,HK.out⟩
def jm(f:Nat->Int->Int):List Int->Nat->Int
 |[],_=>0
 |x::l,i=>if f i x=0 then jm f l (i+1)else f i x
theorem QO(f:Nat->Int->Int){l:List Int}{i:Nat}{x:Int}(h:l[i]? =some x):jm f (l.drop i) i=if f i x=0 then jm f (l.drop (i+1)) (i+1)else f i x:=by
 obtain⟨hi,rfl⟩:=List.getElem?_eq_some_iff.1 h
 rw[List.drop_eq_getElem_cons hi,jm]
theorem IW(w:World)(A:Option Addr)(c:Nat)(l:List Int)(g:Nat)(caps:Array Value)(f:Nat->Int->Int)(eg:∀args w,(callFunc g args).run Tryz.prog w=.ok (.enter g args) w)(hl:Src w 1 A l.length (ints l))(hlen:l.length<=1000000)
  (hf:∀W i x,Kept aj w W->l[i]? =some x->Calls Tryz.prog g (#[.int .i64 i,.int .i64 x]++caps) W fun e W'=>e=.returned (.int .i64 (f i x))/\Kept aj W W'):
  Calls Tryz.prog 331 #[.slice A l.length c,.func (.func g) #[] caps] w fun r w'=>r=.returned (.int .i64 (jm f l 0))/\Kept aj w w':=by
 have HL:=ah hl;clear hl
 have eX:=ah hf;clear hf
 obtain⟨r,hr⟩:∃r,jm f l 0=r:=⟨_,rfl⟩
 rw[hr]
 have HR:=ah hr;clear hr
 go_enter Tryz.func331,Tryz.ntmps331
 go_wp2_with fail
 go_loopw [5,6,7,10] (fun v5 v6 v7 v10 wr=>∃i:Nat,i<=l.length/\v10=.int .i64 i/\r=jm f (l.drop i) i/\Kept aj w wr) (fun _ _ _ v10 _=>l.length-(intOf v10).toNat)
 case atStart=>exact⟨0,Nat.zero_le _,rfl,HR.out.symm,Kept.refl _ _⟩
 case round=>
  obtain⟨i,hi,rfl,hrr,hk⟩:=hrel
  have HK:=ah hk;clear hk
  by_cases hil:i<l.length
  ·obtain⟨x,hx⟩:∃x,l[i]? =some x:=⟨_,List.getElem?_eq_getElem hil⟩
   have hsa:=QO f hx
   obtain⟨ad,rfl,hl1,x0⟩:=o7 (HL.out.kept HK.out (fun _ _ x=>x)) (by omega) i x hx
   have hcall:=eX.out wr i x HK.out hx
   rw[hsa]at hrr
   obtain⟨t,ht⟩:∃t,f i x=t:=⟨_,rfl⟩
   rw[ht]at hcall hrr
   clear hsa ht hx
   have HC:=ah hcall;clear hcall
   have HRR:=ah hrr;clear hrr
   go_wp2_with fail
   refine HC.out.mono ?_
   rintro e w5 ⟨rfl,hk0⟩
   have cO:=ah (HK.out.then hk0);clear hk0
   by_cases ht0:t=0
   ·have hrf:=HRR.out
    rw[if_pos ht0]at hrf
    have lH:=ah hrf;clear hrf HRR
    have ht1:(t !=0)=false:=by simp[ht0]
    clear ht0
    go_wp2
    go_roundw
    case rel=>exact⟨i+1,by omega,by go_num,lH.out,cO.out⟩
    case measure=>simp[intOf];omega
   ·have hrf:=HRR.out
    rw[if_neg ht0]at hrf
    have lH:=ah hrf;clear hrf HRR
    have ht1:(t !=0)=true:=by simpa using ht0
    clear ht0
    go_wp2
    go_ret
    exact⟨by rw[lH.out];rfl,cO.out⟩
  ·obtain rfl:i=l.length:=by omega
   rw[List.drop_length,jm]at hrr
   have HRR:=ah hrr;clear hrr
   go_wp2
   go_ret
   exact⟨by rw[HRR.out];rfl,HK.out⟩
end Mst
end Go.Proofs.YtolkgbafebehfaaGreat
