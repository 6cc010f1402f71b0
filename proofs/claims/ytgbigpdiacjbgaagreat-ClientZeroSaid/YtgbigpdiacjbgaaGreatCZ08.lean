/- Part 9. -/
import Derived.Test.YtgbigpdiacjbgaaGreatCZ07
import Derived.Deep.WholeRow
set_option linter.unusedSimpArgs false
set_option linter.unusedVariables false
set_option maxHeartbeats 32000000
set_option maxRecDepth 100000
namespace Go.Proofs.YtgbigpdiacjbgaaGreat
open Go.RowKit Go.WideShapes Go.ChangeShapes
namespace Ask
open aJ Ops dG bQ MO
def jv(w:World)(a:Addr):Array Value:=((List.range 22).map fun j=>(w.cell? (a.add j)).getD undef).toArray
def lZ(w:World)(a:Addr):Prop:=∀j,j<22->(w.cell? (a.add j)).isSome=true
def jR(a:Addr):Sem Value:=loadVar 63 a
theorem iE(a:Addr):loadVar 63 a=jR a:=rfl
theorem jH(w:World)(a:Addr)(h:lZ w a):(jR a).run Tryz.prog w=.ok (.agg (jv w a)) w:=by
 have hl:=run_loadCells (P:=Tryz.prog) w a 22 (fun j=>(w.cell? (a.add j)).getD undef) (fun j hj=>by obtain⟨v,hv⟩:=Option.isSome_iff_exists.1 (h j hj);rw[hv];rfl)
 have hi:(Tryz.prog.info? 63).map (·.size)=some 22:=by kernel_rfl
 have hagg:∀W,(isAgg 63).run Tryz.prog W=.ok true W:=fun W=>by unfold isAgg;rw[Sem.run_bind,run_underlying Tryz.underlying63 W];rfl
 cases hq:Tryz.prog.info? 63 with
 |none=>simp[hq]at hi
 |some i=>
  have hs:i.size=22:=by simpa [hq]using hi
  unfold jR;simp[loadVar,Sem.run_bind,hagg,sizeOf,typeInfo,hq,hs,hl,jv]
theorem qO{w:World}{a:Addr}{cs:List Value}(hn:cs.length=22)(h:∀j u,cs[j]? =some u->w.cell? (a.add j)=some u):lZ w a/\jv w a=cs.toArray:=by
 refine⟨fun j hj=> ?_,?_⟩
 ·rw[h j _ (List.getElem?_eq_getElem (by omega))];rfl
 ·unfold jv;congr 1;apply List.ext_getElem?
  intro j;rcases Nat.lt_or_ge j 22 with hj|hj
  ·rw[List.getElem?_map,List.getElem?_range hj,List.getElem?_eq_getElem (by omega:j<cs.length)];simp[h j _ (List.getElem?_eq_getElem (by omega:j<cs.length))]
  ·rw[List.getElem?_eq_none (by simpa using hj),List.getElem?_eq_none (by omega)]
theorem oW(w:World)(a:Addr)(cs:List Value)(hn:cs.length=22)(h:∀j u,cs[j]? =some u->w.cell? (a.add j)=some u):(jR a).run Tryz.prog w=.ok (.agg cs.toArray) w:=by obtain⟨h1,h2⟩:=qO hn h;rw[jH w a h1,h2]
theorem nR(w:World)(g:Nat)(x:aH)(h:Has w g 63 (au x).toArray):(jR ⟨g,0,none⟩).run Tryz.prog w=.ok (.agg (au x).toArray) w:=by
 refine oW w _ _ rfl fun j u hu=> ?_;have e1:((⟨g,0,none⟩:Addr).add j)=⟨g,j,none⟩:=by unfold Addr.add;split<;>simp_all
 rw[e1,h.cell];simpa using hu
def kJ(a:Addr)(v:Value):Sem Unit:=storeVar 63 a v
theorem gI(a:Addr)(v:Value):storeVar 63 a v=kJ a v:=rfl
theorem rJ(W:World)(g:Nat)(cs:Array Value):Kept (fun k=>k=g) W (W.setRow g cs):=
 ⟨rfl,rfl,rfl,by unfold World.setRow;simp,fun k hk hF=>by unfold World.setRow;rw[Array.getElem?_modify,if_neg (fun e=>hF e.symm)]⟩
theorem zn(x:aH):(au x).toArray.all (·.oneCell')=true:=by simp[au,Value.oneCell']
abbrev bW:Array Value:=#[.int .i64 0,.int .i64 0,.int .i64 0,.int .i64 0,.bool false,.int .u64 0,.int .u64 0,.int .i64 0,.int .i64 0,.int .i64 0,.int .i64 0,.string ⟨#[]⟩,.string ⟨#[]⟩,.int .i64 0,.slice none 0 0,.int .u64 0,.int .i64 0,.int .i64 0,.slice none 0 0,.slice none 0 0,.slice none 0 0,.slice none 0 0]
theorem zW(w:World)(x:aH):∃Wz W8,w.alloc (.cells bW 63)=Wz/\(kJ ⟨w.heap.size,0,none⟩ (.agg (au x).toArray)).run Tryz.prog Wz=.ok () W8/\Has W8 w.heap.size 63 (au x).toArray/\Kept aj w W8:=by have hz:Has (w.alloc (.cells bW 63)) w.heap.size 63 bW:=Has.new _ _ _;have e1:(w.alloc (.cells bW 63)).setRow w.heap.size (au x).toArray=w.alloc (.cells (au x).toArray 63):=World.setRow_alloc_new ..;refine⟨_,w.alloc (.cells (au x).toArray 63),rfl,?_,Has.new _ _ _,by(repeat'(first|(with_reducible first|exact ay|apply aA|apply aB|apply aC|apply aF)|(right;simp;done)))⟩;rw[<-e1];exact run_storeVar_row _ w.heap.size _ _ _ _ hz (show(Tryz.prog.info? 63).map (·.size)=some 22 by kernel_rfl) rfl (zn x)
structure AY where
 k:Int
 n:Int
 fr:Int
 x:aH
def tY(w:World)(a:AY):Prop:=lY w a.x/\I64 a.n/\I64 a.fr
theorem tY.kept{w w':World}{a:AY}(h:tY w a)(hk:Kept aj w w'):tY w' a:=⟨h.1.kept hk,h.2⟩
section
variable{H:Type}{enc:TypeId×Value->H}{W:World}{v:Value}{d:DataW H}{ps:List MemPlace}{r:Reach}{b0:Nat}
def iZ(w:World)(a:bF):Prop:=Src w 3 a.A a.ops.length (cells a.ops)/\a.ops.length<=a.c/\a.c<=maxLen/\(∀o∈a.ops,o.key.size<=maxLen/\o.val.size<=maxLen)/\I64 a.k/\I64 a.nd/\I64 a.n/\(0<=a.at'/\a.at'<=aO)/\a.key.size<=maxLen/\a.to.size<=maxLen
theorem iZ.kept{w w':World}{a:bF}(h:iZ w a)(hk:Kept aj w w'):iZ w' a:=⟨h.1.kept hk (fun _ _ z=>z),h.2⟩
theorem vF(fuel:Nat)(cs:List Value)(y:DataW H×List MemPlace)(hy:DataW.trod enc Tryz.prog W 0 (fun _=>true) true fuel 25 cs=some y):∃a,cs=aQ a/\iZ W a:=by
 obtain⟨hl,n,hf⟩:=xO Tryz.underlying25 hy;have hC:Tryz.prog.cellsOf 25=7:=by kernel_rfl
 rw[hC]at hl;match cs,hl with
 |[c0,c1,c2,c3,c4,c5,c6],_=>
  have e3:Tryz.prog.cellsOf 3=1:=by kernel_rfl
  have e9:Tryz.prog.cellsOf 9=1:=by kernel_rfl
  have eU:Tryz.prog.cellsOf 22=1:=by kernel_rfl
  have eO:Tryz.prog.cellsOf 23=1:=by kernel_rfl
  obtain⟨_,h0⟩:=hf 0 _ rfl;obtain⟨_,h1⟩:=hf 1 _ rfl;obtain⟨_,h2⟩:=hf 2 _ rfl;obtain⟨_,h3⟩:=hf 3 _ rfl;obtain⟨_,h4⟩:=hf 4 _ rfl;obtain⟨_,h5⟩:=hf 5 _ rfl;obtain⟨_,h6⟩:=hf 6 _ rfl;obtain⟨x0,hx0,_,m0⟩:=DataW.trod_int Tryz.underlying3 h0;obtain⟨x1,hx1,_,m1⟩:=DataW.trod_int Tryz.underlying3 h1;obtain⟨x2,hx2,_,m2⟩:=DataW.trod_string Tryz.underlying9 h2;obtain⟨x3,hx3,_,m3⟩:=DataW.trod_string Tryz.underlying9 h3;obtain⟨x4,hx4,_,m4⟩:=DataW.trod_int Tryz.underlying22 h4;obtain⟨x5,hx5,_,m5⟩:=DataW.trod_int Tryz.underlying3 h5;simp[e3]at hx0 hx1;simp[e9]at hx2 hx3;simp[eU]at hx4;simp[e3]at hx5;simp[eO]at h6;subst hx0 hx1 hx2 hx3 hx4 hx5;obtain⟨hv6,t6⟩:=xP Tryz.underlying23 h6;obtain⟨A,c,l,rfl,q1,q2,q3,q4⟩:=_root_.Go.Proofs.YtgbigpdiacjbgaaGreat.uX hv6 t6;exact⟨⟨x0,x1,x2,x3,x4,x5,A,c,l⟩,rfl,q3,q1,q2,q4,m0,m1,m5,Ec m4,m2,m3⟩
theorem xQ(hv:Value.okWide Tryz.prog W r b0 25 v)(h:DataW.Trod enc Tryz.prog W 0 (fun _=>true) true 25 v d ps):∃a:bF,v=iO a/\iZ W a:=by obtain⟨cs,rfl,hsz⟩:=okWide_struct Tryz.underlying25 hv;obtain⟨fuel,hy⟩:=h;obtain⟨x,hx,hg⟩:=vF _ _ _ hy;exact⟨x,by show Value.agg cs=.agg (aQ x).toArray;rw[<-hx];simp[Value.cells],hg⟩
end
end Ask
end Go.Proofs.YtgbigpdiacjbgaaGreat
namespace Go.Proofs.YtgbigpdiacjbgaaGreat
open Go.RowKit
namespace Ask
open aJ Ops dG bQ MO
structure PX where
 b:Nat
 g:Nat
 bA:Option Addr
 bc:Nat
 pA:Option Addr
 pc:Nat
 rA:Option Addr
 rc:Nat
def bH(X:PX)(t:TS):List Value:=[.int .i64 t.cl,.int .i64 t.rq,.slice X.bA t.bo.length X.bc]++aQ t.a
def ji(X:PX)(t:TS):Value:=if t.ph=0 then .iface 111 (.agg (bH X t).toArray)else if t.ph=1 then .iface 112 (.pointer (some ⟨X.g,0,none⟩))else .iface 115 (.agg (bH X t).toArray)
def tZ(X:PX)(t:TS):Array Value:=#[ji X t,.int .i64 t.rq,.int .i64 t.waits,.bool t.dn,.int .i64 t.r.req,.int .i64 t.r.e,.int .u64 t.r.at',.int .i64 t.r.pin,.slice X.rA t.r.ps.length X.rc]
def jw(X:PX)(t:TS):Array Value:=(bH X t++([.int .u64 t.at',.string t.key,.slice X.pA t.ps.length X.pc]:List Value)).toArray
structure fE(w:World)(X:PX)(t:TS):Prop where
 b:Has w X.b 109 (tZ X t)
 g:t.ph=1->Has w X.g 114 (jw X t)
 g0:t.ph≠1->X.g=X.b/\X.pA=none/\X.pc=0/\t.ps=[]
 bo:w.ownsRow 0 143 3 (.slice X.bA t.bo.length X.bc) t.bo.length (cells t.bo)
 p:w.ownsRow 0 84 2 (.slice X.pA t.ps.length X.pc) t.ps.length (dO t.ps)
 r:w.ownsRow 0 84 2 (.slice X.rA t.r.ps.length X.rc) t.r.ps.length (dO t.r.ps)
 nd:t.dn=false->t.r=nC/\X.rA=none/\X.rc=0
def jk(X:PX)(t:TS)(k:Nat):Prop:=k=X.b\/k=X.g\/(Value.slice X.pA t.ps.length X.pc).ownBlock=some k\/(Value.slice X.bA t.bo.length X.bc).ownBlock=some k\/(Value.slice X.rA t.r.ps.length X.rc).ownBlock=some k
section
variable{w w':World}{X:PX}{t:TS}{G:Nat->Prop}
theorem fE.jy(h:fE w X t)(hk:Kept G w w')(hs:∀k,jk X t k->¬G k):fE w' X t:=
 ⟨h.b.kept hk (hs _ (.inl rfl)),fun e=>(h.g e).kept hk (hs _ (.inr (.inl rfl))),h.g0,aX h.bo hk (fun k hk=>hs k (.inr (.inr (.inr (.inl hk))))),aX h.p hk (fun k hk=>hs k (.inr (.inr (.inl hk)))),aX h.r hk (fun k hk=>hs k (.inr (.inr (.inr (.inr hk))))),h.nd⟩
theorem fE.quiet(h:fE w X t)(hk:Kept aj w w'):fE w' X t:=h.jy hk (fun _ _ z=>z)
theorem fE.lt(h:fE w X t){k:Nat}(hf:jk X t k):k<w.heap.size:=by
 rcases hf with rfl|rfl|hf|hf|hf
 ·exact h.b.lt
 ·by_cases e:t.ph=1
  ·exact(h.g e).lt
  ·rw[(h.g0 e).1];exact h.b.lt
 ·exact fC h.p hf
 ·exact fC h.bo hf
 ·exact fC h.r hf
theorem xR(X:PX)(t:TS):∃ty v,ji X t=.iface ty v:=by
 unfold ji;split
 ·exact⟨_,_,rfl⟩
 split
 ·exact⟨_,_,rfl⟩
 ·exact⟨_,_,rfl⟩
theorem xU(h:fE w X t):Calls Tryz.prog 55 #[.pointer (some ⟨X.b,0,none⟩)] w fun e w'=>e=.returned (.bool false)/\w=w':=by have q:w.cell? ⟨X.b,0,none⟩=some (ji X t):=h.b.cell 0;obtain⟨ty,pv,hpv⟩:=xR X t;rw[hpv]at q;clear hpv h;go_enter Tryz.func55,Tryz.ntmps55;go_wp2;go_ret;exact⟨rfl,rfl⟩
theorem rM(w:World)(i:Int):Calls Tryz.prog 85 #[.int .i64 i] w fun e w'=>e=.returned (.bool (decide (0<=i/\i<4)))/\w=w':=by
 obtain⟨v,hv⟩:∃v,decide (0<=i/\i<4)=v:=⟨_,rfl⟩;rw[hv];go_enter Tryz.func85,Tryz.ntmps85;by_cases h0:0<=i
 ·by_cases h1:i<4
  ·go_wp2;go_ret;exact⟨by rw[<-hv];simp[h0,h1],rfl⟩
  ·go_wp2;go_ret;exact⟨by rw[<-hv];simp[h0,h1],rfl⟩
 ·go_wp2;go_ret;exact⟨by rw[<-hv];simp;omega,rfl⟩
def dD(w:World)(X:PX)(t:TS)(v:Value)(t':TS)(e:Ending)(w':World):Prop:=
 e=.returned v/\∃X',fE w' X' t'/\X'.b=X.b/\(∀k,jk X' t' k->jk X t k\/w.heap.size<=k)/\Kept (jk X t) w w'
