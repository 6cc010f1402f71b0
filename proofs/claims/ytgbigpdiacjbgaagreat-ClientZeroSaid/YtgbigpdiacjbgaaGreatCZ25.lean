/- Part 26. -/
import Derived.Test.YtgbigpdiacjbgaaGreatCZ24
set_option linter.unusedSimpArgs false
set_option linter.unusedVariables false
set_option maxHeartbeats 32000000
set_option maxRecDepth 100000
namespace Go.Proofs.YtgbigpdiacjbgaaGreat
open Go.RowKit
namespace Cli
open aJ Ops dG bQ Vn Go.Proofs.YtgbigpdiacjbgaaGreat.Ask
def kL(w:World)(a:Addr):Array Value:=((List.range 7).map fun j=>(w.cell? (a.add j)).getD undef).toArray
def oJ(w:World)(a:Addr):Prop:=∀j,j<7->(w.cell? (a.add j)).isSome=true
def jY(a:Addr):Sem Value:=loadVar 25 a
theorem jK(a:Addr):loadVar 25 a=jY a:=rfl
theorem jL(w:World)(a:Addr)(h:oJ w a):(jY a).run Tryz.prog w=.ok (.agg (kL w a)) w:=by
 have hl:=run_loadCells (P:=Tryz.prog) w a 7 (fun j=>(w.cell? (a.add j)).getD undef) (fun j hj=>by obtain⟨v,hv⟩:=Option.isSome_iff_exists.1 (h j hj);rw[hv];rfl)
 have hi:(Tryz.prog.info? 25).map (·.size)=some 7:=by kernel_rfl
 have hagg:∀W,(isAgg 25).run Tryz.prog W=.ok true W:=fun W=>by unfold isAgg;rw[Sem.run_bind,run_underlying Tryz.underlying25 W];rfl
 cases hq:Tryz.prog.info? 25 with
 |none=>simp[hq]at hi
 |some i=>
  have hs:i.size=7:=by simpa [hq]using hi
  unfold jY;simp[loadVar,Sem.run_bind,hagg,sizeOf,typeInfo,hq,hs,hl,kL]
theorem yU{w:World}{a:Addr}{cs:List Value}(hn:cs.length=7)(h:∀j u,cs[j]? =some u->w.cell? (a.add j)=some u):oJ w a/\kL w a=cs.toArray:=by
 refine⟨fun j hj=> ?_,?_⟩
 ·rw[h j _ (lB0 (by omega))];rfl
 ·unfold kL;congr 1;apply List.ext_getElem?
  intro j;rcases Nat.lt_or_ge j 7 with hj|hj
  ·rw[List.getElem?_map,List.getElem?_range hj,lB0 (by omega:j<cs.length)];simp[h j _ (lB0 (by omega:j<cs.length))]
  ·rw[List.getElem?_eq_none (by simpa using hj),List.getElem?_eq_none (by omega)]
theorem lS{w:World}{g:Nat}{cs:List Value}(hn:cs.length=7)(h:Has w g 25 cs.toArray):oJ w ⟨g,0,none⟩/\kL w ⟨g,0,none⟩=cs.toArray:=by
 refine yU hn fun j u hu=> ?_;have e1:((⟨g,0,none⟩:Addr).add j)=⟨g,j,none⟩:=by unfold Addr.add;split<;>simp_all
 rw[e1,h.cell];simpa using hu
structure gZ(w:World)(X:CX)(C:iq)(w':World)(X':CX)(C':iq):Prop where
 at':dI w' X' C'
 cb:X'.cb=X.cb
 g:∀k,iF X' C' k->iF X C k\/w.heap.size<=k
 k:Kept (iF X C) w w'
section
variable{w w':World}{X X':CX}{C C':iq}
theorem gZ.refl(h:dI w X C)(hk:Kept aj w w'):gZ w X C w' X C:=⟨h.quiet hk,rfl,fun _ h=> .inl h,Kept.zF hk⟩
theorem gZ.trans{w1 w2:World}{X1 X2:CX}{C1 C2:iq}(h:gZ w X C w1 X1 C1)(k:gZ w1 X1 C1 w2 X2 C2):gZ w X C w2 X2 C2:=
 ⟨k.at',k.cb.trans h.cb,fun i hi=>by
  rcases k.g i hi with y|y
  ·exact h.g i y
  ·have:=h.k.size;exact .inr (by omega),h.k.trans k.k h.g⟩
theorem gZ.quiet{w1 w2:World}{X1:CX}{C1:iq}(h:gZ w X C w1 X1 C1)(hk:Kept aj w1 w2):gZ w X C w2 X1 C1:=h.trans (gZ.refl h.at' hk)
def BP(w w':World)(A:Option Addr)(c:Nat)(L:List eF):Prop:=bG 54 2 w.heap.size w' A L.length c (lH L)
structure DY(C:iq):Prop where
 id:0<=C.id/\C.id<3
 req:0<=C.req/\C.req<=1073741824
 ep:0<=C.ep/\C.ep<=1073741824
 hd: -1<=C.hd/\C.hd<=4
 t:∀t,C.t=some t->fF t/\t.bo.length<=1000/\t.r.ps.length<=1000
 r:C.r.ps.length<=1000
 tk:0<=C.tk/\C.tk<=1073741824
def sQ(id:Int):iq:=⟨id,0,0,-1,none,nC,false,false,0⟩
theorem yV(w:World)(id:Int):Calls Tryz.prog 15 #[.int .i64 id] w fun e w'=>
  (¬(0<=id/\id<3)->e=.returned (.tuple #[.pointer none,.int .i64 1])/\Kept aj w w')/\
  (0<=id/\id<3->∃X,e=.returned (.tuple #[.pointer (some ⟨X.cb,0,none⟩),.int .i64 0])/\dI w' X (sQ id)/\(∀k,iF X (sQ id) k->w.heap.size<=k)/\Kept aj w w'):=by
 by_cases h0:0<=id
 ·by_cases h1:id<3
  ·have hP:(0<=id/\id<3):=⟨h0,h1⟩;refine Calls.mono (R:=fun e w'=>∃X,e=.returned (.tuple #[.pointer (some ⟨X.cb,0,none⟩),.int .i64 0])/\dI w' X (sQ id)/\(∀k,iF X (sQ id) k->w.heap.size<=k)/\Kept aj w w') ?_ (fun e w' h=>⟨fun hn=>absurd hP hn,fun _=>h⟩);clear hP;have h2:¬3<=id:=by omega
   go_enter Tryz.func15,Tryz.ntmps15;go_wp2;go_ret2;refine⟨⟨w.heap.size,⟨0,0,none,0,none,0,none,0⟩,none,0⟩,rfl,⟨Has.new _ _ _,(fun t e=>by cases e),⟨rfl,.inl ⟨rfl,rfl⟩⟩,fun k e=>by simp[Value.ownBlock]at e⟩,fun k hk=> ?_,by(repeat'(first|(with_reducible first|exact ay|apply aA|apply aB|apply aC|apply aF)|(right;simp;done)))⟩;rcases hk with rfl|⟨t,e,-⟩|e
   ·exact Nat.le_refl _
   ·cases e
   ·simp[Value.ownBlock]at e
  ·have hP:¬(0<=id/\id<3):=by omega
   refine Calls.mono (R:=fun e w'=>e=.returned (.tuple #[.pointer none,.int .i64 1])/\Kept aj w w') ?_ (fun e w' h=>⟨fun _=>h,fun hp=>absurd hp hP⟩);have h2:3<=id:=by omega
   clear hP;go_enter Tryz.func15,Tryz.ntmps15;go_wp2;go_ret2;exact⟨rfl,by(repeat'(first|(with_reducible first|exact ay|apply aA|apply aB|apply aC|apply aF)|(right;simp;done)))⟩
 ·have hP:¬(0<=id/\id<3):=by omega
  refine Calls.mono (R:=fun e w'=>e=.returned (.tuple #[.pointer none,.int .i64 1])/\Kept aj w w') ?_ (fun e w' h=>⟨fun _=>h,fun hp=>absurd hp hP⟩);have h2:id<0:=by omega
  clear hP h0;go_enter Tryz.func15,Tryz.ntmps15;go_wp2;go_ret2;exact⟨rfl,by(repeat'(first|(with_reducible first|exact ay|apply aA|apply aB|apply aC|apply aF)|(right;simp;done)))⟩
theorem yX{lb c:Nat}{A:Option Addr}{L:List eF}(h:fH w lb A c L):Calls Tryz.prog 54 #[.pointer (some ⟨lb,0,none⟩)] w fun e w'=>e=.returned (.slice A L.length c)/\w=w':=by have q:w.cell? ⟨lb,0,none⟩=some (.slice A L.length c):=h.b.cell 0;obtain⟨n,hn⟩:∃n,L.length=n:=⟨_,rfl⟩;rw[hn]at q⊢;clear h;go_enter Tryz.func54,Tryz.ntmps54;go_wp2;go_ret;exact⟨rfl,rfl⟩
theorem yY(h:dI w X C):Calls Tryz.prog 14 #[.pointer (some ⟨X.cb,0,none⟩)] w fun e w'=>e=.returned (.bool C.t.isSome)/\w=w':=by
 have hn:=lK h;have q:w.cell? ⟨X.cb,4,none⟩=some (lI X C):=h.b.cell 4;obtain⟨cb,hcb⟩:∃cb,X.cb=cb:=⟨_,rfl⟩;rw[hcb]at hn q⊢;cases ht:C.t with
 |none=>
  rw[lJ ht]at q;have HN:=ah hn;clear hn h hcb ht;go_enter Tryz.func14,Tryz.ntmps14;go_wp2_with fail;refine HN.out.mono ?_;rintro e w2 ⟨rfl,rfl⟩;go_wp2;go_ret;exact⟨rfl,rfl⟩
 |some t=>
  rw[wL ht]at q;have HN:=ah hn;obtain⟨tb,htb⟩:∃tb,X.px.b=tb:=⟨_,rfl⟩;rw[htb]at q;clear hn h hcb ht htb;go_enter Tryz.func14,Tryz.ntmps14;go_wp2_with fail;refine HN.out.mono ?_;rintro e w2 ⟨rfl,rfl⟩;go_wp2;go_ret;exact⟨rfl,rfl⟩
theorem Aj(h:dI w X C):Calls Tryz.prog 13 #[.pointer (some ⟨X.cb,0,none⟩)] w fun e w'=>e=.returned (.int .i64 C.req)/\w=w':=by have hn:=lK h;have q:w.cell? ⟨X.cb,1,none⟩=some (.int .i64 C.req):=h.b.cell 1;obtain⟨cb,hcb⟩:∃cb,X.cb=cb:=⟨_,rfl⟩;rw[hcb]at hn q⊢;have HN:=ah hn;clear hn h hcb;go_enter Tryz.func13,Tryz.ntmps13;go_wp2_with fail;refine HN.out.mono ?_;rintro e w2 ⟨rfl,rfl⟩;go_wp2;go_ret;exact⟨rfl,rfl⟩
end
end Cli
namespace Ask
open aJ Ops dG bQ MO Vn
theorem fF.new{cl rq:Int}{a:bF}(hn:I64 a.n)(h:newE cl rq a=0):fF (newT cl rq a):=by
 have hm:eG cl rq (aY a) a=true:=by
  unfold newE at h;split at h
  ·cases h
  split at h
  ·cases h
  split at h
  ·assumption
  ·cases h
 refine⟨hn,⟨by show(0:Nat)<=32;decide,fun hk=> ?_⟩,by show(0:Int)<=0/\(0:Int)<=1073741824;decide,?_,fun hk=> ?_,fun _=>rfl⟩
 ·have hk':a.k=2:=hk;unfold eG at hm;rw[if_neg (by omega),if_neg (by omega),if_pos hk']at hm;simp only[Bool.and_eq_true,decide_eq_true_eq]at hm;show((0:Nat):Int)<=a.n;omega
 ·show bD a<=2;unfold bD;split
  ·omega
  ·split<;>omega
 ·have hk':a.k=2:=hk;unfold eG at hm;rw[if_neg (by omega),if_neg (by omega),if_pos hk']at hm;simp only[Bool.and_eq_true,decide_eq_true_eq]at hm;exact⟨hm.2.2.2.1,hm.2.2.2.2⟩
theorem fF.end{t:TS}(h:fF t)(r:kF):fF (kG t r):=⟨h.n,h.ps,h.wt,h.ph,h.n1,h.np⟩
theorem fF.page{t:TS}(h:fF t)(hk:t.a.k=2)(x:aH):fF (qc t x).1:=by
 obtain⟨_,h2,_,h4⟩:=vO h hk x;have h5:=h.n1 hk;have hl:(t.ps++bZ t x).length=t.ps.length+(bZ t x).length:=lA0;unfold qc;split
 ·exact⟨h.n,⟨by show(t.ps++bZ t x).length<=32;rw[hl];omega,fun _=>by show((t.ps++bZ t x).length:Int)<=t.a.n;rw[hl];exact h4⟩,by show(0:Int)<=0/\(0:Int)<=1073741824;decide,h.ph,h.n1,fun e=>absurd hk e⟩
 ·exact⟨h.n,⟨by show(t.ps++bZ t x).length<=32;rw[hl];omega,fun _=>by show((t.ps++bZ t x).length:Int)<=t.a.n;rw[hl];exact h4⟩,by show(0:Int)<=0/\(0:Int)<=1073741824;decide,h.ph,h.n1,fun e=>absurd hk e⟩
theorem fF.take{t:TS}(h:fF t)(f:Int)(x:aH):fF (qg t f x).1:=by
 unfold qg;split
 ·exact h
 split
 ·unfold tV;split
  ·exact h.end _
  split
  ·exact h
  split
  ·exact h.end _
  ·exact⟨h.n,⟨by show(0:Nat)<=32;decide,fun hk=>by have:=h.n1 hk;show((0:Nat):Int)<=t.a.n;omega⟩,by show(0:Int)<=0/\(0:Int)<=1073741824;decide,by show 1<=2;decide,h.n1,fun _=>rfl⟩
 split
 ·unfold tX;split
  ·exact h.end _
  split
  ·exact h
  split
  ·exact h.end _
  ·rename_i hk;exact h.page (by omega) x
 ·unfold takeA;split
  ·exact h.end _
  split
  ·exact h.end _
  ·exact h
end Ask
namespace Ask
open aJ Ops dG bQ MO Vn
attribute [local go_sem↓] gI iE
section
variable(w:World)(x:aH)
structure Sends(w:World)(x:aH):Prop where
 k:x.k=5\/x.k=8\/x.k=9\/x.k=11\/x.k=12\/x.k=13\/x.k=15
 e:0<=x.ep/\x.ep<=1073741824
 r:0<=x.req/\x.req<=1073741824
 n:0<=x.n/\x.n<=1073741824
 key:x.key.size<=8
 to:x.to.size<=8
 s:Src w 3 x.oA x.ops.length (cells x.ops)
 c:x.ops.length<=x.oc
 b:x.k=5->Ops.chk (eX x)=0
end
theorem Sends.kept{w w':World}{x:aH}(h:Sends w x)(hk:Kept aj w w'):Sends w' x:=⟨h.k,h.e,h.r,h.n,h.key,h.to,h.s.kept hk (fun _ _ z=>z),h.c,h.b⟩
attribute [local go_sem] jH
