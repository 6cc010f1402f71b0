/- Part 30. -/
import Derived.Test.YtomccaocggplgaaGreatMP28
set_option linter.unusedSimpArgs false
set_option linter.unusedVariables false
set_option maxHeartbeats 32000000
set_option maxRecDepth 100000
namespace Go.Proofs.YtomccaocggplgaaGreat
open Go.RowKit Go.WideShapes Go.ChangeShapes
namespace MO
open aJ Ops yt gu
structure Dy(w:World)(x:bD):Prop where
 m:Src w 2 x.mA x.ms.length (aU x.ms)
 mc:x.ms.length<=x.mc
 o:Src w 3 x.oA x.ops.length (cells x.ops)
 e:Src w 4 x.eA x.es.length (yU x.es)
 eo:∀y∈x.es,Src w 3 y.A y.ops.length (cells y.ops)/\0<=y.ts/\y.ts<=aW
 s:Src w 1 x.sA x.ss.length (xY x.ss)
 so:∀y∈x.ss,0<=y/\y<=aW
 p:Src w 2 x.pA x.ps.length (Ops.aS x.ps)
 t:(0<=x.at'/\x.at'<=aW)/\(0<=x.last/\x.last<=aW)/\(0<=x.BH/\x.BH<=aW)
 i:I64 x.aX
 lens:x.ms.length<=maxLen/\x.ops.length<=maxLen/\x.es.length<=maxLen/\x.ss.length<=maxLen/\x.ps.length<=maxLen
theorem Dy.kept{w w':World}{x:bD}(h:Dy w x)(hk:Kept aj w w'):Dy w' x:=
 ⟨h.m.kept hk (fun _ _ z=>z),h.mc,h.o.kept hk (fun _ _ z=>z),h.e.kept hk (fun _ _ z=>z),(fun y hy=>⟨(h.eo y hy).1.kept hk (fun _ _ z=>z),(h.eo y hy).2⟩),h.s.kept hk (fun _ _ z=>z),h.so,h.p.kept hk (fun _ _ z=>z),h.t,h.i,h.lens⟩
theorem Dy.ok{w:World}{x:bD}(h:Dy w x)(h1:x.ms.length<=20)(h3:x.es.length<=20)(h4:x.ss.length<=20)(h5:x.ps.length<=40):jd w x:=
 ⟨h.m,h.mc,by omega,h.o,h.e,h.eo,by omega,h.s,by omega,h.so,h.p,by omega,h.t⟩
theorem qF{H:Type}{enc:TypeId×Value->H}{P:Program}{w:World}{base:Nat}{spare:Nat->Bool}{held:Bool}{t:TypeId}{fs:Array Field}{fuel:Nat}{cs:List Value}{x:DataW H×List MemPlace}
  (ht:P.underlying t=some (.struct fs)) (h:DataW.trod enc P w base spare held fuel t cs=some x):
  cs.length=P.cellsOf t/\∃n,∀(i:Nat) (f:Field),fs[i]? =some f->∃y,DataW.trod enc P w base spare held n f.type ((cs.drop f.offset).take (P.cellsOf f.type))=some y:=by
 obtain⟨xs,n,_,rfl,hl,hlen,hf⟩:=DataW.trod_struct ht h;refine⟨hl,n,fun i f hi=> ?_⟩;have h1:=hf i f hi;have h2:i<xs.length:=by rw[hlen];exact(Array.getElem?_eq_some_iff.1 hi).1
 exact⟨xs[i],h1.trans (List.getElem?_eq_getElem h2)⟩
section
variable{H:Type}{enc:TypeId×Value->H}{W:World}{v:Value}{d:DataW H}{ps:List MemPlace}{r:Reach}{b0:Nat}
theorem KT{x:Int}(h:(Lit.int .u64 x).wf=true):0<=x/\x<=aW:=by unfold aW;simpa [Lit.wf,IntKind.min,IntKind.max,IntKind.signed,IntKind.bits]using h
theorem uh{t e:TypeId}{fuel:Nat}{c0:Value}{y:DataW H×List MemPlace}(ht:Tryz.prog.underlying t=some (.slice e))(h:DataW.trod enc Tryz.prog W 0 (fun _=>true) true fuel t [c0]=some y):
  (∃A n c,c0=.slice A n c)/\DataW.Trod enc Tryz.prog W 0 (fun _=>true) true t c0 y.1 y.2:=by
 have hv1:∃A n c,c0=.slice A n c:=by
  rcases Deep.open_slice ht h with⟨e,_⟩|⟨a,len,cap,_,_,_,_,e,_⟩
  ·simp at e;exact⟨_,_,_,e⟩
  ·simp at e;exact⟨_,_,_,e⟩
 refine⟨hv1,?_⟩;obtain⟨A,k',c,rfl⟩:=hv1;exact⟨fuel,h⟩
theorem Uk(hv:∃A n c,v=.slice A n c)(h:DataW.Trod enc Tryz.prog W 0 (fun _=>true) true 22 v d ps):
  ∃(A:Option Addr) (c:Nat) (l:List Mem),v=.slice A l.length c/\l.length<=c/\c<=maxLen/\Src W 2 A l.length (aU l)/\(∀m∈l,I64 m.1):=by
 obtain⟨A,c,l,h1,h2,h3,h4,h5,_⟩:=um (α:=Mem) FO (fun m=>I64 m.1) 2 Tryz.underlying22 (by kernel_rfl) (by decide) (fun _=>rfl)
  (fun fuel cs y hy=>by
   obtain⟨hl,n,hf⟩:=qF Tryz.underlying56 hy;have hC:Tryz.prog.cellsOf 56=2:=by kernel_rfl
   rw[hC]at hl;match cs,hl with
   |[c0,c1],_=>
    have e3:Tryz.prog.cellsOf 3=1:=by kernel_rfl
    obtain⟨_,h0⟩:=hf 0 _ rfl;obtain⟨_,h1⟩:=hf 1 _ rfl;obtain⟨x0,hx0,_,m0⟩:=DataW.trod_int Tryz.underlying3 h0;obtain⟨x1,hx1,_,_⟩:=DataW.trod_int Tryz.underlying3 h1;simp[e3]at hx0 hx1;subst hx0;subst hx1;exact⟨(x0,x1),rfl,m0⟩) h hv
 exact⟨A,c,l,h1,h2,h3,h4,h5⟩
theorem ZM(hv:∃A n c,v=.slice A n c)(h:DataW.Trod enc Tryz.prog W 0 (fun _=>true) true 38 v d ps):
  ∃(A:Option Addr) (c:Nat) (l:List uN),v=.slice A l.length c/\l.length<=c/\c<=maxLen/\Src W 3 A l.length (Ops.cells l):=by
 have _:Inhabited uN:=⟨⟨⟨#[]⟩,⟨#[]⟩,false⟩⟩
 obtain⟨A,c,l,h1,h2,h3,h4,h5,_⟩:=um (α:=uN) Ops.cell (fun o=>True) 3 Tryz.underlying38 (by kernel_rfl) (by decide) (fun _=>rfl)
  (fun fuel cs y hy=>by
   obtain⟨hl,n,hf⟩:=qF Tryz.underlying298 hy;have hC:Tryz.prog.cellsOf 298=3:=by kernel_rfl
   rw[hC]at hl;match cs,hl with
   |[c0,c1,c2],_=>
    have e9:Tryz.prog.cellsOf 9=1:=by kernel_rfl
    have e4:Tryz.prog.cellsOf 4=1:=by kernel_rfl
    obtain⟨_,h0⟩:=hf 0 _ rfl;obtain⟨_,h1⟩:=hf 1 _ rfl;obtain⟨_,h2⟩:=hf 2 _ rfl;obtain⟨x0,hx0,_,m0⟩:=DataW.trod_string Tryz.underlying9 h0;obtain⟨x1,hx1,_,m1⟩:=DataW.trod_string Tryz.underlying9 h1;obtain⟨x2,hx2,_⟩:=DataW.trod_bool Tryz.underlying4 h2;simp[e9]at hx0 hx1;simp[e9,e4]at hx2;subst hx0;subst hx1;subst hx2;exact⟨⟨x0,x1,x2⟩,rfl,trivial⟩) h hv
 exact⟨A,c,l,h1,h2,h3,h4⟩
theorem acJ(hv:∃A n c,v=.slice A n c)(h:DataW.Trod enc Tryz.prog W 0 (fun _=>true) true 43 v d ps):
  ∃(A:Option Addr) (c:Nat) (l:List mW),v=.slice A l.length c/\l.length<=c/\c<=maxLen/\Src W 2 A l.length (Ops.aS l):=by
 have _:Inhabited mW:=⟨⟨⟨#[]⟩,⟨#[]⟩⟩⟩
 obtain⟨A,c,l,h1,h2,h3,h4,h5,_⟩:=um (α:=mW) Ops.qP (fun o=>True) 2 Tryz.underlying43 (by kernel_rfl) (by decide) (fun _=>rfl)
  (fun fuel cs y hy=>by
   obtain⟨hl,n,hf⟩:=qF Tryz.underlying301 hy;have hC:Tryz.prog.cellsOf 301=2:=by kernel_rfl
   rw[hC]at hl;match cs,hl with
   |[c0,c1],_=>
    have e9:Tryz.prog.cellsOf 9=1:=by kernel_rfl
    obtain⟨_,h0⟩:=hf 0 _ rfl;obtain⟨_,h1⟩:=hf 1 _ rfl;obtain⟨x0,hx0,_,m0⟩:=DataW.trod_string Tryz.underlying9 h0;obtain⟨x1,hx1,_,m1⟩:=DataW.trod_string Tryz.underlying9 h1;simp[e9]at hx0 hx1;subst hx0;subst hx1;exact⟨⟨x0,x1⟩,rfl,trivial⟩) h hv
 exact⟨A,c,l,h1,h2,h3,h4⟩
theorem aeH(hv:∃A n c,v=.slice A n c)(h:DataW.Trod enc Tryz.prog W 0 (fun _=>true) true 42 v d ps):
  ∃(A:Option Addr) (c:Nat) (l:List Int),v=.slice A l.length c/\l.length<=c/\c<=maxLen/\Src W 1 A l.length (xY l)/\(∀x∈l,0<=x/\x<=aW):=by
 obtain⟨A,c,l,h1,h2,h3,h4,h5,_⟩:=um (α:=Int) (fun x=>[.int .u64 x]) (fun x=>0<=x/\x<=aW) 1 Tryz.underlying42 (by kernel_rfl) (by decide) (fun _=>rfl)
  (fun fuel cs y hy=>by obtain⟨x,hx,_,hw⟩:=DataW.trod_int Tryz.underlying23 hy;exact⟨x,hx,KT hw⟩) h hv
 have hf:∀l:List Int,l.flatMap (fun x=>[Value.int .u64 x])=xY l:=by
  intro l;induction l with
  |nil=>rfl
  |cons a l ih=>rw[List.flatMap_cons,ih];rfl
 rw[hf]at h4;exact⟨A,c,l,h1,h2,h3,h4,h5⟩
theorem aeI(hv:∃A n c,v=.slice A n c)(h:DataW.Trod enc Tryz.prog W 0 (fun _=>true) true 41 v d ps):
  ∃(A:Option Addr) (c:Nat) (l:List lW),v=.slice A l.length c/\l.length<=c/\c<=maxLen/\Src W 4 A l.length (yU l)/\(∀y∈l,Src W 3 y.A y.ops.length (Ops.cells y.ops)/\0<=y.ts/\y.ts<=aW):=by
 have _:Inhabited lW:=⟨⟨0,0,none,0,[],0⟩⟩
 obtain⟨A,c,l,h1,h2,h3,h4,h5,_⟩:=um (α:=lW) NP (fun y=>Src W 3 y.A y.ops.length (Ops.cells y.ops)/\0<=y.ts/\y.ts<=aW) 4 Tryz.underlying41 (by kernel_rfl) (by decide) (fun _=>rfl)
  (fun fuel cs y hy=>by
   obtain⟨hl,n,hf⟩:=qF Tryz.underlying74 hy;have hC:Tryz.prog.cellsOf 74=4:=by kernel_rfl
   rw[hC]at hl;match cs,hl with
   |[c0,c1,c2,c3],_=>
    have eB:Tryz.prog.cellsOf 40=3:=by kernel_rfl
    have e3:Tryz.prog.cellsOf 3=1:=by kernel_rfl
    have eO:Tryz.prog.cellsOf 38=1:=by kernel_rfl
    have eU:Tryz.prog.cellsOf 23=1:=by kernel_rfl
    obtain⟨_,h0⟩:=hf 0 _ rfl;obtain⟨_,h1⟩:=hf 1 _ rfl;obtain⟨x3,hx3,_,m3⟩:=DataW.trod_int Tryz.underlying23 h1;simp[eB]at h0;simp[eU]at hx3;obtain⟨_,n2,hg⟩:=qF Tryz.underlying40 h0;obtain⟨_,g0⟩:=hg 0 _ rfl;obtain⟨_,g1⟩:=hg 1 _ rfl;obtain⟨_,g2⟩:=hg 2 _ rfl;obtain⟨x0,hx0,_,_⟩:=DataW.trod_int Tryz.underlying3 g0;obtain⟨x1,hx1,_,_⟩:=DataW.trod_int Tryz.underlying3 g1;simp[e3]at hx0 hx1;simp[eO]at g2;subst hx0;subst hx1;subst hx3;obtain⟨v1,t1⟩:=uh Tryz.underlying38 g2;obtain⟨oA,oc,ops,rfl,_,_,q⟩:=ZM v1 t1;exact⟨⟨x0,x1,oA,oc,ops,x3⟩,rfl,q,KT m3⟩) h hv
 exact⟨A,c,l,h1,h2,h3,h4,h5⟩
theorem ZN(fuel:Nat)(cs:List Value)(y:DataW H×List MemPlace)(hy:DataW.trod enc Tryz.prog W 0 (fun _=>true) true fuel 45 cs=some y):∃a,cs=aI a/\Dy W a:=by
 obtain⟨hl,n,hf⟩:=qF Tryz.underlying45 hy;have hC:Tryz.prog.cellsOf 45=22:=by kernel_rfl
 rw[hC]at hl;match cs,hl with
 |[c0,c1,c2,c3,c4,c5,c6,c7,c8,c9,c10,c11,c12,c13,c14,c15,c16,c17,c18,c19,c20,c21],_=>
  have e3:Tryz.prog.cellsOf 3=1:=by kernel_rfl
  have e4:Tryz.prog.cellsOf 4=1:=by kernel_rfl
  have e9:Tryz.prog.cellsOf 9=1:=by kernel_rfl
  have eU:Tryz.prog.cellsOf 23=1:=by kernel_rfl
  have eC:Tryz.prog.cellsOf 25=3:=by kernel_rfl
  have eM:Tryz.prog.cellsOf 22=1:=by kernel_rfl
  have eB:Tryz.prog.cellsOf 40=3:=by kernel_rfl
  have eO:Tryz.prog.cellsOf 38=1:=by kernel_rfl
  have eN:Tryz.prog.cellsOf 32=1:=by kernel_rfl
  have eE:Tryz.prog.cellsOf 41=1:=by kernel_rfl
  have eS:Tryz.prog.cellsOf 42=1:=by kernel_rfl
  have eP:Tryz.prog.cellsOf 43=1:=by kernel_rfl
  obtain⟨_,h0⟩:=hf 0 _ rfl;obtain⟨_,h1⟩:=hf 1 _ rfl;obtain⟨_,h2⟩:=hf 2 _ rfl;obtain⟨_,h3⟩:=hf 3 _ rfl;obtain⟨_,h4⟩:=hf 4 _ rfl;obtain⟨_,h5⟩:=hf 5 _ rfl;obtain⟨_,h6⟩:=hf 6 _ rfl;obtain⟨_,h7⟩:=hf 7 _ rfl;obtain⟨_,h8⟩:=hf 8 _ rfl;obtain⟨_,h9⟩:=hf 9 _ rfl;obtain⟨_,h10⟩:=hf 10 _ rfl;obtain⟨_,h11⟩:=hf 11 _ rfl;obtain⟨_,h12⟩:=hf 12 _ rfl;obtain⟨_,h13⟩:=hf 13 _ rfl;obtain⟨_,h14⟩:=hf 14 _ rfl;obtain⟨_,h15⟩:=hf 15 _ rfl;obtain⟨_,h16⟩:=hf 16 _ rfl;obtain⟨_,h17⟩:=hf 17 _ rfl;obtain⟨x0,hx0,_,_⟩:=DataW.trod_int Tryz.underlying3 h0;obtain⟨x1,hx1,_,_⟩:=DataW.trod_int Tryz.underlying3 h1;obtain⟨x2,hx2,_,_⟩:=DataW.trod_int Tryz.underlying3 h2;obtain⟨x3,hx3,_,m3⟩:=DataW.trod_int Tryz.underlying3 h3;obtain⟨x4,hx4,_⟩:=DataW.trod_bool Tryz.underlying4 h4;obtain⟨x5,hx5,_,m5⟩:=DataW.trod_int Tryz.underlying23 h5;obtain⟨x6,hx6,_,m6⟩:=DataW.trod_int Tryz.underlying23 h6;obtain⟨x7,hx7,_,_⟩:=DataW.trod_int Tryz.underlying3 h7;obtain⟨x8,Tq,_,_⟩:=DataW.trod_int Tryz.underlying3 h8;obtain⟨x9,hx9,_,_⟩:=DataW.trod_int Tryz.underlying3 h9;obtain⟨x10,UJ,_,_⟩:=DataW.trod_int Tryz.underlying32 h10;obtain⟨x11,agf,_,_⟩:=DataW.trod_string Tryz.underlying9 h11;obtain⟨x12,agh,_,_⟩:=DataW.trod_string Tryz.underlying9 h12;simp[e3]at hx0 hx1 hx2 hx3 hx7 Tq hx9;simp[e4]at hx4;simp[eU]at hx5 hx6;simp[eN]at UJ;simp[e9]at agf agh;simp[eC]at h13;simp[eB]at h14;simp[eE]at h15;simp[eS]at h16;simp[eP]at h17;obtain⟨_,n2,hg⟩:=qF Tryz.underlying25 h13;obtain⟨_,g0⟩:=hg 0 _ rfl;obtain⟨_,g1⟩:=hg 1 _ rfl;obtain⟨_,g2⟩:=hg 2 _ rfl;obtain⟨x13,agi,_,_⟩:=DataW.trod_int Tryz.underlying3 g0;obtain⟨x15,agj,_,m15⟩:=DataW.trod_int Tryz.underlying23 g2;simp[e3]at agi;simp[eU]at agj;simp[eM]at g1;obtain⟨_,n3,hh⟩:=qF Tryz.underlying40 h14;obtain⟨_,k0⟩:=hh 0 _ rfl;obtain⟨_,k1⟩:=hh 1 _ rfl;obtain⟨_,k2⟩:=hh 2 _ rfl;obtain⟨x16,hx16,_,_⟩:=DataW.trod_int Tryz.underlying3 k0;obtain⟨x17,agk,_,_⟩:=DataW.trod_int Tryz.underlying3 k1;simp[e3]at hx16 agk;simp[eO]at k2;subst hx0 hx1 hx2 hx3 hx4 hx5 hx6 hx7 Tq hx9 UJ agf agh agi agj hx16 agk;obtain⟨v14,t14⟩:=uh Tryz.underlying22 g1;obtain⟨v18,t18⟩:=uh Tryz.underlying38 k2;obtain⟨v19,t19⟩:=uh Tryz.underlying41 h15;obtain⟨v20,t20⟩:=uh Tryz.underlying42 h16;obtain⟨v21,t21⟩:=uh Tryz.underlying43 h17;obtain⟨mA,mc,ms,rfl,q1,q2,q3,_⟩:=Uk v14 t14;obtain⟨oA,oc,ops,rfl,q4,q5,q6⟩:=ZM v18 t18;obtain⟨eA,ec,es,rfl,q7,q8,q9,q10⟩:=aeI v19 t19;obtain⟨sA,sc,ss,rfl,q11,q12,q13,q14⟩:=aeH v20 t20;obtain⟨pA,pc,ps,rfl,q15,q16,q17⟩:=acJ v21 t21;exact⟨⟨x0,x1,x2,x3,x4,x5,x6,x7,x8,x9,x10,x11,x12,x13,mA,mc,ms,x15,x16,x17,oA,oc,ops,eA,ec,es,sA,sc,ss,pA,pc,ps⟩,rfl,q3,q1,q6,q9,q10,q13,q14,q17,⟨KT m5,KT m6,KT m15⟩,m3,Nat.le_trans q1 q2,Nat.le_trans q4 q5,Nat.le_trans q7 q8,Nat.le_trans q11 q12,Nat.le_trans q15 q16⟩
end
end MO
namespace MO
open aJ Ops yt gu
structure fE where
 k:Int
 n:Int
 x:bD
def fZ(a:fE):List Value:=.int .i64 a.k::.int .i64 a.n::aI a.x
def xO(l:List fE):List Value:=l.flatMap fZ
def Am(w:World)(a:fE):Prop:=Dy w a.x/\I64 a.n
theorem Am.kept{w w':World}{a:fE}(h:Am w a)(hk:Kept aj w w'):Am w' a:=⟨h.1.kept hk,h.2⟩
theorem Nw{w:World}{A:Option Addr}{m:Nat}{l:List fE}(h:Src w 24 A m (xO l))(hm:0<m)(i:Nat)(x:fE)(hx:l[i]? =some x):
  ∃ad,A=some ad/\ad.block<w.heap.size/\∀j u,(fZ x)[j]? =some u->w.cell? ((ad.add (i*24)).add j)=some u:=by
 obtain⟨ad,rfl,had,hcell⟩:=h.2 hm;refine⟨ad,rfl,had,fun j u hu=> ?_⟩;have hj:j<24:=(List.getElem?_eq_some_iff.1 hu).1;rw[add_add];refine hcell _ _ ?_;unfold xO;rw[flat_get fZ 24 (by decide) (fun _=>rfl),show(i*24+j)/24=i by omega,show(i*24+j)%24=j by omega,hx];exact hu
section
variable{H:Type}{enc:TypeId×Value->H}{W:World}{v:Value}{d:DataW H}{ps:List MemPlace}{r:Reach}{b0:Nat}
theorem ZO(fuel:Nat)(cs:List Value)(y:DataW H×List MemPlace)(hy:DataW.trod enc Tryz.prog W 0 (fun _=>true) true fuel 47 cs=some y):∃a,cs=fZ a/\Am W a:=by
 obtain⟨hl,n,hf⟩:=qF Tryz.underlying47 hy;have hC:Tryz.prog.cellsOf 47=24:=by kernel_rfl
 rw[hC]at hl;have e3:Tryz.prog.cellsOf 3=1:=by kernel_rfl
 have eX:Tryz.prog.cellsOf 45=22:=by kernel_rfl
 match cs,hl with
 |c0::c1::r,hl=>
  have hr:r.length=22:=by simpa using hl
  obtain⟨_,h0⟩:=hf 0 _ rfl;obtain⟨_,h1⟩:=hf 1 _ rfl;obtain⟨z2,h2⟩:=hf 2 _ rfl;obtain⟨x0,hx0,_,_⟩:=DataW.trod_int Tryz.underlying3 h0;obtain⟨x1,hx1,_,m1⟩:=DataW.trod_int Tryz.underlying3 h1;simp[e3]at hx0 hx1;have h2':DataW.trod enc Tryz.prog W 0 (fun _=>true) true n 45 (r.take (Tryz.prog.cellsOf 45))=some z2:=h2;rw[eX,List.take_of_length_le (by omega)]at h2';subst hx0 hx1;obtain⟨x,hx,hg⟩:=ZN _ _ _ h2';exact⟨⟨x0,x1,x⟩,by rw[hx];rfl,hg,m1⟩
theorem ZP(hv:Value.okWide Tryz.prog W r b0 26 v)(h:DataW.Trod enc Tryz.prog W 0 (fun _=>true) true 26 v d ps):
  ∃(A:Option Addr) (c:Nat) (l:List fE),v=.slice A l.length c/\l.length<=c/\c<=maxLen/\Src W 24 A l.length (xO l)/\(∀x∈l,Am W x):=by
 have _:Inhabited fE:=⟨⟨0,0,⟨0,0,0,0,false,0,0,0,0,0,0,⟨#[]⟩,⟨#[]⟩,0,none,0,[],0,0,0,none,0,[],none,0,[],none,0,[],none,0,[]⟩⟩⟩;obtain⟨A,c,l,h1,h2,h3,h4,h5,_⟩:=um (α:=fE) fZ (Am W) 24 Tryz.underlying26 (by kernel_rfl) (by decide) (fun _=>rfl) ZO h (okWide_slice Tryz.underlying26 hv);exact⟨A,c,l,h1,h2,h3,h4,h5⟩
theorem VU(hv:Value.okWide Tryz.prog W r b0 25 v)(h:DataW.Trod enc Tryz.prog W 0 (fun _=>true) true 25 v d ps):
  ∃(ep fl:Int) (A:Option Addr) (c:Nat) (l:List aJ.Mem),v=aJ.nC ep A l.length c fl/\l.length<=c/\c<=maxLen/\Src W 2 A l.length (aJ.aU l)/\(∀m∈l,aJ.I64 m.1)/\(0<=fl/\fl<=aJ.aW):=by
 obtain⟨v0,v1,v2,y0,y1,y2,n,rfl,_,_,h0,h1,h2⟩:=Joins.open_agg3 Tryz.underlying25 (by kernel_rfl) (by kernel_rfl) hv h;obtain⟨x0,hx0,_,_⟩:=DataW.trod_int Tryz.underlying3 h0;obtain⟨x2,hx2,_,m2⟩:=DataW.trod_int Tryz.underlying23 h2;simp at hx0 hx2;subst hx0;subst hx2;obtain⟨hv1,t1⟩:=uh Tryz.underlying22 h1;obtain⟨A,c,l,rfl,q1,q2,q3,q4⟩:=Uk hv1 t1;exact⟨x0,x2,A,c,l,rfl,q1,q2,q3,q4,KT m2⟩
end
end MO
end Go.Proofs.YtomccaocggplgaaGreat
namespace Go.Proofs.YtomccaocggplgaaGreat
open Go.RowKit
namespace bW
open gu MO
def NW(w:World)(a:Addr):Array Value:=((List.range 22).map fun j=>(w.cell? (a.add j)).getD undef).toArray
def adK(w:World)(a:Addr):Prop:=∀j,j<22->(w.cell? (a.add j)).isSome=true
def uJ(a:Addr):Sem Value:=loadVar 45 a
theorem Bo(a:Addr):loadVar 45 a=uJ a:=rfl
theorem SN(w:World)(a:Addr)(h:adK w a):(uJ a).run Tryz.prog w=.ok (.agg (NW w a)) w:=by
 have hl:=run_loadCells (P:=Tryz.prog) w a 22 (fun j=>(w.cell? (a.add j)).getD undef) (fun j hj=>by obtain⟨v,hv⟩:=Option.isSome_iff_exists.1 (h j hj);rw[hv];rfl)
 have hi:(Tryz.prog.info? 45).map (·.size)=some 22:=by kernel_rfl
 have hagg:∀W,(isAgg 45).run Tryz.prog W=.ok true W:=fun W=>by unfold isAgg;rw[Sem.run_bind,run_underlying Tryz.underlying45 W];rfl
 cases hq:Tryz.prog.info? 45 with
 |none=>simp[hq]at hi
 |some i=>
  have hs:i.size=22:=by simpa [hq]using hi
  unfold uJ;simp[loadVar,Sem.run_bind,hagg,sizeOf,typeInfo,hq,hs,hl,NW]
theorem acK{w:World}{a:Addr}{cs:List Value}(hn:cs.length=22)(h:∀j u,cs[j]? =some u->w.cell? (a.add j)=some u):adK w a/\NW w a=cs.toArray:=by
 refine⟨fun j hj=> ?_,?_⟩
 ·rw[h j _ (lB0 (by omega))];rfl
 ·unfold NW;congr 1;apply List.ext_getElem?
  intro j;rcases Nat.lt_or_ge j 22 with hj|hj
  ·rw[List.getElem?_map,List.getElem?_range hj,lB0 (by omega:j<cs.length)];simp[h j _ (lB0 (by omega:j<cs.length))]
  ·rw[List.getElem?_eq_none (by simpa using hj),List.getElem?_eq_none (by omega)]
theorem wP(w:World)(a:Addr)(cs:List Value)(hn:cs.length=22)(h:∀j u,cs[j]? =some u->w.cell? (a.add j)=some u):(uJ a).run Tryz.prog w=.ok (.agg cs.toArray) w:=by obtain⟨h1,h2⟩:=acK hn h;rw[SN w a h1,h2]
theorem JJ(w:World)(g:Nat)(x:bD)(h:Has w g 45 (aI x).toArray):(uJ ⟨g,0,none⟩).run Tryz.prog w=.ok (.agg (aI x).toArray) w:=by
 refine wP w _ _ rfl fun j u hu=> ?_;have e1:((⟨g,0,none⟩:Addr).add j)=⟨g,j,none⟩:=by unfold Addr.add;split<;>simp_all
 rw[e1,h.cell];simpa using hu
theorem JK(w:World)(g:Nat)(a:fE)(h:Has w g 47 (fZ a).toArray):(uJ ⟨g,2,none⟩).run Tryz.prog w=.ok (.agg (aI a.x).toArray) w:=by
 refine wP w _ _ rfl fun j u hu=> ?_;have e1:((⟨g,2,none⟩:Addr).add j)=⟨g,2+j,none⟩:=by unfold Addr.add;split<;>simp_all
 have hj:(fZ a)[2+j]? =some u:=by unfold fZ;rw[show 2+j=j+1+1 by omega,List.getElem?_cons_succ,List.getElem?_cons_succ];exact hu
 rw[e1,h.cell];simpa using hj
theorem Ap(w:World)(A:Option Addr)(l:List fE)(hl:Src w 24 A l.length (xO l))(i:Nat)(x:fE)(hx:l[i]? =some x):
  ∃ad,A=some ad/\ad.block<w.heap.size/\(uJ ⟨(ad.add (i*24)).block,(ad.add (i*24)).off+2,none⟩).run Tryz.prog w=.ok (.agg (aI x.x).toArray) w/\w.cell? (ad.add (i*24))=some (.int .i64 x.k)/\w.cell? ⟨(ad.add (i*24)).block,(ad.add (i*24)).off+1,none⟩=some (.int .i64 x.n):=by
 obtain⟨hi,_⟩:=lD0.1 hx;obtain⟨ad,rfl,had,hc⟩:=Nw hl (by omega) i x hx;refine⟨ad,rfl,had,?_,?_,?_⟩
 ·refine wP w _ _ rfl fun j u hu=> ?_;have hj:(fZ x)[2+j]? =some u:=by unfold fZ;rw[show 2+j=j+1+1 by omega,List.getElem?_cons_succ,List.getElem?_cons_succ];exact hu
  have h1:=hc (2+j) u hj;have e1:((⟨(ad.add (i*24)).block,(ad.add (i*24)).off+2,none⟩:Addr).add j)=(ad.add (i*24)).add (2+j):=by rw[add_lit _ (by omega:0<2+j)];unfold Addr.add;split<;>simp_all<;>omega
  rw[e1];exact h1
 ·have h1:=hc 0 _ rfl;have e1:(ad.add (i*24)).add 0=ad.add (i*24):=by rw[add_add];rfl
  rw[e1]at h1;exact h1
 ·have h1:=hc 1 _ rfl;rw[add_lit _ (by omega)]at h1;exact h1
def NY(w:World)(a:Addr):Array Value:=((List.range 24).map fun j=>(w.cell? (a.add j)).getD undef).toArray
def adL(w:World)(a:Addr):Prop:=∀j,j<24->(w.cell? (a.add j)).isSome=true
def Cc(a:Addr):Sem Value:=loadVar 47 a
theorem GZ(a:Addr):loadVar 47 a=Cc a:=rfl
theorem SQ(w:World)(a:Addr)(h:adL w a):(Cc a).run Tryz.prog w=.ok (.agg (NY w a)) w:=by
 have hl:=run_loadCells (P:=Tryz.prog) w a 24 (fun j=>(w.cell? (a.add j)).getD undef) (fun j hj=>by obtain⟨v,hv⟩:=Option.isSome_iff_exists.1 (h j hj);rw[hv];rfl)
 have hi:(Tryz.prog.info? 47).map (·.size)=some 24:=by kernel_rfl
 have hagg:∀W,(isAgg 47).run Tryz.prog W=.ok true W:=fun W=>by unfold isAgg;rw[Sem.run_bind,run_underlying Tryz.underlying47 W];rfl
 cases hq:Tryz.prog.info? 47 with
 |none=>simp[hq]at hi
 |some i=>
  have hs:i.size=24:=by simpa [hq]using hi
  unfold Cc;simp[loadVar,Sem.run_bind,hagg,sizeOf,typeInfo,hq,hs,hl,NY]
theorem acL{w:World}{a:Addr}{cs:List Value}(hn:cs.length=24)(h:∀j u,cs[j]? =some u->w.cell? (a.add j)=some u):adL w a/\NY w a=cs.toArray:=by
 refine⟨fun j hj=> ?_,?_⟩
 ·rw[h j _ (lB0 (by omega))];rfl
 ·unfold NY;congr 1;apply List.ext_getElem?
  intro j;rcases Nat.lt_or_ge j 24 with hj|hj
  ·rw[List.getElem?_map,List.getElem?_range hj,lB0 (by omega:j<cs.length)];simp[h j _ (lB0 (by omega:j<cs.length))]
  ·rw[List.getElem?_eq_none (by simpa using hj),List.getElem?_eq_none (by omega)]
theorem Aq(w:World)(A:Option Addr)(l:List fE)(hl:Src w 24 A l.length (xO l))(i:Nat)(x:fE)(hx:l[i]? =some x):
  ∃ad,A=some ad/\ad.block<w.heap.size/\(Cc (ad.add (i*24))).run Tryz.prog w=.ok (.agg (fZ x).toArray) w:=by
 obtain⟨hi,_⟩:=lD0.1 hx;obtain⟨ad,rfl,had,hc⟩:=Nw hl (by omega) i x hx;obtain⟨h1,h2⟩:=acL (cs:=fZ x) rfl hc;exact⟨ad,rfl,had,by rw[SQ w _ h1,h2]⟩
end bW
namespace bW
open aJ Vn Mst jQ IM kK gu
def bJ(M:MR)(i:Int)(x:bD):MR:=
 if x.k=2 then (if 0<=i/\i<4 then jm M i x else M)
 else if x.k=15 then (if(0<=i/\i<4)\/(5<=i/\i<8)then jW M i else M)
 else if x.k=11\/x.k=12\/x.k=13 then (if 5<=i/\i<8 then jC M (i-5) x else M)
 else M
def cZ(M:MR)(i:Int)(x:bD):MR:=if ou x=0 then mg (bJ M i x)else M
def wQ(M:MR)(i:Int)(x:bD):List AZ:=if ou x=0 then (bJ M i x).out else []
def yJ(M:MR)(i:Nat):Bool:=cO M.st.ms i&&(inB (zQ M.ns) i||M.lost i||M.leaves i)
def F7(M:MR)(i:Int):Int:=(M.iO i).getD 0
def F8(M:MR)(i:Nat):Bool:=M.joins i&&decide (0<F7 M i)
def jc(M:MR)(n:Nat):List Int:=((List.range n).filter (yJ M)).map fun k:Nat=>(k:Int)
def ku(M:MR)(n:Nat):List Mem:=((List.range n).filter (F8 M)).map fun k:Nat=>((k:Int),F7 M k)
def dX(M:MR):aJ.Next:=iH M.st.ep M.st.ms M.st.fl M.st.lg (jc M 4) (ku M 4) M.last
def nK(M:MR)(i:Nat):MR:=if cO M.st.ms i then {M with ns:=M.ns.set i 0,joins:=fun y=> !decide (y=(i:Int))&&M.joins y}else{M with leaves:=fun y=> !decide (y=(i:Int))&&M.leaves y}
def jL(M:MR)(n:Nat):MR:=(List.range n).foldl nK M
def kC(d:aJ.Next):aG:=lq d.ep d.l d.fl d.t
def cleared(M:MR):MR:={M with marks:=fun _=>none,lost:=fun _=>false}
def fF(M:MR):MR:=if(dX M).e≠0 then M else if bn M.st (kC (dX M))≠0 then M else jL (cleared (writeM M (kC (dX M)))) 4
def jM(M:MR)(n:Nat):List Int:=(M.st.ms.take n).map fun m=>(M.marks m.1).getD 0
def known(M:MR)(n:Nat):Bool:=(M.st.ms.take n).all fun m=>(M.marks m.1).isSome
def nZ(M:MR):Int:=dh.zU M.st.hz (jM M M.st.ms.length) M.pins
def eu(M:MR):MR:=if known M M.st.ms.length=true then (if M.st.hz<nZ M then writeM M (eH (nZ M))else M)else M
def ny(M:MR):MR:={M with pins:=dh.dI M.pins}
def iZ(M:MR)(l:List Int):MR:=l.foldl (fun M id=>writeM M (dP id)) M
def kD(M:MR):MR:=iZ (ny M) (dh.iy M.pins)
def bG(M:MR):MR:={kD M with ns:=(kD M).ns.map bump,tk:=bump (kD M).tk}
def fQ(M:MR):MR:=eu (fF (bG M))
def gq(M:MR)(l:List Mem):MR:=l.foldl (fun M m=>jW M m.1) M
def qW(M:MR):MR:=gq (fQ M) (fQ M).st.ms
def lU(M:MR):MR:=mg (qW M)
section
variable{M:MR}{k c:Nat}
theorem bC.done(h:bC M k):bC (mg M) k:=⟨h.st,h.p3,h.pin,h.tq,h.last,h.marks,h.iO,h.cnt⟩
theorem bC.bJ{w:World}(h:bC M k)(i:Int)(x:bD)(hx:I64 x.aX)(hok:jd w x):bC (bJ M i x) (k+1):=by
 unfold bW.bJ;split
 ·split
  ·exact h.jm i x hx hok ‹_›
  ·exact h.mono (Nat.le_succ _)
 split
 ·split
  ·exact(h.send _ _).mono (Nat.le_succ _)
  ·exact h.mono (Nat.le_succ _)
 split
 ·split
  ·exact(h.jC _ x hok).mono (Nat.le_succ _)
  ·exact h.mono (Nat.le_succ _)
 ·exact h.mono (Nat.le_succ _)
theorem bC.deliver{w:World}(h:bC M k)(i:Int)(x:bD)(hx:I64 x.aX)(hok:jd w x):bC (cZ M i x) (k+1):=by
 unfold cZ;split
 ·exact(h.bJ i x hx hok).done
 ·exact h.mono (Nat.le_succ _)
theorem VW(M:MR)(i:Nat):jc M (i+1)=if yJ M i=true then jc M i++[(i:Int)]else jc M i:=by
 unfold jc;rw[List.range_succ,List.filter_append,List.map_append];by_cases h:yJ M i=true
 ·rw[if_pos h,List.filter_cons,if_pos h];rfl
 ·rw[if_neg h,List.filter_cons,if_neg h];simp
theorem VX(M:MR)(i:Nat):ku M (i+1)=if F8 M i=true then ku M i++[((i:Int),F7 M i)]else ku M i:=by
 unfold ku;rw[List.range_succ,List.filter_append,List.map_append];by_cases h:F8 M i=true
 ·rw[if_pos h,List.filter_cons,if_pos h];rfl
 ·rw[if_neg h,List.filter_cons,if_neg h];simp
theorem Ny(M:MR)(i:Nat):(jc M i).length<=i:=by unfold jc;rw[List.length_map];exact Nat.le_trans (List.length_filter_le _ _) (by simp)
theorem Nz(M:MR)(i:Nat):(ku M i).length<=i:=by unfold ku;rw[List.length_map];exact Nat.le_trans (List.length_filter_le _ _) (by simp)
theorem wV(M:MR)(i:Nat):jL M (i+1)=nK (jL M i) i:=by unfold jL;rw[List.range_succ,List.foldl_append];rfl
theorem ZQ(M:MR)(i:Nat):(nK M i).st=M.st:=by unfold nK;split<;>rfl
theorem xP(M:MR)(n:Nat):(jL M n).st=M.st:=by
 induction n with
 |zero=>rfl
 |succ n ih=>rw[wV,ZQ,ih]
theorem SS(M:MR)(i:Nat):(nK M i).out=M.out/\(nK M i).pins=M.pins/\(nK M i).lg=M.lg/\(nK M i).cnt=M.cnt:=by unfold nK;split<;>exact⟨rfl,rfl,rfl,rfl⟩
theorem tu(M:MR)(n:Nat):(jL M n).out=M.out/\(jL M n).pins=M.pins/\(jL M n).lg=M.lg/\(jL M n).cnt=M.cnt:=by
 induction n with
 |zero=>exact⟨rfl,rfl,rfl,rfl⟩
 |succ n ih=>
  obtain⟨a,b,c,d⟩:=SS (jL M n) n;rw[wV,a,b,c,d];exact ih
theorem bC.nK(h:bC M k)(i:Nat):bC (nK M i) k:=by
 unfold bW.nK;split
 ·exact⟨h.st,h.p3,h.pin,zO.heard h.tq _,h.last,h.marks,h.iO,h.cnt⟩
 ·exact⟨h.st,h.p3,h.pin,h.tq,h.last,h.marks,h.iO,h.cnt⟩
theorem bC.jL(h:bC M k)(n:Nat):bC (jL M n) k:=by
 induction n with
 |zero=>exact h
 |succ n ih=>rw[wV];exact ih.nK n
theorem KU{d:aJ.Next}(h:0<=d.fl/\d.fl<=aW):NU (kC d):=wM h
theorem Iz(h:bC M k):0<=(dX M).fl/\(dX M).fl<=aW:=by
 have h1:=h.st.su.fl;have h2:=h.last;have h0:(0:Int)<=aW:=by decide
 by_cases h3:(dX M).e=0
 ·have h4:=BG h3;have h5:(dX M).fl=pG M.st.fl M.last:=h4.flv;rw[h5];unfold pG;split<;>omega
 ·have h4:=aaQ h3;have h5:(dX M).fl=0:=h4.2.2.1;rw[h5];exact⟨Int.le_refl _,h0⟩
theorem bC.cleared(h:bC M k):bC (cleared M) k:=⟨h.st,h.p3,h.pin,h.tq,h.last,(fun i v hv=>by cases hv),h.iO,h.cnt⟩
theorem bC.fF(h:bC M k):bC (fF M) k:=by
 unfold bW.fF;split
 ·exact h
 split
 ·exact h
 ·exact((h.write (KU (Iz h))).cleared).jL 4
theorem ZR(M:MR):(fF M).out=M.out:=by
 unfold fF;split
 ·rfl
 split
 ·rfl
 ·rw[(tu _ _).1];exact qB _ _
theorem acM{hz:Int}{l:List Int}{p:List aO}(h1:0<=hz/\hz<=aW)(h2:∀x∈l,0<=x/\x<=aW)(h3:∀x∈p,0<=x.at'/\x.at'<=aW):0<=dh.zU hz l p/\dh.zU hz l p<=aW:=by
 cases l with
 |nil=>exact h1
 |cons m r=>
  have a1:=dh.EF (f:=m) (l:=r) (h2 m (List.mem_cons_self ..)) (fun x hx=>h2 x (List.mem_cons_of_mem _ hx))
  have a2:=dh.EF (f:=dh.gV m r-min (dh.gV m r) 2) (l:=p.map fun p=>p.at') (by omega) (fun x hx=>by obtain⟨y,hy,rfl⟩:=List.mem_map.1 hx;exact h3 y hy)
  have e:dh.zU hz (m::r) p=max hz (dh.gV (dh.gV m r-min (dh.gV m r) 2) (p.map fun p=>p.at')):=rfl;rw[e];omega
theorem NC(h:bC M k)(n:Nat):∀x∈jM M n,0<=x/\x<=aW:=by
 intro x hx;unfold jM at hx;obtain⟨m,hm,rfl⟩:=List.mem_map.1 hx;cases hv:M.marks m.1 with
 |none=>exact⟨Int.le_refl _,by decide⟩
 |some v=>exact h.marks _ v hv
theorem VY(M:MR)(n:Nat):(jM M n).length=(M.st.ms.take n).length:=List.length_map _
theorem Qr{h:Int}(hh:0<=h/\h<=aW):NU (eH h):=⟨hh,by unfold eH zn;dsimp only;unfold aW;decide,by unfold eH zn;dsimp only;unfold aW;decide,by unfold eH zn;dsimp only;unfold aW;decide⟩
theorem Fp(h:bC M k):0<=nZ M/\nZ M<=aW:=acM h.st.su.hz (NC h _) (fun p hp=>(h.pin p hp).2.2)
theorem bC.uK(h:bC M k):bC (eu M) k:=by
 unfold bW.eu;split
 ·split
  ·exact h.write (Qr (Fp h))
  ·exact h
 ·exact h
theorem Qs(M:MR):(eu M).out=M.out:=by
 unfold eu;split
 ·split
  ·exact qB _ _
  ·rfl
 ·rfl
theorem JL{l:List aO}{p:aO}(h:p∈dh.dI l):∃q∈l,1<q.left/\p=⟨q.id,q.at',q.left-1⟩:=by unfold dh.dI at h;obtain⟨q,hq,rfl⟩:=List.mem_map.1 h;have:=List.mem_filter.1 hq;exact⟨q,this.1,of_decide_eq_true this.2,rfl⟩
theorem bC.ny(h:bC M k):bC (ny M) k:=by refine h.acC (Nat.le_trans (dh.yF _) h.p3) (fun p hp=> ?_);obtain⟨q,hq,h1,rfl⟩:=JL hp;have:=h.pin q hq;exact⟨by dsimp only;omega,by dsimp only;omega,this.2.2⟩
theorem bC.iZ(h:bC M k)(l:List Int):bC (iZ M l) k:=by
 induction l generalizing M with
 |nil=>exact h
 |cons a l ih=>exact ih (h.write (qC _ _ _ (by decide) (by decide)))
theorem VZ(M:MR)(l:List Int):(iZ M l).out=M.out:=by
 induction l generalizing M with
 |nil=>rfl
 |cons a l ih=>exact(ih (writeM M (dP a))).trans (qB _ _)
theorem SV(M:MR)(l:List Int)(a:Int):iZ M (l++[a])=writeM (iZ M l) (dP a):=by unfold iZ;rw[List.foldl_append];rfl
theorem V2(M:MR)(l:List Mem)(m:Mem):gq M (l++[m])=jW (gq M l) m.1:=by unfold gq;rw[List.foldl_append];rfl
theorem bC.kD(h:bC M k):bC (kD M) k:=(h.ny).iZ _
theorem zO.bumped{ns:List Int}{t:Int}(h:zO ns t):zO (ns.map bump) (bump t):=
 ⟨by rw[List.length_map];exact h.len,(fun n hn=>by obtain⟨y,hy,rfl⟩:=List.mem_map.1 hn;exact Tv (h.ns y hy)),Tv h.t⟩
theorem bC.bG(h:bC M k):bC (bG M) k:=by have h1:=h.kD;exact⟨h1.st,h1.p3,h1.pin,zO.bumped h1.tq,h1.last,h1.marks,h1.iO,h1.cnt⟩
theorem bC.fQ(h:bC M k):bC (fQ M) k:=((h.bG).fF).uK
theorem bC.gq(h:bC M k)(l:List Mem):bC (gq M l) k:=by
 induction l generalizing M with
 |nil=>exact h
 |cons a l ih=>exact ih (h.send _ _)
theorem F9(M:MR)(to:Int)(x:bD):(iC M to x).st=M.st:=by unfold iC;split<;>rfl
theorem IB(M:MR)(l:List Mem):(gq M l).st=M.st:=by
 induction l generalizing M with
 |nil=>rfl
 |cons a l ih=>exact(ih (jW M a.1)).trans (F9 _ _ _)
theorem ZS(M:MR)(l:List Mem):(gq M l).out.length<=M.out.length+l.length:=by
 induction l generalizing M with
 |nil=>exact Nat.le_refl _
 |cons a l ih=>
  have h1:=ih (jW M a.1);have h2:(jW M a.1).out.length<=M.out.length+1:=acw _ _ _;have h3:gq M (a::l)=gq (jW M a.1) l:=rfl;rw[h3,List.length_cons];omega
theorem bC.qW(h:bC M k):bC (qW M) k:=(h.fQ).gq _
theorem ZT(M:MR):(fQ M).out=M.out:=by unfold fQ;rw[Qs,ZR];exact VZ (ny M) _
theorem bC.tick(h:bC M k):bC (lU M) k:=(h.qW).done
end
end bW
namespace bW
open aJ Vn Mst jQ IM kK gu
def nV(w:World)(X:MX)(M:MR)(c:Nat)(o:List AZ)(M':MR)(e:Ending)(w':World):Prop:=
 ∃A d,e=.returned (.slice A o.length d)/\w'.ownsRow 0 237 2 (.slice A o.length d) o.length (vF o)/\(∀k,(Value.slice A o.length d).ownBlock=some k->dN X M k\/w.heap.size<=k)/\∃X',Step w X M w' X' M'/\dG X' M'.lg c/\(∀k,(Value.slice A o.length d).ownBlock=some k->¬dN X' M' k)
section
variable{w w':World}{X X0:MX}{M M0:MR}{c k:Nat}
theorem nV.aeJ{W:World}{X1:MX}{M1:MR}{e:Ending}(hs:Step w X M W X1 M1)(h:Ik W X1 M1 c e w'):nV w X M (c+1) M1.out (mg M1) e w':=by
 obtain⟨A,d,h1,h2,h3,X',h4,h5,h6⟩:=h;refine⟨A,d,h1,h2,fun k hk=> ?_,X',hs.trans h4,h5,h6⟩;rcases h3 k hk with y|y
 ·exact hs.g k y
 ·have:=hs.k.size;exact .inr (by omega)
theorem nV.nil(h:dJ w X M)(hb:dG X M.lg c){W:World}(hk:Kept aj w W)(d:Nat):nV w X M (c+d) [] M (.returned (.slice none 0 0)) W:=
 ⟨none,0,rfl,⟨rfl,.inl ⟨rfl,rfl⟩⟩,(fun k hk=>by simp[Value.ownBlock]at hk),X,Step.refl h hk,hb.mono (by omega),(fun k hk=>by simp[Value.ownBlock]at hk)⟩
theorem Qu(h:bC M k)(ho:M.out.length<=1000){W:World}{X1:MX}{M1:MR}(hs:Step w X M W X1 M1)(hb:dG X1 M1.lg c)(hc:c<=4000)(h1:bC M1 k):
  Calls Tryz.prog 22 #[.pointer (some ⟨X.mb,0,none⟩)] W (nV w X M (c+1) M1.out (mg M1)):=by
 have hd:=yT hs.at' hb hc h1.st.inv.ok h1.st.su h1.st.inv.pl;rw[hs.mb]at hd;exact hd.mono fun e w' hp=>nV.aeJ hs hp
theorem dK.at1{W W':World}{X1:MX}{M1 M2:MR}{v:Value}{e:Ending}{d:Nat}(hs:Step w X M W X1 M1)(h:dK W X1 M1 c v M2 d e W'):e=.returned v/\∃X2,Step w X M W' X2 M2/\dG X2 M2.lg (c+d):=by obtain⟨h1,X2,h2,h3⟩:=h;exact⟨h1,X2,hs.trans h2,h3⟩
attribute [local go_sem↓] Bo
theorem G4(h:dJ w X M)(hb:dG X M.lg c)(hc:c<=2900)(hm:bC M k)(hk:k<=900)(ho:M.out.length<=90)(i:Int)(x:bD)(hx:jd w x)(hxs:I64 x.aX)(hi64:I64 i):
  Calls Tryz.prog 14 #[.pointer (some ⟨X.mb,0,none⟩),.int .i64 i,iE x] w (nV w X M (c+3) (wQ M i x) (cZ M i x)):=by
 obtain⟨W0,hW0⟩:∃W0,w.alloc (.cells (aI x).toArray 45)=W0:=⟨_,rfl⟩;have hk0:Kept aj w W0:=by rw[<-hW0];(repeat'(first|(with_reducible first|exact ak|apply au|apply ay|apply aA|apply aB)|(right;simp;done)))
 have hn0:Has W0 w.heap.size 45 (aI x).toArray:=by rw[<-hW0];exact Has.new _ _ _
 have h1:=qh (h.quiet hk0);have hld:∀W,Kept aj W0 W->(uJ ⟨w.heap.size,0,none⟩).run Tryz.prog W=.ok (.agg (aI x).toArray) W:=fun W hW=>JJ W w.heap.size x (hn0.kept hW (fun z=>z));have h2:Calls Tryz.prog 40 #[.agg (aI x).toArray] W0 fun e w'=>e=.returned (.int .i64 (ou x))/\Kept aj W0 w':=IX W0 x (hx.kept hk0);have hbad:ou x≠0->∀W,Kept aj w W->nV w X M (c+3) (wQ M i x) (cZ M i x) (.returned (.slice none 0 0)) W:=fun h0 W hW=>by have e1:wQ M i x=[]:=if_neg h0;have e2:cZ M i x=M:=if_neg h0;rw[e1,e2];exact nV.nil h hb hW 3
 have hend:ou x=0->∀W X1,Step w X M W X1 (bJ M i x)->dG X1 (bJ M i x).lg (c+2)->Calls Tryz.prog 22 #[.pointer (some ⟨X.mb,0,none⟩)] W (nV w X M (c+3) (wQ M i x) (cZ M i x)):=fun h0 W X1 hs hl=>by have e1:wQ M i x=(bJ M i x).out:=if_pos h0;have e2:cZ M i x=mg (bJ M i x):=if_pos h0;rw[e1,e2];exact Qu (k:=k+1) (hm.mono (Nat.le_succ _)) (by omega) hs hl (by omega) (hm.bJ i x hxs hx)
 have JM:x.k=2->0<=i/\i<4->∀W,Kept aj w W->Calls Tryz.prog 42 #[.pointer (some ⟨X.mb,0,none⟩),.int .i64 i,.agg (aI x).toArray] W fun e W'=>e=.returned (.tuple #[])/\∃X1,Step w X M W' X1 (bJ M i x)/\dG X1 (bJ M i x).lg (c+2):=fun hk2 hi W hW=>by
  obtain⟨n,rfl⟩:=Int.eq_ofNat_of_zero_le hi.1;have e1:bJ M n x=jm M n x:=by unfold bJ;rw[if_pos hk2,if_pos hi]
  rw[e1];refine(acy (h.quiet hW) hb (by omega) hm (by omega) (by omega) n (by omega) x (hx.kept hW) hxs).mono ?_;intro e W' hp;obtain⟨h1,X2,h3,h4⟩:=dK.at1 (Step.refl h hW) hp;exact⟨h1,X2,h3,h4.mono (by omega)⟩
 have JO:x.k=15->((0<=i/\i<4)\/(5<=i/\i<8))->∀W,Kept aj w W->Calls Tryz.prog 44 #[.pointer (some ⟨X.mb,0,none⟩),.int .i64 i] W fun e W'=>e=.returned (.tuple #[])/\∃X1,Step w X M W' X1 (bJ M i x)/\dG X1 (bJ M i x).lg (c+2):=fun hk2 hi W hW=>by
  have e1:bJ M i x=jW M i:=by unfold bJ;rw[if_neg (by omega),if_pos hk2,if_pos hi]
  rw[e1];refine(EZ (h.quiet hW) hb (by omega) hm.st.inv.ok hm.st.su i).mono ?_;intro e W' hp;obtain⟨h1,X2,h3,h4⟩:=dK.at1 (Step.refl h hW) hp;exact⟨h1,X2,h3,h4.mono (by omega)⟩
 have hask:(x.k=11\/x.k=12\/x.k=13)->5<=i/\i<8->∀W,Kept aj w W->Calls Tryz.prog 45 #[.pointer (some ⟨X.mb,0,none⟩),.int .i64 (i-5),.agg (aI x).toArray] W fun e W'=>e=.returned (.tuple #[])/\∃X1,Step w X M W' X1 (bJ M i x)/\dG X1 (bJ M i x).lg (c+2):=fun hk2 hi W hW=>by
  have e1:bJ M i x=jC M (i-5) x:=by unfold bJ;rw[if_neg (by omega),if_neg (by omega),if_pos hk2,if_pos hi]
  rw[e1];refine(aeG (h.quiet hW) hb (by omega) hm (by omega) (i-5) (by omega) x (hx.kept hW)).mono ?_;intro e W' hp;obtain⟨h1,X2,h3,h4⟩:=dK.at1 (Step.refl h hW) hp;exact⟨h1,X2,h3,h4⟩
 have hsame:((x.k=2/\¬(0<=i/\i<4))\/(x.k=15/\¬((0<=i/\i<4)\/(5<=i/\i<8)))\/((x.k=11\/x.k=12\/x.k=13)/\¬(5<=i/\i<8))\/(x.k≠2/\x.k≠15/\x.k≠11/\x.k≠12/\x.k≠13))->∀W,Kept aj w W->Step w X M W X (bJ M i x)/\dG X (bJ M i x).lg (c+2):=fun hq W hW=>by
  have e1:bJ M i x=M:=by
   unfold bJ;rcases hq with⟨a,b⟩|⟨a,b⟩|⟨a,b⟩|⟨a,b,d,e,f⟩
   ·rw[if_pos a,if_neg b]
   ·rw[if_neg (by omega),if_pos a,if_neg b]
   ·rw[if_neg (by omega),if_neg (by omega),if_pos a,if_neg b]
   ·rw[if_neg a,if_neg b,if_neg (by omega)]
  rw[e1];exact⟨Step.refl h hW,hb.mono (by omega)⟩
 have hrep:=fun W=>Be W i;have agl:=fun W=>VA W i;have hsub:5<=i/\i<8->IntKind.i64.wrap (i-5)=i-5:=fun hi=>IntWalk.i64_in _ (by omega);obtain⟨o,hO⟩:∃o,wQ M i x=o:=⟨_,rfl⟩;obtain⟨M',hM'⟩:∃M',cZ M i x=M':=⟨_,rfl⟩;obtain⟨M1,hM1⟩:∃M1,bJ M i x=M1:=⟨_,rfl⟩;obtain⟨z,hz⟩:∃z,ou x=z:=⟨_,rfl⟩;rw[hO,hM']at hbad hend⊢;simp only[hM1]at hend JM JO hask hsame;rw[hz]at hbad hend h2;obtain⟨kk,hkk⟩:∃kk,x.k=kk:=⟨_,rfl⟩;rw[hkk]at JM JO hask hsame;have hu0:(aI x).toArray[0]? =some (.int .i64 kk):=by rw[<-hkk];rfl
 obtain⟨cs,hcs⟩:∃cs,(aI x).toArray=cs:=⟨_,rfl⟩;rw[hcs]at hn0 h2 hu0;simp only[hcs]at hld JM hask;have hW0':w.alloc (.cells cs 45)=W0:=by rw[<-hcs];exact hW0
 have hgoal:(iE x)=Value.agg cs:=by rw[<-hcs]
 rw[hgoal];have agm:=hld W0 (Kept.refl _ _);have HLD:=ah hld;clear hW0 hcs hgoal hld;have hW0:=hW0';clear hW0';have H1:=ah h1;have HC:=ah h2;have HN:=ah hn0;have bf:=ah hk0;have HBAD:=ah hbad;have jI:=ah hend;have uZ:=ah JM;have Ew:=ah JO;have acN:=ah hask;have Gf:=ah hsame;have agn:=ah hrep;have agp:=ah agl;have abn:=ah hsub;have HU:=ah hu0;clear h1 h2 hn0 hk0 hbad hend JM JO hask hsame hrep agl hsub hu0 hO hM' hM1 hz hkk h hb hc hm hk ho hx hxs hi64;by_cases h0:z=0;rotate_left
 ·have h2:(z !=0)=true:=by simpa using h0
  have HF:=ah (HBAD.out h0);clear h0;go_enter Tryz.func14,Tryz.ntmps14;go_wp2_with fail;clear hW0;refine H1.out.mono ?_;rintro e w1 ⟨rfl,rfl⟩;go_wp2_with fail;clear agm;refine HC.out.mono ?_;rintro e w2 ⟨rfl,hk2⟩;have HQ:=ah (HF.out _ (bf.out.then hk2));clear hk2;go_wp2;go_ret;exact HQ.out
 ·subst h0;have HE:=ah (jI.out rfl);clear jI HBAD;go_enter Tryz.func14,Tryz.ntmps14;go_wp2_with fail;clear hW0;refine H1.out.mono ?_;rintro e w1 ⟨rfl,rfl⟩;go_wp2_with fail;clear agm;refine HC.out.mono ?_;rintro e w2 ⟨rfl,hk2⟩;have hn2:=HN.out.kept hk2 (fun z=>z);have aiR:=HLD.out w2 hk2;have u0:w2.cell? ⟨w.heap.size,0,none⟩=some (.int .i64 kk):=by rw[Has.cell hn2];exact HU.out
  have aV:=ah (bf.out.then hk2);have dV:=ah hn2;clear hk2 hn2;by_cases k2:kk=2
  ·subst k2;obtain⟨r,hr⟩:∃r:Bool,decide (0<=i/\i<4)=r:=⟨_,rfl⟩;have hcall:=agn.out w2;rw[hr]at hcall;have gQ:=ah hcall;clear hcall;cases r
   ·have hsm:=Gf.out (.inl ⟨rfl,of_decide_eq_false hr⟩) _ aV.out;have HD:=ah (HE.out _ _ hsm.1 hsm.2);clear hsm hr;go_wp2_with fail;refine gQ.out.mono ?_;rintro e w3 ⟨rfl,rfl⟩;go_wp2_with fail;refine HD.out.mono ?_;rintro e w4 ⟨A,d,rfl,hp⟩;have HP:=ah hp;clear hp;go_wp2;go_ret;exact⟨A,d,rfl,HP.out⟩
   ·have hbe:=uZ.out rfl (of_decide_eq_true hr) _ aV.out;have HB:=ah hbe;clear hbe hr;go_wp2_with fail;refine gQ.out.mono ?_;rintro e w3 ⟨rfl,rfl⟩;go_wp2_with fail;refine HB.out.mono ?_;rintro e w4 ⟨rfl,X1,hs1,hl1⟩;have HD:=ah (HE.out _ _ hs1 hl1);clear hs1 hl1;clear u0;go_wp2_with fail;refine HD.out.mono ?_;rintro e w5 ⟨A,d,rfl,hp⟩;have HP:=ah hp;clear hp;go_wp2;go_ret;exact⟨A,d,rfl,HP.out⟩
  by_cases k15:kk=15
  ·subst k15;obtain⟨r,hr⟩:∃r:Bool,decide (0<=i/\i<4)=r:=⟨_,rfl⟩;obtain⟨s,hs⟩:∃s:Bool,decide (5<=i/\i<8)=s:=⟨_,rfl⟩;have hcall:=agn.out w2;have Dz:=agp.out w2;rw[hr]at hcall;rw[hs]at Dz;have gQ:=ah hcall;have JQ:=ah Dz;clear hcall Dz
   have hwh:(r=true\/s=true)->_:=fun hh=>Ew.out rfl (by
    rcases hh with hh|hh
    ·rw[hh]at hr;exact .inl (of_decide_eq_true hr)
    ·rw[hh]at hs;exact .inr (of_decide_eq_true hs)) w2 aV.out
   have HW:=ah hwh;clear hwh;cases r
   ·cases s
    ·have hsm:=Gf.out (.inr (.inl ⟨rfl,fun hh=>by
      rcases hh with hh|hh
      ·exact of_decide_eq_false hr hh
      ·exact of_decide_eq_false hs hh⟩)) _ aV.out
     have HD:=ah (HE.out _ _ hsm.1 hsm.2);clear hsm hr hs;go_wp2_with fail;refine gQ.out.mono ?_;rintro e w3 ⟨rfl,rfl⟩;go_wp2_with fail;refine JQ.out.mono ?_;rintro e w3 ⟨rfl,rfl⟩;go_wp2_with fail;refine HD.out.mono ?_;rintro e w4 ⟨A,d,rfl,hp⟩;have HP:=ah hp;clear hp;go_wp2;go_ret;exact⟨A,d,rfl,HP.out⟩
    ·have HW2:=ah (HW.out (.inr rfl));clear hr hs;go_wp2_with fail;refine gQ.out.mono ?_;rintro e w3 ⟨rfl,rfl⟩;go_wp2_with fail;refine JQ.out.mono ?_;rintro e w3 ⟨rfl,rfl⟩;go_wp2_with fail;refine HW2.out.mono ?_;rintro e w4 ⟨rfl,X1,hs1,hl1⟩;have HD:=ah (HE.out _ _ hs1 hl1);clear hs1 hl1;clear u0;go_wp2_with fail;refine HD.out.mono ?_;rintro e w5 ⟨A,d,rfl,hp⟩;have HP:=ah hp;clear hp;go_wp2;go_ret;exact⟨A,d,rfl,HP.out⟩
   ·have HW2:=ah (HW.out (.inl rfl));clear hr hs;go_wp2_with fail;refine gQ.out.mono ?_;rintro e w3 ⟨rfl,rfl⟩;go_wp2_with fail;refine HW2.out.mono ?_;rintro e w4 ⟨rfl,X1,hs1,hl1⟩;have HD:=ah (HE.out _ _ hs1 hl1);clear hs1 hl1;clear u0;go_wp2_with fail;refine HD.out.mono ?_;rintro e w5 ⟨A,d,rfl,hp⟩;have HP:=ah hp;clear hp;go_wp2;go_ret;exact⟨A,d,rfl,HP.out⟩
  have n2:(kk==2)=false:=by simpa using k2
  have n15:(kk==15)=false:=by simpa using k15
  by_cases k11:kk=11\/kk=12\/kk=13
  ·obtain⟨s,hs⟩:∃s:Bool,decide (5<=i/\i<8)=s:=⟨_,rfl⟩;have Dz:=agp.out w2;rw[hs]at Dz;have JQ:=ah Dz;clear Dz;have ahc:=ah (acN.out k11);have HSM:=ah (fun hn=>Gf.out (.inr (.inr (.inl ⟨k11,hn⟩))));clear acN Gf uZ Ew k2 k15;rcases k11 with rfl|rfl|rfl
   all_goals (
    clear n2 n15
    cases s
    ·have hsm:=HSM.out (of_decide_eq_false hs) _ aV.out;have HD:=ah (HE.out _ _ hsm.1 hsm.2);clear hsm hs;go_wp2_with fail;refine JQ.out.mono ?_;rintro e w3 ⟨rfl,rfl⟩;go_wp2_with fail;refine HD.out.mono ?_;rintro e w4 ⟨A,d,rfl,hp⟩;have HP:=ah hp;clear hp;go_wp2;go_ret;exact⟨A,d,rfl,HP.out⟩
    ·have hak:=ahc.out (of_decide_eq_true hs) _ aV.out;have hsb:=abn.out (of_decide_eq_true hs);have HAK:=ah hak;clear hak hs;go_wp2_with fail;refine JQ.out.mono ?_;rintro e w3 ⟨rfl,rfl⟩;go_wp2_with fail;refine HAK.out.mono ?_;rintro e w4 ⟨rfl,X1,hs1,hl1⟩;have HD:=ah (HE.out _ _ hs1 hl1);clear hs1 hl1;clear u0;go_wp2_with fail;refine HD.out.mono ?_;rintro e w5 ⟨A,d,rfl,hp⟩;have HP:=ah hp;clear hp;go_wp2;go_ret;exact⟨A,d,rfl,HP.out⟩)
  ·have hsm:=Gf.out (.inr (.inr (.inr ⟨k2,k15,by omega,by omega,by omega⟩))) _ aV.out;have HD:=ah (HE.out _ _ hsm.1 hsm.2);have n11:(kk==11)=false:=by simp;omega
   have n12:(kk==12)=false:=by simp;omega
   have n13:(kk==13)=false:=by simp;omega
   clear hsm k2 k15 k11 acN Gf uZ Ew;go_wp2_with fail;refine HD.out.mono ?_;rintro e w4 ⟨A,d,rfl,hp⟩;have HP:=ah hp;clear hp;go_wp2;go_ret;exact⟨A,d,rfl,HP.out⟩
