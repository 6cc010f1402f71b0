/- Part 39. -/
import Derived.Test.YtgbigpdiacjbgaaGreatKP31
import Derived.Test.YtgbigpdiacjbgaaGreatKP37
set_option linter.unusedSimpArgs false
set_option linter.unusedVariables false
set_option maxHeartbeats 32000000
set_option maxRecDepth 100000
namespace Go.Proofs.YtgbigpdiacjbgaaGreat
open Go.RowKit
namespace Cli
open bg Ops fG eP Vn Go.Proofs.YtgbigpdiacjbgaaGreat.Ask
def atOk(t:TS):Prop:=(0<=t.at'/\t.at'<=aY)/\(0<=t.a.at'/\t.a.at'<=aY)
theorem EP{w:World}{t:TS}(h:atOk t)(ep hd:Int){A:Option Addr}{c:Nat}(hs:Src w 3 A (aJ t ep hd).2.ops.length (cells (aJ t ep hd).2.ops)):pU w {(aJ t ep hd).2 with oA:=A,oc:=c}:=by
 have z0:(0:Int)<=0/\(0:Int)<=aY:=by unfold aY;decide
 have hz:∀x:aO,x.ms=[]->x.es=[]->x.ss=[]->x.ps=[]->x.last=0->x.mG=0->x.mc=0->(0<=x.at'/\x.at'<=aY)->Src w 3 A x.ops.length (cells x.ops)->pU w {x with oA:=A,oc:=c}:=fun x e1 e2 e3 e4 e5 e6 e7 ht hs=>by
  refine⟨by show Src w 2 x.mA x.ms.length _;rw[e1];exact Src.nil _ _ _,by show x.ms.length<=x.mc;rw[e1];exact Nat.zero_le _,by show x.ms.length<=1000;rw[e1];exact Nat.zero_le _,hs,by show Src w 4 x.eA x.es.length _;rw[e2];exact Src.nil _ _ _,fun y hy=> ?_,by show x.es.length<=1000;rw[e2];exact Nat.zero_le _,by show Src w 1 x.sA x.ss.length _;rw[e3];exact Src.nil _ _ _,by show x.ss.length<=1000;rw[e3];exact Nat.zero_le _,fun y hy=> ?_,by show Src w 2 x.pA x.ps.length _;rw[e4];exact Src.nil _ _ _,by show x.ps.length<=1000;rw[e4];exact Nat.zero_le _,ht,?_,?_⟩
  ·have hy':y∈x.es:=hy;rw[e2]at hy';cases hy'
  ·have hy':y∈x.ss:=hy;rw[e3]at hy';cases hy'
  ·show 0<=x.last/\x.last<=aY;rw[e5];exact z0
  ·show 0<=x.mG/\x.mG<=aY;rw[e6];exact z0
 refine hz _ ?_ ?_ ?_ ?_ ?_ ?_ ?_ ?_ hs;all_goals unfold aJ
 all_goals repeat' split
 all_goals first|rfl|exact z0|exact h.1|exact h.2
def uz(C:dh)(a:iZ):dh:={C with req:=C.req+1,t:=some (newT C.id (C.req+1) a)}
def wZ(C:dh)(a:iZ):List dS:=bn [] (aJ (newT C.id (C.req+1) a) C.ep C.hd).1 (aJ (newT C.id (C.req+1) a) C.ep C.hd).2
theorem mO(L:List dS)(to:Int)(m:aO):(bn L to m).length<=L.length+1:=by
 unfold bn;split
 ·simp
 ·omega
attribute [local go_sem↓] qB
attribute [local go_sem] rW
section
variable{w w':World}{X X':CX}{C C':dh}
theorem PL(h:gq w X C)(a:iZ)(ht:C.t.isSome=true):Calls Tryz.prog 8 #[.pointer (some ⟨X.cb,0,none⟩),pN a] w fun e w'=>e=.returned (.tuple #[.slice none 0 0,.int .i64 20])/\Kept aj w w':=by
 obtain⟨W0,hW0⟩:∃W0,w.alloc (.cells (bQ a).toArray 25)=W0:=⟨_,rfl⟩;have hk0:Kept aj w W0:=by rw[<-hW0];(repeat'(first|(with_reducible first|exact ay|apply aA|apply aB|apply aC|apply aF)|(right;simp;done)))
 have h0:=h.quiet hk0;have hn:=kD h0;obtain⟨t,ht⟩:=Option.isSome_iff_exists.1 ht;have q:W0.cell? ⟨X.cb,4,none⟩=some (nM X C):=h0.b.cell 4;rw[jI ht]at q;obtain⟨cb,hcb⟩:∃cb,X.cb=cb:=⟨_,rfl⟩;obtain⟨tb,htb⟩:∃tb,X.px.b=tb:=⟨_,rfl⟩;rw[hcb]at hn q⊢;rw[htb]at q;obtain⟨cs,hcs⟩:∃cs,(bQ a).toArray=cs:=⟨_,rfl⟩;unfold pN;rw[hcs]at hW0⊢;have HN:=ah hn;have aS:=ah hk0;clear hn hk0 h0 h hcb htb ht hcs;go_enter Tryz.func8,Tryz.ntmps8;go_wp2_with fail;clear hW0;refine HN.out.mono ?_;rintro e w2 ⟨rfl,rfl⟩;go_wp2;go_ret2;exact⟨rfl,aS.out⟩
theorem TJ(h:gq w X C)(hok:Oa C)(a:iZ)(ha:uZ w a)(hl:a.ops.length<=1000)(ht:C.t=none)(hz:newE C.id (C.req+1) a≠0):Calls Tryz.prog 8 #[.pointer (some ⟨X.cb,0,none⟩),pN a] w fun e w'=>e=.returned (.tuple #[.slice none 0 0,.int .i64 (newE C.id (C.req+1) a)])/\Kept aj w w':=by
 obtain⟨W0,hW0⟩:∃W0,w.alloc (.cells (bQ a).toArray 25)=W0:=⟨_,rfl⟩;have hk0:Kept aj w W0:=by rw[<-hW0];(repeat'(first|(with_reducible first|exact ay|apply aA|apply aB|apply aC|apply aF)|(right;simp;done)))
 have hn0:Has W0 w.heap.size 25 (bQ a).toArray:=by rw[<-hW0];exact Has.new _ _ _
 have h0:=h.quiet hk0;have hn:=kD h0;have hnew:=fun W (hW:Kept aj W0 W)=>(KH W C.id (C.req+1) a (ha.kept (hk0.then hW)) hl).mono fun e w' hp=>show e=.returned (.tuple #[.pointer none,.int .i64 (newE C.id (C.req+1) a)])/\Kept aj W w' from hp.1 hz;have q:W0.cell? ⟨X.cb,4,none⟩=some (nM X C):=h0.b.cell 4;have q0:W0.cell? ⟨X.cb,0,none⟩=some (.int .i64 C.id):=h0.b.cell 0;have q1:W0.cell? ⟨X.cb,1,none⟩=some (.int .i64 C.req):=h0.b.cell 1;rw[uw ht]at q;have hrq:=hok.req;have hwr0:IntKind.i64.wrap (C.req+1)=C.req+1:=IntWalk.i64_in _ (by omega);obtain⟨r1,hr1⟩:∃r1,C.req+1=r1:=⟨_,rfl⟩;rw[hr1]at hnew hz⊢;have hwr:IntKind.i64.wrap (C.req+1)=r1:=by rw[<-hr1];exact hwr0
 clear hwr0;obtain⟨z,hzz⟩:∃z,newE C.id r1 a=z:=⟨_,rfl⟩;rw[hzz]at hz⊢;simp only[hzz]at hnew;have hz2:(z !=0)=true:=by simpa using hz
 obtain⟨cb,hcb⟩:∃cb,X.cb=cb:=⟨_,rfl⟩;rw[hcb]at hn q q0 q1⊢;obtain⟨u1,u2⟩:=wB (cs:=bQ a) rfl hn0;unfold pN at hnew⊢;obtain⟨cs,hcs⟩:∃cs,(bQ a).toArray=cs:=⟨_,rfl⟩;rw[hcs]at hW0 u2⊢;simp only[hcs]at hnew;have hS:∀W,Kept aj W0 W->W.cell? ⟨cb,0,none⟩=some (.int .i64 C.id)/\W.cell? ⟨cb,1,none⟩=some (.int .i64 C.req)/\yD W ⟨w.heap.size,0,none⟩/\vF W ⟨w.heap.size,0,none⟩=cs:=fun W hW=>by have hb:=h0.b.kept hW (fun z=>z);rw[hcb]at hb;have h2:=wB (cs:=bQ a) rfl (hn0.kept hW (fun z=>z));rw[hcs]at h2;exact⟨hb.cell 0,hb.cell 1,h2⟩
 have HN:=ah hn;have aS:=ah hk0;have mF:=ah hnew;have rQ:=ah hwr;have HS:=ah hS;clear hS;clear hn hk0 h0 h hcb ht hcs hnew hn0 hr1 hzz hrq hok ha hl hz hwr;go_enter Tryz.func8,Tryz.ntmps8;go_wp2_with fail;clear hW0;refine HN.out.mono ?_;rintro e w2 ⟨rfl,rfl⟩;have hwr:=rQ.out;go_wp2_with fail
 go_region_held3 (fun W=>W.cell? ⟨cb,0,none⟩=some (.int .i64 C.id)/\W.cell? ⟨cb,1,none⟩=some (.int .i64 C.req)/\yD W ⟨w.heap.size,0,none⟩/\vF W ⟨w.heap.size,0,none⟩=cs) (first|with_reducible exact s3|with_reducible exact⟨q0,q1,u1,u2⟩|(refine HS.out _ ?_;(repeat'(first|(with_reducible first|exact ay|apply aA|apply aB|apply aC|apply aF)|(right;simp;done)));done))
  (first|(go_at_call 25;refine(mF.out _ (by(repeat'(first|(with_reducible first|exact ay|apply aA|apply aB|apply aC|apply aF)|(right;simp;done))))).mono ?_;rintro e w3 ⟨rfl,hk3⟩;have s3:=HS.out w3 (Kept.then (F:=aj) (a:=W0) (by(repeat'(first|(with_reducible first|exact ay|apply aA|apply aB|apply aC|apply aF)|(right;simp;done)))) hk3);have dI:=ah (Kept.then (F:=aj) (a:=W0) (by(repeat'(first|(with_reducible first|exact ay|apply aA|apply aB|apply aC|apply aF)|(right;simp;done)))) hk3);clear hk3))
 go_wp2;go_ret2;exact⟨rfl,aS.out.then dI.out⟩
end
end Cli
namespace Cli
open bg Ops fG eP Vn Go.Proofs.YtgbigpdiacjbgaaGreat.Ask
theorem atOk.tick{t:TS}(h:atOk t):atOk (bu t).1:=by
 unfold bu;split
 ·exact h
 split
 ·exact h
 ·exact h
theorem atOk.take{t:TS}(h:atOk t)(f:Int){x:aO}(hx:0<=x.at'/\x.at'<=aY):atOk (aI t f x).1:=by
 unfold aI;split
 ·exact h
 split
 ·unfold lN;split
  ·exact h
  split
  ·exact h
  split
  ·exact h
  ·exact⟨hx,h.2⟩
 split
 ·unfold je;split
  ·exact h
  split
  ·exact h
  split
  ·exact h
  ·unfold ig;split
   ·exact h
   ·exact h
 ·unfold takeA;split
  ·exact h
  split
  ·exact h
  ·exact h
end Cli
namespace Cli
open bg Ops fG eP Vn Go.Proofs.YtgbigpdiacjbgaaGreat.Ask
attribute [local go_sem↓] qB
attribute [local go_sem] rW
section
variable{w w':World}{X X':CX}{C C':dh}
theorem gq.task{w0 w1:World}(h:gq w0 X C){Y:PX}{tk:TS}{r1:Int}(hk:Kept (fun k=>k=X.cb) w0 w1)(hb:Has w1 X.cb 38 (oz {X with px:=Y} {C with req:=r1,t:=some tk}))(hp:kN w1 Y tk)(hn:∀k,jW Y tk k->w.heap.size<=k)(hw:w.heap.size<=w0.heap.size)(hX:∀k,pG X C k->k<w.heap.size):
  gq w1 {X with px:=Y} {C with req:=r1,t:=some tk}:=by
 refine⟨hb,fun t e=> ?_,aP h.r hk (fun k hk e=>(h.ar k hk).1 e),fun k hk=>⟨(h.ar k hk).1,fun t e hf=> ?_⟩⟩
 ·injection e with e;subst e;exact⟨hp,fun hf=>by have h2:X.cb<w.heap.size:=hX X.cb (.inl rfl);have h3:w.heap.size<=X.cb:=hn _ hf;omega⟩
 ·injection e with e;subst e;have:=hn _ hf;have:=hX k (.inr (.inr hk));omega
def En(w:World)(X:CX)(C:dh)(a:iZ)(e:Ending)(w':World):Prop:=
 ∃X' A c,e=.returned (.tuple #[.slice A (wZ C a).length c,.int .i64 0])/\gV w X C w' X' (uz C a)/\uy w w' A c (wZ C a)
theorem LU(h:gq w X C)(hok:Oa C)(a:iZ)(ha:uZ w a)(hl:a.ops.length<=1000)(ht:C.t=none)(hz:newE C.id (C.req+1) a=0):Calls Tryz.prog 8 #[.pointer (some ⟨X.cb,0,none⟩),pN a] w (En w X C a):=by
 obtain⟨W0,hW0⟩:∃W0,w.alloc (.cells (bQ a).toArray 25)=W0:=⟨_,rfl⟩;have hk0:Kept aj w W0:=by rw[<-hW0];(repeat'(first|(with_reducible first|exact ay|apply aA|apply aB|apply aC|apply aF)|(right;simp;done)))
 have hn0:Has W0 w.heap.size 25 (bQ a).toArray:=by rw[<-hW0];exact Has.new _ _ _
 have h0:=h.quiet hk0;have hn:=kD h0;have hnew:=fun W (hW:Kept aj W0 W)=>(KH W C.id (C.req+1) a (ha.kept (hk0.then hW)) hl).mono fun e w' hp=>hp.2 hz;have q:W0.cell? ⟨X.cb,4,none⟩=some (nM X C):=h0.b.cell 4;have q0:W0.cell? ⟨X.cb,0,none⟩=some (.int .i64 C.id):=h0.b.cell 0;have q1:W0.cell? ⟨X.cb,1,none⟩=some (.int .i64 C.req):=h0.b.cell 1;rw[uw ht]at q;have hrq:=hok.req;have hwr0:IntKind.i64.wrap (C.req+1)=C.req+1:=IntWalk.i64_in _ (by omega);have htok:=mV.new (cl:=C.id) (rq:=C.req+1) (a:=a) ha.2.2.2.2.2.2.1 hz;have hat:atOk (newT C.id (C.req+1) a):=⟨ha.2.2.2.2.2.2.2.1,ha.2.2.2.2.2.2.2.1⟩;have PN:=pK.new (cl:=C.id) (rq:=C.req+1) (a:=a) ha.2.2.2.2.2.2.1 hz;have hbl:(newT C.id (C.req+1) a).bo.length<=1000:=by have h9:=(Ops.sZ PN.b).2.2.2.2.1;exact Nat.le_trans h9 (by decide)
 have hlt:∀k,pG X C k->k<w.heap.size:=fun k hk=>h.lt hk;have hsz0:=hk0.size;obtain⟨r1,hr1⟩:∃r1,C.req+1=r1:=⟨_,rfl⟩;unfold En uz wZ;rw[hr1]at hnew hz htok hat PN hbl⊢;have hwr:IntKind.i64.wrap (C.req+1)=r1:=by rw[<-hr1];exact hwr0
 clear hwr0;obtain⟨tk,htk⟩:∃tk,newT C.id r1 a=tk:=⟨_,rfl⟩;rw[htk]at htok hat PN hbl⊢;simp only[htk]at hnew;obtain⟨cb,hcb⟩:∃cb,X.cb=cb:=⟨_,rfl⟩;have hb0:Has W0 cb 38 (oz X C):=by rw[<-hcb];exact h0.b
 rw[hcb]at hn q q0 q1⊢;obtain⟨u1,u2⟩:=wB (cs:=bQ a) rfl hn0;unfold pN at hnew⊢;obtain⟨cs,hcs⟩:∃cs,(bQ a).toArray=cs:=⟨_,rfl⟩;rw[hcs]at hW0 u2⊢;simp only[hcs]at hnew;have hS:∀W,Kept aj W0 W->W.cell? ⟨cb,0,none⟩=some (.int .i64 C.id)/\W.cell? ⟨cb,1,none⟩=some (.int .i64 C.req)/\yD W ⟨w.heap.size,0,none⟩/\vF W ⟨w.heap.size,0,none⟩=cs:=fun W hW=>by have hb:=hb0.kept hW (fun z=>z);have h2:=wB (cs:=bQ a) rfl (hn0.kept hW (fun z=>z));rw[hcs]at h2;exact⟨hb.cell 0,hb.cell 1,h2⟩
 have HN:=ah hn;have aS:=ah hk0;have mF:=ah hnew;have rQ:=ah hwr;have HS:=ah hS;have HB0:=ah hb0;have H0:=ah h0;have HT:=ah ht;have abE:=ah htok;have HAT:=ah hat;have Xj:=ah hbl;have cu:=ah hcb;have jm:=ah hlt;have LV:=ah hsz0;clear hS hn hk0 h0 h hcb ht hcs hnew hn0 hr1 htk hrq hok ha hl hz hwr hb0 htok hat PN hbl hlt hsz0;go_enter Tryz.func8,Tryz.ntmps8;go_wp2_with fail;clear hW0;refine HN.out.mono ?_;rintro e w2 ⟨rfl,rfl⟩;have hwr:=rQ.out;go_wp2_with fail
 go_region_held3 (fun W=>W.cell? ⟨cb,0,none⟩=some (.int .i64 C.id)/\W.cell? ⟨cb,1,none⟩=some (.int .i64 C.req)/\yD W ⟨w.heap.size,0,none⟩/\vF W ⟨w.heap.size,0,none⟩=cs) (first|with_reducible exact s3|with_reducible exact⟨q0,q1,u1,u2⟩|(refine HS.out _ ?_;(repeat'(first|(with_reducible first|exact ay|apply aA|apply aB|apply aC|apply aF)|(right;simp;done)));done))
  (first|(go_at_call 25;refine(mF.out _ (by(repeat'(first|(with_reducible first|exact ay|apply aA|apply aB|apply aC|apply aF)|(right;simp;done))))).mono ?_;rintro e w3 ⟨Y,rfl,hp3,hf3,hk3⟩;have hkk:=Kept.then (F:=aj) (a:=W0) (by(repeat'(first|(with_reducible first|exact ay|apply aA|apply aB|apply aC|apply aF)|(right;simp;done)))) hk3;have s3:=HS.out w3 hkk;have dI:=ah hkk;have Yz:=ah hp3;have HF3:=ah hf3;clear hk3 hkk hp3 hf3))
 clear s3 q q0 q1 u1 u2 hwr;have hb3:=HB0.out.kept dI.out (fun z=>z);have y1:w3.cell? ⟨cb,1,none⟩=some (.int .i64 C.req):=hb3.cell 1;have f1:=hb3.frozen 1;have f4:=hb3.frozen 4;have y4:w3.cell? ⟨cb,4,none⟩=some (nM X C):=hb3.cell 4;rw[uw HT.out]at y4;have HB3:=ah hb3;clear hb3;have hwr:=rQ.out;go_wp2_with fail;clear y1 y4 f1 f4 hwr;obtain⟨W5,sG⟩:∃W5,(w3.setCell ⟨cb,1,none⟩ (.int .i64 r1)).setCell ⟨cb,4,none⟩ (.pointer (some ⟨Y.b,0,none⟩))=W5:=⟨_,rfl⟩;rw[sG];have PO:Kept (fun k=>k=cb) w3 W5:=by rw[<-sG];(repeat'(first|(with_reducible first|exact ay|apply aA|apply aB|apply aC|apply aF)|(exact Or.inl rfl)|(right;simp;done)))
 have hb5:Has W5 cb 38 (oz {X with px:=Y} {C with req:=r1,t:=some tk}):=by rw[<-sG];exact Has.aQ (Has.aQ HB3.out rfl) rfl
 have aaj:cb<w.heap.size:=by have:=jm.out X.cb (.inl rfl);rw[cu.out]at this;exact this
 have Xk:∀k,jW Y tk k->w.heap.size<=k:=fun k hk=>by have h9:W0.heap.size<=k:=HF3.out k hk;have:=LV.out;omega
 have hp5:kN W5 Y tk:=Yz.out.lQ PO (fun k hk e=>by have:=Xk k hk;omega);have hc3:=H0.out.quiet dI.out;have hc5:gq W5 {X with px:=Y} {C with req:=r1,t:=some tk}:=gq.task (w:=w) hc3 (by rw[cu.out];exact PO) (by rw[cu.out];exact hb5) hp5 Xk (Nat.le_trans LV.out dI.out.size) jm.out;have hS5:∀W,Kept aj W5 W->W.cell? ⟨cb,2,none⟩=some (.int .i64 C.ep)/\W.cell? ⟨cb,3,none⟩=some (.int .i64 C.hd):=fun W hW=>⟨(hb5.kept hW (fun z=>z)).cell 2,(hb5.kept hW (fun z=>z)).cell 3⟩;have hnx:=fun W (hW:Kept aj W5 W)=>vS (hp5.quiet hW) abE.out Xj.out C.ep C.hd;have hxo:=fun W A c (hs:Src W 3 A (aJ tk C.ep C.hd).2.ops.length (cells (aJ tk C.ep C.hd).2.ops))=>EP HAT.out C.ep C.hd (c:=c) hs;unfold Ask.jJ at hnx;obtain⟨p,hp⟩:∃p,aJ tk C.ep C.hd=p:=⟨_,rfl⟩;simp only[hp]at hnx hxo;have Dn:=ah hp;have uX:=ah hS5;have jT:=ah hnx;have Dp:=ah hxo;have HC5:=ah hc5;have HFY:=ah Xk;have HCW:=ah aaj;have aak:=ah PO;have tX:=ah hb5;clear hS5 hnx hxo hc5 Xk aaj PO hb5 hp5 hc3 hp sG;go_wp2_with fail;refine(CS W5).mono ?_;rintro e w6 ⟨lb,rfl,hbx,hlb,hk6⟩;have hnl:¬yC lb none 0 0 cb:=fun h=>by
  rcases h with e|e
  ·have h9:cb<W5.heap.size:=tX.out.lt;omega
  ·simp[Value.ownBlock]at e
 have SH:=ah hbx;have um:=ah hlb;have eu:=ah hk6;have o9:=ah hnl;obtain⟨y2,y3⟩:=uX.out w6 hk6;clear hbx hlb hk6 hnl;go_wp2_with fail
 go_region_held3 (fun W=>W.cell? ⟨cb,2,none⟩=some (.int .i64 C.ep)/\W.cell? ⟨cb,3,none⟩=some (.int .i64 C.hd)) (first|with_reducible exact s8|with_reducible exact s7|with_reducible exact⟨y2,y3⟩|(refine uX.out _ ?_;(repeat'(first|(with_reducible first|exact ay|apply aA|apply aB|apply aC|apply aF)|(exact eu.out)|(right;simp;done)));done))
  (first
   |(go_at_call 27;refine(jT.out _ (by(repeat'(first|(with_reducible first|exact ay|apply aA|apply aB|apply aC|apply aF)|(exact eu.out)|(right;simp;done))))).mono ?_;rintro e w7 ⟨A7,c7,rfl,hs7,Eo,-,aZ⟩;have hkk:=Kept.then (F:=aj) (a:=w6) (by(repeat'(first|(with_reducible first|exact ay|apply aA|apply aB|apply aC|apply aF)|(right;simp;done)))) aZ;have s7:=uX.out w7 (eu.out.then hkk);have Xl:=ah (Dp.out w7 A7 c7 hs7);have jd:=ah hkk;have abG:=ah (SH.out.quiet hkk);clear hs7 Eo aZ hkk)
   |(go_at_call 52;refine(put_any abG.out (by decide) _ _ Xl.out).mono ?_;rintro e w8 ⟨rfl,A8,c8,hb8,hk8,oq⟩;have V2:=Has.kept (Has.kept tX.out (eu.out.then jd.out) (fun z=>z)) hk8 o9.out;have s8:w8.cell? ⟨cb,2,none⟩=some (.int .i64 C.ep)/\w8.cell? ⟨cb,3,none⟩=some (.int .i64 C.hd):=And.intro (V2.cell 2) (V2.cell 3);have HB8:=ah hb8;have Jt:=ah hk8;have wX:=ah oq;clear hb8 hk8 oq V2))
 clear s8 s7 y2 y3;go_wp2_with fail;refine(lV HB8.out).mono ?_;rintro e w9 ⟨rfl,rfl⟩;go_wp2;go_ret2;have hs5:=HC5.out;have hw5:w.heap.size<=W5.heap.size:=Nat.le_trans LV.out (Nat.le_trans dI.out.size aak.out.size);have hl5:W5.heap.size<=lb:=um.out;have hnb:∀k,yC lb none 0 0 k->W5.heap.size<=k:=fun k hk=>by
  rcases hk with rfl|hk
  ·exact hl5
  ·simp[Value.ownBlock]at hk
 have e1:bn [] p.1 {p.2 with oA:=A7,oc:=c7}=bn [] (aJ tk C.ep C.hd).1 (aJ tk C.ep C.hd).2:=by rw[Dn.out];rfl
 have hb8:=HB8.out;have oq:=wX.out;rw[e1]at hb8 oq⊢;refine⟨{X with px:=Y},A8,c8,rfl,⟨?_,rfl,fun k hk=> ?_,?_⟩,⟨hb8.r,fun k hk=> ?_⟩⟩
 ·exact(HC5.out.quiet (eu.out.then jd.out)).lQ Jt.out (fun k hk hf=>by have:=HC5.out.lt hk;have:=hnb k hf;omega)
 ·rcases hk with rfl|⟨t,e,hf⟩|hf
  ·exact .inl (.inl rfl)
  ·have e':some tk=some t:=e;injection e' with e';subst e';exact .inr (HFY.out k hf)
  ·exact .inl (.inr (.inr hf))
 ·have h1:Kept (pG X C) w W5:=(Kept.yM (aS.out.then dI.out)).trans aak.out (fun k hk=> .inl (.inl (hk.trans cu.out.symm)));exact(h1.trans (eu.out.then jd.out) (fun k hk=>hk.elim)).trans Jt.out (fun k hk=> .inr (by have:=hnb k hk;omega))
 ·rcases oq k (.inr hk)with y|y
  ·have:=hnb k y;omega
  ·have h6:=(eu.out.then jd.out).size;omega
end
end Cli
namespace Cli
open bg Ops fG eP Vn Go.Proofs.YtgbigpdiacjbgaaGreat.Ask
def qL:List Mem->Int
 |[]=> -1
 |m::_=>m.1
theorem TK(w:World)(ep fl:Int)(A:Option Addr)(c:Nat)(l:List Mem)(hl:Src w 2 A l.length (dL l))(hlen:l.length<=1000000):
  Calls Tryz.prog 65 #[zL ep A l.length c fl] w fun e w'=>e=.returned (.int .i64 (qL l))/\Kept aj w w':=by
 cases l with
 |nil=>
  clear hl;simp only[List.length_nil];go_enter Tryz.func65,Tryz.ntmps65;go_wp2;go_ret;exact⟨rfl,by(repeat'(first|(with_reducible first|exact ay|apply aA|apply aB|apply aC|apply aF)|(right;simp;done)))⟩
 |cons m r=>
  obtain⟨ad,rfl,had,d0,d1⟩:=qX hl (by simp) 0 m rfl;have d0':w.cell? ad=some (.int .i64 m.1):=d0;have aal:∀o,(w.alloc o).cell? ad=some (.int .i64 m.1):=fun o=>by rw[World.cell?_of_block (w:=w) (((Kept.refl aj w).alloc o).block _ had (fun x=>x))];exact d0'
  have e0:=aal (.cells #[.int .i64 ep,.slice (some ad) (m::r).length c,.int .u64 fl] 57);have hpos:0<(m::r).length:=by simp
  have HH:=ah (rfl:qL (m::r)=m.1);generalize(m::r).length=N at*
  rw[HH.out];have hp1:¬(N:Int)=0:=by omega
  have hp2:¬(N:Int)<=0:=by omega
  clear d0 d1 d0' aal hl had HH;have hadd:ad.add 0=ad:=by unfold Addr.add;rw[if_pos rfl]
  go_enter Tryz.func65,Tryz.ntmps65;go_wp2;go_ret;exact⟨rfl,by(repeat'(first|(with_reducible first|exact ay|apply aA|apply aB|apply aC|apply aF)|(right;simp;done)))⟩
def bC(C:dh)(f:Int)(x:aO):dh×Bool:=
 if f=4/\x.k=1/\C.ep<x.fO then ({C with ep:=x.fO,hd:=qL x.ms},true)
 else if x.k=7/\C.ep<x.ep then ({C with as':=true},false)
 else(C,false)
section
variable{w w':World}{X X':CX}{C C':dh}
theorem gq.nums(h:gq w X C)(hk:Kept (fun k=>k=X.cb) w w')(hb:Has w' X.cb 38 (oz X C'))(ht:C'.t=C.t)(hr:C'.r=C.r):gV w X C w' X C':=by
 refine⟨⟨hb,fun t e=> ?_,?_,?_⟩,rfl,fun k hk=> ?_,hk.mono fun k e=> .inl e⟩
 ·rw[ht]at e;have h1:=h.t t e;exact⟨h1.1.lQ hk (fun k hf e=>h1.2 (e▸hf)),h1.2⟩
 ·rw[hr];exact aP h.r hk (fun k hk e=>(h.ar k hk).1 e)
 ·rw[hr];intro k hk;refine⟨(h.ar k hk).1,fun t e=> ?_⟩;rw[ht]at e;exact(h.ar k hk).2 t e
 ·unfold pG at hk⊢;rw[ht,hr]at hk;exact .inl hk
theorem Jz(h:gq w X C)(f:Int)(x:aO)(hx:bJ.dF w 0 x):Calls Tryz.prog 30 #[.pointer (some ⟨X.cb,0,none⟩),.int .i64 f,aK x] w fun e w'=>e=.returned (.bool (bC C f x).2)/\gV w X C w' X (bC C f x).1:=by
 obtain⟨W0,hW0⟩:∃W0,w.alloc (.cells (au x).toArray 63)=W0:=⟨_,rfl⟩;have hk0:Kept aj w W0:=by rw[<-hW0];(repeat'(first|(with_reducible first|exact ay|apply aA|apply aB|apply aC|apply aF)|(right;simp;done)))
 have hn0:Has W0 w.heap.size 63 (au x).toArray:=by rw[<-hW0];exact Has.new _ _ _
 have h0:=h.quiet hk0;have q2:W0.cell? ⟨X.cb,2,none⟩=some (.int .i64 C.ep):=h0.b.cell 2;have m0:W0.cell? ⟨w.heap.size,0,none⟩=some (.int .i64 x.k):=hn0.cell 0;have m1:W0.cell? ⟨w.heap.size,1,none⟩=some (.int .i64 x.ep):=hn0.cell 1;have m13:W0.cell? ⟨w.heap.size,13,none⟩=some (.int .i64 x.fO):=hn0.cell 13;have hlt:X.cb<w.heap.size:=h.b.lt;obtain⟨mb,hmb⟩:∃mb,w.heap.size=mb:=⟨_,rfl⟩;rw[hmb]at m0 m1 m13 hn0;have hne:X.cb≠mb:=by omega
 by_cases hc:f=4/\x.k=1/\C.ep<x.fO
 ·have hl:bC C f x=({C with ep:=x.fO,hd:=qL x.ms},true):=if_pos hc;rw[hl];obtain⟨rfl,hk1,G5⟩:=hc;rw[hk1]at m0;have hhd:=fun W (hW:Kept aj W0 W)=>TK W x.fO x.mG x.mA x.mc x.ms (hx.m.kept (hk0.then hW) (fun _ _ z=>z)) (by have:=hx.ml;omega);have hS:∀W,Kept (fun k=>k=X.cb) W0 W->W.cell? ⟨mb,13,none⟩=some (.int .i64 x.fO)/\W.cell? ⟨mb,14,none⟩=some (.slice x.mA x.ms.length x.mc)/\W.cell? ⟨mb,15,none⟩=some (.int .u64 x.mG):=fun W hW=>⟨(hn0.kept hW (fun e=>hne e.symm)).cell 13,(hn0.kept hW (fun e=>hne e.symm)).cell 14,(hn0.kept hW (fun e=>hne e.symm)).cell 15⟩;obtain⟨hh,hhh⟩:∃hh,qL x.ms=hh:=⟨_,rfl⟩;simp only[hhh]at hhd;rw[hhh];obtain⟨nm,hnm⟩:∃nm,x.ms.length=nm:=⟨_,rfl⟩;simp only[hnm]at hhd hS;obtain⟨cs,hcs⟩:∃cs,(au x).toArray=cs:=⟨_,rfl⟩;unfold aK;rw[hcs]at hW0⊢;have TL:=ah hhd;have HS:=ah hS;have H0:=ah h0;have aS:=ah hk0;have HH:=ah h;have lJ:=ah hne;clear hhd hS h0 hk0 h hne hn0 hx hl hhh hnm hcs hk1 hlt;go_enter Tryz.func30,Tryz.ntmps30;go_wp2_with fail;clear hW0 hmb;go_quiet (fail);clear q2 m0 m1 m13;obtain⟨s13,s14,s15⟩:=HS.out W0 (Kept.refl _ _);have y2:W0.cell? ⟨X.cb,2,none⟩=some (.int .i64 C.ep):=H0.out.b.cell 2;go_wp2_with fail
  go_region_held3 (fun W=>W.cell? ⟨mb,13,none⟩=some (.int .i64 x.fO)/\W.cell? ⟨mb,14,none⟩=some (.slice x.mA nm x.mc)/\W.cell? ⟨mb,15,none⟩=some (.int .u64 x.mG)) (first|with_reducible exact s5|with_reducible exact⟨s13,s14,s15⟩|(refine HS.out _ ?_;(repeat'(first|(with_reducible first|exact ay|apply aA|apply aB|apply aC|apply aF)|(first|exact Or.inl rfl|with_reducible exact AV.out)|(right;simp;done)));done))
   (first|(go_at_call 65;refine(TL.out _ (by(repeat'(first|(with_reducible first|exact ay|apply aA|apply aB|apply aC|apply aF)|(right;simp;done))))).mono ?_;rintro e w5 ⟨rfl,hk5⟩;have hkk:=Kept.then (F:=aj) (a:=W0) (by(repeat'(first|(with_reducible first|exact ay|apply aA|apply aB|apply aC|apply aF)|(right;simp;done)))) hk5;have hb5:=H0.out.b.kept hkk (fun z=>z);have z2:w5.cell? ⟨X.cb,2,none⟩=some (.int .i64 C.ep):=hb5.cell 2;have z3:w5.cell? ⟨X.cb,3,none⟩=some (.int .i64 C.hd):=hb5.cell 3;have f2:=hb5.frozen 2;have f3:=hb5.frozen 3;have AV:=ah (Kept.yM (F:=fun k=>k=X.cb) hkk);have s5:=HS.out w5 AV.out;have HKK:=ah hkk;have tX:=ah hb5;clear hk5 hkk hb5))
  go_wp2;go_ret;have hc5:=H0.out.quiet HKK.out;exact⟨rfl,(gV.refl HH.out (aS.out.then HKK.out)).trans (gq.nums hc5 (by(repeat'(first|(with_reducible first|exact ay|apply aA|apply aB|apply aC|apply aF)|(exact Or.inl rfl)|(right;simp;done)))) (Has.aQ (Has.aQ tX.out rfl) rfl) rfl rfl)⟩
 ·have hl:bC C f x=if x.k=7/\C.ep<x.ep then ({C with as':=true},false)else(C,false):=if_neg hc;have h11:W0.cell? ⟨X.cb,11,none⟩=some (.bool C.as'):=h0.b.cell 11;have f11:=h0.b.frozen 11;have hset:∀W,Kept aj W0 W->gV w X C (W.setCell ⟨X.cb,11,none⟩ (.bool true)) X {C with as':=true}:=fun W hW=>by have hcW:=h0.quiet hW;exact(gV.refl h (hk0.then hW)).trans (gq.nums hcW (by(repeat'(first|(with_reducible first|exact ay|apply aA|apply aB|apply aC|apply aF)|(exact Or.inl rfl)|(right;simp;done)))) (Has.aQ hcW.b rfl) rfl rfl)
  have hno:∀W,Kept aj W0 W->gV w X C W X C:=fun W hW=>gV.refl h (hk0.then hW);rw[hl];obtain⟨kk,hkk⟩:∃kk,x.k=kk:=⟨_,rfl⟩;rw[hkk]at m0 hc⊢;obtain⟨cs,hcs⟩:∃cs,(au x).toArray=cs:=⟨_,rfl⟩;unfold aK;rw[hcs]at hW0⊢;have KA:=ah hset;have oP:=ah hno;clear hset hno h0 hk0 h hne hn0 hx hl hkk hcs hlt;have hcase:(f≠4/\kk≠7)\/(f≠4/\kk=7/\C.ep<x.ep)\/(f≠4/\kk=7/\¬C.ep<x.ep)\/(f=4/\kk=1/\¬C.ep<x.fO)\/(f=4/\kk≠1/\kk≠7)\/(f=4/\kk=7/\C.ep<x.ep)\/(f=4/\kk=7/\¬C.ep<x.ep):=by omega
  clear hc;have hbf:∀a b:Int,a≠b->(a==b)=false:=fun a b h=>by simpa using h
  rcases hcase with⟨hf,hk⟩|⟨hf,rfl,hlt⟩|⟨hf,rfl,hlt⟩|⟨rfl,rfl,hlt⟩|⟨rfl,hk1,hk⟩|⟨rfl,rfl,hlt⟩|⟨rfl,rfl,hlt⟩
  ·rw[if_neg (fun h=>hk h.1)];have hf':=hbf _ _ hf;have hk':=hbf _ _ hk;clear hf hk hbf;go_enter Tryz.func30,Tryz.ntmps30;go_wp2_with fail;clear hW0 hmb;go_quiet (fail);go_wp2_with fail;go_quiet (fail);go_wp2;go_ret;exact⟨rfl,oP.out _ (by(repeat'(first|(with_reducible first|exact ay|apply aA|apply aB|apply aC|apply aF)|(right;simp;done))))⟩
  ·rw[if_pos ⟨rfl,hlt⟩];have hf':=hbf _ _ hf;clear hf hbf;go_enter Tryz.func30,Tryz.ntmps30;go_wp2_with fail;clear hW0 hmb;go_quiet (fail);go_wp2_with fail;go_quiet (fail);go_wp2;go_ret;exact⟨rfl,KA.out _ (by(repeat'(first|(with_reducible first|exact ay|apply aA|apply aB|apply aC|apply aF)|(right;simp;done))))⟩
  ·rw[if_neg (fun h=>hlt h.2)];have hf':=hbf _ _ hf;clear hf hbf;go_enter Tryz.func30,Tryz.ntmps30;go_wp2_with fail;clear hW0 hmb;go_quiet (fail);go_wp2_with fail;go_quiet (fail);go_wp2;go_ret;exact⟨rfl,oP.out _ (by(repeat'(first|(with_reducible first|exact ay|apply aA|apply aB|apply aC|apply aF)|(right;simp;done))))⟩
  ·rw[if_neg (fun h=>by have:=h.1;omega)];clear hbf;go_enter Tryz.func30,Tryz.ntmps30;go_wp2_with fail;clear hW0 hmb;go_quiet (fail);go_wp2_with fail;go_quiet (fail);go_wp2;go_ret;exact⟨rfl,oP.out _ (by(repeat'(first|(with_reducible first|exact ay|apply aA|apply aB|apply aC|apply aF)|(right;simp;done))))⟩
  ·rw[if_neg (fun h=>hk h.1)];have hk':=hbf _ _ hk;have acu:=hbf _ _ hk1;clear hk hk1 hbf;go_enter Tryz.func30,Tryz.ntmps30;go_wp2_with fail;clear hW0 hmb;go_quiet (fail);go_wp2_with fail;go_quiet (fail);go_wp2;go_ret;exact⟨rfl,oP.out _ (by(repeat'(first|(with_reducible first|exact ay|apply aA|apply aB|apply aC|apply aF)|(right;simp;done))))⟩
  ·rw[if_pos ⟨rfl,hlt⟩];clear hbf;go_enter Tryz.func30,Tryz.ntmps30;go_wp2_with fail;clear hW0 hmb;go_quiet (fail);go_wp2_with fail;go_quiet (fail);go_wp2;go_ret;exact⟨rfl,KA.out _ (by(repeat'(first|(with_reducible first|exact ay|apply aA|apply aB|apply aC|apply aF)|(right;simp;done))))⟩
  ·rw[if_neg (fun h=>hlt h.2)];clear hbf;go_enter Tryz.func30,Tryz.ntmps30;go_wp2_with fail;clear hW0 hmb;go_quiet (fail);go_wp2_with fail;go_quiet (fail);go_wp2;go_ret;exact⟨rfl,oP.out _ (by(repeat'(first|(with_reducible first|exact ay|apply aA|apply aB|apply aC|apply aF)|(right;simp;done))))⟩
