/- Part 28. -/
import Derived.Test.YtgbigpdiacjbgaaGreatCZ26
set_option linter.unusedSimpArgs false
set_option linter.unusedVariables false
set_option maxHeartbeats 32000000
set_option maxRecDepth 100000
namespace Go.Proofs.YtgbigpdiacjbgaaGreat
open Go.RowKit
namespace Cli
open aJ Ops dG bQ Vn Go.Proofs.YtgbigpdiacjbgaaGreat.Ask
attribute [local go_sem↓] jK
attribute [local go_sem] jL
section
variable{w w':World}{X X':CX}{C C':iq}
theorem dI.task{w0 w1:World}(h:dI w0 X C){Y:PX}{tk:TS}{r1:Int}(hk:Kept (fun k=>k=X.cb) w0 w1)(hb:Has w1 X.cb 38 (nY {X with px:=Y} {C with req:=r1,t:=some tk}))(hp:fE w1 Y tk)(hn:∀k,jk Y tk k->w.heap.size<=k)(hw:w.heap.size<=w0.heap.size)(hX:∀k,iF X C k->k<w.heap.size):
  dI w1 {X with px:=Y} {C with req:=r1,t:=some tk}:=by
 refine⟨hb,fun t e=> ?_,aX h.r hk (fun k hk e=>(h.ar k hk).1 e),fun k hk=>⟨(h.ar k hk).1,fun t e hf=> ?_⟩⟩
 ·injection e with e;subst e;exact⟨hp,fun hf=>by have h2:X.cb<w.heap.size:=hX X.cb (.inl rfl);have h3:w.heap.size<=X.cb:=hn _ hf;omega⟩
 ·injection e with e;subst e;have:=hn _ hf;have:=hX k (.inr (.inr hk));omega
def lT(w:World)(X:CX)(C:iq)(a:bF)(e:Ending)(w':World):Prop:=
 ∃X' A c,e=.returned (.tuple #[.slice A (oL C a).length c,.int .i64 0])/\gZ w X C w' X' (wZ C a)/\BP w w' A c (oL C a)
theorem yZ(h:dI w X C)(hok:DY C)(a:bF)(ha:iZ w a)(hl:a.ops.length<=1000)(ht:C.t=none)(hz:newE C.id (C.req+1) a=0):Calls Tryz.prog 8 #[.pointer (some ⟨X.cb,0,none⟩),iO a] w (lT w X C a):=by
 obtain⟨W0,hW0⟩:∃W0,w.alloc (.cells (aQ a).toArray 25)=W0:=⟨_,rfl⟩;have hk0:Kept aj w W0:=by rw[<-hW0];(repeat'(first|(with_reducible first|exact ay|apply aA|apply aB|apply aC|apply aF)|(right;simp;done)))
 have hn0:Has W0 w.heap.size 25 (aQ a).toArray:=by rw[<-hW0];exact Has.new _ _ _
 have h0:=h.quiet hk0;have hn:=lK h0;have hnew:=fun W (hW:Kept aj W0 W)=>(yS W C.id (C.req+1) a (ha.kept (hk0.then hW)) hl).mono fun e w' hp=>hp.2 hz;have q:W0.cell? ⟨X.cb,4,none⟩=some (lI X C):=h0.b.cell 4;have q0:W0.cell? ⟨X.cb,0,none⟩=some (.int .i64 C.id):=h0.b.cell 0;have q1:W0.cell? ⟨X.cb,1,none⟩=some (.int .i64 C.req):=h0.b.cell 1;rw[lJ ht]at q;have hrq:=hok.req;have hwr0:IntKind.i64.wrap (C.req+1)=C.req+1:=IntWalk.i64_in _ (by omega);have htok:=fF.new (cl:=C.id) (rq:=C.req+1) (a:=a) ha.2.2.2.2.2.2.1 hz;have hat:atOk (newT C.id (C.req+1) a):=⟨ha.2.2.2.2.2.2.2.1,ha.2.2.2.2.2.2.2.1⟩;have uK:=oK.new (cl:=C.id) (rq:=C.req+1) (a:=a) ha.2.2.2.2.2.2.1 hz;have hbl:(newT C.id (C.req+1) a).bo.length<=1000:=by have h9:=(Ops.qo uK.b).2.2.2.2.1;exact Nat.le_trans h9 (by decide)
 have hlt:∀k,iF X C k->k<w.heap.size:=fun k hk=>h.lt hk;have hsz0:=hk0.size;obtain⟨r1,hr1⟩:∃r1,C.req+1=r1:=⟨_,rfl⟩;unfold lT wZ oL;rw[hr1]at hnew hz htok hat uK hbl⊢;have hwr:IntKind.i64.wrap (C.req+1)=r1:=by rw[<-hr1];exact hwr0
 clear hwr0;obtain⟨tk,htk⟩:∃tk,newT C.id r1 a=tk:=⟨_,rfl⟩;rw[htk]at htok hat uK hbl⊢;simp only[htk]at hnew;obtain⟨cb,hcb⟩:∃cb,X.cb=cb:=⟨_,rfl⟩;have hb0:Has W0 cb 38 (nY X C):=by rw[<-hcb];exact h0.b
 rw[hcb]at hn q q0 q1⊢;obtain⟨u1,u2⟩:=lS (cs:=aQ a) rfl hn0;unfold iO at hnew⊢;obtain⟨cs,hcs⟩:∃cs,(aQ a).toArray=cs:=⟨_,rfl⟩;rw[hcs]at hW0 u2⊢;simp only[hcs]at hnew;have hS:∀W,Kept aj W0 W->W.cell? ⟨cb,0,none⟩=some (.int .i64 C.id)/\W.cell? ⟨cb,1,none⟩=some (.int .i64 C.req)/\oJ W ⟨w.heap.size,0,none⟩/\kL W ⟨w.heap.size,0,none⟩=cs:=fun W hW=>by have hb:=hb0.kept hW (fun z=>z);have h2:=lS (cs:=aQ a) rfl (hn0.kept hW (fun z=>z));rw[hcs]at h2;exact⟨hb.cell 0,hb.cell 1,h2⟩
 have HN:=ah hn;have aN:=ah hk0;have fB:=ah hnew;have wK:=ah hwr;have HS:=ah hS;have HB0:=ah hb0;have H0:=ah h0;have HT:=ah ht;have Em:=ah htok;have HAT:=ah hat;have FH:=ah hbl;have oG:=ah hcb;have sD:=ah hlt;have y7:=ah hsz0;clear hS hn hk0 h0 h hcb ht hcs hnew hn0 hr1 htk hrq hok ha hl hz hwr hb0 htok hat uK hbl hlt hsz0;go_enter Tryz.func8,Tryz.ntmps8;go_wp2_with fail;clear hW0;refine HN.out.mono ?_;rintro e w2 ⟨rfl,rfl⟩;have hwr:=wK.out;go_wp2_with fail
 go_region_held3 (fun W=>W.cell? ⟨cb,0,none⟩=some (.int .i64 C.id)/\W.cell? ⟨cb,1,none⟩=some (.int .i64 C.req)/\oJ W ⟨w.heap.size,0,none⟩/\kL W ⟨w.heap.size,0,none⟩=cs) (first|with_reducible exact s3|with_reducible exact⟨q0,q1,u1,u2⟩|(refine HS.out _ ?_;(repeat'(first|(with_reducible first|exact ay|apply aA|apply aB|apply aC|apply aF)|(right;simp;done)));done))
  (first|(go_at_call 25;refine(fB.out _ (by(repeat'(first|(with_reducible first|exact ay|apply aA|apply aB|apply aC|apply aF)|(right;simp;done))))).mono ?_;rintro e w3 ⟨Y,rfl,hp3,hf3,hk3⟩;have hkk:=Kept.then (F:=aj) (a:=W0) (by(repeat'(first|(with_reducible first|exact ay|apply aA|apply aB|apply aC|apply aF)|(right;simp;done)))) hk3;have s3:=HS.out w3 hkk;have bf:=ah hkk;have Az:=ah hp3;have HF3:=ah hf3;clear hk3 hkk hp3 hf3))
 clear s3 q q0 q1 u1 u2 hwr;have hb3:=HB0.out.kept bf.out (fun z=>z);have y1:w3.cell? ⟨cb,1,none⟩=some (.int .i64 C.req):=hb3.cell 1;have f1:=hb3.frozen 1;have f4:=hb3.frozen 4;have y4:w3.cell? ⟨cb,4,none⟩=some (lI X C):=hb3.cell 4;rw[lJ HT.out]at y4;have HB3:=ah hb3;clear hb3;have hwr:=wK.out;go_wp2_with fail;clear y1 y4 f1 f4 hwr;obtain⟨W5,ig⟩:∃W5,(w3.setCell ⟨cb,1,none⟩ (.int .i64 r1)).setCell ⟨cb,4,none⟩ (.pointer (some ⟨Y.b,0,none⟩))=W5:=⟨_,rfl⟩;rw[ig];have uM:Kept (fun k=>k=cb) w3 W5:=by rw[<-ig];(repeat'(first|(with_reducible first|exact ay|apply aA|apply aB|apply aC|apply aF)|(exact Or.inl rfl)|(right;simp;done)))
 have hb5:Has W5 cb 38 (nY {X with px:=Y} {C with req:=r1,t:=some tk}):=by rw[<-ig];exact Has.bI (Has.bI HB3.out rfl) rfl
 have BQ:cb<w.heap.size:=by have:=sD.out X.cb (.inl rfl);rw[oG.out]at this;exact this
 have zI:∀k,jk Y tk k->w.heap.size<=k:=fun k hk=>by have h9:W0.heap.size<=k:=HF3.out k hk;have:=y7.out;omega
 have BR:fE W5 Y tk:=Az.out.jy uM (fun k hk e=>by have:=zI k hk;omega);have hc3:=H0.out.quiet bf.out;have hc5:dI W5 {X with px:=Y} {C with req:=r1,t:=some tk}:=dI.task (w:=w) hc3 (by rw[oG.out];exact uM) (by rw[oG.out];exact hb5) BR zI (Nat.le_trans y7.out bf.out.size) sD.out;have hS5:∀W,Kept aj W5 W->W.cell? ⟨cb,2,none⟩=some (.int .i64 C.ep)/\W.cell? ⟨cb,3,none⟩=some (.int .i64 C.hd):=fun W hW=>⟨(hb5.kept hW (fun z=>z)).cell 2,(hb5.kept hW (fun z=>z)).cell 3⟩;have hnx:=fun W (hW:Kept aj W5 W)=>vM (BR.quiet hW) Em.out FH.out C.ep C.hd;have hxo:=fun W A c (hs:Src W 3 A (aU tk C.ep C.hd).2.ops.length (cells (aU tk C.ep C.hd).2.ops))=>Dh HAT.out C.ep C.hd (c:=c) hs;unfold Ask.dZ at hnx;obtain⟨p,hp⟩:∃p,aU tk C.ep C.hd=p:=⟨_,rfl⟩;simp only[hp]at hnx hxo;have FI:=ah hp;have qW:=ah hS5;have lD:=ah hnx;have FK:=ah hxo;have BU:=ah hc5;have FM:=ah zI;have GK:=ah BQ;have BV:=ah uM;have fV:=ah hb5;clear hS5 hnx hxo hc5 zI BQ uM hb5 BR hc3 hp ig;go_wp2_with fail;refine(yK W5).mono ?_;rintro e w6 ⟨lb,rfl,hbx,hlb,hk6⟩;have hnl:¬jC lb none 0 0 cb:=fun h=>by
  rcases h with e|e
  ·have h9:cb<W5.heap.size:=fV.out.lt;omega
  ·simp[Value.ownBlock]at e
 have Bl:=ah hbx;have iI:=ah hlb;have cO:=ah hk6;have sO:=ah hnl;obtain⟨y2,y3⟩:=qW.out w6 hk6;clear hbx hlb hk6 hnl;go_wp2_with fail
 go_region_held3 (fun W=>W.cell? ⟨cb,2,none⟩=some (.int .i64 C.ep)/\W.cell? ⟨cb,3,none⟩=some (.int .i64 C.hd)) (first|with_reducible exact s8|with_reducible exact s7|with_reducible exact⟨y2,y3⟩|(refine qW.out _ ?_;(repeat'(first|(with_reducible first|exact ay|apply aA|apply aB|apply aC|apply aF)|(exact cO.out)|(right;simp;done)));done))
  (first
   |(go_at_call 27;refine(lD.out _ (by(repeat'(first|(with_reducible first|exact ay|apply aA|apply aB|apply aC|apply aF)|(exact cO.out)|(right;simp;done))))).mono ?_;rintro e w7 ⟨A7,c7,rfl,hs7,FN,-,DZ⟩;have hkk:=Kept.then (F:=aj) (a:=w6) (by(repeat'(first|(with_reducible first|exact ay|apply aA|apply aB|apply aC|apply aF)|(right;simp;done)))) DZ;have s7:=qW.out w7 (cO.out.then hkk);have FO:=ah (FK.out w7 A7 c7 hs7);have sS:=ah hkk;have En:=ah (Bl.out.quiet hkk);clear hs7 FN DZ hkk)
   |(go_at_call 52;refine(put_any En.out (by decide) _ _ FO.out).mono ?_;rintro e w8 ⟨rfl,A8,c8,hb8,hk8,qw⟩;have y8:=Has.kept (Has.kept fV.out (cO.out.then sS.out) (fun z=>z)) hk8 sO.out;have s8:w8.cell? ⟨cb,2,none⟩=some (.int .i64 C.ep)/\w8.cell? ⟨cb,3,none⟩=some (.int .i64 C.hd):=And.intro (y8.cell 2) (y8.cell 3);have D3:=ah hb8;have zJ:=ah hk8;have FP:=ah qw;clear hb8 hk8 qw y8))
 clear s8 s7 y2 y3;go_wp2_with fail;refine(yX D3.out).mono ?_;rintro e w9 ⟨rfl,rfl⟩;go_wp2;go_ret2;have hs5:=BU.out;have hw5:w.heap.size<=W5.heap.size:=Nat.le_trans y7.out (Nat.le_trans bf.out.size BV.out.size);have hl5:W5.heap.size<=lb:=iI.out;have hnb:∀k,jC lb none 0 0 k->W5.heap.size<=k:=fun k hk=>by
  rcases hk with rfl|hk
  ·exact hl5
  ·simp[Value.ownBlock]at hk
 have e1:bT [] p.1 {p.2 with oA:=A7,oc:=c7}=bT [] (aU tk C.ep C.hd).1 (aU tk C.ep C.hd).2:=by rw[FI.out];rfl
 have hb8:=D3.out;have qw:=FP.out;rw[e1]at hb8 qw⊢;refine⟨{X with px:=Y},A8,c8,rfl,⟨?_,rfl,fun k hk=> ?_,?_⟩,⟨hb8.r,fun k hk=> ?_⟩⟩
 ·exact(BU.out.quiet (cO.out.then sS.out)).jy zJ.out (fun k hk hf=>by have:=BU.out.lt hk;have:=hnb k hf;omega)
 ·rcases hk with rfl|⟨t,e,hf⟩|hf
  ·exact .inl (.inl rfl)
  ·have e':some tk=some t:=e;injection e' with e';subst e';exact .inr (FM.out k hf)
  ·exact .inl (.inr (.inr hf))
 ·have h1:Kept (iF X C) w W5:=(Kept.zF (aN.out.then bf.out)).trans BV.out (fun k hk=> .inl (.inl (hk.trans oG.out.symm)));exact(h1.trans (cO.out.then sS.out) (fun k hk=>hk.elim)).trans zJ.out (fun k hk=> .inr (by have:=hnb k hk;omega))
 ·rcases qw k (.inr hk)with y|y
  ·have:=hnb k y;omega
  ·have h6:=(cO.out.then sS.out).size;omega
end
end Cli
namespace Cli
open aJ Ops dG bQ Vn Go.Proofs.YtgbigpdiacjbgaaGreat.Ask
def dN(w:World)(v:Value):Prop:=∀W,Kept aj w W->Calls Tryz.prog 24 #[v] W fun e w'=>e=.returned (.bool true)/\W=w'
abbrev D4:Array Value:=#[.int .i64 0,.int .i64 0,.int .i64 0,.int .i64 0,.pointer none,.int .i64 0,.int .i64 0,.int .u64 0,.int .i64 0,.slice none 0 0,.bool false,.bool false,.int .i64 0,.bool false]
theorem dN.kept{w w':World}{v:Value}(h:dN w v)(hk:Kept aj w w'):dN w' v:=fun W hW=>h W (hk.then hW)
theorem y9(w:World):dN w (.pointer none):=fun W _=>by go_enter Tryz.func24,Tryz.ntmps24;go_wp2;go_ret;exact⟨rfl,rfl⟩
theorem xg{w:World}{g:Nat}(h:Has w g 38 D4):dN w (.pointer (some ⟨g,0,none⟩)):=fun W hW=>by have q:W.cell? ⟨g,13,none⟩=some (.bool false):=(h.kept hW (fun z=>z)).cell 13;clear h hW;go_enter Tryz.func24,Tryz.ntmps24;go_wp2;go_ret;exact⟨rfl,rfl⟩
section
variable{w:World}{v:Value}
theorem oM(h:dN w v)(cs:Array Value):Calls Tryz.prog 8 #[v,.agg cs] w fun e w'=>e=.returned (.tuple #[.slice none 0 0,.int .i64 8])/\Kept aj w w':=by
 obtain⟨W0,hW0⟩:∃W0,w.alloc (.cells cs 25)=W0:=⟨_,rfl⟩;have hk0:Kept aj w W0:=by rw[<-hW0];(repeat'(first|(with_reducible first|exact ay|apply aA|apply aB|apply aC|apply aF)|(right;simp;done)))
 have hn:=h W0 hk0;have HN:=ah hn;have aN:=ah hk0;clear hn h hk0;go_enter Tryz.func8,Tryz.ntmps8;go_wp2_with fail;clear hW0;refine HN.out.mono ?_;rintro e w2 ⟨rfl,rfl⟩;go_wp2;go_ret2;exact⟨rfl,aN.out⟩
theorem pU(h:dN w v):Calls Tryz.prog 10 #[v] w fun e w'=>e=.returned (.tuple #[.int .i64 0,.int .i64 (-1)])/\Kept aj w w':=by have HN:=ah (h w (Kept.refl _ _));clear h;go_enter Tryz.func10,Tryz.ntmps10;go_wp2_with fail;refine HN.out.mono ?_;rintro e w2 ⟨rfl,rfl⟩;go_wp2;go_ret2;exact⟨rfl,Kept.refl _ _⟩
theorem rE(h:dN w v):Calls Tryz.prog 13 #[v] w fun e w'=>e=.returned (.int .i64 0)/\Kept aj w w':=by have HN:=ah (h w (Kept.refl _ _));clear h;go_enter Tryz.func13,Tryz.ntmps13;go_wp2_with fail;refine HN.out.mono ?_;rintro e w2 ⟨rfl,rfl⟩;go_wp2;go_ret;exact⟨rfl,Kept.refl _ _⟩
theorem pV(h:dN w v):Calls Tryz.prog 14 #[v] w fun e w'=>e=.returned (.bool false)/\Kept aj w w':=by have HN:=ah (h w (Kept.refl _ _));clear h;go_enter Tryz.func14,Tryz.ntmps14;go_wp2_with fail;refine HN.out.mono ?_;rintro e w2 ⟨rfl,rfl⟩;go_wp2;go_ret;exact⟨rfl,Kept.refl _ _⟩
theorem pW(h:dN w v):Calls Tryz.prog 12 #[v] w fun e w'=>e=.returned (.slice none 0 0)/\Kept aj w w':=by have HN:=ah (h w (Kept.refl _ _));clear h;go_enter Tryz.func12,Tryz.ntmps12;go_wp2_with fail;refine HN.out.mono ?_;rintro e w2 ⟨rfl,rfl⟩;go_wp2;go_ret;exact⟨rfl,Kept.refl _ _⟩
theorem lU(h:dN w v)(n:Int)(s:ByteArray):Calls Tryz.prog 11 #[v,.int .i64 n,.string s] w fun e w'=>e=.returned (.slice none 0 0)/\Kept aj w w':=by have HN:=ah (h w (Kept.refl _ _));clear h;go_enter Tryz.func11,Tryz.ntmps11;go_wp2_with fail;refine HN.out.mono ?_;rintro e w2 ⟨rfl,rfl⟩;go_wp2;go_ret;exact⟨rfl,Kept.refl _ _⟩
theorem oN(h:dN w v):Calls Tryz.prog 9 #[v] w fun e w'=>e=.returned (.tuple #[tN nC none 0,.bool false])/\Kept aj w w':=by
 obtain⟨W0,hW0⟩:∃W0,w.alloc (.cells #[.int .i64 0,.int .i64 0,.int .u64 0,.int .i64 0,.slice none 0 0] 36)=W0:=⟨_,rfl⟩;have hk0:Kept aj w W0:=by rw[<-hW0];(repeat'(first|(with_reducible first|exact ay|apply aA|apply aB|apply aC|apply aF)|(right;simp;done)))
 have hn0:Has W0 w.heap.size 36 #[.int .i64 0,.int .i64 0,.int .u64 0,.int .i64 0,.slice none 0 0]:=by rw[<-hW0];exact Has.new _ _ _
 obtain⟨rb,hrb⟩:∃rb,w.heap.size=rb:=⟨_,rfl⟩;rw[hrb]at hn0;have hrs:w.heap.size<=rb:=by omega
 have HN:=ah (h W0 hk0);have aN:=ah hk0;have dF:=ah hn0;have FQ:=ah hrs;clear h hk0 hn0 hrs;go_enter Tryz.func9,Tryz.ntmps9;go_wp2_with fail;clear hW0;refine HN.out.mono ?_;rintro e w2 ⟨rfl,rfl⟩;have f0:=dF.out.frozen 0;have f1:=dF.out.frozen 1;have f2:=dF.out.frozen 2;have f3:=dF.out.frozen 3;have f4:=dF.out.frozen 4;have y0:=dF.out.cell 0;have y1:=dF.out.cell 1;have y2:=dF.out.cell 2;have y3:=dF.out.cell 3;have y4:=dF.out.cell 4;simp at y0 y1 y2 y3 y4;go_wp2;refine bodyPost_ret (nT rfl _ _ rb _ rfl (xW (r:=nC) (A:=none) (c:=0) (by((repeat (first|with_reducible exact dF.out|with_reducible apply Has.bI|with_reducible apply Has.past|with_reducible apply Has.drewN|with_reducible apply Has.drew|with_reducible apply Has.alloc))<;>first|omega|rfl)))) rfl ?_;exact⟨rfl,by(repeat'(first|(with_reducible first|exact ay|apply aA|apply aB|apply aC|apply aF)|(first|exact aN.out|exact .inr FQ.out)|(right;simp;done)))⟩
