/- Part 14. -/
import Derived.Test.YtomccaocggplgaaGreatMP12
set_option linter.unusedSimpArgs false
set_option linter.unusedVariables false
set_option maxHeartbeats 32000000
set_option maxRecDepth 100000
namespace Go.Proofs.YtomccaocggplgaaGreat
open Go.RowKit
namespace Mst
open aJ Vn Go.Sort
theorem fH.turned{w w':World}{b:Nat}{F:Nat->Prop}{s s':bQ}{mA lA pA:Option Addr}{mc lc pc:Nat}(hF:∀k,F k↔(k=b\/RowOf (.slice mA s.ms.length mc) k\/RowOf (.slice lA s.lg.length lc) k\/RowOf (.slice pA s.pins.length pc) k))
  (hb:Has w b 121 (dL s mA mc lA lc pA pc true)) (hm:w.ownsRow 0 56 2 (.slice mA s.ms.length mc) s.ms.length (aU s.ms)) (hl:w.ownsRow 0 3 1 (.slice lA s.lg.length lc) s.lg.length (ints s.lg)) (hp:w.ownsRow 0 53 3 (.slice pA s.pins.length pc) s.pins.length (aS s.pins))
  (hb':Has w' b 121 (dL s' mA mc lA lc pA pc true)) (e1:s'.ms=s.ms) (e2:s'.lg=s.lg) (e3:s'.pins=s.pins) (hk:Kept (fun k=>k=b) w w'):fH w' b F s':=by
 have h1:=own_ne hm hb (by decide);have h2:=own_ne hl hb (by decide);have h3:=own_ne hp hb (by decide);refine⟨mA,mc,lA,lc,pA,pc,by rw[e1,e2,e3];exact hF,hb',?_,?_,?_⟩
 ·rw[e1];exact aC hm hk (fun g hg e=>h1 (by rw[hg,e]))
 ·rw[e2];exact aC hl hk (fun g hg e=>h2 (by rw[hg,e]))
 ·rw[e3];exact aC hp hk (fun g hg e=>h3 (by rw[hg,e]))
theorem U3(w:World)(b:Nat)(F:Nat->Prop)(s:bQ)(x:aG)(hs:fH w b F s)(hok:pY s)(h:iR w x)(h0:aT x=0)(hk:x.k=4):
  Calls Tryz.prog 33 #[.pointer (some ⟨b,0,none⟩),fU x] w (bY w b F s x):=by
 have h00:aT x=0:=h0;obtain⟨mA,mc,lA,lc,pA,pc,hF,hb,hm,hl,hp⟩:=hs;have hck:=fun W (hW:Kept aj w W)=>fB W x (h.kept hW);have hnone:=fun W (hW:Kept aj w W)=>dZ W b s mA mc lA lc pA pc true (hb.kept hW (fun z=>z));rw[h00]at hck;obtain⟨W0,hW0⟩:∃W0,w.alloc (.cells (aK x).toArray 78)=W0:=⟨_,rfl⟩;have hk0:Kept aj w W0:=by rw[<-hW0];(repeat'(first|(with_reducible first|exact ak|apply au|apply ay|apply aA|apply aB)|(right;simp;done)))
 have hn0:Has W0 w.heap.size 78 (aK x).toArray:=by rw[<-hW0];exact Has.new _ _ _
 have hE:bn s x=if x.at'<s.hz then 18 else 0:=by unfold bn;rw[if_neg (by simpa using h00),if_neg (by omega),if_neg (by omega),if_pos hk]
 have hfin:(x.at'<s.hz->∀w',Kept aj w w'->bY w b F s x (.returned (.int .i64 18)) w')/\(¬x.at'<s.hz->∀w',Has w' b 121 (dL {s with hz:=x.at'} mA mc lA lc pA pc true)->Kept (fun k=>k=b) w w'->bY w b F s x (.returned (.int .i64 0)) w'):=by
  refine⟨fun h1 w' hk'=> ?_,fun h1 w' hb' hk'=> ?_⟩
  ·have hst:=(show fH w b F s from⟨mA,mc,lA,lc,pA,pc,hF,hb,hm,hl,hp⟩);rw[if_pos h1]at hE;have:=bY.bad hst (by rw[hE];decide) hk';rw[hE]at this;exact this
  ·rw[if_neg h1]at hE;have hS:aP s x={s with hz:=x.at'}:=by unfold aP;rw[if_neg (by rw[hE];decide),if_neg (by omega),if_neg (by omega),if_pos hk]
   refine⟨F,by rw[hE],?_,jG.refl _ _,hk'.mono (fun k e=>(hF k).2 (.inl e))⟩;rw[hS];exact fH.turned hF hb hm hl hp hb' rfl rfl rfl hk'
 have bU:=ah hfin;clear hfin hE h0 h00 h hm hl hp hF;obtain⟨k,n,at2,ep,xw,xx,ms,fl,lA2,xA,lg,oA,oc,⟨ji,gK,ops⟩,ts,⟨p1,p2,p3⟩,⟨s1,s2,s3,s4⟩⟩:=x;simp only[aK]at hn0 hck;dsimp only at hk;subst hk;have mY:=ah hck;have jK:=ah hnone;have bf:=ah hk0;have dW:=ah hn0;have HB:=ah hb;clear hck hnone hk0 hn0 hb;go_enter Tryz.func33,Tryz.ntmps33;go_wp2_with fail;clear hW0;refine(jK.out _ bf.out).mono ?_;rintro e w2 ⟨rfl,hk⟩;have dV:=ah (dW.out.kept hk (fun z=>z));have HK:=ah (bf.out.then hk);clear hk;go_wp2_with (refine wpList_load_row rfl 78 (.tmp 3) rfl w.heap.size rfl 78 _ (0,0) _ dV.out Tryz.underlying78 rfl (by kernel_rfl) ?_);refine(mY.out _ HK.out).mono ?_;rintro e w3 ⟨rfl,hk⟩;have hn3:=dV.out.kept hk (fun z=>z);have q0:w3.cell? ⟨w.heap.size,0,none⟩=some (.int .i64 4):=hn3.cell 0;have q2:w3.cell? ⟨w.heap.size,2,none⟩=some (.int .u64 at2):=hn3.cell 2;have mG:=ah hn3;have bu:=ah (HK.out.then hk);clear hk HK hn3;have hb3:=HB.out.kept bu.out (fun z=>z);have z4:w3.cell? ⟨b,4,none⟩=some (.int .u64 s.hz):=hb3.cell 4;have HB3:=ah hb3;clear hb3;by_cases hh:at2<s.hz
 ·go_wp2_with fail;go_quiet (fail);go_wp2;go_ret;exact bU.out.1 hh _ (bu.out.drewN _)
 ·go_wp2_with fail;go_quiet (fail);have y4:∀n,(w3.drewN n).cell? ⟨b,4,none⟩=some (.int .u64 s.hz):=fun n=>z4;have y2:∀n,(w3.drewN n).cell? ⟨w.heap.size,2,none⟩=some (.int .u64 at2):=fun n=>q2;have f4:∀n,(w3.drewN n).frozen? ⟨b,4,none⟩=false:=fun n=>HB3.out.frozen 4;go_wp2;go_ret;refine bU.out.2 hh _ ?_ ?_
  ·((repeat (first|with_reducible exact HB3.out|with_reducible apply Has.dH|with_reducible apply Has.past|with_reducible apply Has.drewN|with_reducible apply Has.drew|with_reducible apply Has.alloc))<;>first|omega|rfl)
  ·exact((Kept.up bu.out).drewN _).put (.inl rfl)
theorem RV(w:World)(b:Nat)(F:Nat->Prop)(s:bQ)(x:aG)(hs:fH w b F s)(hok:pY s)(h:iR w x)(h0:aT x=0)(hk:x.k=8)(hc:x.said.cl=0):
  Calls Tryz.prog 33 #[.pointer (some ⟨b,0,none⟩),fU x] w (bY w b F s x):=by
 have h00:aT x=0:=h0;obtain⟨mA,mc,lA,lc,pA,pc,hF,hb,hm,hl,hp⟩:=hs;have hck:=fun W (hW:Kept aj w W)=>fB W x (h.kept hW);have hnone:=fun W (hW:Kept aj w W)=>dZ W b s mA mc lA lc pA pc true (hb.kept hW (fun z=>z));rw[h00]at hck;obtain⟨W0,hW0⟩:∃W0,w.alloc (.cells (aK x).toArray 78)=W0:=⟨_,rfl⟩;have hk0:Kept aj w W0:=by rw[<-hW0];(repeat'(first|(with_reducible first|exact ak|apply au|apply ay|apply aA|apply aB)|(right;simp;done)))
 have hn0:Has W0 w.heap.size 78 (aK x).toArray:=by rw[<-hW0];exact Has.new _ _ _
 have hE:bn s x=if x.said.req<s.t0.req then 18 else 0:=by unfold bn;rw[if_neg (by simpa using h00),if_neg (by omega),if_neg (by omega),if_neg (by omega),if_neg (by omega),if_neg (by omega),if_pos hk,toldOf,hc];rfl
 have hfin:∀w3 w',Kept aj w w3->rW w3 b s.t0.req x.said.req (dL {s with t0:=⟨0,x.said.req,x.said.e,x.said.pin⟩} mA mc lA lc pA pc true) (.returned (.int .i64 (if x.said.req<s.t0.req then 18 else 0))) w'->bY w b F s x (.returned (.int .i64 (if x.said.req<s.t0.req then 18 else 0))) w':=by
  intro w3 w' hk3 hpost;have hst:=(show fH w b F s from⟨mA,mc,lA,lc,pA,pc,hF,hb,hm,hl,hp⟩);rcases hpost with⟨h1,_,h2⟩|⟨h1,_,h2,h3⟩
  ·rw[<-hE];exact bY.bad hst (by rw[hE,if_pos h1];decide) (hk3.then h2)
  ·have hS:aP s x={s with t0:=⟨0,x.said.req,x.said.e,x.said.pin⟩}:=by unfold aP;rw[if_neg (by rw[hE,if_neg h1];decide),if_neg (by omega),if_neg (by omega),if_neg (by omega),if_neg (by omega),if_neg (by omega),jA,hc];rw[show x.said=⟨0,x.said.req,x.said.e,x.said.pin⟩ by rw[<-hc]];rfl
   have iM:=(Kept.up (F:=fun k=>k=b) hk3).then h3;refine⟨F,by rw[hE],?_,jG.refl _ _,iM.mono (fun k e=>(hF k).2 (.inl e))⟩;rw[hS];exact fH.turned hF hb hm hl hp h2 rfl rfl rfl iM
 have hcall:=fun W (hW:Kept aj w W)=>(aba W b s mA mc lA lc pA pc x.said.req x.said.e x.said.pin (hb.kept hW (fun z=>z))).mono (fun e w' hp=>(show e=.returned (.int .i64 (if x.said.req<s.t0.req then 18 else 0))/\rW W b s.t0.req x.said.req (dL {s with t0:=⟨0,x.said.req,x.said.e,x.said.pin⟩} mA mc lA lc pA pc true) (.returned (.int .i64 (if x.said.req<s.t0.req then 18 else 0))) w' by
  rcases hp with⟨h1,h2,h3⟩|⟨h1,h2,h3⟩
  ·rw[if_pos h1];exact⟨h2,.inl ⟨h1,rfl,h3⟩⟩
  ·rw[if_neg h1];exact⟨h2,.inr ⟨h1,rfl,h3⟩⟩))
 obtain⟨Z,hZ⟩:∃Z:Int,(if x.said.req<s.t0.req then 18 else 0)=Z:=⟨_,rfl⟩;rw[hZ]at hfin hcall;clear hZ;have bU:=ah hfin;clear hfin hE h0 h00 h hm hl hp hF;obtain⟨k,n,at2,ep,xw,xx,ms,fl,lA2,xA,lg,oA,oc,⟨ji,gK,ops⟩,ts,⟨p1,p2,p3⟩,⟨s1,s2,s3,s4⟩⟩:=x;simp only[aK]at hn0 hck hcall;dsimp only at hk;subst hk;have mY:=ah hck;have jK:=ah hnone;have bf:=ah hk0;have dW:=ah hn0;have HB:=ah hb;have gQ:=ah hcall;dsimp only at hc;subst hc;clear hck hnone hk0 hn0 hb hcall;go_enter Tryz.func33,Tryz.ntmps33;go_wp2_with fail;clear hW0;refine(jK.out _ bf.out).mono ?_;rintro e w2 ⟨rfl,hk⟩;have dV:=ah (dW.out.kept hk (fun z=>z));have HK:=ah (bf.out.then hk);clear hk;go_wp2_with (refine wpList_load_row rfl 78 (.tmp 3) rfl w.heap.size rfl 78 _ (0,0) _ dV.out Tryz.underlying78 rfl (by kernel_rfl) ?_);refine(mY.out _ HK.out).mono ?_;rintro e w3 ⟨rfl,hk⟩;have hn3:=dV.out.kept hk (fun z=>z);have q0:w3.cell? ⟨w.heap.size,0,none⟩=some (.int .i64 8):=hn3.cell 0;have q14:w3.cell? ⟨w.heap.size,14,none⟩=some (.int .i64 0):=hn3.cell 14;have q15:w3.cell? ⟨w.heap.size,15,none⟩=some (.int .i64 s2):=hn3.cell 15;have q16:w3.cell? ⟨w.heap.size,16,none⟩=some (.int .i64 s3):=hn3.cell 16;have q17:w3.cell? ⟨w.heap.size,17,none⟩=some (.int .i64 s4):=hn3.cell 17;have mG:=ah hn3;have bu:=ah (HK.out.then hk);clear hk HK hn3;go_wp2_with fail;refine(gQ.out _ bu.out).mono ?_;rintro e w4 ⟨rfl,hpost⟩;have zV:=ah hpost;clear hpost;go_wp2;go_ret;exact bU.out _ _ bu.out zV.out
theorem RX(w:World)(b:Nat)(F:Nat->Prop)(s:bQ)(x:aG)(hs:fH w b F s)(hok:pY s)(h:iR w x)(h0:aT x=0)(hk:x.k=8)(hc:x.said.cl=1):
  Calls Tryz.prog 33 #[.pointer (some ⟨b,0,none⟩),fU x] w (bY w b F s x):=by
 have h00:aT x=0:=h0;obtain⟨mA,mc,lA,lc,pA,pc,hF,hb,hm,hl,hp⟩:=hs;have hck:=fun W (hW:Kept aj w W)=>fB W x (h.kept hW);have hnone:=fun W (hW:Kept aj w W)=>dZ W b s mA mc lA lc pA pc true (hb.kept hW (fun z=>z));rw[h00]at hck;obtain⟨W0,hW0⟩:∃W0,w.alloc (.cells (aK x).toArray 78)=W0:=⟨_,rfl⟩;have hk0:Kept aj w W0:=by rw[<-hW0];(repeat'(first|(with_reducible first|exact ak|apply au|apply ay|apply aA|apply aB)|(right;simp;done)))
 have hn0:Has W0 w.heap.size 78 (aK x).toArray:=by rw[<-hW0];exact Has.new _ _ _
 have hE:bn s x=if x.said.req<s.t1.req then 18 else 0:=by unfold bn;rw[if_neg (by simpa using h00),if_neg (by omega),if_neg (by omega),if_neg (by omega),if_neg (by omega),if_neg (by omega),if_pos hk,toldOf,hc];rfl
 have hfin:∀w3 w',Kept aj w w3->rW w3 b s.t1.req x.said.req (dL {s with t1:=⟨1,x.said.req,x.said.e,x.said.pin⟩} mA mc lA lc pA pc true) (.returned (.int .i64 (if x.said.req<s.t1.req then 18 else 0))) w'->bY w b F s x (.returned (.int .i64 (if x.said.req<s.t1.req then 18 else 0))) w':=by
  intro w3 w' hk3 hpost;have hst:=(show fH w b F s from⟨mA,mc,lA,lc,pA,pc,hF,hb,hm,hl,hp⟩);rcases hpost with⟨h1,_,h2⟩|⟨h1,_,h2,h3⟩
  ·rw[<-hE];exact bY.bad hst (by rw[hE,if_pos h1];decide) (hk3.then h2)
  ·have hS:aP s x={s with t1:=⟨1,x.said.req,x.said.e,x.said.pin⟩}:=by unfold aP;rw[if_neg (by rw[hE,if_neg h1];decide),if_neg (by omega),if_neg (by omega),if_neg (by omega),if_neg (by omega),if_neg (by omega),jA,hc];rw[show x.said=⟨1,x.said.req,x.said.e,x.said.pin⟩ by rw[<-hc]];rfl
   have iM:=(Kept.up (F:=fun k=>k=b) hk3).then h3;refine⟨F,by rw[hE],?_,jG.refl _ _,iM.mono (fun k e=>(hF k).2 (.inl e))⟩;rw[hS];exact fH.turned hF hb hm hl hp h2 rfl rfl rfl iM
 have hcall:=fun W (hW:Kept aj w W)=>(abb W b s mA mc lA lc pA pc x.said.req x.said.e x.said.pin (hb.kept hW (fun z=>z))).mono (fun e w' hp=>(show e=.returned (.int .i64 (if x.said.req<s.t1.req then 18 else 0))/\rW W b s.t1.req x.said.req (dL {s with t1:=⟨1,x.said.req,x.said.e,x.said.pin⟩} mA mc lA lc pA pc true) (.returned (.int .i64 (if x.said.req<s.t1.req then 18 else 0))) w' by
  rcases hp with⟨h1,h2,h3⟩|⟨h1,h2,h3⟩
  ·rw[if_pos h1];exact⟨h2,.inl ⟨h1,rfl,h3⟩⟩
  ·rw[if_neg h1];exact⟨h2,.inr ⟨h1,rfl,h3⟩⟩))
 obtain⟨Z,hZ⟩:∃Z:Int,(if x.said.req<s.t1.req then 18 else 0)=Z:=⟨_,rfl⟩;rw[hZ]at hfin hcall;clear hZ;have bU:=ah hfin;clear hfin hE h0 h00 h hm hl hp hF;obtain⟨k,n,at2,ep,xw,xx,ms,fl,lA2,xA,lg,oA,oc,⟨ji,gK,ops⟩,ts,⟨p1,p2,p3⟩,⟨s1,s2,s3,s4⟩⟩:=x;simp only[aK]at hn0 hck hcall;dsimp only at hk;subst hk;have mY:=ah hck;have jK:=ah hnone;have bf:=ah hk0;have dW:=ah hn0;have HB:=ah hb;have gQ:=ah hcall;dsimp only at hc;subst hc;clear hck hnone hk0 hn0 hb hcall;go_enter Tryz.func33,Tryz.ntmps33;go_wp2_with fail;clear hW0;refine(jK.out _ bf.out).mono ?_;rintro e w2 ⟨rfl,hk⟩;have dV:=ah (dW.out.kept hk (fun z=>z));have HK:=ah (bf.out.then hk);clear hk;go_wp2_with (refine wpList_load_row rfl 78 (.tmp 3) rfl w.heap.size rfl 78 _ (0,0) _ dV.out Tryz.underlying78 rfl (by kernel_rfl) ?_);refine(mY.out _ HK.out).mono ?_;rintro e w3 ⟨rfl,hk⟩;have hn3:=dV.out.kept hk (fun z=>z);have q0:w3.cell? ⟨w.heap.size,0,none⟩=some (.int .i64 8):=hn3.cell 0;have q14:w3.cell? ⟨w.heap.size,14,none⟩=some (.int .i64 1):=hn3.cell 14;have q15:w3.cell? ⟨w.heap.size,15,none⟩=some (.int .i64 s2):=hn3.cell 15;have q16:w3.cell? ⟨w.heap.size,16,none⟩=some (.int .i64 s3):=hn3.cell 16;have q17:w3.cell? ⟨w.heap.size,17,none⟩=some (.int .i64 s4):=hn3.cell 17;have mG:=ah hn3;have bu:=ah (HK.out.then hk);clear hk HK hn3;go_wp2_with fail;refine(gQ.out _ bu.out).mono ?_;rintro e w4 ⟨rfl,hpost⟩;have zV:=ah hpost;clear hpost;go_wp2;go_ret;exact bU.out _ _ bu.out zV.out
theorem RY(w:World)(b:Nat)(F:Nat->Prop)(s:bQ)(x:aG)(hs:fH w b F s)(hok:pY s)(h:iR w x)(h0:aT x=0)(hk:x.k=8)(hc:x.said.cl=2):
  Calls Tryz.prog 33 #[.pointer (some ⟨b,0,none⟩),fU x] w (bY w b F s x):=by
 have h00:aT x=0:=h0;obtain⟨mA,mc,lA,lc,pA,pc,hF,hb,hm,hl,hp⟩:=hs;have hck:=fun W (hW:Kept aj w W)=>fB W x (h.kept hW);have hnone:=fun W (hW:Kept aj w W)=>dZ W b s mA mc lA lc pA pc true (hb.kept hW (fun z=>z));rw[h00]at hck;obtain⟨W0,hW0⟩:∃W0,w.alloc (.cells (aK x).toArray 78)=W0:=⟨_,rfl⟩;have hk0:Kept aj w W0:=by rw[<-hW0];(repeat'(first|(with_reducible first|exact ak|apply au|apply ay|apply aA|apply aB)|(right;simp;done)))
 have hn0:Has W0 w.heap.size 78 (aK x).toArray:=by rw[<-hW0];exact Has.new _ _ _
 have hE:bn s x=if x.said.req<s.t2.req then 18 else 0:=by unfold bn;rw[if_neg (by simpa using h00),if_neg (by omega),if_neg (by omega),if_neg (by omega),if_neg (by omega),if_neg (by omega),if_pos hk,toldOf,hc];rfl
 have hfin:∀w3 w',Kept aj w w3->rW w3 b s.t2.req x.said.req (dL {s with t2:=⟨2,x.said.req,x.said.e,x.said.pin⟩} mA mc lA lc pA pc true) (.returned (.int .i64 (if x.said.req<s.t2.req then 18 else 0))) w'->bY w b F s x (.returned (.int .i64 (if x.said.req<s.t2.req then 18 else 0))) w':=by
  intro w3 w' hk3 hpost;have hst:=(show fH w b F s from⟨mA,mc,lA,lc,pA,pc,hF,hb,hm,hl,hp⟩);rcases hpost with⟨h1,_,h2⟩|⟨h1,_,h2,h3⟩
  ·rw[<-hE];exact bY.bad hst (by rw[hE,if_pos h1];decide) (hk3.then h2)
  ·have hS:aP s x={s with t2:=⟨2,x.said.req,x.said.e,x.said.pin⟩}:=by unfold aP;rw[if_neg (by rw[hE,if_neg h1];decide),if_neg (by omega),if_neg (by omega),if_neg (by omega),if_neg (by omega),if_neg (by omega),jA,hc];rw[show x.said=⟨2,x.said.req,x.said.e,x.said.pin⟩ by rw[<-hc]];rfl
   have iM:=(Kept.up (F:=fun k=>k=b) hk3).then h3;refine⟨F,by rw[hE],?_,jG.refl _ _,iM.mono (fun k e=>(hF k).2 (.inl e))⟩;rw[hS];exact fH.turned hF hb hm hl hp h2 rfl rfl rfl iM
 have hcall:=fun W (hW:Kept aj w W)=>(abd W b s mA mc lA lc pA pc x.said.req x.said.e x.said.pin (hb.kept hW (fun z=>z))).mono (fun e w' hp=>(show e=.returned (.int .i64 (if x.said.req<s.t2.req then 18 else 0))/\rW W b s.t2.req x.said.req (dL {s with t2:=⟨2,x.said.req,x.said.e,x.said.pin⟩} mA mc lA lc pA pc true) (.returned (.int .i64 (if x.said.req<s.t2.req then 18 else 0))) w' by
  rcases hp with⟨h1,h2,h3⟩|⟨h1,h2,h3⟩
  ·rw[if_pos h1];exact⟨h2,.inl ⟨h1,rfl,h3⟩⟩
  ·rw[if_neg h1];exact⟨h2,.inr ⟨h1,rfl,h3⟩⟩))
 obtain⟨Z,hZ⟩:∃Z:Int,(if x.said.req<s.t2.req then 18 else 0)=Z:=⟨_,rfl⟩;rw[hZ]at hfin hcall;clear hZ;have bU:=ah hfin;clear hfin hE h0 h00 h hm hl hp hF;obtain⟨k,n,at2,ep,xw,xx,ms,fl,lA2,xA,lg,oA,oc,⟨ji,gK,ops⟩,ts,⟨p1,p2,p3⟩,⟨s1,s2,s3,s4⟩⟩:=x;simp only[aK]at hn0 hck hcall;dsimp only at hk;subst hk;have mY:=ah hck;have jK:=ah hnone;have bf:=ah hk0;have dW:=ah hn0;have HB:=ah hb;have gQ:=ah hcall;dsimp only at hc;subst hc;clear hck hnone hk0 hn0 hb hcall;go_enter Tryz.func33,Tryz.ntmps33;go_wp2_with fail;clear hW0;refine(jK.out _ bf.out).mono ?_;rintro e w2 ⟨rfl,hk⟩;have dV:=ah (dW.out.kept hk (fun z=>z));have HK:=ah (bf.out.then hk);clear hk;go_wp2_with (refine wpList_load_row rfl 78 (.tmp 3) rfl w.heap.size rfl 78 _ (0,0) _ dV.out Tryz.underlying78 rfl (by kernel_rfl) ?_);refine(mY.out _ HK.out).mono ?_;rintro e w3 ⟨rfl,hk⟩;have hn3:=dV.out.kept hk (fun z=>z);have q0:w3.cell? ⟨w.heap.size,0,none⟩=some (.int .i64 8):=hn3.cell 0;have q14:w3.cell? ⟨w.heap.size,14,none⟩=some (.int .i64 2):=hn3.cell 14;have q15:w3.cell? ⟨w.heap.size,15,none⟩=some (.int .i64 s2):=hn3.cell 15;have q16:w3.cell? ⟨w.heap.size,16,none⟩=some (.int .i64 s3):=hn3.cell 16;have q17:w3.cell? ⟨w.heap.size,17,none⟩=some (.int .i64 s4):=hn3.cell 17;have mG:=ah hn3;have bu:=ah (HK.out.then hk);clear hk HK hn3;go_wp2_with fail;refine(gQ.out _ bu.out).mono ?_;rintro e w4 ⟨rfl,hpost⟩;have zV:=ah hpost;clear hpost;go_wp2;go_ret;exact bU.out _ _ bu.out zV.out
theorem U4(w:World)(b:Nat)(F:Nat->Prop)(s:bQ)(x:aG)(hs:fH w b F s)(hok:pY s)(h:iR w x)(h0:aT x=0)(hk:x.k=2):
  Calls Tryz.prog 33 #[.pointer (some ⟨b,0,none⟩),fU x] w (bY w b F s x):=by
 have h00:aT x=0:=h0;obtain⟨mA,mc,lA,lc,pA,pc,hF,hb,hm,hl,hp⟩:=hs;have hck:=fun W (hW:Kept aj w W)=>fB W x (h.kept hW);have hnone:=fun W (hW:Kept aj w W)=>dZ W b s mA mc lA lc pA pc true (hb.kept hW (fun z=>z));rw[h00]at hck;obtain⟨W0,hW0⟩:∃W0,w.alloc (.cells (aK x).toArray 78)=W0:=⟨_,rfl⟩;have hk0:Kept aj w W0:=by rw[<-hW0];(repeat'(first|(with_reducible first|exact ak|apply au|apply ay|apply aA|apply aB)|(right;simp;done)))
 have hn0:Has W0 w.heap.size 78 (aK x).toArray:=by rw[<-hW0];exact Has.new _ _ _
 have hE:bn s x=11:=by unfold bn;rw[if_neg (by simpa using h00),if_neg (by omega),if_neg (by omega),if_neg (by omega),if_neg (by omega),if_neg (by omega),if_neg (by omega)]
 have hfin:∀w',Kept aj w w'->bY w b F s x (.returned (.int .i64 11)) w':=by intro w' hk';have hst:=(show fH w b F s from⟨mA,mc,lA,lc,pA,pc,hF,hb,hm,hl,hp⟩);have:=bY.bad hst (by rw[hE];decide) hk';rw[hE]at this;exact this
 have bU:=ah hfin;clear hfin hE h0 h00 h hm hl hp hF;obtain⟨k,n,at2,ep,xw,xx,ms,fl,lA2,xA,lg,oA,oc,⟨ji,gK,ops⟩,ts,⟨p1,p2,p3⟩,⟨s1,s2,s3,s4⟩⟩:=x;simp only[aK]at hn0 hck;dsimp only at hk;subst hk;have mY:=ah hck;have jK:=ah hnone;have bf:=ah hk0;have dW:=ah hn0;have HB:=ah hb;clear hck hnone hk0 hn0 hb;go_enter Tryz.func33,Tryz.ntmps33;go_wp2_with fail;clear hW0;refine(jK.out _ bf.out).mono ?_;rintro e w2 ⟨rfl,hk⟩;have dV:=ah (dW.out.kept hk (fun z=>z));have HK:=ah (bf.out.then hk);clear hk;go_wp2_with (refine wpList_load_row rfl 78 (.tmp 3) rfl w.heap.size rfl 78 _ (0,0) _ dV.out Tryz.underlying78 rfl (by kernel_rfl) ?_);refine(mY.out _ HK.out).mono ?_;rintro e w3 ⟨rfl,hk⟩;have hn3:=dV.out.kept hk (fun z=>z);have q0:w3.cell? ⟨w.heap.size,0,none⟩=some (.int .i64 2):=hn3.cell 0;have mG:=ah hn3;have bu:=ah (HK.out.then hk);clear hk HK hn3;go_wp2;go_ret;exact bU.out _ bu.out
theorem U5(w:World)(b:Nat)(F:Nat->Prop)(s:bQ)(x:aG)(hs:fH w b F s)(hok:pY s)(h:iR w x)(h0:aT x=0)(hk:x.k=3):
  Calls Tryz.prog 33 #[.pointer (some ⟨b,0,none⟩),fU x] w (bY w b F s x):=by
 have h00:aT x=0:=h0;obtain⟨mA,mc,lA,lc,pA,pc,hF,hb,hm,hl,hp⟩:=hs;have hck:=fun W (hW:Kept aj w W)=>fB W x (h.kept hW);have hnone:=fun W (hW:Kept aj w W)=>dZ W b s mA mc lA lc pA pc true (hb.kept hW (fun z=>z));rw[h00]at hck;obtain⟨W0,hW0⟩:∃W0,w.alloc (.cells (aK x).toArray 78)=W0:=⟨_,rfl⟩;have hk0:Kept aj w W0:=by rw[<-hW0];(repeat'(first|(with_reducible first|exact ak|apply au|apply ay|apply aA|apply aB)|(right;simp;done)))
 have hn0:Has W0 w.heap.size 78 (aK x).toArray:=by rw[<-hW0];exact Has.new _ _ _
 have hE:bn s x=11:=by unfold bn;rw[if_neg (by simpa using h00),if_neg (by omega),if_neg (by omega),if_neg (by omega),if_neg (by omega),if_neg (by omega),if_neg (by omega)]
 have hfin:∀w',Kept aj w w'->bY w b F s x (.returned (.int .i64 11)) w':=by intro w' hk';have hst:=(show fH w b F s from⟨mA,mc,lA,lc,pA,pc,hF,hb,hm,hl,hp⟩);have:=bY.bad hst (by rw[hE];decide) hk';rw[hE]at this;exact this
 have bU:=ah hfin;clear hfin hE h0 h00 h hm hl hp hF;obtain⟨k,n,at2,ep,xw,xx,ms,fl,lA2,xA,lg,oA,oc,⟨ji,gK,ops⟩,ts,⟨p1,p2,p3⟩,⟨s1,s2,s3,s4⟩⟩:=x;simp only[aK]at hn0 hck;dsimp only at hk;subst hk;have mY:=ah hck;have jK:=ah hnone;have bf:=ah hk0;have dW:=ah hn0;have HB:=ah hb;clear hck hnone hk0 hn0 hb;go_enter Tryz.func33,Tryz.ntmps33;go_wp2_with fail;clear hW0;refine(jK.out _ bf.out).mono ?_;rintro e w2 ⟨rfl,hk⟩;have dV:=ah (dW.out.kept hk (fun z=>z));have HK:=ah (bf.out.then hk);clear hk;go_wp2_with (refine wpList_load_row rfl 78 (.tmp 3) rfl w.heap.size rfl 78 _ (0,0) _ dV.out Tryz.underlying78 rfl (by kernel_rfl) ?_);refine(mY.out _ HK.out).mono ?_;rintro e w3 ⟨rfl,hk⟩;have hn3:=dV.out.kept hk (fun z=>z);have q0:w3.cell? ⟨w.heap.size,0,none⟩=some (.int .i64 3):=hn3.cell 0;have mG:=ah hn3;have bu:=ah (HK.out.then hk);clear hk HK hn3;go_wp2;go_ret;exact bU.out _ bu.out
end Mst
namespace Mst
open aJ Vn Go.Sort
theorem RZ(w:World)(b:Nat)(F:Nat->Prop)(s:bQ)(x:aG)(hs:fH w b F s)(hok:pY s)(h:iR w x)(h0:aT x=0)(hk:x.k=7)(hc:bV s.pins x.n<0):
  Calls Tryz.prog 33 #[.pointer (some ⟨b,0,none⟩),fU x] w (bY w b F s x):=by
 have h00:aT x=0:=h0;obtain⟨mA,mc,lA,lc,pA,pc,hF,hb,hm,hl,hp⟩:=hs;have hck:=fun W (hW:Kept aj w W)=>fB W x (h.kept hW);have hnone:=fun W (hW:Kept aj w W)=>dZ W b s mA mc lA lc pA pc true (hb.kept hW (fun z=>z));rw[h00]at hck;obtain⟨W0,hW0⟩:∃W0,w.alloc (.cells (aK x).toArray 78)=W0:=⟨_,rfl⟩;have hk0:Kept aj w W0:=by rw[<-hW0];(repeat'(first|(with_reducible first|exact ak|apply au|apply ay|apply aA|apply aB)|(right;simp;done)))
 have hn0:Has W0 w.heap.size 78 (aK x).toArray:=by rw[<-hW0];exact Has.new _ _ _
 have hE:bn s x=0:=by unfold bn;rw[if_neg (by simpa using h00),if_neg (by omega),if_neg (by omega),if_neg (by omega),if_neg (by omega),if_pos hk]
 have hS0:aP s x={s with pins:=freed s.pins x.n,top:=max s.top x.n}:=by unfold aP;rw[if_neg (by rw[hE];decide),if_neg (by omega),if_neg (by omega),if_neg (by omega),if_neg (by omega),if_pos hk]
 have hfin:∀w',Has w' b 121 (dL {s with top:=max s.top x.n} mA mc lA lc pA pc true)->Kept (fun k=>k=b) w w'->bY w b F s x (.returned (.int .i64 0)) w':=by
  intro w' hb' hk';have hS:aP s x={s with top:=max s.top x.n}:=by rw[hS0,freed,if_pos hc]
  refine⟨F,by rw[hE],?_,jG.refl _ _,hk'.mono (fun k e=>(hF k).2 (.inl e))⟩;rw[hS];exact fH.turned hF hb hm hl hp hb' rfl rfl rfl hk'
 have hcall:=fun W (hW:Kept aj w W)=>(Ht W pA pc s.pins x.n (Src.bF (aC hp hW (fun _ _ z=>z))) (by have:=hok.p;omega)).mono (fun e w' hp=>(show e=.returned (.tuple #[.slice none 0 0,.int .i64 7])/\Kept aj W w' by
  rcases hp with⟨h1,h2,h3⟩|⟨h1,h2⟩
  ·exact⟨h2,h3⟩
  ·omega))
 have bU:=ah hfin;clear hfin hE h0 h00 h hm hl hp hF;obtain⟨k,n,at2,ep,xw,xx,ms,fl,lA2,xA,lg,oA,oc,⟨ji,gK,ops⟩,ts,⟨p1,p2,p3⟩,⟨s1,s2,s3,s4⟩⟩:=x;simp only[aK]at hn0 hck hcall;dsimp only at hk;subst hk;have mY:=ah hck;have jK:=ah hnone;have bf:=ah hk0;have dW:=ah hn0;have HB:=ah hb;have gQ:=ah hcall;have sJ:Hid (b≠w.heap.size):=ah (fun e=>Nat.lt_irrefl _ (e▸hb.lt));clear hck hnone hk0 hn0 hb hcall hc;go_enter Tryz.func33,Tryz.ntmps33;go_wp2_with fail;clear hW0;refine(jK.out _ bf.out).mono ?_;rintro e w2 ⟨rfl,hk⟩;have dV:=ah (dW.out.kept hk (fun z=>z));have HK:=ah (bf.out.then hk);clear hk;go_wp2_with (refine wpList_load_row rfl 78 (.tmp 3) rfl w.heap.size rfl 78 _ (0,0) _ dV.out Tryz.underlying78 rfl (by kernel_rfl) ?_);refine(mY.out _ HK.out).mono ?_;rintro e w3 ⟨rfl,hk⟩;have hn3:=dV.out.kept hk (fun z=>z);have q0:w3.cell? ⟨w.heap.size,0,none⟩=some (.int .i64 7):=hn3.cell 0;have mG:=ah hn3;have bu:=ah (HK.out.then hk);clear hk HK hn3;have hce:∀W,Kept aj w3 W->W.cell? ⟨w.heap.size,1,none⟩=some (.int .i64 n)/\W.cell? ⟨b,5,none⟩=some (.slice pA s.pins.length pc)/\W.cell? ⟨b,6,none⟩=some (.int .i64 s.top):=fun W hW=>by have g1:=mG.out.kept hW (fun z=>z);have g2:=HB.out.kept (bu.out.then hW) (fun z=>z);exact⟨g1.cell 1,g2.cell 5,g2.cell 6⟩
 have iY:=ah hce;clear hce;have HS:=ah (Kept.refl aj w3);obtain⟨z1,z5,z6⟩:=iY.out w3 (Kept.refl _ _);go_wp2_with fail
 go_region_held3 (fun W=>W.cell? ⟨w.heap.size,1,none⟩=some (.int .i64 n)/\W.cell? ⟨b,5,none⟩=some (.slice pA s.pins.length pc)/\W.cell? ⟨b,6,none⟩=some (.int .i64 s.top))
  (first|with_reducible exact iY.out _ HS.out|exact iY.out _ HS.out.drew|(simp[go_sem,z1,z5,z6];done))
  (first
   |(go_at_call 84;((with_reducible refine(gQ.out _ ?_).mono ?_);exact bu.out.then (by(repeat'(first|(with_reducible first|exact ak|apply au|apply ay|apply aA|apply aB)|(exact HS.out)|(right;simp;done))));rintro e w5 ⟨rfl,hk0⟩;have hk:=Kept.then (F:=aj) (a:=w3) (by(repeat'(first|(with_reducible first|exact ak|apply au|apply ay|apply aA|apply aB)|(exact HS.out)|(right;simp;done)))) hk0;clear HS hk0;have HS:=ah hk;clear hk)))
 clear z1 z5 z6;have hb5:=HB.out.kept (bu.out.then HS.out) (fun z=>z);have z6:w5.cell? ⟨b,6,none⟩=some (.int .i64 s.top):=hb5.cell 6;have f6:=hb5.frozen 6;have q1:w5.cell? ⟨w.heap.size,1,none⟩=some (.int .i64 n):=(iY.out _ HS.out).1;have hmax:=fun W ts t=>adz s.top n _ rfl W ts t;have jv:=ah hb5;clear hb5;go_wp2_with fail;refine wp_region_still_tail 10 (by kernel_rfl) (by kernel_rfl) ?_;simp only[List.take_succ_cons,List.take_zero,List.drop_succ_cons,List.drop_zero];change wpStill _ _ (World.drew w5) _ _ _;repeat still_step
 refine wpStill_nil ?_;change wpList _ _ _ _ _ (World.drew w5);go_wp2;go_ret;refine bU.out _ ?_ ?_
 ·((repeat (first|with_reducible exact jv.out|with_reducible apply Has.dH|with_reducible apply Has.past|with_reducible apply Has.drewN|with_reducible apply Has.drew|with_reducible apply Has.alloc))<;>first|omega|rfl)
 ·exact((Kept.up (bu.out.then HS.out)).drew).put (.inl rfl)
theorem Si(w:World)(b:Nat)(F:Nat->Prop)(s:bQ)(x:aG)(hs:fH w b F s)(hok:pY s)(h:iR w x)(h0:aT x=0)(hk:x.k=7)(hc:0<=bV s.pins x.n):
  Calls Tryz.prog 33 #[.pointer (some ⟨b,0,none⟩),fU x] w (bY w b F s x):=by
 have h00:aT x=0:=h0;obtain⟨mA,mc,lA,lc,pA,pc,hF,hb,hm,hl,hp⟩:=hs;have hck:=fun W (hW:Kept aj w W)=>fB W x (h.kept hW);have hnone:=fun W (hW:Kept aj w W)=>dZ W b s mA mc lA lc pA pc true (hb.kept hW (fun z=>z));rw[h00]at hck;obtain⟨W0,hW0⟩:∃W0,w.alloc (.cells (aK x).toArray 78)=W0:=⟨_,rfl⟩;have hk0:Kept aj w W0:=by rw[<-hW0];(repeat'(first|(with_reducible first|exact ak|apply au|apply ay|apply aA|apply aB)|(right;simp;done)))
 have hn0:Has W0 w.heap.size 78 (aK x).toArray:=by rw[<-hW0];exact Has.new _ _ _
 have hE:bn s x=0:=by unfold bn;rw[if_neg (by simpa using h00),if_neg (by omega),if_neg (by omega),if_neg (by omega),if_neg (by omega),if_pos hk]
 have hS0:aP s x={s with pins:=freed s.pins x.n,top:=max s.top x.n}:=by unfold aP;rw[if_neg (by rw[hE];decide),if_neg (by omega),if_neg (by omega),if_neg (by omega),if_neg (by omega),if_pos hk]
 have hfin:∀w3 w5 w' A c,Kept aj w w3->Kept aj w3 w5->Has w' b 121 (dL {s with pins:=freed s.pins x.n,top:=max s.top x.n} mA mc lA lc A c true)->aF 53 3 w3.heap.size w5 A (freed s.pins x.n).length c (aS (freed s.pins x.n))->Kept (fun k=>k=b) w5 w'->bY w b F s x (.returned (.int .i64 0)) w':=by
  intro w3 w5 w' A c hk3 hk5 hb' hn hk';have h1:=own_ne hm hb (by decide);have h2:=own_ne hl hb (by decide);have hb5:=hb.kept (hk3.then hk5) (fun z=>z);have h3:=own_ne hn.1 hb5 (by decide);have iM:=(Kept.up (F:=fun k=>k=b) (hk3.then hk5)).then hk';have hsz:=hk3.size;refine⟨fun k=>k=b\/RowOf (.slice mA s.ms.length mc) k\/RowOf (.slice lA s.lg.length lc) k\/RowOf (.slice A (freed s.pins x.n).length c) k,by rw[hE],?_,?_,iM.mono (fun k e=>(hF k).2 (.inl e))⟩
  ·rw[hS0];exact⟨mA,mc,lA,lc,A,c,fun k=>Iff.rfl,hb',aC hm iM (fun g hg e=>h1 (by rw[hg,e])),aC hl iM (fun g hg e=>h2 (by rw[hg,e])),aC hn.1 hk' (fun g hg e=>h3 (by rw[hg,e]))⟩
  ·rintro k (e|e|e|e)
   ·exact .inl ((hF k).2 (.inl e))
   ·exact .inl ((hF k).2 (.inr (.inl e)))
   ·exact .inl ((hF k).2 (.inr (.inr (.inl e))))
   ·exact .inr (Nat.le_trans hsz (hn.2 k e))
 have hcall:=fun W (hW:Kept aj w W)=>(Ht W pA pc s.pins x.n (Src.bF (aC hp hW (fun _ _ z=>z))) (by have:=hok.p;omega)).mono (fun e w' hp=>(show∃A c,e=.returned (.tuple #[.slice A (freed s.pins x.n).length c,.int .i64 0])/\aF 53 3 W.heap.size w' A (freed s.pins x.n).length c (aS (freed s.pins x.n))/\Kept aj W w' by
  rcases hp with⟨h1,h2,h3⟩|⟨h1,h2⟩
  ·omega
  ·exact h2))
 have bU:=ah hfin;clear hfin hE h0 h00 h hm hl hp hF;obtain⟨k,n,at2,ep,xw,xx,ms,fl,lA2,xA,lg,oA,oc,⟨ji,gK,ops⟩,ts,⟨p1,p2,p3⟩,⟨s1,s2,s3,s4⟩⟩:=x;simp only[aK]at hn0 hck hcall;dsimp only at hk;subst hk;have mY:=ah hck;have jK:=ah hnone;have bf:=ah hk0;have dW:=ah hn0;have HB:=ah hb;have gQ:=ah hcall;have sJ:Hid (b≠w.heap.size):=ah (fun e=>Nat.lt_irrefl _ (e▸hb.lt));clear hck hnone hk0 hn0 hb hcall hc;go_enter Tryz.func33,Tryz.ntmps33;go_wp2_with fail;clear hW0;refine(jK.out _ bf.out).mono ?_;rintro e w2 ⟨rfl,hk⟩;have dV:=ah (dW.out.kept hk (fun z=>z));have HK:=ah (bf.out.then hk);clear hk;go_wp2_with (refine wpList_load_row rfl 78 (.tmp 3) rfl w.heap.size rfl 78 _ (0,0) _ dV.out Tryz.underlying78 rfl (by kernel_rfl) ?_);refine(mY.out _ HK.out).mono ?_;rintro e w3 ⟨rfl,hk⟩;have hn3:=dV.out.kept hk (fun z=>z);have q0:w3.cell? ⟨w.heap.size,0,none⟩=some (.int .i64 7):=hn3.cell 0;have mG:=ah hn3;have bu:=ah (HK.out.then hk);clear hk HK hn3;have hce:∀W,Kept aj w3 W->W.cell? ⟨w.heap.size,1,none⟩=some (.int .i64 n)/\W.cell? ⟨b,5,none⟩=some (.slice pA s.pins.length pc)/\W.cell? ⟨b,6,none⟩=some (.int .i64 s.top):=fun W hW=>by have g1:=mG.out.kept hW (fun z=>z);have g2:=HB.out.kept (bu.out.then hW) (fun z=>z);exact⟨g1.cell 1,g2.cell 5,g2.cell 6⟩
 have iY:=ah hce;clear hce;have HS:=ah (Kept.refl aj w3);obtain⟨z1,z5,z6⟩:=iY.out w3 (Kept.refl _ _);go_wp2_with fail
 go_region_held3 (fun W=>W.cell? ⟨w.heap.size,1,none⟩=some (.int .i64 n)/\W.cell? ⟨b,5,none⟩=some (.slice pA s.pins.length pc)/\W.cell? ⟨b,6,none⟩=some (.int .i64 s.top))
  (first|with_reducible exact iY.out _ HS.out|exact iY.out _ HS.out.drew|(simp[go_sem,z1,z5,z6];done))
  (first
   |(go_at_call 84;((with_reducible refine(gQ.out _ ?_).mono ?_);exact bu.out.then (by(repeat'(first|(with_reducible first|exact ak|apply au|apply ay|apply aA|apply aB)|(exact HS.out)|(right;simp;done))));rintro e w5 ⟨A5,c5,rfl,kG,hk0⟩;have hk:=Kept.then (F:=aj) (a:=w3) (by(repeat'(first|(with_reducible first|exact ak|apply au|apply ay|apply aA|apply aB)|(exact HS.out)|(right;simp;done)))) hk0;have uP:=ah (And.intro kG HS.out.size);clear HS hk0 kG;have HS:=ah hk;clear hk)))
 clear z1 z5 z6;have hb5:=HB.out.kept (bu.out.then HS.out) (fun z=>z);have z5:w5.cell? ⟨b,5,none⟩=some (.slice pA s.pins.length pc):=hb5.cell 5;have f5:=hb5.frozen 5;have jv:=ah hb5;clear hb5;obtain⟨w6,hw6⟩:∃w6,w5.setCell ⟨b,5,none⟩ (.slice A5 (freed s.pins n).length c5)=w6:=⟨_,rfl⟩;have hb6:=jv.out.put 5 (.slice A5 (freed s.pins n).length c5);have hk6:Kept (fun k=>k=b) w5 w6:=by rw[<-hw6];exact(Kept.refl (fun k=>k=b) w5).put (.inl rfl)
 rw[hw6]at hb6;have z6:w6.cell? ⟨b,6,none⟩=some (.int .i64 s.top):=hb6.cell 6;have f6:=hb6.frozen 6;have q1:w6.cell? ⟨w.heap.size,1,none⟩=some (.int .i64 n):=((mG.out.kept HS.out (fun z=>z)).kept hk6 (fun e=>sJ.out e.symm)).cell 1;have hmax:=fun W ts t=>adz s.top n _ rfl W ts t;have Eo:=ah (And.intro hb6 hk6);clear hb6 hk6;go_wp2_with fail;clear hw6 z5 f5;refine wp_region_still_tail 10 (by kernel_rfl) (by kernel_rfl) ?_;simp only[List.take_succ_cons,List.take_zero,List.drop_succ_cons,List.drop_zero];change wpStill _ _ (World.drew w6) _ _ _;repeat still_step
 refine wpStill_nil ?_;change wpList _ _ _ _ _ (World.drew w6);go_wp2;go_ret;refine bU.out _ _ _ A5 c5 bu.out HS.out ?_ ?_ ?_
 ·((repeat (first|with_reducible exact Eo.out.1|with_reducible apply Has.dH|with_reducible apply Has.past|with_reducible apply Has.drewN|with_reducible apply Has.drew|with_reducible apply Has.alloc))<;>first|omega|rfl)
 ·exact⟨uP.out.1.1,fun k hk=>Nat.le_trans uP.out.2 (uP.out.1.2 k hk)⟩
 ·exact(Eo.out.2.drew).put (.inl rfl)
theorem LU(w:World)(b:Nat)(F:Nat->Prop)(s:bQ)(x:aG)(hs:fH w b F s)(hok:pY s)(h:iR w x):
  Calls Tryz.prog 33 #[.pointer (some ⟨b,0,none⟩),fU x] w (bY w b F s x):=by
 by_cases h0:aT x=0
 ·by_cases h1:x.k=1
  ·exact U0 w b F s x hs hok h h0 h1
  by_cases h2:x.k=2
  ·exact U4 w b F s x hs hok h h0 h2
  by_cases h3:x.k=3
  ·exact U5 w b F s x hs hok h h0 h3
  by_cases h4:x.k=4
  ·exact U3 w b F s x hs hok h h0 h4
  by_cases h5:x.k=5
  ·exact U1 w b F s x hs hok h h0 h5
  by_cases h6:x.k=6
  ·exact U2 w b F s x hs hok h h0 h6
  by_cases h7:x.k=7
  ·by_cases hc:bV s.pins x.n<0
   ·exact RZ w b F s x hs hok h h0 h7 hc
   ·exact Si w b F s x hs hok h h0 h7 (by omega)
  by_cases h8:x.k=8
  ·have hs8:saidE x.said=0:=by unfold aT at h0;rw[if_neg h1,if_neg h2,if_neg (by omega),if_neg h6,if_pos h8]at h0;exact h0
   have hcl:¬(x.said.cl<0\/3<=x.said.cl):=fun hh=>by unfold saidE at hs8;rw[if_pos hh]at hs8;omega
   by_cases c0:x.said.cl=0
   ·exact RV w b F s x hs hok h h0 h8 c0
   by_cases c1:x.said.cl=1
   ·exact RX w b F s x hs hok h h0 h8 c1
   exact RY w b F s x hs hok h h0 h8 (by omega)
  unfold aT at h0;rw[if_neg h1,if_neg h2,if_neg (by omega),if_neg h6,if_neg h8]at h0;omega
 ·exact XO w b F s x hs h h0
end Mst
end Go.Proofs.YtomccaocggplgaaGreat
namespace Go.Proofs.YtomccaocggplgaaGreat
open Go.RowKit Go.WideShapes Go.ChangeShapes
namespace Mst
open aJ
def xE(l:List aG):List Value:=l.flatMap aK
structure Jc(w:World)(x:aG):Prop where
 m:Src w 2 x.mA x.ms.length (aU x.ms)
 mc:x.ms.length<=x.mc
 l:Src w 1 x.lA x.lg.length (ints x.lg)
 lc:x.lg.length<=x.lc
 o:Src w 3 x.oA x.b.ops.length (Ops.cells x.b.ops)
 oc:x.b.ops.length<=x.oc
 t:0<=x.at'/\0<=x.pin.at'/\0<=x.fl
theorem Jc.kept{w w':World}{x:aG}(h:Jc w x)(hk:Kept aj w w'):Jc w' x:=⟨h.m.kept hk (fun _ _ z=>z),h.mc,h.l.kept hk (fun _ _ z=>z),h.lc,h.o.kept hk (fun _ _ z=>z),h.oc,h.t⟩
theorem Jc.ok{w:World}{x:aG}(h:Jc w x)(h1:x.ms.length<=1000)(h2:x.lg.length<=1000):iR w x:=⟨h.m,h.mc,h1,h.l,h.lc,h2,h.o⟩
theorem U6{w:World}{A:Option Addr}{m:Nat}{l:List aG}(h:Src w 18 A m (xE l))(hm:0<m)(i:Nat)(x:aG)(hx:l[i]? =some x):
  ∃ad,A=some ad/\ad.block<w.heap.size/\∀j u,(aK x)[j]? =some u->w.cell? ((ad.add (i*18)).add j)=some u:=by
 obtain⟨ad,rfl,had,hcell⟩:=h.2 hm;refine⟨ad,rfl,had,fun j u hu=> ?_⟩;have hj:j<18:=(lD0.1 hu).1;rw[add_add];refine hcell _ _ ?_;unfold xE;rw[flat_get aK 18 (by decide) (fun _=>rfl),show(i*18+j)/18=i by omega,show(i*18+j)%18=j by omega,hx];exact hu
end Mst
section
variable{H:Type}{enc:TypeId×Value->H}{W:World}{v:Value}{d:DataW H}{ps:List MemPlace}{r:Reach}{b0:Nat}
end
end Go.Proofs.YtomccaocggplgaaGreat
namespace Go.Proofs.YtomccaocggplgaaGreat
open Go.RowKit
namespace Mst
open aJ Vn Go.Sort
theorem Sj(w:World)(b:Nat)(s:bQ)(mA:Option Addr)(mc:Nat)(lA:Option Addr)(lc:Nat)(pA:Option Addr)(pc:Nat)(hb:Has w b 121 (dL s mA mc lA lc pA pc true))(hm:Src w 2 mA s.ms.length (aU s.ms))(hml:s.ms.length<=1000):
  Calls Tryz.prog 34 #[.pointer (some ⟨b,0,none⟩)] w (uy w s.ep s.fl s.ms):=by
 have h:=fun W (hW:Kept aj w W)=>dZ W b s mA mc lA lc pA pc true (hb.kept hW (fun z=>z));have hown:=fun W (hW:Kept aj w W)=>Kz W s.ep s.fl mA mc s.ms (hm.kept hW (fun _ _ z=>z)) (by omega);have hce:∀W,Kept aj w W->W.cell? ⟨b,0,none⟩=some (.int .i64 s.ep)/\W.cell? ⟨b,1,none⟩=some (.slice mA s.ms.length mc)/\W.cell? ⟨b,2,none⟩=some (.int .u64 s.fl):=fun W hW=>by have g:=hb.kept hW (fun z=>z);exact⟨g.cell 0,g.cell 1,g.cell 2⟩
 have sJ:=ah hb.lt;have H:=ah h;have qp:=ah hown;have iY:=ah hce;clear h hb hown hm hce;go_enter Tryz.func34,Tryz.ntmps34;go_wp2_with fail;refine(H.out _ (by(repeat'(first|(with_reducible first|exact ak|apply au|apply ay|apply aA|apply aB)|(right;simp;done))))).mono ?_;rintro e w2 ⟨rfl,hk⟩;have hb1:=(Has.new w 25 #[.int .i64 0,.slice none 0 0,.int .u64 0]).kept hk (fun z=>z);have hk2:=Kept.then (F:=aj) (a:=w) (by(repeat'(first|(with_reducible first|exact ak|apply au|apply ay|apply aA|apply aB)|(right;simp;done)))) hk;obtain⟨q0,q1,q2⟩:=iY.out _ hk2;have HB:=ah hb1;have HK:=ah hk2;have HZ:=ah hk.size;clear hk hk2 hb1;go_wp2_with fail;refine(qp.out _ HK.out).mono ?_;rintro e w3 ⟨A1,c1,rfl,hn,hk⟩;clear q0 q1 q2;have hb1:=HB.out.kept hk (fun z=>z);have c0:=hb1.cell 0;have f0:=hb1.frozen 0;have c1':=hb1.cell 1;have f1:=hb1.frozen 1;have c2:=hb1.cell 2;have f2:=hb1.frozen 2;simp only[lF0,List.getElem?_cons_zero,List.getElem?_cons_succ]at c0 c1' c2;have HB1:=ah hb1;have HN:=ah hn;have bu:=ah (HK.out.then hk);clear hb1 hn hk;go_wp2;have hfin:=((HB1.out.put 0 (Value.int .i64 s.ep)).put 1 (Value.slice A1 s.ms.length c1)).put 2 (Value.int .u64 s.fl);refine bodyPost_ret (results_cell_row rfl _ _ w.heap.size 25 _ (0,0) _ rfl hfin Tryz.underlying25 rfl (by kernel_rfl)) rfl ?_;have hk9:∀W (i:Nat) u,Kept aj w W->Kept aj w (W.setCell ⟨w.heap.size,i,none⟩ u):=fun W i u hW=>hW.put (.inr (Nat.le_refl _));have hz:=HZ.out;simp only[size_alloc]at hz;refine⟨A1,c1,rfl,⟨?_,fun g hg=>by have:=HN.out.2 g hg;omega⟩,hk9 _ _ _ (hk9 _ _ _ (hk9 _ _ _ (bu.out)))⟩;refine aC (F:=fun k=>k=w.heap.size) HN.out.1 ((((Kept.refl (fun k=>k=w.heap.size) w3).put (.inl rfl)).put (.inl rfl)).put (.inl rfl)) (fun g hg hF=> ?_);have h1:=HN.out.2 g hg;omega
def dO(s:bQ)(i:Int):kP:=if i<0\/3<=i then jV else toldOf s i
theorem Sl(w:World)(i:Int)(b:Nat)(s:bQ)(mA:Option Addr)(mc:Nat)(lA:Option Addr)(lc:Nat)(pA:Option Addr)(pc:Nat)(hb:Has w b 121 (dL s mA mc lA lc pA pc true))(hi:i<0\/3<=i):
  Calls Tryz.prog 87 #[.pointer (some ⟨b,0,none⟩),.int .i64 i] w fun e w'=>e=.returned (pI jV)/\Kept aj w w':=by
 have h:=fun W (hW:Kept aj w W)=>dZ W b s mA mc lA lc pA pc true (hb.kept hW (fun z=>z));have H:=ah h;clear h hb;have hfin:∀(W:World),Has W w.heap.size 76 #[.int .i64 0,.int .i64 0,.int .i64 0,.int .i64 0]->Kept aj w W->∀W2,W2=(((W.setCell ⟨w.heap.size,0,none⟩ (.int .i64 0)).setCell ⟨w.heap.size,1,none⟩ (.int .i64 0)).setCell ⟨w.heap.size,2,none⟩ (.int .i64 0)).setCell ⟨w.heap.size,3,none⟩ (.int .i64 0)->Has W2 w.heap.size 76 #[.int .i64 0,.int .i64 0,.int .i64 0,.int .i64 0]/\Kept aj w W2:=by rintro W h1 h2 W2 rfl;have hk9:∀W (i:Nat) u,Kept aj w W->Kept aj w (W.setCell ⟨w.heap.size,i,none⟩ u):=fun W i u hW=>hW.put (.inr (Nat.le_refl _));exact⟨(((h1.put 0 (Value.int .i64 0)).put 1 (Value.int .i64 0)).put 2 (Value.int .i64 0)).put 3 (Value.int .i64 0),hk9 _ _ _ (hk9 _ _ _ (hk9 _ _ _ (hk9 _ _ _ h2)))⟩
 have bU:=ah hfin;clear hfin;by_cases h0:i<0
 ·go_enter Tryz.func87,Tryz.ntmps87;go_wp2_with fail;refine(H.out _ (by(repeat'(first|(with_reducible first|exact ak|apply au|apply ay|apply aA|apply aB)|(right;simp;done))))).mono ?_;rintro e w2 ⟨rfl,hk⟩;have hb1:=(Has.new w 76 #[.int .i64 0,.int .i64 0,.int .i64 0,.int .i64 0]).kept hk (fun z=>z);have hk2:=Kept.then (F:=aj) (a:=w) (by(repeat'(first|(with_reducible first|exact ak|apply au|apply ay|apply aA|apply aB)|(right;simp;done)))) hk;have c0:=hb1.cell 0;have f0:=hb1.frozen 0;have c1:=hb1.cell 1;have f1:=hb1.frozen 1;have c2:=hb1.cell 2;have f2:=hb1.frozen 2;have c3:=hb1.cell 3;have f3:=hb1.frozen 3;simp only[lF0,List.getElem?_cons_zero,List.getElem?_cons_succ]at c0 c1 c2 c3;have HB:=ah hb1;have HK:=ah hk2;clear hk hk2 hb1;go_wp2;obtain⟨h1,h2⟩:=bU.out _ HB.out HK.out _ rfl;exact bodyPost_ret (results_cell_row rfl _ _ w.heap.size 76 _ (0,0) _ rfl h1 Tryz.underlying76 rfl (by kernel_rfl)) rfl ⟨rfl,h2⟩
 ·have h3:3<=i:=by omega
  clear hi;go_enter Tryz.func87,Tryz.ntmps87;go_wp2_with fail;refine(H.out _ (by(repeat'(first|(with_reducible first|exact ak|apply au|apply ay|apply aA|apply aB)|(right;simp;done))))).mono ?_;rintro e w2 ⟨rfl,hk⟩;have hb1:=(Has.new w 76 #[.int .i64 0,.int .i64 0,.int .i64 0,.int .i64 0]).kept hk (fun z=>z);have hk2:=Kept.then (F:=aj) (a:=w) (by(repeat'(first|(with_reducible first|exact ak|apply au|apply ay|apply aA|apply aB)|(right;simp;done)))) hk;have c0:=hb1.cell 0;have f0:=hb1.frozen 0;have c1:=hb1.cell 1;have f1:=hb1.frozen 1;have c2:=hb1.cell 2;have f2:=hb1.frozen 2;have c3:=hb1.cell 3;have f3:=hb1.frozen 3;simp only[lF0,List.getElem?_cons_zero,List.getElem?_cons_succ]at c0 c1 c2 c3;have HB:=ah hb1;have HK:=ah hk2;clear hk hk2 hb1;go_wp2;obtain⟨h1,h2⟩:=bU.out _ HB.out HK.out _ rfl;exact bodyPost_ret (results_cell_row rfl _ _ w.heap.size 76 _ (0,0) _ rfl h1 Tryz.underlying76 rfl (by kernel_rfl)) rfl ⟨rfl,h2⟩
theorem CX(w:World)(i:Nat)(a0 a1 a2 a3:Int)(b:Nat)(s:bQ)(mA:Option Addr)(mc:Nat)(lA:Option Addr)(lc:Nat)(pA:Option Addr)(pc:Nat)(hb:Has w b 121 (dL s mA mc lA lc pA pc true))(hi:i<3)
  (hat:(dL s mA mc lA lc pA pc true)[7+i*4]? =some (.int .i64 a0)/\(dL s mA mc lA lc pA pc true)[7+i*4+1]? =some (.int .i64 a1)/\(dL s mA mc lA lc pA pc true)[7+i*4+2]? =some (.int .i64 a2)/\(dL s mA mc lA lc pA pc true)[7+i*4+3]? =some (.int .i64 a3)):
  Calls Tryz.prog 87 #[.pointer (some ⟨b,0,none⟩),.int .i64 i] w fun e w'=>e=.returned (pI ⟨a0,a1,a2,a3⟩)/\Kept aj w w':=by
 have h:=fun W (hW:Kept aj w W)=>dZ W b s mA mc lA lc pA pc true (hb.kept hW (fun z=>z));have hce:∀W,Kept aj w W->W.cell? ⟨b,7+i*4,none⟩=some (.int .i64 a0)/\W.cell? ⟨b,7+i*4+1,none⟩=some (.int .i64 a1)/\W.cell? ⟨b,7+i*4+2,none⟩=some (.int .i64 a2)/\W.cell? ⟨b,7+i*4+3,none⟩=some (.int .i64 a3):=fun W hW=>by have g:=hb.kept hW (fun z=>z);exact⟨(g.cell _).trans hat.1,(g.cell _).trans hat.2.1,(g.cell _).trans hat.2.2.1,(g.cell _).trans hat.2.2.2⟩
 have H:=ah h;have iY:=ah hce;clear h hb hat hce;go_enter Tryz.func87,Tryz.ntmps87;go_wp2_with fail;refine(H.out _ (by(repeat'(first|(with_reducible first|exact ak|apply au|apply ay|apply aA|apply aB)|(right;simp;done))))).mono ?_;rintro e w2 ⟨rfl,hk⟩;have hb1:=(Has.new w 76 #[.int .i64 0,.int .i64 0,.int .i64 0,.int .i64 0]).kept hk (fun z=>z);have hk2:=Kept.then (F:=aj) (a:=w) (by(repeat'(first|(with_reducible first|exact ak|apply au|apply ay|apply aA|apply aB)|(right;simp;done)))) hk;obtain⟨q0,q1,q2,q3⟩:=iY.out _ hk2;have c0:=hb1.cell 0;have f0:=hb1.frozen 0;have c1:=hb1.cell 1;have f1:=hb1.frozen 1;have c2:=hb1.cell 2;have f2:=hb1.frozen 2;have c3:=hb1.cell 3;have f3:=hb1.frozen 3;simp only[lF0,List.getElem?_cons_zero,List.getElem?_cons_succ]at c0 c1 c2 c3;have HB:=ah hb1;have HK:=ah hk2;clear hk hk2 hb1;go_wp2;have hfin:=(((HB.out.put 0 (Value.int .i64 a0)).put 1 (Value.int .i64 a1)).put 2 (Value.int .i64 a2)).put 3 (Value.int .i64 a3);refine bodyPost_ret (results_cell_row rfl _ _ w.heap.size 76 _ (0,0) _ rfl hfin Tryz.underlying76 rfl (by kernel_rfl)) rfl ?_;have hk9:∀W (i:Nat) u,Kept aj w W->Kept aj w (W.setCell ⟨w.heap.size,i,none⟩ u):=fun W i u hW=>hW.put (.inr (Nat.le_refl _));exact⟨rfl,hk9 _ _ _ (hk9 _ _ _ (hk9 _ _ _ (hk9 _ _ _ (HK.out))))⟩
section
variable{w:World}{b:Nat}{F:Nat->Prop}{s:bQ}
theorem yG(h:fH w b F s):Calls Tryz.prog 24 #[.pointer (some ⟨b,0,none⟩)] w fun e w'=>e=.returned (.int .u64 s.hz)/\Kept aj w w':=by obtain⟨mA,mc,lA,lc,pA,pc,hF,hb,hm,hl,hp⟩:=h;exact KA w b s mA mc lA lc pA pc hb
theorem afr(h:fH w b F s):Calls Tryz.prog 229 #[.pointer (some ⟨b,0,none⟩)] w fun e w'=>e=.returned (.int .i64 s.top)/\Kept aj w w':=by obtain⟨mA,mc,lA,lc,pA,pc,hF,hb,hm,hl,hp⟩:=h;exact UR w b s mA mc lA lc pA pc hb
theorem OV(h:fH w b F s)(hok:pY s):Calls Tryz.prog 94 #[.pointer (some ⟨b,0,none⟩)] w (Et w s.lg):=by obtain⟨mA,mc,lA,lc,pA,pc,hF,hb,hm,hl,hp⟩:=h;exact OO w b s mA mc lA lc pA pc hb (Src.bF hl) (by have:=hok.l;omega)
theorem FQ(h:fH w b F s)(hok:pY s):Calls Tryz.prog 35 #[.pointer (some ⟨b,0,none⟩)] w (xu w s.pins):=by obtain⟨mA,mc,lA,lc,pA,pc,hF,hb,hm,hl,hp⟩:=h;exact RP w b s mA mc lA lc pA pc hb (Src.bF hp) (by have:=hok.p;omega)
theorem qO(h:fH w b F s)(hok:pY s):Calls Tryz.prog 34 #[.pointer (some ⟨b,0,none⟩)] w (uy w s.ep s.fl s.ms):=by obtain⟨mA,mc,lA,lc,pA,pc,hF,hb,hm,hl,hp⟩:=h;exact Sj w b s mA mc lA lc pA pc hb (Src.bF hm) hok.m
theorem FT(h:fH w b F s)(i:Int):Calls Tryz.prog 87 #[.pointer (some ⟨b,0,none⟩),.int .i64 i] w fun e w'=>e=.returned (pI (dO s i))/\Kept aj w w':=by
 obtain⟨mA,mc,lA,lc,pA,pc,hF,hb,hm,hl,hp⟩:=h;by_cases hi:i<0\/3<=i
 ·rw[dO,if_pos hi];exact Sl w i b s mA mc lA lc pA pc hb hi
 ·rw[dO,if_neg hi];have h3:i=0\/i=1\/i=2:=by omega
  rcases h3 with rfl|rfl|rfl
  ·exact CX w 0 _ _ _ _ b s mA mc lA lc pA pc hb (by decide) ⟨rfl,rfl,rfl,rfl⟩
  ·exact CX w 1 _ _ _ _ b s mA mc lA lc pA pc hb (by decide) ⟨rfl,rfl,rfl,rfl⟩
  ·exact CX w 2 _ _ _ _ b s mA mc lA lc pA pc hb (by decide) ⟨rfl,rfl,rfl,rfl⟩
end
theorem bK(w:World):Calls Tryz.prog 54 #[] w fun e w'=>e=.returned (.pointer (some ⟨w.heap.size,0,none⟩))/\fH w' w.heap.size (fun k=>k=w.heap.size) st0/\Kept aj w w':=by refine(new_any w).mono ?_;rintro e w' ⟨rfl,h,hk⟩;exact⟨rfl,⟨none,0,none,0,none,0,fun k=>by simp[RowOf,Value.ownBlock],h,⟨rfl,.inl ⟨rfl,rfl⟩⟩,⟨rfl,.inl ⟨rfl,rfl⟩⟩,⟨rfl,.inl ⟨rfl,rfl⟩⟩⟩,hk⟩
def nt(k n:Int)(pin:aO)(b:Ops.Batch):aG:=⟨k,n,0,0,none,0,[],0,none,0,[],none,0,b,0,pin,jV⟩
theorem Jd(w:World)(k n:Int)(pin:aO)(cl req:Int):iR w (nt k n pin ⟨cl,req,[]⟩):=⟨Src.nil _ _ _,Nat.le_refl _,Nat.zero_le _,Src.nil _ _ _,Nat.le_refl _,Nat.zero_le _,Src.nil _ _ _⟩
