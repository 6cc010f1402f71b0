/- Part 49. -/
import Derived.Test.YtgbigpdiacjbgaaGreatKP47
set_option linter.unusedSimpArgs false
set_option linter.unusedVariables false
set_option maxHeartbeats 32000000
set_option maxRecDepth 100000
namespace Go.Proofs.YtgbigpdiacjbgaaGreat
open Go.RowKit
namespace wC
open bg Ops fG eP Vn Cli Go.Proofs.YtgbigpdiacjbgaaGreat.Ask
attribute [local go_sem↓] bW cZ qB
theorem Ny{w:World}{t:TS}(h:pK t)(hd:t.dn=false){ep hh:Int}(he:0<=ep/\ep<=1073741824)(hhd:hh<=3){A:Option Addr}{c:Nat}(hs:Src w 3 A (aJ t ep hh).2.ops.length (cells (aJ t ep hh).2.ops))(hc:(aJ t ep hh).2.ops.length<=c):
  (0<=(aJ t ep hh).1/\(aJ t ep hh).1<=4)/\Sends w {(aJ t ep hh).2 with oA:=A,oc:=c}:=by
 obtain⟨hb1,hb2,hb3,hb4,_,_⟩:=Ops.sZ h.b;dsimp only at hb1 hb2 hb3 hb4;have iV:=h.ok.ph;unfold aJ at hs hc⊢;rw[if_neg (by rw[hd];decide)]at hs hc⊢;have hz:(bP.key).size<=8:=by decide
 have z0:(0:Int)<=0/\(0:Int)<=1073741824:=by decide
 have z4:(0:Int)<=4/\(4:Int)<=4:=by decide
 have z3:(0:Int)<=max ep 0/\max ep 0<=1073741824:=by omega
 have zr:0<=t.rq/\t.rq<=1073741824:=by omega
 by_cases p0:t.ph=0
 ·rw[if_pos p0]at hs hc⊢;by_cases q0:hh<0
  ·rw[if_pos q0]at hs hc⊢;exact⟨z4,.inr (.inr (.inr (.inr (.inr (.inr rfl))))),z0,z0,z0,hz,hz,hs,hc,fun e=>by cases e⟩
  ·rw[if_neg q0]at hs hc⊢;exact⟨⟨by show 0<=hh;omega,by show hh<=4;omega⟩,.inl rfl,z3,z0,z0,hz,hz,hs,hc,fun _=>h.b⟩
 rw[if_neg p0]at hs hc⊢;by_cases p1:t.ph=1
 ·rw[if_pos p1]at hs hc⊢;have hk:=h.p1 p1;have hnd:=h.nd hk;by_cases k2:t.a.k=2
  ·rw[if_pos k2]at hs hc⊢;have hsz:0<=mZ t/\mZ t<=1073741824:=by have:=(h.ok.ps.2 k2);unfold mZ;omega
   exact⟨⟨hnd.1,by show t.a.nd<=4;omega⟩,.inr (.inr (.inl rfl)),z0,zr,hsz,(h.key hk).1,h.to k2,hs,hc,fun e=>by cases e⟩
  ·rw[if_neg k2]at hs hc⊢;exact⟨⟨hnd.1,by show t.a.nd<=4;omega⟩,.inr (.inl rfl),z0,zr,z0,(h.key hk).1,hz,hs,hc,fun e=>by cases e⟩
 rw[if_neg p1]at hs hc⊢;have hk:=h.p2 (by omega);clear hb1 hb2 hb3 hb4;by_cases k4:t.a.k=4
 ·rw[if_pos k4]at hs hc⊢;exact⟨z4,.inr (.inr (.inr (.inl rfl))),z0,zr,z0,hz,hz,hs,hc,fun e=>by cases e⟩
 rw[if_neg k4]at hs hc⊢;have hn:=h.n (by omega);by_cases k5:t.a.k=5
 ·rw[if_pos k5]at hs hc⊢;exact⟨z4,.inr (.inr (.inr (.inr (.inl rfl)))),z0,zr,hn,hz,hz,hs,hc,fun e=>by cases e⟩
 ·rw[if_neg k5]at hs hc⊢;exact⟨z4,.inr (.inr (.inr (.inr (.inr (.inl rfl))))),z0,zr,hn,hz,hz,hs,hc,fun e=>by cases e⟩
theorem Wp{w W w5:World}{z:Nat}{m':aO}(hz:Has W z 63 fH)(hzw:w.heap.size<=z)(hk:Kept aj W w5)(hs:Src w5 3 m'.oA m'.ops.length (cells m'.ops))(hf:∀ad,m'.oA=some ad->ad.block<w.heap.size):
  ∃W6,(jV ⟨z,0,none⟩ (.agg (au m').toArray)).run Tryz.prog w5=.ok () W6/\Has W6 z 63 (au m').toArray/\Src W6 3 m'.oA m'.ops.length (cells m'.ops)/\Kept (fun k=>w.heap.size<=k) w5 W6:=by
 obtain⟨W6,h1,h2,h3⟩:=jF (hz.kept hk (fun y=>y)) rfl m';exact⟨W6,h1,h2,hs.kept h3 (fun ad e hb=>by have:=hf ad e;omega),h3.mono (fun k hk=>by omega)⟩
theorem aa5{w w5:World}{m':aO}(hs:Src w5 3 m'.oA m'.ops.length (cells m'.ops)):
  ∃Wz W6,w5.alloc (.cells fH 63)=Wz/\(jV ⟨w5.heap.size,0,none⟩ (.agg (au m').toArray)).run Tryz.prog Wz=.ok () W6/\Has W6 w5.heap.size 63 (au m').toArray/\Src W6 3 m'.oA m'.ops.length (cells m'.ops)/\Kept (fun k=>w.heap.size<=k) w5 W6/\Kept aj w5 Wz:=by
 obtain⟨Wz,W6,h1,h2,h3,h4⟩:=kK w5 m';exact⟨Wz,W6,h1,h2,h3,hs.kept h4 (fun _ _ y=>y),h4.mono (fun _ y=>y.elim),by rw[<-h1];(repeat'(first|(with_reducible first|exact ay|apply aA|apply aB|apply aC|apply aF)|(right;simp;done)))⟩
section
variable{w w':World}{Y Y':sS}{C C':dh}{L L':List dS}
theorem mD(h:iR w Y C L)(he:0<=C.ep/\C.ep<=1073741824)(hh:C.hd<=3){t:TS}(ht:C.t=some t)(hj:pK t)(ha:atOk t)(hdn:t.dn=false)(hl:L.length<=1000):Calls Tryz.prog 42 #[.pointer (some ⟨Y.cb,0,none⟩)] w fun e w'=>e=.returned (.tuple #[])/\∃Y',aW w Y C L w' Y' C (bn L (aJ t C.ep C.hd).1 (aJ t C.ep C.hd).2):=by
 have hcl:∀W,Kept aj w W->W.cell? ⟨Y.cb,4,none⟩=some (.pointer (some ⟨Y.dx.b,0,none⟩))/\W.cell? ⟨Y.cb,2,none⟩=some (.int .i64 C.ep)/\W.cell? ⟨Y.cb,3,none⟩=some (.int .i64 C.hd):=fun W hW=>by have h1:=(h.quiet hW).b;have h4:W.cell? ⟨Y.cb,4,none⟩=some (jc Y C):=h1.cell 4;rw[dW ht]at h4;exact⟨h4,h1.cell 2,h1.cell 3⟩
 have hnx:∀W,Kept aj w W->Calls Tryz.prog 75 #[.pointer (some ⟨Y.dx.b,0,none⟩),.int .i64 C.ep,.int .i64 C.hd] W (Ba W Y.dx t C.ep C.hd):=fun W hW=>TX ((h.t t ht).1.quiet hW) hj.ok C.ep C.hd;unfold Ba aK at hnx;have hsd:∀W A c,Src W 3 A (aJ t C.ep C.hd).2.ops.length (cells (aJ t C.ep C.hd).2.ops)->(aJ t C.ep C.hd).2.ops.length<=c->(0<=(aJ t C.ep C.hd).1/\(aJ t C.ep C.hd).1<=4)/\Sends W {(aJ t C.ep C.hd).2 with oA:=A,oc:=c}:=fun W A c h1 h2=>Ny hj hdn he hh h1 h2;have hat:=(JB hj hdn ha C.ep hh).2.2;have hfl:∀k,dN Y.dx t k->k<w.heap.size:=fun k hk=>(h.t t ht).1.lt hk;obtain⟨p,hp⟩:∃p,aJ t C.ep C.hd=p:=⟨_,rfl⟩;simp only[hp]at hnx hsd;rw[hp]at hat⊢;obtain⟨tt,mm⟩:=p;dsimp only at hnx hsd hat⊢;obtain⟨cb,hcb⟩:∃cb,Y.cb=cb:=⟨_,rfl⟩;obtain⟨tb,htb⟩:∃tb,Y.dx.b=tb:=⟨_,rfl⟩;simp only[hcb,htb]at hcl hnx;rw[hcb];have nP:=ah hcl;have jT:=ah hnx;have HSD:=ah hsd;have HAT:=ah hat;have wM:=ah hfl;have H:=ah h;have cu:=ah hcb;have HL:=ah hl;have y0:=hcl w (Kept.refl _ _);clear hcl hnx hsd hat hfl h hcb htb hp ht hj ha hdn he hh hl;go_enter Tryz.func42,Tryz.ntmps42;go_wp2_with fail
 go_region_held3 (fun W=>W.cell? ⟨cb,4,none⟩=some (.pointer (some ⟨tb,0,none⟩))/\W.cell? ⟨cb,2,none⟩=some (.int .i64 C.ep)/\W.cell? ⟨cb,3,none⟩=some (.int .i64 C.hd)) (first|with_reducible exact y6|with_reducible exact y7|with_reducible exact y5|with_reducible exact y0|(refine nP.out _ ?_;(repeat'(first|(with_reducible first|exact ay|apply aA|apply aB|apply aC|apply aF)|(right;simp;done)));done))
  (first|(go_at_call 75;refine(jT.out _ (by(repeat'(first|(with_reducible first|exact ay|apply aA|apply aB|apply aC|apply aF)|(right;simp;done))))).mono ?_;rintro e w5 ⟨A5,c5,rfl,hs5,hc5,tu,hk5⟩;have hkk:Kept aj w w5:=(Kept.then (F:=aj) (a:=w) (by(repeat'(first|(with_reducible first|exact ay|apply aA|apply aB|apply aC|apply aF)|(right;simp;done)))) hk5);obtain⟨hto,hss⟩:=HSD.out w5 A5 c5 hs5 hc5;obtain⟨mp,hmp⟩:∃mp,{mm with oA:=A5,oc:=c5}=mp:=⟨_,rfl⟩;rw[hmp]at hss;rw[hmp];have hso:=hss.s;have hfo:∀ad,mp.oA=some ad->ad.block<w.heap.size:=(fun ad e=>wM.out _ (tu ad (by rw[<-e,<-hmp])));(first
    |(have a9:=Wp (z:=w.heap.size) (Has.new w 63 fH) (Nat.le_refl _) hk5 hso hfo;obtain⟨W6,hst,hb6,MI,hk6⟩:=a9)
    |(have a9:=Wp (z:=w.heap.size) (Has.new w.drew 63 fH) (Nat.le_refl _) hk5 hso hfo;obtain⟨W6,hst,hb6,MI,hk6⟩:=a9)
    |(have a9:=Wp (z:=w.heap.size) (Has.drew (Has.new w 63 fH)) (Nat.le_refl _) hk5 hso hfo;obtain⟨W6,hst,hb6,MI,hk6⟩:=a9)
    |(obtain⟨Wz,W6,gY,hst,hb6,MI,hk6,hkz⟩:=aa5 (w:=w) hso;have y7:=nP.out Wz (hkk.then hkz);clear hkz));have jR:Kept aj w W6:=hkk.trans hk6 (fun k hk=> .inr hk);have y5:=nP.out w5 hkk;have y6:=nP.out W6 jR;have jS:=ah hb6;have eu:=ah jR;have HTO:=ah hto;have qI:=ah (show Sends W6 mp from⟨hss.k,hss.e,hss.r,hss.n,hss.key,hss.to,MI,hss.c,hss.b⟩);have HMP:=ah hmp;clear hs5 hc5 tu hk5 hkk hto hss hmp hso hfo hb6 MI hk6 jR))
 all_goals
  have hat':0<=mp.at'/\mp.at'<=aY:=by rw[<-HMP.out];exact HAT.out
  have hpt:=MH (H.out.quiet eu.out) HL.out tt mp qI.out hat' HTO.out.1
  rw[cu.out]at hpt
  have hpo:bn L tt mp=bn L tt mm:=by rw[<-HMP.out];rfl
  rw[hpo]at hpt
  have hlm:=aH W6 _ _ jS.out
  obtain⟨cs,hcs⟩:∃cs,(au mp).toArray=cs:=⟨_,rfl⟩
  unfold aK at hpt
  rw[hcs]at hpt hlm
  have AP:=ah hpt
  clear hpt hat' hpo hcs y0
  go_wp2_with fail
  clear hlm
  refine AP.out.mono ?_
  rintro e w7 ⟨rfl,Y',hs7⟩
  have RP:=ah ((aW.refl H.out eu.out).trans hs7)
  clear hs7
  go_wp2
  go_end0
  exact⟨rfl,Y',RP.out⟩
theorem jA(h:iR w Y C L){t:TS}(ht:C.t=some t):Calls Tryz.prog 45 #[.pointer (some ⟨Y.cb,0,none⟩)] w fun e w'=>e=.returned (.tuple #[])/\∃Y',aW w Y C L w' Y' (jy C) L:=by
 have hdn:=V8 (h.t t ht).1;have q4:w.cell? ⟨Y.cb,4,none⟩=some (jc Y C):=h.b.cell 4;rw[dW ht]at q4;have hs:jy C=if t.dn=true then {C with r:=pO t,has:=true,t:=none}else C:=by unfold jy;rw[ht]
 have hrow:∀ad,Y.dx.rA=some ad->t.dn=true->∀n,n=t.r.ps.length->0<n->dN Y.dx t ad.block:=fun ad e _ n hn h0=>by
  have h1:=(h.t t ht).1.r;rw[e]at h1;obtain⟨_,h2⟩:=h1;rcases h2 with⟨h3,_⟩|⟨g,cap,cur,h3,_⟩
  ·cases h3
  ·injection h3 with h4;injection h4 with h4;subst h4;exact .inr (.inr (.inr (by rw[e];rfl)))
 have hft:∀k,dN Y.dx t k->k≠Y.cb/\(Value.slice Y.oA L.length Y.oc).ownBlock≠some k:=fun k hk=>⟨fun e=>(h.t t ht).2 (e▸hk),fun e=>(h.ao k e).2 t ht hk⟩;have hrl:t.dn=true->(pO t).ps.length=t.r.ps.length:=fun e=>by unfold pO;rw[if_pos e]
 obtain⟨cb,hcb⟩:∃cb,Y.cb=cb:=⟨_,rfl⟩;obtain⟨tb,htb⟩:∃tb,Y.dx.b=tb:=⟨_,rfl⟩;rw[hcb]at q4⊢;rw[htb]at hdn q4;obtain⟨rp,qU⟩:∃rp,pO t=rp:=⟨_,rfl⟩;rw[qU]at hdn hs hrl;obtain⟨dn,hdd⟩:∃dn,t.dn=dn:=⟨_,rfl⟩;rw[hdd]at hdn hs hrow hrl;obtain⟨r1,r2,r3,r4,r5⟩:=rp;unfold nV iO at hdn;dsimp only at hdn hrl;obtain⟨np,hnp⟩:∃np,r5.length=np:=⟨_,rfl⟩;rw[hnp]at hdn hrl;have qE:=ah hdn;have H:=ah h;have HS:=ah hs;have cu:=ah hcb;have zO:=ah hnp;have dX:=ah (And.intro hrow (And.intro hft hrl));have HT:=ah ht;clear hdn h hs hcb htb qU hdd hnp ht hrow hft hrl;go_enter Tryz.func45,Tryz.ntmps45;go_wp2_with fail;clear q4;refine qE.out.mono ?_;rintro e w3 ⟨A,c,rfl,hsr,hk3,hA⟩;obtain⟨W4,jD⟩:∃W4,w3.alloc (.cells #[.int .i64 r1,.int .i64 r2,.int .u64 r3,.int .i64 r4,.slice A np c] 36)=W4:=⟨_,rfl⟩;have hk4:Kept aj w3 W4:=by rw[<-jD];(repeat'(first|(with_reducible first|exact ay|apply aA|apply aB|apply aC|apply aF)|(right;simp;done)))
 have hb4:Has W4 w3.heap.size 36 #[.int .i64 r1,.int .i64 r2,.int .u64 r3,.int .i64 r4,.slice A np c]:=by rw[<-jD];exact Has.new _ _ _
 have hc4:=H.out.quiet (hk3.then hk4);have Ws:=hsr.kept hk4 (fun _ _ z=>z);have zf:=ah (And.intro Ws hA);have HC4:=ah hc4;have iU:=ah (hk3.then hk4);cases dn
 ·have hs:=HS.out;rw[if_neg (by decide)]at hs;have HS2:=ah hs;clear hs hsr hk3 hk4 hb4 hc4 Ws hA;go_wp2;clear jD;go_end0;exact⟨rfl,Y,by rw[HS2.out];exact aW.refl H.out iU.out⟩
 ·have hs:=HS.out;rw[if_pos rfl]at hs;have HS2:=ah hs;have b0:=hb4.cell 0;have b1:=hb4.cell 1;have b2:=hb4.cell 2;have b3:=hb4.cell 3;have b4:=hb4.cell 4;simp at b0 b1 b2 b3 b4;have hcb:=hc4.b;rw[cu.out]at hcb;have y4:W4.cell? ⟨cb,4,none⟩=some (jc Y C):=hcb.cell 4;have y5:W4.cell? ⟨cb,5,none⟩=some (.int .i64 C.r.req):=hcb.cell 5;have y6:W4.cell? ⟨cb,6,none⟩=some (.int .i64 C.r.e):=hcb.cell 6;have y7:W4.cell? ⟨cb,7,none⟩=some (.int .u64 C.r.at'):=hcb.cell 7;have y8:W4.cell? ⟨cb,8,none⟩=some (.int .i64 C.r.pin):=hcb.cell 8;have y9:W4.cell? ⟨cb,9,none⟩=some (.slice Y.rA C.r.ps.length Y.rc):=hcb.cell 9;have LW:W4.cell? ⟨cb,10,none⟩=some (.bool C.has):=hcb.cell 10;have f4:=hcb.frozen 4;have f5:=hcb.frozen 5;have f6:=hcb.frozen 6;have f7:=hcb.frozen 7;have f8:=hcb.frozen 8;have f9:=hcb.frozen 9;have f10:=hcb.frozen 10;have HB:=ah hcb;clear hs hsr hk3 hk4 hb4 hc4 Ws hA hcb;go_wp2;clear jD;go_end0;have hnp:=zO.out;subst hnp;have hA:=zf.out.2 (by first|rfl|trivial);have Xr:∀k,P8 A r5.length k->dN Y.dx t k:=fun k hk=>by obtain⟨h0,ad,e,rfl⟩:=hk;exact dX.out.1 ad (hA▸e) (by first|rfl|trivial) _ (dX.out.2.2 (by first|rfl|trivial)) h0
  have hkc:∀v4 v5 v6 v7 v8 v9 v10,Kept (fun k=>k=cb) W4 (((((((W4.setCell ⟨cb,5,none⟩ v5).setCell ⟨cb,6,none⟩ v6).setCell ⟨cb,7,none⟩ v7).setCell ⟨cb,8,none⟩ v8).setCell ⟨cb,9,none⟩ v9).setCell ⟨cb,10,none⟩ v10).setCell ⟨cb,4,none⟩ v4):=fun v4 v5 v6 v7 v8 v9 v10=>by(repeat'(first|(with_reducible first|exact ay|apply aA|apply aB|apply aC|apply aF)|(exact Or.inl rfl)|(right;simp;done)))
  refine⟨rfl,{Y with rA:=A,rc:=c},?_⟩;rw[HS2.out];refine⟨⟨?_,(fun t e=>by cases e),?_,fun k hk=>⟨(dX.out.2.1 k (Xr k hk)).1,(fun t e=>by cases e),(dX.out.2.1 k (Xr k hk)).2⟩,?_,fun k hk=>⟨(H.out.ao k hk).1,fun t e=>by cases e⟩⟩,rfl,fun k hk=> ?_,?_⟩
  ·show Has _ Y.cb _ _;rw[cu.out];exact Has.aQ (Has.aQ (Has.aQ (Has.aQ (Has.aQ (Has.aQ (Has.aQ HB.out rfl) rfl) rfl) rfl) rfl) rfl) rfl
  ·exact Rm.vC zf.out.1 (hkc _ _ _ _ _ _ _) (fun k e hr=>(dX.out.2.1 k (Xr k hr)).1 (e.trans cu.out.symm))
  ·exact aP HC4.out.o (hkc _ _ _ _ _ _ _) (fun k hk e=>(H.out.ao k hk).1 (e.trans cu.out.symm))
  ·rcases hk with y|⟨t,e,-⟩|y|y
   ·exact .inl (.inl y)
   ·cases e
   ·exact .inl (.inr (.inr (.inl y)))
   ·exact .inl (.inr (.inl ⟨t,HT.out,Xr k y⟩))
  ·exact(Kept.yM iU.out).trans (hkc _ _ _ _ _ _ _) (fun k e=> .inl (.inl (e.trans cu.out.symm)))
