/- Part 10. -/
import Derived.Test.YtgbigpdiacjbgaaGreatKP08
set_option linter.unusedSimpArgs false
set_option linter.unusedVariables false
set_option maxHeartbeats 32000000
set_option maxRecDepth 100000
namespace Go.Proofs.YtgbigpdiacjbgaaGreat
open Go.RowKit
namespace Ask
open bg Ops fG eP MO Vn
section
variable{w w':World}{X:PX}{t:TS}{G:Nat->Prop}
structure F9(w:World)(F:Nat->Prop)(x:aO):Prop where
 s:Src w 2 x.pA x.ps.length (bI x.ps)
 l:x.ps.length<=x.pc/\x.pc<=maxLen
 off:0<x.ps.length->∀ad,x.pA=some ad->¬F ad.block
 k:∀y∈x.ps,y.key.size<=maxLen
theorem yu(l:List iC)(k:Nat):(bI l).take (k*2)=bI (l.take k):=by
 unfold bI;induction l generalizing k with
 |nil=>simp
 |cons a l ih=>
  cases k with
  |zero=>simp
  |succ k=>
   rw[List.take_succ_cons,List.flatMap_cons,List.flatMap_cons,<-ih k,show(k+1)*2=(k*2+1)+1 by omega];unfold Az;simp
theorem DJ(hok:mV t)(hk2:t.a.k=2)(x:aO):((lM t x).length:Int)=min (x.ps.length:Int) (mZ t)/\(lM t x).length<=2/\0<=mZ t/\(t.ps.length+(lM t x).length:Nat)<=t.a.n:=by
 have h1:=hok.n1 hk2;have h2:=hok.ps.2 hk2;have hs:mZ t=min 2 (t.a.n-t.ps.length):=rfl;have hl:(lM t x).length=min (mZ t).toNat x.ps.length:=by unfold lM;rw[List.length_take]
 omega
theorem Gf(l m:List iC):bI (l++m)=bI l++bI m:=by unfold bI;rw[List.flatMap_append]
theorem kN.Gg{w4 w5:World}{A5:Option Addr}{c5:Nat}{L:List iC}(h4:kN w4 X t)(h1:t.ph=1)(hnd:t.dn=false)(ho:w5.ownsRow 0 84 2 (.slice A5 (t.ps.length+L.length) c5) (t.ps.length+L.length) (bI t.ps++bI L))
  (hg:w4.grownBy w5 (Value.slice X.pA t.ps.length X.pc).ownBlock) (ha:(Value.slice A5 (t.ps.length+L.length) c5).ownBlock=(Value.slice X.pA t.ps.length X.pc).ownBlock\/(Value.slice A5 (t.ps.length+L.length) c5).ownBlock=some w4.heap.size):
  kN ((w5.setCell ⟨X.g,12,none⟩ (.slice A5 (t.ps.length+L.length) c5)).setCell ⟨X.b,2,none⟩ (.int .i64 0)) {X with pA:=A5,pc:=c5} {t with ps:=t.ps++L,waits:=0}/\Kept (jW X t) w4 ((w5.setCell ⟨X.g,12,none⟩ (.slice A5 (t.ps.length+L.length) c5)).setCell ⟨X.b,2,none⟩ (.int .i64 0))/\
   ∀k,jW {X with pA:=A5,pc:=c5} {t with ps:=t.ps++L,waits:=0} k->jW X t k\/w4.heap.size<=k:=by
 have hkr:Kept (fun k=>(Value.slice X.pA t.ps.length X.pc).ownBlock=some k) w4 w5:=(Kept.refl _ _).grown hg (fun k hk=> .inl hk);have hg4:=h4.g h1;have hgb:X.g≠X.b:=fun e=>Has.ne hg4 h4.b (by decide) e;have g5:=hg4.kept hkr (fun e=>own_ne h4.p hg4 (by decide) e);have b5:=h4.b.kept hkr (fun e=>own_ne h4.p h4.b (by decide) e);have hk6:Kept (fun k=>k=X.g\/k=X.b) w5 ((w5.setCell ⟨X.g,12,none⟩ (.slice A5 (t.ps.length+L.length) c5)).setCell ⟨X.b,2,none⟩ (.int .i64 0)):=by(repeat'(first|(with_reducible first|exact ay|apply aA|apply aB|apply aC|apply aF)|(first|exact .inl (.inl rfl)|exact .inl (.inr rfl))|(right;simp;done)))
 have hlen:(t.ps++L).length=t.ps.length+L.length:=lA0
 have hnew:∀{e:TypeId} {size n:Nat} {v:Value} {xs:List Value},w5.ownsRow 0 e size v n xs->e≠109->e≠114->((w5.setCell ⟨X.g,12,none⟩ (.slice A5 (t.ps.length+L.length) c5)).setCell ⟨X.b,2,none⟩ (.int .i64 0)).ownsRow 0 e size v n xs:=fun ho he he2=>aP ho hk6 (fun k hk3 e2=>by
  rcases e2 with e2|e2
  ·exact own_ne ho g5 he2 (e2▸hk3)
  ·exact own_ne ho b5 he (e2▸hk3))
 have UM:=h4.nd hnd;refine⟨⟨?_,fun _=> ?_,fun e=>absurd h1 e,hnew (aP h4.bo hkr (fun k hk e=> ?_)) (by decide) (by decide),?_,?_,h4.nd⟩,?_,?_⟩
 ·exact(b5.past (i:=12) (u:=.slice A5 (t.ps.length+L.length) c5) (fun e=>hgb e.symm)).put 2 (.int .i64 0)
 ·have hx:=(g5.put 12 (.slice A5 (t.ps.length+L.length) c5)).past (b:=X.b) (i:=2) (u:=.int .i64 0) hgb;have e:rJ {X with pA:=A5,pc:=c5} {t with ps:=t.ps++L,waits:=0}=(rJ X t).setIfInBounds 12 (.slice A5 (t.ps.length+L.length) c5):=by unfold rJ fM;dsimp only;rw[hlen];rfl
  rw[e];exact hx
 ·have pX:=h4.bo;have hp:=h4.p;rcases pX.2 with⟨h3,_⟩|⟨g,cap,cur,h3,_,hh,_⟩
  ·rw[h3]at hk;cases hk
  ·rw[h3]at hk;simp[Value.ownBlock]at hk;subst hk;exact own_ne hp hh (by decide) e
 ·show World.ownsRow _ 0 84 2 (.slice A5 (t.ps++L).length c5) (t.ps++L).length (bI (t.ps++L));rw[hlen,Gf];exact hnew ho (by decide) (by decide)
 ·show World.ownsRow _ 0 84 2 (.slice X.rA t.r.ps.length X.rc) t.r.ps.length (bI t.r.ps);rw[UM.1,UM.2.1,UM.2.2];exact⟨rfl,.inl ⟨rfl,rfl⟩⟩
 ·refine(hkr.mono (fun k hk=> .inr (.inr (.inl hk)))).then (hk6.mono (fun k hk=> ?_));rcases hk with e|e
  ·exact .inr (.inl e)
  ·exact .inl e
 ·intro k hk;rcases hk with e|e|e|e|e
  ·exact .inl (.inl e)
  ·exact .inl (.inr (.inl e))
  ·have e2:(Value.slice A5 (t.ps++L).length c5).ownBlock=some k:=e;rw[hlen]at e2;rcases ha with e3|e3
   ·exact .inl (.inr (.inr (.inl (e3.symm.trans e2))))
   ·rw[e2]at e3;injection e3 with e3;exact .inr (by omega)
  ·exact .inl (.inr (.inr (.inr (.inl e))))
  ·exact .inl (.inr (.inr (.inr (.inr e))))
theorem UN(h:kN w X t)(h1:t.ph=1)(hnd:t.dn=false)(hok:mV t)(hk2:t.a.k=2)(x:aO)(hx:F9 w (jW X t) x):Calls Tryz.prog 213 #[.pointer (some ⟨X.g,0,none⟩),.pointer (some ⟨X.b,0,none⟩),aK x] w (dY w X t (.bool (ig t x).2) (ig t x).1):=by
 obtain⟨hL,hL2,hs0,hLn⟩:=DJ hok hk2 x;obtain⟨W0,hW0⟩:∃W0,w.alloc (.cells (au x).toArray 63)=W0:=⟨_,rfl⟩;have hk0:Kept aj w W0:=by rw[<-hW0];(repeat'(first|(with_reducible first|exact ay|apply aA|apply aB|apply aC|apply aF)|(right;simp;done)))
 have hn0:Has W0 w.heap.size 63 (au x).toArray:=by rw[<-hW0];exact Has.new _ _ _
 have h0:=h.quiet hk0;have hsz:=fun W (hW:Kept aj W0 W)=>IU (h0.quiet hW) h1 hok;have UO:∀W,Kept aj W0 W->W.cell? ⟨w.heap.size,21,none⟩=some (.slice x.pA x.ps.length x.pc)/\W.cell? ⟨w.heap.size,4,none⟩=some (.bool x.fl):=fun W hW=>⟨(hn0.kept hW (fun z=>z)).cell 21,(hn0.kept hW (fun z=>z)).cell 4⟩;obtain⟨L,Gh⟩:∃L,lM t x=L:=⟨_,rfl⟩;obtain⟨sz,Fv⟩:∃sz,mZ t=sz:=⟨_,rfl⟩;have Kv:L=x.ps.take L.length:=by
  rw[<-Gh];unfold lM;rw[List.length_take];rcases Nat.le_total (mZ t).toNat x.ps.length with e|e
  ·rw[Nat.min_eq_left e]
  ·rw[Nat.min_eq_right e,List.take_length,List.take_of_length_le e]
 rw[Gh]at hL hL2 hLn;rw[Fv]at hL hs0;simp only[Fv]at hsz;obtain⟨m,hm⟩:∃m,L.length=m:=⟨_,rfl⟩;rw[hm]at hL hL2 hLn Kv;have hmn:=rU (x.ps.length:Int) sz (m:Int) hL.symm;have Bd:m<=x.ps.length:=by omega
 have hmc:m<=x.pc:=Nat.le_trans Bd hx.l.1;obtain⟨n,hn⟩:∃n,x.ps.length=n:=⟨_,rfl⟩;have HX:=ah hx;have jm:=ah Kv;have sH:=ah hsz;have HH:=ah h;have aS:=ah hk0;have uN:=ah UO;have HH0:=ah h0;have HL2:=ah (And.intro hL2 hLn);have iK:=ah (And.intro h1 (And.intro hnd hk2));have wL:=ah hok;have dZ:=ah hn0;have pY:=ah hm;have yJ:=ah Gh;have m21:=(UO W0 (Kept.refl _ _)).1;have hl1:=hx.l.1;have hl2:=hx.l.2;rw[hn]at hmn Bd m21 hl1;have lJ:=ah hn;unfold au at hW0;unfold aK au;rw[hn]at hW0⊢;simp only[hn]at uN;obtain⟨gb,hgb⟩:∃gb,X.g=gb:=⟨_,rfl⟩;simp only[hgb]at sH;rw[hgb];have zS:=ah hgb;unfold maxLen at hl2;clear h h1 hnd hok hk2 hx hL hL2 hs0 hLn hk0 hn0 h0 hsz UO Gh Fv Kv hm hn hgb;go_enter Tryz.func213,Tryz.ntmps213;go_wp2_with fail
 go_region_held3 (fun W=>W.cell? ⟨w.heap.size,21,none⟩=some (.slice x.pA n x.pc))
  (first|with_reducible exact m21|with_reducible exact y4|exact m21)
  (first|(go_at_call 211;refine(sH.out _ (by(repeat'(first|(with_reducible first|exact ay|apply aA|apply aB|apply aC|apply aF)|(right;simp;done))))).mono ?_;rintro e w4 ⟨rfl,hk4⟩;have hk:=Kept.then (F:=aj) (a:=W0) (by(repeat'(first|(with_reducible first|exact ay|apply aA|apply aB|apply aC|apply aF)|(right;simp;done)))) hk4;have y4:=(uN.out w4 hk).1;have iU:=ah hk;clear hk hk4))
 clear hW0 m21 hmn y4;have DK:=aS.out.then iU.out;have h4:=HH.out.quiet DK;have hg4:=h4.g iK.out.1;obtain⟨q,hq⟩:∃q,t.ps.length=q:=⟨_,rfl⟩;have q12:w4.cell? ⟨gb,12,none⟩=some (.slice X.pA q X.pc):=by rw[<-zS.out,<-hq];exact hg4.cell 12
 have abj:w4.frozen? ⟨gb,12,none⟩=false:=by rw[<-zS.out];exact hg4.frozen 12
 have hown:=h4.p;rw[hq]at hown;have hsrc:Src w4 2 x.pA m (bI L):=by have s1:=(HX.out.s.kept DK (fun _ _ z=>z)).take (k:=m) (by rw[lJ.out];exact Bd);rw[yu,<-jm.out]at s1;exact s1
 have hb1:q+m<=maxLen:=by have:=wL.out.ps.1;have:=HL2.out.1;unfold maxLen;omega
 have hb2:(q+m)*32<=140737488355328:=by have:=wL.out.ps.1;have:=HL2.out.1;omega
 have HOW:=ah hown;have zf:=ah hsrc;have HB1:=ah hb1;have HB2:=ah hb2;have HQ:=ah hq;have mW:=ah DK;have H4:=ah h4;have YN:=ah hg4;clear hown hsrc hb1 hb2 hq DK h4 hg4;obtain⟨bb,hbb⟩:∃bb,X.b=bb:=⟨_,rfl⟩;have hne:gb≠bb:=fun e=>by rw[<-zS.out,<-hbb]at e;exact Has.ne YN.out H4.out.b (by decide) e
 have fF:=ah hbb;rw[hbb];clear hbb;go_wp2_with (at_builtin;refine bH pW (.tmp 22) (.tmp 23) rfl rfl (Value.slice X.pA q X.pc) rfl HOW.out x.pc rfl zf.out (uJ L) HB1.out HB2.out ?_;intro A5 c5 w5 vO hg5 tu;have hkr:Kept (fun k=>(Value.slice X.pA q X.pc).ownBlock=some k) w4 w5:=(Kept.refl _ _).grown hg5 (fun k hk=> .inl hk);have fJ:=YN.out.kept hkr (fun e=>own_ne HOW.out YN.out (by decide) e);have hb6:=H4.out.b.kept hkr (fun e=>own_ne HOW.out H4.out.b (by decide) e);have e2:w5.frozen? ⟨bb,2,none⟩=false:=(by rw[<-fF.out];exact hb6.frozen 2);have e3:w5.frozen? ⟨gb,12,none⟩=false:=(by rw[<-zS.out];exact fJ.frozen 12);have z2:w5.cell? ⟨bb,2,none⟩=some (.int .i64 t.waits):=(by rw[<-fF.out];exact hb6.cell 2);have z12:w5.cell? ⟨gb,12,none⟩=some (.slice X.pA q X.pc):=(by rw[<-zS.out,<-HQ.out];exact fJ.cell 12);have JU:=ah hkr;have HG6:=ah fJ;have jS:=ah hb6;clear hkr fJ hb6;have qY:=ah (And.intro vO (And.intro hg5 tu));clear vO hg5 tu);have hmid:=kN.Gg (L:=L) H4.out iK.out.1 iK.out.2.1 (by rw[HQ.out,pY.out];exact qY.out.1) (by rw[HQ.out];exact qY.out.2.1) (by rw[HQ.out,pY.out];exact qY.out.2.2);rw[HQ.out,pY.out,zS.out,fF.out]at hmid;obtain⟨W6,pZ⟩:∃W6,((w5.setCell ⟨gb,12,none⟩ (.slice A5 (q+m) c5)).setCell ⟨bb,2,none⟩ (.int .i64 0))=W6:=⟨_,rfl⟩;rw[pZ]at hmid⊢;obtain⟨h6,sD,hgrow⟩:=hmid;have fJ:=h6.g iK.out.1;have hlen:(t.ps++L).length=q+m:=by rw[lA0,HQ.out,pY.out]
 have hbox:=(dZ.out.kept iU.out (fun z=>z)).kept sD (fun hf=>by have:=HH.out.lt hf;omega);have u4:W6.cell? ⟨w.heap.size,4,none⟩=some (.bool x.fl):=hbox.cell 4;have v8:W6.cell? ⟨gb,8,none⟩=some (.int .i64 t.a.n):=fJ.cell 8;have v10:W6.cell? ⟨gb,10,none⟩=some (.int .u64 t.at'):=fJ.cell 10;have v11:W6.cell? ⟨gb,11,none⟩=some (.string t.key):=fJ.cell 11;have YO:=fJ.frozen 11;have v12:W6.cell? ⟨gb,12,none⟩=some (.slice A5 (q+m) c5):=by rw[<-hlen];exact fJ.cell 12
 have hgo:jC t x=(x.fl&&(decide (0<m)&&(decide ((q+m:Nat)<t.a.n)&&decide (fQ L≠emp)))):=by unfold jC;rw[yJ.out,pY.out,HQ.out]
 have hF:jC t x=false->ig t x=(eG {t with ps:=t.ps++L,waits:=0} ⟨0,0,t.at',0,t.ps++L⟩,false):=fun e=>by unfold ig;rw[if_neg (by rw[e];decide),yJ.out]
 have hT:jC t x=true->ig t x=({t with ps:=t.ps++L,waits:=0,key:=fQ L},true):=fun e=>by unfold ig;rw[if_pos e,yJ.out]
 have hend:=fun W (hW:Kept aj W6 W)=>qO (h6.quiet hW) ⟨0,0,t.at',0,t.ps++L⟩ A5 c5 ((h6.quiet hW).p);unfold nV iO at hend;dsimp only at hend;simp only[hlen]at hend;have hfin:∀W w7 (e:Ending),Kept aj W6 W->kN w7 {b:=bb,g:=gb,bA:=X.bA,bc:=X.bc,pA:=A5,pc:=c5,rA:=A5,rc:=c5} (eG {t with ps:=t.ps++L,waits:=0} ⟨0,0,t.at',0,t.ps++L⟩)->Kept (fun k=>k=bb) W w7->∀w8,Kept aj w7 w8->jC t x=false->dY w X t (.bool (ig t x).2) (ig t x).1 (.returned (.bool false)) w8:=fun W w7 e hW hp hk w8 hk8 xZ=>by
  rw[hF xZ];refine⟨rfl,_,hp.quiet hk8,fF.out.symm,fun k hk=> ?_,?_⟩
  ·have hk3:jW {b:=bb,g:=gb,bA:=X.bA,bc:=X.bc,pA:=A5,pc:=c5,rA:=X.rA,rc:=X.rc} {t with ps:=t.ps++L,waits:=0} k:=by
    rcases hk with e|e|e|e|e
    ·exact .inl e
    ·exact .inr (.inl e)
    ·exact .inr (.inr (.inl e))
    ·exact .inr (.inr (.inr (.inl e)))
    ·exact .inr (.inr (.inl e))
   rcases hgrow k hk3 with e|e
   ·exact .inl e
   ·exact .inr (Nat.le_trans mW.out.size e)
  ·exact(((mW.out.mono (fun _ z=>z.elim)).then sD).then (hW.mono (fun _ z=>z.elim))).then (hk.mono (fun k e=> .inl (e.trans fF.out.symm)))|>.then (hk8.mono (fun _ z=>z.elim))
 have aX:=ah hend;have bF:=ah hfin;have H6:=ah h6;have zT:=ah sD;have EU:=ah hgrow;have jH:=ah hgo;have uO:=ah hT;have eH:=ah hlen;clear hend hfin hgrow hgo hF hT h6 hlen pZ hbox fJ e2 e3 z2 z12 q12 abj;cases hfl:x.fl with
 |false=>
  rw[hfl]at u4;have wM:=ah hfl;clear hfl;go_quiet (fail);go_wp2
  go_region_held3 (fun W=>W.cell? ⟨gb,10,none⟩=some (.int .u64 t.at')/\W.cell? ⟨gb,12,none⟩=some (.slice A5 (q+m) c5))
   (first|with_reducible exact y7|with_reducible exact⟨v10,v12⟩|exact⟨v10,v12⟩)
   (first|(go_at_call 67;refine(aX.out _ (by(repeat'(first|(with_reducible first|exact ay|apply aA|apply aB|apply aC|apply aF)|(right;simp;done))))).mono ?_;rintro e w7 ⟨rfl,bY,aZ⟩;have y7:w7.cell? ⟨gb,10,none⟩=some (.int .u64 t.at')/\w7.cell? ⟨gb,12,none⟩=some (.slice A5 (q+m) c5):=And.intro ((bY.g iK.out.1).cell 10) (eH.out▸(bY.g iK.out.1).cell 12);have jh:=ah bY;have jd:=ah aZ;clear bY aZ))
  all_goals
   go_wp2
   go_ret
   exact bF.out _ _ (.returned (.bool false)) (by(repeat'(first|(with_reducible first|exact ay|apply aA|apply aB|apply aC|apply aF)|(right;simp;done)))) jh.out jd.out _ (Kept.refl _ _) (by rw[jH.out];rw[wM.out];rfl)
 |true=>
  rw[hfl]at u4;have wM:=ah hfl;clear hfl;by_cases hm0:m=0
  ·have zh:=ah hm0;have hc0:¬0<m:=by omega
   clear hm0;go_quiet (fail);go_wp2
   go_region_held3 (fun W=>W.cell? ⟨gb,10,none⟩=some (.int .u64 t.at')/\W.cell? ⟨gb,12,none⟩=some (.slice A5 (q+m) c5))
    (first|with_reducible exact y7|with_reducible exact⟨v10,v12⟩|exact⟨v10,v12⟩)
    (first|(go_at_call 67;refine(aX.out _ (by(repeat'(first|(with_reducible first|exact ay|apply aA|apply aB|apply aC|apply aF)|(right;simp;done))))).mono ?_;rintro e w7 ⟨rfl,bY,aZ⟩;have y7:w7.cell? ⟨gb,10,none⟩=some (.int .u64 t.at')/\w7.cell? ⟨gb,12,none⟩=some (.slice A5 (q+m) c5):=And.intro ((bY.g iK.out.1).cell 10) (eH.out▸(bY.g iK.out.1).cell 12);have jh:=ah bY;have jd:=ah aZ;clear bY aZ))
   all_goals
    go_wp2
    go_ret
    exact bF.out _ _ (.returned (.bool false)) (by(repeat'(first|(with_reducible first|exact ay|apply aA|apply aB|apply aC|apply aF)|(right;simp;done)))) jh.out jd.out _ (Kept.refl _ _) (by rw[jH.out];rw[zh.out];simp)
  have hc0:0<m:=by omega
  by_cases AB:((q+m:Nat):Int)<t.a.n;rotate_left
  ·have Dc:=ah AB;have hc1:¬(q:Int)+(m:Int)<t.a.n:=by omega
   clear AB;go_quiet (fail);go_wp2
   go_region_held3 (fun W=>W.cell? ⟨gb,10,none⟩=some (.int .u64 t.at')/\W.cell? ⟨gb,12,none⟩=some (.slice A5 (q+m) c5))
    (first|with_reducible exact y7|with_reducible exact⟨v10,v12⟩|exact⟨v10,v12⟩)
    (first|(go_at_call 67;refine(aX.out _ (by(repeat'(first|(with_reducible first|exact ay|apply aA|apply aB|apply aC|apply aF)|(right;simp;done))))).mono ?_;rintro e w7 ⟨rfl,bY,aZ⟩;have y7:w7.cell? ⟨gb,10,none⟩=some (.int .u64 t.at')/\w7.cell? ⟨gb,12,none⟩=some (.slice A5 (q+m) c5):=And.intro ((bY.g iK.out.1).cell 10) (eH.out▸(bY.g iK.out.1).cell 12);have jh:=ah bY;have jd:=ah aZ;clear bY aZ))
   all_goals
    go_wp2
    go_ret
    exact bF.out _ _ (.returned (.bool false)) (by(repeat'(first|(with_reducible first|exact ay|apply aA|apply aB|apply aC|apply aF)|(right;simp;done)))) jh.out jd.out _ (Kept.refl _ _) (by rw[jH.out];rw[decide_eq_false (show¬((q+m:Nat):Int)<t.a.n by have:=Dc.out;omega)];simp)
  have Dc:=ah AB;have hc1:(q:Int)+(m:Int)<t.a.n:=by omega
  clear AB;go_quiet (fail);rcases(show m=1\/m=2 by have:=HL2.out.1;omega)with rfl|rfl
  ·obtain⟨p,hp⟩:∃p,L[0]? =some p:=⟨_,lB0 (by rw[pY.out];decide)⟩;have hnk:fQ L=fE (Keys.nextL (bl p.key)):=by unfold fQ;rw[List.getLast?_eq_getElem?,pY.out];show(match L[0]? with|none=>emp|some p=>fE (Keys.nextL (bl p.key)))=_;rw[hp]
   have Kw:Src W6 2 x.pA 1 (bI L):=BG zf.out zT.out (fun _=>HX.out.off (by rw[lJ.out];omega));obtain⟨ad,tV,had,hcell0,-⟩:=pair_cells Kw (by decide) 0 p hp
   have hpk:p.key.size<=maxLen:=HX.out.k p (by have h9:=lC0 hp;rw[jm.out]at h9;exact List.mem_of_mem_take h9)
   have hkn:=fun W=>Keys.next_any p.key W hpk;have Df:=ah hkn;have Ky:=ah hnk;clear hkn hnk Kw had hpk hp;have hcell1:W6.cell? ad=some (.string p.key):=by rw[show ad.add (0*2)=ad by unfold Addr.add;rfl]at hcell0;exact hcell0
   rw[tV];clear tV;go_wp2_with fail;refine(Df.out _).mono ?_;rintro e w7 ⟨s',rfl,hs',hb7⟩;have aZ:Kept aj W6 w7:=Kept.then (b:=W6.drewN nq) (by(repeat'(first|(with_reducible first|exact ay|apply aA|apply aB|apply aC|apply aF)|(right;simp;done)))) ⟨hb7.os,hb7.tape,hb7.output,hb7.size,fun k hk _=>hb7.block k hk⟩;have hse:s'=fQ L:=by rw[Ky.out];exact yH (by rw[lH];exact hs')
   have w10:w7.cell? ⟨gb,10,none⟩=some (.int .u64 t.at'):=((H6.out.quiet aZ).g iK.out.1).cell 10;have iP:w7.cell? ⟨gb,11,none⟩=some (.string t.key):=((H6.out.quiet aZ).g iK.out.1).cell 11;have w12:w7.cell? ⟨gb,12,none⟩=some (.slice A5 (q+1) c5):=eH.out▸((H6.out.quiet aZ).g iK.out.1).cell 12;have abk:=((H6.out.quiet aZ).g iK.out.1).frozen 11;have mQ:=ah aZ;have iq:=ah hse;clear hb7 aZ hs' hse v8 v10 v11 v12 YO u4 hcell0 hcell1;by_cases hs0:s'=emp
   ·have hsb:(s'.toList==(⟨#[]⟩:ByteArray).toList)=true:=by rw[oG];exact decide_eq_true hs0
    have Fz:s'.toList.isEmpty=true:=by rw[hs0];unfold emp;simp
    have qP:=ah hs0;clear hs0;go_wp2
    go_region_held3 (fun W=>W.cell? ⟨gb,10,none⟩=some (.int .u64 t.at')/\W.cell? ⟨gb,12,none⟩=some (.slice A5 (q+1) c5))
     (first|with_reducible exact y7|with_reducible exact⟨w10,w12⟩|exact⟨w10,w12⟩)
     (first|(go_at_call 67;refine(aX.out _ (by(repeat'(first|(with_reducible first|exact ay|apply aA|apply aB|apply aC|apply aF)|(exact mQ.out)|(right;simp;done))))).mono ?_;rintro e w7 ⟨rfl,bY,aZ⟩;have y7:w7.cell? ⟨gb,10,none⟩=some (.int .u64 t.at')/\w7.cell? ⟨gb,12,none⟩=some (.slice A5 (q+1) c5):=And.intro ((bY.g iK.out.1).cell 10) (eH.out▸(bY.g iK.out.1).cell 12);have jh:=ah bY;have jd:=ah aZ;clear bY aZ))
    all_goals
     go_wp2
     go_ret
     exact bF.out _ _ (.returned (.bool false)) (by(repeat'(first|(with_reducible first|exact ay|apply aA|apply aB|apply aC|apply aF)|(exact mQ.out)|(right;simp;done)))) jh.out jd.out _ (Kept.refl _ _) (by rw[jH.out];rw[decide_eq_false (show¬fQ L≠emp from fun e=>e (iq.out.symm.trans qP.out))];simp)
   ·have hsb:(s'.toList==(⟨#[]⟩:ByteArray).toList)=false:=by rw[oG];exact decide_eq_false hs0
    have Fz:s'.toList.isEmpty=false:=by
     rw[<-Bool.not_eq_true,List.isEmpty_iff];intro e;apply hs0;have h9:(s'.toList==emp.toList)=true:=by rw[e];unfold emp;simp
     rw[oG]at h9;exact of_decide_eq_true h9
    have qP:=ah hs0;clear hs0;go_wp2;go_ret;have FB:jC t x=true:=by rw[jH.out,wM.out,decide_eq_true Dc.out,decide_eq_true (show 0<1 by decide),decide_eq_true (show fQ L≠emp from fun e=>qP.out (iq.out.trans e))];rfl
    rw[uO.out FB,<-iq.out];have h7:=H6.out.quiet mQ.out;have hk8:Kept (fun k=>k=gb) w7 (w7.setCell ⟨gb,11,none⟩ (.string s')):=by(repeat'(first|(with_reducible first|exact ay|apply aA|apply aB|apply aC|apply aF)|(exact .inl rfl)|(right;simp;done)))
    have E4:=(h7.g iK.out.1).put 11 (.string s');have FC:∀{e:TypeId} {size n:Nat} {v:Value} {xs:List Value},w7.ownsRow 0 e size v n xs->e≠114->(w7.setCell ⟨gb,11,none⟩ (.string s')).ownsRow 0 e size v n xs:=fun ho he=>aP ho hk8 (fun k hk3 e2=>own_ne ho (h7.g iK.out.1) he (e2▸hk3));refine⟨rfl,{b:=bb,g:=gb,bA:=X.bA,bc:=X.bc,pA:=A5,pc:=c5,rA:=X.rA,rc:=X.rc},⟨h7.b.past (fun e=>hne e.symm),fun _=> ?_,fun e=>absurd iK.out.1 e,FC h7.bo (by decide),FC h7.p (by decide),FC h7.r (by decide),h7.nd⟩,fF.out.symm,fun k hk=> ?_,?_⟩
    ·exact E4
    ·rcases EU.out k hk with e|e
     ·exact .inl e
     ·exact .inr (Nat.le_trans mW.out.size e)
    ·exact(((mW.out.mono (fun _ z=>z.elim)).then zT.out).then (mQ.out.mono (fun _ z=>z.elim))).then (hk8.mono (fun k e=> .inr (.inl (e.trans zS.out.symm))))
  ·obtain⟨p,hp⟩:∃p,L[1]? =some p:=⟨_,lB0 (by rw[pY.out];decide)⟩;have hnk:fQ L=fE (Keys.nextL (bl p.key)):=by unfold fQ;rw[List.getLast?_eq_getElem?,pY.out];show(match L[1]? with|none=>emp|some p=>fE (Keys.nextL (bl p.key)))=_;rw[hp]
   have Kw:Src W6 2 x.pA 2 (bI L):=BG zf.out zT.out (fun _=>HX.out.off (by rw[lJ.out];omega));obtain⟨ad,tV,had,hcell0,-⟩:=pair_cells Kw (by decide) 1 p hp
   have hpk:p.key.size<=maxLen:=HX.out.k p (by have h9:=lC0 hp;rw[jm.out]at h9;exact List.mem_of_mem_take h9)
   have hkn:=fun W=>Keys.next_any p.key W hpk;have Df:=ah hkn;have Ky:=ah hnk;clear hkn hnk Kw had hpk hp;have hcell1:W6.cell? ⟨ad.block,ad.off+2,none⟩=some (.string p.key):=by rw[add_lit _ (by decide)]at hcell0;exact hcell0
   rw[tV];clear tV;go_wp2_with fail;refine(Df.out _).mono ?_;rintro e w7 ⟨s',rfl,hs',hb7⟩;have aZ:Kept aj W6 w7:=Kept.then (b:=W6.drewN nq) (by(repeat'(first|(with_reducible first|exact ay|apply aA|apply aB|apply aC|apply aF)|(right;simp;done)))) ⟨hb7.os,hb7.tape,hb7.output,hb7.size,fun k hk _=>hb7.block k hk⟩;have hse:s'=fQ L:=by rw[Ky.out];exact yH (by rw[lH];exact hs')
   have w10:w7.cell? ⟨gb,10,none⟩=some (.int .u64 t.at'):=((H6.out.quiet aZ).g iK.out.1).cell 10;have iP:w7.cell? ⟨gb,11,none⟩=some (.string t.key):=((H6.out.quiet aZ).g iK.out.1).cell 11;have w12:w7.cell? ⟨gb,12,none⟩=some (.slice A5 (q+2) c5):=eH.out▸((H6.out.quiet aZ).g iK.out.1).cell 12;have abk:=((H6.out.quiet aZ).g iK.out.1).frozen 11;have mQ:=ah aZ;have iq:=ah hse;clear hb7 aZ hs' hse v8 v10 v11 v12 YO u4 hcell0 hcell1;by_cases hs0:s'=emp
   ·have hsb:(s'.toList==(⟨#[]⟩:ByteArray).toList)=true:=by rw[oG];exact decide_eq_true hs0
    have Fz:s'.toList.isEmpty=true:=by rw[hs0];unfold emp;simp
    have qP:=ah hs0;clear hs0;go_wp2
    go_region_held3 (fun W=>W.cell? ⟨gb,10,none⟩=some (.int .u64 t.at')/\W.cell? ⟨gb,12,none⟩=some (.slice A5 (q+2) c5))
     (first|with_reducible exact y7|with_reducible exact⟨w10,w12⟩|exact⟨w10,w12⟩)
     (first|(go_at_call 67;refine(aX.out _ (by(repeat'(first|(with_reducible first|exact ay|apply aA|apply aB|apply aC|apply aF)|(exact mQ.out)|(right;simp;done))))).mono ?_;rintro e w7 ⟨rfl,bY,aZ⟩;have y7:w7.cell? ⟨gb,10,none⟩=some (.int .u64 t.at')/\w7.cell? ⟨gb,12,none⟩=some (.slice A5 (q+2) c5):=And.intro ((bY.g iK.out.1).cell 10) (eH.out▸(bY.g iK.out.1).cell 12);have jh:=ah bY;have jd:=ah aZ;clear bY aZ))
    all_goals
     go_wp2
     go_ret
     exact bF.out _ _ (.returned (.bool false)) (by(repeat'(first|(with_reducible first|exact ay|apply aA|apply aB|apply aC|apply aF)|(exact mQ.out)|(right;simp;done)))) jh.out jd.out _ (Kept.refl _ _) (by rw[jH.out];rw[decide_eq_false (show¬fQ L≠emp from fun e=>e (iq.out.symm.trans qP.out))];simp)
   ·have hsb:(s'.toList==(⟨#[]⟩:ByteArray).toList)=false:=by rw[oG];exact decide_eq_false hs0
    have Fz:s'.toList.isEmpty=false:=by
     rw[<-Bool.not_eq_true,List.isEmpty_iff];intro e;apply hs0;have h9:(s'.toList==emp.toList)=true:=by rw[e];unfold emp;simp
     rw[oG]at h9;exact of_decide_eq_true h9
    have qP:=ah hs0;clear hs0;go_wp2;go_ret;have FB:jC t x=true:=by rw[jH.out,wM.out,decide_eq_true Dc.out,decide_eq_true (show 0<2 by decide),decide_eq_true (show fQ L≠emp from fun e=>qP.out (iq.out.trans e))];rfl
    rw[uO.out FB,<-iq.out];have h7:=H6.out.quiet mQ.out;have hk8:Kept (fun k=>k=gb) w7 (w7.setCell ⟨gb,11,none⟩ (.string s')):=by(repeat'(first|(with_reducible first|exact ay|apply aA|apply aB|apply aC|apply aF)|(exact .inl rfl)|(right;simp;done)))
    have E4:=(h7.g iK.out.1).put 11 (.string s');have FC:∀{e:TypeId} {size n:Nat} {v:Value} {xs:List Value},w7.ownsRow 0 e size v n xs->e≠114->(w7.setCell ⟨gb,11,none⟩ (.string s')).ownsRow 0 e size v n xs:=fun ho he=>aP ho hk8 (fun k hk3 e2=>own_ne ho (h7.g iK.out.1) he (e2▸hk3));refine⟨rfl,{b:=bb,g:=gb,bA:=X.bA,bc:=X.bc,pA:=A5,pc:=c5,rA:=X.rA,rc:=X.rc},⟨h7.b.past (fun e=>hne e.symm),fun _=> ?_,fun e=>absurd iK.out.1 e,FC h7.bo (by decide),FC h7.p (by decide),FC h7.r (by decide),h7.nd⟩,fF.out.symm,fun k hk=> ?_,?_⟩
    ·exact E4
    ·rcases EU.out k hk with e|e
     ·exact .inl e
     ·exact .inr (Nat.le_trans mW.out.size e)
    ·exact(((mW.out.mono (fun _ z=>z.elim)).then zT.out).then (mQ.out.mono (fun _ z=>z.elim))).then (hk8.mono (fun k e=> .inr (.inl (e.trans zS.out.symm))))
