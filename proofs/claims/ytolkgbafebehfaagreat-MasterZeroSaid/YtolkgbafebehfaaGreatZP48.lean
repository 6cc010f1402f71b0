/- Part 49 of what the proof needs. -/
import Derived.Test.YtolkgbafebehfaaGreatZP47
import Derived.Deep.DeepCutAuto
set_option linter.unusedSimpArgs false
set_option linter.unusedVariables false
set_option maxHeartbeats 32000000
set_option maxRecDepth 100000
namespace Go.Proofs.YtolkgbafebehfaaGreat
open Go.RowKit
set_option maxRecDepth 100000
namespace dM
open aP Vn Mst lJ IM nG gX
section
variable{w w':World}{X X0:MX}{M M0:MR}{c k:Nat}
theorem U1{w2 w5:World}{dep wR dE:Int}{dl:List Mem}{dt:List Int}{A5 B5:Option Addr}{n5 c5 m5 d5:Nat}(hr:bT w2.heap.size w5 A5 n5 c5 dl)(ht:dP w2.heap.size w5 B5 m5 d5 dt)(hk:Kept aj w2 w5):
  ∃cb A n c B m d,Value.pointer (some ⟨w5.heap.size,0,none⟩)=.pointer (some ⟨cb,0,none⟩)/\Value.slice B5 m5 d5=.slice B m d/\Value.int .i64 dE=.int .i64 dE/\Has (w5.alloc (.cells #[.int .i64 dep,.slice A5 n5 c5,.int .u64 wR] 25)) cb 25 #[.int .i64 dep,.slice A n c,.int .u64 wR]/\bT w2.heap.size (w5.alloc (.cells #[.int .i64 dep,.slice A5 n5 c5,.int .u64 wR] 25)) A n c dl/\dP w2.heap.size (w5.alloc (.cells #[.int .i64 dep,.slice A5 n5 c5,.int .u64 wR] 25)) B m d dt/\Kept aj w2 (w5.alloc (.cells #[.int .i64 dep,.slice A5 n5 c5,.int .u64 wR] 25))/\w2.heap.size<=cb:=
 ⟨_,A5,n5,c5,B5,m5,d5,rfl,rfl,rfl,Has.new _ _ _,hr.kept (by(repeat'(first|(with_reducible first|exact ak|apply au|apply ay|apply aA|apply aB)|(right;simp;done)))),ht.kept (by(repeat'(first|(with_reducible first|exact ak|apply au|apply ay|apply aA|apply aB)|(right;simp;done)))),by(repeat'(first|(with_reducible first|exact ak|apply au|apply ay|apply aA|apply aB)|(exact hk)|(right;simp;done))),hk.size⟩
theorem BJ{w2 w5:World}{b:Nat}{dep wR dE:Int}{dl:List Mem}{dt:List Int}{A5 B5:Option Addr}{n5 c5 m5 d5:Nat}(hz:Has w5 b 25 #[.int .i64 0,.slice none 0 0,.int .u64 0])(hb:w2.heap.size<=b)(hr:bT w2.heap.size w5 A5 n5 c5 dl)(ht:dP w2.heap.size w5 B5 m5 d5 dt)(hk:Kept aj w2 w5):
  ∃cb A n c B m d,Value.pointer (some ⟨b,0,none⟩)=.pointer (some ⟨cb,0,none⟩)/\Value.slice B5 m5 d5=.slice B m d/\Value.int .i64 dE=.int .i64 dE/\Has (((w5.setCell ⟨b,0,none⟩ (.int .i64 dep)).setCell ⟨b,1,none⟩ (.slice A5 n5 c5)).setCell ⟨b,2,none⟩ (.int .u64 wR)) cb 25 #[.int .i64 dep,.slice A n c,.int .u64 wR]/\bT w2.heap.size (((w5.setCell ⟨b,0,none⟩ (.int .i64 dep)).setCell ⟨b,1,none⟩ (.slice A5 n5 c5)).setCell ⟨b,2,none⟩ (.int .u64 wR)) A n c dl/\dP w2.heap.size (((w5.setCell ⟨b,0,none⟩ (.int .i64 dep)).setCell ⟨b,1,none⟩ (.slice A5 n5 c5)).setCell ⟨b,2,none⟩ (.int .u64 wR)) B m d dt/\Kept aj w2 (((w5.setCell ⟨b,0,none⟩ (.int .i64 dep)).setCell ⟨b,1,none⟩ (.slice A5 n5 c5)).setCell ⟨b,2,none⟩ (.int .u64 wR))/\w2.heap.size<=cb:=by
 have hkk:Kept (fun k=>k=b) w5 (((w5.setCell ⟨b,0,none⟩ (.int .i64 dep)).setCell ⟨b,1,none⟩ (.slice A5 n5 c5)).setCell ⟨b,2,none⟩ (.int .u64 wR)):=(((Kept.refl (fun k=>k=b) w5).put (.inl rfl)).put (.inl rfl)).put (.inl rfl)
 refine⟨b,A5,n5,c5,B5,m5,d5,rfl,rfl,rfl,((hz.put 0 _).put 1 _).put 2 _,⟨hr.1,aC hr.2.1 hkk (fun g hg e=> ?_),hr.2.2⟩,⟨ht.1,aC ht.2.1 hkk (fun g hg e=> ?_),ht.2.2⟩,hk.trans hkk (fun k e=> .inr (by omega)),hb⟩
 ·subst e;exact own_ne hr.2.1 hz (by decide) hg
 ·subst e;exact own_ne ht.2.1 hz (by decide) hg
theorem U2(h:dG w X M)(hb:cZ X M.lg c)(hc:c<=4000)(hm:bQ M k)(hk:k<=1000):
  Calls Tryz.prog 64 #[.pointer (some ⟨X.mb,0,none⟩)] w (dK w X M c (.tuple #[]) (jv M) 1):=by
 have Dj:∀q,dU X M q->q<w.heap.size:=fun q hq=>h.lt hq
 have hch:=Qo h hm
 have hcell:∀W,Kept aj w W->W.cell? ⟨X.mb,2,none⟩=some (.pointer (some ⟨X.sb,0,none⟩))/\W.cell? ⟨X.mb,7,none⟩=some (.int .u64 M.last):=fun W hW=>⟨(h.quiet hW).cell (i:=2) rfl,(h.quiet hW).cell (i:=7) rfl⟩
 have l7:∀W,Kept aj w W->Calls Tryz.prog 48 #[.pointer (some ⟨X.sb,0,none⟩)] W (qU W M.st.ep M.st.fl M.st.ms):=fun W hW=>pV ((h.quiet hW).c 2) hm.st.inv.ok
 have Fa:∀W,Kept aj w W->Calls Tryz.prog 49 #[.pointer (some ⟨X.sb,0,none⟩)] W (Am W M.st.lg):=fun W hW=>Jm ((h.quiet hW).c 2) hm.st.inv.ok
 have hok:=hm.st.inv.ok
 have hnx:∀W A0 c0 A1 c1 A2 c2 A3 c3,Src W 2 A0 M.st.ms.length (aS M.st.ms)->M.st.ms.length<=c0/\c0<=maxLen->Src W 1 A1 M.st.lg.length (ints M.st.lg)->Src W 1 A2 (gW M 4).length (ints (gW M 4))->Src W 2 A3 (jh M 4).length (aS (jh M 4))->
   Calls Tryz.prog 149 #[mP M.st.ep A0 M.st.ms.length c0 M.st.fl,.slice A1 M.st.lg.length c1,.slice A2 (gW M 4).length c2,.slice A3 (jh M 4).length c3,.int .u64 M.last] W (fun e w'=>aP.jw W (dW M) e w'):=fun W A0 c0 A1 c1 A2 c2 A3 c3 h0 hcc h1 h2 h3=>
  UW W M.st.ep M.st.fl A0 A1 A2 A3 c0 c1 c2 c3 M.st.ms (jh M 4) M.st.lg (gW M 4) M.last h0 h1 h2 h3 (by have:=hok.m;omega) (by have:=hok.l;omega) (by have:=Hg M 4;omega) (by have:=Hl M 4;omega) hm.st.su.fl hm.last hcc.1 (by have:=hcc.2;unfold maxLen at this;omega) (abI hm.st) (XX M 4 (Nat.le_refl _)) (U0 hm.st)
 have XY:=KN hm
 have hwr:∀W A n c1 B m d,Kept aj w W->bT w.heap.size W A n c1 (dW M).l->dP w.heap.size W B m d (dW M).t->(dW M).e=0->Calls Tryz.prog 44 #[.pointer (some ⟨X.mb,0,none⟩),.agg (aH (vI (dW M).ep (dW M).l (dW M).fl (dW M).t A c1 B d)).toArray] W fun e w'=>
   e=.returned (.int .i64 (bF M.st (mJ (dW M))))/\∃X',Step w X M w' X' (writeM M (mJ (dW M)))/\cZ X' (writeM M (mJ (dW M))).lg (c+1):=fun W A n c1 B m d hW hA hB h0=>by
  obtain⟨r,_,_,_,hl4⟩:=(BO h0).form
  have E5:(dW M).t.length<=4:=by
   have h1:=E9 (firsts M.st.ms M.st.lg (gW M 4))
   have h2:(dW M).t=ids (firsts M.st.ms M.st.lg (gW M 4)):=(BO h0).tv
   have h3:(firsts M.st.ms M.st.lg (gW M 4)).length<=M.st.ms.length:=List.length_filter_le _ _
   have h4:=(kH (BO h0).Ot).2.2.1
   rw[h2];omega
  obtain⟨rfl,hA1,hA2⟩:=hA
  obtain⟨rfl,hB1,hB2⟩:=hB
  have hx:gU W (vI (dW M).ep (dW M).l (dW M).fl (dW M).t A c1 B d):=KC (Src.bC hA1) (jk hA1).1 (Nat.le_trans hl4 (by decide)) (Src.bC hB1) (jk hB1).1 (by omega)
  refine(write_any (h.quiet hW) hb hc hok _ hx (yH XY) ⟨Oc Dj hA1 hA2,Oc Dj hB1 hB2,fun h0=>absurd h0 (Nat.lt_irrefl 0)⟩).mono ?_
  rintro e w' ⟨rfl,X',hs,hl'⟩
  exact⟨rfl,X',(Step.refl h hW).trans hs,hl'⟩
 have hbad:((dW M).e≠0\/((dW M).e=0/\bF M.st (mJ (dW M))≠0))->jv M=M:=fun hq=>by
  unfold jv
  rcases hq with hq|⟨h0,hq⟩
  ·rw[if_pos hq]
  ·rw[if_neg (fun z=>z h0),if_pos hq]
 have U3:bF M.st (mJ (dW M))≠0->writeM M (mJ (dW M))=M:=fun h0=>if_neg h0
 have Qr:∀W,jv M=M->Kept aj w W->dK w X M c (.tuple #[]) (jv M) 1 (.returned (.tuple #[])) W:=fun W e1 hW=>by
  rw[e1];exact⟨rfl,X,Step.refl h hW,hb.mono (Nat.le_succ _)⟩
 have hgood:(dW M).e=0->bF M.st (mJ (dW M))=0->jv M=jc (cleared (writeM M (mJ (dW M)))) 4:=fun h0 h1=>by
  unfold jv
  rw[if_neg (fun z=>z h0),if_neg (fun z=>z h1)]
 have Y6:bQ (cleared (writeM M (mJ (dW M)))) k:=(hm.write (Oa XY)).cleared
 have qB:=ah Dj;have HCH:=ah hch;have tY:=ah hcell;have vM:=ah l7;have Ak:=ah Fa
 obtain⟨D,hD⟩:∃D,dW M=D:=⟨_,rfl⟩
 rw[hD]at hbad U3 hgood Y6
 simp only[hD]at hnx hwr
 obtain⟨E,hE⟩:∃E,bF M.st (mJ D)=E:=⟨_,rfl⟩
 obtain⟨M1,hM1⟩:∃M1,writeM M (mJ D)=M1:=⟨_,rfl⟩
 obtain⟨M9,E6⟩:∃M9,jv M=M9:=⟨_,rfl⟩
 rw[hE]at hbad U3 hgood
 rw[hM1]at U3 hgood Y6
 simp only[hE,hM1]at hwr
 rw[E6]at hbad Qr hgood⊢
 obtain⟨G,hG⟩:∃G,gW M 4=G:=⟨_,rfl⟩
 obtain⟨J,hJ⟩:∃J,jh M 4=J:=⟨_,rfl⟩
 unfold EY at HCH
 rw[hG,hJ]at HCH
 simp only[hG,hJ]at hnx
 obtain⟨ep,nK⟩:∃ep,M.st.ep=ep:=⟨_,rfl⟩
 obtain⟨fl,hfl⟩:∃fl,M.st.fl=fl:=⟨_,rfl⟩
 obtain⟨ms,hms⟩:∃ms,M.st.ms=ms:=⟨_,rfl⟩
 obtain⟨lg,Ob⟩:∃lg,M.st.lg=lg:=⟨_,rfl⟩
 obtain⟨la,hla⟩:∃la,M.last=la:=⟨_,rfl⟩
 rw[nK,hfl,hms]at vM
 rw[Ob]at Ak
 rw[hla]at tY
 simp only[nK,hfl,hms,Ob,hla]at hnx
 obtain⟨dE,dep,dl,wR,dt⟩:=D
 simp only[vI,aH,List.length_nil,lF]at hwr
 simp only[aP.jw,aP.eY]at hnx
 dsimp only at hbad hgood
 have nD:=ah hnx;have oM:=ah hwr;have HBAD:=ah hbad;have HWM:=ah U3;have acf:=ah Qr;have acg:=ah hgood;have HMW:=ah Y6;have HB:=ah hb;have HM:=ah hm;have Af:=ah hok;have HC:=ah hc;have H:=ah h
 clear Dj hch hcell l7 Fa hok hnx XY hwr hbad U3 Qr hgood Y6 hD hE hM1 E6 hG hJ nK hfl hms Ob hla h hb hc hm hk
 go_enter Tryz.func64,Tryz.ntmps64
 go_wp2_with fail
 refine HCH.out.mono ?_
 rintro e w2 ⟨A2,c2,A3,c3,rfl,hn2,hn3,hk2⟩
 obtain⟨z2,z7⟩:=tY.out w2 hk2
 have dA:=ah hn2;have kY:=ah hn3;have aQ:=ah hk2;clear hn2 hn3 hk2
 go_upto_region 1 with fail
 go_cut [4,5,6] (fun v4 v5 v6 wx=>∃cb A n c B m d,v4=.pointer (some ⟨cb,0,none⟩)/\v5=.slice B m d/\v6=.int .i64 dE/\Has wx cb 25 #[.int .i64 dep,.slice A n c,.int .u64 wR]/\bT w2.heap.size wx A n c dl/\dP w2.heap.size wx B m d dt/\Kept aj w2 wx/\w2.heap.size<=cb)
 case first=>
  go_region_held3 (fun W=>W.cell? ⟨X.mb,2,none⟩=some (.pointer (some ⟨X.sb,0,none⟩))/\W.cell? ⟨X.mb,7,none⟩=some (.int .u64 la))
   (first|with_reducible exact y5|with_reducible exact y4|with_reducible exact y3|with_reducible exact⟨z2,z7⟩|(refine tY.out _ (aQ.out.then ?_);(repeat'(first|(with_reducible first|exact ak|apply au|apply ay|apply aA|apply aB)|(first|with_reducible exact cO.out|with_reducible exact dR.out|with_reducible exact bf.out|(right;have h9:=Kept.size cO.out;omega)|(right;have h9:=Kept.size dR.out;omega)|(right;have h9:=Kept.size bf.out;omega))|(right;simp;done)));done))
   (first
    |(go_at_call 48;refine(vM.out _ (by(repeat'(first|(with_reducible first|exact ak|apply au|apply ay|apply aA|apply aB)|(exact aQ.out)|(right;simp;done))))).mono ?_;rintro e w3 ⟨A0,c0,rfl,hr0,hk3⟩;(try have zc:Has w3 w2.heap.size 25 #[.int .i64 0,.slice none 0 0,.int .u64 0]:=Has.kept (Has.new w2 25 #[.int .i64 0,.slice none 0 0,.int .u64 0]) hk3 (fun z=>z));(try have zc:Has w3 w2.heap.size 25 #[.int .i64 0,.slice none 0 0,.int .u64 0]:=Has.kept (Has.new w2.drew 25 #[.int .i64 0,.slice none 0 0,.int .u64 0]) hk3 (fun z=>z));(try have zc:Has w3 w2.heap.size 25 #[.int .i64 0,.slice none 0 0,.int .u64 0]:=Has.kept (Has.drew (Has.new w2 25 #[.int .i64 0,.slice none 0 0,.int .u64 0])) hk3 (fun z=>z));(try have ZC3:=ah zc);(try clear zc);have hk:=Kept.then (F:=aj) (a:=w2) (by(repeat'(first|(with_reducible first|exact ak|apply au|apply ay|apply aA|apply aB)|(right;simp;done)))) hk3;have y3:=tY.out _ (aQ.out.then hk);have HR0:=ah hr0;have bf:=ah hk;clear hk hk3 hr0)
    |(go_at_call 49;refine(Ak.out _ (by(repeat'(first|(with_reducible first|exact ak|apply au|apply ay|apply aA|apply aB)|(exact aQ.out.then bf.out)|(right;simp;done))))).mono ?_;rintro e w4 ⟨A1,c1,rfl,hr1,hk4⟩;(try have zc:Has w4 w3.heap.size 25 #[.int .i64 0,.slice none 0 0,.int .u64 0]:=Has.kept (Has.new w3 25 #[.int .i64 0,.slice none 0 0,.int .u64 0]) hk4 (fun z=>z));(try have zc:Has w4 w2.heap.size 25 #[.int .i64 0,.slice none 0 0,.int .u64 0]:=Has.kept ZC3.out hk4 (fun z=>z));(try have ZC4:=ah zc);(try clear zc);have hk:=Kept.then (F:=aj) (a:=w2) (by(repeat'(first|(with_reducible first|exact ak|apply au|apply ay|apply aA|apply aB)|(exact bf.out)|(right;simp;done)))) hk4;have y4:=tY.out _ (aQ.out.then hk);have abJ:=ah (aF.kept (aF.kept HR0.out (by(repeat'(first|(with_reducible first|exact ak|apply au|apply ay|apply aA|apply aB)|(right;simp;done))))) hk4);have HR1:=ah hr1;have dR:=ah hk;clear hk hk4 hr1)
    |(go_at_call 149;refine(nD.out _ A0 c0 A1 c1 A2 c2 A3 c3 (Src.bC (aC abJ.out.1 (F:=aj) (by(repeat'(first|(with_reducible first|exact ak|apply au|apply ay|apply aA|apply aB)|(right;simp;done)))) (fun _ _ z=>z))) (jk abJ.out.1) (Src.bC (aC HR1.out.1 (F:=aj) (by(repeat'(first|(with_reducible first|exact ak|apply au|apply ay|apply aA|apply aB)|(right;simp;done)))) (fun _ _ z=>z))) (Src.bC (aC dA.out.1 (F:=aj) (by(repeat'(first|(with_reducible first|exact ak|apply au|apply ay|apply aA|apply aB)|(exact dR.out)|(right;simp;done)))) (fun _ _ z=>z))) (Src.bC (aC kY.out.1 (F:=aj) (by(repeat'(first|(with_reducible first|exact ak|apply au|apply ay|apply aA|apply aB)|(exact dR.out)|(right;simp;done)))) (fun _ _ z=>z)))).mono ?_;rintro e w5 ⟨A5,n5,c5,B5,m5,d5,rfl,KT,Ht,hk5⟩;(try have zc:Has w5 w4.heap.size 25 #[.int .i64 0,.slice none 0 0,.int .u64 0]:=Has.kept (Has.new w4 25 #[.int .i64 0,.slice none 0 0,.int .u64 0]) hk5 (fun z=>z));(try have zc:=Has.kept ZC4.out hk5 (fun z=>z));(try have f0:=zc.frozen 0);(try have f1:=zc.frozen 1);(try have f2:=zc.frozen 2);(try have e0:=zc.cell 0);(try have e1:=zc.cell 1);(try have e2:=zc.cell 2);(try simp only[List.getElem?_toArray,List.getElem?_cons_zero,List.getElem?_cons_succ]at e0 e1 e2);(try have ZC5:=ah zc);(try clear zc);have hk:=Kept.then (F:=aj) (a:=w2) (by(repeat'(first|(with_reducible first|exact ak|apply au|apply ay|apply aA|apply aB)|(exact dR.out)|(right;simp;done)))) hk5;have y5:=tY.out _ (aQ.out.then hk);have KU:=ah (show bT w2.heap.size w5 A5 n5 c5 dl from⟨KT.1,KT.2.1,fun k hk=>Nat.le_trans (Kept.size (F:=aj) (a:=w2) (by(repeat'(first|(with_reducible first|exact ak|apply au|apply ay|apply aA|apply aB)|(exact dR.out)|(right;simp;done))))) (KT.2.2 k hk)⟩);have Y7:=ah (show dP w2.heap.size w5 B5 m5 d5 dt from⟨Ht.1,Ht.2.1,fun k hk=>Nat.le_trans (Kept.size (F:=aj) (a:=w2) (by(repeat'(first|(with_reducible first|exact ak|apply au|apply ay|apply aA|apply aB)|(exact dR.out)|(right;simp;done))))) (Ht.2.2 k hk)⟩);have cO:=ah hk;clear hk hk5 KT Ht))
  all_goals (
   go_wp2_with fail
   go_meet
   (first|exact U1 KU.out Y7.out cO.out|exact BJ ZC5.out (Kept.size dR.out) KU.out Y7.out cO.out|exact BJ ZC5.out (Kept.size bf.out) KU.out Y7.out cO.out|exact BJ ZC5.out (Nat.le_refl _) KU.out Y7.out cO.out))
 case rest=>
  obtain⟨cb,A,n,c1,B,m,d,rfl,rfl,rfl,hcb,hA,hB,hk,hle⟩:=hcut
  obtain⟨w6,hw6⟩:∃w6,w6=wc:=⟨_,rfl⟩
  subst hw6
  clear z2 z7
  have hkw:Kept aj w w6:=aQ.out.then hk
  have hA':bT w.heap.size w6 A n c1 dl:=⟨hA.1,hA.2.1,fun k h=>Nat.le_trans aQ.out.size (hA.2.2 k h)⟩
  have hB':dP w.heap.size w6 B m d dt:=⟨hB.1,hB.2.1,fun k h=>Nat.le_trans aQ.out.size (hB.2.2 k h)⟩
  have hwr:=oM.out w6 A n c1 B m d hkw hA' hB'
  obtain rfl:=hA.1
  obtain rfl:=hB.1
  have q0:w6.cell? ⟨cb,0,none⟩=some (.int .i64 dep):=hcb.cell 0
  have q1:w6.cell? ⟨cb,1,none⟩=some (.slice A dl.length c1):=hcb.cell 1
  have q2:w6.cell? ⟨cb,2,none⟩=some (.int .u64 wR):=hcb.cell 2
  have oC:=ah hkw;have vZ:=ah hwr
  clear hcb hA hB hA' hB' hk hle hkw hwr
  by_cases h0:dE=0
  rotate_left
  ·have hz:(dE !=0)=true:=by simpa using h0
   have HF:=ah (acf.out w6 (HBAD.out (.inl h0)) oC.out)
   clear h0 q0 q1 q2
   go_wp2
   refine bodyPost_ret (v:=.tuple #[]) (by simp[results,Tryz.results64,go_sem]) rfl ?_
   exact HF.out
  ·subst h0
   have hwr:=vZ.out rfl
   have HW7:=ah hwr;clear hwr
   go_wp2_with fail
   clear q0 q1 q2
   refine HW7.out.mono ?_
   rintro e w7 ⟨rfl,X1,hs,hl⟩
   by_cases h1:E=0
   rotate_left
   ·have hz:(E !=0)=true:=by simpa using h1
    have e1:=HWM.out h1
    have e2:=HBAD.out (.inr ⟨by first|rfl|trivial,h1⟩)
    rw[e1]at hs hl
    have HF:=ah (show dK w X M c (.tuple #[]) M9 1 (.returned (.tuple #[])) w7 from by rw[e2];exact⟨rfl,X1,hs,hl⟩)
    clear h1 e1 e2 hs hl
    go_wp2
    refine bodyPost_ret (v:=.tuple #[]) (by simp[results,Tryz.results64,go_sem]) rfl ?_
    exact HF.out
   ·subst h1
    have e9:=acg.out (by first|rfl|trivial) (by first|rfl|trivial)
    have HE9:=ah e9;clear e9
    have q5:w7.cell? ⟨X.mb,5,none⟩=some (.map (some X1.mm)):=by
     have:=hs.at'.cell (i:=5) (v:=.map (some X1.mm)) rfl
     rw[hs.mb]at this;exact this
    obtain⟨W8,hr8,hs8,hk8⟩:=dX.KX (hs.at'.c 5) Tryz.underlying60
    have Oe:=hs.trans (dG.J8 hs.at' hs8 (Nat.le_refl _) hk8)
    have q10:W8.cell? ⟨X.mb,10,none⟩=some (.map (some X1.lo)):=by
     have:=Oe.at'.cell (i:=10) (v:=.map (some X1.lo)) rfl
     rw[Oe.mb]at this;exact this
    obtain⟨W9,hr9,hs9,hk9⟩:=bJ.KX (Oe.at'.c 9)
    have st9:Step w X M W9 X1 (cleared M1):=Oe.trans (dG.NV Oe.at' hs9 (Nat.le_refl _) hk9)
    have hl9:cZ X1 (cleared M1).lg (c+1):=hl
    have N6:=ah st9;have G7:=ah hl9
    clear hs hl hs8 hk8 Oe hs9 hk9 st9 hl9
    obtain⟨M2,hM2⟩:∃M2,cleared M1=M2:=⟨_,rfl⟩
    have hsw:∀i,jc M2 (i+1)=lC (jc M2 i) i:=fun i=>tN M2 i
    rw[hM2]at N6 G7 HMW HE9
    have HSW:=ah hsw;clear hsw hM2
    go_wp2_with fail
    clear q5 q10 hr8 hr9
    go_loopw [7,52] (fun v7 v52 wr=>∃i:Nat,i<=4/\v52=.int .i64 i/\Step w X M wr X1 (jc M2 i)) (fun _ v52 _=>4-(intOf v52).toNat)
    case atStart=>exact⟨0,by omega,rfl,N6.out⟩
    case round=>
     obtain⟨i,hi,rfl,hst⟩:=hrel
     by_cases hil:i<4
     ·have hmo:=(HMW.out).jc i
      have hmem:=pR hst.at' hmo.st.inv.ok (i:Int)
      rw[hst.mb]at hmem
      have hi64:=jq (i:=(i:Int)) (by omega) (by omega)
      have hsc:=HSW.out i
      obtain⟨M3,KY⟩:∃M3,jc M2 i=M3:=⟨_,rfl⟩
      rw[KY]at hst hmo hmem hsc
      obtain⟨b,hb⟩:∃b,dZ M3.st.ms (i:Int)=b:=⟨_,rfl⟩
      rw[hb]at hmem
      have hs1:lC M3 i=if b then {M3 with ns:=M3.ns.set i 0,joins:=fun y=> !decide (y=(i:Int))&&M3.joins y}else{M3 with leaves:=fun y=> !decide (y=(i:Int))&&M3.leaves y}:=by unfold lC;rw[hb]
      have FN:=ah hmem;have HST:=ah hst;have HMO:=ah hmo;have HSC:=ah hsc;have Bl:=ah hs1;have HI:=ah hi64
      clear hmem hst hmo hsc hs1 hi64 KY hb
      cases b
      ·go_wp2_with fail
       refine FN.out.mono ?_
       rintro e w8 ⟨rfl,hk⟩
       have st:=HST.out.quiet hk
       have q9:w8.cell? ⟨X.mb,9,none⟩=some (.map (some X1.le)):=by
        have:=st.at'.cell (i:=9) (v:=.map (some X1.le)) rfl
        rw[st.mb]at this;exact this
       have hdr:=fun ty=>bJ.drop (st.at'.c 8) HI.out ty
       obtain⟨W2,hd2⟩:=Classical.axiomOfChoice hdr
       have hr2:=fun ty=>(hd2 ty).1
       have hfin:∀ty,Step w X M (W2 ty) X1 (jc M2 (i+1)):=fun ty=>by
        rw[HSC.out,Bl.out,if_neg (by decide)]
        exact st.trans (dG.TG st.at' (hd2 ty).2.1 (Nat.le_refl _) (hd2 ty).2.2)
       have qh:=ah hfin
       clear hk st hdr hd2 hfin
       go_wp2_with fail
       go_roundw
       case rel=>exact⟨i+1,by omega,by go_num,qh.out _⟩
       case measure=>simp[intOf];omega
      ·go_wp2_with fail
       refine FN.out.mono ?_
       rintro e w8 ⟨rfl,hk⟩
       have st:=HST.out.quiet hk
       have q4:w8.cell? ⟨X.mb,4,none⟩=some (.pointer (some ⟨X1.wb,0,none⟩)):=by
        have:=st.at'.cell (i:=4) (v:=.pointer (some ⟨X1.wb,0,none⟩)) rfl
        rw[st.mb]at this;exact this
       have Uy:=Gf (st.at'.c 4) HMO.out.sF i hil
       have HHE:=ah Uy;have Jf:=ah st
       clear hk st Uy
       go_wp2_with fail
       clear q4
       refine HHE.out.mono ?_
       rintro e w9 ⟨rfl,YG,hk9⟩
       have st:=Jf.out.trans (dG.J9 Jf.out.at' YG hk9)
       have q8:w9.cell? ⟨X.mb,8,none⟩=some (.map (some X1.jo)):=by
        have:=st.at'.cell (i:=8) (v:=.map (some X1.jo)) rfl
        rw[st.mb]at this;exact this
       have hdr:=fun ty=>bJ.drop (st.at'.c 7) HI.out ty
       obtain⟨W2,hd2⟩:=Classical.axiomOfChoice hdr
       have hr2:=fun ty=>(hd2 ty).1
       have hfin:∀ty,Step w X M (W2 ty) X1 (jc M2 (i+1)):=fun ty=>by
        rw[HSC.out,Bl.out,if_pos (by first|rfl|trivial)]
        exact st.trans (dG.Xd st.at' (hd2 ty).2.1 (Nat.le_refl _) (hd2 ty).2.2)
       have qh:=ah hfin
       clear YG hk9 st hdr hd2 hfin
       go_wp2_with fail
       go_roundw
       case rel=>exact⟨i+1,by omega,by go_num,qh.out _⟩
       case measure=>simp[intOf];omega
     ·obtain rfl:i=4:=by omega
      have HST:=ah hst
      have HF:=ah (show dK w X M c (.tuple #[]) M9 1 (.returned (.tuple #[])) wr from by
       rw[HE9.out]
       refine⟨rfl,X1,HST.out,?_⟩
       rw[(Di M2 4).2.2.1]
       exact G7.out)
      clear hst
      go_wp2
      go_end0
      exact HF.out
end
end dM
end Go.Proofs.YtolkgbafebehfaaGreat
