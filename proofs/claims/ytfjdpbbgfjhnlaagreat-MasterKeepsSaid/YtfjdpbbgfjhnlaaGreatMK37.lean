/- Part 38 of what the proof needs. -/
import Derived.Test.YtfjdpbbgfjhnlaaGreatMK36
import Derived.Deep.DeepCutAuto
set_option linter.unusedSimpArgs false
set_option linter.unusedVariables false
set_option maxHeartbeats 32000000
set_option maxRecDepth 100000
namespace Go.Proofs.YtfjdpbbgfjhnlaaGreat
open Go.RowKit
set_option maxRecDepth 100000
namespace dH
open aO Vn Mst lV IM mY gZ
section
variable{w w':World}{X X0:MX}{M M0:MR}{c k:Nat}
theorem ZC{w2 w5:World}{dep y9 dE:Int}{dl:List Mem}{dt:List Int}{A5 B5:Option Addr}{n5 c5 m5 d5:Nat}(hr:cu w2.heap.size w5 A5 n5 c5 dl)(ht:fA w2.heap.size w5 B5 m5 d5 dt)(hk:Kept aj w2 w5):
  ∃cb A n c B m d,Value.pointer (some ⟨w5.heap.size,0,none⟩)=.pointer (some ⟨cb,0,none⟩)/\Value.slice B5 m5 d5=.slice B m d/\Value.int .i64 dE=.int .i64 dE/\Has (w5.alloc (.cells #[.int .i64 dep,.slice A5 n5 c5,.int .u64 y9] 25)) cb 25 #[.int .i64 dep,.slice A n c,.int .u64 y9]/\cu w2.heap.size (w5.alloc (.cells #[.int .i64 dep,.slice A5 n5 c5,.int .u64 y9] 25)) A n c dl/\fA w2.heap.size (w5.alloc (.cells #[.int .i64 dep,.slice A5 n5 c5,.int .u64 y9] 25)) B m d dt/\Kept aj w2 (w5.alloc (.cells #[.int .i64 dep,.slice A5 n5 c5,.int .u64 y9] 25))/\w2.heap.size<=cb:=
 ⟨_,A5,n5,c5,B5,m5,d5,rfl,rfl,rfl,Has.new _ _ _,hr.kept (by(repeat'(first|(with_reducible first|exact ak|apply au|apply ay|apply aA|apply aB)|(right;simp;done)))),ht.kept (by(repeat'(first|(with_reducible first|exact ak|apply au|apply ay|apply aA|apply aB)|(right;simp;done)))),by(repeat'(first|(with_reducible first|exact ak|apply au|apply ay|apply aA|apply aB)|(exact hk)|(right;simp;done))),hk.size⟩
theorem EY{w2 w5:World}{b:Nat}{dep y9 dE:Int}{dl:List Mem}{dt:List Int}{A5 B5:Option Addr}{n5 c5 m5 d5:Nat}(hz:Has w5 b 25 #[.int .i64 0,.slice none 0 0,.int .u64 0])(hb:w2.heap.size<=b)(hr:cu w2.heap.size w5 A5 n5 c5 dl)(ht:fA w2.heap.size w5 B5 m5 d5 dt)(hk:Kept aj w2 w5):
  ∃cb A n c B m d,Value.pointer (some ⟨b,0,none⟩)=.pointer (some ⟨cb,0,none⟩)/\Value.slice B5 m5 d5=.slice B m d/\Value.int .i64 dE=.int .i64 dE/\Has (((w5.setCell ⟨b,0,none⟩ (.int .i64 dep)).setCell ⟨b,1,none⟩ (.slice A5 n5 c5)).setCell ⟨b,2,none⟩ (.int .u64 y9)) cb 25 #[.int .i64 dep,.slice A n c,.int .u64 y9]/\cu w2.heap.size (((w5.setCell ⟨b,0,none⟩ (.int .i64 dep)).setCell ⟨b,1,none⟩ (.slice A5 n5 c5)).setCell ⟨b,2,none⟩ (.int .u64 y9)) A n c dl/\fA w2.heap.size (((w5.setCell ⟨b,0,none⟩ (.int .i64 dep)).setCell ⟨b,1,none⟩ (.slice A5 n5 c5)).setCell ⟨b,2,none⟩ (.int .u64 y9)) B m d dt/\Kept aj w2 (((w5.setCell ⟨b,0,none⟩ (.int .i64 dep)).setCell ⟨b,1,none⟩ (.slice A5 n5 c5)).setCell ⟨b,2,none⟩ (.int .u64 y9))/\w2.heap.size<=cb:=by
 have hkk:Kept (fun k=>k=b) w5 (((w5.setCell ⟨b,0,none⟩ (.int .i64 dep)).setCell ⟨b,1,none⟩ (.slice A5 n5 c5)).setCell ⟨b,2,none⟩ (.int .u64 y9)):=(((Kept.refl (fun k=>k=b) w5).put (.inl rfl)).put (.inl rfl)).put (.inl rfl)
 refine⟨b,A5,n5,c5,B5,m5,d5,rfl,rfl,rfl,((hz.put 0 _).put 1 _).put 2 _,⟨hr.1,aC hr.2.1 hkk (fun g hg e=> ?_),hr.2.2⟩,⟨ht.1,aC ht.2.1 hkk (fun g hg e=> ?_),ht.2.2⟩,hk.trans hkk (fun k e=> .inr (by omega)),hb⟩
 ·subst e;exact own_ne hr.2.1 hz (by decide) hg
 ·subst e;exact own_ne ht.2.1 hz (by decide) hg
theorem ZD(h:dD w X M)(hb:dw X M.lg c)(hc:c<=4000)(hm:bD M k)(hk:k<=1000):
  Calls Tryz.prog 54 #[.pointer (some ⟨X.mb,0,none⟩)] w (dF w X M c (.tuple #[]) (iy M) 1):=by
 have Gq:∀q,dX X M q->q<w.heap.size:=fun q hq=>h.lt hq
 have hch:=Vt h hm
 have hcell:∀W,Kept aj w W->W.cell? ⟨X.mb,2,none⟩=some (.pointer (some ⟨X.sb,0,none⟩))/\W.cell? ⟨X.mb,7,none⟩=some (.int .u64 M.last):=fun W hW=>⟨(h.quiet hW).cell (i:=2) rfl,(h.quiet hW).cell (i:=7) rfl⟩
 have oz:∀W,Kept aj w W->Calls Tryz.prog 39 #[.pointer (some ⟨X.sb,0,none⟩)] W (rG W M.st.ep M.st.fl M.st.ms):=fun W hW=>pN ((h.quiet hW).c 2) hm.st.inv.ok
 have yF:∀W,Kept aj w W->Calls Tryz.prog 45 #[.pointer (some ⟨X.sb,0,none⟩)] W (yH W M.st.lg):=fun W hW=>BX ((h.quiet hW).c 2) hm.st.inv.ok
 have hok:=hm.st.inv.ok
 have hnx:∀W A0 c0 A1 c1 A2 c2 A3 c3,Src W 2 A0 M.st.ms.length (aP M.st.ms)->M.st.ms.length<=c0/\c0<=maxLen->Src W 1 A1 M.st.lg.length (ints M.st.lg)->Src W 1 A2 (iQ M 4).length (ints (iQ M 4))->Src W 2 A3 (jJ M 4).length (aP (jJ M 4))->
   Calls Tryz.prog 106 #[lq M.st.ep A0 M.st.ms.length c0 M.st.fl,.slice A1 M.st.lg.length c1,.slice A2 (iQ M 4).length c2,.slice A3 (jJ M 4).length c3,.int .u64 M.last] W (fun e w'=>aO.kD W (dQ M) e w'):=fun W A0 c0 A1 c1 A2 c2 A3 c3 h0 hcc h1 h2 h3=>
  Zx W M.st.ep M.st.fl A0 A1 A2 A3 c0 c1 c2 c3 M.st.ms (jJ M 4) M.st.lg (iQ M 4) M.last h0 h1 h2 h3 (by have:=hok.m;omega) (by have:=hok.l;omega) (by have:=Me M 4;omega) (by have:=MB M 4;omega) hm.st.su.fl hm.last hcc.1 (by have:=hcc.2;unfold maxLen at this;omega) (afB hm.st) (ab8 M 4 (Nat.le_refl _)) (ZB hm.st)
 have ab9:=Hl hm
 have hwr:∀W A n c1 B m d,Kept aj w W->cu w.heap.size W A n c1 (dQ M).l->fA w.heap.size W B m d (dQ M).t->(dQ M).e=0->Calls Tryz.prog 25 #[.pointer (some ⟨X.mb,0,none⟩),.agg (aJ (uS (dQ M).ep (dQ M).l (dQ M).fl (dQ M).t A c1 B d)).toArray] W fun e w'=>
   e=.returned (.int .i64 (bu M.st (kJ (dQ M))))/\∃X',Step w X M w' X' (writeM M (kJ (dQ M)))/\dw X' (writeM M (kJ (dQ M))).lg (c+1):=fun W A n c1 B m d hW hA hB h0=>by
  obtain⟨r,_,_,_,hl4⟩:=(AB h0).form
  have Jq:(dQ M).t.length<=4:=by
   have h1:=JD (firsts M.st.ms M.st.lg (iQ M 4))
   have h2:(dQ M).t=ids (firsts M.st.ms M.st.lg (iQ M 4)):=(AB h0).tv
   have h3:(firsts M.st.ms M.st.lg (iQ M 4)).length<=M.st.ms.length:=List.length_filter_le _ _
   have h4:=(iT (AB h0).TK).2.2.1
   rw[h2];omega
  obtain⟨rfl,hA1,hA2⟩:=hA
  obtain⟨rfl,hB1,hB2⟩:=hB
  have hx:iI W (uS (dQ M).ep (dQ M).l (dQ M).fl (dQ M).t A c1 B d):=Po (Src.bC hA1) (fV hA1).1 (Nat.le_trans hl4 (by decide)) (Src.bC hB1) (fV hB1).1 (by omega)
  refine(write_any (h.quiet hW) hb hc hok _ hx (vU ab9) ⟨TA Gq hA1 hA2,TA Gq hB1 hB2,fun h0=>absurd h0 (Nat.lt_irrefl 0)⟩).mono ?_
  rintro e w' ⟨rfl,X',hs,hl'⟩
  exact⟨rfl,X',(Step.refl h hW).trans hs,hl'⟩
 have hbad:((dQ M).e≠0\/((dQ M).e=0/\bu M.st (kJ (dQ M))≠0))->iy M=M:=fun hq=>by
  unfold iy
  rcases hq with hq|⟨h0,hq⟩
  ·rw[if_pos hq]
  ·rw[if_neg (fun z=>z h0),if_pos hq]
 have ZE:bu M.st (kJ (dQ M))≠0->writeM M (kJ (dQ M))=M:=fun h0=>if_neg h0
 have Vx:∀W,iy M=M->Kept aj w W->dF w X M c (.tuple #[]) (iy M) 1 (.returned (.tuple #[])) W:=fun W e1 hW=>by
  rw[e1];exact⟨rfl,X,Step.refl h hW,hb.mono (Nat.le_succ _)⟩
 have hgood:(dQ M).e=0->bu M.st (kJ (dQ M))=0->iy M=jq (cleared (writeM M (kJ (dQ M)))) 4:=fun h0 h1=>by
  unfold iy
  rw[if_neg (fun z=>z h0),if_neg (fun z=>z h1)]
 have hMW:bD (cleared (writeM M (kJ (dQ M)))) k:=(hm.write (J5 ab9)).cleared
 have oM:=ah Gq;have HCH:=ah hch;have wF:=ah hcell;have FO:=ah oz;have tq:=ah yF
 obtain⟨D,hD⟩:∃D,dQ M=D:=⟨_,rfl⟩
 rw[hD]at hbad ZE hgood hMW
 simp only[hD]at hnx hwr
 obtain⟨E,hE⟩:∃E,bu M.st (kJ D)=E:=⟨_,rfl⟩
 obtain⟨M1,hM1⟩:∃M1,writeM M (kJ D)=M1:=⟨_,rfl⟩
 obtain⟨M9,Jr⟩:∃M9,iy M=M9:=⟨_,rfl⟩
 rw[hE]at hbad ZE hgood
 rw[hM1]at ZE hgood hMW
 simp only[hE,hM1]at hwr
 rw[Jr]at hbad Vx hgood⊢
 obtain⟨G,hG⟩:∃G,iQ M 4=G:=⟨_,rfl⟩
 obtain⟨J,hJ⟩:∃J,jJ M 4=J:=⟨_,rfl⟩
 unfold Jm at HCH
 rw[hG,hJ]at HCH
 simp only[hG,hJ]at hnx
 obtain⟨ep,lS⟩:∃ep,M.st.ep=ep:=⟨_,rfl⟩
 obtain⟨fl,hfl⟩:∃fl,M.st.fl=fl:=⟨_,rfl⟩
 obtain⟨ms,hms⟩:∃ms,M.st.ms=ms:=⟨_,rfl⟩
 obtain⟨lg,Jn⟩:∃lg,M.st.lg=lg:=⟨_,rfl⟩
 obtain⟨la,hla⟩:∃la,M.last=la:=⟨_,rfl⟩
 rw[lS,hfl,hms]at FO
 rw[Jn]at tq
 rw[hla]at wF
 simp only[lS,hfl,hms,Jn,hla]at hnx
 obtain⟨dE,dep,dl,y9,dt⟩:=D
 simp only[uS,aJ,List.length_nil,jD]at hwr
 simp only[aO.kD,aO.fE]at hnx
 dsimp only at hbad hgood
 have nV:=ah hnx;have qM:=ah hwr;have HBAD:=ah hbad;have HWM:=ah ZE;have agw:=ah Vx;have agx:=ah hgood;have HMW:=ah hMW;have HB:=ah hb;have HM:=ah hm;have yC:=ah hok;have HC:=ah hc;have H:=ah h
 clear Gq hch hcell oz yF hok hnx ab9 hwr hbad ZE Vx hgood hMW hD hE hM1 Jr hG hJ lS hfl hms Jn hla h hb hc hm hk
 go_enter Tryz.func54,Tryz.ntmps54
 go_wp2_with fail
 refine HCH.out.mono ?_
 rintro e w2 ⟨A2,c2,A3,c3,rfl,hn2,hn3,hk2⟩
 obtain⟨z2,z7⟩:=wF.out w2 hk2
 have dL:=ah hn2;have mF:=ah hn3;have aW:=ah hk2;clear hn2 hn3 hk2
 go_upto_region 1 with fail
 go_cut [4,5,6] (fun v4 v5 v6 wx=>∃cb A n c B m d,v4=.pointer (some ⟨cb,0,none⟩)/\v5=.slice B m d/\v6=.int .i64 dE/\Has wx cb 25 #[.int .i64 dep,.slice A n c,.int .u64 y9]/\cu w2.heap.size wx A n c dl/\fA w2.heap.size wx B m d dt/\Kept aj w2 wx/\w2.heap.size<=cb)
 case first=>
  go_region_held3 (fun W=>W.cell? ⟨X.mb,2,none⟩=some (.pointer (some ⟨X.sb,0,none⟩))/\W.cell? ⟨X.mb,7,none⟩=some (.int .u64 la))
   (first|with_reducible exact y5|with_reducible exact y4|with_reducible exact y3|with_reducible exact⟨z2,z7⟩|(refine wF.out _ (aW.out.then ?_);(repeat'(first|(with_reducible first|exact ak|apply au|apply ay|apply aA|apply aB)|(first|with_reducible exact cO.out|with_reducible exact dW.out|with_reducible exact bn.out|(right;have h9:=Kept.size cO.out;omega)|(right;have h9:=Kept.size dW.out;omega)|(right;have h9:=Kept.size bn.out;omega))|(right;simp;done)));done))
   (first
    |(go_at_call 39;refine(FO.out _ (by(repeat'(first|(with_reducible first|exact ak|apply au|apply ay|apply aA|apply aB)|(exact aW.out)|(right;simp;done))))).mono ?_;rintro e w3 ⟨A0,c0,rfl,hr0,hk3⟩;(try have zc:Has w3 w2.heap.size 25 #[.int .i64 0,.slice none 0 0,.int .u64 0]:=Has.kept (Has.new w2 25 #[.int .i64 0,.slice none 0 0,.int .u64 0]) hk3 (fun z=>z));(try have zc:Has w3 w2.heap.size 25 #[.int .i64 0,.slice none 0 0,.int .u64 0]:=Has.kept (Has.new w2.drew 25 #[.int .i64 0,.slice none 0 0,.int .u64 0]) hk3 (fun z=>z));(try have zc:Has w3 w2.heap.size 25 #[.int .i64 0,.slice none 0 0,.int .u64 0]:=Has.kept (Has.drew (Has.new w2 25 #[.int .i64 0,.slice none 0 0,.int .u64 0])) hk3 (fun z=>z));(try have ZC3:=ah zc);(try clear zc);have hk:=Kept.then (F:=aj) (a:=w2) (by(repeat'(first|(with_reducible first|exact ak|apply au|apply ay|apply aA|apply aB)|(right;simp;done)))) hk3;have y3:=wF.out _ (aW.out.then hk);have HR0:=ah hr0;have bn:=ah hk;clear hk hk3 hr0)
    |(go_at_call 45;refine(tq.out _ (by(repeat'(first|(with_reducible first|exact ak|apply au|apply ay|apply aA|apply aB)|(exact aW.out.then bn.out)|(right;simp;done))))).mono ?_;rintro e w4 ⟨A1,c1,rfl,hr1,hk4⟩;(try have zc:Has w4 w3.heap.size 25 #[.int .i64 0,.slice none 0 0,.int .u64 0]:=Has.kept (Has.new w3 25 #[.int .i64 0,.slice none 0 0,.int .u64 0]) hk4 (fun z=>z));(try have zc:Has w4 w2.heap.size 25 #[.int .i64 0,.slice none 0 0,.int .u64 0]:=Has.kept ZC3.out hk4 (fun z=>z));(try have ZC4:=ah zc);(try clear zc);have hk:=Kept.then (F:=aj) (a:=w2) (by(repeat'(first|(with_reducible first|exact ak|apply au|apply ay|apply aA|apply aB)|(exact bn.out)|(right;simp;done)))) hk4;have y4:=wF.out _ (aW.out.then hk);have afC:=ah (aF.kept (aF.kept HR0.out (by(repeat'(first|(with_reducible first|exact ak|apply au|apply ay|apply aA|apply aB)|(right;simp;done))))) hk4);have HR1:=ah hr1;have dW:=ah hk;clear hk hk4 hr1)
    |(go_at_call 106;refine(nV.out _ A0 c0 A1 c1 A2 c2 A3 c3 (Src.bC (aC afC.out.1 (F:=aj) (by(repeat'(first|(with_reducible first|exact ak|apply au|apply ay|apply aA|apply aB)|(right;simp;done)))) (fun _ _ z=>z))) (fV afC.out.1) (Src.bC (aC HR1.out.1 (F:=aj) (by(repeat'(first|(with_reducible first|exact ak|apply au|apply ay|apply aA|apply aB)|(right;simp;done)))) (fun _ _ z=>z))) (Src.bC (aC dL.out.1 (F:=aj) (by(repeat'(first|(with_reducible first|exact ak|apply au|apply ay|apply aA|apply aB)|(exact dW.out)|(right;simp;done)))) (fun _ _ z=>z))) (Src.bC (aC mF.out.1 (F:=aj) (by(repeat'(first|(with_reducible first|exact ak|apply au|apply ay|apply aA|apply aB)|(exact dW.out)|(right;simp;done)))) (fun _ _ z=>z)))).mono ?_;rintro e w5 ⟨A5,n5,c5,B5,m5,d5,rfl,PW,MG,hk5⟩;(try have zc:Has w5 w4.heap.size 25 #[.int .i64 0,.slice none 0 0,.int .u64 0]:=Has.kept (Has.new w4 25 #[.int .i64 0,.slice none 0 0,.int .u64 0]) hk5 (fun z=>z));(try have zc:=Has.kept ZC4.out hk5 (fun z=>z));(try have f0:=zc.frozen 0);(try have f1:=zc.frozen 1);(try have f2:=zc.frozen 2);(try have e0:=zc.cell 0);(try have e1:=zc.cell 1);(try have e2:=zc.cell 2);(try simp only[List.getElem?_toArray,List.getElem?_cons_zero,List.getElem?_cons_succ]at e0 e1 e2);(try have ZC5:=ah zc);(try clear zc);have hk:=Kept.then (F:=aj) (a:=w2) (by(repeat'(first|(with_reducible first|exact ak|apply au|apply ay|apply aA|apply aB)|(exact dW.out)|(right;simp;done)))) hk5;have y5:=wF.out _ (aW.out.then hk);have PX:=ah (show cu w2.heap.size w5 A5 n5 c5 dl from⟨PW.1,PW.2.1,fun k hk=>Nat.le_trans (Kept.size (F:=aj) (a:=w2) (by(repeat'(first|(with_reducible first|exact ak|apply au|apply ay|apply aA|apply aB)|(exact dW.out)|(right;simp;done))))) (PW.2.2 k hk)⟩);have HT5:=ah (show fA w2.heap.size w5 B5 m5 d5 dt from⟨MG.1,MG.2.1,fun k hk=>Nat.le_trans (Kept.size (F:=aj) (a:=w2) (by(repeat'(first|(with_reducible first|exact ak|apply au|apply ay|apply aA|apply aB)|(exact dW.out)|(right;simp;done))))) (MG.2.2 k hk)⟩);have cO:=ah hk;clear hk hk5 PW MG))
  all_goals (
   go_wp2_with fail
   go_meet
   (first|exact ZC PX.out HT5.out cO.out|exact EY ZC5.out (Kept.size dW.out) PX.out HT5.out cO.out|exact EY ZC5.out (Kept.size bn.out) PX.out HT5.out cO.out|exact EY ZC5.out (Nat.le_refl _) PX.out HT5.out cO.out))
 case rest=>
  obtain⟨cb,A,n,c1,B,m,d,rfl,rfl,rfl,hcb,hA,hB,hk,hle⟩:=hcut
  obtain⟨w6,hw6⟩:∃w6,w6=wc:=⟨_,rfl⟩
  subst hw6
  clear z2 z7
  have hkw:Kept aj w w6:=aW.out.then hk
  have hA':cu w.heap.size w6 A n c1 dl:=⟨hA.1,hA.2.1,fun k h=>Nat.le_trans aW.out.size (hA.2.2 k h)⟩
  have hB':fA w.heap.size w6 B m d dt:=⟨hB.1,hB.2.1,fun k h=>Nat.le_trans aW.out.size (hB.2.2 k h)⟩
  have hwr:=qM.out w6 A n c1 B m d hkw hA' hB'
  obtain rfl:=hA.1
  obtain rfl:=hB.1
  have q0:w6.cell? ⟨cb,0,none⟩=some (.int .i64 dep):=hcb.cell 0
  have q1:w6.cell? ⟨cb,1,none⟩=some (.slice A dl.length c1):=hcb.cell 1
  have q2:w6.cell? ⟨cb,2,none⟩=some (.int .u64 y9):=hcb.cell 2
  have nJ:=ah hkw;have yD:=ah hwr
  clear hcb hA hB hA' hB' hk hle hkw hwr
  by_cases h0:dE=0
  rotate_left
  ·have hz:(dE !=0)=true:=by simpa using h0
   have HF:=ah (agw.out w6 (HBAD.out (.inl h0)) nJ.out)
   clear h0 q0 q1 q2
   go_wp2
   refine bodyPost_ret (v:=.tuple #[]) (by simp[results,Tryz.results54,go_sem]) rfl ?_
   exact HF.out
  ·subst h0
   have hwr:=yD.out rfl
   have WT:=ah hwr;clear hwr
   go_wp2_with fail
   clear q0 q1 q2
   refine WT.out.mono ?_
   rintro e w7 ⟨rfl,X1,hs,hl⟩
   by_cases h1:E=0
   rotate_left
   ·have hz:(E !=0)=true:=by simpa using h1
    have e1:=HWM.out h1
    have e2:=HBAD.out (.inr ⟨by first|rfl|trivial,h1⟩)
    rw[e1]at hs hl
    have HF:=ah (show dF w X M c (.tuple #[]) M9 1 (.returned (.tuple #[])) w7 from by rw[e2];exact⟨rfl,X1,hs,hl⟩)
    clear h1 e1 e2 hs hl
    go_wp2
    refine bodyPost_ret (v:=.tuple #[]) (by simp[results,Tryz.results54,go_sem]) rfl ?_
    exact HF.out
   ·subst h1
    have e9:=agx.out (by first|rfl|trivial) (by first|rfl|trivial)
    have HE9:=ah e9;clear e9
    have q5:w7.cell? ⟨X.mb,5,none⟩=some (.map (some X1.mm)):=by
     have:=hs.at'.cell (i:=5) (v:=.map (some X1.mm)) rfl
     rw[hs.mb]at this;exact this
    obtain⟨W8,hr8,hs8,hk8⟩:=eF.PZ (hs.at'.c 5) Tryz.underlying86
    have TB:=hs.trans (dD.OY hs.at' hs8 (Nat.le_refl _) hk8)
    have q10:W8.cell? ⟨X.mb,10,none⟩=some (.map (some X1.lo)):=by
     have:=TB.at'.cell (i:=10) (v:=.map (some X1.lo)) rfl
     rw[TB.mb]at this;exact this
    obtain⟨W9,hr9,hs9,hk9⟩:=bM.PZ (TB.at'.c 9)
    have st9:Step w X M W9 X1 (cleared M1):=TB.trans (dD.Tc TB.at' hs9 (Nat.le_refl _) hk9)
    have hl9:dw X1 (cleared M1).lg (c+1):=hl
    have Tq:=ah st9;have LU:=ah hl9
    clear hs hl hs8 hk8 TB hs9 hk9 st9 hl9
    obtain⟨M2,hM2⟩:∃M2,cleared M1=M2:=⟨_,rfl⟩
    have hsw:∀i,jq M2 (i+1)=mO (jq M2 i) i:=fun i=>wB M2 i
    rw[hM2]at Tq LU HMW HE9
    have IP:=ah hsw;clear hsw hM2
    go_wp2_with fail
    clear q5 q10 hr8 hr9
    go_loopw [7,52] (fun v7 v52 wr=>∃i:Nat,i<=4/\v52=.int .i64 i/\Step w X M wr X1 (jq M2 i)) (fun _ v52 _=>4-(intOf v52).toNat)
    case atStart=>exact⟨0,by omega,rfl,Tq.out⟩
    case round=>
     obtain⟨i,hi,rfl,hst⟩:=hrel
     by_cases hil:i<4
     ·have hmo:=(HMW.out).jq i
      have hmem:=nY hst.at' hmo.st.inv.ok (i:Int)
      rw[hst.mb]at hmem
      have hi64:=fZ (i:=(i:Int)) (by omega) (by omega)
      have hsc:=IP.out i
      obtain⟨M3,P4⟩:∃M3,jq M2 i=M3:=⟨_,rfl⟩
      rw[P4]at hst hmo hmem hsc
      obtain⟨b,hb⟩:∃b,bY M3.st.ms (i:Int)=b:=⟨_,rfl⟩
      rw[hb]at hmem
      have hs1:mO M3 i=if b then {M3 with ns:=M3.ns.set i 0,joins:=fun y=> !decide (y=(i:Int))&&M3.joins y}else{M3 with leaves:=fun y=> !decide (y=(i:Int))&&M3.leaves y}:=by unfold mO;rw[hb]
      have JZ:=ah hmem;have HST:=ah hst;have HMO:=ah hmo;have HSC:=ah hsc;have EJ:=ah hs1;have HI:=ah hi64
      clear hmem hst hmo hsc hs1 hi64 P4 hb
      cases b
      ·go_wp2_with fail
       refine JZ.out.mono ?_
       rintro e w8 ⟨rfl,hk⟩
       have st:=HST.out.quiet hk
       have q9:w8.cell? ⟨X.mb,9,none⟩=some (.map (some X1.le)):=by
        have:=st.at'.cell (i:=9) (v:=.map (some X1.le)) rfl
        rw[st.mb]at this;exact this
       have hdr:=fun ty=>bM.drop (st.at'.c 8) HI.out ty
       obtain⟨W2,hd2⟩:=Classical.axiomOfChoice hdr
       have hr2:=fun ty=>(hd2 ty).1
       have hfin:∀ty,Step w X M (W2 ty) X1 (jq M2 (i+1)):=fun ty=>by
        rw[HSC.out,EJ.out,if_neg (by decide)]
        exact st.trans (dD.Lr st.at' (hd2 ty).2.1 (Nat.le_refl _) (hd2 ty).2.2)
       have pY:=ah hfin
       clear hk st hdr hd2 hfin
       go_wp2_with fail
       go_roundw
       case rel=>exact⟨i+1,by omega,by go_num,pY.out _⟩
       case measure=>simp[intOf];omega
      ·go_wp2_with fail
       refine JZ.out.mono ?_
       rintro e w8 ⟨rfl,hk⟩
       have st:=HST.out.quiet hk
       have q4:w8.cell? ⟨X.mb,4,none⟩=some (.pointer (some ⟨X1.wb,0,none⟩)):=by
        have:=st.at'.cell (i:=4) (v:=.pointer (some ⟨X1.wb,0,none⟩)) rfl
        rw[st.mb]at this;exact this
       have Y5:=KA (st.at'.c 4) HMO.out.ug i hil
       have HHE:=ah Y5;have yJ:=ah st
       clear hk st Y5
       go_wp2_with fail
       clear q4
       refine HHE.out.mono ?_
       rintro e w9 ⟨rfl,hw9,hk9⟩
       have st:=yJ.out.trans (dD.O1 yJ.out.at' hw9 hk9)
       have q8:w9.cell? ⟨X.mb,8,none⟩=some (.map (some X1.jo)):=by
        have:=st.at'.cell (i:=8) (v:=.map (some X1.jo)) rfl
        rw[st.mb]at this;exact this
       have hdr:=fun ty=>bM.drop (st.at'.c 7) HI.out ty
       obtain⟨W2,hd2⟩:=Classical.axiomOfChoice hdr
       have hr2:=fun ty=>(hd2 ty).1
       have hfin:∀ty,Step w X M (W2 ty) X1 (jq M2 (i+1)):=fun ty=>by
        rw[HSC.out,EJ.out,if_pos (by first|rfl|trivial)]
        exact st.trans (dD.OZ st.at' (hd2 ty).2.1 (Nat.le_refl _) (hd2 ty).2.2)
       have pY:=ah hfin
       clear hw9 hk9 st hdr hd2 hfin
       go_wp2_with fail
       go_roundw
       case rel=>exact⟨i+1,by omega,by go_num,pY.out _⟩
       case measure=>simp[intOf];omega
     ·obtain rfl:i=4:=by omega
      have HST:=ah hst
      have HF:=ah (show dF w X M c (.tuple #[]) M9 1 (.returned (.tuple #[])) wr from by
       rw[HE9.out]
       refine⟨rfl,X1,HST.out,?_⟩
       rw[(wC M2 4).2.2.1]
       exact LU.out)
      clear hst
      go_wp2
      go_end0
      exact HF.out
end
end dH
namespace dH
open aO Vn Mst lV IM mY gZ
section
variable{w w':World}{X X0:MX}{M M0:MR}{c k:Nat}
theorem ZF(l:List Int)(x:Int):xq (l++[x])=xq l++[.int .u64 x]:=by unfold xq;rw[List.map_append];rfl
theorem RJ{M:MR}{i:Nat}{m:Mem}(h:M.st.ms[i]? =some m):jF M (i+1)=jF M i++[(M.marks m.1).getD 0]:=by
 obtain⟨hi,he⟩:=List.getElem?_eq_some_iff.1 h
 unfold jF
 rw[List.take_succ_eq_append_getElem hi,he,List.map_append]
 rfl
theorem Vy{M:MR}{i:Nat}{m:Mem}(h:M.st.ms[i]? =some m):known M (i+1)=(known M i&&(M.marks m.1).isSome):=by
 obtain⟨hi,he⟩:=List.getElem?_eq_some_iff.1 h
 unfold known
 rw[List.take_succ_eq_append_getElem hi,he,List.all_append]
 simp
theorem ZG{M:MR}{i n:Nat}(hn:i<=n)(h:known M i=false):known M n=false:=by
 cases hk:known M n with
 |false=>rfl
 |true=>
  unfold known at h hk
  rw[List.all_eq_true]at hk
  rw[List.all_eq_false]at h
  obtain⟨x,hx,h2⟩:=h
  exact absurd (hk x ((List.take_subset_take_left _ hn) hx)) h2
theorem MH(M:MR)(i:Nat):(jF M i).length<=M.st.ms.length:=by
 rw[Vk,List.length_take];omega
theorem Vz(w:World)(old:Int)(A B:Option Addr)(c d:Nat)(l:List Int)(p:List aY)(hm:Src w 1 A l.length (xq l))(hlc:l.length<=c)(hlen:l.length<=1000)(hl:Src w 3 B p.length (aS p))(hll:p.length<=1000)(hold:0<=old/\old<=aT)(hmr:∀x∈l,0<=x/\x<=aT):
  Calls Tryz.prog 107 #[.int .u64 old,.slice A l.length c,.slice B p.length d] w fun e w'=>e=.returned (.int .u64 (dM.BU old l p))/\Kept aj w w':=by
 cases l with
 |nil=>
  refine(dM.adl w old A B c p.length d).mono ?_
  rintro e w' ⟨rfl,rfl⟩
  exact⟨rfl,Kept.refl _ _⟩
 |cons m r=>exact dM.adn w old A B c d m r p hm hlc (by simp at hlen;omega) hl (by omega) hold hmr
attribute [local go_sem] yS
theorem P5(h:dD w X M)(hb:dw X M.lg c)(hc:c<=4000)(hm:bD M k):
  Calls Tryz.prog 55 #[.pointer (some ⟨X.mb,0,none⟩)] w (dF w X M c (.tuple #[]) (fJ M) 1):=by
 have hcell:∀W,Kept aj w W->W.cell? ⟨X.mb,2,none⟩=some (.pointer (some ⟨X.sb,0,none⟩))/\W.cell? ⟨X.mb,3,none⟩=some (.slice X.pA M.pins.length X.pc):=fun W hW=>⟨(h.quiet hW).cell (i:=2) rfl,(h.quiet hW).cell (i:=3) rfl⟩
 have oz:=pN (h.c 2) hm.st.inv.ok
 have yV:∀W,Kept aj w W->Calls Tryz.prog 29 #[.pointer (some ⟨X.sb,0,none⟩)] W fun e w'=>e=.returned (.int .u64 M.st.hz)/\Kept aj W w':=fun W hW=>uH ((h.quiet hW).c 2)
 have hok:=hm.st.inv.ok
 have hlook:∀W,Kept aj w W->∀id:Int,I64 id->W.cell? ⟨X.mb,5,none⟩=some (.map (some X.mm))/\(Instr.lookup 86 (.map (some X.mm)) (.int .i64 id) true).run Tryz.prog W=.ok (.tuple #[.int .u64 ((M.marks id).getD 0),.bool (M.marks id).isSome]) W:=fun W hW id hi=>
  ⟨(h.quiet hW).cell (i:=5) rfl,eF.look_ok ((h.quiet hW).c 5) Tryz.underlying86 Tryz.underlying23 rfl hi⟩
 have hag:∀W A c1,Kept aj w W->Src W 1 A (jF M M.st.ms.length).length (xq (jF M M.st.ms.length))->(jF M M.st.ms.length).length<=c1->Calls Tryz.prog 107 #[.int .u64 M.st.hz,.slice A (jF M M.st.ms.length).length c1,.slice X.pA M.pins.length X.pc] W fun e w'=>e=.returned (.int .u64 (pV M))/\Kept aj W w':=fun W A c1 hW hs hl=>
  Vz W M.st.hz A X.pA c1 X.pc _ M.pins hs hl (by have:=MH M M.st.ms.length;have:=hok.m;omega) (Src.bC ((h.quiet hW).c 3)) (by have:=hm.p3;omega) hm.st.su.hz (MC hm _)
 have hni:=EW hm
 have hwr:∀W,Kept aj w W->Calls Tryz.prog 25 #[.pointer (some ⟨X.mb,0,none⟩),.agg (aJ (dV (pV M))).toArray] W fun e w'=>(∃z:Int,e=.returned (.int .i64 z))/\∃X',Step w X M w' X' (writeM M (dV (pV M)))/\dw X' (writeM M (dV (pV M))).lg (c+1):=fun W hW=>by
  refine(write_any (h.quiet hW) hb hc hok (dV (pV M)) ⟨Src.nil _ _ _,Nat.le_refl _,Nat.zero_le _,Src.nil _ _ _,Nat.le_refl _,Nat.zero_le _,Src.nil _ _ _⟩ (PL hni) ⟨fun h=>absurd h (Nat.lt_irrefl _),fun h=>absurd h (Nat.lt_irrefl _),fun h=>absurd h (Nat.lt_irrefl _)⟩).mono ?_
  rintro e w' ⟨rfl,X',h1,h2⟩
  exact⟨⟨_,rfl⟩,X',(Step.refl h hW).trans h1,h2⟩
 have hout:∀i,i<=M.st.ms.length->known M i=false->∀W,Kept aj w W->dF w X M c (.tuple #[]) (fJ M) 1 (.returned (.tuple #[])) W:=fun i hi hk0 W hW=>by
  have e1:fJ M=M:=by unfold fJ;rw[ZG hi hk0,if_neg (by decide)]
  rw[e1]
  exact⟨rfl,X,Step.refl h hW,hb.mono (Nat.le_succ _)⟩
 have hlow:known M M.st.ms.length=true->¬M.st.hz<pV M->∀W,Kept aj w W->dF w X M c (.tuple #[]) (fJ M) 1 (.returned (.tuple #[])) W:=fun hk0 hlt W hW=>by
  have e1:fJ M=M:=by unfold fJ;rw[if_pos hk0,if_neg hlt]
  rw[e1]
  exact⟨rfl,X,Step.refl h hW,hb.mono (Nat.le_succ _)⟩
 have hup:known M M.st.ms.length=true->M.st.hz<pV M->fJ M=writeM M (dV (pV M)):=fun hk0 hlt=>by unfold fJ;rw[if_pos hk0,if_pos hlt]
 have uD:=ZB hm.st
 have hml:=hok.m
 have hms:∀i m,M.st.ms[i]? =some m->jF M (i+1)=jF M i++[(M.marks m.1).getD 0]/\known M (i+1)=(known M i&&(M.marks m.1).isSome):=fun i m h=>⟨RJ h,Vy h⟩
 have hle:=fun i=>MH M i
 have hN0:known M 0=true:=by unfold known;simp
 have hM0:jF M 0=[]:=by unfold jF;simp
 obtain⟨H9,hH9⟩:∃H9,pV M=H9:=⟨_,rfl⟩
 obtain⟨hz,hhz⟩:∃hz,M.st.hz=hz:=⟨_,rfl⟩
 simp only[hH9]at hag hwr hlow hup
 simp only[hhz]at yV hag hlow hup
 obtain⟨ep,lS⟩:∃ep,M.st.ep=ep:=⟨_,rfl⟩
 obtain⟨fl,hfl⟩:∃fl,M.st.fl=fl:=⟨_,rfl⟩
 obtain⟨ms,VA⟩:∃ms,M.st.ms=ms:=⟨_,rfl⟩
 rw[lS,hfl,VA]at oz
 rw[VA]at uD hml hlow hup
 simp only[VA]at hag hout hms hle
 obtain⟨M9,Jr⟩:∃M9,fJ M=M9:=⟨_,rfl⟩
 rw[Jr]at hout hlow hup⊢
 simp only[dV,zn,aJ,List.length_nil,jD]at hwr
 have wF:=ah hcell;have FO:=ah oz;have VB:=ah yV;have agy:=ah hlook;have HAG:=ah hag;have qM:=ah hwr;have vT:=ah hout;have ahf:=ah hlow;have Ti:=ah hup;have HMI:=ah uD;have HML:=ah hml;have HMS:=ah hms;have jk:=ah hle;have dO:=ah hN0;have HM0:=ah hM0
 obtain⟨z2,z3⟩:=hcell w (Kept.refl _ _)
 clear hcell oz yV hok hlook hag hni hwr hout hlow hup uD hml hms hle hN0 hM0 hH9 hhz lS hfl VA Jr h hb hc hm
 go_enter Tryz.func55,Tryz.ntmps55
 go_wp2_with fail
 clear z2 z3
 refine FO.out.mono ?_
 rintro e w1 ⟨A0,c0,rfl,hr0,hk1⟩
 have HR0:=ah hr0;have fF:=ah hk1;clear hr0 hk1
 go_wp2_with fail
 go_loopw [2,5,6,15] (fun v2 v5 v6 v15 wr=>∃(i:Nat) (A:Option Addr) (c:Nat),i<=ms.length/\v15=.int .i64 i/\v2=.slice A (jF M i).length c/\aF 23 1 w1.heap.size wr A (jF M i).length c (xq (jF M i))/\known M i=true/\Kept aj w1 wr) (fun _ _ _ v15 _=>ms.length-(intOf v15).toNat)
 case atStart=>exact⟨0,none,0,Nat.zero_le _,rfl,by rw[HM0.out];rfl,by rw[HM0.out];exact aF.nil _ _ _ _,dO.out,Kept.refl _ _⟩
 case round=>
  obtain⟨i,A,c1,hi,rfl,rfl,hr,hkn,hk⟩:=hrel
  have HKN:=ah hkn;have HK:=ah hk;have HR:=ah hr;clear hkn hk hr
  by_cases hil:i<ms.length
  ·obtain⟨m,hm⟩:∃m,ms[i]? =some m:=⟨_,List.getElem?_eq_getElem hil⟩
   obtain⟨hs1,hs2⟩:=HMS.out i m hm
   have uD:=HMI.out m (List.mem_of_getElem? hm)
   obtain⟨ad,rfl,had,d0,d1⟩:=iH ((Src.bC HR0.out.1).kept HK.out (fun _ _ x=>x)) (by omega) i m hm
   have hlk:∀W,Kept aj w1 W->W.cell? ⟨X.mb,5,none⟩=some (.map (some X.mm))/\(Instr.lookup 86 (.map (some X.mm)) (.int .i64 m.1) true).run Tryz.prog W=.ok (.tuple #[.int .u64 ((M.marks m.1).getD 0),.bool (M.marks m.1).isSome]) W:=fun W hW=>agy.out W (fF.out.then hW) m.1 uD
   have hle:=jk.out i
   have hml:=HML.out
   obtain⟨v,hv⟩:∃v,(M.marks m.1).getD 0=v:=⟨_,rfl⟩
   obtain⟨b,hb⟩:∃b,(M.marks m.1).isSome=b:=⟨_,rfl⟩
   rw[hv]at hs1
   rw[HKN.out,hb,Bool.true_and]at hs2
   simp only[hv,hb]at hlk
   obtain⟨L,hL⟩:∃L,jF M i=L:=⟨_,rfl⟩
   rw[hL]at hs1 hle HR⊢
   have EJ:=ah hs1;have HS2:=ah hs2;have HLK:=ah hlk
   have Jc:Hid (L.length+1<=maxLen):=ah (by unfold maxLen;omega)
   have xG:Hid ((L.length+1)*8<=140737488355328):=ah (by omega)
   obtain⟨W1,hW1⟩:∃W1,wr.alloc (.cells #[.int .i64 m.1,.int .i64 m.2] 65)=W1:=⟨_,rfl⟩
   have hkw:Kept aj wr W1:=by rw[<-hW1];(repeat'(first|(with_reducible first|exact ak|apply au|apply ay|apply aA|apply aB)|(right;simp;done)))
   have hnb:Has W1 wr.heap.size 65 #[.int .i64 m.1,.int .i64 m.2]:=by rw[<-hW1];exact Has.new _ _ _
   have q0:W1.cell? ⟨wr.heap.size,0,none⟩=some (.int .i64 m.1):=hnb.cell 0
   have q5:=(hlk W1 (HK.out.then hkw)).1
   have l5:∀n,_:=fun n=>(hlk (W1.drewN n) (HK.out.then (hkw.drewN n))).2
   have nJ:=ah hkw
   obtain⟨m1,m2⟩:=m
   dsimp only at d0 d1 hW1 q0 l5
   clear hs1 hs2 hlk hv hb hL hm uD hkw hnb
   cases b
   ·go_wp2_with fail
    go_quiet (fail)
    go_wp2
    refine bodyPost_ret (v:=.tuple #[]) (by simp[results,Tryz.results55,go_sem]) rfl ?_
    exact vT.out (i+1) (by omega) HS2.out _ (by(repeat'(first|(with_reducible first|exact ak|apply au|apply ay|apply aA|apply aB)|(exact fF.out.then (HK.out.then nJ.out))|(right;simp;done))))
   ·go_wp2_with fail
    go_quiet (fail)
    go_wp2_with (at_builtin;refine aN dM.Ss (.tmp 31) (.tmp 33) rfl rfl (Value.slice A L.length c1) rfl (aC HR.out.1 (F:=aj) (by(repeat'(first|(with_reducible first|exact ak|apply au|apply ay|apply aA|apply aB)|(exact nJ.out)|(right;simp;done)))) (fun _ _ x=>x)) 1 rfl (Src.dn (t:=23) (size:=1) (m:=1) (cs:=#[.int .u64 v]) (by(repeat (with_reducible first|exact Has.bT _ _ _ (by simp)|apply Has.drew|apply Has.drewN|apply Has.alloc|(apply Has.past<;>(try omega))))) rfl) (by simp[Value.oneCell']) Jc.out xG.out ?_;intro A1 c9 w9 ho1 hg1 ha1;have hpush:=aF.pushed HR.out (by(repeat'(first|(with_reducible first|exact ak|apply au|apply ay|apply aA|apply aB)|(exact HK.out.then nJ.out)|(right;simp;done)))) ho1 hg1 ha1;have HP:=ah hpush;clear ho1 hg1 ha1 hpush)
    go_roundw
    case rel=>exact⟨i+1,A1,c9,by omega,by go_num,by rw[EJ.out,List.length_append];rfl,by rw[EJ.out,List.length_append,ZF];exact HP.out.1,HS2.out,HP.out.2⟩
    case measure=>simp[intOf];omega
  ·obtain rfl:i=ms.length:=by omega
   obtain⟨z2,z3⟩:=wF.out wr (fF.out.then HK.out)
   have ahg:=ah (aF.kept (w':=wr) HR.out (Kept.refl _ _))
   obtain⟨LL,hLL⟩:∃LL,jF M ms.length=LL:=⟨_,rfl⟩
   have hag:=fun W (hW:Kept aj w W)=>HAG.out W A c1 hW
   simp only[hLL]at hag
   rw[hLL]at HR⊢
   have ahh:=ah hag
   clear hag hLL ahg
   go_wp2_with fail
   go_region_held3 (fun W=>W.cell? ⟨X.mb,2,none⟩=some (.pointer (some ⟨X.sb,0,none⟩))/\W.cell? ⟨X.mb,3,none⟩=some (.slice X.pA M.pins.length X.pc))
    (first|with_reducible exact y4|with_reducible exact y3|with_reducible exact⟨z2,z3⟩|(simp[go_sem,z2,z3];done))
    (first
     |(go_at_call 29;refine(VB.out _ (by(repeat'(first|(with_reducible first|exact ak|apply au|apply ay|apply aA|apply aB)|(exact fF.out.then HK.out)|(right;simp;done))))).mono ?_;rintro e w3 ⟨rfl,hk3⟩;have hk:=Kept.then (F:=aj) (a:=wr) (by(repeat'(first|(with_reducible first|exact ak|apply au|apply ay|apply aA|apply aB)|(right;simp;done)))) hk3;have y3:=wF.out _ (fF.out.then (HK.out.then hk));have bn:=ah hk;clear hk hk3)
     |(go_at_call 107;refine(ahh.out _ (by(repeat'(first|(with_reducible first|exact ak|apply au|apply ay|apply aA|apply aB)|(exact fF.out.then (HK.out.then bn.out))|(right;simp;done)))) (Src.bC (aC HR.out.1 (F:=aj) (by(repeat'(first|(with_reducible first|exact ak|apply au|apply ay|apply aA|apply aB)|(exact bn.out)|(right;simp;done)))) (fun _ _ z=>z))) (fV HR.out.1).1).mono ?_;rintro e w4 ⟨rfl,hk4⟩;have hk:=Kept.then (F:=aj) (a:=wr) (by(repeat'(first|(with_reducible first|exact ak|apply au|apply ay|apply aA|apply aB)|(exact bn.out)|(right;simp;done)))) hk4;have y4:=wF.out _ (fF.out.then (HK.out.then hk));have dW:=ah hk;clear hk hk4))
   clear y3 z2 z3
   obtain⟨z2,z3⟩:=y4
   go_wp2_with fail
   refine(VB.out _ (by(repeat'(first|(with_reducible first|exact ak|apply au|apply ay|apply aA|apply aB)|(exact fF.out.then (HK.out.then dW.out))|(right;simp;done))))).mono ?_
   rintro e w5 ⟨rfl,hk5⟩
   have cO:=ah (Kept.then (F:=aj) (a:=w) (by(repeat'(first|(with_reducible first|exact ak|apply au|apply ay|apply aA|apply aB)|(exact fF.out.then (HK.out.then dW.out))|(right;simp;done)))) hk5);clear hk5 z2 z3
   by_cases hlt:hz<H9
   ·have HU:=ah (Ti.out HKN.out hlt)
    have hw:=qM.out w5 cO.out
    have HW:=ah hw;clear hw
    go_wp2_with fail
    refine HW.out.mono ?_
    rintro e w6 ⟨⟨z,rfl⟩,X',hs,hl⟩
    have HQ:=ah (show dF w X M c (.tuple #[]) M9 1 (.returned (.tuple #[])) w6 from by rw[HU.out];exact⟨rfl,X',hs,hl⟩)
    clear hs hl
    go_wp2
    go_end0
    exact HQ.out
   ·have HQ:=ah (ahf.out HKN.out (by omega) w5 cO.out)
    go_wp2_with fail
    go_end0
    exact HQ.out
end
end dH
end Go.Proofs.YtfjdpbbgfjhnlaaGreat
