/- Part 39. -/
import Derived.Test.YtomccaocggplgaaGreatMP37
import Derived.Deep.CutBlock
set_option linter.unusedSimpArgs false
set_option linter.unusedVariables false
set_option maxHeartbeats 32000000
set_option maxRecDepth 100000
namespace Go.Proofs.YtomccaocggplgaaGreat
open Go.RowKit
namespace bW
open aJ Vn Mst jQ IM kK gu vM MO
section
variable{w w':World}{X:MX}{M:MR}{A:Option Addr}{c k:Nat}{T:List aO}
theorem adn(h:dJ w X M)(hT:mV w X M A c T)(a:fE)(hk:0<=a.k/\a.k<=3)(hn:5<=a.n/\a.n<8)(hl:T.length<=1000)(hr:(dO M.st (a.n-5)).req=a.x.req)(he:(dO M.st (a.n-5)).e=0)(h13:a.x.k=11)(hm:bC M k):
  Calls Tryz.prog 12 #[.slice A T.length c,.pointer (some ⟨X.mb,0,none⟩),.agg (fZ a).toArray] w (og w X M T a):=by
 obtain⟨W0,hW0⟩:∃W0,w.alloc (.cells (fZ a).toArray 47)=W0:=⟨_,rfl⟩;have hk0:Kept aj w W0:=by rw[<-hW0];(repeat'(first|(with_reducible first|exact ak|apply au|apply ay|apply aA|apply aB)|(right;simp;done)))
 have hn0:Has W0 w.heap.size 47 (fZ a).toArray:=by rw[<-hW0];exact Has.new _ _ _
 obtain⟨q0,q1,-,-,-⟩:=uM hn0;have e1:iQ T M a=(if T.any (fun p=>decide (p.id=(dO M.st (a.n-5)).pin))=true then T else T++M.pins.filter (fun p=>decide (p.id=(dO M.st (a.n-5)).pin))):=by rw[IK a hk hn,if_neg (by rw[hr,he];simp),if_pos h13]
 unfold og;rw[e1];have hp3:=hm.p3;have hfr:=fun W (hW:Kept aj W0 W)=>Ns (h.quiet (hk0.then hW)) (by omega);have hlt:∀q,dN X M q->q<W0.heap.size:=fun q hq=>by have:=h.lt hq;have:=hk0.size;omega
 have hsd:=E7 (h.quiet hk0) (a.n-5);have hqq:∀W,Kept aj W0 W->W.cell? ⟨w.heap.size,2,none⟩=some (.int .i64 a.x.k)/\W.cell? ⟨w.heap.size,4,none⟩=some (.int .i64 a.x.req)/\W.cell? ⟨w.heap.size,9,none⟩=some (.int .i64 a.x.n):=fun W hW=>by obtain⟨-,-,z2,z4,z9⟩:=uM (hn0.kept hW (fun z=>z));exact⟨z2,z4,z9⟩
 obtain⟨⟨s0,s1,s2,s3⟩,hs⟩:∃s,dO M.st (a.n-5)=s:=⟨_,rfl⟩;rw[hs]at hsd hr he⊢;have hw:IntKind.i64.wrap (a.n-5)=a.n-5:=IntWalk.i64_in _ (by omega);have HT:=ah hT;have HK:=ah hk0;have uD:=ah hsd;have HQ:=ah hqq;have Gt:=ah hfr;have sJ:=ah hlt;clear hk0 hn0 e1 hT h hsd hqq hs hfr hlt hm;obtain⟨P,hP⟩:∃P,M.pins=P:=⟨_,rfl⟩;simp only[hP]at Gt hp3⊢;obtain⟨cs,hcs⟩:∃cs,(fZ a).toArray=cs:=⟨_,rfl⟩;rw[hcs]at hW0⊢;obtain⟨kk,hkk⟩:∃kk,a.k=kk:=⟨_,rfl⟩;obtain⟨nn,hnn⟩:∃nn,a.n=nn:=⟨_,rfl⟩;obtain⟨xk,hxk⟩:∃xk,a.x.k=xk:=⟨_,rfl⟩;obtain⟨xr,hxr⟩:∃xr,a.x.req=xr:=⟨_,rfl⟩;rw[hkk]at q0 hk;rw[hnn]at q1 hn hw uD;rw[hxk]at h13 HQ;rw[hxr]at hr HQ;obtain⟨xn,hxn⟩:∃xn,a.x.n=xn:=⟨_,rfl⟩;rw[hxn]at HQ;obtain⟨bx,hbx⟩:∃bx,w.heap.size=bx:=⟨_,rfl⟩;rw[hbx]at q0 q1 HQ;have k4:(kk==4)=false:=by simp;omega
 have k5:(kk==5)=false:=by simp;omega
 have g1:¬kk<0:=by omega
 have g2:¬3<kk:=by omega
 have g3:¬nn<5:=by omega
 have g4:¬8<=nn:=by omega
 dsimp only at hr he;subst hr he h13;clear hk hn hcs hkk hnn hxk hxr hxn hP;obtain⟨R,hR⟩:∃R,(if T.any (fun p=>decide (p.id=s3))=true then T else T++P.filter (fun p=>decide (p.id=s3)))=R:=⟨_,rfl⟩;rw[hR];have HR:=ah hR;clear hR;go_enter Tryz.func12,Tryz.ntmps12;go_wp2_with fail;clear hW0 q0 q1 k4 k5 g1 g2 g3 g4 hw hbx;refine uD.out.mono ?_;rintro e w2 ⟨rfl,hk2⟩;unfold pI;obtain⟨W2,hW2⟩:∃W2,w2.alloc (.cells #[.int .i64 s0,.int .i64 s1,.int .i64 0,.int .i64 s3] 76)=W2:=⟨_,rfl⟩;have hkw:Kept aj W0 W2:=by rw[<-hW2];(repeat'(first|(with_reducible first|exact ak|apply au|apply ay|apply aA|apply aB)|(exact hk2)|(right;simp;done)))
 have hs2:Has W2 w2.heap.size 76 #[.int .i64 s0,.int .i64 s1,.int .i64 0,.int .i64 s3]:=by rw[<-hW2];exact Has.new _ _ _
 obtain⟨z2,z4,z9⟩:=HQ.out W2 hkw;have y1:W2.cell? ⟨w2.heap.size,1,none⟩=some (.int .i64 s1):=hs2.cell 1;have y2:W2.cell? ⟨w2.heap.size,2,none⟩=some (.int .i64 0):=hs2.cell 2;have aV:=ah (HK.out.then hkw);have WU:=ah fun W (hW:Kept aj W2 W)=>Gt.out W (hkw.then hW);have kR:=ah hkw.size;have HS2:=ah hs2;clear hkw hs2 hk2 Gt;have n1:(s1 !=s1)=false:=by simp
 go_wp2_with fail;clear z2 z4 z9 y1 y2 hW2 n1;go_loopw [9,10] (fun v9 v10 wr=>∃i:Nat,i<=T.length/\v10=.int .i64 i/\v9=.bool ((T.take i).any (fun p=>decide (p.id=s3)))/\Kept aj W2 wr) (fun _ v10 _=>T.length-(intOf v10).toNat)
 case atStart=>exact⟨0,Nat.zero_le _,rfl,rfl,Kept.refl _ _⟩
 case round=>
  obtain⟨i,hi,rfl,rfl,hk⟩:=hrel;have uk:=ah hk;clear hk;by_cases hil:i<T.length
  ·obtain⟨p,hp⟩:∃p,T[i]? =some p:=⟨_,lB0 hil⟩;have hst:(T.take (i+1)).any (fun p=>decide (p.id=s3))=((T.take i).any (fun p=>decide (p.id=s3))||decide (p.id=s3)):=by rw[aJ.take_snoc hp,List.any_append];simp
   obtain⟨ad,rfl,_,e0,-,-⟩:=iL (HT.out.s.kept (aV.out.then uk.out) (fun _ _ x=>x)) (by omega) i p hp;have y3:wr.cell? ⟨w2.heap.size,3,none⟩=some (.int .i64 s3):=(HS2.out.kept uk.out (fun z=>z)).cell 3;have hc:=HT.out.c;obtain⟨b,hb⟩:∃b,(T.take i).any (fun p=>decide (p.id=s3))=b:=⟨_,rfl⟩;obtain⟨q1,q2,q3⟩:=p;dsimp only at e0 hst;rw[hb]at hst⊢;have HST:=ah hst;clear hst hb hp;cases b
   ·by_cases hq:q1=s3
    ·have hq2:(q1==s3)=true:=by simpa using hq
     have hd:decide (q1=s3)=true:=decide_eq_true hq;clear hq;go_wp2_with fail;go_quiet (fail);go_wp2;go_roundw
     case rel=>exact⟨i+1,by omega,by go_num,by rw[HST.out,hd];rfl,uk.out.drewN _⟩
     case measure=>simp[intOf];omega
    ·have hq2:(q1==s3)=false:=by simpa using hq
     have hd:decide (q1=s3)=false:=decide_eq_false hq;clear hq;go_wp2_with fail;go_quiet (fail);go_wp2;go_roundw
     case rel=>exact⟨i+1,by omega,by go_num,by rw[HST.out,hd];rfl,uk.out.drewN _⟩
     case measure=>simp[intOf];omega
   ·go_wp2_with fail;go_quiet (fail);go_wp2;go_roundw
    case rel=>exact⟨i+1,by omega,by go_num,by rw[HST.out];rfl,uk.out.drewN _⟩
    case measure=>simp[intOf];omega
  ·obtain rfl:i=T.length:=by omega
   rw[List.take_length];obtain⟨b,hb⟩:∃b,T.any (fun p=>decide (p.id=s3))=b:=⟨_,rfl⟩;have HB:=ah hb;rw[hb];obtain⟨w8,hw8⟩:∃w8,w8=wr:=⟨_,rfl⟩;subst hw8;clear hb hil;go_wp2_with fail;refine(WU.out w8 uk.out).mono ?_;rintro e w9 ⟨A9,d9,rfl,Fh,hk9⟩;have HN9:=ah Fh;have nH:=ah (uk.out.then hk9);clear Fh hk9 WU;cases b
   ·go_wp2_with fail;go_loopw [7,12] (fun v7 v12 wr=>∃(i:Nat) (A':Option Addr) (c':Nat),i<=P.length/\v12=.int .i64 i/\v7=.slice A' (T++(P.take i).filter (fun p=>decide (p.id=s3))).length c'/\mV wr X M A' c' (T++(P.take i).filter (fun p=>decide (p.id=s3)))/\Kept aj w9 wr) (fun _ v12 _=>P.length-(intOf v12).toNat)
    case atStart=>exact⟨0,A,c,Nat.zero_le _,rfl,by simp,by simpa using HT.out.kept (aV.out.then nH.out),Kept.refl _ _⟩
    case round=>
     obtain⟨i,A',c',hi,rfl,rfl,htr,hk⟩:=hrel;have Q8:=ah htr;have Lc:=ah hk;clear htr hk;by_cases hil:i<P.length
     ·obtain⟨q,hq⟩:∃q,P[i]? =some q:=⟨_,lB0 hil⟩;have hst:T++(P.take (i+1)).filter (fun p=>decide (p.id=s3))=(T++(P.take i).filter (fun p=>decide (p.id=s3)))++(if q.id=s3 then [q]else []):=by
       rw[aJ.take_snoc hq,List.filter_append,List.append_assoc];by_cases FK:q.id=s3
       ·rw[if_pos FK,List.filter_cons,if_pos (decide_eq_true FK)];rfl
       ·rw[if_neg FK,List.filter_cons,if_neg (by simpa using FK)];rfl
      have hln:(T++(P.take i).filter (fun p=>decide (p.id=s3))).length<=1003:=by
       rw[lA0];have:=List.length_filter_le (fun p:aO=>decide (p.id=s3)) (P.take i);have h4:(P.take i).length<=P.length:=by rw[List.length_take];omega
       omega
      have hcs:=fun W (hW:Kept aj wr W)=>iL ((Src.bF HN9.out.1).kept (Lc.out.then hW) (fun _ _ x=>x)) (by omega) i q hq;obtain⟨ad,rfl,_,e0,e1,e2⟩:=hcs wr (Kept.refl _ _);have hce:∀W,Kept aj wr W->W.cell? (ad.add (i*3))=some (.int .i64 q.id)/\W.cell? ⟨(ad.add (i*3)).block,(ad.add (i*3)).off+1,none⟩=some (.int .u64 q.at')/\W.cell? ⟨(ad.add (i*3)).block,(ad.add (i*3)).off+2,none⟩=some (.int .i64 q.left):=fun W hW=>by obtain⟨DV,h2,_,g0,g1,g2⟩:=hcs W hW;injection h2 with h2;subst h2;exact⟨g0,g1,g2⟩
      have y3:wr.cell? ⟨w2.heap.size,3,none⟩=some (.int .i64 s3):=(HS2.out.kept (nH.out.then Lc.out) (fun z=>z)).cell 3;have hct:=Q8.out.c;obtain⟨Ti,YR⟩:∃Ti,T++(P.take i).filter (fun p=>decide (p.id=s3))=Ti:=⟨_,rfl⟩;rw[YR]at Q8 hst hln hct⊢;obtain⟨q1,q2,q3⟩:=q;dsimp only at e0 e1 e2 hce hst;have iY:=ah hce;have HST:=ah hst;clear hcs hce hst YR hq;by_cases FK:q1=s3;rotate_left
      ·have hq2:(q1==s3)=false:=by simpa using FK
       have hst:=HST.out;rw[if_neg FK,List.append_nil]at hst;have jF:=ah hst;clear FK hst;go_wp2_with fail;go_quiet (fail);go_wp2;go_roundw
       case rel=>exact⟨i+1,A',c',by omega,by go_num,by rw[jF.out],by rw[jF.out];exact Q8.out.kept (by(repeat'(first|(with_reducible first|exact ak|apply au|apply ay|apply aA|apply aB)|(right;simp;done)))),Lc.out.drewN _⟩
       case measure=>simp[intOf];omega
      ·have hst:=HST.out;rw[if_pos FK]at hst;have hq2:(q1==s3)=true:=by simpa using FK
       have jF:=ah hst;obtain⟨L,hL⟩:∃L,Ti.length=L:=⟨_,rfl⟩;have LX:Hid (0+L<=maxLen):=ah (by unfold maxLen;omega);have HY0:Hid ((0+L)*24<=140737488355328):=ah (by omega);have HM:Hid (L+1<=maxLen):=ah (by unfold maxLen;omega);have HY:Hid ((L+1)*24<=140737488355328):=ah (by omega);have hsr:=Q8.out.s;rw[hL]at hsr⊢;have HSR:=ah hsr;have HL:=ah hL;have za:=fun o=>iY.out (wr.alloc o) (by(repeat'(first|(with_reducible first|exact ak|apply au|apply ay|apply aA|apply aB)|(right;simp;done))));have zn:=fun n o=>iY.out ((wr.drewN n).alloc o) (by(repeat'(first|(with_reducible first|exact ak|apply au|apply ay|apply aA|apply aB)|(right;simp;done))));have za0:=fun o=>(za o).1;have za1:=fun o=>(za o).2.1;have za2:=fun o=>(za o).2.2;have zn0:=fun n o=>(zn n o).1;have zn1:=fun n o=>(zn n o).2.1;have zn2:=fun n o=>(zn n o).2.2;clear hst FK hsr hL hln hct za zn;go_wp2_with fail;go_quiet (fail);go_wp2_with fail
       go_region_law (first
        |(with_reducible apply kU qN (.tmp 107) (.tmp 108) (n:=0) (xs:=[]) (A:=A') (m:=L) (c:=c') (news:=aS Ti)
          rfl
          rfl
          exact(rfl:_=Value.slice (some ⟨_,0,none⟩) 0 0)
          (refine uj (cs:=#[]) ?_ rfl;(repeat (with_reducible first|exact Has.bK _ _ _ (by simp)|apply Has.drew|apply Has.drewN|apply Has.alloc|(apply Has.past<;>(try omega)))))
          rfl
          (refine HSR.out.kept (F:=aj) ?_ (fun _ _ x=>x);(repeat'(first|(with_reducible first|exact ak|apply au|apply ay|apply aA|apply aB)|(right;simp;done))))
          exact uY _
          exact LX.out
          exact HY0.out
          intro A1 c1 wA ho1 hg1 ha1
          have hk1:Kept aj wr wA:=by refine Kept.grown ?_ hg1 ?_;(repeat'(first|(with_reducible first|exact ak|apply au|apply ay|apply aA|apply aB)|(right;simp;done)));(intro k hk;simp[Value.ownBlock]at hk;right;omega)
          have hz1:=hk1.size
          obtain⟨a0,a1,a2⟩:=iY.out wA hk1
          (try have hqa:Has wA (wr.heap.size+1) 53 #[.int .i64 q1,.int .u64 q2,.int .i64 q3]:=Has.grown (Has.bK _ _ _ (by simp)) hg1 (by intro e;injection e with e;exact absurd e (Nat.ne_of_lt (Nat.lt_succ_self _))))
          (try have hqb:Has wA wr.heap.size 53 #[.int .i64 q1,.int .u64 q2,.int .i64 q3]:=Has.grown ((Has.bK _ _ _ (by simp)).alloc _) hg1 (by intro e;injection e with e;exact absurd e (Nat.ne_of_gt (Nat.lt_succ_self _))))
          simp only[Nat.zero_add,List.nil_append]at ho1 ha1⊢)
        |(with_reducible apply kU qN (.tmp 109) (.tmp 114) (n:=L) (xs:=aS Ti) (m:=1) (news:=[.int .i64 q1,.int .u64 q2,.int .i64 q3])
          rfl
          rfl
          exact(rfl:_=Value.slice A1 L c1)
          (refine aC ho1 (F:=aj) ?_ (fun _ _ x=>x);(repeat'(first|(with_reducible first|exact ak|apply au|apply ay|apply aA|apply aB)|(right;simp;done))))
          exact(rfl:_=Value.slice (some ⟨_,0,none⟩) 1 1)
          (refine Src.dA (t:=53) (size:=3) (m:=1) (cs:=#[.int .i64 q1,.int .u64 q2,.int .i64 q3]) ?_ rfl;(first|(focus ((repeat (with_reducible first|exact Has.bK _ _ _ (by simp)|apply Has.drew|apply Has.drewN|apply Has.alloc|(apply Has.past<;>(try omega))));done))|(exact hqa)|(exact hqb)|(focus (refine Has.kept (F:=aj) hqa ?_ (fun z=>z);(repeat'(first|(with_reducible first|exact ak|apply au|apply ay|apply aA|apply aB)|(right;simp;done)));done))))
          (intro u hu;simp at hu;rcases hu with rfl|rfl|rfl<;>rfl)
          exact HM.out
          exact HY.out
          intro A2 c2 wB ho2 hg2 ha2
          have hk2:Kept aj wr wB:=by refine Kept.grown (Kept.then hk1 ?_) hg2 ?_;(repeat'(first|(with_reducible first|exact ak|apply au|apply ay|apply aA|apply aB)|(right;simp;done)));(intro k hk;rw[hk]at ha1;simp[Value.ownBlock]at ha1;right;omega)))
       all_goals
        go_wp2
        go_roundw
        case rel=>
         have hnew:aF 53 3 wr.heap.size wB A2 (Ti++[(⟨q1,q2,q3⟩:aO)]).length c2 (aS (Ti++[(⟨q1,q2,q3⟩:aO)])):=by
          rw[lA0,HL.out,dh.sW];refine⟨ho2,fun g hg=> ?_⟩;have hg:(Value.slice A2 (L+1) c2).ownBlock=some g:=hg;rcases ha2 with e|e
          ·rw[hg]at e;rw[<-e]at ha1;simp[Value.ownBlock]at ha1;omega
          ·rw[hg]at e;injection e with e;have:=hk1.size;first|omega|(simp at e;omega)
         refine⟨i+1,A2,c2,by omega,by go_num,by rw[jF.out,lA0,HL.out];rfl,?_,Lc.out.then hk2⟩;rw[jF.out];exact mV.new hnew (fun q hq=>by have:=sJ.out q hq;have:=kR.out;have:=nH.out.size;have:=Lc.out.size;omega)
        case measure=>simp[intOf];omega
     ·obtain rfl:i=P.length:=by omega
      have Ut:=ah ((aV.out.then nH.out).then Lc.out);have e9:T++(P.take P.length).filter (fun p=>decide (p.id=s3))=T++P.filter (fun p=>decide (p.id=s3)):=by rw[List.take_length]
      rw[e9]at Q8⊢;have h9:=HR.out;rw[if_neg (by rw[HB.out];decide)]at h9;rw[h9]at Q8⊢;clear h9 e9;go_wp2;go_ret;exact⟨A',c',rfl,Q8.out,Ut.out⟩
   ·go_wp2_with fail;go_loopw [7,12] (fun v7 v12 wr=>v12=.int .i64 0/\v7=.slice A T.length c/\Kept aj W2 wr) (fun _ _ _=>0)
    case atStart=>exact⟨rfl,rfl,nH.out⟩
    case round=>
     obtain⟨rfl,rfl,hk⟩:=hrel;have Ut:=ah (aV.out.then hk);clear hk;have h9:=HR.out;rw[if_pos HB.out]at h9;subst h9;by_cases hpl:0<P.length
     ·go_wp2;go_ret;exact⟨A,c,rfl,HT.out.kept Ut.out,Ut.out⟩
     ·go_wp2;go_ret;exact⟨A,c,rfl,HT.out.kept Ut.out,Ut.out⟩
end
end bW
namespace bW
open aJ Vn Mst jQ IM kK gu vM MO
section
variable{w w':World}{X:MX}{M:MR}{A:Option Addr}{c k:Nat}{T:List aO}
theorem ado(h:dJ w X M)(hT:mV w X M A c T)(hl:T.length<=1000)(hp:∀p∈T,0<=p.left/\p.left<=1000000)(hm:bC M k)(a:fE):
  Calls Tryz.prog 12 #[.slice A T.length c,.pointer (some ⟨X.mb,0,none⟩),.agg (fZ a).toArray] w (og w X M T a):=by
 by_cases h1:a.k=4\/a.k=5
 ·exact aaC h hT hl hp _ a h1
 by_cases h2:a.k<0\/3<a.k\/a.n<5\/8<=a.n
 ·exact aaD hT _ a h1 h2
 have hk:0<=a.k/\a.k<=3:=by omega
 have hn:5<=a.n/\a.n<8:=by omega
 by_cases hr:(dO M.st (a.n-5)).req=a.x.req;rotate_left
 ·exact IL h hT a hk hn (.inl (.inl hr))
 by_cases he:(dO M.st (a.n-5)).e=0;rotate_left
 ·exact IL h hT a hk hn (.inl (.inr he))
 by_cases h11:a.x.k=11
 ·exact adn h hT a hk hn hl hr he h11 hm
 by_cases h13:a.x.k=13
 ·exact aaE h hT a hk hn hl hr he h13
 ·exact IL h hT a hk hn (.inr ⟨h11,h13⟩)
end
end bW
namespace aH
variable{F:Nat->Prop}{w:World}{g n:Nat}{m:Safe}{ps:List Pc}{aX aQ:Int}
theorem aaF(h:aZ w g F n m ps aX aQ):
  Calls Tryz.prog 29 #[.pointer (some ⟨g,0,none⟩)] w fun e w'=>e=.returned (.tuple #[])/\(∃Gl,aZ w' g F n m ps aX Gl)/\Kept F w w':=by
 obtain⟨mb,A,c,hF,hg,hm,ho⟩:=h;have c1:w.cell? ⟨g,3,none⟩=some (.int .i64 aQ):=hg.cell 3;have f1:=hg.frozen 3;have hne:=hm.ne hg;have hnr:=own_ne ho hg (by decide);have H:=ah hg;clear hg;have HM:=ah hm;clear hm;have HO:=ah ho;clear ho;obtain⟨B,hB⟩:∃B,IntKind.i64.wrap (aQ+1)=B:=⟨_,rfl⟩;have hmn:∀(W:World) (ts:Array TypeId) (t:TypeId),(Builtin.min_ ts t #[.int .i64 B,.int .i64 1073741824]).run Tryz.prog W=.ok (.int .i64 (min B 1073741824)) W:=by
  intro W ts t;rw[run_min_int2];split
  ·rw[show min B 1073741824=1073741824 by omega]
  ·rw[show min B 1073741824=B by omega]
 go_enter Tryz.func29,Tryz.ntmps29;go_wp2
 all_goals
  go_end0
  refine⟨rfl,⟨min B 1073741824,mb,A,c,hF,?_,?_,?_⟩,by(repeat'(first|(with_reducible first|exact ak|apply au|apply ay|apply aA|apply aB)|(exact .inl ((hF _).2 (.inl rfl)))|(right;simp;done)))⟩
  ·((repeat (first|with_reducible exact H.out|with_reducible apply Has.dH|with_reducible apply Has.past|with_reducible apply Has.drewN|with_reducible apply Has.drew|with_reducible apply Has.alloc))<;>first|omega|rfl)
  ·exact HM.out.kept (F:=fun k=>k=g) (by(repeat'(first|(with_reducible first|exact ak|apply au|apply ay|apply aA|apply aB)|(exact .inl rfl)|(right;simp;done)))) hne
  ·exact aC HO.out (F:=fun k=>k=g) (by(repeat'(first|(with_reducible first|exact ak|apply au|apply ay|apply aA|apply aB)|(exact .inl rfl)|(right;simp;done)))) fun k hk e=>hnr (by rw[hk,e])
theorem WV(hps0:ps=[])(h:aZ w g F n m ps aX aQ)(K:Int)(hK:K<=9223372036854775807)(hpi:∀p∈ps,I64 p.1)(hlen:ps.length<=100000)(hn:n<=1000000)
  (Z:Nat) (hZ:∀k,(dU m k).size<=Z) (hsz:Z+total ps<=4611686018427387904\/Z+(max K 0).toNat<=4611686018427387904):
  Calls Tryz.prog 10 #[.pointer (some ⟨g,0,none⟩),.int .i64 K] w fun e w'=>e=.returned (.tuple #[])/\(∃Gl,aZ w' g F (n+ps.length) (qK m (max K 0).toNat ps) [] aX Gl)/\Kept F w w':=by
 have hn:=dZ h;have HN:=ah hn;clear hn;obtain⟨mb,A,c,hF,hg,hm,ho⟩:=h;have c0:w.cell? ⟨g,0,none⟩=some (.map (some mb)):=hg.cell 0;have c1:w.cell? ⟨g,1,none⟩=some (.slice A ps.length c):=hg.cell 1;have HG:=ah hg;clear hg;have HM:=ah hm;clear hm;have HO:=ah ho;clear ho;have HF:=ah hF;clear hF;have vw:=ah hpi;clear hpi;have HZ:=ah hZ;clear hZ;obtain⟨L,hL,hLm⟩:∃L:Nat,max K 0=L/\L<=9223372036854775807:=⟨(max K 0).toNat,by omega,by omega⟩;rw[hL,Int.toNat_natCast]at hsz⊢;have hmx:∀(W:World) (ts:Array TypeId) (t:TypeId),(Builtin.max_ ts t #[.int .i64 K,.int .i64 0]).run Tryz.prog W=.ok (.int .i64 L) W:=by
  intro W ts t;rw[run_max_int2,<-hL];split
  ·rw[show max K 0=0 by omega]
  ·rw[show max K 0=K by omega]
 clear hL;go_enter Tryz.func10,Tryz.ntmps10;go_wp2_with fail;refine HN.out.mono ?_;rintro e w' ⟨rfl,rfl⟩;go_wp2_with fail;clear hmx;go_loopw [4,6,7,17] (fun v4 v6 v7 v17 wr=>∃(i left:Nat) (mi:Safe),i<=ps.length/\left<=9223372036854775807/\v17=.int .i64 i/\v4=.int .i64 left/\iK wr mb (n+i) mi/\qK m L ps=qK mi left (ps.drop i)/\(∀k,(dU mi k).size<=Z+total (ps.take i)/\(dU mi k).size+left<=Z+L)/\Kept (fun k=>k=mb) w wr) (fun _ _ _ v17 _=>ps.length-(intOf v17).toNat)
 case atStart=>exact⟨0,L,m,Nat.zero_le _,hLm,rfl,rfl,HM.out,rfl,fun k=>⟨by simpa [total]using HZ.out k,Nat.add_le_add_right (HZ.out k) L⟩,Kept.refl _ _⟩
 case round=>
  obtain⟨i,left,mi,hi,hlm,rfl,rfl,uX,hcr,hzi,hk⟩:=hrel;have hend:∀(W:World) (j:Nat) (mj:Safe),j<=ps.length->iK W mb (n+j) mj->Kept (fun k=>k=mb) wr W->aZ W g F (n+ps.length) mj ps aX aQ/\Kept F w W:=by intro W j mj hj hmj hkW;have hkk:=hk.then hkW;refine⟨⟨mb,A,c,HF.out,HG.out.kept hkk (fun e=>HM.out.ne HG.out e.symm),hmj.mono (by omega),aC HO.out hkk ?_⟩,hkk.mono fun k e=>(HF.out k).2 (.inr (.inl e))⟩;rintro k hkb rfl;exact HM.out.BQ HO.out hkb
  have jI:=ah hend;clear hend;have hkg:=HG.out.kept hk (fun e=>HM.out.ne HG.out e.symm);have d0:wr.cell? ⟨g,0,none⟩=some (.map (some mb)):=hkg.cell 0;have hgl:=hkg.lt;clear hkg;by_cases hil:i<ps.length
  ·exact absurd hil (by rw[hps0];exact Nat.not_lt_zero _)
  ·obtain rfl:i=ps.length:=by omega
   go_wp2_with fail;obtain⟨hd1,hk1⟩:=jI.out wr ps.length _ (Nat.le_refl _) uX (Kept.refl _ _);refine(Jk hd1).mono ?_;rintro e w4 ⟨rfl,hd2,hk3⟩;go_wp2_with fail;refine(aaF hd2).mono ?_;rintro e w5 ⟨rfl,⟨Gl,hd3⟩,hk4⟩;go_wp2_with fail;go_end0;refine⟨rfl,?_,(hk1.then hk3).then hk4⟩;have hz:=hcr;rw[List.drop_length,qK]at hz;rw[hz];exact⟨_,hd3⟩
end aH
namespace bW
open aJ Vn Mst jQ IM kK gu vM MO
section
variable{w w':World}{X X0:MX}{M M0:MR}{c k:Nat}
structure yP(w':World)(X:MX)(M:MR)(n:Nat)(m:aH.Safe)(aQ:Int)(R':Wl.St)(k:Nat):Prop where
 d:aH.aZ w' X.g X.F n m [] X.aX aQ
 log:Wl.Log M.lg.first R' [] m []
 low:Pt.qx M.lg.first m []
 hd:Pt.Hd R'
 tx:Wl.texts R'=Pt.kM k M.lg.l
 k1:k<=M.lg.l.length
 k2:k+1<=(Wl.texts R').length
 len:R'.length<=M.lg.R.length
 n':n=X.n
theorem yP.kept{n:Nat}{m:aH.Safe}{aQ:Int}{R':Wl.St}{k:Nat}{G:Nat->Prop}(h:yP w X M n m aQ R' k)(hk:Kept G w w')(hs:∀q,X.F q->¬G q):yP w' X M n m aQ R' k:={h with d:=h.d.kept hk hs}
theorem WW(h:dJ w X M)(hb:dG X M.lg c)(hc:c<=4000)(hT:M.lg.T=[])(K:Int)(hK:K<=9223372036854775807):
  Calls Tryz.prog 10 #[.pointer (some ⟨X.g,0,none⟩),.int .i64 K] w fun e w'=>e=.returned (.tuple #[])/\(∃n m aQ R' k,yP w' X M n m aQ R' k)/\Kept X.F w w':=by
 have hp:sK w X M.lg:=h.c 1;have hps:X.ps=[]:=lE0 (by rw[Pt.lX.aeC hp,hT];rfl);have hn:=hb.n;have hl:=hb.l;have hz:=fun q=>hp.low.low.size hp.log q;obtain⟨R',k,P,c1,c2,c3,c4,c5,c6,c7,c8⟩:=Pt.lX.Vr hp hb.hd (max K 0).toNat;obtain⟨k',t1,t2⟩:=hp.tx;rw[hT,List.append_nil]at t1;have t3:(Wl.texts M.lg.R).length=M.lg.l.length+1:=by rw[t1,Pt.uF]
 have t4:P=M.lg.l.length:=by omega
 rw[t4,List.take_of_length_le (Nat.le_refl _)]at c4;rw[hT]at c7;refine(aH.WV hps hp.d K hK (by rw[hps];intro p hp;cases hp) (by rw[hps];decide) (by rw[hps]at hn;simp at hn;omega) 66000 hz (.inl (by rw[hps];decide))).mono ?_;rintro e w' ⟨he,⟨Gl,hd⟩,hk⟩;exact⟨he,⟨_,_,Gl,R',k,hd,c1,c2,c3,c4,by omega,by rw[c4,Pt.uF];omega,by simpa using c7,by rw[hps];rfl⟩,hk⟩
theorem Tj{n:Nat}{m:aH.Safe}{aQ:Int}{R':Wl.St}{k:Nat}{ns:List aG}(h:yP w' X M n m aQ R' k)(h0:dJ w X M)(hb:dG X M.lg c)(hc:c<=4000)(hns:WE M.lg.l ns)(hrun:Mst.runN st0 ns=M.st)(mP:1<=M.st.ep):
  Calls Tryz.prog 11 #[.pointer (some ⟨X.g,0,none⟩)] w' fun e w2=>∃X',e=.returned (.tuple #[.pointer (some ⟨X'.mb,0,none⟩),.int .i64 0])/\dJ w2 X' (yL ⟨M.lg.first,R',[],M.lg.l⟩ ns)/\dG X' (⟨M.lg.first,R',[],M.lg.l⟩:nR) c/\X'.g=X.g/\(∀q,dN X' (yL ⟨M.lg.first,R',[],M.lg.l⟩ ns) q->X.F q\/w'.heap.size<=q)/\Kept X.F w' w2:=by
 have hp:sK w X M.lg:=h0.c 1;have h1:=hb.n;have h2:=hb.f;have h3:=hb.l;have h4:=h.len;have h5:=hp.f1;have h6:=h.k1;have h7:=h.n';refine(aap w' X.g n X.F m X.aX aQ M.lg.first R' k M.lg.l ns h.d (by omega) h.log h.low h.hd h.tx h.k1 h.k2 (by omega) hp.f1 (by omega) (by omega) hp.hs (by omega) hns (by rw[hrun];omega)).mono ?_;rintro e w2 ⟨X',he,a1,a2,a3,a4,a5,a6⟩;refine⟨X',he,a1,⟨?_,?_,hb.l,h.hd⟩,a2,a5,a6⟩
 ·rw[a3,a4,h7];simp;omega
 ·show M.lg.first+(R'.length+([]:List (List UInt8)).length:Nat)<=_;simp;omega
end
end bW
namespace bW
open aJ Vn Mst jQ IM kK gu
structure OAt(w:World)(X:MX)(M:MR):Prop where
 c0:Has w X.mb 85 (wI X M)
 c2:fH w X.sb X.FS M.st
 c3:w.ownsRow 0 53 3 (.slice X.pA M.pins.length X.pc) M.pins.length (aS M.pins)
section
variable{w w':World}{X X0:MX}{M M0:MR}{c:Nat}
theorem dJ.old(h:dJ w X M)(hk:Kept X.F w w'):OAt w' X M:=
 ⟨Has.kept (h.c 0) hk (fun z=>by have:=h.ap 0 1 X.mb rfl (.inl z);omega),fH.kept (h.c 2) hk (fun q hq z=>by have:=h.ap 2 1 q hq (.inl z);omega),aC (h.c 3) hk (fun q hq z=>by have:=h.ap 3 1 q hq (.inl z);omega)⟩
theorem OAt.cell(h:OAt w X M){i:Nat}{v:Value}(hv:(wI X M)[i]? =some v):w.cell? ⟨X.mb,i,none⟩=some v:=by have h1:w.cell? ⟨X.mb,i,none⟩=(wI X M)[i]? :=Has.cell h.c0 i;rw[h1,hv]
end
end bW
namespace bW
open aJ Vn Mst jQ IM kK gu MO
attribute [local go_sem↓] GZ
theorem adp{M:MR}{k:Nat}(h:bC M k)(a:fE):rP M.st (jJ M a).st:=by
 unfold jJ;split
 ·exact QF _ _ _
 split
 ·exact aae h
 split
 ·exact aaj _ _
 split
 ·exact Wu _ _
 ·exact(fG.refl _).rel
theorem agS{x:Int}(h:I64 x): -9223372036854775808<=x/\x<=9223372036854775807:=by unfold I64 at h;simpa [Lit.wf,IntKind.min,IntKind.max,IntKind.signed,IntKind.bits]using h
structure BA(w:World)(g mb i:Nat)(wr:World)(X:MX)(M:MR):Prop where
 own:Own w mb (2+6*i) i wr X M
 g:X.g=g
 out:M.out=[]
 ep:1<=M.st.ep
 lok:fO M
 pk:dS M
 T:M.lg.T=[]
end bW
namespace bW
open aJ Vn Mst jQ IM kK gu vM MO
theorem adq{L:nR}{ns:List aG}(hs:qA (Mst.runN st0 ns))(k:Nat):bC (yL L ns) k:=by have h0:bC (mk0 nU) 0:=QG;refine⟨hs,hs.inv.pl,fun p hp=> ?_,h0.tq,h0.last,(fun i v hv=>by cases hv),(fun i v hv=>by cases hv),Nat.zero_le _⟩;have h1:=hs.inv.pin p hp;have h2:=hs.su.pin p hp;exact⟨by omega,by omega,h2.1,h2.2⟩
theorem adr{L:nR}{ns:List aG}(h:WE L.l ns):fO (yL L ns):=⟨ns,h,rfl⟩
theorem aeY{L:nR}{ns:List aG}:dS (yL L ns):=rfl
end bW
namespace bW
open aJ Vn Mst jQ IM kK gu vM MO
theorem BA.reopen{w wz W:World}{g mb i n':Nat}{X1:MX}{M:MR}{m':aH.Safe}{bo:Int}{R':Wl.St}{k':Nat}(hkr:BA w g mb i wz X1 M)(hi:i<=60)(hW:Kept X1.F wz W)(hc:yP W X1 M n' m' bo R' k'):
  Calls Tryz.prog 11 #[.pointer (some ⟨g,0,none⟩)] W fun e w2=>∃X' M',e=.returned (.tuple #[.pointer (some ⟨X'.mb,0,none⟩),.int .i64 0])/\BA w g X'.mb i w2 X' M'/\M'.st=M.st/\M'.pins=M.st.pins/\Kept X1.F W w2/\(∀q,dN X' M' q->dN X1 M q\/W.heap.size<=q):=by
 have ho:=hkr.own;obtain⟨ns,hns,hrun⟩:=hkr.lok.ns;have hFn:∀k,X1.F k->dN X1 M k:=fun k hk=>⟨1,.inl hk⟩;have h9:=Tj hc ho.at' ho.lb (by omega) hns hrun hkr.ep;rw[hkr.g]at h9;refine h9.mono ?_;rintro e w2 ⟨X',rfl,a1,a2,a3,a4,a5⟩;have hk2:Kept X1.F wz w2:=hW.then a5;have hsz:=ho.kp.size;have hsW:=hW.size;refine⟨X',_,rfl,⟨⟨rfl,a1,a2,adq (by rw[hrun];exact ho.ok.st) i,fun q hq=> ?_,ho.kp.trans hk2 (fun q hq=> .inr (ho.nw q (hFn q hq)))⟩,a3,rfl,?_,adr hns,aeY,rfl⟩,hrun,?_,a5,fun q hq=> ?_⟩
 ·rcases a4 q hq with y|y
  ·exact ho.nw q (hFn q y)
  ·omega
 ·show 1<=(Mst.runN st0 ns).ep;rw[hrun];exact hkr.ep
 ·show(Mst.runN st0 ns).pins=_;rw[hrun]
 ·rcases a4 q hq with y|y
  ·exact .inl (hFn q y)
  ·exact .inr y
end bW
namespace bW
open aJ Vn Mst jQ IM kK gu MO
structure vP(w:World)(g mb i:Nat)(wr:World)(X:MX)(M:MR)(A:Option Addr)(c:Nat)(T:List aO):Prop where
 k:BA w g mb i wr X M
 hz:Hz 0 M
 row:mV wr X M A c T
 th:There T M.pins
 di:sU T
 len:T.length<=3*i
structure Ld(w:World)(g mb i:Nat)(wr:World)(X:MX)(M:MR)(A:Option Addr)(c:Nat)(T:List aO)(a:fE)(h0:Int):Prop where
 k:BA w g mb i wr X M
 hz:Hz 0 M
 h0:h0<=M.st.hz
 row:mV wr X M A c T
 th:There (iQ T M a) M.pins
 di:sU (iQ T M a)
 len:(iQ T M a).length<=3*i
 hl:T.length<=1000
 hp:∀p∈T,0<=p.left/\p.left<=1000000
section
variable{w wr w':World}{g mb i:Nat}{X X':MX}{M M':MR}{A:Option Addr}{c:Nat}{T:List aO}
theorem mV.move{F:Nat->Prop}(h:mV wr X M A c T)(hk:Kept F wr w')(hF:∀q,F q->dN X M q)(hg:∀q,dN X' M' q->dN X M q\/wr.heap.size<=q):mV w' X' M' A c T:=by
 by_cases h0:0<T.length
 ·refine⟨h.s.kept hk (fun ad e hf=>h.off h0 ad e (hF _ hf)),h.c,fun _ ad e hf=> ?_⟩;obtain⟨DV,e2,hlt,_⟩:=h.s.2 h0;rw[e]at e2;injection e2 with e2;subst e2;rcases hg _ hf with y|y
  ·exact h.off h0 ad e y
  ·omega
 ·obtain rfl:T=[]:=lE0 (by omega);exact⟨Src.nil _ _ _,Nat.zero_le _,fun h=>absurd h (Nat.lt_irrefl _)⟩
theorem BA.quiet(h:BA w g mb i wr X M)(hk:Kept aj wr w'):BA w g mb i w' X M:={h with own:=h.own.quiet hk}
theorem vP.quiet(h:vP w g mb i wr X M A c T)(hk:Kept aj wr w'):vP w g mb i w' X M A c T:={h with k:=h.k.quiet hk,row:=h.row.kept hk}
theorem Ld.quiet{a:fE}{h0:Int}(h:Ld w g mb i wr X M A c T a h0)(hk:Kept aj wr w'):Ld w g mb i w' X M A c T a h0:={h with k:=h.k.quiet hk,row:=h.row.kept hk}
theorem vP.left(h:vP w g mb i wr X M A c T):∀p∈T,0<=p.left/\p.left<=1000000:=fun p hp=>by obtain⟨a,q,hq,-,-,b⟩:=h.th p hp;have:=(h.k.own.ok.pin q hq).2.1;omega
theorem vP.has(h:vP w g mb i wr X M A c T):∀p∈T,(∃q∈M.pins,q.id=p.id/\q.at'=p.at')/\M.st.hz<=p.at':=fun p hp=>by obtain⟨a,q,hq,e1,e2,b⟩:=h.th p hp;obtain⟨q',hq',-,e3⟩:=Kr (Eq.symm (show kp M.pins=kp M.st.pins from h.k.pk)).symm hq;exact⟨⟨q,hq,e1,e2⟩,by have:=h.hz.p q' hq';omega⟩
theorem aid(h:vP w g mb i wr X M A c T){w1:World}(hW:Kept aj wr w1)(hi:i<60)(a:fE)(hga:Am w a)(hf:wR a=true):
  Calls Tryz.prog 9 #[.pointer (some ⟨mb,0,none⟩),.agg (fZ a).toArray] w1 fun e w'=>e=.returned (.bool (decide (0<=a.k/\a.k<=7)))/\∃X2,(0<=a.k/\a.k<=7->Ld w g mb (i+1) w' X2 (jJ M a) A c T a M.st.hz)/\(¬(0<=a.k/\a.k<=7)->vP w g mb (i+1) w' X2 M A c T):=by
 have h1:=h.quiet hW;have ho:=h1.k.own;obtain⟨f1,f2,f3,f4,f5⟩:=QC hf;have hxo:=(hga.1.kept ho.kp).ok f1 f3 f4 f5;have hdo:=agC ho.at' ho.lb (by omega) ho.ok (by omega) h1.k.out a hxo hga.1.i hga.2;rw[ho.mb]at hdo;refine hdo.mono ?_;rintro e w' ⟨he,X2,hs,hl⟩;have hok:=ho.ok.act a hga.1.i hxo;have hkr:BA w g mb (i+1) w' X2 (jJ M a):=⟨ho.step hs (hl.mono (by omega)) hok,hs.dk.trans h1.k.g,acZ M a h1.k.out,(adp ho.ok a).ep h1.k.ep,h1.k.lok.act ho.ok a hga.1.i hxo hga.1.t.1,h1.k.pk.act ho.ok a,agR M a h1.k.T⟩;have hrw:mV w' X2 (jJ M a) A c T:=h1.row.move hs.k (fun _ x=>x) hs.g;refine⟨he,X2,fun hk=> ?_,fun hk=> ?_⟩
 ·have h3:=hkr.own.ok.p3;have h4:=adg T (jJ M a) a;have h5:=h1.len;exact⟨hkr,h1.hz.act h1.k.pk ho.ok a,(Hz.act ⟨Int.le_refl _,h1.hz.p⟩ h1.k.pk ho.ok a).g,hrw,adl ho.ok h1.k.pk h1.th h1.di a hok,aav h1.di (aaw hok hkr.pk) a,by omega,by omega,h1.left⟩
 ·have e1:jJ M a=M:=by unfold jJ;rw[if_neg (by omega),if_neg (by omega),if_neg (by omega),if_neg (by omega)]
  rw[e1]at hkr hrw;exact⟨hkr,h1.hz,hrw,h1.th,h1.di,by have:=h1.len;omega⟩
theorem told_none{a:fE}(hk:¬(0<=a.k/\a.k<=7))(T:List aO)(M:MR):iQ T M a=T:=by unfold iQ;rw[if_neg (by omega),if_pos (by omega)]
theorem aeZ(h:vP w g mb i wr X M A c T)(hi:i<=60)(a:fE)(hk:¬(0<=a.k/\a.k<=7))(hn:I64 a.n):
  Calls Tryz.prog 10 #[.pointer (some ⟨g,0,none⟩),.int .i64 a.n] wr fun e w'=>e=.returned (.tuple #[])/\∀W,Kept aj w' W->Calls Tryz.prog 11 #[.pointer (some ⟨g,0,none⟩)] W fun e w2=>∃kb X' M',e=.returned (.tuple #[.pointer (some ⟨kb,0,none⟩),.int .i64 0])/\Ld w g kb i w2 X' M' A c T a M.st.hz:=by
 have ho:=h.k.own;have hcr:=WW ho.at' ho.lb (by omega) h.k.T a.n (agS hn).2;rw[h.k.g]at hcr;refine hcr.mono ?_;rintro e w5 ⟨rfl,⟨n',m',bo,R',k',hc⟩,hk5⟩;refine⟨rfl,fun W hW=> ?_⟩;have h6:Kept X.F wr W:=hk5.trans hW (fun _ z=>z.elim);refine(h.k.reopen hi h6 (hc.kept hW (fun _ _ z=>z))).mono ?_;rintro e w2 ⟨X',M',rfl,hkr,e1,e2,hk2,hf⟩;have hFn:∀k,X.F k->dN X M k:=fun k hk=>⟨1,.inl hk⟩;have hsz:=h6.size;have hl:=h.len;have hth:=aay ho.ok h.k.pk h.th e2
 have hrw:mV w2 X' M' A c T:=h.row.move (h6.then hk2) hFn (fun q hq=>by
  rcases hf q hq with y|y
  ·exact .inl y
  ·exact .inr (by omega))
 refine⟨_,X',M',rfl,hkr,⟨by rw[e1];exact h.hz.g,by rw[e1];exact h.hz.p⟩,by rw[e1];exact Int.le_refl _,hrw,?_,?_,?_,by omega,h.left⟩
 ·rw[told_none hk];exact hth
 ·rw[told_none hk];exact h.di
 ·rw[told_none hk];exact hl
theorem agT{a:fE}{h0:Int}(h:Ld w g mb i wr X M A c T a h0){w1:World}(hW:Kept aj wr w1):
  Calls Tryz.prog 12 #[.slice A T.length c,.pointer (some ⟨mb,0,none⟩),.agg (fZ a).toArray] w1 fun e w'=>∃A' c',e=.returned (.slice A' (iQ T M a).length c')/\vP w g mb i w' X M A' c' (iQ T M a):=by
 have h1:=h.quiet hW;have ho:=h1.k.own;have:=ado ho.at' h1.row h1.hl h1.hp ho.ok a;rw[ho.mb]at this;refine this.mono ?_;rintro e w' ⟨A',c',he,hr,hk⟩;exact⟨A',c',he,h1.k.quiet hk,h1.hz,hr,h1.th,h1.di,h1.len⟩
theorem ae0{W0:World}{B:Option Addr}{l:List fE}(hl:Src W0 24 B l.length (xO l)){j:Nat}{a:fE}(ha:l[j]? =some a):∃ad,B=some ad/\∀W,Kept aj W0 W->(Cc (ad.add (j*24))).run Tryz.prog W=.ok (.agg (fZ a).toArray) W/\W.cell? ⟨(ad.add (j*24)).block,(ad.add (j*24)).off+1,none⟩=some (.int .i64 a.n):=by obtain⟨ad,rfl,-,-⟩:=Aq W0 B l hl j a ha;refine⟨ad,rfl,fun W hW=> ?_⟩;have h2:=hl.kept hW (fun _ _ z=>z);obtain⟨DV,e2,-,h3⟩:=Aq W _ l h2 j a ha;obtain⟨ad4,e4,-,-,-,h5⟩:=Ap W _ l h2 j a ha;injection e2 with e2;injection e4 with e4;subst e2;subst e4;exact⟨h3,h5⟩
