/- Part 8. -/
import Derived.Test.YtgbigpdiacjbgaaGreatKP06
set_option linter.unusedSimpArgs false
set_option linter.unusedVariables false
set_option maxHeartbeats 32000000
set_option maxRecDepth 100000
namespace Go.Proofs.YtgbigpdiacjbgaaGreat
open Go.RowKit
namespace Ask
open bg Ops fG eP MO Vn
attribute [local go_sem↓] bW cZ
theorem NL(a b M:Int)(h:max a b=M)(W:World)(ts:Array TypeId)(t:TypeId):(Builtin.max_ ts t #[.int .i64 a,.int .i64 b]).run Tryz.prog W=.ok (.int .i64 M) W:=by
 rw[run_max_int2];split
 ·rw[show M=b by omega]
 ·rw[show M=a by omega]
theorem jv{W:World}{g:Nat}{x:aO}(h:Has W g 63 (au x).toArray):(loadVar 63 ⟨g,0,none⟩).run Tryz.prog W=.ok (aK x) W:=aH W g x h
section
variable{w w':World}{X:PX}{t:TS}{G:Nat->Prop}
theorem QC(h:kN w X t)(h0:t.ph=0)(hd0:t.dn=false)(hbl:t.bo.length<=1000)(ep hd:Int):Calls Tryz.prog 206 #[.agg (fM X t).toArray,.int .i64 ep,.int .i64 hd] w (jJ w t ep hd):=by
 obtain⟨W0,hW0⟩:∃W0,(w.alloc (.cells (fM X t).toArray 111)).alloc (.cells fH 63)=W0:=⟨_,rfl⟩;have hk0:Kept aj w W0:=by rw[<-hW0];(repeat'(first|(with_reducible first|exact ay|apply aA|apply aB|apply aC|apply aF)|(right;simp;done)))
 have hc0:Has W0 w.heap.size 111 (fM X t).toArray:=by rw[<-hW0];exact(Has.new _ _ _).alloc _
 have hn0:Has W0 (w.heap.size+1) 63 fH:=by rw[<-hW0];exact Has.dQ _ _ _ (by simp)
 have WO:=ah hk0;have hHC:=ah hc0;have WQ:=ah hn0;have hHB:=ah h.bo;have QD:=ah (show w.heap.size<=w.heap.size+1 by omega);unfold fM bQ at hW0;simp only[List.cons_append,List.nil_append]at hW0;unfold fM bQ;simp only[List.cons_append,List.nil_append];by_cases hh:hd<0
 ·obtain⟨W1,hst,hb1,hk1⟩:=jF hn0 rfl {bP with k:=15};have hx:aJ t ep hd=(4,{bP with k:=15}):=by unfold aJ;rw[if_neg (by rw[hd0];decide),if_pos h0,if_pos hh]
  have HX:=ah hx;have HB1:=ah hb1;have iL:=ah hk1;unfold au bP at hst;dsimp only[List.length_nil]at hst;clear h hk0 hc0 hn0 hx hb1 hk1 hd0 h0 hbl;go_enter Tryz.func206,Tryz.ntmps206;go_wp2;refine bodyPost_ret (dG rfl _ _ (w.heap.size+1) _ rfl (jv HB1.out)) rfl ?_;refine⟨none,0,?_,?_,?_,(fun _ h=>by cases h),?_⟩
  ·rw[HX.out];rfl
  ·rw[HX.out];exact Src.nil _ _ _
  ·rw[HX.out];exact Nat.le_refl _
  ·exact WO.out.trans iL.out (fun i hi=> .inr (by rw[hi];exact QD.out))
 ·have hx:aJ t ep hd=(hd,{bP with k:=5,ep:=max ep 0,o7:=t.cl,lK:=t.rq,ops:=t.bo}):=by unfold aJ;rw[if_neg (by rw[hd0];decide),if_pos h0,if_neg hh]
  have HX:=ah hx;obtain⟨n,hn⟩:∃n,t.bo.length=n:=⟨_,rfl⟩;obtain⟨M,hM⟩:∃M,max ep 0=M:=⟨_,rfl⟩;have hmx:=NL ep 0 M hM;obtain⟨W1,hW1⟩:∃W1,W0.alloc (.cells #[.int .i64 t.cl,.int .i64 t.rq,.slice X.bA n X.bc] 59)=W1:=⟨_,rfl⟩;have hk1:Kept aj W0 W1:=by rw[<-hW1];(repeat'(first|(with_reducible first|exact ay|apply aA|apply aB|apply aC|apply aF)|(right;simp;done)))
  have hb1:Has W1 W0.heap.size 59 #[.int .i64 t.cl,.int .i64 t.rq,.slice X.bA n X.bc]:=by rw[<-hW1];exact Has.new _ _ _
  have hcl:=Nb W1 X.bA X.bc t.bo (Src.fA (aP h.bo (hk0.then hk1) (fun _ _ z=>z))) (by omega);rw[hn]at hcl hW0;have c0:W0.cell? ⟨w.heap.size,0,none⟩=some (.int .i64 t.cl):=hc0.cell 0;have c1:W0.cell? ⟨w.heap.size,1,none⟩=some (.int .i64 t.rq):=hc0.cell 1;have c2:W0.cell? ⟨w.heap.size,2,none⟩=some (.slice X.bA n X.bc):=by rw[<-hn];exact hc0.cell 2
  have d2:W1.cell? ⟨W0.heap.size,2,none⟩=some (.slice X.bA n X.bc):=hb1.cell 2;have nP:=ah hcl;have HB1:=ah hb1;have iL:=ah hk1;have qF:=ah hn;have uN:=ah hM;rw[hn];clear h hk0 hc0 hn0 hx hb1 hk1 hd0 h0 hbl hcl hn hM;go_enter Tryz.func206,Tryz.ntmps206;go_wp2_with fail;clear hW0 hW1 c0 c1 c2 d2;refine nP.out.mono ?_;rintro e w3 ⟨A,c,rfl,hnp,hk3⟩;rw[qF.out]at hnp⊢;have hb3:=HB1.out.kept hk3 (fun z=>z);have IV:=WQ.out.kept (iL.out.then hk3) (fun z=>z);have e0:=hb3.cell 0;have e1:=hb3.cell 1;have e2:=hb3.cell 2;have ef2:=hb3.frozen 2;simp at e0 e1 e2;obtain⟨bb,hbb⟩:∃bb,W0.heap.size=bb:=⟨_,rfl⟩;rw[hbb]at hb3 e0 e1 e2 ef2⊢;obtain⟨W5,sG⟩:∃W5,w3.setCell ⟨bb,2,none⟩ (.slice A n c)=W5:=⟨_,rfl⟩;have hb5:Has W5 bb 59 #[.int .i64 t.cl,.int .i64 t.rq,.slice A n c]:=by rw[<-sG];exact hb3.aQ rfl
  have hm5:Has W5 (w.heap.size+1) 63 fH:=by rw[<-sG];exact IV.past (by have:=WQ.out.lt;omega)
  have hk5:Kept aj w W5:=by rw[<-sG];exact(WO.out.then (iL.out.then hk3)).put (.inr (by have:=WO.out.size;omega))
  obtain⟨W6,hst,hb6,hk6⟩:=jF hm5.drew rfl {bP with k:=5,ep:=M,o7:=t.cl,lK:=t.rq,oA:=A,oc:=c,ops:=t.bo};have hsr:Src W6 3 A n (cells t.bo):=by refine Src.fA (aP (aP hnp.1 (F:=fun k=>k=bb) (by rw[<-sG];(repeat'(first|(with_reducible first|exact ay|apply aA|apply aB|apply aC|apply aF)|(exact .inl rfl)|(right;simp;done)))) (fun k hk e=>own_ne hnp.1 hb3 (by decide) (e▸hk))) (Kept.drew (Kept.refl aj W5)|>.mono (G:=fun k=>k=w.heap.size+1) (fun _ z=>z.elim)|>.then hk6) (fun k hk e=> ?_));have:=hnp.2 k hk;have:=iL.out.size;have:=WQ.out.lt;omega
  unfold au bP at hst;dsimp only[List.length_nil]at hst;rw[qF.out]at hst;have a0:W5.cell? ⟨bb,0,none⟩=some (.int .i64 t.cl):=hb5.cell 0;have a1:W5.cell? ⟨bb,1,none⟩=some (.int .i64 t.rq):=hb5.cell 1;have a2:W5.cell? ⟨bb,2,none⟩=some (.slice A n c):=hb5.cell 2;have g6:=hb5.drew.kept hk6 (by have:=WQ.out.lt;omega);have a3:W6.cell? ⟨bb,0,none⟩=some (.int .i64 t.cl)/\W6.cell? ⟨bb,1,none⟩=some (.int .i64 t.rq)/\W6.cell? ⟨bb,2,none⟩=some (.slice A n c):=⟨g6.cell 0,g6.cell 1,g6.cell 2⟩;have HS:=ah hsr;have jS:=ah hb6;have eu:=ah hk6;have dK:=ah hk5;have HC:=ah (mM hnp.1).1;have HNW:=ah (show∀ad,A=some ad->w.heap.size<=ad.block from fun ad e=>Nat.le_trans (Nat.le_trans WO.out.size iL.out.size) (bV.above hnp ad e));clear hb3 IV hnp hk3 hb5 hm5 hk5 hsr hb6 hk6 g6 hbb;go_wp2;clear sG e0 e1 e2 ef2
  go_region_held3 (fun W=>W.cell? ⟨bb,0,none⟩=some (.int .i64 t.cl)/\W.cell? ⟨bb,1,none⟩=some (.int .i64 t.rq)/\W.cell? ⟨bb,2,none⟩=some (.slice A n c))
   (first|with_reducible exact⟨a0,a1,a2⟩|with_reducible exact a3|(simp[go_sem,a0,a1,a2];done))
   (fail)
  clear a0 a1 a2 a3 hst;go_wp2;refine bodyPost_ret (dG rfl _ _ (w.heap.size+1) _ rfl (jv jS.out)) rfl ?_;refine⟨A,c,?_,?_,?_,HNW.out,?_⟩
  ·rw[HX.out,<-uN.out];rfl
  ·rw[HX.out];show Src W6 3 A t.bo.length (cells t.bo);rw[qF.out];exact HS.out
  ·rw[HX.out];show t.bo.length<=c;rw[qF.out];exact HC.out
  ·exact(dK.out.drew).trans eu.out (fun i hi=> .inr (by rw[hi];exact QD.out))
theorem dD{W:World}{g:Nat}{x:aO}(h:Has W g 63 (au x).toArray):fD W ⟨g,0,none⟩/\eX W ⟨g,0,none⟩=(au x).toArray:=
 xW rfl fun j u hu=>by
  have e1:((⟨g,0,none⟩:Addr).add j)=⟨g,j,none⟩:=by unfold Addr.add;split<;>simp_all
  rw[e1,h.cell];simpa using hu
attribute [local go_sem] ni
theorem QE(h2:t.ph=2)(hd0:t.dn=false)(ep hd:Int):Calls Tryz.prog 216 #[.agg (fM X t).toArray,.int .i64 ep,.int .i64 hd] w (jJ w t ep hd):=by
 obtain⟨W0,hW0⟩:∃W0,(w.alloc (.cells (fM X t).toArray 115)).alloc (.cells fH 63)=W0:=⟨_,rfl⟩;have hk0:Kept aj w W0:=by rw[<-hW0];(repeat'(first|(with_reducible first|exact ay|apply aA|apply aB|apply aC|apply aF)|(right;simp;done)))
 have hc0:Has W0 w.heap.size 115 (fM X t).toArray:=by rw[<-hW0];exact(Has.new _ _ _).alloc _
 have hn0:Has W0 (w.heap.size+1) 63 fH:=by rw[<-hW0];exact Has.dQ _ _ _ (by simp)
 obtain⟨Wz,W1,gY,hst1,hm1,hk1⟩:=kK W0 {bP with req:=t.rq};have hc1:=hc0.kept hk1 (fun z=>z);have hn1:=hn0.kept hk1 (fun z=>z);have hlt0:=hn0.lt;have hs1:=hm1.lt;have b1:W0.cell? ⟨w.heap.size,1,none⟩=some (.int .i64 t.rq):=hc0.cell 1;have c3:W1.cell? ⟨w.heap.size,3,none⟩=some (.int .i64 t.a.k):=hc1.cell 3;have c7:W1.cell? ⟨w.heap.size,7,none⟩=some (.int .u64 t.a.at'):=hc1.cell 7;have c8:W1.cell? ⟨w.heap.size,8,none⟩=some (.int .i64 t.a.n):=hc1.cell 8;obtain⟨mb,hmb⟩:∃mb,W0.heap.size=mb:=⟨_,rfl⟩;unfold au bP at hst1;dsimp only[List.length_nil]at hst1;rw[hmb]at hst1 hm1 hlt0 hs1;have hne:mb≠w.heap.size:=by omega
 have hne1:mb≠w.heap.size+1:=by omega
 have mz0:=hm1.cell 0;have mz5:=hm1.cell 5;have mz7:=hm1.cell 7;have mf0:=hm1.frozen 0;have mf5:=hm1.frozen 5;have mf7:=hm1.frozen 7;simp[au,bP]at mz0 mz5 mz7;have aS:=ah (hk0.then hk1);have kY:=ah hm1;have iF:=ah hc1;have BF:=ah hn1;have HD:=ah hd0;have H2:=ah h2;have jm:=ah hlt0;have Ku:=ah (show w.heap.size<=mb by omega);unfold fM bQ at hW0;simp only[List.cons_append,List.nil_append]at hW0;unfold fH at hW0;unfold fM bQ;simp only[List.cons_append,List.nil_append];clear hk0 hc0 hn0 hk1 hm1 hc1 hn1 hd0 h2 hs1;by_cases h4:t.a.k=4
 ·have hkk:(t.a.k==4)=true:=by simpa using h4
  have hx:aJ t ep hd=(4,{bP with k:=11,req:=t.rq,at':=t.a.at'}):=by unfold aJ;rw[if_neg (by rw[HD.out];decide),if_neg (by rw[H2.out];decide),if_neg (by rw[H2.out];decide),if_pos h4]
  obtain⟨W2,hW2⟩:∃W2,(W1.setCell ⟨mb,0,none⟩ (.int .i64 11)).setCell ⟨mb,5,none⟩ (.int .u64 t.a.at')=W2:=⟨_,rfl⟩;have hm2:Has W2 mb 63 (au {bP with k:=11,req:=t.rq,at':=t.a.at'}).toArray:=by rw[<-hW2];exact Has.aQ (Has.aQ (cs':=(au {bP with k:=11,req:=t.rq}).toArray) kY.out rfl) rfl
  have hk2:Kept (fun k=>k=mb) W1 W2:=by rw[<-hW2];(repeat'(first|(with_reducible first|exact ay|apply aA|apply aB|apply aC|apply aF)|(exact .inl rfl)|(right;simp;done)))
  have hn2:=(BF.out.kept hk2 (fun e=>hne1 e.symm)).drew;have d7:W2.drew.cell? ⟨w.heap.size,7,none⟩=some (.int .u64 t.a.at'):=(iF.out.kept hk2 (fun e=>hne e.symm)).drew.cell 7;have d8:W2.drew.cell? ⟨w.heap.size,8,none⟩=some (.int .i64 t.a.n):=(iF.out.kept hk2 (fun e=>hne e.symm)).drew.cell 8;obtain⟨W6,hst,hb6,hk6⟩:=jF hn2.drew rfl {bP with k:=11,req:=t.rq,at':=t.a.at'};have hlm:=dD hm2.drew.drew;have DF:=dD (hm2.drew.drew.kept hk6 hne1);obtain⟨cs,hcs⟩:∃cs,(au {bP with k:=11,req:=t.rq,at':=t.a.at'}).toArray=cs:=⟨_,rfl⟩;rw[hcs]at hst hlm DF;have dV:=ah hcs;clear hcs;have HX:=ah hx;have jS:=ah hb6;have eu:=ah hk6;have gJ:=ah hk2;clear hx hm2 hk2 hn2 hb6 hk6 h4;go_enter Tryz.func216,Tryz.ntmps216;go_wp2
  go_region_held3 (fun W=>W.cell? ⟨w.heap.size,7,none⟩=some (.int .u64 t.a.at'))
   (first|with_reducible exact c7|with_reducible exact c8|with_reducible exact d7|with_reducible exact d8|(simp[go_sem,c7,c8,hne,hne.symm];done))
   (fail)
  all_goals
   go_wp2
   go_region_held3 (fun W=>fD W ⟨mb,0,none⟩/\eX W ⟨mb,0,none⟩=cs)
    (first|with_reducible exact hlm|with_reducible exact DF|(simp[go_sem,hlm];done))
    (fail)
   all_goals
    go_wp2
    refine bodyPost_ret (dG rfl _ _ (w.heap.size+1) _ rfl (jv jS.out)) rfl ?_
    refine⟨none,0,?_,?_,?_,(fun _ h=>by cases h),?_⟩
    ·rw[HX.out];rfl
    ·rw[HX.out];exact Src.nil _ _ _
    ·rw[HX.out];exact Nat.le_refl _
    ·exact((aS.out.trans gJ.out (fun i hi=> .inr (by rw[hi];exact Ku.out))).drew.drew).trans eu.out (fun i hi=> .inr (by rw[hi];omega))
 have hk4:(t.a.k==4)=false:=by simpa using h4
 by_cases h5:t.a.k=5
 ·have hkk:(t.a.k==5)=true:=by simpa using h5
  have hx:aJ t ep hd=(4,{bP with k:=12,req:=t.rq,n:=t.a.n}):=by unfold aJ;rw[if_neg (by rw[HD.out];decide),if_neg (by rw[H2.out];decide),if_neg (by rw[H2.out];decide),if_neg h4,if_pos h5]
  obtain⟨W2,hW2⟩:∃W2,(W1.setCell ⟨mb,0,none⟩ (.int .i64 12)).setCell ⟨mb,7,none⟩ (.int .i64 t.a.n)=W2:=⟨_,rfl⟩;have hm2:Has W2 mb 63 (au {bP with k:=12,req:=t.rq,n:=t.a.n}).toArray:=by rw[<-hW2];exact Has.aQ (Has.aQ (cs':=(au {bP with k:=12,req:=t.rq}).toArray) kY.out rfl) rfl
  have hk2:Kept (fun k=>k=mb) W1 W2:=by rw[<-hW2];(repeat'(first|(with_reducible first|exact ay|apply aA|apply aB|apply aC|apply aF)|(exact .inl rfl)|(right;simp;done)))
  have hn2:=(BF.out.kept hk2 (fun e=>hne1 e.symm)).drew;have d7:W2.drew.cell? ⟨w.heap.size,7,none⟩=some (.int .u64 t.a.at'):=(iF.out.kept hk2 (fun e=>hne e.symm)).drew.cell 7;have d8:W2.drew.cell? ⟨w.heap.size,8,none⟩=some (.int .i64 t.a.n):=(iF.out.kept hk2 (fun e=>hne e.symm)).drew.cell 8;obtain⟨W6,hst,hb6,hk6⟩:=jF hn2.drew rfl {bP with k:=12,req:=t.rq,n:=t.a.n};have hlm:=dD hm2.drew.drew;have DF:=dD (hm2.drew.drew.kept hk6 hne1);obtain⟨cs,hcs⟩:∃cs,(au {bP with k:=12,req:=t.rq,n:=t.a.n}).toArray=cs:=⟨_,rfl⟩;rw[hcs]at hst hlm DF;have dV:=ah hcs;clear hcs;have HX:=ah hx;have jS:=ah hb6;have eu:=ah hk6;have gJ:=ah hk2;clear hx hm2 hk2 hn2 hb6 hk6 h4 h5;go_enter Tryz.func216,Tryz.ntmps216;go_wp2
  go_region_held3 (fun W=>W.cell? ⟨w.heap.size,8,none⟩=some (.int .i64 t.a.n))
   (first|with_reducible exact c7|with_reducible exact c8|with_reducible exact d7|with_reducible exact d8|(simp[go_sem,c7,c8,hne,hne.symm];done))
   (fail)
  all_goals
   go_wp2
   go_region_held3 (fun W=>fD W ⟨mb,0,none⟩/\eX W ⟨mb,0,none⟩=cs)
    (first|with_reducible exact hlm|with_reducible exact DF|(simp[go_sem,hlm];done))
    (fail)
   all_goals
    go_wp2
    refine bodyPost_ret (dG rfl _ _ (w.heap.size+1) _ rfl (jv jS.out)) rfl ?_
    refine⟨none,0,?_,?_,?_,(fun _ h=>by cases h),?_⟩
    ·rw[HX.out];rfl
    ·rw[HX.out];exact Src.nil _ _ _
    ·rw[HX.out];exact Nat.le_refl _
    ·exact((aS.out.trans gJ.out (fun i hi=> .inr (by rw[hi];exact Ku.out))).drew.drew).trans eu.out (fun i hi=> .inr (by rw[hi];omega))
 ·have hkk:(t.a.k==5)=false:=by simpa using h5
  have hx:aJ t ep hd=(4,{bP with k:=13,req:=t.rq,n:=t.a.n}):=by unfold aJ;rw[if_neg (by rw[HD.out];decide),if_neg (by rw[H2.out];decide),if_neg (by rw[H2.out];decide),if_neg h4,if_neg h5]
  obtain⟨W2,hW2⟩:∃W2,(W1.setCell ⟨mb,0,none⟩ (.int .i64 13)).setCell ⟨mb,7,none⟩ (.int .i64 t.a.n)=W2:=⟨_,rfl⟩;have hm2:Has W2 mb 63 (au {bP with k:=13,req:=t.rq,n:=t.a.n}).toArray:=by rw[<-hW2];exact Has.aQ (Has.aQ (cs':=(au {bP with k:=13,req:=t.rq}).toArray) kY.out rfl) rfl
  have hk2:Kept (fun k=>k=mb) W1 W2:=by rw[<-hW2];(repeat'(first|(with_reducible first|exact ay|apply aA|apply aB|apply aC|apply aF)|(exact .inl rfl)|(right;simp;done)))
  have hn2:=(BF.out.kept hk2 (fun e=>hne1 e.symm)).drew;have d7:W2.drew.cell? ⟨w.heap.size,7,none⟩=some (.int .u64 t.a.at'):=(iF.out.kept hk2 (fun e=>hne e.symm)).drew.cell 7;have d8:W2.drew.cell? ⟨w.heap.size,8,none⟩=some (.int .i64 t.a.n):=(iF.out.kept hk2 (fun e=>hne e.symm)).drew.cell 8;obtain⟨W6,hst,hb6,hk6⟩:=jF hn2.drew rfl {bP with k:=13,req:=t.rq,n:=t.a.n};have hlm:=dD hm2.drew.drew;have DF:=dD (hm2.drew.drew.kept hk6 hne1);obtain⟨cs,hcs⟩:∃cs,(au {bP with k:=13,req:=t.rq,n:=t.a.n}).toArray=cs:=⟨_,rfl⟩;rw[hcs]at hst hlm DF;have dV:=ah hcs;clear hcs;have HX:=ah hx;have jS:=ah hb6;have eu:=ah hk6;have gJ:=ah hk2;clear hx hm2 hk2 hn2 hb6 hk6 h4 h5;go_enter Tryz.func216,Tryz.ntmps216;go_wp2
  go_region_held3 (fun W=>W.cell? ⟨w.heap.size,8,none⟩=some (.int .i64 t.a.n))
   (first|with_reducible exact c7|with_reducible exact c8|with_reducible exact d7|with_reducible exact d8|(simp[go_sem,c7,c8,hne,hne.symm];done))
   (fail)
  all_goals
   go_wp2
   go_region_held3 (fun W=>fD W ⟨mb,0,none⟩/\eX W ⟨mb,0,none⟩=cs)
    (first|with_reducible exact hlm|with_reducible exact DF|(simp[go_sem,hlm];done))
    (fail)
   all_goals
    go_wp2
    refine bodyPost_ret (dG rfl _ _ (w.heap.size+1) _ rfl (jv jS.out)) rfl ?_
    refine⟨none,0,?_,?_,?_,(fun _ h=>by cases h),?_⟩
    ·rw[HX.out];rfl
    ·rw[HX.out];exact Src.nil _ _ _
    ·rw[HX.out];exact Nat.le_refl _
    ·exact((aS.out.trans gJ.out (fun i hi=> .inr (by rw[hi];exact Ku.out))).drew.drew).trans eu.out (fun i hi=> .inr (by rw[hi];omega))
theorem AA(h:kN w X t)(h1:t.ph=1)(hd0:t.dn=false)(hok:mV t)(ep hd:Int):Calls Tryz.prog 210 #[.pointer (some ⟨X.g,0,none⟩),.int .i64 ep,.int .i64 hd] w (jJ w t ep hd):=by
 obtain⟨W0,hW0⟩:∃W0,w.alloc (.cells fH 63)=W0:=⟨_,rfl⟩;have hk0:Kept aj w W0:=by rw[<-hW0];(repeat'(first|(with_reducible first|exact ay|apply aA|apply aB|apply aC|apply aF)|(right;simp;done)))
 have hn0:Has W0 w.heap.size 63 fH:=by rw[<-hW0];exact Has.new _ _ _
 have h0:=h.quiet hk0;have hg:=h0.g h1;have hsz:=fun W (hW:Kept aj W0 W)=>IU (h0.quiet hW) h1 hok;obtain⟨gb,hgb⟩:∃gb,X.g=gb:=⟨_,rfl⟩;rw[hgb]at hg;simp only[hgb]at hsz;rw[hgb];obtain⟨z,hz⟩:∃z,mZ t=z:=⟨_,rfl⟩;simp only[hz]at hsz;obtain⟨rb,hrb⟩:∃rb,w.heap.size=rb:=⟨_,rfl⟩;rw[hrb]at hn0;have hne:gb≠rb:=fun e=>Has.ne hg hn0 (by decide) e;have c3:W0.cell? ⟨gb,3,none⟩=some (.int .i64 t.a.k):=hg.cell 3;have hcs:∀W,Kept (fun k=>k=rb) W0 W->W.cell? ⟨gb,4,none⟩=some (.int .i64 t.a.nd)/\W.cell? ⟨gb,1,none⟩=some (.int .i64 t.rq)/\W.cell? ⟨gb,11,none⟩=some (.string t.key)/\W.cell? ⟨gb,6,none⟩=some (.string t.a.to)/\W.cell? ⟨gb,10,none⟩=some (.int .u64 t.at'):=fun W hW=>by have hg2:=hg.kept hW hne;exact⟨hg2.cell 4,hg2.cell 1,hg2.cell 11,hg2.cell 6,hg2.cell 10⟩
 have QD:=ah (show w.heap.size<=rb by omega);have aS:=ah hk0;have HD:=ah hd0;have H1:=ah h1;have sH:=ah hsz;have dV:=ah hcs;have dZ:=ah hn0;have HZ:=ah hz;clear hk0 hd0 h1 hsz h0 hg h hok hgb hcs hz;unfold fH at hW0;by_cases h2:t.a.k=2
 ·have hkk:(t.a.k==2)=true:=by simpa using h2
  have hx:aJ t ep hd=(t.a.nd,{bP with k:=9,req:=t.rq,key:=t.key,to:=t.a.to,at':=t.at',n:=z}):=by unfold aJ;rw[if_neg (by rw[HD.out];decide),if_neg (by rw[H1.out];decide),if_pos H1.out,if_pos h2,HZ.out]
  have hm:=fun W (hW:Kept aj W0 W)=>jF (dZ.out.kept hW (fun z=>z)) rfl {bP with k:=9,req:=t.rq,key:=t.key,to:=t.a.to,at':=t.at',n:=z};have HX:=ah hx;have HM:=ah hm;clear hx hm h2 hn0;obtain⟨y1,y2,y3,y4,y5⟩:=dV.out W0 (Kept.refl _ _);go_enter Tryz.func210,Tryz.ntmps210;have y0:=And.intro y1 (And.intro y2 (And.intro y3 (And.intro y4 y5)));unfold au bP at HM;dsimp only[List.length_nil]at HM;clear y1 y2 y3 y4 y5;go_wp2
  go_region_held3 (fun W=>W.cell? ⟨gb,4,none⟩=some (.int .i64 t.a.nd)/\W.cell? ⟨gb,1,none⟩=some (.int .i64 t.rq)/\W.cell? ⟨gb,11,none⟩=some (.string t.key)/\W.cell? ⟨gb,6,none⟩=some (.string t.a.to)/\W.cell? ⟨gb,10,none⟩=some (.int .u64 t.at'))
   (first|with_reducible exact y6|with_reducible exact y4|with_reducible exact y0|exact y0)
   (first|(go_at_call 211;refine(sH.out _ (by(repeat'(first|(with_reducible first|exact ay|apply aA|apply aB|apply aC|apply aF)|(right;simp;done))))).mono ?_;rintro e w4 ⟨rfl,hk4⟩;have hk:=Kept.then (F:=aj) (a:=W0) (by(repeat'(first|(with_reducible first|exact ay|apply aA|apply aB|apply aC|apply aF)|(right;simp;done)))) hk4;have y4:=dV.out w4 (hk.mono (fun _ z=>z.elim));obtain⟨W6,hst,hb6,hk6⟩:=HM.out w4 hk;have y6:=dV.out W6 (Kept.then (hk.mono (fun _ z=>z.elim)) hk6);have jS:=ah hb6;have eu:=ah hk6;have iU:=ah hk;clear hb6 hk6 hk hk4))
  all_goals
   go_wp2
   refine bodyPost_ret (dG rfl _ _ rb _ rfl (jv (x:={bP with k:=9,req:=t.rq,key:=t.key,to:=t.a.to,at':=t.at',n:=z}) jS.out)) rfl ?_
   refine⟨none,0,?_,?_,?_,(fun _ h=>by cases h),?_⟩
   ·rw[HX.out];rfl
   ·rw[HX.out];exact Src.nil _ _ _
   ·rw[HX.out];exact Nat.le_refl _
   ·exact(aS.out.then iU.out).trans eu.out (fun i hi=> .inr (by rw[hi];exact QD.out))
 ·have hkk:(t.a.k==2)=false:=by simpa using h2
  have hx:aJ t ep hd=(t.a.nd,{bP with k:=8,req:=t.rq,key:=t.key,at':=t.at'}):=by unfold aJ;rw[if_neg (by rw[HD.out];decide),if_neg (by rw[H1.out];decide),if_pos H1.out,if_neg h2]
  obtain⟨W6,hst,hb6,hk6⟩:=jF dZ.out.drew rfl {bP with k:=8,req:=t.rq,key:=t.key,at':=t.at'};unfold au bP at hst;dsimp only[List.length_nil]at hst;have y0:=dV.out W0 (Kept.refl _ _);have y6:=dV.out W6 ((Kept.refl _ W0).drew.then hk6);have HX:=ah hx;have jS:=ah hb6;have eu:=ah hk6;clear hx h2 hn0 hb6 hk6;go_enter Tryz.func210,Tryz.ntmps210;go_wp2
  go_region_held3 (fun W=>W.cell? ⟨gb,4,none⟩=some (.int .i64 t.a.nd)/\W.cell? ⟨gb,1,none⟩=some (.int .i64 t.rq)/\W.cell? ⟨gb,11,none⟩=some (.string t.key)/\W.cell? ⟨gb,6,none⟩=some (.string t.a.to)/\W.cell? ⟨gb,10,none⟩=some (.int .u64 t.at'))
   (first|with_reducible exact y0|with_reducible exact y6|exact y0)
   (fail)
  all_goals
   go_wp2
   refine bodyPost_ret (dG rfl _ _ rb _ rfl (jv jS.out)) rfl ?_
   refine⟨none,0,?_,?_,?_,(fun _ h=>by cases h),?_⟩
   ·rw[HX.out];rfl
   ·rw[HX.out];exact Src.nil _ _ _
   ·rw[HX.out];exact Nat.le_refl _
   ·exact aS.out.drew.trans eu.out (fun i hi=> .inr (by rw[hi];exact QD.out))
end
end Ask
namespace Ask
open bg Ops fG eP MO Vn
attribute [local go_sem↓] bW cZ
theorem BG{F:Nat->Prop}{a b:World}{size m:Nat}{A:Option Addr}{news:List Value}(h:Src a size A m news)(hk:Kept F a b)(hf:0<m->∀ad,A=some ad->¬F ad.block):Src b size A m news:=by
 rcases Nat.eq_zero_or_pos m with h0|h0
 ·refine⟨h.1,fun h1=>by omega⟩
 ·exact h.kept hk (hf h0)
section
variable{w w':World}{X:PX}{t:TS}{G:Nat->Prop}
theorem Ox(h:t.ph=0):pI X t=.iface 111 (.agg (fM X t).toArray):=by unfold pI;rw[if_pos h]
theorem UI(h:t.ph=1):pI X t=.iface 112 (.pointer (some ⟨X.g,0,none⟩)):=by unfold pI;rw[if_neg (by omega),if_pos h]
theorem UJ(h:t.ph=2):pI X t=.iface 115 (.agg (fM X t).toArray):=by unfold pI;rw[if_neg (by omega),if_neg (by omega)]
theorem vS(h:kN w X t)(hok:mV t)(hbl:t.bo.length<=1000)(ep hd:Int):Calls Tryz.prog 27 #[.pointer (some ⟨X.b,0,none⟩),.int .i64 ep,.int .i64 hd] w (jJ w t ep hd):=by
 obtain⟨W0,hW0⟩:∃W0,w.alloc (.cells fH 63)=W0:=⟨_,rfl⟩;have hk0:Kept aj w W0:=by rw[<-hW0];(repeat'(first|(with_reducible first|exact ay|apply aA|apply aB|apply aC|apply aF)|(right;simp;done)))
 have hn0:Has W0 w.heap.size 63 fH:=by rw[<-hW0];exact Has.new _ _ _
 have h0:=h.quiet hk0;have hnone:=xX h0;have hb:=h0.b;unfold uI at hb;have uQ:=hok.ph;have hw:=fun(e0:t.ph=0) (ed:t.dn=false)=>QC h0 e0 ed hbl ep hd;have hr:=fun(e0:t.ph=1) (ed:t.dn=false)=>AA h0 e0 ed hok ep hd;have ha:=fun(e0:t.ph=2) (ed:t.dn=false)=>QE (w:=W0) (X:=X) e0 ed ep hd;obtain⟨bb,hbb⟩:∃bb,X.b=bb:=⟨_,rfl⟩;rw[hbb]at hb hnone⊢;obtain⟨rb,hrb⟩:∃rb,w.heap.size=rb:=⟨_,rfl⟩;rw[hrb]at hn0;have b0:W0.cell? ⟨bb,0,none⟩=some (pI X t):=hb.cell 0;have b3:W0.cell? ⟨bb,3,none⟩=some (.bool t.dn):=hb.cell 3;have HN:=ah hnone;have aS:=ah hk0;have dZ:=ah hn0;have HW:=ah hw;have HR:=ah hr;have HA:=ah ha;have BH:=ah (show w.heap.size<=rb by omega);clear hnone hk0 hn0 hw hr ha h0 h hok hbl hb hbb;unfold fH at hW0;cases hdn:t.dn with
 |true=>
  have hx:aJ t ep hd=(-1,bP):=by unfold aJ;rw[if_pos hdn]
  obtain⟨W6,hst,hb6,hk6⟩:=jF dZ.out rfl bP;unfold au bP at hst;dsimp only[List.length_nil]at hst;have HX:=ah hx;have jS:=ah hb6;have eu:=ah hk6;rw[hdn]at b3;clear hx hb6 hk6 hdn;go_enter Tryz.func27,Tryz.ntmps27;go_wp2_with fail;clear hW0;refine HN.out.mono ?_;rintro e w1 ⟨rfl,rfl⟩;go_wp2;refine bodyPost_ret (dG rfl _ _ rb _ rfl (jv jS.out)) rfl ?_;refine⟨none,0,?_,?_,?_,(fun _ h=>by cases h),?_⟩
  ·rw[HX.out];rfl
  ·rw[HX.out];exact Src.nil _ _ _
  ·rw[HX.out];exact Nat.le_refl _
  ·exact aS.out.trans eu.out (fun i hi=> .inr (by rw[hi];exact BH.out))
 |false=>
  rw[hdn]at b3;have qE:=ah hdn;have hpost:∀(e:Ending) w2,jJ W0 t ep hd e w2->∃(to:Int) (x:aO) (W6:World),e=.returned (.tuple #[.int .i64 to,aK x])/\(jV ⟨rb,0,none⟩ (.agg (au x).toArray)).run Tryz.prog w2=.ok () W6/\Has W6 rb 63 (au x).toArray/\jJ w t ep hd (.returned (.tuple #[.int .i64 to,aK x])) W6:=fun e w2 hp=>by obtain⟨A,c,rfl,hs,hl,hnw,hk⟩:=hp;obtain⟨W6,g1,g2,g3⟩:=jF (dZ.out.kept hk (fun z=>z)) rfl {(aJ t ep hd).2 with oA:=A,oc:=c};refine⟨_,_,W6,rfl,g1,g2,A,c,rfl,BG hs g3 (fun _ ad e1 e2=> ?_),hl,(fun ad e1=>Nat.le_trans aS.out.size (hnw ad e1)),(aS.out.then hk).trans g3 (fun i hi=> .inr (by rw[hi];exact BH.out))⟩;have:=hnw ad e1;have:=dZ.out.lt;omega
  have HP:=ah hpost;clear hdn hpost;rcases(show t.ph=0\/t.ph=1\/t.ph=2 by omega)with e|e|e
  ·have hc:=HW.out e qE.out;rw[Ox e]at b0;obtain⟨cs,hcs⟩:∃cs,(fM X t).toArray=cs:=⟨_,rfl⟩;rw[hcs]at hc b0;clear hcs;have hm:∀w:World,(method 379 111 (.agg cs) "catena/asks.next").run Tryz.prog w=.ok (206,.agg cs) w:=fun _=>by kernel_rfl
   have HC:=ah hc;clear hc e uQ;go_enter Tryz.func27,Tryz.ntmps27;go_wp2_with fail;clear hW0;refine HN.out.mono ?_;rintro e w1 ⟨rfl,rfl⟩;go_wp2_with fail;refine HC.out.mono ?_;intro e w2 hp;obtain⟨to,x,W6,rfl,hst,hb6,hpost⟩:=HP.out _ _ hp;have jS:=ah hb6;have QF:=ah hpost;unfold aK;obtain⟨xs,hxs⟩:∃xs,(au x).toArray=xs:=⟨_,rfl⟩;rw[hxs]at hst⊢;have HXS:=ah hxs;clear hp hb6 hpost hxs;go_wp2;refine bodyPost_ret (dG rfl _ _ rb _ rfl (jv jS.out)) rfl ?_;exact QF.out
  ·have hc:=HR.out e qE.out;rw[UI e]at b0;have hm:∀w:World,(method 379 112 (.pointer (some ⟨X.g,0,none⟩)) "catena/asks.next").run Tryz.prog w=.ok (210,.pointer (some ⟨X.g,0,none⟩)) w:=fun _=>by kernel_rfl
   have HC:=ah hc;clear hc e uQ;go_enter Tryz.func27,Tryz.ntmps27;go_wp2_with fail;clear hW0;refine HN.out.mono ?_;rintro e w1 ⟨rfl,rfl⟩;go_wp2_with fail;refine HC.out.mono ?_;intro e w2 hp;obtain⟨to,x,W6,rfl,hst,hb6,hpost⟩:=HP.out _ _ hp;have jS:=ah hb6;have QF:=ah hpost;unfold aK;obtain⟨xs,hxs⟩:∃xs,(au x).toArray=xs:=⟨_,rfl⟩;rw[hxs]at hst⊢;have HXS:=ah hxs;clear hp hb6 hpost hxs;go_wp2;refine bodyPost_ret (dG rfl _ _ rb _ rfl (jv jS.out)) rfl ?_;exact QF.out
  ·have hc:=HA.out e qE.out;rw[UJ e]at b0;obtain⟨cs,hcs⟩:∃cs,(fM X t).toArray=cs:=⟨_,rfl⟩;rw[hcs]at hc b0;clear hcs;have hm:∀w:World,(method 379 115 (.agg cs) "catena/asks.next").run Tryz.prog w=.ok (216,.agg cs) w:=fun _=>by kernel_rfl
   have HC:=ah hc;clear hc e uQ;go_enter Tryz.func27,Tryz.ntmps27;go_wp2_with fail;clear hW0;refine HN.out.mono ?_;rintro e w1 ⟨rfl,rfl⟩;go_wp2_with fail;refine HC.out.mono ?_;intro e w2 hp;obtain⟨to,x,W6,rfl,hst,hb6,hpost⟩:=HP.out _ _ hp;have jS:=ah hb6;have QF:=ah hpost;unfold aK;obtain⟨xs,hxs⟩:∃xs,(au x).toArray=xs:=⟨_,rfl⟩;rw[hxs]at hst⊢;have HXS:=ah hxs;clear hp hb6 hpost hxs;go_wp2;refine bodyPost_ret (dG rfl _ _ rb _ rfl (jv jS.out)) rfl ?_;exact QF.out
