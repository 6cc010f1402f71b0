/- Part 41 of what the proof needs. -/
import Derived.Test.YtolkgbafebehfaaGreatZP39
set_option linter.unusedSimpArgs false
set_option linter.unusedVariables false
set_option maxHeartbeats 32000000
set_option maxRecDepth 100000
namespace Go.Proofs.YtolkgbafebehfaaGreat
open Go.RowKit
set_option maxRecDepth 100000
namespace dM
open aP Vn Mst lJ IM nG gX
def rU(id:Int):aN:=nt 5 id ⟨0,0,0⟩ ⟨0,0,[]⟩
def mY(M:MR)(id:Int)(x:bH):MR:={M with iP:=y8 M.iP id (some x.aV),cnt:=M.cnt+1}
def Bv(M:MR)(id:Int)(x:bH):MR:={mY M id x with ns:=M.ns.set id.toNat 0,last:=max M.last x.last}
def kU(M:MR)(id:Int)(x:bH):MR:={Bv M id x with marks:=y8 M.marks id (some x.at'),cnt:=M.cnt+2}
def jD(M:MR)(id:Int)(x:bH):MR:=
 if(id,x.aV)∈M.st.ms then (if x.ep≠M.st.ep then Bv M id x else if x.fl&& !inB M.st.lg id then writeM (kU M id x) (rU id)else kU M id x)
 else if dZ M.st.ms id then {mY M id x with lost:=fun y=>decide (y=id)||M.lost y,cnt:=M.cnt+2}else mY M id x
def qK(M:MR)(id:Int)(x:bH):MR:=if x.ep<M.st.ep then jB (jD M id x) id else jD M id x
section
variable{w w':World}{X X0:MX}{M M0:MR}{c k:Nat}
theorem bQ.write(h:bQ M k){x:aN}(hu:NU x):bQ (writeM M x) k:=by
 have h1:=h.st.write hu
 unfold writeM at*
 split
 ·rename_i he
  rw[if_pos he]at h1
  exact⟨h1,h.p3,h.pin,h.sF,h.last,h.marks,h.iP,h.cnt⟩
 ·exact h
theorem bQ.send(h:bQ M k)(to:Int)(x:bH):bQ (jf M to x) k:=by
 unfold jf
 split
 ·exact⟨h.st,h.p3,h.pin,h.sF,h.last,h.marks,h.iP,h.cnt⟩
 ·exact h
theorem oh(M:MR)(x:aN):(writeM M x).out=M.out:=by unfold writeM;split<;>rfl
theorem Xx(M:MR)(to:Int)(x:bH):(jf M to x).out.length<=M.out.length+1:=by
 unfold jf
 split
 ·dsimp only;rw[List.length_append];exact Nat.le_refl _
 ·exact Nat.le_succ _
theorem tK(kk n:Int)(p:aZ)(hp:0<=p.at'/\p.at'<=aT)(h0:0<=p.id):NU (nt kk n p ⟨0,0,[]⟩):=by
 refine⟨by unfold nt;dsimp only;unfold aT;decide,?_,?_⟩<;>first|exact hp|(unfold nt;dsimp only;unfold aT;decide)
theorem xk.heard{ns:List Int}{t:Int}(h:xk ns t)(i:Nat):xk (ns.set i 0) t:=
 ⟨by rw[List.length_set];exact h.len,fun n hn=>by
  rcases mem_set hn with y|y
  ·exact h.ns n y
  ·omega,h.t⟩
theorem Step.has{b:Nat}{t:TypeId}{cs:Array Value}(h:Step w X M w' X0 M0)(hh:Has w b t cs)(hn:¬dU X M b):Has w' b t cs/\¬dU X0 M0 b:=
 ⟨hh.kept h.k hn,fun hf=>by
  rcases h.g b hf with y|y
  ·exact hn y
  ·have:=hh.lt;omega⟩
theorem bQ.mY(h:bQ M k)(id:Int)(x:bH)(hx:I64 x.aV):bQ (mY M id x) (k+1):=by
 refine⟨h.st,h.p3,h.pin,h.sF,h.last,h.marks,fun i v hv=> ?_,by have:=h.cnt;unfold dM.mY;dsimp only;omega⟩
 simp only[dM.mY,y8]at hv
 split at hv
 ·cases hv;exact hx
 ·exact h.iP i v hv
theorem bQ.jD{w:World}(h:bQ M k)(id:Int)(x:bH)(hx:I64 x.aV)(hok:iG w x)(hid:0<=id/\id<4):bQ (jD M id x) (k+1):=by
 have hl:0<=max M.last x.last/\max M.last x.last<=aT:=by have:=h.last;have:=hok.t.2.1;omega
 have h0:=h.mY id x hx
 have hmk:bQ (kU M id x) (k+1):=by
  refine⟨h.st,h.p3,h.pin,xk.heard h.sF _,hl,fun i v hv=> ?_,h0.iP,by have:=h.cnt;unfold kU;dsimp only;omega⟩
  simp only[kU,y8]at hv
  split at hv
  ·cases hv;exact hok.t.1
  ·exact h.marks i v hv
 unfold dM.jD
 split
 ·split
  ·exact⟨h.st,h.p3,h.pin,xk.heard h.sF _,hl,h.marks,h0.iP,h0.cnt⟩
  ·split
   ·exact hmk.write (tK _ _ _ (by decide) (by decide))
   ·exact hmk
 ·split
  ·exact⟨h.st,h.p3,h.pin,h.sF,h.last,h.marks,h0.iP,by have:=h.cnt;dsimp only;omega⟩
  ·exact h0
theorem bQ.qK{w:World}(h:bQ M k)(id:Int)(x:bH)(hx:I64 x.aV)(hok:iG w x)(hid:0<=id/\id<4):bQ (qK M id x) (k+1):=by
 unfold dM.qK
 split
 ·exact(h.jD id x hx hok hid).send _ _
 ·exact h.jD id x hx hok hid
theorem Uu(M:MR)(id:Int)(x:bH):(jD M id x).out=M.out:=by
 unfold jD
 split
 ·split
  ·rfl
  ·split
   ·exact oh _ _
   ·rfl
 ·split<;>rfl
theorem Uw(F:Nat->Prop)(id:Int):FM F (rU id):=⟨fun h=>absurd h (Nat.lt_irrefl _),fun h=>absurd h (Nat.lt_irrefl _),fun h=>absurd h (Nat.lt_irrefl _)⟩
theorem abg{v:Int}(h:0<=v/\v<=aT):(Lit.int .u64 v).wf=true:=by
 unfold Lit.wf
 unfold aT at h
 have hb:(2:Int)^IntKind.u64.bits=18446744073709551616:=by decide
 simp[IntKind.signed,IntKind.min,IntKind.max,hb]
 omega
structure oH(w:World)(X:MX)(M:MR)(c:Nat)(b1:Nat)(t1:TypeId)(k1:Array Value)(b2:Nat)(t2:TypeId)(k2:Array Value)(W:World)(X1:MX)(M1:MR):Prop where
 s:Step w X M W X1 M1
 lb:cZ X1 M1.lg c
 h1:Has W b1 t1 k1
 h2:Has W b2 t2 k2
 o1:¬dU X1 M1 b1
 o2:¬dU X1 M1 b2
section
variable{W W':World}{X1 X2:MX}{M1 M2:MR}{b1 b2:Nat}{t1 t2:TypeId}{k1 k2:Array Value}
theorem oH.quiet(h:oH w X M c b1 t1 k1 b2 t2 k2 W X1 M1)(hk:Kept aj W W'):oH w X M c b1 t1 k1 b2 t2 k2 W' X1 M1:=⟨h.s.quiet hk,h.lb,h.h1.kept hk (fun z=>z),h.h2.kept hk (fun z=>z),h.o1,h.o2⟩
theorem oH.step(h:oH w X M c b1 t1 k1 b2 t2 k2 W X1 M1)(hs:Step W X1 M1 W' X2 M2){c2:Nat}(hl:cZ X2 M2.lg c2):oH w X M c2 b1 t1 k1 b2 t2 k2 W' X2 M2:=by
 have a1:=hs.has h.h1 h.o1
 have a2:=hs.has h.h2 h.o2
 exact⟨h.s.trans hs,hl,a1.1,a2.1,a1.2,a2.2⟩
theorem oH.mono(h:oH w X M c b1 t1 k1 b2 t2 k2 W X1 M1){c2:Nat}(hc:c<=c2):oH w X M c2 b1 t1 k1 b2 t2 k2 W X1 M1:=⟨h.s,h.lb.mono hc,h.h1,h.h2,h.o1,h.o2⟩
end
theorem Xy(h:dG w X M)(hb:cZ X M.lg c)(hc:c<=4000)(hm:bQ M k)(hk:k<=1000)(ho:M.out.length<=100)(i:Nat)(h4:i<4)(x:bH)(hx:iG w x)(hxs:I64 x.aV):
  Calls Tryz.prog 58 #[.pointer (some ⟨X.mb,0,none⟩),.int .i64 i,eH x] w (dK w X M c (.tuple #[]) (qK M i x) 1):=by
 have hi:=jq (i:=i) (by omega) (by omega)
 obtain⟨W0,hW0⟩:∃W0,w.alloc (.cells (aG x).toArray 46)=W0:=⟨_,rfl⟩
 have hk0:Kept aj w W0:=by rw[<-hW0];(repeat'(first|(with_reducible first|exact ak|apply au|apply ay|apply aA|apply aB)|(right;simp;done)))
 have hn0:Has W0 w.heap.size 46 (aG x).toArray:=by rw[<-hW0];exact Has.new _ _ _
 have hsd:Step w X M W0.drew X M:=Step.refl h hk0.drew
 have hcs:dX .i64 3 W0.drew X.se M.cnt M.iP:=hsd.at'.c 6
 obtain⟨W1,hr1,hs1,hk1⟩:=dX.store hcs Tryz.underlying61 Tryz.underlying3 (by have:=hm.cnt;unfold maxLen;omega) hi hxs
 have st1:Step w X M W1 X (mY M i x):=hsd.trans (dG.TF hsd.at' hs1 (Nat.le_succ _) hk1)
 have hoff:¬dU X M w.heap.size:=fun hf=>absurd (h.lt hf) (Nat.lt_irrefl _)
 have hn1:Has W1 w.heap.size 46 (aG x).toArray:=(Has.drew hn0).kept hk1 (fun e=>hoff ⟨6,e⟩)
 have p0:W0.cell? ⟨X.mb,6,none⟩=some (.map (some X.se)):=(h.quiet hk0).cell (i:=6) rfl
 have p1:W0.cell? ⟨w.heap.size,3,none⟩=some (.int .i64 x.aV):=hn0.cell 3
 have q2:W1.cell? ⟨X.mb,2,none⟩=some (.pointer (some ⟨X.sb,0,none⟩)):=st1.at'.cell (i:=2) rfl
 have hcf:=pV (st1.at'.c 2) hm.st.inv.ok
 obtain⟨ep,nK⟩:∃ep,M.st.ep=ep:=⟨_,rfl⟩
 obtain⟨fl,hfl⟩:∃fl,M.st.fl=fl:=⟨_,rfl⟩
 have abh:Calls Tryz.prog 48 #[.pointer (some ⟨X.sb,0,none⟩)] W1 (qU W1 ep fl M.st.ms):=by rw[<-nK,<-hfl];exact hcf
 have abj:cZ X (mY M i x).lg c:=hb
 have Ux:∀q,dU X (mY M i x) q->dU X M q:=fun q hq=>hq
 have hw1:w.heap.size<W1.heap.size:=hn1.lt
 have fQ:Hid (bQ (jD M i x) (k+1)):=ah (hm.jD i x hxs hx ⟨by omega,by omega⟩)
 have HB1:Hid ((jD M i x).out.length<=100):=ah (by rw[Uu];exact ho)
 have hend:∀W X1 b2 t2 k2,oH w X M (c+1) w.heap.size 46 (aG x).toArray b2 t2 k2 W X1 (jD M i x)->(x.ep<ep/\Calls Tryz.prog 60 #[.pointer (some ⟨X.mb,0,none⟩),.int .i64 i] W fun e w'=>e=.returned (.tuple #[])/\dK w X M c (.tuple #[]) (qK M i x) 1 (.returned (.tuple #[])) w')\/(¬x.ep<ep/\dK w X M c (.tuple #[]) (qK M i x) 1 (.returned (.tuple #[])) W):=by
  intro W X1 b2 t2 k2 hs
  have hB:qK M i x=if x.ep<ep then jB (jD M i x) i else jD M i x:=by rw[<-nK];rfl
  rw[hB]
  by_cases hlt:x.ep<ep
  ·rw[if_pos hlt]
   refine .inl ⟨hlt,?_⟩
   have hw:=Bo hs.s.at' hs.lb (by have:=HB1.out;omega) fQ.out.st.inv.ok fQ.out.st.su i
   rw[hs.s.mb]at hw
   refine hw.mono ?_
   rintro e w' ⟨rfl,X',h1,h2⟩
   exact⟨rfl,rfl,X',hs.s.trans h1,h2⟩
  ·rw[if_neg hlt]
   exact .inr ⟨hlt,rfl,X1,hs.s,hs.lb⟩
 have qm:=ah hend
 clear hend
 have HLG:=ah (fun W (h:dG W X (kU M i x))=>Jm (h.c 2) hm.st.inv.ok)
 have YP:=ah hm.st.inv.ok
 have ER:=ah abh
 have HST:=ah st1;have iW:=ah abj;have CO:=ah hn1;have HB:=ah hb;have HC:=ah hc;have HM:=ah hm;have HK:=ah hk;have HO:=ah ho;have HX:=ah hx;have HXS:=ah hxs;have qo:=ah hoff;have HI:=ah hi;have HEP:=ah nK;have YO:=ah Ux;have HW1:=ah hw1
 have wZ:=ah (fun q (hq:dU X M q)=>h.lt hq)
 clear hn0 hsd hcs hs1 hk1 st1 hn1 h hb hc hm hk ho hx hxs hoff hk0 hi hcf abh nK hfl abj Ux hw1
 go_enter Tryz.func58,Tryz.ntmps58
 go_wp2_with fail
 refine wp_region_still_tail 7 (by kernel_rfl) (by kernel_rfl) ?_
 simp only[List.take_succ_cons,List.take_zero,List.drop_succ_cons,List.drop_zero]
 change wpStill _ _ (World.drew W0) _ _ _
 repeat still_step
 refine wpStill_nil ?_
 change wpList _ _ _ _ _ (World.drew W0)
 go_wp2_with fail
 clear p0 p1 hW0 hr1
 refine ER.out.mono ?_
 rintro e w2 ⟨A,d,rfl,hr,hk2⟩
 clear q2
 obtain⟨W3,hW3⟩:∃W3,w2.alloc (.cells #[.int .i64 ep,.slice A M.st.ms.length d,.int .u64 fl] 25)=W3:=⟨_,rfl⟩
 have hk3:Kept aj W1 W3:=by rw[<-hW3];(repeat'(first|(with_reducible first|exact ak|apply au|apply ay|apply aA|apply aB)|(exact hk2)|(right;simp;done)))
 have hc3:Has W3 w2.heap.size 25 #[.int .i64 ep,.slice A M.st.ms.length d,.int .u64 fl]:=by rw[<-hW3];exact Has.new _ _ _
 have hr3:=aF.kept hr (w':=W3) (by rw[<-hW3];(repeat'(first|(with_reducible first|exact ak|apply au|apply ay|apply aA|apply aB)|(right;simp;done))))
 have s3:oH w X M c w.heap.size 46 (aG x).toArray w2.heap.size 25 #[.int .i64 ep,.slice A M.st.ms.length d,.int .u64 fl] W3 X (mY M i x):=
  ⟨HST.out.quiet hk3,iW.out,CO.out.kept hk3 (fun z=>z),hc3,qo.out,fun hf=>by have:=wZ.out _ (YO.out _ hf);have:=HW1.out;have:=hk2.size;omega⟩
 have b3:W3.cell? ⟨w.heap.size,3,none⟩=some (.int .i64 x.aV):=s3.h1.cell 3
 have hpl:=aP.P5 W3 ep fl A d M.st.ms ((i:Int),x.aV) (Src.bC hr3.1) (by have:=YP.out.m;omega)
 obtain⟨cb,hcb⟩:∃cb,w2.heap.size=cb:=⟨_,rfl⟩
 rw[hcb]at s3
 have d0:W3.cell? ⟨cb,0,none⟩=some (.int .i64 ep):=s3.h2.cell 0
 have d1:W3.cell? ⟨cb,1,none⟩=some (.slice A M.st.ms.length d):=s3.h2.cell 1
 have d2:W3.cell? ⟨cb,2,none⟩=some (.int .u64 fl):=s3.h2.cell 2
 have GG:=ah hpl;have kD:=ah s3;clear hpl s3 hr3 hc3 hk3 hr hk2
 go_wp2_with fail
 clear b3 hW3 d0 d1 d2
 refine GG.out.mono ?_
 rintro e W4 ⟨⟨n,rfl,hn1,hn2⟩,hk4⟩
 have s4:=kD.out.quiet hk4
 have uI:=ah s4;clear s4 hk4 kD hcb GG
 by_cases hin:((i:Int),x.aV)∈M.st.ms
 ·have hn0:0<=n:=hn1.2 hin
  have hB1:jD M i x=if x.ep≠ep then Bv M i x else if x.fl&& !inB M.st.lg i then writeM (kU M i x) (rU i)else kU M i x:=by rw[<-HEP.out];unfold jD;rw[if_pos hin]
  have qp:=ah hB1
  have q4:W4.cell? ⟨X.mb,4,none⟩=some (.pointer (some ⟨X.wb,0,none⟩)):=uI.out.s.at'.cell (i:=4) rfl
  have Uy:=Gf (uI.out.s.at'.c 4) HM.out.sF i h4
  have HHE:=ah Uy
  clear hn1 hn2 hin hB1 Uy
  go_wp2_with fail
  clear q4
  refine HHE.out.mono ?_
  rintro e W5 ⟨rfl,hw5,hk5⟩
  have s5:=uI.out.step (dG.J9 uI.out.s.at' hw5 hk5) uI.out.lb
  obtain⟨mx,hmx⟩:∃mx,max M.last x.last=mx:=⟨_,rfl⟩
  have C5:=s5.quiet (Kept.refl aj W5).drew
  have s6:=C5.step (Step.setLast (Step.refl C5.s.at' (Kept.refl _ _)) mx) C5.lb
  have hH0:({mY M i x with ns:=M.ns.set i 0,last:=mx}:MR)=Bv M i x:=by rw[<-hmx];rfl
  have s6':oH w X M c w.heap.size 46 (aG x).toArray cb 25 #[.int .i64 ep,.slice A M.st.ms.length d,.int .u64 fl] (World.setCell (World.drew W5) ⟨X.mb,7,none⟩ (.int .u64 mx)) X (Bv M i x):=by rw[<-hH0];exact s6
  have q5:W5.cell? ⟨X.mb,7,none⟩=some (.int .u64 M.last):=s5.s.at'.cell (i:=7) rfl
  have f5:=(Has.frozen (s5.s.at'.c 0) 7)
  have g5:W5.cell? ⟨w.heap.size,6,none⟩=some (.int .u64 x.last):=s5.h1.cell 6
  have hmf:=fun W ts t=>D3 M.last x.last mx hmx W ts t
  obtain⟨W6,Gq⟩:∃W6,(World.setCell (World.drew W5) ⟨X.mb,7,none⟩ (.int .u64 mx))=W6:=⟨_,rfl⟩
  rw[Gq]at s6'
  have mW:=ah s6'
  clear s5 C5 s6 s6' hH0 hw5 hk5 hmx uI
  go_wp2_with fail
  refine wp_region_still_tail 10 (by kernel_rfl) (by kernel_rfl) ?_
  simp only[List.take_succ_cons,List.take_zero,List.drop_succ_cons,List.drop_zero]
  change wpStill _ _ (World.drew W5) _ _ _
  repeat still_step
  refine wpStill_nil ?_
  change wpList _ _ _ _ _ (World.drew W5)
  have t1:=mW.out.h1.cell 1
  have t6:=mW.out.h2.cell 0
  simp only[aG,List.getElem?_toArray,List.getElem?_cons_zero,List.getElem?_cons_succ]at t1 t6
  by_cases hee:x.ep≠ep
  ·rw[if_pos hee]at qp
   rw[<-qp.out]at mW
   have mW:=ah (mW.out.mono (Nat.le_succ c))
   clear t1 t6
   have t1:=mW.out.h1.cell 1
   have t6:=mW.out.h2.cell 0
   simp only[aG,List.getElem?_toArray,List.getElem?_cons_zero,List.getElem?_cons_succ]at t1 t6
   rcases qm.out _ _ _ _ _ mW.out with⟨hlt,hcall⟩|⟨hlt,hfin⟩
   ·have eX:=ah hcall;clear hcall
    go_wp2_with fail
    clear t1 t6
    refine eX.out.mono ?_
    rintro e w9 ⟨rfl,hq⟩
    have Uz:=ah hq;clear hq
    go_wp2
    go_end0
    exact Uz.out
   ·have bI:=ah hfin;clear hfin
    go_wp2_with fail
    clear t1 t6
    go_end0
    exact bI.out
  ·obtain hee:x.ep=ep:=Classical.byContradiction hee
   rw[if_neg (fun h=>h hee)]at qp
   have hux:(Lit.int .u64 x.at').wf=true:=abg HX.out.t.1
   have C5:=mW.out.quiet (Kept.refl aj W6).drew
   have hcm:dX .u64 23 W6.drew X.mm (M.cnt+1) M.marks:=C5.s.at'.c 5
   obtain⟨W7,hr7,hs7,zM⟩:=dX.store hcm Tryz.underlying60 Tryz.underlying23 (by have:=HM.out.cnt;have:=HK.out;unfold maxLen;omega) HI.out hux
   have s7:oH w X M c w.heap.size 46 (aG x).toArray cb 25 #[.int .i64 ep,.slice A M.st.ms.length d,.int .u64 fl] W7 X (kU M i x):=C5.step (dG.J8 C5.s.at' hs7 (Nat.le_succ _) zM) C5.lb
   have q6:W6.cell? ⟨X.mb,5,none⟩=some (.map (some X.mm)):=mW.out.s.at'.cell (i:=5) rfl
   have t5:=mW.out.h1.cell 5
   simp only[aG,List.getElem?_toArray,List.getElem?_cons_zero,List.getElem?_cons_succ]at t5
   have u4:W7.cell? ⟨w.heap.size,4,none⟩=some (.bool x.fl):=s7.h1.cell 4
   have oN:=ah s7
   clear C5 hcm hs7 zM hux s7 mW
   obtain⟨b,hbf⟩:∃b,x.fl=b:=⟨_,rfl⟩
   have u4b:W7.cell? ⟨w.heap.size,4,none⟩=some (.bool b):=by rw[<-hbf];exact u4
   clear u4
   have hle:=HLG.out W7 oN.out.s.at'
   have iL:=ah hle
   have q7:W7.cell? ⟨X.mb,2,none⟩=some (.pointer (some ⟨X.sb,0,none⟩)):=oN.out.s.at'.cell (i:=2) rfl
   clear hle
   have hwr:∀W,Kept aj W7 W->Calls Tryz.prog 44 #[.pointer (some ⟨X.mb,0,none⟩),.agg (aH (rU i)).toArray] W fun e w'=>(∃z,e=.returned (.int .i64 z))/\∃X',Step W X (kU M i x) w' X' (writeM (kU M i x) (rU i))/\cZ X' (writeM (kU M i x) (rU i)).lg (c+1):=fun W hW=>by
    refine(write_any (oN.out.s.at'.quiet hW) oN.out.lb HC.out YP.out (rU i) (Ej _ _ _ _ _ _) (tK _ _ _ (by decide) (by decide)) (Uw _ _)).mono ?_
    rintro e w' ⟨rfl,h⟩
    exact⟨⟨_,rfl⟩,h⟩
   simp only[rU,nt,aH,List.length_nil,lF]at hwr
   have oM:=ah hwr;clear hwr
   cases b
   ·go_wp2_with fail
    refine wp_region_still_tail 7 (by kernel_rfl) (by kernel_rfl) ?_
    simp only[List.take_succ_cons,List.take_zero,List.drop_succ_cons,List.drop_zero]
    change wpStill _ _ (World.drew W6) _ _ _
    repeat still_step
    refine wpStill_nil ?_
    change wpList _ _ _ _ _ (World.drew W6)
    rw[hbf,Bool.false_and,if_neg (by decide)]at qp
    rw[<-qp.out]at oN
    have oN:=ah (oN.out.mono (Nat.le_succ c))
    clear oM iL
    have t1:=oN.out.h1.cell 1
    have t6:=oN.out.h2.cell 0
    simp only[aG,List.getElem?_toArray,List.getElem?_cons_zero,List.getElem?_cons_succ]at t1 t6
    rcases qm.out _ _ _ _ _ oN.out with⟨hlt,hcall⟩|⟨hlt,hfin⟩
    ·exact absurd hlt (by omega)
    ·have bI:=ah hfin;clear hfin hlt
     rw[hee]at t1
     have hlt:¬ep<ep:=by omega
     go_wp2_with fail
     clear t1 t6
     go_end0
     exact bI.out
   ·go_wp2_with fail
    refine wp_region_still_tail 7 (by kernel_rfl) (by kernel_rfl) ?_
    simp only[List.take_succ_cons,List.take_zero,List.drop_succ_cons,List.drop_zero]
    change wpStill _ _ (World.drew W6) _ _ _
    repeat still_step
    refine wpStill_nil ?_
    change wpList _ _ _ _ _ (World.drew W6)
    rw[hbf,Bool.true_and]at qp
    go_wp2_with fail
    clear q7 u4b hr7 q6 t5
    refine iL.out.mono ?_
    rintro e W8 ⟨B,db,rfl,FQ,hk8⟩
    have hco:=Mst.kV W8 B db M.st.lg i (Src.bC FQ.1) (by have:=YP.out.l;omega)
    obtain⟨bb,hbb⟩:∃bb,inB M.st.lg i=bb:=⟨_,rfl⟩
    rw[hbb]at hco qp
    have uD:=ah hco;have wz:=ah hk8;clear hco hk8 FQ hbb
    go_wp2_with fail
    refine uD.out.mono ?_
    rintro e W9 ⟨rfl,hk9⟩
    have qA:=ah (wz.out.then hk9);clear hk9 wz
    cases bb
    ·rw[if_pos (by decide)]at qp
     have Xz:=qp.out.symm
     simp only[rU,nt,lF]at Xz
     have ab5:=ah Xz;clear Xz
     have hwr:=oM.out _ qA.out
     have acR:=ah hwr;clear hwr
     go_wp2_with fail
     refine acR.out.mono ?_
     rintro e oO ⟨⟨z,rfl⟩,X',hst,hlb⟩
     have s10:=(oN.out.quiet qA.out).step hst hlb
     rw[ab5.out]at s10
     have XA:=ah s10;clear s10 hst hlb
     have t1:=XA.out.h1.cell 1
     have t6:=XA.out.h2.cell 0
     simp only[aG,List.getElem?_toArray,List.getElem?_cons_zero,List.getElem?_cons_succ]at t1 t6
     rcases qm.out _ _ _ _ _ XA.out with⟨hlt,hcall⟩|⟨hlt,hfin⟩
     ·exact absurd hlt (by omega)
     ·have bI:=ah hfin;clear hfin hlt
      rw[hee]at t1
      have hlt:¬ep<ep:=by omega
      go_wp2_with fail
      clear t1 t6
      go_end0
      exact bI.out
    ·rw[if_neg (by decide)]at qp
     have s9:=(oN.out.quiet qA.out).mono (Nat.le_succ c)
     rw[<-qp.out]at s9
     have N6:=ah s9;clear s9
     have t1:=N6.out.h1.cell 1
     have t6:=N6.out.h2.cell 0
     simp only[aG,List.getElem?_toArray,List.getElem?_cons_zero,List.getElem?_cons_succ]at t1 t6
     rcases qm.out _ _ _ _ _ N6.out with⟨hlt,hcall⟩|⟨hlt,hfin⟩
     ·exact absurd hlt (by omega)
     ·have bI:=ah hfin;clear hfin hlt
      rw[hee]at t1
      have hlt:¬ep<ep:=by omega
      go_wp2_with fail
      clear t1 t6
      go_end0
      exact bI.out
 ·have hn0:n= -1:=by
   rcases hn2 with h|h
   ·exact h
   ·exact absurd (hn1.1 h) hin
  subst hn0
  have hmem:=pR uI.out.s.at' YP.out i
  have hB1:jD M i x=if dZ M.st.ms i then {mY M i x with lost:=fun y=>decide (y=(i:Int))||M.lost y,cnt:=M.cnt+2}else mY M i x:=by unfold jD;rw[if_neg hin]
  have Bz:=fun W (hW:Kept aj W4 W)=>bJ.store (w:=W) (b:=X.lo) (n:=M.cnt+1) (s:=M.lost) ((uI.out.s.at'.quiet hW).c 9) (by have:=HM.out.cnt;have:=HK.out;unfold maxLen;omega) HI.out
  obtain⟨bb,hbb⟩:∃bb,dZ M.st.ms i=bb:=⟨_,rfl⟩
  have YQ:Calls Tryz.prog 68 #[.pointer (some ⟨X.mb,0,none⟩),.int .i64 i] W4 fun e w'=>e=.returned (.bool bb)/\Kept aj W4 w':=by rw[<-hbb];exact hmem
  rw[hbb]at hB1
  have qp:=ah hB1;have KE:=ah Bz;have FN:=ah YQ
  clear hn1 hn2 hin hB1 Bz hmem YQ hbb
  go_wp2_with fail
  refine FN.out.mono ?_
  rintro e W5 ⟨rfl,hk5⟩
  have s5:=uI.out.quiet hk5
  have q5:W5.cell? ⟨X.mb,10,none⟩=some (.map (some X.lo)):=s5.s.at'.cell (i:=10) rfl
  obtain⟨W6,hr6,hs6,hk6⟩:=KE.out W5 hk5
  cases bb
  ·rw[if_neg (by decide)]at qp
   rw[<-qp.out]at s5
   have nH:=ah (s5.mono (Nat.le_succ c));clear s5 hr6 hs6 hk6 hk5 q5
   have t1:=nH.out.h1.cell 1
   have t6:=nH.out.h2.cell 0
   simp only[aG,List.getElem?_toArray,List.getElem?_cons_zero,List.getElem?_cons_succ]at t1 t6
   rcases qm.out _ _ _ _ _ nH.out with⟨hlt,hcall⟩|⟨hlt,hfin⟩
   ·have eX:=ah hcall;clear hcall
    go_wp2_with fail
    clear t1 t6
    refine eX.out.mono ?_
    rintro e w9 ⟨rfl,hq⟩
    have Uz:=ah hq;clear hq
    go_wp2
    go_end0
    exact Uz.out
   ·have bI:=ah hfin;clear hfin
    go_wp2_with fail
    clear t1 t6
    go_end0
    exact bI.out
  ·rw[if_pos rfl]at qp
   have s6:=s5.step (dG.NV s5.s.at' hs6 (Nat.le_succ _) hk6) s5.lb
   have hB2:jD M i x={mY M i x with lost:=fun y=>decide (y=(i:Int))||M.lost y,cnt:=M.cnt+1+1}:=qp.out
   have abk:oH w X M c w.heap.size 46 (aG x).toArray cb 25 #[.int .i64 ep,.slice A M.st.ms.length d,.int .u64 fl] W6 X (jD M i x):=by rw[hB2];exact s6
   have mW:=ah (abk.mono (Nat.le_succ c));clear s5 s6 hs6 hk6 hk5 hB2 abk
   have t1:=mW.out.h1.cell 1
   have t6:=mW.out.h2.cell 0
   simp only[aG,List.getElem?_toArray,List.getElem?_cons_zero,List.getElem?_cons_succ]at t1 t6
   rcases qm.out _ _ _ _ _ mW.out with⟨hlt,hcall⟩|⟨hlt,hfin⟩
   ·have eX:=ah hcall;clear hcall
    go_wp2_with fail
    clear t1 t6
    refine eX.out.mono ?_
    rintro e w9 ⟨rfl,hq⟩
    have Uz:=ah hq;clear hq
    go_wp2
    go_end0
    exact Uz.out
   ·have bI:=ah hfin;clear hfin
    go_wp2_with fail
    clear t1 t6
    go_end0
    exact bI.out
end
end dM
end Go.Proofs.YtolkgbafebehfaaGreat
