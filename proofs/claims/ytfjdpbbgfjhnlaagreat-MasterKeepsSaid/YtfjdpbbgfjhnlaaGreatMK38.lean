/- Part 39 of what the proof needs. -/
import Derived.Test.YtfjdpbbgfjhnlaaGreatMK37
set_option linter.unusedSimpArgs false
set_option linter.unusedVariables false
set_option maxHeartbeats 32000000
set_option maxRecDepth 100000
namespace Go.Proofs.YtfjdpbbgfjhnlaaGreat
open Go.RowKit
set_option maxRecDepth 100000
namespace dH
open aO Vn Mst lV IM mY gZ
section
variable{w w':World}{X X0:MX}{M M0:MR}{c k:Nat}
theorem Step.row{e:TypeId}{size n:Nat}{v:Value}{xs:List Value}(h:Step w X M w' X0 M0)(hr:w.ownsRow 0 e size v n xs)(hn:∀q,v.ownBlock=some q->¬dX X M q):w'.ownsRow 0 e size v n xs/\(∀q,v.ownBlock=some q->¬dX X0 M0 q):=
 ⟨aC hr h.k hn,fun q hq hf=>by
  rcases h.g q hf with y|y
  ·exact hn q hq y
  ·have:=lH hr hq;omega⟩
theorem acd(h:dD w X M)(hb:dw X M.lg c)(ho:M.out.length<=1000)(hok:nZ M.st)(hu:SU M.st)(b:Nat)(hbx:Has w b 31 #[.pointer (some ⟨X.mb,0,none⟩)])(m:Mem):
  Calls Tryz.prog 56 #[je m,.pointer (some ⟨b,0,none⟩)] w (dF w X M c (.tuple #[]) (jU M m.1) 0):=by
 obtain⟨m1,m2⟩:=m
 obtain⟨W0,hW0⟩:∃W0,w.alloc (.cells #[.int .i64 m1,.int .i64 m2] 65)=W0:=⟨_,rfl⟩
 have hk0:Kept aj w W0:=by rw[<-hW0];(repeat'(first|(with_reducible first|exact ak|apply au|apply ay|apply aA|apply aB)|(right;simp;done)))
 have hn0:Has W0 w.heap.size 65 #[.int .i64 m1,.int .i64 m2]:=by rw[<-hW0];exact Has.new _ _ _
 have q0:W0.cell? ⟨w.heap.size,0,none⟩=some (.int .i64 m1):=hn0.cell 0
 have q1:W0.cell? ⟨b,0,none⟩=some (.pointer (some ⟨X.mb,0,none⟩)):=(hbx.kept hk0 (fun z=>z)).cell 0
 have hw:=EK (h.quiet hk0) hb ho hok hu m1
 have hfin:∀e W,dF W0 X M c (.tuple #[]) (jU M m1) 0 e W->dF w X M c (.tuple #[]) (jU M m1) 0 e W:=fun e W hp=>by
  obtain⟨h1,X',h2,h3⟩:=hp
  exact⟨h1,X',(Step.refl h hk0).trans h2,h3⟩
 have HW:=ah hw;have HF:=ah hfin
 clear hw hfin hk0 hn0 h hb ho hok hu hbx
 obtain⟨M',hM'⟩:∃M',jU M m1=M':=⟨_,rfl⟩
 simp only[hM']at HW HF⊢
 clear hM'
 go_enter Tryz.func56,Tryz.ntmps56
 go_wp2_with fail
 clear hW0 q0 q1
 refine HW.out.mono ?_
 rintro e w2 ⟨rfl,X',h1,h2⟩
 have hq:=HF.out _ _ ⟨rfl,X',h1,h2⟩
 have HQ:=ah hq;clear hq h1 h2
 go_wp2
 go_end0
 exact HQ.out
structure Tk(w:World)(X:MX)(M:MR)(c:Nat)(b:Nat)(p:Value)(e:TypeId)(size n:Nat)(v:Value)(xs:List Value)(W:World)(X1:MX)(M1:MR):Prop where
 s:Step w X M W X1 M1
 lb:dw X1 M1.lg c
 hb:Has W b 31 #[p]
 ob:¬dX X1 M1 b
 hr:W.ownsRow 0 e size v n xs
 hn:∀q,v.ownBlock=some q->¬dX X1 M1 q
section
variable{W W':World}{X1 X2:MX}{M1 M2:MR}{b:Nat}{p:Value}{e:TypeId}{size n:Nat}{v:Value}{xs:List Value}
theorem Tk.quiet(h:Tk w X M c b p e size n v xs W X1 M1)(hk:Kept aj W W'):Tk w X M c b p e size n v xs W' X1 M1:=⟨h.s.quiet hk,h.lb,h.hb.kept hk (fun z=>z),h.ob,aC h.hr hk (fun _ _ z=>z),h.hn⟩
theorem Tk.step(h:Tk w X M c b p e size n v xs W X1 M1)(hs:Step W X1 M1 W' X2 M2){c2:Nat}(hl:dw X2 M2.lg c2):Tk w X M c2 b p e size n v xs W' X2 M2:=by
 have a1:=hs.has h.hb h.ob
 have a2:=hs.row h.hr h.hn
 exact⟨h.s.trans hs,hl,a1.1,a1.2,a2.1,a2.2⟩
end
attribute [local go_sem] yS
theorem P6(h:dD w X M)(hb:dw X M.lg c)(hc:c<=2900)(hm:bD M k)(hk:k<=1000)(ho:M.out.length<=90):
  Calls Tryz.prog 21 #[.pointer (some ⟨X.mb,0,none⟩)] w (ny w X M (c+6) (sV M).out (oD M)):=by
 obtain⟨W0,hW0⟩:∃W0,w.alloc (.cells #[.pointer (some ⟨X.mb,0,none⟩)] 31)=W0:=⟨_,rfl⟩
 have hk0:Kept aj w W0:=by rw[<-hW0];(repeat'(first|(with_reducible first|exact ak|apply au|apply ay|apply aA|apply aB)|(right;simp;done)))
 have hn0:Has W0 w.heap.size 31 #[.pointer (some ⟨X.mb,0,none⟩)]:=by rw[<-hW0];exact Has.new _ _ _
 have Gq:∀q,dX X M q->q<w.heap.size:=fun q hq=>h.lt hq
 have hb0:¬dX X M w.heap.size:=fun hf=>Nat.lt_irrefl _ (Gq _ hf)
 have hnone:=ou (h.quiet hk0)
 have htk:=dM.Xm W0 X.pA X.pc M.pins (Src.bC ((h.quiet hk0).c 3)) (by have:=hm.p3;omega) (fun p hp=>by have:=hm.pin p hp;omega)
 have q3:W0.cell? ⟨X.mb,3,none⟩=some (.slice X.pA M.pins.length X.pc):=(h.quiet hk0).cell (i:=3) rfl
 have hg3:(dM.iG M.pins).length<=3:=Nat.le_trans (dM.Oa _) hm.p3
 obtain⟨bx,hbx⟩:∃bx,w.heap.size=bx:=⟨_,rfl⟩
 rw[hbx]at hn0 hb0
 have q1:W0.cell? ⟨bx,0,none⟩=some (.pointer (some ⟨X.mb,0,none⟩)):=hn0.cell 0
 have hfx:∀W (A:Option Addr) (c1:Nat),Kept aj W0 W->W.cell? ⟨bx,0,none⟩=some (.pointer (some ⟨X.mb,0,none⟩))/\W.cell? ⟨X.mb,3,none⟩=some (.slice X.pA M.pins.length X.pc)/\W.frozen? ⟨X.mb,3,none⟩=false:=fun W A c1 hW=>
  ⟨(hn0.kept hW (fun z=>z)).cell 0,(h.quiet (hk0.then hW)).cell (i:=3) rfl,Has.frozen ((h.quiet (hk0.then hW)).c 0) 3⟩
 have hset:∀W A c1,Kept aj W0 W->aF 53 3 W0.heap.size W A (dM.fK M.pins).length c1 (aS (dM.fK M.pins))->∀e size n v xs,e≠53->W.ownsRow 0 e size v n xs->(∀q,v.ownBlock=some q->W0.heap.size<=q)->
   ∃X1,X1.mb=X.mb/\Tk w X M c bx (.pointer (some ⟨X.mb,0,none⟩)) e size n v xs (W.setCell ⟨X.mb,3,none⟩ (.slice A (dM.fK M.pins).length c1)) X1 (nI M):=fun W A c1 hW hn e size n v xs hne hr hq=>by
  have h1:=hk0.size
  have hs:=Step.Bo (Step.refl h (hk0.then hW)) hn.1 (fun k hk=>by
   have h2:=hn.2 k hk
   exact⟨by omega,fun hf=>by have:=Gq _ hf;omega⟩)
  have hkk:Kept (dX X M) W (W.setCell ⟨X.mb,3,none⟩ (.slice A (dM.fK M.pins).length c1)):=(Kept.refl _ W).put (.inl ⟨0,rfl⟩)
  refine⟨{X with pA:=A,pc:=c1},rfl,⟨hs,⟨hb.n,hb.f,hb.l,hb.hd⟩,(hn0.kept hW (fun z=>z)).kept hkk hb0,fun hf=> ?_,aC hr hkk (fun g hg hf=> ?_),fun q hq2 hf=> ?_⟩⟩
  ·obtain⟨i,hi⟩:=hf
   by_cases h3:i=3
   ·subst h3
    have h4:=hn.2 bx hi
    have h5:=hn0.lt
    omega
   ·have hfb:dX X M bx:=⟨i,by rcases i with _|_|_|_|_|_|_|_|_|_|_|i<;>first|exact hi|exact absurd rfl h3⟩
    exact hb0 hfb
  ·have:=hq g hg;have:=Gq g hf;omega
  ·have h6:=hq q hq2
   obtain⟨i,hi⟩:=hf
   by_cases h3:i=3
   ·subst h3
    have h7:(Value.slice A (dM.fK M.pins).length c1).ownBlock=some q:=hi
    exact absurd hq2 (dM.rows_apart hn.1 hr hne q h7)
   ·have hfb:dX X M q:=⟨i,by rcases i with _|_|_|_|_|_|_|_|_|_|_|i<;>first|exact hi|exact absurd rfl h3⟩
    have:=Gq q hfb;omega
 have Fv:∀n,bD (jG (nI M) n) k:=fun n=>(hm.nI).jG n
 have hwr:∀W X1 i (g:Int) e size n v xs,i<=3->Tk w X M (c+i) bx (.pointer (some ⟨X.mb,0,none⟩)) e size n v xs W X1 (jG (nI M) ((dM.iG M.pins).take i))->(dM.iG M.pins)[i]? =some g->
   Calls Tryz.prog 25 #[.pointer (some ⟨X.mb,0,none⟩),.agg (aJ (gG g)).toArray] W fun e0 W'=>(∃z:Int,e0=.returned (.int .i64 z))/\∃X2,Tk w X M (c+(i+1)) bx (.pointer (some ⟨X.mb,0,none⟩)) e size n v xs W' X2 (jG (nI M) ((dM.iG M.pins).take (i+1))):=fun W X1 i g e size n v xs hi ht hg=>by
  have e1:(dM.iG M.pins).take (i+1)=(dM.iG M.pins).take i++[g]:=aO.take_snoc hg
  rw[e1,Rx]
  have hw:=write_any ht.s.at' ht.lb (by omega) (Fv _).st.inv.ok (gG g) (Ir _ _ _ _ _ _) (qx _ _ _ (by decide) (by decide)) (Jb _ _)
  rw[ht.s.mb]at hw
  refine hw.mono ?_
  rintro e0 W' ⟨rfl,X2,h1,h2⟩
  exact⟨⟨_,rfl⟩,X2,ht.step h1 h2⟩
 have ace:∀W X1 e size n v xs,Tk w X M (c+(dM.iG M.pins).length) bx (.pointer (some ⟨X.mb,0,none⟩)) e size n v xs W X1 (mg M)->∃wb,W.cell? ⟨X.mb,4,none⟩=some (.pointer (some ⟨wb,0,none⟩))/\Calls Tryz.prog 53 #[.pointer (some ⟨wb,0,none⟩)] W fun e0 W'=>(∃z:Int,e0=.returned (.int .i64 z))/\∃X2,Tk w X M (c+3) bx (.pointer (some ⟨X.mb,0,none⟩)) e size n v xs W' X2 (bK M):=fun W X1 e size n v xs ht=>by
  refine⟨X1.wb,by have:=ht.s.at'.cell (i:=4) (v:=.pointer (some ⟨X1.wb,0,none⟩)) rfl;rw[ht.s.mb]at this;exact this,?_⟩
  refine(WV (ht.s.at'.c 4) (hm.mg).ug).mono ?_
  rintro e0 W' ⟨rfl,h1,h2⟩
  refine⟨⟨_,rfl⟩,X1,ht.step (dD.O1 ht.s.at' h1 h2) ?_⟩
  exact dw.mono ht.lb (by omega)
 have hnext:∀W X1 e size n v xs,Tk w X M (c+3) bx (.pointer (some ⟨X.mb,0,none⟩)) e size n v xs W X1 (bK M)->Calls Tryz.prog 54 #[.pointer (some ⟨X.mb,0,none⟩)] W fun e0 W'=>e0=.returned (.tuple #[])/\∃X2,Tk w X M (c+4) bx (.pointer (some ⟨X.mb,0,none⟩)) e size n v xs W' X2 (iy (bK M)):=fun W X1 e size n v xs ht=>by
  have hn:=ZD ht.s.at' ht.lb (by omega) hm.bK hk
  rw[ht.s.mb]at hn
  refine hn.mono ?_
  rintro e0 W' ⟨rfl,X2,h1,h2⟩
  exact⟨rfl,X2,ht.step h1 h2⟩
 have yV:∀W X1 e size n v xs,Tk w X M (c+4) bx (.pointer (some ⟨X.mb,0,none⟩)) e size n v xs W X1 (iy (bK M))->Calls Tryz.prog 55 #[.pointer (some ⟨X.mb,0,none⟩)] W fun e0 W'=>e0=.returned (.tuple #[])/\∃X2,Tk w X M (c+5) bx (.pointer (some ⟨X.mb,0,none⟩)) e size n v xs W' X2 (fP M):=fun W X1 e size n v xs ht=>by
  have hn:=P5 ht.s.at' ht.lb (by omega) (hm.bK).iy
  rw[ht.s.mb]at hn
  refine hn.mono ?_
  rintro e0 W' ⟨rfl,X2,h1,h2⟩
  exact⟨rfl,X2,ht.step h1 h2⟩
 have h3:=hm.fP
 have VC:(fP M).st.ms.length<=4:=by
  rcases h3.st.inv.conf with q|q
  ·rw[q.2.1];decide
  ·exact(iT q.1).2.2.1
 have oz:∀W X1 e size n v xs,Tk w X M (c+5) bx (.pointer (some ⟨X.mb,0,none⟩)) e size n v xs W X1 (fP M)->∃sb,W.cell? ⟨X.mb,2,none⟩=some (.pointer (some ⟨sb,0,none⟩))/\Calls Tryz.prog 39 #[.pointer (some ⟨sb,0,none⟩)] W fun e0 W'=>∃A c1,e0=.returned (lq (fP M).st.ep A (fP M).st.ms.length c1 (fP M).st.fl)/\Tk w X M (c+5) bx (.pointer (some ⟨X.mb,0,none⟩)) 65 2 (fP M).st.ms.length (.slice A (fP M).st.ms.length c1) (aP (fP M).st.ms) W' X1 (gJ (fP M) ((fP M).st.ms.take 0)):=fun W X1 e size n v xs ht=>by
  refine⟨X1.sb,by have:=ht.s.at'.cell (i:=2) (v:=.pointer (some ⟨X1.sb,0,none⟩)) rfl;rw[ht.s.mb]at this;exact this,?_⟩
  refine(pN (ht.s.at'.c 2) h3.st.inv.ok).mono ?_
  rintro e0 W' ⟨A,c1,rfl,h1,h2⟩
  have hq:=ht.quiet h2
  exact⟨A,c1,rfl,hq.s,hq.lb,hq.hb,hq.ob,h1.1,fun q hq2 hf=>by have a1:=h1.2 q hq2;have a2:=ht.s.at'.lt hf;omega⟩
 have Nh:∀W X1 (i:Nat) (m:Mem) e size n v xs,Tk w X M (c+5) bx (.pointer (some ⟨X.mb,0,none⟩)) e size n v xs W X1 (gJ (fP M) ((fP M).st.ms.take i))->(fP M).st.ms[i]? =some m->
   Calls Tryz.prog 56 #[je m,.pointer (some ⟨bx,0,none⟩)] W fun e0 W'=>e0=.returned (.tuple #[])/\∃X2,Tk w X M (c+5) bx (.pointer (some ⟨X.mb,0,none⟩)) e size n v xs W' X2 (gJ (fP M) ((fP M).st.ms.take (i+1))):=fun W X1 i m e size n v xs ht hg=>by
  have e1:(fP M).st.ms.take (i+1)=(fP M).st.ms.take i++[m]:=aO.take_snoc hg
  rw[e1,Vo]
  have hl:=Zh (fP M) ((fP M).st.ms.take i)
  rw[Zi,List.length_take]at hl
  have h4:=h3.gJ ((fP M).st.ms.take i)
  have hbx:=ht.hb
  rw[<-ht.s.mb]at hbx
  refine(acd ht.s.at' ht.lb (by omega) h4.st.inv.ok h4.st.su bx hbx m).mono ?_
  rintro e0 W' ⟨rfl,X2,h1,h2⟩
  exact⟨rfl,X2,ht.step h1 h2⟩
 have hdone:∀W X1 e size n v xs,Tk w X M (c+5) bx (.pointer (some ⟨X.mb,0,none⟩)) e size n v xs W X1 (sV M)->Calls Tryz.prog 27 #[.pointer (some ⟨X.mb,0,none⟩)] W (ny w X M (c+6) (sV M).out (oD M)):=fun W X1 e size n v xs ht=>
  PU hm (by omega) ht.s ht.lb (by omega) hm.sV
 obtain⟨G,hG⟩:∃G,dM.iG M.pins=G:=⟨_,rfl⟩
 obtain⟨P,hP⟩:∃P,dM.fK M.pins=P:=⟨_,rfl⟩
 have ht1:jG (nI M) (G.take G.length)=mg M:=by rw[List.take_length,<-hG];rfl
 have Jq:gJ (fP M) ((fP M).st.ms.take (fP M).st.ms.length)=sV M:=by rw[List.take_length];rfl
 obtain⟨M3,P4⟩:∃M3,fP M=M3:=⟨_,rfl⟩
 obtain⟨M4,hM4⟩:∃M4,sV M=M4:=⟨_,rfl⟩
 obtain⟨o,hO⟩:∃o,M4.out=o:=⟨_,rfl⟩
 obtain⟨M9,Jr⟩:∃M9,oD M=M9:=⟨_,rfl⟩
 obtain⟨M2,hM2⟩:∃M2,bK M=M2:=⟨_,rfl⟩
 obtain⟨M1,hM1⟩:∃M1,mg M=M1:=⟨_,rfl⟩
 obtain⟨M0,hM0⟩:∃M0,nI M=M0:=⟨_,rfl⟩
 rw[hM4,hO,Jr]
 unfold dM.Ob at htk
 rw[hP,hG]at htk
 rw[hG]at hg3
 rw[hM1,hM0]at ht1
 rw[P4,hM4]at Jq
 rw[P4]at VC
 simp only[hP,hM0]at hset
 simp only[hG,hM0]at hwr
 simp only[hG,hM1,hM2]at ace
 simp only[hM2]at hnext yV
 simp only[P4]at yV oz Nh
 simp only[hM4,hO,Jr]at hdone
 obtain⟨ms,hms⟩:∃ms,M3.st.ms=ms:=⟨_,rfl⟩
 rw[hms]at Jq VC
 simp only[hms]at oz Nh
 simp only[gG,nt,aJ,List.length_nil,jD]at hwr
 have Js:=ah hnone;have HTK:=ah htk;have HFX:=ah hfx;have ahi:=ah hset;have qM:=ah hwr;have ahj:=ah ace;have agz:=ah hnext;have VB:=ah yV;have FO:=ah oz;have agA:=ah Nh;have agB:=ah hdone
 have HT1:=ah ht1;have HT4:=ah Jq;have HG3:=ah hg3;have AY:=ah VC
 clear hk0 hn0 Gq hb0 hnone htk hfx hset Fv hwr ace hnext yV h3 oz Nh hdone hG hP ht1 Jq P4 hM4 hO Jr hM2 hM1 hM0 hms VC hg3 h hb hc hm hk ho
 go_enter Tryz.func21,Tryz.ntmps21
 go_wp2_with fail
 clear hW0 hbx
 refine Js.out.mono ?_
 rintro e w1 ⟨rfl,rfl⟩
 go_wp2_with fail
 refine HTK.out.mono ?_
 rintro e w2 ⟨A,c1,B,d,rfl,hn1,hn2,hk2⟩
 clear q1 q3
 obtain⟨q1,q3,f3⟩:=HFX.out w2 none 0 hk2
 obtain⟨X1,hX1,ht⟩:=ahi.out w2 A c1 hk2 hn1 3 1 G.length (.slice B G.length d) (ints G) (by decide) hn2.1 hn2.2
 obtain⟨W3,hW3⟩:∃W3,w2.setCell ⟨X.mb,3,none⟩ (.slice A P.length c1)=W3:=⟨_,rfl⟩
 rw[hW3]at ht
 have HT:=ah ht;clear ht hn1 hn2 hk2
 go_wp2_with fail
 clear q1 q3 f3 hW3
 go_loopw [6,26] (fun v6 v26 wr=>∃(i:Nat) (X2:MX),i<=G.length/\v26=.int .i64 i/\Tk w X M (c+i) bx (.pointer (some ⟨X.mb,0,none⟩)) 3 1 G.length (.slice B G.length d) (ints G) wr X2 (jG M0 (G.take i))) (fun _ v26 _=>G.length-(intOf v26).toNat)
 case atStart=>exact⟨0,X1,Nat.zero_le _,rfl,HT.out⟩
 case round=>
  obtain⟨i,X2,hi,rfl,ht⟩:=hrel
  have hg3:G.length<=3:=HG3.out
  by_cases hil:i<G.length
  ·obtain⟨g,hg⟩:∃g,G[i]? =some g:=⟨_,List.getElem?_eq_getElem hil⟩
   obtain⟨ad,rfl,had,d0⟩:=nU (Src.bC ht.hr) (by omega) i g hg
   have hw:=qM.out wr X2 i g _ _ _ _ _ (by have:=HG3.out;omega) ht hg
   have q1:wr.cell? ⟨bx,0,none⟩=some (.pointer (some ⟨X.mb,0,none⟩)):=ht.hb.cell 0
   have HW:=ah hw;clear hw ht hg
   go_wp2_with fail
   clear d0 q1
   refine HW.out.mono ?_
   rintro e w4 ⟨⟨z,rfl⟩,X3,ht3⟩
   have HT3:=ah ht3;clear ht3
   go_wp2_with fail
   go_roundw
   case rel=>exact⟨i+1,X3,by omega,by go_num,HT3.out⟩
   case measure=>simp[intOf];omega
  ·obtain rfl:i=G.length:=by omega
   rw[HT1.out]at ht
   obtain⟨wb,q4,hwt⟩:=ahj.out wr X2 _ _ _ _ _ ht
   have q1:wr.cell? ⟨bx,0,none⟩=some (.pointer (some ⟨X.mb,0,none⟩)):=ht.hb.cell 0
   have HWT:=ah hwt;clear hwt ht
   go_wp2_with fail
   clear q1 q4
   refine HWT.out.mono ?_
   rintro e w4 ⟨⟨z,rfl⟩,X3,ht3⟩
   have q1:w4.cell? ⟨bx,0,none⟩=some (.pointer (some ⟨X.mb,0,none⟩)):=ht3.hb.cell 0
   have HN:=ah (agz.out _ _ _ _ _ _ _ ht3);clear ht3
   go_wp2_with fail
   clear q1
   refine HN.out.mono ?_
   rintro e w5 ⟨rfl,X4,Jq⟩
   have q1:w5.cell? ⟨bx,0,none⟩=some (.pointer (some ⟨X.mb,0,none⟩)):=Jq.hb.cell 0
   have HH:=ah (VB.out _ _ _ _ _ _ _ Jq);clear Jq
   go_wp2_with fail
   clear q1
   refine HH.out.mono ?_
   rintro e w6 ⟨rfl,X5,MG⟩
   have q1:w6.cell? ⟨bx,0,none⟩=some (.pointer (some ⟨X.mb,0,none⟩)):=MG.hb.cell 0
   obtain⟨sb,q2,hcf⟩:=FO.out _ _ _ _ _ _ _ MG
   have Bv:=ah hcf;clear hcf MG
   go_wp2_with fail
   clear q1 q2
   refine Bv.out.mono ?_
   rintro e w7 ⟨A7,c7,rfl,ht7⟩
   have HT7:=ah ht7;clear ht7
   go_wp2_with fail
   go_loopw [9,52] (fun v9 v52 wr=>∃(i:Nat) (X2:MX),i<=ms.length/\v52=.int .i64 i/\Tk w X M (c+5) bx (.pointer (some ⟨X.mb,0,none⟩)) 65 2 ms.length (.slice A7 ms.length c7) (aP ms) wr X2 (gJ M3 (ms.take i))) (fun _ v52 _=>ms.length-(intOf v52).toNat)
   case atStart=>exact⟨0,X5,Nat.zero_le _,rfl,HT7.out⟩
   case round=>
    obtain⟨i,X6,hi,rfl,ht⟩:=hrel
    have hm4:ms.length<=4:=AY.out
    by_cases hil:i<ms.length
    ·obtain⟨m,hm⟩:∃m,ms[i]? =some m:=⟨_,List.getElem?_eq_getElem hil⟩
     obtain⟨ad,rfl,had,d0,d1⟩:=iH (Src.bC ht.hr) (by omega) i m hm
     obtain⟨W8,zO⟩:∃W8,wr.alloc (.cells #[.int .i64 m.1,.int .i64 m.2] 65)=W8:=⟨_,rfl⟩
     have hk8:Kept aj wr W8:=by rw[<-zO];(repeat'(first|(with_reducible first|exact ak|apply au|apply ay|apply aA|apply aB)|(right;simp;done)))
     have DU:Has W8 wr.heap.size 65 #[.int .i64 m.1,.int .i64 m.2]:=by rw[<-zO];exact Has.new _ _ _
     have p0:W8.cell? ⟨wr.heap.size,0,none⟩=some (.int .i64 m.1):=DU.cell 0
     have p1:W8.cell? ⟨wr.heap.size,1,none⟩=some (.int .i64 m.2):=DU.cell 1
     have ht8:=ht.quiet hk8
     have htl:=agA.out W8 X6 i m _ _ _ _ _ ht8 hm
     obtain⟨m1,m2⟩:=m
     dsimp only at zO p0 p1 d0 d1
     have OQ:=ah htl;clear htl ht8 ht hk8 DU hm
     go_wp2_with fail
     clear d0 d1 p0 p1 zO
     refine OQ.out.mono ?_
     rintro e w9 ⟨rfl,X7,ht9⟩
     have HT9:=ah ht9;clear ht9
     go_wp2_with fail
     go_roundw
     case rel=>exact⟨i+1,X7,by omega,by go_num,HT9.out⟩
     case measure=>simp[intOf];omega
    ·obtain rfl:i=ms.length:=by omega
     rw[HT4.out]at ht
     have q1:wr.cell? ⟨bx,0,none⟩=some (.pointer (some ⟨X.mb,0,none⟩)):=ht.hb.cell 0
     have HD:=ah (agB.out _ _ _ _ _ _ _ ht);clear ht
     go_wp2_with fail
     clear q1
     refine HD.out.mono ?_
     rintro e w9 ⟨A9,d9,rfl,hp⟩
     have HP:=ah hp;clear hp
     go_wp2
     go_ret
     exact⟨A9,d9,rfl,HP.out⟩
end
end dH
namespace dH
open aO Vn Mst lV IM mY gZ MO
def xC(a:jX):Bool:=decide (a.x.ms.length<=20)&&decide (a.x.ops.length<=20)&&decide (a.x.es.length<=20)&&decide (a.x.ss.length<=20)&&decide (a.x.ps.length<=40)
def Aw(l:List jX):Bool:=(l.take 60).all xC
theorem P7{a:jX}(h:xC a=true):a.x.ms.length<=20/\a.x.ops.length<=20/\a.x.es.length<=20/\a.x.ss.length<=20/\a.x.ps.length<=40:=by
 unfold xC at h
 simp only[Bool.and_eq_true,decide_eq_true_eq]at h
 exact⟨h.1.1.1.1,h.1.1.1.2,h.1.1.2,h.1.2,h.2⟩
theorem acf{a:jX}(h:20<a.x.ms.length\/20<a.x.ops.length\/20<a.x.es.length\/20<a.x.ss.length\/40<a.x.ps.length):xC a=false:=by
 cases hf:xC a with
 |false=>rfl
 |true=>have:=P7 hf;omega
theorem adS{a:jX}(h1:¬20<a.x.ms.length)(h2:¬20<a.x.ops.length)(h3:¬20<a.x.es.length)(h4:¬20<a.x.ss.length)(h5:¬40<a.x.ps.length):xC a=true:=by
 unfold xC
 simp only[Bool.and_eq_true,decide_eq_true_eq]
 omega
theorem acg{l:List jX}(h:Aw l=true){i:Nat}{a:jX}(hi:i<60)(ha:l[i]? =some a):xC a=true:=by
 unfold Aw at h
 rw[List.all_eq_true]at h
 exact h a (List.mem_of_getElem? (i:=i) (by rw[List.getElem?_take,if_pos hi];exact ha))
theorem agC(x:bF):(aI x).toArray.all (·.oneCell')=true:=by simp[aI,Value.oneCell']
abbrev VD:Array Value:=#[.int .i64 0,.int .i64 0,.int .i64 0,.int .i64 0,.bool false,.int .u64 0,.int .u64 0,.int .i64 0,.int .i64 0,.int .i64 0,.int .i64 0,.string ⟨#[]⟩,.string ⟨#[]⟩,.int .i64 0,.slice none 0 0,.int .u64 0,.int .i64 0,.int .i64 0,.slice none 0 0,.slice none 0 0,.slice none 0 0,.slice none 0 0]
theorem adT(w:World)(x:bF):∃Wz W8,w.alloc (.cells VD 45)=Wz/\(vV ⟨w.heap.size,0,none⟩ (.agg (aI x).toArray)).run Tryz.prog Wz=.ok () W8/\Has W8 w.heap.size 45 (aI x).toArray/\Kept aj w W8:=by
 have hz:Has (w.alloc (.cells VD 45)) w.heap.size 45 VD:=Has.new _ _ _
 have e1:(w.alloc (.cells VD 45)).setRow w.heap.size (aI x).toArray=w.alloc (.cells (aI x).toArray 45):=World.setRow_alloc_new ..
 refine⟨_,w.alloc (.cells (aI x).toArray 45),rfl,?_,Has.new _ _ _,by(repeat'(first|(with_reducible first|exact ak|apply au|apply ay|apply aA|apply aB)|(right;simp;done)))⟩
 rw[<-e1]
 exact run_storeVar_row _ w.heap.size _ _ _ _ hz (show(Tryz.prog.info? 45).map (·.size)=some 22 by kernel_rfl) rfl (agC x)
attribute [local go_sem↓] EU Ar
theorem adU(w:World)(A:Option Addr)(c:Nat)(l:List jX)(hl:Src w 24 A l.length (yZ l))(hls:∀a∈l,a.x.ms.length<=maxLen/\a.x.ops.length<=maxLen/\a.x.es.length<=maxLen/\a.x.ss.length<=maxLen/\a.x.ps.length<=maxLen):
  Calls Tryz.prog 5 #[.slice A l.length c] w fun e w'=>e=.returned (.bool (Aw l))/\Kept aj w w':=by
 have hsh:Aw l=((l.take 60).drop 0).all xC:=by rw[List.drop_zero];rfl
 have HL:=ah hl;have SB:=ah hls;have HSH:=ah hsh
 clear hl hls hsh
 go_enter Tryz.func5,Tryz.ntmps5
 go_wp2_with fail
 go_loopw [3,4] (fun v3 v4 wr=>∃i:Nat,i<=60/\i<=l.length/\v3=.int .i64 i/\Aw l=((l.take 60).drop i).all xC/\Kept aj w wr) (fun v3 _ _=>l.length-(intOf v3).toNat)
 case atStart=>exact⟨0,by omega,Nat.zero_le _,rfl,HSH.out,Kept.refl _ _⟩
 case round=>
  obtain⟨i,hi,hi2,rfl,he,hk⟩:=hrel
  have HE:=ah he;have HK:=ah hk;clear he hk
  by_cases hil:i<l.length
  ·by_cases hi6:i<60
   ·obtain⟨a,ha⟩:∃a,l[i]? =some a:=⟨_,List.getElem?_eq_getElem hil⟩
    obtain⟨ad,rfl,had,hld,-,-⟩:=Jh wr A l (HL.out.kept HK.out (fun _ _ z=>z)) i a ha
    have hd:(l.take 60).drop i=a::(l.take 60).drop (i+1):=aO.drop_cons (by rw[List.getElem?_take,if_pos hi6];exact ha)
    rw[hd,List.all_cons]at HE
    obtain⟨k1,k2,k3,k4,k5⟩:=SB.out a (List.mem_of_getElem? ha)
    unfold maxLen at k1 k2 k3 k4 k5
    obtain⟨Wz,W8,zN,hst,TC,hk8⟩:=adT wr a.x
    have p1:W8.cell? ⟨wr.heap.size,14,none⟩=some (.slice a.x.mA a.x.ms.length a.x.mc):=TC.cell 14
    have p2:W8.cell? ⟨wr.heap.size,18,none⟩=some (.slice a.x.oA a.x.ops.length a.x.oc):=TC.cell 18
    have p3:W8.cell? ⟨wr.heap.size,19,none⟩=some (.slice a.x.eA a.x.es.length a.x.ec):=TC.cell 19
    have p4:W8.cell? ⟨wr.heap.size,20,none⟩=some (.slice a.x.sA a.x.ss.length a.x.sc):=TC.cell 20
    have p5:W8.cell? ⟨wr.heap.size,21,none⟩=some (.slice a.x.pA a.x.ps.length a.x.pc):=TC.cell 21
    have vg:=ah (HK.out.then hk8)
    have J8:=ah (acf (a:=a));have afD:=ah (adS (a:=a))
    obtain⟨cs,hcs⟩:∃cs,(aI a.x).toArray=cs:=⟨_,rfl⟩
    rw[hcs]at hld hst
    obtain⟨n1,e1⟩:∃n,a.x.ms.length=n:=⟨_,rfl⟩
    obtain⟨n2,e2⟩:∃n,a.x.ops.length=n:=⟨_,rfl⟩
    obtain⟨n3,e3⟩:∃n,a.x.es.length=n:=⟨_,rfl⟩
    obtain⟨n4,e4⟩:∃n,a.x.ss.length=n:=⟨_,rfl⟩
    obtain⟨n5,e5⟩:∃n,a.x.ps.length=n:=⟨_,rfl⟩
    rw[e1]at k1 p1
    rw[e2]at k2 p2
    rw[e3]at k3 p3
    rw[e4]at k4 p4
    rw[e5]at k5 p5
    rw[e1,e2,e3,e4,e5]at J8 afD
    clear hd ha TC hk8 hcs e1 e2 e3 e4 e5
    have hbad:xC a=false->Aw l=false:=fun h=>by rw[HE.out,h,Bool.false_and]
    have HBAD:=ah hbad;clear hbad
    by_cases g1:20<n1
    ·have g1':(20:Int)<(n1:Int):=by omega
     have HF:=ah (HBAD.out (J8.out (by omega)))
     clear g1 k2 k3 k4 k5 p2 p3 p4 p5
     go_wp2
     go_ret
     exact⟨by rw[HF.out];rfl,vg.out⟩
    have g1':¬(20:Int)<(n1:Int):=by omega
    by_cases g2:20<n2
    ·have g2':(20:Int)<(n2:Int):=by omega
     have HF:=ah (HBAD.out (J8.out (by omega)))
     clear g1 g2 k3 k4 k5 p3 p4 p5
     go_wp2
     go_ret
     exact⟨by rw[HF.out];rfl,vg.out⟩
    have g2':¬(20:Int)<(n2:Int):=by omega
    by_cases g3:20<n3
    ·have g3':(20:Int)<(n3:Int):=by omega
     have HF:=ah (HBAD.out (J8.out (by omega)))
     clear g1 g2 g3 k4 k5 p4 p5
     go_wp2
     go_ret
     exact⟨by rw[HF.out];rfl,vg.out⟩
    have g3':¬(20:Int)<(n3:Int):=by omega
    by_cases g4:20<n4
    ·have g4':(20:Int)<(n4:Int):=by omega
     have HF:=ah (HBAD.out (J8.out (by omega)))
     clear g1 g2 g3 g4 k5 p5
     go_wp2
     go_ret
     exact⟨by rw[HF.out];rfl,vg.out⟩
    have g4':¬(20:Int)<(n4:Int):=by omega
    by_cases g5:40<n5
    ·have g5':(40:Int)<(n5:Int):=by omega
     have HF:=ah (HBAD.out (J8.out (by omega)))
     clear g1 g2 g3 g4 g5
     go_wp2
     go_ret
     exact⟨by rw[HF.out];rfl,vg.out⟩
    have g5':¬(40:Int)<(n5:Int):=by omega
    have HGO:=ah (show Aw l=((l.take 60).drop (i+1)).all xC by rw[HE.out,afD.out g1 g2 g3 g4 g5,Bool.true_and])
    clear g1 g2 g3 g4 g5
    go_wp2
    go_roundw
    case rel=>exact⟨i+1,by omega,by omega,by go_num,HGO.out,vg.out⟩
    case measure=>simp[intOf];omega
   ·obtain rfl:i=60:=by omega
    have HF:=ah (show Aw l=true by rw[HE.out,List.drop_eq_nil_of_le (by rw[List.length_take];omega)];rfl)
    go_wp2
    go_ret
    exact⟨by rw[HF.out];rfl,HK.out⟩
  ·obtain rfl:i=l.length:=by omega
   have HF:=ah (show Aw l=true by rw[HE.out,List.drop_eq_nil_of_le (by rw[List.length_take];omega)];rfl)
   go_wp2
   go_ret
   exact⟨by rw[HF.out];rfl,HK.out⟩
def oJ(M:MR)(a:jX):MR:=if 0<=a.k/\a.k<=3 then fC M a.n a.x else if a.k=4\/a.k=5 then oD M else if a.k=6 then oP M a.n else if a.k=7 then mJ M a.n else M
section
variable{w w':World}{X X0:MX}{M M0:MR}{c k:Nat}
def uU(w:World)(X:MX)(M:MR)(c:Nat)(a:jX)(e:Ending)(w':World):Prop:=e=.returned (.bool (decide (0<=a.k/\a.k<=7)))/\∃X',Step w X M w' X' (oJ M a)/\dw X' (oJ M a).lg (c+6)
theorem bD.act{w:World}(h:bD M k)(a:jX)(hi:I64 a.x.aU)(hok:iZ w a.x):bD (oJ M a) (k+1):=by
 unfold oJ
 split
 ·exact h.deliver a.n a.x hi hok
 split
 ·exact h.tick.mono (Nat.le_succ _)
 split
 ·exact h.join a.n
 split
 ·exact h.leave a.n
 ·exact h.mono (Nat.le_succ _)
theorem ZH(M:MR)(i:Int):(oP M i).out=M.out:=by unfold oP;split<;>rfl
theorem VE(M:MR)(i:Int):(mJ M i).out=M.out:=by unfold mJ;split<;>rfl
theorem ach(M:MR)(a:jX)(h:M.out=[]):(oJ M a).out=[]:=by
 unfold oJ
 split
 ·unfold fC
  split
  ·rfl
  ·exact h
 split
 ·rfl
 split
 ·rw[ZH];exact h
 split
 ·rw[VE];exact h
 ·exact h
theorem Step.Jt{o:List Ah}{e:Ending}(h:ny w X M c o M0 e w'):(∃v:Value,e=.returned v)/\∃X',Step w X M w' X' M0/\dw X' M0.lg c:=by
 obtain⟨A,d,rfl,_,_,X',h4,h5,_⟩:=h
 exact⟨⟨_,rfl⟩,X',h4,h5⟩
attribute [local go_sem↓] Ar
theorem afE(h:dD w X M)(hb:dw X M.lg c)(hc:c<=2900)(hm:bD M k)(hk:k<=900)(ho:M.out=[])(a:jX)(hx:iZ w a.x)(hxs:I64 a.x.aU)(hi64:I64 a.n):
  Calls Tryz.prog 10 #[.pointer (some ⟨X.mb,0,none⟩),.agg (oW a).toArray] w (uU w X M c a):=by
 obtain⟨W0,hW0⟩:∃W0,w.alloc (.cells (oW a).toArray 47)=W0:=⟨_,rfl⟩
 have hk0:Kept aj w W0:=by rw[<-hW0];(repeat'(first|(with_reducible first|exact ak|apply au|apply ay|apply aA|apply aB)|(right;simp;done)))
 have hn0:Has W0 w.heap.size 47 (oW a).toArray:=by rw[<-hW0];exact Has.new _ _ _
 have hld:=Jg W0 w.heap.size a hn0
 have hol:M.out.length<=90:=by rw[ho];decide
 have q0:W0.cell? ⟨w.heap.size,0,none⟩=some (.int .i64 a.k):=hn0.cell 0
 have q1:W0.cell? ⟨w.heap.size,1,none⟩=some (.int .i64 a.n):=hn0.cell 1
 have hq:=h.quiet hk0
 have hA:∀W' M9 X9 d,d<=6->oJ M a=M9->Step W0 X M W' X9 M9->dw X9 M9.lg (c+d)->0<=a.k/\a.k<=7->uU w X M c a (.returned (.bool true)) W':=fun W' M9 X9 d hd e1 hs hl hk=>by
  refine⟨by rw[decide_eq_true hk],X9,?_⟩
  rw[e1]
  exact⟨(Step.refl h hk0).trans hs,hl.mono (by omega)⟩
 have hdel:=fun hk3:0<=a.k/\a.k<=3=>(Gp hq hb hc hm hk hol a.n a.x (hx.kept hk0) hxs hi64).mono fun e W' hp=>show(∃v:Value,e=.returned v)/\uU w X M c a (.returned (.bool true)) W' from by
  obtain⟨h1,X9,h2,h3⟩:=Step.Jt hp
  exact⟨h1,hA W' _ X9 3 (by omega) (by unfold oJ;rw[if_pos hk3]) h2 h3 (by omega)⟩
 have zU:=fun hk3:a.k=4\/a.k=5=>(P6 hq hb hc hm (by omega) hol).mono fun e W' hp=>show(∃v:Value,e=.returned v)/\uU w X M c a (.returned (.bool true)) W' from by
  obtain⟨h1,X9,h2,h3⟩:=Step.Jt hp
  exact⟨h1,hA W' _ X9 6 (by omega) (by unfold oJ;rw[if_neg (by omega),if_pos hk3]) h2 h3 (by omega)⟩
 have Ju:=fun hk3:a.k=6=>(Y1 hq hb hm (by omega) a.n).mono fun e W' hp=>show(∃v:Value,e=.returned v)/\uU w X M c a (.returned (.bool true)) W' from by
  obtain⟨h1,X9,h2,h3⟩:=hp
  exact⟨⟨_,h1⟩,hA W' _ X9 0 (by omega) (by unfold oJ;rw[if_neg (by omega),if_neg (by omega),if_pos hk3]) h2 h3 (by omega)⟩
 have hleave:=fun hk3:a.k=7=>(U7 hq hb hm (by omega) a.n).mono fun e W' hp=>show(∃v:Value,e=.returned v)/\uU w X M c a (.returned (.bool true)) W' from by
  obtain⟨h1,X9,h2,h3⟩:=hp
  exact⟨⟨_,h1⟩,hA W' _ X9 0 (by omega) (by unfold oJ;rw[if_neg (by omega),if_neg (by omega),if_neg (by omega),if_pos hk3]) h2 h3 (by omega)⟩
 have hnone:¬(0<=a.k/\a.k<=7)->uU w X M c a (.returned (.bool false)) W0:=fun hn=>by
  refine⟨by rw[decide_eq_false hn],X,?_⟩
  have e1:oJ M a=M:=by unfold oJ;rw[if_neg (by omega),if_neg (by omega),if_neg (by omega),if_neg (by omega)]
  rw[e1]
  exact⟨Step.refl h hk0,hb.mono (by omega)⟩
 obtain⟨Q,hQ⟩:∃Q,uU w X M c a=Q:=⟨_,rfl⟩
 simp only[hQ]at hdel zU Ju hleave hnone⊢
 obtain⟨kk,hkk⟩:∃kk,a.k=kk:=⟨_,rfl⟩
 obtain⟨nn,hnn⟩:∃nn,a.n=nn:=⟨_,rfl⟩
 obtain⟨cs,hcs⟩:∃cs,(aI a.x).toArray=cs:=⟨_,rfl⟩
 have ac0:0<=kk/\kk<=3->Calls Tryz.prog 20 #[.pointer (some ⟨X.mb,0,none⟩),.int .i64 nn,.agg cs] W0 fun e W'=>(∃v:Value,e=.returned v)/\Q (.returned (.bool true)) W':=by rw[<-hkk,<-hnn,<-hcs];exact hdel
 rw[hkk]at zU Ju hleave hnone q0
 rw[hnn]at Ju hleave q1
 rw[hcs]at hld
 have J9:=ah ac0;have Nj:=ah zU;have VF:=ah Ju;have P8:=ah hleave;have Js:=ah hnone
 clear ac0 hdel zU Ju hleave hnone hA hq hn0 hk0 hol hQ hkk hnn hcs h hb hc hm hk ho hx hxs hi64
 by_cases hr:0<=kk/\kk<=7
 ·have hcase:kk=0\/kk=1\/kk=2\/kk=3\/kk=4\/kk=5\/kk=6\/kk=7:=by omega
  clear hr
  rcases hcase with rfl|rfl|rfl|rfl|rfl|rfl|rfl|rfl
  case' inl=>have HX:=ah (J9.out (by decide))
  case' inr.inl=>have HX:=ah (J9.out (by decide))
  case' inr.inr.inl=>have HX:=ah (J9.out (by decide))
  case' inr.inr.inr.inl=>have HX:=ah (J9.out (by decide))
  case' inr.inr.inr.inr.inl=>have HX:=ah (Nj.out (by decide))
  case' inr.inr.inr.inr.inr.inl=>have HX:=ah (Nj.out (by decide))
  case' inr.inr.inr.inr.inr.inr.inl=>have HX:=ah (VF.out rfl)
  case' inr.inr.inr.inr.inr.inr.inr=>have HX:=ah (P8.out rfl)
  all_goals (
   clear J9 Nj VF P8 Js
   go_enter Tryz.func10,Tryz.ntmps10
   go_wp2_with fail
   clear hW0 q0 q1 hld
   refine HX.out.mono ?_
   rintro e w2 ⟨⟨v,rfl⟩,hq⟩
   have HQ:=ah hq;clear hq
   go_wp2
   exact HQ.out)
 ·have HX:=ah (Js.out hr)
  have n0:(kk==0)=false:=by simp;omega
  have n1:(kk==1)=false:=by simp;omega
  have n2:(kk==2)=false:=by simp;omega
  have n3:(kk==3)=false:=by simp;omega
  have n4:(kk==4)=false:=by simp;omega
  have n5:(kk==5)=false:=by simp;omega
  have n6:(kk==6)=false:=by simp;omega
  have n7:(kk==7)=false:=by simp;omega
  clear J9 Nj VF P8 Js hr hld q1
  go_enter Tryz.func10,Tryz.ntmps10
  go_wp2
  exact HX.out
end
end dH
namespace dH
open aO Vn Mst lV IM mY gZ MO
theorem P9(w:World):iZ w kK:=
 ⟨Src.nil _ _ _,Nat.le_refl _,Nat.zero_le _,Src.nil _ _ _,Src.nil _ _ _,(fun y hy=>by cases hy),Nat.zero_le _,Src.nil _ _ _,Nat.zero_le _,(fun y hy=>by cases hy),Src.nil _ _ _,Nat.zero_le _,by unfold kK;dsimp only;unfold aT;decide⟩
structure Own(w:World)(mb:Nat)(c k:Nat)(W:World)(X:MX)(M:MR):Prop where
 mb:X.mb=mb
 at':dD W X M
 lb:dw X M.lg c
 ok:bD M k
 nw:∀q,dX X M q->w.heap.size<=q
 kp:Kept aj w W
theorem Own.step{w W W':World}{mb c k c' k':Nat}{X X':MX}{M M':MR}(h:Own w mb c k W X M)(hs:Step W X M W' X' M')(hl:dw X' M'.lg c')(hk:bD M' k'):Own w mb c' k' W' X' M':=by
 refine⟨hs.mb.trans h.mb,hs.at',hl,hk,fun q hq=> ?_,h.kp.trans hs.k (fun q hq=> .inr (h.nw q hq))⟩
 rcases hs.g q hq with y|y
 ·exact h.nw q y
 ·have:=h.kp.size;omega
theorem Own.mono{w W:World}{mb c k c' k':Nat}{X:MX}{M:MR}(h:Own w mb c k W X M)(hc:c<=c')(hk:k<=k'):Own w mb c' k' W X M:=⟨h.mb,h.at',h.lb.mono hc,h.ok.mono hk,h.nw,h.kp⟩
theorem Own.new{w w1 w2:World}{F:Nat->Prop}{ep fl:Int}{l:List Mem}{X:MX}(hk1:Kept aj w w1)(hF:∀k,F k->w.heap.size<=k)(hfl:0<=fl/\fl<=aT)(hm:dD w2 X (tH ep l fl))(hlb:dw X (tH ep l fl).lg 2)(hft:∀k,dX X (tH ep l fl) k->F k\/w1.heap.size<=k)(hk2:Kept F w1 w2):Own w X.mb 2 0 w2 X (tH ep l fl):=
 ⟨rfl,hm,hlb,adN hfl,(fun q hq=>by
  rcases hft q hq with y|y
  ·exact hF q y
  ·have:=hk1.size;omega),hk1.trans hk2 (fun q hq=> .inr (hF q hq))⟩
theorem VG:I64 1:=fZ (by decide) (by decide)
theorem agD:aO.chk 1 [(0,1),(1,1)]=0:=by decide
theorem adV(w:World):Calls Tryz.prog 6 #[] w fun e w'=>e=.returned (.bool true)/\Kept aj w w':=by
 go_enter Tryz.func6,Tryz.ntmps6
 go_wp2_with fail
 refine(aH.new_any w).mono ?_
 rintro e w1 ⟨g,F,rfl,hd,hk1,hF⟩
 obtain⟨W1,hW1⟩:∃W1,w1.alloc (.cells #[.int .i64 0,.int .i64 1,.int .i64 1,.int .i64 1] 65)=W1:=⟨_,rfl⟩
 have hkw:Kept aj w1 W1:=by rw[<-hW1];(repeat'(first|(with_reducible first|exact ak|apply au|apply ay|apply aA|apply aB)|(right;simp;done)))
 have hnb:Has W1 w1.heap.size 65 #[.int .i64 0,.int .i64 1,.int .i64 1,.int .i64 1]:=by rw[<-hW1];exact Has.new _ _ _
 have hnew:=Pq W1 g F 1 1 1 0 (some ⟨w1.heap.size,0,none⟩) 2 [(0,1),(1,1)] (hd.kept hkw (fun _ _ z=>z)) (Src.dn (t:=65) (size:=2) (m:=2) (cs:=#[.int .i64 0,.int .i64 1,.int .i64 1,.int .i64 1]) hnb rfl) (fun _ ad e hf=>by injection e with e;subst e;exact absurd (hd.lt _ hf) (Nat.lt_irrefl _)) (by decide) (by decide) ⟨by decide,by decide⟩ agD
 have fH:=ah hnew;have fF:=ah (hk1.then hkw);have HF:=ah hF
 clear hnew hkw hnb hd hk1 hF
 go_wp2_with fail
 clear hW1
 refine fH.out.mono ?_
 rintro e w2 ⟨X,rfl,hm,hlb,-,hft,hk2⟩
 have ho:=Own.new fF.out HF.out ⟨by decide,by decide⟩ hm hlb hft hk2
 obtain⟨mb,hmb⟩:∃mb,X.mb=mb:=⟨_,rfl⟩
 rw[hmb]at ho⊢
 have HO:=ah ho;clear ho hm hlb hft hk2 hmb fF HF fH
 go_wp2_with fail
 go_loopw [3] (fun v3 wr=>∃(i:Nat) (M:MR) (X1:MX),i<=6/\v3=.int .i64 i/\Own w mb (2+9*i) i wr X1 M/\(i<=5->MF M i)/\(i=6->M.st.ep=2/\M.st.ms=[(1,1)])) (fun v3 _=>6-(intOf v3).toNat)
 case atStart=>exact⟨0,_,X,by omega,rfl,HO.out,fun _=>awA,fun h=>by omega⟩
 case round=>
  obtain⟨i,M,X1,hi,rfl,ho,ha,hz⟩:=hrel
  by_cases hil:i<6
  ·have haw:=ha (by omega)
   have hol:M.out.length<=90:=by rw[haw.out];decide
   have hdel:=Gp ho.at' ho.lb (by omega) ho.ok (by omega) hol 1 kK (P9 wr) VG VG
   rw[ho.mb]at hdel
   have hd1:=ho.ok.deliver 1 kK VG (P9 wr)
   have hout:(fC M 1 kK).out.length<=90:=by rw[haw.d.out];decide
   have zU:∀W X2,Step wr X1 M W X2 (fC M 1 kK)->dw X2 (fC M 1 kK).lg (2+9*i+3)->Calls Tryz.prog 21 #[.pointer (some ⟨mb,0,none⟩)] W fun e W'=>(∃v:Value,e=.returned v)/\∃X3,Own w mb (2+9*(i+1)) (i+1) W' X3 (oD (fC M 1 kK)):=fun W X2 hs hl=>by
    have h2:=ho.step hs hl hd1
    have ht:=P6 h2.at' h2.lb (by omega) h2.ok (by omega) hout
    rw[h2.mb]at ht
    refine ht.mono fun e W' hp=> ?_
    obtain⟨h3,X3,h4,h5⟩:=Step.Jt hp
    exact⟨h3,X3,h2.step h4 (h5.mono (by omega)) hd1.tick⟩
   have hfin:(i+1<=5->MF (oD (fC M 1 kK)) (i+1))/\(i+1=6->(oD (fC M 1 kK)).st.ep=2/\(oD (fC M 1 kK)).st.ms=[(1,1)]):=by
    refine⟨fun h=>haw.d.tick (by omega),fun h=> ?_⟩
    obtain rfl:i=5:=by omega
    exact haw.d.ags
   have Nk:=hdel.mono fun e W' hp=>show(∃v:Value,e=.returned v)/\∃X',Step wr X1 M W' X' (fC M 1 kK)/\dw X' (fC M 1 kK).lg (2+9*i+3)from Step.Jt hp
   obtain⟨M2,hM2⟩:∃M2,fC M 1 kK=M2:=⟨_,rfl⟩
   simp only[hM2]at Nk zU hfin
   simp only[kK,gK,aI,List.length_nil]at Nk
   have HD:=ah Nk;have HT:=ah zU;have pY:=ah hfin
   clear hdel Nk hd1 hout zU hfin haw hol ho ha hz hM2
   go_wp2_with fail
   refine HD.out.mono ?_
   rintro e w4 ⟨⟨v,rfl⟩,X2,hs,hl⟩
   have HTT:=ah (HT.out w4 X2 hs hl);clear hs hl
   go_wp2_with fail
   refine HTT.out.mono ?_
   rintro e w5 ⟨⟨v5,rfl⟩,X3,ho3⟩
   have HO3:=ah ho3;clear ho3
   go_wp2_with fail
   go_roundw
   case rel=>exact⟨i+1,_,X3,by omega,by go_num,HO3.out,pY.out.1,pY.out.2⟩
   case measure=>simp[intOf];omega
  ·obtain rfl:i=6:=by omega
   obtain⟨hz1,hz2⟩:=hz rfl
   have hcf:=LZ ho.at' ho.ok.st.inv.ok
   rw[ho.mb,hz1,hz2]at hcf
   obtain⟨fl,hfl⟩:∃fl,M.st.fl=fl:=⟨_,rfl⟩
   rw[hfl]at hcf
   have Bv:=ah hcf;have Lm:=ah ho.kp
   clear hcf ho ha hz hz1 hz2 hfl
   go_wp2_with fail
   refine Bv.out.mono ?_
   rintro e w4 ⟨A,c4,rfl,hn,hk4⟩
   obtain⟨g',cap,hv,_,_⟩:=hn.1.form (by decide)
   have hc:=(Src.bC hn.1).2 (by decide)
   obtain⟨ad,had,hlt,hcell⟩:=hc
   have e1:A=some ⟨g',0,none⟩:=by injection hv
   subst e1
   have e2:ad=⟨g',0,none⟩:=by injection had with had;exact had.symm
   subst e2
   have d0:∀o,(w4.alloc o).cell? ⟨g',0,none⟩=some (.int .i64 1):=fun o=>by
    have h5:Kept aj w4 (w4.alloc o):=by(repeat'(first|(with_reducible first|exact ak|apply au|apply ay|apply aA|apply aB)|(right;simp;done)))
    obtain⟨ad,had,_,hcell⟩:=((Src.bC hn.1).kept h5 (fun _ _ z=>z)).2 (by decide)
    injection had with had
    subst had
    exact hcell 0 _ rfl
   have dW:=ah (Lm.out.then hk4)
   clear hn hk4 hv hcell hlt had
   go_wp2_with fail
   go_ret
   exact⟨rfl,by(repeat'(first|(with_reducible first|exact ak|apply au|apply ay|apply aA|apply aB)|(exact dW.out)|(right;simp;done)))⟩
end dH
end Go.Proofs.YtfjdpbbgfjhnlaaGreat
namespace Go.Proofs.YtfjdpbbgfjhnlaaGreat
namespace Ops
open Vn
abbrev RS:=Nat×Int
def iW(s:ByteArray)(r:RS):Nat×RS:=
 if r.2≠0 then (0,r)else match Vn.get (bl s) r.1 with
  | .ok (n,j)=>(n,(j,0))
  | .error c=>(0,(r.1,(c:Int)))
def kL(s:ByteArray)(most:Nat)(r:RS):Nat×RS:=
 if(iW s r).2.2=0/\most<(iW s r).1 then (0,((iW s r).2.1,5))else iW s r
def oZ(s:ByteArray)(most:Nat)(r:RS):ByteArray×RS:=
 if(iW s r).2.2≠0 then (emp,(iW s r).2)
 else if most<(iW s r).1 then (emp,((iW s r).2.1,3))
 else if s.size-(iW s r).2.1<(iW s r).1 then (emp,((iW s r).2.1,2))
 else(s.extract (iW s r).2.1 ((iW s r).2.1+(iW s r).1),((iW s r).2.1+(iW s r).1,0))
def Ho(s:ByteArray)(r:RS):Int:=if r.2≠0 then r.2 else if r.1<s.size then 4 else 0
def zero:Batch:=⟨0,0,[]⟩
def Rest(s:ByteArray)(i:Nat)(l:List UInt8):Prop:=∃pre,bl s=pre++l/\pre.length=i
theorem Rest.step{s:ByteArray}{i:Nat}{x l:List UInt8}(h:Rest s i (x++l)):Rest s (i+x.length) l:=by
 obtain⟨pre,h1,h2⟩:=h
 exact⟨pre++x,by rw[h1,List.append_assoc],by simp[h2]⟩
theorem Rest.le{s:ByteArray}{i:Nat}{l:List UInt8}(h:Rest s i l):i+l.length=s.size:=by
 obtain⟨pre,h1,h2⟩:=h
 rw[<-bJ,h1];simp[h2]
theorem BA{s:ByteArray}{i n:Nat}{l:List UInt8}(h:Rest s i (put n++l))(hn:n<18446744073709551616):iW s (i,0)=(n,(i+(put n).length,0)):=by
 obtain⟨pre,h1,h2⟩:=h
 have:=get_put pre l n hn
 rw[List.append_assoc,<-h1,h2]at this
 simp[iW,this]
theorem kM{s:ByteArray}{i n most:Nat}{l:List UInt8}(h:Rest s i (put n++l))(hn:n<=most)(hm:most<18446744073709551616):kL s most (i,0)=(n,(i+(put n).length,0)):=by
 unfold kL
 rw[BA h (by omega)]
 rw[if_neg (by simp;omega)]
theorem VH(s:ByteArray)(i j:Nat)(h:j<=s.size)(hij:i<=j):bl (s.extract i j)=((bl s).drop i).take (j-i):=by
 simp[bl]
theorem aci{s t:ByteArray}{i most:Nat}{l:List UInt8}(h:Rest s i (dK t++l))(ht:t.size<=most)(hm:most<18446744073709551616):oZ s most (i,0)=(t,(i+(dK t).length,0)):=by
 have hlen:(dK t).length=(put t.size).length+t.size:=by unfold dK;rw[List.length_append,bJ]
 have hle:=h.le
 rw[List.length_append,hlen]at hle
 have hR:Rest s i (put t.size++(bl t++l)):=by unfold dK at h;rwa[List.append_assoc]at h
 have hB:=BA hR (by omega)
 obtain⟨pre,h1,h2⟩:=hR.step
 unfold oZ
 rw[hB]
 simp only[ne_eq,not_true_eq_false,if_false]
 rw[if_neg (by omega),if_neg (by omega),hlen]
 have e:s.extract (i+(put t.size).length) (i+(put t.size).length+t.size)=t:=by
  apply aea
  rw[VH s _ _ (by omega) (by omega),h1,<-h2,List.drop_left,Nat.add_sub_cancel_left,<-bJ t,List.take_left]
 rw[e,Nat.add_assoc]
theorem Hq{s:ByteArray}{q:RS}(h:q.2≠0):iW s q=(0,q):=by unfold iW;rw[if_pos h]
theorem acj{s:ByteArray}{most:Nat}{q:RS}(h:q.2≠0):kL s most q=(0,q):=by
 unfold kL
 rw[Hq h,if_neg (fun x=>h x.1)]
theorem ZI{s:ByteArray}{most:Nat}{q:RS}(h:q.2≠0):oZ s most q=(emp,q):=by
 unfold oZ
 rw[Hq h,if_pos h]
end Ops
end Go.Proofs.YtfjdpbbgfjhnlaaGreat
