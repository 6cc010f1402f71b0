/- Part 51 of what the proof needs. -/
import Derived.Test.YtolkgbafebehfaaGreatZP48
import Derived.Test.YtolkgbafebehfaaGreatZP49
set_option linter.unusedSimpArgs false
set_option linter.unusedVariables false
set_option maxHeartbeats 32000000
set_option maxRecDepth 100000
namespace Go.Proofs.YtolkgbafebehfaaGreat
open Go.RowKit
set_option maxRecDepth 100000
namespace dM
open aP Vn Mst lJ IM nG gX
section
variable{w w':World}{X X0:MX}{M M0:MR}{c k:Nat}
theorem Step.row{e:TypeId}{size n:Nat}{v:Value}{xs:List Value}(h:Step w X M w' X0 M0)(hr:w.ownsRow 0 e size v n xs)(hn:∀q,v.ownBlock=some q->¬dU X M q):w'.ownsRow 0 e size v n xs/\(∀q,v.ownBlock=some q->¬dU X0 M0 q):=
 ⟨aC hr h.k hn,fun q hq hf=>by
  rcases h.g q hf with y|y
  ·exact hn q hq y
  ·have:=ou hr hq;omega⟩
theorem XZ(h:dG w X M)(hb:cZ X M.lg c)(ho:M.out.length<=1000)(hok:nR M.st)(hu:SU M.st)(b:Nat)(hbx:Has w b 29 #[.pointer (some ⟨X.mb,0,none⟩)])(m:Mem):
  Calls Tryz.prog 66 #[iJ m,.pointer (some ⟨b,0,none⟩)] w (dK w X M c (.tuple #[]) (jB M m.1) 0):=by
 obtain⟨m1,m2⟩:=m
 obtain⟨W0,hW0⟩:∃W0,w.alloc (.cells #[.int .i64 m1,.int .i64 m2] 53)=W0:=⟨_,rfl⟩
 have hk0:Kept aj w W0:=by rw[<-hW0];(repeat'(first|(with_reducible first|exact ak|apply au|apply ay|apply aA|apply aB)|(right;simp;done)))
 have hn0:Has W0 w.heap.size 53 #[.int .i64 m1,.int .i64 m2]:=by rw[<-hW0];exact Has.new _ _ _
 have q0:W0.cell? ⟨w.heap.size,0,none⟩=some (.int .i64 m1):=hn0.cell 0
 have q1:W0.cell? ⟨b,0,none⟩=some (.pointer (some ⟨X.mb,0,none⟩)):=(hbx.kept hk0 (fun z=>z)).cell 0
 have hw:=Bo (h.quiet hk0) hb ho hok hu m1
 have hfin:∀e W,dK W0 X M c (.tuple #[]) (jB M m1) 0 e W->dK w X M c (.tuple #[]) (jB M m1) 0 e W:=fun e W hp=>by
  obtain⟨h1,X',h2,h3⟩:=hp
  exact⟨h1,X',(Step.refl h hk0).trans h2,h3⟩
 have HW:=ah hw;have HF:=ah hfin
 clear hw hfin hk0 hn0 h hb ho hok hu hbx
 obtain⟨M',hM'⟩:∃M',jB M m1=M':=⟨_,rfl⟩
 simp only[hM']at HW HF⊢
 clear hM'
 go_enter Tryz.func66,Tryz.ntmps66
 go_wp2_with fail
 clear hW0 q0 q1
 refine HW.out.mono ?_
 rintro e w2 ⟨rfl,X',h1,h2⟩
 have hq:=HF.out _ _ ⟨rfl,X',h1,h2⟩
 have HQ:=ah hq;clear hq h1 h2
 go_wp2
 go_end0
 exact HQ.out
structure Tk(w:World)(X:MX)(M:MR)(c:Nat)(b:Nat)(p:Value)(e:TypeId)(size n:Nat)(v:Value)(xs:List Value)(W:World)(X1:MX)(M1:MR):Prop where
 s:Step w X M W X1 M1
 lb:cZ X1 M1.lg c
 hb:Has W b 29 #[p]
 ob:¬dU X1 M1 b
 hr:W.ownsRow 0 e size v n xs
 hn:∀q,v.ownBlock=some q->¬dU X1 M1 q
section
variable{W W':World}{X1 X2:MX}{M1 M2:MR}{b:Nat}{p:Value}{e:TypeId}{size n:Nat}{v:Value}{xs:List Value}
theorem Tk.quiet(h:Tk w X M c b p e size n v xs W X1 M1)(hk:Kept aj W W'):Tk w X M c b p e size n v xs W' X1 M1:=⟨h.s.quiet hk,h.lb,h.hb.kept hk (fun z=>z),h.ob,aC h.hr hk (fun _ _ z=>z),h.hn⟩
theorem Tk.step(h:Tk w X M c b p e size n v xs W X1 M1)(hs:Step W X1 M1 W' X2 M2){c2:Nat}(hl:cZ X2 M2.lg c2):Tk w X M c2 b p e size n v xs W' X2 M2:=by
 have a1:=hs.has h.hb h.ob
 have a2:=hs.row h.hr h.hn
 exact⟨h.s.trans hs,hl,a1.1,a1.2,a2.1,a2.2⟩
end
attribute [local go_sem] wI
theorem X8(h:dG w X M)(hb:cZ X M.lg c)(hc:c<=2900)(hm:bQ M k)(hk:k<=1000)(ho:M.out.length<=90):
  Calls Tryz.prog 21 #[.pointer (some ⟨X.mb,0,none⟩)] w (lI w X M (c+6) (qL M).out (oV M)):=by
 obtain⟨W0,hW0⟩:∃W0,w.alloc (.cells #[.pointer (some ⟨X.mb,0,none⟩)] 29)=W0:=⟨_,rfl⟩
 have hk0:Kept aj w W0:=by rw[<-hW0];(repeat'(first|(with_reducible first|exact ak|apply au|apply ay|apply aA|apply aB)|(right;simp;done)))
 have hn0:Has W0 w.heap.size 29 #[.pointer (some ⟨X.mb,0,none⟩)]:=by rw[<-hW0];exact Has.new _ _ _
 have Dj:∀q,dU X M q->q<w.heap.size:=fun q hq=>h.lt hq
 have hb0:¬dU X M w.heap.size:=fun hf=>Nat.lt_irrefl _ (Dj _ hf)
 have hnone:=Bj (h.quiet hk0)
 have htk:=eF.RS W0 X.pA X.pc M.pins (Src.bC ((h.quiet hk0).c 3)) (by have:=hm.p3;omega) (fun p hp=>by have:=hm.pin p hp;omega)
 have q3:W0.cell? ⟨X.mb,3,none⟩=some (.slice X.pA M.pins.length X.pc):=(h.quiet hk0).cell (i:=3) rfl
 have hg3:(eF.jA M.pins).length<=3:=Nat.le_trans (eF.Jk _) hm.p3
 obtain⟨bx,hbx⟩:∃bx,w.heap.size=bx:=⟨_,rfl⟩
 rw[hbx]at hn0 hb0
 have q1:W0.cell? ⟨bx,0,none⟩=some (.pointer (some ⟨X.mb,0,none⟩)):=hn0.cell 0
 have hfx:∀W (A:Option Addr) (c1:Nat),Kept aj W0 W->W.cell? ⟨bx,0,none⟩=some (.pointer (some ⟨X.mb,0,none⟩))/\W.cell? ⟨X.mb,3,none⟩=some (.slice X.pA M.pins.length X.pc)/\W.frozen? ⟨X.mb,3,none⟩=false:=fun W A c1 hW=>
  ⟨(hn0.kept hW (fun z=>z)).cell 0,(h.quiet (hk0.then hW)).cell (i:=3) rfl,Has.frozen ((h.quiet (hk0.then hW)).c 0) 3⟩
 have hset:∀W A c1,Kept aj W0 W->aF 79 3 W0.heap.size W A (eF.iE M.pins).length c1 (aK (eF.iE M.pins))->∀e size n v xs,e≠79->W.ownsRow 0 e size v n xs->(∀q,v.ownBlock=some q->W0.heap.size<=q)->
   ∃X1,X1.mb=X.mb/\Tk w X M c bx (.pointer (some ⟨X.mb,0,none⟩)) e size n v xs (W.setCell ⟨X.mb,3,none⟩ (.slice A (eF.iE M.pins).length c1)) X1 (oU M):=fun W A c1 hW hn e size n v xs hne hr hq=>by
  have h1:=hk0.size
  have hs:=Step.Cb (Step.refl h (hk0.then hW)) hn.1 (fun k hk=>by
   have h2:=hn.2 k hk
   exact⟨by omega,fun hf=>by have:=Dj _ hf;omega⟩)
  have hkk:Kept (dU X M) W (W.setCell ⟨X.mb,3,none⟩ (.slice A (eF.iE M.pins).length c1)):=(Kept.refl _ W).put (.inl ⟨0,rfl⟩)
  refine⟨{X with pA:=A,pc:=c1},rfl,⟨hs,⟨hb.n,hb.f,hb.l,hb.hd⟩,(hn0.kept hW (fun z=>z)).kept hkk hb0,fun hf=> ?_,aC hr hkk (fun g hg hf=> ?_),fun q hq2 hf=> ?_⟩⟩
  ·obtain⟨i,hi⟩:=hf
   by_cases h3:i=3
   ·subst h3
    have h4:=hn.2 bx hi
    have h5:=hn0.lt
    omega
   ·have hfb:dU X M bx:=⟨i,by rcases i with _|_|_|_|_|_|_|_|_|_|_|i<;>first|exact hi|exact absurd rfl h3⟩
    exact hb0 hfb
  ·have:=hq g hg;have:=Dj g hf;omega
  ·have h6:=hq q hq2
   obtain⟨i,hi⟩:=hf
   by_cases h3:i=3
   ·subst h3
    have h7:(Value.slice A (eF.iE M.pins).length c1).ownBlock=some q:=hi
    exact absurd hq2 (eF.rows_apart hn.1 hr hne q h7)
   ·have hfb:dU X M q:=⟨i,by rcases i with _|_|_|_|_|_|_|_|_|_|_|i<;>first|exact hi|exact absurd rfl h3⟩
    have:=Dj q hfb;omega
 have Ce:∀n,bQ (mM (oU M) n) k:=fun n=>(hm.oU).mM n
 have hwr:∀W X1 i (g:Int) e size n v xs,i<=3->Tk w X M (c+i) bx (.pointer (some ⟨X.mb,0,none⟩)) e size n v xs W X1 (mM (oU M) ((eF.jA M.pins).take i))->(eF.jA M.pins)[i]? =some g->
   Calls Tryz.prog 44 #[.pointer (some ⟨X.mb,0,none⟩),.agg (aH (jr g)).toArray] W fun e0 W'=>(∃z:Int,e0=.returned (.int .i64 z))/\∃X2,Tk w X M (c+(i+1)) bx (.pointer (some ⟨X.mb,0,none⟩)) e size n v xs W' X2 (mM (oU M) ((eF.jA M.pins).take (i+1))):=fun W X1 i g e size n v xs hi ht hg=>by
  have e1:(eF.jA M.pins).take (i+1)=(eF.jA M.pins).take i++[g]:=aP.take_snoc hg
  rw[e1,Nc]
  have hw:=write_any ht.s.at' ht.lb (by omega) (Ce _).st.inv.ok (jr g) (Ej _ _ _ _ _ _) (tK _ _ _ (by decide) (by decide)) (ES _ _)
  rw[ht.s.mb]at hw
  refine hw.mono ?_
  rintro e0 W' ⟨rfl,X2,h1,h2⟩
  exact⟨⟨_,rfl⟩,X2,ht.step h1 h2⟩
 have X9:∀W X1 e size n v xs,Tk w X M (c+(eF.jA M.pins).length) bx (.pointer (some ⟨X.mb,0,none⟩)) e size n v xs W X1 (lM M)->∃wb,W.cell? ⟨X.mb,4,none⟩=some (.pointer (some ⟨wb,0,none⟩))/\Calls Tryz.prog 63 #[.pointer (some ⟨wb,0,none⟩)] W fun e0 W'=>(∃z:Int,e0=.returned (.int .i64 z))/\∃X2,Tk w X M (c+3) bx (.pointer (some ⟨X.mb,0,none⟩)) e size n v xs W' X2 (bD M):=fun W X1 e size n v xs ht=>by
  refine⟨X1.wb,by have:=ht.s.at'.cell (i:=4) (v:=.pointer (some ⟨X1.wb,0,none⟩)) rfl;rw[ht.s.mb]at this;exact this,?_⟩
  refine(Rn (ht.s.at'.c 4) (hm.lM).sF).mono ?_
  rintro e0 W' ⟨rfl,h1,h2⟩
  refine⟨⟨_,rfl⟩,X1,ht.step (dG.J9 ht.s.at' h1 h2) ?_⟩
  exact cZ.mono ht.lb (by omega)
 have hnext:∀W X1 e size n v xs,Tk w X M (c+3) bx (.pointer (some ⟨X.mb,0,none⟩)) e size n v xs W X1 (bD M)->Calls Tryz.prog 64 #[.pointer (some ⟨X.mb,0,none⟩)] W fun e0 W'=>e0=.returned (.tuple #[])/\∃X2,Tk w X M (c+4) bx (.pointer (some ⟨X.mb,0,none⟩)) e size n v xs W' X2 (jv (bD M)):=fun W X1 e size n v xs ht=>by
  have hn:=U2 ht.s.at' ht.lb (by omega) hm.bD hk
  rw[ht.s.mb]at hn
  refine hn.mono ?_
  rintro e0 W' ⟨rfl,X2,h1,h2⟩
  exact⟨rfl,X2,ht.step h1 h2⟩
 have wL:∀W X1 e size n v xs,Tk w X M (c+4) bx (.pointer (some ⟨X.mb,0,none⟩)) e size n v xs W X1 (jv (bD M))->Calls Tryz.prog 65 #[.pointer (some ⟨X.mb,0,none⟩)] W fun e0 W'=>e0=.returned (.tuple #[])/\∃X2,Tk w X M (c+5) bx (.pointer (some ⟨X.mb,0,none⟩)) e size n v xs W' X2 (fD M):=fun W X1 e size n v xs ht=>by
  have hn:=KZ ht.s.at' ht.lb (by omega) (hm.bD).jv
  rw[ht.s.mb]at hn
  refine hn.mono ?_
  rintro e0 W' ⟨rfl,X2,h1,h2⟩
  exact⟨rfl,X2,ht.step h1 h2⟩
 have h3:=hm.fD
 have Qx:(fD M).st.ms.length<=4:=by
  rcases h3.st.inv.conf with q|q
  ·rw[q.2.1];decide
  ·exact(kH q.1).2.2.1
 have l7:∀W X1 e size n v xs,Tk w X M (c+5) bx (.pointer (some ⟨X.mb,0,none⟩)) e size n v xs W X1 (fD M)->∃sb,W.cell? ⟨X.mb,2,none⟩=some (.pointer (some ⟨sb,0,none⟩))/\Calls Tryz.prog 48 #[.pointer (some ⟨sb,0,none⟩)] W fun e0 W'=>∃A c1,e0=.returned (mP (fD M).st.ep A (fD M).st.ms.length c1 (fD M).st.fl)/\Tk w X M (c+5) bx (.pointer (some ⟨X.mb,0,none⟩)) 53 2 (fD M).st.ms.length (.slice A (fD M).st.ms.length c1) (aS (fD M).st.ms) W' X1 (gK (fD M) ((fD M).st.ms.take 0)):=fun W X1 e size n v xs ht=>by
  refine⟨X1.sb,by have:=ht.s.at'.cell (i:=2) (v:=.pointer (some ⟨X1.sb,0,none⟩)) rfl;rw[ht.s.mb]at this;exact this,?_⟩
  refine(pV (ht.s.at'.c 2) h3.st.inv.ok).mono ?_
  rintro e0 W' ⟨A,c1,rfl,h1,h2⟩
  have hq:=ht.quiet h2
  exact⟨A,c1,rfl,hq.s,hq.lb,hq.hb,hq.ob,h1.1,fun q hq2 hf=>by have a1:=h1.2 q hq2;have a2:=ht.s.at'.lt hf;omega⟩
 have Iq:∀W X1 (i:Nat) (m:Mem) e size n v xs,Tk w X M (c+5) bx (.pointer (some ⟨X.mb,0,none⟩)) e size n v xs W X1 (gK (fD M) ((fD M).st.ms.take i))->(fD M).st.ms[i]? =some m->
   Calls Tryz.prog 66 #[iJ m,.pointer (some ⟨bx,0,none⟩)] W fun e0 W'=>e0=.returned (.tuple #[])/\∃X2,Tk w X M (c+5) bx (.pointer (some ⟨X.mb,0,none⟩)) e size n v xs W' X2 (gK (fD M) ((fD M).st.ms.take (i+1))):=fun W X1 i m e size n v xs ht hg=>by
  have e1:(fD M).st.ms.take (i+1)=(fD M).st.ms.take i++[m]:=aP.take_snoc hg
  rw[e1,Qj]
  have hl:=UN (fD M) ((fD M).st.ms.take i)
  rw[UO,List.length_take]at hl
  have h4:=h3.gK ((fD M).st.ms.take i)
  have hbx:=ht.hb
  rw[<-ht.s.mb]at hbx
  refine(XZ ht.s.at' ht.lb (by omega) h4.st.inv.ok h4.st.su bx hbx m).mono ?_
  rintro e0 W' ⟨rfl,X2,h1,h2⟩
  exact⟨rfl,X2,ht.step h1 h2⟩
 have hdone:∀W X1 e size n v xs,Tk w X M (c+5) bx (.pointer (some ⟨X.mb,0,none⟩)) e size n v xs W X1 (qL M)->Calls Tryz.prog 46 #[.pointer (some ⟨X.mb,0,none⟩)] W (lI w X M (c+6) (qL M).out (oV M)):=fun W X1 e size n v xs ht=>
  KQ hm (by omega) ht.s ht.lb (by omega) hm.qL
 obtain⟨G,hG⟩:∃G,eF.jA M.pins=G:=⟨_,rfl⟩
 obtain⟨P,hP⟩:∃P,eF.iE M.pins=P:=⟨_,rfl⟩
 have ht1:mM (oU M) (G.take G.length)=lM M:=by rw[List.take_length,<-hG];rfl
 have E5:gK (fD M) ((fD M).st.ms.take (fD M).st.ms.length)=qL M:=by rw[List.take_length];rfl
 obtain⟨M3,KY⟩:∃M3,fD M=M3:=⟨_,rfl⟩
 obtain⟨M4,Y8⟩:∃M4,qL M=M4:=⟨_,rfl⟩
 obtain⟨o,hO⟩:∃o,M4.out=o:=⟨_,rfl⟩
 obtain⟨M9,E6⟩:∃M9,oV M=M9:=⟨_,rfl⟩
 obtain⟨M2,hM2⟩:∃M2,bD M=M2:=⟨_,rfl⟩
 obtain⟨M1,hM1⟩:∃M1,lM M=M1:=⟨_,rfl⟩
 obtain⟨M0,hM0⟩:∃M0,oU M=M0:=⟨_,rfl⟩
 rw[Y8,hO,E6]
 unfold eF.Jl at htk
 rw[hP,hG]at htk
 rw[hG]at hg3
 rw[hM1,hM0]at ht1
 rw[KY,Y8]at E5
 rw[KY]at Qx
 simp only[hP,hM0]at hset
 simp only[hG,hM0]at hwr
 simp only[hG,hM1,hM2]at X9
 simp only[hM2]at hnext wL
 simp only[KY]at wL l7 Iq
 simp only[Y8,hO,E6]at hdone
 obtain⟨ms,hms⟩:∃ms,M3.st.ms=ms:=⟨_,rfl⟩
 rw[hms]at E5 Qx
 simp only[hms]at l7 Iq
 simp only[jr,nt,aH,List.length_nil,lF]at hwr
 have aci:=ah hnone;have HTK:=ah htk;have HFX:=ah hfx;have ac5:=ah hset;have oM:=ah hwr;have ac6:=ah X9;have acj:=ah hnext;have Qw:=ah wL;have vM:=ah l7;have ack:=ah Iq;have acm:=ah hdone
 have HT1:=ah ht1;have HT4:=ah E5;have YE:=ah hg3;have yB:=ah Qx
 clear hk0 hn0 Dj hb0 hnone htk hfx hset Ce hwr X9 hnext wL h3 l7 Iq hdone hG hP ht1 E5 KY Y8 hO E6 hM2 hM1 hM0 hms Qx hg3 h hb hc hm hk ho
 go_enter Tryz.func21,Tryz.ntmps21
 go_wp2_with fail
 clear hW0 hbx
 refine aci.out.mono ?_
 rintro e w1 ⟨rfl,rfl⟩
 go_wp2_with fail
 refine HTK.out.mono ?_
 rintro e w2 ⟨A,c1,B,d,rfl,hn1,hn2,hk2⟩
 clear q1 q3
 obtain⟨q1,q3,f3⟩:=HFX.out w2 none 0 hk2
 obtain⟨X1,hX1,ht⟩:=ac5.out w2 A c1 hk2 hn1 3 1 G.length (.slice B G.length d) (ints G) (by decide) hn2.1 hn2.2
 obtain⟨W3,hW3⟩:∃W3,w2.setCell ⟨X.mb,3,none⟩ (.slice A P.length c1)=W3:=⟨_,rfl⟩
 rw[hW3]at ht
 have HT:=ah ht;clear ht hn1 hn2 hk2
 go_wp2_with fail
 clear q1 q3 f3 hW3
 go_loopw [6,26] (fun v6 v26 wr=>∃(i:Nat) (X2:MX),i<=G.length/\v26=.int .i64 i/\Tk w X M (c+i) bx (.pointer (some ⟨X.mb,0,none⟩)) 3 1 G.length (.slice B G.length d) (ints G) wr X2 (mM M0 (G.take i))) (fun _ v26 _=>G.length-(intOf v26).toNat)
 case atStart=>exact⟨0,X1,Nat.zero_le _,rfl,HT.out⟩
 case round=>
  obtain⟨i,X2,hi,rfl,ht⟩:=hrel
  have hg3:G.length<=3:=YE.out
  by_cases hil:i<G.length
  ·obtain⟨g,hg⟩:∃g,G[i]? =some g:=⟨_,List.getElem?_eq_getElem hil⟩
   obtain⟨ad,rfl,had,d0⟩:=o7 (Src.bC ht.hr) (by omega) i g hg
   have hw:=oM.out wr X2 i g _ _ _ _ _ (by have:=YE.out;omega) ht hg
   have q1:wr.cell? ⟨bx,0,none⟩=some (.pointer (some ⟨X.mb,0,none⟩)):=ht.hb.cell 0
   have HW:=ah hw;clear hw ht hg
   go_wp2_with fail
   clear d0 q1
   refine HW.out.mono ?_
   rintro e w4 ⟨⟨z,rfl⟩,X3,ht3⟩
   have HT3:=ah ht3;clear ht3
   go_wp2_with fail
   go_roundw
   case rel=>exact⟨i+1,X3,by omega,by go_num,HT3.out⟩
   case measure=>simp[intOf];omega
  ·obtain rfl:i=G.length:=by omega
   rw[HT1.out]at ht
   obtain⟨wb,q4,hwt⟩:=ac6.out wr X2 _ _ _ _ _ ht
   have q1:wr.cell? ⟨bx,0,none⟩=some (.pointer (some ⟨X.mb,0,none⟩)):=ht.hb.cell 0
   have YN:=ah hwt;clear hwt ht
   go_wp2_with fail
   clear q1 q4
   refine YN.out.mono ?_
   rintro e w4 ⟨⟨z,rfl⟩,X3,ht3⟩
   have q1:w4.cell? ⟨bx,0,none⟩=some (.pointer (some ⟨X.mb,0,none⟩)):=ht3.hb.cell 0
   have HN:=ah (acj.out _ _ _ _ _ _ _ ht3);clear ht3
   go_wp2_with fail
   clear q1
   refine HN.out.mono ?_
   rintro e w5 ⟨rfl,X4,E5⟩
   have q1:w5.cell? ⟨bx,0,none⟩=some (.pointer (some ⟨X.mb,0,none⟩)):=E5.hb.cell 0
   have HH:=ah (Qw.out _ _ _ _ _ _ _ E5);clear E5
   go_wp2_with fail
   clear q1
   refine HH.out.mono ?_
   rintro e w6 ⟨rfl,X5,Ht⟩
   have q1:w6.cell? ⟨bx,0,none⟩=some (.pointer (some ⟨X.mb,0,none⟩)):=Ht.hb.cell 0
   obtain⟨sb,q2,hcf⟩:=vM.out _ _ _ _ _ _ _ Ht
   have ER:=ah hcf;clear hcf Ht
   go_wp2_with fail
   clear q1 q2
   refine ER.out.mono ?_
   rintro e w7 ⟨A7,c7,rfl,ht7⟩
   have HT7:=ah ht7;clear ht7
   go_wp2_with fail
   go_loopw [9,52] (fun v9 v52 wr=>∃(i:Nat) (X2:MX),i<=ms.length/\v52=.int .i64 i/\Tk w X M (c+5) bx (.pointer (some ⟨X.mb,0,none⟩)) 53 2 ms.length (.slice A7 ms.length c7) (aS ms) wr X2 (gK M3 (ms.take i))) (fun _ v52 _=>ms.length-(intOf v52).toNat)
   case atStart=>exact⟨0,X5,Nat.zero_le _,rfl,HT7.out⟩
   case round=>
    obtain⟨i,X6,hi,rfl,ht⟩:=hrel
    have hm4:ms.length<=4:=yB.out
    by_cases hil:i<ms.length
    ·obtain⟨m,hm⟩:∃m,ms[i]? =some m:=⟨_,List.getElem?_eq_getElem hil⟩
     obtain⟨ad,rfl,had,d0,d1⟩:=ig (Src.bC ht.hr) (by omega) i m hm
     obtain⟨W8,xI⟩:∃W8,wr.alloc (.cells #[.int .i64 m.1,.int .i64 m.2] 53)=W8:=⟨_,rfl⟩
     have hk8:Kept aj wr W8:=by rw[<-xI];(repeat'(first|(with_reducible first|exact ak|apply au|apply ay|apply aA|apply aB)|(right;simp;done)))
     have FQ:Has W8 wr.heap.size 53 #[.int .i64 m.1,.int .i64 m.2]:=by rw[<-xI];exact Has.new _ _ _
     have p0:W8.cell? ⟨wr.heap.size,0,none⟩=some (.int .i64 m.1):=FQ.cell 0
     have p1:W8.cell? ⟨wr.heap.size,1,none⟩=some (.int .i64 m.2):=FQ.cell 1
     have ht8:=ht.quiet hk8
     have htl:=ack.out W8 X6 i m _ _ _ _ _ ht8 hm
     obtain⟨m1,m2⟩:=m
     dsimp only at xI p0 p1 d0 d1
     have JX:=ah htl;clear htl ht8 ht hk8 FQ hm
     go_wp2_with fail
     clear d0 d1 p0 p1 xI
     refine JX.out.mono ?_
     rintro e w9 ⟨rfl,X7,ht9⟩
     have HT9:=ah ht9;clear ht9
     go_wp2_with fail
     go_roundw
     case rel=>exact⟨i+1,X7,by omega,by go_num,HT9.out⟩
     case measure=>simp[intOf];omega
    ·obtain rfl:i=ms.length:=by omega
     rw[HT4.out]at ht
     have q1:wr.cell? ⟨bx,0,none⟩=some (.pointer (some ⟨X.mb,0,none⟩)):=ht.hb.cell 0
     have HD:=ah (acm.out _ _ _ _ _ _ _ ht);clear ht
     go_wp2_with fail
     clear q1
     refine HD.out.mono ?_
     rintro e w9 ⟨A9,d9,rfl,hp⟩
     have HP:=ah hp;clear hp
     go_wp2
     go_ret
     exact⟨A9,d9,rfl,HP.out⟩
end
end dM
namespace dM
open aP Vn Mst lJ IM nG gX MO
def wS(a:pO):Bool:=decide (a.x.ms.length<=20)&&decide (a.x.ops.length<=20)&&decide (a.x.es.length<=20)&&decide (a.x.ss.length<=20)&&decide (a.x.ps.length<=40)
def BK(l:List pO):Bool:=(l.take 60).all wS
theorem Ya{a:pO}(h:wS a=true):a.x.ms.length<=20/\a.x.ops.length<=20/\a.x.es.length<=20/\a.x.ss.length<=20/\a.x.ps.length<=40:=by
 unfold wS at h
 simp only[Bool.and_eq_true,decide_eq_true_eq]at h
 exact⟨h.1.1.1.1,h.1.1.1.2,h.1.1.2,h.1.2,h.2⟩
theorem Yb{a:pO}(h:20<a.x.ms.length\/20<a.x.ops.length\/20<a.x.es.length\/20<a.x.ss.length\/40<a.x.ps.length):wS a=false:=by
 cases hf:wS a with
 |false=>rfl
 |true=>have:=Ya hf;omega
theorem Z7{a:pO}(h1:¬20<a.x.ms.length)(h2:¬20<a.x.ops.length)(h3:¬20<a.x.es.length)(h4:¬20<a.x.ss.length)(h5:¬40<a.x.ps.length):wS a=true:=by
 unfold wS
 simp only[Bool.and_eq_true,decide_eq_true_eq]
 omega
theorem acn(x:bH):(aG x).toArray.all (·.oneCell')=true:=by simp[aG,Value.oneCell']
abbrev Qy:Array Value:=#[.int .i64 0,.int .i64 0,.int .i64 0,.int .i64 0,.bool false,.int .u64 0,.int .u64 0,.int .i64 0,.int .i64 0,.int .i64 0,.int .i64 0,.string ⟨#[]⟩,.string ⟨#[]⟩,.int .i64 0,.slice none 0 0,.int .u64 0,.int .i64 0,.int .i64 0,.slice none 0 0,.slice none 0 0,.slice none 0 0,.slice none 0 0]
theorem Z8(w:World)(x:bH):∃Wz W8,w.alloc (.cells Qy 46)=Wz/\(sZ ⟨w.heap.size,0,none⟩ (.agg (aG x).toArray)).run Tryz.prog Wz=.ok () W8/\Has W8 w.heap.size 46 (aG x).toArray/\Kept aj w W8:=by
 have hz:Has (w.alloc (.cells Qy 46)) w.heap.size 46 Qy:=Has.new _ _ _
 have e1:(w.alloc (.cells Qy 46)).setRow w.heap.size (aG x).toArray=w.alloc (.cells (aG x).toArray 46):=World.setRow_alloc_new ..
 refine⟨_,w.alloc (.cells (aG x).toArray 46),rfl,?_,Has.new _ _ _,by(repeat'(first|(with_reducible first|exact ak|apply au|apply ay|apply aA|apply aB)|(right;simp;done)))⟩
 rw[<-e1]
 exact run_storeVar_row _ w.heap.size _ _ _ _ hz (show(Tryz.prog.info? 46).map (·.size)=some 22 by kernel_rfl) rfl (acn x)
attribute [local go_sem↓] BG tX
theorem Z9(w:World)(A:Option Addr)(c:Nat)(l:List pO)(hl:Src w 24 A l.length (wQ l))(hls:∀a∈l,a.x.ms.length<=maxLen/\a.x.ops.length<=maxLen/\a.x.es.length<=maxLen/\a.x.ss.length<=maxLen/\a.x.ps.length<=maxLen):
  Calls Tryz.prog 8 #[.slice A l.length c] w fun e w'=>e=.returned (.bool (BK l))/\Kept aj w w':=by
 have hsh:BK l=((l.take 60).drop 0).all wS:=by rw[List.drop_zero];rfl
 have HL:=ah hl;have HLS:=ah hls;have HSH:=ah hsh
 clear hl hls hsh
 go_enter Tryz.func8,Tryz.ntmps8
 go_wp2_with fail
 go_loopw [3,4] (fun v3 v4 wr=>∃i:Nat,i<=60/\i<=l.length/\v3=.int .i64 i/\BK l=((l.take 60).drop i).all wS/\Kept aj w wr) (fun v3 _ _=>l.length-(intOf v3).toNat)
 case atStart=>exact⟨0,by omega,Nat.zero_le _,rfl,HSH.out,Kept.refl _ _⟩
 case round=>
  obtain⟨i,hi,hi2,rfl,he,hk⟩:=hrel
  have HE:=ah he;have HK:=ah hk;clear he hk
  by_cases hil:i<l.length
  ·by_cases hi6:i<60
   ·obtain⟨a,ha⟩:∃a,l[i]? =some a:=⟨_,List.getElem?_eq_getElem hil⟩
    obtain⟨ad,rfl,had,hld,-,-⟩:=EU wr A l (HL.out.kept HK.out (fun _ _ z=>z)) i a ha
    have hd:(l.take 60).drop i=a::(l.take 60).drop (i+1):=aP.drop_cons (by rw[List.getElem?_take,if_pos hi6];exact ha)
    rw[hd,List.all_cons]at HE
    obtain⟨k1,k2,k3,k4,k5⟩:=HLS.out a (List.mem_of_getElem? ha)
    unfold maxLen at k1 k2 k3 k4 k5
    obtain⟨Wz,W8,Df,hst,Og,hk8⟩:=Z8 wr a.x
    have p1:W8.cell? ⟨wr.heap.size,14,none⟩=some (.slice a.x.mA a.x.ms.length a.x.mc):=Og.cell 14
    have p2:W8.cell? ⟨wr.heap.size,18,none⟩=some (.slice a.x.oA a.x.ops.length a.x.oc):=Og.cell 18
    have p3:W8.cell? ⟨wr.heap.size,19,none⟩=some (.slice a.x.eA a.x.es.length a.x.ec):=Og.cell 19
    have p4:W8.cell? ⟨wr.heap.size,20,none⟩=some (.slice a.x.sA a.x.ss.length a.x.sc):=Og.cell 20
    have p5:W8.cell? ⟨wr.heap.size,21,none⟩=some (.slice a.x.pA a.x.ps.length a.x.pc):=Og.cell 21
    have wz:=ah (HK.out.then hk8)
    have FP:=ah (Yb (a:=a));have abK:=ah (Z7 (a:=a))
    obtain⟨cs,hcs⟩:∃cs,(aG a.x).toArray=cs:=⟨_,rfl⟩
    rw[hcs]at hld hst
    obtain⟨n1,e1⟩:∃n,a.x.ms.length=n:=⟨_,rfl⟩
    obtain⟨n2,e2⟩:∃n,a.x.ops.length=n:=⟨_,rfl⟩
    obtain⟨n3,e3⟩:∃n,a.x.es.length=n:=⟨_,rfl⟩
    obtain⟨n4,e4⟩:∃n,a.x.ss.length=n:=⟨_,rfl⟩
    obtain⟨n5,e5⟩:∃n,a.x.ps.length=n:=⟨_,rfl⟩
    rw[e1]at k1 p1
    rw[e2]at k2 p2
    rw[e3]at k3 p3
    rw[e4]at k4 p4
    rw[e5]at k5 p5
    rw[e1,e2,e3,e4,e5]at FP abK
    clear hd ha Og hk8 hcs e1 e2 e3 e4 e5
    have hbad:wS a=false->BK l=false:=fun h=>by rw[HE.out,h,Bool.false_and]
    have HBAD:=ah hbad;clear hbad
    by_cases g1:20<n1
    ·have g1':(20:Int)<(n1:Int):=by omega
     have HF:=ah (HBAD.out (FP.out (by omega)))
     clear g1 k2 k3 k4 k5 p2 p3 p4 p5
     go_wp2
     go_ret
     exact⟨by rw[HF.out];rfl,wz.out⟩
    have g1':¬(20:Int)<(n1:Int):=by omega
    by_cases g2:20<n2
    ·have g2':(20:Int)<(n2:Int):=by omega
     have HF:=ah (HBAD.out (FP.out (by omega)))
     clear g1 g2 k3 k4 k5 p3 p4 p5
     go_wp2
     go_ret
     exact⟨by rw[HF.out];rfl,wz.out⟩
    have g2':¬(20:Int)<(n2:Int):=by omega
    by_cases g3:20<n3
    ·have g3':(20:Int)<(n3:Int):=by omega
     have HF:=ah (HBAD.out (FP.out (by omega)))
     clear g1 g2 g3 k4 k5 p4 p5
     go_wp2
     go_ret
     exact⟨by rw[HF.out];rfl,wz.out⟩
    have g3':¬(20:Int)<(n3:Int):=by omega
    by_cases g4:20<n4
    ·have g4':(20:Int)<(n4:Int):=by omega
     have HF:=ah (HBAD.out (FP.out (by omega)))
     clear g1 g2 g3 g4 k5 p5
     go_wp2
     go_ret
     exact⟨by rw[HF.out];rfl,wz.out⟩
    have g4':¬(20:Int)<(n4:Int):=by omega
    by_cases g5:40<n5
    ·have g5':(40:Int)<(n5:Int):=by omega
     have HF:=ah (HBAD.out (FP.out (by omega)))
     clear g1 g2 g3 g4 g5
     go_wp2
     go_ret
     exact⟨by rw[HF.out];rfl,wz.out⟩
    have g5':¬(40:Int)<(n5:Int):=by omega
    have HGO:=ah (show BK l=((l.take 60).drop (i+1)).all wS by rw[HE.out,abK.out g1 g2 g3 g4 g5,Bool.true_and])
    clear g1 g2 g3 g4 g5
    go_wp2
    go_roundw
    case rel=>exact⟨i+1,by omega,by omega,by go_num,HGO.out,wz.out⟩
    case measure=>simp[intOf];omega
   ·obtain rfl:i=60:=by omega
    have HF:=ah (show BK l=true by rw[HE.out,List.drop_eq_nil_of_le (by rw[List.length_take];omega)];rfl)
    go_wp2
    go_ret
    exact⟨by rw[HF.out];rfl,HK.out⟩
  ·obtain rfl:i=l.length:=by omega
   have HF:=ah (show BK l=true by rw[HE.out,List.drop_eq_nil_of_le (by rw[List.length_take];omega)];rfl)
   go_wp2
   go_ret
   exact⟨by rw[HF.out];rfl,HK.out⟩
section
variable{w w':World}{X X0:MX}{M M0:MR}{c k:Nat}
theorem Step.U6{o:List xY}{e:Ending}(h:lI w X M c o M0 e w'):(∃v:Value,e=.returned v)/\∃X',Step w X M w' X' M0/\cZ X' M0.lg c:=by
 obtain⟨A,d,rfl,_,_,X',h4,h5,_⟩:=h
 exact⟨⟨_,rfl⟩,X',h4,h5⟩
attribute [local go_sem↓] tX
end
end dM
end Go.Proofs.YtolkgbafebehfaaGreat
