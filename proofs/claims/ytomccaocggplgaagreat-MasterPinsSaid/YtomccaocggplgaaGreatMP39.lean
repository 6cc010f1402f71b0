/- Part 40. -/
import Derived.Test.YtomccaocggplgaaGreatMP38
set_option linter.unusedSimpArgs false
set_option linter.unusedVariables false
set_option maxHeartbeats 32000000
set_option maxRecDepth 100000
namespace Go.Proofs.YtomccaocggplgaaGreat
open Go.RowKit
namespace bW
open aJ Vn Mst jQ IM kK gu MO
attribute [local go_sem↓] GZ
theorem Uu{W0:World}{A:Option Addr}{m:Nat}{l:List aO}(h:Src W0 3 A m (aS l))(hm:0<m){i:Nat}{p:aO}(hp:l[i]? =some p):
  ∃ad,A=some ad/\∀W,Kept aj W0 W->W.cell? (ad.add (i*3))=some (.int .i64 p.id)/\W.cell? ⟨(ad.add (i*3)).block,(ad.add (i*3)).off+1,none⟩=some (.int .u64 p.at'):=by
 obtain⟨ad,rfl,-⟩:=iL h hm i p hp;refine⟨ad,rfl,fun W hW=> ?_⟩;obtain⟨DV,e2,-,h1,h2,-⟩:=iL (h.kept hW (fun _ _ z=>z)) hm i p hp;injection e2 with e2;subst e2;exact⟨h1,h2⟩
def WX(p q:aO):Bool:=(q.id==p.id)&&(q.at'==p.at')
def zJ(P:List aO)(k:Nat)(p:aO):Bool:=(P.take k).any (WX p)
theorem WY{P:List aO}{k:Nat}{p q:aO}(h:P[k]? =some q):zJ P (k+1) p=(zJ P k p||WX p q):=by obtain⟨hk,he⟩:=lD0.1 h;unfold zJ;rw[List.take_succ_eq_append_getElem hk,he,List.any_append];simp
theorem aaG{P:List aO}{p:aO}(h:∃q∈P,q.id=p.id/\q.at'=p.at'):zJ P P.length p=true:=by obtain⟨q,hq,e1,e2⟩:=h;unfold zJ;rw[List.take_length,List.any_eq_true];exact⟨q,hq,by unfold WX;rw[e1,e2];simp⟩
theorem aaH(w:World)(ep fl:Int)(A:Option Addr)(c:Nat)(l:List Mem)(B:Option Addr)(d:Nat)(acts:List fE)(hl:Src w 2 A l.length (aU l))(hlc:l.length<=c)(hcm:c<=maxLen)(hfl:0<=fl/\fl<=aW)
  (ha:Src w 24 B acts.length (xO acts)) (hg:∀a∈acts,Am w a) (had:acts.length<=d) (hdm:d<=maxLen):
  Calls Tryz.prog 3 #[nC ep A l.length c fl,.slice B acts.length d] w fun e w'=>e=.returned (.bool true)/\Below w.heap.size w w':=by
 have hend:∀w',Kept aj w w'->Below w.heap.size w w':=fun w' hk=>hk.below (Nat.le_refl _) (fun _ z=>z.elim);have hfew:=fun W (hW:Kept aj w W)=>aeN W B d acts (ha.kept hW (fun _ _ z=>z)) (fun a h=>(hg a h).1.lens);have haw:=fun W=>aeX W;have hll:l.length<=9223372036854775807:=by unfold maxLen at hcm;omega
 obtain⟨W0,hW0⟩:∃W0,w.alloc (.cells #[.int .i64 ep,.slice A l.length c,.int .u64 fl] 25)=W0:=⟨_,rfl⟩;have hk0:Kept aj w W0:=by rw[<-hW0];(repeat'(first|(with_reducible first|exact ak|apply au|apply ay|apply aA|apply aB)|(right;simp;done)))
 have hn0:Has W0 w.heap.size 25 #[.int .i64 ep,.slice A l.length c,.int .u64 fl]:=by rw[<-hW0];exact Has.new _ _ _
 obtain⟨cb,hcb⟩:∃cb,w.heap.size=cb:=⟨_,rfl⟩;rw[hcb]at hn0;have hcc:∀W,Kept aj W0 W->W.cell? ⟨cb,0,none⟩=some (.int .i64 ep)/\W.cell? ⟨cb,1,none⟩=some (.slice A l.length c)/\W.cell? ⟨cb,2,none⟩=some (.int .u64 fl):=fun W hW=>⟨(hn0.kept hW (fun z=>z)).cell 0,(hn0.kept hW (fun z=>z)).cell 1,(hn0.kept hW (fun z=>z)).cell 2⟩;obtain⟨fw,hfw⟩:∃fw,Bv acts=fw:=⟨_,rfl⟩;simp only[hfw]at hfew;have jI:=ah hend;have aie:=ah hfew;have HAW:=ah haw;have DR:=ah hcc;have bf:=ah hk0;have HL:=ah hl;have HLC:=ah hlc;have o7:=ah hfl;have HA:=ah ha;have HG:=ah hg;have aiI:=ah (show∀W,Kept aj W0 W->(∀k,k=cb->w.heap.size<=k)from fun W hW k e=>by omega);have HAD:=ah had;have Nr:=ah hdm;have HFW:=ah hfw;obtain⟨b0,b1,b2⟩:=hcc W0 (Kept.refl _ _);clear hend hfew haw hcc hk0 hn0 hl hlc hcm hfl ha hg had hdm hfw;go_enter Tryz.func3,Tryz.ntmps3;go_wp2_with fail;clear hW0 b0 b1 b2 hcb;refine(aie.out W0 bf.out).mono ?_;rintro e w1 ⟨rfl,hk1⟩;obtain⟨b0,b1,b2⟩:=DR.out w1 hk1;have gB:=ah hk1;clear hk1;cases fw
 ·go_wp2_with fail;clear b0 b1 b2;refine(HAW.out _).mono ?_;rintro e w3 ⟨rfl,hk3⟩;have HE:=ah (jI.out _ (bf.out.then (gB.out.then hk3)));clear hk3;go_wp2;go_ret;exact⟨rfl,HE.out⟩
 by_cases h20:20<l.length
 ·have agU:(20:Int)<(l.length:Int):=by omega
  go_wp2_with fail;clear b0 b1 b2 h20 agU;refine(HAW.out _).mono ?_;rintro e w3 ⟨rfl,hk3⟩;have HE:=ah (jI.out _ (bf.out.then (gB.out.then hk3)));clear hk3;go_wp2;go_ret;exact⟨rfl,HE.out⟩
 have agU:¬(20:Int)<(l.length:Int):=by omega
 have hls:=h20;have TI:=ah hls;clear hls h20 hll;by_cases h0:aJ.chk ep l=0;rotate_left
 ·have hbad:=fun W v (hW:Kept aj w W)=>acs W v ep fl A c l (HL.out.kept hW (fun _ _ z=>z)) HLC.out (by have:=TI.out;omega) h0;obtain⟨z,hz⟩:∃z,aJ.chk ep l=z:=⟨_,rfl⟩;simp only[hz]at h0 hbad;have hz2:(z !=0)=true:=by simpa using h0
  have HB:=ah hbad;clear hbad h0 hz;go_wp2_with fail;refine(aH.new_any _).mono ?_;rintro e w3 ⟨g,F,rfl,hd,hk3,hF⟩;have bu:=ah (gB.out.then hk3);clear hd hk3 hF b0 b1 b2;obtain⟨b0,b1,b2⟩:=DR.out w3 bu.out;go_wp2_with fail;clear b0 b1 b2;refine(HB.out w3 _ (bf.out.then bu.out)).mono ?_;rintro e w4 ⟨rfl,hk4⟩;have eY:=ah (bu.out.then hk4);clear hk4;go_wp2_with fail;refine(HAW.out _).mono ?_;rintro e w5 ⟨rfl,hk5⟩;have HE:=ah (jI.out _ (bf.out.then (eY.out.then hk5)));clear hk5;go_wp2;go_ret;exact⟨rfl,HE.out⟩
 have hnew:∀W g F aX aQ,Kept aj W0 W->aH.aZ W g F 0 (fun _=>none) [] aX aQ->(∀k,F k->W0.heap.size<=k)->Calls Tryz.prog 7 #[.pointer (some ⟨g,0,none⟩),nC ep A l.length c fl] W fun e w'=>∃X,e=.returned (.tuple #[.pointer (some ⟨X.mb,0,none⟩),.int .i64 0])/\Own w X.mb 2 0 w' X (sQ ep l fl)/\X.g=g:=fun W g F aX aQ hW hd hF=>by
  have hs0:=bf.out.size;refine(Qe W g F aX aQ ep fl A c l hd (HL.out.kept (bf.out.then hW) (fun _ _ z=>z)) (fun h1 ad e hf=> ?_) HLC.out (by have:=TI.out;omega) o7.out h0).mono ?_
  ·obtain⟨DV,e2,hlt,_⟩:=HL.out.2 h1;have e3:ad=DV:=by have e4:some ad=some DV:=e.symm.trans e2;injection e4
   rw[e3]at hf;have:=hF _ hf;omega
  ·rintro e w' ⟨X,rfl,hm,hlb,D6,hft,hk⟩;exact⟨X,rfl,Own.new (bf.out.then hW) (fun k hf=>by have:=hF k hf;omega) o7.out hm hlb hft hk,D6⟩
 have gI:=ah hnew;have H0:=ah h0;clear hnew h0;go_wp2_with fail;refine(aH.new_any _).mono ?_;rintro e w3 ⟨g,F,rfl,hd,hk3,hF⟩;have bu:=ah (gB.out.then hk3);have hF':∀k,F k->W0.heap.size<=k:=fun k hk=>by have:=hF k hk;have:=gB.out.size;omega
 have hnw:=gI.out w3 g F 1 1 bu.out hd hF';have HNW:=ah hnw;clear hd hk3 hF hF' hnw gI b0 b1 b2;obtain⟨b0,b1,b2⟩:=DR.out w3 bu.out;go_wp2_with fail;clear b0 b1 b2;refine HNW.out.mono ?_;rintro e w4 ⟨X,rfl,ho,D6⟩;obtain⟨mb,hmb⟩:∃mb,X.mb=mb:=⟨_,rfl⟩;rw[hmb]at ho⊢;have acS:=(jf H0.out).1;have WZ:=KY (fl:=fl) H0.out;have hkr:BA w g mb 0 w4 X (sQ ep l fl):=⟨ho,D6,rfl,by rw[WZ];exact acS.1,fO.new o7.out,dS.new H0.out,QU _⟩;have agV:vP w g mb 0 w4 X (sQ ep l fl) none 0 []:=⟨hkr,⟨by rw[WZ];exact Int.le_refl 0,by rw[WZ];intro q hq;cases hq⟩,mV.nil,(fun p hp=>by cases hp),List.Pairwise.nil,Nat.zero_le _⟩;have Af:=ah agV;clear ho D6 hmb acS WZ hkr HNW H0 DR agV;go_wp2_with fail;go_loopw [6,8,9] (fun v6 v8 v9 wr=>∃(i:Nat) (M:MR) (X1:MX) (mb:Nat) (A:Option Addr) (c:Nat) (T:List aO),i<=acts.length/\i<=60/\v6=.pointer (some ⟨mb,0,none⟩)/\v8=.slice A T.length c/\v9=.int .i64 i/\vP w g mb i wr X1 M A c T) (fun _ _ v9 _=>acts.length-(intOf v9).toNat)
 case atStart=>exact⟨0,_,X,mb,none,0,[],Nat.zero_le _,Nat.zero_le _,rfl,rfl,rfl,Af.out⟩
 case round=>
  obtain⟨i,M,X1,mb,A,c,T,hi,hi6,rfl,rfl,rfl,hpr⟩:=hrel;clear Af;have Af:=ah hpr;clear hpr;by_cases hil:i<acts.length
  ·by_cases agW:i<60
   ·obtain⟨a,ha⟩:∃a,acts[i]? =some a:=⟨_,lB0 hil⟩;have hga:=HG.out a (lC0 ha);have hfa:=acY HFW.out agW ha;have NI:=Ir Af.out.k.own.at';rw[Af.out.k.own.mb]at NI;have hdo:=fun W (hW:Kept aj wr W)=>aid Af.out hW agW a hga hfa;have hcr:=fun W X2 (h:vP w g mb (i+1) W X2 M A c T) (hk:¬(0<=a.k/\a.k<=7))=>aeZ h (by omega) a hk hga.2;have hkw:=Af.out.k.own.kp;obtain⟨ad,rfl,hla⟩:=ae0 HA.out ha;obtain⟨nT,hnT⟩:∃n,T.length=n:=⟨_,rfl⟩;rw[hnT];have HNT:=ah hnT;clear hnT;obtain⟨hz,hhz⟩:∃hz,M.st.hz=hz:=⟨_,rfl⟩;simp only[hhz]at NI hdo hcr;have HMH:=ah NI;have GR:=ah hdo;have Yn:=ah hcr;have Ul:=ah hla;have oq:=ah hkw;clear hga hfa NI hdo hcr hla ha hhz Af hkw;go_wp2_with fail;refine HMH.out.mono ?_;rintro e w5 ⟨rfl,hk5⟩;obtain⟨l5,-⟩:=Ul.out w5 (oq.out.then hk5);have hdo:=GR.out w5 hk5;have dB:=ah hk5;clear hk5 HMH GR;by_cases hk:0<=a.k/\a.k<=7
    case' pos=>
     rw[decide_eq_true hk]at hdo;have GR:=ah hdo;clear hdo;go_wp2_with fail;clear l5;refine GR.out.mono ?_;rintro e w6 ⟨rfl,X2,hy,-⟩;have hmid:=hy hk;obtain⟨M3,G6⟩:∃M3,jJ M a=M3:=⟨_,rfl⟩;rw[G6]at hmid;have Q9:=ah hmid;clear hy hk GR Yn G6 hmid
    case' neg=>
     rw[decide_eq_false hk]at hdo;have GR:=ah hdo;clear hdo;go_wp2_with fail;clear l5;refine GR.out.mono ?_;rintro e w6 ⟨rfl,X2,-,hn⟩;have hcr:=Yn.out w6 X2 (hn hk) hk;obtain⟨-,n6⟩:=Ul.out w6 (hn hk).k.own.kp;have agX:=ah hcr;clear hcr hn hk Yn GR;go_wp2_with fail;clear n6;refine agX.out.mono ?_;rintro e w7 ⟨rfl,hop⟩;have LK:=ah hop;clear hop agX;go_wp2_with fail;refine(LK.out _ (Kept.refl _ _)).mono ?_;rintro e w8 ⟨kb,X3,M3,rfl,hmid⟩;have Q9:=ah hmid;clear hmid LK
    all_goals
     obtain⟨l9,-⟩:=Ul.out _ Q9.out.k.own.kp
     have htd:=agT Q9.out (Kept.refl _ _)
     rw[HNT.out]at htd
     have hle:=Q9.out.h0
     obtain⟨T2,hT2⟩:∃T2,iQ T M3 a=T2:=⟨_,rfl⟩
     rw[hT2]at htd
     have HTD:=ah htd;have jw:=ah hle
     clear htd hle hT2 Q9 HNT
     go_wp2_with fail
     clear l9
     refine HTD.out.mono ?_
     rintro e w9 ⟨A9,c9,rfl,FM⟩
     clear HTD
     have NI:=Ir FM.k.own.at'
     have hmp:=fun W (hW:Kept aj w9 W)=>Ns (FM.quiet hW).k.own.at' (by have:=FM.k.own.ok.p3;omega)
     have ads:=fun W (hW:Kept aj w9 W)=>Ir (FM.quiet hW).k.own.at'
     rw[FM.k.own.mb]at NI
     simp only[FM.k.own.mb]at hmp ads
     have Rf:=ah FM
     have HMH:=ah NI;have xM:=ah hmp;have aif:=ah ads
     clear FM NI hmp ads
     go_wp2_with fail
     refine HMH.out.mono ?_
     rintro e w10 ⟨rfl,hk10⟩
     have hnl:¬M3.st.hz<hz:=by have:=jw.out;omega
     have Bl:=ah hk10
     clear hk10
     go_wp2_with fail
     clear hnl
     refine(xM.out _ Bl.out).mono ?_
     rintro e Uj ⟨A11,c11,rfl,agY,Qm⟩
     have adt:=ah (Src.bF agY.1);have adu:=ah (Bl.out.then Qm)
     clear agY Qm HMH xM Bl
     have hpl:=Rf.out.k.own.ok.p3
     have htl:=Rf.out.len
     have hst:=Rf.out.row.s.kept adu.out (fun _ _ z=>z)
     have hhas:=Rf.out.has
     obtain⟨P,hP⟩:∃P,M3.pins=P:=⟨_,rfl⟩
     simp only[hP]at hpl hhas adt⊢
     obtain⟨np,hnp⟩:∃np,P.length=np:=⟨_,rfl⟩
     obtain⟨nt,hnt⟩:∃nt,T2.length=nt:=⟨_,rfl⟩
     rw[hnp]at hpl adt⊢
     rw[hnt]at htl hst⊢
     have Jt:=ah htl;have HST:=ah hst;have acm:=ah hhas;have GN:=ah hpl;have Jg:=ah (And.intro hnp hnt)
     clear htl hst hhas hpl hP hnp hnt
     go_wp2_with fail
     go_loopw [14] (fun v14 wx=>∃j:Nat,j<=nt/\v14=.int .i64 j/\Kept aj Uj wx) (fun v14 _=>nt-(intOf v14).toNat)
     case atStart=>exact⟨0,Nat.zero_le _,rfl,Kept.refl _ _⟩
     case round=>
      obtain⟨j,hj,rfl,hk⟩:=hrel;have aiW:=Jt.out;by_cases hjl:j<nt
      ·obtain⟨p,hp⟩:∃p,T2[j]? =some p:=⟨_,lB0 (by rw[Jg.out.2];exact hjl)⟩;obtain⟨hq,hz3⟩:=acm.out p (lC0 hp);obtain⟨bd,rfl,hpc⟩:=Uu (HST.out.kept hk (fun _ _ z=>z)) (by omega) hp;have hta:=aaG hq;rw[Jg.out.1]at hta;have HK:=ah hk;have HPC:=ah hpc;have HTA:=ah hta;have HZ3:=ah hz3;clear hk hpc hta hz3 hq hp;go_wp2_with fail;go_loopw [15,16] (fun v15 v16 wy=>∃k:Nat,k<=np/\v16=.int .i64 k/\v15=.bool (zJ P k p)/\Kept aj Uj wy/\Kept aj wr wy) (fun _ v16 _=>np-(intOf v16).toNat)
       case atStart=>exact⟨0,Nat.zero_le _,rfl,rfl,HK.out,Kept.refl _ _⟩
       case round=>
        obtain⟨k,hkn,rfl,rfl,hk,hk2⟩:=hrel;have aiX:=GN.out;by_cases hkl:k<np
        ·obtain⟨q,hq⟩:∃q,P[k]? =some q:=⟨_,lB0 (by rw[Jg.out.1];exact hkl)⟩;obtain⟨qd,rfl,hqc⟩:=Uu (adt.out.kept hk (fun _ _ z=>z)) (by omega) hq;have hts:=WY (p:=p) hq;obtain⟨g0,g1⟩:=hqc _ (Kept.refl _ _);obtain⟨f0,f1⟩:=HPC.out _ hk2;unfold WX at hts;obtain⟨b0,hb0⟩:∃b,zJ P k p=b:=⟨_,rfl⟩;obtain⟨b1,hb1⟩:∃b,(q.id==p.id)=b:=⟨_,rfl⟩;obtain⟨b2,hb2⟩:∃b,(q.at'==p.at')=b:=⟨_,rfl⟩;rw[hb0,hb1,hb2]at hts;rw[hb0];have aV:=ah hk;have uk:=ah hk2;have OU:=ah hts;clear hk hk2 hts hqc hq hb0;cases b0<;>cases b1<;>cases b2
         all_goals
          go_wp2_with fail
          go_quiet (fail)
          go_wp2
          go_roundw
          case rel=>exact⟨k+1,by omega,by go_num,by rw[OU.out];rfl,aV.out.drewN _,uk.out.drewN _⟩
          case measure=>simp[intOf];omega
        ·obtain rfl:k=np:=by omega
         have hHT:=HTA.out;rw[hHT];obtain⟨f0,f1⟩:=HPC.out _ hk2;have hhz:=fun W (hW:Kept aj wr W)=>aif.out W (adu.out.then (hk.then hW));have hlz:¬p.at'<M3.st.hz:=by have:=HZ3.out;omega
         have aV:=ah hk;have uk:=ah hk2;have HHZ:=ah hhz;have aii:=ah (fun W hW=>(HPC.out W (hk2.then hW)).2);clear hk hk2 hhz hHT;go_wp2_with fail
         go_region_held3 (fun W=>W.cell? ⟨(bd.add (j*3)).block,(bd.add (j*3)).off+1,none⟩=some (.int .u64 p.at')) (first|with_reducible exact f2|with_reducible exact f1|(simp[go_sem,f1];done))
          (first
           |(go_at_call 8;refine(HHZ.out _ (by(repeat'(first|(with_reducible first|exact ak|apply au|apply ay|apply aA|apply aB)|(right;simp;done))))).mono ?_;rintro e w12 ⟨rfl,hk12⟩;have f2:=aii.out w12 (Kept.then (by(repeat'(first|(with_reducible first|exact ak|apply au|apply ay|apply aA|apply aB)|(right;simp;done)))) hk12);have Qq:=ah (Kept.then (F:=aj) (a:=wr) (by(repeat'(first|(with_reducible first|exact ak|apply au|apply ay|apply aA|apply aB)|(right;simp;done)))) hk12);clear hk12))
         go_wp2_with fail;go_roundw
         case rel=>exact⟨j+1,by omega,by go_num,by(repeat'(first|(with_reducible first|exact ak|apply au|apply ay|apply aA|apply aB)|(exact aV.out.then Qq.out)|(right;simp;done)))⟩
         case measure=>simp[intOf];omega
      ·obtain rfl:j=nt:=by omega
       have HKE:=ah (adu.out.then hk);clear hk;go_wp2_with fail;go_roundw
       case rel=>exact⟨i+1,M3,_,_,A9,c9,T2,by omega,by omega,rfl,by rw[Jg.out.2],by go_num,Rf.out.quiet HKE.out⟩
       case measure=>simp[intOf];omega
   ·obtain rfl:i=60:=by omega
    have HKK:=ah Af.out.k.own.kp;clear Af;go_wp2_with fail;refine(HAW.out _).mono ?_;rintro e w3 ⟨rfl,hk3⟩;have HE:=ah (jI.out _ (HKK.out.then hk3));clear hk3;go_wp2;go_ret;exact⟨rfl,HE.out⟩
  ·obtain rfl:i=acts.length:=by omega
   have HKK:=ah Af.out.k.own.kp;clear Af;go_wp2_with fail;refine(HAW.out _).mono ?_;rintro e w3 ⟨rfl,hk3⟩;have HE:=ah (jI.out _ (HKK.out.then hk3));clear hk3;go_wp2;go_ret;exact⟨rfl,HE.out⟩
