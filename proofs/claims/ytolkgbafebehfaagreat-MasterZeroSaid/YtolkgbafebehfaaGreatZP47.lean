/- Part 48 of what the proof needs. -/
import Derived.Test.YtolkgbafebehfaaGreatZP46
set_option linter.unusedSimpArgs false
set_option linter.unusedVariables false
set_option maxHeartbeats 32000000
set_option maxRecDepth 100000
namespace Go.Proofs.YtolkgbafebehfaaGreat
open Go.RowKit Go.Shelf Go.Maps
set_option maxRecDepth 100000
namespace aP
theorem XT:∀args w,(callFunc 255 args).run Tryz.prog w=.ok (.enter 255 args) w:=enters_of Tryz.func255 (by kernel_rfl) rfl
theorem Z5:∀args w,(callFunc 256 args).run Tryz.prog w=.ok (.enter 256 args) w:=enters_of Tryz.func256 (by kernel_rfl) rfl
theorem bT.lt{b:Nat}{w:World}{A:Option Addr}{n c:Nat}{l:List Mem}(h:bT b w A n c l){k:Nat}(hk:RowOf (.slice A n c) k):k<w.heap.size:=ou h.2.1 hk
theorem dP.lt{b:Nat}{w:World}{A:Option Addr}{n c:Nat}{l:List Int}(h:dP b w A n c l){k:Nat}(hk:RowOf (.slice A n c) k):k<w.heap.size:=ou h.2.1 hk
theorem bT.off{b:Nat}{w:World}{A:Option Addr}{n c:Nat}{l:List Mem}(h:bT b w A n c l){g:Nat}{t:TypeId}{cs:Array Value}(hg:Has w g t cs)(hne:53≠t):¬RowOf (.slice A n c) g:=h.ne hg hne
theorem dP.off{b:Nat}{w:World}{A:Option Addr}{n c:Nat}{l:List Int}(h:dP b w A n c l){g:Nat}{t:TypeId}{cs:Array Value}(hg:Has w g t cs)(hne:3≠t):¬RowOf (.slice A n c) g:=own_ne h.2.1 hg hne
theorem UW(w:World)(ep fl:Int)(A0 A1 A2 A3:Option Addr)(c0 c1 c2 c3:Nat)(l j:List Mem)(t g:List Int)(last:Int)(hl:Src w 2 A0 l.length (aS l))(ht:Src w 1 A1 t.length (ints t))(hg:Src w 1 A2 g.length (ints g))(hj:Src w 2 A3 j.length (aS j))
  (hll:l.length<=1000) (htl:t.length<=1000) (hgl:g.length<=1000) (hjl:j.length<=1000) (hfl:0<=fl/\fl<=aT) (hla:0<=last/\last<=aT) (hcap:l.length<=c0) (hcm:c0<=9223372036854775807)
  (hti:∀x∈t,I64 x) (hgi:∀x∈g,I64 x) (hli:∀m∈l,I64 m.1):
  Calls Tryz.prog 149 #[mP ep A0 l.length c0 fl,.slice A1 t.length c1,.slice A2 g.length c2,.slice A3 j.length c3,.int .u64 last] w (jw w (fH ep l fl t g j last)):=by
 have HL:=ah hl;clear hl
 have HT:=ah ht;clear ht
 have HG:=ah hg;clear hg
 have HJ:=ah hj;clear hj
 have qB:=ah hfl;clear hfl
 have HLA:=ah hla;clear hla
 have NS:=ah hti;clear hti
 have HGI:=ah hgi;clear hgi
 have HLI:=ah hli;clear hli
 have hn0:=(Has.new w 25 #[.int .i64 ep,.slice A0 l.length c0,.int .u64 fl]).alloc (.cells #[.int .i64 0,.slice none 0 0,.int .u64 0] 25)
 have hn1:=Has.new (w.alloc (.cells #[.int .i64 ep,.slice A0 l.length c0,.int .u64 fl] 25)) 25 #[.int .i64 0,.slice none 0 0,.int .u64 0]
 rw[size_alloc]at hn1
 have dw:=ah hn0;clear hn0
 have CO:=ah hn1;clear hn1
 have abx:Kept aj w ((w.alloc (.cells #[.int .i64 ep,.slice A0 l.length c0,.int .u64 fl] 25)).alloc (.cells #[.int .i64 0,.slice none 0 0,.int .u64 0] 25)):=((Kept.refl _ _).alloc _).alloc _
 have Qp:=ah abx;clear abx
 have hck:=check_any ((w.alloc (.cells #[.int .i64 ep,.slice A0 l.length c0,.int .u64 fl] 25)).alloc (.cells #[.int .i64 0,.slice none 0 0,.int .u64 0] 25)) ep fl A0 c0 l (HL.out.kept Qp.out (fun _ _ x=>x)) (by omega) hcap hcm
 obtain⟨ck,KR⟩:∃ck,chk ep l=ck:=⟨_,rfl⟩
 rw[KR]at hck
 have HC:=ah hck;clear hck
 by_cases hc0:ck=0
 rotate_left
 ·have hN:fH ep l fl t g j last=⟨ck,0,[],0,[]⟩:=by unfold fH;rw[KR,if_pos hc0]
  have nD:=ah hN;clear hN KR
  have b1:(ck !=0)=true:=by simpa using hc0
  have b2:(ck==0)=false:=by simpa using hc0
  go_enter Tryz.func149,Tryz.ntmps149
  go_wp2_with fail
  refine HC.out.mono ?_
  rintro e w2 ⟨rfl,hk⟩
  have hr:=CO.out.kept hk (fun x=>x)
  have hk2:=Qp.out.then hk
  have aQ:=ah hk2;clear hk2 hk
  have HR:=ah hr;clear hr
  have r0:w2.cell? ⟨w.heap.size+1,0,none⟩=some (.int .i64 0):=HR.out.cell 0
  have r1:w2.cell? ⟨w.heap.size+1,1,none⟩=some (.slice none 0 0):=HR.out.cell 1
  have r2:w2.cell? ⟨w.heap.size+1,2,none⟩=some (.int .u64 0):=HR.out.cell 2
  have f0:=HR.out.frozen 0
  have f1:=HR.out.frozen 1
  have f2:=HR.out.frozen 2
  go_wp2
  refine bodyPost_ret (v:=.tuple #[.agg #[.int .i64 0,.slice none 0 0,.int .u64 0],.slice none 0 0,.int .i64 ck]) (by simp[results,Tryz.results149,go_sem,r0,r1,r2]) rfl (?_:jw w (fH ep l fl t g j last) _ _)
  rw[nD.out]
  exact⟨none,0,0,none,0,0,rfl,bT.nil _ _,dP.nil _ _,by(repeat'(first|(with_reducible first|exact ak|apply au|apply ay|apply aA|apply aB)|(exact aQ.out)|(right;simp;done)))⟩
 subst hc0
 have hsz0:w.heap.size+2<=((w.alloc (.cells #[.int .i64 ep,.slice A0 l.length c0,.int .u64 fl] 25)).alloc (.cells #[.int .i64 0,.slice none 0 0,.int .u64 0] 25)).heap.size:=by simp
 have lN:=ah KR;clear KR
 go_enter Tryz.func149,Tryz.ntmps149
 go_wp2_with fail
 refine HC.out.mono ?_
 rintro e w2 ⟨rfl,hk⟩
 have hz2:w.heap.size+2<=w2.heap.size:=Nat.le_trans hsz0 hk.size
 have hr:=CO.out.kept hk (fun x=>x)
 have hh:=dw.out.kept hk (fun x=>x)
 have hk2:=Qp.out.then hk
 have aQ:=ah hk2;clear hk2 hk hsz0
 have HR2:=ah hr;clear hr
 have CP:=ah hh;clear hh dw CO HC Qp
 go_wp2_with fail
 refine(set_any w2 A1 c1 t (HT.out.kept aQ.out (fun _ _ x=>x)) (by omega) NS.out).mono ?_
 rintro e w3 ⟨⟨bt,rfl,hst,hbt⟩,hk⟩
 have hz3:=hk.size
 have hk3:=aQ.out.then hk
 have hr:=HR2.out.kept hk (fun x=>x)
 have hh:=CP.out.kept hk (fun x=>x)
 have bf:=ah hk3;clear hk3 hk aQ
 have HR3:=ah hr;clear hr HR2
 have HH3:=ah hh;clear hh CP
 have HST:=ah hst;clear hst
 go_wp2_with fail
 refine(set_any w3 A2 c2 g (HG.out.kept bf.out (fun _ _ x=>x)) (by omega) HGI.out).mono ?_
 rintro e w4 ⟨⟨bg,rfl,hsg,hbg⟩,hk⟩
 have hz4:=hk.size
 have hk4:=bf.out.then hk
 have hr:=HR3.out.kept hk (fun x=>x)
 have hh:=HH3.out.kept hk (fun x=>x)
 have hst:=HST.out.kept hk (fun x=>x)
 have hT1:=(Has.new w4 62 #[.map (some bt)]).alloc (.cells #[.map (some bg)] 62)
 have hT2:=Has.new (w4.alloc (.cells #[.map (some bt)] 62)) 62 #[.map (some bg)]
 rw[size_alloc]at hT2
 have hka:Kept aj w4 ((w4.alloc (.cells #[.map (some bt)] 62)).alloc (.cells #[.map (some bg)] 62)):=((Kept.refl _ _).alloc _).alloc _
 have hk5:=hk4.then hka
 have KT:=hr.kept hka (fun x=>x)
 have hh5:=hh.kept hka (fun x=>x)
 have hst5:=hst.kept hka (fun x=>x)
 have XU:=hsg.kept hka (fun x=>x)
 have hz5:w4.heap.size+2=((w4.alloc (.cells #[.map (some bt)] 62)).alloc (.cells #[.map (some bg)] 62)).heap.size:=by simp
 have hp5:=pick_any ((w4.alloc (.cells #[.map (some bt)] 62)).alloc (.cells #[.map (some bg)] 62)) A0 c0 l (isFirst g t) 255 #[.pointer (some ⟨w4.heap.size+1,0,none⟩),.pointer (some ⟨w4.heap.size,0,none⟩)] (HL.out.kept hk5 (fun _ _ x=>x)) hll XT
  (fun W m hW hm=>OT W _ _ bg bt _ _ g t m (HLI.out m hm) (hT2.kept hW (fun x=>x)) (hT1.kept hW (fun x=>x)) (XU.kept hW (fun x=>x)) (hst5.kept hW (fun x=>x)))
 have e1:((w4.alloc (.cells #[.map (some bt)] 62)).alloc (.cells #[.map (some bg)] 62)).cell? ⟨w.heap.size,1,none⟩=some (.slice A0 l.length c0):=hh5.cell 1
 have JY:=ah hp5;clear hp5
 have cO:=ah hk5;clear hk5 hk4 hk hka bf
 have KU:=ah KT;clear KT hr HR3
 have HH5:=ah hh5;clear hh5 hh HH3
 have aby:=ah hst5;clear hst5 hst HST
 have abz:=ah XU;clear XU hsg
 have HT1:=ah hT1;clear hT1
 have HT2:=ah hT2;clear hT2
 go_wp2_with fail
 refine JY.out.mono ?_
 rintro e w6 ⟨⟨O,n,oc,rfl,hrow⟩,hk⟩
 have hz6:=hk.size
 have hk6:=cO.out.then hk
 have hr:=KU.out.kept hk (fun x=>x)
 have hh:=HH5.out.kept hk (fun x=>x)
 have hst:=aby.out.kept hk (fun x=>x)
 have hsg:=abz.out.kept hk (fun x=>x)
 have ht1:=HT1.out.kept hk (fun x=>x)
 have ht2:=HT2.out.kept hk (fun x=>x)
 have hfe:l.filter (isFirst g t)=firsts l t g:=rfl
 rw[hfe]at hrow
 rw[<-hz5]at hz6
 have hwb:w.heap.size<=((w4.alloc (.cells #[.map (some bt)] 62)).alloc (.cells #[.map (some bg)] 62)).heap.size:=by rw[<-hz5];omega
 have hrow:=hrow.mono hwb
 clear e1 hz5 hwb hfe
 have adx:w.heap.size+2<=w6.heap.size:=by omega
 clear hz2 hz3 hz4 hz6 hbt hbg
 have jV:=ah hk6;clear hk6 hk cO JY
 have HR:=ah hr;clear hr KU
 have HH6:=ah hh;clear hh HH5
 have abA:=ah hst;clear hst aby
 have abB:=ah hsg;clear hsg abz
 have abC:=ah ht1;clear ht1 HT1
 have abD:=ah ht2;clear ht2 HT2
 have Ik:=ah hrow;clear hrow
 have e1:w6.cell? ⟨w.heap.size,1,none⟩=some (.slice A0 l.length c0):=HH6.out.cell 1
 by_cases hz:n=0
 ·have hN:fH ep l fl t g j last=⟨7,0,[],0,[]⟩:=by
   unfold fH
   rw[if_neg (by rw[lN.out];simp),if_pos (List.eq_nil_of_length_eq_zero (by rw[<-Ik.out.1];exact hz))]
  have nD:=ah hN;clear hN
  have b1:((n:Int)==0)=true:=by rw[beq_iff_eq];omega
  clear hz e1
  have r0:w6.cell? ⟨w.heap.size+1,0,none⟩=some (.int .i64 0):=HR.out.cell 0
  have r1:w6.cell? ⟨w.heap.size+1,1,none⟩=some (.slice none 0 0):=HR.out.cell 1
  have r2:w6.cell? ⟨w.heap.size+1,2,none⟩=some (.int .u64 0):=HR.out.cell 2
  have f0:=HR.out.frozen 0
  have f1:=HR.out.frozen 1
  have f2:=HR.out.frozen 2
  go_wp2
  refine bodyPost_ret (v:=.tuple #[.agg #[.int .i64 0,.slice none 0 0,.int .u64 0],.slice none 0 0,.int .i64 7]) (by simp[results,Tryz.results149,go_sem,r0,r1,r2]) rfl (?_:jw w (fH ep l fl t g j last) _ _)
  rw[nD.out]
  exact⟨none,0,0,none,0,0,rfl,bT.nil _ _,dP.nil _ _,by(repeat'(first|(with_reducible first|exact ak|apply au|apply ay|apply aA|apply aB)|(exact jV.out)|(right;simp;done)))⟩
 have b1:((n:Int)==0)=false:=by rw[beq_eq_false_iff_ne];omega
 have ace:0<n:=by omega
 have hne:firsts l t g≠[]:=by
  intro e
  have:=Ik.out.1
  rw[e]at this
  exact hz this
 have zF:=ah hne;clear hne hz
 have AZ:=pick_any w6 A0 c0 l (uh g t) 256 #[.pointer (some ⟨w4.heap.size+1,0,none⟩),.pointer (some ⟨w4.heap.size,0,none⟩)] (HL.out.kept jV.out (fun _ _ x=>x)) hll Z5
  (fun W m hW hm=>RF W _ _ bg bt _ _ g t m (HLI.out m hm) (abD.out.kept hW (fun x=>x)) (abC.out.kept hW (fun x=>x)) (abB.out.kept hW (fun x=>x)) (abA.out.kept hW (fun x=>x)))
 have JZ:=ah AZ;clear AZ
 go_wp2_with fail
 refine JZ.out.mono ?_
 rintro e w7 ⟨⟨P,m,pc,rfl,hrow2⟩,hk⟩
 have hz7:=hk.size
 have zM:=jV.out.then hk
 have hr:=HR.out.kept hk (fun x=>x)
 have hh:=HH6.out.kept hk (fun x=>x)
 have hrow:=Ik.out.kept hk
 have hfe:l.filter (uh g t)=rests l t g:=rfl
 rw[hfe]at hrow2
 clear e1 hfe
 have D6:=ah zM;clear zM hk jV JZ
 clear HR
 have HR7:=ah hr;clear hr
 have HH7:=ah hh;clear hh HH6
 have Cm:=ah hrow;clear hrow Ik
 have EZ:=ah hrow2;clear hrow2
 clear abA abB abC abD
 have hnm:n+m<=1000:=by
  have h1:=BM l g t
  have h2:=Cm.out.1
  have h3:=EZ.out.1
  rw[List.length_append]at h1
  omega
 have hco:=OU (w7.alloc (.cells #[.slice O n oc,.slice P m pc] 22)) w7.heap.size O P n oc m pc (firsts l t g) (rests l t g) (Has.new w7 _ _) Cm.out.1 EZ.out.1 ((Cm.out.kept ((Kept.refl aj w7).alloc _)).src) ((EZ.out.kept ((Kept.refl aj w7).alloc _)).src) ace (by omega)
 have uD:=ah hco;clear hco
 go_wp2_with fail
 refine uD.out.mono ?_
 rintro e w8 ⟨⟨Q,k,qc,rfl,hrow3⟩,hk⟩
 have hka:=((Kept.refl aj w7).alloc (.cells #[.slice O n oc,.slice P m pc] 22)).then hk
 have KH:w7.heap.size+1<=w8.heap.size:=by have:=hk.size;simp at this;omega
 have hk8:=D6.out.then hka
 have hr:=HR7.out.kept hka (fun x=>x)
 have hh:=HH7.out.kept hka (fun x=>x)
 have hrow:=Cm.out.kept hka
 have hoff:∀k',RowOf (.slice O n oc) k'->k'<w7.heap.size:=fun k' h=>Cm.out.lt h
 have hbase:∀k',RowOf (.slice Q k qc) k'->w7.heap.size+1<=k':=fun k' h=>by have:=hrow3.2.2 k' h;simpa using this
 have UX:=hrow3.mono (b':=w.heap.size) (by simp;omega)
 clear hrow3
 have qo:=ah hoff;clear hoff
 have Il:=ah hbase;clear hbase
 have wz:=ah hk8;clear hk8 hk hka D6 uD
 have HR8:=ah hr;clear hr HR7
 have HH8:=ah hh;clear hh HH7
 have YW:=ah hrow;clear hrow Cm EZ
 have E4:=ah UX;clear UX
 have hjo:=V4 w.heap.size w8 Q A3 k qc c3 (firsts l t g++rests l t g) j E4.out (by omega) (HJ.out.kept wz.out (fun _ _ x=>x))
  (fun hpos ad had hro=>by
   obtain⟨ad',e,hlt,_⟩:=HJ.out.2 hpos
   rw[had]at e
   injection e with e
   subst e
   have:=Il.out _ hro
   omega) (by have:=BM l g t;omega) hjl
 have HJO:=ah hjo;clear hjo
 go_wp2_with fail
 refine HJO.out.mono ?_
 rintro e w9 ⟨⟨R,k9,rc,rfl,hrow3⟩,hk⟩
 have RG:=hk.size
 have hrc:Kept aj w w9:=wz.out.trans hk (fun i hi=> .inr (by have:=Il.out i hi;omega))
 have hr:=HR8.out.kept hk (E4.out.off HR8.out (by decide))
 have hh:=HH8.out.kept hk (E4.out.off HH8.out (by decide))
 have hrow:=YW.out.far hk (fun k' h1 h2=>by have:=qo.out k' h1;have:=Il.out k' h2;omega)
 have hae:dV (firsts l t g++rests l t g) j=allOf l t g j:=rfl
 rw[hae]at hrow3
 clear hae
 have qA:=ah hrc;clear hrc hk wz HJO
 have HR:=ah hr;clear hr HR8
 have YX:=ah hh;clear hh HH8
 have Io:=ah hrow;clear hrow YW E4
 have Ip:=ah hrow3;clear hrow3 qo Il
 have hlenA:(allOf l t g j).length<=5000:=by
  have h1:∀(a:List Mem) (b:List Mem),(dV b a).length<=b.length+a.length:=by
   intro a
   induction a with
   |nil=>intro b;simp[dV]
   |cons x a ih=>
    intro b
    have h2:=ih (iY b x)
    have h3:(iY b x).length<=b.length+1:=by unfold iY;split<;>simp
    have h4:dV b (x::a)=dV (iY b x) a:=rfl
    rw[h4,List.length_cons]
    omega
  have h2:=h1 j (firsts l t g++rests l t g)
  have h3:=BM l g t
  unfold allOf
  omega
 have heq:=Zq w9 R A0 rc c0 k9 l.length (allOf l t g j) l Ip.out.1 rfl Ip.out.src (HL.out.kept qA.out (fun _ _ x=>x)) (by omega) (by omega)
 obtain⟨eb,heb⟩:∃eb,zI (allOf l t g j) l=eb:=⟨_,rfl⟩
 rw[heb]at heq
 have YY:=ah heq;clear heq
 have e1:w9.cell? ⟨w.heap.size,1,none⟩=some (.slice A0 l.length c0):=YX.out.cell 1
 clear HT HG HJ hlenA
 cases eb
 rotate_left
 ·have hN:fH ep l fl t g j last=⟨20,0,[],0,[]⟩:=by
   unfold fH
   unfold zI at heb
   rw[if_neg (by rw[lN.out];simp),if_neg zF.out,if_pos (by simpa using heb)]
  have nD:=ah hN;clear hN heb
  go_wp2_with fail
  refine YY.out.mono ?_
  rintro e w10 ⟨rfl,hk⟩
  have hr:=HR.out.kept hk (fun x=>x)
  have hk4:=qA.out.then hk
  clear hk HR e1
  have HR:=ah hr;clear hr
  have dR:=ah hk4;clear hk4
  have r0:w10.cell? ⟨w.heap.size+1,0,none⟩=some (.int .i64 0):=HR.out.cell 0
  have r1:w10.cell? ⟨w.heap.size+1,1,none⟩=some (.slice none 0 0):=HR.out.cell 1
  have r2:w10.cell? ⟨w.heap.size+1,2,none⟩=some (.int .u64 0):=HR.out.cell 2
  have f0:=HR.out.frozen 0
  have f1:=HR.out.frozen 1
  have f2:=HR.out.frozen 2
  go_wp2
  refine bodyPost_ret (v:=.tuple #[.agg #[.int .i64 0,.slice none 0 0,.int .u64 0],.slice none 0 0,.int .i64 20]) (by simp[results,Tryz.results149,go_sem,r0,r1,r2]) rfl (?_:jw w (fH ep l fl t g j last) _ _)
  rw[nD.out]
  exact⟨none,0,0,none,0,0,rfl,bT.nil _ _,dP.nil _ _,by(repeat'(first|(with_reducible first|exact ak|apply au|apply ay|apply aA|apply aB)|(exact dR.out)|(right;simp;done)))⟩
 have hneq:allOf l t g j≠l:=by
  unfold zI at heb
  simpa using heb
 have XV:=ah hneq;clear hneq heb
 by_cases hmx:1073741824<=ep
 ·have hN:fH ep l fl t g j last=⟨5,0,[],0,[]⟩:=by
   unfold fH
   rw[if_neg (by rw[lN.out];simp),if_neg zF.out,if_neg XV.out,if_pos hmx]
  have nD:=ah hN;clear hN
  go_wp2_with fail
  refine YY.out.mono ?_
  rintro e w10 ⟨rfl,hk⟩
  have hr:=HR.out.kept hk (fun x=>x)
  have hh:=YX.out.kept hk (fun x=>x)
  have hk4:=qA.out.then hk
  clear hk HR e1
  have e0:w10.cell? ⟨w.heap.size,0,none⟩=some (.int .i64 ep):=hh.cell 0
  have HR:=ah hr;clear hr hh
  have dR:=ah hk4;clear hk4
  have r0:w10.cell? ⟨w.heap.size+1,0,none⟩=some (.int .i64 0):=HR.out.cell 0
  have r1:w10.cell? ⟨w.heap.size+1,1,none⟩=some (.slice none 0 0):=HR.out.cell 1
  have r2:w10.cell? ⟨w.heap.size+1,2,none⟩=some (.int .u64 0):=HR.out.cell 2
  have f0:=HR.out.frozen 0
  have f1:=HR.out.frozen 1
  have f2:=HR.out.frozen 2
  go_wp2
  refine bodyPost_ret (v:=.tuple #[.agg #[.int .i64 0,.slice none 0 0,.int .u64 0],.slice none 0 0,.int .i64 5]) (by simp[results,Tryz.results149,go_sem,r0,r1,r2]) rfl (?_:jw w (fH ep l fl t g j last) _ _)
  rw[nD.out]
  exact⟨none,0,0,none,0,0,rfl,bT.nil _ _,dP.nil _ _,by(repeat'(first|(with_reducible first|exact ak|apply au|apply ay|apply aA|apply aB)|(exact dR.out)|(right;simp;done)))⟩
 obtain⟨UY,XW⟩:∃UY,kG fl last=UY:=⟨_,rfl⟩
 have hN:fH ep l fl t g j last=⟨0,ep+1,allOf l t g j,UY,ids (firsts l t g)⟩:=by
  unfold fH
  rw[if_neg (by rw[lN.out];simp),if_neg zF.out,if_neg XV.out,if_neg hmx,XW]
 have nD:=ah hN;clear hN
 have adG:1<=ep:=(kH lN.out).1.1
 have hfo:=fun W=>Ou W fl last qB.out HLA.out
 rw[XW]at hfo
 have hfq:∀W,Calls Tryz.prog 260 #[.int .u64 fl,.int .u64 last] W (fun e w''=>e=.returned (.int .u64 UY)/\w''=W):=fun W=>(hfo W).mono fun e w' h=>⟨h.1,h.2.symm⟩
 have HFO:=ah hfq;clear hfo hfq XW
 have abE:(firsts l t g).length<=1000:=by have:=List.length_filter_le (isFirst g t) l;unfold firsts;omega
 have YZ:ids (firsts l t g)=((firsts l t g).map (·.1)).mergeSort fun x y=>decide (x<=y):=rfl
 rw[YZ]at nD
 clear YZ
 obtain⟨S,hS⟩:∃S,firsts l t g=S:=⟨_,rfl⟩
 rw[hS]at nD abE Io
 clear hS zF XV HL qB HLA lN NS HGI HLI
 have hnS:=Io.out.1
 rw[<-hnS]at abE
 clear hnS
 go_wp2_with fail
 refine YY.out.mono ?_
 rintro e w10 ⟨rfl,hk⟩
 have acZ:=hk.size
 have hr:=HR.out.kept hk (fun x=>x)
 have hh:=YX.out.kept hk (fun x=>x)
 have hrow:=Io.out.kept hk
 have hall:=Ip.out.kept hk
 have hk10:=qA.out.then hk
 clear hk HR e1
 have e0:w10.cell? ⟨w.heap.size,0,none⟩=some (.int .i64 ep):=hh.cell 0
 have FO:=ah hk10;clear hk10 qA YY
 have HR:=ah hr;clear hr
 have abG:=ah hh;clear hh YX
 have yJ:=ah hrow;clear hrow Io
 have KW:=ah hall;clear hall Ip
 have hzz:w.heap.size<=w10.heap.size:=by omega
 clear hz7 KH RG acZ
 go_wp2_with fail
 go_loopw [19,63] (fun v19 v63 wr=>∃(i:Nat) (B:Option Addr) (m d:Nat),i<=n/\v63=.int .i64 i/\v19=.slice B m d/\dP w10.heap.size wr B m d ((S.take i).map (·.1))/\Kept aj w10 wr) (fun _ v63 _=>n-(intOf v63).toNat)
 case atStart=>exact⟨0,none,0,0,Nat.zero_le _,rfl,rfl,dP.nil _ _,Kept.refl _ _⟩
 case round=>
  obtain⟨i,B,m,d,hi,rfl,rfl,hB,hk⟩:=hrel
  have hml:m<=1000:=by have h0:=hB.1;rw[List.length_map]at h0;have:=List.length_take_le i S;omega
  have HB:=ah hB;clear hB
  have HK:=ah hk;clear hk
  obtain⟨wo,hwo⟩:∃wo:World,wo=wr:=⟨_,rfl⟩
  subst hwo
  by_cases hin:i<n
  ·obtain⟨x,hx⟩:∃x,S[i]? =some x:=⟨_,List.getElem?_eq_getElem (by rw[<-yJ.out.1];exact hin)⟩
   obtain⟨ad,hA,had,d0,d1⟩:=ig ((yJ.out.kept HK.out).src) (by rw[<-yJ.out.1];omega) i x hx
   subst hA
   have hsn:(S.take (i+1)).map (·.1)=(S.take i).map (·.1)++[x.1]:=by rw[take_snoc hx];simp
   have NJ:=ah hsn;clear hsn hx
   obtain⟨x1,x2⟩:=x
   dsimp only at d0 d1 NJ
   have hS1:Hid (m+1<=maxLen):=ah (by unfold maxLen;omega)
   have hS2:Hid ((m+1)*8<=140737488355328):=ah (by omega)
   go_wp2_with (at_builtin;refine aI jF (.tmp 67) (.tmp 70) rfl rfl (Value.slice B m d) rfl ((HB.out.kept (((Kept.refl _ _).alloc _).alloc _)).2.1) 1 rfl (Src.bW (m:=1) (cs:=#[.int .i64 x1]) (Has.bP _ 3 _ (by simp)) rfl) (by intro u hu;simp at hu;subst hu;rfl) hS1.out hS2.out ?_;intro B3 d3 w12 ho3 hg3 wF)
   have adH:=HK.out.size
   have hn3:dP w10.heap.size w12 B3 (m+1) d3 ((S.take i).map (·.1)++[x1]):=(HB.out.kept (((Kept.refl _ _).alloc _).alloc _)).snoc (by simp;omega) ho3 wF
   have hk9:Kept aj w10 w12:=((HK.out.alloc _).alloc _).grown hg3 (fun k hk=> .inr (HB.out.2.2 k hk))
   rw[<-NJ.out]at hn3
   clear ho3 hg3 wF
   have kY:=ah hn3;clear hn3
   have qA:=ah hk9;clear hk9
   go_wp2
   go_roundw
   case rel=>exact⟨i+1,B3,m+1,d3,by omega,by go_num,rfl,kY.out,qA.out⟩
   case measure=>simp[intOf];omega
  ·obtain rfl:i=n:=by omega
   have hB':=HB.out
   rw[List.take_of_length_le (by rw[<-yJ.out.1];omega)]at hB'
   have hso:=RP hB' (by simp;have:=yJ.out.1;omega)
   have hkw:=FO.out.then HK.out
   have hr:=HR.out.kept HK.out (fun x=>x)
   have hh:=abG.out.kept HK.out (fun x=>x)
   have hall:=KW.out.kept HK.out
   have Y0:=hB'.off hr (by decide)
   have Y1:=hB'.off hh (by decide)
   have Y2:∀k',RowOf (.slice B m d) k'->w10.heap.size<=k':=fun k' h=>hB'.2.2 k' h
   have Y3:∀k',RowOf (.slice R k9 rc) k'->k'<w10.heap.size:=fun k' h=>KW.out.lt h
   have hzo:=HK.out.size
   clear HR HB hB'
   have HSO:=ah hso;clear hso
   have oC:=ah hkw;clear hkw HK FO
   have HRW:=ah hr;clear hr
   have HHW:=ah hh;clear hh abG
   have Y4:=ah hall;clear hall KW yJ
   have qT:=ah Y0;clear Y0
   have HO2:=ah Y1;clear Y1
   have Y5:=ah Y2;clear Y2
   have HO4:=ah Y3;clear Y3
   go_wp2_with fail
   refine HSO.out.mono ?_
   rintro e Dh ⟨rfl,hints,hk⟩
   have hr:=HRW.out.kept hk qT.out
   have hh:=HHW.out.kept hk HO2.out
   have hall:=Y4.out.far hk (fun k' h1 h2=>by have:=Y5.out k' h2;have:=HO4.out k' h1;omega)
   have abH:Kept aj w Dh:=oC.out.trans hk (fun i hi=> .inr (by have:=Y5.out i hi;omega))
   have e0':Dh.cell? ⟨w.heap.size,0,none⟩=some (.int .i64 ep):=hh.cell 0
   have e2:Dh.cell? ⟨w.heap.size,2,none⟩=some (.int .u64 fl):=hh.cell 2
   have ac0:=ah abH;clear abH hk
   have BI:=ah hr;clear hr HRW
   have UZ:=ah hall;clear hall Y4 hh HHW
   have ac1:=ah hints;clear hints
   go_wp2_with fail
   have r0:Dh.cell? ⟨w.heap.size+1,0,none⟩=some (.int .i64 0):=BI.out.cell 0
   have r1:Dh.cell? ⟨w.heap.size+1,1,none⟩=some (.slice none 0 0):=BI.out.cell 1
   have r2:Dh.cell? ⟨w.heap.size+1,2,none⟩=some (.int .u64 0):=BI.out.cell 2
   have f0:=BI.out.frozen 0
   have f1:=BI.out.frozen 1
   have f2:=BI.out.frozen 2
   go_region_held3 (fun W=>W.cell? ⟨w.heap.size,0,none⟩=some (.int .i64 ep)/\W.cell? ⟨w.heap.size,2,none⟩=some (.int .u64 fl)) (first|exact⟨e0',e2⟩|(simp[go_sem,e0',e2];done)) (first|(go_at_call 260;refine(HFO.out _).mono ?_;rintro e w' ⟨rfl,rfl⟩))
   have hwr:IntKind.i64.wrap (ep+1)=ep+1:=IntWalk.i64_in _ (by omega)
   go_wp2
   refine bodyPost_ret (v:=.tuple #[.agg #[.int .i64 (ep+1),.slice R k9 rc,.int .u64 UY],.slice B m d,.int .i64 0]) (by simp[results,Tryz.results149,go_sem,r0,r1,r2,f0,f1,f2,hwr]) rfl (?_:jw w (fH ep l fl t g j last) _ _)
   rw[nD.out]
   have hkk:∀a b c,Kept (fun k=>k=w.heap.size+1) Dh (((Dh.setCell ⟨w.heap.size+1,0,none⟩ a).setCell ⟨w.heap.size+1,1,none⟩ b).setCell ⟨w.heap.size+1,2,none⟩ c).drew:=fun a b c=>(Kept.put (F:=fun k=>k=w.heap.size+1) (Kept.put (F:=fun k=>k=w.heap.size+1) (Kept.put (F:=fun k=>k=w.heap.size+1) (Kept.refl _ _) (.inl rfl)) (.inl rfl)) (.inl rfl)).drew
   refine⟨R,k9,rc,B,m,d,rfl,?_,?_,?_⟩
   ·exact UZ.out.far (hkk _ _ _) (fun k hk e=>UZ.out.off BI.out (by decide) (by rw[<-e];exact hk))
   ·have h1:=ac1.out
    exact⟨h1.1,aC h1.2.1 (hkk _ _ _) (fun k hk e=>h1.off BI.out (by decide) (by rw[<-e];exact hk)),fun k hk=>Nat.le_trans hzz (h1.2.2 k hk)⟩
   ·(repeat'(first|(with_reducible first|exact ak|apply au|apply ay|apply aA|apply aB)|(exact ac0.out)|(right;simp;done)))
end aP
end Go.Proofs.YtolkgbafebehfaaGreat
namespace Go.Proofs.YtolkgbafebehfaaGreat
open Go.RowKit
set_option maxRecDepth 100000
namespace dM
open aP Vn Mst lJ IM nG gX
section
variable{w w':World}{X X0:MX}{M M0:MR}{c k:Nat}
theorem dX.KX{q:IntKind}{e t:TypeId}{b n:Nat}{f:Int->Option Int}(h:dX q e w b n f)(ht:Tryz.prog.underlying t=some (.map 3 e)):
  ∃w',(∀ty,(Builtin.clear_ #[t] ty #[.map (some b)]).run Tryz.prog w=.ok (.tuple #[]) w')/\dX q e w' b n (fun _=>none)/\Kept (fun i=>i=b) w w':=by
 obtain⟨es,c,hb⟩:=dX.map h
 obtain⟨w',hr,h1,h2⟩:=dX.clear h ht 3
 have hr':=fun ty=>uQ ht hb ty
 have e1:w'=ChangeMaps.setBlock w b (.map #[] c):=by
  have:=(hr' 3).symm.trans hr
  injection this with _ h3
  exact h3.symm
 subst e1
 exact⟨_,hr',h1,h2⟩
theorem bJ.KX{b n:Nat}{s:Int->Bool}(h:bJ w b n s):
  ∃w',(∀ty,(Builtin.clear_ #[62] ty #[.map (some b)]).run Tryz.prog w=.ok (.tuple #[]) w')/\bJ w' b n (fun _=>false)/\Kept (fun i=>i=b) w w':=by
 obtain⟨es,c,hb⟩:=bJ.map h
 obtain⟨w',hr,h1,h2⟩:=bJ.clear h 3
 have hr':=fun ty=>uQ (k:=3) (e:=4) Tryz.underlying62 hb ty
 have e1:w'=ChangeMaps.setBlock w b (.map #[] c):=by
  have:=(hr' 3).symm.trans hr
  injection this with _ h3
  exact h3.symm
 subst e1
 exact⟨_,hr',h1,h2⟩
theorem Oc(hF:∀k,dU X M k->k<w.heap.size){W:World}{e:TypeId}{size n c:Nat}{A:Option Addr}{xs:List Value}(hr:W.ownsRow 0 e size (.slice A n c) n xs)(hnew:∀k,(Value.slice A n c).ownBlock=some k->w.heap.size<=k):0<n->∀ad,A=some ad->¬dU X M ad.block:=by
 intro h0 ad e1 hf
 obtain⟨g,cap,hv,_,_⟩:=hr.form h0
 rw[e1]at hv
 injection hv with hv
 injection hv with hv
 have h1:=hF _ hf
 have h2:=hnew g (by rw[e1,hv];rfl)
 rw[hv]at h1
 dsimp only at h1
 omega
theorem Qq(x:Int)(h:0<=x/\x<1000):I64 x:=aJ.jq h.1 (by omega)
theorem U0(h:uT M.st):∀m∈M.st.ms,I64 m.1:=by
 rcases h.inv.conf with h1|h1
 ·rw[h1.2.1];intro m hm;cases hm
 ·intro m hm
  have:=(kH h1.1).2.2.2.id m hm
  exact Qq _ ⟨this.1,by omega⟩
theorem abI(h:uT M.st):∀x∈M.st.lg,I64 x:=by
 rcases h.inv.conf with h1|h1
 ·rw[h1.2.2.2];intro m hm;cases hm
 ·intro m hm
  have:=(xG.1 h1.2.1).1 m hm
  exact Qq _ ⟨this.1,by omega⟩
theorem XX(M:MR)(n:Nat)(hn:n<=4):∀x∈gW M n,I64 x:=by
 intro x hx
 unfold gW at hx
 obtain⟨y,hy,rfl⟩:=List.mem_map.1 hx
 have:=List.mem_range.1 (List.mem_filter.1 hy).1
 exact Qq _ ⟨by omega,by omega⟩
end
end dM
end Go.Proofs.YtolkgbafebehfaaGreat
