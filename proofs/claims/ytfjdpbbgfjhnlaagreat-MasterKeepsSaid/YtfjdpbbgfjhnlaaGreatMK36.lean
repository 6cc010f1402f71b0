/- Part 37 of what the proof needs. -/
import Derived.Test.YtfjdpbbgfjhnlaaGreatMK35
set_option linter.unusedSimpArgs false
set_option linter.unusedVariables false
set_option maxHeartbeats 32000000
set_option maxRecDepth 100000
namespace Go.Proofs.YtfjdpbbgfjhnlaaGreat
open Go.RowKit Go.Shelf Go.Maps
set_option maxRecDepth 100000
namespace aO
theorem ab2:∀args w,(callFunc 180 args).run Tryz.prog w=.ok (.enter 180 args) w:=enters_of Tryz.func180 (by kernel_rfl) rfl
theorem adR:∀args w,(callFunc 181 args).run Tryz.prog w=.ok (.enter 181 args) w:=enters_of Tryz.func181 (by kernel_rfl) rfl
theorem cu.lt{b:Nat}{w:World}{A:Option Addr}{n c:Nat}{l:List Mem}(h:cu b w A n c l){k:Nat}(hk:RowOf (.slice A n c) k):k<w.heap.size:=lH h.2.1 hk
theorem fA.lt{b:Nat}{w:World}{A:Option Addr}{n c:Nat}{l:List Int}(h:fA b w A n c l){k:Nat}(hk:RowOf (.slice A n c) k):k<w.heap.size:=lH h.2.1 hk
theorem cu.off{b:Nat}{w:World}{A:Option Addr}{n c:Nat}{l:List Mem}(h:cu b w A n c l){g:Nat}{t:TypeId}{cs:Array Value}(hg:Has w g t cs)(hne:65≠t):¬RowOf (.slice A n c) g:=h.ne hg hne
theorem fA.off{b:Nat}{w:World}{A:Option Addr}{n c:Nat}{l:List Int}(h:fA b w A n c l){g:Nat}{t:TypeId}{cs:Array Value}(hg:Has w g t cs)(hne:3≠t):¬RowOf (.slice A n c) g:=own_ne h.2.1 hg hne
theorem Zx(w:World)(ep fl:Int)(A0 A1 A2 A3:Option Addr)(c0 c1 c2 c3:Nat)(l j:List Mem)(t g:List Int)(last:Int)(hl:Src w 2 A0 l.length (aP l))(ht:Src w 1 A1 t.length (ints t))(hg:Src w 1 A2 g.length (ints g))(hj:Src w 2 A3 j.length (aP j))
  (hll:l.length<=1000) (htl:t.length<=1000) (hgl:g.length<=1000) (hjl:j.length<=1000) (hfl:0<=fl/\fl<=aT) (hla:0<=last/\last<=aT) (hcap:l.length<=c0) (hcm:c0<=9223372036854775807)
  (hti:∀x∈t,I64 x) (hgi:∀x∈g,I64 x) (hli:∀m∈l,I64 m.1):
  Calls Tryz.prog 106 #[lq ep A0 l.length c0 fl,.slice A1 t.length c1,.slice A2 g.length c2,.slice A3 j.length c3,.int .u64 last] w (kD w (gU ep l fl t g j last)):=by
 have HL:=ah hl;clear hl
 have HT:=ah ht;clear ht
 have HG:=ah hg;clear hg
 have HJ:=ah hj;clear hj
 have oM:=ah hfl;clear hfl
 have HLA:=ah hla;clear hla
 have SY:=ah hti;clear hti
 have HGI:=ah hgi;clear hgi
 have HLI:=ah hli;clear hli
 have hn0:=(Has.new w 25 #[.int .i64 ep,.slice A0 l.length c0,.int .u64 fl]).alloc (.cells #[.int .i64 0,.slice none 0 0,.int .u64 0] 25)
 have hn1:=Has.new (w.alloc (.cells #[.int .i64 ep,.slice A0 l.length c0,.int .u64 fl] 25)) 25 #[.int .i64 0,.slice none 0 0,.int .u64 0]
 rw[size_alloc]at hn1
 have dO:=ah hn0;clear hn0
 have Dl:=ah hn1;clear hn1
 have afs:Kept aj w ((w.alloc (.cells #[.int .i64 ep,.slice A0 l.length c0,.int .u64 fl] 25)).alloc (.cells #[.int .i64 0,.slice none 0 0,.int .u64 0] 25)):=((Kept.refl _ _).alloc _).alloc _
 have Vu:=ah afs;clear afs
 have hck:=check_any ((w.alloc (.cells #[.int .i64 ep,.slice A0 l.length c0,.int .u64 fl] 25)).alloc (.cells #[.int .i64 0,.slice none 0 0,.int .u64 0] 25)) ep fl A0 c0 l (HL.out.kept Vu.out (fun _ _ x=>x)) (by omega) hcap hcm
 obtain⟨ck,PV⟩:∃ck,chk ep l=ck:=⟨_,rfl⟩
 rw[PV]at hck
 have HC:=ah hck;clear hck
 by_cases hc0:ck=0
 rotate_left
 ·have hN:gU ep l fl t g j last=⟨ck,0,[],0,[]⟩:=by unfold gU;rw[PV,if_pos hc0]
  have nV:=ah hN;clear hN PV
  have b1:(ck !=0)=true:=by simpa using hc0
  have b2:(ck==0)=false:=by simpa using hc0
  go_enter Tryz.func106,Tryz.ntmps106
  go_wp2_with fail
  refine HC.out.mono ?_
  rintro e w2 ⟨rfl,hk⟩
  have hr:=Dl.out.kept hk (fun x=>x)
  have hk2:=Vu.out.then hk
  have aW:=ah hk2;clear hk2 hk
  have HR:=ah hr;clear hr
  have r0:w2.cell? ⟨w.heap.size+1,0,none⟩=some (.int .i64 0):=HR.out.cell 0
  have r1:w2.cell? ⟨w.heap.size+1,1,none⟩=some (.slice none 0 0):=HR.out.cell 1
  have r2:w2.cell? ⟨w.heap.size+1,2,none⟩=some (.int .u64 0):=HR.out.cell 2
  have f0:=HR.out.frozen 0
  have f1:=HR.out.frozen 1
  have f2:=HR.out.frozen 2
  go_wp2
  refine bodyPost_ret (v:=.tuple #[.agg #[.int .i64 0,.slice none 0 0,.int .u64 0],.slice none 0 0,.int .i64 ck]) (by simp[results,Tryz.results106,go_sem,r0,r1,r2]) rfl (?_:kD w (gU ep l fl t g j last) _ _)
  rw[nV.out]
  exact⟨none,0,0,none,0,0,rfl,cu.nil _ _,fA.nil _ _,by(repeat'(first|(with_reducible first|exact ak|apply au|apply ay|apply aA|apply aB)|(exact aW.out)|(right;simp;done)))⟩
 subst hc0
 have hsz0:w.heap.size+2<=((w.alloc (.cells #[.int .i64 ep,.slice A0 l.length c0,.int .u64 fl] 25)).alloc (.cells #[.int .i64 0,.slice none 0 0,.int .u64 0] 25)).heap.size:=by simp
 have lX:=ah PV;clear PV
 go_enter Tryz.func106,Tryz.ntmps106
 go_wp2_with fail
 refine HC.out.mono ?_
 rintro e w2 ⟨rfl,hk⟩
 have hz2:w.heap.size+2<=w2.heap.size:=Nat.le_trans hsz0 hk.size
 have hr:=Dl.out.kept hk (fun x=>x)
 have hh:=dO.out.kept hk (fun x=>x)
 have hk2:=Vu.out.then hk
 have aW:=ah hk2;clear hk2 hk hsz0
 have HR2:=ah hr;clear hr
 have Dn:=ah hh;clear hh dO Dl HC Vu
 go_wp2_with fail
 refine(set_any w2 A1 c1 t (HT.out.kept aW.out (fun _ _ x=>x)) (by omega) SY.out).mono ?_
 rintro e w3 ⟨⟨bt,rfl,hst,hbt⟩,hk⟩
 have hz3:=hk.size
 have hk3:=aW.out.then hk
 have hr:=HR2.out.kept hk (fun x=>x)
 have hh:=Dn.out.kept hk (fun x=>x)
 have bn:=ah hk3;clear hk3 hk aW
 have HR3:=ah hr;clear hr HR2
 have HH3:=ah hh;clear hh Dn
 have HST:=ah hst;clear hst
 go_wp2_with fail
 refine(set_any w3 A2 c2 g (HG.out.kept bn.out (fun _ _ x=>x)) (by omega) HGI.out).mono ?_
 rintro e w4 ⟨⟨bg,rfl,hsg,hbg⟩,hk⟩
 have hz4:=hk.size
 have hk4:=bn.out.then hk
 have hr:=HR3.out.kept hk (fun x=>x)
 have hh:=HH3.out.kept hk (fun x=>x)
 have hst:=HST.out.kept hk (fun x=>x)
 have hT1:=(Has.new w4 88 #[.map (some bt)]).alloc (.cells #[.map (some bg)] 88)
 have hT2:=Has.new (w4.alloc (.cells #[.map (some bt)] 88)) 88 #[.map (some bg)]
 rw[size_alloc]at hT2
 have hka:Kept aj w4 ((w4.alloc (.cells #[.map (some bt)] 88)).alloc (.cells #[.map (some bg)] 88)):=((Kept.refl _ _).alloc _).alloc _
 have hk5:=hk4.then hka
 have PW:=hr.kept hka (fun x=>x)
 have hh5:=hh.kept hka (fun x=>x)
 have hst5:=hst.kept hka (fun x=>x)
 have ab3:=hsg.kept hka (fun x=>x)
 have hz5:w4.heap.size+2=((w4.alloc (.cells #[.map (some bt)] 88)).alloc (.cells #[.map (some bg)] 88)).heap.size:=by simp
 have Yn:=pick_any ((w4.alloc (.cells #[.map (some bt)] 88)).alloc (.cells #[.map (some bg)] 88)) A0 c0 l (isFirst g t) 180 #[.pointer (some ⟨w4.heap.size+1,0,none⟩),.pointer (some ⟨w4.heap.size,0,none⟩)] (HL.out.kept hk5 (fun _ _ x=>x)) hll ab2
  (fun W m hW hm=>Ui W _ _ bg bt _ _ g t m (HLI.out m hm) (hT2.kept hW (fun x=>x)) (hT1.kept hW (fun x=>x)) (ab3.kept hW (fun x=>x)) (hst5.kept hW (fun x=>x)))
 have e1:((w4.alloc (.cells #[.map (some bt)] 88)).alloc (.cells #[.map (some bg)] 88)).cell? ⟨w.heap.size,1,none⟩=some (.slice A0 l.length c0):=hh5.cell 1
 have IU:=ah Yn;clear Yn
 have cO:=ah hk5;clear hk5 hk4 hk hka bn
 have PX:=ah PW;clear PW hr HR3
 have HH5:=ah hh5;clear hh5 hh HH3
 have aft:=ah hst5;clear hst5 hst HST
 have afu:=ah ab3;clear ab3 hsg
 have HT1:=ah hT1;clear hT1
 have HT2:=ah hT2;clear hT2
 go_wp2_with fail
 refine IU.out.mono ?_
 rintro e w6 ⟨⟨O,n,oc,rfl,hrow⟩,hk⟩
 have hz6:=hk.size
 have hk6:=cO.out.then hk
 have hr:=PX.out.kept hk (fun x=>x)
 have hh:=HH5.out.kept hk (fun x=>x)
 have hst:=aft.out.kept hk (fun x=>x)
 have hsg:=afu.out.kept hk (fun x=>x)
 have ht1:=HT1.out.kept hk (fun x=>x)
 have ht2:=HT2.out.kept hk (fun x=>x)
 have hfe:l.filter (isFirst g t)=firsts l t g:=rfl
 rw[hfe]at hrow
 rw[<-hz5]at hz6
 have hwb:w.heap.size<=((w4.alloc (.cells #[.map (some bt)] 88)).alloc (.cells #[.map (some bg)] 88)).heap.size:=by rw[<-hz5];omega
 have hrow:=hrow.mono hwb
 clear e1 hz5 hwb hfe
 have ah3:w.heap.size+2<=w6.heap.size:=by omega
 clear hz2 hz3 hz4 hz6 hbt hbg
 have jY:=ah hk6;clear hk6 hk cO IU
 have HR:=ah hr;clear hr PX
 have HH6:=ah hh;clear hh HH5
 have y8:=ah hst;clear hst aft
 have afv:=ah hsg;clear hsg afu
 have afw:=ah ht1;clear ht1 HT1
 have afx:=ah ht2;clear ht2 HT2
 have xW:=ah hrow;clear hrow
 have e1:w6.cell? ⟨w.heap.size,1,none⟩=some (.slice A0 l.length c0):=HH6.out.cell 1
 by_cases hz:n=0
 ·have hN:gU ep l fl t g j last=⟨7,0,[],0,[]⟩:=by
   unfold gU
   rw[if_neg (by rw[lX.out];simp),if_pos (List.eq_nil_of_length_eq_zero (by rw[<-xW.out.1];exact hz))]
  have nV:=ah hN;clear hN
  have b1:((n:Int)==0)=true:=by rw[beq_iff_eq];omega
  clear hz e1
  have r0:w6.cell? ⟨w.heap.size+1,0,none⟩=some (.int .i64 0):=HR.out.cell 0
  have r1:w6.cell? ⟨w.heap.size+1,1,none⟩=some (.slice none 0 0):=HR.out.cell 1
  have r2:w6.cell? ⟨w.heap.size+1,2,none⟩=some (.int .u64 0):=HR.out.cell 2
  have f0:=HR.out.frozen 0
  have f1:=HR.out.frozen 1
  have f2:=HR.out.frozen 2
  go_wp2
  refine bodyPost_ret (v:=.tuple #[.agg #[.int .i64 0,.slice none 0 0,.int .u64 0],.slice none 0 0,.int .i64 7]) (by simp[results,Tryz.results106,go_sem,r0,r1,r2]) rfl (?_:kD w (gU ep l fl t g j last) _ _)
  rw[nV.out]
  exact⟨none,0,0,none,0,0,rfl,cu.nil _ _,fA.nil _ _,by(repeat'(first|(with_reducible first|exact ak|apply au|apply ay|apply aA|apply aB)|(exact jY.out)|(right;simp;done)))⟩
 have b1:((n:Int)==0)=false:=by rw[beq_eq_false_iff_ne];omega
 have agv:0<n:=by omega
 have hne:firsts l t g≠[]:=by
  intro e
  have:=xW.out.1
  rw[e]at this
  exact hz this
 have Dj:=ah hne;clear hne hz
 have yR:=pick_any w6 A0 c0 l (wI g t) 181 #[.pointer (some ⟨w4.heap.size+1,0,none⟩),.pointer (some ⟨w4.heap.size,0,none⟩)] (HL.out.kept jY.out (fun _ _ x=>x)) hll adR
  (fun W m hW hm=>Xg W _ _ bg bt _ _ g t m (HLI.out m hm) (afx.out.kept hW (fun x=>x)) (afw.out.kept hW (fun x=>x)) (afv.out.kept hW (fun x=>x)) (y8.out.kept hW (fun x=>x)))
 have IV:=ah yR;clear yR
 go_wp2_with fail
 refine IV.out.mono ?_
 rintro e w7 ⟨⟨P,m,pc,rfl,hrow2⟩,hk⟩
 have Zy:=hk.size
 have lN:=jY.out.then hk
 have hr:=HR.out.kept hk (fun x=>x)
 have hh:=HH6.out.kept hk (fun x=>x)
 have hrow:=xW.out.kept hk
 have hfe:l.filter (wI g t)=rests l t g:=rfl
 rw[hfe]at hrow2
 clear e1 hfe
 have yE:=ah lN;clear lN hk jY IV
 clear HR
 have HR7:=ah hr;clear hr
 have HH7:=ah hh;clear hh HH6
 have wE:=ah hrow;clear hrow xW
 have Jo:=ah hrow2;clear hrow2
 clear y8 afv afw afx
 have hnm:n+m<=1000:=by
  have h1:=E9 l g t
  have h2:=wE.out.1
  have h3:=Jo.out.1
  rw[List.length_append]at h1
  omega
 have hco:=Uj (w7.alloc (.cells #[.slice O n oc,.slice P m pc] 22)) w7.heap.size O P n oc m pc (firsts l t g) (rests l t g) (Has.new w7 _ _) wE.out.1 Jo.out.1 ((wE.out.kept ((Kept.refl aj w7).alloc _)).src) ((Jo.out.kept ((Kept.refl aj w7).alloc _)).src) agv (by omega)
 have qK:=ah hco;clear hco
 go_wp2_with fail
 refine qK.out.mono ?_
 rintro e w8 ⟨⟨Q,k,qc,rfl,hrow3⟩,hk⟩
 have hka:=((Kept.refl aj w7).alloc (.cells #[.slice O n oc,.slice P m pc] 22)).then hk
 have DI:w7.heap.size+1<=w8.heap.size:=by have:=hk.size;simp at this;omega
 have hk8:=yE.out.then hka
 have hr:=HR7.out.kept hka (fun x=>x)
 have hh:=HH7.out.kept hka (fun x=>x)
 have hrow:=wE.out.kept hka
 have hoff:∀k',RowOf (.slice O n oc) k'->k'<w7.heap.size:=fun k' h=>wE.out.lt h
 have hbase:∀k',RowOf (.slice Q k qc) k'->w7.heap.size+1<=k':=fun k' h=>by have:=hrow3.2.2 k' h;simpa using this
 have Zz:=hrow3.mono (b':=w.heap.size) (by simp;omega)
 clear hrow3
 have pR:=ah hoff;clear hoff
 have Nb:=ah hbase;clear hbase
 have vg:=ah hk8;clear hk8 hk hka yE qK
 have HR8:=ah hr;clear hr HR7
 have HH8:=ah hh;clear hh HH7
 have FM:=ah hrow;clear hrow wE Jo
 have Jp:=ah Zz;clear Zz
 have hjo:=aaA w.heap.size w8 Q A3 k qc c3 (firsts l t g++rests l t g) j Jp.out (by omega) (HJ.out.kept vg.out (fun _ _ x=>x))
  (fun hpos ad had hro=>by
   obtain⟨ad',e,hlt,_⟩:=HJ.out.2 hpos
   rw[had]at e
   injection e with e
   subst e
   have:=Nb.out _ hro
   omega) (by have:=E9 l g t;omega) hjl
 have HJO:=ah hjo;clear hjo
 go_wp2_with fail
 refine HJO.out.mono ?_
 rintro e w9 ⟨⟨R,k9,rc,rfl,hrow3⟩,hk⟩
 have FX:=hk.size
 have hrc:Kept aj w w9:=vg.out.trans hk (fun i hi=> .inr (by have:=Nb.out i hi;omega))
 have hr:=HR8.out.kept hk (Jp.out.off HR8.out (by decide))
 have hh:=HH8.out.kept hk (Jp.out.off HH8.out (by decide))
 have hrow:=FM.out.far hk (fun k' h1 h2=>by have:=pR.out k' h1;have:=Nb.out k' h2;omega)
 have hae:fD (firsts l t g++rests l t g) j=allOf l t g j:=rfl
 rw[hae]at hrow3
 clear hae
 have nK:=ah hrc;clear hrc hk vg HJO
 have HR:=ah hr;clear hr HR8
 have HH9:=ah hh;clear hh HH8
 have FN:=ah hrow;clear hrow FM Jp
 have Nc:=ah hrow3;clear hrow3 pR Nb
 have hlenA:(allOf l t g j).length<=5000:=by
  have h1:∀(a:List Mem) (b:List Mem),(fD b a).length<=b.length+a.length:=by
   intro a
   induction a with
   |nil=>intro b;simp[fD]
   |cons x a ih=>
    intro b
    have h2:=ih (jA b x)
    have h3:(jA b x).length<=b.length+1:=by unfold jA;split<;>simp
    have h4:fD b (x::a)=fD (jA b x) a:=rfl
    rw[h4,List.length_cons]
    omega
  have h2:=h1 j (firsts l t g++rests l t g)
  have h3:=E9 l g t
  unfold allOf
  omega
 have heq:=adg w9 R A0 rc c0 k9 l.length (allOf l t g j) l Nc.out.1 rfl Nc.out.src (HL.out.kept nK.out (fun _ _ x=>x)) (by omega) (by omega)
 obtain⟨eb,heb⟩:∃eb,rV (allOf l t g j) l=eb:=⟨_,rfl⟩
 rw[heb]at heq
 have HEQ:=ah heq;clear heq
 have e1:w9.cell? ⟨w.heap.size,1,none⟩=some (.slice A0 l.length c0):=HH9.out.cell 1
 clear HT HG HJ hlenA
 cases eb
 rotate_left
 ·have hN:gU ep l fl t g j last=⟨20,0,[],0,[]⟩:=by
   unfold gU
   unfold rV at heb
   rw[if_neg (by rw[lX.out];simp),if_neg Dj.out,if_pos (by simpa using heb)]
  have nV:=ah hN;clear hN heb
  go_wp2_with fail
  refine HEQ.out.mono ?_
  rintro e w10 ⟨rfl,hk⟩
  have hr:=HR.out.kept hk (fun x=>x)
  have hk4:=nK.out.then hk
  clear hk HR e1
  have HR:=ah hr;clear hr
  have dW:=ah hk4;clear hk4
  have r0:w10.cell? ⟨w.heap.size+1,0,none⟩=some (.int .i64 0):=HR.out.cell 0
  have r1:w10.cell? ⟨w.heap.size+1,1,none⟩=some (.slice none 0 0):=HR.out.cell 1
  have r2:w10.cell? ⟨w.heap.size+1,2,none⟩=some (.int .u64 0):=HR.out.cell 2
  have f0:=HR.out.frozen 0
  have f1:=HR.out.frozen 1
  have f2:=HR.out.frozen 2
  go_wp2
  refine bodyPost_ret (v:=.tuple #[.agg #[.int .i64 0,.slice none 0 0,.int .u64 0],.slice none 0 0,.int .i64 20]) (by simp[results,Tryz.results106,go_sem,r0,r1,r2]) rfl (?_:kD w (gU ep l fl t g j last) _ _)
  rw[nV.out]
  exact⟨none,0,0,none,0,0,rfl,cu.nil _ _,fA.nil _ _,by(repeat'(first|(with_reducible first|exact ak|apply au|apply ay|apply aA|apply aB)|(exact dW.out)|(right;simp;done)))⟩
 have hneq:allOf l t g j≠l:=by
  unfold rV at heb
  simpa using heb
 have ab4:=ah hneq;clear hneq heb
 by_cases hmx:1073741824<=ep
 ·have hN:gU ep l fl t g j last=⟨5,0,[],0,[]⟩:=by
   unfold gU
   rw[if_neg (by rw[lX.out];simp),if_neg Dj.out,if_neg ab4.out,if_pos hmx]
  have nV:=ah hN;clear hN
  go_wp2_with fail
  refine HEQ.out.mono ?_
  rintro e w10 ⟨rfl,hk⟩
  have hr:=HR.out.kept hk (fun x=>x)
  have hh:=HH9.out.kept hk (fun x=>x)
  have hk4:=nK.out.then hk
  clear hk HR e1
  have e0:w10.cell? ⟨w.heap.size,0,none⟩=some (.int .i64 ep):=hh.cell 0
  have HR:=ah hr;clear hr hh
  have dW:=ah hk4;clear hk4
  have r0:w10.cell? ⟨w.heap.size+1,0,none⟩=some (.int .i64 0):=HR.out.cell 0
  have r1:w10.cell? ⟨w.heap.size+1,1,none⟩=some (.slice none 0 0):=HR.out.cell 1
  have r2:w10.cell? ⟨w.heap.size+1,2,none⟩=some (.int .u64 0):=HR.out.cell 2
  have f0:=HR.out.frozen 0
  have f1:=HR.out.frozen 1
  have f2:=HR.out.frozen 2
  go_wp2
  refine bodyPost_ret (v:=.tuple #[.agg #[.int .i64 0,.slice none 0 0,.int .u64 0],.slice none 0 0,.int .i64 5]) (by simp[results,Tryz.results106,go_sem,r0,r1,r2]) rfl (?_:kD w (gU ep l fl t g j last) _ _)
  rw[nV.out]
  exact⟨none,0,0,none,0,0,rfl,cu.nil _ _,fA.nil _ _,by(repeat'(first|(with_reducible first|exact ak|apply au|apply ay|apply aA|apply aB)|(exact dW.out)|(right;simp;done)))⟩
 obtain⟨AP,ab5⟩:∃AP,o8 fl last=AP:=⟨_,rfl⟩
 have hN:gU ep l fl t g j last=⟨0,ep+1,allOf l t g j,AP,ids (firsts l t g)⟩:=by
  unfold gU
  rw[if_neg (by rw[lX.out];simp),if_neg Dj.out,if_neg ab4.out,if_neg hmx,ab5]
 have nV:=ah hN;clear hN
 have ab6:1<=ep:=(iT lX.out).1.1
 have hfo:=fun W=>TM W fl last oM.out HLA.out
 rw[ab5]at hfo
 have hfq:∀W,Calls Tryz.prog 185 #[.int .u64 fl,.int .u64 last] W (fun e w''=>e=.returned (.int .u64 AP)/\w''=W):=fun W=>(hfo W).mono fun e w' h=>⟨h.1,h.2.symm⟩
 have HFO:=ah hfq;clear hfo hfq ab5
 have afy:(firsts l t g).length<=1000:=by have:=List.length_filter_le (isFirst g t) l;unfold firsts;omega
 have acU:ids (firsts l t g)=((firsts l t g).map (·.1)).mergeSort fun x y=>decide (x<=y):=rfl
 rw[acU]at nV
 clear acU
 obtain⟨S,hS⟩:∃S,firsts l t g=S:=⟨_,rfl⟩
 rw[hS]at nV afy FN
 clear hS Dj ab4 HL oM HLA lX SY HGI HLI
 have hnS:=FN.out.1
 rw[<-hnS]at afy
 clear hnS
 go_wp2_with fail
 refine HEQ.out.mono ?_
 rintro e w10 ⟨rfl,hk⟩
 have ahd:=hk.size
 have hr:=HR.out.kept hk (fun x=>x)
 have hh:=HH9.out.kept hk (fun x=>x)
 have hrow:=FN.out.kept hk
 have hall:=Nc.out.kept hk
 have hk10:=nK.out.then hk
 clear hk HR e1
 have e0:w10.cell? ⟨w.heap.size,0,none⟩=some (.int .i64 ep):=hh.cell 0
 have C4:=ah hk10;clear hk10 nK HEQ
 have HR:=ah hr;clear hr
 have afz:=ah hh;clear hh HH9
 have Bz:=ah hrow;clear hrow FN
 have PY:=ah hall;clear hall Nc
 have hzz:w.heap.size<=w10.heap.size:=by omega
 clear Zy DI FX ahd
 go_wp2_with fail
 go_loopw [19,63] (fun v19 v63 wr=>∃(i:Nat) (B:Option Addr) (m d:Nat),i<=n/\v63=.int .i64 i/\v19=.slice B m d/\fA w10.heap.size wr B m d ((S.take i).map (·.1))/\Kept aj w10 wr) (fun _ v63 _=>n-(intOf v63).toNat)
 case atStart=>exact⟨0,none,0,0,Nat.zero_le _,rfl,rfl,fA.nil _ _,Kept.refl _ _⟩
 case round=>
  obtain⟨i,B,m,d,hi,rfl,rfl,hB,hk⟩:=hrel
  have hml:m<=1000:=by have h0:=hB.1;rw[List.length_map]at h0;have:=List.length_take_le i S;omega
  have HB:=ah hB;clear hB
  have HK:=ah hk;clear hk
  obtain⟨wo,hwo⟩:∃wo:World,wo=wr:=⟨_,rfl⟩
  subst hwo
  by_cases hin:i<n
  ·obtain⟨x,hx⟩:∃x,S[i]? =some x:=⟨_,List.getElem?_eq_getElem (by rw[<-Bz.out.1];exact hin)⟩
   obtain⟨ad,hA,had,d0,d1⟩:=iH ((Bz.out.kept HK.out).src) (by rw[<-Bz.out.1];omega) i x hx
   subst hA
   have hsn:(S.take (i+1)).map (·.1)=(S.take i).map (·.1)++[x.1]:=by rw[take_snoc hx];simp
   have vk:=ah hsn;clear hsn hx
   obtain⟨x1,x2⟩:=x
   dsimp only at d0 d1 vk
   have hS1:Hid (m+1<=maxLen):=ah (by unfold maxLen;omega)
   have hS2:Hid ((m+1)*8<=140737488355328):=ah (by omega)
   go_wp2_with (at_builtin;refine aN jQ (.tmp 67) (.tmp 70) rfl rfl (Value.slice B m d) rfl ((HB.out.kept (((Kept.refl _ _).alloc _).alloc _)).2.1) 1 rfl (Src.dn (m:=1) (cs:=#[.int .i64 x1]) (Has.bT _ 3 _ (by simp)) rfl) (by intro u hu;simp at hu;subst hu;rfl) hS1.out hS2.out ?_;intro B3 d3 w12 ho3 hg3 yL)
   have aie:=HK.out.size
   have hn3:fA w10.heap.size w12 B3 (m+1) d3 ((S.take i).map (·.1)++[x1]):=(HB.out.kept (((Kept.refl _ _).alloc _).alloc _)).snoc (by simp;omega) ho3 yL
   have hk9:Kept aj w10 w12:=((HK.out.alloc _).alloc _).grown hg3 (fun k hk=> .inr (HB.out.2.2 k hk))
   rw[<-vk.out]at hn3
   clear ho3 hg3 yL
   have mF:=ah hn3;clear hn3
   have nK:=ah hk9;clear hk9
   go_wp2
   go_roundw
   case rel=>exact⟨i+1,B3,m+1,d3,by omega,by go_num,rfl,mF.out,nK.out⟩
   case measure=>simp[intOf];omega
  ·obtain rfl:i=n:=by omega
   have hB':=HB.out
   rw[List.take_of_length_le (by rw[<-Bz.out.1];omega)]at hB'
   have hso:=Xk hB' (by simp;have:=Bz.out.1;omega)
   have hkw:=C4.out.then HK.out
   have hr:=HR.out.kept HK.out (fun x=>x)
   have hh:=afz.out.kept HK.out (fun x=>x)
   have hall:=PY.out.kept HK.out
   have acV:=hB'.off hr (by decide)
   have acW:=hB'.off hh (by decide)
   have acX:∀k',RowOf (.slice B m d) k'->w10.heap.size<=k':=fun k' h=>hB'.2.2 k' h
   have acY:∀k',RowOf (.slice R k9 rc) k'->k'<w10.heap.size:=fun k' h=>PY.out.lt h
   have hzo:=HK.out.size
   clear HR HB hB'
   have HSO:=ah hso;clear hso
   have nJ:=ah hkw;clear hkw HK C4
   have HRW:=ah hr;clear hr
   have HHW:=ah hh;clear hh afz
   have acZ:=ah hall;clear hall PY Bz
   have tX:=ah acV;clear acV
   have HO2:=ah acW;clear acW
   have HO3:=ah acX;clear acX
   have HO4:=ah acY;clear acY
   go_wp2_with fail
   refine HSO.out.mono ?_
   rintro e DJ ⟨rfl,hints,hk⟩
   have hr:=HRW.out.kept hk tX.out
   have hh:=HHW.out.kept hk HO2.out
   have hall:=acZ.out.far hk (fun k' h1 h2=>by have:=HO3.out k' h2;have:=HO4.out k' h1;omega)
   have afA:Kept aj w DJ:=nJ.out.trans hk (fun i hi=> .inr (by have:=HO3.out i hi;omega))
   have e0':DJ.cell? ⟨w.heap.size,0,none⟩=some (.int .i64 ep):=hh.cell 0
   have e2:DJ.cell? ⟨w.heap.size,2,none⟩=some (.int .u64 fl):=hh.cell 2
   have ab7:=ah afA;clear afA hk
   have EX:=ah hr;clear hr HRW
   have ZA:=ah hall;clear hall acZ hh HHW
   have ahe:=ah hints;clear hints
   go_wp2_with fail
   have r0:DJ.cell? ⟨w.heap.size+1,0,none⟩=some (.int .i64 0):=EX.out.cell 0
   have r1:DJ.cell? ⟨w.heap.size+1,1,none⟩=some (.slice none 0 0):=EX.out.cell 1
   have r2:DJ.cell? ⟨w.heap.size+1,2,none⟩=some (.int .u64 0):=EX.out.cell 2
   have f0:=EX.out.frozen 0
   have f1:=EX.out.frozen 1
   have f2:=EX.out.frozen 2
   go_region_held3 (fun W=>W.cell? ⟨w.heap.size,0,none⟩=some (.int .i64 ep)/\W.cell? ⟨w.heap.size,2,none⟩=some (.int .u64 fl)) (first|exact⟨e0',e2⟩|(simp[go_sem,e0',e2];done)) (first|(go_at_call 185;refine(HFO.out _).mono ?_;rintro e w' ⟨rfl,rfl⟩))
   have hwr:IntKind.i64.wrap (ep+1)=ep+1:=IntWalk.i64_in _ (by omega)
   go_wp2
   refine bodyPost_ret (v:=.tuple #[.agg #[.int .i64 (ep+1),.slice R k9 rc,.int .u64 AP],.slice B m d,.int .i64 0]) (by simp[results,Tryz.results106,go_sem,r0,r1,r2,f0,f1,f2,hwr]) rfl (?_:kD w (gU ep l fl t g j last) _ _)
   rw[nV.out]
   have hkk:∀a b c,Kept (fun k=>k=w.heap.size+1) DJ (((DJ.setCell ⟨w.heap.size+1,0,none⟩ a).setCell ⟨w.heap.size+1,1,none⟩ b).setCell ⟨w.heap.size+1,2,none⟩ c).drew:=fun a b c=>(Kept.put (F:=fun k=>k=w.heap.size+1) (Kept.put (F:=fun k=>k=w.heap.size+1) (Kept.put (F:=fun k=>k=w.heap.size+1) (Kept.refl _ _) (.inl rfl)) (.inl rfl)) (.inl rfl)).drew
   refine⟨R,k9,rc,B,m,d,rfl,?_,?_,?_⟩
   ·exact ZA.out.far (hkk _ _ _) (fun k hk e=>ZA.out.off EX.out (by decide) (by rw[<-e];exact hk))
   ·have h1:=ahe.out
    exact⟨h1.1,aC h1.2.1 (hkk _ _ _) (fun k hk e=>h1.off EX.out (by decide) (by rw[<-e];exact hk)),fun k hk=>Nat.le_trans hzz (h1.2.2 k hk)⟩
   ·(repeat'(first|(with_reducible first|exact ak|apply au|apply ay|apply aA|apply aB)|(exact ab7.out)|(right;simp;done)))
end aO
end Go.Proofs.YtfjdpbbgfjhnlaaGreat
namespace Go.Proofs.YtfjdpbbgfjhnlaaGreat
open Go.RowKit
set_option maxRecDepth 100000
namespace dH
open aO Vn Mst lV IM mY gZ
section
variable{w w':World}{X X0:MX}{M M0:MR}{c k:Nat}
theorem eF.PZ{q:IntKind}{e t:TypeId}{b n:Nat}{f:Int->Option Int}(h:eF q e w b n f)(ht:Tryz.prog.underlying t=some (.map 3 e)):
  ∃w',(∀ty,(Builtin.clear_ #[t] ty #[.map (some b)]).run Tryz.prog w=.ok (.tuple #[]) w')/\eF q e w' b n (fun _=>none)/\Kept (fun i=>i=b) w w':=by
 obtain⟨es,c,hb⟩:=eF.map h
 obtain⟨w',hr,h1,h2⟩:=eF.clear h ht 3
 have hr':=fun ty=>xA ht hb ty
 have e1:w'=ChangeMaps.setBlock w b (.map #[] c):=by
  have:=(hr' 3).symm.trans hr
  injection this with _ h3
  exact h3.symm
 subst e1
 exact⟨_,hr',h1,h2⟩
theorem bM.PZ{b n:Nat}{s:Int->Bool}(h:bM w b n s):
  ∃w',(∀ty,(Builtin.clear_ #[88] ty #[.map (some b)]).run Tryz.prog w=.ok (.tuple #[]) w')/\bM w' b n (fun _=>false)/\Kept (fun i=>i=b) w w':=by
 obtain⟨es,c,hb⟩:=bM.map h
 obtain⟨w',hr,h1,h2⟩:=bM.clear h 3
 have hr':=fun ty=>xA (k:=3) (e:=4) Tryz.underlying88 hb ty
 have e1:w'=ChangeMaps.setBlock w b (.map #[] c):=by
  have:=(hr' 3).symm.trans hr
  injection this with _ h3
  exact h3.symm
 subst e1
 exact⟨_,hr',h1,h2⟩
theorem TA(hF:∀k,dX X M k->k<w.heap.size){W:World}{e:TypeId}{size n c:Nat}{A:Option Addr}{xs:List Value}(hr:W.ownsRow 0 e size (.slice A n c) n xs)(hnew:∀k,(Value.slice A n c).ownBlock=some k->w.heap.size<=k):0<n->∀ad,A=some ad->¬dX X M ad.block:=by
 intro h0 ad e1 hf
 obtain⟨g,cap,hv,_,_⟩:=hr.form h0
 rw[e1]at hv
 injection hv with hv
 injection hv with hv
 have h1:=hF _ hf
 have h2:=hnew g (by rw[e1,hv];rfl)
 rw[hv]at h1
 dsimp only at h1
 omega
theorem Vw(x:Int)(h:0<=x/\x<1000):I64 x:=aH.fZ h.1 (by omega)
theorem ZB(h:qG M.st):∀m∈M.st.ms,I64 m.1:=by
 rcases h.inv.conf with h1|h1
 ·rw[h1.2.1];intro m hm;cases hm
 ·intro m hm
  have:=(iT h1.1).2.2.2.id m hm
  exact Vw _ ⟨this.1,by omega⟩
theorem afB(h:qG M.st):∀x∈M.st.lg,I64 x:=by
 rcases h.inv.conf with h1|h1
 ·rw[h1.2.2.2];intro m hm;cases hm
 ·intro m hm
  have:=(zL.1 h1.2.1).1 m hm
  exact Vw _ ⟨this.1,by omega⟩
theorem ab8(M:MR)(n:Nat)(hn:n<=4):∀x∈iQ M n,I64 x:=by
 intro x hx
 unfold iQ at hx
 obtain⟨y,hy,rfl⟩:=List.mem_map.1 hx
 have:=List.mem_range.1 (List.mem_filter.1 hy).1
 exact Vw _ ⟨by omega,by omega⟩
end
end dH
end Go.Proofs.YtfjdpbbgfjhnlaaGreat
