/- Part 34. -/
import Derived.Test.YtgbigpdiacjbgaaGreatKP32
set_option linter.unusedSimpArgs false
set_option linter.unusedVariables false
set_option maxHeartbeats 32000000
set_option maxRecDepth 100000
namespace Go.Proofs.YtgbigpdiacjbgaaGreat
open Go.RowKit
namespace Rm
open bg Ops fG eP MO Vn bJ qh iI Go.Proofs.YtgbigpdiacjbgaaGreat.Ask
attribute [local go_sem↓] bW cZ
section
variable{w W W':World}{s:ByteArray}{g b4 b6 l8:Nat}{m x x':aO}{r r':RS}{v:Value}{e:Ending}
theorem Il{s:ByteArray}{r:RS}(h:(aN s 65536 r).2.2≠0):qj s r=(zy,(aN s 65536 r).2.2):=if_pos h
theorem LC{s:ByteArray}{r:RS}(h:(aN s 65536 r).2.2=0):qj s r=uj (aN s 65536 r).1:=if_neg (fun z=>z h)
theorem Io{s:ByteArray}{r:RS}(h:(aN s 65536 r).2.2≠0):lS s r=(zero,(aN s 65536 r).2.2):=if_pos h
theorem Tt{s:ByteArray}{r:RS}(h:(aN s 65536 r).2.2=0):lS s r=pq (aN s 65536 r).1:=if_neg (fun z=>z h)
theorem aaV{B:Nat}(h:fB w g s r)(hs:s.size<=maxLen)(m:aO)(hx:dF w B m)(hB:g<B)(hBw:B<=w.heap.size):Calls Tryz.prog 71 #[.pointer (some ⟨g,0,none⟩),aK m,.int .u8 67] w (gu w s g B 67 m r):=by
 obtain⟨W0,W1,Wz,W8,hW0,hW1,gY,hl,hst,hd,ho⟩:=Dm.start h m;have hrd:=oU W8 g s r 65536 hd.rd hs (by decide);have hsz:(aN s 65536 r).1.size<=maxLen:=Nat.le_trans (text_size _ _ _) hs;have hp:bG s 67 (strip m) r=({strip m with fO:=(qj s r).1.ep,ms:=(qj s r).1.ms,mG:=(qj s r).1.fl},(aN s 65536 r).2,(qj s r).2):=rfl;have hbd:(aN s 65536 r).2.2=0->(uj (aN s 65536 r).1).1.ms.length<=4/\0<=(uj (aN s 65536 r).1).1.fl/\(uj (aN s 65536 r).1).1.fl<=aY:=fun he=>by have:=Td s r;rw[LC he]at this;exact this
 have hbad:(aN s 65536 r).2.2≠0->∀W,fB W g s (aN s 65536 r).2->dF W B m->Kept (fun k=>k=g) w W->gu w s g B 67 m r (.returned (.tuple #[aK m,.int .i64 0])) W:=fun he W a b d=>
  ⟨m,0,_,rfl,a,b,d,fun k hk=> .inl hk,⟨.inr ⟨rfl,rfl,rfl⟩,.inr ⟨rfl,rfl,rfl⟩,.inr ⟨rfl,rfl,rfl⟩⟩,by rw[hp];dsimp only;rw[Il he];exact fun z=>absurd z he,by rw[hp];dsimp only;rw[Il he];exact fun z=> .inr ⟨rfl,rfl⟩⟩
 have hgood:(aN s 65536 r).2.2=0->∀W x er,er=(uj (aN s 65536 r).1).2->strip x={strip m with fO:=(uj (aN s 65536 r).1).1.ep,ms:=(uj (aN s 65536 r).1).1.ms,mG:=(uj (aN s 65536 r).1).1.fl}->fB W g s (aN s 65536 r).2->dF W B x->Kept (fun k=>k=g) w W->(∀k,rowB x k->rowB m k\/w.heap.size<=k)->pF 67 m x->gu w s g B 67 m r (.returned (.tuple #[aK x,.int .i64 er])) W:=fun he W x er e1 e2 a b d f f2=>
  ⟨x,er,_,rfl,a,b,d,f,f2,by rw[hp];dsimp only;rw[LC he];exact fun z=>⟨e1.trans z,rfl,e2⟩,by rw[hp];dsimp only;rw[LC he];exact fun z=> .inl e1⟩
 generalize gu w s g B 67 m r=Q at hbad hgood⊢;have hof:=VD;obtain⟨q,hq⟩:∃q,aN s 65536 r=q:=⟨_,rfl⟩;rw[hq]at hrd hbad hgood hsz hbd;obtain⟨tx,a2,er⟩:=q;dsimp only at hrd hbad hgood hsz hbd;have hof:=fun W=>hof W tx hsz;obtain⟨b4,hb4⟩:∃b,w.heap.size=b:=⟨_,rfl⟩;obtain⟨b6,hb6⟩:∃b,W0.heap.size=b:=⟨_,rfl⟩;obtain⟨l8,hb8⟩:∃b,W1.heap.size=b:=⟨_,rfl⟩;rw[hb4]at hl;rw[hb8]at hst;rw[hb4,hb6,hb8]at hd ho;have fV:=ah hrd;have HBAD:=ah hbad;have zB:=ah hgood;have HD:=ah hd;have HO:=ah ho;have HX:=ah hx;have HB:=ah (And.intro hB hBw);have dw:=ah hof;have GV:=ah hbd;have hwb:w.heap.size=b4:=hb4;have LD:=ah hwb;clear hwb;obtain⟨cs,hcs⟩:∃cs,(au m).toArray=cs:=⟨_,rfl⟩;have dV:=ah hcs;unfold aK;rw[hcs]at hW0 hl hst⊢;clear hrd hbad hgood hd ho hx hB hBw hq hp h hcs hof hsz hbd;go_enter Tryz.func71,Tryz.ntmps71;go_wp2_with fail;clear hW0 hW1 gY hl hst hb4 hb6 hb8;refine fV.out.mono ?_;intro e w3 hr;obtain⟨rfl,hd3,hk3⟩:=HD.out.read HO.out hr;have qe:w3.cell? ⟨g,2,none⟩=some (.int .i64 er):=hd3.rd.1.cell 2;by_cases he:er=0;rotate_left
 ·have he2:(er==0)=false:=by simpa using he
  obtain⟨W5,hst5,h65,dM,hk5,-⟩:=hd3.fin HO.out;have hl4:=aH _ l8 _ hd3.h8;have hx:=HX.out.kept hk5 (fun k hk=>by have:=HB.out;omega);have hend:=HBAD.out he W5 dM hx hk5;have aX:=ah hend;have gQ:=ah (aH _ _ _ h65);unfold aK at aX;rw[dV.out]at hst5 hl4 gQ aX;clear hr hd3 hk3 dM hk5 hx hend h65 he zB HBAD HX HD fV dw;go_wp2_with fail;refine bodyPost_ret (aU rfl _ _ b6 _ rfl gQ.out) rfl ?_;exact aX.out
 ·subst he;have hof:=dw.out w3;have hgood:=zB.out rfl;unfold yw at hof;obtain⟨q,hq⟩:∃q,uj tx=q:=⟨_,rfl⟩;have hbd:=GV.out rfl;rw[hq]at hof hbd;simp only[hq]at hgood;obtain⟨⟨ep,ms,fl⟩,Z7⟩:=q;dsimp only at hof hgood hbd;have HB2:=ah hbd;clear hbd GV;obtain⟨n,hn⟩:∃n,ms.length=n:=⟨_,rfl⟩;rw[hn]at hof;have gK:=ah hof;have qF:=ah hn;have HD3:=ah hd3;have dI:=ah hk3;have HG:=ah hgood;clear hof hn hq hd3 hk3 hr hgood zB HBAD fV HD dw;go_wp2_with fail;clear qe;refine gK.out.mono ?_;rintro e w4 ⟨A,c,rfl,hsr,hc1,hc2,hnw,hk⟩;have hd4:=HD3.out.quiet hk;have q0:w4.cell? ⟨l8,13,none⟩=some ((au m)[13]'(by show 13<22;decide)):=hd4.h8.cell 13;have q1:w4.cell? ⟨l8,14,none⟩=some ((au m)[14]'(by show 14<22;decide)):=hd4.h8.cell 14;have q2:w4.cell? ⟨l8,15,none⟩=some ((au m)[15]'(by show 15<22;decide)):=hd4.h8.cell 15;have f0:=hd4.h8.frozen 13;have f1:=hd4.h8.frozen 14;have f2:=hd4.h8.frozen 15;have hd5:=hd4.put (i:=13) (u:=.int .i64 ep) (x':={m with fO:=ep}) HO.out rfl;have hd6:=hd5.put (i:=14) (u:=.slice A n c) (x':={m with fO:=ep,mA:=A,mc:=c,ms:=ms}) HO.out (by rw[<-qF.out];rfl);have hd7:=hd6.put (i:=15) (u:=.int .u64 fl) (x':={m with fO:=ep,mA:=A,mc:=c,ms:=ms,mG:=fl}) HO.out (by rfl);obtain⟨W5,hst5,h65,dM,hk5,hk6⟩:=hd7.fin HO.out;have hl4:=aH _ l8 _ hd7.h8;have h8l:l8<w3.heap.size:=HD3.out.h8.lt;have hws:w.heap.size<=w3.heap.size:=HD3.out.k.size;have LG:Kept (fun k=>k=l8\/k=b6) w4 W5:=Kept.trans ((((Kept.refl (fun k=>k=l8\/k=b6) w4).put (.inl (.inl rfl))).put (.inl (.inl rfl))).put (.inl (.inl rfl))) hk6 (fun k hk=> .inl (.inr hk));have LH:Src W5 2 A ms.length (dL ms):=by rw[qF.out];exact hsr.kept LG (fun ad e hf=>by have h1:=hnw ad e;have h2:=HO.out.zk;rcases hf with hf|hf<;>omega)
  have hx:=HX.out.kept hk5 (fun k hk=>by have:=HB.out;omega)
  have hend:=HG.out W5 ({m with fO:=ep,mA:=A,mc:=c,ms:=ms,mG:=fl}) Z7 rfl rfl dM ⟨LH,by show ms.length<=c;rw[qF.out];exact hc1,(fun ad e=>by have h1:=hnw ad e;have h2:=HB.out;omega),HB2.out.1,hx.o,hx.oc,hx.on,hx.e,hx.ec,hx.en,hx.el,hx.eo,hx.s,hx.sl,hx.so,hx.p,hx.pc,hx.pn,hx.pl,⟨hx.t.1,hx.t.2.1,HB2.out.2⟩,hx.s0,hx.pm⟩ hk5 (fun k hk=>by
   rcases hk with z|z|z|z|z|z
   ·obtain⟨_,ad,e,rfl⟩:=z;exact .inr (by have h1:=hnw ad e;omega)
   ·exact .inl (.inr (.inl z))
   ·exact .inl (.inr (.inr (.inl z)))
   ·exact .inl (.inr (.inr (.inr (.inl z))))
   ·exact .inl (.inr (.inr (.inr (.inr (.inl z)))))
   ·exact .inl (.inr (.inr (.inr (.inr (.inr z)))))) ⟨.inr ⟨rfl,rfl,rfl⟩,.inr ⟨rfl,rfl,rfl⟩,.inr ⟨rfl,rfl,rfl⟩⟩
  have aX:=ah hend;have gQ:=ah (aH _ _ _ h65);obtain⟨cs2,hcs2⟩:∃cs,(au ({m with fO:=ep,mA:=A,mc:=c,ms:=ms,mG:=fl})).toArray=cs:=⟨_,rfl⟩;unfold aK at aX;rw[hcs2]at hst5 hl4 gQ aX;clear dM hk5 hx hend h65 hcs2 hd4 hd5 hd6 hd7 hk6 LG LH hsr hk HX HG HD3 dI gK;go_wp2_with fail;refine bodyPost_ret (aU rfl _ _ b6 _ rfl gQ.out) rfl ?_;exact aX.out
theorem aaW{B:Nat}(h:fB w g s r)(hs:s.size<=maxLen)(m:aO)(hx:dF w B m)(hB:g<B)(hBw:B<=w.heap.size):Calls Tryz.prog 71 #[.pointer (some ⟨g,0,none⟩),aK m,.int .u8 66] w (gu w s g B 66 m r):=by
 obtain⟨W0,W1,Wz,W8,hW0,hW1,gY,hl,hst,hd,ho⟩:=Dm.start h m;have hrd:=oU W8 g s r 65536 hd.rd hs (by decide);have hsz:(aN s 65536 r).1.size<=maxLen:=Nat.le_trans (text_size _ _ _) hs;have hp:bG s 66 (strip m) r=({strip m with o7:=(lS s r).1.cl,lK:=(lS s r).1.req,ops:=(lS s r).1.ops},(aN s 65536 r).2,(lS s r).2):=rfl
 have hbad:(aN s 65536 r).2.2≠0->∀W,fB W g s (aN s 65536 r).2->dF W B m->Kept (fun k=>k=g) w W->gu w s g B 66 m r (.returned (.tuple #[aK m,.int .i64 0])) W:=fun he W a b d=>
  ⟨m,0,_,rfl,a,b,d,fun k hk=> .inl hk,⟨.inr ⟨rfl,rfl,rfl⟩,.inr ⟨rfl,rfl,rfl⟩,.inr ⟨rfl,rfl,rfl⟩⟩,by rw[hp];dsimp only;rw[Io he];exact fun z=>absurd z he,by rw[hp];dsimp only;rw[Io he];exact fun z=> .inr ⟨rfl,rfl⟩⟩
 have hgood:(aN s 65536 r).2.2=0->∀W x er,er=(pq (aN s 65536 r).1).2->strip x={strip m with o7:=(pq (aN s 65536 r).1).1.cl,lK:=(pq (aN s 65536 r).1).1.req,ops:=(pq (aN s 65536 r).1).1.ops}->fB W g s (aN s 65536 r).2->dF W B x->Kept (fun k=>k=g) w W->(∀k,rowB x k->rowB m k\/w.heap.size<=k)->pF 66 m x->gu w s g B 66 m r (.returned (.tuple #[aK x,.int .i64 er])) W:=fun he W x er e1 e2 a b d f f2=>
  ⟨x,er,_,rfl,a,b,d,f,f2,by rw[hp];dsimp only;rw[Tt he];exact fun z=>⟨e1.trans z,rfl,e2⟩,by rw[hp];dsimp only;rw[Tt he];exact fun z=> .inl e1⟩
 generalize gu w s g B 66 m r=Q at hbad hgood⊢;have hof:=N5;obtain⟨q,hq⟩:∃q,aN s 65536 r=q:=⟨_,rfl⟩;rw[hq]at hrd hbad hgood hsz;obtain⟨tx,a2,er⟩:=q;dsimp only at hrd hbad hgood hsz;have hof:=fun W=>hof W tx hsz;obtain⟨b4,hb4⟩:∃b,w.heap.size=b:=⟨_,rfl⟩;obtain⟨b6,hb6⟩:∃b,W0.heap.size=b:=⟨_,rfl⟩;obtain⟨l8,hb8⟩:∃b,W1.heap.size=b:=⟨_,rfl⟩;rw[hb4]at hl;rw[hb8]at hst;rw[hb4,hb6,hb8]at hd ho;have fV:=ah hrd;have HBAD:=ah hbad;have zB:=ah hgood;have HD:=ah hd;have HO:=ah ho;have HX:=ah hx;have HB:=ah (And.intro hB hBw);have dw:=ah hof;have hwb:w.heap.size=b4:=hb4;have LD:=ah hwb;clear hwb;obtain⟨cs,hcs⟩:∃cs,(au m).toArray=cs:=⟨_,rfl⟩;have dV:=ah hcs;unfold aK;rw[hcs]at hW0 hl hst⊢;clear hrd hbad hgood hd ho hx hB hBw hq hp h hcs hof hsz;go_enter Tryz.func71,Tryz.ntmps71;go_wp2_with fail;clear hW0 hW1 gY hl hst hb4 hb6 hb8;refine fV.out.mono ?_;intro e w3 hr;obtain⟨rfl,hd3,hk3⟩:=HD.out.read HO.out hr;have qe:w3.cell? ⟨g,2,none⟩=some (.int .i64 er):=hd3.rd.1.cell 2;by_cases he:er=0;rotate_left
 ·have he2:(er==0)=false:=by simpa using he
  obtain⟨W5,hst5,h65,dM,hk5,-⟩:=hd3.fin HO.out;have hl4:=aH _ l8 _ hd3.h8;have hx:=HX.out.kept hk5 (fun k hk=>by have:=HB.out;omega);have hend:=HBAD.out he W5 dM hx hk5;have aX:=ah hend;have gQ:=ah (aH _ _ _ h65);unfold aK at aX;rw[dV.out]at hst5 hl4 gQ aX;clear hr hd3 hk3 dM hk5 hx hend h65 he zB HBAD HX HD fV dw;go_wp2_with fail;refine bodyPost_ret (aU rfl _ _ b6 _ rfl gQ.out) rfl ?_;exact aX.out
 ·subst he;have hof:=dw.out w3;have hgood:=zB.out rfl;unfold vw nT at hof;obtain⟨q,hq⟩:∃q,pq tx=q:=⟨_,rfl⟩;rw[hq]at hof;simp only[hq]at hgood;obtain⟨⟨cl,rq,ops⟩,Z7⟩:=q;dsimp only at hof hgood;obtain⟨n,hn⟩:∃n,ops.length=n:=⟨_,rfl⟩;rw[hn]at hof;have gK:=ah hof;have qF:=ah hn;have HD3:=ah hd3;have dI:=ah hk3;have HG:=ah hgood;clear hof hn hq hd3 hk3 hr hgood zB HBAD fV HD dw;go_wp2_with fail;clear qe;refine gK.out.mono ?_;rintro e w4 ⟨A,c,rfl,hsr,hc1,hc2,hnw,hk⟩;have hd4:=HD3.out.quiet hk;have q0:w4.cell? ⟨l8,16,none⟩=some ((au m)[16]'(by show 16<22;decide)):=hd4.h8.cell 16;have q1:w4.cell? ⟨l8,17,none⟩=some ((au m)[17]'(by show 17<22;decide)):=hd4.h8.cell 17;have q2:w4.cell? ⟨l8,18,none⟩=some ((au m)[18]'(by show 18<22;decide)):=hd4.h8.cell 18;have f0:=hd4.h8.frozen 16;have f1:=hd4.h8.frozen 17;have f2:=hd4.h8.frozen 18;have hd5:=hd4.put (i:=16) (u:=.int .i64 cl) (x':={m with o7:=cl}) HO.out rfl;have hd6:=hd5.put (i:=17) (u:=.int .i64 rq) (x':={m with o7:=cl,lK:=rq}) HO.out (by rfl);have hd7:=hd6.put (i:=18) (u:=.slice A n c) (x':={m with o7:=cl,lK:=rq,oA:=A,oc:=c,ops:=ops}) HO.out (by rw[<-qF.out];rfl);obtain⟨W5,hst5,h65,dM,hk5,hk6⟩:=hd7.fin HO.out;have hl4:=aH _ l8 _ hd7.h8;have h8l:l8<w3.heap.size:=HD3.out.h8.lt;have hws:w.heap.size<=w3.heap.size:=HD3.out.k.size;have LG:Kept (fun k=>k=l8\/k=b6) w4 W5:=Kept.trans ((((Kept.refl (fun k=>k=l8\/k=b6) w4).put (.inl (.inl rfl))).put (.inl (.inl rfl))).put (.inl (.inl rfl))) hk6 (fun k hk=> .inl (.inr hk));have LH:Src W5 3 A ops.length (cells ops):=by rw[qF.out];exact hsr.kept LG (fun ad e hf=>by have h1:=hnw ad e;have h2:=HO.out.zk;rcases hf with hf|hf<;>omega)
  have hx:=HX.out.kept hk5 (fun k hk=>by have:=HB.out;omega)
  have hend:=HG.out W5 ({m with o7:=cl,lK:=rq,oA:=A,oc:=c,ops:=ops}) Z7 rfl rfl dM ⟨hx.m,hx.mc,hx.mn,hx.ml,LH,by show ops.length<=c;rw[qF.out];exact hc1,(fun ad e=>by have h1:=hnw ad e;have h2:=HB.out;omega),hx.e,hx.ec,hx.en,hx.el,hx.eo,hx.s,hx.sl,hx.so,hx.p,hx.pc,hx.pn,hx.pl,hx.t,hx.s0,hx.pm⟩ hk5 (fun k hk=>by
   rcases hk with z|z|z|z|z|z
   ·exact .inl (.inl z)
   ·obtain⟨_,ad,e,rfl⟩:=z;exact .inr (by have h1:=hnw ad e;omega)
   ·exact .inl (.inr (.inr (.inl z)))
   ·exact .inl (.inr (.inr (.inr (.inl z))))
   ·exact .inl (.inr (.inr (.inr (.inr (.inl z)))))
   ·exact .inl (.inr (.inr (.inr (.inr (.inr z)))))) ⟨.inr ⟨rfl,rfl,rfl⟩,.inr ⟨rfl,rfl,rfl⟩,.inr ⟨rfl,rfl,rfl⟩⟩
  have aX:=ah hend;have gQ:=ah (aH _ _ _ h65);obtain⟨cs2,hcs2⟩:∃cs,(au ({m with o7:=cl,lK:=rq,oA:=A,oc:=c,ops:=ops})).toArray=cs:=⟨_,rfl⟩;unfold aK at aX;rw[hcs2]at hst5 hl4 gQ aX;clear dM hk5 hx hend h65 hcs2 hd4 hd5 hd6 hd7 hk6 LG LH hsr hk HX HG HD3 dI gK;go_wp2_with fail;refine bodyPost_ret (aU rfl _ _ b6 _ rfl gQ.out) rfl ?_;exact aX.out
theorem EI{B c:Nat}(hc:c=67\/c=66\/c=69\/c=83\/c=82)(h:fB w g s r)(m:aO)(hx:dF w B m)(hB:g<B)(hBw:B<=w.heap.size)
  (hls:∀W,fB W g s r->dF W B m->B<=W.heap.size->Calls Tryz.prog 71 #[.pointer (some ⟨g,0,none⟩),aK m,.int .u8 c] W (gu W s g B c m r)):Calls Tryz.prog 38 #[.pointer (some ⟨g,0,none⟩),aK m,.int .u8 c] w (gu w s g B c m r):=by
 obtain⟨W0,W1,Wz,W8,hW0,hW1,gY,hl,hst,hd,ho⟩:=Dm.start h m;have Tq:=hx.kept hd.k (fun k hk=>by omega);have hrd:=hls W8 hd.rd Tq (Nat.le_trans hBw hd.k.size);unfold gu at hrd
 have hfin:∀W W' m' er r',fB W' g s r'->dF W B m'->Kept (fun k=>k=W0.heap.size) W W'->Kept (fun k=>k=g) w W'->(∀k,rowB m' k->rowB m k\/W8.heap.size<=k)->pF c m m'->((bG s c (strip m) r).2.2=0->er=0/\r'=(bG s c (strip m) r).2.1/\strip m'=(bG s c (strip m) r).1)->
  ((bG s c (strip m) r).2.2≠0->er=(bG s c (strip m) r).2.2\/(er=0/\r'.2=(bG s c (strip m) r).2.2))->gu w s g B c m r (.returned (.tuple #[aK m',.int .i64 er])) W':=fun W W' m' er r' a b d f k1 kl k2 k3=>
  ⟨m',er,r',rfl,a,Xe b d (fun k hk hr=>by
   have hs6:=hd.h6.lt;rcases k1 k hr with z|z
   ·have h1:=Xf hx z;have h2:=ho.l46;have h3:=ho.w4;omega
   ·omega),f,fun k hk=>(k1 k hk).imp id (fun z=>Nat.le_trans hd.k.size z),kl,k2,k3⟩
 have N6:=aH W8 w.heap.size m hd.h4;have Z8:∀W,Kept (fun k=>k=g) W8 W->Has W W0.heap.size 63 (au zM).toArray:=fun W hk=>hd.h6.kept hk (by have h1:=ho.gw;have h2:=ho.w4;have h3:=ho.l46;omega);have hpost:∀W W' m' r',fB W g s r'->dF W B m'->Kept (fun k=>k=g) W8 W->(jV ⟨W0.heap.size,0,none⟩ (.agg (au m').toArray)).run Tryz.prog W=.ok () W'->Kept (fun k=>k=W0.heap.size) W W'->fB W' g s r'/\Kept (fun k=>k=g) w W':=fun W W' m' r' a b d _ f=>by have h1:=ho.gw;have h2:=ho.w4;have h3:=ho.l46;exact⟨a.kept f (by omega),(hd.k.trans d (fun _ z=> .inl z)).trans f (fun k hk=> .inr (by omega))⟩
 generalize gu w s g B c m r=Q at hfin⊢;obtain⟨b4,hb4⟩:∃b,w.heap.size=b:=⟨_,rfl⟩;obtain⟨b6,hb6⟩:∃b,W0.heap.size=b:=⟨_,rfl⟩;obtain⟨l8,hb8⟩:∃b,W1.heap.size=b:=⟨_,rfl⟩;rw[hb4]at hl N6;rw[hb8]at hst;rw[hb6]at hfin Z8 hpost;have fV:=ah hrd;have bF:=ah hfin;have H6:=ah Z8;have HP:=ah hpost;obtain⟨cs,hcs⟩:∃cs,(au m).toArray=cs:=⟨_,rfl⟩;unfold aK;unfold aK at fV;rw[hcs]at hW0 hl N6 hst fV⊢;clear hrd hfin hd ho hx hB hBw h hcs hls Tq Z8 hpost;rcases hc with rfl|rfl|rfl|rfl|rfl
 all_goals
  go_enter Tryz.func38,Tryz.ntmps38
  go_wp2_with fail
  clear hW0 hW1 gY hl N6 hst hb4 hb6 hb8
  refine fV.out.mono ?_
  rintro e w3 ⟨m',er,r',rfl,ha,hb,hk,k1,kl,k2,k3⟩
  obtain⟨W5,h1,h2,h3⟩:=CP (H6.out w3 hk) m'
  obtain⟨g1,g2⟩:=HP.out w3 W5 m' r' ha hb hk h1 h3
  have hend:=bF.out w3 W5 m' er r' g1 hb h3 g2 k1 kl k2 k3
  have aX:=ah hend;have gQ:=ah (aH _ _ _ h2)
  obtain⟨cs2,hcs2⟩:∃cs,(au m').toArray=cs:=⟨_,rfl⟩
  unfold aK at aX
  rw[hcs2]at h1 gQ aX
  rw[hcs2]
  clear ha hb hk k1 kl k2 k3 h2 h3 g1 g2 hend hcs2 fV bF H6 HP
  go_wp2_with fail
  refine bodyPost_ret (aU rfl _ _ b6 _ rfl gQ.out) rfl ?_
  exact aX.out
