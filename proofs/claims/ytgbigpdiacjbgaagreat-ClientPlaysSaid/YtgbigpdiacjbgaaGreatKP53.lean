/- Part 54. -/
import Derived.Test.YtgbigpdiacjbgaaGreatKP52
set_option linter.unusedSimpArgs false
set_option linter.unusedVariables false
set_option maxHeartbeats 32000000
set_option maxRecDepth 100000
namespace Go.Proofs.YtgbigpdiacjbgaaGreat
open Go.RowKit
namespace wC
open bg Ops fG eP Vn Cli Go.Proofs.YtgbigpdiacjbgaaGreat.Ask
attribute [local go_sem↓] bW cZ qB
attribute [local go_sem] rW
theorem Ql(w:World)(c0:Int)(A:Option Addr)(c:Nat)(l:List sF)(hl:Src w 10 A l.length (BU l))(hg:∀x∈l,Hl w x)(hlc:l.length<=c)(hcm:c<=maxLen):
  Calls Tryz.prog 5 #[.int .i64 c0,.slice A l.length c] w fun e w'=>e=.returned (.bool true)/\Below w.heap.size w w':=by
 have hend:∀w',Kept aj w w'->Below w.heap.size w w':=fun w' hk=>hk.below (Nat.le_refl _) (fun _ z=>z.elim);have hfew:=Yl w A c l hl (fun x hx=>⟨Nat.le_trans (hg x hx).1.2.1 (hg x hx).1.2.2.1,(hg x hx).1.2.2.2.2.2.2.2.2.1,(hg x hx).1.2.2.2.2.2.2.2.2.2,(hg x hx).2.2.2⟩);obtain⟨fv,hfv⟩:∃fv,Bz l=fv:=⟨_,rfl⟩;rw[hfv]at hfew;have haw:=fun W=>Yn W;have aX:=ah hend;have abR:=ah hfew;have Up:=ah haw;have HL:=ah hl;have HG:=ah hg;have HFV:=ah hfv;have G8:=ah (And.intro hlc hcm);clear hend hfew haw hfv hl hg hlc hcm;go_enter Tryz.func5,Tryz.ntmps5;go_wp2_with fail;refine abR.out.mono ?_;rintro e w1 ⟨rfl,hk1⟩;have iL:=ah hk1;clear hk1;cases fv
 ·go_wp2_with fail;refine(Up.out _).mono ?_;rintro e w9 ⟨rfl,hk9⟩;have HE:=ah (aX.out _ (iL.out.then hk9));clear hk9;go_wp2;go_ret;exact⟨rfl,HE.out⟩
 have hnew:=LM w1 c0;have hnew2:=fun W=>P9 W c0;have mF:=ah hnew;have Qm:=ah hnew2;clear hnew hnew2;go_wp2_with fail;refine mF.out.mono ?_;rintro e w2 hp;by_cases hid:0<=c0/\c0<3;rotate_left
 ·obtain⟨rfl,hk2⟩:=hp.1 hid;have gJ:=ah (iL.out.then hk2);clear hp hk2;go_wp2_with fail;refine(Qm.out _).mono ?_;rintro e w3 hp;obtain⟨rfl,hk3⟩:=hp.1 hid;have dI:=ah (gJ.out.then hk3);clear hp hk3 hid;go_wp2_with fail;go_loopw [9] (fun v9 wr=>v9=.int .i64 0/\Kept aj w wr) (fun _ _=>0)
  case atStart=>exact⟨rfl,dI.out⟩
  case round=>
   obtain⟨rfl,hk⟩:=hrel;have HK:=ah hk;clear hk;by_cases hil:0<l.length
   ·have h0l:(0:Int)<(l.length:Int):=by omega
    go_wp2_with fail;refine(Up.out _).mono ?_;rintro e w9 ⟨rfl,hk9⟩;have HE:=ah (aX.out _ (HK.out.then hk9));clear hk9;go_wp2;go_ret;exact⟨rfl,HE.out⟩
   ·have h0l:¬(0:Int)<(l.length:Int):=by omega
    go_wp2_with fail;refine(Up.out _).mono ?_;rintro e w9 ⟨rfl,hk9⟩;have HE:=ah (aX.out _ (HK.out.then hk9));clear hk9;go_wp2;go_ret;exact⟨rfl,HE.out⟩
 obtain⟨X0,rfl,hc0,hf0,hk2⟩:=hp.2 hid;obtain⟨cb,hcb⟩:∃cb,X0.cb=cb:=⟨_,rfl⟩;have Xw:CZ w cb w2 X0 (BR c0):=⟨hc0,hcb,gI.new hid,fun k hk=>Nat.le_trans iL.out.size (hf0 k hk),iL.out.then hk2⟩;rw[hcb];have HR0:=ah Xw;clear hp hc0 hf0 hk2 hcb Xw mF;go_wp2_with fail;refine(Qm.out _).mono ?_;rintro e w3 hp;obtain⟨Y0,rfl,hd0,hg0,hk3⟩:=hp.2 hid;obtain⟨db,hdb⟩:∃db,Y0.cb=db:=⟨_,rfl⟩;have hr3:EG w cb db w3 X0 Y0 (BR c0):=⟨HR0.out.quiet hk3,hd0,hdb,fun k hk=>Nat.le_trans HR0.out.k.size (hg0 k hk),fun k hk hd=>by have:=HR0.out.at'.lt hk;have:=hg0 k hd;omega,fun _=>rfl⟩;rw[hdb];have HR3:=ah hr3;clear hp hd0 hg0 hk3 hdb hr3 HR0 hid Qm;go_wp2_with fail;go_loopw [9] (fun v9 wr=>∃(i:Nat) (X:CX) (Y:sS) (C:dh),i<=50/\i<=l.length/\v9=.int .i64 i/\EG w cb db wr X Y C) (fun v9 _=>l.length-(intOf v9).toNat)
 case atStart=>exact⟨0,X0,Y0,_,by omega,Nat.zero_le _,rfl,HR3.out⟩
 case round=>
  obtain⟨i,X,Y,C,hi,hi2,rfl,hr⟩:=hrel;have HR:=ah hr;have HI:=ah (And.intro hi hi2);clear hr HR3;by_cases hil:i<l.length;rotate_left
  ·obtain rfl:i=l.length:=by omega
   go_wp2_with fail;refine(Up.out _).mono ?_;rintro e w9 ⟨rfl,hk9⟩;have HE:=ah (aX.out _ (HR.out.c.k.then hk9));clear hk9;go_wp2;go_ret;exact⟨rfl,HE.out⟩
  by_cases hi5:i<50;rotate_left
  ·obtain rfl:i=50:=by omega
   go_wp2_with fail;refine(Up.out _).mono ?_;rintro e w9 ⟨rfl,hk9⟩;have HE:=ah (aX.out _ (HR.out.c.k.then hk9));clear hk9;go_wp2;go_ret;exact⟨rfl,HE.out⟩
  have h50:(i:Int)<50:=by omega
  have acz:(i:Int)<(l.length:Int):=by omega
  obtain⟨x,hx⟩:∃x,l[i]? =some x:=⟨_,lB0 hil⟩;have hxg:=HG.out x (lC0 hx);have hxf:=LZ (V5 HFV.out (by omega) hx);obtain⟨V4,Hf⟩:∃V4,wr=V4:=⟨_,rfl⟩;subst Hf;have aaE:=HL.out.kept HR.out.c.k (fun _ _ z=>z);obtain⟨ad,had,YS,hcl⟩:=CW aaE (by omega) i x hx;subst had;have hact:∀W,Kept aj w W->∀j u,(yN x)[j]? =some u->W.cell? ((ad.add (i*10)).add j)=some u:=fun W hW=>by obtain⟨ad',e',_,h2⟩:=CW (HL.out.kept hW (fun _ _ z=>z)) (by omega) i x hx;injection e' with e';subst e';exact h2
  have k0:wr.cell? (ad.add (i*10))=some (.int .i64 x.k):=by have:=hcl 0 _ rfl;rwa[Addr.add_zero']at this
  have HX:=ah hx;have JF:=ah (And.intro hxg hxf);have WC:=ah hact;clear hx hxg hxf aaE hcl hact;by_cases hk0:x.k=0
  ·have e0:(x.k==0)=true:=by simpa using hk0
   have hst:=Uc HR.out.c.at' HR.out.c.inv x.a (JF.out.1.1.kept HR.out.c.k) (by have:=JF.out.2.1;omega);have hin:=HR.out.c.inv.start (a:=x.a) JF.out.1.1.2.2.2.2.2.2.1 JF.out.1.1.2.2.2.2.2.2.2.1;have hdd:=fun W (hW:Kept aj w W) (hd:iR W Y C [])=>Qa hd HR.out.c.inv x.a (JF.out.1.1.kept hW) (by have:=JF.out.2.1;omega);have hln:=Um C x.a;have la:=Uo (WC.out wr HR.out.c.k);rw[HR.out.c.cb]at hst;simp only[HR.out.db]at hdd;unfold Au at hst;unfold ED at hdd;obtain⟨q,hq⟩:∃q,jq C x.a=q:=⟨_,rfl⟩;rw[hq]at hst hin hln;simp only[hq]at hdd;obtain⟨C6,L,z⟩:=q;dsimp only at hst hin hdd hln;obtain⟨nl,hnl⟩:∃nl,L.length=nl:=⟨_,rfl⟩;rw[hnl]at hst hln;simp only[hnl]at hdd;have hla:=fun W (hW:Kept aj w W)=>Uo (WC.out W hW);obtain⟨cs,hcs⟩:∃cs,(bQ x.a).toArray=cs:=⟨_,rfl⟩;unfold pN at hst la hdd hla;rw[hcs]at hst la;simp only[hcs]at hdd hla;have HST:=ah hst;have wW:=ah hin;have Ur:=ah hdd;have o9:=ah (And.intro hnl hln);have HLA:=ah hla;clear hk0 hst hin hcs hdd hnl hln hla hq;go_wp2_with fail;clear la k0;refine HST.out.mono ?_;rintro e w6 ⟨X6,A6,c6,rfl,hs6,ji⟩;have hh:=HR.out.half (Kept.refl _ _) hs6 ji wW.out.1 wW.out.2.1;have la:=HLA.out w6 hh.c.k;have hd6:=Ur.out w6 hh.c.k hh.d;have HH:=ah hh;have HD6:=ah hd6;clear hs6 ji hh hd6;go_wp2_with fail;clear la;refine HD6.out.mono ?_;rintro e w7 ⟨Y7,A7,c7,rfl,hd7,EH⟩;have a7:=HH.out.full (Kept.refl _ _) hd7 (by rw[o9.out.1];exact EH);have hso:=EE (c:=c6) (d:=c7) o9.out.1 (by have h9:=a7.2.1;rw[o9.out.1]at h9;exact h9) (by have h9:=a7.2.2;rw[o9.out.1]at h9;exact h9) (by have:=o9.out.2;omega);have HSO:=ah hso;have ez:(z==z)=true:=by simp
   clear hd7 EH hso;go_wp2_with fail;refine HSO.out.mono ?_;rintro e w8 ⟨rfl,hk8⟩;have Ju:=ah (a7.1.quiet hk8);have hsm:=EF (a7.1.quiet hk8).c.at' (a7.1.quiet hk8).d (a7.1.quiet hk8).c.inv (a7.1.quiet hk8).rp;rw[(a7.1.quiet hk8).c.cb,(a7.1.quiet hk8).db]at hsm;have yL:=ah hsm;clear a7 hk8 hsm;go_wp2_with fail;refine yL.out.mono ?_;rintro e w9 ⟨rfl,hk9⟩;have Ei:=ah (Ju.out.quiet hk9);clear hk9;go_wp2_with fail;go_roundw
   case rel=>exact⟨i+1,X6,Y7,_,by omega,by omega,by go_num,Ei.out⟩
   case measure=>simp[intOf];omega
  have e0:(x.k==0)=false:=by simpa using hk0
  by_cases hk1:x.k=1
  ·have e1:(x.k==1)=true:=by simpa using hk1
   have htk:=Wn HR.out.c.at' HR.out.c.inv;have hin:=HR.out.c.inv.tick;have hdd:=fun W (hd:iR W Y C [])=>NC hd HR.out.c.inv;have hln:=WA C;rw[HR.out.c.cb]at htk;simp only[HR.out.db]at hdd;unfold lG at htk;unfold eY at hdd;obtain⟨q,hq⟩:∃q,iQ C=q:=⟨_,rfl⟩;rw[hq]at htk hin hln;simp only[hq]at hdd;obtain⟨C6,L⟩:=q;dsimp only at htk hin hdd hln;obtain⟨nl,hnl⟩:∃nl,L.length=nl:=⟨_,rfl⟩;rw[hnl]at htk hln;simp only[hnl]at hdd;have qc:=ah htk;have wW:=ah hin;have Ur:=ah hdd;have o9:=ah (And.intro hnl hln);clear hk0 hk1 htk hin hdd hnl hln hq;go_wp2_with fail;clear k0;refine qc.out.mono ?_;rintro e w6 ⟨X6,A6,c6,rfl,hs6,ji⟩;have hh:=HR.out.half (Kept.refl _ _) hs6 ji wW.out.1 wW.out.2.1;have hd6:=Ur.out w6 hh.d;have HH:=ah hh;have HD6:=ah hd6;clear hs6 ji hh hd6;go_wp2_with fail;refine HD6.out.mono ?_;rintro e w7 ⟨Y7,A7,c7,rfl,hd7,EH⟩;have a7:=HH.out.full (Kept.refl _ _) hd7 (by rw[o9.out.1];exact EH);have hso:=EE (c:=c6) (d:=c7) o9.out.1 (by have h9:=a7.2.1;rw[o9.out.1]at h9;exact h9) (by have h9:=a7.2.2;rw[o9.out.1]at h9;exact h9) (by have:=o9.out.2;omega);have HSO:=ah hso;clear hd7 EH hso;go_wp2_with fail;refine HSO.out.mono ?_;rintro e w8 ⟨rfl,hk8⟩;have Ju:=ah (a7.1.quiet hk8);have hsm:=EF (a7.1.quiet hk8).c.at' (a7.1.quiet hk8).d (a7.1.quiet hk8).c.inv (a7.1.quiet hk8).rp;rw[(a7.1.quiet hk8).c.cb,(a7.1.quiet hk8).db]at hsm;have yL:=ah hsm;clear a7 hk8 hsm;go_wp2_with fail;refine yL.out.mono ?_;rintro e w9 ⟨rfl,hk9⟩;have Ei:=ah (Ju.out.quiet hk9);clear hk9;go_wp2_with fail;go_roundw
   case rel=>exact⟨i+1,X6,Y7,_,by omega,by omega,by go_num,Ei.out⟩
   case measure=>simp[intOf];omega
  ·have e1:(x.k==1)=false:=by simpa using hk1
   have hdl:=fun W (hW:Kept aj wr W)=>Ud (HR.out.c.quiet hW).at' HR.out.c.inv x.fr x.body JF.out.1.2.2.2;have hin:=HR.out.c.inv.aa2 x.fr x.body (aaD _);have hdd:=fun W (hd:iR W Y C [])=>Qg hd HR.out.c.inv x.fr x.body JF.out.1.2.2.2;have hln:=Un C x.fr x.body;rw[HR.out.c.cb]at hdl;simp only[HR.out.db]at hdd;unfold lG at hdl;unfold eY at hdd;obtain⟨q,hq⟩:∃q,jk C x.fr x.body=q:=⟨_,rfl⟩;rw[hq]at hin hln;simp only[hq]at hdl hdd;obtain⟨C6,L⟩:=q;dsimp only at hdl hin hdd hln;obtain⟨nl,hnl⟩:∃nl,L.length=nl:=⟨_,rfl⟩;rw[hnl]at hln;simp only[hnl]at hdl hdd;have hS:∀W,Kept aj w W->W.cell? ⟨(ad.add (i*10)).block,(ad.add (i*10)).off+8,none⟩=some (.int .i64 x.fr)/\W.cell? ⟨(ad.add (i*10)).block,(ad.add (i*10)).off+9,none⟩=some (.string x.body):=fun W hW=>by have h2:=WC.out W hW;exact⟨by have h3:=h2 8 _ rfl;rwa[IC _ (by decide)]at h3,by have h3:=h2 9 _ rfl;rwa[IC _ (by decide)]at h3⟩
   have y0:=hS wr HR.out.c.k;have HDL:=ah hdl;have wW:=ah hin;have Ur:=ah hdd;have o9:=ah (And.intro hnl hln);have HS:=ah hS;clear hk0 hk1 hdl hin hdd hnl hln hq hS;go_wp2_with fail;clear k0
   go_region_held3 (fun W=>W.cell? ⟨(ad.add (i*10)).block,(ad.add (i*10)).off+8,none⟩=some (.int .i64 x.fr)/\W.cell? ⟨(ad.add (i*10)).block,(ad.add (i*10)).off+9,none⟩=some (.string x.body)) (first|with_reducible exact y29|with_reducible exact y19|with_reducible exact y9|with_reducible exact y0|(refine HS.out _ (Kept.then abS.out ?_);(repeat'(first|(with_reducible first|exact ay|apply aA|apply aB|apply aC|apply aF)|(right;simp;done)));done)|(refine HS.out _ (Kept.then WE.out ?_);(repeat'(first|(with_reducible first|exact ay|apply aA|apply aB|apply aC|apply aF)|(right;simp;done)));done)|(refine HS.out _ (Kept.then sJ.out ?_);(repeat'(first|(with_reducible first|exact ay|apply aA|apply aB|apply aC|apply aF)|(right;simp;done)));done)|(refine HS.out _ (HR.out.c.k.then ?_);(repeat'(first|(with_reducible first|exact ay|apply aA|apply aB|apply aC|apply aF)|(right;simp;done)));done))
    (first
     |(go_at_call 11;refine(HDL.out _ (by(repeat'(first|(with_reducible first|exact ay|apply aA|apply aB|apply aC|apply aF)|(right;simp;done))))).mono ?_;rintro e w6 ⟨X6,A6,c6,rfl,hs6,ji⟩;have hh:=HR.out.half (by(repeat'(first|(with_reducible first|exact ay|apply aA|apply aB|apply aC|apply aF)|(right;simp;done)))) hs6 ji wW.out.1 wW.out.2.1;have y9:=HS.out w6 hh.c.k;have sJ:=ah hh.c.k;have HH:=ah hh;clear hs6 ji hh)
     |(go_at_call 22;refine(Ur.out _ (HH.out.quiet (by(repeat'(first|(with_reducible first|exact ay|apply aA|apply aB|apply aC|apply aF)|(right;simp;done))))).d).mono ?_;rintro e w7 ⟨Y7,A7,c7,rfl,hd7,EH⟩;have a7:=HH.out.full (by(repeat'(first|(with_reducible first|exact ay|apply aA|apply aB|apply aC|apply aF)|(right;simp;done)))) hd7 (by rw[o9.out.1];exact EH);have y19:=HS.out w7 a7.1.c.k;have WE:=ah a7.1.c.k;have GU:=ah a7;clear hd7 EH a7)
     |(go_at_call 20;refine(EE (c:=c6) (d:=c7) o9.out.1 (by have h9:=GU.out.2.1;rw[o9.out.1]at h9;exact h9.kept (show Kept aj w7 _ by(repeat'(first|(with_reducible first|exact ay|apply aA|apply aB|apply aC|apply aF)|(right;simp;done)))) (fun _ _ z=>z)) (by have h9:=GU.out.2.2;rw[o9.out.1]at h9;exact h9.kept (show Kept aj w7 _ by(repeat'(first|(with_reducible first|exact ay|apply aA|apply aB|apply aC|apply aF)|(right;simp;done)))) (fun _ _ z=>z)) (by have:=o9.out.2;omega)).mono ?_;rintro e w8 ⟨rfl,hk8⟩;have a7:=GU.out;have hk8:=(show Kept aj w7 _ by(repeat'(first|(with_reducible first|exact ay|apply aA|apply aB|apply aC|apply aF)|(right;simp;done)))).then hk8;have y29:=HS.out w8 (WE.out.then hk8);have abS:=ah (WE.out.then hk8)))
   all_goals
    have Ju:=ah (a7.1.quiet hk8);have hsm:=EF (a7.1.quiet hk8).c.at' (a7.1.quiet hk8).d (a7.1.quiet hk8).c.inv (a7.1.quiet hk8).rp
    rw[(a7.1.quiet hk8).c.cb,(a7.1.quiet hk8).db]at hsm
    have yL:=ah hsm
    clear a7 hk8 hsm
    go_wp2_with fail
    refine yL.out.mono ?_
    rintro e w9 ⟨rfl,hk9⟩
    have Ei:=ah (Ju.out.quiet hk9)
    clear hk9
    go_wp2_with fail
    go_roundw
    case rel=>exact⟨i+1,X6,Y7,_,by omega,by omega,by go_num,Ei.out⟩
    case measure=>simp[intOf];omega
