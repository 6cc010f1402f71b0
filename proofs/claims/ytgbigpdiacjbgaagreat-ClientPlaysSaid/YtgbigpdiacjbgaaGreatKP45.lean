/- Part 46. -/
import Derived.Test.YtgbigpdiacjbgaaGreatKP40
import Derived.Test.YtgbigpdiacjbgaaGreatKP44
set_option linter.unusedSimpArgs false
set_option linter.unusedVariables false
set_option maxHeartbeats 32000000
set_option maxRecDepth 100000
namespace Go.Proofs.YtgbigpdiacjbgaaGreat
open Go.RowKit
namespace Ask
open bg Ops fG eP MO Vn
attribute [local go_sem↓] bW cZ
section
variable{w w':World}{X:DX}{t:TS}{G:Nat->Prop}
theorem qm(h:kS w X t)(hj:pK t)(hi:DI t)(f:Int)(x:aO)(hx:F9 w (dN X t) x):
  Calls Tryz.prog 49 #[.pointer (some ⟨X.b,0,none⟩),.int .i64 f,aK x] w (iE w X t (.bool (aI t f x).2) (aI t f x).1):=by
 obtain⟨W0,hW0⟩:∃W0,w.alloc (.cells (au x).toArray 63)=W0:=⟨_,rfl⟩;have hk0:Kept aj w W0:=by rw[<-hW0];(repeat'(first|(with_reducible first|exact ay|apply aA|apply aB|apply aC|apply aF)|(right;simp;done)))
 have hn0:Has W0 w.heap.size 63 (au x).toArray:=by rw[<-hW0];exact Has.new _ _ _
 have h0:=h.quiet hk0;have hb0:=h0.b;obtain⟨bb,hbb⟩:∃bb,X.b=bb:=⟨_,rfl⟩;have hwb:bb<w.heap.size:=by rw[<-hbb];exact h.b.lt
 have hcell:∀W,Kept (fun k=>k=X.b) W0 W->W.cell? ⟨w.heap.size,0,none⟩=some (.int .i64 x.k)/\W.cell? ⟨w.heap.size,5,none⟩=some (.int .u64 x.at')/\W.cell? ⟨w.heap.size,7,none⟩=some (.int .i64 x.n)/\W.cell? ⟨w.heap.size,10,none⟩=some (.int .i64 x.e):=fun W hW=>by have g:=hn0.kept hW (fun e=>by omega);exact⟨g.cell 0,g.cell 5,g.cell 7,g.cell 10⟩
 have m2:W0.cell? ⟨w.heap.size,2,none⟩=some (.int .i64 x.req):=hn0.cell 2;obtain⟨pz,hpz⟩:∃pz:Int,(t.ph:Int)=pz:=⟨_,rfl⟩;have b1:W0.cell? ⟨bb,1,none⟩=some (.int .i64 t.rq):=by rw[<-hbb];exact hb0.cell 1
 have b3:W0.cell? ⟨bb,3,none⟩=some (.int .i64 t.a.k):=by rw[<-hbb];exact hb0.cell 3
 have b4:W0.cell? ⟨bb,4,none⟩=some (.int .i64 t.a.nd):=by rw[<-hbb];exact hb0.cell 4
 have b10:W0.cell? ⟨bb,10,none⟩=some (.int .i64 pz):=by rw[<-hbb,<-hpz];exact hb0.cell 10
 have b11:W0.cell? ⟨bb,11,none⟩=some (.int .u64 t.at'):=by rw[<-hbb];exact hb0.cell 11
 have b14:W0.cell? ⟨bb,14,none⟩=some (.int .i64 t.waits):=by rw[<-hbb];exact hb0.cell 14
 have b15:W0.cell? ⟨bb,15,none⟩=some (.bool t.dn):=by rw[<-hbb];exact hb0.cell 15
 have f10:=hb0.frozen 10;have f11:=hb0.frozen 11;have f14:=hb0.frozen 14;rw[hbb]at f10 f11 f14;have hend:∀W,Kept aj W0 W->∀(r:o8),r.ps=[]->Calls Tryz.prog 76 #[.pointer (some ⟨bb,0,none⟩),.agg #[.int .i64 r.req,.int .i64 r.e,.int .u64 r.at',.int .i64 r.pin,.slice none 0 0]] W fun e w'=>e=.returned (.tuple #[])/\kS w' {X with rA:=none,rc:=0} (eG t r)/\Kept (fun k=>k=X.b) W w':=fun W hW r hr=>by have g:=og (h0.quiet hW) r none 0 (by rw[hr];exact⟨rfl,.inl ⟨rfl,rfl⟩⟩);unfold nV iO at g;rw[hr]at g;rw[<-hbb];exact g
 have hfin:∀(r:o8) W w7,r.ps=[]->Kept aj W0 W->kS w7 {X with rA:=none,rc:=0} (eG t r)->Kept (fun k=>k=X.b) W w7->∀w8,Kept aj w7 w8->aI t f x=(eG t r,false)->iE w X t (.bool (aI t f x).2) (aI t f x).1 (.returned (.bool false)) w8:=fun r W w7 hr hW hp hk w8 hk8 he=>by rw[he];exact⟨rfl,_,hp.quiet hk8,rfl,fun k hk=>G6 (w:=w) (fun k hk=>by rw[hr]at hk;cases hk) hk,(((hk0.then hW).mono (fun _ z=>z.elim)).then (hk.mono (fun k e=> .inl e))).then (hk8.mono (fun _ z=>z.elim))⟩
 have hsame:∀w8,Kept aj W0 w8->aI t f x=(t,false)->iE w X t (.bool (aI t f x).2) (aI t f x).1 (.returned (.bool false)) w8:=fun w8 hk8 he=>by rw[he];exact iE.same h (hk0.then hk8)
 have hrows:t.dn=false->∀W,Kept aj W0 W->Calls Tryz.prog 81 #[.pointer (some ⟨bb,0,none⟩),aK x] W (iE W X t (.bool (rO t x).2) (rO t x).1):=fun hd W hW=>by rw[<-hbb];exact TY (h0.quiet hW) hd hj.ok x ⟨hx.s.kept (hk0.then hW) (fun _ _ z=>z),hx.l,hx.off,hx.k⟩
 have hlm:∀n,(uH ⟨w.heap.size,0,none⟩).run Tryz.prog (W0.drewN n)=.ok (aK x) (W0.drewN n):=fun n=>aH _ _ _ (hn0.drewN n);have hrep:=fun W=>Eu W f;have DL:=ah hlm;have aX:=ah hend;have oJ:=ah hcell;have bF:=ah hfin;have qK:=ah hsame;have P5:=ah hrows;have HH:=ah h;have aS:=ah hk0;have HH0:=ah h0;have fF:=ah hbb;have HJ:=ah hj;have HI:=ah hi;have jg:=ah hrep;have Ar:=ah hpz;have hbm:w.heap.size≠bb:=by omega
 have iV:=hj.ok.ph;have hp0:=hj.p0;rw[hbb];obtain⟨m0,m5,m7,m10⟩:=hcell W0 (Kept.refl _ _);have hxa:aK x=.agg (au x).toArray:=rfl;obtain⟨cs,hcs⟩:∃cs,(au x).toArray=cs:=⟨_,rfl⟩;unfold au at hW0;unfold aK at DL P5⊢;rw[hcs]at DL P5;unfold au;clear hlm hend hcell hfin hsame hrows h hk0 hx hn0 h0 hb0 hbb hj hi hrep hxa hcs hpz hwb;cases hdn:t.dn with
 |true=>
  rw[hdn]at b15;have hr:aI t f x=(t,false):=by unfold aI;rw[if_pos (.inl hdn)]
  have HR:=ah hr;clear hr;clear hdn;go_enter Tryz.func49,Tryz.ntmps49;go_wp2;go_quiet (fail);go_wp2;go_ret;exact qK.out _ (by(repeat'(first|(with_reducible first|exact ay|apply aA|apply aB|apply aC|apply aF)|(right;simp;done)))) HR.out
 |false=>
  rw[hdn]at b15;have qE:=ah hdn;have hnd:¬t.dn=true:=by rw[hdn];decide
  have qF:=ah hnd;clear hdn hnd;by_cases hq:x.req=t.rq;rotate_left
  ·have bq:(x.req !=t.rq)=true:=by simpa using hq
   have hr:aI t f x=(t,false):=by unfold aI;rw[if_pos (.inr (.inl hq))]
   have HR:=ah hr;clear hr;clear hq;go_enter Tryz.func49,Tryz.ntmps49;go_wp2;go_quiet (fail);go_wp2;go_ret;exact qK.out _ (by(repeat'(first|(with_reducible first|exact ay|apply aA|apply aB|apply aC|apply aF)|(right;simp;done)))) HR.out
  have bq:(x.req !=t.rq)=false:=by simpa using hq
  have HQ:=ah hq;clear hq;rcases(show t.ph=0\/t.ph=1\/t.ph=2 by omega)with e|e|e
  ·have p0:(pz==0)=true:=by rw[<-Ar.out,e];rfl
   have p1:(pz==1)=false:=by rw[<-Ar.out,e];rfl
   have p2:(pz==2)=false:=by rw[<-Ar.out,e];rfl
   have hft:oI t f=decide (0<=f/\f<4):=by unfold oI;rw[if_pos e]
   obtain⟨v,hv⟩:∃v,decide (0<=f/\f<4)=v:=⟨_,rfl⟩;rw[hv]at hft;simp only[hv]at jg;clear hv;cases v
   ·have hr:aI t f x=(t,false):=by unfold aI;rw[if_pos (.inr (.inr hft))]
    have HR:=ah hr;clear hr e iV hp0 hft;go_enter Tryz.func49,Tryz.ntmps49;go_wp2;go_quiet (fail);go_wp2_with fail;refine(jg.out _).mono ?_;rintro e w3 ⟨rfl,rfl⟩;go_wp2;go_ret;exact qK.out _ (by(repeat'(first|(with_reducible first|exact ay|apply aA|apply aB|apply aC|apply aF)|(right;simp;done)))) HR.out
   ·have hw:aI t f x=lN t x:=by unfold aI;rw[if_neg (by rintro(z|z|z);exact qF.out z;exact z HQ.out;(rw[hft]at z;cases z)),if_pos e]
    rw[TP HI.out e]at hw;have HW:=ah hw;have Wi:=hp0 e;clear hw e iV hp0 hft;by_cases h7:x.k=7/\x.e=16
    ·have k7:(x.k==7)=true:=by simp[h7.1]
     have k16:(x.e==16)=true:=by simp[h7.2]
     have k6:(x.k==6)=false:=by simp[h7.1]
     have hr:aI t f x=(eG t ⟨0,x.e,0,0,[]⟩,false):=by rw[HW.out,if_pos h7]
     have HR:=ah hr;clear hr h7 Wi;go_enter Tryz.func49,Tryz.ntmps49;go_wp2;go_quiet (fail);go_wp2_with fail;refine(jg.out _).mono ?_;rintro e w3 ⟨rfl,rfl⟩;go_wp2_with fail;clear hW0 m0 m2 m5 m7 m10 b1 b3 b4 b10 b11 b14 b15 f10 f11 f14;refine(aX.out _ (by(repeat'(first|(with_reducible first|exact ay|apply aA|apply aB|apply aC|apply aF)|(right;simp;done)))) ⟨0,x.e,0,0,[]⟩ rfl).mono ?_;rintro e w7 ⟨rfl,bY,aZ⟩;obtain⟨n0,n5,n7,n10⟩:=oJ.out _ (Kept.then (F:=fun k=>k=X.b) (b:=W0.drewN nq) (by(repeat'(first|(with_reducible first|exact ay|apply aA|apply aB|apply aC|apply aF)|(right;simp;done)))) aZ);have y3:w7.cell? ⟨bb,3,none⟩=some (.int .i64 t.a.k):=by rw[<-fF.out];exact bY.b.cell 3
     have jh:=ah bY;have jd:=ah aZ;clear bY aZ;go_wp2;go_ret;exact bF.out ⟨0,x.e,0,0,[]⟩ _ _ rfl (by(repeat'(first|(with_reducible first|exact ay|apply aA|apply aB|apply aC|apply aF)|(right;simp;done)))) jh.out jd.out _ (Kept.refl _ _) HR.out
    have H7:=ah h7;by_cases h6:x.k=6;rotate_left
    ·have k6:(x.k==6)=false:=by simpa using h6
     have hr:aI t f x=(t,false):=by rw[HW.out,if_neg H7.out,if_pos h6]
     have HR:=ah hr;clear hr Wi;by_cases Ua:x.k=7
     ·have k7:(x.k==7)=true:=by simpa using Ua
      have k16:(x.e==16)=false:=by simpa using(fun z=>h7 ⟨Ua,z⟩)
      clear Ua h6 h7;go_enter Tryz.func49,Tryz.ntmps49;go_wp2;go_quiet (fail);go_wp2_with fail;refine(jg.out _).mono ?_;rintro e w3 ⟨rfl,rfl⟩;go_wp2;go_ret;exact qK.out _ (by(repeat'(first|(with_reducible first|exact ay|apply aA|apply aB|apply aC|apply aF)|(right;simp;done)))) HR.out
     ·have k7:(x.k==7)=false:=by simpa using Ua
      clear Ua h6 h7;go_enter Tryz.func49,Tryz.ntmps49;go_wp2;go_quiet (fail);go_wp2_with fail;refine(jg.out _).mono ?_;rintro e w3 ⟨rfl,rfl⟩;go_wp2;go_ret;exact qK.out _ (by(repeat'(first|(with_reducible first|exact ay|apply aA|apply aB|apply aC|apply aF)|(right;simp;done)))) HR.out
    have k6:(x.k==6)=true:=by simpa using h6
    have k7:(x.k==7)=false:=by simp[h6]
    rcases Wi with ha|ha
    ·have k0:(t.a.k==0)=true:=by simpa using ha
     have k3:(t.a.k==3)=false:=by simp[ha]
     have hr:aI t f x=(eG t ⟨0,0,x.at',0,[]⟩,false):=by rw[HW.out,if_neg H7.out,if_neg (fun z=>z h6),if_pos ha]
     have HR:=ah hr;clear hr ha h6 h7;go_enter Tryz.func49,Tryz.ntmps49;go_wp2;go_quiet (fail);go_wp2_with fail;refine(jg.out _).mono ?_;rintro e w3 ⟨rfl,rfl⟩;go_wp2_with fail;clear hW0 m0 m2 m5 m7 m10 b1 b3 b4 b10 b11 b14 b15 f10 f11 f14;refine(aX.out _ (by(repeat'(first|(with_reducible first|exact ay|apply aA|apply aB|apply aC|apply aF)|(right;simp;done)))) ⟨0,0,x.at',0,[]⟩ rfl).mono ?_;rintro e w7 ⟨rfl,bY,aZ⟩;obtain⟨n0,n5,n7,n10⟩:=oJ.out _ (Kept.then (F:=fun k=>k=X.b) (b:=W0.drewN nq) (by(repeat'(first|(with_reducible first|exact ay|apply aA|apply aB|apply aC|apply aF)|(right;simp;done)))) aZ);have y3:w7.cell? ⟨bb,3,none⟩=some (.int .i64 t.a.k):=by rw[<-fF.out];exact bY.b.cell 3
     have jh:=ah bY;have jd:=ah aZ;clear bY aZ;go_wp2;go_ret;exact bF.out ⟨0,0,x.at',0,[]⟩ _ _ rfl (by(repeat'(first|(with_reducible first|exact ay|apply aA|apply aB|apply aC|apply aF)|(right;simp;done)))) jh.out jd.out _ (Kept.refl _ _) HR.out
    ·have k0:(t.a.k==0)=false:=by simp[ha]
     have k3:(t.a.k==3)=true:=by simpa using ha
     have hr:aI t f x=({t with ph:=1,at':=x.at',waits:=0},true):=by rw[HW.out,if_neg H7.out,if_neg (fun z=>z h6),if_neg (by omega)]
     have HR:=ah hr;clear hr ha h6 h7;go_enter Tryz.func49,Tryz.ntmps49;go_wp2;go_quiet (fail);go_wp2_with fail;refine(jg.out _).mono ?_;rintro e w3 ⟨rfl,rfl⟩;go_wp2;go_ret;rw[HR.out];have h9:=HH0.out;obtain⟨W9,pJ⟩:∃W9,W0.drewN nq=W9:=⟨_,rfl⟩;have hk9:Kept aj W0 W9:=by rw[<-pJ];(repeat'(first|(with_reducible first|exact ay|apply aA|apply aB|apply aC|apply aF)|(right;simp;done)))
     rw[pJ];have h8:=HH0.out.quiet hk9;have hk8:Kept (fun k=>k=X.b) W9 (((W9.setCell ⟨bb,10,none⟩ (.int .i64 1)).setCell ⟨bb,11,none⟩ (.int .u64 x.at')).setCell ⟨bb,14,none⟩ (.int .i64 0)):=by rw[fF.out];(repeat'(first|(with_reducible first|exact ay|apply aA|apply aB|apply aC|apply aF)|(exact .inl rfl)|(right;simp;done)))
     have E4:=((h8.b.put 10 (.int .i64 1)).put 11 (.int .u64 x.at')).put 14 (.int .i64 0);rw[fF.out]at E4;refine⟨rfl,X,h8.upd hk8 (by rw[fF.out];exact E4) rfl rfl rfl rfl,rfl,fun k hk=> .inl hk,?_⟩;exact((aS.out.then hk9).mono (fun _ z=>z.elim)).then (hk8.mono (fun k e=> .inl e))
  ·have p0:(pz==0)=false:=by rw[<-Ar.out,e];rfl
   have p1:(pz==1)=true:=by rw[<-Ar.out,e];rfl
   have p2:(pz==2)=false:=by rw[<-Ar.out,e];rfl
   have hft:oI t f=decide (f=t.a.nd):=by unfold oI;rw[if_neg (by omega),if_pos e]
   by_cases hf:f=t.a.nd;rotate_left
   ·have bf:(f==t.a.nd)=false:=by simpa using hf
    have hr:aI t f x=(t,false):=by unfold aI;rw[if_pos (.inr (.inr (by rw[hft,decide_eq_false hf])))]
    have HR:=ah hr;clear hr e iV hp0 hft hf;go_enter Tryz.func49,Tryz.ntmps49;go_wp2;go_quiet (fail);go_wp2;go_ret;exact qK.out _ (by(repeat'(first|(with_reducible first|exact ay|apply aA|apply aB|apply aC|apply aF)|(right;simp;done)))) HR.out
   have bf:(f==t.a.nd)=true:=by simpa using hf
   have hw:aI t f x=je t x:=by unfold aI;rw[if_neg (by rintro(z|z|z);exact qF.out z;exact z HQ.out;(rw[hft,decide_eq_true hf]at z;cases z)),if_neg (by omega),if_pos e]
   have HW:=ah hw;clear hw e iV hp0 hft hf;by_cases h10:x.k=10
   ·have k10:(x.k==10)=true:=by simpa using h10
    have hr:aI t f x=rO t x:=by rw[HW.out,PZ h10]
    have HR:=ah hr;clear hr h10;go_enter Tryz.func49,Tryz.ntmps49;go_wp2;go_quiet (fail);have hl:=DL.out nq;have hrw:=P5.out qE.out (W0.drewN nq) (by(repeat'(first|(with_reducible first|exact ay|apply aA|apply aB|apply aC|apply aF)|(right;simp;done))));have HRW:=ah hrw;clear hrw;go_wp2_with fail;refine HRW.out.mono ?_;rintro e w7 ⟨rfl,X7,bY,hb7,QT,aZ⟩;have jh:=ah (And.intro bY (And.intro hb7 (And.intro QT aZ)));clear bY hb7 QT aZ hl;go_wp2;go_ret;rw[HR.out]
    exact⟨rfl,X7,jh.out.1,jh.out.2.1,fun k hk=>by
     rcases jh.out.2.2.1 k hk with e|e
     ·exact .inl e
     ·exact .inr (Nat.le_trans aS.out.size e),(aS.out.drewN nq|>.mono (fun _ z=>z.elim)).then jh.out.2.2.2⟩
   have k10:(x.k==10)=false:=by simpa using h10
   by_cases h7:x.k=7;rotate_left
   ·have k7:(x.k==7)=false:=by simpa using h7
    have hr:aI t f x=(t,false):=by rw[HW.out];unfold je;rw[if_neg (fun z=>h7 z.1),if_pos (.inl h10)]
    have HR:=ah hr;clear hr h7 h10;go_enter Tryz.func49,Tryz.ntmps49;go_wp2;go_quiet (fail);go_wp2;go_ret;exact qK.out _ (by(repeat'(first|(with_reducible first|exact ay|apply aA|apply aB|apply aC|apply aF)|(right;simp;done)))) HR.out
   have k7:(x.k==7)=true:=by simpa using h7
   by_cases h3:t.a.k=3
   ·have k3:(t.a.k !=3)=false:=by simpa using h3
    by_cases h12:x.e=12
    ·have k12:(x.e !=12)=false:=by simpa using h12
     have hr:aI t f x=(t,false):=by rw[HW.out];unfold je;rw[if_neg (fun z=>by rcases z.2 with z|z;exact z h3;exact z h12),if_pos (.inl h10)]
     have HR:=ah hr;clear hr h7 h10 h3 h12;go_enter Tryz.func49,Tryz.ntmps49;go_wp2;go_quiet (fail);go_wp2;go_ret;exact qK.out _ (by(repeat'(first|(with_reducible first|exact ay|apply aA|apply aB|apply aC|apply aF)|(right;simp;done)))) HR.out
    ·have k12:(x.e !=12)=true:=by simpa using h12
     have hr:aI t f x=(eG t ⟨0,x.e,0,0,[]⟩,false):=by rw[HW.out];unfold je;rw[if_pos ⟨h7,.inr h12⟩]
     have HR:=ah hr;clear hr h7 h10 h3 h12;go_enter Tryz.func49,Tryz.ntmps49;go_wp2;go_quiet (fail);go_wp2_with fail;clear hW0 m0 m2 m5 m7 m10 b1 b3 b4 b10 b11 b14 b15 f10 f11 f14;refine(aX.out _ (by(repeat'(first|(with_reducible first|exact ay|apply aA|apply aB|apply aC|apply aF)|(right;simp;done)))) ⟨0,x.e,0,0,[]⟩ rfl).mono ?_;rintro e w7 ⟨rfl,bY,aZ⟩;obtain⟨n0,n5,n7,n10⟩:=oJ.out _ (Kept.then (F:=fun k=>k=X.b) (b:=W0.drewN nq) (by(repeat'(first|(with_reducible first|exact ay|apply aA|apply aB|apply aC|apply aF)|(right;simp;done)))) aZ);have y3:w7.cell? ⟨bb,3,none⟩=some (.int .i64 t.a.k):=by rw[<-fF.out];exact bY.b.cell 3
     have jh:=ah bY;have jd:=ah aZ;clear bY aZ;go_wp2;go_ret;exact bF.out ⟨0,x.e,0,0,[]⟩ _ _ rfl (by(repeat'(first|(with_reducible first|exact ay|apply aA|apply aB|apply aC|apply aF)|(right;simp;done)))) jh.out jd.out _ (Kept.refl _ _) HR.out
   ·have k3:(t.a.k !=3)=true:=by simpa using h3
    have hr:aI t f x=(eG t ⟨0,x.e,0,0,[]⟩,false):=by rw[HW.out];unfold je;rw[if_pos ⟨h7,.inl h3⟩]
    have HR:=ah hr;clear hr h7 h10 h3;go_enter Tryz.func49,Tryz.ntmps49;go_wp2;go_quiet (fail);go_wp2_with fail;clear hW0 m0 m2 m5 m7 m10 b1 b3 b4 b10 b11 b14 b15 f10 f11 f14;refine(aX.out _ (by(repeat'(first|(with_reducible first|exact ay|apply aA|apply aB|apply aC|apply aF)|(right;simp;done)))) ⟨0,x.e,0,0,[]⟩ rfl).mono ?_;rintro e w7 ⟨rfl,bY,aZ⟩;obtain⟨n0,n5,n7,n10⟩:=oJ.out _ (Kept.then (F:=fun k=>k=X.b) (b:=W0.drewN nq) (by(repeat'(first|(with_reducible first|exact ay|apply aA|apply aB|apply aC|apply aF)|(right;simp;done)))) aZ);have y3:w7.cell? ⟨bb,3,none⟩=some (.int .i64 t.a.k):=by rw[<-fF.out];exact bY.b.cell 3
    have jh:=ah bY;have jd:=ah aZ;clear bY aZ;go_wp2;go_ret;exact bF.out ⟨0,x.e,0,0,[]⟩ _ _ rfl (by(repeat'(first|(with_reducible first|exact ay|apply aA|apply aB|apply aC|apply aF)|(right;simp;done)))) jh.out jd.out _ (Kept.refl _ _) HR.out
  ·have p0:(pz==0)=false:=by rw[<-Ar.out,e];rfl
   have p1:(pz==1)=false:=by rw[<-Ar.out,e];rfl
   have p2:(pz==2)=true:=by rw[<-Ar.out,e];rfl
   have hft:oI t f=decide (f=4):=by unfold oI;rw[if_neg (by omega),if_neg (by omega)]
   by_cases hf:f=4;rotate_left
   ·have bf:(f==4)=false:=by simpa using hf
    have hr:aI t f x=(t,false):=by unfold aI;rw[if_pos (.inr (.inr (by rw[hft,decide_eq_false hf])))]
    have HR:=ah hr;clear hr e iV hp0 hft hf;go_enter Tryz.func49,Tryz.ntmps49;go_wp2;go_quiet (fail);go_wp2;go_ret;exact qK.out _ (by(repeat'(first|(with_reducible first|exact ay|apply aA|apply aB|apply aC|apply aF)|(right;simp;done)))) HR.out
   have bf:(f==4)=true:=by simpa using hf
   have hw:aI t f x=takeA t x:=by unfold aI;rw[if_neg (by rintro(z|z|z);exact qF.out z;exact z HQ.out;(rw[hft,decide_eq_true hf]at z;cases z)),if_neg (by omega),if_neg (by omega)]
   have HW:=ah hw;clear hw e iV hp0 hft hf;by_cases xK:x.k=14
   ·have k14:(x.k==14)=true:=by simpa using xK
    have k7:(x.k==7)=false:=by simp[xK]
    have hr:aI t f x=(eG t ⟨0,0,0,x.n,[]⟩,false):=by rw[HW.out];unfold takeA;rw[if_pos xK]
    have HR:=ah hr;clear hr xK;go_enter Tryz.func49,Tryz.ntmps49;go_wp2;go_quiet (fail);go_wp2_with fail;clear hW0 m0 m2 m5 m7 m10 b1 b3 b4 b10 b11 b14 b15 f10 f11 f14;refine(aX.out _ (by(repeat'(first|(with_reducible first|exact ay|apply aA|apply aB|apply aC|apply aF)|(right;simp;done)))) ⟨0,0,0,x.n,[]⟩ rfl).mono ?_;rintro e w7 ⟨rfl,bY,aZ⟩;obtain⟨n0,n5,n7,n10⟩:=oJ.out _ (Kept.then (F:=fun k=>k=X.b) (b:=W0.drewN nq) (by(repeat'(first|(with_reducible first|exact ay|apply aA|apply aB|apply aC|apply aF)|(right;simp;done)))) aZ);have y3:w7.cell? ⟨bb,3,none⟩=some (.int .i64 t.a.k):=by rw[<-fF.out];exact bY.b.cell 3
    have jh:=ah bY;have jd:=ah aZ;clear bY aZ;go_wp2;go_ret;exact bF.out ⟨0,0,0,x.n,[]⟩ _ _ rfl (by(repeat'(first|(with_reducible first|exact ay|apply aA|apply aB|apply aC|apply aF)|(right;simp;done)))) jh.out jd.out _ (Kept.refl _ _) HR.out
   have k14:(x.k==14)=false:=by simpa using xK
   by_cases h7:x.k=7
   ·have k7:(x.k==7)=true:=by simpa using h7
    have hr:aI t f x=(eG t ⟨0,x.e,0,0,[]⟩,false):=by rw[HW.out];unfold takeA;rw[if_neg xK,if_pos h7]
    have HR:=ah hr;clear hr xK h7;go_enter Tryz.func49,Tryz.ntmps49;go_wp2;go_quiet (fail);go_wp2_with fail;clear hW0 m0 m2 m5 m7 m10 b1 b3 b4 b10 b11 b14 b15 f10 f11 f14;refine(aX.out _ (by(repeat'(first|(with_reducible first|exact ay|apply aA|apply aB|apply aC|apply aF)|(right;simp;done)))) ⟨0,x.e,0,0,[]⟩ rfl).mono ?_;rintro e w7 ⟨rfl,bY,aZ⟩;obtain⟨n0,n5,n7,n10⟩:=oJ.out _ (Kept.then (F:=fun k=>k=X.b) (b:=W0.drewN nq) (by(repeat'(first|(with_reducible first|exact ay|apply aA|apply aB|apply aC|apply aF)|(right;simp;done)))) aZ);have y3:w7.cell? ⟨bb,3,none⟩=some (.int .i64 t.a.k):=by rw[<-fF.out];exact bY.b.cell 3
    have jh:=ah bY;have jd:=ah aZ;clear bY aZ;go_wp2;go_ret;exact bF.out ⟨0,x.e,0,0,[]⟩ _ _ rfl (by(repeat'(first|(with_reducible first|exact ay|apply aA|apply aB|apply aC|apply aF)|(right;simp;done)))) jh.out jd.out _ (Kept.refl _ _) HR.out
   ·have k7:(x.k==7)=false:=by simpa using h7
    have hr:aI t f x=(t,false):=by rw[HW.out];unfold takeA;rw[if_neg xK,if_neg h7]
    have HR:=ah hr;clear hr xK h7;go_enter Tryz.func49,Tryz.ntmps49;go_wp2;go_quiet (fail);go_wp2;go_ret;exact qK.out _ (by(repeat'(first|(with_reducible first|exact ay|apply aA|apply aB|apply aC|apply aF)|(right;simp;done)))) HR.out
end
end Ask
namespace Cli
open bg Ops fG eP Vn Go.Proofs.YtgbigpdiacjbgaaGreat.Ask
attribute [local go_sem↓] bW cZ
section
variable{w w':World}{X X':CX}{C C':dh}
theorem qo{s:ByteArray}(hs:0<s.size):(s.toList==([]:List UInt8))=false:=by
 cases hl:s.toList with
 |nil=>have h1:=congrArg List.length hl
       have h2:s.toList.length=s.size:=by rw[<-iw s];simp[bl,ByteArray.toList_eq]
       rw[h1]at h2
       simp at h2
       omega
 |cons a l=>rfl
theorem Nw(h:gq w X C)(f:Int)(s:ByteArray)(hs:0<s.size)(hsm:s.size<=maxLen)(hb:s[0].toNat=77)(hz:(bJ.ofM (s.extract 1 s.size)).2≠0):Calls Tryz.prog 11 #[.pointer (some ⟨X.cb,0,none⟩),.int .i64 f,.string s] w fun e w'=>e=.returned (.slice none 0 0)/\Kept aj w w':=by
 have HN:=ah (kD h);have hne:=qo hs;have hof:=bJ.Ij w (s.extract 1 s.size) (by rw[ByteArray.size_extract];omega);unfold bJ.lU at hof;obtain⟨er,uh⟩:∃er,(bJ.ofM (s.extract 1 s.size)).2=er:=⟨_,rfl⟩;rw[uh]at hz hof;have hz2:(er !=0)=true:=by simpa using hz
 have dw:=ah hof;clear hof uh hz h;go_enter Tryz.func11,Tryz.ntmps11;go_wp2_with fail;refine HN.out.mono ?_;rintro e w2 ⟨rfl,rfl⟩;go_wp2_with fail;refine dw.out.mono ?_;rintro e w3 ⟨x,rfl,-,-,hk3⟩;obtain⟨Wz,W4,gY,fP,-,hk4⟩:=kK w3 x;have HK:=ah (hk3.then hk4);unfold aK;obtain⟨cs,hcs⟩:∃cs,(au x).toArray=cs:=⟨_,rfl⟩;rw[hcs]at fP⊢;clear hk3 hk4;go_wp2;go_ret;exact⟨rfl,HK.out⟩
end
end Cli
namespace Cli
open bg Ops fG eP Vn Go.Proofs.YtgbigpdiacjbgaaGreat.Ask
attribute [local go_sem↓] bW cZ
section
variable{w w':World}{X X':CX}{C C':dh}
theorem P6(w:World):Calls Tryz.prog 31 #[.pointer none] w fun e w'=>e=.returned (.bool false)/\Kept aj w w':=by
 have hn:∀W,Calls Tryz.prog 55 #[.pointer none] W fun e w'=>e=.returned (.bool true)/\W=w':=fun W=>by go_enter Tryz.func55,Tryz.ntmps55;go_wp2;go_ret;exact⟨rfl,rfl⟩
 have HN:=ah hn;clear hn;go_enter Tryz.func31,Tryz.ntmps31;go_wp2_with fail;refine(HN.out _).mono ?_;rintro e w2 ⟨rfl,rfl⟩;go_wp2;go_ret;exact⟨rfl,by(repeat'(first|(with_reducible first|exact ay|apply aA|apply aB|apply aC|apply aF)|(right;simp;done)))⟩
theorem Way.step{W W':World}{X1 X2:CX}{C1 C2:dh}{lb c:Nat}{A:Option Addr}{L:List dS}(h:Way w X C W X1 C1 lb A c L)(hs:gV W X1 C1 W' X2 C2):Way w X C W' X2 C2 lb A c L:=by
 refine⟨h.st.trans hs,h.bx.lQ hs.k (fun k hf hc=>(h.nb k hf).2 hc),fun k hf=>⟨(h.nb k hf).1,fun hc=> ?_⟩⟩;rcases hs.g k hc with y|y
 ·exact(h.nb k hf).2 y
 ·have:=h.bx.lt hf;omega
theorem Iy(C:dh)(f:Int)(x:aO):(bC C f x).1.t=C.t/\(bC C f x).1.r=C.r:=by
 unfold bC;split
 ·exact⟨rfl,rfl⟩
 split
 ·exact⟨rfl,rfl⟩
 ·exact⟨rfl,rfl⟩
theorem MB(h:gq w X C)(ht:C.t=none)(f:Int)(s:ByteArray)(hs:0<s.size)(hsm:s.size<=maxLen)(hb:s[0].toNat=77)(hz:(bJ.ofM (s.extract 1 s.size)).2=0):Calls Tryz.prog 11 #[.pointer (some ⟨X.cb,0,none⟩),.int .i64 f,.string s] w (lG w X C (aV C f (bJ.ofM (s.extract 1 s.size)).1).1 []):=by
 have HN:=ah (kD h);have hne:=qo hs;have hof:=bJ.Ij w (s.extract 1 s.size) (by rw[ByteArray.size_extract];omega);unfold bJ.lU at hof;have hfin:∀W x X1 lb,bJ.strip x=(bJ.ofM (s.extract 1 s.size)).1->Way w X C W X1 (bC C f x).1 lb none 0 []->lG w X C (aV C f (bJ.ofM (s.extract 1 s.size)).1).1 [] (.returned (.slice none 0 0)) W:=fun W x X1 lb e1 hw=>by
  rw[<-e1,gW];have e2:(aV C f x).1=(bC C f x).1:=by unfold aV;rw[ht]
  rw[e2];exact hw.out
 generalize lG w X C (aV C f (bJ.ofM (s.extract 1 s.size)).1).1 []=Q at hfin⊢;rw[hz]at hof;have dw:=ah hof;have H:=ah h;have HT:=ah ht;have bF:=ah hfin;clear hof hz h ht hfin;obtain⟨cb,hcb⟩:∃cb,X.cb=cb:=⟨_,rfl⟩;rw[hcb]at HN⊢;have cu:=ah hcb;clear hcb;go_enter Tryz.func11,Tryz.ntmps11;go_wp2_with fail;refine HN.out.mono ?_;rintro e w2 ⟨rfl,rfl⟩;go_wp2_with fail;refine dw.out.mono ?_;rintro e w3 ⟨x,rfl,hsx,hxa,hk3⟩;obtain⟨Wz,W4,gY,fP,hb4,hk4⟩:=kK w3 x;have jo:=ah (gV.refl H.out (hk3.then hk4));have Oe:=ah ((hxa.kept hk4 (fun k hk=>hk.elim)).mono (Nat.zero_le _));have Fb:=ah hsx;obtain⟨bm,hbm⟩:∃bm,w3.heap.size=bm:=⟨_,rfl⟩;rw[hbm]at fP hb4;have HB4:=ah hb4;unfold aK;obtain⟨cs,hcs⟩:∃cs,(au x).toArray=cs:=⟨_,rfl⟩;rw[hcs]at fP⊢;have dV:=ah hcs;clear hk3 hk4 hsx hxa hb4 hcs;go_wp2_with fail;clear gY fP hbm;refine(CS W4).mono ?_;rintro e w6 ⟨lb,rfl,hbx,hlb,hk6⟩;have qR:=ah (Way.new jo.out hbx hlb hk6);have hlm:=aH w6 bm x (HB4.out.kept hk6 (fun z=>z));rw[dV.out]at hlm;have Iz:bJ.dF w6 0 x:=Oe.out.kept hk6 (fun k hk=>hk.elim);have hln:=Jz qR.out.st.at' f x Iz;unfold aK at hln;rw[dV.out,cu.out]at hln;obtain⟨lv,hlv⟩:∃lv,(bC C f x).2=lv:=⟨_,rfl⟩;rw[hlv]at hln;have nK:=ah hln;clear hbx hlb hk6 Iz hln hlv Oe;go_wp2_with fail;clear hlm;refine nK.out.mono ?_;rintro e w7 ⟨rfl,hs7⟩;have xM:=ah (qR.out.step hs7);have hb7:=hs7.at'.b;rw[cu.out]at hb7;have y4:w7.cell? ⟨cb,4,none⟩=some (nM X (bC C f x).1):=hb7.cell 4;rw[uw ((Iy C f x).1.trans HT.out)]at y4;clear hs7 hb7;cases lv
 ·go_wp2_with fail;refine(lV xM.out.bx).mono ?_;rintro e w8 ⟨rfl,rfl⟩;have HF:=ah (bF.out _ x X lb Fb.out xM.out);go_wp2;exact HF.out
 ·go_wp2_with fail;refine(P6 w7).mono ?_;rintro e w8 ⟨rfl,hk8⟩;have hw8:=xM.out.quiet hk8;have hb8:=hw8.st.at'.b;rw[cu.out]at hb8;have z4:w8.cell? ⟨cb,4,none⟩=some (nM X (bC C f x).1):=hb8.cell 4;rw[uw ((Iy C f x).1.trans HT.out)]at z4;have Am:=ah hw8;clear hk8 hw8 hb8 y4;go_wp2_with fail;refine(lV Am.out.bx).mono ?_;rintro e w9 ⟨rfl,rfl⟩;have HF:=ah (bF.out _ x X lb Fb.out Am.out);go_wp2;exact HF.out
end
end Cli
namespace bJ
open bg Ops fG Vn eP qh iI
theorem MC(s:ByteArray)(m:Nat)(r:RS):(aN s m r).1.size<=m:=by
 unfold aN;split
 ·exact Nat.zero_le _
 split
 ·exact Nat.zero_le _
 split
 ·exact Nat.zero_le _
 ·rw[ByteArray.size_extract];omega
def kQ(l:List iC):Prop:=∀p∈l,p.key.size<=8/\p.val.size<=8
theorem Ub(s:ByteArray)(r:RS)(k:Nat):kQ (cO s k r).1:=by
 induction k with
 |zero=>exact fun p hp=>by cases hp
 |succ k ih=>
  intro p hp;rw[cO]at hp;rcases List.mem_append.1 hp with hp|hp
  ·exact ih p hp
  ·rw[List.mem_singleton.1 hp];exact⟨MC _ _ _,MC _ _ _⟩
theorem ME(s:ByteArray)(c:Nat)(x:aO)(r:RS)(h:kQ x.ps):kQ (bG s c x r).1.ps:=by
 have hn:∀v,(ou x c v).ps=x.ps:=fun v=>by
  unfold ou;by_cases h1:c=101
  ·rw[if_pos h1]
  rw[if_neg h1];by_cases h2:c=115
  ·rw[if_pos h2]
  rw[if_neg h2];by_cases h3:c=114
  ·rw[if_pos h3]
  rw[if_neg h3];by_cases h4:c=110
  ·rw[if_pos h4]
  rw[if_neg h4];by_cases h5:c=109
  ·rw[if_pos h5]
  rw[if_neg h5]
 have hi:∀{p:Prop} [Decidable p] {a b:aO×RS×Int},(p->kQ a.1.ps)->(¬p->kQ b.1.ps)->kQ (if p then a else b).1.ps:=fun{p} _ {a b} ha hb=>by
  by_cases h:p
  ·rw[if_pos h];exact ha h
  ·rw[if_neg h];exact hb h
 unfold bG;refine hi (fun _=>by rw[hn];exact h) (fun _=> ?_);refine hi (fun _=>h) (fun _=> ?_);refine hi (fun _=>h) (fun _=> ?_);refine hi (fun _=>h) (fun _=> ?_);refine hi (fun _=>h) (fun _=> ?_);refine hi (fun _=>Ub _ _ _) (fun _=> ?_);iterate 6 refine hi (fun _=>h) (fun _=> ?_)
 exact h
theorem Wj(s:ByteArray)(l:List Nat)(x:aO)(r:RS)(h:kQ x.ps):kQ (dR s l x r).1.ps:=by
 induction l generalizing x r with
 |nil=>exact h
 |cons c l ih=>
  rw[dR];split
  ·exact ME s c x r h
  ·exact ih _ _ (ME s c x r h)
theorem uY(s:ByteArray):kQ (ofM s).1.ps:=by
 have hz:kQ zM.ps:=fun p hp=>by cases hp
 have hi:∀{p:Prop} [Decidable p] {a b:aO×Int},(p->kQ a.1.ps)->(¬p->kQ b.1.ps)->kQ (if p then a else b).1.ps:=fun{p} _ {a b} ha hb=>by
  by_cases h:p
  ·rw[if_pos h];exact ha h
  ·rw[if_neg h];exact hb h
 unfold ofM;refine hi (fun _=>hz) (fun _=> ?_);refine hi (fun _=>hz) (fun _=> ?_);refine hi (fun _=>hz) (fun _=> ?_);refine hi (fun _=>hz) (fun _=> ?_);refine hi (fun _=>hz) (fun _=> ?_);exact Wj _ _ _ _ hz
