/- Part 11. -/
import Derived.Test.YtgbigpdiacjbgaaGreatKP09
import Derived.Lib.QuietBelow
import Derived.Shelf.SlSortCmp.NoneTotal
set_option linter.unusedSimpArgs false
set_option linter.unusedVariables false
set_option maxHeartbeats 32000000
set_option maxRecDepth 100000
namespace Go.Proofs.YtgbigpdiacjbgaaGreat
open Go.RowKit Go.Sort
namespace Ask
open bg Ops fG eP MO Vn
attribute [local go_sem↓] bW cZ
section
variable{w w':World}{X:PX}{t:TS}{G:Nat->Prop}
theorem QS(h:kN w X t)(h1:t.ph=1)(hnd:t.dn=false)(hok:mV t)(x:aO)(hx:F9 w (jW X t) x):Calls Tryz.prog 212 #[.pointer (some ⟨X.g,0,none⟩),.pointer (some ⟨X.b,0,none⟩),aK x] w (dY w X t (.bool (je t x).2) (je t x).1):=by
 obtain⟨W0,hW0⟩:∃W0,w.alloc (.cells (au x).toArray 63)=W0:=⟨_,rfl⟩;have hk0:Kept aj w W0:=by rw[<-hW0];(repeat'(first|(with_reducible first|exact ay|apply aA|apply aB|apply aC|apply aF)|(right;simp;done)))
 have hn0:Has W0 w.heap.size 63 (au x).toArray:=by rw[<-hW0];exact Has.new _ _ _
 have h0:=h.quiet hk0;have hg0:=h0.g h1
 have hpg:t.a.k=2->∀W,Kept aj W0 W->Calls Tryz.prog 213 #[.pointer (some ⟨X.g,0,none⟩),.pointer (some ⟨X.b,0,none⟩),aK x] W (dY W X t (.bool (ig t x).2) (ig t x).1):=fun e W hW=>
  UN (h0.quiet hW) h1 hnd hok e x ⟨hx.s.kept (hk0.then hW) (fun _ _ z=>z),hx.l,hx.off,hx.k⟩
 have hend:=fun r=>qO h0 r none 0;have Gi:=fun W (hW:Kept aj W0 W)=>qO (h0.quiet hW);have hsrc:=fun W (hW:Kept aj W0 W)=>(hx.s.kept (hk0.then hW) (fun _ _ z=>z)).take (k:=min x.ps.length 1) (Nat.min_le_left _ _);have m0:W0.cell? ⟨w.heap.size,0,none⟩=some (.int .i64 x.k):=hn0.cell 0;have m5:W0.cell? ⟨w.heap.size,5,none⟩=some (.int .u64 x.at'):=hn0.cell 5;have m10:W0.cell? ⟨w.heap.size,10,none⟩=some (.int .i64 x.e):=hn0.cell 10;have m11:W0.cell? ⟨w.heap.size,11,none⟩=some (.string x.key):=hn0.cell 11;have m21:W0.cell? ⟨w.heap.size,21,none⟩=some (.slice x.pA x.ps.length x.pc):=hn0.cell 21;have v3:W0.cell? ⟨X.g,3,none⟩=some (.int .i64 t.a.k):=hg0.cell 3;have v10:W0.cell? ⟨X.g,10,none⟩=some (.int .u64 t.at'):=hg0.cell 10;have v11:W0.cell? ⟨X.g,11,none⟩=some (.string t.key):=hg0.cell 11;have hcell:∀W,Kept (fun k=>k=X.b) W0 W->W.cell? ⟨X.g,10,none⟩=some (.int .u64 t.at')/\W.cell? ⟨w.heap.size,21,none⟩=some (.slice x.pA x.ps.length x.pc):=fun W hW=>⟨(hg0.kept hW (fun e=>Has.ne hg0 h0.b (by decide) e)).cell 10,(hn0.kept hW (fun e=>by have:=h.b.lt;omega)).cell 21⟩
 have hfin:∀(r:o8) A c W w7,Kept aj W0 W->kN w7 {X with rA:=A,rc:=c} (eG t r)->Kept (fun k=>k=X.b) W w7->(∀k,(Value.slice A r.ps.length c).ownBlock=some k->w.heap.size<=k)->∀w8,Kept aj w7 w8->dY w X t (.bool false) (eG t r) (.returned (.bool false)) w8:=fun r A c W w7 hW hp hk hA w8 hk8=>
  ⟨rfl,_,hp.quiet hk8,rfl,fun k hk=>yI (w:=w) (fun k hk=> .inr (hA k hk)) hk,(((hk0.then hW).mono (fun _ z=>z.elim)).then (hk.mono (fun k e=> .inl e))).then (hk8.mono (fun _ z=>z.elim))⟩
 have hlm:∀n,(uH ⟨w.heap.size,0,none⟩).run Tryz.prog (W0.drewN n)=.ok (aK x) (W0.drewN n):=fun n=>aH _ _ _ (hn0.drewN n);have DL:=ah hlm;have WR:=ah hpg;have aX:=ah hend;have OA:=ah Gi;have uS:=ah hsrc;have oJ:=ah hcell;have bF:=ah hfin;have HH:=ah h;have aS:=ah hk0;have HX:=ah hx;have dZ:=ah hn0;have HH0:=ah h0;have H1:=ah h1;have hxl:=hx.l;unfold maxLen at hxl;obtain⟨gb,hgb⟩:∃gb,X.g=gb:=⟨_,rfl⟩;rw[hgb]at v3 v10 v11;simp only[hgb]at oJ WR;rw[hgb];obtain⟨n,hn⟩:∃n,x.ps.length=n:=⟨_,rfl⟩;rw[hn]at m21 hxl;simp only[hn]at oJ uS;have lJ:=ah hn;have hxa:aK x=.agg (au x).toArray:=rfl;obtain⟨cs,hcs⟩:∃cs,(au x).toArray=cs:=⟨_,rfl⟩;unfold au at hW0;rw[hn]at hW0;unfold aK at DL WR⊢;rw[hcs]at DL WR;unfold au;rw[hn];have zS:=ah hgb;have dV:=ah hcs;clear hlm hpg hend Gi hsrc hcell hfin h hk0 hx hn0 h0 h1 hg0 hn hxa hcs hnd hok;have hgo:#[Value.int .i64 x.k]=#[Value.int .i64 x.k]:=rfl;clear hgo;by_cases h7:x.k=7
 ·have b7:(x.k==7)=true:=by simpa using h7
  have b10:(x.k !=10)=true:=by simp[h7]
  by_cases h3:t.a.k=3
  ·have b3:(t.a.k !=3)=false:=by simpa using h3
   by_cases h12:x.e=12
   ·have b12:(x.e !=12)=false:=by simpa using h12
    have hr:je t x=(t,false):=by unfold je;rw[if_neg (fun e=>by rcases e.2 with e|e;exact e h3;exact e h12),if_pos (.inl (by omega))]
    rw[hr];clear h7 h3 h12 hr;go_enter Tryz.func212,Tryz.ntmps212;go_wp2;go_quiet (fail);go_wp2;go_ret;exact dY.same HH.out (by(repeat'(first|(with_reducible first|exact ay|apply aA|apply aB|apply aC|apply aF)|(exact aS.out)|(right;simp;done))))
   ·have b12:(x.e !=12)=true:=by simpa using h12
    have hr:je t x=(eG t ⟨0,x.e,0,0,[]⟩,false):=by unfold je;rw[if_pos ⟨h7,.inr h12⟩]
    rw[hr];clear h7 h3 h12 hr;go_enter Tryz.func212,Tryz.ntmps212;go_wp2_with fail;clear hW0 m0 m5 m10 m11 m21 v3 v10 v11;refine(aX.out ⟨0,x.e,0,0,[]⟩ ⟨rfl,.inl ⟨rfl,rfl⟩⟩).mono ?_;rintro e w7 ⟨rfl,bY,aZ⟩;have jh:=ah bY;have jd:=ah aZ;clear bY aZ;go_wp2;go_ret;exact bF.out _ none 0 _ _ (Kept.refl _ _) jh.out jd.out (fun k hk=>by cases hk) _ (Kept.refl _ _)
  ·have b3:(t.a.k !=3)=true:=by simpa using h3
   have hr:je t x=(eG t ⟨0,x.e,0,0,[]⟩,false):=by unfold je;rw[if_pos ⟨h7,.inl h3⟩]
   rw[hr];clear h7 h3 hr;go_enter Tryz.func212,Tryz.ntmps212;go_wp2_with fail;clear hW0 m0 m5 m10 m11 m21 v3 v10 v11;refine(aX.out ⟨0,x.e,0,0,[]⟩ ⟨rfl,.inl ⟨rfl,rfl⟩⟩).mono ?_;rintro e w7 ⟨rfl,bY,aZ⟩;have jh:=ah bY;have jd:=ah aZ;clear bY aZ;go_wp2;go_ret;exact bF.out _ none 0 _ _ (Kept.refl _ _) jh.out jd.out (fun k hk=>by cases hk) _ (Kept.refl _ _)
 have b7:(x.k==7)=false:=by simpa using h7
 by_cases h10:x.k=10;rotate_left
 ·have b10:(x.k !=10)=true:=by simpa using h10
  have hr:je t x=(t,false):=by unfold je;rw[if_neg (fun e=>h7 e.1),if_pos (.inl h10)]
  rw[hr];clear h7 h10 hr;go_enter Tryz.func212,Tryz.ntmps212;go_wp2;go_quiet (fail);go_wp2;go_ret;exact dY.same HH.out (by(repeat'(first|(with_reducible first|exact ay|apply aA|apply aB|apply aC|apply aF)|(exact aS.out)|(right;simp;done))))
 have b10:(x.k !=10)=false:=by simpa using h10
 by_cases ha:x.at'=t.at';rotate_left
 ·have ba:(x.at' !=t.at')=true:=by simpa using ha
  have hr:je t x=(t,false):=by unfold je;rw[if_neg (fun e=>h7 e.1),if_pos (.inr (.inl ha))]
  rw[hr];clear h7 h10 ha hr;go_enter Tryz.func212,Tryz.ntmps212;go_wp2;go_quiet (fail);go_wp2;go_ret;exact dY.same HH.out (by(repeat'(first|(with_reducible first|exact ay|apply aA|apply aB|apply aC|apply aF)|(exact aS.out)|(right;simp;done))))
 have ba:(x.at' !=t.at')=false:=by simpa using ha
 by_cases hk:x.key=t.key;rotate_left
 ·have bk:(x.key.toList==t.key.toList)=false:=by rw[oG];exact decide_eq_false hk
  have hr:je t x=(t,false):=by unfold je;rw[if_neg (fun e=>h7 e.1),if_pos (.inr (.inr hk))]
  rw[hr];clear h7 h10 ha hk hr;go_enter Tryz.func212,Tryz.ntmps212;go_wp2;go_quiet (fail);go_wp2;go_ret;exact dY.same HH.out (by(repeat'(first|(with_reducible first|exact ay|apply aA|apply aB|apply aC|apply aF)|(exact aS.out)|(right;simp;done))))
 have bk:(x.key.toList==t.key.toList)=true:=by rw[oG];exact decide_eq_true hk
 by_cases h2:t.a.k=2
 ·have b2:(t.a.k !=2)=false:=by simpa using h2
  have hr:je t x=ig t x:=by unfold je;rw[if_neg (fun e=>h7 e.1),if_neg (by rintro(e|e|e);exact e h10;exact e ha;exact e hk),if_neg (fun e=>e h2)]
  rw[hr];have hpg:=WR.out h2;have HP:=ah hpg;clear h7 h10 ha hk h2 hr hpg;go_enter Tryz.func212,Tryz.ntmps212;go_wp2;go_quiet (fail);have hl:=DL.out nq;have hpg:=HP.out (W0.drewN nq) (by(repeat'(first|(with_reducible first|exact ay|apply aA|apply aB|apply aC|apply aF)|(right;simp;done))));have YP:=ah hpg;clear hpg;go_wp2_with fail;refine YP.out.mono ?_;rintro e w7 ⟨rfl,X7,bY,hb7,QT,aZ⟩;have jh:=ah (And.intro bY (And.intro hb7 (And.intro QT aZ)));clear bY hb7 QT aZ hl;go_wp2;go_ret
  exact⟨rfl,X7,jh.out.1,jh.out.2.1,fun k hk=>by
   rcases jh.out.2.2.1 k hk with e|e
   ·exact .inl e
   ·exact .inr (Nat.le_trans aS.out.size e),(aS.out.drewN nq|>.mono (fun _ z=>z.elim)).then jh.out.2.2.2⟩
 ·have b2:(t.a.k !=2)=true:=by simpa using h2
  have hr:je t x=(eG t ⟨0,0,t.at',0,x.ps.take 1⟩,false):=by unfold je;rw[if_neg (fun e=>h7 e.1),if_neg (by rintro(e|e|e);exact e h10;exact e ha;exact e hk),if_pos h2]
  rw[hr];clear h7 h10 ha hk h2 hr;obtain⟨m,hm⟩:∃m,min n 1=m:=⟨_,rfl⟩;simp only[hm]at uS;have hmn:=rU (n:Int) 1 (m:Int) (by omega);have Bd:m<=n:=by omega
  have hmc:m<=x.pc:=by omega
  have hml:(x.ps.take 1).length=m:=by rw[List.length_take,lJ.out];omega
  have hcl:=fun W (hW:Kept aj W0 W)=>Bi W x.pA x.pc (x.ps.take 1) (by
   have s1:=uS.out W hW
   rw[yu,show x.ps.take m=x.ps.take 1 by
    rcases Nat.eq_zero_or_pos n with e|e
    ·rw[lE0 (lJ.out.trans e)];simp
    ·rw[show m=1 by omega],<-hml]at s1
   exact s1) (by omega)
  have uK:=fun W (hW:Kept aj W0 W) A c=>OA.out W hW ⟨0,0,t.at',0,x.ps.take 1⟩ A c;have hfin:=fun A c=>bF.out ⟨0,0,t.at',0,x.ps.take 1⟩ A c;obtain⟨L1,hL1⟩:∃L1,x.ps.take 1=L1:=⟨_,rfl⟩;rw[hL1]at hml⊢;simp only[hL1]at hcl uK hfin;unfold WN bV at hcl;unfold nV iO at uK;dsimp only at uK;simp only[hml]at hcl uK hfin;have OB:=ah uK;have OC:=ah hfin;clear uK hfin hL1;have y0:=oJ.out W0 (Kept.refl _ _);have nP:=ah hcl;have HML:=ah hml;clear hcl hml hm;have HB0:=ah (show W0.heap.size<=W0.heap.size from Nat.le_refl _);go_enter Tryz.func212,Tryz.ntmps212;go_wp2;go_quiet (fail);go_wp2
  go_region_held3 (fun W=>W.cell? ⟨gb,10,none⟩=some (.int .u64 t.at')/\W.cell? ⟨w.heap.size,21,none⟩=some (.slice x.pA n x.pc))
   (first|with_reducible exact y7|with_reducible exact y5|with_reducible exact y0|exact y0)
   (first
    |(go_at_call 28;refine(nP.out _ (by(repeat'(first|(with_reducible first|exact ay|apply aA|apply aB|apply aC|apply aF)|(right;simp;done))))).mono ?_;rintro e w5 ⟨A,c,rfl,⟨hnp,YQ⟩,hk5⟩;have hk:=Kept.then (F:=aj) (a:=W0) (by(repeat'(first|(with_reducible first|exact ay|apply aA|apply aB|apply aC|apply aF)|(right;simp;done)))) hk5;have y5:=oJ.out w5 (hk.mono (fun _ z=>z.elim));have zO:=ah hnp;have abl:=ah YQ;have dK:=ah hk;have tX:=ah hk5.size;clear hnp YQ hk hk5)
    |(go_at_call 67;refine(OB.out w5 dK.out A c zO.out).mono ?_;rintro e w7 ⟨rfl,bY,aZ⟩;have y7:=oJ.out w7 (Kept.then (dK.out.mono (fun _ z=>z.elim)) aZ);have jh:=ah bY;have jd:=ah aZ;clear bY aZ))
  all_goals
   go_wp2
   go_ret
   exact OC.out A c _ _ dK.out jh.out jd.out (fun k hk=>Nat.le_trans (Nat.le_trans aS.out.size (HB0.out)) (abl.out k hk)) _ (Kept.refl _ _)
attribute [local go_sem] ni
theorem dO{a b:World}(h:Below a.heap.size a b):Kept aj a b:=⟨h.os,h.tape,h.output,h.size,fun k hk _=>h.block k hk⟩
theorem OD{W:World}{g:Nat}{x:aO}(h:Has W g 63 (au x).toArray):fD W ⟨g,0,none⟩/\eX W ⟨g,0,none⟩=(au x).toArray:=
 xW rfl fun j u hu=>by
  have e1:((⟨g,0,none⟩:Addr).add j)=⟨g,j,none⟩:=by unfold Addr.add;split<;>simp_all
  rw[e1,h.cell];simpa using hu
theorem QU(h:kN w X t)(hok:mV t)(f:Int)(x:aO)(hx:F9 w (jW X t) x):Calls Tryz.prog 32 #[.pointer (some ⟨X.b,0,none⟩),.int .i64 f,aK x] w (dY w X t (.bool (aI t f x).2) (aI t f x).1):=by
 obtain⟨W0,hW0⟩:∃W0,w.alloc (.cells (au x).toArray 63)=W0:=⟨_,rfl⟩;have hk0:Kept aj w W0:=by rw[<-hW0];(repeat'(first|(with_reducible first|exact ay|apply aA|apply aB|apply aC|apply aF)|(right;simp;done)))
 have hn0:Has W0 w.heap.size 63 (au x).toArray:=by rw[<-hW0];exact Has.new _ _ _
 have h0:=h.quiet hk0;have hnone:=fun W (hW:Kept aj W0 W)=>xX (h0.quiet hW)
 have hcell:∀W,Kept aj W0 W->W.cell? ⟨X.b,0,none⟩=some (pI X t)/\W.cell? ⟨X.b,1,none⟩=some (.int .i64 t.rq)/\W.cell? ⟨X.b,3,none⟩=some (.bool t.dn)/\W.cell? ⟨w.heap.size,2,none⟩=some (.int .i64 x.req):=fun W hW=>
  ⟨(h0.b.kept hW (fun z=>z)).cell 0,(h0.b.kept hW (fun z=>z)).cell 1,(h0.b.kept hW (fun z=>z)).cell 3,(hn0.kept hW (fun z=>z)).cell 2⟩
 have hfin:∀W (b:Bool) t' e w7,Kept aj W0 W->dY W X t (.bool b) t' e w7->dY w X t (.bool b) t' e w7:=fun W b t' e w7 hW hp=>by
  obtain⟨e1,X',a1,a2,a3,a4⟩:=hp
  exact⟨e1,X',a1,a2,fun k hk=>by
   rcases a3 k hk with e|e
   ·exact .inl e
   ·exact .inr (Nat.le_trans (hk0.then hW).size e),((hk0.then hW).mono (fun _ z=>z.elim)).then a4⟩
 have hsame:∀W,Kept aj W0 W->dY w X t (.bool false) t (.returned (.bool false)) W:=fun W hW=>dY.same h (hk0.then hW);have hlm:∀W,Kept aj W0 W->(W.cell? ⟨X.b,0,none⟩=some (pI X t)/\fD W ⟨w.heap.size,0,none⟩/\eX W ⟨w.heap.size,0,none⟩=(au x).toArray):=fun W hW=>⟨(hcell W hW).1,OD (hn0.kept hW (fun z=>z))⟩;have uQ:=hok.ph;have hfw:=fun W=>QH W X t f;have hfr:=fun(e:t.ph=1) W (hW:Kept aj W0 W)=>QJ (h0.quiet hW) e f;have hfa:=fun W=>QI W X t f;have htw:=fun(e:t.ph=0) (ed:t.dn=false) W (hW:Kept aj W0 W)=>QL (h0.quiet hW) e ed x;have htr:=fun(e:t.ph=1) (ed:t.dn=false) W (hW:Kept aj W0 W)=>QS (h0.quiet hW) e ed hok x ⟨hx.s.kept (hk0.then hW) (fun _ _ z=>z),hx.l,hx.off,hx.k⟩;have hta:=fun W (hW:Kept aj W0 W)=>QK (h0.quiet hW) x;obtain⟨bb,hbb⟩:∃bb,X.b=bb:=⟨_,rfl⟩;simp only[hbb]at hnone hcell hlm htw htr hta;rw[hbb];obtain⟨pv,hpv⟩:∃pv,pI X t=pv:=⟨_,rfl⟩;simp only[hpv]at hcell hlm;obtain⟨cs,hcs⟩:∃cs,(au x).toArray=cs:=⟨_,rfl⟩;unfold au at hW0;unfold aK at htw htr hta⊢;rw[hcs]at htw htr hta;simp only[hcs]at hlm;unfold au;have Gj:=ah hnone;have oJ:=ah hcell;have bF:=ah hfin;have qK:=ah hsame;have DL:=ah hlm;have HFW:=ah hfw;have QV:=ah hfr;have HFA:=ah hfa;have HTW:=ah htw;have HTR:=ah htr;have HTA:=ah hta;have YR:=ah hpv;have dV:=ah hcs;have aS:=ah hk0;have fF:=ah hbb;have y0:=hcell W0 (Kept.refl _ _);clear hnone hcell hfin hsame hlm hfw hfr hfa htw htr hta hpv hcs hk0 hbb h hok hx h0 hn0;cases hdn:t.dn with
 |true=>
  have hr:aI t f x=(t,false):=by unfold aI;rw[if_pos (.inl hdn)]
  rw[hr];rw[hdn]at y0;clear hdn hr;go_enter Tryz.func32,Tryz.ntmps32;go_wp2_with fail;go_quiet (exact Calls.quiet_of_same ((Gj.out _ (by(repeat'(first|(with_reducible first|exact ay|apply aA|apply aB|apply aC|apply aF)|(right;simp;done))))).mono fun e w' h=>⟨h.1,h.2.symm⟩));go_wp2;go_ret;exact qK.out _ (by(repeat'(first|(with_reducible first|exact ay|apply aA|apply aB|apply aC|apply aF)|(right;simp;done))))
 |false=>
  have qE:=ah hdn;rw[hdn]at y0 oJ;clear hdn;by_cases hq:x.req=t.rq;rotate_left
  ·have bq:(x.req !=t.rq)=true:=by simpa using hq
   have hr:aI t f x=(t,false):=by unfold aI;rw[if_pos (.inr (.inl hq))]
   rw[hr];clear hq hr;go_enter Tryz.func32,Tryz.ntmps32;go_wp2_with fail;go_quiet (exact Calls.quiet_of_same ((Gj.out _ (by(repeat'(first|(with_reducible first|exact ay|apply aA|apply aB|apply aC|apply aF)|(right;simp;done))))).mono fun e w' h=>⟨h.1,h.2.symm⟩));go_wp2;go_ret;exact qK.out _ (by(repeat'(first|(with_reducible first|exact ay|apply aA|apply aB|apply aC|apply aF)|(right;simp;done))))
  have bq:(x.req !=t.rq)=false:=by simpa using hq
  have HQ:=ah hq;clear hq;rcases(show t.ph=0\/t.ph=1\/t.ph=2 by omega)with e|e|e
  ·have hpv:=YR.out;rw[Ox e]at hpv;obtain⟨zU,FD⟩:∃zU,(fM X t).toArray=zU:=⟨_,rfl⟩;rw[FD]at hpv;subst hpv;have hft:oI t f=decide (0<=f/\f<4):=by unfold oI;rw[if_pos e]
   have hfc:=fun W (hW:Kept aj W0 W)=>HFW.out W;have htc:=fun W (hW:Kept aj W0 W)=>HTW.out e qE.out W hW;simp only[FD]at hfc htc;have hm1:∀w:World,(method 379 111 (.agg zU) "catena/asks.from").run Tryz.prog w=.ok (205,.agg zU) w:=fun _=>by kernel_rfl
   have hm2:∀w:World,(method 379 111 (.agg zU) "catena/asks.take").run Tryz.prog w=.ok (207,.agg zU) w:=fun _=>by kernel_rfl
   have htk:oI t f=true->aI t f x=lN t x:=fun e1=>by unfold aI;rw[if_neg (by rintro(z|z|z);(rw[qE.out]at z;cases z);exact z HQ.out;(rw[e1]at z;cases z)),if_pos e]
   have htn:oI t f=false->aI t f x=(t,false):=fun e1=>by unfold aI;rw[if_pos (.inr (.inr e1))]
   obtain⟨v,hv⟩:∃v,decide (0<=f/\f<4)=v:=⟨_,rfl⟩;rw[hv]at hft;simp only[hv]at hfc;have QW:=ah hfc;have IX:=ah htc;have qc:=ah htk;have IY:=ah htn;clear hfc htc htk htn hv FD e uQ;have hrn:∀d os,Calls Tryz.prog 55 #[.pointer (some ⟨bb,0,none⟩)] (grow (redrawn W0 d) os) fun e w'=>e=.returned (.bool false)/\∃p:Regrown,w'=grow (redrawn W0 p.d) p.os:=fun d os=>Calls.regrown_of ((Gj.out _ (dO (below_regrown W0 d os))).mono fun e w' h=>⟨h.1,h.2▸Below.refl _ _⟩);have hrf:∀d os,Calls Tryz.prog 205 #[.agg zU,.int .i64 f] (grow (redrawn W0 d) os) fun e w'=>e=.returned (.bool v)/\∃p:Regrown,w'=grow (redrawn W0 p.d) p.os:=fun d os=>Calls.regrown_of ((QW.out _ (dO (below_regrown W0 d os))).mono fun e w' h=>⟨h.1,h.2.below (Nat.le_refl _) (fun _ z=>z.elim)⟩);have c0:=fun d os=>cell_regrown y0.1 d os;have c1:=fun d os=>cell_regrown y0.2.1 d os;have c3:=fun d os=>cell_regrown y0.2.2.1 d os;have c2:=fun d os=>cell_regrown y0.2.2.2 d os;have tY:=ah hrn;have jl:=ah hrf;clear hrn hrf;cases v
   ·rw[IY.out hft];clear hft;go_enter Tryz.func32,Tryz.ntmps32;go_wp2_with fail;refine wp_region_quiet_below (by kernel_rfl) (by kernel_rfl) ?_;repeat (first|go_big_quiet_step (first|with_reducible exact tY.out _ _|with_reducible exact jl.out _ _)|quiet_step (first|with_reducible exact tY.out _ _|with_reducible exact jl.out _ _))
    refine wpQuiet_nil ?_;intro _ kZ;obtain⟨⟨dq,osq⟩,kZ⟩:=kZ;subst kZ;have hk9:=dO (below_regrown W0 dq osq);obtain⟨W9,pJ⟩:∃W9,grow (redrawn W0 dq) osq=W9:=⟨_,rfl⟩;rw[pJ]at hk9⊢;go_wp2;go_ret;exact qK.out _ hk9
   ·rw[qc.out hft];clear hft;go_enter Tryz.func32,Tryz.ntmps32;go_wp2_with fail;refine wp_region_quiet_below (by kernel_rfl) (by kernel_rfl) ?_;repeat (first|go_big_quiet_step (first|with_reducible exact tY.out _ _|with_reducible exact jl.out _ _)|quiet_step (first|with_reducible exact tY.out _ _|with_reducible exact jl.out _ _))
    refine wpQuiet_nil ?_;intro _ kZ;obtain⟨⟨dq,osq⟩,kZ⟩:=kZ;subst kZ;have hk9:=dO (below_regrown W0 dq osq);obtain⟨W9,pJ⟩:∃W9,grow (redrawn W0 dq) osq=W9:=⟨_,rfl⟩;rw[pJ]at hk9⊢;have sJ:=ah hk9;obtain⟨y6,y7,y8⟩:=DL.out W9.drew hk9.drew;clear hk9 pJ;go_wp2;refine wp_region_still_tail 6 (by kernel_rfl) (by kernel_rfl) ?_;simp only[List.take_succ_cons,List.take_zero,List.drop_succ_cons,List.drop_zero];change wpStill _ _ (World.drew W9) _ _ _;repeat still_step
    refine wpStill_nil ?_;change wpList _ _ _ _ _ (World.drew W9);go_wp2_with fail;refine(IX.out _ (by(repeat'(first|(with_reducible first|exact ay|apply aA|apply aB|apply aC|apply aF)|(exact sJ.out)|(right;simp;done))))).mono ?_;rintro e w7 bY;have hp:=bF.out _ _ _ _ _ (by(repeat'(first|(with_reducible first|exact ay|apply aA|apply aB|apply aC|apply aF)|(exact sJ.out)|(right;simp;done)))) bY;have HP:=ah hp;obtain⟨rfl,-⟩:=bY;clear hp;go_wp2;go_ret;exact HP.out
  ·have hpv:=YR.out;rw[UI e]at hpv;subst hpv;have hft:oI t f=decide (f=t.a.nd):=by unfold oI;rw[if_neg (by omega),if_pos e]
   have hfc:=fun W (hW:Kept aj W0 W)=>QV.out e W hW;have htc:=fun W (hW:Kept aj W0 W)=>HTR.out e qE.out W hW;have hm1:∀w:World,(method 379 112 (.pointer (some ⟨X.g,0,none⟩)) "catena/asks.from").run Tryz.prog w=.ok (209,.pointer (some ⟨X.g,0,none⟩)) w:=fun _=>by kernel_rfl
   have hm2:∀w:World,(method 379 112 (.pointer (some ⟨X.g,0,none⟩)) "catena/asks.take").run Tryz.prog w=.ok (212,.pointer (some ⟨X.g,0,none⟩)) w:=fun _=>by kernel_rfl
   have htk:oI t f=true->aI t f x=je t x:=fun e1=>by unfold aI;rw[if_neg (by rintro(z|z|z);(rw[qE.out]at z;cases z);exact z HQ.out;(rw[e1]at z;cases z)),if_neg (by omega),if_pos e]
   have htn:oI t f=false->aI t f x=(t,false):=fun e1=>by unfold aI;rw[if_pos (.inr (.inr e1))]
   obtain⟨v,hv⟩:∃v,decide (f=t.a.nd)=v:=⟨_,rfl⟩;rw[hv]at hft;simp only[hv]at hfc;have QW:=ah hfc;have IX:=ah htc;have qc:=ah htk;have IY:=ah htn;clear hfc htc htk htn hv e uQ;have hrn:∀d os,Calls Tryz.prog 55 #[.pointer (some ⟨bb,0,none⟩)] (grow (redrawn W0 d) os) fun e w'=>e=.returned (.bool false)/\∃p:Regrown,w'=grow (redrawn W0 p.d) p.os:=fun d os=>Calls.regrown_of ((Gj.out _ (dO (below_regrown W0 d os))).mono fun e w' h=>⟨h.1,h.2▸Below.refl _ _⟩);have hrf:∀d os,Calls Tryz.prog 209 #[.pointer (some ⟨X.g,0,none⟩),.int .i64 f] (grow (redrawn W0 d) os) fun e w'=>e=.returned (.bool v)/\∃p:Regrown,w'=grow (redrawn W0 p.d) p.os:=fun d os=>Calls.regrown_of ((QW.out _ (dO (below_regrown W0 d os))).mono fun e w' h=>⟨h.1,h.2.below (Nat.le_refl _) (fun _ z=>z.elim)⟩);have c0:=fun d os=>cell_regrown y0.1 d os;have c1:=fun d os=>cell_regrown y0.2.1 d os;have c3:=fun d os=>cell_regrown y0.2.2.1 d os;have c2:=fun d os=>cell_regrown y0.2.2.2 d os;have tY:=ah hrn;have jl:=ah hrf;clear hrn hrf;cases v
   ·rw[IY.out hft];clear hft;go_enter Tryz.func32,Tryz.ntmps32;go_wp2_with fail;refine wp_region_quiet_below (by kernel_rfl) (by kernel_rfl) ?_;repeat (first|go_big_quiet_step (first|with_reducible exact tY.out _ _|with_reducible exact jl.out _ _)|quiet_step (first|with_reducible exact tY.out _ _|with_reducible exact jl.out _ _))
    refine wpQuiet_nil ?_;intro _ kZ;obtain⟨⟨dq,osq⟩,kZ⟩:=kZ;subst kZ;have hk9:=dO (below_regrown W0 dq osq);obtain⟨W9,pJ⟩:∃W9,grow (redrawn W0 dq) osq=W9:=⟨_,rfl⟩;rw[pJ]at hk9⊢;go_wp2;go_ret;exact qK.out _ hk9
   ·rw[qc.out hft];clear hft;go_enter Tryz.func32,Tryz.ntmps32;go_wp2_with fail;refine wp_region_quiet_below (by kernel_rfl) (by kernel_rfl) ?_;repeat (first|go_big_quiet_step (first|with_reducible exact tY.out _ _|with_reducible exact jl.out _ _)|quiet_step (first|with_reducible exact tY.out _ _|with_reducible exact jl.out _ _))
    refine wpQuiet_nil ?_;intro _ kZ;obtain⟨⟨dq,osq⟩,kZ⟩:=kZ;subst kZ;have hk9:=dO (below_regrown W0 dq osq);obtain⟨W9,pJ⟩:∃W9,grow (redrawn W0 dq) osq=W9:=⟨_,rfl⟩;rw[pJ]at hk9⊢;have sJ:=ah hk9;obtain⟨y6,y7,y8⟩:=DL.out W9.drew hk9.drew;clear hk9 pJ;go_wp2;refine wp_region_still_tail 6 (by kernel_rfl) (by kernel_rfl) ?_;simp only[List.take_succ_cons,List.take_zero,List.drop_succ_cons,List.drop_zero];change wpStill _ _ (World.drew W9) _ _ _;repeat still_step
    refine wpStill_nil ?_;change wpList _ _ _ _ _ (World.drew W9);go_wp2_with fail;refine(IX.out _ (by(repeat'(first|(with_reducible first|exact ay|apply aA|apply aB|apply aC|apply aF)|(exact sJ.out)|(right;simp;done))))).mono ?_;rintro e w7 bY;have hp:=bF.out _ _ _ _ _ (by(repeat'(first|(with_reducible first|exact ay|apply aA|apply aB|apply aC|apply aF)|(exact sJ.out)|(right;simp;done)))) bY;have HP:=ah hp;obtain⟨rfl,-⟩:=bY;clear hp;go_wp2;go_ret;exact HP.out
  ·have hpv:=YR.out;rw[UJ e]at hpv;obtain⟨zU,FD⟩:∃zU,(fM X t).toArray=zU:=⟨_,rfl⟩;rw[FD]at hpv;subst hpv;have hft:oI t f=decide (f=4):=by unfold oI;rw[if_neg (by omega),if_neg (by omega)]
   have hfc:=fun W (hW:Kept aj W0 W)=>HFA.out W;have htc:=fun W (hW:Kept aj W0 W)=>HTA.out W hW;simp only[FD]at hfc htc;have hm1:∀w:World,(method 379 115 (.agg zU) "catena/asks.from").run Tryz.prog w=.ok (215,.agg zU) w:=fun _=>by kernel_rfl
   have hm2:∀w:World,(method 379 115 (.agg zU) "catena/asks.take").run Tryz.prog w=.ok (217,.agg zU) w:=fun _=>by kernel_rfl
   have htk:oI t f=true->aI t f x=takeA t x:=fun e1=>by unfold aI;rw[if_neg (by rintro(z|z|z);(rw[qE.out]at z;cases z);exact z HQ.out;(rw[e1]at z;cases z)),if_neg (by omega),if_neg (by omega)]
   have htn:oI t f=false->aI t f x=(t,false):=fun e1=>by unfold aI;rw[if_pos (.inr (.inr e1))]
   obtain⟨v,hv⟩:∃v,decide (f=4)=v:=⟨_,rfl⟩;rw[hv]at hft;simp only[hv]at hfc;have QW:=ah hfc;have IX:=ah htc;have qc:=ah htk;have IY:=ah htn;clear hfc htc htk htn hv FD e uQ;have hrn:∀d os,Calls Tryz.prog 55 #[.pointer (some ⟨bb,0,none⟩)] (grow (redrawn W0 d) os) fun e w'=>e=.returned (.bool false)/\∃p:Regrown,w'=grow (redrawn W0 p.d) p.os:=fun d os=>Calls.regrown_of ((Gj.out _ (dO (below_regrown W0 d os))).mono fun e w' h=>⟨h.1,h.2▸Below.refl _ _⟩);have hrf:∀d os,Calls Tryz.prog 215 #[.agg zU,.int .i64 f] (grow (redrawn W0 d) os) fun e w'=>e=.returned (.bool v)/\∃p:Regrown,w'=grow (redrawn W0 p.d) p.os:=fun d os=>Calls.regrown_of ((QW.out _ (dO (below_regrown W0 d os))).mono fun e w' h=>⟨h.1,h.2.below (Nat.le_refl _) (fun _ z=>z.elim)⟩);have c0:=fun d os=>cell_regrown y0.1 d os;have c1:=fun d os=>cell_regrown y0.2.1 d os;have c3:=fun d os=>cell_regrown y0.2.2.1 d os;have c2:=fun d os=>cell_regrown y0.2.2.2 d os;have tY:=ah hrn;have jl:=ah hrf;clear hrn hrf;cases v
   ·rw[IY.out hft];clear hft;go_enter Tryz.func32,Tryz.ntmps32;go_wp2_with fail;refine wp_region_quiet_below (by kernel_rfl) (by kernel_rfl) ?_;repeat (first|go_big_quiet_step (first|with_reducible exact tY.out _ _|with_reducible exact jl.out _ _)|quiet_step (first|with_reducible exact tY.out _ _|with_reducible exact jl.out _ _))
    refine wpQuiet_nil ?_;intro _ kZ;obtain⟨⟨dq,osq⟩,kZ⟩:=kZ;subst kZ;have hk9:=dO (below_regrown W0 dq osq);obtain⟨W9,pJ⟩:∃W9,grow (redrawn W0 dq) osq=W9:=⟨_,rfl⟩;rw[pJ]at hk9⊢;go_wp2;go_ret;exact qK.out _ hk9
   ·rw[qc.out hft];clear hft;go_enter Tryz.func32,Tryz.ntmps32;go_wp2_with fail;refine wp_region_quiet_below (by kernel_rfl) (by kernel_rfl) ?_;repeat (first|go_big_quiet_step (first|with_reducible exact tY.out _ _|with_reducible exact jl.out _ _)|quiet_step (first|with_reducible exact tY.out _ _|with_reducible exact jl.out _ _))
    refine wpQuiet_nil ?_;intro _ kZ;obtain⟨⟨dq,osq⟩,kZ⟩:=kZ;subst kZ;have hk9:=dO (below_regrown W0 dq osq);obtain⟨W9,pJ⟩:∃W9,grow (redrawn W0 dq) osq=W9:=⟨_,rfl⟩;rw[pJ]at hk9⊢;have sJ:=ah hk9;obtain⟨y6,y7,y8⟩:=DL.out W9.drew hk9.drew;clear hk9 pJ;go_wp2;refine wp_region_still_tail 6 (by kernel_rfl) (by kernel_rfl) ?_;simp only[List.take_succ_cons,List.take_zero,List.drop_succ_cons,List.drop_zero];change wpStill _ _ (World.drew W9) _ _ _;repeat still_step
    refine wpStill_nil ?_;change wpList _ _ _ _ _ (World.drew W9);go_wp2_with fail;refine(IX.out _ (by(repeat'(first|(with_reducible first|exact ay|apply aA|apply aB|apply aC|apply aF)|(exact sJ.out)|(right;simp;done))))).mono ?_;rintro e w7 bY;have hp:=bF.out _ _ _ _ _ (by(repeat'(first|(with_reducible first|exact ay|apply aA|apply aB|apply aC|apply aF)|(exact sJ.out)|(right;simp;done)))) bY;have HP:=ah hp;obtain⟨rfl,-⟩:=bY;clear hp;go_wp2;go_ret;exact HP.out
end
end Ask
end Go.Proofs.YtgbigpdiacjbgaaGreat
namespace Go.Proofs.YtgbigpdiacjbgaaGreat
open Go.Shelf Go.Sort Go.RowKit Go.Maps Go.Proofs
namespace IZ
def OE:Go.Shelf.Ren:=⟨fun|6=>82|15=>124|14=>123|28=>165|29=>166|20=>157|21=>158|22=>159|23=>160|24=>161|25=>162|26=>163|27=>164|46=>178|47=>179|48=>180|49=>181|50=>182|57=>186|n=>n,fun|22=>144|24=>145|25=>147|3=>3|39=>201|0=>0|53=>243|55=>22|4=>4|46=>236|45=>235|50=>240|5=>5|9=>9|66=>256|70=>161|76=>262|77=>44|n=>n,fun|n=>n⟩
theorem QX:Go.Proofs.SlLaysF0.n6 Tryz.prog OE:={
 mixed:=by kernel_rfl
 f6:=⟨Tryz.f82.name,by decide,Tryz.func82.trans (congrArg some (by kernel_rfl))⟩
 f14:=⟨Tryz.f123.name,by decide,Tryz.func123.trans (congrArg some (by kernel_rfl))⟩
 f15:=Tryz.func124.trans (congrArg some (by kernel_rfl))
 f20:=⟨Tryz.f157.name,by decide,Tryz.func157.trans (congrArg some (by kernel_rfl))⟩
 f21:=⟨Tryz.f158.name,by decide,Tryz.func158.trans (congrArg some (by kernel_rfl))⟩
 f22:=⟨Tryz.f159.name,by decide,Tryz.func159.trans (congrArg some (by kernel_rfl))⟩
 f23:=⟨Tryz.f160.name,by decide,Tryz.func160.trans (congrArg some (by kernel_rfl))⟩
 f24:=⟨Tryz.f161.name,by decide,Tryz.func161.trans (congrArg some (by kernel_rfl))⟩
 f25:=⟨Tryz.f162.name,by decide,Tryz.func162.trans (congrArg some (by kernel_rfl))⟩
 f26:=⟨Tryz.f163.name,by decide,Tryz.func163.trans (congrArg some (by kernel_rfl))⟩
 f27:=⟨Tryz.f164.name,by decide,Tryz.func164.trans (congrArg some (by kernel_rfl))⟩
 f28:=Tryz.func165.trans (congrArg some (by kernel_rfl))
 f29:=Tryz.func166.trans (congrArg some (by kernel_rfl))
 f46:=⟨Tryz.f178.name,by decide,Tryz.func178.trans (congrArg some (by kernel_rfl))⟩
 f47:=Tryz.func179.trans (congrArg some (by kernel_rfl))
 f48:=Tryz.func180.trans (congrArg some (by kernel_rfl))
 f49:=⟨Tryz.f181.name,by decide,Tryz.func181.trans (congrArg some (by kernel_rfl))⟩
 f50:=⟨Tryz.f182.name,by decide,Tryz.func182.trans (congrArg some (by kernel_rfl))⟩
 f57:=⟨Tryz.f186.name,by decide,Tryz.func186.trans (congrArg some (by kernel_rfl))⟩
 t0:=Tryz.underlying0
 a0:=Tryz.isAgg0
 z0:=Tryz.sizeOf0
 v0:=Tryz.zeroValue0
 t3:=Tryz.underlying3
 a3:=Tryz.isAgg3
 z3:=Tryz.sizeOf3
 v3:=Tryz.zeroValue3
 t4:=Tryz.underlying4
 a4:=Tryz.isAgg4
 z4:=Tryz.sizeOf4
 v4:=Tryz.zeroValue4
 t5:=Tryz.underlying5
 a5:=Tryz.isAgg5
 z5:=Tryz.sizeOf5
 v5:=Tryz.zeroValue5
 t9:=Tryz.underlying9
 a9:=Tryz.isAgg9
 z9:=Tryz.sizeOf9
 v9:=Tryz.zeroValue9
 t22:=Tryz.underlying144
 a22:=Tryz.isAgg144
 z22:=Tryz.sizeOf144
 v22:=Tryz.zeroValue144
 t25:=Tryz.underlying147
 a25:=Tryz.isAgg147
 z25:=Tryz.sizeOf147
 v25:=Tryz.zeroValue147
 t39:=Tryz.underlying201
 a39:=Tryz.isAgg201
 z39:=Tryz.sizeOf201
 v39:=Tryz.zeroValue201
 t45:=Tryz.underlying235
 a45:=Tryz.isAgg235
 z45:=Tryz.sizeOf235
 v45:=Tryz.zeroValue235
 t46:=Tryz.underlying236
 a46:=Tryz.isAgg236
 z46:=Tryz.sizeOf236
 v46:=Tryz.zeroValue236
 t50:=Tryz.underlying240
 a50:=Tryz.isAgg240
 z50:=Tryz.sizeOf240
 v50:=Tryz.zeroValue240
 t53:=Tryz.underlying243
 a53:=Tryz.isAgg243
 z53:=Tryz.sizeOf243
 v53:=Tryz.zeroValue243
 t55:=Tryz.underlying22
 a55:=Tryz.isAgg22
 z55:=Tryz.sizeOf22
 v55:=Tryz.zeroValue22
 t66:=Tryz.underlying256
 a66:=Tryz.isAgg256
 z66:=Tryz.sizeOf256
 v66:=Tryz.zeroValue256
 t70:=Tryz.underlying161
 a70:=Tryz.isAgg161
 z70:=Tryz.sizeOf161
 v70:=Tryz.zeroValue161
 t76:=Tryz.underlying262
 a76:=Tryz.isAgg262
 z76:=Tryz.sizeOf262
 v76:=Tryz.zeroValue262
 t77:=Tryz.underlying44
 a77:=Tryz.isAgg44
 z77:=Tryz.sizeOf44
 v77:=Tryz.zeroValue44}
theorem OG(p:Option Addr)(cap:Nat)(fv:Value)(w:World):Calls Tryz.prog 82 #[.slice p 0 cap,fv] w fun e w'=>e=.returned (.tuple #[])/\w'=w:=
 AnyF.slices_SortFunc_none QX p cap fv w
