/- Part 45. -/
import Derived.Test.YtgbigpdiacjbgaaGreatKP42
import Derived.Test.YtgbigpdiacjbgaaGreatKP43
set_option linter.unusedSimpArgs false
set_option linter.unusedVariables false
set_option maxHeartbeats 32000000
set_option maxRecDepth 100000
namespace Go.Proofs.YtgbigpdiacjbgaaGreat
open Go.RowKit
namespace Ask
open bg Ops fG eP MO Vn
attribute [local go_sem↓] bW cZ
def rO(t:TS)(x:aO):TS×Bool:=if x.at'≠t.at'\/x.key≠t.key then (t,false)else if t.a.k≠2 then (eG t ⟨0,0,t.at',0,x.ps.take 1⟩,false)else ig t x
theorem PZ{t:TS}{x:aO}(h:x.k=10):je t x=rO t x:=by
 unfold je rO;rw[if_neg (by omega)];by_cases h2:x.at'≠t.at'\/x.key≠t.key
 ·rw[if_pos (.inr h2),if_pos h2]
 ·rw[if_neg (fun e=>h2 (e.resolve_left (fun z=>z h))),if_neg h2]
section
variable{w w':World}{X:DX}{t:TS}{G:Nat->Prop}
theorem kS.Gg{w4 w6:World}{A6:Option Addr}{c6:Nat}{L:List iC}(h4:kS w4 X t)(hnd:t.dn=false)(ho:w6.ownsRow 0 84 2 (.slice A6 (t.ps.length+L.length) c6) (t.ps.length+L.length) (bI t.ps++bI L))
  (hk:Kept aj w4 w6) (hn:∀k,(Value.slice A6 (t.ps.length+L.length) c6).ownBlock=some k->w4.heap.size<=k):
  kS ((w6.setCell ⟨X.b,13,none⟩ (.slice A6 (t.ps.length+L.length) c6)).setCell ⟨X.b,14,none⟩ (.int .i64 0)) {X with pA:=A6,pc:=c6} {t with ps:=t.ps++L,waits:=0}/\Kept (fun k=>k=X.b) w4 ((w6.setCell ⟨X.b,13,none⟩ (.slice A6 (t.ps.length+L.length) c6)).setCell ⟨X.b,14,none⟩ (.int .i64 0))/\
   ∀k,dN {X with pA:=A6,pc:=c6} {t with ps:=t.ps++L,waits:=0} k->dN X t k\/w4.heap.size<=k:=by
 have h6:=h4.quiet hk;have hk6:Kept (fun k=>k=X.b) w6 ((w6.setCell ⟨X.b,13,none⟩ (.slice A6 (t.ps.length+L.length) c6)).setCell ⟨X.b,14,none⟩ (.int .i64 0)):=by(repeat'(first|(with_reducible first|exact ay|apply aA|apply aB|apply aC|apply aF)|(exact .inl rfl)|(right;simp;done)))
 have hlen:(t.ps++L).length=t.ps.length+L.length:=lA0;have hnew:∀{e:TypeId} {size n:Nat} {v:Value} {xs:List Value},w6.ownsRow 0 e size v n xs->e≠136->((w6.setCell ⟨X.b,13,none⟩ (.slice A6 (t.ps.length+L.length) c6)).setCell ⟨X.b,14,none⟩ (.int .i64 0)).ownsRow 0 e size v n xs:=fun ho he=>aP ho hk6 (fun k hk3 e2=>own_ne ho h6.b he (e2▸hk3));refine⟨⟨?_,hnew h6.bo (by decide),?_,hnew h6.r (by decide),h6.nd⟩,(hk.mono (fun _ z=>z.elim)).then hk6,?_⟩
 ·have g1:=(h6.b.put 13 (.slice A6 (t.ps.length+L.length) c6)).put 14 (.int .i64 0);have e:(lC {X with pA:=A6,pc:=c6} {t with ps:=t.ps++L,waits:=0}).toArray=(((lC X t).toArray.setIfInBounds 13 (.slice A6 (t.ps.length+L.length) c6)).setIfInBounds 14 (.int .i64 0)):=by unfold lC;dsimp only;rw[hlen];rfl
  rw[e];exact g1
 ·show World.ownsRow _ 0 84 2 (.slice A6 (t.ps++L).length c6) (t.ps++L).length (bI (t.ps++L));rw[hlen,Gf];exact hnew ho (by decide)
 ·intro k hk;rcases hk with e|e|e|e
  ·exact .inl (.inl e)
  ·have e2:(Value.slice A6 (t.ps++L).length c6).ownBlock=some k:=e;rw[hlen]at e2;exact .inr (hn k e2)
  ·exact .inl (.inr (.inr (.inl e)))
  ·exact .inl (.inr (.inr (.inr e)))
theorem TY(h:kS w X t)(hnd:t.dn=false)(hok:mV t)(x:aO)(hx:F9 w (dN X t) x):
  Calls Tryz.prog 81 #[.pointer (some ⟨X.b,0,none⟩),aK x] w (iE w X t (.bool (rO t x).2) (rO t x).1):=by
 obtain⟨W0,hW0⟩:∃W0,w.alloc (.cells (au x).toArray 63)=W0:=⟨_,rfl⟩;have hk0:Kept aj w W0:=by rw[<-hW0];(repeat'(first|(with_reducible first|exact ay|apply aA|apply aB|apply aC|apply aF)|(right;simp;done)))
 have hn0:Has W0 w.heap.size 63 (au x).toArray:=by rw[<-hW0];exact Has.new _ _ _
 have h0:=h.quiet hk0;have hb0:=h0.b;have m4:W0.cell? ⟨w.heap.size,4,none⟩=some (.bool x.fl):=hn0.cell 4;have m5:W0.cell? ⟨w.heap.size,5,none⟩=some (.int .u64 x.at'):=hn0.cell 5;have m11:W0.cell? ⟨w.heap.size,11,none⟩=some (.string x.key):=hn0.cell 11;have m21:W0.cell? ⟨w.heap.size,21,none⟩=some (.slice x.pA x.ps.length x.pc):=hn0.cell 21;have b3:W0.cell? ⟨X.b,3,none⟩=some (.int .i64 t.a.k):=hb0.cell 3;have b11:W0.cell? ⟨X.b,11,none⟩=some (.int .u64 t.at'):=hb0.cell 11;have b12:W0.cell? ⟨X.b,12,none⟩=some (.string t.key):=hb0.cell 12;have hcell:∀W,Kept (fun k=>k=X.b) W0 W->W.cell? ⟨w.heap.size,21,none⟩=some (.slice x.pA x.ps.length x.pc)/\W.cell? ⟨w.heap.size,4,none⟩=some (.bool x.fl):=fun W hW=>⟨(hn0.kept hW (fun e=>by have:=h.b.lt;omega)).cell 21,(hn0.kept hW (fun e=>by have:=h.b.lt;omega)).cell 4⟩;have Gi:=fun W (hW:Kept aj W0 W)=>og (h0.quiet hW);have hsrc:=fun W (hW:Kept aj W0 W) (k:Nat) (hk:k<=x.ps.length)=>(hx.s.kept (hk0.then hW) (fun _ _ z=>z)).take (k:=k) hk
 have hfin:∀(r:o8) A c W w7,Kept aj W0 W->kS w7 {X with rA:=A,rc:=c} (eG t r)->Kept (fun k=>k=X.b) W w7->(∀k,(Value.slice A r.ps.length c).ownBlock=some k->w.heap.size<=k)->∀w8,Kept aj w7 w8->iE w X t (.bool false) (eG t r) (.returned (.bool false)) w8:=fun r A c W w7 hW hp hk hA w8 hk8=>
  ⟨rfl,_,hp.quiet hk8,rfl,fun k hk=>G6 (w:=w) (fun k hk=> .inr (hA k hk)) hk,(((hk0.then hW).mono (fun _ z=>z.elim)).then (hk.mono (fun k e=> .inl e))).then (hk8.mono (fun _ z=>z.elim))⟩
 have hxl:=hx.l;unfold maxLen at hxl;have hlt0:=hn0.lt;obtain⟨bb,hbb⟩:∃bb,X.b=bb:=⟨_,rfl⟩;have hwb:bb<w.heap.size:=by rw[<-hbb];exact h.b.lt
 have hlt1:bb<W0.heap.size:=by omega
 rw[hbb]at b3 b11 b12;simp only[hbb]at hcell;have Xo:∀W,Kept aj W0 W->∀(r:o8) A c,W.ownsRow 0 84 2 (.slice A r.ps.length c) r.ps.length (bI r.ps)->Calls Tryz.prog 76 #[.pointer (some ⟨bb,0,none⟩),nV r A c] W fun e w'=>e=.returned (.tuple #[])/\kS w' {X with rA:=A,rc:=c} (eG t r)/\Kept (fun k=>k=X.b) W w':=fun W hW r A c hr=>by rw[<-hbb];exact Gi W hW r A c hr
 rw[hbb];obtain⟨n,hn⟩:∃n,x.ps.length=n:=⟨_,rfl⟩;rw[hn]at m21 hxl;simp only[hn]at hcell hsrc;have lJ:=ah hn;unfold au at hW0;rw[hn]at hW0;unfold aK au;rw[hn];have OA:=ah Xo;have uS:=ah hsrc;have oJ:=ah hcell;have bF:=ah hfin;have HH:=ah h;have aS:=ah hk0;have HX:=ah hx;have dZ:=ah hn0;have HH0:=ah h0;have fF:=ah hbb;have LD:=ah hwb;have Jh:=ah hnd;have wL:=ah hok;clear Gi Xo hsrc hcell hfin h hk0 hx hn0 h0 hb0 hn hbb hnd hok;by_cases ha:x.at'=t.at';rotate_left
 ·have ba:(x.at' !=t.at')=true:=by simpa using ha
  have hr:rO t x=(t,false):=by unfold rO;rw[if_pos (.inl ha)]
  rw[hr];clear ha hr;go_enter Tryz.func81,Tryz.ntmps81;go_wp2;go_quiet (fail);go_wp2;go_ret;exact iE.same HH.out (by(repeat'(first|(with_reducible first|exact ay|apply aA|apply aB|apply aC|apply aF)|(exact aS.out)|(right;simp;done))))
 have ba:(x.at' !=t.at')=false:=by simpa using ha
 by_cases hk:x.key=t.key;rotate_left
 ·have bk:(x.key.toList==t.key.toList)=false:=by rw[oG];exact decide_eq_false hk
  have hr:rO t x=(t,false):=by unfold rO;rw[if_pos (.inr hk)]
  rw[hr];clear ha hk hr;go_enter Tryz.func81,Tryz.ntmps81;go_wp2;go_quiet (fail);go_wp2;go_ret;exact iE.same HH.out (by(repeat'(first|(with_reducible first|exact ay|apply aA|apply aB|apply aC|apply aF)|(exact aS.out)|(right;simp;done))))
 have bk:(x.key.toList==t.key.toList)=true:=by rw[oG];exact decide_eq_true hk
 by_cases h2:t.a.k=2;rotate_left
 ·have b2:(t.a.k !=2)=true:=by simpa using h2
  have hr:rO t x=(eG t ⟨0,0,t.at',0,x.ps.take 1⟩,false):=by unfold rO;rw[if_neg (by rintro(e|e);exact e ha;exact e hk),if_pos h2]
  rw[hr];clear ha hk h2 hr;obtain⟨m,hm⟩:∃m,min n 1=m:=⟨_,rfl⟩;have hmn:=rU (n:Int) 1 (m:Int) (by omega);have Bd:m<=n:=by omega
  have hmc:m<=x.pc:=by omega
  have hml:(x.ps.take 1).length=m:=by rw[List.length_take,lJ.out];omega
  have hsr:∀W,Kept aj W0 W->Src W 2 x.pA m (bI (x.ps.take 1)):=fun W hW=>by
   have s1:=uS.out W hW m Bd
   rw[yu,show x.ps.take m=x.ps.take 1 by
    rcases Nat.eq_zero_or_pos n with e|e
    ·rw[lE0 (lJ.out.trans e)];simp
    ·rw[show m=1 by omega]]at s1
   exact s1
  have uK:=fun W (hW:Kept aj W0 W) A c=>OA.out W hW ⟨0,0,t.at',0,x.ps.take 1⟩ A c;have hfin:=fun A c=>bF.out ⟨0,0,t.at',0,x.ps.take 1⟩ A c;obtain⟨L1,hL1⟩:∃L1,x.ps.take 1=L1:=⟨_,rfl⟩;rw[hL1]at hml⊢;simp only[hL1]at hsr uK hfin;unfold nV iO at uK;dsimp only at uK;simp only[hml]at uK hfin;have OB:=ah uK;have OC:=ah hfin;have Kz:=ah hsr;clear uK hfin hL1 hsr;have zh:Hid (0+m<=maxLen):=ah (by unfold maxLen;omega);have vU:Hid ((0+m)*32<=140737488355328):=ah (by omega);have LV:=ah aS.out.size;have HML:=ah hml;have aaA:∀n' o,((W0.drewN n').alloc o).cell? ⟨w.heap.size,21,none⟩=some (.slice x.pA n x.pc):=fun n' o=>by rw[<-lJ.out];exact((dZ.out.drewN n').alloc o).cell 21
  have aaB:∀n' o,((W0.drewN n').alloc o).cell? ⟨bb,11,none⟩=some (.int .u64 t.at'):=fun n' o=>by rw[<-fF.out];exact((HH0.out.b.drewN n').alloc o).cell 11
  clear hml hm;go_enter Tryz.func81,Tryz.ntmps81;go_wp2;go_quiet (fail);go_wp2_with fail;have y0:(W0.drewN nq).cell? ⟨bb,11,none⟩=some (.int .u64 t.at')/\(W0.drewN nq).cell? ⟨w.heap.size,21,none⟩=some (.slice x.pA n x.pc):=⟨by rw[<-fF.out];exact(HH0.out.b.drewN nq).cell 11,by rw[<-lJ.out];exact(dZ.out.drewN nq).cell 21⟩
  go_region_held3 (fun W=>W.cell? ⟨bb,11,none⟩=some (.int .u64 t.at')/\W.cell? ⟨w.heap.size,21,none⟩=some (.slice x.pA n x.pc))
   (first|with_reducible exact y7|with_reducible exact⟨JA,y5.1⟩|with_reducible exact⟨aaB _ _,aaA _ _⟩|exact⟨JA,y5.1⟩|exact⟨aaB _ _,aaA _ _⟩|exact y0)
   (first
   |(with_reducible apply jL pW (.tmp 34) (.tmp 41) (n:=0) (xs:=[]) (A:=x.pA) (m:=m) (c:=x.pc) (news:=bI L1)
     rfl
     rfl
     exact(rfl:_=Value.slice (some ⟨_,0,none⟩) 0 0)
     (refine pR (cs:=#[]) ?_ rfl;(repeat (with_reducible first|exact Has.dQ _ _ _ (by simp)|apply Has.drew|apply Has.drewN|apply Has.alloc|(apply Has.past<;>(try omega)))))
     exact(rfl:_=Value.slice x.pA m x.pc)
     (exact Kz.out _ (by(repeat'(first|(with_reducible first|exact ay|apply aA|apply aB|apply aC|apply aF)|(right;simp;done)))))
     exact uJ _
     exact zh.out
     exact vU.out
     intro A5 c5 w5 vO hg5 tu
     have hk5:Kept aj W0 w5:=by refine Kept.grown ?_ hg5 ?_;(repeat'(first|(with_reducible first|exact ay|apply aA|apply aB|apply aC|apply aF)|(right;simp;done)));exact fun k hk=> .inr (oV hk (by first|(simp;done)|(simp;omega)|omega))
     have tC:∀k,(Value.slice A5 (0+m) c5).ownBlock=some k->W0.heap.size<=k:=(fun k hk=>sU hk tu (by first|(simp;done)|(simp;omega)|omega) (by first|(simp;done)|(simp;omega)|omega))
     have y5:=oJ.out w5 (hk5.mono (fun _ z=>z.elim))
     have JA:w5.cell? ⟨bb,11,none⟩=some (.int .u64 t.at'):=fF.out▸(HH0.out.quiet hk5).b.cell 11
     have qY:=ah (show w5.ownsRow 0 84 2 (.slice A5 m c5) m (bI L1)from by simpa only[Nat.zero_add,List.nil_append]using vO)
     have NG:=ah (show∀k,(Value.slice A5 m c5).ownBlock=some k->W0.heap.size<=k from by simpa only[Nat.zero_add]using tC)
     have dK:=ah hk5
     simp only[Nat.zero_add]
     clear vO hg5 tu tC hk5)
   |(go_at_call 76;refine(OB.out w5 dK.out A5 c5 qY.out).mono ?_;rintro e w7 ⟨rfl,bY,aZ⟩;have y7:w7.cell? ⟨bb,11,none⟩=some (.int .u64 t.at')/\w7.cell? ⟨w.heap.size,21,none⟩=some (.slice x.pA n x.pc):=And.intro (fF.out▸bY.b.cell 11) (oJ.out w7 (Kept.then (dK.out.mono (fun _ z=>z.elim)) (aZ.mono (fun k e=>e.trans fF.out)))).1;have jh:=ah bY;have jd:=ah aZ;clear bY aZ))
  all_goals
   go_wp2
   go_ret
   exact OC.out A5 c5 _ _ dK.out jh.out jd.out (fun k hk=>Nat.le_trans LV.out (NG.out k hk)) _ (Kept.refl _ _)
 have b2:(t.a.k !=2)=false:=by simpa using h2
 have hr:rO t x=ig t x:=by unfold rO;rw[if_neg (by rintro(e|e);exact e ha;exact e hk),if_neg (fun e=>e h2)]
 rw[hr];obtain⟨hL,hL2,hs0,hLn⟩:=DJ wL.out h2 x;clear ha hk hr;have hsz:=fun W (hW:Kept aj W0 W)=>JD (HH0.out.quiet hW) wL.out;obtain⟨L,Gh⟩:∃L,lM t x=L:=⟨_,rfl⟩;obtain⟨sz,Fv⟩:∃sz,mZ t=sz:=⟨_,rfl⟩;have Kv:L=x.ps.take L.length:=by
  rw[<-Gh];unfold lM;rw[List.length_take];rcases Nat.le_total (mZ t).toNat x.ps.length with e|e
  ·rw[Nat.min_eq_left e]
  ·rw[Nat.min_eq_right e,List.take_length,List.take_of_length_le e]
 rw[Gh]at hL hL2 hLn;rw[Fv]at hL hs0;simp only[Fv,fF.out]at hsz;obtain⟨m,hm⟩:∃m,L.length=m:=⟨_,rfl⟩;rw[hm]at hL hL2 hLn Kv;rw[lJ.out]at hL;have hmn:=rU (n:Int) sz (m:Int) hL.symm;have Bd:m<=n:=by omega
 have hmc:m<=x.pc:=Nat.le_trans Bd hxl.1;have jm:=ah Kv;have sH:=ah hsz;have HL2:=ah (And.intro hL2 hLn);have pY:=ah hm;have yJ:=ah Gh;have HA2:=ah h2;have y0:=oJ.out W0 (Kept.refl _ _);clear hL hL2 hs0 hLn hsz Gh Fv Kv hm h2 hxl;go_enter Tryz.func81,Tryz.ntmps81;go_wp2;go_quiet (fail);go_wp2;clear m4 m5 m11
 go_region_held3 (fun W=>W.cell? ⟨w.heap.size,21,none⟩=some (.slice x.pA n x.pc))
  (first|with_reducible exact y5.1|with_reducible exact y0.1|exact y0.1)
  (first|(go_at_call 118;refine(sH.out _ (by(repeat'(first|(with_reducible first|exact ay|apply aA|apply aB|apply aC|apply aF)|(right;simp;done))))).mono ?_;rintro e w4 ⟨rfl,hk4⟩;have hk:=Kept.then (F:=aj) (a:=W0) (by(repeat'(first|(with_reducible first|exact ay|apply aA|apply aB|apply aC|apply aF)|(right;simp;done)))) hk4;have y5:=oJ.out w4 (hk.mono (fun _ z=>z.elim));have iU:=ah hk;clear hk hk4))
 clear hW0 m21 hmn y5 y0 b3 b11 b12;have DK:=aS.out.then iU.out;have h4:=HH.out.quiet DK;obtain⟨q,hq⟩:∃q,t.ps.length=q:=⟨_,rfl⟩;have q13:w4.cell? ⟨bb,13,none⟩=some (.slice X.pA q X.pc):=by rw[<-fF.out,<-hq];exact h4.b.cell 13
 have hown:=h4.p;rw[hq]at hown;have hsrc:Src w4 2 x.pA m (bI L):=by have s1:=uS.out w4 iU.out m Bd;rw[yu,<-jm.out]at s1;exact s1
 have HB1:Hid (0+q<=maxLen):=ah (by have:=wL.out.ps.1;unfold maxLen;omega);have Dh:Hid ((0+q)*32<=140737488355328):=ah (by have:=wL.out.ps.1;omega);have HB2:Hid (q+m<=maxLen):=ah (by have:=wL.out.ps.1;have:=HL2.out.1;unfold maxLen;omega);have nR:Hid ((q+m)*32<=140737488355328):=ah (by have:=wL.out.ps.1;have:=HL2.out.1;omega);have HQ:=ah hq;have H4:=ah h4;have zf:=ah hsrc;have HOW:=ah hown;have mW:=ah DK;have hlt4:bb<w4.heap.size:=by rw[<-fF.out];exact H4.out.b.lt
 clear hq h4 hsrc hown DK;by_cases hm0:m=0
 ·have hc0:¬0<m:=by omega
  have hc1:¬(0:Int)<(m:Int):=by omega
  have be0:((m:Int)==0)=true:=by simp[hm0]
  have zh:=ah hm0;clear hm0
  go_wp2_with (first
   |(at_builtin;refine bH pW (.tmp 60) (.tmp 61) rfl rfl (Value.slice A5 q c5) rfl qY.out.1 x.pc rfl (zf.out.kept qY.out.2.2 (fun _ _ z=>z)) (uJ L) HB2.out nR.out ?_;intro A6 c6 w6 ji fJ ha6;have hk6:Kept aj w4 w6:=qY.out.2.2.grown fJ (fun k hk=> .inr (qY.out.2.1 k hk));have vV:∀k,(Value.slice A6 (q+m) c6).ownBlock=some k->w4.heap.size<=k:=(fun k hk=>by rcases ha6 with e|e;exact qY.out.2.1 k (e.symm.trans hk);rw[hk]at e;injection e with e;have:=qY.out.2.2.size;omega);have hb6:=(H4.out.quiet hk6).b;have e13:w6.cell? ⟨bb,13,none⟩=some (.slice X.pA q X.pc):=(by rw[<-fF.out,<-HQ.out];exact hb6.cell 13);have f13:w6.frozen? ⟨bb,13,none⟩=false:=(by rw[<-fF.out];exact hb6.frozen 13);have e14:w6.cell? ⟨bb,14,none⟩=some (.int .i64 t.waits):=(by rw[<-fF.out];exact hb6.cell 14);have f14:w6.frozen? ⟨bb,14,none⟩=false:=(by rw[<-fF.out];exact hb6.frozen 14);have Ew:=ah (And.intro ji (And.intro hk6 vV));clear ji fJ ha6 hk6 vV hb6)
   |(at_builtin;refine bH pW (.tmp 55) (.tmp 59) rfl rfl (Value.slice (some ⟨w4.heap.size,0,none⟩) 0 0) rfl (pR (Has.new w4 84 #[]) rfl) X.pc rfl ((Src.fA HOW.out).kept (F:=aj) ((Kept.refl _ _).alloc _) (fun _ _ z=>z)) (uJ t.ps) HB1.out Dh.out ?_;intro A5 c5 w5 vO hg5 tu;simp only[Nat.zero_add,List.nil_append]at vO tu;have hk5:Kept aj w4 w5:=((Kept.refl aj w4).alloc _).grown hg5 (fun k hk=> .inr (oV hk (Nat.le_refl _)));have tC:∀k,(Value.slice A5 q c5).ownBlock=some k->w4.heap.size<=k:=(fun k hk=>sU hk tu (Nat.le_refl _) (by simp));have qY:=ah (And.intro vO (And.intro tC hk5));clear vO hg5 tu hk5 tC))
  have hmid:=kS.Gg (L:=L) (w6:=w6) (A6:=A6) (c6:=c6) H4.out Jh.out (by rw[HQ.out,pY.out];exact Ew.out.1) Ew.out.2.1 (by rw[HQ.out,pY.out];exact Ew.out.2.2);rw[HQ.out,pY.out,fF.out]at hmid;obtain⟨W6,pZ⟩:∃W6,((w6.setCell ⟨bb,13,none⟩ (.slice A6 (q+m) c6)).setCell ⟨bb,14,none⟩ (.int .i64 0))=W6:=⟨_,rfl⟩;rw[pZ]at hmid;have qR:=ah pZ;obtain⟨h6,sD,hgrow⟩:=hmid;have fJ:=h6.b;have hlen:(t.ps++L).length=q+m:=by rw[lA0,HQ.out,pY.out]
  have hbox:=(dZ.out.kept iU.out (fun z=>z)).kept sD (fun hf=>by have:=LD.out;have:=fF.out;omega);have u4:W6.cell? ⟨w.heap.size,4,none⟩=some (.bool x.fl):=hbox.cell 4;have v3:W6.cell? ⟨bb,3,none⟩=some (.int .i64 t.a.k):=fJ.cell 3;have v8:W6.cell? ⟨bb,8,none⟩=some (.int .i64 t.a.n):=fJ.cell 8;have v11:W6.cell? ⟨bb,11,none⟩=some (.int .u64 t.at'):=fJ.cell 11;have v12:W6.cell? ⟨bb,12,none⟩=some (.string t.key):=fJ.cell 12;have P4:W6.frozen? ⟨bb,12,none⟩=false:=fJ.frozen 12;have v13:W6.cell? ⟨bb,13,none⟩=some (.slice A6 (q+m) c6):=by rw[<-hlen];exact fJ.cell 13
  have hgo:jC t x=(x.fl&&(decide (0<m)&&(decide ((q+m:Nat)<t.a.n)&&decide (fQ L≠emp)))):=by unfold jC;rw[yJ.out,pY.out,HQ.out]
  have hF:jC t x=false->ig t x=(eG {t with ps:=t.ps++L,waits:=0} ⟨0,0,t.at',0,t.ps++L⟩,false):=fun e=>by unfold ig;rw[if_neg (by rw[e];decide),yJ.out]
  have hT:jC t x=true->ig t x=({t with ps:=t.ps++L,waits:=0,key:=fQ L},true):=fun e=>by unfold ig;rw[if_pos e,yJ.out]
  have hend:=fun W (hW:Kept aj W6 W)=>og (h6.quiet hW) ⟨0,0,t.at',0,t.ps++L⟩ A6 c6 ((h6.quiet hW).p);unfold nV iO at hend;dsimp only at hend;simp only[hlen]at hend;have hfin:∀W w7 (e:Ending),Kept aj W6 W->kS w7 ⟨bb,X.bA,X.bc,A6,c6,A6,c6⟩ (eG {t with ps:=t.ps++L,waits:=0} ⟨0,0,t.at',0,t.ps++L⟩)->Kept (fun k=>k=bb) W w7->∀w8,Kept aj w7 w8->jC t x=false->iE w X t (.bool (ig t x).2) (ig t x).1 (.returned (.bool false)) w8:=fun W w7 e hW hp hk w8 hk8 xZ=>by
   rw[hF xZ];refine⟨rfl,_,hp.quiet hk8,fF.out.symm,fun k hk=> ?_,?_⟩
   ·have hk3:dN ⟨bb,X.bA,X.bc,A6,c6,X.rA,X.rc⟩ {t with ps:=t.ps++L,waits:=0} k:=by
     rcases hk with e|e|e|e
     ·exact .inl e
     ·exact .inr (.inl e)
     ·exact .inr (.inr (.inl e))
     ·exact .inr (.inl e)
    rcases hgrow k hk3 with e|e
    ·exact .inl e
    ·exact .inr (Nat.le_trans mW.out.size e)
   ·exact(((mW.out.mono (fun _ z=>z.elim)).then (sD.mono (fun k e=> .inl (e.trans fF.out.symm)))).then (hW.mono (fun _ z=>z.elim))).then (hk.mono (fun k e=> .inl (e.trans fF.out.symm)))|>.then (hk8.mono (fun _ z=>z.elim))
  have aX:=ah hend;have yE:=ah hfin;have H6:=ah h6;have zT:=ah sD;have EU:=ah hgrow;have jH:=ah hgo;have uO:=ah hT;have eH:=ah hlen;clear hend hfin hgrow hgo hF hT h6 hlen hbox fJ sD e13 f13 e14 f14 q13 pZ;rw[qR.out];cases hfl:x.fl with
  |false=>
   rw[hfl]at u4;clear hfl;go_quiet (fail);go_wp2_with fail
   go_region_held3 (fun W=>W.cell? ⟨bb,11,none⟩=some (.int .u64 t.at')/\W.cell? ⟨bb,13,none⟩=some (.slice A6 (q+m) c6))
    (first|with_reducible exact y7|with_reducible exact⟨v11,v13⟩|exact⟨v11,v13⟩)
    (first|(go_at_call 76;refine(aX.out _ (by(repeat'(first|(with_reducible first|exact ay|apply aA|apply aB|apply aC|apply aF)|(right;simp;done))))).mono ?_;rintro e w7 ⟨rfl,bY,aZ⟩;have y7:w7.cell? ⟨bb,11,none⟩=some (.int .u64 t.at')/\w7.cell? ⟨bb,13,none⟩=some (.slice A6 (q+m) c6):=And.intro (bY.b.cell 11) (eH.out▸bY.b.cell 13);have jh:=ah bY;have jd:=ah aZ;clear bY aZ))
   all_goals
    go_wp2
    go_ret
    exact yE.out _ _ (.returned (.bool false)) (by(repeat'(first|(with_reducible first|exact ay|apply aA|apply aB|apply aC|apply aF)|(right;simp;done)))) jh.out jd.out _ (Kept.refl _ _) (by rw[jH.out,decide_eq_false (show¬0<m by have:=zh.out;omega)];simp)
  |true=>
   rw[hfl]at u4;clear hfl;go_quiet (fail);go_wp2_with fail
   go_region_held3 (fun W=>W.cell? ⟨bb,11,none⟩=some (.int .u64 t.at')/\W.cell? ⟨bb,13,none⟩=some (.slice A6 (q+m) c6))
    (first|with_reducible exact y7|with_reducible exact⟨v11,v13⟩|exact⟨v11,v13⟩)
    (first|(go_at_call 76;refine(aX.out _ (by(repeat'(first|(with_reducible first|exact ay|apply aA|apply aB|apply aC|apply aF)|(right;simp;done))))).mono ?_;rintro e w7 ⟨rfl,bY,aZ⟩;have y7:w7.cell? ⟨bb,11,none⟩=some (.int .u64 t.at')/\w7.cell? ⟨bb,13,none⟩=some (.slice A6 (q+m) c6):=And.intro (bY.b.cell 11) (eH.out▸bY.b.cell 13);have jh:=ah bY;have jd:=ah aZ;clear bY aZ))
   all_goals
    go_wp2
    go_ret
    exact yE.out _ _ (.returned (.bool false)) (by(repeat'(first|(with_reducible first|exact ay|apply aA|apply aB|apply aC|apply aF)|(right;simp;done)))) jh.out jd.out _ (Kept.refl _ _) (by rw[jH.out,decide_eq_false (show¬0<m by have:=zh.out;omega)];simp)
 rcases(show m=1\/m=2 by have:=HL2.out.1;omega)with rfl|rfl
 ·clear hm0;obtain⟨p,hp⟩:∃p,L[0]? =some p:=⟨_,lB0 (by rw[pY.out];decide)⟩;have hnk:fQ L=fE (Keys.nextL (bl p.key)):=by unfold fQ;rw[List.getLast?_eq_getElem?,pY.out];show(match L[0]? with|none=>emp|some p=>fE (Keys.nextL (bl p.key)))=_;rw[hp]
  obtain⟨ad,tV,had,-,-⟩:=pair_cells zf.out (by decide) 0 p hp;have abM:ad.block≠bb:=fun e3=>HX.out.off (by rw[lJ.out];omega) ad tV (.inl (e3.trans fF.out.symm));have Me:∀W,Kept (fun k=>k=bb) w4 W->W.cell? ad=some (.string p.key):=fun W hW=>by obtain⟨Xa,zC,-,hc2,-⟩:=pair_cells (BG zf.out hW (fun _ ad e2 e3=>HX.out.off (by rw[lJ.out];omega) ad e2 (.inl (e3.trans fF.out.symm)))) (by decide) 0 p hp;rw[tV]at zC;injection zC with zC;subst zC;rw[show ad.add (0*2)=ad by unfold Addr.add;rfl]at hc2;exact hc2
  have hpk:p.key.size<=maxLen:=HX.out.k p (by have h9:=lC0 hp;rw[jm.out]at h9;exact List.mem_of_mem_take h9)
  have hkn:=fun W=>Keys.AA p.key W hpk;have Df:=ah hkn;have Ky:=ah hnk;have Wh:=ah Me;clear hkn hnk had hpk hp Me;rw[tV]at zf;rw[tV];clear tV
  go_wp2_with (first
   |(at_builtin;refine bH pW (.tmp 60) (.tmp 61) rfl rfl (Value.slice A5 q c5) rfl qY.out.1 x.pc rfl (zf.out.kept qY.out.2.2 (fun _ _ z=>z)) (uJ L) HB2.out nR.out ?_;intro A6 c6 w6 ji fJ ha6;have hk6:Kept aj w4 w6:=qY.out.2.2.grown fJ (fun k hk=> .inr (qY.out.2.1 k hk));have vV:∀k,(Value.slice A6 (q+1) c6).ownBlock=some k->w4.heap.size<=k:=(fun k hk=>by rcases ha6 with e|e;exact qY.out.2.1 k (e.symm.trans hk);rw[hk]at e;injection e with e;have:=qY.out.2.2.size;omega);have hb6:=(H4.out.quiet hk6).b;have qp:∀u v,((w6.setCell ⟨bb,13,none⟩ u).setCell ⟨bb,14,none⟩ v).cell? ad=some (.string p.key):=(fun u v=>Wh.out _ ((hk6.mono (fun _ z=>z.elim)).then (by(repeat'(first|(with_reducible first|exact ay|apply aA|apply aB|apply aC|apply aF)|(exact .inl rfl)|(right;simp;done))))));have e13:w6.cell? ⟨bb,13,none⟩=some (.slice X.pA q X.pc):=(by rw[<-fF.out,<-HQ.out];exact hb6.cell 13);have f13:w6.frozen? ⟨bb,13,none⟩=false:=(by rw[<-fF.out];exact hb6.frozen 13);have e14:w6.cell? ⟨bb,14,none⟩=some (.int .i64 t.waits):=(by rw[<-fF.out];exact hb6.cell 14);have f14:w6.frozen? ⟨bb,14,none⟩=false:=(by rw[<-fF.out];exact hb6.frozen 14);have Ew:=ah (And.intro ji (And.intro hk6 vV));clear ji fJ ha6 hk6 vV hb6)
   |(at_builtin;refine bH pW (.tmp 55) (.tmp 59) rfl rfl (Value.slice (some ⟨w4.heap.size,0,none⟩) 0 0) rfl (pR (Has.new w4 84 #[]) rfl) X.pc rfl ((Src.fA HOW.out).kept (F:=aj) ((Kept.refl _ _).alloc _) (fun _ _ z=>z)) (uJ t.ps) HB1.out Dh.out ?_;intro A5 c5 w5 vO hg5 tu;simp only[Nat.zero_add,List.nil_append]at vO tu;have hk5:Kept aj w4 w5:=((Kept.refl aj w4).alloc _).grown hg5 (fun k hk=> .inr (oV hk (Nat.le_refl _)));have tC:∀k,(Value.slice A5 q c5).ownBlock=some k->w4.heap.size<=k:=(fun k hk=>sU hk tu (Nat.le_refl _) (by simp));have qY:=ah (And.intro vO (And.intro tC hk5));clear vO hg5 tu hk5 tC))
  have hmid:=kS.Gg (L:=L) (w6:=w6) (A6:=A6) (c6:=c6) H4.out Jh.out (by rw[HQ.out,pY.out];exact Ew.out.1) Ew.out.2.1 (by rw[HQ.out,pY.out];exact Ew.out.2.2);rw[HQ.out,pY.out,fF.out]at hmid;obtain⟨W6,pZ⟩:∃W6,((w6.setCell ⟨bb,13,none⟩ (.slice A6 (q+1) c6)).setCell ⟨bb,14,none⟩ (.int .i64 0))=W6:=⟨_,rfl⟩;rw[pZ]at hmid;have qR:=ah pZ;obtain⟨h6,sD,hgrow⟩:=hmid;have fJ:=h6.b;have hlen:(t.ps++L).length=q+1:=by rw[lA0,HQ.out,pY.out]
  have hbox:=(dZ.out.kept iU.out (fun z=>z)).kept sD (fun hf=>by have:=LD.out;have:=fF.out;omega);have u4:W6.cell? ⟨w.heap.size,4,none⟩=some (.bool x.fl):=hbox.cell 4;have v3:W6.cell? ⟨bb,3,none⟩=some (.int .i64 t.a.k):=fJ.cell 3;have v8:W6.cell? ⟨bb,8,none⟩=some (.int .i64 t.a.n):=fJ.cell 8;have v11:W6.cell? ⟨bb,11,none⟩=some (.int .u64 t.at'):=fJ.cell 11;have v12:W6.cell? ⟨bb,12,none⟩=some (.string t.key):=fJ.cell 12;have P4:W6.frozen? ⟨bb,12,none⟩=false:=fJ.frozen 12;have v13:W6.cell? ⟨bb,13,none⟩=some (.slice A6 (q+1) c6):=by rw[<-hlen];exact fJ.cell 13
  have hgo:jC t x=(x.fl&&(decide (0<1)&&(decide ((q+1:Nat)<t.a.n)&&decide (fQ L≠emp)))):=by unfold jC;rw[yJ.out,pY.out,HQ.out]
  have hF:jC t x=false->ig t x=(eG {t with ps:=t.ps++L,waits:=0} ⟨0,0,t.at',0,t.ps++L⟩,false):=fun e=>by unfold ig;rw[if_neg (by rw[e];decide),yJ.out]
  have hT:jC t x=true->ig t x=({t with ps:=t.ps++L,waits:=0,key:=fQ L},true):=fun e=>by unfold ig;rw[if_pos e,yJ.out]
  have hend:=fun W (hW:Kept aj W6 W)=>og (h6.quiet hW) ⟨0,0,t.at',0,t.ps++L⟩ A6 c6 ((h6.quiet hW).p);unfold nV iO at hend;dsimp only at hend;simp only[hlen]at hend;have hfin:∀W w7 (e:Ending),Kept aj W6 W->kS w7 ⟨bb,X.bA,X.bc,A6,c6,A6,c6⟩ (eG {t with ps:=t.ps++L,waits:=0} ⟨0,0,t.at',0,t.ps++L⟩)->Kept (fun k=>k=bb) W w7->∀w8,Kept aj w7 w8->jC t x=false->iE w X t (.bool (ig t x).2) (ig t x).1 (.returned (.bool false)) w8:=fun W w7 e hW hp hk w8 hk8 xZ=>by
   rw[hF xZ];refine⟨rfl,_,hp.quiet hk8,fF.out.symm,fun k hk=> ?_,?_⟩
   ·have hk3:dN ⟨bb,X.bA,X.bc,A6,c6,X.rA,X.rc⟩ {t with ps:=t.ps++L,waits:=0} k:=by
     rcases hk with e|e|e|e
     ·exact .inl e
     ·exact .inr (.inl e)
     ·exact .inr (.inr (.inl e))
     ·exact .inr (.inl e)
    rcases hgrow k hk3 with e|e
    ·exact .inl e
    ·exact .inr (Nat.le_trans mW.out.size e)
   ·exact(((mW.out.mono (fun _ z=>z.elim)).then (sD.mono (fun k e=> .inl (e.trans fF.out.symm)))).then (hW.mono (fun _ z=>z.elim))).then (hk.mono (fun k e=> .inl (e.trans fF.out.symm)))|>.then (hk8.mono (fun _ z=>z.elim))
  have aX:=ah hend;have yE:=ah hfin;have H6:=ah h6;have zT:=ah sD;have EU:=ah hgrow;have jH:=ah hgo;have uO:=ah hT;have eH:=ah hlen;clear hend hfin hgrow hgo hF hT h6 hlen hbox fJ sD e13 f13 e14 f14 q13 pZ;rw[qR.out];refine(Df.out _).mono ?_;rintro e w7 ⟨s',rfl,hs',hb7⟩;have aZ:Kept aj W6 w7:=⟨hb7.os,hb7.tape,hb7.output,hb7.size,fun k hk _=>hb7.block k hk⟩;have hse:s'=fQ L:=by rw[Ky.out];exact yH (by rw[lH];exact hs')
  have h7:=H6.out.quiet aZ;have w8:w7.cell? ⟨bb,8,none⟩=some (.int .i64 t.a.n):=h7.b.cell 8;have iP:w7.cell? ⟨bb,11,none⟩=some (.int .u64 t.at'):=h7.b.cell 11;have w12:w7.cell? ⟨bb,12,none⟩=some (.string t.key):=h7.b.cell 12;have xO:w7.cell? ⟨bb,13,none⟩=some (.slice A6 (q+1) c6):=by rw[<-eH.out];exact h7.b.cell 13
  have abN:w7.frozen? ⟨bb,12,none⟩=false:=h7.b.frozen 12;have z4:w7.cell? ⟨w.heap.size,4,none⟩=some (.bool x.fl):=((dZ.out.kept iU.out (fun z=>z)).kept (zT.out.then (aZ.mono (fun _ z=>z.elim))) (fun hf=>by have:=LD.out;have:=fF.out;omega)).cell 4;have mQ:=ah aZ;have iq:=ah hse;clear hb7 aZ hs' hse v3 v8 v11 v12 v13 P4 u4 qp h7;cases hfl:x.fl with
  |false=>
   rw[hfl]at z4;have wM:=ah hfl;clear hfl;go_wp2_with fail;go_quiet (fail);go_wp2_with fail
   go_region_held3 (fun W=>W.cell? ⟨bb,11,none⟩=some (.int .u64 t.at')/\W.cell? ⟨bb,13,none⟩=some (.slice A6 (q+1) c6))
    (first|with_reducible exact y7|with_reducible exact⟨iP,xO⟩|exact⟨iP,xO⟩)
    (first|(go_at_call 76;refine(aX.out _ (by(repeat'(first|(with_reducible first|exact ay|apply aA|apply aB|apply aC|apply aF)|(exact mQ.out)|(right;simp;done))))).mono ?_;rintro e w7 ⟨rfl,bY,aZ⟩;have y7:w7.cell? ⟨bb,11,none⟩=some (.int .u64 t.at')/\w7.cell? ⟨bb,13,none⟩=some (.slice A6 (q+1) c6):=And.intro (bY.b.cell 11) (eH.out▸bY.b.cell 13);have jh:=ah bY;have jd:=ah aZ;clear bY aZ))
   all_goals
    go_wp2
    go_ret
    exact yE.out _ _ (.returned (.bool false)) (by(repeat'(first|(with_reducible first|exact ay|apply aA|apply aB|apply aC|apply aF)|(exact mQ.out)|(right;simp;done)))) jh.out jd.out _ (Kept.refl _ _) (by rw[jH.out,wM.out];simp)
  |true=>
   rw[hfl]at z4;have wM:=ah hfl;clear hfl;by_cases AB:((q+1:Nat):Int)<t.a.n;rotate_left
   ·have Dc:=ah AB;have hge:t.a.n<=(q:Int)+1:=by omega
    clear AB;go_wp2_with fail;go_quiet (fail);go_wp2_with fail
    go_region_held3 (fun W=>W.cell? ⟨bb,11,none⟩=some (.int .u64 t.at')/\W.cell? ⟨bb,13,none⟩=some (.slice A6 (q+1) c6))
     (first|with_reducible exact y7|with_reducible exact⟨iP,xO⟩|exact⟨iP,xO⟩)
     (first|(go_at_call 76;refine(aX.out _ (by(repeat'(first|(with_reducible first|exact ay|apply aA|apply aB|apply aC|apply aF)|(exact mQ.out)|(right;simp;done))))).mono ?_;rintro e w7 ⟨rfl,bY,aZ⟩;have y7:w7.cell? ⟨bb,11,none⟩=some (.int .u64 t.at')/\w7.cell? ⟨bb,13,none⟩=some (.slice A6 (q+1) c6):=And.intro (bY.b.cell 11) (eH.out▸bY.b.cell 13);have jh:=ah bY;have jd:=ah aZ;clear bY aZ))
    all_goals
     go_wp2
     go_ret
     exact yE.out _ _ (.returned (.bool false)) (by(repeat'(first|(with_reducible first|exact ay|apply aA|apply aB|apply aC|apply aF)|(exact mQ.out)|(right;simp;done)))) jh.out jd.out _ (Kept.refl _ _) (by rw[jH.out,decide_eq_false (show¬(((q+1:Nat):Int)<t.a.n) by have:=Dc.out;omega)];simp)
   have Dc:=ah AB;have hge:¬t.a.n<=(q:Int)+1:=by omega
   clear AB;by_cases hs0:s'=emp
   ·have hsb:(s'.toList==(⟨#[]⟩:ByteArray).toList)=true:=by rw[oG];exact decide_eq_true hs0
    have Fz:s'.toList.isEmpty=true:=by rw[hs0];unfold emp;simp
    have qP:=ah hs0;clear hs0;go_wp2_with fail;go_quiet (fail);go_wp2_with fail
    go_region_held3 (fun W=>W.cell? ⟨bb,11,none⟩=some (.int .u64 t.at')/\W.cell? ⟨bb,13,none⟩=some (.slice A6 (q+1) c6))
     (first|with_reducible exact y7|with_reducible exact⟨iP,xO⟩|exact⟨iP,xO⟩)
     (first|(go_at_call 76;refine(aX.out _ (by(repeat'(first|(with_reducible first|exact ay|apply aA|apply aB|apply aC|apply aF)|(exact mQ.out)|(right;simp;done))))).mono ?_;rintro e w7 ⟨rfl,bY,aZ⟩;have y7:w7.cell? ⟨bb,11,none⟩=some (.int .u64 t.at')/\w7.cell? ⟨bb,13,none⟩=some (.slice A6 (q+1) c6):=And.intro (bY.b.cell 11) (eH.out▸bY.b.cell 13);have jh:=ah bY;have jd:=ah aZ;clear bY aZ))
    all_goals
     go_wp2
     go_ret
     exact yE.out _ _ (.returned (.bool false)) (by(repeat'(first|(with_reducible first|exact ay|apply aA|apply aB|apply aC|apply aF)|(exact mQ.out)|(right;simp;done)))) jh.out jd.out _ (Kept.refl _ _) (by rw[jH.out,decide_eq_false (show¬fQ L≠emp from fun e=>e (iq.out.symm.trans qP.out))];simp)
   ·have hsb:(s'.toList==(⟨#[]⟩:ByteArray).toList)=false:=by rw[oG];exact decide_eq_false hs0
    have Fz:s'.toList.isEmpty=false:=by
     rw[<-Bool.not_eq_true,List.isEmpty_iff];intro e;apply hs0;have h9:(s'.toList==emp.toList)=true:=by rw[e];unfold emp;simp
     rw[oG]at h9;exact of_decide_eq_true h9
    have qP:=ah hs0;clear hs0;go_wp2_with fail;go_quiet (fail);go_wp2;go_ret;have FB:jC t x=true:=by rw[jH.out,wM.out,decide_eq_true Dc.out,decide_eq_true (show 0<1 by decide),decide_eq_true (show fQ L≠emp from fun e=>qP.out (iq.out.trans e))];rfl
    rw[uO.out FB,<-iq.out];obtain⟨W9,pJ⟩:∃W9,w7.drewN nq=W9:=⟨_,rfl⟩;have hk9:Kept aj w7 W9:=by rw[<-pJ];(repeat'(first|(with_reducible first|exact ay|apply aA|apply aB|apply aC|apply aF)|(right;simp;done)))
    rw[pJ];have h9:=H6.out.quiet (mQ.out.then hk9);have hk8:Kept (fun k=>k=bb) W9 (W9.setCell ⟨bb,12,none⟩ (.string s')):=by(repeat'(first|(with_reducible first|exact ay|apply aA|apply aB|apply aC|apply aF)|(exact .inl rfl)|(right;simp;done)))
    have E4:=h9.b.put 12 (.string s');refine⟨rfl,⟨bb,X.bA,X.bc,A6,c6,X.rA,X.rc⟩,h9.upd hk8 E4 rfl rfl rfl rfl,fF.out.symm,fun k hk=> ?_,?_⟩
    ·rcases EU.out k hk with e|e
     ·exact .inl e
     ·exact .inr (Nat.le_trans mW.out.size e)
    ·exact(((mW.out.mono (fun _ z=>z.elim)).then (zT.out.mono (fun k e=> .inl (e.trans fF.out.symm)))).then ((mQ.out.then hk9).mono (fun _ z=>z.elim))).then (hk8.mono (fun k e=> .inl (e.trans fF.out.symm)))
 ·clear hm0;obtain⟨p,hp⟩:∃p,L[1]? =some p:=⟨_,lB0 (by rw[pY.out];decide)⟩;have hnk:fQ L=fE (Keys.nextL (bl p.key)):=by unfold fQ;rw[List.getLast?_eq_getElem?,pY.out];show(match L[1]? with|none=>emp|some p=>fE (Keys.nextL (bl p.key)))=_;rw[hp]
  obtain⟨ad,tV,had,-,-⟩:=pair_cells zf.out (by decide) 1 p hp;have abM:ad.block≠bb:=fun e3=>HX.out.off (by rw[lJ.out];omega) ad tV (.inl (e3.trans fF.out.symm));have Me:∀W,Kept (fun k=>k=bb) w4 W->W.cell? ⟨ad.block,ad.off+2,none⟩=some (.string p.key):=fun W hW=>by obtain⟨Xa,zC,-,hc2,-⟩:=pair_cells (BG zf.out hW (fun _ ad e2 e3=>HX.out.off (by rw[lJ.out];omega) ad e2 (.inl (e3.trans fF.out.symm)))) (by decide) 1 p hp;rw[tV]at zC;injection zC with zC;subst zC;rw[add_lit _ (by decide)]at hc2;exact hc2
  have hpk:p.key.size<=maxLen:=HX.out.k p (by have h9:=lC0 hp;rw[jm.out]at h9;exact List.mem_of_mem_take h9)
  have hkn:=fun W=>Keys.AA p.key W hpk;have Df:=ah hkn;have Ky:=ah hnk;have Wh:=ah Me;clear hkn hnk had hpk hp Me;rw[tV]at zf;rw[tV];clear tV
  go_wp2_with (first
   |(at_builtin;refine bH pW (.tmp 60) (.tmp 61) rfl rfl (Value.slice A5 q c5) rfl qY.out.1 x.pc rfl (zf.out.kept qY.out.2.2 (fun _ _ z=>z)) (uJ L) HB2.out nR.out ?_;intro A6 c6 w6 ji fJ ha6;have hk6:Kept aj w4 w6:=qY.out.2.2.grown fJ (fun k hk=> .inr (qY.out.2.1 k hk));have vV:∀k,(Value.slice A6 (q+2) c6).ownBlock=some k->w4.heap.size<=k:=(fun k hk=>by rcases ha6 with e|e;exact qY.out.2.1 k (e.symm.trans hk);rw[hk]at e;injection e with e;have:=qY.out.2.2.size;omega);have hb6:=(H4.out.quiet hk6).b;have qp:∀u v,((w6.setCell ⟨bb,13,none⟩ u).setCell ⟨bb,14,none⟩ v).cell? ⟨ad.block,ad.off+2,none⟩=some (.string p.key):=(fun u v=>Wh.out _ ((hk6.mono (fun _ z=>z.elim)).then (by(repeat'(first|(with_reducible first|exact ay|apply aA|apply aB|apply aC|apply aF)|(exact .inl rfl)|(right;simp;done))))));have e13:w6.cell? ⟨bb,13,none⟩=some (.slice X.pA q X.pc):=(by rw[<-fF.out,<-HQ.out];exact hb6.cell 13);have f13:w6.frozen? ⟨bb,13,none⟩=false:=(by rw[<-fF.out];exact hb6.frozen 13);have e14:w6.cell? ⟨bb,14,none⟩=some (.int .i64 t.waits):=(by rw[<-fF.out];exact hb6.cell 14);have f14:w6.frozen? ⟨bb,14,none⟩=false:=(by rw[<-fF.out];exact hb6.frozen 14);have Ew:=ah (And.intro ji (And.intro hk6 vV));clear ji fJ ha6 hk6 vV hb6)
   |(at_builtin;refine bH pW (.tmp 55) (.tmp 59) rfl rfl (Value.slice (some ⟨w4.heap.size,0,none⟩) 0 0) rfl (pR (Has.new w4 84 #[]) rfl) X.pc rfl ((Src.fA HOW.out).kept (F:=aj) ((Kept.refl _ _).alloc _) (fun _ _ z=>z)) (uJ t.ps) HB1.out Dh.out ?_;intro A5 c5 w5 vO hg5 tu;simp only[Nat.zero_add,List.nil_append]at vO tu;have hk5:Kept aj w4 w5:=((Kept.refl aj w4).alloc _).grown hg5 (fun k hk=> .inr (oV hk (Nat.le_refl _)));have tC:∀k,(Value.slice A5 q c5).ownBlock=some k->w4.heap.size<=k:=(fun k hk=>sU hk tu (Nat.le_refl _) (by simp));have qY:=ah (And.intro vO (And.intro tC hk5));clear vO hg5 tu hk5 tC))
  have hmid:=kS.Gg (L:=L) (w6:=w6) (A6:=A6) (c6:=c6) H4.out Jh.out (by rw[HQ.out,pY.out];exact Ew.out.1) Ew.out.2.1 (by rw[HQ.out,pY.out];exact Ew.out.2.2);rw[HQ.out,pY.out,fF.out]at hmid;obtain⟨W6,pZ⟩:∃W6,((w6.setCell ⟨bb,13,none⟩ (.slice A6 (q+2) c6)).setCell ⟨bb,14,none⟩ (.int .i64 0))=W6:=⟨_,rfl⟩;rw[pZ]at hmid;have qR:=ah pZ;obtain⟨h6,sD,hgrow⟩:=hmid;have fJ:=h6.b;have hlen:(t.ps++L).length=q+2:=by rw[lA0,HQ.out,pY.out]
  have hbox:=(dZ.out.kept iU.out (fun z=>z)).kept sD (fun hf=>by have:=LD.out;have:=fF.out;omega);have u4:W6.cell? ⟨w.heap.size,4,none⟩=some (.bool x.fl):=hbox.cell 4;have v3:W6.cell? ⟨bb,3,none⟩=some (.int .i64 t.a.k):=fJ.cell 3;have v8:W6.cell? ⟨bb,8,none⟩=some (.int .i64 t.a.n):=fJ.cell 8;have v11:W6.cell? ⟨bb,11,none⟩=some (.int .u64 t.at'):=fJ.cell 11;have v12:W6.cell? ⟨bb,12,none⟩=some (.string t.key):=fJ.cell 12;have P4:W6.frozen? ⟨bb,12,none⟩=false:=fJ.frozen 12;have v13:W6.cell? ⟨bb,13,none⟩=some (.slice A6 (q+2) c6):=by rw[<-hlen];exact fJ.cell 13
  have hgo:jC t x=(x.fl&&(decide (0<2)&&(decide ((q+2:Nat)<t.a.n)&&decide (fQ L≠emp)))):=by unfold jC;rw[yJ.out,pY.out,HQ.out]
  have hF:jC t x=false->ig t x=(eG {t with ps:=t.ps++L,waits:=0} ⟨0,0,t.at',0,t.ps++L⟩,false):=fun e=>by unfold ig;rw[if_neg (by rw[e];decide),yJ.out]
  have hT:jC t x=true->ig t x=({t with ps:=t.ps++L,waits:=0,key:=fQ L},true):=fun e=>by unfold ig;rw[if_pos e,yJ.out]
  have hend:=fun W (hW:Kept aj W6 W)=>og (h6.quiet hW) ⟨0,0,t.at',0,t.ps++L⟩ A6 c6 ((h6.quiet hW).p);unfold nV iO at hend;dsimp only at hend;simp only[hlen]at hend;have hfin:∀W w7 (e:Ending),Kept aj W6 W->kS w7 ⟨bb,X.bA,X.bc,A6,c6,A6,c6⟩ (eG {t with ps:=t.ps++L,waits:=0} ⟨0,0,t.at',0,t.ps++L⟩)->Kept (fun k=>k=bb) W w7->∀w8,Kept aj w7 w8->jC t x=false->iE w X t (.bool (ig t x).2) (ig t x).1 (.returned (.bool false)) w8:=fun W w7 e hW hp hk w8 hk8 xZ=>by
   rw[hF xZ];refine⟨rfl,_,hp.quiet hk8,fF.out.symm,fun k hk=> ?_,?_⟩
   ·have hk3:dN ⟨bb,X.bA,X.bc,A6,c6,X.rA,X.rc⟩ {t with ps:=t.ps++L,waits:=0} k:=by
     rcases hk with e|e|e|e
     ·exact .inl e
     ·exact .inr (.inl e)
     ·exact .inr (.inr (.inl e))
     ·exact .inr (.inl e)
    rcases hgrow k hk3 with e|e
    ·exact .inl e
    ·exact .inr (Nat.le_trans mW.out.size e)
   ·exact(((mW.out.mono (fun _ z=>z.elim)).then (sD.mono (fun k e=> .inl (e.trans fF.out.symm)))).then (hW.mono (fun _ z=>z.elim))).then (hk.mono (fun k e=> .inl (e.trans fF.out.symm)))|>.then (hk8.mono (fun _ z=>z.elim))
  have aX:=ah hend;have yE:=ah hfin;have H6:=ah h6;have zT:=ah sD;have EU:=ah hgrow;have jH:=ah hgo;have uO:=ah hT;have eH:=ah hlen;clear hend hfin hgrow hgo hF hT h6 hlen hbox fJ sD e13 f13 e14 f14 q13 pZ;rw[qR.out];refine(Df.out _).mono ?_;rintro e w7 ⟨s',rfl,hs',hb7⟩;have aZ:Kept aj W6 w7:=⟨hb7.os,hb7.tape,hb7.output,hb7.size,fun k hk _=>hb7.block k hk⟩;have hse:s'=fQ L:=by rw[Ky.out];exact yH (by rw[lH];exact hs')
  have h7:=H6.out.quiet aZ;have w8:w7.cell? ⟨bb,8,none⟩=some (.int .i64 t.a.n):=h7.b.cell 8;have iP:w7.cell? ⟨bb,11,none⟩=some (.int .u64 t.at'):=h7.b.cell 11;have w12:w7.cell? ⟨bb,12,none⟩=some (.string t.key):=h7.b.cell 12;have xO:w7.cell? ⟨bb,13,none⟩=some (.slice A6 (q+2) c6):=by rw[<-eH.out];exact h7.b.cell 13
  have abN:w7.frozen? ⟨bb,12,none⟩=false:=h7.b.frozen 12;have z4:w7.cell? ⟨w.heap.size,4,none⟩=some (.bool x.fl):=((dZ.out.kept iU.out (fun z=>z)).kept (zT.out.then (aZ.mono (fun _ z=>z.elim))) (fun hf=>by have:=LD.out;have:=fF.out;omega)).cell 4;have mQ:=ah aZ;have iq:=ah hse;clear hb7 aZ hs' hse v3 v8 v11 v12 v13 P4 u4 qp h7;cases hfl:x.fl with
  |false=>
   rw[hfl]at z4;have wM:=ah hfl;clear hfl;go_wp2_with fail;go_quiet (fail);go_wp2_with fail
   go_region_held3 (fun W=>W.cell? ⟨bb,11,none⟩=some (.int .u64 t.at')/\W.cell? ⟨bb,13,none⟩=some (.slice A6 (q+2) c6))
    (first|with_reducible exact y7|with_reducible exact⟨iP,xO⟩|exact⟨iP,xO⟩)
    (first|(go_at_call 76;refine(aX.out _ (by(repeat'(first|(with_reducible first|exact ay|apply aA|apply aB|apply aC|apply aF)|(exact mQ.out)|(right;simp;done))))).mono ?_;rintro e w7 ⟨rfl,bY,aZ⟩;have y7:w7.cell? ⟨bb,11,none⟩=some (.int .u64 t.at')/\w7.cell? ⟨bb,13,none⟩=some (.slice A6 (q+2) c6):=And.intro (bY.b.cell 11) (eH.out▸bY.b.cell 13);have jh:=ah bY;have jd:=ah aZ;clear bY aZ))
   all_goals
    go_wp2
    go_ret
    exact yE.out _ _ (.returned (.bool false)) (by(repeat'(first|(with_reducible first|exact ay|apply aA|apply aB|apply aC|apply aF)|(exact mQ.out)|(right;simp;done)))) jh.out jd.out _ (Kept.refl _ _) (by rw[jH.out,wM.out];simp)
  |true=>
   rw[hfl]at z4;have wM:=ah hfl;clear hfl;by_cases AB:((q+2:Nat):Int)<t.a.n;rotate_left
   ·have Dc:=ah AB;have hge:t.a.n<=(q:Int)+2:=by omega
    clear AB;go_wp2_with fail;go_quiet (fail);go_wp2_with fail
    go_region_held3 (fun W=>W.cell? ⟨bb,11,none⟩=some (.int .u64 t.at')/\W.cell? ⟨bb,13,none⟩=some (.slice A6 (q+2) c6))
     (first|with_reducible exact y7|with_reducible exact⟨iP,xO⟩|exact⟨iP,xO⟩)
     (first|(go_at_call 76;refine(aX.out _ (by(repeat'(first|(with_reducible first|exact ay|apply aA|apply aB|apply aC|apply aF)|(exact mQ.out)|(right;simp;done))))).mono ?_;rintro e w7 ⟨rfl,bY,aZ⟩;have y7:w7.cell? ⟨bb,11,none⟩=some (.int .u64 t.at')/\w7.cell? ⟨bb,13,none⟩=some (.slice A6 (q+2) c6):=And.intro (bY.b.cell 11) (eH.out▸bY.b.cell 13);have jh:=ah bY;have jd:=ah aZ;clear bY aZ))
    all_goals
     go_wp2
     go_ret
     exact yE.out _ _ (.returned (.bool false)) (by(repeat'(first|(with_reducible first|exact ay|apply aA|apply aB|apply aC|apply aF)|(exact mQ.out)|(right;simp;done)))) jh.out jd.out _ (Kept.refl _ _) (by rw[jH.out,decide_eq_false (show¬(((q+2:Nat):Int)<t.a.n) by have:=Dc.out;omega)];simp)
   have Dc:=ah AB;have hge:¬t.a.n<=(q:Int)+2:=by omega
   clear AB;by_cases hs0:s'=emp
   ·have hsb:(s'.toList==(⟨#[]⟩:ByteArray).toList)=true:=by rw[oG];exact decide_eq_true hs0
    have Fz:s'.toList.isEmpty=true:=by rw[hs0];unfold emp;simp
    have qP:=ah hs0;clear hs0;go_wp2_with fail;go_quiet (fail);go_wp2_with fail
    go_region_held3 (fun W=>W.cell? ⟨bb,11,none⟩=some (.int .u64 t.at')/\W.cell? ⟨bb,13,none⟩=some (.slice A6 (q+2) c6))
     (first|with_reducible exact y7|with_reducible exact⟨iP,xO⟩|exact⟨iP,xO⟩)
     (first|(go_at_call 76;refine(aX.out _ (by(repeat'(first|(with_reducible first|exact ay|apply aA|apply aB|apply aC|apply aF)|(exact mQ.out)|(right;simp;done))))).mono ?_;rintro e w7 ⟨rfl,bY,aZ⟩;have y7:w7.cell? ⟨bb,11,none⟩=some (.int .u64 t.at')/\w7.cell? ⟨bb,13,none⟩=some (.slice A6 (q+2) c6):=And.intro (bY.b.cell 11) (eH.out▸bY.b.cell 13);have jh:=ah bY;have jd:=ah aZ;clear bY aZ))
    all_goals
     go_wp2
     go_ret
     exact yE.out _ _ (.returned (.bool false)) (by(repeat'(first|(with_reducible first|exact ay|apply aA|apply aB|apply aC|apply aF)|(exact mQ.out)|(right;simp;done)))) jh.out jd.out _ (Kept.refl _ _) (by rw[jH.out,decide_eq_false (show¬fQ L≠emp from fun e=>e (iq.out.symm.trans qP.out))];simp)
   ·have hsb:(s'.toList==(⟨#[]⟩:ByteArray).toList)=false:=by rw[oG];exact decide_eq_false hs0
    have Fz:s'.toList.isEmpty=false:=by
     rw[<-Bool.not_eq_true,List.isEmpty_iff];intro e;apply hs0;have h9:(s'.toList==emp.toList)=true:=by rw[e];unfold emp;simp
     rw[oG]at h9;exact of_decide_eq_true h9
    have qP:=ah hs0;clear hs0;go_wp2_with fail;go_quiet (fail);go_wp2;go_ret;have FB:jC t x=true:=by rw[jH.out,wM.out,decide_eq_true Dc.out,decide_eq_true (show 0<2 by decide),decide_eq_true (show fQ L≠emp from fun e=>qP.out (iq.out.trans e))];rfl
    rw[uO.out FB,<-iq.out];obtain⟨W9,pJ⟩:∃W9,w7.drewN nq=W9:=⟨_,rfl⟩;have hk9:Kept aj w7 W9:=by rw[<-pJ];(repeat'(first|(with_reducible first|exact ay|apply aA|apply aB|apply aC|apply aF)|(right;simp;done)))
    rw[pJ];have h9:=H6.out.quiet (mQ.out.then hk9);have hk8:Kept (fun k=>k=bb) W9 (W9.setCell ⟨bb,12,none⟩ (.string s')):=by(repeat'(first|(with_reducible first|exact ay|apply aA|apply aB|apply aC|apply aF)|(exact .inl rfl)|(right;simp;done)))
    have E4:=h9.b.put 12 (.string s');refine⟨rfl,⟨bb,X.bA,X.bc,A6,c6,X.rA,X.rc⟩,h9.upd hk8 E4 rfl rfl rfl rfl,fF.out.symm,fun k hk=> ?_,?_⟩
    ·rcases EU.out k hk with e|e
     ·exact .inl e
     ·exact .inr (Nat.le_trans mW.out.size e)
    ·exact(((mW.out.mono (fun _ z=>z.elim)).then (zT.out.mono (fun k e=> .inl (e.trans fF.out.symm)))).then ((mQ.out.then hk9).mono (fun _ z=>z.elim))).then (hk8.mono (fun k e=> .inl (e.trans fF.out.symm)))
