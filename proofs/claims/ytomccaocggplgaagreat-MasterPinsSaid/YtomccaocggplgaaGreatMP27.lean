/- Part 28. -/
import Derived.Test.YtomccaocggplgaaGreatMP26
set_option linter.unusedSimpArgs false
set_option linter.unusedVariables false
set_option maxHeartbeats 32000000
set_option maxRecDepth 100000
namespace Go.Proofs.YtomccaocggplgaaGreat
open Go.RowKit
namespace bW
open aJ Vn Mst jQ IM kK gu
def dP(n:Int):aG:=nt 7 n ⟨0,0,0⟩ ⟨0,0,[]⟩
def lV(l:List aO)(id:Int):List aO:=if bV l id<0 then []else jk l id
def lS(l:List aO)(id:Int):List aO:=if bV l id<0 then []else freed l id
def dQ(M:MR)(x:bD):MR:=
 if x.k=11 then jX M x.at' else
 match(if bV M.st.pins x.n<0 then none else M.st.pins[(bV M.st.pins x.n).toNat]?)with
 |none=>M
 |some p=>if x.k=12 then {writeM M (gZ p)with pins:=lV M.pins x.n}else{writeM M (dP x.n)with pins:=lS M.pins x.n}
def gW(M:MR)(x:bD):Int×Int:=if x.k=11 then rM M x.at' else if bV M.st.pins x.n<0 then (0,7)else(x.n,0)
section
variable{w w':World}{X X0:MX}{M M0:MR}{c k:Nat}
theorem VM(l:List aO)(id:Int):(lV l id).length<=l.length:=by
 unfold lV;split
 ·exact Nat.zero_le _
 ·rw[pO];exact Nat.le_refl _
theorem ZG{l:List aO}{id:Int}{p:aO}(h:p∈lS l id):p∈l:=by
 unfold lS at h;split at h
 ·cases h
 ·unfold freed at h;split at h
  ·exact h
  ·exact List.mem_of_mem_eraseIdx h
theorem ZH(l:List aO)(id:Int):(lS l id).length<=l.length:=by
 unfold lS;split
 ·exact Nat.zero_le _
 ·unfold freed;split
  ·exact Nat.le_refl _
  ·rw[List.length_eraseIdx];split<;>omega
theorem VN(w:World)(A:Option Addr)(c:Nat)(l:List aO)(id:Int)(hl:Src w 3 A l.length (aS l))(hlc:l.length<=c)(hlen:l.length<=1000000):
  Calls Tryz.prog 151 #[.slice A l.length c,.int .i64 id] w fun e w'=>∃A' c' z,e=.returned (.tuple #[.slice A' (lV l id).length c',.int .i64 z])/\aF 53 3 w.heap.size w' A' (lV l id).length c' (aS (lV l id))/\Kept aj w w':=by
 refine(LG w A c l id hl hlc hlen).mono ?_;rintro e w' (⟨h0,rfl,hk⟩|⟨h0,A',c',rfl,hn,hk⟩)
 ·have e1:lV l id=[]:=if_pos h0;rw[e1];exact⟨none,0,_,rfl,aF.nil _ _ _ _,hk⟩
 ·have e1:lV l id=jk l id:=if_neg (by omega);rw[e1];exact⟨A',c',_,rfl,hn,hk⟩
theorem ZI(w:World)(A:Option Addr)(c:Nat)(l:List aO)(id:Int)(hl:Src w 3 A l.length (aS l))(hlen:l.length<=1000000):
  Calls Tryz.prog 84 #[.slice A l.length c,.int .i64 id] w fun e w'=>∃A' c' z,e=.returned (.tuple #[.slice A' (lS l id).length c',.int .i64 z])/\aF 53 3 w.heap.size w' A' (lS l id).length c' (aS (lS l id))/\Kept aj w w':=by
 refine(Ht w A c l id hl hlen).mono ?_;rintro e w' (⟨h0,rfl,hk⟩|⟨h0,A',c',rfl,hn,hk⟩)
 ·have e1:lS l id=[]:=if_pos h0;rw[e1];exact⟨none,0,_,rfl,aF.nil _ _ _ _,hk⟩
 ·have e1:lS l id=freed l id:=if_neg (by omega);rw[e1];exact⟨A',c',_,rfl,hn,hk⟩
theorem VO{l:List aO}{id:Int}{p:aO}(h:p∈lV l id):p∈l\/∃q∈l,p=⟨id,q.at',8⟩:=by
 unfold lV at h;split at h
 ·cases h
 ·exact Bi h
theorem bC.acC(h:bC M k){l:List aO}(h3:l.length<=3)(hp:∀p∈l,0<=p.left/\p.left<=8/\0<=p.at'/\p.at'<=aW):bC {M with pins:=l} k:=⟨h.st,h3,hp,h.tq,h.last,h.marks,h.iO,h.cnt⟩
theorem kT(M:MR)(x:aG):(writeM M x).pins=M.pins:=by unfold writeM;split<;>rfl
theorem bC.dQ{w:World}(h:bC M k)(x:bD)(hok:jd w x):bC (bW.dQ M x) k:=by
 unfold bW.dQ;split
 ·exact h.jX _ hok.t.1
 ·split
  ·exact h
  ·rename_i p hp;have hpm:p∈M.st.pins:=by
    split at hp
    ·cases hp
    ·exact lC0 hp
   have hpi:=h.st.inv.pin p hpm;have hps:=h.st.su.pin p hpm;split
   ·refine(h.write (qC 6 0 p hps (by omega))).acC (Nat.le_trans (VM _ _) h.p3) (fun q hq=> ?_);rcases VO hq with y|⟨r,hr,rfl⟩
    ·exact h.pin q y
    ·have:=h.pin r hr;exact⟨by show(0:Int)<=8;decide,by show(8:Int)<=8;decide,this.2.2⟩
   ·exact(h.write (qC 7 x.n ⟨0,0,0⟩ (by decide) (by decide))).acC (Nat.le_trans (ZH _ _) h.p3) (fun q hq=>h.pin q (ZG hq))
theorem VP(M:MR)(x:bD):(dQ M x).out=M.out:=by
 unfold dQ;split
 ·exact acB _ _
 ·split
  ·rfl
  ·split<;>exact qB _ _
theorem JH(F:Nat->Prop)(n:Int):KP F (dP n):=⟨fun h=>absurd h (Nat.lt_irrefl _),fun h=>absurd h (Nat.lt_irrefl _),fun h=>absurd h (Nat.lt_irrefl _)⟩
theorem Dw(w:World)(p:aO)(b:Nat)(x:bD)(hb:Has w b 45 (aI x).toArray):
  Calls Tryz.prog 171 #[CJ p,.pointer (some ⟨b,0,none⟩)] w fun e w'=>e=.returned (.bool (decide (p.id=x.n)))/\Kept aj w w':=by
 have c0:=(hb.alloc (.cells #[.int .i64 p.id,.int .u64 p.at',.int .i64 p.left] 53)).cell 7;simp only[aI,lF0,List.getElem?_cons_zero,List.getElem?_cons_succ]at c0;clear hb;go_enter Tryz.func171,Tryz.ntmps171;go_wp2;go_ret;exact⟨rfl,by(repeat'(first|(with_reducible first|exact ak|apply au|apply ay|apply aA|apply aB)|(right;simp;done)))⟩
theorem ZJ(h:dJ w X M)(hb:dG X M.lg c)(hc:c<=4000)(hm:bC M k)(x:bD)(hx:jd w x)(h11:x.k=11):
  Calls Tryz.prog 96 #[.pointer (some ⟨X.mb,0,none⟩),iE x] w (dK w X M c (.tuple #[.int .i64 (gW M x).1,.int .i64 (gW M x).2]) (dQ M x) 1):=by
 have e1:dQ M x=jX M x.at':=if_pos h11;have e2:gW M x=rM M x.at':=if_pos h11;rw[e1,e2];obtain⟨W0,hW0⟩:∃W0,w.alloc (.cells (aI x).toArray 45)=W0:=⟨_,rfl⟩;have hk0:Kept aj w W0:=by rw[<-hW0];(repeat'(first|(with_reducible first|exact ak|apply au|apply ay|apply aA|apply aB)|(right;simp;done)))
 have hn0:Has W0 w.heap.size 45 (aI x).toArray:=by rw[<-hW0];exact Has.new _ _ _
 have hoff:¬dN X M w.heap.size:=fun hf=>absurd (h.lt hf) (Nat.lt_irrefl _);have z0:W0.cell? ⟨w.heap.size,0,none⟩=some (.int .i64 x.k):=hn0.cell 0;have z5:W0.cell? ⟨w.heap.size,5,none⟩=some (.int .u64 x.at'):=hn0.cell 5;have hp:Calls Tryz.prog 169 #[.pointer (some ⟨X.mb,0,none⟩),.int .u64 x.at'] W0 fun e w'=>e=.returned (.tuple #[.int .i64 (rM M x.at').1,.int .i64 (rM M x.at').2])/\dK w X M c (.tuple #[.int .i64 (rM M x.at').1,.int .i64 (rM M x.at').2]) (jX M x.at') 1 (.returned (.tuple #[.int .i64 (rM M x.at').1,.int .i64 (rM M x.at').2])) w':=by refine(KD (h.quiet hk0) hb hc hm x.at' hx.t.1).mono ?_;rintro e w' ⟨rfl,X',hs,hl⟩;exact⟨rfl,rfl,X',(Step.refl h hk0).trans hs,hl⟩
 rw[h11]at z0;have HP:=ah hp;clear hp e1 e2 h hb hc hm hx hn0 hk0 hoff;obtain⟨v1,hv1⟩:∃v1,(rM M x.at').1=v1:=⟨_,rfl⟩;obtain⟨v2,hv2⟩:∃v2,(rM M x.at').2=v2:=⟨_,rfl⟩;rw[hv1,hv2]at HP⊢;clear hv1 hv2;go_enter Tryz.func96,Tryz.ntmps96;go_wp2_with fail;clear z0 z5 hW0;refine HP.out.mono ?_;rintro e w2 ⟨rfl,hq⟩;have HQ:=ah hq;clear hq HP;go_wp2;go_ret2;exact HQ.out
theorem VQ(h:dJ w X M)(hb:dG X M.lg c)(hc:c<=4000)(hm:bC M k)(x:bD)(hx:jd w x)(h11:x.k≠11)(h0:bV M.st.pins x.n<0):
  Calls Tryz.prog 96 #[.pointer (some ⟨X.mb,0,none⟩),iE x] w (dK w X M c (.tuple #[.int .i64 (gW M x).1,.int .i64 (gW M x).2]) (dQ M x) 1):=by
 have e1:dQ M x=M:=by unfold dQ;rw[if_neg h11,if_pos h0]
 have e2:gW M x=(0,7):=by unfold gW;rw[if_neg h11,if_pos h0]
 rw[e1,e2];obtain⟨W0,hW0⟩:∃W0,w.alloc (.cells (aI x).toArray 45)=W0:=⟨_,rfl⟩;have hk0:Kept aj w W0:=by rw[<-hW0];(repeat'(first|(with_reducible first|exact ak|apply au|apply ay|apply aA|apply aB)|(right;simp;done)))
 have hn0:Has W0 w.heap.size 45 (aI x).toArray:=by rw[<-hW0];exact Has.new _ _ _
 have hoff:¬dN X M w.heap.size:=fun hf=>absurd (h.lt hf) (Nat.lt_irrefl _);have z0:W0.cell? ⟨w.heap.size,0,none⟩=some (.int .i64 x.k):=hn0.cell 0;have q2:W0.cell? ⟨X.mb,2,none⟩=some (.pointer (some ⟨X.sb,0,none⟩)):=(h.quiet hk0).cell (i:=2) rfl;have hpi:=FQ ((h.quiet hk0).c 2) hm.st.inv.ok;have hp3:=hm.st.inv.pl;have Qm:(x.k==11)=false:=by simpa using h11
 obtain⟨st,hst⟩:∃st,M.st.pins=st:=⟨_,rfl⟩;obtain⟨PA,Fb⟩:∃PA,bV st x.n=PA:=⟨_,rfl⟩;have hidx:=fun W A d (hW:Kept aj W0 W) (hs:Src W 3 A st.length (aS st))=>uT W A d st 171 (.pointer (some ⟨w.heap.size,0,none⟩)) (fun y=>decide (y.id=x.n)) (fun args W=>enters Tryz.func171 (by kernel_rfl) rfl args W) hs (by rw[<-hst];omega) (fun W2 y hW2 _=>Dw W2 y w.heap.size x ((hn0.kept hW (fun z=>z)).kept hW2 (fun z=>z)));have Fe:iF (fun y:aO=>decide (y.id=x.n)) st 0=PA:=Fb;simp only[Fe]at hidx;have hpi2:Calls Tryz.prog 35 #[.pointer (some ⟨X.sb,0,none⟩)] W0 (xu W0 st):=by rw[<-hst];exact hpi
 rw[hst,Fb]at h0;have hfin:∀W,Kept aj w W->dK w X M c (.tuple #[.int .i64 0,.int .i64 7]) M 1 (.returned (.tuple #[.int .i64 0,.int .i64 7])) W:=fun W hW=>⟨rfl,X,Step.refl h hW,hb.mono (Nat.le_succ _)⟩;have HF:=ah hfin;have vw:=ah hpi2;have HI:=ah hidx;have bf:=ah hk0;clear hfin hpi hpi2 hidx hk0 h hb hc hm hx hn0 hoff e1 e2 hst Fb Fe hp3;go_enter Tryz.func96,Tryz.ntmps96;go_wp2_with fail;clear z0 q2 hW0;refine vw.out.mono ?_;rintro e w2 ⟨A,d,rfl,hn,hk⟩;have hix:=HI.out w2 A d hk (Src.bF hn.1);have Nv:=ah hix;have aV:=ah (bf.out.then hk);clear hix hn hk vw;go_wp2_with fail;refine Nv.out.mono ?_;rintro e w3 ⟨rfl,hk⟩;have HF2:=ah (HF.out _ (aV.out.then hk));clear hk Nv;go_wp2;go_ret2;exact HF2.out
theorem SL(h:dJ w X M)(hb:dG X M.lg c)(hc:c<=4000)(hm:bC M k)(x:bD)(hx:jd w x)(h11:x.k≠11)(h12:x.k=12)(p:aO)(kk:Nat)(h0:bV M.st.pins x.n=(kk:Int))(hp:M.st.pins[kk]? =some p):
  Calls Tryz.prog 96 #[.pointer (some ⟨X.mb,0,none⟩),iE x] w (dK w X M c (.tuple #[.int .i64 (gW M x).1,.int .i64 (gW M x).2]) (dQ M x) 1):=by
 have hpm:p∈M.st.pins:=lC0 hp;have hpp:=hm.st.inv.pin p hpm;have hps:=hm.st.su.pin p hpm;have e1:dQ M x={writeM M (gZ p)with pins:=lV M.pins x.n}:=by unfold dQ;rw[if_neg h11,if_neg (by omega),h0,Int.toNat_natCast,hp];dsimp only;rw[if_pos h12]
 have e2:gW M x=(x.n,0):=by unfold gW;rw[if_neg h11,if_neg (by omega)]
 rw[e1,e2];obtain⟨W0,hW0⟩:∃W0,w.alloc (.cells (aI x).toArray 45)=W0:=⟨_,rfl⟩;have hk0:Kept aj w W0:=by rw[<-hW0];(repeat'(first|(with_reducible first|exact ak|apply au|apply ay|apply aA|apply aB)|(right;simp;done)))
 have hn0:Has W0 w.heap.size 45 (aI x).toArray:=by rw[<-hW0];exact Has.new _ _ _
 have hoff:¬dN X M w.heap.size:=fun hf=>absurd (h.lt hf) (Nat.lt_irrefl _);have z0:W0.cell? ⟨w.heap.size,0,none⟩=some (.int .i64 x.k):=hn0.cell 0;have q2:W0.cell? ⟨X.mb,2,none⟩=some (.pointer (some ⟨X.sb,0,none⟩)):=(h.quiet hk0).cell (i:=2) rfl;have hpi:=FQ ((h.quiet hk0).c 2) hm.st.inv.ok;have hp3:=hm.st.inv.pl;have Qm:(x.k==11)=false:=by simpa using h11
 obtain⟨st,hst⟩:∃st,M.st.pins=st:=⟨_,rfl⟩;obtain⟨PA,Fb⟩:∃PA,bV st x.n=PA:=⟨_,rfl⟩;have hidx:=fun W A d (hW:Kept aj W0 W) (hs:Src W 3 A st.length (aS st))=>uT W A d st 171 (.pointer (some ⟨w.heap.size,0,none⟩)) (fun y=>decide (y.id=x.n)) (fun args W=>enters Tryz.func171 (by kernel_rfl) rfl args W) hs (by rw[<-hst];omega) (fun W2 y hW2 _=>Dw W2 y w.heap.size x ((hn0.kept hW (fun z=>z)).kept hW2 (fun z=>z)));have Fe:iF (fun y:aO=>decide (y.id=x.n)) st 0=PA:=Fb;simp only[Fe]at hidx;have hpi2:Calls Tryz.prog 35 #[.pointer (some ⟨X.sb,0,none⟩)] W0 (xu W0 st):=by rw[<-hst];exact hpi
 rw[hst,Fb]at h0;rw[hst]at hp;subst h0;have hkl:kk<st.length:=(lD0.1 hp).1;have hk0':(0:Int)<=(kk:Int):=by omega
 have ahb:¬(kk:Int)<0:=by omega
 have z7:W0.cell? ⟨w.heap.size,7,none⟩=some (.int .i64 x.n):=hn0.cell 7;have hwr:∀W,Kept aj W0 W->Calls Tryz.prog 20 #[.pointer (some ⟨X.mb,0,none⟩),.agg (aK (gZ p)).toArray] W fun e w'=>(∃z,e=.returned (.int .i64 z))/\∃X',Step w X M w' X' (writeM M (gZ p))/\dG X' (writeM M (gZ p)).lg (c+1)/\Has w' w.heap.size 45 (aI x).toArray/\¬dN X' (writeM M (gZ p)) w.heap.size:=fun W hW=>by refine(write_any ((h.quiet hk0).quiet hW) hb hc hm.st.inv.ok (gZ p) (Jd _ _ _ _ _ _) (qC 6 0 p hps (by omega)) (Ql _ _)).mono ?_;rintro e w' ⟨rfl,X',h1,h2⟩;have h3:=h1.has (hn0.kept hW (fun z=>z)) hoff;exact⟨⟨_,rfl⟩,X',(Step.refl h (hk0.then hW)).trans h1,h2,h3.1,h3.2⟩
 have GV:=kT M (gZ p);obtain⟨M1,hM1⟩:∃M1,writeM M (gZ p)=M1:=⟨_,rfl⟩;simp only[hM1]at hwr;rw[hM1]at GV;simp only[gZ,dP,nt,aK,List.length_nil,jV]at hwr;obtain⟨Q,hQ⟩:∃Q,dK w X M c (.tuple #[.int .i64 x.n,.int .i64 0]) {writeM M (gZ p)with pins:=lV M.pins x.n} 1=Q:=⟨_,rfl⟩;have Fa:∀W X5,Step w X M W X5 {M1 with pins:=lV M.pins x.n}->dG X5 M1.lg (c+1)->Q (.returned (.tuple #[.int .i64 x.n,.int .i64 0])) W:=fun W X5 h1 h2=>by rw[<-hQ,hM1];exact⟨rfl,X5,h1,h2⟩
 have e3:dK w X M c (.tuple #[.int .i64 (x.n,(0:Int)).1,.int .i64 (x.n,(0:Int)).2]) {writeM M (gZ p)with pins:=lV M.pins x.n} 1=Q:=hQ;rw[e3];have ZE:=ah Fa;have xM:=ah GV;have HW:=ah hwr;have vw:=ah hpi2;have HI:=ah hidx;have bf:=ah hk0;have HP:=ah hp;have dW:=ah hn0;have BD:=ah hm.p3;clear hpi hpi2 hidx hk0 h hb hc hm hx hn0 hoff e1 e2 e3 hst Fb Fe hp3 Fa GV hwr hQ hM1 hp hpm hpp hps;go_enter Tryz.func96,Tryz.ntmps96;go_wp2_with fail;refine vw.out.mono ?_;rintro e w2 ⟨A,d,rfl,hn,hk⟩;have hix:=HI.out w2 A d hk (Src.bF hn.1);have Nv:=ah hix;have aV:=ah hk;have dV:=ah hn;clear hix hn hk vw;have b2:∀W,Kept aj W0 W->True:=fun _ _=>trivial;clear b2;clear z0 q2 z7;go_wp2_with fail;refine Nv.out.mono ?_;rintro e w3 ⟨rfl,hk⟩;have hk3:=aV.out.then hk;obtain⟨ad,rfl,had,x0,x1,x2⟩:=iL (Src.bF (aF.kept dV.out hk).1) (by omega) kk p HP.out;have z0:w3.cell? ⟨w.heap.size,0,none⟩=some (.int .i64 x.k):=(dW.out.kept hk3 (fun z=>z)).cell 0;have z7:w3.cell? ⟨w.heap.size,7,none⟩=some (.int .i64 x.n):=(dW.out.kept hk3 (fun z=>z)).cell 7;have hwr:=HW.out w3 hk3;have qU:=ah hwr;clear hwr hk hk3 Nv HW;go_wp2_with fail;clear z0 z7 x0 x1 x2;refine qU.out.mono ?_;rintro e w5 ⟨⟨zw,rfl⟩,X5,s5,hlb,kG,uO⟩;have z3:w5.cell? ⟨X.mb,3,none⟩=some (.slice X5.pA M.pins.length X5.pc):=by have:=s5.at'.cell (i:=3) (v:=.slice X5.pA M1.pins.length X5.pc) rfl;rw[s5.mb,xM.out]at this;exact this
 have f3:w5.frozen? ⟨X.mb,3,none⟩=false:=by have:=Has.frozen (s5.at'.c 0) 3;rw[s5.mb]at this;exact this
 have p7:w5.cell? ⟨w.heap.size,7,none⟩=some (.int .i64 x.n):=kG.cell 7;have hsrc:Src w5 3 X5.pA M.pins.length (aS M.pins):=by have:=Src.bF (s5.at'.c 3);rw[xM.out]at this;exact this
 have hcap:M.pins.length<=X5.pc:=by have:=(gJ (s5.at'.c 3)).1;rw[xM.out]at this;exact this
 have hgr:∀W,Kept aj w5 W->_:=fun W hW=>VN W X5.pA X5.pc M.pins x.n (hsrc.kept hW (fun _ _ z=>z)) hcap (by have:=BD.out;omega);have hz3:∀W,Kept aj w5 W->W.cell? ⟨X.mb,3,none⟩=some (.slice X5.pA M.pins.length X5.pc)/\W.frozen? ⟨X.mb,3,none⟩=false/\W.cell? ⟨w.heap.size,7,none⟩=some (.int .i64 x.n):=fun W hW=>by
  refine⟨?_,?_,(kG.kept hW (fun z=>z)).cell 7⟩
  ·have:=(s5.at'.quiet hW).cell (i:=3) (v:=.slice X5.pA M1.pins.length X5.pc) rfl;rw[s5.mb,xM.out]at this;exact this
  ·have:=Has.frozen ((s5.at'.quiet hW).c 0) 3;rw[s5.mb]at this;exact this
 have Ed:=ah hgr;have HZ3:=ah hz3;have pN:=ah s5;have jP:=ah hlb;have uP:=ah kG;have ZF:=ah uO;clear hgr hz3 s5 hlb kG uO hsrc hcap;go_wp2_with fail;go_region_with (go_at_call 151;refine(Ed.out _ (by(repeat'(first|(with_reducible first|exact ak|apply au|apply ay|apply aA|apply aB)|(right;simp;done))))).mono ?_;rintro e w6 ⟨A6,c6,zz,rfl,ET,hk6⟩;have hkk:=Kept.then (F:=aj) (a:=w5) (by(repeat'(first|(with_reducible first|exact ak|apply au|apply ay|apply aA|apply aB)|(right;simp;done)))) hk6;obtain⟨z6,f6,p6⟩:=HZ3.out _ hkk;have yC:=ah ET;have kQ:=ah hkk;clear ET hk6 hkk)
 all_goals (
  clear z6 f6 z3 f3 p7
  have hne:¬X.mb=w.heap.size:=fun e=>ZF.out ⟨0,by rw[<-pN.out.mb]at e;exact e.symm⟩
  have hs6:=Step.BZ (pN.out.quiet kQ.out) yC.out.1 (fun k hk=>by have h1:=yC.out.2 k hk;have h2:=pN.out.k.size;have h3:w5.heap.size<=k:=h1;exact⟨Nat.le_trans h2 h3,fun hf=>by have:=pN.out.at'.lt hf;omega⟩)
  rw[pN.out.mb]at hs6
  have HF:=ah (ZE.out _ _ hs6 ⟨jP.out.n,jP.out.f,jP.out.l,jP.out.hd⟩)
  clear hs6
  go_wp2
  exact HF.out)
theorem VR(h:dJ w X M)(hb:dG X M.lg c)(hc:c<=4000)(hm:bC M k)(x:bD)(hx:jd w x)(h11:x.k≠11)(h12:x.k≠12)(p:aO)(kk:Nat)(h0:bV M.st.pins x.n=(kk:Int))(hp:M.st.pins[kk]? =some p):
  Calls Tryz.prog 96 #[.pointer (some ⟨X.mb,0,none⟩),iE x] w (dK w X M c (.tuple #[.int .i64 (gW M x).1,.int .i64 (gW M x).2]) (dQ M x) 1):=by
 have hpm:p∈M.st.pins:=lC0 hp;have hpp:=hm.st.inv.pin p hpm;have hps:=hm.st.su.pin p hpm;have e1:dQ M x={writeM M (dP x.n)with pins:=lS M.pins x.n}:=by unfold dQ;rw[if_neg h11,if_neg (by omega),h0,Int.toNat_natCast,hp];dsimp only;rw[if_neg h12]
 have e2:gW M x=(x.n,0):=by unfold gW;rw[if_neg h11,if_neg (by omega)]
 rw[e1,e2];obtain⟨W0,hW0⟩:∃W0,w.alloc (.cells (aI x).toArray 45)=W0:=⟨_,rfl⟩;have hk0:Kept aj w W0:=by rw[<-hW0];(repeat'(first|(with_reducible first|exact ak|apply au|apply ay|apply aA|apply aB)|(right;simp;done)))
 have hn0:Has W0 w.heap.size 45 (aI x).toArray:=by rw[<-hW0];exact Has.new _ _ _
 have hoff:¬dN X M w.heap.size:=fun hf=>absurd (h.lt hf) (Nat.lt_irrefl _);have z0:W0.cell? ⟨w.heap.size,0,none⟩=some (.int .i64 x.k):=hn0.cell 0;have q2:W0.cell? ⟨X.mb,2,none⟩=some (.pointer (some ⟨X.sb,0,none⟩)):=(h.quiet hk0).cell (i:=2) rfl;have hpi:=FQ ((h.quiet hk0).c 2) hm.st.inv.ok;have hp3:=hm.st.inv.pl;have Qm:(x.k==11)=false:=by simpa using h11
 obtain⟨st,hst⟩:∃st,M.st.pins=st:=⟨_,rfl⟩;obtain⟨PA,Fb⟩:∃PA,bV st x.n=PA:=⟨_,rfl⟩;have hidx:=fun W A d (hW:Kept aj W0 W) (hs:Src W 3 A st.length (aS st))=>uT W A d st 171 (.pointer (some ⟨w.heap.size,0,none⟩)) (fun y=>decide (y.id=x.n)) (fun args W=>enters Tryz.func171 (by kernel_rfl) rfl args W) hs (by rw[<-hst];omega) (fun W2 y hW2 _=>Dw W2 y w.heap.size x ((hn0.kept hW (fun z=>z)).kept hW2 (fun z=>z)));have Fe:iF (fun y:aO=>decide (y.id=x.n)) st 0=PA:=Fb;simp only[Fe]at hidx;have hpi2:Calls Tryz.prog 35 #[.pointer (some ⟨X.sb,0,none⟩)] W0 (xu W0 st):=by rw[<-hst];exact hpi
 rw[hst,Fb]at h0;rw[hst]at hp;subst h0;have hkl:kk<st.length:=(lD0.1 hp).1;have hk0':(0:Int)<=(kk:Int):=by omega
 have ahb:¬(kk:Int)<0:=by omega
 have z7:W0.cell? ⟨w.heap.size,7,none⟩=some (.int .i64 x.n):=hn0.cell 7;have hwr:∀W,Kept aj W0 W->Calls Tryz.prog 20 #[.pointer (some ⟨X.mb,0,none⟩),.agg (aK (dP x.n)).toArray] W fun e w'=>(∃z,e=.returned (.int .i64 z))/\∃X',Step w X M w' X' (writeM M (dP x.n))/\dG X' (writeM M (dP x.n)).lg (c+1)/\Has w' w.heap.size 45 (aI x).toArray/\¬dN X' (writeM M (dP x.n)) w.heap.size:=fun W hW=>by refine(write_any ((h.quiet hk0).quiet hW) hb hc hm.st.inv.ok (dP x.n) (Jd _ _ _ _ _ _) (qC 7 x.n ⟨0,0,0⟩ (by decide) (by decide)) (JH _ _)).mono ?_;rintro e w' ⟨rfl,X',h1,h2⟩;have h3:=h1.has (hn0.kept hW (fun z=>z)) hoff;exact⟨⟨_,rfl⟩,X',(Step.refl h (hk0.then hW)).trans h1,h2,h3.1,h3.2⟩
 have GV:=kT M (dP x.n);obtain⟨M1,hM1⟩:∃M1,writeM M (dP x.n)=M1:=⟨_,rfl⟩;simp only[hM1]at hwr;rw[hM1]at GV;simp only[gZ,dP,nt,aK,List.length_nil,jV]at hwr;obtain⟨Q,hQ⟩:∃Q,dK w X M c (.tuple #[.int .i64 x.n,.int .i64 0]) {writeM M (dP x.n)with pins:=lS M.pins x.n} 1=Q:=⟨_,rfl⟩;have Fa:∀W X5,Step w X M W X5 {M1 with pins:=lS M.pins x.n}->dG X5 M1.lg (c+1)->Q (.returned (.tuple #[.int .i64 x.n,.int .i64 0])) W:=fun W X5 h1 h2=>by rw[<-hQ,hM1];exact⟨rfl,X5,h1,h2⟩
 have e3:dK w X M c (.tuple #[.int .i64 (x.n,(0:Int)).1,.int .i64 (x.n,(0:Int)).2]) {writeM M (dP x.n)with pins:=lS M.pins x.n} 1=Q:=hQ;rw[e3];have ZE:=ah Fa;have xM:=ah GV;have HW:=ah hwr;have vw:=ah hpi2;have HI:=ah hidx;have bf:=ah hk0;have HP:=ah hp;have dW:=ah hn0;have BD:=ah hm.p3;clear hpi hpi2 hidx hk0 h hb hc hm hx hn0 hoff e1 e2 e3 hst Fb Fe hp3 Fa GV hwr hQ hM1 hp hpm hpp hps;go_enter Tryz.func96,Tryz.ntmps96;go_wp2_with fail;refine vw.out.mono ?_;rintro e w2 ⟨A,d,rfl,hn,hk⟩;have hix:=HI.out w2 A d hk (Src.bF hn.1);have Nv:=ah hix;have aV:=ah hk;have dV:=ah hn;clear hix hn hk vw;have b2:∀W,Kept aj W0 W->True:=fun _ _=>trivial;clear b2;clear z0 q2 z7;go_wp2_with fail;refine Nv.out.mono ?_;rintro e w3 ⟨rfl,hk⟩;have hk3:=aV.out.then hk;obtain⟨ad,rfl,had,x0,x1,x2⟩:=iL (Src.bF (aF.kept dV.out hk).1) (by omega) kk p HP.out;have z0:w3.cell? ⟨w.heap.size,0,none⟩=some (.int .i64 x.k):=(dW.out.kept hk3 (fun z=>z)).cell 0;have z7:w3.cell? ⟨w.heap.size,7,none⟩=some (.int .i64 x.n):=(dW.out.kept hk3 (fun z=>z)).cell 7;have hwr:=HW.out w3 hk3;have qU:=ah hwr;clear hwr hk hk3 Nv HW;go_wp2_with fail;clear z0 z7 x0 x1 x2;refine qU.out.mono ?_;rintro e w5 ⟨⟨zw,rfl⟩,X5,s5,hlb,kG,uO⟩;have z3:w5.cell? ⟨X.mb,3,none⟩=some (.slice X5.pA M.pins.length X5.pc):=by have:=s5.at'.cell (i:=3) (v:=.slice X5.pA M1.pins.length X5.pc) rfl;rw[s5.mb,xM.out]at this;exact this
 have f3:w5.frozen? ⟨X.mb,3,none⟩=false:=by have:=Has.frozen (s5.at'.c 0) 3;rw[s5.mb]at this;exact this
 have p7:w5.cell? ⟨w.heap.size,7,none⟩=some (.int .i64 x.n):=kG.cell 7;have hsrc:Src w5 3 X5.pA M.pins.length (aS M.pins):=by have:=Src.bF (s5.at'.c 3);rw[xM.out]at this;exact this
 have hcap:M.pins.length<=X5.pc:=by have:=(gJ (s5.at'.c 3)).1;rw[xM.out]at this;exact this
 have hgr:∀W,Kept aj w5 W->_:=fun W hW=>ZI W X5.pA X5.pc M.pins x.n (hsrc.kept hW (fun _ _ z=>z)) (by have:=BD.out;omega);have hz3:∀W,Kept aj w5 W->W.cell? ⟨X.mb,3,none⟩=some (.slice X5.pA M.pins.length X5.pc)/\W.frozen? ⟨X.mb,3,none⟩=false/\W.cell? ⟨w.heap.size,7,none⟩=some (.int .i64 x.n):=fun W hW=>by
  refine⟨?_,?_,(kG.kept hW (fun z=>z)).cell 7⟩
  ·have:=(s5.at'.quiet hW).cell (i:=3) (v:=.slice X5.pA M1.pins.length X5.pc) rfl;rw[s5.mb,xM.out]at this;exact this
  ·have:=Has.frozen ((s5.at'.quiet hW).c 0) 3;rw[s5.mb]at this;exact this
 have Ed:=ah hgr;have HZ3:=ah hz3;have pN:=ah s5;have jP:=ah hlb;have uP:=ah kG;have ZF:=ah uO;clear hgr hz3 s5 hlb kG uO hsrc hcap;go_wp2_with fail;go_region_with (go_at_call 84;refine(Ed.out _ (by(repeat'(first|(with_reducible first|exact ak|apply au|apply ay|apply aA|apply aB)|(right;simp;done))))).mono ?_;rintro e w6 ⟨A6,c6,zz,rfl,ET,hk6⟩;have hkk:=Kept.then (F:=aj) (a:=w5) (by(repeat'(first|(with_reducible first|exact ak|apply au|apply ay|apply aA|apply aB)|(right;simp;done)))) hk6;obtain⟨z6,f6,p6⟩:=HZ3.out _ hkk;have yC:=ah ET;have kQ:=ah hkk;clear ET hk6 hkk)
 all_goals (
  clear z6 f6 z3 f3 p7
  have hne:¬X.mb=w.heap.size:=fun e=>ZF.out ⟨0,by rw[<-pN.out.mb]at e;exact e.symm⟩
  have hs6:=Step.BZ (pN.out.quiet kQ.out) yC.out.1 (fun k hk=>by have h1:=yC.out.2 k hk;have h2:=pN.out.k.size;have h3:w5.heap.size<=k:=h1;exact⟨Nat.le_trans h2 h3,fun hf=>by have:=pN.out.at'.lt hf;omega⟩)
  rw[pN.out.mb]at hs6
  have HF:=ah (ZE.out _ _ hs6 ⟨jP.out.n,jP.out.f,jP.out.l,jP.out.hd⟩)
  clear hs6
  go_wp2
  exact HF.out)
theorem VT(h:dJ w X M)(hb:dG X M.lg c)(hc:c<=4000)(hm:bC M k)(x:bD)(hx:jd w x):
  Calls Tryz.prog 96 #[.pointer (some ⟨X.mb,0,none⟩),iE x] w (dK w X M c (.tuple #[.int .i64 (gW M x).1,.int .i64 (gW M x).2]) (dQ M x) 1):=by
 by_cases h11:x.k=11
 ·exact ZJ h hb hc hm x hx h11
 ·rcases jE M.st.pins x.n with h0|⟨kk,p,h0,hp,-⟩
  ·exact VQ h hb hc hm x hx h11 (by omega)
  ·by_cases h12:x.k=12
   ·exact SL h hb hc hm x hx h11 h12 p kk h0 hp
   ·exact VR h hb hc hm x hx h11 h12 p kk h0 hp
