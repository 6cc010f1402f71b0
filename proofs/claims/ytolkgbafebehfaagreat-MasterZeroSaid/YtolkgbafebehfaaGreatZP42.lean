/- Part 43 of what the proof needs. -/
import Derived.Test.YtolkgbafebehfaaGreatZP41
set_option linter.unusedSimpArgs false
set_option linter.unusedVariables false
set_option maxHeartbeats 32000000
set_option maxRecDepth 100000
namespace Go.Proofs.YtolkgbafebehfaaGreat
open Go.RowKit
set_option maxRecDepth 100000
namespace dM
open aP Vn Mst lJ IM nG gX
def jr(n:Int):aN:=nt 7 n ⟨0,0,0⟩ ⟨0,0,[]⟩
def mG(l:List aZ)(id:Int):List aZ:=if fG l id<0 then []else jG l id
def oP(l:List aZ)(id:Int):List aZ:=if fG l id<0 then []else freed l id
def gV(M:MR)(x:bH):MR:=
 if x.k=11 then rV M x.at' else
 match(if fG M.st.pins x.n<0 then none else M.st.pins[(fG M.st.pins x.n).toNat]?)with
 |none=>M
 |some p=>if x.k=12 then {writeM M (ji p)with pins:=mG M.pins x.n}else{writeM M (jr x.n)with pins:=oP M.pins x.n}
def fM(M:MR)(x:bH):Int×Int:=if x.k=11 then pK M x.at' else if fG M.st.pins x.n<0 then (0,7)else(x.n,0)
section
variable{w w':World}{X X0:MX}{M M0:MR}{c k:Nat}
theorem P6(l:List aZ)(id:Int):(mG l id).length<=l.length:=by
 unfold mG
 split
 ·exact Nat.zero_le _
 ·rw[nI];exact Nat.le_refl _
theorem UC{l:List aZ}{id:Int}{p:aZ}(h:p∈oP l id):p∈l:=by
 unfold oP at h
 split at h
 ·cases h
 ·unfold freed at h
  split at h
  ·exact h
  ·exact List.mem_of_mem_eraseIdx h
theorem UD(l:List aZ)(id:Int):(oP l id).length<=l.length:=by
 unfold oP
 split
 ·exact Nat.zero_le _
 ·unfold freed
  split
  ·exact Nat.le_refl _
  ·rw[List.length_eraseIdx];split<;>omega
theorem P7(w:World)(A:Option Addr)(c:Nat)(l:List aZ)(id:Int)(hl:Src w 3 A l.length (aK l))(hlc:l.length<=c)(hlen:l.length<=1000000):
  Calls Tryz.prog 231 #[.slice A l.length c,.int .i64 id] w fun e w'=>∃A' c' z,e=.returned (.tuple #[.slice A' (mG l id).length c',.int .i64 z])/\aF 79 3 w.heap.size w' A' (mG l id).length c' (aK (mG l id))/\Kept aj w w':=by
 refine(Gh w A c l id hl hlc hlen).mono ?_
 rintro e w' (⟨h0,rfl,hk⟩|⟨h0,A',c',rfl,hn,hk⟩)
 ·have e1:mG l id=[]:=if_pos h0
  rw[e1]
  exact⟨none,0,_,rfl,aF.nil _ _ _ _,hk⟩
 ·have e1:mG l id=jG l id:=if_neg (by omega)
  rw[e1]
  exact⟨A',c',_,rfl,hn,hk⟩
theorem UE(w:World)(A:Option Addr)(c:Nat)(l:List aZ)(id:Int)(hl:Src w 3 A l.length (aK l))(hlen:l.length<=1000000):
  Calls Tryz.prog 136 #[.slice A l.length c,.int .i64 id] w fun e w'=>∃A' c' z,e=.returned (.tuple #[.slice A' (oP l id).length c',.int .i64 z])/\aF 79 3 w.heap.size w' A' (oP l id).length c' (aK (oP l id))/\Kept aj w w':=by
 refine(Dw w A c l id hl hlen).mono ?_
 rintro e w' (⟨h0,rfl,hk⟩|⟨h0,A',c',rfl,hn,hk⟩)
 ·have e1:oP l id=[]:=if_pos h0
  rw[e1]
  exact⟨none,0,_,rfl,aF.nil _ _ _ _,hk⟩
 ·have e1:oP l id=freed l id:=if_neg (by omega)
  rw[e1]
  exact⟨A',c',_,rfl,hn,hk⟩
theorem P8{l:List aZ}{id:Int}{p:aZ}(h:p∈mG l id):p∈l\/∃q∈l,p=⟨id,q.at',8⟩:=by
 unfold mG at h
 split at h
 ·cases h
 ·exact C4 h
theorem bQ.XC(h:bQ M k){l:List aZ}(h3:l.length<=3)(hp:∀p∈l,0<=p.left/\p.left<=8/\0<=p.at'/\p.at'<=aT):bQ {M with pins:=l} k:=⟨h.st,h3,hp,h.sF,h.last,h.marks,h.iP,h.cnt⟩
theorem C9(M:MR)(x:aN):(writeM M x).pins=M.pins:=by unfold writeM;split<;>rfl
theorem bQ.gV{w:World}(h:bQ M k)(x:bH)(hok:iG w x):bQ (dM.gV M x) k:=by
 unfold dM.gV
 split
 ·exact h.rV _ hok.t.1
 ·split
  ·exact h
  ·rename_i p hp
   have hpm:p∈M.st.pins:=by
    split at hp
    ·cases hp
    ·exact List.mem_of_getElem? hp
   have hpi:=h.st.inv.pin p hpm
   have hps:=h.st.su.pin p hpm
   split
   ·refine(h.write (tK 6 0 p hps (by omega))).XC (Nat.le_trans (P6 _ _) h.p3) (fun q hq=> ?_)
    rcases P8 hq with y|⟨r,hr,rfl⟩
    ·exact h.pin q y
    ·have:=h.pin r hr;exact⟨by show(0:Int)<=8;decide,by show(8:Int)<=8;decide,this.2.2⟩
   ·exact(h.write (tK 7 x.n ⟨0,0,0⟩ (by decide) (by decide))).XC (Nat.le_trans (UD _ _) h.p3) (fun q hq=>h.pin q (UC hq))
theorem P9(M:MR)(x:bH):(gV M x).out=M.out:=by
 unfold gV
 split
 ·exact XB _ _
 ·split
  ·rfl
  ·split<;>exact oh _ _
theorem ES(F:Nat->Prop)(n:Int):FM F (jr n):=⟨fun h=>absurd h (Nat.lt_irrefl _),fun h=>absurd h (Nat.lt_irrefl _),fun h=>absurd h (Nat.lt_irrefl _)⟩
theorem zA(w:World)(p:aZ)(b:Nat)(x:bH)(hb:Has w b 46 (aG x).toArray):
  Calls Tryz.prog 250 #[yQ p,.pointer (some ⟨b,0,none⟩)] w fun e w'=>e=.returned (.bool (decide (p.id=x.n)))/\Kept aj w w':=by
 have c0:=(hb.alloc (.cells #[.int .i64 p.id,.int .u64 p.at',.int .i64 p.left] 79)).cell 7
 simp only[aG,List.getElem?_toArray,List.getElem?_cons_zero,List.getElem?_cons_succ]at c0
 clear hb
 go_enter Tryz.func250,Tryz.ntmps250
 go_wp2
 go_ret
 exact⟨rfl,by(repeat'(first|(with_reducible first|exact ak|apply au|apply ay|apply aA|apply aB)|(right;simp;done)))⟩
theorem UF(h:dG w X M)(hb:cZ X M.lg c)(hc:c<=4000)(hm:bQ M k)(x:bH)(hx:iG w x)(h11:x.k=11):
  Calls Tryz.prog 144 #[.pointer (some ⟨X.mb,0,none⟩),eH x] w (dK w X M c (.tuple #[.int .i64 (fM M x).1,.int .i64 (fM M x).2]) (gV M x) 1):=by
 have e1:gV M x=rV M x.at':=if_pos h11
 have e2:fM M x=pK M x.at':=if_pos h11
 rw[e1,e2]
 obtain⟨W0,hW0⟩:∃W0,w.alloc (.cells (aG x).toArray 46)=W0:=⟨_,rfl⟩
 have hk0:Kept aj w W0:=by rw[<-hW0];(repeat'(first|(with_reducible first|exact ak|apply au|apply ay|apply aA|apply aB)|(right;simp;done)))
 have hn0:Has W0 w.heap.size 46 (aG x).toArray:=by rw[<-hW0];exact Has.new _ _ _
 have hoff:¬dU X M w.heap.size:=fun hf=>absurd (h.lt hf) (Nat.lt_irrefl _)
 have z0:W0.cell? ⟨w.heap.size,0,none⟩=some (.int .i64 x.k):=hn0.cell 0
 have z5:W0.cell? ⟨w.heap.size,5,none⟩=some (.int .u64 x.at'):=hn0.cell 5
 have hp:Calls Tryz.prog 248 #[.pointer (some ⟨X.mb,0,none⟩),.int .u64 x.at'] W0 fun e w'=>e=.returned (.tuple #[.int .i64 (pK M x.at').1,.int .i64 (pK M x.at').2])/\dK w X M c (.tuple #[.int .i64 (pK M x.at').1,.int .i64 (pK M x.at').2]) (rV M x.at') 1 (.returned (.tuple #[.int .i64 (pK M x.at').1,.int .i64 (pK M x.at').2])) w':=by
  refine(Fj (h.quiet hk0) hb hc hm x.at' hx.t.1).mono ?_
  rintro e w' ⟨rfl,X',hs,hl⟩
  exact⟨rfl,rfl,X',(Step.refl h hk0).trans hs,hl⟩
 rw[h11]at z0
 have HP:=ah hp
 clear hp e1 e2 h hb hc hm hx hn0 hk0 hoff
 obtain⟨v1,hv1⟩:∃v1,(pK M x.at').1=v1:=⟨_,rfl⟩
 obtain⟨v2,hv2⟩:∃v2,(pK M x.at').2=v2:=⟨_,rfl⟩
 rw[hv1,hv2]at HP⊢
 clear hv1 hv2
 go_enter Tryz.func144,Tryz.ntmps144
 go_wp2_with fail
 clear z0 z5 hW0
 refine HP.out.mono ?_
 rintro e w2 ⟨rfl,hq⟩
 have HQ:=ah hq;clear hq HP
 go_wp2
 go_ret2
 exact HQ.out
theorem Qa(h:dG w X M)(hb:cZ X M.lg c)(hc:c<=4000)(hm:bQ M k)(x:bH)(hx:iG w x)(h11:x.k≠11)(h0:fG M.st.pins x.n<0):
  Calls Tryz.prog 144 #[.pointer (some ⟨X.mb,0,none⟩),eH x] w (dK w X M c (.tuple #[.int .i64 (fM M x).1,.int .i64 (fM M x).2]) (gV M x) 1):=by
 have e1:gV M x=M:=by unfold gV;rw[if_neg h11,if_pos h0]
 have e2:fM M x=(0,7):=by unfold fM;rw[if_neg h11,if_pos h0]
 rw[e1,e2]
 obtain⟨W0,hW0⟩:∃W0,w.alloc (.cells (aG x).toArray 46)=W0:=⟨_,rfl⟩
 have hk0:Kept aj w W0:=by rw[<-hW0];(repeat'(first|(with_reducible first|exact ak|apply au|apply ay|apply aA|apply aB)|(right;simp;done)))
 have hn0:Has W0 w.heap.size 46 (aG x).toArray:=by rw[<-hW0];exact Has.new _ _ _
 have hoff:¬dU X M w.heap.size:=fun hf=>absurd (h.lt hf) (Nat.lt_irrefl _)
 have z0:W0.cell? ⟨w.heap.size,0,none⟩=some (.int .i64 x.k):=hn0.cell 0
 have q2:W0.cell? ⟨X.mb,2,none⟩=some (.pointer (some ⟨X.sb,0,none⟩)):=(h.quiet hk0).cell (i:=2) rfl
 have hpi:=Fp ((h.quiet hk0).c 2) hm.st.inv.ok
 have hp3:=hm.st.inv.pl
 have abl:(x.k==11)=false:=by simpa using h11
 obtain⟨st,hst⟩:∃st,M.st.pins=st:=⟨_,rfl⟩
 obtain⟨PA,BD⟩:∃PA,fG st x.n=PA:=⟨_,rfl⟩
 have hidx:=fun W A d (hW:Kept aj W0 W) (hs:Src W 3 A st.length (aK st))=>ru W A d st 250 (.pointer (some ⟨w.heap.size,0,none⟩)) (fun y=>decide (y.id=x.n)) (fun args W=>enters Tryz.func250 (by kernel_rfl) rfl args W) hs (by rw[<-hst];omega) (fun W2 y hW2 _=>zA W2 y w.heap.size x ((hn0.kept hW (fun z=>z)).kept hW2 (fun z=>z)))
 have BF:iq (fun y:aZ=>decide (y.id=x.n)) st 0=PA:=BD
 simp only[BF]at hidx
 have hpi2:Calls Tryz.prog 55 #[.pointer (some ⟨X.sb,0,none⟩)] W0 (wC W0 st):=by rw[<-hst];exact hpi
 rw[hst,BD]at h0
 have hfin:∀W,Kept aj w W->dK w X M c (.tuple #[.int .i64 0,.int .i64 7]) M 1 (.returned (.tuple #[.int .i64 0,.int .i64 7])) W:=fun W hW=>⟨rfl,X,Step.refl h hW,hb.mono (Nat.le_succ _)⟩
 have HF:=ah hfin;have uY:=ah hpi2;have HI:=ah hidx;have aW:=ah hk0
 clear hfin hpi hpi2 hidx hk0 h hb hc hm hx hn0 hoff e1 e2 hst BD BF hp3
 go_enter Tryz.func144,Tryz.ntmps144
 go_wp2_with fail
 clear z0 q2 hW0
 refine uY.out.mono ?_
 rintro e w2 ⟨A,d,rfl,hn,hk⟩
 have hix:=HI.out w2 A d hk (Src.bC hn.1)
 have Hf:=ah hix;have aQ:=ah (aW.out.then hk);clear hix hn hk uY
 go_wp2_with fail
 refine Hf.out.mono ?_
 rintro e w3 ⟨rfl,hk⟩
 have HF2:=ah (HF.out _ (aQ.out.then hk));clear hk Hf
 go_wp2
 go_ret2
 exact HF2.out
theorem Na(h:dG w X M)(hb:cZ X M.lg c)(hc:c<=4000)(hm:bQ M k)(x:bH)(hx:iG w x)(h11:x.k≠11)(h12:x.k=12)(p:aZ)(kk:Nat)(h0:fG M.st.pins x.n=(kk:Int))(hp:M.st.pins[kk]? =some p):
  Calls Tryz.prog 144 #[.pointer (some ⟨X.mb,0,none⟩),eH x] w (dK w X M c (.tuple #[.int .i64 (fM M x).1,.int .i64 (fM M x).2]) (gV M x) 1):=by
 have hpm:p∈M.st.pins:=List.mem_of_getElem? hp
 have hpp:=hm.st.inv.pin p hpm
 have hps:=hm.st.su.pin p hpm
 have e1:gV M x={writeM M (ji p)with pins:=mG M.pins x.n}:=by unfold gV;rw[if_neg h11,if_neg (by omega),h0,Int.toNat_natCast,hp];dsimp only;rw[if_pos h12]
 have e2:fM M x=(x.n,0):=by unfold fM;rw[if_neg h11,if_neg (by omega)]
 rw[e1,e2]
 obtain⟨W0,hW0⟩:∃W0,w.alloc (.cells (aG x).toArray 46)=W0:=⟨_,rfl⟩
 have hk0:Kept aj w W0:=by rw[<-hW0];(repeat'(first|(with_reducible first|exact ak|apply au|apply ay|apply aA|apply aB)|(right;simp;done)))
 have hn0:Has W0 w.heap.size 46 (aG x).toArray:=by rw[<-hW0];exact Has.new _ _ _
 have hoff:¬dU X M w.heap.size:=fun hf=>absurd (h.lt hf) (Nat.lt_irrefl _)
 have z0:W0.cell? ⟨w.heap.size,0,none⟩=some (.int .i64 x.k):=hn0.cell 0
 have q2:W0.cell? ⟨X.mb,2,none⟩=some (.pointer (some ⟨X.sb,0,none⟩)):=(h.quiet hk0).cell (i:=2) rfl
 have hpi:=Fp ((h.quiet hk0).c 2) hm.st.inv.ok
 have hp3:=hm.st.inv.pl
 have abl:(x.k==11)=false:=by simpa using h11
 obtain⟨st,hst⟩:∃st,M.st.pins=st:=⟨_,rfl⟩
 obtain⟨PA,BD⟩:∃PA,fG st x.n=PA:=⟨_,rfl⟩
 have hidx:=fun W A d (hW:Kept aj W0 W) (hs:Src W 3 A st.length (aK st))=>ru W A d st 250 (.pointer (some ⟨w.heap.size,0,none⟩)) (fun y=>decide (y.id=x.n)) (fun args W=>enters Tryz.func250 (by kernel_rfl) rfl args W) hs (by rw[<-hst];omega) (fun W2 y hW2 _=>zA W2 y w.heap.size x ((hn0.kept hW (fun z=>z)).kept hW2 (fun z=>z)))
 have BF:iq (fun y:aZ=>decide (y.id=x.n)) st 0=PA:=BD
 simp only[BF]at hidx
 have hpi2:Calls Tryz.prog 55 #[.pointer (some ⟨X.sb,0,none⟩)] W0 (wC W0 st):=by rw[<-hst];exact hpi
 rw[hst,BD]at h0
 rw[hst]at hp
 subst h0
 have hkl:kk<st.length:=(List.getElem?_eq_some_iff.1 hp).1
 have hk0':(0:Int)<=(kk:Int):=by omega
 have ab6:¬(kk:Int)<0:=by omega
 have z7:W0.cell? ⟨w.heap.size,7,none⟩=some (.int .i64 x.n):=hn0.cell 7
 have hwr:∀W,Kept aj W0 W->Calls Tryz.prog 44 #[.pointer (some ⟨X.mb,0,none⟩),.agg (aH (ji p)).toArray] W fun e w'=>(∃z,e=.returned (.int .i64 z))/\∃X',Step w X M w' X' (writeM M (ji p))/\cZ X' (writeM M (ji p)).lg (c+1)/\Has w' w.heap.size 46 (aG x).toArray/\¬dU X' (writeM M (ji p)) w.heap.size:=fun W hW=>by
  refine(write_any ((h.quiet hk0).quiet hW) hb hc hm.st.inv.ok (ji p) (Ej _ _ _ _ _ _) (tK 6 0 p hps (by omega)) (KF _ _)).mono ?_
  rintro e w' ⟨rfl,X',h1,h2⟩
  have h3:=h1.has (hn0.kept hW (fun z=>z)) hoff
  exact⟨⟨_,rfl⟩,X',(Step.refl h (hk0.then hW)).trans h1,h2,h3.1,h3.2⟩
 have C6:=C9 M (ji p)
 obtain⟨M1,hM1⟩:∃M1,writeM M (ji p)=M1:=⟨_,rfl⟩
 simp only[hM1]at hwr
 rw[hM1]at C6
 simp only[ji,jr,nt,aH,List.length_nil,lF]at hwr
 obtain⟨Q,hQ⟩:∃Q,dK w X M c (.tuple #[.int .i64 x.n,.int .i64 0]) {writeM M (ji p)with pins:=mG M.pins x.n} 1=Q:=⟨_,rfl⟩
 have BA:∀W X5,Step w X M W X5 {M1 with pins:=mG M.pins x.n}->cZ X5 M1.lg (c+1)->Q (.returned (.tuple #[.int .i64 x.n,.int .i64 0])) W:=fun W X5 h1 h2=>by
  rw[<-hQ,hM1]
  exact⟨rfl,X5,h1,h2⟩
 have e3:dK w X M c (.tuple #[.int .i64 (x.n,(0:Int)).1,.int .i64 (x.n,(0:Int)).2]) {writeM M (ji p)with pins:=mG M.pins x.n} 1=Q:=hQ
 rw[e3]
 have UA:=ah BA;have xH:=ah C6;have HW:=ah hwr
 have uY:=ah hpi2;have HI:=ah hidx;have aW:=ah hk0;have HP:=ah hp;have dw:=ah hn0
 have yj:=ah hm.p3
 clear hpi hpi2 hidx hk0 h hb hc hm hx hn0 hoff e1 e2 e3 hst BD BF hp3 BA C6 hwr hQ hM1 hp hpm hpp hps
 go_enter Tryz.func144,Tryz.ntmps144
 go_wp2_with fail
 refine uY.out.mono ?_
 rintro e w2 ⟨A,d,rfl,hn,hk⟩
 have hix:=HI.out w2 A d hk (Src.bC hn.1)
 have Hf:=ah hix;have aQ:=ah hk;have dA:=ah hn;clear hix hn hk uY
 have b2:∀W,Kept aj W0 W->True:=fun _ _=>trivial
 clear b2
 clear z0 q2 z7
 go_wp2_with fail
 refine Hf.out.mono ?_
 rintro e w3 ⟨rfl,hk⟩
 have hk3:=aQ.out.then hk
 obtain⟨ad,rfl,had,x0,x1,x2⟩:=jU (Src.bC (aF.kept dA.out hk).1) (by omega) kk p HP.out
 have z0:w3.cell? ⟨w.heap.size,0,none⟩=some (.int .i64 x.k):=(dw.out.kept hk3 (fun z=>z)).cell 0
 have z7:w3.cell? ⟨w.heap.size,7,none⟩=some (.int .i64 x.n):=(dw.out.kept hk3 (fun z=>z)).cell 7
 have hwr:=HW.out w3 hk3
 have oM:=ah hwr;clear hwr hk hk3 Hf HW
 go_wp2_with fail
 clear z0 z7 x0 x1 x2
 refine oM.out.mono ?_
 rintro e w5 ⟨⟨zw,rfl⟩,X5,s5,hlb,jT,qY⟩
 have z3:w5.cell? ⟨X.mb,3,none⟩=some (.slice X5.pA M.pins.length X5.pc):=by
  have:=s5.at'.cell (i:=3) (v:=.slice X5.pA M1.pins.length X5.pc) rfl
  rw[s5.mb,xH.out]at this;exact this
 have f3:w5.frozen? ⟨X.mb,3,none⟩=false:=by
  have:=Has.frozen (s5.at'.c 0) 3
  rw[s5.mb]at this;exact this
 have p7:w5.cell? ⟨w.heap.size,7,none⟩=some (.int .i64 x.n):=jT.cell 7
 have hsrc:Src w5 3 X5.pA M.pins.length (aK M.pins):=by
  have:=Src.bC (s5.at'.c 3)
  rw[xH.out]at this;exact this
 have hcap:M.pins.length<=X5.pc:=by
  have:=(jk (s5.at'.c 3)).1
  rw[xH.out]at this;exact this
 have hgr:∀W,Kept aj w5 W->_:=fun W hW=>P7 W X5.pA X5.pc M.pins x.n (hsrc.kept hW (fun _ _ z=>z)) hcap (by have:=yj.out;omega)
 have hz3:∀W,Kept aj w5 W->W.cell? ⟨X.mb,3,none⟩=some (.slice X5.pA M.pins.length X5.pc)/\W.frozen? ⟨X.mb,3,none⟩=false/\W.cell? ⟨w.heap.size,7,none⟩=some (.int .i64 x.n):=fun W hW=>by
  refine⟨?_,?_,(jT.kept hW (fun z=>z)).cell 7⟩
  ·have:=(s5.at'.quiet hW).cell (i:=3) (v:=.slice X5.pA M1.pins.length X5.pc) rfl
   rw[s5.mb,xH.out]at this;exact this
  ·have:=Has.frozen ((s5.at'.quiet hW).c 0) 3
   rw[s5.mb]at this;exact this
 have zX:=ah hgr;have HZ3:=ah hz3;have nH:=ah s5;have iW:=ah hlb;have uf:=ah jT;have UB:=ah qY
 clear hgr hz3 s5 hlb jT qY hsrc hcap
 go_wp2_with fail
 go_region_with (go_at_call 231;refine(zX.out _ (by(repeat'(first|(with_reducible first|exact ak|apply au|apply ay|apply aA|apply aB)|(right;simp;done))))).mono ?_;rintro e w6 ⟨A6,c6,zz,rfl,AY,hk6⟩;have hkk:=Kept.then (F:=aj) (a:=w5) (by(repeat'(first|(with_reducible first|exact ak|apply au|apply ay|apply aA|apply aB)|(right;simp;done)))) hk6;obtain⟨z6,f6,p6⟩:=HZ3.out _ hkk;have zQ:=ah AY;have jV:=ah hkk;clear AY hk6 hkk)
 all_goals (
  clear z6 f6 z3 f3 p7
  have hne:¬X.mb=w.heap.size:=fun e=>UB.out ⟨0,by rw[<-nH.out.mb]at e;exact e.symm⟩
  have hs6:=Step.Cb (nH.out.quiet jV.out) zQ.out.1 (fun k hk=>by
   have h1:=zQ.out.2 k hk
   have h2:=nH.out.k.size
   have h3:w5.heap.size<=k:=h1
   exact⟨Nat.le_trans h2 h3,fun hf=>by have:=nH.out.at'.lt hf;omega⟩)
  rw[nH.out.mb]at hs6
  have HF:=ah (UA.out _ _ hs6 ⟨iW.out.n,iW.out.f,iW.out.l,iW.out.hd⟩)
  clear hs6
  go_wp2
  exact HF.out)
theorem Qb(h:dG w X M)(hb:cZ X M.lg c)(hc:c<=4000)(hm:bQ M k)(x:bH)(hx:iG w x)(h11:x.k≠11)(h12:x.k≠12)(p:aZ)(kk:Nat)(h0:fG M.st.pins x.n=(kk:Int))(hp:M.st.pins[kk]? =some p):
  Calls Tryz.prog 144 #[.pointer (some ⟨X.mb,0,none⟩),eH x] w (dK w X M c (.tuple #[.int .i64 (fM M x).1,.int .i64 (fM M x).2]) (gV M x) 1):=by
 have hpm:p∈M.st.pins:=List.mem_of_getElem? hp
 have hpp:=hm.st.inv.pin p hpm
 have hps:=hm.st.su.pin p hpm
 have e1:gV M x={writeM M (jr x.n)with pins:=oP M.pins x.n}:=by unfold gV;rw[if_neg h11,if_neg (by omega),h0,Int.toNat_natCast,hp];dsimp only;rw[if_neg h12]
 have e2:fM M x=(x.n,0):=by unfold fM;rw[if_neg h11,if_neg (by omega)]
 rw[e1,e2]
 obtain⟨W0,hW0⟩:∃W0,w.alloc (.cells (aG x).toArray 46)=W0:=⟨_,rfl⟩
 have hk0:Kept aj w W0:=by rw[<-hW0];(repeat'(first|(with_reducible first|exact ak|apply au|apply ay|apply aA|apply aB)|(right;simp;done)))
 have hn0:Has W0 w.heap.size 46 (aG x).toArray:=by rw[<-hW0];exact Has.new _ _ _
 have hoff:¬dU X M w.heap.size:=fun hf=>absurd (h.lt hf) (Nat.lt_irrefl _)
 have z0:W0.cell? ⟨w.heap.size,0,none⟩=some (.int .i64 x.k):=hn0.cell 0
 have q2:W0.cell? ⟨X.mb,2,none⟩=some (.pointer (some ⟨X.sb,0,none⟩)):=(h.quiet hk0).cell (i:=2) rfl
 have hpi:=Fp ((h.quiet hk0).c 2) hm.st.inv.ok
 have hp3:=hm.st.inv.pl
 have abl:(x.k==11)=false:=by simpa using h11
 obtain⟨st,hst⟩:∃st,M.st.pins=st:=⟨_,rfl⟩
 obtain⟨PA,BD⟩:∃PA,fG st x.n=PA:=⟨_,rfl⟩
 have hidx:=fun W A d (hW:Kept aj W0 W) (hs:Src W 3 A st.length (aK st))=>ru W A d st 250 (.pointer (some ⟨w.heap.size,0,none⟩)) (fun y=>decide (y.id=x.n)) (fun args W=>enters Tryz.func250 (by kernel_rfl) rfl args W) hs (by rw[<-hst];omega) (fun W2 y hW2 _=>zA W2 y w.heap.size x ((hn0.kept hW (fun z=>z)).kept hW2 (fun z=>z)))
 have BF:iq (fun y:aZ=>decide (y.id=x.n)) st 0=PA:=BD
 simp only[BF]at hidx
 have hpi2:Calls Tryz.prog 55 #[.pointer (some ⟨X.sb,0,none⟩)] W0 (wC W0 st):=by rw[<-hst];exact hpi
 rw[hst,BD]at h0
 rw[hst]at hp
 subst h0
 have hkl:kk<st.length:=(List.getElem?_eq_some_iff.1 hp).1
 have hk0':(0:Int)<=(kk:Int):=by omega
 have ab6:¬(kk:Int)<0:=by omega
 have z7:W0.cell? ⟨w.heap.size,7,none⟩=some (.int .i64 x.n):=hn0.cell 7
 have hwr:∀W,Kept aj W0 W->Calls Tryz.prog 44 #[.pointer (some ⟨X.mb,0,none⟩),.agg (aH (jr x.n)).toArray] W fun e w'=>(∃z,e=.returned (.int .i64 z))/\∃X',Step w X M w' X' (writeM M (jr x.n))/\cZ X' (writeM M (jr x.n)).lg (c+1)/\Has w' w.heap.size 46 (aG x).toArray/\¬dU X' (writeM M (jr x.n)) w.heap.size:=fun W hW=>by
  refine(write_any ((h.quiet hk0).quiet hW) hb hc hm.st.inv.ok (jr x.n) (Ej _ _ _ _ _ _) (tK 7 x.n ⟨0,0,0⟩ (by decide) (by decide)) (ES _ _)).mono ?_
  rintro e w' ⟨rfl,X',h1,h2⟩
  have h3:=h1.has (hn0.kept hW (fun z=>z)) hoff
  exact⟨⟨_,rfl⟩,X',(Step.refl h (hk0.then hW)).trans h1,h2,h3.1,h3.2⟩
 have C6:=C9 M (jr x.n)
 obtain⟨M1,hM1⟩:∃M1,writeM M (jr x.n)=M1:=⟨_,rfl⟩
 simp only[hM1]at hwr
 rw[hM1]at C6
 simp only[ji,jr,nt,aH,List.length_nil,lF]at hwr
 obtain⟨Q,hQ⟩:∃Q,dK w X M c (.tuple #[.int .i64 x.n,.int .i64 0]) {writeM M (jr x.n)with pins:=oP M.pins x.n} 1=Q:=⟨_,rfl⟩
 have BA:∀W X5,Step w X M W X5 {M1 with pins:=oP M.pins x.n}->cZ X5 M1.lg (c+1)->Q (.returned (.tuple #[.int .i64 x.n,.int .i64 0])) W:=fun W X5 h1 h2=>by
  rw[<-hQ,hM1]
  exact⟨rfl,X5,h1,h2⟩
 have e3:dK w X M c (.tuple #[.int .i64 (x.n,(0:Int)).1,.int .i64 (x.n,(0:Int)).2]) {writeM M (jr x.n)with pins:=oP M.pins x.n} 1=Q:=hQ
 rw[e3]
 have UA:=ah BA;have xH:=ah C6;have HW:=ah hwr
 have uY:=ah hpi2;have HI:=ah hidx;have aW:=ah hk0;have HP:=ah hp;have dw:=ah hn0
 have yj:=ah hm.p3
 clear hpi hpi2 hidx hk0 h hb hc hm hx hn0 hoff e1 e2 e3 hst BD BF hp3 BA C6 hwr hQ hM1 hp hpm hpp hps
 go_enter Tryz.func144,Tryz.ntmps144
 go_wp2_with fail
 refine uY.out.mono ?_
 rintro e w2 ⟨A,d,rfl,hn,hk⟩
 have hix:=HI.out w2 A d hk (Src.bC hn.1)
 have Hf:=ah hix;have aQ:=ah hk;have dA:=ah hn;clear hix hn hk uY
 have b2:∀W,Kept aj W0 W->True:=fun _ _=>trivial
 clear b2
 clear z0 q2 z7
 go_wp2_with fail
 refine Hf.out.mono ?_
 rintro e w3 ⟨rfl,hk⟩
 have hk3:=aQ.out.then hk
 obtain⟨ad,rfl,had,x0,x1,x2⟩:=jU (Src.bC (aF.kept dA.out hk).1) (by omega) kk p HP.out
 have z0:w3.cell? ⟨w.heap.size,0,none⟩=some (.int .i64 x.k):=(dw.out.kept hk3 (fun z=>z)).cell 0
 have z7:w3.cell? ⟨w.heap.size,7,none⟩=some (.int .i64 x.n):=(dw.out.kept hk3 (fun z=>z)).cell 7
 have hwr:=HW.out w3 hk3
 have oM:=ah hwr;clear hwr hk hk3 Hf HW
 go_wp2_with fail
 clear z0 z7 x0 x1 x2
 refine oM.out.mono ?_
 rintro e w5 ⟨⟨zw,rfl⟩,X5,s5,hlb,jT,qY⟩
 have z3:w5.cell? ⟨X.mb,3,none⟩=some (.slice X5.pA M.pins.length X5.pc):=by
  have:=s5.at'.cell (i:=3) (v:=.slice X5.pA M1.pins.length X5.pc) rfl
  rw[s5.mb,xH.out]at this;exact this
 have f3:w5.frozen? ⟨X.mb,3,none⟩=false:=by
  have:=Has.frozen (s5.at'.c 0) 3
  rw[s5.mb]at this;exact this
 have p7:w5.cell? ⟨w.heap.size,7,none⟩=some (.int .i64 x.n):=jT.cell 7
 have hsrc:Src w5 3 X5.pA M.pins.length (aK M.pins):=by
  have:=Src.bC (s5.at'.c 3)
  rw[xH.out]at this;exact this
 have hcap:M.pins.length<=X5.pc:=by
  have:=(jk (s5.at'.c 3)).1
  rw[xH.out]at this;exact this
 have hgr:∀W,Kept aj w5 W->_:=fun W hW=>UE W X5.pA X5.pc M.pins x.n (hsrc.kept hW (fun _ _ z=>z)) (by have:=yj.out;omega)
 have hz3:∀W,Kept aj w5 W->W.cell? ⟨X.mb,3,none⟩=some (.slice X5.pA M.pins.length X5.pc)/\W.frozen? ⟨X.mb,3,none⟩=false/\W.cell? ⟨w.heap.size,7,none⟩=some (.int .i64 x.n):=fun W hW=>by
  refine⟨?_,?_,(jT.kept hW (fun z=>z)).cell 7⟩
  ·have:=(s5.at'.quiet hW).cell (i:=3) (v:=.slice X5.pA M1.pins.length X5.pc) rfl
   rw[s5.mb,xH.out]at this;exact this
  ·have:=Has.frozen ((s5.at'.quiet hW).c 0) 3
   rw[s5.mb]at this;exact this
 have zX:=ah hgr;have HZ3:=ah hz3;have nH:=ah s5;have iW:=ah hlb;have uf:=ah jT;have UB:=ah qY
 clear hgr hz3 s5 hlb jT qY hsrc hcap
 go_wp2_with fail
 go_region_with (go_at_call 136;refine(zX.out _ (by(repeat'(first|(with_reducible first|exact ak|apply au|apply ay|apply aA|apply aB)|(right;simp;done))))).mono ?_;rintro e w6 ⟨A6,c6,zz,rfl,AY,hk6⟩;have hkk:=Kept.then (F:=aj) (a:=w5) (by(repeat'(first|(with_reducible first|exact ak|apply au|apply ay|apply aA|apply aB)|(right;simp;done)))) hk6;obtain⟨z6,f6,p6⟩:=HZ3.out _ hkk;have zQ:=ah AY;have jV:=ah hkk;clear AY hk6 hkk)
 all_goals (
  clear z6 f6 z3 f3 p7
  have hne:¬X.mb=w.heap.size:=fun e=>UB.out ⟨0,by rw[<-nH.out.mb]at e;exact e.symm⟩
  have hs6:=Step.Cb (nH.out.quiet jV.out) zQ.out.1 (fun k hk=>by
   have h1:=zQ.out.2 k hk
   have h2:=nH.out.k.size
   have h3:w5.heap.size<=k:=h1
   exact⟨Nat.le_trans h2 h3,fun hf=>by have:=nH.out.at'.lt hf;omega⟩)
  rw[nH.out.mb]at hs6
  have HF:=ah (UA.out _ _ hs6 ⟨iW.out.n,iW.out.f,iW.out.l,iW.out.hd⟩)
  clear hs6
  go_wp2
  exact HF.out)
theorem Qc(h:dG w X M)(hb:cZ X M.lg c)(hc:c<=4000)(hm:bQ M k)(x:bH)(hx:iG w x):
  Calls Tryz.prog 144 #[.pointer (some ⟨X.mb,0,none⟩),eH x] w (dK w X M c (.tuple #[.int .i64 (fM M x).1,.int .i64 (fM M x).2]) (gV M x) 1):=by
 by_cases h11:x.k=11
 ·exact UF h hb hc hm x hx h11
 ·rcases tC M.st.pins x.n with h0|⟨kk,p,h0,hp,-⟩
  ·exact Qa h hb hc hm x hx h11 (by omega)
  ·by_cases h12:x.k=12
   ·exact Na h hb hc hm x hx h11 h12 p kk h0 hp
   ·exact Qb h hb hc hm x hx h11 h12 p kk h0 hp
end
end dM
end Go.Proofs.YtolkgbafebehfaaGreat
