/- Part 32 of what the proof needs. -/
import Derived.Test.YtfjdpbbgfjhnlaaGreatMK30
set_option linter.unusedSimpArgs false
set_option linter.unusedVariables false
set_option maxHeartbeats 32000000
set_option maxRecDepth 100000
namespace Go.Proofs.YtfjdpbbgfjhnlaaGreat
open Go.RowKit
set_option maxRecDepth 100000
namespace dH
open aO Vn Mst lV IM mY gZ
def iP(p:aY):aG:=nt 6 0 p ⟨0,0,[]⟩
def granted(l:List aY)(id at':Int):List aY:=if dM.jS l id=0 then l++[⟨id,at',8⟩]else []
def mW(M:MR)(at':Int):MR:=if at'<M.st.hz then M else if bu M.st (iP ⟨M.st.top+1,at',8⟩)≠0 then M else{writeM M (iP ⟨M.st.top+1,at',8⟩)with pins:=granted M.pins (M.st.top+1) at'}
def qZ(M:MR)(at':Int):Int×Int:=if at'<M.st.hz then (0,13)else if bu M.st (iP ⟨M.st.top+1,at',8⟩)≠0 then (0,bu M.st (iP ⟨M.st.top+1,at',8⟩))else(M.st.top+1,0)
section
variable{w w':World}{X X0:MX}{M M0:MR}{c k:Nat}
theorem PE(F:Nat->Prop)(p:aY):JY F (iP p):=⟨fun h=>absurd h (Nat.lt_irrefl _),fun h=>absurd h (Nat.lt_irrefl _),fun h=>absurd h (Nat.lt_irrefl _)⟩
theorem Rt(l:List aY)(id at':Int):(granted l id at').length<=3:=by
 unfold granted
 split
 ·rename_i h
  unfold dM.jS at h
  split at h
  ·cases h
  ·rw[List.length_append];simp only[List.length_singleton];omega
 ·exact Nat.zero_le _
theorem bD.mW(h:bD M k)(at':Int)(ha:0<=at'/\at'<=aT):bD (dH.mW M at') k:=by
 unfold dH.mW
 split
 ·exact h
 ·split
  ·exact h
  ·have h1:=h.write (qx 6 0 ⟨M.st.top+1,at',8⟩ ha (by have:=h.st.inv.top;dsimp only;omega))
   refine⟨h1.st,Rt _ _ _,fun p hp=> ?_,h1.ug,h1.last,h1.marks,h1.iE,h1.cnt⟩
   dsimp only[granted]at hp
   split at hp
   ·rcases List.mem_append.1 hp with y|y
    ·exact h.pin p y
    ·simp only[List.mem_singleton]at y;subst y;exact⟨by show(0:Int)<=8;decide,by show(8:Int)<=8;decide,ha.1,ha.2⟩
   ·cases hp
theorem abN(M:MR)(at':Int):(mW M at').out=M.out:=by
 unfold mW
 split
 ·rfl
 ·split
  ·rfl
  ·exact qw _ _
theorem L6(w:World)(A:Option Addr)(c:Nat)(l:List aY)(id at':Int)(hl:Src w 3 A l.length (aS l))(hlc:l.length<=c):
  Calls Tryz.prog 234 #[.slice A l.length c,.int .i64 id,.int .u64 at'] w fun e w'=>∃A' c' z,e=.returned (.tuple #[.slice A' (granted l id at').length c',.int .i64 z])/\aF 53 3 w.heap.size w' A' (granted l id at').length c' (aS (granted l id at'))/\Kept aj w w':=by
 by_cases h0:dM.jS l id=0
 ·refine(dM.aaC w A c l id at' hl hlc h0).mono ?_
  rintro e w' ⟨A',c',rfl,h1,h2⟩
  have e1:granted l id at'=l++[⟨id,at',8⟩]:=if_pos h0
  rw[e1,List.length_append]
  exact⟨A',c',0,rfl,h1,h2⟩
 ·refine(dM.Xn w A c l id at' hl hlc h0).mono ?_
  rintro e w' ⟨rfl,hk⟩
  have e1:granted l id at'=[]:=if_neg h0
  rw[e1]
  exact⟨none,0,_,rfl,aF.nil _ _ _ _,hk⟩
theorem JK(h:dD w X M)(hb:dw X M.lg c)(hc:c<=4000)(hm:bD M k)(at':Int)(ha:0<=at'/\at'<=aT):
  Calls Tryz.prog 173 #[.pointer (some ⟨X.mb,0,none⟩),.int .u64 at'] w (dF w X M c (.tuple #[.int .i64 (qZ M at').1,.int .i64 (qZ M at').2]) (mW M at') 1):=by
 have q2:∀W,Kept aj w W->W.cell? ⟨X.mb,2,none⟩=some (.pointer (some ⟨X.sb,0,none⟩)):=fun W hW=>(h.quiet hW).cell (i:=2) rfl
 have hho:∀W,Kept aj w W->Calls Tryz.prog 29 #[.pointer (some ⟨X.sb,0,none⟩)] W fun e w'=>e=.returned (.int .u64 M.st.hz)/\Kept aj W w':=fun W hW=>uH ((h.quiet hW).c 2)
 have hto:∀W,Kept aj w W->Calls Tryz.prog 233 #[.pointer (some ⟨X.sb,0,none⟩)] W fun e w'=>e=.returned (.int .i64 M.st.top)/\Kept aj W w':=fun W hW=>aez ((h.quiet hW).c 2)
 have htop:=hm.st.inv.top
 by_cases h1:at'<M.st.hz
 ·have e1:mW M at'=M:=if_pos h1
  have e2:qZ M at'=(0,13):=if_pos h1
  rw[e1,e2]
  have hfin:∀W,Kept aj w W->dF w X M c (.tuple #[.int .i64 0,.int .i64 13]) M 1 (.returned (.tuple #[.int .i64 0,.int .i64 13])) W:=fun W hW=>⟨rfl,X,Step.refl h hW,hb.mono (Nat.le_succ _)⟩
  have z2:=q2 w (Kept.refl _ _)
  obtain⟨hz,hhz⟩:∃hz,M.st.hz=hz:=⟨_,rfl⟩
  rw[hhz]at h1 hho
  have HF:=ah hfin;have HH:=ah hho
  clear hfin hho h hb hc hm ha q2 hto htop e1 e2 hhz
  go_enter Tryz.func173,Tryz.ntmps173
  go_wp2_with fail
  refine(HH.out _ (Kept.refl _ _)).mono ?_
  rintro e w2 ⟨rfl,hk⟩
  have XU:=ah (HF.out _ hk)
  clear z2 hk
  go_wp2
  go_ret2
  exact XU.out
 ·obtain⟨top,htp⟩:∃top,M.st.top=top:=⟨_,rfl⟩
  have hwrap:IntKind.i64.wrap (top+1)=top+1:=IntWalk.i64_in _ (by rw[<-htp];omega)
  have hPM:mW M at'=if bu M.st (iP ⟨top+1,at',8⟩)≠0 then M else{writeM M (iP ⟨top+1,at',8⟩)with pins:=granted M.pins (top+1) at'}:=by unfold mW;rw[if_neg h1,htp]
  have hPV:qZ M at'=if bu M.st (iP ⟨top+1,at',8⟩)≠0 then (0,bu M.st (iP ⟨top+1,at',8⟩))else(top+1,0):=by unfold qZ;rw[if_neg h1,htp]
  rw[htp]at hto
  have hwr:∀W,Kept aj w W->Calls Tryz.prog 25 #[.pointer (some ⟨X.mb,0,none⟩),.agg (aJ (iP ⟨top+1,at',8⟩)).toArray] W fun e w'=>e=.returned (.int .i64 (bu M.st (iP ⟨top+1,at',8⟩)))/\∃X',Step W X M w' X' (writeM M (iP ⟨top+1,at',8⟩))/\dw X' (writeM M (iP ⟨top+1,at',8⟩)).lg (c+1):=fun W hW=>by
   refine(write_any (h.quiet hW) hb hc hm.st.inv.ok (iP ⟨top+1,at',8⟩) (Ir _ _ _ _ _ _) (qx _ _ _ ha (by dsimp only;omega)) (PE _ _)).mono ?_
   rintro e w' ⟨rfl,h⟩
   exact⟨rfl,h⟩
  have hgr:=L6
  obtain⟨N,hN⟩:∃N,N=iP ⟨top+1,at',8⟩:=⟨_,rfl⟩
  obtain⟨E,hE⟩:∃E,bu M.st (iP ⟨top+1,at',8⟩)=E:=⟨_,rfl⟩
  obtain⟨M1,hM1⟩:∃M1,writeM M (iP ⟨top+1,at',8⟩)=M1:=⟨_,rfl⟩
  have hMb:E≠0->M1=M:=fun h0=>by rw[<-hM1];exact if_neg (by rw[hE];exact h0)
  have Gm:M1.pins=M.pins:=by rw[<-hM1];unfold writeM;split<;>rfl
  rw[hE,hM1]at hPM
  rw[hE]at hPV
  simp only[hE,hM1]at hwr
  simp only[iP,nt,aJ,List.length_nil,jD]at hwr
  obtain⟨Q,hQ⟩:∃Q,dF w X M c (.tuple #[.int .i64 (qZ M at').1,.int .i64 (qZ M at').2]) (mW M at') 1=Q:=⟨_,rfl⟩
  rw[hQ]
  have acR:E≠0->∀W X5,Step w X M W X5 M1->dw X5 M1.lg (c+1)->Q (.returned (.tuple #[.int .i64 0,.int .i64 E])) W:=fun h0 W X5 h1 h2=>by
   rw[hPM,hPV,if_pos h0,if_pos h0]at hQ
   rw[<-hQ]
   rw[hMb h0]at h1 h2
   exact⟨rfl,X5,h1,h2⟩
  have ER:E=0->∀W X5,Step w X M W X5 {M1 with pins:=granted M.pins (top+1) at'}->dw X5 M1.lg (c+1)->Q (.returned (.tuple #[.int .i64 (top+1),.int .i64 0])) W:=fun h0 W X5 h1 h2=>by
   rw[hPM,hPV,if_neg (fun h=>h h0),if_neg (fun h=>h h0)]at hQ
   rw[<-hQ]
   exact⟨rfl,X5,h1,h2⟩
  have HQB:=ah acR;have Y7:=ah ER;clear acR ER hQ
  have z2:=q2 w (Kept.refl _ _)
  obtain⟨hz,hhz⟩:∃hz,M.st.hz=hz:=⟨_,rfl⟩
  rw[hhz]at h1 hho
  have HH:=ah hho;have HT:=ah hto;have HW:=ah hwr;have Du:=ah q2;have H:=ah h;have HB:=ah hb;have xG:=ah hMb;have zM:=ah Gm;have HM:=ah hm
  clear hho hto hwr q2 h hb hc hm ha hhz hPM hPV hE hM1 hMb Gm htp htop hN N hgr
  go_enter Tryz.func173,Tryz.ntmps173
  go_wp2_with fail
  refine(HH.out _ (Kept.refl _ _)).mono ?_
  rintro e w2 ⟨rfl,hk2⟩
  clear z2
  have z2:=Du.out _ hk2
  have aW:=ah hk2;clear hk2
  go_wp2_with fail
  refine(HT.out _ aW.out).mono ?_
  rintro e w3 ⟨rfl,hk3⟩
  clear z2
  obtain⟨W4,zu⟩:∃W4,w3.alloc (.cells #[.int .i64 (top+1),.int .u64 at',.int .i64 8] 53)=W4:=⟨_,rfl⟩
  have hk4:Kept aj w W4:=by rw[<-zu];(repeat'(first|(with_reducible first|exact ak|apply au|apply ay|apply aA|apply aB)|(exact aW.out.then hk3)|(right;simp;done)))
  have hn4:Has W4 w3.heap.size 53 #[.int .i64 (top+1),.int .u64 at',.int .i64 8]:=by rw[<-zu];exact Has.new _ _ _
  have hoff:¬dX X M w3.heap.size:=fun hf=>by have:=H.out.lt hf;have:=aW.out.size;have:=hk3.size;omega
  obtain⟨pb,hpb⟩:∃pb,w3.heap.size=pb:=⟨_,rfl⟩
  rw[hpb]at hn4 hoff
  have p0:W4.cell? ⟨pb,0,none⟩=some (.int .i64 (top+1)):=hn4.cell 0
  have p1:W4.cell? ⟨pb,1,none⟩=some (.int .u64 at'):=hn4.cell 1
  have p2:W4.cell? ⟨pb,2,none⟩=some (.int .i64 8):=hn4.cell 2
  have hwr:=HW.out _ hk4
  have qM:=ah hwr;have dW:=ah hk4;have Tj:=ah hn4;have pR:=ah hoff
  clear hwr hk4 hn4 hoff hk3
  go_wp2_with fail
  clear p0 p1 p2 zu
  refine qM.out.mono ?_
  rintro e w5 ⟨rfl,X5,hst,hlb⟩
  have s5:=(Step.refl H.out dW.out).trans hst
  obtain⟨jO,um⟩:=hst.has Tj.out pR.out
  have hze:E=0\/E≠0:=by omega
  rcases hze with hE0|hE0
  rotate_left
  ·have hz0:(E !=0)=true:=by simpa using hE0
   have HF:=ah (HQB.out hE0 _ _ s5 hlb)
   clear s5 hlb hst jO um hE0
   go_wp2
   exact HF.out
  ·subst hE0
   have ag7:=ah (Y7.out rfl)
   have z3:w5.cell? ⟨X.mb,3,none⟩=some (.slice X5.pA M.pins.length X5.pc):=by
    have:=s5.at'.cell (i:=3) (v:=.slice X5.pA M1.pins.length X5.pc) rfl
    rw[s5.mb,zM.out]at this;exact this
   have f3:w5.frozen? ⟨X.mb,3,none⟩=false:=by
    have:=Has.frozen (s5.at'.c 0) 3
    rw[s5.mb]at this;exact this
   have p5:w5.cell? ⟨pb,0,none⟩=some (.int .i64 (top+1)):=jO.cell 0
   have hsrc:Src w5 3 X5.pA M.pins.length (aS M.pins):=by
    have:=Src.bC (s5.at'.c 3)
    rw[zM.out]at this;exact this
   have hcap:M.pins.length<=X5.pc:=by
    have:=(fV (s5.at'.c 3)).1
    rw[zM.out]at this;exact this
   have hgr:∀W,Kept aj w5 W->_:=fun W hW=>L6 W X5.pA X5.pc M.pins (top+1) at' (hsrc.kept hW (fun _ _ z=>z)) hcap
   have hz3:∀W,Kept aj w5 W->W.cell? ⟨X.mb,3,none⟩=some (.slice X5.pA M.pins.length X5.pc)/\W.frozen? ⟨X.mb,3,none⟩=false/\W.cell? ⟨pb,0,none⟩=some (.int .i64 (top+1)):=fun W hW=>by
    refine⟨?_,?_,(jO.kept hW (fun z=>z)).cell 0⟩
    ·have:=(s5.at'.quiet hW).cell (i:=3) (v:=.slice X5.pA M1.pins.length X5.pc) rfl
     rw[s5.mb,zM.out]at this;exact this
    ·have:=Has.frozen ((s5.at'.quiet hW).c 0) 3
     rw[s5.mb]at this;exact this
   have DV:=ah hgr;have HZ3:=ah hz3;have pI:=ah s5;have jy:=ah hlb;have uo:=ah jO;have Y8:=ah um
   clear hgr hz3 s5 hlb hst jO um hsrc hcap
   go_wp2_with fail
   go_region_with (go_at_call 234;refine(DV.out _ (by(repeat'(first|(with_reducible first|exact ak|apply au|apply ay|apply aA|apply aB)|(right;simp;done))))).mono ?_;rintro e w6 ⟨A6,c6,zz,rfl,ED,hk6⟩;have hkk:=Kept.then (F:=aj) (a:=w5) (by(repeat'(first|(with_reducible first|exact ak|apply au|apply ay|apply aA|apply aB)|(right;simp;done)))) hk6;obtain⟨z6,f6,p6⟩:=HZ3.out _ hkk;have xN:=ah ED;have jY:=ah hkk;clear ED hk6 hkk)
   all_goals (
    clear z6 f6 z3 f3 p5
    have hne:¬X.mb=pb:=fun e=>Y8.out ⟨0,by rw[<-pI.out.mb]at e;exact e.symm⟩
    have hs6:=Step.Bo (pI.out.quiet jY.out) xN.out.1 (fun k hk=>by
     have h1:=xN.out.2 k hk
     have h2:=pI.out.k.size
     have h3:w5.heap.size<=k:=h1
     exact⟨Nat.le_trans h2 h3,fun hf=>by have:=pI.out.at'.lt hf;omega⟩)
    rw[pI.out.mb]at hs6
    have HF:=ah (ag7.out _ _ hs6 ⟨jy.out.n,jy.out.f,jy.out.l,jy.out.hd⟩)
    clear hs6
    go_wp2
    exact HF.out)
end
end dH
namespace dH
open aO Vn Mst lV IM mY gZ
def gG(n:Int):aG:=nt 7 n ⟨0,0,0⟩ ⟨0,0,[]⟩
def mM(l:List aY)(id:Int):List aY:=if dJ l id<0 then []else jB l id
def oU(l:List aY)(id:Int):List aY:=if dJ l id<0 then []else freed l id
def fB(M:MR)(x:bF):MR:=
 if x.k=11 then mW M x.at' else
 match(if dJ M.st.pins x.n<0 then none else M.st.pins[(dJ M.st.pins x.n).toNat]?)with
 |none=>M
 |some p=>if x.k=12 then {writeM M (iP p)with pins:=mM M.pins x.n}else{writeM M (gG x.n)with pins:=oU M.pins x.n}
def gY(M:MR)(x:bF):Int×Int:=if x.k=11 then qZ M x.at' else if dJ M.st.pins x.n<0 then (0,7)else(x.n,0)
section
variable{w w':World}{X X0:MX}{M M0:MR}{c k:Nat}
theorem U9(l:List aY)(id:Int):(mM l id).length<=l.length:=by
 unfold mM
 split
 ·exact Nat.zero_le _
 ·rw[pK];exact Nat.le_refl _
theorem Y9{l:List aY}{id:Int}{p:aY}(h:p∈oU l id):p∈l:=by
 unfold oU at h
 split at h
 ·cases h
 ·unfold freed at h
  split at h
  ·exact h
  ·exact List.mem_of_mem_eraseIdx h
theorem Za(l:List aY)(id:Int):(oU l id).length<=l.length:=by
 unfold oU
 split
 ·exact Nat.zero_le _
 ·unfold freed
  split
  ·exact Nat.le_refl _
  ·rw[List.length_eraseIdx];split<;>omega
theorem Va(w:World)(A:Option Addr)(c:Nat)(l:List aY)(id:Int)(hl:Src w 3 A l.length (aS l))(hlc:l.length<=c)(hlen:l.length<=1000000):
  Calls Tryz.prog 155 #[.slice A l.length c,.int .i64 id] w fun e w'=>∃A' c' z,e=.returned (.tuple #[.slice A' (mM l id).length c',.int .i64 z])/\aF 53 3 w.heap.size w' A' (mM l id).length c' (aS (mM l id))/\Kept aj w w':=by
 refine(KD w A c l id hl hlc hlen).mono ?_
 rintro e w' (⟨h0,rfl,hk⟩|⟨h0,A',c',rfl,hn,hk⟩)
 ·have e1:mM l id=[]:=if_pos h0
  rw[e1]
  exact⟨none,0,_,rfl,aF.nil _ _ _ _,hk⟩
 ·have e1:mM l id=jB l id:=if_neg (by omega)
  rw[e1]
  exact⟨A',c',_,rfl,hn,hk⟩
theorem Zb(w:World)(A:Option Addr)(c:Nat)(l:List aY)(id:Int)(hl:Src w 3 A l.length (aS l))(hlen:l.length<=1000000):
  Calls Tryz.prog 90 #[.slice A l.length c,.int .i64 id] w fun e w'=>∃A' c' z,e=.returned (.tuple #[.slice A' (oU l id).length c',.int .i64 z])/\aF 53 3 w.heap.size w' A' (oU l id).length c' (aS (oU l id))/\Kept aj w w':=by
 refine(GH w A c l id hl hlen).mono ?_
 rintro e w' (⟨h0,rfl,hk⟩|⟨h0,A',c',rfl,hn,hk⟩)
 ·have e1:oU l id=[]:=if_pos h0
  rw[e1]
  exact⟨none,0,_,rfl,aF.nil _ _ _ _,hk⟩
 ·have e1:oU l id=freed l id:=if_neg (by omega)
  rw[e1]
  exact⟨A',c',_,rfl,hn,hk⟩
theorem Vb{l:List aY}{id:Int}{p:aY}(h:p∈mM l id):p∈l\/∃q∈l,p=⟨id,q.at',8⟩:=by
 unfold mM at h
 split at h
 ·cases h
 ·exact Gj h
theorem bD.abO(h:bD M k){l:List aY}(h3:l.length<=3)(hp:∀p∈l,0<=p.left/\p.left<=8/\0<=p.at'/\p.at'<=aT):bD {M with pins:=l} k:=⟨h.st,h3,hp,h.ug,h.last,h.marks,h.iE,h.cnt⟩
theorem sJ(M:MR)(x:aG):(writeM M x).pins=M.pins:=by unfold writeM;split<;>rfl
theorem bD.fB{w:World}(h:bD M k)(x:bF)(hok:iZ w x):bD (dH.fB M x) k:=by
 unfold dH.fB
 split
 ·exact h.mW _ hok.t.1
 ·split
  ·exact h
  ·rename_i p hp
   have hpm:p∈M.st.pins:=by
    split at hp
    ·cases hp
    ·exact List.mem_of_getElem? hp
   have hpi:=h.st.inv.pin p hpm
   have hps:=h.st.su.pin p hpm
   split
   ·refine(h.write (qx 6 0 p hps (by omega))).abO (Nat.le_trans (U9 _ _) h.p3) (fun q hq=> ?_)
    rcases Vb hq with y|⟨r,hr,rfl⟩
    ·exact h.pin q y
    ·have:=h.pin r hr;exact⟨by show(0:Int)<=8;decide,by show(8:Int)<=8;decide,this.2.2⟩
   ·exact(h.write (qx 7 x.n ⟨0,0,0⟩ (by decide) (by decide))).abO (Nat.le_trans (Za _ _) h.p3) (fun q hq=>h.pin q (Y9 hq))
theorem Vd(M:MR)(x:bF):(fB M x).out=M.out:=by
 unfold fB
 split
 ·exact abN _ _
 ·split
  ·rfl
  ·split<;>exact qw _ _
theorem Jb(F:Nat->Prop)(n:Int):JY F (gG n):=⟨fun h=>absurd h (Nat.lt_irrefl _),fun h=>absurd h (Nat.lt_irrefl _),fun h=>absurd h (Nat.lt_irrefl _)⟩
theorem CY(w:World)(p:aY)(b:Nat)(x:bF)(hb:Has w b 45 (aI x).toArray):
  Calls Tryz.prog 175 #[BK p,.pointer (some ⟨b,0,none⟩)] w fun e w'=>e=.returned (.bool (decide (p.id=x.n)))/\Kept aj w w':=by
 have c0:=(hb.alloc (.cells #[.int .i64 p.id,.int .u64 p.at',.int .i64 p.left] 53)).cell 7
 simp only[aI,List.getElem?_toArray,List.getElem?_cons_zero,List.getElem?_cons_succ]at c0
 clear hb
 go_enter Tryz.func175,Tryz.ntmps175
 go_wp2
 go_ret
 exact⟨rfl,by(repeat'(first|(with_reducible first|exact ak|apply au|apply ay|apply aA|apply aB)|(right;simp;done)))⟩
theorem Zc(h:dD w X M)(hb:dw X M.lg c)(hc:c<=4000)(hm:bD M k)(x:bF)(hx:iZ w x)(h11:x.k=11):
  Calls Tryz.prog 101 #[.pointer (some ⟨X.mb,0,none⟩),gK x] w (dF w X M c (.tuple #[.int .i64 (gY M x).1,.int .i64 (gY M x).2]) (fB M x) 1):=by
 have e1:fB M x=mW M x.at':=if_pos h11
 have e2:gY M x=qZ M x.at':=if_pos h11
 rw[e1,e2]
 obtain⟨W0,hW0⟩:∃W0,w.alloc (.cells (aI x).toArray 45)=W0:=⟨_,rfl⟩
 have hk0:Kept aj w W0:=by rw[<-hW0];(repeat'(first|(with_reducible first|exact ak|apply au|apply ay|apply aA|apply aB)|(right;simp;done)))
 have hn0:Has W0 w.heap.size 45 (aI x).toArray:=by rw[<-hW0];exact Has.new _ _ _
 have hoff:¬dX X M w.heap.size:=fun hf=>absurd (h.lt hf) (Nat.lt_irrefl _)
 have z0:W0.cell? ⟨w.heap.size,0,none⟩=some (.int .i64 x.k):=hn0.cell 0
 have z5:W0.cell? ⟨w.heap.size,5,none⟩=some (.int .u64 x.at'):=hn0.cell 5
 have hp:Calls Tryz.prog 173 #[.pointer (some ⟨X.mb,0,none⟩),.int .u64 x.at'] W0 fun e w'=>e=.returned (.tuple #[.int .i64 (qZ M x.at').1,.int .i64 (qZ M x.at').2])/\dF w X M c (.tuple #[.int .i64 (qZ M x.at').1,.int .i64 (qZ M x.at').2]) (mW M x.at') 1 (.returned (.tuple #[.int .i64 (qZ M x.at').1,.int .i64 (qZ M x.at').2])) w':=by
  refine(JK (h.quiet hk0) hb hc hm x.at' hx.t.1).mono ?_
  rintro e w' ⟨rfl,X',hs,hl⟩
  exact⟨rfl,rfl,X',(Step.refl h hk0).trans hs,hl⟩
 rw[h11]at z0
 have HP:=ah hp
 clear hp e1 e2 h hb hc hm hx hn0 hk0 hoff
 obtain⟨v1,hv1⟩:∃v1,(qZ M x.at').1=v1:=⟨_,rfl⟩
 obtain⟨v2,hv2⟩:∃v2,(qZ M x.at').2=v2:=⟨_,rfl⟩
 rw[hv1,hv2]at HP⊢
 clear hv1 hv2
 go_enter Tryz.func101,Tryz.ntmps101
 go_wp2_with fail
 clear z0 z5 hW0
 refine HP.out.mono ?_
 rintro e w2 ⟨rfl,hq⟩
 have HQ:=ah hq;clear hq HP
 go_wp2
 go_ret2
 exact HQ.out
theorem Ve(h:dD w X M)(hb:dw X M.lg c)(hc:c<=4000)(hm:bD M k)(x:bF)(hx:iZ w x)(h11:x.k≠11)(h0:dJ M.st.pins x.n<0):
  Calls Tryz.prog 101 #[.pointer (some ⟨X.mb,0,none⟩),gK x] w (dF w X M c (.tuple #[.int .i64 (gY M x).1,.int .i64 (gY M x).2]) (fB M x) 1):=by
 have e1:fB M x=M:=by unfold fB;rw[if_neg h11,if_pos h0]
 have e2:gY M x=(0,7):=by unfold gY;rw[if_neg h11,if_pos h0]
 rw[e1,e2]
 obtain⟨W0,hW0⟩:∃W0,w.alloc (.cells (aI x).toArray 45)=W0:=⟨_,rfl⟩
 have hk0:Kept aj w W0:=by rw[<-hW0];(repeat'(first|(with_reducible first|exact ak|apply au|apply ay|apply aA|apply aB)|(right;simp;done)))
 have hn0:Has W0 w.heap.size 45 (aI x).toArray:=by rw[<-hW0];exact Has.new _ _ _
 have hoff:¬dX X M w.heap.size:=fun hf=>absurd (h.lt hf) (Nat.lt_irrefl _)
 have z0:W0.cell? ⟨w.heap.size,0,none⟩=some (.int .i64 x.k):=hn0.cell 0
 have q2:W0.cell? ⟨X.mb,2,none⟩=some (.pointer (some ⟨X.sb,0,none⟩)):=(h.quiet hk0).cell (i:=2) rfl
 have hpi:=Fg ((h.quiet hk0).c 2) hm.st.inv.ok
 have hp3:=hm.st.inv.pl
 have afi:(x.k==11)=false:=by simpa using h11
 obtain⟨st,hst⟩:∃st,M.st.pins=st:=⟨_,rfl⟩
 obtain⟨PA,ES⟩:∃PA,dJ st x.n=PA:=⟨_,rfl⟩
 have hidx:=fun W A d (hW:Kept aj W0 W) (hs:Src W 3 A st.length (aS st))=>uw W A d st 175 (.pointer (some ⟨w.heap.size,0,none⟩)) (fun y=>decide (y.id=x.n)) (fun args W=>enters Tryz.func175 (by kernel_rfl) rfl args W) hs (by rw[<-hst];omega) (fun W2 y hW2 _=>CY W2 y w.heap.size x ((hn0.kept hW (fun z=>z)).kept hW2 (fun z=>z)))
 have ET:gV (fun y:aY=>decide (y.id=x.n)) st 0=PA:=ES
 simp only[ET]at hidx
 have hpi2:Calls Tryz.prog 40 #[.pointer (some ⟨X.sb,0,none⟩)] W0 (uF W0 st):=by rw[<-hst];exact hpi
 rw[hst,ES]at h0
 have hfin:∀W,Kept aj w W->dF w X M c (.tuple #[.int .i64 0,.int .i64 7]) M 1 (.returned (.tuple #[.int .i64 0,.int .i64 7])) W:=fun W hW=>⟨rfl,X,Step.refl h hW,hb.mono (Nat.le_succ _)⟩
 have HF:=ah hfin;have uJ:=ah hpi2;have HI:=ah hidx;have bf:=ah hk0
 clear hfin hpi hpi2 hidx hk0 h hb hc hm hx hn0 hoff e1 e2 hst ES ET hp3
 go_enter Tryz.func101,Tryz.ntmps101
 go_wp2_with fail
 clear z0 q2 hW0
 refine uJ.out.mono ?_
 rintro e w2 ⟨A,d,rfl,hn,hk⟩
 have hix:=HI.out w2 A d hk (Src.bC hn.1)
 have Mc:=ah hix;have aW:=ah (bf.out.then hk);clear hix hn hk uJ
 go_wp2_with fail
 refine Mc.out.mono ?_
 rintro e w3 ⟨rfl,hk⟩
 have HF2:=ah (HF.out _ (aW.out.then hk));clear hk Mc
 go_wp2
 go_ret2
 exact HF2.out
theorem Ru(h:dD w X M)(hb:dw X M.lg c)(hc:c<=4000)(hm:bD M k)(x:bF)(hx:iZ w x)(h11:x.k≠11)(h12:x.k=12)(p:aY)(kk:Nat)(h0:dJ M.st.pins x.n=(kk:Int))(hp:M.st.pins[kk]? =some p):
  Calls Tryz.prog 101 #[.pointer (some ⟨X.mb,0,none⟩),gK x] w (dF w X M c (.tuple #[.int .i64 (gY M x).1,.int .i64 (gY M x).2]) (fB M x) 1):=by
 have hpm:p∈M.st.pins:=List.mem_of_getElem? hp
 have hpp:=hm.st.inv.pin p hpm
 have hps:=hm.st.su.pin p hpm
 have e1:fB M x={writeM M (iP p)with pins:=mM M.pins x.n}:=by unfold fB;rw[if_neg h11,if_neg (by omega),h0,Int.toNat_natCast,hp];dsimp only;rw[if_pos h12]
 have e2:gY M x=(x.n,0):=by unfold gY;rw[if_neg h11,if_neg (by omega)]
 rw[e1,e2]
 obtain⟨W0,hW0⟩:∃W0,w.alloc (.cells (aI x).toArray 45)=W0:=⟨_,rfl⟩
 have hk0:Kept aj w W0:=by rw[<-hW0];(repeat'(first|(with_reducible first|exact ak|apply au|apply ay|apply aA|apply aB)|(right;simp;done)))
 have hn0:Has W0 w.heap.size 45 (aI x).toArray:=by rw[<-hW0];exact Has.new _ _ _
 have hoff:¬dX X M w.heap.size:=fun hf=>absurd (h.lt hf) (Nat.lt_irrefl _)
 have z0:W0.cell? ⟨w.heap.size,0,none⟩=some (.int .i64 x.k):=hn0.cell 0
 have q2:W0.cell? ⟨X.mb,2,none⟩=some (.pointer (some ⟨X.sb,0,none⟩)):=(h.quiet hk0).cell (i:=2) rfl
 have hpi:=Fg ((h.quiet hk0).c 2) hm.st.inv.ok
 have hp3:=hm.st.inv.pl
 have afi:(x.k==11)=false:=by simpa using h11
 obtain⟨st,hst⟩:∃st,M.st.pins=st:=⟨_,rfl⟩
 obtain⟨PA,ES⟩:∃PA,dJ st x.n=PA:=⟨_,rfl⟩
 have hidx:=fun W A d (hW:Kept aj W0 W) (hs:Src W 3 A st.length (aS st))=>uw W A d st 175 (.pointer (some ⟨w.heap.size,0,none⟩)) (fun y=>decide (y.id=x.n)) (fun args W=>enters Tryz.func175 (by kernel_rfl) rfl args W) hs (by rw[<-hst];omega) (fun W2 y hW2 _=>CY W2 y w.heap.size x ((hn0.kept hW (fun z=>z)).kept hW2 (fun z=>z)))
 have ET:gV (fun y:aY=>decide (y.id=x.n)) st 0=PA:=ES
 simp only[ET]at hidx
 have hpi2:Calls Tryz.prog 40 #[.pointer (some ⟨X.sb,0,none⟩)] W0 (uF W0 st):=by rw[<-hst];exact hpi
 rw[hst,ES]at h0
 rw[hst]at hp
 subst h0
 have hkl:kk<st.length:=(List.getElem?_eq_some_iff.1 hp).1
 have hk0':(0:Int)<=(kk:Int):=by omega
 have agq:¬(kk:Int)<0:=by omega
 have z7:W0.cell? ⟨w.heap.size,7,none⟩=some (.int .i64 x.n):=hn0.cell 7
 have hwr:∀W,Kept aj W0 W->Calls Tryz.prog 25 #[.pointer (some ⟨X.mb,0,none⟩),.agg (aJ (iP p)).toArray] W fun e w'=>(∃z,e=.returned (.int .i64 z))/\∃X',Step w X M w' X' (writeM M (iP p))/\dw X' (writeM M (iP p)).lg (c+1)/\Has w' w.heap.size 45 (aI x).toArray/\¬dX X' (writeM M (iP p)) w.heap.size:=fun W hW=>by
  refine(write_any ((h.quiet hk0).quiet hW) hb hc hm.st.inv.ok (iP p) (Ir _ _ _ _ _ _) (qx 6 0 p hps (by omega)) (PE _ _)).mono ?_
  rintro e w' ⟨rfl,X',h1,h2⟩
  have h3:=h1.has (hn0.kept hW (fun z=>z)) hoff
  exact⟨⟨_,rfl⟩,X',(Step.refl h (hk0.then hW)).trans h1,h2,h3.1,h3.2⟩
 have Gm:=sJ M (iP p)
 obtain⟨M1,hM1⟩:∃M1,writeM M (iP p)=M1:=⟨_,rfl⟩
 simp only[hM1]at hwr
 rw[hM1]at Gm
 simp only[iP,gG,nt,aJ,List.length_nil,jD]at hwr
 obtain⟨Q,hQ⟩:∃Q,dF w X M c (.tuple #[.int .i64 x.n,.int .i64 0]) {writeM M (iP p)with pins:=mM M.pins x.n} 1=Q:=⟨_,rfl⟩
 have ER:∀W X5,Step w X M W X5 {M1 with pins:=mM M.pins x.n}->dw X5 M1.lg (c+1)->Q (.returned (.tuple #[.int .i64 x.n,.int .i64 0])) W:=fun W X5 h1 h2=>by
  rw[<-hQ,hM1]
  exact⟨rfl,X5,h1,h2⟩
 have e3:dF w X M c (.tuple #[.int .i64 (x.n,(0:Int)).1,.int .i64 (x.n,(0:Int)).2]) {writeM M (iP p)with pins:=mM M.pins x.n} 1=Q:=hQ
 rw[e3]
 have Y7:=ah ER;have zM:=ah Gm;have HW:=ah hwr
 have uJ:=ah hpi2;have HI:=ah hidx;have bf:=ah hk0;have HP:=ah hp;have dO:=ah hn0
 have wH:=ah hm.p3
 clear hpi hpi2 hidx hk0 h hb hc hm hx hn0 hoff e1 e2 e3 hst ES ET hp3 ER Gm hwr hQ hM1 hp hpm hpp hps
 go_enter Tryz.func101,Tryz.ntmps101
 go_wp2_with fail
 refine uJ.out.mono ?_
 rintro e w2 ⟨A,d,rfl,hn,hk⟩
 have hix:=HI.out w2 A d hk (Src.bC hn.1)
 have Mc:=ah hix;have aW:=ah hk;have dL:=ah hn;clear hix hn hk uJ
 have b2:∀W,Kept aj W0 W->True:=fun _ _=>trivial
 clear b2
 clear z0 q2 z7
 go_wp2_with fail
 refine Mc.out.mono ?_
 rintro e w3 ⟨rfl,hk⟩
 have hk3:=aW.out.then hk
 obtain⟨ad,rfl,had,x0,x1,x2⟩:=jw (Src.bC (aF.kept dL.out hk).1) (by omega) kk p HP.out
 have z0:w3.cell? ⟨w.heap.size,0,none⟩=some (.int .i64 x.k):=(dO.out.kept hk3 (fun z=>z)).cell 0
 have z7:w3.cell? ⟨w.heap.size,7,none⟩=some (.int .i64 x.n):=(dO.out.kept hk3 (fun z=>z)).cell 7
 have hwr:=HW.out w3 hk3
 have qM:=ah hwr;clear hwr hk hk3 Mc HW
 go_wp2_with fail
 clear z0 z7 x0 x1 x2
 refine qM.out.mono ?_
 rintro e w5 ⟨⟨zw,rfl⟩,X5,s5,hlb,jO,um⟩
 have z3:w5.cell? ⟨X.mb,3,none⟩=some (.slice X5.pA M.pins.length X5.pc):=by
  have:=s5.at'.cell (i:=3) (v:=.slice X5.pA M1.pins.length X5.pc) rfl
  rw[s5.mb,zM.out]at this;exact this
 have f3:w5.frozen? ⟨X.mb,3,none⟩=false:=by
  have:=Has.frozen (s5.at'.c 0) 3
  rw[s5.mb]at this;exact this
 have p7:w5.cell? ⟨w.heap.size,7,none⟩=some (.int .i64 x.n):=jO.cell 7
 have hsrc:Src w5 3 X5.pA M.pins.length (aS M.pins):=by
  have:=Src.bC (s5.at'.c 3)
  rw[zM.out]at this;exact this
 have hcap:M.pins.length<=X5.pc:=by
  have:=(fV (s5.at'.c 3)).1
  rw[zM.out]at this;exact this
 have hgr:∀W,Kept aj w5 W->_:=fun W hW=>Va W X5.pA X5.pc M.pins x.n (hsrc.kept hW (fun _ _ z=>z)) hcap (by have:=wH.out;omega)
 have hz3:∀W,Kept aj w5 W->W.cell? ⟨X.mb,3,none⟩=some (.slice X5.pA M.pins.length X5.pc)/\W.frozen? ⟨X.mb,3,none⟩=false/\W.cell? ⟨w.heap.size,7,none⟩=some (.int .i64 x.n):=fun W hW=>by
  refine⟨?_,?_,(jO.kept hW (fun z=>z)).cell 7⟩
  ·have:=(s5.at'.quiet hW).cell (i:=3) (v:=.slice X5.pA M1.pins.length X5.pc) rfl
   rw[s5.mb,zM.out]at this;exact this
  ·have:=Has.frozen ((s5.at'.quiet hW).c 0) 3
   rw[s5.mb]at this;exact this
 have DV:=ah hgr;have HZ3:=ah hz3;have pI:=ah s5;have jy:=ah hlb;have uo:=ah jO;have Y8:=ah um
 clear hgr hz3 s5 hlb jO um hsrc hcap
 go_wp2_with fail
 go_region_with (go_at_call 155;refine(DV.out _ (by(repeat'(first|(with_reducible first|exact ak|apply au|apply ay|apply aA|apply aB)|(right;simp;done))))).mono ?_;rintro e w6 ⟨A6,c6,zz,rfl,ED,hk6⟩;have hkk:=Kept.then (F:=aj) (a:=w5) (by(repeat'(first|(with_reducible first|exact ak|apply au|apply ay|apply aA|apply aB)|(right;simp;done)))) hk6;obtain⟨z6,f6,p6⟩:=HZ3.out _ hkk;have xN:=ah ED;have jY:=ah hkk;clear ED hk6 hkk)
 all_goals (
  clear z6 f6 z3 f3 p7
  have hne:¬X.mb=w.heap.size:=fun e=>Y8.out ⟨0,by rw[<-pI.out.mb]at e;exact e.symm⟩
  have hs6:=Step.Bo (pI.out.quiet jY.out) xN.out.1 (fun k hk=>by
   have h1:=xN.out.2 k hk
   have h2:=pI.out.k.size
   have h3:w5.heap.size<=k:=h1
   exact⟨Nat.le_trans h2 h3,fun hf=>by have:=pI.out.at'.lt hf;omega⟩)
  rw[pI.out.mb]at hs6
  have HF:=ah (Y7.out _ _ hs6 ⟨jy.out.n,jy.out.f,jy.out.l,jy.out.hd⟩)
  clear hs6
  go_wp2
  exact HF.out)
theorem Vf(h:dD w X M)(hb:dw X M.lg c)(hc:c<=4000)(hm:bD M k)(x:bF)(hx:iZ w x)(h11:x.k≠11)(h12:x.k≠12)(p:aY)(kk:Nat)(h0:dJ M.st.pins x.n=(kk:Int))(hp:M.st.pins[kk]? =some p):
  Calls Tryz.prog 101 #[.pointer (some ⟨X.mb,0,none⟩),gK x] w (dF w X M c (.tuple #[.int .i64 (gY M x).1,.int .i64 (gY M x).2]) (fB M x) 1):=by
 have hpm:p∈M.st.pins:=List.mem_of_getElem? hp
 have hpp:=hm.st.inv.pin p hpm
 have hps:=hm.st.su.pin p hpm
 have e1:fB M x={writeM M (gG x.n)with pins:=oU M.pins x.n}:=by unfold fB;rw[if_neg h11,if_neg (by omega),h0,Int.toNat_natCast,hp];dsimp only;rw[if_neg h12]
 have e2:gY M x=(x.n,0):=by unfold gY;rw[if_neg h11,if_neg (by omega)]
 rw[e1,e2]
 obtain⟨W0,hW0⟩:∃W0,w.alloc (.cells (aI x).toArray 45)=W0:=⟨_,rfl⟩
 have hk0:Kept aj w W0:=by rw[<-hW0];(repeat'(first|(with_reducible first|exact ak|apply au|apply ay|apply aA|apply aB)|(right;simp;done)))
 have hn0:Has W0 w.heap.size 45 (aI x).toArray:=by rw[<-hW0];exact Has.new _ _ _
 have hoff:¬dX X M w.heap.size:=fun hf=>absurd (h.lt hf) (Nat.lt_irrefl _)
 have z0:W0.cell? ⟨w.heap.size,0,none⟩=some (.int .i64 x.k):=hn0.cell 0
 have q2:W0.cell? ⟨X.mb,2,none⟩=some (.pointer (some ⟨X.sb,0,none⟩)):=(h.quiet hk0).cell (i:=2) rfl
 have hpi:=Fg ((h.quiet hk0).c 2) hm.st.inv.ok
 have hp3:=hm.st.inv.pl
 have afi:(x.k==11)=false:=by simpa using h11
 obtain⟨st,hst⟩:∃st,M.st.pins=st:=⟨_,rfl⟩
 obtain⟨PA,ES⟩:∃PA,dJ st x.n=PA:=⟨_,rfl⟩
 have hidx:=fun W A d (hW:Kept aj W0 W) (hs:Src W 3 A st.length (aS st))=>uw W A d st 175 (.pointer (some ⟨w.heap.size,0,none⟩)) (fun y=>decide (y.id=x.n)) (fun args W=>enters Tryz.func175 (by kernel_rfl) rfl args W) hs (by rw[<-hst];omega) (fun W2 y hW2 _=>CY W2 y w.heap.size x ((hn0.kept hW (fun z=>z)).kept hW2 (fun z=>z)))
 have ET:gV (fun y:aY=>decide (y.id=x.n)) st 0=PA:=ES
 simp only[ET]at hidx
 have hpi2:Calls Tryz.prog 40 #[.pointer (some ⟨X.sb,0,none⟩)] W0 (uF W0 st):=by rw[<-hst];exact hpi
 rw[hst,ES]at h0
 rw[hst]at hp
 subst h0
 have hkl:kk<st.length:=(List.getElem?_eq_some_iff.1 hp).1
 have hk0':(0:Int)<=(kk:Int):=by omega
 have agq:¬(kk:Int)<0:=by omega
 have z7:W0.cell? ⟨w.heap.size,7,none⟩=some (.int .i64 x.n):=hn0.cell 7
 have hwr:∀W,Kept aj W0 W->Calls Tryz.prog 25 #[.pointer (some ⟨X.mb,0,none⟩),.agg (aJ (gG x.n)).toArray] W fun e w'=>(∃z,e=.returned (.int .i64 z))/\∃X',Step w X M w' X' (writeM M (gG x.n))/\dw X' (writeM M (gG x.n)).lg (c+1)/\Has w' w.heap.size 45 (aI x).toArray/\¬dX X' (writeM M (gG x.n)) w.heap.size:=fun W hW=>by
  refine(write_any ((h.quiet hk0).quiet hW) hb hc hm.st.inv.ok (gG x.n) (Ir _ _ _ _ _ _) (qx 7 x.n ⟨0,0,0⟩ (by decide) (by decide)) (Jb _ _)).mono ?_
  rintro e w' ⟨rfl,X',h1,h2⟩
  have h3:=h1.has (hn0.kept hW (fun z=>z)) hoff
  exact⟨⟨_,rfl⟩,X',(Step.refl h (hk0.then hW)).trans h1,h2,h3.1,h3.2⟩
 have Gm:=sJ M (gG x.n)
 obtain⟨M1,hM1⟩:∃M1,writeM M (gG x.n)=M1:=⟨_,rfl⟩
 simp only[hM1]at hwr
 rw[hM1]at Gm
 simp only[iP,gG,nt,aJ,List.length_nil,jD]at hwr
 obtain⟨Q,hQ⟩:∃Q,dF w X M c (.tuple #[.int .i64 x.n,.int .i64 0]) {writeM M (gG x.n)with pins:=oU M.pins x.n} 1=Q:=⟨_,rfl⟩
 have ER:∀W X5,Step w X M W X5 {M1 with pins:=oU M.pins x.n}->dw X5 M1.lg (c+1)->Q (.returned (.tuple #[.int .i64 x.n,.int .i64 0])) W:=fun W X5 h1 h2=>by
  rw[<-hQ,hM1]
  exact⟨rfl,X5,h1,h2⟩
 have e3:dF w X M c (.tuple #[.int .i64 (x.n,(0:Int)).1,.int .i64 (x.n,(0:Int)).2]) {writeM M (gG x.n)with pins:=oU M.pins x.n} 1=Q:=hQ
 rw[e3]
 have Y7:=ah ER;have zM:=ah Gm;have HW:=ah hwr
 have uJ:=ah hpi2;have HI:=ah hidx;have bf:=ah hk0;have HP:=ah hp;have dO:=ah hn0
 have wH:=ah hm.p3
 clear hpi hpi2 hidx hk0 h hb hc hm hx hn0 hoff e1 e2 e3 hst ES ET hp3 ER Gm hwr hQ hM1 hp hpm hpp hps
 go_enter Tryz.func101,Tryz.ntmps101
 go_wp2_with fail
 refine uJ.out.mono ?_
 rintro e w2 ⟨A,d,rfl,hn,hk⟩
 have hix:=HI.out w2 A d hk (Src.bC hn.1)
 have Mc:=ah hix;have aW:=ah hk;have dL:=ah hn;clear hix hn hk uJ
 have b2:∀W,Kept aj W0 W->True:=fun _ _=>trivial
 clear b2
 clear z0 q2 z7
 go_wp2_with fail
 refine Mc.out.mono ?_
 rintro e w3 ⟨rfl,hk⟩
 have hk3:=aW.out.then hk
 obtain⟨ad,rfl,had,x0,x1,x2⟩:=jw (Src.bC (aF.kept dL.out hk).1) (by omega) kk p HP.out
 have z0:w3.cell? ⟨w.heap.size,0,none⟩=some (.int .i64 x.k):=(dO.out.kept hk3 (fun z=>z)).cell 0
 have z7:w3.cell? ⟨w.heap.size,7,none⟩=some (.int .i64 x.n):=(dO.out.kept hk3 (fun z=>z)).cell 7
 have hwr:=HW.out w3 hk3
 have qM:=ah hwr;clear hwr hk hk3 Mc HW
 go_wp2_with fail
 clear z0 z7 x0 x1 x2
 refine qM.out.mono ?_
 rintro e w5 ⟨⟨zw,rfl⟩,X5,s5,hlb,jO,um⟩
 have z3:w5.cell? ⟨X.mb,3,none⟩=some (.slice X5.pA M.pins.length X5.pc):=by
  have:=s5.at'.cell (i:=3) (v:=.slice X5.pA M1.pins.length X5.pc) rfl
  rw[s5.mb,zM.out]at this;exact this
 have f3:w5.frozen? ⟨X.mb,3,none⟩=false:=by
  have:=Has.frozen (s5.at'.c 0) 3
  rw[s5.mb]at this;exact this
 have p7:w5.cell? ⟨w.heap.size,7,none⟩=some (.int .i64 x.n):=jO.cell 7
 have hsrc:Src w5 3 X5.pA M.pins.length (aS M.pins):=by
  have:=Src.bC (s5.at'.c 3)
  rw[zM.out]at this;exact this
 have hcap:M.pins.length<=X5.pc:=by
  have:=(fV (s5.at'.c 3)).1
  rw[zM.out]at this;exact this
 have hgr:∀W,Kept aj w5 W->_:=fun W hW=>Zb W X5.pA X5.pc M.pins x.n (hsrc.kept hW (fun _ _ z=>z)) (by have:=wH.out;omega)
 have hz3:∀W,Kept aj w5 W->W.cell? ⟨X.mb,3,none⟩=some (.slice X5.pA M.pins.length X5.pc)/\W.frozen? ⟨X.mb,3,none⟩=false/\W.cell? ⟨w.heap.size,7,none⟩=some (.int .i64 x.n):=fun W hW=>by
  refine⟨?_,?_,(jO.kept hW (fun z=>z)).cell 7⟩
  ·have:=(s5.at'.quiet hW).cell (i:=3) (v:=.slice X5.pA M1.pins.length X5.pc) rfl
   rw[s5.mb,zM.out]at this;exact this
  ·have:=Has.frozen ((s5.at'.quiet hW).c 0) 3
   rw[s5.mb]at this;exact this
 have DV:=ah hgr;have HZ3:=ah hz3;have pI:=ah s5;have jy:=ah hlb;have uo:=ah jO;have Y8:=ah um
 clear hgr hz3 s5 hlb jO um hsrc hcap
 go_wp2_with fail
 go_region_with (go_at_call 90;refine(DV.out _ (by(repeat'(first|(with_reducible first|exact ak|apply au|apply ay|apply aA|apply aB)|(right;simp;done))))).mono ?_;rintro e w6 ⟨A6,c6,zz,rfl,ED,hk6⟩;have hkk:=Kept.then (F:=aj) (a:=w5) (by(repeat'(first|(with_reducible first|exact ak|apply au|apply ay|apply aA|apply aB)|(right;simp;done)))) hk6;obtain⟨z6,f6,p6⟩:=HZ3.out _ hkk;have xN:=ah ED;have jY:=ah hkk;clear ED hk6 hkk)
 all_goals (
  clear z6 f6 z3 f3 p7
  have hne:¬X.mb=w.heap.size:=fun e=>Y8.out ⟨0,by rw[<-pI.out.mb]at e;exact e.symm⟩
  have hs6:=Step.Bo (pI.out.quiet jY.out) xN.out.1 (fun k hk=>by
   have h1:=xN.out.2 k hk
   have h2:=pI.out.k.size
   have h3:w5.heap.size<=k:=h1
   exact⟨Nat.le_trans h2 h3,fun hf=>by have:=pI.out.at'.lt hf;omega⟩)
  rw[pI.out.mb]at hs6
  have HF:=ah (Y7.out _ _ hs6 ⟨jy.out.n,jy.out.f,jy.out.l,jy.out.hd⟩)
  clear hs6
  go_wp2
  exact HF.out)
theorem Vg(h:dD w X M)(hb:dw X M.lg c)(hc:c<=4000)(hm:bD M k)(x:bF)(hx:iZ w x):
  Calls Tryz.prog 101 #[.pointer (some ⟨X.mb,0,none⟩),gK x] w (dF w X M c (.tuple #[.int .i64 (gY M x).1,.int .i64 (gY M x).2]) (fB M x) 1):=by
 by_cases h11:x.k=11
 ·exact Zc h hb hc hm x hx h11
 ·rcases oH M.st.pins x.n with h0|⟨kk,p,h0,hp,-⟩
  ·exact Ve h hb hc hm x hx h11 (by omega)
  ·by_cases h12:x.k=12
   ·exact Ru h hb hc hm x hx h11 h12 p kk h0 hp
   ·exact Vf h hb hc hm x hx h11 h12 p kk h0 hp
end
end dH
end Go.Proofs.YtfjdpbbgfjhnlaaGreat
