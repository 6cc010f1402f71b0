/- Part 42 of what the proof needs. -/
import Derived.Test.YtolkgbafebehfaaGreatZP40
set_option linter.unusedSimpArgs false
set_option linter.unusedVariables false
set_option maxHeartbeats 32000000
set_option maxRecDepth 100000
namespace Go.Proofs.YtolkgbafebehfaaGreat
open Go.RowKit
set_option maxRecDepth 100000
namespace dM
open aP Vn Mst lJ IM nG gX
def ji(p:aZ):aN:=nt 6 0 p ⟨0,0,[]⟩
def granted(l:List aZ)(id at':Int):List aZ:=if eF.kE l id=0 then l++[⟨id,at',8⟩]else []
def rV(M:MR)(at':Int):MR:=if at'<M.st.hz then M else if bF M.st (ji ⟨M.st.top+1,at',8⟩)≠0 then M else{writeM M (ji ⟨M.st.top+1,at',8⟩)with pins:=granted M.pins (M.st.top+1) at'}
def pK(M:MR)(at':Int):Int×Int:=if at'<M.st.hz then (0,13)else if bF M.st (ji ⟨M.st.top+1,at',8⟩)≠0 then (0,bF M.st (ji ⟨M.st.top+1,at',8⟩))else(M.st.top+1,0)
section
variable{w w':World}{X X0:MX}{M M0:MR}{c k:Nat}
theorem KF(F:Nat->Prop)(p:aZ):FM F (ji p):=⟨fun h=>absurd h (Nat.lt_irrefl _),fun h=>absurd h (Nat.lt_irrefl _),fun h=>absurd h (Nat.lt_irrefl _)⟩
theorem MZ(l:List aZ)(id at':Int):(granted l id at').length<=3:=by
 unfold granted
 split
 ·rename_i h
  unfold eF.kE at h
  split at h
  ·cases h
  ·rw[List.length_append];simp only[List.length_singleton];omega
 ·exact Nat.zero_le _
theorem bQ.rV(h:bQ M k)(at':Int)(ha:0<=at'/\at'<=aT):bQ (dM.rV M at') k:=by
 unfold dM.rV
 split
 ·exact h
 ·split
  ·exact h
  ·have h1:=h.write (tK 6 0 ⟨M.st.top+1,at',8⟩ ha (by have:=h.st.inv.top;dsimp only;omega))
   refine⟨h1.st,MZ _ _ _,fun p hp=> ?_,h1.sF,h1.last,h1.marks,h1.iP,h1.cnt⟩
   dsimp only[granted]at hp
   split at hp
   ·rcases List.mem_append.1 hp with y|y
    ·exact h.pin p y
    ·simp only[List.mem_singleton]at y;subst y;exact⟨by show(0:Int)<=8;decide,by show(8:Int)<=8;decide,ha.1,ha.2⟩
   ·cases hp
theorem XB(M:MR)(at':Int):(rV M at').out=M.out:=by
 unfold rV
 split
 ·rfl
 ·split
  ·rfl
  ·exact oh _ _
theorem He(w:World)(A:Option Addr)(c:Nat)(l:List aZ)(id at':Int)(hl:Src w 3 A l.length (aK l))(hlc:l.length<=c):
  Calls Tryz.prog 342 #[.slice A l.length c,.int .i64 id,.int .u64 at'] w fun e w'=>∃A' c' z,e=.returned (.tuple #[.slice A' (granted l id at').length c',.int .i64 z])/\aF 79 3 w.heap.size w' A' (granted l id at').length c' (aK (granted l id at'))/\Kept aj w w':=by
 by_cases h0:eF.kE l id=0
 ·refine(eF.V6 w A c l id at' hl hlc h0).mono ?_
  rintro e w' ⟨A',c',rfl,h1,h2⟩
  have e1:granted l id at'=l++[⟨id,at',8⟩]:=if_pos h0
  rw[e1,List.length_append]
  exact⟨A',c',0,rfl,h1,h2⟩
 ·refine(eF.RU w A c l id at' hl hlc h0).mono ?_
  rintro e w' ⟨rfl,hk⟩
  have e1:granted l id at'=[]:=if_neg h0
  rw[e1]
  exact⟨none,0,_,rfl,aF.nil _ _ _ _,hk⟩
theorem Fj(h:dG w X M)(hb:cZ X M.lg c)(hc:c<=4000)(hm:bQ M k)(at':Int)(ha:0<=at'/\at'<=aT):
  Calls Tryz.prog 248 #[.pointer (some ⟨X.mb,0,none⟩),.int .u64 at'] w (dK w X M c (.tuple #[.int .i64 (pK M at').1,.int .i64 (pK M at').2]) (rV M at') 1):=by
 have q2:∀W,Kept aj w W->W.cell? ⟨X.mb,2,none⟩=some (.pointer (some ⟨X.sb,0,none⟩)):=fun W hW=>(h.quiet hW).cell (i:=2) rfl
 have hho:∀W,Kept aj w W->Calls Tryz.prog 69 #[.pointer (some ⟨X.sb,0,none⟩)] W fun e w'=>e=.returned (.int .u64 M.st.hz)/\Kept aj W w':=fun W hW=>zf ((h.quiet hW).c 2)
 have hto:∀W,Kept aj w W->Calls Tryz.prog 341 #[.pointer (some ⟨X.sb,0,none⟩)] W fun e w'=>e=.returned (.int .i64 M.st.top)/\Kept aj W w':=fun W hW=>aaE ((h.quiet hW).c 2)
 have htop:=hm.st.inv.top
 by_cases h1:at'<M.st.hz
 ·have e1:rV M at'=M:=if_pos h1
  have e2:pK M at'=(0,13):=if_pos h1
  rw[e1,e2]
  have hfin:∀W,Kept aj w W->dK w X M c (.tuple #[.int .i64 0,.int .i64 13]) M 1 (.returned (.tuple #[.int .i64 0,.int .i64 13])) W:=fun W hW=>⟨rfl,X,Step.refl h hW,hb.mono (Nat.le_succ _)⟩
  have z2:=q2 w (Kept.refl _ _)
  obtain⟨hz,hhz⟩:∃hz,M.st.hz=hz:=⟨_,rfl⟩
  rw[hhz]at h1 hho
  have HF:=ah hfin;have HH:=ah hho
  clear hfin hho h hb hc hm ha q2 hto htop e1 e2 hhz
  go_enter Tryz.func248,Tryz.ntmps248
  go_wp2_with fail
  refine(HH.out _ (Kept.refl _ _)).mono ?_
  rintro e w2 ⟨rfl,hk⟩
  have Tf:=ah (HF.out _ hk)
  clear z2 hk
  go_wp2
  go_ret2
  exact Tf.out
 ·obtain⟨top,htp⟩:∃top,M.st.top=top:=⟨_,rfl⟩
  have hwrap:IntKind.i64.wrap (top+1)=top+1:=IntWalk.i64_in _ (by rw[<-htp];omega)
  have YR:rV M at'=if bF M.st (ji ⟨top+1,at',8⟩)≠0 then M else{writeM M (ji ⟨top+1,at',8⟩)with pins:=granted M.pins (top+1) at'}:=by unfold rV;rw[if_neg h1,htp]
  have YS:pK M at'=if bF M.st (ji ⟨top+1,at',8⟩)≠0 then (0,bF M.st (ji ⟨top+1,at',8⟩))else(top+1,0):=by unfold pK;rw[if_neg h1,htp]
  rw[htp]at hto
  have hwr:∀W,Kept aj w W->Calls Tryz.prog 44 #[.pointer (some ⟨X.mb,0,none⟩),.agg (aH (ji ⟨top+1,at',8⟩)).toArray] W fun e w'=>e=.returned (.int .i64 (bF M.st (ji ⟨top+1,at',8⟩)))/\∃X',Step W X M w' X' (writeM M (ji ⟨top+1,at',8⟩))/\cZ X' (writeM M (ji ⟨top+1,at',8⟩)).lg (c+1):=fun W hW=>by
   refine(write_any (h.quiet hW) hb hc hm.st.inv.ok (ji ⟨top+1,at',8⟩) (Ej _ _ _ _ _ _) (tK _ _ _ ha (by dsimp only;omega)) (KF _ _)).mono ?_
   rintro e w' ⟨rfl,h⟩
   exact⟨rfl,h⟩
  have hgr:=He
  obtain⟨N,hN⟩:∃N,N=ji ⟨top+1,at',8⟩:=⟨_,rfl⟩
  obtain⟨E,hE⟩:∃E,bF M.st (ji ⟨top+1,at',8⟩)=E:=⟨_,rfl⟩
  obtain⟨M1,hM1⟩:∃M1,writeM M (ji ⟨top+1,at',8⟩)=M1:=⟨_,rfl⟩
  have hMb:E≠0->M1=M:=fun h0=>by rw[<-hM1];exact if_neg (by rw[hE];exact h0)
  have C6:M1.pins=M.pins:=by rw[<-hM1];unfold writeM;split<;>rfl
  rw[hE,hM1]at YR
  rw[hE]at YS
  simp only[hE,hM1]at hwr
  simp only[ji,nt,aH,List.length_nil,lF]at hwr
  obtain⟨Q,hQ⟩:∃Q,dK w X M c (.tuple #[.int .i64 (pK M at').1,.int .i64 (pK M at').2]) (rV M at') 1=Q:=⟨_,rfl⟩
  rw[hQ]
  have YT:E≠0->∀W X5,Step w X M W X5 M1->cZ X5 M1.lg (c+1)->Q (.returned (.tuple #[.int .i64 0,.int .i64 E])) W:=fun h0 W X5 h1 h2=>by
   rw[YR,YS,if_pos h0,if_pos h0]at hQ
   rw[<-hQ]
   rw[hMb h0]at h1 h2
   exact⟨rfl,X5,h1,h2⟩
  have BA:E=0->∀W X5,Step w X M W X5 {M1 with pins:=granted M.pins (top+1) at'}->cZ X5 M1.lg (c+1)->Q (.returned (.tuple #[.int .i64 (top+1),.int .i64 0])) W:=fun h0 W X5 h1 h2=>by
   rw[YR,YS,if_neg (fun h=>h h0),if_neg (fun h=>h h0)]at hQ
   rw[<-hQ]
   exact⟨rfl,X5,h1,h2⟩
  have HQB:=ah YT;have UA:=ah BA;clear YT BA hQ
  have z2:=q2 w (Kept.refl _ _)
  obtain⟨hz,hhz⟩:∃hz,M.st.hz=hz:=⟨_,rfl⟩
  rw[hhz]at h1 hho
  have HH:=ah hho;have HT:=ah hto;have HW:=ah hwr;have zL:=ah q2;have H:=ah h;have HB:=ah hb;have Nu:=ah hMb;have xH:=ah C6;have HM:=ah hm
  clear hho hto hwr q2 h hb hc hm ha hhz YR YS hE hM1 hMb C6 htp htop hN N hgr
  go_enter Tryz.func248,Tryz.ntmps248
  go_wp2_with fail
  refine(HH.out _ (Kept.refl _ _)).mono ?_
  rintro e w2 ⟨rfl,hk2⟩
  clear z2
  have z2:=zL.out _ hk2
  have aQ:=ah hk2;clear hk2
  go_wp2_with fail
  refine(HT.out _ aQ.out).mono ?_
  rintro e w3 ⟨rfl,hk3⟩
  clear z2
  obtain⟨W4,xu⟩:∃W4,w3.alloc (.cells #[.int .i64 (top+1),.int .u64 at',.int .i64 8] 79)=W4:=⟨_,rfl⟩
  have hk4:Kept aj w W4:=by rw[<-xu];(repeat'(first|(with_reducible first|exact ak|apply au|apply ay|apply aA|apply aB)|(exact aQ.out.then hk3)|(right;simp;done)))
  have hn4:Has W4 w3.heap.size 79 #[.int .i64 (top+1),.int .u64 at',.int .i64 8]:=by rw[<-xu];exact Has.new _ _ _
  have hoff:¬dU X M w3.heap.size:=fun hf=>by have:=H.out.lt hf;have:=aQ.out.size;have:=hk3.size;omega
  obtain⟨pb,hpb⟩:∃pb,w3.heap.size=pb:=⟨_,rfl⟩
  rw[hpb]at hn4 hoff
  have p0:W4.cell? ⟨pb,0,none⟩=some (.int .i64 (top+1)):=hn4.cell 0
  have p1:W4.cell? ⟨pb,1,none⟩=some (.int .u64 at'):=hn4.cell 1
  have p2:W4.cell? ⟨pb,2,none⟩=some (.int .i64 8):=hn4.cell 2
  have hwr:=HW.out _ hk4
  have oM:=ah hwr;have dR:=ah hk4;have NY:=ah hn4;have qo:=ah hoff
  clear hwr hk4 hn4 hoff hk3
  go_wp2_with fail
  clear p0 p1 p2 xu
  refine oM.out.mono ?_
  rintro e w5 ⟨rfl,X5,hst,hlb⟩
  have s5:=(Step.refl H.out dR.out).trans hst
  obtain⟨jT,qY⟩:=hst.has NY.out qo.out
  have hze:E=0\/E≠0:=by omega
  rcases hze with hE0|hE0
  rotate_left
  ·have hz0:(E !=0)=true:=by simpa using hE0
   have HF:=ah (HQB.out hE0 _ _ s5 hlb)
   clear s5 hlb hst jT qY hE0
   go_wp2
   exact HF.out
  ·subst hE0
   have acS:=ah (UA.out rfl)
   have z3:w5.cell? ⟨X.mb,3,none⟩=some (.slice X5.pA M.pins.length X5.pc):=by
    have:=s5.at'.cell (i:=3) (v:=.slice X5.pA M1.pins.length X5.pc) rfl
    rw[s5.mb,xH.out]at this;exact this
   have f3:w5.frozen? ⟨X.mb,3,none⟩=false:=by
    have:=Has.frozen (s5.at'.c 0) 3
    rw[s5.mb]at this;exact this
   have p5:w5.cell? ⟨pb,0,none⟩=some (.int .i64 (top+1)):=jT.cell 0
   have hsrc:Src w5 3 X5.pA M.pins.length (aK M.pins):=by
    have:=Src.bC (s5.at'.c 3)
    rw[xH.out]at this;exact this
   have hcap:M.pins.length<=X5.pc:=by
    have:=(jk (s5.at'.c 3)).1
    rw[xH.out]at this;exact this
   have hgr:∀W,Kept aj w5 W->_:=fun W hW=>He W X5.pA X5.pc M.pins (top+1) at' (hsrc.kept hW (fun _ _ z=>z)) hcap
   have hz3:∀W,Kept aj w5 W->W.cell? ⟨X.mb,3,none⟩=some (.slice X5.pA M.pins.length X5.pc)/\W.frozen? ⟨X.mb,3,none⟩=false/\W.cell? ⟨pb,0,none⟩=some (.int .i64 (top+1)):=fun W hW=>by
    refine⟨?_,?_,(jT.kept hW (fun z=>z)).cell 0⟩
    ·have:=(s5.at'.quiet hW).cell (i:=3) (v:=.slice X5.pA M1.pins.length X5.pc) rfl
     rw[s5.mb,xH.out]at this;exact this
    ·have:=Has.frozen ((s5.at'.quiet hW).c 0) 3
     rw[s5.mb]at this;exact this
   have zX:=ah hgr;have HZ3:=ah hz3;have nH:=ah s5;have iW:=ah hlb;have uf:=ah jT;have UB:=ah qY
   clear hgr hz3 s5 hlb hst jT qY hsrc hcap
   go_wp2_with fail
   go_region_with (go_at_call 342;refine(zX.out _ (by(repeat'(first|(with_reducible first|exact ak|apply au|apply ay|apply aA|apply aB)|(right;simp;done))))).mono ?_;rintro e w6 ⟨A6,c6,zz,rfl,AY,hk6⟩;have hkk:=Kept.then (F:=aj) (a:=w5) (by(repeat'(first|(with_reducible first|exact ak|apply au|apply ay|apply aA|apply aB)|(right;simp;done)))) hk6;obtain⟨z6,f6,p6⟩:=HZ3.out _ hkk;have zQ:=ah AY;have jV:=ah hkk;clear AY hk6 hkk)
   all_goals (
    clear z6 f6 z3 f3 p5
    have hne:¬X.mb=pb:=fun e=>UB.out ⟨0,by rw[<-nH.out.mb]at e;exact e.symm⟩
    have hs6:=Step.Cb (nH.out.quiet jV.out) zQ.out.1 (fun k hk=>by
     have h1:=zQ.out.2 k hk
     have h2:=nH.out.k.size
     have h3:w5.heap.size<=k:=h1
     exact⟨Nat.le_trans h2 h3,fun hf=>by have:=nH.out.at'.lt hf;omega⟩)
    rw[nH.out.mb]at hs6
    have HF:=ah (acS.out _ _ hs6 ⟨iW.out.n,iW.out.f,iW.out.l,iW.out.hd⟩)
    clear hs6
    go_wp2
    exact HF.out)
end
end dM
end Go.Proofs.YtolkgbafebehfaaGreat
