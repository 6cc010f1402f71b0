/- Part 30 of what the proof needs. -/
import Derived.Test.YtfjdpbbgfjhnlaaGreatMK28
set_option linter.unusedSimpArgs false
set_option linter.unusedVariables false
set_option maxHeartbeats 32000000
set_option maxRecDepth 100000
namespace Go.Proofs.YtfjdpbbgfjhnlaaGreat
open Go.RowKit
set_option maxRecDepth 100000
namespace dH
open aO Vn Mst lV IM mY gZ
theorem Tn{w:World}{X:MX}{L:oq}(h:rX w X L):Pt.EG (fun j=>(aH.dataOf X.m X.ps (L.first+j)).size) (Wl.cur L.R L.T).length=L.size:=by
 unfold oq.size
 congr 1
 funext j
 rw[(h.log.file j).2,<-Ops.bJ,Ops.jd]
theorem G5{s:bQ}(hu:SU s)(pre:List aG)(hp:∀x∈pre,NU x):∀x∈pre++s.pins.map gI++jI s++[dV s.hz]++dI (iL s),NU x:=by
 intro x hx
 have z:(0:Int)<=0/\(0:Int)<=aT:=by decide
 simp only[List.mem_append,List.mem_map,List.mem_singleton]at hx
 rcases hx with(((hx|⟨p,hp2,rfl⟩)|hx)|rfl)|hx
 ·exact hp x hx
 ·exact⟨z,hu.pin p hp2,z,z⟩
 ·unfold jI at hx
  split at hx
  ·cases hx
  ·rw[List.mem_singleton.1 hx];exact⟨z,z,z,z⟩
 ·exact⟨hu.hz,z,z,z⟩
 ·unfold dI at hx
  obtain⟨a,_,rfl⟩:=List.mem_map.1 hx
  exact⟨z,z,z,z⟩
theorem I8{w:World}{x:aG}(h1:x.ms=[])(h2:x.lg=[])(h3:x.b.ops=[]):iI w x:=by
 refine⟨?_,?_,?_,?_,?_,?_,?_⟩
 ·rw[h1];exact Src.nil _ _ _
 ·rw[h1];exact Nat.zero_le _
 ·rw[h1];exact Nat.zero_le _
 ·rw[h2];exact Src.nil _ _ _
 ·rw[h2];exact Nat.zero_le _
 ·rw[h2];exact Nat.zero_le _
 ·rw[h3];exact Src.nil _ _ _
theorem YW{w:World}{s:bQ}{pre:List aG}(hok:nZ s)(hp:xR w s pre):∀x∈pre++s.pins.map gI++jI s++[dV s.hz]++dI (iL s),iI w x:=by
 intro x hx
 simp only[List.mem_append,List.mem_map,List.mem_singleton]at hx
 rcases hx with(((hx|⟨p,hp2,rfl⟩)|hx)|rfl)|hx
 ·rcases hp with⟨rfl,_⟩|⟨_,A,c,B,d,rfl,h1,h2⟩
  ·cases hx
  ·rw[List.mem_singleton.1 hx]
   exact⟨Src.bC h1,(fV h1).1,hok.m,Src.bC h2,(fV h2).1,hok.l,Src.nil _ _ _⟩
 ·exact I8 rfl rfl rfl
 ·unfold jI at hx
  split at hx
  ·cases hx
  ·rw[List.mem_singleton.1 hx];exact I8 rfl rfl rfl
 ·exact I8 rfl rfl rfl
 ·unfold dI at hx
  obtain⟨a,_,rfl⟩:=List.mem_map.1 hx
  exact I8 rfl rfl rfl
theorem afb{w:World}{s:bQ}{pre:List aG}(hu:SU s)(hp:xR w s pre):∀x∈pre,NU x:=by
 have z:(0:Int)<=0/\(0:Int)<=aT:=by decide
 rcases hp with⟨rfl,_⟩|⟨_,A,c,B,d,rfl,h1,h2⟩
 ·intro x hx;cases hx
 ·intro x hx
  rw[List.mem_singleton.1 hx]
  exact⟨z,z,hu.fl,z⟩
theorem adJ{w:World}{s:bQ}{pre:List aG}(hp:xR w s pre):pre.length<=1:=by
 rcases hp with⟨rfl,_⟩|⟨_,A,c,B,d,rfl,h1,h2⟩
 ·exact Nat.zero_le _
 ·exact Nat.le_refl _
section
variable{w w':World}{X X0:MX}{M M0:MR}{c:Nat}
def YX(w:World)(TX:List ByteArray)(e:Ending)(w':World):Prop:=∃A d,e=.returned (.slice A TX.length d)/\aF 9 1 w.heap.size w' A TX.length d (TX.map Value.string)/\Kept aj w w'
def acN(w:World)(s:bQ)(e:Ending)(w':World):Prop:=∃A d pre l,e=.returned (.slice A l.length d)/\kG w s w' pre l A d/\l=pre++s.pins.map gI++jI s++[dV s.hz]++dI (iL s)
theorem Pj(w:World)(s:bQ)(TX:List ByteArray)(hT:fG (lT s)=TX)(A:Option Addr)(d:Nat)(pre l:List aG)(w0:World)(hs:kG w0 s w pre l A d)(hl:l=pre++s.pins.map gI++jI s++[dV s.hz]++dI (iL s))(hok:nZ s)(hu:SU s)(hp:s.pins.length<=3):
  Calls Tryz.prog 69 #[.slice A l.length d] w (YX w TX):=by
 have hlen:=LV s pre (adJ hs.pre)
 have hE:=YR hs.pre
 rw[<-hl]at hE hlen
 unfold YX
 rw[<-hT,<-hE]
 exact Le w A d _ (Src.bC hs.own) (by omega) (fun x hx=>⟨YW hok hs.pre x (by rw[<-hl];exact hx),G5 hu pre (afb hu hs.pre) x (by rw[<-hl];exact hx)⟩)
theorem U5(s:bQ):(fG (lT s)).length<=s.pins.length+6:=by
 refine Nat.le_trans (I5 _) ?_
 unfold lT
 refine LV s _ ?_
 split<;>simp
theorem Rq{s:bQ}(hu:SU s):∀t∈fG (lT s),t.size<65536:=by
 intro t ht
 unfold fG at ht
 obtain⟨x,hx,rfl⟩:=List.mem_map.1 ht
 have hm:=(List.mem_filter.1 hx).1
 have z:(0:Int)<=0/\(0:Int)<=aT:=by decide
 have:=EI (G5 hu (if 0<s.ep then [lY s none 0 none 0]else []) (fun x hx=>by
  split at hx
  ·rw[List.mem_singleton.1 hx];exact⟨z,z,hu.fl,z⟩
  ·cases hx) x hm)
 omega
theorem aF.lower{e:TypeId}{size B B' n d:Nat}{w:World}{A:Option Addr}{xs:List Value}(h:aF e size B w A n d xs)(hB:B'<=B):aF e size B' w A n d xs:=⟨h.1,fun k hk=>Nat.le_trans hB (h.2 k hk)⟩
theorem LW{w3:World}{X3:MX}{L:oq}(TX:List ByteArray)(hT:fG (lT M.st)=TX)(hst:Step w X M w3 X3 {M with lg:=L})(hlb:dw X3 L c)(hc:c<=4000)(hu:SU M.st)(hp3:M.st.pins.length<=3):
  ∀(W:World) (A:Option Addr) (d:Nat),Kept aj w3 W->aF 9 1 w3.heap.size W A TX.length d (TX.map Value.string)->
   Calls Tryz.prog 68 #[.pointer (some ⟨X.gp,0,none⟩),.slice A TX.length d] W fun e w'=>e=.returned (.int .i64 0)/\∃X',Step w X M w' X' {M with lg:=L.save TX}/\dw X' (L.save TX) (c+1):=fun W A d hW hr=>by
 subst hT
 have hm:=hst.at'.quiet hW
 have hlen:=U5 M.st
 have hsv:=YV hm (c:=c) hlb (by omega) A d (fG (lT M.st)) (Src.bC hr.1) (fun h0 ad e hf=>by
  obtain⟨g,cap,hv,_,hlt⟩:=hr.1.form h0
  rw[e]at hv
  injection hv with hv
  injection hv with hv
  have h1:=hst.at'.lt hf
  have h2:=hr.2 g (by rw[e,hv];rfl)
  rw[hv]at h1
  dsimp only at h1
  omega) (Rq hu) (by omega)
 rw[hst.gp]at hsv
 refine hsv.mono ?_
 rintro e w' ⟨he,X',h1,h2⟩
 exact⟨he,X',(hst.quiet hW).trans h1,h2⟩
theorem CX{w6:World}{X6:MX}{L:oq}(hst:Step w X M w6 X6 {M with lg:=L})(hL:l7 M={M with lg:=L,out:=[]})(hlb:dw X6 L (c+1)):
  G4 w X M c (.returned (.slice X6.oA M.out.length X6.oc)) (w6.setCell ⟨X.mb,11,none⟩ (.slice none 0 0)):=by
 have hmb:=hst.mb
 have hcl:=hst.abh
 have e0:(⟨X.mb,11,none⟩:Addr)=⟨X6.mb,11,none⟩:=by rw[hmb]
 rw[e0]
 have hrow:w6.ownsRow 0 240 2 (.slice X6.oA M.out.length X6.oc) M.out.length (uM M.out):=hst.at'.c 10
 refine⟨X6.oA,X6.oc,rfl,aC (F:=fun k=>k=X6.mb) hrow ((Kept.refl _ w6).put (.inl rfl)) (fun g hg e=>absurd (hst.at'.ap 0 10 g e hg) (by decide)),fun k hk=>hst.g k ⟨10,hk⟩,{X6 with oA:=none,oc:=0},?_,?_,?_⟩
 ·rw[hL];exact hcl
 ·rw[hL];exact⟨hlb.n,hlb.f,hlb.l,hlb.hd⟩
 ·rw[hL]
  rintro k hk ⟨i,hi⟩
  have h10:parts X6 {M with lg:=L} 10 k:=hk
  rcases i with _|_|_|_|_|_|_|_|_|_|_|i
  ·exact absurd (hst.at'.ap 0 10 k hi h10) (by decide)
  ·exact absurd (hst.at'.ap 1 10 k hi h10) (by decide)
  ·exact absurd (hst.at'.ap 2 10 k hi h10) (by decide)
  ·exact absurd (hst.at'.ap 3 10 k hi h10) (by decide)
  ·exact absurd (hst.at'.ap 4 10 k hi h10) (by decide)
  ·exact absurd (hst.at'.ap 5 10 k hi h10) (by decide)
  ·exact absurd (hst.at'.ap 6 10 k hi h10) (by decide)
  ·exact absurd (hst.at'.ap 7 10 k hi h10) (by decide)
  ·exact absurd (hst.at'.ap 8 10 k hi h10) (by decide)
  ·exact absurd (hst.at'.ap 9 10 k hi h10) (by decide)
  ·simp[parts,Value.ownBlock]at hi
  ·exact hi
theorem yt(h:dD w X M)(hb:dw X M.lg c)(hc:c<=4000)(hok:nZ M.st)(hu:SU M.st)(hp3:M.st.pins.length<=3):
  Calls Tryz.prog 27 #[.pointer (some ⟨X.mb,0,none⟩)] w (G4 w X M c):=by
 have hp:rX w X M.lg:=h.c 1
 have hfits:=dw.fits hb h (by omega)
 have acO:=aH.F7 hp.d (by have:=hfits.len;omega) (by have:=hfits.total;omega)
 have q0:∀W,Kept aj w W->W.cell? ⟨X.mb,0,none⟩=some (.pointer (some ⟨X.g,0,none⟩)):=fun W hW=>Has.cell ((h.quiet hW).c 0) 0
 have acP:=fun W (hW:Kept aj w W)=>YU (h.quiet hW) hb (by omega)
 have hsame:aH.total X.ps=0->M.lg.sync=M.lg:=fun h0=>by
  have hps:X.ps=Wl.jc M.lg.first M.lg.R M.lg.T:=hp.low.low.pcs hp.log
  cases hT:M.lg.T with
  |nil=>unfold oq.sync;rw[hT];cases hl:M.lg;rw[hl]at hT;cases hT;rfl
  |cons t T=>
   rw[hps,hT]at h0
   have:=YT M.lg.first M.lg.R t T
   omega
 have HP:=ah acO;have HQ0:=ah q0;have HSY:=ah acP;have I9:=ah hsame;have H:=ah h;have HB:=ah hb;have yC:=ah hok;have HU:=ah hu;have wH:=ah hp3;have HC:=ah hc
 clear hp hfits acO q0 acP hsame h hb hok hu hp3 hc
 obtain⟨K,hK⟩:∃K,aH.total X.ps=K:=⟨_,rfl⟩
 rw[hK]at HP I9
 clear hK
 have qa:=HQ0.out w (Kept.refl _ _)
 by_cases hK0:0<K
 ·go_enter Tryz.func27,Tryz.ntmps27
  go_wp2_with fail
  clear qa
  refine HP.out.mono ?_
  rintro e w2 ⟨rfl,hk2⟩
  have qa:=HQ0.out _ hk2
  have hsy:=HSY.out _ hk2
  have HS2:=ah hsy;have aW:=ah hk2;clear hsy hk2
  go_wp2_with fail
  clear qa
  refine HS2.out.mono ?_
  rintro e w3 ⟨⟨kk,rfl⟩,X3,hst,hlb,-,-⟩
  have hst3:=(Step.refl H.out aW.out).trans hst
  have HST:=ah hst3;have jy:=ah hlb;clear hst hst3 hlb aW HS2
  have pM:=HST.out.at'
  have q1:∀W,Kept aj w3 W->W.cell? ⟨X.mb,1,none⟩=some (.pointer (some ⟨X.gp,0,none⟩)):=fun W hW=>by
   have h1:W.cell? ⟨X3.mb,1,none⟩=some (.pointer (some ⟨X3.gp,0,none⟩)):=Has.cell ((pM.quiet hW).c 0) 1
   rw[HST.out.mb,HST.out.gp]at h1;exact h1
  have q2:∀W,Kept aj w3 W->W.cell? ⟨X.mb,2,none⟩=some (.pointer (some ⟨X.sb,0,none⟩)):=fun W hW=>by
   have h1:W.cell? ⟨X3.mb,2,none⟩=some (.pointer (some ⟨X3.sb,0,none⟩)):=Has.cell ((pM.quiet hW).c 0) 2
   rw[HST.out.mb,HST.out.sb]at h1;exact h1
  have hp3:rX w3 X3 M.lg.sync:=pM.c 1
  have G6:dw X3 ({M with lg:=M.lg.sync}:MR).lg c:=jy.out
  have hcur:=dw.cur G6 pM
  have hc4:=HC.out
  obtain⟨TX,Pm⟩:∃TX,fG (lT M.st)=TX:=⟨_,rfl⟩
  have LX:=ah Pm
  have hsize:=Pt.Lu hp3 (dw.fits G6 pM (by omega)) (by
   have h1:=hcur.1
   have h2:=hcur.2.2
   have h3:(Wl.cur M.lg.sync.R M.lg.sync.T).length<=1+12*c:=Nat.le_trans h1 h2
   omega) (by have h1:M.lg.sync.first+(M.lg.sync.R.length+M.lg.sync.T.length:Nat)<=2+12*(c:Int):=jy.out.f;omega)
  rw[Tn hp3,HST.out.gp]at hsize
  have Ja:l7 M={M with lg:=if 2048<M.lg.sync.size then M.lg.sync.save (fG (lT M.st))else M.lg.sync,out:=[]}:=rfl
  obtain⟨SZ,hSZ⟩:∃SZ,M.lg.sync.size=SZ:=⟨_,rfl⟩
  rw[hSZ]at hsize Ja
  rw[Pm]at Ja
  clear Pm
  have YY:=ah hsize;have AV:=ah q1;have Du:=ah q2;have LY:=ah Ja
  clear pM q1 q2 hp3 G6 hcur hc4 hsize Ja hSZ
  have qa:=AV.out _ (Kept.refl _ _)
  go_wp2_with fail
  clear qa
  refine YY.out.mono ?_
  rintro e w4 ⟨rfl,hk4⟩
  have dW:=ah hk4;clear hk4
  by_cases hbig:2048<SZ
  ·have hdm:=LY.out
   rw[if_pos hbig]at hdm
   have HD:=ah hdm;clear hdm LY
   have hbi:(2048:Int)<(SZ:Int):=by omega
   have r1:=AV.out _ dW.out
   have r2:=Du.out _ dW.out
   have EM:∀W,Kept aj w3 W->Calls Tryz.prog 70 #[.pointer (some ⟨X.sb,0,none⟩)] W (acN W M.st):=fun W hW=>by
    have:=LP W X3.sb X3.FS M.st ((HST.out.at'.quiet hW).c 2) yC.out
    rw[HST.out.sb]at this
    refine this.mono ?_
    rintro e w' ⟨A,d,pre,he,ho⟩
    exact⟨A,d,pre,_,he,ho,rfl⟩
   have jl:=ah EM;have HSV:=ah (LW TX LX.out HST.out jy.out HC.out HU.out wH.out);clear EM hbig
   go_wp2_with fail
   go_region_held3 (fun W=>W.cell? ⟨X.mb,1,none⟩=some (.pointer (some ⟨X.gp,0,none⟩))/\W.cell? ⟨X.mb,2,none⟩=some (.pointer (some ⟨X.sb,0,none⟩))) (first|with_reducible exact⟨z5,z6⟩|with_reducible exact⟨z3,z4⟩|with_reducible exact⟨z1,z2⟩|with_reducible exact⟨r1,r2⟩|(simp[go_sem,r1,r2];done))
    (first
     |(go_at_call 70;refine(jl.out _ (by(repeat'(first|(with_reducible first|exact ak|apply au|apply ay|apply aA|apply aB)|(exact dW.out)|(right;simp;done))))).mono ?_;rintro e w5 ⟨A,d,pre,l,rfl,ho,hll⟩;have hk5:=Kept.then (F:=aj) (a:=w3) (by(repeat'(first|(with_reducible first|exact ak|apply au|apply ay|apply aA|apply aB)|(exact dW.out)|(right;simp;done)))) ho.kept;have z1:=AV.out _ hk5;have z2:=Du.out _ hk5;have HO:=ah ho;have lM:=ah hll;have cO:=ah hk5;clear ho hk5 hll)
     |(go_at_call 69;refine(Pj _ M.st TX LX.out A d pre l _ (by exact HO.out.still (by(repeat'(first|(with_reducible first|exact ak|apply au|apply ay|apply aA|apply aB)|(right;simp;done))))) lM.out yC.out HU.out wH.out).mono ?_;rintro e w6 ⟨A2,d2,rfl,hr,hk6⟩;have hk:=Kept.then (F:=aj) (a:=w3) (by(repeat'(first|(with_reducible first|exact ak|apply au|apply ay|apply aA|apply aB)|(exact cO.out)|(right;simp;done)))) hk6;have z3:=AV.out _ hk;have z4:=Du.out _ hk;have hr3:=aF.lower hr (by exact cO.out.size);have HR:=ah hr3;have jY:=ah hk;clear hk hk6 hr hr3)
     |(go_at_call 68;refine(HSV.out _ A2 d2 (by(repeat'(first|(with_reducible first|exact ak|apply au|apply ay|apply aA|apply aB)|(exact jY.out)|(right;simp;done)))) (aF.kept HR.out (by(repeat'(first|(with_reducible first|exact ak|apply au|apply ay|apply aA|apply aB)|(right;simp;done)))))).mono ?_;rintro e w7 ⟨rfl,X7,hs7,Dz⟩;have z5:w7.cell? ⟨X.mb,1,none⟩=some (.pointer (some ⟨X.gp,0,none⟩)):=(by have h1:w7.cell? ⟨X7.mb,1,none⟩=some (.pointer (some ⟨X7.gp,0,none⟩)):=Has.cell (hs7.at'.c 0) 1;rw[hs7.mb,hs7.gp]at h1;exact h1);have z6:w7.cell? ⟨X.mb,2,none⟩=some (.pointer (some ⟨X.sb,0,none⟩)):=(by have h1:w7.cell? ⟨X7.mb,2,none⟩=some (.pointer (some ⟨X7.sb,0,none⟩)):=Has.cell (hs7.at'.c 0) 2;rw[hs7.mb,hs7.sb]at h1;exact h1);have qg:=ah hs7;have YJ:=ah Dz;clear hs7 Dz))
   clear z1 z2 z3 z4 z5 z6 r1 r2 hbi
   have hf:=CX qg.out HD.out YJ.out
   have q11:w7.cell? ⟨X.mb,11,none⟩=some (.slice X7.oA M.out.length X7.oc):=by
    have h1:w7.cell? ⟨X7.mb,11,none⟩=some (.slice X7.oA M.out.length X7.oc):=Has.cell (qg.out.at'.c 0) 11
    rw[qg.out.mb]at h1;exact h1
   have f11:w7.frozen? ⟨X.mb,11,none⟩=false:=by
    have h1:=Has.frozen (qg.out.at'.c 0) 11
    rw[qg.out.mb]at h1;exact h1
   have HF:=ah hf;clear hf
   go_wp2
   go_ret
   exact HF.out
  ·have hdm:=LY.out
   rw[if_neg hbig]at hdm
   have hbi:¬(2048:Int)<(SZ:Int):=by omega
   have hf:=CX (HST.out.quiet dW.out) hdm (dw.mono jy.out (Nat.le_succ c))
   have hm4:=HST.out.at'.quiet dW.out
   have q11:w4.cell? ⟨X.mb,11,none⟩=some (.slice X3.oA M.out.length X3.oc):=by
    have h1:w4.cell? ⟨X3.mb,11,none⟩=some (.slice X3.oA M.out.length X3.oc):=Has.cell (hm4.c 0) 11
    rw[HST.out.mb]at h1;exact h1
   have f11:w4.frozen? ⟨X.mb,11,none⟩=false:=by
    have h1:=Has.frozen (hm4.c 0) 11
    rw[HST.out.mb]at h1;exact h1
   have HF:=ah hf;clear hf hdm hm4 hbig
   go_wp2
   go_ret
   exact HF.out
 ·have hz:K=0:=by omega
  subst hz
  have hsa:=I9.out rfl
  clear I9 hK0
  go_enter Tryz.func27,Tryz.ntmps27
  go_wp2_with fail
  clear qa
  refine HP.out.mono ?_
  rintro e w3 ⟨rfl,hk3⟩
  obtain⟨X3,hst3,hlb⟩:∃X3,Step w X M w3 X3 {M with lg:=M.lg.sync}/\dw X3 M.lg.sync c:=by
   rw[hsa]
   exact⟨X,Step.refl H.out hk3,HB.out⟩
  have HST:=ah hst3;have jy:=ah hlb;clear hst3 hlb hk3 hsa
  have pM:=HST.out.at'
  have q1:∀W,Kept aj w3 W->W.cell? ⟨X.mb,1,none⟩=some (.pointer (some ⟨X.gp,0,none⟩)):=fun W hW=>by
   have h1:W.cell? ⟨X3.mb,1,none⟩=some (.pointer (some ⟨X3.gp,0,none⟩)):=Has.cell ((pM.quiet hW).c 0) 1
   rw[HST.out.mb,HST.out.gp]at h1;exact h1
  have q2:∀W,Kept aj w3 W->W.cell? ⟨X.mb,2,none⟩=some (.pointer (some ⟨X.sb,0,none⟩)):=fun W hW=>by
   have h1:W.cell? ⟨X3.mb,2,none⟩=some (.pointer (some ⟨X3.sb,0,none⟩)):=Has.cell ((pM.quiet hW).c 0) 2
   rw[HST.out.mb,HST.out.sb]at h1;exact h1
  have hp3:rX w3 X3 M.lg.sync:=pM.c 1
  have G6:dw X3 ({M with lg:=M.lg.sync}:MR).lg c:=jy.out
  have hcur:=dw.cur G6 pM
  have hc4:=HC.out
  obtain⟨TX,Pm⟩:∃TX,fG (lT M.st)=TX:=⟨_,rfl⟩
  have LX:=ah Pm
  have hsize:=Pt.Lu hp3 (dw.fits G6 pM (by omega)) (by
   have h1:=hcur.1
   have h2:=hcur.2.2
   have h3:(Wl.cur M.lg.sync.R M.lg.sync.T).length<=1+12*c:=Nat.le_trans h1 h2
   omega) (by have h1:M.lg.sync.first+(M.lg.sync.R.length+M.lg.sync.T.length:Nat)<=2+12*(c:Int):=jy.out.f;omega)
  rw[Tn hp3,HST.out.gp]at hsize
  have Ja:l7 M={M with lg:=if 2048<M.lg.sync.size then M.lg.sync.save (fG (lT M.st))else M.lg.sync,out:=[]}:=rfl
  obtain⟨SZ,hSZ⟩:∃SZ,M.lg.sync.size=SZ:=⟨_,rfl⟩
  rw[hSZ]at hsize Ja
  rw[Pm]at Ja
  clear Pm
  have YY:=ah hsize;have AV:=ah q1;have Du:=ah q2;have LY:=ah Ja
  clear pM q1 q2 hp3 G6 hcur hc4 hsize Ja hSZ
  have qa:=AV.out _ (Kept.refl _ _)
  go_wp2_with fail
  clear qa
  refine YY.out.mono ?_
  rintro e w4 ⟨rfl,hk4⟩
  have dW:=ah hk4;clear hk4
  by_cases hbig:2048<SZ
  ·have hdm:=LY.out
   rw[if_pos hbig]at hdm
   have HD:=ah hdm;clear hdm LY
   have hbi:(2048:Int)<(SZ:Int):=by omega
   have r1:=AV.out _ dW.out
   have r2:=Du.out _ dW.out
   have EM:∀W,Kept aj w3 W->Calls Tryz.prog 70 #[.pointer (some ⟨X.sb,0,none⟩)] W (acN W M.st):=fun W hW=>by
    have:=LP W X3.sb X3.FS M.st ((HST.out.at'.quiet hW).c 2) yC.out
    rw[HST.out.sb]at this
    refine this.mono ?_
    rintro e w' ⟨A,d,pre,he,ho⟩
    exact⟨A,d,pre,_,he,ho,rfl⟩
   have jl:=ah EM;have HSV:=ah (LW TX LX.out HST.out jy.out HC.out HU.out wH.out);clear EM hbig
   go_wp2_with fail
   go_region_held3 (fun W=>W.cell? ⟨X.mb,1,none⟩=some (.pointer (some ⟨X.gp,0,none⟩))/\W.cell? ⟨X.mb,2,none⟩=some (.pointer (some ⟨X.sb,0,none⟩))) (first|with_reducible exact⟨z5,z6⟩|with_reducible exact⟨z3,z4⟩|with_reducible exact⟨z1,z2⟩|with_reducible exact⟨r1,r2⟩|(simp[go_sem,r1,r2];done))
    (first
     |(go_at_call 70;refine(jl.out _ (by(repeat'(first|(with_reducible first|exact ak|apply au|apply ay|apply aA|apply aB)|(exact dW.out)|(right;simp;done))))).mono ?_;rintro e w5 ⟨A,d,pre,l,rfl,ho,hll⟩;have hk5:=Kept.then (F:=aj) (a:=w3) (by(repeat'(first|(with_reducible first|exact ak|apply au|apply ay|apply aA|apply aB)|(exact dW.out)|(right;simp;done)))) ho.kept;have z1:=AV.out _ hk5;have z2:=Du.out _ hk5;have HO:=ah ho;have lM:=ah hll;have cO:=ah hk5;clear ho hk5 hll)
     |(go_at_call 69;refine(Pj _ M.st TX LX.out A d pre l _ (by exact HO.out.still (by(repeat'(first|(with_reducible first|exact ak|apply au|apply ay|apply aA|apply aB)|(right;simp;done))))) lM.out yC.out HU.out wH.out).mono ?_;rintro e w6 ⟨A2,d2,rfl,hr,hk6⟩;have hk:=Kept.then (F:=aj) (a:=w3) (by(repeat'(first|(with_reducible first|exact ak|apply au|apply ay|apply aA|apply aB)|(exact cO.out)|(right;simp;done)))) hk6;have z3:=AV.out _ hk;have z4:=Du.out _ hk;have hr3:=aF.lower hr (by exact cO.out.size);have HR:=ah hr3;have jY:=ah hk;clear hk hk6 hr hr3)
     |(go_at_call 68;refine(HSV.out _ A2 d2 (by(repeat'(first|(with_reducible first|exact ak|apply au|apply ay|apply aA|apply aB)|(exact jY.out)|(right;simp;done)))) (aF.kept HR.out (by(repeat'(first|(with_reducible first|exact ak|apply au|apply ay|apply aA|apply aB)|(right;simp;done)))))).mono ?_;rintro e w7 ⟨rfl,X7,hs7,Dz⟩;have z5:w7.cell? ⟨X.mb,1,none⟩=some (.pointer (some ⟨X.gp,0,none⟩)):=(by have h1:w7.cell? ⟨X7.mb,1,none⟩=some (.pointer (some ⟨X7.gp,0,none⟩)):=Has.cell (hs7.at'.c 0) 1;rw[hs7.mb,hs7.gp]at h1;exact h1);have z6:w7.cell? ⟨X.mb,2,none⟩=some (.pointer (some ⟨X.sb,0,none⟩)):=(by have h1:w7.cell? ⟨X7.mb,2,none⟩=some (.pointer (some ⟨X7.sb,0,none⟩)):=Has.cell (hs7.at'.c 0) 2;rw[hs7.mb,hs7.sb]at h1;exact h1);have qg:=ah hs7;have YJ:=ah Dz;clear hs7 Dz))
   clear z1 z2 z3 z4 z5 z6 r1 r2 hbi
   have hf:=CX qg.out HD.out YJ.out
   have q11:w7.cell? ⟨X.mb,11,none⟩=some (.slice X7.oA M.out.length X7.oc):=by
    have h1:w7.cell? ⟨X7.mb,11,none⟩=some (.slice X7.oA M.out.length X7.oc):=Has.cell (qg.out.at'.c 0) 11
    rw[qg.out.mb]at h1;exact h1
   have f11:w7.frozen? ⟨X.mb,11,none⟩=false:=by
    have h1:=Has.frozen (qg.out.at'.c 0) 11
    rw[qg.out.mb]at h1;exact h1
   have HF:=ah hf;clear hf
   go_wp2
   go_ret
   exact HF.out
  ·have hdm:=LY.out
   rw[if_neg hbig]at hdm
   have hbi:¬(2048:Int)<(SZ:Int):=by omega
   have hf:=CX (HST.out.quiet dW.out) hdm (dw.mono jy.out (Nat.le_succ c))
   have hm4:=HST.out.at'.quiet dW.out
   have q11:w4.cell? ⟨X.mb,11,none⟩=some (.slice X3.oA M.out.length X3.oc):=by
    have h1:w4.cell? ⟨X3.mb,11,none⟩=some (.slice X3.oA M.out.length X3.oc):=Has.cell (hm4.c 0) 11
    rw[HST.out.mb]at h1;exact h1
   have f11:w4.frozen? ⟨X.mb,11,none⟩=false:=by
    have h1:=Has.frozen (hm4.c 0) 11
    rw[HST.out.mb]at h1;exact h1
   have HF:=ah hf;clear hf hdm hm4 hbig
   go_wp2
   go_ret
   exact HF.out
end
end dH
namespace dH
open aO Vn Mst lV IM mY gZ
def mk0(L:oq):MR:=⟨L,st0,[],[0,0,0,0],0,fun _=>none,fun _=>none,0,fun _=>false,fun _=>false,fun _=>false,[],0⟩
section
variable{w w':World}{X X0:MX}{M M0:MR}{c:Nat}
def abD(w:World)(X0:MX)(L:oq)(e:Ending)(w':World):Prop:=
 ∃X,e=.returned (.pointer (some ⟨X.mb,0,none⟩))/\dD w' X (mk0 L)/\(∀k,dX X (mk0 L) k->Pt.PF X0.gp X0.gw X0.F X0.A L.l.length X0.c k\/w.heap.size<=k)/\Kept aj w w'/\X.g=X0.g/\X.n=X0.n/\X.ps=X0.ps/\X.aU=X0.aU/\X.aK=X0.aK/\X.gp=X0.gp
theorem Pn(X0:MX)(L:oq)(hp:rX w X0 L):Calls Tryz.prog 24 #[.pointer (some ⟨X0.g,0,none⟩),.pointer (some ⟨X0.gp,0,none⟩)] w (abD w X0 L):=by
 have hlt:∀k,Pt.PF X0.gp X0.gw X0.F X0.A L.l.length X0.c k->k<w.heap.size:=fun k hk=>by
  rcases hk with hk|hk|hk|hk
  ·exact hp.d.lt k hk
  ·rw[hk];exact Has.lt hp.p
  ·rw[hk];exact Has.lt hp.wl
  ·exact lH hp.row.1 hk
 have HP:=ah hp;have uY:=ah hlt;clear hp hlt
 have hmk:= @run_makeMap Tryz.prog
 go_enter Tryz.func24,Tryz.ntmps24
 go_wp2_with fail
 refine(bT w).mono ?_
 rintro e w1 ⟨rfl,hst,hk1⟩
 have HST:=ah hst;have fF:=ah hk1;clear hst hk1
 go_wp2_with fail
 refine(BI w1).mono ?_
 rintro e w2 ⟨rfl,hwt,hk2⟩
 have HWT:=ah hwt;have aW:=ah hk2;clear hwt hk2
 go_wp2
 go_ret
 have l1:w.heap.size<w1.heap.size:=HST.out.lt _ rfl
 have l2:w1.heap.size<w2.heap.size:=Has.lt HWT.out
 have hk2:Kept aj w w2:=fF.out.then aW.out
 refine⟨⟨w2.heap.size+5,X0.gp,X0.gw,X0.g,w.heap.size,w1.heap.size,w2.heap.size,w2.heap.size+1,w2.heap.size+2,w2.heap.size+3,w2.heap.size+4,X0.F,fun k=>k=w.heap.size,none,0,none,0,X0.A,X0.c,X0.n,X0.m,X0.ps,X0.aU,X0.aK⟩,?_,⟨fun i=> ?_,fun i j k hi hj=> ?_⟩,fun k hk=> ?_,by(repeat'(first|(with_reducible first|exact ak|apply au|apply ay|apply aA|apply aB)|(exact hk2)|(right;simp;done))),rfl,rfl,rfl,rfl,rfl,rfl⟩
 ·first|rfl|(simp;done)
 ·have hmp:∀(o:Nat),o<5->True:=fun _ _=>trivial
  rcases i with _|_|_|_|_|_|_|_|_|_|_|i
  ·exact Has.bT _ _ _ (by simp)
  ·exact rX.acJ (G:=aj) HP.out (by(repeat'(first|(with_reducible first|exact ak|apply au|apply ay|apply aA|apply aB)|(exact hk2)|(right;simp;done)))) (fun _ _ z=>z)
  ·exact eH.still HST.out (aW.out.then (by(repeat'(first|(with_reducible first|exact ak|apply au|apply ay|apply aA|apply aB)|(right;simp;done)))))
  ·exact⟨rfl,.inl ⟨rfl,rfl⟩⟩
  ·exact Has.kept (F:=aj) HWT.out (by(repeat'(first|(with_reducible first|exact ak|apply au|apply ay|apply aA|apply aB)|(right;simp;done)))) (fun z=>z)
  ·exact eF.kept (F:=aj) (eF.made .u64 23 w2) (by(repeat'(first|(with_reducible first|exact ak|apply au|apply ay|apply aA|apply aB)|(right;simp;done)))) (fun z=>z)
  ·exact eF.kept (F:=aj) (by have h:=eF.made .i64 3 (w2.alloc (.map #[] 0));simp only[size_alloc]at h;exact h) (by(repeat'(first|(with_reducible first|exact ak|apply au|apply ay|apply aA|apply aB)|(right;simp;done)))) (fun z=>z)
  ·exact bM.kept (F:=aj) (by have h:=bM.made ((w2.alloc (.map #[] 0)).alloc (.map #[] 0));simp only[size_alloc]at h;exact h) (by(repeat'(first|(with_reducible first|exact ak|apply au|apply ay|apply aA|apply aB)|(right;simp;done)))) (fun z=>z)
  ·exact bM.kept (F:=aj) (by have h:=bM.made (((w2.alloc (.map #[] 0)).alloc (.map #[] 0)).alloc (.map #[] 0));simp only[size_alloc]at h;exact h) (by(repeat'(first|(with_reducible first|exact ak|apply au|apply ay|apply aA|apply aB)|(right;simp;done)))) (fun z=>z)
  ·exact bM.kept (F:=aj) (by have h:=bM.made ((((w2.alloc (.map #[] 0)).alloc (.map #[] 0)).alloc (.map #[] 0)).alloc (.map #[] 0));simp only[size_alloc]at h;exact h) (by(repeat'(first|(with_reducible first|exact ak|apply au|apply ay|apply aA|apply aB)|(right;simp;done)))) (fun z=>z)
  ·exact⟨rfl,.inl ⟨rfl,rfl⟩⟩
  ·trivial
 ·have h1:∀k,Pt.PF X0.gp X0.gw X0.F X0.A L.l.length X0.c k->k<w.heap.size:=uY.out
  rcases i with _|_|_|_|_|_|_|_|_|_|_|i<;>rcases j with _|_|_|_|_|_|_|_|_|_|_|j<;>first
   |rfl
   |exact hi.elim
   |exact hj.elim
   |(simp[parts,mk0,Value.ownBlock]at hi;done)
   |(simp[parts,mk0,Value.ownBlock]at hj;done)
   |(have h2:=h1 k hj;simp only[parts]at hi;omega)
   |(have h2:=h1 k hi;simp only[parts]at hj;omega)
   |(simp only[parts]at hi hj;omega)
 ·obtain⟨i,hi⟩:=hk
  rcases i with _|_|_|_|_|_|_|_|_|_|_|i<;>first
   |exact .inl hi
   |exact hi.elim
   |(simp[parts,mk0,Value.ownBlock]at hi;done)
   |(simp only[parts]at hi;right;omega)
end
end dH
namespace dH
open aO Vn Mst lV IM mY gZ dM
theorem mem_set{α:Type}{l:List α}{i:Nat}{a b:α}(h:b∈l.set i a):b∈l\/b=a:=by
 rcases List.mem_or_eq_of_mem_set h with h|h
 ·exact .inl h
 ·exact .inr h
theorem Gj{l:List aY}{id:Int}{p:aY}(h:p∈jB l id):p∈l\/∃q∈l,p=⟨id,q.at',8⟩:=by
 unfold jB at h
 split at h
 ·rename_i q hq
  rcases mem_set h with h|h
  ·exact .inl h
  ·exact .inr ⟨q,List.mem_of_getElem? hq,h⟩
 ·exact .inl h
theorem SU.apply{s:bQ}{x:aG}(h:SU s)(hu:NU x):SU (aZ s x):=by
 unfold aZ
 split
 ·exact h
 split
 ·exact⟨h.hz,hu.2.2.1,h.pin⟩
 split
 ·exact⟨h.hz,h.fl,h.pin⟩
 split
 ·exact⟨hu.1,h.fl,h.pin⟩
 split
 ·unfold jW
  split
  ·refine⟨h.hz,h.fl,fun p hp=> ?_⟩
   rcases Gj hp with hp|⟨q,hq,rfl⟩
   ·exact h.pin p hp
   ·exact h.pin q hq
  ·refine⟨h.hz,h.fl,fun p hp=> ?_⟩
   rcases List.mem_append.1 hp with hp|hp
   ·exact h.pin p hp
   ·rw[List.mem_singleton.1 hp];exact hu.2.1
 split
 ·exact⟨h.hz,h.fl,fun p hp=>h.pin p ((LJ s.pins x.n).subset hp)⟩
 ·unfold kF
  split
  ·exact⟨h.hz,h.fl,h.pin⟩
  split
  ·exact⟨h.hz,h.fl,h.pin⟩
  ·exact⟨h.hz,h.fl,h.pin⟩
structure qG(s:bQ):Prop where
 inv:Mst.Inv s
 su:SU s
theorem EN:qG st0:=⟨inv0,⟨by decide,by decide,fun p hp=>by cases hp⟩⟩
theorem qG.apply{s:bQ}{x:aG}(h:qG s)(hu:NU x):qG (aZ s x):=⟨(h.inv.apply ⟨hu.1.1,hu.2.1.1,hu.2.2.1.1⟩).1,h.su.apply hu⟩
theorem qG.write{M:MR}{x:aG}(h:qG M.st)(hu:NU x):qG (writeM M x).st:=by
 unfold writeM
 split
 ·exact h.apply hu
 ·exact h
def nG:oq:=⟨1,Wl.cur [] (Pt.jT 0 []),[],[]⟩
def uS(ep:Int)(ms:List Mem)(fl:Int)(lg:List Int)(A:Option Addr)(c:Nat)(B:Option Addr)(d:Nat):aG:=⟨1,0,0,ep,A,c,ms,fl,B,d,lg,none,0,⟨0,0,[]⟩,0,⟨0,0,0⟩,⟨0,0,0,0⟩⟩
def kX(ep:Int)(ms:List Mem)(fl:Int)(lg:List Int):aG:=uS ep ms fl lg none 0 none 0
def tH(ep:Int)(l:List Mem)(fl:Int):MR:=l7 (writeM (mk0 nG) (kX ep l fl (ids l)))
theorem Po{w:World}{ep fl:Int}{ms:List Mem}{lg:List Int}{A B:Option Addr}{c d:Nat}(h1:Src w 2 A ms.length (aP ms))(h2:ms.length<=c)(h3:ms.length<=1000)(h4:Src w 1 B lg.length (ints lg))(h5:lg.length<=d)(h6:lg.length<=1000):iI w (uS ep ms fl lg A c B d):=
 ⟨h1,h2,h3,h4,h5,h6,Src.nil _ _ _⟩
theorem vU{ep fl:Int}{ms:List Mem}{lg:List Int}{A B:Option Addr}{c d:Nat}(h:0<=fl/\fl<=aT):NU (uS ep ms fl lg A c B d):=by
 have z:(0:Int)<=0/\(0:Int)<=aT:=by decide
 exact⟨z,z,h,z⟩
section
variable{w w':World}{X X0:MX}{M M0:MR}{c:Nat}
def G7(w:World)(F:Nat->Prop)(g:Nat)(ep:Int)(l:List Mem)(fl:Int)(e:Ending)(w':World):Prop:=
 ∃X,e=.returned (.tuple #[.pointer (some ⟨X.mb,0,none⟩),.int .i64 0])/\dD w' X (tH ep l fl)/\dw X (tH ep l fl).lg 2/\X.g=g/\(∀k,dX X (tH ep l fl) k->F k\/w.heap.size<=k)/\Kept F w w'
theorem abE(w:World)(v:Value)(ep fl:Int)(A:Option Addr)(c:Nat)(l:List Mem)(hl:Src w 2 A l.length (aP l))(hlc:l.length<=c)(hlen:l.length<=1000)(h0:aO.chk ep l≠0):
  Calls Tryz.prog 8 #[v,lq ep A l.length c fl] w fun e w'=>e=.returned (.tuple #[.pointer none,.int .i64 (aO.chk ep l)])/\Kept aj w w':=by
 have eu:=fun W (hW:Kept aj w W)=>Mst.rE W ep fl A c l (hl.kept hW (fun _ _ z=>z)) hlc (by omega)
 obtain⟨z,hz⟩:∃z,aO.chk ep l=z:=⟨_,rfl⟩
 rw[hz]at h0 eu⊢
 have h2:(z !=0)=true:=by simpa using h0
 have HC:=ah eu
 clear h0 hz eu hl
 go_enter Tryz.func8,Tryz.ntmps8
 go_wp2_with fail
 refine(HC.out _ (by(repeat'(first|(with_reducible first|exact ak|apply au|apply ay|apply aA|apply aB)|(right;simp;done))))).mono ?_
 rintro e w2 ⟨rfl,hk⟩
 have HK:=ah (Kept.then (F:=aj) (a:=w) (by(repeat'(first|(with_reducible first|exact ak|apply au|apply ay|apply aA|apply aB)|(right;simp;done)))) hk);clear hk
 go_wp2
 go_ret2
 exact⟨rfl,HK.out⟩
theorem Pq(w:World)(g:Nat)(F:Nat->Prop)(aU aK ep fl:Int)(A:Option Addr)(c:Nat)(l:List Mem)(hd:aH.aX w g F 0 (fun _=>none) [] aU aK)(hl:Src w 2 A l.length (aP l))(hoff:0<l.length->∀ad,A=some ad->¬F ad.block)(hlc:l.length<=c)(hlen:l.length<=1000)(hfl:0<=fl/\fl<=aT)(h0:aO.chk ep l=0):
  Calls Tryz.prog 8 #[.pointer (some ⟨g,0,none⟩),lq ep A l.length c fl] w (G7 w F g ep l fl):=by
 have eu:=fun W (hW:Kept aj w W)=>Mst.rE W ep fl A c l (hl.kept hW (fun _ _ z=>z)) hlc (by omega)
 rw[h0]at eu
 have Ep:=hd.lt
 obtain⟨W0,hW0⟩:∃W0,w.alloc (.cells #[.int .i64 ep,.slice A l.length c,.int .u64 fl] 25)=W0:=⟨_,rfl⟩
 have hk0:Kept aj w W0:=by rw[<-hW0];(repeat'(first|(with_reducible first|exact ak|apply au|apply ay|apply aA|apply aB)|(right;simp;done)))
 have hn0:Has W0 w.heap.size 25 #[.int .i64 ep,.slice A l.length c,.int .u64 fl]:=by rw[<-hW0];exact Has.new _ _ _
 have b0:W0.cell? ⟨w.heap.size,0,none⟩=some (.int .i64 ep):=hn0.cell 0
 have b1:W0.cell? ⟨w.heap.size,1,none⟩=some (.slice A l.length c):=hn0.cell 1
 have b2:W0.cell? ⟨w.heap.size,2,none⟩=some (.int .u64 fl):=hn0.cell 2
 have HC:=ah eu;have HD:=ah hd;have HL:=ah hl;have pR:=ah hoff;have HLC:=ah hlc;have kQ:=ah hlen;have oM:=ah hfl;have OD:=ah Ep;have bf:=ah hk0;have dO:=ah hn0
 clear eu hd hl hoff hlc hlen hfl h0 Ep hk0 hn0
 go_enter Tryz.func8,Tryz.ntmps8
 go_wp2_with fail
 clear hW0 b0 b1 b2
 refine(HC.out _ bf.out).mono ?_
 rintro e w2 ⟨rfl,hk⟩
 have dL:=ah (dO.out.kept hk (fun z=>z));have aW:=ah (bf.out.then hk);clear hk
 go_wp2_with fail
 refine(Pt.abd (HD.out.kept aW.out (fun _ _ z=>z)) (by omega)).mono ?_
 rintro e w3 ⟨gp,gw,F',m',A',c',rfl,hpt,hgp,hgw,hF',hk3⟩
 have hx0:rX w3 ⟨0,gp,gw,g,0,0,0,0,0,0,0,F',fun _=>False,none,0,none,0,A',c',0+1,m',[],aU,aK⟩ nG:=⟨hpt.d,hpt.p,hpt.wl,⟨hpt.row.1,fun _ _=>Nat.zero_le _⟩,hpt.log,hpt.low,hpt.f1,hpt.tx,hpt.hs⟩
 have hpf:∀k,Pt.PF gp gw F' A' 0 c' k->F k\/w2.heap.size<=k:=fun k hk=>by
  rcases hk with hk|hk|hk|hk
  ·exact hF' k hk
  ·exact .inr (by omega)
  ·exact .inr (by omega)
  ·exact .inr (hpt.row.2 k hk)
 have afc:=hk3.size
 have afd:Kept F w w3:=(Kept.up aW.out).then hk3
 have hn3:=dL.out.kept hk3 (fun hf=>Nat.lt_irrefl _ (OD.out _ hf))
 have ag5:=ah afc;have HX0:=ah hx0;have HPF:=ah hpf;have bn:=ah afd;have mF:=ah hn3
 clear afc hx0 hpf afd hn3 hpt hgp hgw hF' hk3
 go_wp2_with fail
 refine(Pn _ nG HX0.out).mono ?_
 rintro e w4 ⟨X,rfl,hm,hft,hk4,DC,Pv,G8,-,-,-⟩
 dsimp only at DC Pv G8
 have hb:dw X (mk0 nG).lg 0:=⟨by rw[Pv,G8];decide,by show(1:Int)+((Wl.cur [] (Pt.jT 0 [])).length+0:Nat)<=2;decide,Nat.zero_le _,Pt.Yp _ _⟩
 have hn4:=mF.out.kept hk4 (fun z=>z)
 have Px:∀k,dX X (mk0 nG) k->F k\/w2.heap.size<=k:=fun k hk=>by
  rcases hft k hk with y|y
  ·exact HPF.out k y
  ·have h2:=ag5.out;exact .inr (by omega)
 have h02:=aW.out.size
 have Fz:∀k,dX X (mk0 nG) k->F k\/w.heap.size<=k:=fun k hk=>by
  rcases Px k hk with y|y
  ·exact .inl y
  ·exact .inr (by omega)
 have hfk:Kept F w w4:=bn.out.then (Kept.up hk4)
 have hwr:∀(W:World) (B:Option Addr) (d:Nat),Kept aj w4 W->aF 3 1 w4.heap.size W B l.length d (ints (ids l))->Calls Tryz.prog 25 #[.pointer (some ⟨X.mb,0,none⟩),.agg (aJ (uS ep l fl (ids l) A c B d)).toArray] W fun e w'=>
   (∃k:Int,e=.returned (.int .i64 k))/\∃X',Step w4 X (mk0 nG) w' X' (writeM (mk0 nG) (kX ep l fl (ids l)))/\dw X' (writeM (mk0 nG) (kX ep l fl (ids l))).lg 1:=fun W B d hW hr=>by
  have hil:=JD l
  have hr':W.ownsRow 0 3 1 (.slice B (ids l).length d) (ids l).length (ints (ids l)):=by rw[hil];exact hr.1
  have hx:iI W (uS ep l fl (ids l) A c B d):=Po ((Src.vP HL.out hfk pR.out).kept hW (fun _ _ z=>z)) HLC.out kQ.out (Src.bC hr') (fV hr').1 (by rw[hil];exact kQ.out)
  refine(write_any (hm.quiet hW) hb (by omega) EN.inv.ok _ hx (vU oM.out) ⟨fun h0 ad e hf=> ?_,fun h0 ad e hf=> ?_,fun h0=>absurd h0 (Nat.lt_irrefl 0)⟩).mono ?_
  ·obtain⟨KE,e2,hlt,_⟩:=HL.out.2 h0
   have e3:ad=KE:=by
    have e4:some ad=some KE:=e.symm.trans e2
    injection e4
   rw[e3]at hf
   rcases Fz _ hf with y|y
   ·exact pR.out h0 KE e2 y
   ·omega
  ·obtain⟨g',cap,hv,_,_⟩:=hr.1.form (by rw[<-hil];exact h0)
   have e5:B=some ad:=e
   rw[e5]at hv
   injection hv with hv
   injection hv with hv
   have h1:=hm.lt hf
   have h2:=hr.2 g' (by rw[e5,hv];rfl)
   rw[hv]at h1
   dsimp only at h1
   omega
  ·rintro e w' ⟨rfl,X',hs,hl'⟩
   exact⟨⟨_,rfl⟩,X',(Step.refl hm hW).trans hs,hl'⟩
 have afe:∀W,Kept aj w4 W->Calls Tryz.prog 26 #[lq ep A l.length c fl] W (Sv W l):=fun W hW=>ado W ep fl A c l ((Src.vP HL.out hfk pR.out).kept hW (fun _ _ z=>z)) kQ.out
 have b0:∀W,Kept aj w4 W->W.cell? ⟨w.heap.size,0,none⟩=some (.int .i64 ep)/\W.cell? ⟨w.heap.size,1,none⟩=some (.slice A l.length c)/\W.cell? ⟨w.heap.size,2,none⟩=some (.int .u64 fl):=fun W hW=>⟨(hn4.kept hW (fun z=>z)).cell 0,(hn4.kept hW (fun z=>z)).cell 1,(hn4.kept hW (fun z=>z)).cell 2⟩
 have hbf:¬dX X (mk0 nG) w.heap.size:=fun hf=>by
  rcases Px _ hf with y|y
  ·exact Nat.lt_irrefl _ (OD.out _ y)
  ·have h1:=dL.out.lt;omega
 have HBF:=ah hbf;have Tj:=ah hn4
 obtain⟨M1,hM1⟩:∃M1,writeM (mk0 nG) (kX ep l fl (ids l))=M1:=⟨_,rfl⟩
 have hst1:qG M1.st:=by rw[<-hM1];exact qG.write EN (vU oM.out)
 have hNM:tH ep l fl=l7 M1:=by rw[<-hM1];rfl
 rw[hM1]at hwr
 simp only[uS,aJ,List.length_nil,JD]at hwr
 have qM:=ah hwr;have Kw:=ah afe;have HB0:=ah b0;have abG:=ah hst1;have Sr:=ah hNM;have Py:=ah Fz;have HFK:=ah hfk;have AY:=ah hm;have HG:=ah DC
 clear hbf Px h02 hwr afe b0 hst1 hNM hM1 Fz hfk hm DC Pv G8 hb hn4 hk4 hft
 obtain⟨c0,c1,c2⟩:=HB0.out _ (Kept.refl _ _)
 go_wp2_with fail
 go_region_held3 (fun W=>W.cell? ⟨w.heap.size,0,none⟩=some (.int .i64 ep)/\W.cell? ⟨w.heap.size,1,none⟩=some (.slice A l.length c)/\W.cell? ⟨w.heap.size,2,none⟩=some (.int .u64 fl)) (first|with_reducible exact z2|with_reducible exact z1|with_reducible exact⟨c0,c1,c2⟩|(simp[go_sem,c0,c1,c2];done))
  (first
   |(go_at_call 26;refine(Kw.out _ (by(repeat'(first|(with_reducible first|exact ak|apply au|apply ay|apply aA|apply aB)|(right;simp;done))))).mono ?_;rintro e w5 ⟨B,d,rfl,hr,hk5⟩;have hk:=Kept.then (F:=aj) (a:=w4) (by(repeat'(first|(with_reducible first|exact ak|apply au|apply ay|apply aA|apply aB)|(right;simp;done)))) hk5;have z1:=HB0.out _ hk;have hr3:aF 3 1 w4.heap.size w5 B l.length d (ints (ids l)):=hr;have HR:=ah hr3;have cO:=ah hk;clear hk hk5 hr hr3)
   |(go_at_call 25;refine(qM.out _ B d (by(repeat'(first|(with_reducible first|exact ak|apply au|apply ay|apply aA|apply aB)|(exact cO.out)|(right;simp;done)))) (aF.kept HR.out (by(repeat'(first|(with_reducible first|exact ak|apply au|apply ay|apply aA|apply aB)|(right;simp;done)))))).mono ?_;rintro e w6 ⟨⟨kk,rfl⟩,X6,hs6,hl6⟩;have z2:w6.cell? ⟨w.heap.size,0,none⟩=some (.int .i64 ep)/\w6.cell? ⟨w.heap.size,1,none⟩=some (.slice A l.length c)/\w6.cell? ⟨w.heap.size,2,none⟩=some (.int .u64 fl):=(by have h6:=Has.kept Tj.out hs6.k (by exact HBF.out);exact⟨h6.cell 0,h6.cell 1,h6.cell 2⟩);have oL:=ah hs6;have HL6:=ah hl6;clear hs6 hl6))
 clear c0 c1 c2 z1 z2
 have hdone:=yt oL.out.at' HL6.out (by omega) abG.out.inv.ok abG.out.su abG.out.inv.pl
 rw[oL.out.mb]at hdone
 have HDO:=ah hdone;clear hdone
 go_wp2_with fail
 refine HDO.out.mono ?_
 rintro e w7 ⟨A7,d7,rfl,-,-,X7,hs7,Dz,-⟩
 have hst:=oL.out.trans hs7
 have hfin:G7 w F g ep l fl (.returned (.tuple #[.pointer (some ⟨X.mb,0,none⟩),.int .i64 0])) w7:=by
  unfold G7
  rw[Sr.out]
  refine⟨X7,by rw[hst.mb],hst.at',Dz,hst.dk.trans HG.out,fun k hk=> ?_,?_⟩
  ·rcases hst.g k hk with y|y
   ·exact Py.out k y
   ·have h2:=HFK.out.size;exact .inr (by omega)
  ·exact HFK.out.trans hst.k (fun k hk=>Py.out k hk)
 have HF:=ah hfin
 clear hst hs7 Dz hfin
 go_wp2
 go_ret2
 exact HF.out
end
end dH
end Go.Proofs.YtfjdpbbgfjhnlaaGreat
