/- Part 39 of what the proof needs. -/
import Derived.Test.YtolkgbafebehfaaGreatZP37
set_option linter.unusedSimpArgs false
set_option linter.unusedVariables false
set_option maxHeartbeats 32000000
set_option maxRecDepth 100000
namespace Go.Proofs.YtolkgbafebehfaaGreat
open Go.RowKit
set_option maxRecDepth 100000
namespace Pt
open aJ Fr Vn Ops Wl
def AOk(W:World)(a:Xe):Prop:=Src W 1 a.A a.l.length (a.l.map Value.string)/\a.l.length<=maxLen/\I64 a.n
theorem AOk.kept{W W':World}{a:Xe}(h:AOk W a)(hk:Kept aj W W'):AOk W' a:=⟨h.1.kept hk (fun _ _ z=>z),h.2⟩
end Pt
section
open Go.WideShapes Go.ChangeShapes
variable{H:Type}{enc:TypeId×Value->H}{W:World}{v:Value}{d:DataW H}{ps:List MemPlace}{r:Reach}{b0:Nat}
end
namespace Pt
open aJ Fr Vn Ops Wl
section
variable{w0 w w':World}{gp gw g n c:Nat}{F:Nat->Prop}{m:aJ.Safe}{ps:List aJ.Pc}{aO first:Int}{R:St}{T:List (List UInt8)}{A:Option Addr}{l:List ByteArray}
end
end Pt
namespace dM
open aP Vn Mst lJ IM nG gX
def nM(s:bV):List aN:=(if 0<s.ep then [rP s none 0 none 0]else [])++s.pins.map kL++mg s++[fP s.hz]++fK (jg s)
theorem mD(a b:List aN):fB (a++b)=fB a++fB b:=by unfold fB;rw[List.filter_append,List.map_append]
theorem Uk{w:World}{s:bV}{pre:List aN}(h:vH w s pre):fB (pre++s.pins.map kL++mg s++[fP s.hz]++fK (jg s))=fB (nM s):=by
 unfold nM
 rw[mD,mD,mD,mD,mD,mD,mD,mD]
 congr 4
 rcases h with⟨h1,h2⟩|⟨h1,A,c,B,d,rfl,_,_⟩
 ·rw[h1,if_neg h2]
 ·rw[if_pos h1]
  have hE:aY (rP s A c B d)=aY (rP s none 0 none 0):=rfl
  have hB:qG (rP s A c B d)=qG (rP s none 0 none 0):=rfl
  unfold fB
  by_cases h0:aY (rP s none 0 none 0)=0
  ·rw[List.filter_cons,if_pos (decide_eq_true (hE.trans h0)),List.filter_cons,if_pos (decide_eq_true h0),List.filter_nil,List.map_cons,List.map_cons,hB]
  ·rw[List.filter_cons,if_neg (by rw[hE];simpa using h0),List.filter_cons,if_neg (by simpa using h0)]
theorem G8(s:bV)(pre:List aN)(hp:pre.length<=1):(pre++s.pins.map kL++mg s++[fP s.hz]++fK (jg s)).length<=s.pins.length+6:=by
 have h1:(mg s).length<=1:=by unfold mg;split<;>simp
 have h2:(fK (jg s)).length<=3:=EM (jg s) 3
 simp only[List.length_append,List.length_map,List.length_singleton]
 omega
def mX(M:MR):MR:={M with lg:=if 2048<M.lg.sync.size then M.lg.sync.save (fB (nM M.st))else M.lg.sync,out:=[]}
def DK(w:World)(X:MX)(M:MR)(c:Nat)(e:Ending)(w':World):Prop:=
 ∃A d,e=.returned (.slice A M.out.length d)/\w'.ownsRow 0 143 2 (.slice A M.out.length d) M.out.length (rM M.out)/\(∀k,(Value.slice A M.out.length d).ownBlock=some k->dU X M k\/w.heap.size<=k)/\∃X',Step w X M w' X' (mX M)/\cZ X' (mX M).lg (c+1)/\(∀k,(Value.slice A M.out.length d).ownBlock=some k->¬dU X' (mX M) k)
section
variable{w w':World}{X X0:MX}{M M0:MR}{c:Nat}
theorem Ul(t:List UInt8):0<(Fr.bM t).length:=by
 unfold Fr.bM
 rw[List.length_append,List.length_append]
 have:=put_pos t.length
 omega
theorem Um(first:Int)(R:Wl.St)(t:List UInt8)(T:List (List UInt8)):0<aJ.total (Wl.iK first R (t::T)):=by
 show 0<aJ.total ((first+Wl.lastOf R,Ops.bu (Fr.bM t))::Wl.iK first (Wl.app R t) T)
 rw[aJ.total_cons]
 dsimp only
 have:=Ul t
 have h2:(Ops.bu (Fr.bM t)).size=(Fr.bM t).length:=by rw[<-Ops.dh,Ops.kN]
 omega
theorem Un(h:dG w X M)(hb:cZ X M.lg c)(hc:c<=4500):
  Calls Tryz.prog 111 #[.pointer (some ⟨X.g,0,none⟩)] w fun e w'=>(∃k:Int,e=.returned (.int .i64 k))/\∃X',Step w X M w' X' {M with lg:=M.lg.sync}/\cZ X' M.lg.sync c/\X'.n=X.n+X.ps.length/\X'.ps=[]:=by
 have hp:rO w X M.lg:=h.c 1
 refine(Pt.TP hp (cZ.fits hb h (by omega))).mono ?_
 rintro e w' ⟨he,hp',hk⟩
 have hst:=dG.PN (X:=X) (M:=M) (zS:=X.gw) (F':=X.F) (A':=X.A) (c':=X.c) (n':=X.n+X.ps.length) (m':=aJ.kK X.m X.ps) (ps':=[]) (L':=M.lg.sync) h (w':=w') hp' (hk.mono fun k hk=> .inl hk) (fun k hk=> .inl hk) (.inl rfl) (fun k hk=> .inl hk)
 have hcur:=cZ.cur hb h
 refine⟨he,_,hst,⟨?_,?_,hb.l,?_⟩,rfl,rfl⟩
 ·show X.n+X.ps.length+([]:List aJ.Pc).length<=_
  have:=hb.n
  simp
  omega
 ·show M.lg.first+((Wl.cur M.lg.R M.lg.T).length+([]:List (List UInt8)).length:Nat)<=_
  have:=hb.f
  have:=hcur.1
  simp
  omega
 ·exact Pt.Ko hb.hd
theorem Uo(h:dG w X M)(hb:cZ X M.lg c)(hc:c<=4500)(A0:Option Addr)(c0:Nat)(l':List ByteArray)(hA:Src w 1 A0 l'.length (l'.map Value.string))(Gz:0<l'.length->∀ad,A0=some ad->¬dU X M ad.block)(hs:∀s∈l',s.size<65536)(hl:l'.length<=9):
  Calls Tryz.prog 113 #[.pointer (some ⟨X.gp,0,none⟩),.slice A0 l'.length c0] w fun e w'=>e=.returned (.int .i64 0)/\∃X',Step w X M w' X' {M with lg:=M.lg.save l'}/\cZ X' (M.lg.save l') (c+1):=by
 have hp:rO w X M.lg:=h.c 1
 have hcur:=cZ.cur hb h
 have h1:=hb.n
 have h2:=hb.f
 have h3:=hp.f1
 refine(Pt.TE hp (cZ.fits hb h (by omega)) (Nat.zero_le _) A0 c0 l' hA (fun h0 ad e=>⟨fun hf=>Gz h0 ad e ⟨1,.inl hf⟩,fun hf=>Gz h0 ad e ⟨1,.inr (.inl hf)⟩⟩) hs (by omega) (by have:=hcur.1;omega) (by omega)).mono ?_
 rintro e w' ⟨he,zS,F',m',A',c',hp',hgw,hF',hk,hrow⟩
 have hst:=dG.PN (X:=X) (M:=M) (zS:=zS) (F':=F') (A':=A') (c':=c') (n':=X.n+X.ps.length+l'.length+1) (m':=m') (ps':=[]) (L':=M.lg.save l') h (w':=w') hp' (hk.mono fun k hk=>by
  rcases hk with hk|hk
  ·exact .inl hk
  ·exact .inr (.inl hk)) hF' (.inr hgw) (fun k hk=> .inr (hrow k hk))
 refine⟨he,_,hst,⟨?_,?_,?_,?_⟩⟩
 ·show X.n+X.ps.length+l'.length+1+([]:List aJ.Pc).length<=_
  simp
  omega
 ·show M.lg.first+(Wl.cur M.lg.R M.lg.T).length+((Wl.cur [] (Pt.lu l'.length l')).length+([]:List (List UInt8)).length:Nat)<=_
  have e1:=Wl.zq [] (Pt.lu l'.length l')
  have e2:(Pt.lu l'.length l').length=l'.length+1:=Pt.yE _ _
  have e3:=hcur.1
  rw[e2]at e1
  simp only[List.length_nil]at e1⊢
  omega
 ·show l'.length<=_
  omega
 ·exact Pt.TJ _ _
end
end dM
namespace dM
open aP Vn Mst lJ IM nG gX
theorem N5{w:World}{X:MX}{L:nS}(h:rO w X L):Pt.Be (fun j=>(aJ.dataOf X.m X.ps (L.first+j)).size) (Wl.cur L.R L.T).length=L.size:=by
 unfold nS.size
 congr 1
 funext j
 rw[(h.log.file j).2,<-Ops.dh,Ops.kN]
theorem Kv{s:bV}(hu:SU s)(pre:List aN)(hp:∀x∈pre,NU x):∀x∈pre++s.pins.map kL++mg s++[fP s.hz]++fK (jg s),NU x:=by
 intro x hx
 have z:(0:Int)<=0/\(0:Int)<=aT:=by decide
 simp only[List.mem_append,List.mem_map,List.mem_singleton]at hx
 rcases hx with(((hx|⟨p,hp2,rfl⟩)|hx)|rfl)|hx
 ·exact hp x hx
 ·exact⟨z,hu.pin p hp2,z,z⟩
 ·unfold mg at hx
  split at hx
  ·cases hx
  ·rw[List.mem_singleton.1 hx];exact⟨z,z,z,z⟩
 ·exact⟨hu.hz,z,z,z⟩
 ·unfold fK at hx
  obtain⟨a,_,rfl⟩:=List.mem_map.1 hx
  exact⟨z,z,z,z⟩
theorem EN{w:World}{x:aN}(h1:x.ms=[])(h2:x.lg=[])(h3:x.b.ops=[]):gU w x:=by
 refine⟨?_,?_,?_,?_,?_,?_,?_⟩
 ·rw[h1];exact Src.nil _ _ _
 ·rw[h1];exact Nat.zero_le _
 ·rw[h1];exact Nat.zero_le _
 ·rw[h2];exact Src.nil _ _ _
 ·rw[h2];exact Nat.zero_le _
 ·rw[h2];exact Nat.zero_le _
 ·rw[h3];exact Src.nil _ _ _
theorem Up{w:World}{s:bV}{pre:List aN}(hok:nR s)(hp:vH w s pre):∀x∈pre++s.pins.map kL++mg s++[fP s.hz]++fK (jg s),gU w x:=by
 intro x hx
 simp only[List.mem_append,List.mem_map,List.mem_singleton]at hx
 rcases hx with(((hx|⟨p,hp2,rfl⟩)|hx)|rfl)|hx
 ·rcases hp with⟨rfl,_⟩|⟨_,A,c,B,d,rfl,h1,h2⟩
  ·cases hx
  ·rw[List.mem_singleton.1 hx]
   exact⟨Src.bC h1,(jk h1).1,hok.m,Src.bC h2,(jk h2).1,hok.l,Src.nil _ _ _⟩
 ·exact EN rfl rfl rfl
 ·unfold mg at hx
  split at hx
  ·cases hx
  ·rw[List.mem_singleton.1 hx];exact EN rfl rfl rfl
 ·exact EN rfl rfl rfl
 ·unfold fK at hx
  obtain⟨a,_,rfl⟩:=List.mem_map.1 hx
  exact EN rfl rfl rfl
theorem abb{w:World}{s:bV}{pre:List aN}(hu:SU s)(hp:vH w s pre):∀x∈pre,NU x:=by
 have z:(0:Int)<=0/\(0:Int)<=aT:=by decide
 rcases hp with⟨rfl,_⟩|⟨_,A,c,B,d,rfl,h1,h2⟩
 ·intro x hx;cases hx
 ·intro x hx
  rw[List.mem_singleton.1 hx]
  exact⟨z,z,hu.fl,z⟩
theorem ZP{w:World}{s:bV}{pre:List aN}(hp:vH w s pre):pre.length<=1:=by
 rcases hp with⟨rfl,_⟩|⟨_,A,c,B,d,rfl,h1,h2⟩
 ·exact Nat.zero_le _
 ·exact Nat.le_refl _
section
variable{w w':World}{X X0:MX}{M M0:MR}{c:Nat}
def Ur(w:World)(TX:List ByteArray)(e:Ending)(w':World):Prop:=∃A d,e=.returned (.slice A TX.length d)/\aF 9 1 w.heap.size w' A TX.length d (TX.map Value.string)/\Kept aj w w'
def YK(w:World)(s:bV)(e:Ending)(w':World):Prop:=∃A d pre l,e=.returned (.slice A l.length d)/\jC w s w' pre l A d/\l=pre++s.pins.map kL++mg s++[fP s.hz]++fK (jg s)
theorem Kw(w:World)(s:bV)(TX:List ByteArray)(hT:fB (nM s)=TX)(A:Option Addr)(d:Nat)(pre l:List aN)(w0:World)(hs:jC w0 s w pre l A d)(hl:l=pre++s.pins.map kL++mg s++[fP s.hz]++fK (jg s))(hok:nR s)(hu:SU s)(hp:s.pins.length<=3):
  Calls Tryz.prog 114 #[.slice A l.length d] w (Ur w TX):=by
 have hlen:=G8 s pre (ZP hs.pre)
 have hE:=Uk hs.pre
 rw[<-hl]at hE hlen
 unfold Ur
 rw[<-hT,<-hE]
 exact GH w A d _ (Src.bC hs.own) (by omega) (fun x hx=>⟨Up hok hs.pre x (by rw[<-hl];exact hx),Kv hu pre (abb hu hs.pre) x (by rw[<-hl];exact hx)⟩)
theorem PZ(s:bV):(fB (nM s)).length<=s.pins.length+6:=by
 refine Nat.le_trans (EL _) ?_
 unfold nM
 refine G8 s _ ?_
 split<;>simp
theorem MY{s:bV}(hu:SU s):∀t∈fB (nM s),t.size<65536:=by
 intro t ht
 unfold fB at ht
 obtain⟨x,hx,rfl⟩:=List.mem_map.1 ht
 have hm:=(List.mem_filter.1 hx).1
 have z:(0:Int)<=0/\(0:Int)<=aT:=by decide
 have:=G4 (Kv hu (if 0<s.ep then [rP s none 0 none 0]else []) (fun x hx=>by
  split at hx
  ·rw[List.mem_singleton.1 hx];exact⟨z,z,hu.fl,z⟩
  ·cases hx) x hm)
 omega
theorem aF.lower{e:TypeId}{size B B' n d:Nat}{w:World}{A:Option Addr}{xs:List Value}(h:aF e size B w A n d xs)(hB:B'<=B):aF e size B' w A n d xs:=⟨h.1,fun k hk=>Nat.le_trans hB (h.2 k hk)⟩
theorem G9{w3:World}{X3:MX}{L:nS}(TX:List ByteArray)(hT:fB (nM M.st)=TX)(hst:Step w X M w3 X3 {M with lg:=L})(hlb:cZ X3 L c)(hc:c<=4000)(hu:SU M.st)(hp3:M.st.pins.length<=3):
  ∀(W:World) (A:Option Addr) (d:Nat),Kept aj w3 W->aF 9 1 w3.heap.size W A TX.length d (TX.map Value.string)->
   Calls Tryz.prog 113 #[.pointer (some ⟨X.gp,0,none⟩),.slice A TX.length d] W fun e w'=>e=.returned (.int .i64 0)/\∃X',Step w X M w' X' {M with lg:=L.save TX}/\cZ X' (L.save TX) (c+1):=fun W A d hW hr=>by
 subst hT
 have hm:=hst.at'.quiet hW
 have hlen:=PZ M.st
 have hsv:=Uo hm (c:=c) hlb (by omega) A d (fB (nM M.st)) (Src.bC hr.1) (fun h0 ad e hf=>by
  obtain⟨g,cap,hv,_,hlt⟩:=hr.1.form h0
  rw[e]at hv
  injection hv with hv
  injection hv with hv
  have h1:=hst.at'.lt hf
  have h2:=hr.2 g (by rw[e,hv];rfl)
  rw[hv]at h1
  dsimp only at h1
  omega) (MY hu) (by omega)
 rw[hst.gp]at hsv
 refine hsv.mono ?_
 rintro e w' ⟨he,X',h1,h2⟩
 exact⟨he,X',(hst.quiet hW).trans h1,h2⟩
theorem zy{w6:World}{X6:MX}{L:nS}(hst:Step w X M w6 X6 {M with lg:=L})(hL:mX M={M with lg:=L,out:=[]})(hlb:cZ X6 L (c+1)):
  DK w X M c (.returned (.slice X6.oA M.out.length X6.oc)) (w6.setCell ⟨X.mb,11,none⟩ (.slice none 0 0)):=by
 have hmb:=hst.mb
 have hcl:=hst.Xc
 have e0:(⟨X.mb,11,none⟩:Addr)=⟨X6.mb,11,none⟩:=by rw[hmb]
 rw[e0]
 have hrow:w6.ownsRow 0 143 2 (.slice X6.oA M.out.length X6.oc) M.out.length (rM M.out):=hst.at'.c 10
 refine⟨X6.oA,X6.oc,rfl,aC (F:=fun k=>k=X6.mb) hrow ((Kept.refl _ w6).put (.inl rfl)) (fun g hg e=>absurd (hst.at'.ap 0 10 g e hg) (by decide)),fun k hk=>hst.g k ⟨10,hk⟩,{X6 with oA:=none,oc:=0},?_,?_,?_⟩
 ·rw[hL];exact hcl
 ·rw[hL];exact⟨hlb.n,hlb.f,hlb.l,hlb.hd⟩
 ·rw[hL]
  rintro k hk ⟨i,hi⟩
  have h10:parts X6 {M with lg:=L} 10 k:=hk
  rcases i with _|_|_|_|_|_|_|_|_|_|_|i
  ·exact absurd (hst.at'.ap 0 10 k hi h10) (by decide)
  ·exact absurd (hst.at'.ap 1 10 k hi h10) (by decide)
  ·exact absurd (hst.at'.ap 2 10 k hi h10) (by decide)
  ·exact absurd (hst.at'.ap 3 10 k hi h10) (by decide)
  ·exact absurd (hst.at'.ap 4 10 k hi h10) (by decide)
  ·exact absurd (hst.at'.ap 5 10 k hi h10) (by decide)
  ·exact absurd (hst.at'.ap 6 10 k hi h10) (by decide)
  ·exact absurd (hst.at'.ap 7 10 k hi h10) (by decide)
  ·exact absurd (hst.at'.ap 8 10 k hi h10) (by decide)
  ·exact absurd (hst.at'.ap 9 10 k hi h10) (by decide)
  ·simp[parts,Value.ownBlock]at hi
  ·exact hi
theorem vT(h:dG w X M)(hb:cZ X M.lg c)(hc:c<=4000)(hok:nR M.st)(hu:SU M.st)(hp3:M.st.pins.length<=3):
  Calls Tryz.prog 46 #[.pointer (some ⟨X.mb,0,none⟩)] w (DK w X M c):=by
 have hp:rO w X M.lg:=h.c 1
 have hfits:=cZ.fits hb h (by omega)
 have YL:=aJ.CS hp.d (by have:=hfits.len;omega) (by have:=hfits.total;omega)
 have q0:∀W,Kept aj w W->W.cell? ⟨X.mb,0,none⟩=some (.pointer (some ⟨X.g,0,none⟩)):=fun W hW=>Has.cell ((h.quiet hW).c 0) 0
 have YM:=fun W (hW:Kept aj w W)=>Un (h.quiet hW) hb (by omega)
 have hsame:aJ.total X.ps=0->M.lg.sync=M.lg:=fun h0=>by
  have hps:X.ps=Wl.iK M.lg.first M.lg.R M.lg.T:=hp.low.low.pcs hp.log
  cases hT:M.lg.T with
  |nil=>unfold nS.sync;rw[hT];cases hl:M.lg;rw[hl]at hT;cases hT;rfl
  |cons t T=>
   rw[hps,hT]at h0
   have:=Um M.lg.first M.lg.R t T
   omega
 have HP:=ah YL;have HQ0:=ah q0;have HSY:=ah YM;have EO:=ah hsame;have H:=ah h;have HB:=ah hb;have Af:=ah hok;have HU:=ah hu;have yj:=ah hp3;have HC:=ah hc
 clear hp hfits YL q0 YM hsame h hb hok hu hp3 hc
 obtain⟨K,hK⟩:∃K,aJ.total X.ps=K:=⟨_,rfl⟩
 rw[hK]at HP EO
 clear hK
 have qa:=HQ0.out w (Kept.refl _ _)
 by_cases hK0:0<K
 ·go_enter Tryz.func46,Tryz.ntmps46
  go_wp2_with fail
  clear qa
  refine HP.out.mono ?_
  rintro e w2 ⟨rfl,hk2⟩
  have qa:=HQ0.out _ hk2
  have hsy:=HSY.out _ hk2
  have HS2:=ah hsy;have aQ:=ah hk2;clear hsy hk2
  go_wp2_with fail
  clear qa
  refine HS2.out.mono ?_
  rintro e w3 ⟨⟨kk,rfl⟩,X3,hst,hlb,-,-⟩
  have hst3:=(Step.refl H.out aQ.out).trans hst
  have HST:=ah hst3;have iW:=ah hlb;clear hst hst3 hlb aQ HS2
  have nJ:=HST.out.at'
  have q1:∀W,Kept aj w3 W->W.cell? ⟨X.mb,1,none⟩=some (.pointer (some ⟨X.gp,0,none⟩)):=fun W hW=>by
   have h1:W.cell? ⟨X3.mb,1,none⟩=some (.pointer (some ⟨X3.gp,0,none⟩)):=Has.cell ((nJ.quiet hW).c 0) 1
   rw[HST.out.mb,HST.out.gp]at h1;exact h1
  have q2:∀W,Kept aj w3 W->W.cell? ⟨X.mb,2,none⟩=some (.pointer (some ⟨X.sb,0,none⟩)):=fun W hW=>by
   have h1:W.cell? ⟨X3.mb,2,none⟩=some (.pointer (some ⟨X3.sb,0,none⟩)):=Has.cell ((nJ.quiet hW).c 0) 2
   rw[HST.out.mb,HST.out.sb]at h1;exact h1
  have hp3:rO w3 X3 M.lg.sync:=nJ.c 1
  have DL:cZ X3 ({M with lg:=M.lg.sync}:MR).lg c:=iW.out
  have hcur:=cZ.cur DL nJ
  have hc4:=HC.out
  obtain⟨TX,Ky⟩:∃TX,fB (nM M.st)=TX:=⟨_,rfl⟩
  have Us:=ah Ky
  have hsize:=Pt.GM hp3 (cZ.fits DL nJ (by omega)) (by
   have h1:=hcur.1
   have h2:=hcur.2.2
   have h3:(Wl.cur M.lg.sync.R M.lg.sync.T).length<=1+12*c:=Nat.le_trans h1 h2
   omega) (by have h1:M.lg.sync.first+(M.lg.sync.R.length+M.lg.sync.T.length:Nat)<=2+12*(c:Int):=iW.out.f;omega)
  rw[N5 hp3,HST.out.gp]at hsize
  have EP:mX M={M with lg:=if 2048<M.lg.sync.size then M.lg.sync.save (fB (nM M.st))else M.lg.sync,out:=[]}:=rfl
  obtain⟨SZ,hSZ⟩:∃SZ,M.lg.sync.size=SZ:=⟨_,rfl⟩
  rw[hSZ]at hsize EP
  rw[Ky]at EP
  clear Ky
  have HSI:=ah hsize;have yx:=ah q1;have zL:=ah q2;have Kz:=ah EP
  clear nJ q1 q2 hp3 DL hcur hc4 hsize EP hSZ
  have qa:=yx.out _ (Kept.refl _ _)
  go_wp2_with fail
  clear qa
  refine HSI.out.mono ?_
  rintro e w4 ⟨rfl,hk4⟩
  have dR:=ah hk4;clear hk4
  by_cases hbig:2048<SZ
  ·have hdm:=Kz.out
   rw[if_pos hbig]at hdm
   have HD:=ah hdm;clear hdm Kz
   have hbi:(2048:Int)<(SZ:Int):=by omega
   have r1:=yx.out _ dR.out
   have r2:=zL.out _ dR.out
   have Bq:∀W,Kept aj w3 W->Calls Tryz.prog 115 #[.pointer (some ⟨X.sb,0,none⟩)] W (YK W M.st):=fun W hW=>by
    have:=G5 W X3.sb X3.FS M.st ((HST.out.at'.quiet hW).c 2) Af.out
    rw[HST.out.sb]at this
    refine this.mono ?_
    rintro e w' ⟨A,d,pre,he,ho⟩
    exact⟨A,d,pre,_,he,ho,rfl⟩
   have iZ:=ah Bq;have HSV:=ah (G9 TX Us.out HST.out iW.out HC.out HU.out yj.out);clear Bq hbig
   go_wp2_with fail
   go_region_held3 (fun W=>W.cell? ⟨X.mb,1,none⟩=some (.pointer (some ⟨X.gp,0,none⟩))/\W.cell? ⟨X.mb,2,none⟩=some (.pointer (some ⟨X.sb,0,none⟩))) (first|with_reducible exact⟨z5,z6⟩|with_reducible exact⟨z3,z4⟩|with_reducible exact⟨z1,z2⟩|with_reducible exact⟨r1,r2⟩|(simp[go_sem,r1,r2];done))
    (first
     |(go_at_call 115;refine(iZ.out _ (by(repeat'(first|(with_reducible first|exact ak|apply au|apply ay|apply aA|apply aB)|(exact dR.out)|(right;simp;done))))).mono ?_;rintro e w5 ⟨A,d,pre,l,rfl,ho,hll⟩;have hk5:=Kept.then (F:=aj) (a:=w3) (by(repeat'(first|(with_reducible first|exact ak|apply au|apply ay|apply aA|apply aB)|(exact dR.out)|(right;simp;done)))) ho.kept;have z1:=yx.out _ hk5;have z2:=zL.out _ hk5;have HO:=ah ho;have qy:=ah hll;have cO:=ah hk5;clear ho hk5 hll)
     |(go_at_call 114;refine(Kw _ M.st TX Us.out A d pre l _ (by exact HO.out.still (by(repeat'(first|(with_reducible first|exact ak|apply au|apply ay|apply aA|apply aB)|(right;simp;done))))) qy.out Af.out HU.out yj.out).mono ?_;rintro e w6 ⟨A2,d2,rfl,hr,hk6⟩;have hk:=Kept.then (F:=aj) (a:=w3) (by(repeat'(first|(with_reducible first|exact ak|apply au|apply ay|apply aA|apply aB)|(exact cO.out)|(right;simp;done)))) hk6;have z3:=yx.out _ hk;have z4:=zL.out _ hk;have hr3:=aF.lower hr (by exact cO.out.size);have HR:=ah hr3;have jV:=ah hk;clear hk hk6 hr hr3)
     |(go_at_call 113;refine(HSV.out _ A2 d2 (by(repeat'(first|(with_reducible first|exact ak|apply au|apply ay|apply aA|apply aB)|(exact jV.out)|(right;simp;done)))) (aF.kept HR.out (by(repeat'(first|(with_reducible first|exact ak|apply au|apply ay|apply aA|apply aB)|(right;simp;done)))))).mono ?_;rintro e w7 ⟨rfl,X7,hs7,zT⟩;have z5:w7.cell? ⟨X.mb,1,none⟩=some (.pointer (some ⟨X.gp,0,none⟩)):=(by have h1:w7.cell? ⟨X7.mb,1,none⟩=some (.pointer (some ⟨X7.gp,0,none⟩)):=Has.cell (hs7.at'.c 0) 1;rw[hs7.mb,hs7.gp]at h1;exact h1);have z6:w7.cell? ⟨X.mb,2,none⟩=some (.pointer (some ⟨X.sb,0,none⟩)):=(by have h1:w7.cell? ⟨X7.mb,2,none⟩=some (.pointer (some ⟨X7.sb,0,none⟩)):=Has.cell (hs7.at'.c 0) 2;rw[hs7.mb,hs7.sb]at h1;exact h1);have oN:=ah hs7;have Ue:=ah zT;clear hs7 zT))
   clear z1 z2 z3 z4 z5 z6 r1 r2 hbi
   have hf:=zy oN.out HD.out Ue.out
   have q11:w7.cell? ⟨X.mb,11,none⟩=some (.slice X7.oA M.out.length X7.oc):=by
    have h1:w7.cell? ⟨X7.mb,11,none⟩=some (.slice X7.oA M.out.length X7.oc):=Has.cell (oN.out.at'.c 0) 11
    rw[oN.out.mb]at h1;exact h1
   have f11:w7.frozen? ⟨X.mb,11,none⟩=false:=by
    have h1:=Has.frozen (oN.out.at'.c 0) 11
    rw[oN.out.mb]at h1;exact h1
   have HF:=ah hf;clear hf
   go_wp2
   go_ret
   exact HF.out
  ·have hdm:=Kz.out
   rw[if_neg hbig]at hdm
   have hbi:¬(2048:Int)<(SZ:Int):=by omega
   have hf:=zy (HST.out.quiet dR.out) hdm (cZ.mono iW.out (Nat.le_succ c))
   have hm4:=HST.out.at'.quiet dR.out
   have q11:w4.cell? ⟨X.mb,11,none⟩=some (.slice X3.oA M.out.length X3.oc):=by
    have h1:w4.cell? ⟨X3.mb,11,none⟩=some (.slice X3.oA M.out.length X3.oc):=Has.cell (hm4.c 0) 11
    rw[HST.out.mb]at h1;exact h1
   have f11:w4.frozen? ⟨X.mb,11,none⟩=false:=by
    have h1:=Has.frozen (hm4.c 0) 11
    rw[HST.out.mb]at h1;exact h1
   have HF:=ah hf;clear hf hdm hm4 hbig
   go_wp2
   go_ret
   exact HF.out
 ·have hz:K=0:=by omega
  subst hz
  have hsa:=EO.out rfl
  clear EO hK0
  go_enter Tryz.func46,Tryz.ntmps46
  go_wp2_with fail
  clear qa
  refine HP.out.mono ?_
  rintro e w3 ⟨rfl,hk3⟩
  obtain⟨X3,hst3,hlb⟩:∃X3,Step w X M w3 X3 {M with lg:=M.lg.sync}/\cZ X3 M.lg.sync c:=by
   rw[hsa]
   exact⟨X,Step.refl H.out hk3,HB.out⟩
  have HST:=ah hst3;have iW:=ah hlb;clear hst3 hlb hk3 hsa
  have nJ:=HST.out.at'
  have q1:∀W,Kept aj w3 W->W.cell? ⟨X.mb,1,none⟩=some (.pointer (some ⟨X.gp,0,none⟩)):=fun W hW=>by
   have h1:W.cell? ⟨X3.mb,1,none⟩=some (.pointer (some ⟨X3.gp,0,none⟩)):=Has.cell ((nJ.quiet hW).c 0) 1
   rw[HST.out.mb,HST.out.gp]at h1;exact h1
  have q2:∀W,Kept aj w3 W->W.cell? ⟨X.mb,2,none⟩=some (.pointer (some ⟨X.sb,0,none⟩)):=fun W hW=>by
   have h1:W.cell? ⟨X3.mb,2,none⟩=some (.pointer (some ⟨X3.sb,0,none⟩)):=Has.cell ((nJ.quiet hW).c 0) 2
   rw[HST.out.mb,HST.out.sb]at h1;exact h1
  have hp3:rO w3 X3 M.lg.sync:=nJ.c 1
  have DL:cZ X3 ({M with lg:=M.lg.sync}:MR).lg c:=iW.out
  have hcur:=cZ.cur DL nJ
  have hc4:=HC.out
  obtain⟨TX,Ky⟩:∃TX,fB (nM M.st)=TX:=⟨_,rfl⟩
  have Us:=ah Ky
  have hsize:=Pt.GM hp3 (cZ.fits DL nJ (by omega)) (by
   have h1:=hcur.1
   have h2:=hcur.2.2
   have h3:(Wl.cur M.lg.sync.R M.lg.sync.T).length<=1+12*c:=Nat.le_trans h1 h2
   omega) (by have h1:M.lg.sync.first+(M.lg.sync.R.length+M.lg.sync.T.length:Nat)<=2+12*(c:Int):=iW.out.f;omega)
  rw[N5 hp3,HST.out.gp]at hsize
  have EP:mX M={M with lg:=if 2048<M.lg.sync.size then M.lg.sync.save (fB (nM M.st))else M.lg.sync,out:=[]}:=rfl
  obtain⟨SZ,hSZ⟩:∃SZ,M.lg.sync.size=SZ:=⟨_,rfl⟩
  rw[hSZ]at hsize EP
  rw[Ky]at EP
  clear Ky
  have HSI:=ah hsize;have yx:=ah q1;have zL:=ah q2;have Kz:=ah EP
  clear nJ q1 q2 hp3 DL hcur hc4 hsize EP hSZ
  have qa:=yx.out _ (Kept.refl _ _)
  go_wp2_with fail
  clear qa
  refine HSI.out.mono ?_
  rintro e w4 ⟨rfl,hk4⟩
  have dR:=ah hk4;clear hk4
  by_cases hbig:2048<SZ
  ·have hdm:=Kz.out
   rw[if_pos hbig]at hdm
   have HD:=ah hdm;clear hdm Kz
   have hbi:(2048:Int)<(SZ:Int):=by omega
   have r1:=yx.out _ dR.out
   have r2:=zL.out _ dR.out
   have Bq:∀W,Kept aj w3 W->Calls Tryz.prog 115 #[.pointer (some ⟨X.sb,0,none⟩)] W (YK W M.st):=fun W hW=>by
    have:=G5 W X3.sb X3.FS M.st ((HST.out.at'.quiet hW).c 2) Af.out
    rw[HST.out.sb]at this
    refine this.mono ?_
    rintro e w' ⟨A,d,pre,he,ho⟩
    exact⟨A,d,pre,_,he,ho,rfl⟩
   have iZ:=ah Bq;have HSV:=ah (G9 TX Us.out HST.out iW.out HC.out HU.out yj.out);clear Bq hbig
   go_wp2_with fail
   go_region_held3 (fun W=>W.cell? ⟨X.mb,1,none⟩=some (.pointer (some ⟨X.gp,0,none⟩))/\W.cell? ⟨X.mb,2,none⟩=some (.pointer (some ⟨X.sb,0,none⟩))) (first|with_reducible exact⟨z5,z6⟩|with_reducible exact⟨z3,z4⟩|with_reducible exact⟨z1,z2⟩|with_reducible exact⟨r1,r2⟩|(simp[go_sem,r1,r2];done))
    (first
     |(go_at_call 115;refine(iZ.out _ (by(repeat'(first|(with_reducible first|exact ak|apply au|apply ay|apply aA|apply aB)|(exact dR.out)|(right;simp;done))))).mono ?_;rintro e w5 ⟨A,d,pre,l,rfl,ho,hll⟩;have hk5:=Kept.then (F:=aj) (a:=w3) (by(repeat'(first|(with_reducible first|exact ak|apply au|apply ay|apply aA|apply aB)|(exact dR.out)|(right;simp;done)))) ho.kept;have z1:=yx.out _ hk5;have z2:=zL.out _ hk5;have HO:=ah ho;have qy:=ah hll;have cO:=ah hk5;clear ho hk5 hll)
     |(go_at_call 114;refine(Kw _ M.st TX Us.out A d pre l _ (by exact HO.out.still (by(repeat'(first|(with_reducible first|exact ak|apply au|apply ay|apply aA|apply aB)|(right;simp;done))))) qy.out Af.out HU.out yj.out).mono ?_;rintro e w6 ⟨A2,d2,rfl,hr,hk6⟩;have hk:=Kept.then (F:=aj) (a:=w3) (by(repeat'(first|(with_reducible first|exact ak|apply au|apply ay|apply aA|apply aB)|(exact cO.out)|(right;simp;done)))) hk6;have z3:=yx.out _ hk;have z4:=zL.out _ hk;have hr3:=aF.lower hr (by exact cO.out.size);have HR:=ah hr3;have jV:=ah hk;clear hk hk6 hr hr3)
     |(go_at_call 113;refine(HSV.out _ A2 d2 (by(repeat'(first|(with_reducible first|exact ak|apply au|apply ay|apply aA|apply aB)|(exact jV.out)|(right;simp;done)))) (aF.kept HR.out (by(repeat'(first|(with_reducible first|exact ak|apply au|apply ay|apply aA|apply aB)|(right;simp;done)))))).mono ?_;rintro e w7 ⟨rfl,X7,hs7,zT⟩;have z5:w7.cell? ⟨X.mb,1,none⟩=some (.pointer (some ⟨X.gp,0,none⟩)):=(by have h1:w7.cell? ⟨X7.mb,1,none⟩=some (.pointer (some ⟨X7.gp,0,none⟩)):=Has.cell (hs7.at'.c 0) 1;rw[hs7.mb,hs7.gp]at h1;exact h1);have z6:w7.cell? ⟨X.mb,2,none⟩=some (.pointer (some ⟨X.sb,0,none⟩)):=(by have h1:w7.cell? ⟨X7.mb,2,none⟩=some (.pointer (some ⟨X7.sb,0,none⟩)):=Has.cell (hs7.at'.c 0) 2;rw[hs7.mb,hs7.sb]at h1;exact h1);have oN:=ah hs7;have Ue:=ah zT;clear hs7 zT))
   clear z1 z2 z3 z4 z5 z6 r1 r2 hbi
   have hf:=zy oN.out HD.out Ue.out
   have q11:w7.cell? ⟨X.mb,11,none⟩=some (.slice X7.oA M.out.length X7.oc):=by
    have h1:w7.cell? ⟨X7.mb,11,none⟩=some (.slice X7.oA M.out.length X7.oc):=Has.cell (oN.out.at'.c 0) 11
    rw[oN.out.mb]at h1;exact h1
   have f11:w7.frozen? ⟨X.mb,11,none⟩=false:=by
    have h1:=Has.frozen (oN.out.at'.c 0) 11
    rw[oN.out.mb]at h1;exact h1
   have HF:=ah hf;clear hf
   go_wp2
   go_ret
   exact HF.out
  ·have hdm:=Kz.out
   rw[if_neg hbig]at hdm
   have hbi:¬(2048:Int)<(SZ:Int):=by omega
   have hf:=zy (HST.out.quiet dR.out) hdm (cZ.mono iW.out (Nat.le_succ c))
   have hm4:=HST.out.at'.quiet dR.out
   have q11:w4.cell? ⟨X.mb,11,none⟩=some (.slice X3.oA M.out.length X3.oc):=by
    have h1:w4.cell? ⟨X3.mb,11,none⟩=some (.slice X3.oA M.out.length X3.oc):=Has.cell (hm4.c 0) 11
    rw[HST.out.mb]at h1;exact h1
   have f11:w4.frozen? ⟨X.mb,11,none⟩=false:=by
    have h1:=Has.frozen (hm4.c 0) 11
    rw[HST.out.mb]at h1;exact h1
   have HF:=ah hf;clear hf hdm hm4 hbig
   go_wp2
   go_ret
   exact HF.out
end
end dM
end Go.Proofs.YtolkgbafebehfaaGreat
