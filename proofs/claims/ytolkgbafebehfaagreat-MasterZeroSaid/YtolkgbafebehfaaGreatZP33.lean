/- Part 34 of what the proof needs. -/
import Derived.Test.YtolkgbafebehfaaGreatZP31
import Derived.Test.YtolkgbafebehfaaGreatZP32
set_option linter.unusedSimpArgs false
set_option linter.unusedVariables false
set_option maxHeartbeats 32000000
set_option maxRecDepth 100000
namespace Go.Proofs.YtolkgbafebehfaaGreat
open Go.RowKit
set_option maxRecDepth 100000
namespace dM
open aP Vn Mst lJ IM nG
def nS.app(L:nS)(s:ByteArray):nS:={L with T:=L.T++[84::Ops.bl s],l:=L.l++[s]}
def nS.sync(L:nS):nS:={L with R:=Wl.cur L.R L.T,T:=[]}
def nS.save(L:nS)(l:List ByteArray):nS:=⟨L.first+(Wl.cur L.R L.T).length,Wl.cur [] (Pt.lu l.length l),[],l⟩
def nS.size(L:nS):Nat:=Pt.Be (fun j=>(Wl.qC (Wl.cur L.R L.T) j).length) (Wl.cur L.R L.T).length
structure cZ(X:MX)(L:nS)(c:Nat):Prop where
 n:X.n+X.ps.length<=1+12*c
 f:L.first+(L.R.length+L.T.length:Nat)<=2+12*(c:Int)
 l:L.l.length<=12*c
 hd:Pt.Hd L.R
theorem cZ.mono{X:MX}{L:nS}{c d:Nat}(h:cZ X L c)(hd:c<=d):cZ X L d:=⟨by have:=h.n;omega,by have:=h.f;omega,by have:=h.l;omega,h.hd⟩
section
variable{ws w w':World}{X X0:MX}{M M0:MR}{c:Nat}
theorem cZ.fits(h:cZ X M.lg c)(ha:dG w X M)(hc:c<=5000):Wl.Fits X.n X.m X.ps:=by
 have hp:rO w X M.lg:=ha.c 1
 have h1:=h.n
 have h2:=h.f
 have h3:=hp.f1
 exact Pt.Xa hp.low hp.log hp.f1 (by omega) (by omega) (by omega)
theorem cZ.cur(h:cZ X M.lg c)(ha:dG w X M):(Wl.cur M.lg.R M.lg.T).length<=M.lg.R.length+M.lg.T.length/\Wl.lastOf (Wl.cur M.lg.R M.lg.T)<=M.lg.R.length+M.lg.T.length/\M.lg.R.length+M.lg.T.length<=1+12*c:=by
 have hp:rO w X M.lg:=ha.c 1
 have h1:=Wl.zq M.lg.R M.lg.T
 have h2:=Wl.AV (Wl.cur M.lg.R M.lg.T)
 have h3:=h.f
 have h4:=hp.f1
 exact⟨h1,by omega,by omega⟩
theorem dG.PN(h:dG w X M){zS:Nat}{F':Nat->Prop}{A':Option Addr}{c' n':Nat}{m':aJ.Safe}{ps':List aJ.Pc}{L':nS}
  (hp:rO w' {X with gw:=zS,F:=F',A:=A',c:=c',n:=n',m:=m',ps:=ps'} L') (hk:Kept (parts X M 1) w w') (hg:∀k,F' k->X.F k\/w.heap.size<=k) (hgw:zS=X.gw\/w.heap.size<=zS)
  (hr:∀k,(Value.slice A' L'.l.length c').ownBlock=some k->(Value.slice X.A M.lg.l.length X.c).ownBlock=some k\/w.heap.size<=k):
  Step w X M w' {X with gw:=zS,F:=F',A:=A',c:=c',n:=n',m:=m',ps:=ps'} {M with lg:=L'}:=
 h.upd 1 hk (fun j hj=>by rcases j with _|_|_|_|_|_|_|_|_|_|_|j<;>first|rfl|exact absurd rfl hj)
  (fun j hj hc=>by rcases j with _|_|_|_|_|_|_|_|_|_|_|j<;>first|exact hc|exact absurd rfl hj) hp (fun k hk=>by
   rcases hk with y|y|y|y
   ·rcases hg k y with z|z
    ·exact .inl (.inl z)
    ·exact .inr z
   ·exact .inl (.inr (.inl y))
   ·rcases hgw with z|z
    ·exact .inl (.inr (.inr (.inl (y.trans z))))
    ·exact .inr (by rw[y];exact z)
   ·rcases hr k y with z|z
    ·exact .inl (.inr (.inr (.inr z)))
    ·exact .inr z) rfl
theorem G4{x:aN}(hu:NU x):(qG x).size<=2000:=by
 unfold qG
 by_cases h0:aY x=0
 rotate_left
 ·rw[if_neg h0];decide
 rw[if_pos h0]
 rw[<-Ops.dh,Ops.kN]
 obtain⟨⟨u1,u2⟩,⟨u3,u4⟩,u5,⟨u6,u7⟩⟩:=hu
 unfold aT at u2 u4 u7
 have hn:x.k=3\/x.k=4\/x.k=5\/x.k=7->0<=x.n/\x.n<=1073741824:=fun h=>by
  unfold aY at h0
  rw[if_neg (by omega),if_neg (by omega),if_pos h]at h0
  exact oD h0
 have hL:∀n:Nat,n<=18446744073709551615->(put n).length<=9:=fun n h=>kX (by omega)
 unfold kP
 by_cases k1:x.k=1
 ·obtain⟨e1,e2⟩:=EI h0 k1
  obtain⟨l1,l2⟩:=Rh e2
  have a1:=gX.iQ (s:=gX.nU x.ep x.ms x.fl) (m:=99) (gX.wY u5) (by omega)
  have a2:=gX.lS (fun i:Int=>put i.toNat) x.lg 9 (fun y hy=>by have:=l2 y hy;exact hL _ (by omega))
  have a3:=hL x.lg.length (by omega)
  have a4:=hL x.k.toNat (by omega)
  rw[if_pos k1,List.length_append,List.length_append,List.length_append]
  omega
 rw[if_neg k1]
 by_cases k2:x.k=2
 ·have e1:iw [x.n]=0:=by
   unfold aY at h0
   rw[if_neg k1,if_pos k2]at h0
   by_cases hn:iw [x.n]=0
   ·exact hn
   ·rw[if_neg hn]at h0;exact absurd h0 hn
  have e2:=oD e1
  have a1:=gX.iQ (s:=gX.lQ (vw x)) (m:=121) (gX.vW (e:=vw x) ⟨u6,by unfold aT;exact u7⟩) (by omega)
  have a2:=hL x.n.toNat (by omega)
  have a4:=hL x.k.toNat (by omega)
  rw[if_pos k2,List.length_append,List.length_append]
  omega
 rw[if_neg k2]
 by_cases k3:x.k=3
 ·have e2:=hn (by omega)
  have a1:=hL x.at'.toNat (by omega)
  have a2:=hL x.n.toNat (by omega)
  have a4:=hL x.k.toNat (by omega)
  rw[if_pos k3,List.length_append,List.length_append]
  omega
 rw[if_neg k3]
 by_cases k4:x.k=4
 ·have e2:=hn (by omega)
  have a1:=hL x.at'.toNat (by omega)
  have a2:=hL x.n.toNat (by omega)
  have a4:=hL x.k.toNat (by omega)
  rw[if_pos k4,List.length_append,List.length_append]
  omega
 rw[if_neg k4]
 by_cases k6:x.k=6
 ·have e1:iw [x.pin.id,x.pin.left]=0:=by
   unfold aY at h0
   rw[if_neg k1,if_neg k2,if_neg (by omega),if_pos k6]at h0
   exact h0
  obtain⟨e2,e3⟩:=vO e1
  have a1:=hL x.pin.id.toNat (by omega)
  have a2:=hL x.pin.at'.toNat (by omega)
  have a3:=hL x.pin.left.toNat (by omega)
  have a4:=hL x.k.toNat (by omega)
  rw[if_pos k6,List.length_append,List.length_append,List.length_append]
  omega
 rw[if_neg k6]
 by_cases k8:x.k=8
 ·obtain⟨e1,e2,e3,e4⟩:=Nv (EJ h0 k8)
  have a1:=hL x.said.cl.toNat (by omega)
  have a2:=hL x.said.req.toNat (by omega)
  have a3:=hL x.said.e.toNat (by omega)
  have a5:=hL x.said.pin.toNat (by omega)
  have a4:=hL x.k.toNat (by omega)
  rw[if_pos k8,List.length_append,List.length_append,List.length_append,List.length_append]
  omega
 rw[if_neg k8]
 have h57:x.k=5\/x.k=7:=by
  unfold aY at h0
  by_cases h57:x.k=5\/x.k=7
  ·exact h57
  ·rw[if_neg k1,if_neg k2,if_neg (by omega),if_neg k6,if_neg k8]at h0;cases h0
 have e2:=hn (by omega)
 have a2:=hL x.n.toNat (by omega)
 have a4:=hL x.k.toNat (by omega)
 rw[List.length_append]
 omega
theorem Bj(h:dG w X M):Calls Tryz.prog 47 #[.pointer (some ⟨X.mb,0,none⟩)] w fun e w'=>e=.returned (.bool false)/\w=w':=by
 have q:w.cell? ⟨X.mb,0,none⟩=some (.pointer (some ⟨X.g,0,none⟩)):=Has.cell (h.c 0) 0
 clear h
 go_enter Tryz.func47,Tryz.ntmps47
 go_wp2
 go_ret
 exact⟨rfl,rfl⟩
theorem MS(w:World)(i:Int):Calls Tryz.prog 57 #[.int .i64 i] w fun e w'=>e=.returned (.bool (decide (0<=i/\i<4)))/\w=w':=by
 by_cases h1:0<=i
 ·by_cases h2:i<4
  ·rw[decide_eq_true (by omega)]
   go_enter Tryz.func57,Tryz.ntmps57
   go_wp2
   go_ret
   exact⟨rfl,rfl⟩
  ·rw[decide_eq_false (by omega)]
   go_enter Tryz.func57,Tryz.ntmps57
   go_wp2
   go_ret
   exact⟨rfl,rfl⟩
 ·rw[decide_eq_false (by omega)]
  go_enter Tryz.func57,Tryz.ntmps57
  go_wp2
  go_ret
  exact⟨rfl,rfl⟩
theorem PO(w:World)(i:Int):Calls Tryz.prog 59 #[.int .i64 i] w fun e w'=>e=.returned (.bool (decide (5<=i/\i<8)))/\w=w':=by
 by_cases h1:5<=i
 ·by_cases h2:i<8
  ·rw[decide_eq_true (by omega)]
   go_enter Tryz.func59,Tryz.ntmps59
   go_wp2
   go_ret
   exact⟨rfl,rfl⟩
  ·rw[decide_eq_false (by omega)]
   go_enter Tryz.func59,Tryz.ntmps59
   go_wp2
   go_ret
   exact⟨rfl,rfl⟩
 ·rw[decide_eq_false (by omega)]
  go_enter Tryz.func59,Tryz.ntmps59
  go_wp2
  go_ret
  exact⟨rfl,rfl⟩
theorem xU(w:World)(x:Mem)(b:Nat)(id:Int)(hb:Has w b 3 #[.int .i64 id]):
  Calls Tryz.prog 152 #[iJ x,.pointer (some ⟨b,0,none⟩)] w fun e w'=>e=.returned (.bool (decide (x.1=id)))/\Kept aj w w':=by
 have c0:=(hb.alloc (.cells #[.int .i64 x.1,.int .i64 x.2] 53)).cell 0
 simp only[List.getElem?_toArray,List.getElem?_cons_zero,List.getElem?_cons_succ]at c0
 clear hb
 go_enter Tryz.func152,Tryz.ntmps152
 go_wp2
 go_ret
 exact⟨rfl,by(repeat'(first|(with_reducible first|exact ak|apply au|apply ay|apply aA|apply aB)|(right;simp;done)))⟩
theorem wI(x f:Int)(A:Option Addr)(n c:Nat)(W:World):(Instr.field 25 (.agg #[.int .i64 x,.slice A n c,.int .u64 f]) 1).run Tryz.prog W=.ok (.slice A n c) W:=by kernel_rfl
attribute [local go_sem] wI
theorem pR(h:dG w X M)(hok:nR M.st)(id:Int):Calls Tryz.prog 68 #[.pointer (some ⟨X.mb,0,none⟩),.int .i64 id] w fun e w'=>e=.returned (.bool (dZ M.st.ms id))/\Kept aj w w':=by
 obtain⟨W0,hW0⟩:∃W0,w.alloc (.cells #[.int .i64 id] 3)=W0:=⟨_,rfl⟩
 have hk0:Kept aj w W0:=by rw[<-hW0];(repeat'(first|(with_reducible first|exact ak|apply au|apply ay|apply aA|apply aB)|(right;simp;done)))
 have hn0:Has W0 w.heap.size 3 #[.int .i64 id]:=by rw[<-hW0];exact Has.new _ _ _
 have h0:=h.quiet hk0
 have q:W0.cell? ⟨X.mb,2,none⟩=some (.pointer (some ⟨X.sb,0,none⟩)):=Has.cell (h0.c 0) 2
 have hc:dS W0 X.sb X.FS M.st:=h0.c 2
 have l7:=pV hc hok
 have hms:=hok.m
 have HN:=ah hn0;have aW:=ah hk0;have HC:=ah l7;have YH:=ah hms
 have HE:Hid (dZ M.st.ms id=M.st.ms.any (fun m=>decide (m.1=id))):=ah rfl
 clear hk0 hn0 h0 hc l7 hms h hok
 obtain⟨ms,hms⟩:∃ms,M.st.ms=ms:=⟨_,rfl⟩
 rw[hms]at HC YH HE⊢
 clear hms
 go_enter Tryz.func68,Tryz.ntmps68
 go_wp2_with fail
 clear hW0 q
 refine HC.out.mono ?_
 rintro e w2 ⟨A,c,rfl,hr,hk⟩
 have hh:=yU w2 A c ms 152 (.pointer (some ⟨w.heap.size,0,none⟩)) (fun m=>decide (m.1=id)) (fun args W=>enters Tryz.func152 (by kernel_rfl) rfl args W) (Src.bC hr.1) (by have:=YH.out;omega)
  (fun W x hW _=>xU W x w.heap.size id ((HN.out.kept hk (fun z=>z)).kept hW (fun z=>z)))
 have HH:=ah hh;have HK:=ah (aW.out.then hk);clear hh hk hr
 go_wp2_with fail
 refine HH.out.mono ?_
 rintro e w3 ⟨rfl,hk⟩
 have bf:=ah (HK.out.then hk);clear hk
 go_wp2
 go_ret
 exact⟨by rw[HE.out];rfl,bf.out⟩
structure FM(F:Nat->Prop)(x:aN):Prop where
 m:0<x.ms.length->∀ad,x.mA=some ad->¬F ad.block
 l:0<x.lg.length->∀ad,x.lA=some ad->¬F ad.block
 o:0<x.b.ops.length->∀ad,x.oA=some ad->¬F ad.block
theorem Src.sV{F:Nat->Prop}{a b:World}{size m:Nat}{A:Option Addr}{news:List Value}(h:Src a size A m news)(hk:Kept F a b)(hf:0<m->∀ad,A=some ad->¬F ad.block):Src b size A m news:=by
 rcases Nat.eq_zero_or_pos m with h0|h0
 ·subst h0
  have:news=[]:=List.eq_nil_of_length_eq_zero (by simpa using h.1)
  subst this
  exact Src.nil _ _ _
 ·exact h.kept hk (hf h0)
theorem gU.sV{F:Nat->Prop}{a b:World}{x:aN}(h:gU a x)(hk:Kept F a b)(hf:FM F x):gU b x:=
 ⟨Src.sV h.m hk hf.m,h.mc,h.ml,Src.sV h.l hk hf.l,h.lc,h.ll,Src.sV h.o hk hf.o⟩
def writeM(M:MR)(x:aN):MR:=if bF M.st x=0 then {M with st:=bG M.st x,lg:=M.lg.app (qG x)}else M
def WritePost(w:World)(X:MX)(M:MR)(c:Nat)(x:aN)(e:Ending)(w':World):Prop:=e=.returned (.int .i64 (bF M.st x))/\∃X',Step w X M w' X' (writeM M x)/\cZ X' (writeM M x).lg (c+1)
attribute [local go_sem↓] Bg
attribute [local go_sem] Bh
theorem write_any(h:dG w X M)(hb:cZ X M.lg c)(hc:c<=4000)(hok:nR M.st)(x:aN)(hx:gU w x)(hu:NU x)(ho:FM (dU X M) x):
  Calls Tryz.prog 44 #[.pointer (some ⟨X.mb,0,none⟩),eY x] w (WritePost w X M c x):=by
 obtain⟨W0,hW0⟩:∃W0,w.alloc (.cells (aH x).toArray 100)=W0:=⟨_,rfl⟩
 have hk0:Kept aj w W0:=by rw[<-hW0];(repeat'(first|(with_reducible first|exact ak|apply au|apply ay|apply aA|apply aB)|(right;simp;done)))
 have hn0:Has W0 w.heap.size 100 (aH x).toArray:=by rw[<-hW0];exact Has.new _ _ _
 have h0:=h.quiet hk0
 have q:W0.cell? ⟨X.mb,2,none⟩=some (.pointer (some ⟨X.sb,0,none⟩)):=Has.cell (h0.c 0) 2
 have happ:=RZ W0.drew X.sb X.FS M.st x (h0.c 2) hok ((hx.kept hk0).kept (Kept.refl aj W0).drew)
 have HA:=ah happ;have dw:=ah hn0;have aW:=ah hk0;have hd0:dG W0.drew X M:=h0.quiet (Kept.refl aj W0).drew
 have HD:=ah hd0;have HX:=ah hx;have HU:=ah hu;have HO:=ah ho;have HB:=ah hb;have HC:=ah hc
 have hkd:Kept aj w W0.drew:=hk0.drew
 have um:=ah hkd
 clear hd0 hkd
 obtain⟨u1,u2⟩:=EH rfl hn0
 have hnf:∀k,X.FS k->k<w.heap.size/\k≠X.mb:=fun k hf=>⟨h.lt ⟨2,hf⟩,fun e=>absurd (h.ap 0 2 k e hf) (by decide)⟩
 have HNF:=ah hnf
 clear happ hn0 hk0 h0 h hx hu hb hc hok hnf ho
 go_enter Tryz.func44,Tryz.ntmps44
 go_wp2_with fail
 go_region_held3 (fun W=>W.cell? ⟨X.mb,2,none⟩=some (.pointer (some ⟨X.sb,0,none⟩))/\EG W ⟨w.heap.size,0,none⟩/\yG W ⟨w.heap.size,0,none⟩=(aH x).toArray) (first|with_reducible exact⟨z2,v1,v2⟩|with_reducible exact⟨q,u1,u2⟩|exact⟨q,u1,u2⟩)
  (first|(go_at_call 54;refine HA.out.mono ?_;rintro e w2 ⟨Bc,rfl,hst,hg,hk⟩;have hn2:=(Has.drew dw.out).kept hk (fun hf=>Nat.lt_irrefl _ (HNF.out _ hf).1);have z2:w2.cell? ⟨X.mb,2,none⟩=some (.pointer (some ⟨X.sb,0,none⟩)):=(Has.kept (HD.out.c 0) hk (fun hf=>(HNF.out _ hf).2 rfl)).cell 2;obtain⟨v1,v2⟩:=EH rfl hn2;have HST:=ah hst;have HG:=ah hg;have HK:=ah hk;have dA:=ah hn2;clear hst hg hk hn2))
 clear z2 q u1 u2 v1 v2 hW0
 have hs1:Step w X M W0.drew X M:=⟨HD.out,fun _ h=> .inl h,Kept.up um.out,rfl⟩
 have hs2:Step w X M w2 {X with FS:=Bc} {M with st:=bG M.st x}:=hs1.trans (dG.setSt HD.out HST.out HG.out HK.out)
 have HS2:=ah hs2
 clear hs1 hs2 HST HG HK HD HNF
 have hb2:cZ {X with FS:=Bc} M.lg (c+1):=cZ.mono ⟨HB.out.n,HB.out.f,HB.out.l,HB.out.hd⟩ (by omega)
 by_cases hE:bF M.st x=0
 rotate_left
 ·have hfin:WritePost w X M c x (.returned (.int .i64 (bF M.st x))) w2:=by
   have hw:writeM M x=M:=if_neg hE
   have hs:=HS2.out
   have e1:bG M.st x=M.st:=by unfold bG;rw[if_pos hE]
   rw[e1]at hs
   refine⟨rfl,{X with FS:=Bc},?_,?_⟩
   ·rw[hw];exact hs
   ·rw[hw];exact hb2
  have HF:=ah hfin
  obtain⟨z,hz⟩:∃z,bF M.st x=z:=⟨_,rfl⟩
  rw[hz]at hE HF⊢
  have hz2:(z !=0)=true:=by simpa using hE
  clear hfin hE hz hb2
  go_wp2
  go_ret
  exact HF.out
 have hE0:=tJ hE
 have hs2:=HS2.out
 have hx2:=gU.sV HX.out hs2.k HO.out
 have hput:=I9 hx2 HU.out
 rw[hE0]at hput
 have hsz:=G4 HU.out
 have hm2:dG w2 {X with FS:=Bc} {M with st:=bG M.st x}:=hs2.at'
 have hw:writeM M x={M with st:=bG M.st x,lg:=M.lg.app (qG x)}:=if_pos hE
 obtain⟨s,hs⟩:∃s,qG x=s:=⟨_,rfl⟩
 rw[hs]at hput hsz hw
 have q1:∀W,Kept aj w2 W->W.cell? ⟨X.mb,1,none⟩=some (.pointer (some ⟨X.gp,0,none⟩)):=fun W hW=>Has.cell ((hm2.quiet hW).c 0) 1
 have iC:=ah hm2;have Du:=ah hput;have kZ:=ah hsz;have HW:=ah hw;have HB2:=ah hb2;have yx:=ah q1
 clear hs2 hx2 hput hsz hm2 hw hs hb2 q1 hE0
 go_wp2_with (refine wpList_load_row rfl 100 (.tmp 3) rfl w.heap.size rfl 100 _ (0,0) _ dA.out Tryz.underlying100 rfl (by kernel_rfl) ?_)
 refine Du.out.mono ?_
 rintro e w3 ⟨rfl,hk3⟩
 have q1:=yx.out _ hk3
 have nJ:=iC.out.quiet hk3
 have hb3:cZ {X with FS:=Bc} ({M with st:=bG M.st x}:MR).lg (c+1):=HB2.out
 have hp3:rO w3 {X with FS:=Bc} M.lg:=nJ.c 1
 have hcur:=cZ.cur hb3 nJ
 have happ:=Pt.TM hp3 (cZ.fits hb3 nJ (by have:=HC.out;omega)) (Nat.zero_le _) (by have h1:=HB.out.f;have h2:=hcur.2.1;have h3:=HC.out;have h4:Wl.lastOf (Wl.cur M.lg.R M.lg.T)<=M.lg.R.length+M.lg.T.length:=h2;omega) (by have:=HB.out.l;have:=HC.out;omega) s (by have:=kZ.out;omega)
 have zO:=ah nJ;have acN:=ah happ;have bf:=ah hk3
 clear nJ hb3 hp3 hcur happ hk3
 go_wp2_with fail
 clear q1
 refine acN.out.mono ?_
 rintro e w4 ⟨rfl,F',A',c',hp4,hk4,hg4,hr4⟩
 have hst:=dG.PN (X:={X with FS:=Bc}) (M:={M with st:=bG M.st x}) (zS:=X.gw) (F':=F') (A':=A') (c':=c') (n':=X.n) (m':=X.m) (L':=M.lg.app s) zO.out (w':=w4) hp4 hk4 hg4 (.inl rfl) hr4
 have hfin:WritePost w X M c x (.returned (.int .i64 0)) w4:=by
  have hstep:=(HS2.out.quiet bf.out).trans hst
  have e1:({{M with st:=bG M.st x}with lg:=M.lg.app s}:MR)=writeM M x:=HW.out.symm
  rw[e1]at hstep
  refine⟨by rw[hE],_,hstep,?_⟩
  ·rw[HW.out]
   have h1:=HB.out.n
   have h2:=HB.out.f
   have h3:=HB.out.l
   refine⟨?_,?_,?_,HB.out.hd⟩
   ·show X.n+(X.ps++_).length<=_
    rw[List.length_append,List.length_singleton]
    omega
   ·show M.lg.first+(M.lg.R.length+(M.lg.T++[84::Ops.bl s]).length:Nat)<=_
    rw[List.length_append,List.length_singleton]
    omega
   ·show(M.lg.l++[s]).length<=_
    rw[List.length_append,List.length_singleton]
    omega
 have HF:=ah hfin
 clear hp4 hk4 hg4 hr4 hst hfin hE
 go_wp2
 go_ret
 exact HF.out
end
end dM
end Go.Proofs.YtolkgbafebehfaaGreat
namespace Go.Proofs.YtolkgbafebehfaaGreat
open Go.RowKit Go.Shelf
set_option maxRecDepth 100000
namespace Ih
open Vn Ops Dk
abbrev KB:=Nat×Obj
theorem EK{w:World}{k:Nat}{o:Obj}(h:w.heap[k]? =some o):k<w.heap.size:=(Array.getElem?_eq_some_iff.1 h).1
theorem wJ{F:Nat->Prop}{a b:World}{k:Nat}{o:Obj}(h:a.heap[k]? =some o)(hk:Kept F a b)(hf:¬F k):b.heap[k]? =some o:=(hk.block k (EK h) hf).trans h
def WS(N:Nat)(w:World)(g:Nat)(bs:List UInt8)(keep:List KB):Prop:=
 N<=w.heap.size/\∃F,lD w g F bs/\(∀k,F k->N<=k)/\∀x∈keep,¬F x.1/\w.heap[x.1]? =some x.2
section
variable{N g:Nat}{w w':World}{bs:List UInt8}{keep:List KB}
theorem WS.alloc(h:WS N w g bs keep)(o:Obj):WS N (w.alloc o) g bs keep:=by
 obtain⟨h0,F,h1,h2,h3⟩:=h
 exact⟨by simp;omega,F,h1.kept ((Kept.refl aj w).alloc o) (qZ F),h2,fun x hx=>⟨(h3 x hx).1,wJ (h3 x hx).2 ((Kept.refl aj w).alloc o) (fun z=>z)⟩⟩
theorem WS.add(h:WS N w g bs keep)(o:Obj):WS N (w.alloc o) g bs ((w.heap.size,o)::keep):=by
 obtain⟨h0,F,h1,h2,h3⟩:=h
 refine⟨by simp;omega,F,h1.kept ((Kept.refl aj w).alloc _) (qZ F),h2,fun x hx=> ?_⟩
 rcases List.mem_cons.1 hx with rfl|hx
 ·exact⟨fun hF=>by have:=h1.lt _ hF;simp at this,heap_alloc_new w o⟩
 ·exact⟨(h3 x hx).1,wJ (h3 x hx).2 ((Kept.refl aj w).alloc _) (fun z=>z)⟩
theorem WS.tail{x:KB}(h:WS N w g bs (x::keep)):WS N w g bs keep:=by
 obtain⟨h0,F,h1,h2,h3⟩:=h
 exact⟨h0,F,h1,h2,fun y hy=>h3 y (List.mem_cons_of_mem _ hy)⟩
theorem WS.OI{x y:KB}(h:WS N w g bs (x::y::keep)):WS N w g bs (y::keep):=h.tail
theorem WS.has{x:KB}(h:WS N w g bs keep)(hx:x∈keep):w.heap[x.1]? =some x.2:=by
 obtain⟨h0,F,h1,h2,h3⟩:=h
 exact(h3 x hx).2
theorem WS.kept{G:Nat->Prop}(h:WS N w g bs keep)(hk:Kept aj w w'):WS N w' g bs keep:=by
 obtain⟨h0,F,h1,h2,h3⟩:=h
 exact⟨Nat.le_trans h0 hk.size,F,h1.kept hk (qZ F),h2,fun x hx=>⟨(h3 x hx).1,wJ (h3 x hx).2 hk (fun y=>y)⟩⟩
theorem WS.iterAt{k p q:Nat}{s:ByteArray}(h:WS N w g bs ((k,.stringIter s p)::keep))(hd:∀x∈keep,x.1≠k):WS N (w.iterAt k s q) g bs ((k,.stringIter s q)::keep):=by
 obtain⟨h0,F,h1,h2,h3⟩:=h
 have hk:=h3 (k,.stringIter s p) (List.mem_cons_self ..)
 refine⟨by rw[Lib.iterAt_size];exact h0,F,h1.kept (G:=fun j=>j=k) ⟨rfl,rfl,rfl,by rw[Lib.iterAt_size];exact Nat.le_refl _,fun i _ hi=>Lib.iterAt_other w k i s q hi⟩ (fun j hj e=>hk.1 (e▸hj)),h2,fun x hx=> ?_⟩
 rcases List.mem_cons.1 hx with rfl|hx
 ·exact⟨hk.1,Lib.iterAt_heap w k s p q hk.2⟩
 ·have h4:=h3 x (List.mem_cons_of_mem _ hx)
  exact⟨h4.1,(Lib.iterAt_other w k x.1 s q (hd x hx)).trans h4.2⟩
def rE(N:Nat)(w:World)(g:Nat)(bs:List UInt8)(keep:List KB)(e:Ending)(w':World):Prop:=e=.returned (.pointer (some ⟨g,0,none⟩))/\WS N w' g bs keep/\Below N w w'
theorem WS.step{f:FuncId}{args:Array Value}{bs':List UInt8}(h:WS N w g bs keep)
  (hc:∀F,lD w g F bs->Calls Tryz.prog f args w (Wrote w g F bs')):Calls Tryz.prog f args w (rE N w g bs' keep):=by
 obtain⟨h0,F,h1,h2,h3⟩:=h
 refine(hc F h1).mono ?_
 rintro e w' ⟨he,F',g1,g2,g3⟩
 refine⟨he,⟨Nat.le_trans h0 g3.size,F',g1,fun k hk=> ?_,fun x hx=>⟨fun hF=> ?_,wJ (h3 x hx).2 g3 (h3 x hx).1⟩⟩,g3.below h0 h2⟩
 ·rcases g2 k hk with y|y
  ·exact h2 k y
  ·omega
 ·rcases g2 x.1 hF with y|y
  ·exact(h3 x hx).1 y
  ·have:=EK (h3 x hx).2;omega
theorem fJ(h:WS N w g bs keep)(n:Nat)(hn:n<=9223372036854775807)(hlen:bs.length+9<=140737488355328):
  Calls Tryz.prog 195 #[.pointer (some ⟨g,0,none⟩),.int .i64 n] w (rE N w g (bs++put n) keep):=h.step fun F hF=>IC w g F bs n hn hF hlen
theorem vk(h:WS N w g bs keep)(n:Nat)(hn:n<18446744073709551616)(hlen:bs.length+9<=140737488355328):
  Calls Tryz.prog 199 #[.pointer (some ⟨g,0,none⟩),.int .u64 n] w (rE N w g (bs++put n) keep):=h.step fun F hF=>IE w g F bs n hn hF hlen
theorem ny(h:WS N w g bs keep)(s:ByteArray)(hlen:bs.length+9+s.size<=140737488355328):
  Calls Tryz.prog 197 #[.pointer (some ⟨g,0,none⟩),.string s] w (rE N w g (bs++dD s) keep):=h.step fun F hF=>FT w g F bs s hF hlen
theorem I4(h:WS N w g bs keep)(b:Bool)(hlen:bs.length+9<=140737488355328):
  Calls Tryz.prog 362 #[.pointer (some ⟨g,0,none⟩),.bool b] w (rE N w g (bs++xO b) keep):=h.step fun F hF=>FU w g F bs b hF (by omega)
theorem pP(w:World)(keep:List KB)(hk:∀x∈keep,w.heap[x.1]? =some x.2):
  Calls Tryz.prog 194 #[] w fun e w'=>∃g,e=.returned (.pointer (some ⟨g,0,none⟩))/\WS w.heap.size w' g [] keep/\Kept aj w w':=by
 refine(yN w).mono ?_
 rintro e w' ⟨he,h1,h2⟩
 exact⟨w.heap.size,he,⟨h2.size,_,h1,fun k hk=>by rw[hk];exact Nat.le_refl _,fun x hx=>⟨fun e=>by have:=EK (hk x hx);omega,wJ (hk x hx) h2 (fun y=>y)⟩⟩,h2⟩
theorem nC(h:WS N w g bs keep)(h0:bs≠[]):
  Calls Tryz.prog 200 #[.pointer (some ⟨g,0,none⟩)] w fun e w'=>e=.returned (.tuple #[.string (bu bs),.int .i64 0])/\Below N w w':=by
 obtain⟨hN,F,h1,h2,h3⟩:=h
 refine(vT w g F bs h1 h0).mono ?_
 rintro e w' ⟨he,hk⟩
 exact⟨he,hk.below hN h2⟩
theorem behind{a b:World}(h:Kept aj w a)(hb:Below N a b)(hN:w.heap.size<=N):Kept aj w b:=
 h.trans (G:=fun k=>N<=k) (Kept.of_below hb fun k _ hf=>by omega) fun i hi=> .inr (by omega)
end
end Ih
end Go.Proofs.YtolkgbafebehfaaGreat
