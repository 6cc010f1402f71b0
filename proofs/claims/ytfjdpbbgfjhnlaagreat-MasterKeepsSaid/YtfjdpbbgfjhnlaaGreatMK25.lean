/- Part 26 of what the proof needs. -/
import Derived.Test.YtfjdpbbgfjhnlaaGreatMK24
set_option linter.unusedSimpArgs false
set_option linter.unusedVariables false
set_option maxHeartbeats 32000000
set_option maxRecDepth 100000
namespace Go.Proofs.YtfjdpbbgfjhnlaaGreat
open Go.RowKit
set_option maxRecDepth 100000
namespace dH
open aO Vn Mst lV IM mY
def oq.app(L:oq)(s:ByteArray):oq:={L with T:=L.T++[84::Ops.bl s],l:=L.l++[s]}
def oq.sync(L:oq):oq:={L with R:=Wl.cur L.R L.T,T:=[]}
def oq.save(L:oq)(l:List ByteArray):oq:=⟨L.first+(Wl.cur L.R L.T).length,Wl.cur [] (Pt.jT l.length l),[],l⟩
def oq.size(L:oq):Nat:=Pt.EG (fun j=>(Wl.lF (Wl.cur L.R L.T) j).length) (Wl.cur L.R L.T).length
structure dw(X:MX)(L:oq)(c:Nat):Prop where
 n:X.n+X.ps.length<=1+12*c
 f:L.first+(L.R.length+L.T.length:Nat)<=2+12*(c:Int)
 l:L.l.length<=12*c
 hd:Pt.Hd L.R
theorem dw.mono{X:MX}{L:oq}{c d:Nat}(h:dw X L c)(hd:c<=d):dw X L d:=⟨by have:=h.n;omega,by have:=h.f;omega,by have:=h.l;omega,h.hd⟩
section
variable{ws w w':World}{X X0:MX}{M M0:MR}{c:Nat}
theorem dw.fits(h:dw X M.lg c)(ha:dD w X M)(hc:c<=5000):Wl.Fits X.n X.m X.ps:=by
 have hp:rX w X M.lg:=ha.c 1
 have h1:=h.n
 have h2:=h.f
 have h3:=hp.f1
 exact Pt.abf hp.low hp.log hp.f1 (by omega) (by omega) (by omega)
theorem dw.cur(h:dw X M.lg c)(ha:dD w X M):(Wl.cur M.lg.R M.lg.T).length<=M.lg.R.length+M.lg.T.length/\Wl.lastOf (Wl.cur M.lg.R M.lg.T)<=M.lg.R.length+M.lg.T.length/\M.lg.R.length+M.lg.T.length<=1+12*c:=by
 have hp:rX w X M.lg:=ha.c 1
 have h1:=Wl.CO M.lg.R M.lg.T
 have h2:=Wl.Es (Wl.cur M.lg.R M.lg.T)
 have h3:=h.f
 have h4:=hp.f1
 exact⟨h1,by omega,by omega⟩
theorem dD.UU(h:dD w X M){zK:Nat}{F':Nat->Prop}{A':Option Addr}{c' n':Nat}{m':aH.Safe}{ps':List aH.Pc}{L':oq}
  (hp:rX w' {X with gw:=zK,F:=F',A:=A',c:=c',n:=n',m:=m',ps:=ps'} L') (hk:Kept (parts X M 1) w w') (hg:∀k,F' k->X.F k\/w.heap.size<=k) (hgw:zK=X.gw\/w.heap.size<=zK)
  (hr:∀k,(Value.slice A' L'.l.length c').ownBlock=some k->(Value.slice X.A M.lg.l.length X.c).ownBlock=some k\/w.heap.size<=k):
  Step w X M w' {X with gw:=zK,F:=F',A:=A',c:=c',n:=n',m:=m',ps:=ps'} {M with lg:=L'}:=
 h.upd 1 hk (fun j hj=>by rcases j with _|_|_|_|_|_|_|_|_|_|_|j<;>first|rfl|exact absurd rfl hj)
  (fun j hj hc=>by rcases j with _|_|_|_|_|_|_|_|_|_|_|j<;>first|exact hc|exact absurd rfl hj) hp (fun k hk=>by
   rcases hk with y|y|y|y
   ·rcases hg k y with z|z
    ·exact .inl (.inl z)
    ·exact .inr z
   ·exact .inl (.inr (.inl y))
   ·rcases hgw with z|z
    ·exact .inl (.inr (.inr (.inl (y.trans z))))
    ·exact .inr (by rw[y];exact z)
   ·rcases hr k y with z|z
    ·exact .inl (.inr (.inr (.inr z)))
    ·exact .inr z) rfl
theorem EI{x:aG}(hu:NU x):(kT x).size<=2000:=by
 unfold kT
 by_cases h0:aQ x=0
 rotate_left
 ·rw[if_neg h0];decide
 rw[if_pos h0]
 rw[<-Ops.bJ,Ops.jd]
 obtain⟨⟨u1,u2⟩,⟨u3,u4⟩,u5,⟨u6,u7⟩⟩:=hu
 unfold aT at u2 u4 u7
 have hn:x.k=3\/x.k=4\/x.k=5\/x.k=7->0<=x.n/\x.n<=1073741824:=fun h=>by
  unfold aQ at h0
  rw[if_neg (by omega),if_neg (by omega),if_pos h]at h0
  exact nC h0
 have hL:∀n:Nat,n<=18446744073709551615->(put n).length<=9:=fun n h=>mD (by omega)
 unfold iV
 by_cases k1:x.k=1
 ·obtain⟨e1,e2⟩:=IY h0 k1
  obtain⟨l1,l2⟩:=Ic e2
  have a1:=gZ.jr (s:=gZ.ku x.ep x.ms x.fl) (m:=99) (gZ.tN u5) (by omega)
  have a2:=gZ.nR (fun i:Int=>put i.toNat) x.lg 9 (fun y hy=>by have:=l2 y hy;exact hL _ (by omega))
  have a3:=hL x.lg.length (by omega)
  have a4:=hL x.k.toNat (by omega)
  rw[if_pos k1,List.length_append,List.length_append,List.length_append]
  omega
 rw[if_neg k1]
 by_cases k2:x.k=2
 ·have e1:gW [x.n]=0:=by
   unfold aQ at h0
   rw[if_neg k1,if_pos k2]at h0
   by_cases hn:gW [x.n]=0
   ·exact hn
   ·rw[if_neg hn]at h0;exact absurd h0 hn
  have e2:=nC e1
  have a1:=gZ.jr (s:=gZ.nM (xP x)) (m:=121) (gZ.yx (e:=xP x) ⟨u6,by unfold aT;exact u7⟩) (by omega)
  have a2:=hL x.n.toNat (by omega)
  have a4:=hL x.k.toNat (by omega)
  rw[if_pos k2,List.length_append,List.length_append]
  omega
 rw[if_neg k2]
 by_cases k3:x.k=3
 ·have e2:=hn (by omega)
  have a1:=hL x.at'.toNat (by omega)
  have a2:=hL x.n.toNat (by omega)
  have a4:=hL x.k.toNat (by omega)
  rw[if_pos k3,List.length_append,List.length_append]
  omega
 rw[if_neg k3]
 by_cases k4:x.k=4
 ·have e2:=hn (by omega)
  have a1:=hL x.at'.toNat (by omega)
  have a2:=hL x.n.toNat (by omega)
  have a4:=hL x.k.toNat (by omega)
  rw[if_pos k4,List.length_append,List.length_append]
  omega
 rw[if_neg k4]
 by_cases k6:x.k=6
 ·have e1:gW [x.pin.id,x.pin.left]=0:=by
   unfold aQ at h0
   rw[if_neg k1,if_neg k2,if_neg (by omega),if_pos k6]at h0
   exact h0
  obtain⟨e2,e3⟩:=vK e1
  have a1:=hL x.pin.id.toNat (by omega)
  have a2:=hL x.pin.at'.toNat (by omega)
  have a3:=hL x.pin.left.toNat (by omega)
  have a4:=hL x.k.toNat (by omega)
  rw[if_pos k6,List.length_append,List.length_append,List.length_append]
  omega
 rw[if_neg k6]
 by_cases k8:x.k=8
 ·obtain⟨e1,e2,e3,e4⟩:=JF (IZ h0 k8)
  have a1:=hL x.said.cl.toNat (by omega)
  have a2:=hL x.said.req.toNat (by omega)
  have a3:=hL x.said.e.toNat (by omega)
  have a5:=hL x.said.pin.toNat (by omega)
  have a4:=hL x.k.toNat (by omega)
  rw[if_pos k8,List.length_append,List.length_append,List.length_append,List.length_append]
  omega
 rw[if_neg k8]
 have h57:x.k=5\/x.k=7:=by
  unfold aQ at h0
  by_cases h57:x.k=5\/x.k=7
  ·exact h57
  ·rw[if_neg k1,if_neg k2,if_neg (by omega),if_neg k6,if_neg k8]at h0;cases h0
 have e2:=hn (by omega)
 have a2:=hL x.n.toNat (by omega)
 have a4:=hL x.k.toNat (by omega)
 rw[List.length_append]
 omega
theorem ou(h:dD w X M):Calls Tryz.prog 28 #[.pointer (some ⟨X.mb,0,none⟩)] w fun e w'=>e=.returned (.bool false)/\w=w':=by
 have q:w.cell? ⟨X.mb,0,none⟩=some (.pointer (some ⟨X.g,0,none⟩)):=Has.cell (h.c 0) 0
 clear h
 go_enter Tryz.func28,Tryz.ntmps28
 go_wp2
 go_ret
 exact⟨rfl,rfl⟩
theorem Ak(w:World)(i:Int):Calls Tryz.prog 47 #[.int .i64 i] w fun e w'=>e=.returned (.bool (decide (0<=i/\i<4)))/\w=w':=by
 by_cases h1:0<=i
 ·by_cases h2:i<4
  ·rw[decide_eq_true (by omega)]
   go_enter Tryz.func47,Tryz.ntmps47
   go_wp2
   go_ret
   exact⟨rfl,rfl⟩
  ·rw[decide_eq_false (by omega)]
   go_enter Tryz.func47,Tryz.ntmps47
   go_wp2
   go_ret
   exact⟨rfl,rfl⟩
 ·rw[decide_eq_false (by omega)]
  go_enter Tryz.func47,Tryz.ntmps47
  go_wp2
  go_ret
  exact⟨rfl,rfl⟩
theorem UW(w:World)(i:Int):Calls Tryz.prog 49 #[.int .i64 i] w fun e w'=>e=.returned (.bool (decide (5<=i/\i<8)))/\w=w':=by
 by_cases h1:5<=i
 ·by_cases h2:i<8
  ·rw[decide_eq_true (by omega)]
   go_enter Tryz.func49,Tryz.ntmps49
   go_wp2
   go_ret
   exact⟨rfl,rfl⟩
  ·rw[decide_eq_false (by omega)]
   go_enter Tryz.func49,Tryz.ntmps49
   go_wp2
   go_ret
   exact⟨rfl,rfl⟩
 ·rw[decide_eq_false (by omega)]
  go_enter Tryz.func49,Tryz.ntmps49
  go_wp2
  go_ret
  exact⟨rfl,rfl⟩
theorem Ad(w:World)(x:Mem)(b:Nat)(id:Int)(hb:Has w b 3 #[.int .i64 id]):
  Calls Tryz.prog 131 #[je x,.pointer (some ⟨b,0,none⟩)] w fun e w'=>e=.returned (.bool (decide (x.1=id)))/\Kept aj w w':=by
 have c0:=(hb.alloc (.cells #[.int .i64 x.1,.int .i64 x.2] 65)).cell 0
 simp only[List.getElem?_toArray,List.getElem?_cons_zero,List.getElem?_cons_succ]at c0
 clear hb
 go_enter Tryz.func131,Tryz.ntmps131
 go_wp2
 go_ret
 exact⟨rfl,by(repeat'(first|(with_reducible first|exact ak|apply au|apply ay|apply aA|apply aB)|(right;simp;done)))⟩
theorem yS(x f:Int)(A:Option Addr)(n c:Nat)(W:World):(Instr.field 25 (.agg #[.int .i64 x,.slice A n c,.int .u64 f]) 1).run Tryz.prog W=.ok (.slice A n c) W:=by kernel_rfl
attribute [local go_sem] yS
theorem nY(h:dD w X M)(hok:nZ M.st)(id:Int):Calls Tryz.prog 72 #[.pointer (some ⟨X.mb,0,none⟩),.int .i64 id] w fun e w'=>e=.returned (.bool (bY M.st.ms id))/\Kept aj w w':=by
 obtain⟨W0,hW0⟩:∃W0,w.alloc (.cells #[.int .i64 id] 3)=W0:=⟨_,rfl⟩
 have hk0:Kept aj w W0:=by rw[<-hW0];(repeat'(first|(with_reducible first|exact ak|apply au|apply ay|apply aA|apply aB)|(right;simp;done)))
 have hn0:Has W0 w.heap.size 3 #[.int .i64 id]:=by rw[<-hW0];exact Has.new _ _ _
 have h0:=h.quiet hk0
 have q:W0.cell? ⟨X.mb,2,none⟩=some (.pointer (some ⟨X.sb,0,none⟩)):=Has.cell (h0.c 0) 2
 have hc:eH W0 X.sb X.FS M.st:=h0.c 2
 have oz:=pN hc hok
 have hms:=hok.m
 have HN:=ah hn0;have bf:=ah hk0;have HC:=ah oz;have HMS:=ah hms
 have HE:Hid (bY M.st.ms id=M.st.ms.any (fun m=>decide (m.1=id))):=ah rfl
 clear hk0 hn0 h0 hc oz hms h hok
 obtain⟨ms,hms⟩:∃ms,M.st.ms=ms:=⟨_,rfl⟩
 rw[hms]at HC HMS HE⊢
 clear hms
 go_enter Tryz.func72,Tryz.ntmps72
 go_wp2_with fail
 clear hW0 q
 refine HC.out.mono ?_
 rintro e w2 ⟨A,c,rfl,hr,hk⟩
 have hh:=BO w2 A c ms 131 (.pointer (some ⟨w.heap.size,0,none⟩)) (fun m=>decide (m.1=id)) (fun args W=>enters Tryz.func131 (by kernel_rfl) rfl args W) (Src.bC hr.1) (by have:=HMS.out;omega)
  (fun W x hW _=>Ad W x w.heap.size id ((HN.out.kept hk (fun z=>z)).kept hW (fun z=>z)))
 have HH:=ah hh;have HK:=ah (bf.out.then hk);clear hh hk hr
 go_wp2_with fail
 refine HH.out.mono ?_
 rintro e w3 ⟨rfl,hk⟩
 have bn:=ah (HK.out.then hk);clear hk
 go_wp2
 go_ret
 exact⟨by rw[HE.out];rfl,bn.out⟩
structure JY(F:Nat->Prop)(x:aG):Prop where
 m:0<x.ms.length->∀ad,x.mA=some ad->¬F ad.block
 l:0<x.lg.length->∀ad,x.lA=some ad->¬F ad.block
 o:0<x.b.ops.length->∀ad,x.oA=some ad->¬F ad.block
theorem Src.vP{F:Nat->Prop}{a b:World}{size m:Nat}{A:Option Addr}{news:List Value}(h:Src a size A m news)(hk:Kept F a b)(hf:0<m->∀ad,A=some ad->¬F ad.block):Src b size A m news:=by
 rcases Nat.eq_zero_or_pos m with h0|h0
 ·subst h0
  have:news=[]:=List.eq_nil_of_length_eq_zero (by simpa using h.1)
  subst this
  exact Src.nil _ _ _
 ·exact h.kept hk (hf h0)
theorem iI.vP{F:Nat->Prop}{a b:World}{x:aG}(h:iI a x)(hk:Kept F a b)(hf:JY F x):iI b x:=
 ⟨Src.vP h.m hk hf.m,h.mc,h.ml,Src.vP h.l hk hf.l,h.lc,h.ll,Src.vP h.o hk hf.o⟩
def writeM(M:MR)(x:aG):MR:=if bu M.st x=0 then {M with st:=aZ M.st x,lg:=M.lg.app (kT x)}else M
def WritePost(w:World)(X:MX)(M:MR)(c:Nat)(x:aG)(e:Ending)(w':World):Prop:=e=.returned (.int .i64 (bu M.st x))/\∃X',Step w X M w' X' (writeM M x)/\dw X' (writeM M x).lg (c+1)
attribute [local go_sem↓] uO
attribute [local go_sem] uP
theorem write_any(h:dD w X M)(hb:dw X M.lg c)(hc:c<=4000)(hok:nZ M.st)(x:aG)(hx:iI w x)(hu:NU x)(ho:JY (dX X M) x):
  Calls Tryz.prog 25 #[.pointer (some ⟨X.mb,0,none⟩),fE x] w (WritePost w X M c x):=by
 obtain⟨W0,hW0⟩:∃W0,w.alloc (.cells (aJ x).toArray 83)=W0:=⟨_,rfl⟩
 have hk0:Kept aj w W0:=by rw[<-hW0];(repeat'(first|(with_reducible first|exact ak|apply au|apply ay|apply aA|apply aB)|(right;simp;done)))
 have hn0:Has W0 w.heap.size 83 (aJ x).toArray:=by rw[<-hW0];exact Has.new _ _ _
 have h0:=h.quiet hk0
 have q:W0.cell? ⟨X.mb,2,none⟩=some (.pointer (some ⟨X.sb,0,none⟩)):=Has.cell (h0.c 0) 2
 have happ:=KL W0.drew X.sb X.FS M.st x (h0.c 2) hok ((hx.kept hk0).kept (Kept.refl aj W0).drew)
 have HA:=ah happ;have dO:=ah hn0;have bf:=ah hk0;have hd0:dD W0.drew X M:=h0.quiet (Kept.refl aj W0).drew
 have HD:=ah hd0;have HX:=ah hx;have HU:=ah hu;have HO:=ah ho;have HB:=ah hb;have HC:=ah hc
 have hkd:Kept aj w W0.drew:=hk0.drew
 have wJ:=ah hkd
 clear hd0 hkd
 obtain⟨u1,u2⟩:=uQ rfl hn0
 have hnf:∀k,X.FS k->k<w.heap.size/\k≠X.mb:=fun k hf=>⟨h.lt ⟨2,hf⟩,fun e=>absurd (h.ap 0 2 k e hf) (by decide)⟩
 have HNF:=ah hnf
 clear happ hn0 hk0 h0 h hx hu hb hc hok hnf ho
 go_enter Tryz.func25,Tryz.ntmps25
 go_wp2_with fail
 go_region_held3 (fun W=>W.cell? ⟨X.mb,2,none⟩=some (.pointer (some ⟨X.sb,0,none⟩))/\Bq W ⟨w.heap.size,0,none⟩/\wV W ⟨w.heap.size,0,none⟩=(aJ x).toArray) (first|with_reducible exact⟨z2,v1,v2⟩|with_reducible exact⟨q,u1,u2⟩|exact⟨q,u1,u2⟩)
  (first|(go_at_call 38;refine HA.out.mono ?_;rintro e w2 ⟨uf,rfl,hst,hg,hk⟩;have hn2:=(Has.drew dO.out).kept hk (fun hf=>Nat.lt_irrefl _ (HNF.out _ hf).1);have z2:w2.cell? ⟨X.mb,2,none⟩=some (.pointer (some ⟨X.sb,0,none⟩)):=(Has.kept (HD.out.c 0) hk (fun hf=>(HNF.out _ hf).2 rfl)).cell 2;obtain⟨v1,v2⟩:=uQ rfl hn2;have HST:=ah hst;have HG:=ah hg;have HK:=ah hk;have dL:=ah hn2;clear hst hg hk hn2))
 clear z2 q u1 u2 v1 v2 hW0
 have hs1:Step w X M W0.drew X M:=⟨HD.out,fun _ h=> .inl h,Kept.up wJ.out,rfl⟩
 have hs2:Step w X M w2 {X with FS:=uf} {M with st:=aZ M.st x}:=hs1.trans (dD.setSt HD.out HST.out HG.out HK.out)
 have HS2:=ah hs2
 clear hs1 hs2 HST HG HK HD HNF
 have hb2:dw {X with FS:=uf} M.lg (c+1):=dw.mono ⟨HB.out.n,HB.out.f,HB.out.l,HB.out.hd⟩ (by omega)
 by_cases hE:bu M.st x=0
 rotate_left
 ·have hfin:WritePost w X M c x (.returned (.int .i64 (bu M.st x))) w2:=by
   have hw:writeM M x=M:=if_neg hE
   have hs:=HS2.out
   have e1:aZ M.st x=M.st:=by unfold aZ;rw[if_pos hE]
   rw[e1]at hs
   refine⟨rfl,{X with FS:=uf},?_,?_⟩
   ·rw[hw];exact hs
   ·rw[hw];exact hb2
  have HF:=ah hfin
  obtain⟨z,hz⟩:∃z,bu M.st x=z:=⟨_,rfl⟩
  rw[hz]at hE HF⊢
  have hz2:(z !=0)=true:=by simpa using hE
  clear hfin hE hz hb2
  go_wp2
  go_ret
  exact HF.out
 have hE0:=mZ hE
 have hs2:=HS2.out
 have hx2:=iI.vP HX.out hs2.k HO.out
 have hput:=NV hx2 HU.out
 rw[hE0]at hput
 have hsz:=EI HU.out
 have hm2:dD w2 {X with FS:=uf} {M with st:=aZ M.st x}:=hs2.at'
 have hw:writeM M x={M with st:=aZ M.st x,lg:=M.lg.app (kT x)}:=if_pos hE
 obtain⟨s,hs⟩:∃s,kT x=s:=⟨_,rfl⟩
 rw[hs]at hput hsz hw
 have q1:∀W,Kept aj w2 W->W.cell? ⟨X.mb,1,none⟩=some (.pointer (some ⟨X.gp,0,none⟩)):=fun W hW=>Has.cell ((hm2.quiet hW).c 0) 1
 have iO:=ah hm2;have Gz:=ah hput;have lD:=ah hsz;have HW:=ah hw;have HB2:=ah hb2;have AV:=ah q1
 clear hs2 hx2 hput hsz hm2 hw hs hb2 q1 hE0
 go_wp2_with (refine wpList_load_row rfl 83 (.tmp 3) rfl w.heap.size rfl 83 _ (0,0) _ dL.out Tryz.underlying83 rfl (by kernel_rfl) ?_)
 refine Gz.out.mono ?_
 rintro e w3 ⟨rfl,hk3⟩
 have q1:=AV.out _ hk3
 have pM:=iO.out.quiet hk3
 have hb3:dw {X with FS:=uf} ({M with st:=aZ M.st x}:MR).lg (c+1):=HB2.out
 have hp3:rX w3 {X with FS:=uf} M.lg:=pM.c 1
 have hcur:=dw.cur hb3 pM
 have happ:=Pt.Yv hp3 (dw.fits hb3 pM (by have:=HC.out;omega)) (Nat.zero_le _) (by have h1:=HB.out.f;have h2:=hcur.2.1;have h3:=HC.out;have h4:Wl.lastOf (Wl.cur M.lg.R M.lg.T)<=M.lg.R.length+M.lg.T.length:=h2;omega) (by have:=HB.out.l;have:=HC.out;omega) s (by have:=lD.out;omega)
 have yM:=ah pM;have abo:=ah happ;have bn:=ah hk3
 clear pM hb3 hp3 hcur happ hk3
 go_wp2_with fail
 clear q1
 refine abo.out.mono ?_
 rintro e w4 ⟨rfl,F',A',c',hp4,hk4,hg4,hr4⟩
 have hst:=dD.UU (X:={X with FS:=uf}) (M:={M with st:=aZ M.st x}) (zK:=X.gw) (F':=F') (A':=A') (c':=c') (n':=X.n) (m':=X.m) (L':=M.lg.app s) yM.out (w':=w4) hp4 hk4 hg4 (.inl rfl) hr4
 have hfin:WritePost w X M c x (.returned (.int .i64 0)) w4:=by
  have hstep:=(HS2.out.quiet bn.out).trans hst
  have e1:({{M with st:=aZ M.st x}with lg:=M.lg.app s}:MR)=writeM M x:=HW.out.symm
  rw[e1]at hstep
  refine⟨by rw[hE],_,hstep,?_⟩
  ·rw[HW.out]
   have h1:=HB.out.n
   have h2:=HB.out.f
   have h3:=HB.out.l
   refine⟨?_,?_,?_,HB.out.hd⟩
   ·show X.n+(X.ps++_).length<=_
    rw[List.length_append,List.length_singleton]
    omega
   ·show M.lg.first+(M.lg.R.length+(M.lg.T++[84::Ops.bl s]).length:Nat)<=_
    rw[List.length_append,List.length_singleton]
    omega
   ·show(M.lg.l++[s]).length<=_
    rw[List.length_append,List.length_singleton]
    omega
 have HF:=ah hfin
 clear hp4 hk4 hg4 hr4 hst hfin hE
 go_wp2
 go_ret
 exact HF.out
end
end dH
end Go.Proofs.YtfjdpbbgfjhnlaaGreat
namespace Go.Proofs.YtfjdpbbgfjhnlaaGreat
open Go.RowKit Go.Shelf
set_option maxRecDepth 100000
namespace MW
open Vn Ops mP
abbrev KB:=Nat×Obj
theorem I4{w:World}{k:Nat}{o:Obj}(h:w.heap[k]? =some o):k<w.heap.size:=(Array.getElem?_eq_some_iff.1 h).1
theorem yT{F:Nat->Prop}{a b:World}{k:Nat}{o:Obj}(h:a.heap[k]? =some o)(hk:Kept F a b)(hf:¬F k):b.heap[k]? =some o:=(hk.block k (I4 h) hf).trans h
def WS(N:Nat)(w:World)(g:Nat)(bs:List UInt8)(keep:List KB):Prop:=
 N<=w.heap.size/\∃F,mQ w g F bs/\(∀k,F k->N<=k)/\∀x∈keep,¬F x.1/\w.heap[x.1]? =some x.2
section
variable{N g:Nat}{w w':World}{bs:List UInt8}{keep:List KB}
theorem WS.alloc(h:WS N w g bs keep)(o:Obj):WS N (w.alloc o) g bs keep:=by
 obtain⟨h0,F,h1,h2,h3⟩:=h
 exact⟨by simp;omega,F,h1.kept ((Kept.refl aj w).alloc o) (uq F),h2,fun x hx=>⟨(h3 x hx).1,yT (h3 x hx).2 ((Kept.refl aj w).alloc o) (fun z=>z)⟩⟩
theorem WS.add(h:WS N w g bs keep)(o:Obj):WS N (w.alloc o) g bs ((w.heap.size,o)::keep):=by
 obtain⟨h0,F,h1,h2,h3⟩:=h
 refine⟨by simp;omega,F,h1.kept ((Kept.refl aj w).alloc _) (uq F),h2,fun x hx=> ?_⟩
 rcases List.mem_cons.1 hx with rfl|hx
 ·exact⟨fun hF=>by have:=h1.lt _ hF;simp at this,heap_alloc_new w o⟩
 ·exact⟨(h3 x hx).1,yT (h3 x hx).2 ((Kept.refl aj w).alloc _) (fun z=>z)⟩
theorem WS.tail{x:KB}(h:WS N w g bs (x::keep)):WS N w g bs keep:=by
 obtain⟨h0,F,h1,h2,h3⟩:=h
 exact⟨h0,F,h1,h2,fun y hy=>h3 y (List.mem_cons_of_mem _ hy)⟩
theorem WS.Ub{x y:KB}(h:WS N w g bs (x::y::keep)):WS N w g bs (y::keep):=h.tail
theorem WS.has{x:KB}(h:WS N w g bs keep)(hx:x∈keep):w.heap[x.1]? =some x.2:=by
 obtain⟨h0,F,h1,h2,h3⟩:=h
 exact(h3 x hx).2
theorem WS.kept{G:Nat->Prop}(h:WS N w g bs keep)(hk:Kept aj w w'):WS N w' g bs keep:=by
 obtain⟨h0,F,h1,h2,h3⟩:=h
 exact⟨Nat.le_trans h0 hk.size,F,h1.kept hk (uq F),h2,fun x hx=>⟨(h3 x hx).1,yT (h3 x hx).2 hk (fun y=>y)⟩⟩
theorem WS.iterAt{k p q:Nat}{s:ByteArray}(h:WS N w g bs ((k,.stringIter s p)::keep))(hd:∀x∈keep,x.1≠k):WS N (w.iterAt k s q) g bs ((k,.stringIter s q)::keep):=by
 obtain⟨h0,F,h1,h2,h3⟩:=h
 have hk:=h3 (k,.stringIter s p) (List.mem_cons_self ..)
 refine⟨by rw[Lib.iterAt_size];exact h0,F,h1.kept (G:=fun j=>j=k) ⟨rfl,rfl,rfl,by rw[Lib.iterAt_size];exact Nat.le_refl _,fun i _ hi=>Lib.iterAt_other w k i s q hi⟩ (fun j hj e=>hk.1 (e▸hj)),h2,fun x hx=> ?_⟩
 rcases List.mem_cons.1 hx with rfl|hx
 ·exact⟨hk.1,Lib.iterAt_heap w k s p q hk.2⟩
 ·have h4:=h3 x (List.mem_cons_of_mem _ hx)
  exact⟨h4.1,(Lib.iterAt_other w k x.1 s q (hd x hx)).trans h4.2⟩
def uy(N:Nat)(w:World)(g:Nat)(bs:List UInt8)(keep:List KB)(e:Ending)(w':World):Prop:=e=.returned (.pointer (some ⟨g,0,none⟩))/\WS N w' g bs keep/\Below N w w'
theorem WS.step{f:FuncId}{args:Array Value}{bs':List UInt8}(h:WS N w g bs keep)
  (hc:∀F,mQ w g F bs->Calls Tryz.prog f args w (Wrote w g F bs')):Calls Tryz.prog f args w (uy N w g bs' keep):=by
 obtain⟨h0,F,h1,h2,h3⟩:=h
 refine(hc F h1).mono ?_
 rintro e w' ⟨he,F',g1,g2,g3⟩
 refine⟨he,⟨Nat.le_trans h0 g3.size,F',g1,fun k hk=> ?_,fun x hx=>⟨fun hF=> ?_,yT (h3 x hx).2 g3 (h3 x hx).1⟩⟩,g3.below h0 h2⟩
 ·rcases g2 k hk with y|y
  ·exact h2 k y
  ·omega
 ·rcases g2 x.1 hF with y|y
  ·exact(h3 x hx).1 y
  ·have:=I4 (h3 x hx).2;omega
theorem gX(h:WS N w g bs keep)(n:Nat)(hn:n<=9223372036854775807)(hlen:bs.length+9<=140737488355328):
  Calls Tryz.prog 118 #[.pointer (some ⟨g,0,none⟩),.int .i64 n] w (uy N w g (bs++put n) keep):=h.step fun F hF=>Nu w g F bs n hn hF hlen
theorem xO(h:WS N w g bs keep)(n:Nat)(hn:n<18446744073709551616)(hlen:bs.length+9<=140737488355328):
  Calls Tryz.prog 122 #[.pointer (some ⟨g,0,none⟩),.int .u64 n] w (uy N w g (bs++put n) keep):=h.step fun F hF=>Nv w g F bs n hn hF hlen
theorem pz(h:WS N w g bs keep)(s:ByteArray)(hlen:bs.length+9+s.size<=140737488355328):
  Calls Tryz.prog 120 #[.pointer (some ⟨g,0,none⟩),.string s] w (uy N w g (bs++dK s) keep):=h.step fun F hF=>Kr w g F bs s hF hlen
theorem NQ(h:WS N w g bs keep)(b:Bool)(hlen:bs.length+9<=140737488355328):
  Calls Tryz.prog 241 #[.pointer (some ⟨g,0,none⟩),.bool b] w (uy N w g (bs++zY b) keep):=h.step fun F hF=>Ks w g F bs b hF (by omega)
theorem rF(w:World)(keep:List KB)(hk:∀x∈keep,w.heap[x.1]? =some x.2):
  Calls Tryz.prog 117 #[] w fun e w'=>∃g,e=.returned (.pointer (some ⟨g,0,none⟩))/\WS w.heap.size w' g [] keep/\Kept aj w w':=by
 refine(BI w).mono ?_
 rintro e w' ⟨he,h1,h2⟩
 exact⟨w.heap.size,he,⟨h2.size,_,h1,fun k hk=>by rw[hk];exact Nat.le_refl _,fun x hx=>⟨fun e=>by have:=I4 (hk x hx);omega,yT (hk x hx) h2 (fun y=>y)⟩⟩,h2⟩
theorem pF(h:WS N w g bs keep)(h0:bs≠[]):
  Calls Tryz.prog 123 #[.pointer (some ⟨g,0,none⟩)] w fun e w'=>e=.returned (.tuple #[.string (bG bs),.int .i64 0])/\Below N w w':=by
 obtain⟨hN,F,h1,h2,h3⟩:=h
 refine(yt w g F bs h1 h0).mono ?_
 rintro e w' ⟨he,hk⟩
 exact⟨he,hk.below hN h2⟩
theorem behind{a b:World}(h:Kept aj w a)(hb:Below N a b)(hN:w.heap.size<=N):Kept aj w b:=
 h.trans (G:=fun k=>N<=k) (Kept.of_below hb fun k _ hf=>by omega) fun i hi=> .inr (by omega)
end
end MW
namespace gZ
open aO Ops xE Vn MW
def qp(N:Nat)(w:World)(g:Nat)(bs:List UInt8)(keep:List KB)(e:Ending)(w':World):Prop:=e=.returned (.tuple #[])/\WS N w' g bs keep/\Below N w w'
section
variable{N:Nat}{w w0:World}{g:Nat}{bs:List UInt8}{keep:List KB}{x:bF}
theorem jh(h:WS N w g bs keep)(o:Obj):Below N w (w.alloc o):=(Below.refl N w).alloc h.1 o
structure Room(N:Nat)(w0 w:World)(bs:List UInt8)(x:bF):Prop where
 x:iZ w0 x
 k:Kept aj w0 w
 n:w0.heap.size<=N
 len:bs.length<=100000
theorem YB(c:Nat)(hc:isNum c=true)(h:WS N w g bs keep)(hr:Room N w0 w bs x)(hw:cZ x c=0):Calls Tryz.prog 255 #[.pointer (some ⟨g,0,none⟩),gK x,.int .i32 c] w (qp N w g (bs++fU x c) keep):=by
 have hE:fU x c=put (rY x c).toNat:=by unfold fU;rw[if_pos hc]
 rw[hE]
 obtain⟨W0,hW0⟩:∃W0,w.alloc (.cells (aI x).toArray 45)=W0:=⟨_,rfl⟩
 have hs0:WS N W0 g bs ((w.heap.size,.cells (aI x).toArray 45)::keep):=by rw[<-hW0];exact h.add _
 have hb0:Below N w W0:=by rw[<-hW0];exact jh h _
 have hk0:Kept aj w W0:=by rw[<-hW0];(repeat'(first|(with_reducible first|exact ak|apply au|apply ay|apply aA|apply aB)|(right;simp;done)))
 have hn0:Has W0 w.heap.size 45 (aI x).toArray:=hs0.has (List.mem_cons_self ..)
 have hx0:=hr.x.kept (hr.k.then hk0)
 have hlen:=hr.len
 obtain⟨⟨t1,t2⟩,⟨t3,t4⟩,t5⟩:=hr.x.t
 unfold aT at t2 t4
 have hnum:=NP W0 w.heap.size c hc
 have q:W0.cell? ⟨w.heap.size,numAt c,none⟩=some (.int .i64 (rY x c)):=by
  have h:c=101\/c=115\/c=114\/c=110\/c=109\/c=112:=of_decide_eq_true hc
  rcases h with rfl|rfl|rfl|rfl|rfl|rfl<;>exact hn0.cell _
 have hn:0<=rY x c/\rY x c<=1073741824:=by
  unfold cZ at hw
  rw[if_pos hc]at hw
  unfold NI at hw
  by_cases hr:rY x c<0\/1073741824<rY x c
  ·rw[if_pos hr]at hw;cases hw
  ·omega
 obtain⟨n,hn2⟩:∃n:Nat,rY x c=n:=⟨(rY x c).toNat,by omega⟩
 obtain⟨a,ha⟩:∃a,numAt c=a:=⟨_,rfl⟩
 rw[hn2,ha]at q
 rw[ha]at hnum
 rw[hn2,Int.toNat_natCast]
 rw[hn2]at hn
 have hcall:=gX hs0 n (by omega) (by omega)
 have HN:=ah hnum;have HC:=ah hcall;have HB:=ah hb0
 clear hn2 ha hn0 hc hk0 hnum hcall hs0 hx0 h hr hw hlen t1 t2 t3 t4 t5 hE hn hb0
 go_enter Tryz.func255,Tryz.ntmps255
 go_wp2_with fail
 clear hW0
 refine HN.out.mono ?_
 rintro e w2 ⟨rfl,rfl⟩
 go_wp2_with fail
 refine HC.out.mono ?_
 rintro e w3 ⟨rfl,hs3,hb3⟩
 have jZ:=ah hs3.tail;have HB3:=ah (HB.out.trans hb3);clear hs3 hb3
 go_wp2
 exact bodyPost_ret (v:=.tuple #[]) (by simp[results,Tryz.results255,go_sem]) rfl ⟨rfl,jZ.out,HB3.out⟩
theorem YC(h:WS N w g bs keep)(hr:Room N w0 w bs x)(hw:cZ x 120=0):Calls Tryz.prog 255 #[.pointer (some ⟨g,0,none⟩),gK x,.int .i32 ((120:Nat):Int)] w (qp N w g (bs++fU x 120) keep):=by
 have hE:fU x 120=put x.e.toNat:=rfl
 rw[hE]
 obtain⟨W0,hW0⟩:∃W0,w.alloc (.cells (aI x).toArray 45)=W0:=⟨_,rfl⟩
 have hs0:WS N W0 g bs ((w.heap.size,.cells (aI x).toArray 45)::keep):=by rw[<-hW0];exact h.add _
 have hb0:Below N w W0:=by rw[<-hW0];exact jh h _
 have hk0:Kept aj w W0:=by rw[<-hW0];(repeat'(first|(with_reducible first|exact ak|apply au|apply ay|apply aA|apply aB)|(right;simp;done)))
 have hn0:Has W0 w.heap.size 45 (aI x).toArray:=hs0.has (List.mem_cons_self ..)
 have hx0:=hr.x.kept (hr.k.then hk0)
 have hlen:=hr.len
 obtain⟨⟨t1,t2⟩,⟨t3,t4⟩,t5⟩:=hr.x.t
 unfold aT at t2 t4
 have hnum:=iK W0 w.heap.size 120 (by decide) (by decide)
 have HN:=ah hnum;have HB:=ah hb0
 have q:W0.cell? ⟨w.heap.size,10,none⟩=some (.int .i64 x.e):=hn0.cell 10
 have hn:0<=x.e/\x.e<=21:=by
  have hw2:(if x.e<0\/21<x.e then (1:Int)else 0)=0:=hw
  by_cases hr:x.e<0\/21<x.e
  ·rw[if_pos hr]at hw2;cases hw2
  ·omega
 obtain⟨n,hn2⟩:∃n:Nat,x.e=n:=⟨x.e.toNat,by omega⟩
 rw[hn2]at q hn⊢
 rw[Int.toNat_natCast]
 have hcall:=gX hs0 n (by omega) (by omega)
 have HC:=ah hcall
 clear hn2 hn hcall
 clear hn0 hk0 hnum hs0 hx0 h hr hw hlen t1 t2 t3 t4 t5 hE hb0
 go_enter Tryz.func255,Tryz.ntmps255
 go_wp2_with fail
 clear hW0
 refine HN.out.mono ?_
 rintro e w2 ⟨rfl,rfl⟩
 go_wp2_with fail
 refine HC.out.mono ?_
 rintro e w3 ⟨rfl,hs3,hb3⟩
 have jZ:=ah hs3.tail;have HB3:=ah (HB.out.trans hb3);clear hs3 hb3
 go_wp2
 exact bodyPost_ret (v:=.tuple #[]) (by simp[results,Tryz.results255,go_sem]) rfl ⟨rfl,jZ.out,HB3.out⟩
theorem abp(h:WS N w g bs keep)(hr:Room N w0 w bs x)(hw:cZ x 97=0):Calls Tryz.prog 255 #[.pointer (some ⟨g,0,none⟩),gK x,.int .i32 ((97:Nat):Int)] w (qp N w g (bs++fU x 97) keep):=by
 have hE:fU x 97=put x.at'.toNat:=rfl
 rw[hE]
 obtain⟨W0,hW0⟩:∃W0,w.alloc (.cells (aI x).toArray 45)=W0:=⟨_,rfl⟩
 have hs0:WS N W0 g bs ((w.heap.size,.cells (aI x).toArray 45)::keep):=by rw[<-hW0];exact h.add _
 have hb0:Below N w W0:=by rw[<-hW0];exact jh h _
 have hk0:Kept aj w W0:=by rw[<-hW0];(repeat'(first|(with_reducible first|exact ak|apply au|apply ay|apply aA|apply aB)|(right;simp;done)))
 have hn0:Has W0 w.heap.size 45 (aI x).toArray:=hs0.has (List.mem_cons_self ..)
 have hx0:=hr.x.kept (hr.k.then hk0)
 have hlen:=hr.len
 obtain⟨⟨t1,t2⟩,⟨t3,t4⟩,t5⟩:=hr.x.t
 unfold aT at t2 t4
 have hnum:=iK W0 w.heap.size 97 (by decide) (by decide)
 have HN:=ah hnum;have HB:=ah hb0
 have q:W0.cell? ⟨w.heap.size,5,none⟩=some (.int .u64 x.at'):=hn0.cell 5
 obtain⟨n,hn2⟩:∃n:Nat,x.at'=n:=⟨x.at'.toNat,by omega⟩
 rw[hn2]at q t1 t2⊢
 rw[Int.toNat_natCast]
 have hcall:=xO hs0 n (by omega) (by omega)
 have HC:=ah hcall
 clear hn2 hcall
 clear hn0 hk0 hnum hs0 hx0 h hr hw hlen t1 t2 t3 t4 t5 hE hb0
 go_enter Tryz.func255,Tryz.ntmps255
 go_wp2_with fail
 clear hW0
 refine HN.out.mono ?_
 rintro e w2 ⟨rfl,rfl⟩
 go_wp2_with fail
 refine HC.out.mono ?_
 rintro e w3 ⟨rfl,hs3,hb3⟩
 have jZ:=ah hs3.tail;have HB3:=ah (HB.out.trans hb3);clear hs3 hb3
 go_wp2
 exact bodyPost_ret (v:=.tuple #[]) (by simp[results,Tryz.results255,go_sem]) rfl ⟨rfl,jZ.out,HB3.out⟩
theorem YD(h:WS N w g bs keep)(hr:Room N w0 w bs x)(hw:cZ x 108=0):Calls Tryz.prog 255 #[.pointer (some ⟨g,0,none⟩),gK x,.int .i32 ((108:Nat):Int)] w (qp N w g (bs++fU x 108) keep):=by
 have hE:fU x 108=put x.last.toNat:=rfl
 rw[hE]
 obtain⟨W0,hW0⟩:∃W0,w.alloc (.cells (aI x).toArray 45)=W0:=⟨_,rfl⟩
 have hs0:WS N W0 g bs ((w.heap.size,.cells (aI x).toArray 45)::keep):=by rw[<-hW0];exact h.add _
 have hb0:Below N w W0:=by rw[<-hW0];exact jh h _
 have hk0:Kept aj w W0:=by rw[<-hW0];(repeat'(first|(with_reducible first|exact ak|apply au|apply ay|apply aA|apply aB)|(right;simp;done)))
 have hn0:Has W0 w.heap.size 45 (aI x).toArray:=hs0.has (List.mem_cons_self ..)
 have hx0:=hr.x.kept (hr.k.then hk0)
 have hlen:=hr.len
 obtain⟨⟨t1,t2⟩,⟨t3,t4⟩,t5⟩:=hr.x.t
 unfold aT at t2 t4
 have hnum:=iK W0 w.heap.size 108 (by decide) (by decide)
 have HN:=ah hnum;have HB:=ah hb0
 have q:W0.cell? ⟨w.heap.size,6,none⟩=some (.int .u64 x.last):=hn0.cell 6
 obtain⟨n,hn2⟩:∃n:Nat,x.last=n:=⟨x.last.toNat,by omega⟩
 rw[hn2]at q t3 t4⊢
 rw[Int.toNat_natCast]
 have hcall:=xO hs0 n (by omega) (by omega)
 have HC:=ah hcall
 clear hn2 hcall
 clear hn0 hk0 hnum hs0 hx0 h hr hw hlen t1 t2 t3 t4 t5 hE hb0
 go_enter Tryz.func255,Tryz.ntmps255
 go_wp2_with fail
 clear hW0
 refine HN.out.mono ?_
 rintro e w2 ⟨rfl,rfl⟩
 go_wp2_with fail
 refine HC.out.mono ?_
 rintro e w3 ⟨rfl,hs3,hb3⟩
 have jZ:=ah hs3.tail;have HB3:=ah (HB.out.trans hb3);clear hs3 hb3
 go_wp2
 exact bodyPost_ret (v:=.tuple #[]) (by simp[results,Tryz.results255,go_sem]) rfl ⟨rfl,jZ.out,HB3.out⟩
theorem YE(h:WS N w g bs keep)(hr:Room N w0 w bs x)(hw:cZ x 102=0):Calls Tryz.prog 255 #[.pointer (some ⟨g,0,none⟩),gK x,.int .i32 ((102:Nat):Int)] w (qp N w g (bs++fU x 102) keep):=by
 have hE:fU x 102=zY x.fl:=rfl
 rw[hE]
 obtain⟨W0,hW0⟩:∃W0,w.alloc (.cells (aI x).toArray 45)=W0:=⟨_,rfl⟩
 have hs0:WS N W0 g bs ((w.heap.size,.cells (aI x).toArray 45)::keep):=by rw[<-hW0];exact h.add _
 have hb0:Below N w W0:=by rw[<-hW0];exact jh h _
 have hk0:Kept aj w W0:=by rw[<-hW0];(repeat'(first|(with_reducible first|exact ak|apply au|apply ay|apply aA|apply aB)|(right;simp;done)))
 have hn0:Has W0 w.heap.size 45 (aI x).toArray:=hs0.has (List.mem_cons_self ..)
 have hx0:=hr.x.kept (hr.k.then hk0)
 have hlen:=hr.len
 obtain⟨⟨t1,t2⟩,⟨t3,t4⟩,t5⟩:=hr.x.t
 unfold aT at t2 t4
 have hnum:=iK W0 w.heap.size 102 (by decide) (by decide)
 have HN:=ah hnum;have HB:=ah hb0
 have q:W0.cell? ⟨w.heap.size,4,none⟩=some (.bool x.fl):=hn0.cell 4
 obtain⟨b,hb⟩:∃b,x.fl=b:=⟨_,rfl⟩
 rw[hb]at q⊢
 have hcall:=NQ hs0 b (by omega)
 have HC:=ah hcall
 clear hcall hb
 clear hn0 hk0 hnum hs0 hx0 h hr hw hlen t1 t2 t3 t4 t5 hE hb0
 go_enter Tryz.func255,Tryz.ntmps255
 go_wp2_with fail
 clear hW0
 refine HN.out.mono ?_
 rintro e w2 ⟨rfl,rfl⟩
 go_wp2_with fail
 refine HC.out.mono ?_
 rintro e w3 ⟨rfl,hs3,hb3⟩
 have jZ:=ah hs3.tail;have HB3:=ah (HB.out.trans hb3);clear hs3 hb3
 go_wp2
 exact bodyPost_ret (v:=.tuple #[]) (by simp[results,Tryz.results255,go_sem]) rfl ⟨rfl,jZ.out,HB3.out⟩
theorem YF(h:WS N w g bs keep)(hr:Room N w0 w bs x)(hw:cZ x 107=0):Calls Tryz.prog 255 #[.pointer (some ⟨g,0,none⟩),gK x,.int .i32 ((107:Nat):Int)] w (qp N w g (bs++fU x 107) keep):=by
 have hE:fU x 107=dK x.key:=rfl
 rw[hE]
 obtain⟨W0,hW0⟩:∃W0,w.alloc (.cells (aI x).toArray 45)=W0:=⟨_,rfl⟩
 have hs0:WS N W0 g bs ((w.heap.size,.cells (aI x).toArray 45)::keep):=by rw[<-hW0];exact h.add _
 have hb0:Below N w W0:=by rw[<-hW0];exact jh h _
 have hk0:Kept aj w W0:=by rw[<-hW0];(repeat'(first|(with_reducible first|exact ak|apply au|apply ay|apply aA|apply aB)|(right;simp;done)))
 have hn0:Has W0 w.heap.size 45 (aI x).toArray:=hs0.has (List.mem_cons_self ..)
 have hx0:=hr.x.kept (hr.k.then hk0)
 have hlen:=hr.len
 obtain⟨⟨t1,t2⟩,⟨t3,t4⟩,t5⟩:=hr.x.t
 unfold aT at t2 t4
 have hnum:=iK W0 w.heap.size 107 (by decide) (by decide)
 have HN:=ah hnum;have HB:=ah hb0
 have q:W0.cell? ⟨w.heap.size,11,none⟩=some (.string x.key):=hn0.cell 11
 have hn:x.key.size<=8:=by
  have hw2:(if 8<x.key.size then (3:Int)else 0)=0:=hw
  by_cases hr:8<x.key.size
  ·rw[if_pos hr]at hw2;cases hw2
  ·omega
 obtain⟨s,hs⟩:∃s,x.key=s:=⟨_,rfl⟩
 rw[hs]at q hn⊢
 have hcall:=pz hs0 s (by omega)
 have HC:=ah hcall
 clear hcall hs hn
 clear hn0 hk0 hnum hs0 hx0 h hr hw hlen t1 t2 t3 t4 t5 hE hb0
 go_enter Tryz.func255,Tryz.ntmps255
 go_wp2_with fail
 clear hW0
 refine HN.out.mono ?_
 rintro e w2 ⟨rfl,rfl⟩
 go_wp2_with fail
 refine HC.out.mono ?_
 rintro e w3 ⟨rfl,hs3,hb3⟩
 have jZ:=ah hs3.tail;have HB3:=ah (HB.out.trans hb3);clear hs3 hb3
 go_wp2
 go_end0
 exact⟨rfl,jZ.out,HB3.out⟩
theorem YG(h:WS N w g bs keep)(hr:Room N w0 w bs x)(hw:cZ x 116=0):Calls Tryz.prog 255 #[.pointer (some ⟨g,0,none⟩),gK x,.int .i32 ((116:Nat):Int)] w (qp N w g (bs++fU x 116) keep):=by
 have hE:fU x 116=dK x.to:=rfl
 rw[hE]
 obtain⟨W0,hW0⟩:∃W0,w.alloc (.cells (aI x).toArray 45)=W0:=⟨_,rfl⟩
 have hs0:WS N W0 g bs ((w.heap.size,.cells (aI x).toArray 45)::keep):=by rw[<-hW0];exact h.add _
 have hb0:Below N w W0:=by rw[<-hW0];exact jh h _
 have hk0:Kept aj w W0:=by rw[<-hW0];(repeat'(first|(with_reducible first|exact ak|apply au|apply ay|apply aA|apply aB)|(right;simp;done)))
 have hn0:Has W0 w.heap.size 45 (aI x).toArray:=hs0.has (List.mem_cons_self ..)
 have hx0:=hr.x.kept (hr.k.then hk0)
 have hlen:=hr.len
 obtain⟨⟨t1,t2⟩,⟨t3,t4⟩,t5⟩:=hr.x.t
 unfold aT at t2 t4
 have hnum:=iK W0 w.heap.size 116 (by decide) (by decide)
 have HN:=ah hnum;have HB:=ah hb0
 have q:W0.cell? ⟨w.heap.size,12,none⟩=some (.string x.to):=hn0.cell 12
 have hn:x.to.size<=8:=by
  have hw2:(if 8<x.to.size then (3:Int)else 0)=0:=hw
  by_cases hr:8<x.to.size
  ·rw[if_pos hr]at hw2;cases hw2
  ·omega
 obtain⟨s,hs⟩:∃s,x.to=s:=⟨_,rfl⟩
 rw[hs]at q hn⊢
 have hcall:=pz hs0 s (by omega)
 have HC:=ah hcall
 clear hcall hs hn
 clear hn0 hk0 hnum hs0 hx0 h hr hw hlen t1 t2 t3 t4 t5 hE hb0
 go_enter Tryz.func255,Tryz.ntmps255
 go_wp2_with fail
 clear hW0
 refine HN.out.mono ?_
 rintro e w2 ⟨rfl,rfl⟩
 go_wp2_with fail
 refine HC.out.mono ?_
 rintro e w3 ⟨rfl,hs3,hb3⟩
 have jZ:=ah hs3.tail;have HB3:=ah (HB.out.trans hb3);clear hs3 hb3
 go_wp2
 go_end0
 exact⟨rfl,jZ.out,HB3.out⟩
theorem abq(h:WS N w g bs keep)(hr:Room N w0 w bs x)(hw:cZ x 67=0):Calls Tryz.prog 255 #[.pointer (some ⟨g,0,none⟩),gK x,.int .i32 ((67:Nat):Int)] w (qp N w g (bs++fU x 67) keep):=by
 have hE:fU x 67=dK (ku x.zk x.ms x.AO):=rfl
 rw[hE]
 obtain⟨W0,hW0⟩:∃W0,w.alloc (.cells (aI x).toArray 45)=W0:=⟨_,rfl⟩
 have hs0:WS N W0 g bs ((w.heap.size,.cells (aI x).toArray 45)::keep):=by rw[<-hW0];exact h.add _
 have hb0:Below N w W0:=by rw[<-hW0];exact jh h _
 have hk0:Kept aj w W0:=by rw[<-hW0];(repeat'(first|(with_reducible first|exact ak|apply au|apply ay|apply aA|apply aB)|(right;simp;done)))
 have hn0:Has W0 w.heap.size 45 (aI x).toArray:=hs0.has (List.mem_cons_self ..)
 have hx0:=hr.x.kept (hr.k.then hk0)
 have hlen:=hr.len
 obtain⟨⟨t1,t2⟩,⟨t3,t4⟩,t5⟩:=hr.x.t
 unfold aT at t2 t4
 have hnum:=iK W0 w.heap.size 67 (by decide) (by decide)
 have HN:=ah hnum;have HB:=ah hb0
 have q1:W0.cell? ⟨w.heap.size,13,none⟩=some (.int .i64 x.zk):=hn0.cell 13
 have q2:W0.cell? ⟨w.heap.size,14,none⟩=some (.slice x.mA x.ms.length x.mc):=hn0.cell 14
 have q3:W0.cell? ⟨w.heap.size,15,none⟩=some (.int .u64 x.AO):=hn0.cell 15
 have hcall:=NS W0 x.zk x.AO x.mA x.mc x.ms hx0.m hx0.mc hx0.ml t5
 have hsz:=tN (ep:=x.zk) (ms:=x.ms) t5
 obtain⟨s,hs⟩:∃s,ku x.zk x.ms x.AO=s:=⟨_,rfl⟩
 obtain⟨z,hz⟩:∃z,aO.chk x.zk x.ms=z:=⟨_,rfl⟩
 rw[hs]at hcall hsz⊢
 rw[hz]at hcall
 have HC:=ah hcall;have yU:=ah hs0;have lD:=ah (And.intro hsz hlen)
 clear hcall hs hz hsz
 clear hn0 hk0 hnum hs0 hx0 h hr hw hlen t1 t2 t3 t4 t5 hE hb0
 go_enter Tryz.func255,Tryz.ntmps255
 go_wp2_with fail
 clear hW0
 refine HN.out.mono ?_
 rintro e w2 ⟨rfl,rfl⟩
 go_wp2_with fail
 refine HC.out.mono ?_
 rintro e w3 ⟨rfl,hk3⟩
 have hs3:=WS.kept (G:=aj) yU.out hk3
 have hb3:Below N w w3:=HB.out.trans (hk3.below yU.out.1 (fun _ z=>z.elim))
 have jZ:=ah hs3;have HB3:=ah hb3;clear hs3 hb3 hk3
 go_wp2_with fail
 refine(pz jZ.out s (by have:=lD.out;omega)).mono ?_
 rintro e w4 ⟨rfl,hs4,hb4⟩
 have qW:=ah hs4.tail;have HB4:=ah (HB3.out.trans hb4);clear hs4 hb4
 go_wp2
 go_end0
 exact⟨rfl,qW.out,HB4.out⟩
theorem abr(h:WS N w g bs keep)(hr:Room N w0 w bs x)(hw:cZ x 66=0):Calls Tryz.prog 255 #[.pointer (some ⟨g,0,none⟩),gK x,.int .i32 ((66:Nat):Int)] w (qp N w g (bs++fU x 66) keep):=by
 have hE:fU x 66=dK (DX (sW x)):=rfl
 rw[hE]
 obtain⟨W0,hW0⟩:∃W0,w.alloc (.cells (aI x).toArray 45)=W0:=⟨_,rfl⟩
 have hs0:WS N W0 g bs ((w.heap.size,.cells (aI x).toArray 45)::keep):=by rw[<-hW0];exact h.add _
 have hb0:Below N w W0:=by rw[<-hW0];exact jh h _
 have hk0:Kept aj w W0:=by rw[<-hW0];(repeat'(first|(with_reducible first|exact ak|apply au|apply ay|apply aA|apply aB)|(right;simp;done)))
 have hn0:Has W0 w.heap.size 45 (aI x).toArray:=hs0.has (List.mem_cons_self ..)
 have hx0:=hr.x.kept (hr.k.then hk0)
 have hlen:=hr.len
 obtain⟨⟨t1,t2⟩,⟨t3,t4⟩,t5⟩:=hr.x.t
 unfold aT at t2 t4
 have hnum:=iK W0 w.heap.size 66 (by decide) (by decide)
 have HN:=ah hnum;have HB:=ah hb0
 have q1:W0.cell? ⟨w.heap.size,16,none⟩=some (.int .i64 x.iY):=hn0.cell 16
 have q2:W0.cell? ⟨w.heap.size,17,none⟩=some (.int .i64 x.fM):=hn0.cell 17
 have q3:W0.cell? ⟨w.heap.size,18,none⟩=some (.slice x.oA x.ops.length x.oc):=hn0.cell 18
 have hcall:=NR W0 (sW x) x.oA x.oc hx0.o
 have hsz:=Gx (sW x)
 have hpb:yA (sW x)=DX (sW x):=rfl
 rw[hpb]at hcall
 obtain⟨s,hs⟩:∃s,DX (sW x)=s:=⟨_,rfl⟩
 obtain⟨z,hz⟩:∃z,Ops.chk (sW x)=z:=⟨_,rfl⟩
 rw[hs]at hcall hsz⊢
 rw[hz]at hcall
 dsimp only[Gw,sW]at hcall
 have HC:=ah hcall;have yU:=ah hs0;have lD:=ah (And.intro hsz hlen)
 clear hcall hs hz hsz hpb
 clear hn0 hk0 hnum hs0 hx0 h hr hw hlen t1 t2 t3 t4 t5 hE hb0
 go_enter Tryz.func255,Tryz.ntmps255
 go_wp2_with fail
 clear hW0
 refine HN.out.mono ?_
 rintro e w2 ⟨rfl,rfl⟩
 go_wp2_with fail
 refine HC.out.mono ?_
 rintro e w3 ⟨rfl,hk3⟩
 have hs3:=WS.kept (G:=aj) yU.out hk3
 have hb3:Below N w w3:=HB.out.trans (hk3.below yU.out.1 (fun _ z=>z.elim))
 have jZ:=ah hs3;have HB3:=ah hb3;clear hs3 hb3 hk3
 go_wp2_with fail
 refine(pz jZ.out s (by have:=lD.out;omega)).mono ?_
 rintro e w4 ⟨rfl,hs4,hb4⟩
 have qW:=ah hs4.tail;have HB4:=ah (HB3.out.trans hb4);clear hs4 hb4
 go_wp2
 go_end0
 exact⟨rfl,qW.out,HB4.out⟩
theorem YH(c:Nat)(hl:c∈letters)(hn:c≠69/\c≠83/\c≠82)(h:WS N w g bs keep)(hr:Room N w0 w bs x)(hw:cZ x c=0):Calls Tryz.prog 255 #[.pointer (some ⟨g,0,none⟩),gK x,.int .i32 c] w (qp N w g (bs++fU x c) keep):=by
 by_cases hc:isNum c=true
 ·exact YB c hc h hr hw
 ·have h2:¬(c=101\/c=115\/c=114\/c=110\/c=109\/c=112):=fun z=>hc (decide_eq_true z)
  have h1:c=67\/c=97\/c=102\/c=108\/c=66\/c=120\/c=107\/c=116:=by
   unfold letters at hl
   simp only[List.mem_cons,List.not_mem_nil,or_false]at hl
   omega
  rcases h1 with rfl|rfl|rfl|rfl|rfl|rfl|rfl|rfl
  ·exact abq h hr hw
  ·exact abp h hr hw
  ·exact YE h hr hw
  ·exact YD h hr hw
  ·exact abr h hr hw
  ·exact YC h hr hw
  ·exact YF h hr hw
  ·exact YG h hr hw
end
end gZ
end Go.Proofs.YtfjdpbbgfjhnlaaGreat
