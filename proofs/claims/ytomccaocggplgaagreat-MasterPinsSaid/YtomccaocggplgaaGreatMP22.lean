/- Part 23. -/
import Derived.Test.YtomccaocggplgaaGreatMP21
set_option linter.unusedSimpArgs false
set_option linter.unusedVariables false
set_option maxHeartbeats 32000000
set_option maxRecDepth 100000
namespace Go.Proofs.YtomccaocggplgaaGreat
open Go.RowKit
namespace bW
open aJ Vn Mst jQ IM kK
def nR.app(L:nR)(s:ByteArray):nR:={L with T:=L.T++[84::Ops.bl s],l:=L.l++[s]}
def nR.sync(L:nR):nR:={L with R:=Wl.cur L.R L.T,T:=[]}
def nR.save(L:nR)(l:List ByteArray):nR:=⟨L.first+(Wl.cur L.R L.T).length,Wl.cur [] (Pt.kM l.length l),[],l⟩
def nR.size(L:nR):Nat:=Pt.EV (fun j=>(Wl.lZ (Wl.cur L.R L.T) j).length) (Wl.cur L.R L.T).length
structure dG(X:MX)(L:nR)(c:Nat):Prop where
 n:X.n+X.ps.length<=1+12*c
 f:L.first+(L.R.length+L.T.length:Nat)<=2+12*(c:Int)
 l:L.l.length<=12*c
 hd:Pt.Hd L.R
theorem dG.mono{X:MX}{L:nR}{c d:Nat}(h:dG X L c)(hd:c<=d):dG X L d:=⟨by have:=h.n;omega,by have:=h.f;omega,by have:=h.l;omega,h.hd⟩
section
variable{ws w w':World}{X X0:MX}{M M0:MR}{c:Nat}
theorem dG.fits(h:dG X M.lg c)(ha:dJ w X M)(hc:c<=5000):Wl.Fits X.n X.m X.ps:=by have hp:sK w X M.lg:=ha.c 1;have h1:=h.n;have h2:=h.f;have h3:=hp.f1;exact Pt.abY hp.low hp.log hp.f1 (by omega) (by omega) (by omega)
theorem dG.cur(h:dG X M.lg c)(ha:dJ w X M):(Wl.cur M.lg.R M.lg.T).length<=M.lg.R.length+M.lg.T.length/\Wl.lastOf (Wl.cur M.lg.R M.lg.T)<=M.lg.R.length+M.lg.T.length/\M.lg.R.length+M.lg.T.length<=1+12*c:=by have hp:sK w X M.lg:=ha.c 1;have h1:=Wl.Dk M.lg.R M.lg.T;have h2:=Wl.EN (Wl.cur M.lg.R M.lg.T);have h3:=h.f;have h4:=hp.f1;exact⟨h1,by omega,by omega⟩
theorem dJ.Vz(h:dJ w X M){Ah:Nat}{F':Nat->Prop}{A':Option Addr}{c' n':Nat}{m':aH.Safe}{ps':List aH.Pc}{L':nR}
  (hp:sK w' {X with gw:=Ah,F:=F',A:=A',c:=c',n:=n',m:=m',ps:=ps'} L') (hk:Kept (parts X M 1) w w') (hg:∀k,F' k->X.F k\/w.heap.size<=k) (hgw:Ah=X.gw\/w.heap.size<=Ah)
  (hr:∀k,(Value.slice A' L'.l.length c').ownBlock=some k->(Value.slice X.A M.lg.l.length X.c).ownBlock=some k\/w.heap.size<=k):
  Step w X M w' {X with gw:=Ah,F:=F',A:=A',c:=c',n:=n',m:=m',ps:=ps'} {M with lg:=L'}:=
 h.upd 1 hk (fun j hj=>by rcases j with _|_|_|_|_|_|_|_|_|_|_|j<;>first|rfl|exact absurd rfl hj)
  (fun j hj hc=>by rcases j with _|_|_|_|_|_|_|_|_|_|_|j<;>first|exact hc|exact absurd rfl hj) hp (fun k hk=>by
   rcases hk with y|y|y|y
   ·rcases hg k y with z|z
    ·exact .inl (.inl z)
    ·exact .inr z
   ·exact .inl (.inr (.inl y))
   ·rcases hgw with z|z
    ·exact .inl (.inr (.inr (.inl (y.trans z))))
    ·exact .inr (by rw[y];exact z)
   ·rcases hr k y with z|z
    ·exact .inl (.inr (.inr (.inr z)))
    ·exact .inr z) rfl
theorem EX{x:aG}(hu:NU x):(lK x).size<=2000:=by
 unfold lK;by_cases h0:aT x=0;rotate_left
 ·rw[if_neg h0];decide
 rw[if_pos h0];rw[<-Ops.bP,Ops.jq];obtain⟨⟨u1,u2⟩,⟨u3,u4⟩,u5,⟨u6,u7⟩⟩:=hu;unfold aW at u2 u4 u7;have hn:x.k=3\/x.k=4\/x.k=5\/x.k=7->0<=x.n/\x.n<=1073741824:=fun h=>by unfold aT at h0;rw[if_neg (by omega),if_neg (by omega),if_pos h]at h0;exact nX h0
 have hL:∀n:Nat,n<=18446744073709551615->(put n).length<=9:=fun n h=>nD (by omega);unfold jg;by_cases k1:x.k=1
 ·obtain⟨e1,e2⟩:=Jz h0 k1;obtain⟨l1,l2⟩:=IY e2;have a1:=gu.jO (s:=gu.kV x.ep x.ms x.fl) (m:=99) (gu.uo u5) (by omega);have a2:=gu.oI (fun i:Int=>put i.toNat) x.lg 9 (fun y hy=>by have:=l2 y hy;exact hL _ (by omega));have a3:=hL x.lg.length (by omega);have a4:=hL x.k.toNat (by omega);rw[if_pos k1,lA0,lA0,lA0];omega
 rw[if_neg k1];by_cases k2:x.k=2
 ·have e1:iG [x.n]=0:=by
   unfold aT at h0;rw[if_neg k1,if_pos k2]at h0;by_cases hn:iG [x.n]=0
   ·exact hn
   ·rw[if_neg hn]at h0;exact absurd h0 hn
  have e2:=nX e1;have a1:=gu.jO (s:=gu.oz (yE x)) (m:=121) (gu.yV (e:=yE x) ⟨u6,by unfold aW;exact u7⟩) (by omega);have a2:=hL x.n.toNat (by omega);have a4:=hL x.k.toNat (by omega);rw[if_pos k2,lA0,lA0];omega
 rw[if_neg k2];by_cases k3:x.k=3
 ·have e2:=hn (by omega);have a1:=hL x.at'.toNat (by omega);have a2:=hL x.n.toNat (by omega);have a4:=hL x.k.toNat (by omega);rw[if_pos k3,lA0,lA0];omega
 rw[if_neg k3];by_cases k4:x.k=4
 ·have e2:=hn (by omega);have a1:=hL x.at'.toNat (by omega);have a2:=hL x.n.toNat (by omega);have a4:=hL x.k.toNat (by omega);rw[if_pos k4,lA0,lA0];omega
 rw[if_neg k4];by_cases k6:x.k=6
 ·have e1:iG [x.pin.id,x.pin.left]=0:=by unfold aT at h0;rw[if_neg k1,if_neg k2,if_neg (by omega),if_pos k6]at h0;exact h0
  obtain⟨e2,e3⟩:=wE e1;have a1:=hL x.pin.id.toNat (by omega);have a2:=hL x.pin.at'.toNat (by omega);have a3:=hL x.pin.left.toNat (by omega);have a4:=hL x.k.toNat (by omega);rw[if_pos k6,lA0,lA0,lA0];omega
 rw[if_neg k6];by_cases k8:x.k=8
 ·obtain⟨e1,e2,e3,e4⟩:=Kw (JA h0 k8);have a1:=hL x.said.cl.toNat (by omega);have a2:=hL x.said.req.toNat (by omega);have a3:=hL x.said.e.toNat (by omega);have a5:=hL x.said.pin.toNat (by omega);have a4:=hL x.k.toNat (by omega);rw[if_pos k8,lA0,lA0,lA0,lA0];omega
 rw[if_neg k8];have h57:x.k=5\/x.k=7:=by
  unfold aT at h0;by_cases h57:x.k=5\/x.k=7
  ·exact h57
  ·rw[if_neg k1,if_neg k2,if_neg (by omega),if_neg k6,if_neg k8]at h0;cases h0
 have e2:=hn (by omega);have a2:=hL x.n.toNat (by omega);have a4:=hL x.k.toNat (by omega);rw[lA0];omega
theorem qh(h:dJ w X M):Calls Tryz.prog 23 #[.pointer (some ⟨X.mb,0,none⟩)] w fun e w'=>e=.returned (.bool false)/\w=w':=by have q:w.cell? ⟨X.mb,0,none⟩=some (.pointer (some ⟨X.g,0,none⟩)):=Has.cell (h.c 0) 0;clear h;go_enter Tryz.func23,Tryz.ntmps23;go_wp2;go_ret;exact⟨rfl,rfl⟩
theorem Be(w:World)(i:Int):Calls Tryz.prog 41 #[.int .i64 i] w fun e w'=>e=.returned (.bool (decide (0<=i/\i<4)))/\w=w':=by
 by_cases h1:0<=i
 ·by_cases h2:i<4
  ·rw[decide_eq_true (by omega)];go_enter Tryz.func41,Tryz.ntmps41;go_wp2;go_ret;exact⟨rfl,rfl⟩
  ·rw[decide_eq_false (by omega)];go_enter Tryz.func41,Tryz.ntmps41;go_wp2;go_ret;exact⟨rfl,rfl⟩
 ·rw[decide_eq_false (by omega)];go_enter Tryz.func41,Tryz.ntmps41;go_wp2;go_ret;exact⟨rfl,rfl⟩
theorem VA(w:World)(i:Int):Calls Tryz.prog 43 #[.int .i64 i] w fun e w'=>e=.returned (.bool (decide (5<=i/\i<8)))/\w=w':=by
 by_cases h1:5<=i
 ·by_cases h2:i<8
  ·rw[decide_eq_true (by omega)];go_enter Tryz.func43,Tryz.ntmps43;go_wp2;go_ret;exact⟨rfl,rfl⟩
  ·rw[decide_eq_false (by omega)];go_enter Tryz.func43,Tryz.ntmps43;go_wp2;go_ret;exact⟨rfl,rfl⟩
 ·rw[decide_eq_false (by omega)];go_enter Tryz.func43,Tryz.ntmps43;go_wp2;go_ret;exact⟨rfl,rfl⟩
theorem AV(w:World)(x:Mem)(b:Nat)(id:Int)(hb:Has w b 3 #[.int .i64 id]):
  Calls Tryz.prog 127 #[jH x,.pointer (some ⟨b,0,none⟩)] w fun e w'=>e=.returned (.bool (decide (x.1=id)))/\Kept aj w w':=by
 have c0:=(hb.alloc (.cells #[.int .i64 x.1,.int .i64 x.2] 56)).cell 0;simp only[lF0,List.getElem?_cons_zero,List.getElem?_cons_succ]at c0;clear hb;go_enter Tryz.func127,Tryz.ntmps127;go_wp2;go_ret;exact⟨rfl,by(repeat'(first|(with_reducible first|exact ak|apply au|apply ay|apply aA|apply aB)|(right;simp;done)))⟩
theorem zA(x f:Int)(A:Option Addr)(n c:Nat)(W:World):(Instr.field 25 (.agg #[.int .i64 x,.slice A n c,.int .u64 f]) 1).run Tryz.prog W=.ok (.slice A n c) W:=by kernel_rfl
attribute [local go_sem] zA
theorem oM(h:dJ w X M)(hok:pY M.st)(id:Int):Calls Tryz.prog 66 #[.pointer (some ⟨X.mb,0,none⟩),.int .i64 id] w fun e w'=>e=.returned (.bool (cO M.st.ms id))/\Kept aj w w':=by
 obtain⟨W0,hW0⟩:∃W0,w.alloc (.cells #[.int .i64 id] 3)=W0:=⟨_,rfl⟩;have hk0:Kept aj w W0:=by rw[<-hW0];(repeat'(first|(with_reducible first|exact ak|apply au|apply ay|apply aA|apply aB)|(right;simp;done)))
 have hn0:Has W0 w.heap.size 3 #[.int .i64 id]:=by rw[<-hW0];exact Has.new _ _ _
 have h0:=h.quiet hk0;have q:W0.cell? ⟨X.mb,2,none⟩=some (.pointer (some ⟨X.sb,0,none⟩)):=Has.cell (h0.c 0) 2;have hc:fH W0 X.sb X.FS M.st:=h0.c 2;have oP:=qO hc hok;have hms:=hok.m;have HN:=ah hn0;have bf:=ah hk0;have HC:=ah oP;have HMS:=ah hms;have HE:Hid (cO M.st.ms id=M.st.ms.any (fun m=>decide (m.1=id))):=ah rfl;clear hk0 hn0 h0 hc oP hms h hok;obtain⟨ms,hms⟩:∃ms,M.st.ms=ms:=⟨_,rfl⟩;rw[hms]at HC HMS HE⊢;clear hms;go_enter Tryz.func66,Tryz.ntmps66;go_wp2_with fail;clear hW0 q;refine HC.out.mono ?_;rintro e w2 ⟨A,c,rfl,hr,hk⟩
 have hh:=CS w2 A c ms 127 (.pointer (some ⟨w.heap.size,0,none⟩)) (fun m=>decide (m.1=id)) (fun args W=>enters Tryz.func127 (by kernel_rfl) rfl args W) (Src.bF hr.1) (by have:=HMS.out;omega)
  (fun W x hW _=>AV W x w.heap.size id ((HN.out.kept hk (fun z=>z)).kept hW (fun z=>z)))
 have HH:=ah hh;have HK:=ah (bf.out.then hk);clear hh hk hr;go_wp2_with fail;refine HH.out.mono ?_;rintro e w3 ⟨rfl,hk⟩;have bu:=ah (HK.out.then hk);clear hk;go_wp2;go_ret;exact⟨by rw[HE.out];rfl,bu.out⟩
structure KP(F:Nat->Prop)(x:aG):Prop where
 m:0<x.ms.length->∀ad,x.mA=some ad->¬F ad.block
 l:0<x.lg.length->∀ad,x.lA=some ad->¬F ad.block
 o:0<x.b.ops.length->∀ad,x.oA=some ad->¬F ad.block
theorem Src.wJ{F:Nat->Prop}{a b:World}{size m:Nat}{A:Option Addr}{news:List Value}(h:Src a size A m news)(hk:Kept F a b)(hf:0<m->∀ad,A=some ad->¬F ad.block):Src b size A m news:=by
 rcases Nat.eq_zero_or_pos m with h0|h0
 ·subst h0;have:news=[]:=lE0 (by simpa using h.1);subst this;exact Src.nil _ _ _
 ·exact h.kept hk (hf h0)
theorem iR.wJ{F:Nat->Prop}{a b:World}{x:aG}(h:iR a x)(hk:Kept F a b)(hf:KP F x):iR b x:=
 ⟨Src.wJ h.m hk hf.m,h.mc,h.ml,Src.wJ h.l hk hf.l,h.lc,h.ll,Src.wJ h.o hk hf.o⟩
def writeM(M:MR)(x:aG):MR:=if bn M.st x=0 then {M with st:=aP M.st x,lg:=M.lg.app (lK x)}else M
def WritePost(w:World)(X:MX)(M:MR)(c:Nat)(x:aG)(e:Ending)(w':World):Prop:=e=.returned (.int .i64 (bn M.st x))/\∃X',Step w X M w' X' (writeM M x)/\dG X' (writeM M x).lg (c+1)
attribute [local go_sem↓] vH
attribute [local go_sem] vI
theorem write_any(h:dJ w X M)(hb:dG X M.lg c)(hc:c<=4000)(hok:pY M.st)(x:aG)(hx:iR w x)(hu:NU x)(ho:KP (dN X M) x):
  Calls Tryz.prog 20 #[.pointer (some ⟨X.mb,0,none⟩),fU x] w (WritePost w X M c x):=by
 obtain⟨W0,hW0⟩:∃W0,w.alloc (.cells (aK x).toArray 78)=W0:=⟨_,rfl⟩;have hk0:Kept aj w W0:=by rw[<-hW0];(repeat'(first|(with_reducible first|exact ak|apply au|apply ay|apply aA|apply aB)|(right;simp;done)))
 have hn0:Has W0 w.heap.size 78 (aK x).toArray:=by rw[<-hW0];exact Has.new _ _ _
 have h0:=h.quiet hk0;have q:W0.cell? ⟨X.mb,2,none⟩=some (.pointer (some ⟨X.sb,0,none⟩)):=Has.cell (h0.c 0) 2;have happ:=LU W0.drew X.sb X.FS M.st x (h0.c 2) hok ((hx.kept hk0).kept (Kept.refl aj W0).drew);have HA:=ah happ;have dW:=ah hn0;have bf:=ah hk0;have hd0:dJ W0.drew X M:=h0.quiet (Kept.refl aj W0).drew;have HD:=ah hd0;have HX:=ah hx;have HU:=ah hu;have HO:=ah ho;have HB:=ah hb;have HC:=ah hc;have hkd:Kept aj w W0.drew:=hk0.drew;have xg:=ah hkd;clear hd0 hkd;obtain⟨u1,u2⟩:=vJ rfl hn0;have hnf:∀k,X.FS k->k<w.heap.size/\k≠X.mb:=fun k hf=>⟨h.lt ⟨2,hf⟩,fun e=>absurd (h.ap 0 2 k e hf) (by decide)⟩;have HNF:=ah hnf;clear happ hn0 hk0 h0 h hx hu hb hc hok hnf ho;go_enter Tryz.func20,Tryz.ntmps20;go_wp2_with fail
 go_region_held3 (fun W=>W.cell? ⟨X.mb,2,none⟩=some (.pointer (some ⟨X.sb,0,none⟩))/\B6 W ⟨w.heap.size,0,none⟩/\xK W ⟨w.heap.size,0,none⟩=(aK x).toArray) (first|with_reducible exact⟨z2,v1,v2⟩|with_reducible exact⟨q,u1,u2⟩|exact⟨q,u1,u2⟩)
  (first|(go_at_call 33;refine HA.out.mono ?_;rintro e w2 ⟨uG,rfl,hst,hg,hk⟩;have hn2:=(Has.drew dW.out).kept hk (fun hf=>Nat.lt_irrefl _ (HNF.out _ hf).1);have z2:w2.cell? ⟨X.mb,2,none⟩=some (.pointer (some ⟨X.sb,0,none⟩)):=(Has.kept (HD.out.c 0) hk (fun hf=>(HNF.out _ hf).2 rfl)).cell 2;obtain⟨v1,v2⟩:=vJ rfl hn2;have HST:=ah hst;have HG:=ah hg;have HK:=ah hk;have dV:=ah hn2;clear hst hg hk hn2))
 clear z2 q u1 u2 v1 v2 hW0;have hs1:Step w X M W0.drew X M:=⟨HD.out,fun _ h=> .inl h,Kept.up xg.out,rfl⟩;have hs2:Step w X M w2 {X with FS:=uG} {M with st:=aP M.st x}:=hs1.trans (dJ.setSt HD.out HST.out HG.out HK.out);have HS2:=ah hs2;clear hs1 hs2 HST HG HK HD HNF;have hb2:dG {X with FS:=uG} M.lg (c+1):=dG.mono ⟨HB.out.n,HB.out.f,HB.out.l,HB.out.hd⟩ (by omega);by_cases hE:bn M.st x=0;rotate_left
 ·have hfin:WritePost w X M c x (.returned (.int .i64 (bn M.st x))) w2:=by
   have hw:writeM M x=M:=if_neg hE;have hs:=HS2.out;have e1:aP M.st x=M.st:=by unfold aP;rw[if_pos hE]
   rw[e1]at hs;refine⟨rfl,{X with FS:=uG},?_,?_⟩
   ·rw[hw];exact hs
   ·rw[hw];exact hb2
  have HF:=ah hfin;obtain⟨z,hz⟩:∃z,bn M.st x=z:=⟨_,rfl⟩;rw[hz]at hE HF⊢;have hz2:(z !=0)=true:=by simpa using hE
  clear hfin hE hz hb2;go_wp2;go_ret;exact HF.out
 have hE0:=kS hE;have hs2:=HS2.out;have hx2:=iR.wJ HX.out hs2.k HO.out;have hput:=OH hx2 HU.out;rw[hE0]at hput;have hsz:=EX HU.out;have hm2:dJ w2 {X with FS:=uG} {M with st:=aP M.st x}:=hs2.at';have hw:writeM M x={M with st:=aP M.st x,lg:=M.lg.app (lK x)}:=if_pos hE;obtain⟨s,hs⟩:∃s,lK x=s:=⟨_,rfl⟩;rw[hs]at hput hsz hw;have q1:∀W,Kept aj w2 W->W.cell? ⟨X.mb,1,none⟩=some (.pointer (some ⟨X.gp,0,none⟩)):=fun W hW=>Has.cell ((hm2.quiet hW).c 0) 1;have iT:=ah hm2;have Hr:=ah hput;have kR:=ah hsz;have HW:=ah hw;have HB2:=ah hb2;have BK:=ah q1;clear hs2 hx2 hput hsz hm2 hw hs hb2 q1 hE0;go_wp2_with (refine wpList_load_row rfl 78 (.tmp 3) rfl w.heap.size rfl 78 _ (0,0) _ dV.out Tryz.underlying78 rfl (by kernel_rfl) ?_);refine Hr.out.mono ?_;rintro e w3 ⟨rfl,hk3⟩;have q1:=BK.out _ hk3;have pP:=iT.out.quiet hk3;have hb3:dG {X with FS:=uG} ({M with st:=aP M.st x}:MR).lg (c+1):=HB2.out;have hp3:sK w3 {X with FS:=uG} M.lg:=pP.c 1;have hcur:=dG.cur hb3 pP;have happ:=Pt.Y4 hp3 (dG.fits hb3 pP (by have:=HC.out;omega)) (Nat.zero_le _) (by have h1:=HB.out.f;have h2:=hcur.2.1;have h3:=HC.out;have h4:Wl.lastOf (Wl.cur M.lg.R M.lg.T)<=M.lg.R.length+M.lg.T.length:=h2;omega) (by have:=HB.out.l;have:=HC.out;omega) s (by have:=kR.out;omega);have xC:=ah pP;have ab7:=ah happ;have bu:=ah hk3;clear pP hb3 hp3 hcur happ hk3;go_wp2_with fail;clear q1;refine ab7.out.mono ?_;rintro e w4 ⟨rfl,F',A',c',hp4,hk4,hg4,hr4⟩;have hst:=dJ.Vz (X:={X with FS:=uG}) (M:={M with st:=aP M.st x}) (Ah:=X.gw) (F':=F') (A':=A') (c':=c') (n':=X.n) (m':=X.m) (L':=M.lg.app s) xC.out (w':=w4) hp4 hk4 hg4 (.inl rfl) hr4;have hfin:WritePost w X M c x (.returned (.int .i64 0)) w4:=by
  have hstep:=(HS2.out.quiet bu.out).trans hst;have e1:({{M with st:=aP M.st x}with lg:=M.lg.app s}:MR)=writeM M x:=HW.out.symm;rw[e1]at hstep;refine⟨by rw[hE],_,hstep,?_⟩
  ·rw[HW.out];have h1:=HB.out.n;have h2:=HB.out.f;have h3:=HB.out.l;refine⟨?_,?_,?_,HB.out.hd⟩
   ·show X.n+(X.ps++_).length<=_;rw[lA0,List.length_singleton];omega
   ·show M.lg.first+(M.lg.R.length+(M.lg.T++[84::Ops.bl s]).length:Nat)<=_;rw[lA0,List.length_singleton];omega
   ·show(M.lg.l++[s]).length<=_;rw[lA0,List.length_singleton];omega
 have HF:=ah hfin;clear hp4 hk4 hg4 hr4 hst hfin hE;go_wp2;go_ret;exact HF.out
end
end bW
end Go.Proofs.YtomccaocggplgaaGreat
namespace Go.Proofs.YtomccaocggplgaaGreat
open Go.RowKit Go.Shelf
namespace NV
open Vn Ops nM
abbrev KB:=Nat×Obj
theorem JB{w:World}{k:Nat}{o:Obj}(h:w.heap[k]? =some o):k<w.heap.size:=(Array.getElem?_eq_some_iff.1 h).1
theorem zB{F:Nat->Prop}{a b:World}{k:Nat}{o:Obj}(h:a.heap[k]? =some o)(hk:Kept F a b)(hf:¬F k):b.heap[k]? =some o:=(hk.block k (JB h) hf).trans h
def WS(N:Nat)(w:World)(g:Nat)(bs:List UInt8)(keep:List KB):Prop:=
 N<=w.heap.size/\∃F,nN w g F bs/\(∀k,F k->N<=k)/\∀x∈keep,¬F x.1/\w.heap[x.1]? =some x.2
section
variable{N g:Nat}{w w':World}{bs:List UInt8}{keep:List KB}
theorem WS.alloc(h:WS N w g bs keep)(o:Obj):WS N (w.alloc o) g bs keep:=by obtain⟨h0,F,h1,h2,h3⟩:=h;exact⟨by simp;omega,F,h1.kept ((Kept.refl aj w).alloc o) (uQ F),h2,fun x hx=>⟨(h3 x hx).1,zB (h3 x hx).2 ((Kept.refl aj w).alloc o) (fun z=>z)⟩⟩
theorem WS.add(h:WS N w g bs keep)(o:Obj):WS N (w.alloc o) g bs ((w.heap.size,o)::keep):=by
 obtain⟨h0,F,h1,h2,h3⟩:=h;refine⟨by simp;omega,F,h1.kept ((Kept.refl aj w).alloc _) (uQ F),h2,fun x hx=> ?_⟩;rcases List.mem_cons.1 hx with rfl|hx
 ·exact⟨fun hF=>by have:=h1.lt _ hF;simp at this,heap_alloc_new w o⟩
 ·exact⟨(h3 x hx).1,zB (h3 x hx).2 ((Kept.refl aj w).alloc _) (fun z=>z)⟩
theorem WS.tail{x:KB}(h:WS N w g bs (x::keep)):WS N w g bs keep:=by obtain⟨h0,F,h1,h2,h3⟩:=h;exact⟨h0,F,h1,h2,fun y hy=>h3 y (List.mem_cons_of_mem _ hy)⟩
theorem WS.UN{x y:KB}(h:WS N w g bs (x::y::keep)):WS N w g bs (y::keep):=h.tail
theorem WS.has{x:KB}(h:WS N w g bs keep)(hx:x∈keep):w.heap[x.1]? =some x.2:=by obtain⟨h0,F,h1,h2,h3⟩:=h;exact(h3 x hx).2
theorem WS.kept{G:Nat->Prop}(h:WS N w g bs keep)(hk:Kept aj w w'):WS N w' g bs keep:=by obtain⟨h0,F,h1,h2,h3⟩:=h;exact⟨Nat.le_trans h0 hk.size,F,h1.kept hk (uQ F),h2,fun x hx=>⟨(h3 x hx).1,zB (h3 x hx).2 hk (fun y=>y)⟩⟩
theorem WS.iterAt{k p q:Nat}{s:ByteArray}(h:WS N w g bs ((k,.stringIter s p)::keep))(hd:∀x∈keep,x.1≠k):WS N (w.iterAt k s q) g bs ((k,.stringIter s q)::keep):=by
 obtain⟨h0,F,h1,h2,h3⟩:=h;have hk:=h3 (k,.stringIter s p) (List.mem_cons_self ..);refine⟨by rw[Lib.iterAt_size];exact h0,F,h1.kept (G:=fun j=>j=k) ⟨rfl,rfl,rfl,by rw[Lib.iterAt_size];exact Nat.le_refl _,fun i _ hi=>Lib.iterAt_other w k i s q hi⟩ (fun j hj e=>hk.1 (e▸hj)),h2,fun x hx=> ?_⟩;rcases List.mem_cons.1 hx with rfl|hx
 ·exact⟨hk.1,Lib.iterAt_heap w k s p q hk.2⟩
 ·have h4:=h3 x (List.mem_cons_of_mem _ hx);exact⟨h4.1,(Lib.iterAt_other w k x.1 s q (hd x hx)).trans h4.2⟩
def uU(N:Nat)(w:World)(g:Nat)(bs:List UInt8)(keep:List KB)(e:Ending)(w':World):Prop:=e=.returned (.pointer (some ⟨g,0,none⟩))/\WS N w' g bs keep/\Below N w w'
theorem WS.step{f:FuncId}{args:Array Value}{bs':List UInt8}(h:WS N w g bs keep)
  (hc:∀F,nN w g F bs->Calls Tryz.prog f args w (Wrote w g F bs')):Calls Tryz.prog f args w (uU N w g bs' keep):=by
 obtain⟨h0,F,h1,h2,h3⟩:=h;refine(hc F h1).mono ?_;rintro e w' ⟨he,F',g1,g2,g3⟩;refine⟨he,⟨Nat.le_trans h0 g3.size,F',g1,fun k hk=> ?_,fun x hx=>⟨fun hF=> ?_,zB (h3 x hx).2 g3 (h3 x hx).1⟩⟩,g3.below h0 h2⟩
 ·rcases g2 k hk with y|y
  ·exact h2 k y
  ·omega
 ·rcases g2 x.1 hF with y|y
  ·exact(h3 x hx).1 y
  ·have:=JB (h3 x hx).2;omega
theorem iI(h:WS N w g bs keep)(n:Nat)(hn:n<=9223372036854775807)(hlen:bs.length+9<=140737488355328):
  Calls Tryz.prog 113 #[.pointer (some ⟨g,0,none⟩),.int .i64 n] w (uU N w g (bs++put n) keep):=h.step fun F hF=>Oi w g F bs n hn hF hlen
theorem yD(h:WS N w g bs keep)(n:Nat)(hn:n<18446744073709551616)(hlen:bs.length+9<=140737488355328):
  Calls Tryz.prog 117 #[.pointer (some ⟨g,0,none⟩),.int .u64 n] w (uU N w g (bs++put n) keep):=h.step fun F hF=>Oj w g F bs n hn hF hlen
theorem pJ(h:WS N w g bs keep)(s:ByteArray)(hlen:bs.length+9+s.size<=140737488355328):
  Calls Tryz.prog 115 #[.pointer (some ⟨g,0,none⟩),.string s] w (uU N w g (bs++dR s) keep):=h.step fun F hF=>Lh w g F bs s hF hlen
theorem OC(h:WS N w g bs keep)(b:Bool)(hlen:bs.length+9<=140737488355328):
  Calls Tryz.prog 237 #[.pointer (some ⟨g,0,none⟩),.bool b] w (uU N w g (bs++AO b) keep):=h.step fun F hF=>Lj w g F bs b hF (by omega)
theorem rV(w:World)(keep:List KB)(hk:∀x∈keep,w.heap[x.1]? =some x.2):
  Calls Tryz.prog 112 #[] w fun e w'=>∃g,e=.returned (.pointer (some ⟨g,0,none⟩))/\WS w.heap.size w' g [] keep/\Kept aj w w':=by
 refine(CB w).mono ?_;rintro e w' ⟨he,h1,h2⟩;exact⟨w.heap.size,he,⟨h2.size,_,h1,fun k hk=>by rw[hk];exact Nat.le_refl _,fun x hx=>⟨fun e=>by have:=JB (hk x hx);omega,zB (hk x hx) h2 (fun y=>y)⟩⟩,h2⟩
theorem pK(h:WS N w g bs keep)(h0:bs≠[]):
  Calls Tryz.prog 118 #[.pointer (some ⟨g,0,none⟩)] w fun e w'=>e=.returned (.tuple #[.string (bI bs),.int .i64 0])/\Below N w w':=by
 obtain⟨hN,F,h1,h2,h3⟩:=h;refine(yT w g F bs h1 h0).mono ?_;rintro e w' ⟨he,hk⟩;exact⟨he,hk.below hN h2⟩
theorem behind{a b:World}(h:Kept aj w a)(hb:Below N a b)(hN:w.heap.size<=N):Kept aj w b:=
 h.trans (G:=fun k=>N<=k) (Kept.of_below hb fun k _ hf=>by omega) fun i hi=> .inr (by omega)
end
end NV
namespace gu
open aJ Ops yt Vn NV
def qy(N:Nat)(w:World)(g:Nat)(bs:List UInt8)(keep:List KB)(e:Ending)(w':World):Prop:=e=.returned (.tuple #[])/\WS N w' g bs keep/\Below N w w'
section
variable{N:Nat}{w w0:World}{g:Nat}{bs:List UInt8}{keep:List KB}{x:bD}
theorem jB(h:WS N w g bs keep)(o:Obj):Below N w (w.alloc o):=(Below.refl N w).alloc h.1 o
structure Room(N:Nat)(w0 w:World)(bs:List UInt8)(x:bD):Prop where
 x:jd w0 x
 k:Kept aj w0 w
 n:w0.heap.size<=N
 len:bs.length<=100000
theorem Za(c:Nat)(hc:isNum c=true)(h:WS N w g bs keep)(hr:Room N w0 w bs x)(hw:dD x c=0):Calls Tryz.prog 251 #[.pointer (some ⟨g,0,none⟩),iE x,.int .i32 c] w (qy N w g (bs++gX x c) keep):=by
 have hE:gX x c=put (sN x c).toNat:=by unfold gX;rw[if_pos hc]
 rw[hE];obtain⟨W0,hW0⟩:∃W0,w.alloc (.cells (aI x).toArray 45)=W0:=⟨_,rfl⟩;have hs0:WS N W0 g bs ((w.heap.size,.cells (aI x).toArray 45)::keep):=by rw[<-hW0];exact h.add _
 have hb0:Below N w W0:=by rw[<-hW0];exact jB h _
 have hk0:Kept aj w W0:=by rw[<-hW0];(repeat'(first|(with_reducible first|exact ak|apply au|apply ay|apply aA|apply aB)|(right;simp;done)))
 have hn0:Has W0 w.heap.size 45 (aI x).toArray:=hs0.has (List.mem_cons_self ..);have hx0:=hr.x.kept (hr.k.then hk0);have hlen:=hr.len;obtain⟨⟨t1,t2⟩,⟨t3,t4⟩,t5⟩:=hr.x.t;unfold aW at t2 t4;have hnum:=OB W0 w.heap.size c hc;have q:W0.cell? ⟨w.heap.size,numAt c,none⟩=some (.int .i64 (sN x c)):=by have h:c=101\/c=115\/c=114\/c=110\/c=109\/c=112:=of_decide_eq_true hc;rcases h with rfl|rfl|rfl|rfl|rfl|rfl<;>exact hn0.cell _
 have hn:0<=sN x c/\sN x c<=1073741824:=by
  unfold dD at hw;rw[if_pos hc]at hw;unfold Hl at hw;by_cases hr:sN x c<0\/1073741824<sN x c
  ·rw[if_pos hr]at hw;cases hw
  ·omega
 obtain⟨n,hn2⟩:∃n:Nat,sN x c=n:=⟨(sN x c).toNat,by omega⟩;obtain⟨a,ha⟩:∃a,numAt c=a:=⟨_,rfl⟩;rw[hn2,ha]at q;rw[ha]at hnum;rw[hn2,Int.toNat_natCast];rw[hn2]at hn;have hcall:=iI hs0 n (by omega) (by omega);have HN:=ah hnum;have HC:=ah hcall;have HB:=ah hb0;clear hn2 ha hn0 hc hk0 hnum hcall hs0 hx0 h hr hw hlen t1 t2 t3 t4 t5 hE hn hb0;go_enter Tryz.func251,Tryz.ntmps251;go_wp2_with fail;clear hW0;refine HN.out.mono ?_;rintro e w2 ⟨rfl,rfl⟩;go_wp2_with fail;refine HC.out.mono ?_;rintro e w3 ⟨rfl,hs3,hb3⟩;have jF:=ah hs3.tail;have HB3:=ah (HB.out.trans hb3);clear hs3 hb3;go_wp2;exact bodyPost_ret (v:=.tuple #[]) (by simp[results,Tryz.results251,go_sem]) rfl ⟨rfl,jF.out,HB3.out⟩
theorem Zb(h:WS N w g bs keep)(hr:Room N w0 w bs x)(hw:dD x 120=0):Calls Tryz.prog 251 #[.pointer (some ⟨g,0,none⟩),iE x,.int .i32 ((120:Nat):Int)] w (qy N w g (bs++gX x 120) keep):=by
 have hE:gX x 120=put x.e.toNat:=rfl;rw[hE];obtain⟨W0,hW0⟩:∃W0,w.alloc (.cells (aI x).toArray 45)=W0:=⟨_,rfl⟩;have hs0:WS N W0 g bs ((w.heap.size,.cells (aI x).toArray 45)::keep):=by rw[<-hW0];exact h.add _
 have hb0:Below N w W0:=by rw[<-hW0];exact jB h _
 have hk0:Kept aj w W0:=by rw[<-hW0];(repeat'(first|(with_reducible first|exact ak|apply au|apply ay|apply aA|apply aB)|(right;simp;done)))
 have hn0:Has W0 w.heap.size 45 (aI x).toArray:=hs0.has (List.mem_cons_self ..);have hx0:=hr.x.kept (hr.k.then hk0);have hlen:=hr.len;obtain⟨⟨t1,t2⟩,⟨t3,t4⟩,t5⟩:=hr.x.t;unfold aW at t2 t4;have hnum:=iV W0 w.heap.size 120 (by decide) (by decide);have HN:=ah hnum;have HB:=ah hb0;have q:W0.cell? ⟨w.heap.size,10,none⟩=some (.int .i64 x.e):=hn0.cell 10;have hn:0<=x.e/\x.e<=21:=by
  have hw2:(if x.e<0\/21<x.e then (1:Int)else 0)=0:=hw;by_cases hr:x.e<0\/21<x.e
  ·rw[if_pos hr]at hw2;cases hw2
  ·omega
 obtain⟨n,hn2⟩:∃n:Nat,x.e=n:=⟨x.e.toNat,by omega⟩;rw[hn2]at q hn⊢;rw[Int.toNat_natCast];have hcall:=iI hs0 n (by omega) (by omega);have HC:=ah hcall;clear hn2 hn hcall;clear hn0 hk0 hnum hs0 hx0 h hr hw hlen t1 t2 t3 t4 t5 hE hb0;go_enter Tryz.func251,Tryz.ntmps251;go_wp2_with fail;clear hW0;refine HN.out.mono ?_;rintro e w2 ⟨rfl,rfl⟩;go_wp2_with fail;refine HC.out.mono ?_;rintro e w3 ⟨rfl,hs3,hb3⟩;have jF:=ah hs3.tail;have HB3:=ah (HB.out.trans hb3);clear hs3 hb3;go_wp2;exact bodyPost_ret (v:=.tuple #[]) (by simp[results,Tryz.results251,go_sem]) rfl ⟨rfl,jF.out,HB3.out⟩
theorem ab8(h:WS N w g bs keep)(hr:Room N w0 w bs x)(hw:dD x 97=0):Calls Tryz.prog 251 #[.pointer (some ⟨g,0,none⟩),iE x,.int .i32 ((97:Nat):Int)] w (qy N w g (bs++gX x 97) keep):=by
 have hE:gX x 97=put x.at'.toNat:=rfl;rw[hE];obtain⟨W0,hW0⟩:∃W0,w.alloc (.cells (aI x).toArray 45)=W0:=⟨_,rfl⟩;have hs0:WS N W0 g bs ((w.heap.size,.cells (aI x).toArray 45)::keep):=by rw[<-hW0];exact h.add _
 have hb0:Below N w W0:=by rw[<-hW0];exact jB h _
 have hk0:Kept aj w W0:=by rw[<-hW0];(repeat'(first|(with_reducible first|exact ak|apply au|apply ay|apply aA|apply aB)|(right;simp;done)))
 have hn0:Has W0 w.heap.size 45 (aI x).toArray:=hs0.has (List.mem_cons_self ..);have hx0:=hr.x.kept (hr.k.then hk0);have hlen:=hr.len;obtain⟨⟨t1,t2⟩,⟨t3,t4⟩,t5⟩:=hr.x.t;unfold aW at t2 t4;have hnum:=iV W0 w.heap.size 97 (by decide) (by decide);have HN:=ah hnum;have HB:=ah hb0;have q:W0.cell? ⟨w.heap.size,5,none⟩=some (.int .u64 x.at'):=hn0.cell 5;obtain⟨n,hn2⟩:∃n:Nat,x.at'=n:=⟨x.at'.toNat,by omega⟩;rw[hn2]at q t1 t2⊢;rw[Int.toNat_natCast];have hcall:=yD hs0 n (by omega) (by omega);have HC:=ah hcall;clear hn2 hcall;clear hn0 hk0 hnum hs0 hx0 h hr hw hlen t1 t2 t3 t4 t5 hE hb0;go_enter Tryz.func251,Tryz.ntmps251;go_wp2_with fail;clear hW0;refine HN.out.mono ?_;rintro e w2 ⟨rfl,rfl⟩;go_wp2_with fail;refine HC.out.mono ?_;rintro e w3 ⟨rfl,hs3,hb3⟩;have jF:=ah hs3.tail;have HB3:=ah (HB.out.trans hb3);clear hs3 hb3;go_wp2;exact bodyPost_ret (v:=.tuple #[]) (by simp[results,Tryz.results251,go_sem]) rfl ⟨rfl,jF.out,HB3.out⟩
theorem Zc(h:WS N w g bs keep)(hr:Room N w0 w bs x)(hw:dD x 108=0):Calls Tryz.prog 251 #[.pointer (some ⟨g,0,none⟩),iE x,.int .i32 ((108:Nat):Int)] w (qy N w g (bs++gX x 108) keep):=by
 have hE:gX x 108=put x.last.toNat:=rfl;rw[hE];obtain⟨W0,hW0⟩:∃W0,w.alloc (.cells (aI x).toArray 45)=W0:=⟨_,rfl⟩;have hs0:WS N W0 g bs ((w.heap.size,.cells (aI x).toArray 45)::keep):=by rw[<-hW0];exact h.add _
 have hb0:Below N w W0:=by rw[<-hW0];exact jB h _
 have hk0:Kept aj w W0:=by rw[<-hW0];(repeat'(first|(with_reducible first|exact ak|apply au|apply ay|apply aA|apply aB)|(right;simp;done)))
 have hn0:Has W0 w.heap.size 45 (aI x).toArray:=hs0.has (List.mem_cons_self ..);have hx0:=hr.x.kept (hr.k.then hk0);have hlen:=hr.len;obtain⟨⟨t1,t2⟩,⟨t3,t4⟩,t5⟩:=hr.x.t;unfold aW at t2 t4;have hnum:=iV W0 w.heap.size 108 (by decide) (by decide);have HN:=ah hnum;have HB:=ah hb0;have q:W0.cell? ⟨w.heap.size,6,none⟩=some (.int .u64 x.last):=hn0.cell 6;obtain⟨n,hn2⟩:∃n:Nat,x.last=n:=⟨x.last.toNat,by omega⟩;rw[hn2]at q t3 t4⊢;rw[Int.toNat_natCast];have hcall:=yD hs0 n (by omega) (by omega);have HC:=ah hcall;clear hn2 hcall;clear hn0 hk0 hnum hs0 hx0 h hr hw hlen t1 t2 t3 t4 t5 hE hb0;go_enter Tryz.func251,Tryz.ntmps251;go_wp2_with fail;clear hW0;refine HN.out.mono ?_;rintro e w2 ⟨rfl,rfl⟩;go_wp2_with fail;refine HC.out.mono ?_;rintro e w3 ⟨rfl,hs3,hb3⟩;have jF:=ah hs3.tail;have HB3:=ah (HB.out.trans hb3);clear hs3 hb3;go_wp2;exact bodyPost_ret (v:=.tuple #[]) (by simp[results,Tryz.results251,go_sem]) rfl ⟨rfl,jF.out,HB3.out⟩
theorem Zd(h:WS N w g bs keep)(hr:Room N w0 w bs x)(hw:dD x 102=0):Calls Tryz.prog 251 #[.pointer (some ⟨g,0,none⟩),iE x,.int .i32 ((102:Nat):Int)] w (qy N w g (bs++gX x 102) keep):=by
 have hE:gX x 102=AO x.fl:=rfl;rw[hE];obtain⟨W0,hW0⟩:∃W0,w.alloc (.cells (aI x).toArray 45)=W0:=⟨_,rfl⟩;have hs0:WS N W0 g bs ((w.heap.size,.cells (aI x).toArray 45)::keep):=by rw[<-hW0];exact h.add _
 have hb0:Below N w W0:=by rw[<-hW0];exact jB h _
 have hk0:Kept aj w W0:=by rw[<-hW0];(repeat'(first|(with_reducible first|exact ak|apply au|apply ay|apply aA|apply aB)|(right;simp;done)))
 have hn0:Has W0 w.heap.size 45 (aI x).toArray:=hs0.has (List.mem_cons_self ..);have hx0:=hr.x.kept (hr.k.then hk0);have hlen:=hr.len;obtain⟨⟨t1,t2⟩,⟨t3,t4⟩,t5⟩:=hr.x.t;unfold aW at t2 t4;have hnum:=iV W0 w.heap.size 102 (by decide) (by decide);have HN:=ah hnum;have HB:=ah hb0;have q:W0.cell? ⟨w.heap.size,4,none⟩=some (.bool x.fl):=hn0.cell 4;obtain⟨b,hb⟩:∃b,x.fl=b:=⟨_,rfl⟩;rw[hb]at q⊢;have hcall:=OC hs0 b (by omega);have HC:=ah hcall;clear hcall hb;clear hn0 hk0 hnum hs0 hx0 h hr hw hlen t1 t2 t3 t4 t5 hE hb0;go_enter Tryz.func251,Tryz.ntmps251;go_wp2_with fail;clear hW0;refine HN.out.mono ?_;rintro e w2 ⟨rfl,rfl⟩;go_wp2_with fail;refine HC.out.mono ?_;rintro e w3 ⟨rfl,hs3,hb3⟩;have jF:=ah hs3.tail;have HB3:=ah (HB.out.trans hb3);clear hs3 hb3;go_wp2;exact bodyPost_ret (v:=.tuple #[]) (by simp[results,Tryz.results251,go_sem]) rfl ⟨rfl,jF.out,HB3.out⟩
theorem Ze(h:WS N w g bs keep)(hr:Room N w0 w bs x)(hw:dD x 107=0):Calls Tryz.prog 251 #[.pointer (some ⟨g,0,none⟩),iE x,.int .i32 ((107:Nat):Int)] w (qy N w g (bs++gX x 107) keep):=by
 have hE:gX x 107=dR x.key:=rfl;rw[hE];obtain⟨W0,hW0⟩:∃W0,w.alloc (.cells (aI x).toArray 45)=W0:=⟨_,rfl⟩;have hs0:WS N W0 g bs ((w.heap.size,.cells (aI x).toArray 45)::keep):=by rw[<-hW0];exact h.add _
 have hb0:Below N w W0:=by rw[<-hW0];exact jB h _
 have hk0:Kept aj w W0:=by rw[<-hW0];(repeat'(first|(with_reducible first|exact ak|apply au|apply ay|apply aA|apply aB)|(right;simp;done)))
 have hn0:Has W0 w.heap.size 45 (aI x).toArray:=hs0.has (List.mem_cons_self ..);have hx0:=hr.x.kept (hr.k.then hk0);have hlen:=hr.len;obtain⟨⟨t1,t2⟩,⟨t3,t4⟩,t5⟩:=hr.x.t;unfold aW at t2 t4;have hnum:=iV W0 w.heap.size 107 (by decide) (by decide);have HN:=ah hnum;have HB:=ah hb0;have q:W0.cell? ⟨w.heap.size,11,none⟩=some (.string x.key):=hn0.cell 11;have hn:x.key.size<=8:=by
  have hw2:(if 8<x.key.size then (3:Int)else 0)=0:=hw;by_cases hr:8<x.key.size
  ·rw[if_pos hr]at hw2;cases hw2
  ·omega
 obtain⟨s,hs⟩:∃s,x.key=s:=⟨_,rfl⟩;rw[hs]at q hn⊢;have hcall:=pJ hs0 s (by omega);have HC:=ah hcall;clear hcall hs hn;clear hn0 hk0 hnum hs0 hx0 h hr hw hlen t1 t2 t3 t4 t5 hE hb0;go_enter Tryz.func251,Tryz.ntmps251;go_wp2_with fail;clear hW0;refine HN.out.mono ?_;rintro e w2 ⟨rfl,rfl⟩;go_wp2_with fail;refine HC.out.mono ?_;rintro e w3 ⟨rfl,hs3,hb3⟩;have jF:=ah hs3.tail;have HB3:=ah (HB.out.trans hb3);clear hs3 hb3;go_wp2;go_end0;exact⟨rfl,jF.out,HB3.out⟩
theorem Zf(h:WS N w g bs keep)(hr:Room N w0 w bs x)(hw:dD x 116=0):Calls Tryz.prog 251 #[.pointer (some ⟨g,0,none⟩),iE x,.int .i32 ((116:Nat):Int)] w (qy N w g (bs++gX x 116) keep):=by
 have hE:gX x 116=dR x.to:=rfl;rw[hE];obtain⟨W0,hW0⟩:∃W0,w.alloc (.cells (aI x).toArray 45)=W0:=⟨_,rfl⟩;have hs0:WS N W0 g bs ((w.heap.size,.cells (aI x).toArray 45)::keep):=by rw[<-hW0];exact h.add _
 have hb0:Below N w W0:=by rw[<-hW0];exact jB h _
 have hk0:Kept aj w W0:=by rw[<-hW0];(repeat'(first|(with_reducible first|exact ak|apply au|apply ay|apply aA|apply aB)|(right;simp;done)))
 have hn0:Has W0 w.heap.size 45 (aI x).toArray:=hs0.has (List.mem_cons_self ..);have hx0:=hr.x.kept (hr.k.then hk0);have hlen:=hr.len;obtain⟨⟨t1,t2⟩,⟨t3,t4⟩,t5⟩:=hr.x.t;unfold aW at t2 t4;have hnum:=iV W0 w.heap.size 116 (by decide) (by decide);have HN:=ah hnum;have HB:=ah hb0;have q:W0.cell? ⟨w.heap.size,12,none⟩=some (.string x.to):=hn0.cell 12;have hn:x.to.size<=8:=by
  have hw2:(if 8<x.to.size then (3:Int)else 0)=0:=hw;by_cases hr:8<x.to.size
  ·rw[if_pos hr]at hw2;cases hw2
  ·omega
 obtain⟨s,hs⟩:∃s,x.to=s:=⟨_,rfl⟩;rw[hs]at q hn⊢;have hcall:=pJ hs0 s (by omega);have HC:=ah hcall;clear hcall hs hn;clear hn0 hk0 hnum hs0 hx0 h hr hw hlen t1 t2 t3 t4 t5 hE hb0;go_enter Tryz.func251,Tryz.ntmps251;go_wp2_with fail;clear hW0;refine HN.out.mono ?_;rintro e w2 ⟨rfl,rfl⟩;go_wp2_with fail;refine HC.out.mono ?_;rintro e w3 ⟨rfl,hs3,hb3⟩;have jF:=ah hs3.tail;have HB3:=ah (HB.out.trans hb3);clear hs3 hb3;go_wp2;go_end0;exact⟨rfl,jF.out,HB3.out⟩
theorem ab9(h:WS N w g bs keep)(hr:Room N w0 w bs x)(hw:dD x 67=0):Calls Tryz.prog 251 #[.pointer (some ⟨g,0,none⟩),iE x,.int .i32 ((67:Nat):Int)] w (qy N w g (bs++gX x 67) keep):=by
 have hE:gX x 67=dR (kV x.zL x.ms x.BH):=rfl;rw[hE];obtain⟨W0,hW0⟩:∃W0,w.alloc (.cells (aI x).toArray 45)=W0:=⟨_,rfl⟩;have hs0:WS N W0 g bs ((w.heap.size,.cells (aI x).toArray 45)::keep):=by rw[<-hW0];exact h.add _
 have hb0:Below N w W0:=by rw[<-hW0];exact jB h _
 have hk0:Kept aj w W0:=by rw[<-hW0];(repeat'(first|(with_reducible first|exact ak|apply au|apply ay|apply aA|apply aB)|(right;simp;done)))
 have hn0:Has W0 w.heap.size 45 (aI x).toArray:=hs0.has (List.mem_cons_self ..);have hx0:=hr.x.kept (hr.k.then hk0);have hlen:=hr.len;obtain⟨⟨t1,t2⟩,⟨t3,t4⟩,t5⟩:=hr.x.t;unfold aW at t2 t4;have hnum:=iV W0 w.heap.size 67 (by decide) (by decide);have HN:=ah hnum;have HB:=ah hb0;have q1:W0.cell? ⟨w.heap.size,13,none⟩=some (.int .i64 x.zL):=hn0.cell 13;have q2:W0.cell? ⟨w.heap.size,14,none⟩=some (.slice x.mA x.ms.length x.mc):=hn0.cell 14;have q3:W0.cell? ⟨w.heap.size,15,none⟩=some (.int .u64 x.BH):=hn0.cell 15;have hcall:=OE W0 x.zL x.BH x.mA x.mc x.ms hx0.m hx0.mc hx0.ml t5;have hsz:=uo (ep:=x.zL) (ms:=x.ms) t5;obtain⟨s,hs⟩:∃s,kV x.zL x.ms x.BH=s:=⟨_,rfl⟩;obtain⟨z,hz⟩:∃z,aJ.chk x.zL x.ms=z:=⟨_,rfl⟩;rw[hs]at hcall hsz⊢;rw[hz]at hcall;have HC:=ah hcall;have zC:=ah hs0;have kR:=ah (And.intro hsz hlen);clear hcall hs hz hsz;clear hn0 hk0 hnum hs0 hx0 h hr hw hlen t1 t2 t3 t4 t5 hE hb0;go_enter Tryz.func251,Tryz.ntmps251;go_wp2_with fail;clear hW0;refine HN.out.mono ?_;rintro e w2 ⟨rfl,rfl⟩;go_wp2_with fail;refine HC.out.mono ?_;rintro e w3 ⟨rfl,hk3⟩;have hs3:=WS.kept (G:=aj) zC.out hk3;have hb3:Below N w w3:=HB.out.trans (hk3.below zC.out.1 (fun _ z=>z.elim));have jF:=ah hs3;have HB3:=ah hb3;clear hs3 hb3 hk3;go_wp2_with fail;refine(pJ jF.out s (by have:=kR.out;omega)).mono ?_;rintro e w4 ⟨rfl,hs4,hb4⟩;have rH:=ah hs4.tail;have HB4:=ah (HB3.out.trans hb4);clear hs4 hb4;go_wp2;go_end0;exact⟨rfl,rH.out,HB4.out⟩
theorem acd(h:WS N w g bs keep)(hr:Room N w0 w bs x)(hw:dD x 66=0):Calls Tryz.prog 251 #[.pointer (some ⟨g,0,none⟩),iE x,.int .i32 ((66:Nat):Int)] w (qy N w g (bs++gX x 66) keep):=by
 have hE:gX x 66=dR (Ee (tX x)):=rfl;rw[hE];obtain⟨W0,hW0⟩:∃W0,w.alloc (.cells (aI x).toArray 45)=W0:=⟨_,rfl⟩;have hs0:WS N W0 g bs ((w.heap.size,.cells (aI x).toArray 45)::keep):=by rw[<-hW0];exact h.add _
 have hb0:Below N w W0:=by rw[<-hW0];exact jB h _
 have hk0:Kept aj w W0:=by rw[<-hW0];(repeat'(first|(with_reducible first|exact ak|apply au|apply ay|apply aA|apply aB)|(right;simp;done)))
 have hn0:Has W0 w.heap.size 45 (aI x).toArray:=hs0.has (List.mem_cons_self ..);have hx0:=hr.x.kept (hr.k.then hk0);have hlen:=hr.len;obtain⟨⟨t1,t2⟩,⟨t3,t4⟩,t5⟩:=hr.x.t;unfold aW at t2 t4;have hnum:=iV W0 w.heap.size 66 (by decide) (by decide);have HN:=ah hnum;have HB:=ah hb0;have q1:W0.cell? ⟨w.heap.size,16,none⟩=some (.int .i64 x.ji):=hn0.cell 16;have q2:W0.cell? ⟨w.heap.size,17,none⟩=some (.int .i64 x.gK):=hn0.cell 17;have q3:W0.cell? ⟨w.heap.size,18,none⟩=some (.slice x.oA x.ops.length x.oc):=hn0.cell 18;have hcall:=OD W0 (tX x) x.oA x.oc hx0.o;have hsz:=Ho (tX x);have hpb:yX (tX x)=Ee (tX x):=rfl;rw[hpb]at hcall;obtain⟨s,hs⟩:∃s,Ee (tX x)=s:=⟨_,rfl⟩;obtain⟨z,hz⟩:∃z,Ops.chk (tX x)=z:=⟨_,rfl⟩;rw[hs]at hcall hsz⊢;rw[hz]at hcall;dsimp only[Hg,tX]at hcall;have HC:=ah hcall;have zC:=ah hs0;have kR:=ah (And.intro hsz hlen);clear hcall hs hz hsz hpb;clear hn0 hk0 hnum hs0 hx0 h hr hw hlen t1 t2 t3 t4 t5 hE hb0;go_enter Tryz.func251,Tryz.ntmps251;go_wp2_with fail;clear hW0;refine HN.out.mono ?_;rintro e w2 ⟨rfl,rfl⟩;go_wp2_with fail;refine HC.out.mono ?_;rintro e w3 ⟨rfl,hk3⟩;have hs3:=WS.kept (G:=aj) zC.out hk3;have hb3:Below N w w3:=HB.out.trans (hk3.below zC.out.1 (fun _ z=>z.elim));have jF:=ah hs3;have HB3:=ah hb3;clear hs3 hb3 hk3;go_wp2_with fail;refine(pJ jF.out s (by have:=kR.out;omega)).mono ?_;rintro e w4 ⟨rfl,hs4,hb4⟩;have rH:=ah hs4.tail;have HB4:=ah (HB3.out.trans hb4);clear hs4 hb4;go_wp2;go_end0;exact⟨rfl,rH.out,HB4.out⟩
theorem Zg(c:Nat)(hl:c∈letters)(hn:c≠69/\c≠83/\c≠82)(h:WS N w g bs keep)(hr:Room N w0 w bs x)(hw:dD x c=0):Calls Tryz.prog 251 #[.pointer (some ⟨g,0,none⟩),iE x,.int .i32 c] w (qy N w g (bs++gX x c) keep):=by
 by_cases hc:isNum c=true
 ·exact Za c hc h hr hw
 ·have h2:¬(c=101\/c=115\/c=114\/c=110\/c=109\/c=112):=fun z=>hc (decide_eq_true z);have h1:c=67\/c=97\/c=102\/c=108\/c=66\/c=120\/c=107\/c=116:=by unfold letters at hl;simp only[List.mem_cons,List.not_mem_nil,or_false]at hl;omega
  rcases h1 with rfl|rfl|rfl|rfl|rfl|rfl|rfl|rfl
  ·exact ab9 h hr hw
  ·exact ab8 h hr hw
  ·exact Zd h hr hw
  ·exact Zc h hr hw
  ·exact acd h hr hw
  ·exact Zb h hr hw
  ·exact Ze h hr hw
  ·exact Zf h hr hw
