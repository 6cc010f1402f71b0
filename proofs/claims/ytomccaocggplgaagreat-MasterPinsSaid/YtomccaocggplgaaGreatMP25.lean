/- Part 26. -/
import Derived.Test.YtomccaocggplgaaGreatMP24
set_option linter.unusedSimpArgs false
set_option linter.unusedVariables false
set_option maxHeartbeats 32000000
set_option maxRecDepth 100000
namespace Go.Proofs.YtomccaocggplgaaGreat
open Go.RowKit
namespace bW
open aJ Vn Mst jQ IM kK gu
theorem Uf{w:World}{X:MX}{L:nR}(h:sK w X L):Pt.EV (fun j=>(aH.dataOf X.m X.ps (L.first+j)).size) (Wl.cur L.R L.T).length=L.size:=by unfold nR.size;congr 1;funext j;rw[(h.log.file j).2,<-Ops.bP,Ops.jq]
theorem Il{s:bQ}(hu:SU s)(pre:List aG)(hp:∀x∈pre,NU x):∀x∈pre++s.pins.map iD++jZ s++[eH s.hz]++dM (iW s),NU x:=by
 intro x hx;have z:(0:Int)<=0/\(0:Int)<=aW:=by decide
 simp only[List.mem_append,List.mem_map,List.mem_singleton]at hx;rcases hx with(((hx|⟨p,hp2,rfl⟩)|hx)|rfl)|hx
 ·exact hp x hx
 ·exact⟨z,hu.pin p hp2,z,z⟩
 ·unfold jZ at hx;split at hx
  ·cases hx
  ·rw[List.mem_singleton.1 hx];exact⟨z,z,z,z⟩
 ·exact⟨hu.hz,z,z,z⟩
 ·unfold dM at hx;obtain⟨a,_,rfl⟩:=List.mem_map.1 hx;exact⟨z,z,z,z⟩
theorem JE{w:World}{x:aG}(h1:x.ms=[])(h2:x.lg=[])(h3:x.b.ops=[]):iR w x:=by
 refine⟨?_,?_,?_,?_,?_,?_,?_⟩
 ·rw[h1];exact Src.nil _ _ _
 ·rw[h1];exact Nat.zero_le _
 ·rw[h1];exact Nat.zero_le _
 ·rw[h2];exact Src.nil _ _ _
 ·rw[h2];exact Nat.zero_le _
 ·rw[h2];exact Nat.zero_le _
 ·rw[h3];exact Src.nil _ _ _
theorem Zv{w:World}{s:bQ}{pre:List aG}(hok:pY s)(hp:yI w s pre):∀x∈pre++s.pins.map iD++jZ s++[eH s.hz]++dM (iW s),iR w x:=by
 intro x hx;simp only[List.mem_append,List.mem_map,List.mem_singleton]at hx;rcases hx with(((hx|⟨p,hp2,rfl⟩)|hx)|rfl)|hx
 ·rcases hp with⟨rfl,_⟩|⟨_,A,c,B,d,rfl,h1,h2⟩
  ·cases hx
  ·rw[List.mem_singleton.1 hx];exact⟨Src.bF h1,(gJ h1).1,hok.m,Src.bF h2,(gJ h2).1,hok.l,Src.nil _ _ _⟩
 ·exact JE rfl rfl rfl
 ·unfold jZ at hx;split at hx
  ·cases hx
  ·rw[List.mem_singleton.1 hx];exact JE rfl rfl rfl
 ·exact JE rfl rfl rfl
 ·unfold dM at hx;obtain⟨a,_,rfl⟩:=List.mem_map.1 hx;exact JE rfl rfl rfl
theorem af8{w:World}{s:bQ}{pre:List aG}(hu:SU s)(hp:yI w s pre):∀x∈pre,NU x:=by
 have z:(0:Int)<=0/\(0:Int)<=aW:=by decide
 rcases hp with⟨rfl,_⟩|⟨_,A,c,B,d,rfl,h1,h2⟩
 ·intro x hx;cases hx
 ·intro x hx;rw[List.mem_singleton.1 hx];exact⟨z,z,hu.fl,z⟩
theorem aeD{w:World}{s:bQ}{pre:List aG}(hp:yI w s pre):pre.length<=1:=by
 rcases hp with⟨rfl,_⟩|⟨_,A,c,B,d,rfl,h1,h2⟩
 ·exact Nat.zero_le _
 ·exact Nat.le_refl _
section
variable{w w':World}{X X0:MX}{M M0:MR}{c:Nat}
def Zw(w:World)(TX:List ByteArray)(e:Ending)(w':World):Prop:=∃A d,e=.returned (.slice A TX.length d)/\aF 9 1 w.heap.size w' A TX.length d (TX.map Value.string)/\Kept aj w w'
def adF(w:World)(s:bQ)(e:Ending)(w':World):Prop:=∃A d pre l,e=.returned (.slice A l.length d)/\kZ w s w' pre l A d/\l=pre++s.pins.map iD++jZ s++[eH s.hz]++dM (iW s)
theorem Qa(w:World)(s:bQ)(TX:List ByteArray)(hT:gG (mQ s)=TX)(A:Option Addr)(d:Nat)(pre l:List aG)(w0:World)(hs:kZ w0 s w pre l A d)(hl:l=pre++s.pins.map iD++jZ s++[eH s.hz]++dM (iW s))(hok:pY s)(hu:SU s)(hp:s.pins.length<=3):
  Calls Tryz.prog 63 #[.slice A l.length d] w (Zw w TX):=by
 have hlen:=Nl s pre (aeD hs.pre);have hE:=Zq hs.pre;rw[<-hl]at hE hlen;unfold Zw;rw[<-hT,<-hE];exact MI w A d _ (Src.bF hs.own) (by omega) (fun x hx=>⟨Zv hok hs.pre x (by rw[<-hl];exact hx),Il hu pre (af8 hu hs.pre) x (by rw[<-hl];exact hx)⟩)
theorem VJ(s:bQ):(gG (mQ s)).length<=s.pins.length+6:=by refine Nat.le_trans (JC _) ?_;unfold mQ;refine Nl s _ ?_;split<;>simp
theorem SI{s:bQ}(hu:SU s):∀t∈gG (mQ s),t.size<65536:=by
 intro t ht;unfold gG at ht;obtain⟨x,hx,rfl⟩:=List.mem_map.1 ht;have hm:=(List.mem_filter.1 hx).1;have z:(0:Int)<=0/\(0:Int)<=aW:=by decide
 have:=EX (Il hu (if 0<s.ep then [mZ s none 0 none 0]else []) (fun x hx=>by
  split at hx
  ·rw[List.mem_singleton.1 hx];exact⟨z,z,hu.fl,z⟩
  ·cases hx) x hm)
 omega
theorem aF.lower{e:TypeId}{size B B' n d:Nat}{w:World}{A:Option Addr}{xs:List Value}(h:aF e size B w A n d xs)(hB:B'<=B):aF e size B' w A n d xs:=⟨h.1,fun k hk=>Nat.le_trans hB (h.2 k hk)⟩
theorem Np{w3:World}{X3:MX}{L:nR}(TX:List ByteArray)(hT:gG (mQ M.st)=TX)(hst:Step w X M w3 X3 {M with lg:=L})(hlb:dG X3 L c)(hc:c<=4000)(hu:SU M.st)(hp3:M.st.pins.length<=3):
  ∀(W:World) (A:Option Addr) (d:Nat),Kept aj w3 W->aF 9 1 w3.heap.size W A TX.length d (TX.map Value.string)->
   Calls Tryz.prog 62 #[.pointer (some ⟨X.gp,0,none⟩),.slice A TX.length d] W fun e w'=>e=.returned (.int .i64 0)/\∃X',Step w X M w' X' {M with lg:=L.save TX}/\dG X' (L.save TX) (c+1):=fun W A d hW hr=>by
 subst hT;have hm:=hst.at'.quiet hW;have hlen:=VJ M.st
 have hsv:=Zu hm (c:=c) hlb (by omega) A d (gG (mQ M.st)) (Src.bF hr.1) (fun h0 ad e hf=>by obtain⟨g,cap,hv,_,hlt⟩:=hr.1.form h0;rw[e]at hv;injection hv with hv;injection hv with hv;have h1:=hst.at'.lt hf;have h2:=hr.2 g (by rw[e,hv];rfl);rw[hv]at h1;dsimp only at h1;omega) (SI hu) (by omega)
 rw[hst.gp]at hsv;refine hsv.mono ?_;rintro e w' ⟨he,X',h1,h2⟩;exact⟨he,X',(hst.quiet hW).trans h1,h2⟩
theorem Dv{w6:World}{X6:MX}{L:nR}(hst:Step w X M w6 X6 {M with lg:=L})(hL:mg M={M with lg:=L,out:=[]})(hlb:dG X6 L (c+1)):
  Ik w X M c (.returned (.slice X6.oA M.out.length X6.oc)) (w6.setCell ⟨X.mb,11,none⟩ (.slice none 0 0)):=by
 have hmb:=hst.mb;have hcl:=hst.ab1;have e0:(⟨X.mb,11,none⟩:Addr)=⟨X6.mb,11,none⟩:=by rw[hmb]
 rw[e0];have hrow:w6.ownsRow 0 237 2 (.slice X6.oA M.out.length X6.oc) M.out.length (vF M.out):=hst.at'.c 10;refine⟨X6.oA,X6.oc,rfl,aC (F:=fun k=>k=X6.mb) hrow ((Kept.refl _ w6).put (.inl rfl)) (fun g hg e=>absurd (hst.at'.ap 0 10 g e hg) (by decide)),fun k hk=>hst.g k ⟨10,hk⟩,{X6 with oA:=none,oc:=0},?_,?_,?_⟩
 ·rw[hL];exact hcl
 ·rw[hL];exact⟨hlb.n,hlb.f,hlb.l,hlb.hd⟩
 ·rw[hL];rintro k hk ⟨i,hi⟩;have h10:parts X6 {M with lg:=L} 10 k:=hk;rcases i with _|_|_|_|_|_|_|_|_|_|_|i
  ·exact absurd (hst.at'.ap 0 10 k hi h10) (by decide)
  ·exact absurd (hst.at'.ap 1 10 k hi h10) (by decide)
  ·exact absurd (hst.at'.ap 2 10 k hi h10) (by decide)
  ·exact absurd (hst.at'.ap 3 10 k hi h10) (by decide)
  ·exact absurd (hst.at'.ap 4 10 k hi h10) (by decide)
  ·exact absurd (hst.at'.ap 5 10 k hi h10) (by decide)
  ·exact absurd (hst.at'.ap 6 10 k hi h10) (by decide)
  ·exact absurd (hst.at'.ap 7 10 k hi h10) (by decide)
  ·exact absurd (hst.at'.ap 8 10 k hi h10) (by decide)
  ·exact absurd (hst.at'.ap 9 10 k hi h10) (by decide)
  ·simp[parts,Value.ownBlock]at hi
  ·exact hi
theorem yT(h:dJ w X M)(hb:dG X M.lg c)(hc:c<=4000)(hok:pY M.st)(hu:SU M.st)(hp3:M.st.pins.length<=3):
  Calls Tryz.prog 22 #[.pointer (some ⟨X.mb,0,none⟩)] w (Ik w X M c):=by
 have hp:sK w X M.lg:=h.c 1;have hfits:=dG.fits hb h (by omega);have adG:=aH.Gz hp.d (by have:=hfits.len;omega) (by have:=hfits.total;omega);have q0:∀W,Kept aj w W->W.cell? ⟨X.mb,0,none⟩=some (.pointer (some ⟨X.g,0,none⟩)):=fun W hW=>Has.cell ((h.quiet hW).c 0) 0;have adH:=fun W (hW:Kept aj w W)=>Zt (h.quiet hW) hb (by omega);have hsame:aH.total X.ps=0->M.lg.sync=M.lg:=fun h0=>by
  have hps:X.ps=Wl.jl M.lg.first M.lg.R M.lg.T:=hp.low.low.pcs hp.log;cases hT:M.lg.T with
  |nil=>unfold nR.sync;rw[hT];cases hl:M.lg;rw[hl]at hT;cases hT;rfl
  |cons t T=>
   rw[hps,hT]at h0;have:=Zs M.lg.first M.lg.R t T;omega
 have HP:=ah adG;have HQ0:=ah q0;have HSY:=ah adH;have JF:=ah hsame;have H:=ah h;have HB:=ah hb;have Ej:=ah hok;have HU:=ah hu;have BD:=ah hp3;have HC:=ah hc;clear hp hfits adG q0 adH hsame h hb hok hu hp3 hc;obtain⟨K,hK⟩:∃K,aH.total X.ps=K:=⟨_,rfl⟩;rw[hK]at HP JF;clear hK;have qa:=HQ0.out w (Kept.refl _ _);by_cases hK0:0<K
 ·go_enter Tryz.func22,Tryz.ntmps22;go_wp2_with fail;clear qa;refine HP.out.mono ?_;rintro e w2 ⟨rfl,hk2⟩;have qa:=HQ0.out _ hk2;have hsy:=HSY.out _ hk2;have HS2:=ah hsy;have aV:=ah hk2;clear hsy hk2;go_wp2_with fail;clear qa;refine HS2.out.mono ?_;rintro e w3 ⟨⟨kk,rfl⟩,X3,hst,hlb,-,-⟩;have hst3:=(Step.refl H.out aV.out).trans hst;have HST:=ah hst3;have jP:=ah hlb;clear hst hst3 hlb aV HS2;have pP:=HST.out.at';have q1:∀W,Kept aj w3 W->W.cell? ⟨X.mb,1,none⟩=some (.pointer (some ⟨X.gp,0,none⟩)):=fun W hW=>by have h1:W.cell? ⟨X3.mb,1,none⟩=some (.pointer (some ⟨X3.gp,0,none⟩)):=Has.cell ((pP.quiet hW).c 0) 1;rw[HST.out.mb,HST.out.gp]at h1;exact h1
  have q2:∀W,Kept aj w3 W->W.cell? ⟨X.mb,2,none⟩=some (.pointer (some ⟨X.sb,0,none⟩)):=fun W hW=>by have h1:W.cell? ⟨X3.mb,2,none⟩=some (.pointer (some ⟨X3.sb,0,none⟩)):=Has.cell ((pP.quiet hW).c 0) 2;rw[HST.out.mb,HST.out.sb]at h1;exact h1
  have hp3:sK w3 X3 M.lg.sync:=pP.c 1;have Io:dG X3 ({M with lg:=M.lg.sync}:MR).lg c:=jP.out;have hcur:=dG.cur Io pP;have hc4:=HC.out;obtain⟨TX,Qb⟩:∃TX,gG (mQ M.st)=TX:=⟨_,rfl⟩;have Nq:=ah Qb
  have hsize:=Pt.MV hp3 (dG.fits Io pP (by omega)) (by have h1:=hcur.1;have h2:=hcur.2.2;have h3:(Wl.cur M.lg.sync.R M.lg.sync.T).length<=1+12*c:=Nat.le_trans h1 h2;omega) (by have h1:M.lg.sync.first+(M.lg.sync.R.length+M.lg.sync.T.length:Nat)<=2+12*(c:Int):=jP.out.f;omega)
  rw[Uf hp3,HST.out.gp]at hsize;have JG:mg M={M with lg:=if 2048<M.lg.sync.size then M.lg.sync.save (gG (mQ M.st))else M.lg.sync,out:=[]}:=rfl;obtain⟨SZ,hSZ⟩:∃SZ,M.lg.sync.size=SZ:=⟨_,rfl⟩;rw[hSZ]at hsize JG;rw[Qb]at JG;clear Qb;have HSI:=ah hsize;have BK:=ah q1;have DX:=ah q2;have Nr:=ah JG;clear pP q1 q2 hp3 Io hcur hc4 hsize JG hSZ;have qa:=BK.out _ (Kept.refl _ _);go_wp2_with fail;clear qa;refine HSI.out.mono ?_;rintro e w4 ⟨rfl,hk4⟩;have eY:=ah hk4;clear hk4;by_cases hbig:2048<SZ
  ·have hdm:=Nr.out;rw[if_pos hbig]at hdm;have HD:=ah hdm;clear hdm Nr;have hbi:(2048:Int)<(SZ:Int):=by omega
   have r1:=BK.out _ eY.out;have r2:=DX.out _ eY.out;have E5:∀W,Kept aj w3 W->Calls Tryz.prog 64 #[.pointer (some ⟨X.sb,0,none⟩)] W (adF W M.st):=fun W hW=>by have:=Nh W X3.sb X3.FS M.st ((HST.out.at'.quiet hW).c 2) Ej.out;rw[HST.out.sb]at this;refine this.mono ?_;rintro e w' ⟨A,d,pre,he,ho⟩;exact⟨A,d,pre,_,he,ho,rfl⟩
   have jK:=ah E5;have HSV:=ah (Np TX Nq.out HST.out jP.out HC.out HU.out BD.out);clear E5 hbig;go_wp2_with fail
   go_region_held3 (fun W=>W.cell? ⟨X.mb,1,none⟩=some (.pointer (some ⟨X.gp,0,none⟩))/\W.cell? ⟨X.mb,2,none⟩=some (.pointer (some ⟨X.sb,0,none⟩))) (first|with_reducible exact⟨z5,z6⟩|with_reducible exact⟨z3,z4⟩|with_reducible exact⟨z1,z2⟩|with_reducible exact⟨r1,r2⟩|(simp[go_sem,r1,r2];done))
    (first
     |(go_at_call 64;refine(jK.out _ (by(repeat'(first|(with_reducible first|exact ak|apply au|apply ay|apply aA|apply aB)|(exact eY.out)|(right;simp;done))))).mono ?_;rintro e w5 ⟨A,d,pre,l,rfl,ho,hll⟩;have hk5:=Kept.then (F:=aj) (a:=w3) (by(repeat'(first|(with_reducible first|exact ak|apply au|apply ay|apply aA|apply aB)|(exact eY.out)|(right;simp;done)))) ho.kept;have z1:=BK.out _ hk5;have z2:=DX.out _ hk5;have HO:=ah ho;have mO:=ah hll;have dB:=ah hk5;clear ho hk5 hll)
     |(go_at_call 63;refine(Qa _ M.st TX Nq.out A d pre l _ (by exact HO.out.still (by(repeat'(first|(with_reducible first|exact ak|apply au|apply ay|apply aA|apply aB)|(right;simp;done))))) mO.out Ej.out HU.out BD.out).mono ?_;rintro e w6 ⟨A2,d2,rfl,hr,hk6⟩;have hk:=Kept.then (F:=aj) (a:=w3) (by(repeat'(first|(with_reducible first|exact ak|apply au|apply ay|apply aA|apply aB)|(exact dB.out)|(right;simp;done)))) hk6;have z3:=BK.out _ hk;have z4:=DX.out _ hk;have hr3:=aF.lower hr (by exact dB.out.size);have HR:=ah hr3;have kQ:=ah hk;clear hk hk6 hr hr3)
     |(go_at_call 62;refine(HSV.out _ A2 d2 (by(repeat'(first|(with_reducible first|exact ak|apply au|apply ay|apply aA|apply aB)|(exact kQ.out)|(right;simp;done)))) (aF.kept HR.out (by(repeat'(first|(with_reducible first|exact ak|apply au|apply ay|apply aA|apply aB)|(right;simp;done)))))).mono ?_;rintro e w7 ⟨rfl,X7,hs7,D5⟩;have z5:w7.cell? ⟨X.mb,1,none⟩=some (.pointer (some ⟨X.gp,0,none⟩)):=(by have h1:w7.cell? ⟨X7.mb,1,none⟩=some (.pointer (some ⟨X7.gp,0,none⟩)):=Has.cell (hs7.at'.c 0) 1;rw[hs7.mb,hs7.gp]at h1;exact h1);have z6:w7.cell? ⟨X.mb,2,none⟩=some (.pointer (some ⟨X.sb,0,none⟩)):=(by have h1:w7.cell? ⟨X7.mb,2,none⟩=some (.pointer (some ⟨X7.sb,0,none⟩)):=Has.cell (hs7.at'.c 0) 2;rw[hs7.mb,hs7.sb]at h1;exact h1);have ql:=ah hs7;have Zi:=ah D5;clear hs7 D5))
   clear z1 z2 z3 z4 z5 z6 r1 r2 hbi;have hf:=Dv ql.out HD.out Zi.out;have q11:w7.cell? ⟨X.mb,11,none⟩=some (.slice X7.oA M.out.length X7.oc):=by have h1:w7.cell? ⟨X7.mb,11,none⟩=some (.slice X7.oA M.out.length X7.oc):=Has.cell (ql.out.at'.c 0) 11;rw[ql.out.mb]at h1;exact h1
   have f11:w7.frozen? ⟨X.mb,11,none⟩=false:=by have h1:=Has.frozen (ql.out.at'.c 0) 11;rw[ql.out.mb]at h1;exact h1
   have HF:=ah hf;clear hf;go_wp2;go_ret;exact HF.out
  ·have hdm:=Nr.out;rw[if_neg hbig]at hdm;have hbi:¬(2048:Int)<(SZ:Int):=by omega
   have hf:=Dv (HST.out.quiet eY.out) hdm (dG.mono jP.out (Nat.le_succ c));have hm4:=HST.out.at'.quiet eY.out;have q11:w4.cell? ⟨X.mb,11,none⟩=some (.slice X3.oA M.out.length X3.oc):=by have h1:w4.cell? ⟨X3.mb,11,none⟩=some (.slice X3.oA M.out.length X3.oc):=Has.cell (hm4.c 0) 11;rw[HST.out.mb]at h1;exact h1
   have f11:w4.frozen? ⟨X.mb,11,none⟩=false:=by have h1:=Has.frozen (hm4.c 0) 11;rw[HST.out.mb]at h1;exact h1
   have HF:=ah hf;clear hf hdm hm4 hbig;go_wp2;go_ret;exact HF.out
 ·have hz:K=0:=by omega
  subst hz;have hsa:=JF.out rfl;clear JF hK0;go_enter Tryz.func22,Tryz.ntmps22;go_wp2_with fail;clear qa;refine HP.out.mono ?_;rintro e w3 ⟨rfl,hk3⟩;obtain⟨X3,hst3,hlb⟩:∃X3,Step w X M w3 X3 {M with lg:=M.lg.sync}/\dG X3 M.lg.sync c:=by rw[hsa];exact⟨X,Step.refl H.out hk3,HB.out⟩
  have HST:=ah hst3;have jP:=ah hlb;clear hst3 hlb hk3 hsa;have pP:=HST.out.at';have q1:∀W,Kept aj w3 W->W.cell? ⟨X.mb,1,none⟩=some (.pointer (some ⟨X.gp,0,none⟩)):=fun W hW=>by have h1:W.cell? ⟨X3.mb,1,none⟩=some (.pointer (some ⟨X3.gp,0,none⟩)):=Has.cell ((pP.quiet hW).c 0) 1;rw[HST.out.mb,HST.out.gp]at h1;exact h1
  have q2:∀W,Kept aj w3 W->W.cell? ⟨X.mb,2,none⟩=some (.pointer (some ⟨X.sb,0,none⟩)):=fun W hW=>by have h1:W.cell? ⟨X3.mb,2,none⟩=some (.pointer (some ⟨X3.sb,0,none⟩)):=Has.cell ((pP.quiet hW).c 0) 2;rw[HST.out.mb,HST.out.sb]at h1;exact h1
  have hp3:sK w3 X3 M.lg.sync:=pP.c 1;have Io:dG X3 ({M with lg:=M.lg.sync}:MR).lg c:=jP.out;have hcur:=dG.cur Io pP;have hc4:=HC.out;obtain⟨TX,Qb⟩:∃TX,gG (mQ M.st)=TX:=⟨_,rfl⟩;have Nq:=ah Qb
  have hsize:=Pt.MV hp3 (dG.fits Io pP (by omega)) (by have h1:=hcur.1;have h2:=hcur.2.2;have h3:(Wl.cur M.lg.sync.R M.lg.sync.T).length<=1+12*c:=Nat.le_trans h1 h2;omega) (by have h1:M.lg.sync.first+(M.lg.sync.R.length+M.lg.sync.T.length:Nat)<=2+12*(c:Int):=jP.out.f;omega)
  rw[Uf hp3,HST.out.gp]at hsize;have JG:mg M={M with lg:=if 2048<M.lg.sync.size then M.lg.sync.save (gG (mQ M.st))else M.lg.sync,out:=[]}:=rfl;obtain⟨SZ,hSZ⟩:∃SZ,M.lg.sync.size=SZ:=⟨_,rfl⟩;rw[hSZ]at hsize JG;rw[Qb]at JG;clear Qb;have HSI:=ah hsize;have BK:=ah q1;have DX:=ah q2;have Nr:=ah JG;clear pP q1 q2 hp3 Io hcur hc4 hsize JG hSZ;have qa:=BK.out _ (Kept.refl _ _);go_wp2_with fail;clear qa;refine HSI.out.mono ?_;rintro e w4 ⟨rfl,hk4⟩;have eY:=ah hk4;clear hk4;by_cases hbig:2048<SZ
  ·have hdm:=Nr.out;rw[if_pos hbig]at hdm;have HD:=ah hdm;clear hdm Nr;have hbi:(2048:Int)<(SZ:Int):=by omega
   have r1:=BK.out _ eY.out;have r2:=DX.out _ eY.out;have E5:∀W,Kept aj w3 W->Calls Tryz.prog 64 #[.pointer (some ⟨X.sb,0,none⟩)] W (adF W M.st):=fun W hW=>by have:=Nh W X3.sb X3.FS M.st ((HST.out.at'.quiet hW).c 2) Ej.out;rw[HST.out.sb]at this;refine this.mono ?_;rintro e w' ⟨A,d,pre,he,ho⟩;exact⟨A,d,pre,_,he,ho,rfl⟩
   have jK:=ah E5;have HSV:=ah (Np TX Nq.out HST.out jP.out HC.out HU.out BD.out);clear E5 hbig;go_wp2_with fail
   go_region_held3 (fun W=>W.cell? ⟨X.mb,1,none⟩=some (.pointer (some ⟨X.gp,0,none⟩))/\W.cell? ⟨X.mb,2,none⟩=some (.pointer (some ⟨X.sb,0,none⟩))) (first|with_reducible exact⟨z5,z6⟩|with_reducible exact⟨z3,z4⟩|with_reducible exact⟨z1,z2⟩|with_reducible exact⟨r1,r2⟩|(simp[go_sem,r1,r2];done))
    (first
     |(go_at_call 64;refine(jK.out _ (by(repeat'(first|(with_reducible first|exact ak|apply au|apply ay|apply aA|apply aB)|(exact eY.out)|(right;simp;done))))).mono ?_;rintro e w5 ⟨A,d,pre,l,rfl,ho,hll⟩;have hk5:=Kept.then (F:=aj) (a:=w3) (by(repeat'(first|(with_reducible first|exact ak|apply au|apply ay|apply aA|apply aB)|(exact eY.out)|(right;simp;done)))) ho.kept;have z1:=BK.out _ hk5;have z2:=DX.out _ hk5;have HO:=ah ho;have mO:=ah hll;have dB:=ah hk5;clear ho hk5 hll)
     |(go_at_call 63;refine(Qa _ M.st TX Nq.out A d pre l _ (by exact HO.out.still (by(repeat'(first|(with_reducible first|exact ak|apply au|apply ay|apply aA|apply aB)|(right;simp;done))))) mO.out Ej.out HU.out BD.out).mono ?_;rintro e w6 ⟨A2,d2,rfl,hr,hk6⟩;have hk:=Kept.then (F:=aj) (a:=w3) (by(repeat'(first|(with_reducible first|exact ak|apply au|apply ay|apply aA|apply aB)|(exact dB.out)|(right;simp;done)))) hk6;have z3:=BK.out _ hk;have z4:=DX.out _ hk;have hr3:=aF.lower hr (by exact dB.out.size);have HR:=ah hr3;have kQ:=ah hk;clear hk hk6 hr hr3)
     |(go_at_call 62;refine(HSV.out _ A2 d2 (by(repeat'(first|(with_reducible first|exact ak|apply au|apply ay|apply aA|apply aB)|(exact kQ.out)|(right;simp;done)))) (aF.kept HR.out (by(repeat'(first|(with_reducible first|exact ak|apply au|apply ay|apply aA|apply aB)|(right;simp;done)))))).mono ?_;rintro e w7 ⟨rfl,X7,hs7,D5⟩;have z5:w7.cell? ⟨X.mb,1,none⟩=some (.pointer (some ⟨X.gp,0,none⟩)):=(by have h1:w7.cell? ⟨X7.mb,1,none⟩=some (.pointer (some ⟨X7.gp,0,none⟩)):=Has.cell (hs7.at'.c 0) 1;rw[hs7.mb,hs7.gp]at h1;exact h1);have z6:w7.cell? ⟨X.mb,2,none⟩=some (.pointer (some ⟨X.sb,0,none⟩)):=(by have h1:w7.cell? ⟨X7.mb,2,none⟩=some (.pointer (some ⟨X7.sb,0,none⟩)):=Has.cell (hs7.at'.c 0) 2;rw[hs7.mb,hs7.sb]at h1;exact h1);have ql:=ah hs7;have Zi:=ah D5;clear hs7 D5))
   clear z1 z2 z3 z4 z5 z6 r1 r2 hbi;have hf:=Dv ql.out HD.out Zi.out;have q11:w7.cell? ⟨X.mb,11,none⟩=some (.slice X7.oA M.out.length X7.oc):=by have h1:w7.cell? ⟨X7.mb,11,none⟩=some (.slice X7.oA M.out.length X7.oc):=Has.cell (ql.out.at'.c 0) 11;rw[ql.out.mb]at h1;exact h1
   have f11:w7.frozen? ⟨X.mb,11,none⟩=false:=by have h1:=Has.frozen (ql.out.at'.c 0) 11;rw[ql.out.mb]at h1;exact h1
   have HF:=ah hf;clear hf;go_wp2;go_ret;exact HF.out
  ·have hdm:=Nr.out;rw[if_neg hbig]at hdm;have hbi:¬(2048:Int)<(SZ:Int):=by omega
   have hf:=Dv (HST.out.quiet eY.out) hdm (dG.mono jP.out (Nat.le_succ c));have hm4:=HST.out.at'.quiet eY.out;have q11:w4.cell? ⟨X.mb,11,none⟩=some (.slice X3.oA M.out.length X3.oc):=by have h1:w4.cell? ⟨X3.mb,11,none⟩=some (.slice X3.oA M.out.length X3.oc):=Has.cell (hm4.c 0) 11;rw[HST.out.mb]at h1;exact h1
   have f11:w4.frozen? ⟨X.mb,11,none⟩=false:=by have h1:=Has.frozen (hm4.c 0) 11;rw[HST.out.mb]at h1;exact h1
   have HF:=ah hf;clear hf hdm hm4 hbig;go_wp2;go_ret;exact HF.out
end
end bW
namespace bW
open aJ Vn Mst jQ IM kK gu
def mk0(L:nR):MR:=⟨L,st0,[],[0,0,0,0],0,fun _=>none,fun _=>none,0,fun _=>false,fun _=>false,fun _=>false,[],0⟩
section
variable{w w':World}{X X0:MX}{M M0:MR}{c:Nat}
def acr(w:World)(X0:MX)(L:nR)(e:Ending)(w':World):Prop:=
 ∃X,e=.returned (.pointer (some ⟨X.mb,0,none⟩))/\dJ w' X (mk0 L)/\(∀k,dN X (mk0 L) k->Pt.PF X0.gp X0.gw X0.F X0.A L.l.length X0.c k\/w.heap.size<=k)/\Kept aj w w'/\X.g=X0.g/\X.n=X0.n/\X.ps=X0.ps/\X.aX=X0.aX/\X.aQ=X0.aQ/\X.gp=X0.gp
theorem Qc(X0:MX)(L:nR)(hp:sK w X0 L):Calls Tryz.prog 19 #[.pointer (some ⟨X0.g,0,none⟩),.pointer (some ⟨X0.gp,0,none⟩)] w (acr w X0 L):=by
 have hlt:∀k,Pt.PF X0.gp X0.gw X0.F X0.A L.l.length X0.c k->k<w.heap.size:=fun k hk=>by
  rcases hk with hk|hk|hk|hk
  ·exact hp.d.lt k hk
  ·rw[hk];exact Has.lt hp.p
  ·rw[hk];exact Has.lt hp.wl
  ·exact mD hp.row.1 hk
 have HP:=ah hp;have sJ:=ah hlt;clear hp hlt;have hmk:= @run_makeMap Tryz.prog;go_enter Tryz.func19,Tryz.ntmps19;go_wp2_with fail;refine(bK w).mono ?_;rintro e w1 ⟨rfl,hst,hk1⟩;have HST:=ah hst;have gB:=ah hk1;clear hst hk1;go_wp2_with fail;refine(CB w1).mono ?_;rintro e w2 ⟨rfl,hwt,hk2⟩;have HWT:=ah hwt;have aV:=ah hk2;clear hwt hk2;go_wp2;go_ret;have l1:w.heap.size<w1.heap.size:=HST.out.lt _ rfl;have l2:w1.heap.size<w2.heap.size:=Has.lt HWT.out;have hk2:Kept aj w w2:=gB.out.then aV.out;refine⟨⟨w2.heap.size+5,X0.gp,X0.gw,X0.g,w.heap.size,w1.heap.size,w2.heap.size,w2.heap.size+1,w2.heap.size+2,w2.heap.size+3,w2.heap.size+4,X0.F,fun k=>k=w.heap.size,none,0,none,0,X0.A,X0.c,X0.n,X0.m,X0.ps,X0.aX,X0.aQ⟩,?_,⟨fun i=> ?_,fun i j k hi hj=> ?_⟩,fun k hk=> ?_,by(repeat'(first|(with_reducible first|exact ak|apply au|apply ay|apply aA|apply aB)|(exact hk2)|(right;simp;done))),rfl,rfl,rfl,rfl,rfl,rfl⟩
 ·first|rfl|(simp;done)
 ·have hmp:∀(o:Nat),o<5->True:=fun _ _=>trivial;rcases i with _|_|_|_|_|_|_|_|_|_|_|i
  ·exact Has.bK _ _ _ (by simp)
  ·exact sK.adB (G:=aj) HP.out (by(repeat'(first|(with_reducible first|exact ak|apply au|apply ay|apply aA|apply aB)|(exact hk2)|(right;simp;done)))) (fun _ _ z=>z)
  ·exact fH.still HST.out (aV.out.then (by(repeat'(first|(with_reducible first|exact ak|apply au|apply ay|apply aA|apply aB)|(right;simp;done)))))
  ·exact⟨rfl,.inl ⟨rfl,rfl⟩⟩
  ·exact Has.kept (F:=aj) HWT.out (by(repeat'(first|(with_reducible first|exact ak|apply au|apply ay|apply aA|apply aB)|(right;simp;done)))) (fun z=>z)
  ·exact fD.kept (F:=aj) (fD.made .u64 23 w2) (by(repeat'(first|(with_reducible first|exact ak|apply au|apply ay|apply aA|apply aB)|(right;simp;done)))) (fun z=>z)
  ·exact fD.kept (F:=aj) (by have h:=fD.made .i64 3 (w2.alloc (.map #[] 0));simp only[size_alloc]at h;exact h) (by(repeat'(first|(with_reducible first|exact ak|apply au|apply ay|apply aA|apply aB)|(right;simp;done)))) (fun z=>z)
  ·exact bT.kept (F:=aj) (by have h:=bT.made ((w2.alloc (.map #[] 0)).alloc (.map #[] 0));simp only[size_alloc]at h;exact h) (by(repeat'(first|(with_reducible first|exact ak|apply au|apply ay|apply aA|apply aB)|(right;simp;done)))) (fun z=>z)
  ·exact bT.kept (F:=aj) (by have h:=bT.made (((w2.alloc (.map #[] 0)).alloc (.map #[] 0)).alloc (.map #[] 0));simp only[size_alloc]at h;exact h) (by(repeat'(first|(with_reducible first|exact ak|apply au|apply ay|apply aA|apply aB)|(right;simp;done)))) (fun z=>z)
  ·exact bT.kept (F:=aj) (by have h:=bT.made ((((w2.alloc (.map #[] 0)).alloc (.map #[] 0)).alloc (.map #[] 0)).alloc (.map #[] 0));simp only[size_alloc]at h;exact h) (by(repeat'(first|(with_reducible first|exact ak|apply au|apply ay|apply aA|apply aB)|(right;simp;done)))) (fun z=>z)
  ·exact⟨rfl,.inl ⟨rfl,rfl⟩⟩
  ·trivial
 ·have h1:∀k,Pt.PF X0.gp X0.gw X0.F X0.A L.l.length X0.c k->k<w.heap.size:=sJ.out
  rcases i with _|_|_|_|_|_|_|_|_|_|_|i<;>rcases j with _|_|_|_|_|_|_|_|_|_|_|j<;>first
   |rfl
   |exact hi.elim
   |exact hj.elim
   |(simp[parts,mk0,Value.ownBlock]at hi;done)
   |(simp[parts,mk0,Value.ownBlock]at hj;done)
   |(have h2:=h1 k hj;simp only[parts]at hi;omega)
   |(have h2:=h1 k hi;simp only[parts]at hj;omega)
   |(simp only[parts]at hi hj;omega)
 ·obtain⟨i,hi⟩:=hk
  rcases i with _|_|_|_|_|_|_|_|_|_|_|i<;>first
   |exact .inl hi
   |exact hi.elim
   |(simp[parts,mk0,Value.ownBlock]at hi;done)
   |(simp only[parts]at hi;right;omega)
end
end bW
namespace bW
open aJ Vn Mst jQ IM kK gu dh
theorem mem_set{α:Type}{l:List α}{i:Nat}{a b:α}(h:b∈l.set i a):b∈l\/b=a:=by
 rcases List.mem_or_eq_of_mem_set h with h|h
 ·exact .inl h
 ·exact .inr h
theorem Bi{l:List aO}{id:Int}{p:aO}(h:p∈jk l id):p∈l\/∃q∈l,p=⟨id,q.at',8⟩:=by
 unfold jk at h;split at h
 ·rename_i q hq;rcases mem_set h with h|h
  ·exact .inl h
  ·exact .inr ⟨q,lC0 hq,h⟩
 ·exact .inl h
theorem SU.apply{s:bQ}{x:aG}(h:SU s)(hu:NU x):SU (aP s x):=by
 unfold aP;split
 ·exact h
 split
 ·exact⟨h.hz,hu.2.2.1,h.pin⟩
 split
 ·exact⟨h.hz,h.fl,h.pin⟩
 split
 ·exact⟨hu.1,h.fl,h.pin⟩
 split
 ·unfold jy;split
  ·refine⟨h.hz,h.fl,fun p hp=> ?_⟩;rcases Bi hp with hp|⟨q,hq,rfl⟩
   ·exact h.pin p hp
   ·exact h.pin q hq
  ·refine⟨h.hz,h.fl,fun p hp=> ?_⟩;rcases List.mem_append.1 hp with hp|hp
   ·exact h.pin p hp
   ·rw[List.mem_singleton.1 hp];exact hu.2.1
 split
 ·exact⟨h.hz,h.fl,fun p hp=>h.pin p ((uI s.pins x.n).subset hp)⟩
 ·unfold jA;split
  ·exact⟨h.hz,h.fl,h.pin⟩
  split
  ·exact⟨h.hz,h.fl,h.pin⟩
  ·exact⟨h.hz,h.fl,h.pin⟩
structure qA(s:bQ):Prop where
 inv:Mst.Inv s
 su:SU s
theorem E6:qA st0:=⟨inv0,⟨by decide,by decide,fun p hp=>by cases hp⟩⟩
theorem qA.apply{s:bQ}{x:aG}(h:qA s)(hu:NU x):qA (aP s x):=⟨(h.inv.apply ⟨hu.1.1,hu.2.1.1,hu.2.2.1.1⟩).1,h.su.apply hu⟩
theorem qA.write{M:MR}{x:aG}(h:qA M.st)(hu:NU x):qA (writeM M x).st:=by
 unfold writeM;split
 ·exact h.apply hu
 ·exact h
def nU:nR:=⟨1,Wl.cur [] (Pt.kM 0 []),[],[]⟩
def tV(ep:Int)(ms:List Mem)(fl:Int)(lg:List Int)(A:Option Addr)(c:Nat)(B:Option Addr)(d:Nat):aG:=⟨1,0,0,ep,A,c,ms,fl,B,d,lg,none,0,⟨0,0,[]⟩,0,⟨0,0,0⟩,⟨0,0,0,0⟩⟩
def lq(ep:Int)(ms:List Mem)(fl:Int)(lg:List Int):aG:=tV ep ms fl lg none 0 none 0
def sQ(ep:Int)(l:List Mem)(fl:Int):MR:=mg (writeM (mk0 nU) (lq ep l fl (ids l)))
theorem Qd{w:World}{ep fl:Int}{ms:List Mem}{lg:List Int}{A B:Option Addr}{c d:Nat}(h1:Src w 2 A ms.length (aU ms))(h2:ms.length<=c)(h3:ms.length<=1000)(h4:Src w 1 B lg.length (ints lg))(h5:lg.length<=d)(h6:lg.length<=1000):iR w (tV ep ms fl lg A c B d):=
 ⟨h1,h2,h3,h4,h5,h6,Src.nil _ _ _⟩
theorem wM{ep fl:Int}{ms:List Mem}{lg:List Int}{A B:Option Addr}{c d:Nat}(h:0<=fl/\fl<=aW):NU (tV ep ms fl lg A c B d):=by
 have z:(0:Int)<=0/\(0:Int)<=aW:=by decide
 exact⟨z,z,h,z⟩
section
variable{w w':World}{X X0:MX}{M M0:MR}{c:Nat}
def Ip(w:World)(F:Nat->Prop)(g:Nat)(ep:Int)(l:List Mem)(fl:Int)(e:Ending)(w':World):Prop:=
 ∃X,e=.returned (.tuple #[.pointer (some ⟨X.mb,0,none⟩),.int .i64 0])/\dJ w' X (sQ ep l fl)/\dG X (sQ ep l fl).lg 2/\X.g=g/\(∀k,dN X (sQ ep l fl) k->F k\/w.heap.size<=k)/\Kept F w w'
theorem acs(w:World)(v:Value)(ep fl:Int)(A:Option Addr)(c:Nat)(l:List Mem)(hl:Src w 2 A l.length (aU l))(hlc:l.length<=c)(hlen:l.length<=1000)(h0:aJ.chk ep l≠0):
  Calls Tryz.prog 7 #[v,nC ep A l.length c fl] w fun e w'=>e=.returned (.tuple #[.pointer none,.int .i64 (aJ.chk ep l)])/\Kept aj w w':=by
 have fC:=fun W (hW:Kept aj w W)=>Mst.rU W ep fl A c l (hl.kept hW (fun _ _ z=>z)) hlc (by omega);obtain⟨z,hz⟩:∃z,aJ.chk ep l=z:=⟨_,rfl⟩;rw[hz]at h0 fC⊢;have h2:(z !=0)=true:=by simpa using h0
 have HC:=ah fC;clear h0 hz fC hl;go_enter Tryz.func7,Tryz.ntmps7;go_wp2_with fail;refine(HC.out _ (by(repeat'(first|(with_reducible first|exact ak|apply au|apply ay|apply aA|apply aB)|(right;simp;done))))).mono ?_;rintro e w2 ⟨rfl,hk⟩;have HK:=ah (Kept.then (F:=aj) (a:=w) (by(repeat'(first|(with_reducible first|exact ak|apply au|apply ay|apply aA|apply aB)|(right;simp;done)))) hk);clear hk;go_wp2;go_ret2;exact⟨rfl,HK.out⟩
theorem Qe(w:World)(g:Nat)(F:Nat->Prop)(aX aQ ep fl:Int)(A:Option Addr)(c:Nat)(l:List Mem)(hd:aH.aZ w g F 0 (fun _=>none) [] aX aQ)(hl:Src w 2 A l.length (aU l))(hoff:0<l.length->∀ad,A=some ad->¬F ad.block)(hlc:l.length<=c)(hlen:l.length<=1000)(hfl:0<=fl/\fl<=aW)(h0:aJ.chk ep l=0):
  Calls Tryz.prog 7 #[.pointer (some ⟨g,0,none⟩),nC ep A l.length c fl] w (Ip w F g ep l fl):=by
 have fC:=fun W (hW:Kept aj w W)=>Mst.rU W ep fl A c l (hl.kept hW (fun _ _ z=>z)) hlc (by omega);rw[h0]at fC;have EM:=hd.lt;obtain⟨W0,hW0⟩:∃W0,w.alloc (.cells #[.int .i64 ep,.slice A l.length c,.int .u64 fl] 25)=W0:=⟨_,rfl⟩;have hk0:Kept aj w W0:=by rw[<-hW0];(repeat'(first|(with_reducible first|exact ak|apply au|apply ay|apply aA|apply aB)|(right;simp;done)))
 have hn0:Has W0 w.heap.size 25 #[.int .i64 ep,.slice A l.length c,.int .u64 fl]:=by rw[<-hW0];exact Has.new _ _ _
 have b0:W0.cell? ⟨w.heap.size,0,none⟩=some (.int .i64 ep):=hn0.cell 0;have b1:W0.cell? ⟨w.heap.size,1,none⟩=some (.slice A l.length c):=hn0.cell 1;have b2:W0.cell? ⟨w.heap.size,2,none⟩=some (.int .u64 fl):=hn0.cell 2;have HC:=ah fC;have HD:=ah hd;have HL:=ah hl;have pV:=ah hoff;have HLC:=ah hlc;have lH:=ah hlen;have o7:=ah hfl;have Pv:=ah EM;have bf:=ah hk0;have dW:=ah hn0;clear fC hd hl hoff hlc hlen hfl h0 EM hk0 hn0;go_enter Tryz.func7,Tryz.ntmps7;go_wp2_with fail;clear hW0 b0 b1 b2;refine(HC.out _ bf.out).mono ?_;rintro e w2 ⟨rfl,hk⟩;have dV:=ah (dW.out.kept hk (fun z=>z));have aV:=ah (bf.out.then hk);clear hk;go_wp2_with fail;refine(Pt.abW (HD.out.kept aV.out (fun _ _ z=>z)) (by omega)).mono ?_;rintro e w3 ⟨gp,gw,F',m',A',c',rfl,hpt,hgp,hgw,hF',hk3⟩;have hx0:sK w3 ⟨0,gp,gw,g,0,0,0,0,0,0,0,F',fun _=>False,none,0,none,0,A',c',0+1,m',[],aX,aQ⟩ nU:=⟨hpt.d,hpt.p,hpt.wl,⟨hpt.row.1,fun _ _=>Nat.zero_le _⟩,hpt.log,hpt.low,hpt.f1,hpt.tx,hpt.hs⟩;have hpf:∀k,Pt.PF gp gw F' A' 0 c' k->F k\/w2.heap.size<=k:=fun k hk=>by
  rcases hk with hk|hk|hk|hk
  ·exact hF' k hk
  ·exact .inr (by omega)
  ·exact .inr (by omega)
  ·exact .inr (hpt.row.2 k hk)
 have af9:=hk3.size;have af':Kept F w w3:=(Kept.up aV.out).then hk3;have hn3:=dV.out.kept hk3 (fun hf=>Nat.lt_irrefl _ (Pv.out _ hf));have ahP:=ah af9;have HX0:=ah hx0;have HPF:=ah hpf;have bu:=ah af';have mG:=ah hn3;clear af9 hx0 hpf af' hn3 hpt hgp hgw hF' hk3;go_wp2_with fail;refine(Qc _ nU HX0.out).mono ?_;rintro e w4 ⟨X,rfl,hm,hft,hk4,D6,Qg,Iq,-,-,-⟩;dsimp only at D6 Qg Iq;have hb:dG X (mk0 nU).lg 0:=⟨by rw[Qg,Iq];decide,by show(1:Int)+((Wl.cur [] (Pt.kM 0 [])).length+0:Nat)<=2;decide,Nat.zero_le _,Pt.YZ _ _⟩;have hn4:=mG.out.kept hk4 (fun z=>z);have Qh:∀k,dN X (mk0 nU) k->F k\/w2.heap.size<=k:=fun k hk=>by
  rcases hft k hk with y|y
  ·exact HPF.out k y
  ·have h2:=ahP.out;exact .inr (by omega)
 have h02:=aV.out.size;have FZ:∀k,dN X (mk0 nU) k->F k\/w.heap.size<=k:=fun k hk=>by
  rcases Qh k hk with y|y
  ·exact .inl y
  ·exact .inr (by omega)
 have hfk:Kept F w w4:=bu.out.then (Kept.up hk4)
 have hwr:∀(W:World) (B:Option Addr) (d:Nat),Kept aj w4 W->aF 3 1 w4.heap.size W B l.length d (ints (ids l))->Calls Tryz.prog 20 #[.pointer (some ⟨X.mb,0,none⟩),.agg (aK (tV ep l fl (ids l) A c B d)).toArray] W fun e w'=>
   (∃k:Int,e=.returned (.int .i64 k))/\∃X',Step w4 X (mk0 nU) w' X' (writeM (mk0 nU) (lq ep l fl (ids l)))/\dG X' (writeM (mk0 nU) (lq ep l fl (ids l))).lg 1:=fun W B d hW hr=>by
  have hil:=Ku l;have hr':W.ownsRow 0 3 1 (.slice B (ids l).length d) (ids l).length (ints (ids l)):=by rw[hil];exact hr.1
  have hx:iR W (tV ep l fl (ids l) A c B d):=Qd ((Src.wJ HL.out hfk pV.out).kept hW (fun _ _ z=>z)) HLC.out lH.out (Src.bF hr') (gJ hr').1 (by rw[hil];exact lH.out);refine(write_any (hm.quiet hW) hb (by omega) E6.inv.ok _ hx (wM o7.out) ⟨fun h0 ad e hf=> ?_,fun h0 ad e hf=> ?_,fun h0=>absurd h0 (Nat.lt_irrefl 0)⟩).mono ?_
  ·obtain⟨DV,e2,hlt,_⟩:=HL.out.2 h0;have e3:ad=DV:=by have e4:some ad=some DV:=e.symm.trans e2;injection e4
   rw[e3]at hf;rcases FZ _ hf with y|y
   ·exact pV.out h0 DV e2 y
   ·omega
  ·obtain⟨g',cap,hv,_,_⟩:=hr.1.form (by rw[<-hil];exact h0);have e5:B=some ad:=e;rw[e5]at hv;injection hv with hv;injection hv with hv;have h1:=hm.lt hf;have h2:=hr.2 g' (by rw[e5,hv];rfl);rw[hv]at h1;dsimp only at h1;omega
  ·rintro e w' ⟨rfl,X',hs,hl'⟩;exact⟨⟨_,rfl⟩,X',(Step.refl hm hW).trans hs,hl'⟩
 have aga:∀W,Kept aj w4 W->Calls Tryz.prog 21 #[nC ep A l.length c fl] W (TE W l):=fun W hW=>aeh W ep fl A c l ((Src.wJ HL.out hfk pV.out).kept hW (fun _ _ z=>z)) lH.out;have b0:∀W,Kept aj w4 W->W.cell? ⟨w.heap.size,0,none⟩=some (.int .i64 ep)/\W.cell? ⟨w.heap.size,1,none⟩=some (.slice A l.length c)/\W.cell? ⟨w.heap.size,2,none⟩=some (.int .u64 fl):=fun W hW=>⟨(hn4.kept hW (fun z=>z)).cell 0,(hn4.kept hW (fun z=>z)).cell 1,(hn4.kept hW (fun z=>z)).cell 2⟩;have hbf:¬dN X (mk0 nU) w.heap.size:=fun hf=>by
  rcases Qh _ hf with y|y
  ·exact Nat.lt_irrefl _ (Pv.out _ y)
  ·have h1:=dV.out.lt;omega
 have HBF:=ah hbf;have Ud:=ah hn4;obtain⟨M1,hM1⟩:∃M1,writeM (mk0 nU) (lq ep l fl (ids l))=M1:=⟨_,rfl⟩;have hst1:qA M1.st:=by rw[<-hM1];exact qA.write E6 (wM o7.out)
 have hNM:sQ ep l fl=mg M1:=by rw[<-hM1];rfl
 rw[hM1]at hwr;simp only[tV,aK,List.length_nil,Ku]at hwr;have qU:=ah hwr;have Ls:=ah aga;have HB0:=ah b0;have acu:=ah hst1;have TB:=ah hNM;have Qi:=ah FZ;have HFK:=ah hfk;have zo:=ah hm;have HG:=ah D6;clear hbf Qh h02 hwr aga b0 hst1 hNM hM1 FZ hfk hm D6 Qg Iq hb hn4 hk4 hft;obtain⟨c0,c1,c2⟩:=HB0.out _ (Kept.refl _ _);go_wp2_with fail
 go_region_held3 (fun W=>W.cell? ⟨w.heap.size,0,none⟩=some (.int .i64 ep)/\W.cell? ⟨w.heap.size,1,none⟩=some (.slice A l.length c)/\W.cell? ⟨w.heap.size,2,none⟩=some (.int .u64 fl)) (first|with_reducible exact z2|with_reducible exact z1|with_reducible exact⟨c0,c1,c2⟩|(simp[go_sem,c0,c1,c2];done))
  (first
   |(go_at_call 21;refine(Ls.out _ (by(repeat'(first|(with_reducible first|exact ak|apply au|apply ay|apply aA|apply aB)|(right;simp;done))))).mono ?_;rintro e w5 ⟨B,d,rfl,hr,hk5⟩;have hk:=Kept.then (F:=aj) (a:=w4) (by(repeat'(first|(with_reducible first|exact ak|apply au|apply ay|apply aA|apply aB)|(right;simp;done)))) hk5;have z1:=HB0.out _ hk;have hr3:aF 3 1 w4.heap.size w5 B l.length d (ints (ids l)):=hr;have HR:=ah hr3;have dB:=ah hk;clear hk hk5 hr hr3)
   |(go_at_call 20;refine(qU.out _ B d (by(repeat'(first|(with_reducible first|exact ak|apply au|apply ay|apply aA|apply aB)|(exact dB.out)|(right;simp;done)))) (aF.kept HR.out (by(repeat'(first|(with_reducible first|exact ak|apply au|apply ay|apply aA|apply aB)|(right;simp;done)))))).mono ?_;rintro e w6 ⟨⟨kk,rfl⟩,X6,hs6,hl6⟩;have z2:w6.cell? ⟨w.heap.size,0,none⟩=some (.int .i64 ep)/\w6.cell? ⟨w.heap.size,1,none⟩=some (.slice A l.length c)/\w6.cell? ⟨w.heap.size,2,none⟩=some (.int .u64 fl):=(by have h6:=Has.kept Ud.out hs6.k (by exact HBF.out);exact⟨h6.cell 0,h6.cell 1,h6.cell 2⟩);have oZ:=ah hs6;have HL6:=ah hl6;clear hs6 hl6))
 clear c0 c1 c2 z1 z2;have hdone:=yT oZ.out.at' HL6.out (by omega) acu.out.inv.ok acu.out.su acu.out.inv.pl;rw[oZ.out.mb]at hdone;have GR:=ah hdone;clear hdone;go_wp2_with fail;refine GR.out.mono ?_;rintro e w7 ⟨A7,d7,rfl,-,-,X7,hs7,D5,-⟩;have hst:=oZ.out.trans hs7;have hfin:Ip w F g ep l fl (.returned (.tuple #[.pointer (some ⟨X.mb,0,none⟩),.int .i64 0])) w7:=by
  unfold Ip;rw[TB.out];refine⟨X7,by rw[hst.mb],hst.at',D5,hst.dk.trans HG.out,fun k hk=> ?_,?_⟩
  ·rcases hst.g k hk with y|y
   ·exact Qi.out k y
   ·have h2:=HFK.out.size;exact .inr (by omega)
  ·exact HFK.out.trans hst.k (fun k hk=>Qi.out k hk)
 have HF:=ah hfin;clear hst hs7 D5 hfin;go_wp2;go_ret2;exact HF.out
end
end bW
namespace bW
open aJ Vn Mst jQ IM kK gu
section
variable{w w':World}{X X0:MX}{M M0:MR}{c:Nat}
theorem dJ.cell(h:dJ w X M){i:Nat}{v:Value}(hv:(wI X M)[i]? =some v):w.cell? ⟨X.mb,i,none⟩=some v:=by have h1:w.cell? ⟨X.mb,i,none⟩=(wI X M)[i]? :=Has.cell (h.c 0) i;rw[h1,hv]
theorem Ir(h:dJ w X M):Calls Tryz.prog 8 #[.pointer (some ⟨X.mb,0,none⟩)] w fun e w'=>e=.returned (.int .u64 M.st.hz)/\Kept aj w w':=by have q:=h.cell (i:=2) rfl;have h1:=qh h;have h2:=yG (h.c 2);have H1:=ah h1;have H2:=ah h2;clear h h1 h2;go_enter Tryz.func8,Tryz.ntmps8;go_wp2_with fail;refine H1.out.mono ?_;rintro e w1 ⟨rfl,rfl⟩;go_wp2_with fail;refine H2.out.mono ?_;rintro e w2 ⟨rfl,hk⟩;clear q;have HK:=ah hk;clear hk;go_wp2;go_ret;exact⟨rfl,HK.out⟩
theorem Ns(h:dJ w X M)(hp:M.pins.length<=1000):Calls Tryz.prog 13 #[.pointer (some ⟨X.mb,0,none⟩)] w (xu w M.pins):=by have q:=h.cell (i:=3) rfl;have h1:=qh h;have h2:=rD w X.pA X.pc M.pins (Src.bF (h.c 3)) (by omega);have H1:=ah h1;have H2:=ah h2;clear h h1 h2 hp;go_enter Tryz.func13,Tryz.ntmps13;go_wp2_with fail;refine H1.out.mono ?_;rintro e w1 ⟨rfl,rfl⟩;go_wp2_with fail;refine H2.out.mono ?_;rintro e w2 ⟨A,d,rfl,hn,hk⟩;clear q;have HK:=ah hk;have HN:=ah hn;clear hk hn;go_wp2;go_ret;exact⟨A,d,rfl,HN.out,HK.out⟩
theorem Zx(h:dJ w X M)(hok:pY M.st):Calls Tryz.prog 16 #[.pointer (some ⟨X.mb,0,none⟩)] w (uy w M.st.ep M.st.fl M.st.ms):=by
 have h1:=fun W (hW:Kept aj w W)=>qh (h.quiet hW);have q:=fun W (hW:Kept aj w W)=>(h.quiet hW).cell (i:=2) rfl;have h2:=fun W (hW:Kept aj w W)=>qO ((h.quiet hW).c 2) hok;have H1:=ah h1;have H2:=ah h2;have HQ:=ah q;clear h h1 h2 hok q;go_enter Tryz.func16,Tryz.ntmps16;go_wp2_with fail;refine(H1.out _ (by(repeat'(first|(with_reducible first|exact ak|apply au|apply ay|apply aA|apply aB)|(right;simp;done))))).mono ?_;rintro e w1 ⟨rfl,rfl⟩;have q:=HQ.out (w.alloc (.cells #[.int .i64 0,.slice none 0 0,.int .u64 0] 25)) (by(repeat'(first|(with_reducible first|exact ak|apply au|apply ay|apply aA|apply aB)|(right;simp;done))));go_wp2_with fail;refine(H2.out _ (by(repeat'(first|(with_reducible first|exact ak|apply au|apply ay|apply aA|apply aB)|(right;simp;done))))).mono ?_;rintro e w3 ⟨A1,c1,rfl,hn,hk⟩;clear q;have hb1:=(Has.new w 25 #[.int .i64 0,.slice none 0 0,.int .u64 0]).kept hk (fun z=>z);have c0:=hb1.cell 0;have f0:=hb1.frozen 0;have c1':=hb1.cell 1;have f1:=hb1.frozen 1;have c2:=hb1.cell 2;have f2:=hb1.frozen 2;simp only[lF0,List.getElem?_cons_zero,List.getElem?_cons_succ]at c0 c1' c2;have hz:w.heap.size<(w.alloc (.cells #[.int .i64 0,.slice none 0 0,.int .u64 0] 25)).heap.size:=by rw[size_alloc];exact Nat.lt_succ_self _
 have HZ:=ah hz;have HB1:=ah hb1;have HN:=ah hn;have bu:=ah (Kept.then (F:=aj) (a:=w) (by(repeat'(first|(with_reducible first|exact ak|apply au|apply ay|apply aA|apply aB)|(right;simp;done)))) hk);clear hb1 hn hk hz;go_wp2;have hfin:=((HB1.out.put 0 (Value.int .i64 M.st.ep)).put 1 (Value.slice A1 M.st.ms.length c1)).put 2 (Value.int .u64 M.st.fl);refine bodyPost_ret (results_cell_row rfl _ _ w.heap.size 25 _ (0,0) _ rfl hfin Tryz.underlying25 rfl (by kernel_rfl)) rfl ?_;have hk9:∀W (i:Nat) u,Kept aj w W->Kept aj w (W.setCell ⟨w.heap.size,i,none⟩ u):=fun W i u hW=>hW.put (.inr (Nat.le_refl _));have hz:=HZ.out;refine⟨A1,c1,rfl,⟨?_,fun g hg=>by have:=HN.out.2 g hg;omega⟩,hk9 _ _ _ (hk9 _ _ _ (hk9 _ _ _ (bu.out)))⟩;refine aC (F:=fun k=>k=w.heap.size) HN.out.1 ((((Kept.refl (fun k=>k=w.heap.size) w3).put (.inl rfl)).put (.inl rfl)).put (.inl rfl)) (fun g hg hF=> ?_);have h1:=HN.out.2 g hg;omega
theorem E7(h:dJ w X M)(i:Int):Calls Tryz.prog 37 #[.pointer (some ⟨X.mb,0,none⟩),.int .i64 i] w fun e w'=>e=.returned (pI (dO M.st i))/\Kept aj w w':=by have h1:=fun W (hW:Kept aj w W)=>qh (h.quiet hW);have q:=fun W (hW:Kept aj w W)=>(h.quiet hW).cell (i:=2) rfl;have h2:=fun W (hW:Kept aj w W)=>FT ((h.quiet hW).c 2) i;obtain⟨a0,a1,a2,a3,ha⟩:∃a0 a1 a2 a3,dO M.st i=⟨a0,a1,a2,a3⟩:=⟨_,_,_,_,rfl⟩;rw[ha]at h2⊢;have H1:=ah h1;have H2:=ah h2;have HQ:=ah q;clear h h1 h2 q ha;go_enter Tryz.func37,Tryz.ntmps37;go_wp2_with fail;refine(H1.out _ (by(repeat'(first|(with_reducible first|exact ak|apply au|apply ay|apply aA|apply aB)|(right;simp;done))))).mono ?_;rintro e w1 ⟨rfl,rfl⟩;have q:=HQ.out (w.alloc (.cells #[.int .i64 0,.int .i64 0,.int .i64 0,.int .i64 0] 76)) (by(repeat'(first|(with_reducible first|exact ak|apply au|apply ay|apply aA|apply aB)|(right;simp;done))));go_wp2_with fail;refine(H2.out _ (by(repeat'(first|(with_reducible first|exact ak|apply au|apply ay|apply aA|apply aB)|(right;simp;done))))).mono ?_;rintro e w3 ⟨rfl,hk⟩;clear q;have hb1:=(Has.new w 76 #[.int .i64 0,.int .i64 0,.int .i64 0,.int .i64 0]).kept hk (fun z=>z);have c0:=hb1.cell 0;have f0:=hb1.frozen 0;have c1':=hb1.cell 1;have f1:=hb1.frozen 1;have c2:=hb1.cell 2;have f2:=hb1.frozen 2;have c3:=hb1.cell 3;have f3:=hb1.frozen 3;simp only[lF0,List.getElem?_cons_zero,List.getElem?_cons_succ]at c0 c1' c2 c3;have HB1:=ah hb1;have bu:=ah (Kept.then (F:=aj) (a:=w) (by(repeat'(first|(with_reducible first|exact ak|apply au|apply ay|apply aA|apply aB)|(right;simp;done)))) hk);clear hb1 hk;go_wp2;have hfin:=(((HB1.out.put 0 (Value.int .i64 a0)).put 1 (Value.int .i64 a1)).put 2 (Value.int .i64 a2)).put 3 (Value.int .i64 a3);refine bodyPost_ret (results_cell_row rfl _ _ w.heap.size 76 _ (0,0) _ rfl hfin Tryz.underlying76 rfl (by kernel_rfl)) rfl ?_;have hk9:∀W (i:Nat) u,Kept aj w W->Kept aj w (W.setCell ⟨w.heap.size,i,none⟩ u):=fun W i u hW=>hW.put (.inr (Nat.le_refl _));exact⟨rfl,hk9 _ _ _ (hk9 _ _ _ (hk9 _ _ _ (hk9 _ _ _ (bu.out))))⟩
