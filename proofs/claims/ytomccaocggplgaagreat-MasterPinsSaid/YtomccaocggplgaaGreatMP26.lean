/- Part 27. -/
import Derived.Test.YtomccaocggplgaaGreatMP25
set_option linter.unusedSimpArgs false
set_option linter.unusedVariables false
set_option maxHeartbeats 32000000
set_option maxRecDepth 100000
namespace Go.Proofs.YtomccaocggplgaaGreat
open Go.RowKit
namespace bW
open aJ Vn Mst jQ IM kK gu
structure bC(M:MR)(k:Nat):Prop where
 st:qA M.st
 p3:M.pins.length<=3
 pin:∀p∈M.pins,0<=p.left/\p.left<=8/\0<=p.at'/\p.at'<=aW
 tq:zO M.ns M.tk
 last:0<=M.last/\M.last<=aW
 marks:∀i v,M.marks i=some v->0<=v/\v<=aW
 iO:∀i v,M.iO i=some v->I64 v
 cnt:M.cnt<=8*k
theorem bC.mono{M:MR}{k j:Nat}(h:bC M k)(hj:k<=j):bC M j:=⟨h.st,h.p3,h.pin,h.tq,h.last,h.marks,h.iO,by have:=h.cnt;omega⟩
def ni(M:MR)(id:Int):MR:=if 0<=id/\id<4/\cO M.st.ms id=false then {M with joins:=fun y=>decide (y=id)||M.joins y,iO:=vg M.iO id none,cnt:=M.cnt+1}else M
def kN(M:MR)(id:Int):MR:=if 0<=id/\id<4/\cO M.st.ms id=true then {M with leaves:=fun y=>decide (y=id)||M.leaves y,cnt:=M.cnt+1}else M
section
variable{w w':World}{X X0:MX}{M M0:MR}{c k:Nat}
theorem gY{i:Int}(h0:0<=i)(h1:i<4):I64 i:=aH.gY h0 (by omega)
theorem Zy(h:dJ w X M)(hb:dG X M.lg c)(hm:bC M k)(hk:k<=1000)(id:Int):
  Calls Tryz.prog 25 #[.pointer (some ⟨X.mb,0,none⟩),.int .i64 id] w (dK w X M c (.bool (decide (0<=id/\id<4/\cO M.st.ms id=false))) (ni M id) 0):=by
 have h1:=qh h;have h2:=Be w id;have h3:=oM h hm.st.inv.ok id;have hq:∀W,Kept aj w W->W.cell? ⟨X.mb,8,none⟩=some (.map (some X.jo))/\W.cell? ⟨X.mb,6,none⟩=some (.map (some X.se)):=fun W hW=>⟨(h.quiet hW).cell (i:=8) rfl,(h.quiet hW).cell (i:=6) rfl⟩;have hbad:¬(0<=id/\id<4/\cO M.st.ms id=false)->∀W,Kept aj w W->dK w X M c (.bool (decide (0<=id/\id<4/\cO M.st.ms id=false))) (ni M id) 0 (.returned (.bool false)) W:=fun hn W hW=>by unfold ni;rw[if_neg hn,decide_eq_false hn];exact⟨rfl,X,Step.refl h hW,hb⟩
 have hgood:(0<=id/\id<4/\cO M.st.ms id=false)->∀W,Kept aj w W->∃W1,(Instr.mapUpdate 83 (.map (some X.jo)) (.int .i64 id) (.bool true)).run Tryz.prog W=.ok () W1/\W1.cell? ⟨X.mb,6,none⟩=some (.map (some X.se))/\∀ty,∃W2,(Builtin.delete_ #[82,3] ty #[.map (some X.se),.int .i64 id]).run Tryz.prog W1=.ok (.tuple #[]) W2/\dK w X M c (.bool (decide (0<=id/\id<4/\cO M.st.ms id=false))) (ni M id) 0 (.returned (.bool true)) W2:=fun hn W hW=>by have hi:=gY hn.1 hn.2.1;have hs0:=Step.refl h hW;have hcj:bT W X.jo M.cnt M.joins:=(h.quiet hW).c 7;have hct:=hm.cnt;obtain⟨W1,hr1,hs1,hk1⟩:=bT.store hcj (by unfold maxLen;omega) hi;have st1:=hs0.trans (dJ.PW hs0.at' hs1 (Nat.le_succ _) hk1);have hcs:fD .i64 3 W1 X.se (M.cnt+1) M.iO:=st1.at'.c 6;refine⟨W1,hr1,st1.at'.cell (i:=6) rfl,fun ty=> ?_⟩;obtain⟨W2,hr2,hs2,hk2⟩:=fD.drop hcs Tryz.underlying82 hi ty;have st2:=st1.trans (dJ.MP st1.at' hs2 (Nat.le_refl _) hk2);refine⟨W2,hr2,?_⟩;unfold ni;rw[if_pos hn,decide_eq_true hn];exact⟨rfl,X,st2,hb⟩
 have H1:=ah h1;have H2:=ah h2;have H3:=ah h3;have HQ:=ah hq;have HB:=ah hbad;have HG:=ah hgood;clear h h1 h2 h3 hq hbad hgood hb hm hk;obtain⟨P,hP⟩:∃P:Prop,P=(0<=id/\id<4/\cO M.st.ms id=false):=⟨_,rfl⟩;obtain⟨r,hr⟩:∃r:Bool,decide (0<=id/\id<4)=r:=⟨_,rfl⟩;obtain⟨b,hbb⟩:∃b:Bool,cO M.st.ms id=b:=⟨_,rfl⟩;have hin:r=true->b=false->(0<=id/\id<4/\cO M.st.ms id=false):=fun h1 h2=>by rw[h1]at hr;rw[h2]at hbb;have:=of_decide_eq_true hr;exact⟨this.1,this.2,hbb⟩
 have hout:r=false\/b=true->¬(0<=id/\id<4/\cO M.st.ms id=false):=fun h1 h2=>by
  rcases h1 with h1|h1
  ·rw[h1]at hr;exact absurd ⟨h2.1,h2.2.1⟩ (of_decide_eq_false hr)
  ·rw[hbb,h1]at h2;exact absurd h2.2.2 (by decide)
 rw[hr]at H2;rw[hbb]at H3;have Qj:=ah hin;have wL:=ah hout;clear hin hout hr hbb hP P;cases r
 ·have HF:=ah (HB.out (wL.out (.inl rfl)) w (Kept.refl _ _));generalize dK w X M c (.bool (decide (0<=id/\id<4/\cO M.st.ms id=false))) (ni M id) 0=Q at*
  go_enter Tryz.func25,Tryz.ntmps25;go_wp2_with fail;refine H1.out.mono ?_;rintro e w1 ⟨rfl,rfl⟩;go_wp2_with fail;refine H2.out.mono ?_;rintro e w1 ⟨rfl,rfl⟩;go_wp2;exact HF.out
 ·cases b
  ·have hg:=HG.out (Qj.out rfl rfl);have Gx:=ah hg;clear hg;generalize dK w X M c (.bool (decide (0<=id/\id<4/\cO M.st.ms id=false))) (ni M id) 0=Q at*
   go_enter Tryz.func25,Tryz.ntmps25;go_wp2_with fail;refine H1.out.mono ?_;rintro e w1 ⟨rfl,rfl⟩;go_wp2_with fail;refine H2.out.mono ?_;rintro e w1 ⟨rfl,rfl⟩;go_wp2_with fail;refine H3.out.mono ?_;rintro e w2 ⟨rfl,hk2⟩;obtain⟨q8,q6⟩:=HQ.out _ hk2;obtain⟨W1,hr1,q6',hd⟩:=Gx.out _ hk2;obtain⟨W2,hd2⟩:=Classical.axiomOfChoice hd;have hr2:=fun ty=>(hd2 ty).1;have HF:=ah (fun ty=>(hd2 ty).2);clear hk2 hd hd2;go_wp2;exact HF.out _
  ·have HF:=ah (HB.out (wL.out (.inr rfl)));generalize dK w X M c (.bool (decide (0<=id/\id<4/\cO M.st.ms id=false))) (ni M id) 0=Q at*
   go_enter Tryz.func25,Tryz.ntmps25;go_wp2_with fail;refine H1.out.mono ?_;rintro e w1 ⟨rfl,rfl⟩;go_wp2_with fail;refine H2.out.mono ?_;rintro e w1 ⟨rfl,rfl⟩;go_wp2_with fail;refine H3.out.mono ?_;rintro e w2 ⟨rfl,hk2⟩;have nJ:=ah (HF.out _ hk2);clear hk2;go_wp2;exact nJ.out
theorem VK(h:dJ w X M)(hb:dG X M.lg c)(hm:bC M k)(hk:k<=1000)(id:Int):
  Calls Tryz.prog 26 #[.pointer (some ⟨X.mb,0,none⟩),.int .i64 id] w (dK w X M c (.bool (decide (0<=id/\id<4/\cO M.st.ms id=true))) (kN M id) 0):=by
 have h1:=qh h;have h2:=Be w id;have h3:=oM h hm.st.inv.ok id;have hq:∀W,Kept aj w W->W.cell? ⟨X.mb,9,none⟩=some (.map (some X.le)):=fun W hW=>(h.quiet hW).cell (i:=9) rfl;have hbad:¬(0<=id/\id<4/\cO M.st.ms id=true)->∀W,Kept aj w W->dK w X M c (.bool (decide (0<=id/\id<4/\cO M.st.ms id=true))) (kN M id) 0 (.returned (.bool false)) W:=fun hn W hW=>by unfold kN;rw[if_neg hn,decide_eq_false hn];exact⟨rfl,X,Step.refl h hW,hb⟩
 have hgood:(0<=id/\id<4/\cO M.st.ms id=true)->∀W,Kept aj w W->∃W1,(Instr.mapUpdate 83 (.map (some X.le)) (.int .i64 id) (.bool true)).run Tryz.prog W=.ok () W1/\dK w X M c (.bool (decide (0<=id/\id<4/\cO M.st.ms id=true))) (kN M id) 0 (.returned (.bool true)) W1:=fun hn W hW=>by have hi:=gY hn.1 hn.2.1;have hs0:=Step.refl h hW;have hcj:bT W X.le M.cnt M.leaves:=(h.quiet hW).c 8;have hct:=hm.cnt;obtain⟨W1,hr1,hs1,hk1⟩:=bT.store hcj (by unfold maxLen;omega) hi;have st1:=hs0.trans (dJ.MQ hs0.at' hs1 (Nat.le_succ _) hk1);refine⟨W1,hr1,?_⟩;unfold kN;rw[if_pos hn,decide_eq_true hn];exact⟨rfl,X,st1,hb⟩
 have H1:=ah h1;have H2:=ah h2;have H3:=ah h3;have HQ:=ah hq;have HB:=ah hbad;have HG:=ah hgood;clear h h1 h2 h3 hq hbad hgood hb hm hk;obtain⟨P,hP⟩:∃P:Prop,P=(0<=id/\id<4/\cO M.st.ms id=true):=⟨_,rfl⟩;obtain⟨r,hr⟩:∃r:Bool,decide (0<=id/\id<4)=r:=⟨_,rfl⟩;obtain⟨b,hbb⟩:∃b:Bool,cO M.st.ms id=b:=⟨_,rfl⟩;have hin:r=true->b=true->(0<=id/\id<4/\cO M.st.ms id=true):=fun h1 h2=>by rw[h1]at hr;rw[h2]at hbb;have:=of_decide_eq_true hr;exact⟨this.1,this.2,hbb⟩
 have hout:r=false\/b=false->¬(0<=id/\id<4/\cO M.st.ms id=true):=fun h1 h2=>by
  rcases h1 with h1|h1
  ·rw[h1]at hr;exact absurd ⟨h2.1,h2.2.1⟩ (of_decide_eq_false hr)
  ·rw[hbb,h1]at h2;exact absurd h2.2.2 (by decide)
 rw[hr]at H2;rw[hbb]at H3;have Qj:=ah hin;have wL:=ah hout;clear hin hout hr hbb hP P;cases r
 ·have HF:=ah (HB.out (wL.out (.inl rfl)) w (Kept.refl _ _));generalize dK w X M c (.bool (decide (0<=id/\id<4/\cO M.st.ms id=true))) (kN M id) 0=Q at*
  go_enter Tryz.func26,Tryz.ntmps26;go_wp2_with fail;refine H1.out.mono ?_;rintro e w1 ⟨rfl,rfl⟩;go_wp2_with fail;refine H2.out.mono ?_;rintro e w1 ⟨rfl,rfl⟩;go_wp2;exact HF.out
 ·cases b;rotate_left
  ·have hg:=HG.out (Qj.out rfl rfl);have Gx:=ah hg;clear hg;generalize dK w X M c (.bool (decide (0<=id/\id<4/\cO M.st.ms id=true))) (kN M id) 0=Q at*
   go_enter Tryz.func26,Tryz.ntmps26;go_wp2_with fail;refine H1.out.mono ?_;rintro e w1 ⟨rfl,rfl⟩;go_wp2_with fail;refine H2.out.mono ?_;rintro e w1 ⟨rfl,rfl⟩;go_wp2_with fail;refine H3.out.mono ?_;rintro e w2 ⟨rfl,hk2⟩;have q8:=HQ.out _ hk2;obtain⟨W1,hr1,hf⟩:=Gx.out _ hk2;have HF:=ah hf;clear hk2 hf;go_wp2;exact HF.out
  ·have HF:=ah (HB.out (wL.out (.inr rfl)));generalize dK w X M c (.bool (decide (0<=id/\id<4/\cO M.st.ms id=true))) (kN M id) 0=Q at*
   go_enter Tryz.func26,Tryz.ntmps26;go_wp2_with fail;refine H1.out.mono ?_;rintro e w1 ⟨rfl,rfl⟩;go_wp2_with fail;refine H2.out.mono ?_;rintro e w1 ⟨rfl,rfl⟩;go_wp2_with fail;refine H3.out.mono ?_;rintro e w2 ⟨rfl,hk2⟩;have nJ:=ah (HF.out _ hk2);clear hk2;go_wp2;exact nJ.out
theorem bC.join(h:bC M k)(id:Int):bC (ni M id) (k+1):=by
 unfold ni;split
 ·refine⟨h.st,h.p3,h.pin,h.tq,h.last,h.marks,fun i v hv=> ?_,by have:=h.cnt;dsimp only;omega⟩;simp only[vg]at hv;split at hv
  ·cases hv
  ·exact h.iO i v hv
 ·exact h.mono (by omega)
theorem bC.leave(h:bC M k)(id:Int):bC (kN M id) (k+1):=by
 unfold kN;split
 ·exact⟨h.st,h.p3,h.pin,h.tq,h.last,h.marks,h.iO,by have:=h.cnt;dsimp only;omega⟩
 ·exact h.mono (by omega)
end
end bW
namespace aJ
theorem VL(w:World)(ep fl:Int)(A:Option Addr)(c:Nat)(l:List Mem)(x:Mem)(hl:Src w 2 A l.length (aU l))(hlen:l.length<=1000000):
  Calls Tryz.prog 91 #[nC ep A l.length c fl,jH x] w fun e w'=>(∃n:Int,e=.returned (.int .i64 n)/\(0<=n↔x∈l)/\(n= -1\/0<=n))/\Kept aj w w':=by
 have HL:=ah hl;clear hl;obtain⟨x1,x2⟩:=x;have hn1:=(Has.new w 25 #[.int .i64 ep,.slice A l.length c,.int .u64 fl]).alloc (.cells #[.int .i64 x1,.int .i64 x2] 56);have hn2:=Has.new (w.alloc (.cells #[.int .i64 ep,.slice A l.length c,.int .u64 fl] 25)) 56 #[.int .i64 x1,.int .i64 x2];rw[size_alloc]at hn2;have c0:=hn1.cell 1;simp only[lF0,List.getElem?_cons_zero,List.getElem?_cons_succ]at c0;have dV:=ah hn2;clear hn2 hn1;unfold jH;dsimp only;go_enter Tryz.func91,Tryz.ntmps91;go_wp2_with fail;go_loopw [5,10] (fun v5 v10 wr=>∃i:Nat,i<=l.length/\v10=.int .i64 i/\Has wr (w.heap.size+1) 56 #[.int .i64 x1,.int .i64 x2]/\Kept aj w wr/\((x1,x2)∈l↔(x1,x2)∈l.drop i)) (fun _ v10 _=>l.length-(intOf v10).toNat)
 case atStart=>exact⟨0,Nat.zero_le _,rfl,dV.out,((Kept.refl _ _).alloc _).alloc _,Iff.rfl⟩
 case round=>
  obtain⟨i,hi,rfl,hh2,hk,he⟩:=hrel;have e1:∀o,(wr.alloc o).cell? ⟨w.heap.size+1,0,none⟩=some (.int .i64 x1):=fun o=>(hh2.alloc o).cell 0;have e2:∀o,(wr.alloc o).cell? ⟨w.heap.size+1,1,none⟩=some (.int .i64 x2):=fun o=>(hh2.alloc o).cell 1;have Gw:=ah hh2;clear hh2;have HK:=ah hk;clear hk;have HE:=ah he;clear he;by_cases hil:i<l.length
  ·obtain⟨m,hm⟩:∃m,l[i]? =some m:=⟨_,lB0 hil⟩;obtain⟨ad,hA,had,d0,d1⟩:=jr (HL.out.kept HK.out (fun _ _ x=>x)) (by omega) i m hm;subst hA;have hs:(x1,x2)∈l.drop i↔m=(x1,x2)\/(x1,x2)∈l.drop (i+1):=by rw[drop_cons hm,List.mem_cons,eq_comm]
   have acv:=Rk m (x1,x2);obtain⟨b,hb⟩:∃b:Bool,b=decide (m=(x1,x2)):=⟨_,rfl⟩;rw[<-hb]at acv;have HB:=ah hb;clear hb;have HS:=ah hs;clear hs hm;obtain⟨m1,m2⟩:=m;unfold jH at acv;dsimp only at d0 d1 acv;cases b
   ·go_wp2_with fail;go_roundw
    case rel=>exact⟨i+1,by omega,by go_num,Gw.out.alloc _,HK.out.alloc _,by rw[HE.out,HS.out];have:=HB.out;simp at this;simp;omega⟩
    case measure=>simp[intOf];omega
   ·go_wp2_with fail;go_ret;exact⟨⟨_,rfl,⟨fun _=>by rw[HE.out,HS.out];have:=HB.out;simp at this;exact .inl (by simp[this]),fun _=>by omega⟩,.inr (by omega)⟩,HK.out.alloc _⟩
  ·obtain rfl:i=l.length:=by omega
   go_wp2;go_ret;exact⟨⟨-1,rfl,⟨fun h=>by omega,fun h=>by rw[HE.out,List.drop_length]at h;cases h⟩,.inl rfl⟩,HK.out⟩
end aJ
namespace bW
open aJ Vn Mst jQ IM kK gu
def qL(id:Int):aG:=nt 5 id ⟨0,0,0⟩ ⟨0,0,[]⟩
def pq(M:MR)(id:Int)(x:bD):MR:={M with iO:=vg M.iO id (some x.aX),cnt:=M.cnt+1}
def E8(M:MR)(id:Int)(x:bD):MR:={pq M id x with ns:=M.ns.set id.toNat 0,last:=max M.last x.last}
def jU(M:MR)(id:Int)(x:bD):MR:={E8 M id x with marks:=vg M.marks id (some x.at'),cnt:=M.cnt+2}
def iJ(M:MR)(id:Int)(x:bD):MR:=
 if(id,x.aX)∈M.st.ms then (if x.ep≠M.st.ep then E8 M id x else if x.fl&& !inB M.st.lg id then writeM (jU M id x) (qL id)else jU M id x)
 else if cO M.st.ms id then {pq M id x with lost:=fun y=>decide (y=id)||M.lost y,cnt:=M.cnt+2}else pq M id x
def jm(M:MR)(id:Int)(x:bD):MR:=if x.ep<M.st.ep then jW (iJ M id x) id else iJ M id x
section
variable{w w':World}{X X0:MX}{M M0:MR}{c k:Nat}
theorem bC.write(h:bC M k){x:aG}(hu:NU x):bC (writeM M x) k:=by
 have h1:=h.st.write hu;unfold writeM at*
 split
 ·rename_i he;rw[if_pos he]at h1;exact⟨h1,h.p3,h.pin,h.tq,h.last,h.marks,h.iO,h.cnt⟩
 ·exact h
theorem bC.send(h:bC M k)(to:Int)(x:bD):bC (iC M to x) k:=by
 unfold iC;split
 ·exact⟨h.st,h.p3,h.pin,h.tq,h.last,h.marks,h.iO,h.cnt⟩
 ·exact h
theorem qB(M:MR)(x:aG):(writeM M x).out=M.out:=by unfold writeM;split<;>rfl
theorem acw(M:MR)(to:Int)(x:bD):(iC M to x).out.length<=M.out.length+1:=by
 unfold iC;split
 ·dsimp only;rw[lA0];exact Nat.le_refl _
 ·exact Nat.le_succ _
theorem qC(kk n:Int)(p:aO)(hp:0<=p.at'/\p.at'<=aW)(h0:0<=p.id):NU (nt kk n p ⟨0,0,[]⟩):=by refine⟨by unfold nt;dsimp only;unfold aW;decide,?_,?_⟩<;>first|exact hp|(unfold nt;dsimp only;unfold aW;decide)
theorem zO.heard{ns:List Int}{t:Int}(h:zO ns t)(i:Nat):zO (ns.set i 0) t:=
 ⟨by rw[List.length_set];exact h.len,fun n hn=>by
  rcases mem_set hn with y|y
  ·exact h.ns n y
  ·omega,h.t⟩
theorem Step.has{b:Nat}{t:TypeId}{cs:Array Value}(h:Step w X M w' X0 M0)(hh:Has w b t cs)(hn:¬dN X M b):Has w' b t cs/\¬dN X0 M0 b:=
 ⟨hh.kept h.k hn,fun hf=>by
  rcases h.g b hf with y|y
  ·exact hn y
  ·have:=hh.lt;omega⟩
theorem bC.pq(h:bC M k)(id:Int)(x:bD)(hx:I64 x.aX):bC (pq M id x) (k+1):=by
 refine⟨h.st,h.p3,h.pin,h.tq,h.last,h.marks,fun i v hv=> ?_,by have:=h.cnt;unfold bW.pq;dsimp only;omega⟩;simp only[bW.pq,vg]at hv;split at hv
 ·cases hv;exact hx
 ·exact h.iO i v hv
theorem bC.iJ{w:World}(h:bC M k)(id:Int)(x:bD)(hx:I64 x.aX)(hok:jd w x)(hid:0<=id/\id<4):bC (iJ M id x) (k+1):=by
 have hl:0<=max M.last x.last/\max M.last x.last<=aW:=by have:=h.last;have:=hok.t.2.1;omega
 have h0:=h.pq id x hx;have hmk:bC (jU M id x) (k+1):=by
  refine⟨h.st,h.p3,h.pin,zO.heard h.tq _,hl,fun i v hv=> ?_,h0.iO,by have:=h.cnt;unfold jU;dsimp only;omega⟩;simp only[jU,vg]at hv;split at hv
  ·cases hv;exact hok.t.1
  ·exact h.marks i v hv
 unfold bW.iJ;split
 ·split
  ·exact⟨h.st,h.p3,h.pin,zO.heard h.tq _,hl,h.marks,h0.iO,h0.cnt⟩
  ·split
   ·exact hmk.write (qC _ _ _ (by decide) (by decide))
   ·exact hmk
 ·split
  ·exact⟨h.st,h.p3,h.pin,h.tq,h.last,h.marks,h0.iO,by have:=h.cnt;dsimp only;omega⟩
  ·exact h0
theorem bC.jm{w:World}(h:bC M k)(id:Int)(x:bD)(hx:I64 x.aX)(hok:jd w x)(hid:0<=id/\id<4):bC (jm M id x) (k+1):=by
 unfold bW.jm;split
 ·exact(h.iJ id x hx hok hid).send _ _
 ·exact h.iJ id x hx hok hid
theorem Zz(M:MR)(id:Int)(x:bD):(iJ M id x).out=M.out:=by
 unfold iJ;split
 ·split
  ·rfl
  ·split
   ·exact qB _ _
   ·rfl
 ·split<;>rfl
theorem ZA(F:Nat->Prop)(id:Int):KP F (qL id):=⟨fun h=>absurd h (Nat.lt_irrefl _),fun h=>absurd h (Nat.lt_irrefl _),fun h=>absurd h (Nat.lt_irrefl _)⟩
theorem agb{v:Int}(h:0<=v/\v<=aW):(Lit.int .u64 v).wf=true:=by
 unfold Lit.wf;unfold aW at h;have hb:(2:Int)^IntKind.u64.bits=18446744073709551616:=by decide
 simp[IntKind.signed,IntKind.min,IntKind.max,hb];omega
structure qM(w:World)(X:MX)(M:MR)(c:Nat)(b1:Nat)(t1:TypeId)(k1:Array Value)(b2:Nat)(t2:TypeId)(k2:Array Value)(W:World)(X1:MX)(M1:MR):Prop where
 s:Step w X M W X1 M1
 lb:dG X1 M1.lg c
 h1:Has W b1 t1 k1
 h2:Has W b2 t2 k2
 o1:¬dN X1 M1 b1
 o2:¬dN X1 M1 b2
section
variable{W W':World}{X1 X2:MX}{M1 M2:MR}{b1 b2:Nat}{t1 t2:TypeId}{k1 k2:Array Value}
theorem qM.quiet(h:qM w X M c b1 t1 k1 b2 t2 k2 W X1 M1)(hk:Kept aj W W'):qM w X M c b1 t1 k1 b2 t2 k2 W' X1 M1:=⟨h.s.quiet hk,h.lb,h.h1.kept hk (fun z=>z),h.h2.kept hk (fun z=>z),h.o1,h.o2⟩
theorem qM.step(h:qM w X M c b1 t1 k1 b2 t2 k2 W X1 M1)(hs:Step W X1 M1 W' X2 M2){c2:Nat}(hl:dG X2 M2.lg c2):qM w X M c2 b1 t1 k1 b2 t2 k2 W' X2 M2:=by have a1:=hs.has h.h1 h.o1;have a2:=hs.has h.h2 h.o2;exact⟨h.s.trans hs,hl,a1.1,a2.1,a1.2,a2.2⟩
theorem qM.mono(h:qM w X M c b1 t1 k1 b2 t2 k2 W X1 M1){c2:Nat}(hc:c<=c2):qM w X M c2 b1 t1 k1 b2 t2 k2 W X1 M1:=⟨h.s,h.lb.mono hc,h.h1,h.h2,h.o1,h.o2⟩
end
theorem acy(h:dJ w X M)(hb:dG X M.lg c)(hc:c<=4000)(hm:bC M k)(hk:k<=1000)(ho:M.out.length<=100)(i:Nat)(h4:i<4)(x:bD)(hx:jd w x)(hxs:I64 x.aX):
  Calls Tryz.prog 42 #[.pointer (some ⟨X.mb,0,none⟩),.int .i64 i,iE x] w (dK w X M c (.tuple #[]) (jm M i x) 1):=by
 have hi:=gY (i:=i) (by omega) (by omega);obtain⟨W0,hW0⟩:∃W0,w.alloc (.cells (aI x).toArray 45)=W0:=⟨_,rfl⟩;have hk0:Kept aj w W0:=by rw[<-hW0];(repeat'(first|(with_reducible first|exact ak|apply au|apply ay|apply aA|apply aB)|(right;simp;done)))
 have hn0:Has W0 w.heap.size 45 (aI x).toArray:=by rw[<-hW0];exact Has.new _ _ _
 have hsd:Step w X M W0.drew X M:=Step.refl h hk0.drew;have hcs:fD .i64 3 W0.drew X.se M.cnt M.iO:=hsd.at'.c 6;obtain⟨W1,hr1,hs1,hk1⟩:=fD.store hcs Tryz.underlying82 Tryz.underlying3 (by have:=hm.cnt;unfold maxLen;omega) hi hxs;have st1:Step w X M W1 X (pq M i x):=hsd.trans (dJ.MP hsd.at' hs1 (Nat.le_succ _) hk1);have hoff:¬dN X M w.heap.size:=fun hf=>absurd (h.lt hf) (Nat.lt_irrefl _);have hn1:Has W1 w.heap.size 45 (aI x).toArray:=(Has.drew hn0).kept hk1 (fun e=>hoff ⟨6,e⟩);have p0:W0.cell? ⟨X.mb,6,none⟩=some (.map (some X.se)):=(h.quiet hk0).cell (i:=6) rfl;have p1:W0.cell? ⟨w.heap.size,3,none⟩=some (.int .i64 x.aX):=hn0.cell 3;have q2:W1.cell? ⟨X.mb,2,none⟩=some (.pointer (some ⟨X.sb,0,none⟩)):=st1.at'.cell (i:=2) rfl;have hcf:=qO (st1.at'.c 2) hm.st.inv.ok;obtain⟨ep,mP⟩:∃ep,M.st.ep=ep:=⟨_,rfl⟩;obtain⟨fl,hfl⟩:∃fl,M.st.fl=fl:=⟨_,rfl⟩;have agc:Calls Tryz.prog 34 #[.pointer (some ⟨X.sb,0,none⟩)] W1 (uy W1 ep fl M.st.ms):=by rw[<-mP,<-hfl];exact hcf
 have agd:dG X (pq M i x).lg c:=hb;have ZB:∀q,dN X (pq M i x) q->dN X M q:=fun q hq=>hq;have hw1:w.heap.size<W1.heap.size:=hn1.lt;have gU:Hid (bC (iJ M i x) (k+1)):=ah (hm.iJ i x hxs hx ⟨by omega,by omega⟩);have HB1:Hid ((iJ M i x).out.length<=100):=ah (by rw[Zz];exact ho);have hend:∀W X1 b2 t2 k2,qM w X M (c+1) w.heap.size 45 (aI x).toArray b2 t2 k2 W X1 (iJ M i x)->(x.ep<ep/\Calls Tryz.prog 44 #[.pointer (some ⟨X.mb,0,none⟩),.int .i64 i] W fun e w'=>e=.returned (.tuple #[])/\dK w X M c (.tuple #[]) (jm M i x) 1 (.returned (.tuple #[])) w')\/(¬x.ep<ep/\dK w X M c (.tuple #[]) (jm M i x) 1 (.returned (.tuple #[])) W):=by
  intro W X1 b2 t2 k2 hs;have hB:jm M i x=if x.ep<ep then jW (iJ M i x) i else iJ M i x:=by rw[<-mP];rfl
  rw[hB];by_cases hlt:x.ep<ep
  ·rw[if_pos hlt];refine .inl ⟨hlt,?_⟩;have hw:=EZ hs.s.at' hs.lb (by have:=HB1.out;omega) gU.out.st.inv.ok gU.out.st.su i;rw[hs.s.mb]at hw;refine hw.mono ?_;rintro e w' ⟨rfl,X',h1,h2⟩;exact⟨rfl,rfl,X',hs.s.trans h1,h2⟩
  ·rw[if_neg hlt];exact .inr ⟨hlt,rfl,X1,hs.s,hs.lb⟩
 have jI:=ah hend;clear hend;have HLG:=ah (fun W (h:dJ W X (jU M i x))=>OV (h.c 2) hm.st.inv.ok);have HLN:=ah hm.st.inv.ok;have Cb:=ah agc;have HST:=ah st1;have jP:=ah agd;have Gu:=ah hn1;have HB:=ah hb;have HC:=ah hc;have HM:=ah hm;have HK:=ah hk;have HO:=ah ho;have HX:=ah hx;have HXS:=ah hxs;have pV:=ah hoff;have HI:=ah hi;have HEP:=ah mP;have Qi:=ah ZB;have HW1:=ah hw1;have sJ:=ah (fun q (hq:dN X M q)=>h.lt hq);clear hn0 hsd hcs hs1 hk1 st1 hn1 h hb hc hm hk ho hx hxs hoff hk0 hi hcf agc mP hfl agd ZB hw1;go_enter Tryz.func42,Tryz.ntmps42;go_wp2_with fail;refine wp_region_still_tail 7 (by kernel_rfl) (by kernel_rfl) ?_;simp only[List.take_succ_cons,List.take_zero,List.drop_succ_cons,List.drop_zero];change wpStill _ _ (World.drew W0) _ _ _;repeat still_step
 refine wpStill_nil ?_;change wpList _ _ _ _ _ (World.drew W0);go_wp2_with fail;clear p0 p1 hW0 hr1;refine Cb.out.mono ?_;rintro e w2 ⟨A,d,rfl,hr,hk2⟩;clear q2;obtain⟨W3,hW3⟩:∃W3,w2.alloc (.cells #[.int .i64 ep,.slice A M.st.ms.length d,.int .u64 fl] 25)=W3:=⟨_,rfl⟩;have hk3:Kept aj W1 W3:=by rw[<-hW3];(repeat'(first|(with_reducible first|exact ak|apply au|apply ay|apply aA|apply aB)|(exact hk2)|(right;simp;done)))
 have hc3:Has W3 w2.heap.size 25 #[.int .i64 ep,.slice A M.st.ms.length d,.int .u64 fl]:=by rw[<-hW3];exact Has.new _ _ _
 have hr3:=aF.kept hr (w':=W3) (by rw[<-hW3];(repeat'(first|(with_reducible first|exact ak|apply au|apply ay|apply aA|apply aB)|(right;simp;done))))
 have s3:qM w X M c w.heap.size 45 (aI x).toArray w2.heap.size 25 #[.int .i64 ep,.slice A M.st.ms.length d,.int .u64 fl] W3 X (pq M i x):=
  ⟨HST.out.quiet hk3,jP.out,Gu.out.kept hk3 (fun z=>z),hc3,pV.out,fun hf=>by have:=sJ.out _ (Qi.out _ hf);have:=HW1.out;have:=hk2.size;omega⟩
 have b3:W3.cell? ⟨w.heap.size,3,none⟩=some (.int .i64 x.aX):=s3.h1.cell 3;have hpl:=aJ.VL W3 ep fl A d M.st.ms ((i:Int),x.aX) (Src.bF hr3.1) (by have:=HLN.out.m;omega);obtain⟨cb,hcb⟩:∃cb,w2.heap.size=cb:=⟨_,rfl⟩;rw[hcb]at s3;have d0:W3.cell? ⟨cb,0,none⟩=some (.int .i64 ep):=s3.h2.cell 0;have d1:W3.cell? ⟨cb,1,none⟩=some (.slice A M.st.ms.length d):=s3.h2.cell 1;have d2:W3.cell? ⟨cb,2,none⟩=some (.int .u64 fl):=s3.h2.cell 2;have GN:=ah hpl;have jF:=ah s3;clear hpl s3 hr3 hc3 hk3 hr hk2;go_wp2_with fail;clear b3 hW3 d0 d1 d2;refine GN.out.mono ?_;rintro e W4 ⟨⟨n,rfl,hn1,hn2⟩,hk4⟩;have s4:=jF.out.quiet hk4;have rH:=ah s4;clear s4 hk4 jF hcb GN;by_cases hin:((i:Int),x.aX)∈M.st.ms
 ·have hn0:0<=n:=hn1.2 hin;have hB1:iJ M i x=if x.ep≠ep then E8 M i x else if x.fl&& !inB M.st.lg i then writeM (jU M i x) (qL i)else jU M i x:=by rw[<-HEP.out];unfold iJ;rw[if_pos hin]
  have sS:=ah hB1;have q4:W4.cell? ⟨X.mb,4,none⟩=some (.pointer (some ⟨X.wb,0,none⟩)):=rH.out.s.at'.cell (i:=4) rfl;have ZC:=LC (rH.out.s.at'.c 4) HM.out.tq i h4;have HHE:=ah ZC;clear hn1 hn2 hin hB1 ZC;go_wp2_with fail;clear q4;refine HHE.out.mono ?_;rintro e W5 ⟨rfl,hw5,hk5⟩;have s5:=rH.out.step (dJ.PX rH.out.s.at' hw5 hk5) rH.out.lb;obtain⟨mx,hmx⟩:∃mx,max M.last x.last=mx:=⟨_,rfl⟩;have GU:=s5.quiet (Kept.refl aj W5).drew;have s6:=GU.step (Step.setLast (Step.refl GU.s.at' (Kept.refl _ _)) mx) GU.lb;have hH0:({pq M i x with ns:=M.ns.set i 0,last:=mx}:MR)=E8 M i x:=by rw[<-hmx];rfl
  have s6':qM w X M c w.heap.size 45 (aI x).toArray cb 25 #[.int .i64 ep,.slice A M.st.ms.length d,.int .u64 fl] (World.setCell (World.drew W5) ⟨X.mb,7,none⟩ (.int .u64 mx)) X (E8 M i x):=by rw[<-hH0];exact s6
  have q5:W5.cell? ⟨X.mb,7,none⟩=some (.int .u64 M.last):=s5.s.at'.cell (i:=7) rfl;have f5:=(Has.frozen (s5.s.at'.c 0) 7);have g5:W5.cell? ⟨w.heap.size,6,none⟩=some (.int .u64 x.last):=s5.h1.cell 6;have hmf:=fun W ts t=>UA M.last x.last mx hmx W ts t;obtain⟨W6,LV⟩:∃W6,(World.setCell (World.drew W5) ⟨X.mb,7,none⟩ (.int .u64 mx))=W6:=⟨_,rfl⟩;rw[LV]at s6';have oZ:=ah s6';clear s5 GU s6 s6' hH0 hw5 hk5 hmx rH;go_wp2_with fail;refine wp_region_still_tail 10 (by kernel_rfl) (by kernel_rfl) ?_;simp only[List.take_succ_cons,List.take_zero,List.drop_succ_cons,List.drop_zero];change wpStill _ _ (World.drew W5) _ _ _;repeat still_step
  refine wpStill_nil ?_;change wpList _ _ _ _ _ (World.drew W5);have t1:=oZ.out.h1.cell 1;have t6:=oZ.out.h2.cell 0;simp only[aI,lF0,List.getElem?_cons_zero,List.getElem?_cons_succ]at t1 t6;by_cases hee:x.ep≠ep
  ·rw[if_pos hee]at sS;rw[<-sS.out]at oZ;have oZ:=ah (oZ.out.mono (Nat.le_succ c));clear t1 t6;have t1:=oZ.out.h1.cell 1;have t6:=oZ.out.h2.cell 0;simp only[aI,lF0,List.getElem?_cons_zero,List.getElem?_cons_succ]at t1 t6;rcases jI.out _ _ _ _ _ oZ.out with⟨hlt,hcall⟩|⟨hlt,hfin⟩
   ·have gQ:=ah hcall;clear hcall;go_wp2_with fail;clear t1 t6;refine gQ.out.mono ?_;rintro e w9 ⟨rfl,hq⟩;have ZD:=ah hq;clear hq;go_wp2;go_end0;exact ZD.out
   ·have bU:=ah hfin;clear hfin;go_wp2_with fail;clear t1 t6;go_end0;exact bU.out
  ·obtain hee:x.ep=ep:=Classical.byContradiction hee;rw[if_neg (fun h=>h hee)]at sS;have hux:(Lit.int .u64 x.at').wf=true:=agb HX.out.t.1;have GU:=oZ.out.quiet (Kept.refl aj W6).drew;have hcm:fD .u64 23 W6.drew X.mm (M.cnt+1) M.marks:=GU.s.at'.c 5;obtain⟨W7,hr7,hs7,nG⟩:=fD.store hcm Tryz.underlying81 Tryz.underlying23 (by have:=HM.out.cnt;have:=HK.out;unfold maxLen;omega) HI.out hux;have s7:qM w X M c w.heap.size 45 (aI x).toArray cb 25 #[.int .i64 ep,.slice A M.st.ms.length d,.int .u64 fl] W7 X (jU M i x):=GU.step (dJ.PV GU.s.at' hs7 (Nat.le_succ _) nG) GU.lb;have q6:W6.cell? ⟨X.mb,5,none⟩=some (.map (some X.mm)):=oZ.out.s.at'.cell (i:=5) rfl;have t5:=oZ.out.h1.cell 5;simp only[aI,lF0,List.getElem?_cons_zero,List.getElem?_cons_succ]at t5;have u4:W7.cell? ⟨w.heap.size,4,none⟩=some (.bool x.fl):=s7.h1.cell 4;have ql:=ah s7;clear GU hcm hs7 nG hux s7 oZ;obtain⟨b,hbf⟩:∃b,x.fl=b:=⟨_,rfl⟩;have u4b:W7.cell? ⟨w.heap.size,4,none⟩=some (.bool b):=by rw[<-hbf];exact u4
   clear u4;have hle:=HLG.out W7 ql.out.s.at';have jw:=ah hle;have q7:W7.cell? ⟨X.mb,2,none⟩=some (.pointer (some ⟨X.sb,0,none⟩)):=ql.out.s.at'.cell (i:=2) rfl;clear hle;have hwr:∀W,Kept aj W7 W->Calls Tryz.prog 20 #[.pointer (some ⟨X.mb,0,none⟩),.agg (aK (qL i)).toArray] W fun e w'=>(∃z,e=.returned (.int .i64 z))/\∃X',Step W X (jU M i x) w' X' (writeM (jU M i x) (qL i))/\dG X' (writeM (jU M i x) (qL i)).lg (c+1):=fun W hW=>by refine(write_any (ql.out.s.at'.quiet hW) ql.out.lb HC.out HLN.out (qL i) (Jd _ _ _ _ _ _) (qC _ _ _ (by decide) (by decide)) (ZA _ _)).mono ?_;rintro e w' ⟨rfl,h⟩;exact⟨⟨_,rfl⟩,h⟩
   simp only[qL,nt,aK,List.length_nil,jV]at hwr;have qU:=ah hwr;clear hwr;cases b
   ·go_wp2_with fail;refine wp_region_still_tail 7 (by kernel_rfl) (by kernel_rfl) ?_;simp only[List.take_succ_cons,List.take_zero,List.drop_succ_cons,List.drop_zero];change wpStill _ _ (World.drew W6) _ _ _;repeat still_step
    refine wpStill_nil ?_;change wpList _ _ _ _ _ (World.drew W6);rw[hbf,Bool.false_and,if_neg (by decide)]at sS;rw[<-sS.out]at ql;have ql:=ah (ql.out.mono (Nat.le_succ c));clear qU jw;have t1:=ql.out.h1.cell 1;have t6:=ql.out.h2.cell 0;simp only[aI,lF0,List.getElem?_cons_zero,List.getElem?_cons_succ]at t1 t6;rcases jI.out _ _ _ _ _ ql.out with⟨hlt,hcall⟩|⟨hlt,hfin⟩
    ·exact absurd hlt (by omega)
    ·have bU:=ah hfin;clear hfin hlt;rw[hee]at t1;have hlt:¬ep<ep:=by omega
     go_wp2_with fail;clear t1 t6;go_end0;exact bU.out
   ·go_wp2_with fail;refine wp_region_still_tail 7 (by kernel_rfl) (by kernel_rfl) ?_;simp only[List.take_succ_cons,List.take_zero,List.drop_succ_cons,List.drop_zero];change wpStill _ _ (World.drew W6) _ _ _;repeat still_step
    refine wpStill_nil ?_;change wpList _ _ _ _ _ (World.drew W6);rw[hbf,Bool.true_and]at sS;go_wp2_with fail;clear q7 u4b hr7 q6 t5;refine jw.out.mono ?_;rintro e W8 ⟨B,db,rfl,Le,hk8⟩;have hco:=Mst.lG W8 B db M.st.lg i (Src.bF Le.1) (by have:=HLN.out.l;omega);obtain⟨bb,hbb⟩:∃bb,inB M.st.lg i=bb:=⟨_,rfl⟩;rw[hbb]at hco sS;have qR:=ah hco;have zf:=ah hk8;clear hco hk8 Le hbb;go_wp2_with fail;refine qR.out.mono ?_;rintro e W9 ⟨rfl,hk9⟩;have nH:=ah (zf.out.then hk9);clear hk9 zf;cases bb
    ·rw[if_pos (by decide)]at sS;have acz:=sS.out.symm;simp only[qL,nt,jV]at acz;have aha:=ah acz;clear acz;have hwr:=qU.out _ nH.out;have ahQ:=ah hwr;clear hwr;go_wp2_with fail;refine ahQ.out.mono ?_;rintro e qV ⟨⟨z,rfl⟩,X',hst,hlb⟩;have s10:=(ql.out.quiet nH.out).step hst hlb;rw[aha.out]at s10;have acA:=ah s10;clear s10 hst hlb;have t1:=acA.out.h1.cell 1;have t6:=acA.out.h2.cell 0;simp only[aI,lF0,List.getElem?_cons_zero,List.getElem?_cons_succ]at t1 t6;rcases jI.out _ _ _ _ _ acA.out with⟨hlt,hcall⟩|⟨hlt,hfin⟩
     ·exact absurd hlt (by omega)
     ·have bU:=ah hfin;clear hfin hlt;rw[hee]at t1;have hlt:¬ep<ep:=by omega
      go_wp2_with fail;clear t1 t6;go_end0;exact bU.out
    ·rw[if_neg (by decide)]at sS;have s9:=(ql.out.quiet nH.out).mono (Nat.le_succ c);rw[<-sS.out]at s9;have Ug:=ah s9;clear s9;have t1:=Ug.out.h1.cell 1;have t6:=Ug.out.h2.cell 0;simp only[aI,lF0,List.getElem?_cons_zero,List.getElem?_cons_succ]at t1 t6;rcases jI.out _ _ _ _ _ Ug.out with⟨hlt,hcall⟩|⟨hlt,hfin⟩
     ·exact absurd hlt (by omega)
     ·have bU:=ah hfin;clear hfin hlt;rw[hee]at t1;have hlt:¬ep<ep:=by omega
      go_wp2_with fail;clear t1 t6;go_end0;exact bU.out
 ·have hn0:n= -1:=by
   rcases hn2 with h|h
   ·exact h
   ·exact absurd (hn1.1 h) hin
  subst hn0;have hmem:=oM rH.out.s.at' HLN.out i;have hB1:iJ M i x=if cO M.st.ms i then {pq M i x with lost:=fun y=>decide (y=(i:Int))||M.lost y,cnt:=M.cnt+2}else pq M i x:=by unfold iJ;rw[if_neg hin]
  have E9:=fun W (hW:Kept aj W4 W)=>bT.store (w:=W) (b:=X.lo) (n:=M.cnt+1) (s:=M.lost) ((rH.out.s.at'.quiet hW).c 9) (by have:=HM.out.cnt;have:=HK.out;unfold maxLen;omega) HI.out;obtain⟨bb,hbb⟩:∃bb,cO M.st.ms i=bb:=⟨_,rfl⟩;have adI:Calls Tryz.prog 66 #[.pointer (some ⟨X.mb,0,none⟩),.int .i64 i] W4 fun e w'=>e=.returned (.bool bb)/\Kept aj W4 w':=by rw[<-hbb];exact hmem
  rw[hbb]at hB1;have sS:=ah hB1;have Qk:=ah E9;have KQ:=ah adI;clear hn1 hn2 hin hB1 E9 hmem adI hbb;go_wp2_with fail;refine KQ.out.mono ?_;rintro e W5 ⟨rfl,hk5⟩;have s5:=rH.out.quiet hk5;have q5:W5.cell? ⟨X.mb,10,none⟩=some (.map (some X.lo)):=s5.s.at'.cell (i:=10) rfl;obtain⟨W6,hr6,hs6,hk6⟩:=Qk.out W5 hk5;cases bb
  ·rw[if_neg (by decide)]at sS;rw[<-sS.out]at s5;have pN:=ah (s5.mono (Nat.le_succ c));clear s5 hr6 hs6 hk6 hk5 q5;have t1:=pN.out.h1.cell 1;have t6:=pN.out.h2.cell 0;simp only[aI,lF0,List.getElem?_cons_zero,List.getElem?_cons_succ]at t1 t6;rcases jI.out _ _ _ _ _ pN.out with⟨hlt,hcall⟩|⟨hlt,hfin⟩
   ·have gQ:=ah hcall;clear hcall;go_wp2_with fail;clear t1 t6;refine gQ.out.mono ?_;rintro e w9 ⟨rfl,hq⟩;have ZD:=ah hq;clear hq;go_wp2;go_end0;exact ZD.out
   ·have bU:=ah hfin;clear hfin;go_wp2_with fail;clear t1 t6;go_end0;exact bU.out
  ·rw[if_pos rfl]at sS;have s6:=s5.step (dJ.Ua s5.s.at' hs6 (Nat.le_succ _) hk6) s5.lb;have hB2:iJ M i x={pq M i x with lost:=fun y=>decide (y=(i:Int))||M.lost y,cnt:=M.cnt+1+1}:=sS.out;have age:qM w X M c w.heap.size 45 (aI x).toArray cb 25 #[.int .i64 ep,.slice A M.st.ms.length d,.int .u64 fl] W6 X (iJ M i x):=by rw[hB2];exact s6
   have oZ:=ah (age.mono (Nat.le_succ c));clear s5 s6 hs6 hk6 hk5 hB2 age;have t1:=oZ.out.h1.cell 1;have t6:=oZ.out.h2.cell 0;simp only[aI,lF0,List.getElem?_cons_zero,List.getElem?_cons_succ]at t1 t6;rcases jI.out _ _ _ _ _ oZ.out with⟨hlt,hcall⟩|⟨hlt,hfin⟩
   ·have gQ:=ah hcall;clear hcall;go_wp2_with fail;clear t1 t6;refine gQ.out.mono ?_;rintro e w9 ⟨rfl,hq⟩;have ZD:=ah hq;clear hq;go_wp2;go_end0;exact ZD.out
   ·have bU:=ah hfin;clear hfin;go_wp2_with fail;clear t1 t6;go_end0;exact bU.out
end
end bW
namespace bW
open aJ Vn Mst jQ IM kK gu
def gZ(p:aO):aG:=nt 6 0 p ⟨0,0,[]⟩
def granted(l:List aO)(id at':Int):List aO:=if dh.kL l id=0 then l++[⟨id,at',8⟩]else []
def jX(M:MR)(at':Int):MR:=if at'<M.st.hz then M else if bn M.st (gZ ⟨M.st.top+1,at',8⟩)≠0 then M else{writeM M (gZ ⟨M.st.top+1,at',8⟩)with pins:=granted M.pins (M.st.top+1) at'}
def rM(M:MR)(at':Int):Int×Int:=if at'<M.st.hz then (0,13)else if bn M.st (gZ ⟨M.st.top+1,at',8⟩)≠0 then (0,bn M.st (gZ ⟨M.st.top+1,at',8⟩))else(M.st.top+1,0)
section
variable{w w':World}{X X0:MX}{M M0:MR}{c k:Nat}
theorem Ql(F:Nat->Prop)(p:aO):KP F (gZ p):=⟨fun h=>absurd h (Nat.lt_irrefl _),fun h=>absurd h (Nat.lt_irrefl _),fun h=>absurd h (Nat.lt_irrefl _)⟩
theorem SK(l:List aO)(id at':Int):(granted l id at').length<=3:=by
 unfold granted;split
 ·rename_i h;unfold dh.kL at h;split at h
  ·cases h
  ·rw[lA0];simp only[List.length_singleton];omega
 ·exact Nat.zero_le _
theorem bC.jX(h:bC M k)(at':Int)(ha:0<=at'/\at'<=aW):bC (bW.jX M at') k:=by
 unfold bW.jX;split
 ·exact h
 ·split
  ·exact h
  ·have h1:=h.write (qC 6 0 ⟨M.st.top+1,at',8⟩ ha (by have:=h.st.inv.top;dsimp only;omega));refine⟨h1.st,SK _ _ _,fun p hp=> ?_,h1.tq,h1.last,h1.marks,h1.iO,h1.cnt⟩;dsimp only[granted]at hp;split at hp
   ·rcases List.mem_append.1 hp with y|y
    ·exact h.pin p y
    ·simp only[List.mem_singleton]at y;subst y;exact⟨by show(0:Int)<=8;decide,by show(8:Int)<=8;decide,ha.1,ha.2⟩
   ·cases hp
theorem acB(M:MR)(at':Int):(jX M at').out=M.out:=by
 unfold jX;split
 ·rfl
 ·split
  ·rfl
  ·exact qB _ _
theorem Nu(w:World)(A:Option Addr)(c:Nat)(l:List aO)(id at':Int)(hl:Src w 3 A l.length (aS l))(hlc:l.length<=c):
  Calls Tryz.prog 230 #[.slice A l.length c,.int .i64 id,.int .u64 at'] w fun e w'=>∃A' c' z,e=.returned (.tuple #[.slice A' (granted l id at').length c',.int .i64 z])/\aF 53 3 w.heap.size w' A' (granted l id at').length c' (aS (granted l id at'))/\Kept aj w w':=by
 by_cases h0:dh.kL l id=0
 ·refine(dh.abj w A c l id at' hl hlc h0).mono ?_;rintro e w' ⟨A',c',rfl,h1,h2⟩;have e1:granted l id at'=l++[⟨id,at',8⟩]:=if_pos h0;rw[e1,lA0];exact⟨A',c',0,rfl,h1,h2⟩
 ·refine(dh.XX w A c l id at' hl hlc h0).mono ?_;rintro e w' ⟨rfl,hk⟩;have e1:granted l id at'=[]:=if_neg h0;rw[e1];exact⟨none,0,_,rfl,aF.nil _ _ _ _,hk⟩
theorem KD(h:dJ w X M)(hb:dG X M.lg c)(hc:c<=4000)(hm:bC M k)(at':Int)(ha:0<=at'/\at'<=aW):
  Calls Tryz.prog 169 #[.pointer (some ⟨X.mb,0,none⟩),.int .u64 at'] w (dK w X M c (.tuple #[.int .i64 (rM M at').1,.int .i64 (rM M at').2]) (jX M at') 1):=by
 have q2:∀W,Kept aj w W->W.cell? ⟨X.mb,2,none⟩=some (.pointer (some ⟨X.sb,0,none⟩)):=fun W hW=>(h.quiet hW).cell (i:=2) rfl;have hho:∀W,Kept aj w W->Calls Tryz.prog 24 #[.pointer (some ⟨X.sb,0,none⟩)] W fun e w'=>e=.returned (.int .u64 M.st.hz)/\Kept aj W w':=fun W hW=>yG ((h.quiet hW).c 2);have hto:∀W,Kept aj w W->Calls Tryz.prog 229 #[.pointer (some ⟨X.sb,0,none⟩)] W fun e w'=>e=.returned (.int .i64 M.st.top)/\Kept aj W w':=fun W hW=>afr ((h.quiet hW).c 2);have htop:=hm.st.inv.top;by_cases h1:at'<M.st.hz
 ·have e1:jX M at'=M:=if_pos h1;have e2:rM M at'=(0,13):=if_pos h1;rw[e1,e2];have hfin:∀W,Kept aj w W->dK w X M c (.tuple #[.int .i64 0,.int .i64 13]) M 1 (.returned (.tuple #[.int .i64 0,.int .i64 13])) W:=fun W hW=>⟨rfl,X,Step.refl h hW,hb.mono (Nat.le_succ _)⟩;have z2:=q2 w (Kept.refl _ _);obtain⟨hz,hhz⟩:∃hz,M.st.hz=hz:=⟨_,rfl⟩;rw[hhz]at h1 hho;have HF:=ah hfin;have HH:=ah hho;clear hfin hho h hb hc hm ha q2 hto htop e1 e2 hhz;go_enter Tryz.func169,Tryz.ntmps169;go_wp2_with fail;refine(HH.out _ (Kept.refl _ _)).mono ?_;rintro e w2 ⟨rfl,hk⟩;have YC:=ah (HF.out _ hk);clear z2 hk;go_wp2;go_ret2;exact YC.out
 ·obtain⟨top,htp⟩:∃top,M.st.top=top:=⟨_,rfl⟩;have hwrap:IntKind.i64.wrap (top+1)=top+1:=IntWalk.i64_in _ (by rw[<-htp];omega);have hPM:jX M at'=if bn M.st (gZ ⟨top+1,at',8⟩)≠0 then M else{writeM M (gZ ⟨top+1,at',8⟩)with pins:=granted M.pins (top+1) at'}:=by unfold jX;rw[if_neg h1,htp]
  have hPV:rM M at'=if bn M.st (gZ ⟨top+1,at',8⟩)≠0 then (0,bn M.st (gZ ⟨top+1,at',8⟩))else(top+1,0):=by unfold rM;rw[if_neg h1,htp]
  rw[htp]at hto;have hwr:∀W,Kept aj w W->Calls Tryz.prog 20 #[.pointer (some ⟨X.mb,0,none⟩),.agg (aK (gZ ⟨top+1,at',8⟩)).toArray] W fun e w'=>e=.returned (.int .i64 (bn M.st (gZ ⟨top+1,at',8⟩)))/\∃X',Step W X M w' X' (writeM M (gZ ⟨top+1,at',8⟩))/\dG X' (writeM M (gZ ⟨top+1,at',8⟩)).lg (c+1):=fun W hW=>by refine(write_any (h.quiet hW) hb hc hm.st.inv.ok (gZ ⟨top+1,at',8⟩) (Jd _ _ _ _ _ _) (qC _ _ _ ha (by dsimp only;omega)) (Ql _ _)).mono ?_;rintro e w' ⟨rfl,h⟩;exact⟨rfl,h⟩
  have hgr:=Nu;obtain⟨N,hN⟩:∃N,N=gZ ⟨top+1,at',8⟩:=⟨_,rfl⟩;obtain⟨E,hE⟩:∃E,bn M.st (gZ ⟨top+1,at',8⟩)=E:=⟨_,rfl⟩;obtain⟨M1,hM1⟩:∃M1,writeM M (gZ ⟨top+1,at',8⟩)=M1:=⟨_,rfl⟩;have hMb:E≠0->M1=M:=fun h0=>by rw[<-hM1];exact if_neg (by rw[hE];exact h0)
  have GV:M1.pins=M.pins:=by rw[<-hM1];unfold writeM;split<;>rfl
  rw[hE,hM1]at hPM;rw[hE]at hPV;simp only[hE,hM1]at hwr;simp only[gZ,nt,aK,List.length_nil,jV]at hwr;obtain⟨Q,hQ⟩:∃Q,dK w X M c (.tuple #[.int .i64 (rM M at').1,.int .i64 (rM M at').2]) (jX M at') 1=Q:=⟨_,rfl⟩;rw[hQ];have adJ:E≠0->∀W X5,Step w X M W X5 M1->dG X5 M1.lg (c+1)->Q (.returned (.tuple #[.int .i64 0,.int .i64 E])) W:=fun h0 W X5 h1 h2=>by rw[hPM,hPV,if_pos h0,if_pos h0]at hQ;rw[<-hQ];rw[hMb h0]at h1 h2;exact⟨rfl,X5,h1,h2⟩
  have Fa:E=0->∀W X5,Step w X M W X5 {M1 with pins:=granted M.pins (top+1) at'}->dG X5 M1.lg (c+1)->Q (.returned (.tuple #[.int .i64 (top+1),.int .i64 0])) W:=fun h0 W X5 h1 h2=>by rw[hPM,hPV,if_neg (fun h=>h h0),if_neg (fun h=>h h0)]at hQ;rw[<-hQ];exact⟨rfl,X5,h1,h2⟩
  have HQB:=ah adJ;have ZE:=ah Fa;clear adJ Fa hQ;have z2:=q2 w (Kept.refl _ _);obtain⟨hz,hhz⟩:∃hz,M.st.hz=hz:=⟨_,rfl⟩;rw[hhz]at h1 hho;have HH:=ah hho;have HT:=ah hto;have HW:=ah hwr;have DX:=ah q2;have H:=ah h;have HB:=ah hb;have zM:=ah hMb;have xM:=ah GV;have HM:=ah hm;clear hho hto hwr q2 h hb hc hm ha hhz hPM hPV hE hM1 hMb GV htp htop hN N hgr;go_enter Tryz.func169,Tryz.ntmps169;go_wp2_with fail;refine(HH.out _ (Kept.refl _ _)).mono ?_;rintro e w2 ⟨rfl,hk2⟩;clear z2;have z2:=DX.out _ hk2;have aV:=ah hk2;clear hk2;go_wp2_with fail;refine(HT.out _ aV.out).mono ?_;rintro e w3 ⟨rfl,hk3⟩;clear z2;obtain⟨W4,zS⟩:∃W4,w3.alloc (.cells #[.int .i64 (top+1),.int .u64 at',.int .i64 8] 53)=W4:=⟨_,rfl⟩;have hk4:Kept aj w W4:=by rw[<-zS];(repeat'(first|(with_reducible first|exact ak|apply au|apply ay|apply aA|apply aB)|(exact aV.out.then hk3)|(right;simp;done)))
  have hn4:Has W4 w3.heap.size 53 #[.int .i64 (top+1),.int .u64 at',.int .i64 8]:=by rw[<-zS];exact Has.new _ _ _
  have hoff:¬dN X M w3.heap.size:=fun hf=>by have:=H.out.lt hf;have:=aV.out.size;have:=hk3.size;omega
  obtain⟨pb,hpb⟩:∃pb,w3.heap.size=pb:=⟨_,rfl⟩;rw[hpb]at hn4 hoff;have p0:W4.cell? ⟨pb,0,none⟩=some (.int .i64 (top+1)):=hn4.cell 0;have p1:W4.cell? ⟨pb,1,none⟩=some (.int .u64 at'):=hn4.cell 1;have p2:W4.cell? ⟨pb,2,none⟩=some (.int .i64 8):=hn4.cell 2;have hwr:=HW.out _ hk4;have qU:=ah hwr;have eY:=ah hk4;have Ud:=ah hn4;have pV:=ah hoff;clear hwr hk4 hn4 hoff hk3;go_wp2_with fail;clear p0 p1 p2 zS;refine qU.out.mono ?_;rintro e w5 ⟨rfl,X5,hst,hlb⟩;have s5:=(Step.refl H.out eY.out).trans hst;obtain⟨kG,uO⟩:=hst.has Ud.out pV.out;have hze:E=0\/E≠0:=by omega
  rcases hze with hE0|hE0;rotate_left
  ·have hz0:(E !=0)=true:=by simpa using hE0
   have HF:=ah (HQB.out hE0 _ _ s5 hlb);clear s5 hlb hst kG uO hE0;go_wp2;exact HF.out
  ·subst hE0;have ahR:=ah (ZE.out rfl);have z3:w5.cell? ⟨X.mb,3,none⟩=some (.slice X5.pA M.pins.length X5.pc):=by have:=s5.at'.cell (i:=3) (v:=.slice X5.pA M1.pins.length X5.pc) rfl;rw[s5.mb,xM.out]at this;exact this
   have f3:w5.frozen? ⟨X.mb,3,none⟩=false:=by have:=Has.frozen (s5.at'.c 0) 3;rw[s5.mb]at this;exact this
   have p5:w5.cell? ⟨pb,0,none⟩=some (.int .i64 (top+1)):=kG.cell 0;have hsrc:Src w5 3 X5.pA M.pins.length (aS M.pins):=by have:=Src.bF (s5.at'.c 3);rw[xM.out]at this;exact this
   have hcap:M.pins.length<=X5.pc:=by have:=(gJ (s5.at'.c 3)).1;rw[xM.out]at this;exact this
   have hgr:∀W,Kept aj w5 W->_:=fun W hW=>Nu W X5.pA X5.pc M.pins (top+1) at' (hsrc.kept hW (fun _ _ z=>z)) hcap;have hz3:∀W,Kept aj w5 W->W.cell? ⟨X.mb,3,none⟩=some (.slice X5.pA M.pins.length X5.pc)/\W.frozen? ⟨X.mb,3,none⟩=false/\W.cell? ⟨pb,0,none⟩=some (.int .i64 (top+1)):=fun W hW=>by
    refine⟨?_,?_,(kG.kept hW (fun z=>z)).cell 0⟩
    ·have:=(s5.at'.quiet hW).cell (i:=3) (v:=.slice X5.pA M1.pins.length X5.pc) rfl;rw[s5.mb,xM.out]at this;exact this
    ·have:=Has.frozen ((s5.at'.quiet hW).c 0) 3;rw[s5.mb]at this;exact this
   have Ed:=ah hgr;have HZ3:=ah hz3;have pN:=ah s5;have jP:=ah hlb;have uP:=ah kG;have ZF:=ah uO;clear hgr hz3 s5 hlb hst kG uO hsrc hcap;go_wp2_with fail;go_region_with (go_at_call 230;refine(Ed.out _ (by(repeat'(first|(with_reducible first|exact ak|apply au|apply ay|apply aA|apply aB)|(right;simp;done))))).mono ?_;rintro e w6 ⟨A6,c6,zz,rfl,ET,hk6⟩;have hkk:=Kept.then (F:=aj) (a:=w5) (by(repeat'(first|(with_reducible first|exact ak|apply au|apply ay|apply aA|apply aB)|(right;simp;done)))) hk6;obtain⟨z6,f6,p6⟩:=HZ3.out _ hkk;have yC:=ah ET;have kQ:=ah hkk;clear ET hk6 hkk)
   all_goals (
    clear z6 f6 z3 f3 p5
    have hne:¬X.mb=pb:=fun e=>ZF.out ⟨0,by rw[<-pN.out.mb]at e;exact e.symm⟩
    have hs6:=Step.BZ (pN.out.quiet kQ.out) yC.out.1 (fun k hk=>by have h1:=yC.out.2 k hk;have h2:=pN.out.k.size;have h3:w5.heap.size<=k:=h1;exact⟨Nat.le_trans h2 h3,fun hf=>by have:=pN.out.at'.lt hf;omega⟩)
    rw[pN.out.mb]at hs6
    have HF:=ah (ahR.out _ _ hs6 ⟨jP.out.n,jP.out.f,jP.out.l,jP.out.hd⟩)
    clear hs6
    go_wp2
    exact HF.out)
