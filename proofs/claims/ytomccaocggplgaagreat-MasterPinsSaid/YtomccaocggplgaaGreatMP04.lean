/- Part 5. -/
import Derived.Test.YtomccaocggplgaaGreatMP03
set_option linter.unusedSimpArgs false
set_option linter.unusedVariables false
set_option maxHeartbeats 32000000
set_option maxRecDepth 100000
namespace Go.Proofs.YtomccaocggplgaaGreat
open Go.RowKit
namespace Mst
open aJ
structure aG where
 k:Int
 n:Int
 at':Int
 ep:Int
 mA:Option Addr
 mc:Nat
 ms:List Mem
 fl:Int
 lA:Option Addr
 lc:Nat
 lg:List Int
 oA:Option Addr
 oc:Nat
 b:Ops.Batch
 ts:Int
 pin:aO
 said:kP
def aK(x:aG):List Value:=[.int .i64 x.k,.int .i64 x.n,.int .u64 x.at',.int .i64 x.ep,.slice x.mA x.ms.length x.mc,.int .u64 x.fl,.slice x.lA x.lg.length x.lc,.int .i64 x.b.cl,.int .i64 x.b.req,.slice x.oA x.b.ops.length x.oc,.int .u64 x.ts,.int .i64 x.pin.id,.int .u64 x.pin.at',.int .i64 x.pin.left,.int .i64 x.said.cl,.int .i64 x.said.req,.int .i64 x.said.e,.int .i64 x.said.pin]
abbrev fU(x:aG):Value:=.agg (aK x).toArray
structure iR(w:World)(x:aG):Prop where
 m:Src w 2 x.mA x.ms.length (aU x.ms)
 mc:x.ms.length<=x.mc
 ml:x.ms.length<=1000
 l:Src w 1 x.lA x.lg.length (ints x.lg)
 lc:x.lg.length<=x.lc
 ll:x.lg.length<=1000
 o:Src w 3 x.oA x.b.ops.length (Ops.cells x.b.ops)
theorem iR.kept{w w':World}{x:aG}(h:iR w x)(hk:Kept aj w w'):iR w' x:=⟨h.m.kept hk (fun _ _ z=>z),h.mc,h.ml,h.l.kept hk (fun _ _ z=>z),h.lc,h.ll,h.o.kept hk (fun _ _ z=>z)⟩
def aT(x:aG):Int:=
 if x.k=1 then (if chk x.ep x.ms=0 then nO x.lg else chk x.ep x.ms)
 else if x.k=2 then (if iG [x.n]=0 then Ops.chk x.b else iG [x.n])
 else if x.k=3\/x.k=4\/x.k=5\/x.k=7 then iG [x.n]
 else if x.k=6 then iG [x.pin.id,x.pin.left]
 else if x.k=8 then saidE x.said
 else 11
theorem Ro(w:World)(x:aG)(h:iR w x)(hk:x.k=1):Calls Tryz.prog 80 #[fU x] w fun e w'=>e=.returned (.int .i64 (aT x))/\Kept aj w w':=by
 obtain⟨k,n,at2,ep,mA,mc,ms,fl,lA,lc,lg,oA,oc,⟨ji,gK,ops⟩,ts,⟨p1,p2,p3⟩,⟨s1,s2,s3,s4⟩⟩:=x;obtain⟨h1,h2,h3,h4,h5,h6,h7⟩:=h;unfold aT fU aK;dsimp only at*
 subst hk;rw[if_pos rfl];have hc:=fun W (hW:Kept aj w W)=>rU W ep fl mA mc ms (h1.kept hW (fun _ _ z=>z)) h2 (by omega);have hg:=fun W (hW:Kept aj w W)=>Xn W lA lc lg (h4.kept hW (fun _ _ z=>z)) (by omega);obtain⟨t,ht⟩:∃t,chk ep ms=t:=⟨_,rfl⟩;obtain⟨g,hg2⟩:∃g,nO lg=g:=⟨_,rfl⟩;simp only[ht]at hc;simp only[hg2]at hg;rw[ht,hg2];have HC:=ah hc;have HG:=ah hg;clear hc hg ht hg2 h1 h2 h3 h4 h5 h6 h7;by_cases ht0:t=0
 ·have ht1:(t !=0)=false:=by simp[ht0]
  rw[if_pos ht0];clear ht0;go_enter Tryz.func80,Tryz.ntmps80;go_wp2_with fail;refine(HC.out _ (by(repeat'(first|(with_reducible first|exact ak|apply au|apply ay|apply aA|apply aB)|(right;simp;done))))).mono ?_;rintro e w2 ⟨rfl,hk0⟩;have hx:=((Has.new w 78 #[.int .i64 1,.int .i64 n,.int .u64 at2,.int .i64 ep,.slice mA ms.length mc,.int .u64 fl,.slice lA lg.length lc,.int .i64 ji,.int .i64 gK,.slice oA ops.length oc,.int .u64 ts,.int .i64 p1,.int .u64 p2,.int .i64 p3,.int .i64 s1,.int .i64 s2,.int .i64 s3,.int .i64 s4]).kept hk0 (fun z=>z)).cell 6;simp only[lF0,List.getElem?_cons_zero,List.getElem?_cons_succ]at hx;have hk2:=Kept.then (F:=aj) (a:=w) (by(repeat'(first|(with_reducible first|exact ak|apply au|apply ay|apply aA|apply aB)|(right;simp;done)))) hk0;have HK:=ah hk2;clear hk0 hk2;go_wp2_with fail;refine(HG.out _ HK.out).mono ?_;rintro e w3 ⟨rfl,hk0⟩;have bu:=ah (HK.out.then hk0);clear hk0;go_wp2;go_ret;exact⟨rfl,bu.out⟩
 ·have ht1:(t !=0)=true:=by simpa using ht0
  rw[if_neg ht0];clear ht0;go_enter Tryz.func80,Tryz.ntmps80;go_wp2_with fail;refine(HC.out _ (by(repeat'(first|(with_reducible first|exact ak|apply au|apply ay|apply aA|apply aB)|(right;simp;done))))).mono ?_;rintro e w2 ⟨rfl,hk0⟩;have hk2:=Kept.then (F:=aj) (a:=w) (by(repeat'(first|(with_reducible first|exact ak|apply au|apply ay|apply aA|apply aB)|(right;simp;done)))) hk0;have HK:=ah hk2;clear hk0 hk2;go_wp2;go_ret;exact⟨rfl,HK.out⟩
theorem Rq(w:World)(x:aG)(h:iR w x)(hk:x.k=2):Calls Tryz.prog 80 #[fU x] w fun e w'=>e=.returned (.int .i64 (aT x))/\Kept aj w w':=by
 obtain⟨k,n,at2,ep,mA,mc,ms,fl,lA,lc,lg,oA,oc,⟨ji,gK,ops⟩,ts,⟨p1,p2,p3⟩,⟨s1,s2,s3,s4⟩⟩:=x;obtain⟨h1,h2,h3,h4,h5,h6,h7⟩:=h;unfold aT fU aK;dsimp only at*
 subst hk;rw[if_neg (by decide),if_pos rfl];have hc:=fun W (hW:Kept aj w W)=>IW W ⟨ji,gK,ops⟩ oA oc ts (h7.kept hW (fun _ _ z=>z));have hr:=qo (World.alloc (w.alloc (.cells #[.int .i64 2,.int .i64 n,.int .u64 at2,.int .i64 ep,.slice mA ms.length mc,.int .u64 fl,.slice lA lg.length lc,.int .i64 ji,.int .i64 gK,.slice oA ops.length oc,.int .u64 ts,.int .i64 p1,.int .u64 p2,.int .i64 p3,.int .i64 s1,.int .i64 s2,.int .i64 s3,.int .i64 s4] 78)) (.cells #[.int .i64 n] 3)) (some ⟨w.heap.size+1,0,none⟩) 1 [n] (by have h:=BJ (w:=w.alloc (.cells #[.int .i64 2,.int .i64 n,.int .u64 at2,.int .i64 ep,.slice mA ms.length mc,.int .u64 fl,.slice lA lg.length lc,.int .i64 ji,.int .i64 gK,.slice oA ops.length oc,.int .u64 ts,.int .i64 p1,.int .u64 p2,.int .i64 p3,.int .i64 s1,.int .i64 s2,.int .i64 s3,.int .i64 s4] 78)) n;rwa[size_alloc]at h) (by simp);simp only[List.length_cons,List.length_nil]at hr;obtain⟨t,ht⟩:∃t,iG [n]=t:=⟨_,rfl⟩;rw[ht]at hr;obtain⟨g,hg2⟩:∃g,Ops.chk ⟨ji,gK,ops⟩=g:=⟨_,rfl⟩;rw[hg2,ht];simp only[hg2]at hc;have HR:=ah hr;have HC:=ah hc;clear hr hc ht hg2 h1 h2 h3 h4 h5 h6 h7;by_cases ht0:t=0
 ·have ht1:(t !=0)=false:=by simp[ht0]
  rw[if_pos ht0];clear ht0;go_enter Tryz.func80,Tryz.ntmps80;go_wp2_with fail;refine HR.out.mono ?_;rintro e w2 ⟨rfl,hk0⟩;have hx7:=(((Has.new w 78 #[.int .i64 2,.int .i64 n,.int .u64 at2,.int .i64 ep,.slice mA ms.length mc,.int .u64 fl,.slice lA lg.length lc,.int .i64 ji,.int .i64 gK,.slice oA ops.length oc,.int .u64 ts,.int .i64 p1,.int .u64 p2,.int .i64 p3,.int .i64 s1,.int .i64 s2,.int .i64 s3,.int .i64 s4]).alloc (.cells #[.int .i64 n] 3)).kept hk0 (fun z=>z)).cell 7;simp only[lF0,List.getElem?_cons_zero,List.getElem?_cons_succ]at hx7;have Tq:=(((Has.new w 78 #[.int .i64 2,.int .i64 n,.int .u64 at2,.int .i64 ep,.slice mA ms.length mc,.int .u64 fl,.slice lA lg.length lc,.int .i64 ji,.int .i64 gK,.slice oA ops.length oc,.int .u64 ts,.int .i64 p1,.int .u64 p2,.int .i64 p3,.int .i64 s1,.int .i64 s2,.int .i64 s3,.int .i64 s4]).alloc (.cells #[.int .i64 n] 3)).kept hk0 (fun z=>z)).cell 8;simp only[lF0,List.getElem?_cons_zero,List.getElem?_cons_succ]at Tq;have hx9:=(((Has.new w 78 #[.int .i64 2,.int .i64 n,.int .u64 at2,.int .i64 ep,.slice mA ms.length mc,.int .u64 fl,.slice lA lg.length lc,.int .i64 ji,.int .i64 gK,.slice oA ops.length oc,.int .u64 ts,.int .i64 p1,.int .u64 p2,.int .i64 p3,.int .i64 s1,.int .i64 s2,.int .i64 s3,.int .i64 s4]).alloc (.cells #[.int .i64 n] 3)).kept hk0 (fun z=>z)).cell 9;simp only[lF0,List.getElem?_cons_zero,List.getElem?_cons_succ]at hx9;have UJ:=(((Has.new w 78 #[.int .i64 2,.int .i64 n,.int .u64 at2,.int .i64 ep,.slice mA ms.length mc,.int .u64 fl,.slice lA lg.length lc,.int .i64 ji,.int .i64 gK,.slice oA ops.length oc,.int .u64 ts,.int .i64 p1,.int .u64 p2,.int .i64 p3,.int .i64 s1,.int .i64 s2,.int .i64 s3,.int .i64 s4]).alloc (.cells #[.int .i64 n] 3)).kept hk0 (fun z=>z)).cell 10;simp only[lF0,List.getElem?_cons_zero,List.getElem?_cons_succ]at UJ;have hk2:=Kept.then (F:=aj) (a:=w) (by(repeat'(first|(with_reducible first|exact ak|apply au|apply ay|apply aA|apply aB)|(right;simp;done)))) hk0;have HK:=ah hk2;clear hk0 hk2;go_wp2_with fail;refine(HC.out _ HK.out).mono ?_;rintro e w3 ⟨rfl,hk0⟩;have bu:=ah (HK.out.then hk0);clear hk0;go_wp2;go_ret;exact⟨rfl,bu.out⟩
 ·have ht1:(t !=0)=true:=by simpa using ht0
  rw[if_neg ht0];clear ht0;go_enter Tryz.func80,Tryz.ntmps80;go_wp2_with fail;refine HR.out.mono ?_;rintro e w2 ⟨rfl,hk0⟩;have hk2:=Kept.then (F:=aj) (a:=w) (by(repeat'(first|(with_reducible first|exact ak|apply au|apply ay|apply aA|apply aB)|(right;simp;done)))) hk0;have HK:=ah hk2;clear hk0 hk2;go_wp2;go_ret;exact⟨rfl,HK.out⟩
theorem Rt(w:World)(x:aG)(h:iR w x)(hk:x.k=3):Calls Tryz.prog 80 #[fU x] w fun e w'=>e=.returned (.int .i64 (aT x))/\Kept aj w w':=by
 obtain⟨k,n,at2,ep,mA,mc,ms,fl,lA,lc,lg,oA,oc,⟨ji,gK,ops⟩,ts,⟨p1,p2,p3⟩,⟨s1,s2,s3,s4⟩⟩:=x;obtain⟨h1,h2,h3,h4,h5,h6,h7⟩:=h;unfold aT fU aK;dsimp only at*
 subst hk;rw[if_neg (by decide),if_neg (by decide),if_pos (by decide)];have hr:=qo (World.alloc (w.alloc (.cells #[.int .i64 3,.int .i64 n,.int .u64 at2,.int .i64 ep,.slice mA ms.length mc,.int .u64 fl,.slice lA lg.length lc,.int .i64 ji,.int .i64 gK,.slice oA ops.length oc,.int .u64 ts,.int .i64 p1,.int .u64 p2,.int .i64 p3,.int .i64 s1,.int .i64 s2,.int .i64 s3,.int .i64 s4] 78)) (.cells #[.int .i64 n] 3)) (some ⟨w.heap.size+1,0,none⟩) 1 [n] (by have h:=BJ (w:=w.alloc (.cells #[.int .i64 3,.int .i64 n,.int .u64 at2,.int .i64 ep,.slice mA ms.length mc,.int .u64 fl,.slice lA lg.length lc,.int .i64 ji,.int .i64 gK,.slice oA ops.length oc,.int .u64 ts,.int .i64 p1,.int .u64 p2,.int .i64 p3,.int .i64 s1,.int .i64 s2,.int .i64 s3,.int .i64 s4] 78)) n;rwa[size_alloc]at h) (by simp);simp only[List.length_cons,List.length_nil]at hr;obtain⟨t,ht⟩:∃t,iG [n]=t:=⟨_,rfl⟩;rw[ht]at hr;rw[ht];have HR:=ah hr;clear hr ht h1 h2 h3 h4 h5 h6 h7;go_enter Tryz.func80,Tryz.ntmps80;go_wp2_with fail;refine HR.out.mono ?_;rintro e w2 ⟨rfl,hk0⟩;have hk2:=Kept.then (F:=aj) (a:=w) (by(repeat'(first|(with_reducible first|exact ak|apply au|apply ay|apply aA|apply aB)|(right;simp;done)))) hk0;have HK:=ah hk2;clear hk0 hk2;go_wp2;go_ret;exact⟨rfl,HK.out⟩
theorem Ru(w:World)(x:aG)(h:iR w x)(hk:x.k=4):Calls Tryz.prog 80 #[fU x] w fun e w'=>e=.returned (.int .i64 (aT x))/\Kept aj w w':=by
 obtain⟨k,n,at2,ep,mA,mc,ms,fl,lA,lc,lg,oA,oc,⟨ji,gK,ops⟩,ts,⟨p1,p2,p3⟩,⟨s1,s2,s3,s4⟩⟩:=x;obtain⟨h1,h2,h3,h4,h5,h6,h7⟩:=h;unfold aT fU aK;dsimp only at*
 subst hk;rw[if_neg (by decide),if_neg (by decide),if_pos (by decide)];have hr:=qo (World.alloc (w.alloc (.cells #[.int .i64 4,.int .i64 n,.int .u64 at2,.int .i64 ep,.slice mA ms.length mc,.int .u64 fl,.slice lA lg.length lc,.int .i64 ji,.int .i64 gK,.slice oA ops.length oc,.int .u64 ts,.int .i64 p1,.int .u64 p2,.int .i64 p3,.int .i64 s1,.int .i64 s2,.int .i64 s3,.int .i64 s4] 78)) (.cells #[.int .i64 n] 3)) (some ⟨w.heap.size+1,0,none⟩) 1 [n] (by have h:=BJ (w:=w.alloc (.cells #[.int .i64 4,.int .i64 n,.int .u64 at2,.int .i64 ep,.slice mA ms.length mc,.int .u64 fl,.slice lA lg.length lc,.int .i64 ji,.int .i64 gK,.slice oA ops.length oc,.int .u64 ts,.int .i64 p1,.int .u64 p2,.int .i64 p3,.int .i64 s1,.int .i64 s2,.int .i64 s3,.int .i64 s4] 78)) n;rwa[size_alloc]at h) (by simp);simp only[List.length_cons,List.length_nil]at hr;obtain⟨t,ht⟩:∃t,iG [n]=t:=⟨_,rfl⟩;rw[ht]at hr;rw[ht];have HR:=ah hr;clear hr ht h1 h2 h3 h4 h5 h6 h7;go_enter Tryz.func80,Tryz.ntmps80;go_wp2_with fail;refine HR.out.mono ?_;rintro e w2 ⟨rfl,hk0⟩;have hk2:=Kept.then (F:=aj) (a:=w) (by(repeat'(first|(with_reducible first|exact ak|apply au|apply ay|apply aA|apply aB)|(right;simp;done)))) hk0;have HK:=ah hk2;clear hk0 hk2;go_wp2;go_ret;exact⟨rfl,HK.out⟩
theorem Rw(w:World)(x:aG)(h:iR w x)(hk:x.k=5):Calls Tryz.prog 80 #[fU x] w fun e w'=>e=.returned (.int .i64 (aT x))/\Kept aj w w':=by
 obtain⟨k,n,at2,ep,mA,mc,ms,fl,lA,lc,lg,oA,oc,⟨ji,gK,ops⟩,ts,⟨p1,p2,p3⟩,⟨s1,s2,s3,s4⟩⟩:=x;obtain⟨h1,h2,h3,h4,h5,h6,h7⟩:=h;unfold aT fU aK;dsimp only at*
 subst hk;rw[if_neg (by decide),if_neg (by decide),if_pos (by decide)];have hr:=qo (World.alloc (w.alloc (.cells #[.int .i64 5,.int .i64 n,.int .u64 at2,.int .i64 ep,.slice mA ms.length mc,.int .u64 fl,.slice lA lg.length lc,.int .i64 ji,.int .i64 gK,.slice oA ops.length oc,.int .u64 ts,.int .i64 p1,.int .u64 p2,.int .i64 p3,.int .i64 s1,.int .i64 s2,.int .i64 s3,.int .i64 s4] 78)) (.cells #[.int .i64 n] 3)) (some ⟨w.heap.size+1,0,none⟩) 1 [n] (by have h:=BJ (w:=w.alloc (.cells #[.int .i64 5,.int .i64 n,.int .u64 at2,.int .i64 ep,.slice mA ms.length mc,.int .u64 fl,.slice lA lg.length lc,.int .i64 ji,.int .i64 gK,.slice oA ops.length oc,.int .u64 ts,.int .i64 p1,.int .u64 p2,.int .i64 p3,.int .i64 s1,.int .i64 s2,.int .i64 s3,.int .i64 s4] 78)) n;rwa[size_alloc]at h) (by simp);simp only[List.length_cons,List.length_nil]at hr;obtain⟨t,ht⟩:∃t,iG [n]=t:=⟨_,rfl⟩;rw[ht]at hr;rw[ht];have HR:=ah hr;clear hr ht h1 h2 h3 h4 h5 h6 h7;go_enter Tryz.func80,Tryz.ntmps80;go_wp2_with fail;refine HR.out.mono ?_;rintro e w2 ⟨rfl,hk0⟩;have hk2:=Kept.then (F:=aj) (a:=w) (by(repeat'(first|(with_reducible first|exact ak|apply au|apply ay|apply aA|apply aB)|(right;simp;done)))) hk0;have HK:=ah hk2;clear hk0 hk2;go_wp2;go_ret;exact⟨rfl,HK.out⟩
theorem Rx(w:World)(x:aG)(h:iR w x)(hk:x.k=7):Calls Tryz.prog 80 #[fU x] w fun e w'=>e=.returned (.int .i64 (aT x))/\Kept aj w w':=by
 obtain⟨k,n,at2,ep,mA,mc,ms,fl,lA,lc,lg,oA,oc,⟨ji,gK,ops⟩,ts,⟨p1,p2,p3⟩,⟨s1,s2,s3,s4⟩⟩:=x;obtain⟨h1,h2,h3,h4,h5,h6,h7⟩:=h;unfold aT fU aK;dsimp only at*
 subst hk;rw[if_neg (by decide),if_neg (by decide),if_pos (by decide)];have hr:=qo (World.alloc (w.alloc (.cells #[.int .i64 7,.int .i64 n,.int .u64 at2,.int .i64 ep,.slice mA ms.length mc,.int .u64 fl,.slice lA lg.length lc,.int .i64 ji,.int .i64 gK,.slice oA ops.length oc,.int .u64 ts,.int .i64 p1,.int .u64 p2,.int .i64 p3,.int .i64 s1,.int .i64 s2,.int .i64 s3,.int .i64 s4] 78)) (.cells #[.int .i64 n] 3)) (some ⟨w.heap.size+1,0,none⟩) 1 [n] (by have h:=BJ (w:=w.alloc (.cells #[.int .i64 7,.int .i64 n,.int .u64 at2,.int .i64 ep,.slice mA ms.length mc,.int .u64 fl,.slice lA lg.length lc,.int .i64 ji,.int .i64 gK,.slice oA ops.length oc,.int .u64 ts,.int .i64 p1,.int .u64 p2,.int .i64 p3,.int .i64 s1,.int .i64 s2,.int .i64 s3,.int .i64 s4] 78)) n;rwa[size_alloc]at h) (by simp);simp only[List.length_cons,List.length_nil]at hr;obtain⟨t,ht⟩:∃t,iG [n]=t:=⟨_,rfl⟩;rw[ht]at hr;rw[ht];have HR:=ah hr;clear hr ht h1 h2 h3 h4 h5 h6 h7;go_enter Tryz.func80,Tryz.ntmps80;go_wp2_with fail;refine HR.out.mono ?_;rintro e w2 ⟨rfl,hk0⟩;have hk2:=Kept.then (F:=aj) (a:=w) (by(repeat'(first|(with_reducible first|exact ak|apply au|apply ay|apply aA|apply aB)|(right;simp;done)))) hk0;have HK:=ah hk2;clear hk0 hk2;go_wp2;go_ret;exact⟨rfl,HK.out⟩
theorem Ry(w:World)(x:aG)(h:iR w x)(hk:x.k=6):Calls Tryz.prog 80 #[fU x] w fun e w'=>e=.returned (.int .i64 (aT x))/\Kept aj w w':=by
 obtain⟨k,n,at2,ep,mA,mc,ms,fl,lA,lc,lg,oA,oc,⟨ji,gK,ops⟩,ts,⟨p1,p2,p3⟩,⟨s1,s2,s3,s4⟩⟩:=x;obtain⟨h1,h2,h3,h4,h5,h6,h7⟩:=h;unfold aT fU aK;dsimp only at*
 subst hk;rw[if_neg (by decide),if_neg (by decide),if_neg (by decide),if_pos rfl];have hr:=qo (World.alloc (w.alloc (.cells #[.int .i64 6,.int .i64 n,.int .u64 at2,.int .i64 ep,.slice mA ms.length mc,.int .u64 fl,.slice lA lg.length lc,.int .i64 ji,.int .i64 gK,.slice oA ops.length oc,.int .u64 ts,.int .i64 p1,.int .u64 p2,.int .i64 p3,.int .i64 s1,.int .i64 s2,.int .i64 s3,.int .i64 s4] 78)) (.cells #[.int .i64 p1,.int .i64 p3] 3)) (some ⟨w.heap.size+1,0,none⟩) 2 [p1,p3] (by have h:=OA (w:=w.alloc (.cells #[.int .i64 6,.int .i64 n,.int .u64 at2,.int .i64 ep,.slice mA ms.length mc,.int .u64 fl,.slice lA lg.length lc,.int .i64 ji,.int .i64 gK,.slice oA ops.length oc,.int .u64 ts,.int .i64 p1,.int .u64 p2,.int .i64 p3,.int .i64 s1,.int .i64 s2,.int .i64 s3,.int .i64 s4] 78)) p1 p3;rwa[size_alloc]at h) (by simp);simp only[List.length_cons,List.length_nil]at hr;obtain⟨t,ht⟩:∃t,iG [p1,p3]=t:=⟨_,rfl⟩;rw[ht]at hr;rw[ht];have HR:=ah hr;clear hr ht h1 h2 h3 h4 h5 h6 h7;go_enter Tryz.func80,Tryz.ntmps80;go_wp2_with fail;refine HR.out.mono ?_;rintro e w2 ⟨rfl,hk0⟩;have hk2:=Kept.then (F:=aj) (a:=w) (by(repeat'(first|(with_reducible first|exact ak|apply au|apply ay|apply aA|apply aB)|(right;simp;done)))) hk0;have HK:=ah hk2;clear hk0 hk2;go_wp2;go_ret;exact⟨rfl,HK.out⟩
theorem Rz(w:World)(x:aG)(h:iR w x)(hk:x.k=8):Calls Tryz.prog 80 #[fU x] w fun e w'=>e=.returned (.int .i64 (aT x))/\Kept aj w w':=by
 obtain⟨k,n,at2,ep,mA,mc,ms,fl,lA,lc,lg,oA,oc,⟨ji,gK,ops⟩,ts,⟨p1,p2,p3⟩,⟨s1,s2,s3,s4⟩⟩:=x;obtain⟨h1,h2,h3,h4,h5,h6,h7⟩:=h;unfold aT fU aK;dsimp only at*
 subst hk;rw[if_neg (by decide),if_neg (by decide),if_neg (by decide),if_neg (by decide),if_pos rfl];have hr:=aaV (w.alloc (.cells #[.int .i64 8,.int .i64 n,.int .u64 at2,.int .i64 ep,.slice mA ms.length mc,.int .u64 fl,.slice lA lg.length lc,.int .i64 ji,.int .i64 gK,.slice oA ops.length oc,.int .u64 ts,.int .i64 p1,.int .u64 p2,.int .i64 p3,.int .i64 s1,.int .i64 s2,.int .i64 s3,.int .i64 s4] 78)) ⟨s1,s2,s3,s4⟩;obtain⟨t,ht⟩:∃t,saidE ⟨s1,s2,s3,s4⟩=t:=⟨_,rfl⟩;rw[ht]at hr⊢;dsimp only[pI]at hr;have HR:=ah hr;clear hr ht h1 h2 h3 h4 h5 h6 h7;go_enter Tryz.func80,Tryz.ntmps80;go_wp2_with fail;refine HR.out.mono ?_;rintro e w2 ⟨rfl,hk0⟩;have hk2:=Kept.then (F:=aj) (a:=w) (by(repeat'(first|(with_reducible first|exact ak|apply au|apply ay|apply aA|apply aB)|(right;simp;done)))) hk0;have HK:=ah hk2;clear hk0 hk2;go_wp2;go_ret;exact⟨rfl,HK.out⟩
theorem RD(w:World)(x:aG)(h:iR w x)(hk:x.k<1\/8<x.k):Calls Tryz.prog 80 #[fU x] w fun e w'=>e=.returned (.int .i64 (aT x))/\Kept aj w w':=by
 obtain⟨k,n,at2,ep,mA,mc,ms,fl,lA,lc,lg,oA,oc,⟨ji,gK,ops⟩,ts,⟨p1,p2,p3⟩,⟨s1,s2,s3,s4⟩⟩:=x;obtain⟨h1,h2,h3,h4,h5,h6,h7⟩:=h;unfold aT fU aK;dsimp only at*
 have e1:(k==1)=false:=by simp;omega
 have e2:(k==2)=false:=by simp;omega
 have e3:(k==3)=false:=by simp;omega
 have e4:(k==4)=false:=by simp;omega
 have e5:(k==5)=false:=by simp;omega
 have e6:(k==6)=false:=by simp;omega
 have e7:(k==7)=false:=by simp;omega
 have e8:(k==8)=false:=by simp;omega
 rw[if_neg (by omega),if_neg (by omega),if_neg (by omega),if_neg (by omega),if_neg (by omega)];clear h1 h2 h3 h4 h5 h6 h7 hk;go_enter Tryz.func80,Tryz.ntmps80;go_wp2;go_ret;exact⟨rfl,by(repeat'(first|(with_reducible first|exact ak|apply au|apply ay|apply aA|apply aB)|(right;simp;done)))⟩
theorem fB(w:World)(x:aG)(h:iR w x):Calls Tryz.prog 80 #[fU x] w fun e w'=>e=.returned (.int .i64 (aT x))/\Kept aj w w':=by
 by_cases h0:x.k<1\/8<x.k
 ·exact RD w x h h0
 by_cases h1:x.k=1
 ·exact Ro w x h h1
 by_cases h2:x.k=2
 ·exact Rq w x h h2
 by_cases h3:x.k=3
 ·exact Rt w x h h3
 by_cases h4:x.k=4
 ·exact Ru w x h h4
 by_cases h5:x.k=5
 ·exact Rw w x h h5
 by_cases h6:x.k=6
 ·exact Ry w x h h6
 by_cases h7:x.k=7
 ·exact Rx w x h h7
 exact Rz w x h (by omega)
end Mst
namespace gu
open aJ Ops yt Vn
theorem OB(w:World)(b c:Nat)(hc:isNum c=true):
  Calls Tryz.prog 156 #[.pointer (some ⟨b,0,none⟩),.int .i32 c] w fun e w'=>e=.returned (.pointer (some ⟨b,numAt c,none⟩))/\w=w':=by
 have h:c=101\/c=115\/c=114\/c=110\/c=109\/c=112:=of_decide_eq_true hc;clear hc;rcases h with rfl|rfl|rfl|rfl|rfl|rfl
 all_goals
  go_enter Tryz.func156,Tryz.ntmps156
  go_wp2
  go_ret
  exact⟨rfl,rfl⟩
theorem iV(w:World)(b c:Nat)(hl:c∈letters)(hc:isNum c=false):
  Calls Tryz.prog 156 #[.pointer (some ⟨b,0,none⟩),.int .i32 c] w fun e w'=>e=.returned (.pointer none)/\w=w':=by
 have h:c=67\/c=97\/c=102\/c=108\/c=69\/c=83\/c=66\/c=120\/c=107\/c=116\/c=82:=by unfold letters at hl;simp only[List.mem_cons,List.not_mem_nil,or_false]at hl;have h2:¬(c=101\/c=115\/c=114\/c=110\/c=109\/c=112):=of_decide_eq_false hc;omega
 clear hc hl;rcases h with rfl|rfl|rfl|rfl|rfl|rfl|rfl|rfl|rfl|rfl|rfl
 all_goals
  go_enter Tryz.func156,Tryz.ntmps156
  go_wp2
  go_ret
  exact⟨rfl,rfl⟩
theorem Lp(w:World)(k:Int)(h:isKind k=true):
  Calls Tryz.prog 89 #[.int .i64 k] w fun e w'=>e=.returned (.tuple #[.string (lets (partsOf k)),.bool true])/\Kept aj w w':=by
 have h0:1<=k/\k<=15:=of_decide_eq_true h;clear h;have h1:k=1\/k=2\/k=3\/k=4\/k=5\/k=6\/k=7\/k=8\/k=9\/k=10\/k=11\/k=12\/k=13\/k=14\/k=15:=by omega
 clear h0;rcases h1 with rfl|rfl|rfl|rfl|rfl|rfl|rfl|rfl|rfl|rfl|rfl|rfl|rfl|rfl|rfl
 all_goals
  go_enter Tryz.func89,Tryz.ntmps89
  go_wp2
  go_ret2
  exact⟨rfl,by(repeat'(first|(with_reducible first|exact ak|apply au|apply ay|apply aA|apply aB)|(right;simp;done)))⟩
theorem aaX(w:World)(k:Int)(h:isKind k=false):
  Calls Tryz.prog 89 #[.int .i64 k] w fun e w'=>e=.returned (.tuple #[.string emp,.bool false])/\Kept aj w w':=by
 have h0:¬(1<=k/\k<=15):=of_decide_eq_false h;clear h;by_cases h1:k<1
 ·go_enter Tryz.func89,Tryz.ntmps89;go_wp2;go_ret2;exact⟨rfl,by(repeat'(first|(with_reducible first|exact ak|apply au|apply ay|apply aA|apply aB)|(right;simp;done)))⟩
 ·have h2:16<=k:=by omega
  clear h0;go_enter Tryz.func89,Tryz.ntmps89;go_wp2;go_ret2;exact⟨rfl,by(repeat'(first|(with_reducible first|exact ak|apply au|apply ay|apply aA|apply aB)|(right;simp;done)))⟩
theorem wC(w:World)(s:ByteArray)(n:Int):Calls Tryz.prog 157 #[.string s,.int .i64 n] w fun e w'=>e=.returned (.int .i64 (if n<s.size then 3 else 0))/\w=w':=by
 by_cases h:n<s.size
 ·rw[if_pos h];go_enter Tryz.func157,Tryz.ntmps157;go_wp2;go_ret;exact⟨rfl,rfl⟩
 ·rw[if_neg h];go_enter Tryz.func157,Tryz.ntmps157;go_wp2;go_ret;exact⟨rfl,rfl⟩
theorem Hq(w:World)(n m:Int):Calls Tryz.prog 160 #[.int .i64 n,.int .i64 m] w fun e w'=>e=.returned (.int .i64 (if m<n then 6 else 0))/\w=w':=by
 by_cases h:m<n
 ·rw[if_pos h];go_enter Tryz.func160,Tryz.ntmps160;go_wp2;go_ret;exact⟨rfl,rfl⟩
 ·rw[if_neg h];go_enter Tryz.func160,Tryz.ntmps160;go_wp2;go_ret;exact⟨rfl,rfl⟩
theorem Xo(w:World)(n:Int)(v:Value)(h:n≠0):Calls Tryz.prog 159 #[.int .i64 n,v] w fun e w'=>e=.returned (.int .i64 n)/\w=w':=by
 have h2:(n !=0)=true:=by simpa using h
 clear h;go_enter Tryz.func159,Tryz.ntmps159;go_wp2;go_ret;exact⟨rfl,rfl⟩
theorem adw(w:World)(g:Nat)(cap:Value)(r:Int)(eg:∀args w,(callFunc g args).run Tryz.prog w=.ok (.enter g args) w)
  (hf:Calls Tryz.prog g #[cap] w fun e w'=>e=.returned (.int .i64 r)/\Kept aj w w'):
  Calls Tryz.prog 159 #[.int .i64 0,.func (.func g) #[] #[cap]] w fun e w'=>e=.returned (.int .i64 r)/\Kept aj w w':=by
 have HF:=ah hf;clear hf;go_enter Tryz.func159,Tryz.ntmps159;go_wp2_with fail;refine HF.out.mono ?_;rintro e w2 ⟨rfl,hk⟩;have HK:=ah hk;clear hk;go_wp2;go_ret;exact⟨rfl,HK.out⟩
theorem RE(w:World)(A:Option Addr)(c:Nat)(l:List lW)(hl:Src w 4 A l.length (yU l))(hlen:l.length<=1000000)(ho:∀y∈l,Src w 3 y.A y.ops.length (cells y.ops)):
  Calls Tryz.prog 162 #[.slice A l.length c] w fun e w'=>e=.returned (.int .i64 (fA (fun y=>Ops.chk (oW y)) l))/\Kept aj w w':=by
 have HL:=ah hl;clear hl;have hcall:=fun W (hW:Kept aj w W) y (hy:y∈l)=>Mst.IW W (oW y) y.A y.c y.ts ((ho y hy).kept hW (fun _ _ z=>z));have gQ:=ah hcall;clear hcall ho;obtain⟨r,hr⟩:∃r,fA (fun y=>Ops.chk (oW y)) l=r:=⟨_,rfl⟩;rw[hr];have HR:=ah hr;clear hr;go_enter Tryz.func162,Tryz.ntmps162;go_wp2_with fail;go_loopw [8] (fun v8 wr=>∃i:Nat,i<=l.length/\v8=.int .i64 i/\r=fA (fun y=>Ops.chk (oW y)) (l.drop i)/\Kept aj w wr) (fun v8 _=>l.length-(intOf v8).toNat)
 case atStart=>exact⟨0,Nat.zero_le _,rfl,HR.out.symm,Kept.refl _ _⟩
 case round=>
  obtain⟨i,hi,rfl,hrr,hk⟩:=hrel;have HK:=ah hk;clear hk;by_cases hil:i<l.length
  ·obtain⟨y,hy⟩:∃y,l[i]? =some y:=⟨_,lB0 hil⟩;obtain⟨ad,rfl,hl1,e0,e1,e2,e3⟩:=Lm (HL.out.kept HK.out (fun _ _ z=>z)) (by omega) i y hy;have hsa:=CO (fun y=>Ops.chk (oW y)) hy;have hcall:=gQ.out (wr.alloc (.cells #[.int .i64 y.cl,.int .i64 y.req,.slice y.A y.ops.length y.c,.int .u64 y.ts] 74)) (HK.out.alloc _) y (lC0 hy);rw[hsa]at hrr;obtain⟨t,ht⟩:∃t,Ops.chk (oW y)=t:=⟨_,rfl⟩;rw[ht]at hcall hrr;dsimp only[oW]at hcall;have HC:=ah hcall;have HRR:=ah hrr;clear hsa ht hy hcall hrr;go_wp2_with fail;refine HC.out.mono ?_;rintro e w5 ⟨rfl,hk0⟩;have dB:=ah ((HK.out.alloc _).then hk0);clear hk0;by_cases h0:t=0
   ·subst h0;have hrf:=HRR.out;rw[if_pos rfl]at hrf;have nP:=ah hrf;clear hrf HRR;go_wp2;go_roundw
    case rel=>exact⟨i+1,by omega,by go_num,nP.out,dB.out⟩
    case measure=>simp[intOf];omega
   ·have hrf:=HRR.out;rw[if_neg h0]at hrf;have nP:=ah hrf;clear hrf HRR;have h2:(t !=0)=true:=by simpa using h0
    clear h0;go_wp2;go_ret;exact⟨by rw[nP.out];rfl,dB.out⟩
  ·obtain rfl:i=l.length:=by omega
   rw[List.drop_length,fA]at hrr;have HRR:=ah hrr;clear hrr;go_wp2;go_ret;exact⟨by rw[HRR.out];rfl,HK.out⟩
theorem Xp(w:World)(A:Option Addr)(c:Nat)(l:List mW)(hl:Src w 2 A l.length (aS l))(hlen:l.length<=1000000):
  Calls Tryz.prog 164 #[.slice A l.length c] w fun e w'=>e=.returned (.int .i64 (fA qQ l))/\Kept aj w w':=by
 have HL:=ah hl;clear hl;obtain⟨r,hr⟩:∃r,fA qQ l=r:=⟨_,rfl⟩;rw[hr];have HR:=ah hr;clear hr;go_enter Tryz.func164,Tryz.ntmps164;go_wp2_with fail;go_loopw [9] (fun v9 wr=>∃i:Nat,i<=l.length/\v9=.int .i64 i/\r=fA qQ (l.drop i)/\Kept aj w wr) (fun v9 _=>l.length-(intOf v9).toNat)
 case atStart=>exact⟨0,Nat.zero_le _,rfl,HR.out.symm,Kept.refl _ _⟩
 case round=>
  obtain⟨i,hi,rfl,hrr,hk⟩:=hrel;have HK:=ah hk;clear hk;by_cases hil:i<l.length
  ·obtain⟨y,hy⟩:∃y,l[i]? =some y:=⟨_,lB0 hil⟩;obtain⟨ad,rfl,hl1,e0,e1⟩:=pair_cells (HL.out.kept HK.out (fun _ _ z=>z)) (by omega) i y hy;have hsa:=CO qQ hy;rw[hsa]at hrr;have hkc:=IV y.key;have hlo:=fun W=>wC W y.val 8;unfold qQ at hrr;change∀w:World,Calls Tryz.prog 226 #[.string y.key] w fun e w'=>e=.returned (.int .i64 (keyE y.key))/\w=w' at hkc;obtain⟨t,ht⟩:∃t,keyE y.key=t:=⟨_,rfl⟩;rw[ht]at hkc hrr;obtain⟨u,hu⟩:∃u:Int,(if(8:Int)<(y.val.size:Int)then (3:Int)else 0)=u:=⟨_,rfl⟩;rw[hu]at hlo;have hu2:(if 8<y.val.size then (3:Int)else 0)=u:=by rw[<-hu];by_cases h8:8<y.val.size;rw[if_pos h8,if_pos (by omega)];rw[if_neg h8,if_neg (by omega)]
   rw[hu2]at hrr;have HC:=ah hkc;have Xq:=ah hlo;have HRR:=ah hrr;clear hsa ht hu hu2 hy hkc hlo hrr;go_wp2_with fail;refine(HC.out _).mono ?_;rintro e w5 ⟨rfl,rfl⟩;by_cases h0:t=0
   ·subst h0;have hrf:=HRR.out;rw[if_neg (show¬((0:Int)≠0)from fun h=>h rfl)]at hrf;have nP:=ah hrf;clear hrf HRR;go_wp2_with fail;refine(Xq.out _).mono ?_;rintro e w5 ⟨rfl,rfl⟩;by_cases h1:u=0
    ·subst h1;have hrf:=nP.out;rw[if_pos rfl]at hrf;have nP:=ah hrf;clear hrf;go_wp2;go_roundw
     case rel=>exact⟨i+1,by omega,by go_num,nP.out,by(repeat'(first|(with_reducible first|exact ak|apply au|apply ay|apply aA|apply aB)|(exact HK.out)|(right;simp;done)))⟩
     case measure=>simp[intOf];omega
    ·have hrf:=nP.out;rw[if_neg h1]at hrf;have nP:=ah hrf;clear hrf;have h2:(u !=0)=true:=by simpa using h1
     clear h1;go_wp2;go_ret;exact⟨by rw[nP.out];rfl,by(repeat'(first|(with_reducible first|exact ak|apply au|apply ay|apply aA|apply aB)|(exact HK.out)|(right;simp;done)))⟩
   ·have hrf:=HRR.out;rw[if_pos h0,if_neg h0]at hrf;have nP:=ah hrf;clear hrf HRR;have h2:(t !=0)=true:=by simpa using h0
    clear h0;go_wp2;go_ret;exact⟨by rw[nP.out];rfl,by(repeat'(first|(with_reducible first|exact ak|apply au|apply ay|apply aA|apply aB)|(exact HK.out)|(right;simp;done)))⟩
  ·obtain rfl:i=l.length:=by omega
   rw[List.drop_length,fA]at hrr;have HRR:=ah hrr;clear hrr;go_wp2;go_ret;exact⟨by rw[HRR.out];rfl,HK.out⟩
