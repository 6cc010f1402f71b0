/- Part 20. -/
import Derived.Test.YtgbigpdiacjbgaaGreatKP18
set_option linter.unusedSimpArgs false
set_option linter.unusedVariables false
set_option maxHeartbeats 32000000
set_option maxRecDepth 100000
namespace Go.Proofs.YtgbigpdiacjbgaaGreat
open Go.RowKit
namespace Mst
open bg
theorem EX(l:List Mem)(k:Nat):(dL l).take (k*2)=dL (l.take k):=by
 induction l generalizing k with
 |nil=>cases k<;>rfl
 |cons m l ih=>
  cases k with
  |zero=>rfl
  |succ k=>
   rw[show(k+1)*2=k*2+2 by omega,List.take_succ_cons];show List.take (k*2+2) (.int .i64 m.1::.int .i64 m.2::dL l)=.int .i64 m.1::.int .i64 m.2::dL (l.take k);rw[List.take_succ_cons,List.take_succ_cons,ih]
theorem Src.aaL{w:World}{A:Option Addr}{l:List Mem}(h:Src w 2 A l.length (dL l)){k:Nat}(hk:k<=l.length):Src w 2 A (l.take k).length (dL (l.take k)):=by have h1:=h.take hk;rw[EX]at h1;rwa[List.length_take,Nat.min_eq_left hk]
theorem CJ(w:World)(ep fl:Int)(A:Option Addr)(c:Nat)(l:List Mem)(hl:Src w 2 A l.length (dL l))(hlc:l.length<=c)(hlen:l.length<=1000000):
  Calls Tryz.prog 138 #[zL ep A l.length c fl] w fun e w'=>e=.returned (.int .i64 (chk ep l))/\Kept aj w w':=by
 have HL:=ah hl;clear hl;by_cases h1:ep<1
 ·have hr:chk ep l=5:=by unfold chk;rw[if_pos (.inl h1)]
  have HR:=ah hr;clear hr;go_enter Tryz.func138,Tryz.ntmps138;go_wp2;go_ret;exact⟨by rw[HR.out];rfl,(Kept.refl _ _).alloc _⟩
 by_cases h2:1073741824<ep
 ·have hr:chk ep l=5:=by unfold chk;rw[if_pos (.inr h2)]
  have HR:=ah hr;clear hr;go_enter Tryz.func138,Tryz.ntmps138;go_wp2;go_ret;exact⟨by rw[HR.out];rfl,(Kept.refl _ _).alloc _⟩
 by_cases h3:l.length=0
 ·have hr:chk ep l=7:=by unfold chk;rw[if_neg (by omega),if_pos h3]
  have HR:=ah hr;clear hr;rw[h3];clear h3;go_enter Tryz.func138,Tryz.ntmps138;go_wp2;go_ret;exact⟨by rw[HR.out];rfl,(Kept.refl _ _).alloc _⟩
 have h3':((l.length:Int)==0)=false:=by rw[beq_eq_false_iff_ne];omega
 by_cases h4:4<l.length
 ·have hr:chk ep l=6:=by unfold chk;rw[if_neg (by omega),if_neg h3,if_pos h4]
  have HR:=ah hr;clear hr;have h4':(4:Int)<l.length:=by omega
  clear h3;go_enter Tryz.func138,Tryz.ntmps138;go_wp2;go_ret;exact⟨by rw[HR.out];rfl,(Kept.refl _ _).alloc _⟩
 have hr:chk ep l=lX (l.take 0) (l.drop 0):=by unfold chk;rw[if_neg (by omega),if_neg h3,if_neg h4];rfl
 have HR:=ah hr;clear hr;have h4':¬(4:Int)<l.length:=by omega
 have hnew:=Has.new w 57 #[.int .i64 ep,.slice A l.length c,.int .u64 fl];have HN:=ah hnew;clear hnew;clear h3 h4;go_enter Tryz.func138,Tryz.ntmps138;go_wp2_with fail;go_loopw [3,4,5,28] (fun _ _ _ v28 wr=>∃i:Nat,i<=l.length/\v28=.int .i64 i/\Has wr w.heap.size 57 #[.int .i64 ep,.slice A l.length c,.int .u64 fl]/\Kept aj w wr/\chk ep l=lX (l.take i) (l.drop i)) (fun _ _ _ v28 _=>l.length-(intOf v28).toNat)
 case atStart=>exact⟨0,Nat.zero_le _,rfl,HN.out,(Kept.refl _ _).alloc _,HR.out⟩
 case round=>
  obtain⟨i,hi,rfl,hh,hk,he⟩:=hrel;have hlt0:=hh.lt;have hsz:=hk.size;have e0:wr.cell? ⟨w.heap.size,1,none⟩=some (.slice A l.length c):=hh.cell 1;have HH:=ah hh;clear hh;have HK:=ah hk;clear hk;have HE:=ah he;clear he;by_cases hil:i<l.length
  ·obtain⟨m,hm⟩:∃m,l[i]? =some m:=⟨_,lB0 hil⟩;obtain⟨ad,hA,had,d0,d1⟩:=qX (HL.out.kept HK.out (fun _ _ x=>x)) (by omega) i m hm;subst hA;have hone:=fun W (hW:Kept aj wr W)=>one_any W m (some ad) c (l.take i) (Src.aaL (HL.out.kept (HK.out.then hW) (fun _ _ x=>x)) hi) (by rw[List.length_take];omega);rw[show(l.take i).length=i by rw[List.length_take];omega]at hone;obtain⟨t,ht⟩:∃t,rZ m (l.take i)=t:=⟨_,rfl⟩;rw[ht]at hone;have HM:=ah (And.intro hm ht);clear hm ht;have HO:=ah hone;clear hone;have b0:(0:Int)<=(i:Int):=by omega
   have b1:(i:Int)<=(c:Int):=by omega
   have b2:i<=c:=by omega
   obtain⟨m1,m2⟩:=m;dsimp only[zK]at d0 d1 HO;have q0:(wr.alloc (.cells #[.int .i64 m1,.int .i64 m2] 175)).cell? ⟨wr.heap.size,0,none⟩=some (.int .i64 m1):=(Has.new wr 175 #[.int .i64 m1,.int .i64 m2]).cell 0;have q1:(wr.alloc (.cells #[.int .i64 m1,.int .i64 m2] 175)).cell? ⟨wr.heap.size,1,none⟩=some (.int .i64 m2):=(Has.new wr 175 #[.int .i64 m1,.int .i64 m2]).cell 1;have q2:(wr.alloc (.cells #[.int .i64 m1,.int .i64 m2] 175)).cell? ⟨w.heap.size,1,none⟩=some (.slice (some ad) l.length c):=(HH.out.alloc _).cell 1
   have hq:∀W,Kept aj (wr.alloc (.cells #[.int .i64 m1,.int .i64 m2] 175)) W->W.cell? ⟨wr.heap.size,0,none⟩=some (.int .i64 m1)/\W.cell? ⟨wr.heap.size,1,none⟩=some (.int .i64 m2)/\W.cell? ⟨w.heap.size,1,none⟩=some (.slice (some ad) l.length c):=fun W hW=>
    ⟨((Has.new wr 175 #[.int .i64 m1,.int .i64 m2]).kept hW (fun z=>z)).cell 0,((Has.new wr 175 #[.int .i64 m1,.int .i64 m2]).kept hW (fun z=>z)).cell 1,((HH.out.alloc _).kept hW (fun z=>z)).cell 1⟩
   have HQ:=ah hq;clear hq;go_wp2_with fail
   go_region_held3 (fun W=>W.cell? ⟨wr.heap.size,0,none⟩=some (.int .i64 m1)/\W.cell? ⟨wr.heap.size,1,none⟩=some (.int .i64 m2)/\W.cell? ⟨w.heap.size,1,none⟩=some (.slice (some ad) l.length c))
    (first|with_reducible exact q3|(refine HQ.out _ ?_;(repeat'(first|(with_reducible first|exact ay|apply aA|apply aB|apply aC|apply aF)|(right;simp;done)))))
    (first|(go_at_call 174;refine(HO.out _ (by(repeat'(first|(with_reducible first|exact ay|apply aA|apply aB|apply aC|apply aF)|(right;simp;done))))).mono ?_;rintro e w5 ⟨rfl,hk0⟩;have q3:=HQ.out w5 (Kept.then (by(repeat'(first|(with_reducible first|exact ay|apply aA|apply aB|apply aC|apply aF)|(right;simp;done)))) hk0);have hk5:=Kept.then (F:=aj) (a:=wr) (by(repeat'(first|(with_reducible first|exact ay|apply aA|apply aB|apply aC|apply aF)|(right;simp;done)))) hk0;clear hk0;have dK:=ah hk5;clear hk5))
   clear q0 q1 q2 d0 d1 HQ HO had;by_cases ht0:t=0
   ·have ht1:(t !=0)=false:=by simp[ht0]
    have hs:=HE.out.trans (Dy HM.out.1 (HM.out.2.trans ht0));have HS:=ah hs;clear hs ht0;go_wp2;go_roundw
    case rel=>exact⟨i+1,by omega,by go_num,HH.out.kept dK.out (fun z=>z),HK.out.then dK.out,HS.out⟩
    case measure=>simp[intOf];omega
   ·have ht1:(t !=0)=true:=by simpa using ht0
    have hs:=HE.out.trans ((qN HM.out.1 (by rw[HM.out.2];exact ht0)).trans HM.out.2);have HS:=ah hs;clear hs ht0;go_wp2;go_ret;exact⟨by rw[HS.out];rfl,HK.out.then dK.out⟩
  ·obtain rfl:i=l.length:=by omega
   have hr:chk ep l=0:=by rw[HE.out,List.drop_length];rfl
   have HR:=ah hr;clear hr;go_wp2;go_ret;exact⟨by rw[HR.out];rfl,HK.out⟩
end Mst
namespace qh
open Vn iI bg Ops Mst
def D3(s:ByteArray)(r:RS):Mem×RS:=((((aG s 3 r).1:Int),((aG s 1073741824 (aG s 3 r).2).1:Int)),(aG s 1073741824 (aG s 3 r).2).2)
def iD(s:ByteArray):Nat->RS->List Mem×RS
 |0,r=>([],r)
 |k+1,r=>((iD s k r).1++[(D3 s (iD s k r).2).1],(D3 s (iD s k r).2).2)
theorem D4(s:ByteArray)(r:RS):∀k,(iD s k r).1.length=k:=by
 intro k;induction k with
 |zero=>rfl
 |succ k ih=>rw[iD];simp[ih]
structure O4 where
 ep:Int
 ms:List Mem
 fl:Int
def zy:O4:=⟨0,[],0⟩
def uj(s:ByteArray):O4×Int:=
 let c:=aG s 1073741824 (0,0)
 let n:=aG s 4 c.2
 let l:=iD s n.1 n.2
 let f:=bD s l.2
 if iJ s f.2≠0 then (zy,iJ s f.2)else if bg.chk c.1 l.1≠0 then (zy,bg.chk c.1 l.1)else(⟨c.1,l.1,f.1⟩,0)
def yw(w:World)(s:ByteArray)(e:Ending)(w':World):Prop:=
 ∃A c,e=.returned (.tuple #[zL (uj s).1.ep A (uj s).1.ms.length c (uj s).1.fl,.int .i64 (uj s).2])/\Src w' 2 A (uj s).1.ms.length (dL (uj s).1.ms)/\(uj s).1.ms.length<=c/\c<=maxLen/\(∀ad,A=some ad->w.heap.size<=ad.block)/\Kept aj w w'
def St(w:World)(s:ByteArray)(g x y B:Nat)(c q:Int)(r:RS)(A:Option Addr)(cap:Nat)(l:List Mem)(W:World):Prop:=
 iH W g s r/\Has W x 57 #[.int .i64 c,.slice A l.length cap,.int .u64 q]/\Has W y 57 #[.int .i64 0,.slice none 0 0,.int .u64 0]/\bV 175 2 B W A l.length cap (dL l)/\Kept aj w W
theorem E6(l:List Mem)(o:Mem):dL (l++[o])=dL l++[.int .i64 o.1,.int .i64 o.2]:=by unfold dL;rw[List.flatMap_append];simp[JJ]
section
variable{w W W':World}{s:ByteArray}{g x y B cap:Nat}{c q:Int}{r r':RS}{A:Option Addr}{l:List Mem}{v:Value}{e:Ending}
theorem St.read(o:Ord w g x y B)(h:St w s g x y B c q r A cap l W)(hr:zx W g s v r' e W'):e=.returned v/\St w s g x y B c q r' A cap l W'/\Kept (fun k=>k=g) W W':=by obtain⟨h1,h2,h3,h4,h5⟩:=h;obtain⟨he,g1,g2⟩:=hr;refine⟨he,⟨g1,h2.kept g2 (fun e=>o.gx e.symm),h3.kept g2 (fun e=>o.gy e.symm),⟨aP h4.1 g2 (fun k hk e=> ?_),h4.2⟩,h5.trans g2 fun i hi=>by rw[hi];exact .inr o.wg⟩,g2⟩;have:=h4.2 k hk;have:=o.gB;omega
theorem St.keep(h:St w s g x y B c q r A cap l W)(hk:Kept aj W W'):St w s g x y B c q r A cap l W':=
 ⟨h.1.kept hk (fun z=>z),h.2.1.kept hk (fun z=>z),h.2.2.1.kept hk (fun z=>z),h.2.2.2.1.kept hk,h.2.2.2.2.then hk⟩
theorem St.ge(o:Ord w g x y B)(h:St w s g x y B c q r A cap l W):B<=W.heap.size:=by have:=h.2.1.lt;have:=o.Bx;omega
theorem St.row(h:St w s g x y B c q r A cap l W):∀k,(Value.slice A l.length cap).ownBlock=some k->k<W.heap.size:=fun k hk=>jB h.2.2.2.1.1 hk
theorem St.FM{q':Int}(o:Ord w g x y B)(h:St w s g x y B c q r A cap l W):St w s g x y B c q' r A cap l (W.setCell ⟨x,2,none⟩ (.int .u64 q')):=by obtain⟨h1,h2,h3,h4,h5⟩:=h;have hk:Kept (fun k=>k=x) W (W.setCell ⟨x,2,none⟩ (.int .u64 q')):=(Kept.refl _ W).put (.inl rfl);refine⟨h1.kept hk o.gx,Has.aQ h2 rfl,h3.kept hk (fun e=>o.xy e.symm),⟨aP h4.1 hk (fun k hk e=> ?_),h4.2⟩,h5.trans hk fun i hi=>by rw[hi];exact .inr o.wx⟩;have:=h4.2 k hk;have:=o.xB;omega
theorem St.far(o:Ord w g x y B)(h:St w s g x y B c q r A cap l W){z:Nat}(hz:B<=z)(hr:∀k,(Value.slice A l.length cap).ownBlock=some k->k<z)(i:Nat)(u:Value):St w s g x y B c q r A cap l (W.setCell ⟨z,i,none⟩ u):=by obtain⟨h1,h2,h3,h4,h5⟩:=h;have hk:Kept (fun k=>k=z) W (W.setCell ⟨z,i,none⟩ u):=(Kept.refl _ W).put (.inl rfl);have b1:=o.gB;have b2:=o.xB;have b3:=o.yB;have b4:=o.wg;refine⟨h1.kept hk (by omega),h2.kept hk (by omega),h3.kept hk (by omega),⟨aP h4.1 hk (fun k hk e=> ?_),h4.2⟩,h5.trans hk fun i hi=>by rw[hi];exact .inr (by omega)⟩;have:=hr k hk;omega
theorem St.append(o:Ord w g x y B)(h:St w s g x y B c q r A cap l W){W1:World}(hW:Kept aj W W1){A':Option Addr}{cap':Nat}{w6:World}{p:Mem}(ho:w6.ownsRow 0 175 2 (.slice A' (l.length+1) cap') (l.length+1) (dL l++[.int .i64 p.1,.int .i64 p.2]))
  (hg:W1.grownBy w6 (Value.slice A l.length cap).ownBlock) (ha:(Value.slice A' (l.length+1) cap').ownBlock=(Value.slice A l.length cap).ownBlock\/(Value.slice A' (l.length+1) cap').ownBlock=some W1.heap.size):
  Has w6 x 57 #[.int .i64 c,.slice A l.length cap,.int .u64 q]/\St w s g x y B c q r A' cap' (l++[p]) (w6.setCell ⟨x,1,none⟩ (.slice A' (l.length+1) cap')):=by
 have hge:=h.ge o;obtain⟨h1,h2,h3,h4,h5⟩:=h;have hz1:=hW.size;have hk:Kept (fun k=>(Value.slice A l.length cap).ownBlock=some k) W w6:=(hW.mono fun _ z=>z.elim).grown hg (fun k hk=> .inl hk);have b1:=o.gB;have b2:=o.xB;have b3:=o.yB;have hn:∀z,z<B->¬(Value.slice A l.length cap).ownBlock=some z:=fun z hz e=>by have:=h4.2 z e;omega
 have g1:=h1.kept hk (hn g b1);have g2:=h2.kept hk (hn x b2);have g3:=h3.kept hk (hn y b3);have g5:Kept aj w w6:=h5.trans hk fun i hi=> .inr (by have:=h4.2 i hi;have:=o.wg;omega);have hk2:Kept (fun k=>k=x) w6 (w6.setCell ⟨x,1,none⟩ (.slice A' (l.length+1) cap')):=(Kept.refl _ w6).put (.inl rfl);have hnew:bV 175 2 B w6 A' (l++[p]).length cap' (dL (l++[p])):=by
  rw[E6,lA0]
  exact⟨ho,fun k hk=>by
   rcases ha with e|e
   ·exact h4.2 k (e.symm.trans hk)
   ·have hk':(Value.slice A' (l.length+1) cap').ownBlock=some k:=hk;rw[hk']at e;injection e with e;omega⟩
 refine⟨g2,g1.kept hk2 o.gx,Has.aQ g2 (by simp),g3.kept hk2 (fun e=>o.xy e.symm),⟨aP hnew.1 hk2 (fun k hk e=> ?_),hnew.2⟩,g5.trans hk2 fun i hi=>by rw[hi];exact .inr o.wx⟩;have:=hnew.2 k hk;omega
theorem St.cells(h:St w s g x y B c q r A cap l W):(W.cell? ⟨x,0,none⟩=some (.int .i64 c)/\W.cell? ⟨x,1,none⟩=some (.slice A l.length cap)/\W.cell? ⟨x,2,none⟩=some (.int .u64 q))/\(W.frozen? ⟨x,1,none⟩=false/\W.frozen? ⟨x,2,none⟩=false)/\
  (W.cell? ⟨y,0,none⟩=some (.int .i64 0)/\W.cell? ⟨y,1,none⟩=some (.slice none 0 0)/\W.cell? ⟨y,2,none⟩=some (.int .u64 0))/\(W.frozen? ⟨y,0,none⟩=false/\W.frozen? ⟨y,1,none⟩=false/\W.frozen? ⟨y,2,none⟩=false):=
 ⟨⟨h.2.1.cell 0,h.2.1.cell 1,h.2.1.cell 2⟩,⟨h.2.1.frozen 1,h.2.1.frozen 2⟩,⟨h.2.2.1.cell 0,h.2.2.1.cell 1,h.2.2.1.cell 2⟩,h.2.2.1.frozen 0,h.2.2.1.frozen 1,h.2.2.1.frozen 2⟩
end
theorem XT(w:World)(s:ByteArray)(hs:s.size<=maxLen):Calls Tryz.prog 98 #[.string s] w (yw w s):=by
 obtain⟨cq,hcq⟩:∃cq,aG s 1073741824 (0,0)=cq:=⟨_,rfl⟩;obtain⟨nq,hnq⟩:∃nq,aG s 4 cq.2=nq:=⟨_,rfl⟩;have hn4:nq.1<=4:=by rw[<-hnq];exact jG _ _ _
 have hc4:cq.1<=1073741824:=by rw[<-hcq];exact jG _ _ _
 obtain⟨c,r1⟩:=cq;obtain⟨n,r3⟩:=nq;dsimp only at hnq hn4 hc4;have hof:uj s=if iJ s (bD s (iD s n r3).2).2≠0 then (zy,iJ s (bD s (iD s n r3).2).2)else if bg.chk c (iD s n r3).1≠0 then (zy,bg.chk c (iD s n r3).1)else(⟨c,(iD s n r3).1,(bD s (iD s n r3).2).1⟩,0):=by unfold uj;simp only[hcq,hnq]
 have dw:=ah hof;clear hof;have BN:=ah (And.intro hcq hnq);clear hcq hnq;go_enter Tryz.func98,Tryz.ntmps98;go_wp2_with fail;refine(open_any _ _).mono ?_;rintro e w2 ⟨rfl,hr0,hk0⟩;have hy0:=(Has.new w 57 #[.int .i64 0,.slice none 0 0,.int .u64 0]).kept hk0 (fun z=>z);have Ac:=((Kept.refl aj w).alloc (.cells #[.int .i64 0,.slice none 0 0,.int .u64 0] 57)).then hk0;rw[size_alloc]at hr0⊢;have HA:=ah (And.intro hr0 (And.intro hy0 Ac));clear hr0 hy0 Ac hk0;go_wp2_with fail;refine(oZ w2 _ s (0,0) 1073741824 HA.out.1 hs (by decide)).mono ?_;rintro e w3 ⟨rfl,hr,hk⟩;rw[BN.out.1]at hr⊢;dsimp only at hr⊢;have hg2:=HA.out.1.1.lt;have hsz2:=hk.size;have ho:Ord w (w.heap.size+1) w3.heap.size w.heap.size (w3.heap.size+1):=⟨by omega,by omega,by omega,by omega,by omega,by omega,by omega,by omega,by omega,rfl⟩
 have hst:St w s (w.heap.size+1) w3.heap.size w.heap.size (w3.heap.size+1) c 0 r1 none 0 [] (w3.alloc (.cells #[.int .i64 c,.slice none 0 0,.int .u64 0] 57)):=
  ⟨hr.alloc _,Has.new _ _ _,(HA.out.2.1.kept hk (by omega)).alloc _,⟨⟨rfl,.inl ⟨rfl,rfl⟩⟩,fun k hk=>by cases hk⟩,(HA.out.2.2.trans hk (fun i hi=> .inr (by omega))).alloc _⟩
 obtain⟨W4,jD⟩:∃W4,w3.alloc (.cells #[.int .i64 c,.slice none 0 0,.int .u64 0] 57)=W4:=⟨_,rfl⟩;rw[jD]at hst;have jo:=ah jD;clear jD;obtain⟨g,hg⟩:∃g,w.heap.size+1=g:=⟨_,rfl⟩;obtain⟨x,hx⟩:∃x,w3.heap.size=x:=⟨_,rfl⟩;obtain⟨y,hy⟩:∃y,w.heap.size=y:=⟨_,rfl⟩;obtain⟨B,hB⟩:∃B,w3.heap.size+1=B:=⟨_,rfl⟩;rw[hg,hB,hx,hy]at hst ho;have HX:=ah (And.intro hx hB);clear hx hB;rw[hg,hy];clear hr hk hg2 hsz2 HA hg hy;have HO:=ah ho;clear ho;have HST:=ah hst;clear hst;go_wp2_with fail;rw[jo.out,HX.out.1];refine(oZ _ g s r1 4 HST.out.1 hs (by decide)).mono ?_;intro e w5 hrd;obtain⟨rfl,hst,hk⟩:=HST.out.read HO.out hrd;rw[BN.out.2]at hst⊢;dsimp only at hst⊢;clear HST hrd hk;have HST:=ah hst;clear hst;go_wp2_with fail;go_loopw [16] (fun v16 wr=>∃(i:Nat) (A:Option Addr) (cap:Nat),i<=n/\v16=.int .i64 i/\St w s g x y B c 0 (iD s i r3).2 A cap (iD s i r3).1 wr) (fun v16 _=>n-(intOf v16).toNat)
 case atStart=>exact⟨0,none,0,Nat.zero_le _,rfl,HST.out⟩
 case round=>
  obtain⟨i,A,cap,hi,rfl,hst⟩:=hrel;clear HST;have hlen:=D4 s r3 i;by_cases hin:i<n
  ·have hnext:iD s (i+1) r3=((iD s i r3).1++[(D3 s (iD s i r3).2).1],(D3 s (iD s i r3).2).2):=rfl;obtain⟨l,hl⟩:∃l,(iD s i r3).1=l:=⟨_,rfl⟩;obtain⟨r,hr⟩:∃r,(iD s i r3).2=r:=⟨_,rfl⟩;rw[hl,hr]at hst hnext;rw[hl]at hlen;have hop:D3 s r=((((aG s 3 r).1:Int),((aG s 1073741824 (aG s 3 r).2).1:Int)),(aG s 1073741824 (aG s 3 r).2).2):=rfl;obtain⟨p1,hp1⟩:∃p,aG s 3 r=p:=⟨_,rfl⟩;obtain⟨k1,ra⟩:=p1;rw[hp1]at hop;dsimp only at hop;obtain⟨p2,hp2⟩:∃p,aG s 1073741824 ra=p:=⟨_,rfl⟩;obtain⟨v1,rb⟩:=p2;rw[hp2]at hop;dsimp only at hop;rw[hop]at hnext;dsimp only at hnext;have jT:=ah hnext;clear hnext hop hl hr;have HP:=ah (And.intro hp1 hp2);clear hp1 hp2;have HST:=ah hst;clear hst;have eH:=ah hlen;clear hlen;go_wp2_with fail;refine(oZ _ g s r 3 HST.out.1 hs (by decide)).mono ?_;intro e w6 hrd;obtain⟨rfl,hst,hk⟩:=HST.out.read HO.out hrd;rw[HP.out.1]at hst⊢;dsimp only at hst⊢;have hge:=hst.ge HO.out;have hrow:=hst.row;have hz0:=Has.new w6 175 #[.int .i64 k1,.int .i64 0];have hst2:=hst.keep ((Kept.refl aj w6).alloc (.cells #[.int .i64 k1,.int .i64 0] 175));obtain⟨W7,qg⟩:∃W7,w6.alloc (.cells #[.int .i64 k1,.int .i64 0] 175)=W7:=⟨_,rfl⟩;obtain⟨z,hz⟩:∃z,w6.heap.size=z:=⟨_,rfl⟩;rw[qg]at hst2 hz0;rw[hz]at hz0 hge hrow;have HZ:=ah (And.intro hz (And.intro hge hrow));clear hz hge hrow;have xM:=ah qg;clear qg;clear HST hrd hk hst;have HST:=ah hst2;clear hst2;have HZ0:=ah hz0;clear hz0;go_wp2_with fail;rw[xM.out,HZ.out.1];refine(oZ _ g s ra 1073741824 HST.out.1 hs (by decide)).mono ?_;intro e w9 hrd;obtain⟨rfl,hst,hk⟩:=HST.out.read HO.out hrd;rw[HP.out.2]at hst⊢;dsimp only at hst⊢;have hz1:=HZ0.out.kept hk (by have:=HO.out.gB;have:=HZ.out.2.1;omega);have hst2:=hst.far HO.out HZ.out.2.1 HZ.out.2.2 1 (.int .i64 v1);have hz2:Has (w9.setCell ⟨z,1,none⟩ (.int .i64 v1)) z 175 #[.int .i64 k1,.int .i64 v1]:=Has.aQ hz1 rfl;have z1:=hz1.cell 1;have RH:=hz1.frozen 1;simp only[lF0,List.getElem?_cons_zero,List.getElem?_cons_succ]at z1;have BO:=hz2.cell 0;have BP:=hz2.cell 1;simp only[lF0,List.getElem?_cons_zero,List.getElem?_cons_succ]at BO BP;have xx1:=hst2.cells.1.2.1;clear HST HZ0 hrd hk hst hz1 hz2;have HST:=ah hst2;clear hst2;have hm1:l.length+1<=maxLen:=by rw[eH.out];unfold maxLen;omega
   have hm2:(l.length+1)*16<=140737488355328:=by rw[eH.out];omega
   have kY:=ah hm1;clear hm1;have kR:=ah hm2;clear hm2;go_wp2_with (at_builtin;refine bH NJ (.tmp 25) (.tmp 27) rfl rfl (Value.slice A l.length cap) rfl ((HST.out.2.2.2.1.kept ((Kept.refl _ _).alloc _)).1) 1 rfl (Src.kW (m:=1) (cs:=#[.int .i64 k1,.int .i64 v1]) (Has.dQ _ 175 _ (by simp)) rfl) (by intro u hu;simp at hu;rcases hu with rfl|rfl<;>rfl) kY.out kR.out ?_;intro A6 c6 w10 ji fJ ha6;obtain⟨hx6,Ad⟩:=HST.out.append HO.out (p:=((k1:Int),(v1:Int))) ((Kept.refl _ _).alloc _) ji fJ ha6;have e2:=hx6.cell 1;have ef:=hx6.frozen 1;simp only[lF0,List.getElem?_cons_zero,List.getElem?_cons_succ]at e2;have qH:=ah Ad;clear ji fJ ha6 hx6 Ad);go_roundw
   case rel=>exact⟨i+1,A6,c6,by omega,by go_num,by rw[jT.out];exact qH.out⟩
   case measure=>simp[intOf];omega
  ·obtain rfl:i=n:=by omega
   obtain⟨l,hl⟩:∃l,(iD s i r3).1=l:=⟨_,rfl⟩;obtain⟨r0,hr0⟩:∃r,(iD s i r3).2=r:=⟨_,rfl⟩;rw[hl,hr0]at hst dw;rw[hl]at hlen;clear hl hr0;obtain⟨bq,hbq⟩:∃bq,bD s r0=bq:=⟨_,rfl⟩;obtain⟨f,r⟩:=bq;rw[hbq]at dw;have Zi:=ah hbq;clear hbq;have HST:=ah hst;clear hst;have eH:=ah hlen;clear hlen;go_wp2_with fail;refine(Aa _ g s r0 HST.out.1 hs).mono ?_;intro e w8 hrd;obtain⟨rfl,hst,hk⟩:=HST.out.read HO.out hrd;rw[Zi.out]at hst⊢;dsimp only at hst dw⊢;clear HST hrd hk;obtain⟨⟨x0,x1,x2⟩,⟨RG,Zj⟩,-,-⟩:=hst.cells;have HST:=ah hst;clear hst;go_wp2_with fail;have hst:=HST.out.FM (q':=f) HO.out;clear HST x0 x1 x2 RG Zj;have HST:=ah hst;clear hst;refine(qO _ g s r HST.out.1 hs).mono ?_;rintro e w6 ⟨rfl,hk⟩;have hst:=HST.out.keep hk;clear HST hk;obtain⟨⟨x0,x1,x2⟩,-,⟨y0,y1,y2⟩,jY,jZ,ku⟩:=hst.cells;have HST:=ah hst;clear hst;have hky:∀W,Kept aj w W->∀a b c,Kept aj w (((W.setCell ⟨y,0,none⟩ a).setCell ⟨y,1,none⟩ b).setCell ⟨y,2,none⟩ c):=fun W hW a b c=>((hW.put (.inr HO.out.wy)).put (.inr HO.out.wy)).put (.inr HO.out.wy);have mX:=ah hky;clear hky;obtain⟨er,uh⟩:∃er,iJ s r=er:=⟨_,rfl⟩;rw[uh]at dw⊢;clear uh;by_cases he:er=0;rotate_left
   ·have he2:(er !=0)=true:=by simpa using he
    have hof:=dw.out;rw[if_pos he]at hof;have dB:=ah hof;clear hof dw he;go_wp2_with fail;refine bodyPost_ret (v:=.tuple #[.agg #[.int .i64 0,.slice none 0 0,.int .u64 0],.int .i64 er]) (by simp[results,Tryz.results98,go_sem,y0,y1,y2,jY,jZ,ku]) rfl (?_:yw w s _ _);refine⟨none,0,by rw[dB.out];rfl,by rw[dB.out];exact Src.nil _ _ _,by rw[dB.out];exact Nat.le_refl _,Nat.zero_le _,(fun ad e=>by cases e),?_⟩;exact mX.out _ HST.out.2.2.2.2 _ _ _
   subst he;have hof:=dw.out;rw[if_neg (by simp)]at hof;have gK:=ah hof;clear hof dw;have hsr:=Src.fA HST.out.2.2.2.1.1;have hck:=CJ w6 c f A cap l hsr (mM HST.out.2.2.2.1.1).1 (by rw[eH.out];omega);have hcap:=mM HST.out.2.2.2.1.1;obtain⟨ck,vJ⟩:∃ck,bg.chk c l=ck:=⟨_,rfl⟩;rw[vJ]at hck gK;have jO:=ah hck;clear hck vJ hsr;have HCAP:=ah hcap;clear hcap;go_wp2_with fail;refine jO.out.mono ?_;rintro e w7 ⟨rfl,hk⟩;have hst:=HST.out.keep hk;clear HST hk x0 x1 x2 y0 y1 y2 jY jZ ku;obtain⟨⟨x0,x1,x2⟩,-,⟨y0,y1,y2⟩,jY,jZ,ku⟩:=hst.cells;have HST:=ah hst;clear hst;by_cases he:ck=0;rotate_left
   ·have he2:(ck !=0)=true:=by simpa using he
    have hof:=gK.out;rw[if_pos he]at hof;have dB:=ah hof;clear hof gK he;go_wp2_with fail;refine bodyPost_ret (v:=.tuple #[.agg #[.int .i64 0,.slice none 0 0,.int .u64 0],.int .i64 ck]) (by simp[results,Tryz.results98,go_sem,y0,y1,y2,jY,jZ,ku]) rfl (?_:yw w s _ _);refine⟨none,0,by rw[dB.out];rfl,by rw[dB.out];exact Src.nil _ _ _,by rw[dB.out];exact Nat.le_refl _,Nat.zero_le _,(fun ad e=>by cases e),?_⟩;exact mX.out _ HST.out.2.2.2.2 _ _ _
   ·subst he;have hof:=gK.out;rw[if_neg (by simp)]at hof;have dB:=ah hof;clear hof gK;go_wp2_with fail;refine bodyPost_ret (v:=.tuple #[.agg #[.int .i64 c,.slice A l.length cap,.int .u64 f],.int .i64 0]) (by simp[results,Tryz.results98,go_sem,y0,y1,y2,jY,jZ,ku]) rfl (?_:yw w s _ _);have hn:∀k,(Value.slice A l.length cap).ownBlock=some k->k≠y:=fun k hk e=>by have:=HST.out.2.2.2.1.2 k hk;have:=HO.out.yB;omega
    have hkk:∀a b c,Kept (fun k=>k=y) w7 (((w7.setCell ⟨y,0,none⟩ a).setCell ⟨y,1,none⟩ b).setCell ⟨y,2,none⟩ c):=fun a b c=>Kept.put (F:=fun k=>k=y) (Kept.put (F:=fun k=>k=y) (Kept.put (F:=fun k=>k=y) (Kept.refl _ _) (.inl rfl)) (.inl rfl)) (.inl rfl);refine⟨A,cap,by rw[dB.out],?_,by rw[dB.out];exact HCAP.out.1,HCAP.out.2,(fun ad e=>by have h1:=oQ HST.out.2.2.2.1 ad e;have:=HO.out.gB;have:=HO.out.wg;omega),?_⟩
    ·rw[dB.out];exact Src.fA (aP HST.out.2.2.2.1.1 (hkk _ _ _) hn)
    ·exact mX.out _ HST.out.2.2.2.2 _ _ _
end qh
namespace qh
open Vn iI bg Ops Mst
def Ae(s:ByteArray):(Batch×Int)×Int:=
 let t:=bD s (0,0)
 let x:=aN s 65536 t.2
 if iJ s x.2≠0 then ((zero,0),iJ s x.2)else if(pq x.1).2≠0 then ((zero,0),(pq x.1).2)else(((pq x.1).1,(t.1:Int)),0)
def Bf(b:Batch)(A:Option Addr)(c:Nat)(ts:Int):Value:=.agg #[.int .i64 b.cl,.int .i64 b.req,.slice A b.ops.length c,.int .u64 ts]
def yx(w:World)(s:ByteArray)(e:Ending)(w':World):Prop:=
 ∃A c,e=.returned (.tuple #[Bf (Ae s).1.1 A c (Ae s).1.2,.int .i64 (Ae s).2])/\Src w' 3 A (Ae s).1.1.ops.length (cells (Ae s).1.1.ops)/\(Ae s).1.1.ops.length<=c/\c<=maxLen/\(∀ad,A=some ad->w.heap.size<=ad.block)/\Kept aj w w'
theorem text_size(s:ByteArray)(m:Nat)(r:RS):(aN s m r).1.size<=s.size:=by
 unfold aN;split
 ·exact Nat.zero_le _
 split
 ·exact Nat.zero_le _
 split
 ·exact Nat.zero_le _
 ·rw[ByteArray.size_extract];omega
theorem XU(w:World)(s:ByteArray)(hs:s.size<=maxLen):Calls Tryz.prog 141 #[.string s] w (yx w s):=by
 obtain⟨tq,bU⟩:∃tq,bD s (0,0)=tq:=⟨_,rfl⟩;obtain⟨xq,l9⟩:∃xq,aN s 65536 tq.2=xq:=⟨_,rfl⟩;have hxs:xq.1.size<=maxLen:=by rw[<-l9];exact Nat.le_trans (text_size _ _ _) hs
 obtain⟨ts,r1⟩:=tq;obtain⟨tx,r2⟩:=xq;dsimp only at l9 hxs;have hof:Ae s=if iJ s r2≠0 then ((zero,0),iJ s r2)else if(pq tx).2≠0 then ((zero,0),(pq tx).2)else(((pq tx).1,(ts:Int)),0):=by unfold Ae;simp only[bU,l9]
 have dw:=ah hof;clear hof;have HQ:=ah (And.intro bU l9);clear bU l9;go_enter Tryz.func141,Tryz.ntmps141;go_wp2_with fail;refine(open_any _ _).mono ?_;rintro e w2 ⟨rfl,hr0,hk0⟩;have hy0:=(Has.new w 183 #[.int .i64 0,.int .i64 0,.slice none 0 0,.int .u64 0]).kept hk0 (fun z=>z);have Ac:=((Kept.refl aj w).alloc (.cells #[.int .i64 0,.int .i64 0,.slice none 0 0,.int .u64 0] 183)).then hk0;rw[size_alloc]at hr0⊢;obtain⟨g,hg⟩:∃g,w.heap.size+1=g:=⟨_,rfl⟩;obtain⟨y,hy⟩:∃y,w.heap.size=y:=⟨_,rfl⟩;rw[hg]at hr0⊢;rw[hy]at hy0⊢;have HG:=ah (And.intro hg hy);have HR:=ah hr0;have HY:=ah hy0;have HK:=ah Ac;clear hg hy hr0 hy0 Ac hk0;go_wp2_with fail;refine(Aa _ g s (0,0) HR.out hs).mono ?_;rintro e w3 ⟨rfl,hr,hk⟩;rw[HQ.out.1]at hr⊢;dsimp only at hr⊢;have HR3:=ah hr;have RJ:=ah (HY.out.kept hk (fun e=>by have:=HG.out;omega));have dI:=ah (HK.out.trans hk (fun i hi=> .inr (by have:=HG.out;omega)));clear hr hk HR HY HK;go_wp2_with fail;refine(qw _ g s r1 65536 HR3.out hs (by decide)).mono ?_;rintro e w4 ⟨rfl,hr,hk⟩;rw[HQ.out.2]at hr⊢;dsimp only at hr⊢;have HR4:=ah hr;have RN:=ah (RJ.out.kept hk (fun e=>by have:=HG.out;omega));have iU:=ah (dI.out.trans hk (fun i hi=> .inr (by have:=HG.out;omega)));clear hr hk HR3 RJ dI;go_wp2_with fail;refine(qO _ g s r2 HR4.out hs).mono ?_;rintro e w5 ⟨rfl,hk⟩;have uV:=ah (RN.out.kept hk (fun z=>z));have dK:=ah (iU.out.then hk);clear hk HR4 RN iU;have hky:∀W,Kept aj w W->∀a b c d,Kept aj w ((((W.setCell ⟨y,0,none⟩ a).setCell ⟨y,1,none⟩ b).setCell ⟨y,2,none⟩ c).setCell ⟨y,3,none⟩ d):=fun W hW a b c d=>(((hW.put (.inr (by have:=HG.out;omega))).put (.inr (by have:=HG.out;omega))).put (.inr (by have:=HG.out;omega))).put (.inr (by have:=HG.out;omega));have mX:=ah hky;clear hky;obtain⟨er,uh⟩:∃er,iJ s r2=er:=⟨_,rfl⟩;rw[uh]at dw⊢;clear uh;have y0:=uV.out.cell 0;have y1:=uV.out.cell 1;have y2:=uV.out.cell 2;have y3:=uV.out.cell 3;have jY:=uV.out.frozen 0;have jZ:=uV.out.frozen 1;have ku:=uV.out.frozen 2;have Af:=uV.out.frozen 3;simp at y0 y1 y2 y3;by_cases he:er=0;rotate_left
 ·have he2:(er !=0)=true:=by simpa using he
  have hof:=dw.out;rw[if_pos he]at hof;have dB:=ah hof;clear hof dw he;go_wp2_with fail;refine bodyPost_ret (v:=.tuple #[.agg #[.int .i64 0,.int .i64 0,.slice none 0 0,.int .u64 0],.int .i64 er]) (by simp[results,Tryz.results141,go_sem,y0,y1,y2,y3,jY,jZ,ku,Af]) rfl (?_:yx w s _ _);refine⟨none,0,by rw[dB.out];rfl,by rw[dB.out];exact Src.nil _ _ _,by rw[dB.out];exact Nat.le_refl _,Nat.zero_le _,(fun ad e=>by cases e),?_⟩;exact mX.out _ dK.out _ _ _ _
 subst he;have hof:=dw.out;rw[if_neg (by simp)]at hof;have gK:=ah hof;clear hof dw;have hb:=NQ w5 tx hxs;unfold vw nT at hb;obtain⟨bq,hbq⟩:∃bq,pq tx=bq:=⟨_,rfl⟩;rw[hbq]at hb gK;obtain⟨⟨bc,br,bo⟩,be⟩:=bq;dsimp only at hb gK;obtain⟨nb,hnb⟩:∃nb,bo.length=nb:=⟨_,rfl⟩;rw[hnb]at hb;have HB:=ah hb;have DC:=ah hnb;clear hb hbq hnb hxs;go_wp2_with fail;clear y0 y1 y2 y3 jY jZ ku Af;refine HB.out.mono ?_;rintro e w6 ⟨A,c,rfl,hsr,hc1,hc2,hnw,hk⟩;obtain⟨W7,qg⟩:∃W7,w6.alloc (.cells #[.int .i64 bc,.int .i64 br,.slice A nb c] 59)=W7:=⟨_,rfl⟩;have aZ:Kept aj w6 W7:=by rw[<-qg];(repeat'(first|(with_reducible first|exact ay|apply aA|apply aB|apply aC|apply aF)|(right;simp;done)))
 have hb7:Has W7 w6.heap.size 59 #[.int .i64 bc,.int .i64 br,.slice A nb c]:=by rw[<-qg];exact Has.new _ _ _
 have kP:=uV.out.kept (hk.then aZ) (fun z=>z);have y0:=kP.cell 0;have y1:=kP.cell 1;have y2:=kP.cell 2;have y3:=kP.cell 3;have jY:=kP.frozen 0;have jZ:=kP.frozen 1;have ku:=kP.frozen 2;have Af:=kP.frozen 3;have b0:=hb7.cell 0;have b1:=hb7.cell 1;have b2:=hb7.cell 2;simp at y0 y1 y2 y3 b0 b1 b2;have jd:=ah (dK.out.then (hk.then aZ));have hkk:∀a b c d,Kept (fun k=>k=y) W7 ((((W7.setCell ⟨y,0,none⟩ a).setCell ⟨y,1,none⟩ b).setCell ⟨y,2,none⟩ c).setCell ⟨y,3,none⟩ d):=fun a b c d=>Kept.put (F:=fun k=>k=y) (Kept.put (F:=fun k=>k=y) (Kept.put (F:=fun k=>k=y) (Kept.put (F:=fun k=>k=y) (Kept.refl _ _) (.inl rfl)) (.inl rfl)) (.inl rfl)) (.inl rfl);have HKK:=ah hkk;have hny:∀ad,A=some ad->ad.block≠y:=fun ad e h=>by have h1:=hnw ad e;have h2:=uV.out.lt;omega
 have wT:∀ad,A=some ad->w.heap.size<=ad.block:=fun ad e=>by have h1:=hnw ad e;have h2:=dK.out.size;omega
 have RP:=ah (hsr.kept aZ (fun _ _ z=>z));have vW:=ah (And.intro hc1 (And.intro hc2 (And.intro wT hny)));clear hk hsr hc1 hc2 hnw kP aZ hb7 hkk hny wT;by_cases he:be=0;rotate_left
 ·have he2:(be !=0)=true:=by simpa using he
  have hof:=gK.out;rw[if_pos he]at hof;have dB:=ah hof;clear hof gK he;go_wp2_with fail;clear qg;refine bodyPost_ret (v:=.tuple #[.agg #[.int .i64 0,.int .i64 0,.slice none 0 0,.int .u64 0],.int .i64 be]) (by simp[results,Tryz.results141,go_sem,y0,y1,y2,y3,jY,jZ,ku,Af]) rfl (?_:yx w s _ _);refine⟨none,0,by rw[dB.out];rfl,by rw[dB.out];exact Src.nil _ _ _,by rw[dB.out];exact Nat.le_refl _,Nat.zero_le _,(fun ad e=>by cases e),?_⟩;exact mX.out _ jd.out _ _ _ _
 ·subst he;have hof:=gK.out;rw[if_neg (by simp)]at hof;have dB:=ah hof;clear hof gK;go_wp2_with fail;clear qg;refine bodyPost_ret (v:=.tuple #[.agg #[.int .i64 bc,.int .i64 br,.slice A nb c,.int .u64 ts],.int .i64 0]) (by simp[results,Tryz.results141,go_sem,y0,y1,y2,y3,jY,jZ,ku,Af]) rfl (?_:yx w s _ _);refine⟨A,c,by rw[dB.out];unfold Bf;rw[DC.out],?_,by rw[dB.out];show bo.length<=c;rw[DC.out];exact vW.out.1,vW.out.2.1,vW.out.2.2.1,mX.out _ jd.out _ _ _ _⟩;rw[dB.out];dsimp only;rw[DC.out];exact RP.out.kept (HKK.out _ _ _ _) (fun ad e h=>vW.out.2.2.2 ad e h)
end qh
namespace Mst
open bg
structure JK where
 k:Int
 n:Int
 at':Int
 ep:Int
 mA:Option Addr
 mc:Nat
 ms:List Mem
 fl:Int
 lA:Option Addr
 lc:Nat
 lg:List Int
 oA:Option Addr
 oc:Nat
 b:Ops.Batch
 ts:Int
 pin:OX
 said:abp
def aaM(x:JK):List Value:=[.int .i64 x.k,.int .i64 x.n,.int .u64 x.at',.int .i64 x.ep,.slice x.mA x.ms.length x.mc,.int .u64 x.fl,.slice x.lA x.lg.length x.lc,.int .i64 x.b.cl,.int .i64 x.b.req,.slice x.oA x.b.ops.length x.oc,.int .u64 x.ts,.int .i64 x.pin.id,.int .u64 x.pin.at',.int .i64 x.pin.left,.int .i64 x.said.cl,.int .i64 x.said.req,.int .i64 x.said.e,.int .i64 x.said.pin]
abbrev YG(x:JK):Value:=.agg (aaM x).toArray
structure Zk(w:World)(x:JK):Prop where
 m:Src w 2 x.mA x.ms.length (dL x.ms)
 mc:x.ms.length<=x.mc
 ml:x.ms.length<=1000
 l:Src w 1 x.lA x.lg.length (ints x.lg)
 lc:x.lg.length<=x.lc
 ll:x.lg.length<=1000
 o:Src w 3 x.oA x.b.ops.length (Ops.cells x.b.ops)
theorem Zk.kept{w w':World}{x:JK}(h:Zk w x)(hk:Kept aj w w'):Zk w' x:=⟨h.m.kept hk (fun _ _ z=>z),h.mc,h.ml,h.l.kept hk (fun _ _ z=>z),h.lc,h.ll,h.o.kept hk (fun _ _ z=>z)⟩
