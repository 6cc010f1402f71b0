/- Part 19. -/
import Derived.Test.YtgbigpdiacjbgaaGreatKP11
import Derived.Test.YtgbigpdiacjbgaaGreatKP17
set_option linter.unusedSimpArgs false
set_option linter.unusedVariables false
set_option maxHeartbeats 32000000
set_option maxRecDepth 100000
namespace Go.Proofs.YtgbigpdiacjbgaaGreat
open Go.RowKit
namespace Ops
open Vn iI
def vw(w:World)(s:ByteArray)(e:Ending)(w':World):Prop:=
 ∃A c,e=.returned (.tuple #[nT (pq s).1 A c,.int .i64 (pq s).2])/\Src w' 3 A (pq s).1.ops.length (cells (pq s).1.ops)/\(pq s).1.ops.length<=c/\c<=maxLen/\(∀ad,A=some ad->w.heap.size<=ad.block)/\Kept aj w w'
theorem oQ{e:TypeId}{size B n c:Nat}{W:World}{A:Option Addr}{xs:List Value}(h:bV e size B W A n c xs):∀ad,A=some ad->B<=ad.block:=by
 rintro ad rfl;obtain⟨⟨_,h1⟩,h2⟩:=h;rcases h1 with⟨h3,_⟩|⟨g,cap,cur,h3,_⟩
 ·cases h3
 ·injection h3 with h4;injection h4 with h4;subst h4;exact h2 g rfl
def St(w:World)(s:ByteArray)(g x y B:Nat)(c q:Int)(r:RS)(A:Option Addr)(cap:Nat)(l:List dU)(W:World):Prop:=
 iH W g s r/\Has W x 59 #[.int .i64 c,.int .i64 q,.slice A l.length cap]/\Has W y 59 #[.int .i64 0,.int .i64 0,.slice none 0 0]/\bV 143 3 B W A l.length cap (cells l)/\Kept aj w W
structure Ord(w:World)(g x y B:Nat):Prop where
 wg:w.heap.size<=g
 wx:w.heap.size<=x
 wy:w.heap.size<=y
 gx:g≠x
 gy:g≠y
 xy:x≠y
 gB:g<B
 xB:x<B
 yB:y<B
 Bx:B=x+1
theorem GI(l:List dU)(o:dU):cells (l++[o])=cells l++[.string o.key,.string o.val,.bool o.del]:=by unfold cells;rw[List.flatMap_append];simp[cell]
section
variable{w W W':World}{s:ByteArray}{g x y B cap:Nat}{c q:Int}{r r':RS}{A:Option Addr}{l:List dU}{v:Value}{e:Ending}
theorem St.read(o:Ord w g x y B)(h:St w s g x y B c q r A cap l W)(hr:zx W g s v r' e W'):e=.returned v/\St w s g x y B c q r' A cap l W'/\Kept (fun k=>k=g) W W':=by obtain⟨h1,h2,h3,h4,h5⟩:=h;obtain⟨he,g1,g2⟩:=hr;refine⟨he,⟨g1,h2.kept g2 (fun e=>o.gx e.symm),h3.kept g2 (fun e=>o.gy e.symm),⟨aP h4.1 g2 (fun k hk e=> ?_),h4.2⟩,h5.trans g2 fun i hi=>by rw[hi];exact .inr o.wg⟩,g2⟩;have:=h4.2 k hk;have:=o.gB;omega
theorem St.keep(h:St w s g x y B c q r A cap l W)(hk:Kept aj W W'):St w s g x y B c q r A cap l W':=
 ⟨h.1.kept hk (fun z=>z),h.2.1.kept hk (fun z=>z),h.2.2.1.kept hk (fun z=>z),h.2.2.2.1.kept hk,h.2.2.2.2.then hk⟩
theorem St.ge(o:Ord w g x y B)(h:St w s g x y B c q r A cap l W):B<=W.heap.size:=by have:=h.2.1.lt;have:=o.Bx;omega
theorem St.row(h:St w s g x y B c q r A cap l W):∀k,(Value.slice A l.length cap).ownBlock=some k->k<W.heap.size:=fun k hk=>jB h.2.2.2.1.1 hk
theorem St.FM{q':Int}(o:Ord w g x y B)(h:St w s g x y B c q r A cap l W):St w s g x y B c q' r A cap l (W.setCell ⟨x,1,none⟩ (.int .i64 q')):=by obtain⟨h1,h2,h3,h4,h5⟩:=h;have hk:Kept (fun k=>k=x) W (W.setCell ⟨x,1,none⟩ (.int .i64 q')):=(Kept.refl _ W).put (.inl rfl);refine⟨h1.kept hk o.gx,Has.aQ h2 rfl,h3.kept hk (fun e=>o.xy e.symm),⟨aP h4.1 hk (fun k hk e=> ?_),h4.2⟩,h5.trans hk fun i hi=>by rw[hi];exact .inr o.wx⟩;have:=h4.2 k hk;have:=o.xB;omega
theorem St.far(o:Ord w g x y B)(h:St w s g x y B c q r A cap l W){z:Nat}(hz:B<=z)(hr:∀k,(Value.slice A l.length cap).ownBlock=some k->k<z)(i:Nat)(u:Value):St w s g x y B c q r A cap l (W.setCell ⟨z,i,none⟩ u):=by obtain⟨h1,h2,h3,h4,h5⟩:=h;have hk:Kept (fun k=>k=z) W (W.setCell ⟨z,i,none⟩ u):=(Kept.refl _ W).put (.inl rfl);have b1:=o.gB;have b2:=o.xB;have b3:=o.yB;have b4:=o.wg;refine⟨h1.kept hk (by omega),h2.kept hk (by omega),h3.kept hk (by omega),⟨aP h4.1 hk (fun k hk e=> ?_),h4.2⟩,h5.trans hk fun i hi=>by rw[hi];exact .inr (by omega)⟩;have:=hr k hk;omega
theorem St.append(o:Ord w g x y B)(h:St w s g x y B c q r A cap l W){W1:World}(hW:Kept aj W W1){A':Option Addr}{cap':Nat}{w6:World}{p:dU}(ho:w6.ownsRow 0 143 3 (.slice A' (l.length+1) cap') (l.length+1) (Ops.cells l++[.string p.key,.string p.val,.bool p.del]))
  (hg:W1.grownBy w6 (Value.slice A l.length cap).ownBlock) (ha:(Value.slice A' (l.length+1) cap').ownBlock=(Value.slice A l.length cap).ownBlock\/(Value.slice A' (l.length+1) cap').ownBlock=some W1.heap.size):
  Has w6 x 59 #[.int .i64 c,.int .i64 q,.slice A l.length cap]/\St w s g x y B c q r A' cap' (l++[p]) (w6.setCell ⟨x,2,none⟩ (.slice A' (l.length+1) cap')):=by
 have hge:=h.ge o;obtain⟨h1,h2,h3,h4,h5⟩:=h;have hz1:=hW.size;have hk:Kept (fun k=>(Value.slice A l.length cap).ownBlock=some k) W w6:=(hW.mono fun _ z=>z.elim).grown hg (fun k hk=> .inl hk);have b1:=o.gB;have b2:=o.xB;have b3:=o.yB;have hn:∀z,z<B->¬(Value.slice A l.length cap).ownBlock=some z:=fun z hz e=>by have:=h4.2 z e;omega
 have g1:=h1.kept hk (hn g b1);have g2:=h2.kept hk (hn x b2);have g3:=h3.kept hk (hn y b3);have g5:Kept aj w w6:=h5.trans hk fun i hi=> .inr (by have:=h4.2 i hi;have:=o.wg;omega);have hk2:Kept (fun k=>k=x) w6 (w6.setCell ⟨x,2,none⟩ (.slice A' (l.length+1) cap')):=(Kept.refl _ w6).put (.inl rfl);have hnew:bV 143 3 B w6 A' (l++[p]).length cap' (Ops.cells (l++[p])):=by
  rw[GI,lA0]
  exact⟨ho,fun k hk=>by
   rcases ha with e|e
   ·exact h4.2 k (e.symm.trans hk)
   ·have hk':(Value.slice A' (l.length+1) cap').ownBlock=some k:=hk;rw[hk']at e;injection e with e;omega⟩
 refine⟨g2,g1.kept hk2 o.gx,Has.aQ g2 (by simp),g3.kept hk2 (fun e=>o.xy e.symm),⟨aP hnew.1 hk2 (fun k hk e=> ?_),hnew.2⟩,g5.trans hk2 fun i hi=>by rw[hi];exact .inr o.wx⟩;have:=hnew.2 k hk;omega
theorem St.cells(h:St w s g x y B c q r A cap l W):(W.cell? ⟨x,0,none⟩=some (.int .i64 c)/\W.cell? ⟨x,1,none⟩=some (.int .i64 q)/\W.cell? ⟨x,2,none⟩=some (.slice A l.length cap))/\W.frozen? ⟨x,2,none⟩=false/\
  (W.cell? ⟨y,0,none⟩=some (.int .i64 0)/\W.cell? ⟨y,1,none⟩=some (.int .i64 0)/\W.cell? ⟨y,2,none⟩=some (.slice none 0 0))/\(W.frozen? ⟨y,0,none⟩=false/\W.frozen? ⟨y,1,none⟩=false/\W.frozen? ⟨y,2,none⟩=false):=
 ⟨⟨h.2.1.cell 0,h.2.1.cell 1,h.2.1.cell 2⟩,h.2.1.frozen 2,⟨h.2.2.1.cell 0,h.2.2.1.cell 1,h.2.2.1.cell 2⟩,h.2.2.1.frozen 0,h.2.2.1.frozen 1,h.2.2.1.frozen 2⟩
end
theorem KX{s:ByteArray}{r:RS}(h:(bD s r).2.2≠0):(bD s r).1=0:=by
 unfold bD at h⊢;split
 ·rfl
 ·rename_i h0;rw[if_neg h0]at h;split
  ·rename_i n j hg;rw[hg]at h;exact absurd rfl h
  ·rfl
theorem jG(s:ByteArray)(most:Nat)(r:RS):(aG s most r).1<=most:=by
 unfold aG;split
 ·exact Nat.zero_le _
 ·rename_i h;by_cases h0:(bD s r).2.2=0
  ·have:¬most<(bD s r).1:=fun x=>h ⟨h0,x⟩;omega
  ·rw[KX h0];exact Nat.zero_le _
theorem NQ(w:World)(s:ByteArray)(hs:s.size<=maxLen):Calls Tryz.prog 100 #[.string s] w (vw w s):=by
 obtain⟨cq,hcq⟩:∃cq,aG s 2 (0,0)=cq:=⟨_,rfl⟩;obtain⟨qq,hqq⟩:∃qq,aG s 1073741824 cq.2=qq:=⟨_,rfl⟩;obtain⟨nq,hnq⟩:∃nq,aG s 4 qq.2=nq:=⟨_,rfl⟩;have hn4:nq.1<=4:=by rw[<-hnq];exact jG _ _ _
 have hq4:qq.1<=1073741824:=by rw[<-hqq];exact jG _ _ _
 have hc4:cq.1<=2:=by rw[<-hcq];exact jG _ _ _
 obtain⟨c,r1⟩:=cq;obtain⟨q,r2⟩:=qq;obtain⟨n,r3⟩:=nq;dsimp only at hqq hnq hn4 hq4 hc4;have hof:pq s=if iJ s (jw s n r3).2≠0 then (zero,iJ s (jw s n r3).2)else if chk ⟨c,q,(jw s n r3).1⟩≠0 then (zero,chk ⟨c,q,(jw s n r3).1⟩)else(⟨c,q,(jw s n r3).1⟩,0):=by unfold pq;simp only[hcq,hqq,hnq]
 have dw:=ah hof;clear hof;have BN:=ah (And.intro hcq (And.intro hqq hnq));clear hcq hqq hnq;go_enter Tryz.func100,Tryz.ntmps100;go_wp2_with fail;refine(open_any _ _).mono ?_;rintro e w2 ⟨rfl,hr0,hk0⟩;have hy0:=(Has.new w 59 #[.int .i64 0,.int .i64 0,.slice none 0 0]).kept hk0 (fun z=>z);have Ac:=((Kept.refl aj w).alloc (.cells #[.int .i64 0,.int .i64 0,.slice none 0 0] 59)).then hk0;rw[size_alloc]at hr0⊢;have HA:=ah (And.intro hr0 (And.intro hy0 Ac));clear hr0 hy0 Ac hk0;go_wp2_with fail;refine(oZ w2 _ s (0,0) 2 HA.out.1 hs (by decide)).mono ?_;rintro e w3 ⟨rfl,hr,hk⟩;rw[BN.out.1]at hr⊢;dsimp only at hr⊢;have hg2:=HA.out.1.1.lt;have hsz2:=hk.size;have ho:Ord w (w.heap.size+1) w3.heap.size w.heap.size (w3.heap.size+1):=⟨by omega,by omega,by omega,by omega,by omega,by omega,by omega,by omega,by omega,rfl⟩
 have hst:St w s (w.heap.size+1) w3.heap.size w.heap.size (w3.heap.size+1) c 0 r1 none 0 [] (w3.alloc (.cells #[.int .i64 c,.int .i64 0,.slice none 0 0] 59)):=
  ⟨hr.alloc _,Has.new _ _ _,(HA.out.2.1.kept hk (by omega)).alloc _,⟨⟨rfl,.inl ⟨rfl,rfl⟩⟩,fun k hk=>by cases hk⟩,(HA.out.2.2.trans hk (fun i hi=> .inr (by omega))).alloc _⟩
 obtain⟨W4,jD⟩:∃W4,w3.alloc (.cells #[.int .i64 c,.int .i64 0,.slice none 0 0] 59)=W4:=⟨_,rfl⟩;rw[jD]at hst;have jo:=ah jD;clear jD;obtain⟨g,hg⟩:∃g,w.heap.size+1=g:=⟨_,rfl⟩;obtain⟨x,hx⟩:∃x,w3.heap.size=x:=⟨_,rfl⟩;obtain⟨y,hy⟩:∃y,w.heap.size=y:=⟨_,rfl⟩;obtain⟨B,hB⟩:∃B,w3.heap.size+1=B:=⟨_,rfl⟩;rw[hg,hB,hx,hy]at hst ho;have HX:=ah (And.intro hx hB);clear hx hB;rw[hg,hy];clear hr hk hg2 hsz2 HA hg hy;have HO:=ah ho;clear ho;have HST:=ah hst;clear hst;go_wp2_with fail;rw[jo.out,HX.out.1];refine(oZ _ g s r1 1073741824 HST.out.1 hs (by decide)).mono ?_;intro e w4 hrd;obtain⟨rfl,hst,hk⟩:=HST.out.read HO.out hrd;rw[BN.out.2.1]at hst⊢;dsimp only at hst⊢;clear HST hrd;obtain⟨⟨x0,x1,x2⟩,xf,⟨y0,y1,y2⟩,yf⟩:=hst.cells;have RG:=hst.2.1.frozen 1;have HST:=ah hst;clear hst;go_wp2_with fail;have hst:=HST.out.FM (q':=q) HO.out;clear HST x0 x1 x2 xf y0 y1 y2 yf RG;have HST:=ah hst;clear hst;refine(oZ _ g s r2 4 HST.out.1 hs (by decide)).mono ?_;intro e w5 hrd;obtain⟨rfl,hst,hk⟩:=HST.out.read HO.out hrd;rw[BN.out.2.2]at hst⊢;dsimp only at hst⊢;clear HST hrd hk;have HST:=ah hst;clear hst;go_wp2_with fail;go_loopw [19] (fun v19 wr=>∃(i:Nat) (A:Option Addr) (cap:Nat),i<=n/\v19=.int .i64 i/\St w s g x y B c q (jw s i r3).2 A cap (jw s i r3).1 wr) (fun v19 _=>n-(intOf v19).toNat)
 case atStart=>exact⟨0,none,0,Nat.zero_le _,rfl,HST.out⟩
 case round=>
  obtain⟨i,A,cap,hi,rfl,hst⟩:=hrel;clear HST;have hlen:=KQ s r3 i;by_cases hin:i<n
  ·have hnext:jw s (i+1) r3=((jw s i r3).1++[(E5 s (jw s i r3).2).1],(E5 s (jw s i r3).2).2):=rfl;obtain⟨l,hl⟩:∃l,(jw s i r3).1=l:=⟨_,rfl⟩;obtain⟨r,hr⟩:∃r,(jw s i r3).2=r:=⟨_,rfl⟩;rw[hl,hr]at hst hnext;rw[hl]at hlen;have hop:E5 s r=(⟨(aN s 8 r).1,(aN s 8 (fZ s (aN s 8 r).2).2).1,(fZ s (aN s 8 r).2).1⟩,(aN s 8 (fZ s (aN s 8 r).2).2).2):=rfl;obtain⟨p1,hp1⟩:∃p,aN s 8 r=p:=⟨_,rfl⟩;obtain⟨k1,ra⟩:=p1;rw[hp1]at hop;dsimp only at hop;obtain⟨p2,hp2⟩:∃p,fZ s ra=p:=⟨_,rfl⟩;obtain⟨d1,rb⟩:=p2;rw[hp2]at hop;dsimp only at hop;obtain⟨p3,hp3⟩:∃p,aN s 8 rb=p:=⟨_,rfl⟩;obtain⟨v1,rc⟩:=p3;rw[hp3]at hop;dsimp only at hop;rw[hop]at hnext;dsimp only at hnext;have jT:=ah hnext;clear hnext hop hl hr;have HP:=ah (And.intro hp1 (And.intro hp2 hp3));clear hp1 hp2 hp3;have HST:=ah hst;clear hst;have eH:=ah hlen;clear hlen;go_wp2_with fail;refine(qw _ g s r 8 HST.out.1 hs (by decide)).mono ?_;intro e w6 hrd;obtain⟨rfl,hst,hk⟩:=HST.out.read HO.out hrd;rw[HP.out.1]at hst⊢;dsimp only at hst⊢;have hge:=hst.ge HO.out;have hrow:=hst.row;have hz0:=Has.new w6 143 #[.string k1,.string ⟨#[]⟩,.bool false];have hst2:=hst.keep ((Kept.refl aj w6).alloc (.cells #[.string k1,.string ⟨#[]⟩,.bool false] 143));obtain⟨W7,qg⟩:∃W7,w6.alloc (.cells #[.string k1,.string ⟨#[]⟩,.bool false] 143)=W7:=⟨_,rfl⟩;obtain⟨z,hz⟩:∃z,w6.heap.size=z:=⟨_,rfl⟩;rw[qg]at hst2 hz0;rw[hz]at hz0 hge hrow;have HZ:=ah (And.intro hz (And.intro hge hrow));clear hz hge hrow;have xM:=ah qg;clear qg;clear HST hrd hk hst;have HST:=ah hst2;clear hst2;have HZ0:=ah hz0;clear hz0;go_wp2_with fail;rw[xM.out,HZ.out.1];refine(KW _ g s ra HST.out.1 hs).mono ?_;intro e w8 hrd;obtain⟨rfl,hst,hk⟩:=HST.out.read HO.out hrd;rw[HP.out.2.1]at hst⊢;dsimp only at hst⊢;have hz1:=HZ0.out.kept hk (by have:=HO.out.gB;have:=HZ.out.2.1;omega);have z2:=hz1.cell 2;have Zh:=hz1.frozen 2;simp only[lF0,List.getElem?_cons_zero,List.getElem?_cons_succ]at z2;have hst2:=hst.far HO.out HZ.out.2.1 HZ.out.2.2 2 (.bool d1);have hz2:Has (w8.setCell ⟨z,2,none⟩ (.bool d1)) z 143 #[.string k1,.string ⟨#[]⟩,.bool d1]:=Has.aQ hz1 rfl;clear HST HZ0 hrd hk hst hz1;have HST:=ah hst2;clear hst2;have HZ0:=ah hz2;clear hz2;go_wp2_with fail;refine(qw _ g s rb 8 HST.out.1 hs (by decide)).mono ?_;intro e w9 hrd;obtain⟨rfl,hst,hk⟩:=HST.out.read HO.out hrd;rw[HP.out.2.2]at hst⊢;dsimp only at hst⊢;have hz1:=HZ0.out.kept hk (by have:=HO.out.gB;have:=HZ.out.2.1;omega);have hst2:=hst.far HO.out HZ.out.2.1 HZ.out.2.2 1 (.string v1);have hz2:Has (w9.setCell ⟨z,1,none⟩ (.string v1)) z 143 #[.string k1,.string v1,.bool d1]:=Has.aQ hz1 rfl;clear z2 Zh;have z1:=hz1.cell 1;have RH:=hz1.frozen 1;simp only[lF0,List.getElem?_cons_zero,List.getElem?_cons_succ]at z1;have BO:=hz2.cell 0;have BP:=hz2.cell 1;have RI:=hz2.cell 2;simp only[lF0,List.getElem?_cons_zero,List.getElem?_cons_succ]at BO BP RI;have xx2:=hst2.cells.1.2.2;clear HST HZ0 hrd hk hst hz1 hz2;have HST:=ah hst2;clear hst2;have hm1:l.length+1<=maxLen:=by rw[eH.out];unfold maxLen;omega
   have hm2:(l.length+1)*40<=140737488355328:=by rw[eH.out];omega
   have kY:=ah hm1;clear hm1;have kR:=ah hm2;clear hm2;go_wp2_with (at_builtin;refine bH Gl (.tmp 31) (.tmp 33) rfl rfl (Value.slice A l.length cap) rfl ((HST.out.2.2.2.1.kept ((Kept.refl _ _).alloc _)).1) 1 rfl (Src.kW (m:=1) (cs:=#[.string k1,.string v1,.bool d1]) (Has.dQ _ 143 _ (by simp)) rfl) (by intro u hu;simp at hu;rcases hu with rfl|rfl|rfl<;>rfl) kY.out kR.out ?_;intro A6 c6 w10 ji fJ ha6;obtain⟨hx6,Ad⟩:=HST.out.append HO.out (p:=⟨k1,v1,d1⟩) ((Kept.refl _ _).alloc _) ji fJ ha6;have e2:=hx6.cell 2;have ef:=hx6.frozen 2;simp only[lF0,List.getElem?_cons_zero,List.getElem?_cons_succ]at e2;have qH:=ah Ad;clear ji fJ ha6 hx6 Ad);go_roundw
   case rel=>exact⟨i+1,A6,c6,by omega,by go_num,by rw[jT.out];exact qH.out⟩
   case measure=>simp[intOf];omega
  ·obtain rfl:i=n:=by omega
   obtain⟨l,hl⟩:∃l,(jw s i r3).1=l:=⟨_,rfl⟩;obtain⟨r,hr⟩:∃r,(jw s i r3).2=r:=⟨_,rfl⟩;rw[hl,hr]at hst dw;rw[hl]at hlen;clear hl hr;have HST:=ah hst;clear hst;have eH:=ah hlen;clear hlen;go_wp2_with fail;refine(qO _ g s r HST.out.1 hs).mono ?_;rintro e w6 ⟨rfl,hk⟩;have hst:=HST.out.keep hk;clear HST hk;obtain⟨⟨x0,x1,x2⟩,xf,⟨y0,y1,y2⟩,jY,jZ,ku⟩:=hst.cells;have HST:=ah hst;clear hst;have hky:∀W,Kept aj w W->∀a b c,Kept aj w (((W.setCell ⟨y,0,none⟩ a).setCell ⟨y,1,none⟩ b).setCell ⟨y,2,none⟩ c):=fun W hW a b c=>((hW.put (.inr HO.out.wy)).put (.inr HO.out.wy)).put (.inr HO.out.wy);have mX:=ah hky;clear hky;obtain⟨er,uh⟩:∃er,iJ s r=er:=⟨_,rfl⟩;rw[uh]at dw⊢;clear uh;by_cases he:er=0;rotate_left
   ·have he2:(er !=0)=true:=by simpa using he
    have hof:=dw.out;rw[if_pos he]at hof;have dB:=ah hof;clear hof dw he;go_wp2_with fail;refine bodyPost_ret (v:=.tuple #[.agg #[.int .i64 0,.int .i64 0,.slice none 0 0],.int .i64 er]) (by simp[results,Tryz.results100,go_sem,y0,y1,y2,jY,jZ,ku]) rfl (?_:vw w s _ _);refine⟨none,0,by rw[dB.out];rfl,by rw[dB.out];exact Src.nil _ _ _,by rw[dB.out];exact Nat.le_refl _,Nat.zero_le _,(fun ad e=>by cases e),?_⟩;exact mX.out _ HST.out.2.2.2.2 _ _ _
   subst he;have hof:=dw.out;rw[if_neg (by simp)]at hof;have gK:=ah hof;clear hof dw;have hsr:=Src.fA HST.out.2.2.2.1.1;have hck:=wI w6 ⟨c,q,l⟩ A cap hsr;have hcap:=mM HST.out.2.2.2.1.1;obtain⟨ck,vJ⟩:∃ck,chk ⟨c,q,l⟩=ck:=⟨_,rfl⟩;rw[vJ]at hck gK;unfold nT at hck;dsimp only at hck;have jO:=ah hck;clear hck vJ hsr;have HCAP:=ah hcap;clear hcap;go_wp2_with fail;refine jO.out.mono ?_;rintro e w7 ⟨rfl,hk⟩;have hst:=HST.out.keep hk;clear HST hk x0 x1 x2 xf y0 y1 y2 jY jZ ku;obtain⟨⟨x0,x1,x2⟩,xf,⟨y0,y1,y2⟩,jY,jZ,ku⟩:=hst.cells;have HST:=ah hst;clear hst;by_cases he:ck=0;rotate_left
   ·have he2:(ck !=0)=true:=by simpa using he
    have hof:=gK.out;rw[if_pos he]at hof;have dB:=ah hof;clear hof gK he;go_wp2_with fail;refine bodyPost_ret (v:=.tuple #[.agg #[.int .i64 0,.int .i64 0,.slice none 0 0],.int .i64 ck]) (by simp[results,Tryz.results100,go_sem,y0,y1,y2,jY,jZ,ku]) rfl (?_:vw w s _ _);refine⟨none,0,by rw[dB.out];rfl,by rw[dB.out];exact Src.nil _ _ _,by rw[dB.out];exact Nat.le_refl _,Nat.zero_le _,(fun ad e=>by cases e),?_⟩;exact mX.out _ HST.out.2.2.2.2 _ _ _
   ·subst he;have hof:=gK.out;rw[if_neg (by simp)]at hof;have dB:=ah hof;clear hof gK;go_wp2_with fail;refine bodyPost_ret (v:=.tuple #[.agg #[.int .i64 c,.int .i64 q,.slice A l.length cap],.int .i64 0]) (by simp[results,Tryz.results100,go_sem,y0,y1,y2,jY,jZ,ku]) rfl (?_:vw w s _ _);have hn:∀k,(Value.slice A l.length cap).ownBlock=some k->k≠y:=fun k hk e=>by have:=HST.out.2.2.2.1.2 k hk;have:=HO.out.yB;omega
    have hkk:∀a b c,Kept (fun k=>k=y) w7 (((w7.setCell ⟨y,0,none⟩ a).setCell ⟨y,1,none⟩ b).setCell ⟨y,2,none⟩ c):=fun a b c=>Kept.put (F:=fun k=>k=y) (Kept.put (F:=fun k=>k=y) (Kept.put (F:=fun k=>k=y) (Kept.refl _ _) (.inl rfl)) (.inl rfl)) (.inl rfl);refine⟨A,cap,by rw[dB.out],?_,by rw[dB.out];exact HCAP.out.1,HCAP.out.2,(fun ad e=>by have h1:=oQ HST.out.2.2.2.1 ad e;have:=HO.out.gB;have:=HO.out.wg;omega),?_⟩
    ·rw[dB.out];exact Src.fA (aP HST.out.2.2.2.1.1 (hkk _ _ _) hn)
    ·exact mX.out _ HST.out.2.2.2.2 _ _ _
end Ops
namespace Mst
open bg
structure OX where
 id:Int
 at':Int
 left:Int
deriving DecidableEq
def Az(p:OX):List Value:=[.int .i64 p.id,.int .u64 p.at',.int .i64 p.left]
def bI(l:List OX):List Value:=l.flatMap Az
abbrev Hr(p:OX):Value:=.agg #[.int .i64 p.id,.int .u64 p.at',.int .i64 p.left]
theorem enters{f:FuncId}{fn:Func}{c:Code}(hf:Tryz.prog.funcs[f]? =some fn)(hname:(fn.name== "runtime.NumGoroutine")=false)(hb:fn.body=some c)(args:Array Value)(w:World):
  (callFunc f args).run Tryz.prog w=.ok (.enter f args) w:=by
 have h1:fn.name≠ "runtime.NumGoroutine" :=by simpa using hname
 simp[callFunc,hf,h1,hb]
def yV{α:Type}(p:α->Bool):List α->Nat->Int
 |[],_=> -1
 |x::l,i=>if p x=true then i else yV p l (i+1)
theorem XR{α:Type}(p:α->Bool){l:List α}{i:Nat}{x:α}(h:l[i]? =some x):yV p (l.drop i) i=if p x=true then (i:Int)else yV p (l.drop (i+1)) (i+1):=by obtain⟨hi,rfl⟩:=lD0.1 h;rw[List.drop_eq_getElem_cons hi,yV]
theorem Vf{α:Type}(p:α->Bool)(l:List α)(i:Nat):decide (0<=yV p l i)=l.any p:=by
 induction l generalizing i with
 |nil=>simp[yV]
 |cons x l ih=>
  rw[yV,List.any_cons];cases hx:p x
  ·rw[if_neg (by simp),ih,Bool.false_or]
  ·rw[if_pos rfl,Bool.true_or];simp
theorem OY(w:World)(A:Option Addr)(c:Nat)(l:List Mem)(g:Nat)(cap:Value)(p:Mem->Bool)(eg:∀args w,(callFunc g args).run Tryz.prog w=.ok (.enter g args) w)(hl:Src w 2 A l.length (dL l))(hlen:l.length<=1000000)
  (hf:∀W x,Kept aj w W->x∈l->Calls Tryz.prog g #[zK x,cap] W fun e W'=>e=.returned (.bool (p x))/\Kept aj W W'):
  Calls Tryz.prog 188 #[.slice A l.length c,.func (.func g) #[] #[cap]] w fun r w'=>r=.returned (.int .i64 (yV p l 0))/\Kept aj w w':=by
 have HL:=ah hl;clear hl;have GK:=ah hf;clear hf;obtain⟨r,hr⟩:∃r,yV p l 0=r:=⟨_,rfl⟩;rw[hr];have HR:=ah hr;clear hr;go_enter Tryz.func188,Tryz.ntmps188;go_wp2_with fail;go_loopw [5,8] (fun v5 v8 wr=>∃i:Nat,i<=l.length/\v8=.int .i64 i/\r=yV p (l.drop i) i/\Kept aj w wr) (fun _ v8 _=>l.length-(intOf v8).toNat)
 case atStart=>exact⟨0,Nat.zero_le _,rfl,HR.out.symm,Kept.refl _ _⟩
 case round=>
  obtain⟨i,hi,rfl,hrr,hk⟩:=hrel;have HK:=ah hk;clear hk;by_cases hil:i<l.length
  ·obtain⟨x,hx⟩:∃x,l[i]? =some x:=⟨_,lB0 hil⟩;have hsa:=XR p hx;obtain⟨ad,rfl,hl1,x0,x1⟩:=qX (HL.out.kept HK.out (fun _ _ x=>x)) (by omega) i x hx;have hcall:=GK.out wr x HK.out (lC0 hx);rw[hsa]at hrr;obtain⟨t,ht⟩:∃t,p x=t:=⟨_,rfl⟩;rw[ht]at hcall hrr;clear hsa ht hx;have HC:=ah hcall;clear hcall;have HRR:=ah hrr;clear hrr;go_wp2_with fail;refine HC.out.mono ?_;rintro e w5 ⟨rfl,hk0⟩;have dK:=ah (HK.out.then hk0);clear hk0;cases t
   ·have hrf:=HRR.out;rw[if_neg (by simp)]at hrf;have jl:=ah hrf;clear hrf HRR;go_wp2;go_roundw
    case rel=>exact⟨i+1,by omega,by go_num,jl.out,dK.out⟩
    case measure=>simp[intOf];omega
   ·have hrf:=HRR.out;rw[if_pos rfl]at hrf;have jl:=ah hrf;clear hrf HRR;go_wp2;go_ret;exact⟨by rw[jl.out];rfl,dK.out⟩
  ·obtain rfl:i=l.length:=by omega
   rw[List.drop_length,yV]at hrr;have HRR:=ah hrr;clear hrr;go_wp2;go_ret;exact⟨by rw[HRR.out];rfl,HK.out⟩
theorem OZ(w:World)(A:Option Addr)(c:Nat)(l:List Mem)(g:Nat)(cap:Value)(p:Mem->Bool)(eg:∀args w,(callFunc g args).run Tryz.prog w=.ok (.enter g args) w)(hl:Src w 2 A l.length (dL l))(hlen:l.length<=1000000)
  (hf:∀W x,Kept aj w W->x∈l->Calls Tryz.prog g #[zK x,cap] W fun e W'=>e=.returned (.bool (p x))/\Kept aj W W'):
  Calls Tryz.prog 185 #[.slice A l.length c,.func (.func g) #[] #[cap]] w fun r w'=>r=.returned (.bool (l.any p))/\Kept aj w w':=by
 have hi:=OY w A c l g cap p eg hl hlen hf;have ha:=Vf p l 0;obtain⟨k,hk⟩:∃k,yV p l 0=k:=⟨_,rfl⟩;rw[hk]at hi ha;rw[<-ha];have HI:=ah hi;clear hi hk hf hl ha eg;go_enter Tryz.func185,Tryz.ntmps185;go_wp2_with fail;refine HI.out.mono ?_;rintro e w2 ⟨rfl,hk⟩;have HK:=ah hk;clear hk;go_wp2;go_ret;exact⟨by simp,HK.out⟩
end Mst
namespace Mst
open bg
structure abp where
 cl:Int
 req:Int
 e:Int
 pin:Int
deriving DecidableEq
end Mst
namespace Mst
open bg
theorem Vg(w:World)(x m:Mem)(b:Nat)(hb:Has w b 175 #[.int .i64 m.1,.int .i64 m.2]):
  Calls Tryz.prog 184 #[zK x,.pointer (some ⟨b,0,none⟩)] w fun e w'=>e=.returned (.bool (decide (x.1=m.1)))/\Kept aj w w':=by
 have c0:=(hb.alloc (.cells #[.int .i64 x.1,.int .i64 x.2] 175)).cell 0;simp only[lF0,List.getElem?_cons_zero,List.getElem?_cons_succ]at c0;clear hb;go_enter Tryz.func184,Tryz.ntmps184;go_wp2;go_ret;exact⟨rfl,by(repeat'(first|(with_reducible first|exact ay|apply aA|apply aB|apply aC|apply aF)|(right;simp;done)))⟩
theorem one_any(w:World)(m:Mem)(A:Option Addr)(c:Nat)(l:List Mem)(hl:Src w 2 A l.length (dL l))(hlen:l.length<=1000000):
  Calls Tryz.prog 174 #[zK m,.slice A l.length c] w fun e w'=>e=.returned (.int .i64 (rZ m l))/\Kept aj w w':=by
 have hk1:Kept aj w (w.alloc (.cells #[.int .i64 m.1,.int .i64 m.2] 175)):=by(repeat'(first|(with_reducible first|exact ay|apply aA|apply aB|apply aC|apply aF)|(right;simp;done)))
 have hb:=Has.new w 175 #[.int .i64 m.1,.int .i64 m.2]
 have hh:=OZ _ A c l 184 (.pointer (some ⟨w.heap.size,0,none⟩)) (fun x=>decide (x.1=m.1)) (fun args W=>enters Tryz.func184 (by kernel_rfl) rfl args W) (hl.kept hk1 (fun _ _ z=>z)) hlen
  (fun W x hW _=>Vg W x m w.heap.size (hb.kept hW (fun z=>z)))
 obtain⟨r,hr⟩:∃r,rZ m l=r:=⟨_,rfl⟩;rw[hr];unfold rZ at hr;obtain⟨t,ht⟩:∃t,(l.any fun x=>decide (x.1=m.1))=t:=⟨_,rfl⟩;rw[ht]at hr hh;clear ht hl hb hk1;obtain⟨m1,m2⟩:=m;dsimp only at*
 have HH:=ah hh;clear hh;have HR:=ah hr;clear hr;by_cases h1:m1<0
 ·go_enter Tryz.func174,Tryz.ntmps174;go_wp2;go_ret;exact⟨by rw[<-HR.out,if_pos (.inl h1)];rfl,by(repeat'(first|(with_reducible first|exact ay|apply aA|apply aB|apply aC|apply aF)|(right;simp;done)))⟩
 by_cases h2:4<=m1
 ·go_enter Tryz.func174,Tryz.ntmps174;go_wp2;go_ret;exact⟨by rw[<-HR.out,if_pos (.inr h2)];rfl,by(repeat'(first|(with_reducible first|exact ay|apply aA|apply aB|apply aC|apply aF)|(right;simp;done)))⟩
 have hr2:=HR.out;rw[if_neg (by omega)]at hr2;clear HR;have HR:=ah hr2;clear hr2;by_cases h3:m2<1
 ·go_enter Tryz.func174,Tryz.ntmps174;go_wp2;go_ret;exact⟨by rw[<-HR.out,if_pos (.inl h3)];rfl,by(repeat'(first|(with_reducible first|exact ay|apply aA|apply aB|apply aC|apply aF)|(right;simp;done)))⟩
 by_cases h4:1073741824<m2
 ·go_enter Tryz.func174,Tryz.ntmps174;go_wp2;go_ret;exact⟨by rw[<-HR.out,if_pos (.inr h4)];rfl,by(repeat'(first|(with_reducible first|exact ay|apply aA|apply aB|apply aC|apply aF)|(right;simp;done)))⟩
 have hr2:=HR.out;rw[if_neg (by omega)]at hr2;clear HR;have HR:=ah hr2;clear hr2;go_enter Tryz.func174,Tryz.ntmps174;go_wp2_with fail;refine HH.out.mono ?_;rintro e w2 ⟨rfl,hk⟩;have hk2:=Kept.then (F:=aj) (a:=w) (by(repeat'(first|(with_reducible first|exact ay|apply aA|apply aB|apply aC|apply aF)|(right;simp;done)))) hk;have HK:=ah hk2;clear hk hk2;cases t
 ·have hr3:=HR.out;rw[if_neg (by simp)]at hr3;subst hr3;clear HR;go_wp2;go_ret;exact⟨rfl,HK.out⟩
 ·have hr3:=HR.out;rw[if_pos rfl]at hr3;subst hr3;clear HR;go_wp2;go_ret;exact⟨rfl,HK.out⟩
theorem O1(w:World)(b:Ops.Batch)(A:Option Addr)(c:Nat)(ts:Int)(hs:Src w 3 A b.ops.length (Ops.cells b.ops)):
  Calls Tryz.prog 176 #[.agg #[.int .i64 b.cl,.int .i64 b.req,.slice A b.ops.length c,.int .u64 ts]] w fun e w'=>e=.returned (.int .i64 (Ops.chk b))/\Kept aj w w':=by
 have h:=fun W (hW:Kept aj w W)=>Ops.wI W b A c (hs.kept hW (fun _ _ z=>z));obtain⟨cl,req,ops⟩:=b;dsimp only[Ops.nT]at*
 obtain⟨r,hr⟩:∃r,Ops.chk ⟨cl,req,ops⟩=r:=⟨_,rfl⟩;rw[hr]at h⊢;have H:=ah h;clear h hr hs;go_enter Tryz.func176,Tryz.ntmps176;go_wp2_with fail;refine(H.out _ (by(repeat'(first|(with_reducible first|exact ay|apply aA|apply aB|apply aC|apply aF)|(right;simp;done))))).mono ?_;rintro e w2 ⟨rfl,hk⟩;have hk2:=Kept.then (F:=aj) (a:=w) (by(repeat'(first|(with_reducible first|exact ay|apply aA|apply aB|apply aC|apply aF)|(right;simp;done)))) hk;have HK:=ah hk2;clear hk hk2;go_wp2;go_ret;exact⟨rfl,HK.out⟩
