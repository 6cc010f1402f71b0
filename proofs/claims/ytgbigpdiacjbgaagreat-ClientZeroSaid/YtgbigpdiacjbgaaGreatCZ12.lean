/- Part 13. -/
import Derived.Test.YtgbigpdiacjbgaaGreatCZ11
set_option linter.unusedSimpArgs false
set_option linter.unusedVariables false
set_option maxHeartbeats 32000000
set_option maxRecDepth 100000
namespace Go.Proofs.YtgbigpdiacjbgaaGreat
open Go.RowKit
namespace Mst
open aJ
theorem yc(w:World)(x m:Mem)(b:Nat)(hb:Has w b 175 #[.int .i64 m.1,.int .i64 m.2]):
  Calls Tryz.prog 184 #[jg x,.pointer (some ⟨b,0,none⟩)] w fun e w'=>e=.returned (.bool (decide (x.1=m.1)))/\Kept aj w w':=by
 have c0:=(hb.alloc (.cells #[.int .i64 x.1,.int .i64 x.2] 175)).cell 0;simp only[lF0,List.getElem?_cons_zero,List.getElem?_cons_succ]at c0;clear hb;go_enter Tryz.func184,Tryz.ntmps184;go_wp2;go_ret;exact⟨rfl,by(repeat'(first|(with_reducible first|exact ay|apply aA|apply aB|apply aC|apply aF)|(right;simp;done)))⟩
theorem one_any(w:World)(m:Mem)(A:Option Addr)(c:Nat)(l:List Mem)(hl:Src w 2 A l.length (aZ l))(hlen:l.length<=1000000):
  Calls Tryz.prog 174 #[jg m,.slice A l.length c] w fun e w'=>e=.returned (.int .i64 (dX m l))/\Kept aj w w':=by
 have hk1:Kept aj w (w.alloc (.cells #[.int .i64 m.1,.int .i64 m.2] 175)):=by(repeat'(first|(with_reducible first|exact ay|apply aA|apply aB|apply aC|apply aF)|(right;simp;done)))
 have hb:=Has.new w 175 #[.int .i64 m.1,.int .i64 m.2]
 have hh:=uh _ A c l 184 (.pointer (some ⟨w.heap.size,0,none⟩)) (fun x=>decide (x.1=m.1)) (fun args W=>enters Tryz.func184 (by kernel_rfl) rfl args W) (hl.kept hk1 (fun _ _ z=>z)) hlen
  (fun W x hW _=>yc W x m w.heap.size (hb.kept hW (fun z=>z)))
 obtain⟨r,hr⟩:∃r,dX m l=r:=⟨_,rfl⟩;rw[hr];unfold dX at hr;obtain⟨t,ht⟩:∃t,(l.any fun x=>decide (x.1=m.1))=t:=⟨_,rfl⟩;rw[ht]at hr hh;clear ht hl hb hk1;obtain⟨m1,m2⟩:=m;dsimp only at*
 have HH:=ah hh;clear hh;have HR:=ah hr;clear hr;by_cases h1:m1<0
 ·go_enter Tryz.func174,Tryz.ntmps174;go_wp2;go_ret;exact⟨by rw[<-HR.out,if_pos (.inl h1)];rfl,by(repeat'(first|(with_reducible first|exact ay|apply aA|apply aB|apply aC|apply aF)|(right;simp;done)))⟩
 by_cases h2:4<=m1
 ·go_enter Tryz.func174,Tryz.ntmps174;go_wp2;go_ret;exact⟨by rw[<-HR.out,if_pos (.inr h2)];rfl,by(repeat'(first|(with_reducible first|exact ay|apply aA|apply aB|apply aC|apply aF)|(right;simp;done)))⟩
 have hr2:=HR.out;rw[if_neg (by omega)]at hr2;clear HR;have HR:=ah hr2;clear hr2;by_cases h3:m2<1
 ·go_enter Tryz.func174,Tryz.ntmps174;go_wp2;go_ret;exact⟨by rw[<-HR.out,if_pos (.inl h3)];rfl,by(repeat'(first|(with_reducible first|exact ay|apply aA|apply aB|apply aC|apply aF)|(right;simp;done)))⟩
 by_cases h4:1073741824<m2
 ·go_enter Tryz.func174,Tryz.ntmps174;go_wp2;go_ret;exact⟨by rw[<-HR.out,if_pos (.inr h4)];rfl,by(repeat'(first|(with_reducible first|exact ay|apply aA|apply aB|apply aC|apply aF)|(right;simp;done)))⟩
 have hr2:=HR.out;rw[if_neg (by omega)]at hr2;clear HR;have HR:=ah hr2;clear hr2;go_enter Tryz.func174,Tryz.ntmps174;go_wp2_with fail;refine HH.out.mono ?_;rintro e w2 ⟨rfl,hk⟩;have hk2:=Kept.then (F:=aj) (a:=w) (by(repeat'(first|(with_reducible first|exact ay|apply aA|apply aB|apply aC|apply aF)|(right;simp;done)))) hk;have HK:=ah hk2;clear hk hk2;cases t
 ·have hr3:=HR.out;rw[if_neg (by simp)]at hr3;subst hr3;clear HR;go_wp2;go_ret;exact⟨rfl,HK.out⟩
 ·have hr3:=HR.out;rw[if_pos rfl]at hr3;subst hr3;clear HR;go_wp2;go_ret;exact⟨rfl,HK.out⟩
theorem uj(w:World)(b:Ops.Batch)(A:Option Addr)(c:Nat)(ts:Int)(hs:Src w 3 A b.ops.length (Ops.cells b.ops)):
  Calls Tryz.prog 176 #[.agg #[.int .i64 b.cl,.int .i64 b.req,.slice A b.ops.length c,.int .u64 ts]] w fun e w'=>e=.returned (.int .i64 (Ops.chk b))/\Kept aj w w':=by
 have h:=fun W (hW:Kept aj w W)=>Ops.iY W b A c (hs.kept hW (fun _ _ z=>z));obtain⟨cl,req,ops⟩:=b;dsimp only[Ops.mW]at*
 obtain⟨r,hr⟩:∃r,Ops.chk ⟨cl,req,ops⟩=r:=⟨_,rfl⟩;rw[hr]at h⊢;have H:=ah h;clear h hr hs;go_enter Tryz.func176,Tryz.ntmps176;go_wp2_with fail;refine(H.out _ (by(repeat'(first|(with_reducible first|exact ay|apply aA|apply aB|apply aC|apply aF)|(right;simp;done))))).mono ?_;rintro e w2 ⟨rfl,hk⟩;have hk2:=Kept.then (F:=aj) (a:=w) (by(repeat'(first|(with_reducible first|exact ay|apply aA|apply aB|apply aC|apply aF)|(right;simp;done)))) hk;have HK:=ah hk2;clear hk hk2;go_wp2;go_ret;exact⟨rfl,HK.out⟩
end Mst
namespace Mst
open aJ
theorem mJ(l:List Mem)(k:Nat):(aZ l).take (k*2)=aZ (l.take k):=by
 induction l generalizing k with
 |nil=>cases k<;>rfl
 |cons m l ih=>
  cases k with
  |zero=>rfl
  |succ k=>
   rw[show(k+1)*2=k*2+2 by omega,List.take_succ_cons];show List.take (k*2+2) (.int .i64 m.1::.int .i64 m.2::aZ l)=.int .i64 m.1::.int .i64 m.2::aZ (l.take k);rw[List.take_succ_cons,List.take_succ_cons,ih]
theorem Src.C9{w:World}{A:Option Addr}{l:List Mem}(h:Src w 2 A l.length (aZ l)){k:Nat}(hk:k<=l.length):Src w 2 A (l.take k).length (aZ (l.take k)):=by have h1:=h.take hk;rw[mJ]at h1;rwa[List.length_take,Nat.min_eq_left hk]
theorem nU(w:World)(ep fl:Int)(A:Option Addr)(c:Nat)(l:List Mem)(hl:Src w 2 A l.length (aZ l))(hlc:l.length<=c)(hlen:l.length<=1000000):
  Calls Tryz.prog 138 #[xJ ep A l.length c fl] w fun e w'=>e=.returned (.int .i64 (chk ep l))/\Kept aj w w':=by
 have HL:=ah hl;clear hl;by_cases h1:ep<1
 ·have hr:chk ep l=5:=by unfold chk;rw[if_pos (.inl h1)]
  have HR:=ah hr;clear hr;go_enter Tryz.func138,Tryz.ntmps138;go_wp2;go_ret;exact⟨by rw[HR.out];rfl,(Kept.refl _ _).alloc _⟩
 by_cases h2:1073741824<ep
 ·have hr:chk ep l=5:=by unfold chk;rw[if_pos (.inr h2)]
  have HR:=ah hr;clear hr;go_enter Tryz.func138,Tryz.ntmps138;go_wp2;go_ret;exact⟨by rw[HR.out];rfl,(Kept.refl _ _).alloc _⟩
 by_cases h3:l.length=0
 ·have hr:chk ep l=7:=by unfold chk;rw[if_neg (by omega),if_pos h3]
  have HR:=ah hr;clear hr;rw[h3];clear h3;go_enter Tryz.func138,Tryz.ntmps138;go_wp2;go_ret;exact⟨by rw[HR.out];rfl,(Kept.refl _ _).alloc _⟩
 have h3':((l.length:Int)==0)=false:=by rw[beq_eq_false_iff_ne];omega
 by_cases h4:4<l.length
 ·have hr:chk ep l=6:=by unfold chk;rw[if_neg (by omega),if_neg h3,if_pos h4]
  have HR:=ah hr;clear hr;have h4':(4:Int)<l.length:=by omega
  clear h3;go_enter Tryz.func138,Tryz.ntmps138;go_wp2;go_ret;exact⟨by rw[HR.out];rfl,(Kept.refl _ _).alloc _⟩
 have hr:chk ep l=cZ (l.take 0) (l.drop 0):=by unfold chk;rw[if_neg (by omega),if_neg h3,if_neg h4];rfl
 have HR:=ah hr;clear hr;have h4':¬(4:Int)<l.length:=by omega
 have hnew:=Has.new w 57 #[.int .i64 ep,.slice A l.length c,.int .u64 fl];have HN:=ah hnew;clear hnew;clear h3 h4;go_enter Tryz.func138,Tryz.ntmps138;go_wp2_with fail;go_loopw [3,4,5,28] (fun _ _ _ v28 wr=>∃i:Nat,i<=l.length/\v28=.int .i64 i/\Has wr w.heap.size 57 #[.int .i64 ep,.slice A l.length c,.int .u64 fl]/\Kept aj w wr/\chk ep l=cZ (l.take i) (l.drop i)) (fun _ _ _ v28 _=>l.length-(intOf v28).toNat)
 case atStart=>exact⟨0,Nat.zero_le _,rfl,HN.out,(Kept.refl _ _).alloc _,HR.out⟩
 case round=>
  obtain⟨i,hi,rfl,hh,hk,he⟩:=hrel;have hlt0:=hh.lt;have hsz:=hk.size;have e0:wr.cell? ⟨w.heap.size,1,none⟩=some (.slice A l.length c):=hh.cell 1;have HH:=ah hh;clear hh;have HK:=ah hk;clear hk;have HE:=ah he;clear he;by_cases hil:i<l.length
  ·obtain⟨m,hm⟩:∃m,l[i]? =some m:=⟨_,lB0 hil⟩;obtain⟨ad,hA,had,d0,d1⟩:=jq (HL.out.kept HK.out (fun _ _ x=>x)) (by omega) i m hm;subst hA;have hone:=fun W (hW:Kept aj wr W)=>one_any W m (some ad) c (l.take i) (Src.C9 (HL.out.kept (HK.out.then hW) (fun _ _ x=>x)) hi) (by rw[List.length_take];omega);rw[show(l.take i).length=i by rw[List.length_take];omega]at hone;obtain⟨t,ht⟩:∃t,dX m (l.take i)=t:=⟨_,rfl⟩;rw[ht]at hone;have HM:=ah (And.intro hm ht);clear hm ht;have HO:=ah hone;clear hone;have b0:(0:Int)<=(i:Int):=by omega
   have b1:(i:Int)<=(c:Int):=by omega
   have b2:i<=c:=by omega
   obtain⟨m1,m2⟩:=m;dsimp only[jg]at d0 d1 HO;have q0:(wr.alloc (.cells #[.int .i64 m1,.int .i64 m2] 175)).cell? ⟨wr.heap.size,0,none⟩=some (.int .i64 m1):=(Has.new wr 175 #[.int .i64 m1,.int .i64 m2]).cell 0;have q1:(wr.alloc (.cells #[.int .i64 m1,.int .i64 m2] 175)).cell? ⟨wr.heap.size,1,none⟩=some (.int .i64 m2):=(Has.new wr 175 #[.int .i64 m1,.int .i64 m2]).cell 1;have q2:(wr.alloc (.cells #[.int .i64 m1,.int .i64 m2] 175)).cell? ⟨w.heap.size,1,none⟩=some (.slice (some ad) l.length c):=(HH.out.alloc _).cell 1
   have hq:∀W,Kept aj (wr.alloc (.cells #[.int .i64 m1,.int .i64 m2] 175)) W->W.cell? ⟨wr.heap.size,0,none⟩=some (.int .i64 m1)/\W.cell? ⟨wr.heap.size,1,none⟩=some (.int .i64 m2)/\W.cell? ⟨w.heap.size,1,none⟩=some (.slice (some ad) l.length c):=fun W hW=>
    ⟨((Has.new wr 175 #[.int .i64 m1,.int .i64 m2]).kept hW (fun z=>z)).cell 0,((Has.new wr 175 #[.int .i64 m1,.int .i64 m2]).kept hW (fun z=>z)).cell 1,((HH.out.alloc _).kept hW (fun z=>z)).cell 1⟩
   have HQ:=ah hq;clear hq;go_wp2_with fail
   go_region_held3 (fun W=>W.cell? ⟨wr.heap.size,0,none⟩=some (.int .i64 m1)/\W.cell? ⟨wr.heap.size,1,none⟩=some (.int .i64 m2)/\W.cell? ⟨w.heap.size,1,none⟩=some (.slice (some ad) l.length c))
    (first|with_reducible exact q3|(refine HQ.out _ ?_;(repeat'(first|(with_reducible first|exact ay|apply aA|apply aB|apply aC|apply aF)|(right;simp;done)))))
    (first|(go_at_call 174;refine(HO.out _ (by(repeat'(first|(with_reducible first|exact ay|apply aA|apply aB|apply aC|apply aF)|(right;simp;done))))).mono ?_;rintro e w5 ⟨rfl,hk0⟩;have q3:=HQ.out w5 (Kept.then (by(repeat'(first|(with_reducible first|exact ay|apply aA|apply aB|apply aC|apply aF)|(right;simp;done)))) hk0);have hk5:=Kept.then (F:=aj) (a:=wr) (by(repeat'(first|(with_reducible first|exact ay|apply aA|apply aB|apply aC|apply aF)|(right;simp;done)))) hk0;clear hk0;have dw:=ah hk5;clear hk5))
   clear q0 q1 q2 d0 d1 HQ HO had;by_cases ht0:t=0
   ·have ht1:(t !=0)=false:=by simp[ht0]
    have hs:=HE.out.trans (qK HM.out.1 (HM.out.2.trans ht0));have HS:=ah hs;clear hs ht0;go_wp2;go_roundw
    case rel=>exact⟨i+1,by omega,by go_num,HH.out.kept dw.out (fun z=>z),HK.out.then dw.out,HS.out⟩
    case measure=>simp[intOf];omega
   ·have ht1:(t !=0)=true:=by simpa using ht0
    have hs:=HE.out.trans ((qL HM.out.1 (by rw[HM.out.2];exact ht0)).trans HM.out.2);have HS:=ah hs;clear hs ht0;go_wp2;go_ret;exact⟨by rw[HS.out];rfl,HK.out.then dw.out⟩
  ·obtain rfl:i=l.length:=by omega
   have hr:chk ep l=0:=by rw[HE.out,List.drop_length];rfl
   have HR:=ah hr;clear hr;go_wp2;go_ret;exact⟨by rw[HR.out];rfl,HK.out⟩
end Mst
namespace Mst
open aJ
structure qh where
 k:Int
 n:Int
 at':Int
 ep:Int
 mA:Option Addr
 mc:Nat
 ms:List Mem
 fl:Int
 lA:Option Addr
 lc:Nat
 lg:List Int
 oA:Option Addr
 oc:Nat
 b:Ops.Batch
 ts:Int
 pin:xZ
 said:Ed
def Dc(x:qh):List Value:=[.int .i64 x.k,.int .i64 x.n,.int .u64 x.at',.int .i64 x.ep,.slice x.mA x.ms.length x.mc,.int .u64 x.fl,.slice x.lA x.lg.length x.lc,.int .i64 x.b.cl,.int .i64 x.b.req,.slice x.oA x.b.ops.length x.oc,.int .u64 x.ts,.int .i64 x.pin.id,.int .u64 x.pin.at',.int .i64 x.pin.left,.int .i64 x.said.cl,.int .i64 x.said.req,.int .i64 x.said.e,.int .i64 x.said.pin]
abbrev AU(x:qh):Value:=.agg (Dc x).toArray
structure Bf(w:World)(x:qh):Prop where
 m:Src w 2 x.mA x.ms.length (aZ x.ms)
 mc:x.ms.length<=x.mc
 ml:x.ms.length<=1000
 l:Src w 1 x.lA x.lg.length (ints x.lg)
 lc:x.lg.length<=x.lc
 ll:x.lg.length<=1000
 o:Src w 3 x.oA x.b.ops.length (Ops.cells x.b.ops)
theorem Bf.kept{w w':World}{x:qh}(h:Bf w x)(hk:Kept aj w w'):Bf w' x:=⟨h.m.kept hk (fun _ _ z=>z),h.mc,h.ml,h.l.kept hk (fun _ _ z=>z),h.lc,h.ll,h.o.kept hk (fun _ _ z=>z)⟩
