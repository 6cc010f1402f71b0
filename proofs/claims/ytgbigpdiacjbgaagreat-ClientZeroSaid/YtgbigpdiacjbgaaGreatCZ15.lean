/- Part 16. -/
import Derived.Test.YtgbigpdiacjbgaaGreatCZ04
set_option linter.unusedSimpArgs false
set_option linter.unusedVariables false
set_option maxHeartbeats 32000000
set_option maxRecDepth 100000
namespace Go.Proofs.YtgbigpdiacjbgaaGreat
open Go.RowKit Go.Shelf
namespace oU
open Vn Ops
abbrev KB:=Nat×TypeId×Array Value
def WS(N:Nat)(w:World)(g:Nat)(bs:List UInt8)(keep:List KB):Prop:=
 N<=w.heap.size/\∃F,bY w g F bs/\(∀k,F k->N<=k)/\∀x∈keep,¬F x.1/\Has w x.1 x.2.1 x.2.2
section
variable{N g:Nat}{w w':World}{bs:List UInt8}{keep:List KB}
theorem WS.drewN(h:WS N w g bs keep)(n:Nat):WS N (w.drewN n) g bs keep:=h
theorem WS.alloc(h:WS N w g bs keep)(o:Obj):WS N (w.alloc o) g bs keep:=by obtain⟨h0,F,h1,h2,h3⟩:=h;exact⟨by simp;omega,F,h1.kept ((Kept.refl aj w).alloc o) (gB F),h2,fun x hx=>⟨(h3 x hx).1,(h3 x hx).2.alloc o⟩⟩
theorem WS.add(h:WS N w g bs keep)(t:TypeId)(cs:Array Value):WS N (w.alloc (.cells cs t)) g bs ((w.heap.size,t,cs)::keep):=by
 obtain⟨h0,F,h1,h2,h3⟩:=h;refine⟨by simp;omega,F,h1.kept ((Kept.refl aj w).alloc _) (gB F),h2,fun x hx=> ?_⟩;rcases List.mem_cons.1 hx with rfl|hx
 ·exact⟨fun hF=>by have:=h1.lt _ hF;simp at this,Has.new w t cs⟩
 ·exact⟨(h3 x hx).1,(h3 x hx).2.alloc _⟩
theorem WS.tail{x:KB}(h:WS N w g bs (x::keep)):WS N w g bs keep:=by obtain⟨h0,F,h1,h2,h3⟩:=h;exact⟨h0,F,h1,h2,fun y hy=>h3 y (List.mem_cons_of_mem _ hy)⟩
theorem WS.uw{x y:KB}(h:WS N w g bs (x::y::keep)):WS N w g bs (y::keep):=h.tail
theorem WS.has{x:KB}(h:WS N w g bs keep)(hx:x∈keep):Has w x.1 x.2.1 x.2.2:=by obtain⟨h0,F,h1,h2,h3⟩:=h;exact(h3 x hx).2
theorem WS.kept{G:Nat->Prop}(h:WS N w g bs keep)(hk:Kept aj w w'):WS N w' g bs keep:=by obtain⟨h0,F,h1,h2,h3⟩:=h;exact⟨Nat.le_trans h0 hk.size,F,h1.kept hk (gB F),h2,fun x hx=>⟨(h3 x hx).1,(h3 x hx).2.kept hk (fun y=>y)⟩⟩
def gJ(N:Nat)(w:World)(g:Nat)(bs:List UInt8)(keep:List KB)(e:Ending)(w':World):Prop:=e=.returned (.pointer (some ⟨g,0,none⟩))/\WS N w' g bs keep/\Below N w w'
theorem WS.step{f:FuncId}{args:Array Value}{bs':List UInt8}(h:WS N w g bs keep)
  (hc:∀F,bY w g F bs->Calls Tryz.prog f args w (Wrote w g F bs')):Calls Tryz.prog f args w (gJ N w g bs' keep):=by
 obtain⟨h0,F,h1,h2,h3⟩:=h;refine(hc F h1).mono ?_;rintro e w' ⟨he,F',g1,g2,g3⟩;refine⟨he,⟨Nat.le_trans h0 g3.size,F',g1,fun k hk=> ?_,fun x hx=>⟨fun hF=> ?_,(h3 x hx).2.kept g3 (h3 x hx).1⟩⟩,g3.below h0 h2⟩
 ·rcases g2 k hk with y|y
  ·exact h2 k y
  ·omega
 ·rcases g2 x.1 hF with y|y
  ·exact(h3 x hx).1 y
  ·have:=(h3 x hx).2.lt;omega
theorem dU(h:WS N w g bs keep)(n:Nat)(hn:n<=9223372036854775807)(hlen:bs.length+9<=140737488355328):
  Calls Tryz.prog 88 #[.pointer (some ⟨g,0,none⟩),.int .i64 n] w (gJ N w g (bs++put n) keep):=h.step fun F hF=>qy w g F bs n hn hF hlen
theorem l7(h:WS N w g bs keep)(n:Nat)(hn:n<18446744073709551616)(hlen:bs.length+9<=140737488355328):
  Calls Tryz.prog 132 #[.pointer (some ⟨g,0,none⟩),.int .u64 n] w (gJ N w g (bs++put n) keep):=h.step fun F hF=>qA w g F bs n hn hF hlen
theorem eu(h:WS N w g bs keep)(s:ByteArray)(hlen:bs.length+9+s.size<=140737488355328):
  Calls Tryz.prog 131 #[.pointer (some ⟨g,0,none⟩),.string s] w (gJ N w g (bs++aP s) keep):=h.step fun F hF=>pq w g F bs s hF hlen
theorem qT(h:WS N w g bs keep)(b:Bool)(hlen:bs.length+9<=140737488355328):
  Calls Tryz.prog 171 #[.pointer (some ⟨g,0,none⟩),.bool b] w (gJ N w g (bs++jF b) keep):=h.step fun F hF=>pz w g F bs b hF (by omega)
theorem nV(w:World)(keep:List KB)(hk:∀x∈keep,Has w x.1 x.2.1 x.2.2):
  Calls Tryz.prog 87 #[] w fun e w'=>∃g,e=.returned (.pointer (some ⟨g,0,none⟩))/\WS w.heap.size w' g [] keep/\Kept aj w w':=by
 refine(qB w).mono ?_;rintro e w' ⟨he,h1,h2⟩;exact⟨w.heap.size,he,⟨h2.size,_,h1,fun k hk=>by rw[hk];exact Nat.le_refl _,fun x hx=>⟨fun e=>by have:=(hk x hx).lt;omega,(hk x hx).kept h2 (fun y=>y)⟩⟩,h2⟩
theorem kZ(h:WS N w g bs keep)(h0:bs≠[]):
  Calls Tryz.prog 90 #[.pointer (some ⟨g,0,none⟩)] w fun e w'=>e=.returned (.tuple #[.string (bJ bs),.int .i64 0])/\Below N w w':=by
 obtain⟨hN,F,h1,h2,h3⟩:=h;refine(qx w g F bs h1 h0).mono ?_;rintro e w' ⟨he,hk⟩;exact⟨he,hk.below hN h2⟩
theorem behind{a b:World}(h:Kept aj w a)(hb:Below N a b)(hN:w.heap.size<=N):Kept aj w b:=
 h.trans (G:=fun k=>N<=k) (Kept.of_below hb fun k _ hf=>by omega) fun i hi=> .inr (by omega)
end
end oU
namespace Ops
open Vn oU
def jl(b:Batch):ByteArray:=if chk b=0 then bJ (kT b)else emp
theorem qU(w:World)(b:Batch)(A:Option Addr)(c:Nat)(hs:Src w 3 A b.ops.length (cells b.ops)):
  Calls Tryz.prog 170 #[mW b A c] w fun e w'=>e=.returned (.tuple #[.string (jl b),.int .i64 (chk b)])/\Kept aj w w':=by
 have fJ:=fun W (hW:Kept aj w W)=>iY W b A c (hs.kept hW (fun _ _ x=>x));have gK:=ah fJ;clear fJ;have HS:=ah hs;clear hs;by_cases hz:chk b=0;rotate_left
 ·have hr:jl b=emp:=by unfold jl;rw[if_neg hz]
  rw[hr];obtain⟨x,hx⟩:∃x,chk b=x:=⟨_,rfl⟩;rw[hx]at hz gK⊢;have hz2:(x !=0)=true:=by simpa using hz
  clear hx hr hz;go_enter Tryz.func170,Tryz.ntmps170;go_wp2_with fail;refine(gK.out _ (by(repeat'(first|(with_reducible first|exact ay|apply aA|apply aB|apply aC|apply aF)|(right;simp;done))))).mono ?_;rintro e w2 ⟨rfl,hk⟩;have hk2:=Kept.then (a:=w) (by(repeat'(first|(with_reducible first|exact ay|apply aA|apply aB|apply aC|apply aF)|(right;simp;done)))) hk;have bK:=ah hk2;clear hk2 hk;go_wp2;go_ret2;exact⟨rfl,bK.out⟩
 have hr:jl b=bJ (kT b):=by unfold jl;rw[if_pos hz]
 rw[hr,hz];rw[hz]at gK;obtain⟨k1,k2,k3,k4,k5,k6⟩:=qo hz;have hok:=rX k6;obtain⟨cl,req,l⟩:=b;dsimp only at k1 k2 k3 k4 k5 k6 hok HS;obtain⟨cn,rfl⟩:∃cn:Nat,cl=cn:=⟨cl.toNat,by omega⟩;obtain⟨rn,rfl⟩:∃rn:Nat,req=rn:=⟨req.toNat,by omega⟩;have hpb:kT ⟨cn,rn,l⟩=put cn++put rn++put l.length++l.flatMap bT:=rfl;rw[hpb];have Bh:=ah hok;clear hok k6 hz hr hpb;have HB0:=ah (Has.new w 59 #[.int .i64 cn,.int .i64 rn,.slice A l.length c]);go_enter Tryz.func170,Tryz.ntmps170;go_wp2_with fail;refine(gK.out _ (by(repeat'(first|(with_reducible first|exact ay|apply aA|apply aB|apply aC|apply aF)|(right;simp;done))))).mono ?_;rintro e w2 ⟨rfl,hk⟩;have hb2:=Has.kept (F:=aj) HB0.out hk (fun x=>x);have hk2:=Kept.then (a:=w) (by(repeat'(first|(with_reducible first|exact ay|apply aA|apply aB|apply aC|apply aF)|(right;simp;done)))) hk;have c0:w2.cell? ⟨w.heap.size,0,none⟩=some (.int .i64 cn):=hb2.cell 0;have c1:w2.cell? ⟨w.heap.size,1,none⟩=some (.int .i64 rn):=hb2.cell 1;have c2:w2.cell? ⟨w.heap.size,2,none⟩=some (.slice A l.length c):=hb2.cell 2;have HB2:=ah hb2;clear hb2;have bK:=ah hk2;clear hk2 hk;have hN:∀n,(w2.drewN n).heap.size=w2.heap.size:=fun n=>rfl
 have hnew:∀W,Has W w.heap.size 59 #[.int .i64 cn,.int .i64 rn,.slice A l.length c]->Calls Tryz.prog 87 #[] W fun e w'=>∃g,e=.returned (.pointer (some ⟨g,0,none⟩))/\WS W.heap.size w' g [] [(w.heap.size,59,#[.int .i64 cn,.int .i64 rn,.slice A l.length c])]/\Kept aj W w':=
  fun W hW=>nV W _ (fun x hx=>by simp at hx;subst hx;exact hW)
 have fB:=ah hnew;clear hnew;have hss:∀W,Has W w.heap.size 59 #[.int .i64 cn,.int .i64 rn,.slice A l.length c]->(W.cell? ⟨w.heap.size,0,none⟩=some (.int .i64 cn)/\W.cell? ⟨w.heap.size,1,none⟩=some (.int .i64 rn)/\W.cell? ⟨w.heap.size,2,none⟩=some (.slice A l.length c)):=fun W hW=>⟨hW.cell 0,hW.cell 1,hW.cell 2⟩;have jT:=ah hss;clear hss;have p1:=fD (n:=cn) (by omega);have p2:=fD (n:=rn) (by omega);have p3:=fD (n:=l.length) (by omega);have HP:=ah (And.intro p1 (And.intro p2 p3));clear p1 p2 p3;have HQ:=ah (And.intro k1 (And.intro k2 (And.intro k3 (And.intro k4 k5))));clear k1 k2 k3 k4;go_wp2_with fail
 go_region_held3 (fun W=>W.cell? ⟨w.heap.size,0,none⟩=some (.int .i64 cn)/\W.cell? ⟨w.heap.size,1,none⟩=some (.int .i64 rn)/\W.cell? ⟨w.heap.size,2,none⟩=some (.slice A l.length c)) (first|with_reducible exact q6|with_reducible exact q5|with_reducible exact q4|with_reducible exact q3|with_reducible exact⟨c0,c1,c2⟩|(simp[go_sem,c0,c1,c2];done))
  (first
   |(go_at_call 87;refine(fB.out _ (by exact HB2.out)).mono ?_;rintro e w3 ⟨g,rfl,hw3,lq⟩;have q3:=jT.out _ (hw3.has (List.mem_singleton.2 rfl));have HW3:=ah hw3;have lu:=ah lq;clear hw3 lq)
   |(have hx:=gQ;clear hx;go_at_call 88;refine(dU (by exact gQ.out) l.length (by have:=HQ.out;omega) (by have:=HP.out;simp;omega)).mono ?_;rintro e w6 ⟨rfl,hw6,hb6⟩;have q6:=jT.out _ (hw6.has (List.mem_singleton.2 rfl));have zy:=ah hw6;have dP:=ah hb6;clear hw6 hb6)
   |(have hx:=jU;clear hx;go_at_call 88;refine(dU (by exact jU.out) rn (by have:=HQ.out;omega) (by have:=HP.out;simp;omega)).mono ?_;rintro e w5 ⟨rfl,hw5,hb5⟩;have q5:=jT.out _ (hw5.has (List.mem_singleton.2 rfl));have gQ:=ah hw5;have fV:=ah hb5;clear hw5 hb5)
   |(have hx:=HW3;clear hx;go_at_call 88;refine(dU (by exact HW3.out) cn (by have:=HQ.out;omega) (by simp)).mono ?_;rintro e w4 ⟨rfl,hw4,hb4⟩;have q4:=jT.out _ (hw4.has (List.mem_singleton.2 rfl));have jU:=ah hw4;have HB4:=ah hb4;clear hw4 hb4))
 have hk3:Kept aj w w3:=Kept.then (by(repeat'(first|(with_reducible first|exact ay|apply aA|apply aB|apply aC|apply aF)|(with_reducible exact bK.out)|(right;simp;done)))) lu.out;have hle:w.heap.size<=w2.heap.size:=bK.out.size;have hk6:Kept aj w w6:=behind (behind (behind hk3 HB4.out hle) fV.out hle) dP.out hle;have hw6:=zy.out;simp only[List.nil_append]at hw6;clear q3 q4 q5 HW3 jU gQ zy HB4 fV dP bK lu c0 c1 c2 hk3 fB gK HB0 HB2;obtain⟨hdr,jm⟩:∃hdr,put cn++put rn++put l.length=hdr:=⟨_,rfl⟩;rw[jm]at hw6;have hdl:hdr.length<=27:=by rw[<-jm];have:=HP.out;simp only[lA0];omega
 have hdp:hdr≠[]:=by rw[<-jm];have h1:=put_pos cn;intro e;have:=congrArg List.length e;simp only[lA0,List.length_nil]at this;omega
 have lC:=ah (And.intro jm (And.intro hdl hdp));clear jm hdl hdp HP;have zy:=ah hw6;clear hw6;have cO:=ah hk6;clear hk6;obtain⟨u0,u1,u2⟩:=q6;go_wp2;go_loopw [27] (fun v27 wr=>∃i:Nat,i<=l.length/\v27=.int .i64 i/\WS w2.heap.size wr g (hdr++(l.take i).flatMap bT) [(w.heap.size,59,#[.int .i64 cn,.int .i64 rn,.slice A l.length c])]/\Kept aj w wr) (fun v27 _=>l.length-(intOf v27).toNat)
 case atStart=>exact⟨0,Nat.zero_le _,rfl,by simpa using zy.out,cO.out⟩
 case round=>
  obtain⟨i,hi,rfl,hws,hk⟩:=hrel;have HK:=ah hk;clear hk;have hcs:=jT.out _ (hws.has (List.mem_singleton.2 rfl));obtain⟨b0,b1,b2⟩:=hcs;by_cases hil:i<l.length
  ·obtain⟨o,ho⟩:∃o,l[i]? =some o:=⟨_,lB0 hil⟩;have hoi:l[i]=o:=by rw[lB0 hil]at ho;exact Option.some.inj ho
   obtain⟨ad,rfl,had,e0,e1,e2⟩:=kC (HS.out.kept HK.out (fun _ _ x=>x)) (by omega) i o ho;have bu:=fO bT l i hil;rw[hoi]at bu;have Dy:∀x∈l.take (i+1),(bT x).length<=19:=fun x hx=>mO (Bh.out x (List.mem_of_mem_take hx)).2.1 (Bh.out x (List.mem_of_mem_take hx)).2.2.1;have hfl:=je _ Dy;rw[bu,lA0]at hfl;have hob:=Bh.out o (by rw[<-hoi];exact List.getElem_mem hil);have hmin:(l.take (i+1)).length<=4:=by rw[List.length_take];omega
   have eP:(hdr++(l.take i).flatMap bT).length<=200:=by rw[lA0];have:=lC.out.2.1;omega
   obtain⟨cur,hcur⟩:∃cur,hdr++(l.take i).flatMap bT=cur:=⟨_,rfl⟩;rw[hcur]at hws eP;have hnext:hdr++(l.take (i+1)).flatMap bT=((cur++aP o.key)++jF o.del)++aP o.val:=by rw[bu,<-List.append_assoc,hcur];unfold bT;simp only[List.append_assoc]
   have lD:=ah hnext;clear hnext bu hfl Dy hcur hmin ho hoi;have iI:=ah eP;clear eP;have wo:=ah hob;clear hob;have Dz:(aP o.key).length<=17:=by have h1:=fD (n:=o.key.size) (by have:=wo.out;omega);unfold aP;rw[lA0,dJ];have:=wo.out;omega
   have zA:=ah Dz;clear Dz;have hw0:=hws.add 143 #[.string o.key,.string o.val,.bool o.del];have HW0:=ah hw0;clear hw0 hws
   have hos:∀W bs,WS w2.heap.size W g bs [(wr.heap.size,143,#[.string o.key,.string o.val,.bool o.del]),(w.heap.size,59,#[.int .i64 cn,.int .i64 rn,.slice (some ad) l.length c])]->(W.cell? ⟨wr.heap.size,0,none⟩=some (.string o.key)/\W.cell? ⟨wr.heap.size,1,none⟩=some (.string o.val)/\W.cell? ⟨wr.heap.size,2,none⟩=some (.bool o.del)):=
    fun W bs hW=>⟨(hW.has (List.mem_cons_self ..)).cell 0,(hW.has (List.mem_cons_self ..)).cell 1,(hW.has (List.mem_cons_self ..)).cell 2⟩
   have jA:=ah hos;clear hos;have r0:=jA.out _ _ HW0.out;go_wp2_with fail
   go_region_held3 (fun W=>W.cell? ⟨wr.heap.size,0,none⟩=some (.string o.key)/\W.cell? ⟨wr.heap.size,1,none⟩=some (.string o.val)/\W.cell? ⟨wr.heap.size,2,none⟩=some (.bool o.del)) (first|with_reducible exact r3|with_reducible exact r2|with_reducible exact r1|with_reducible exact r0|(simp[go_sem,r0];done))
    (first
     |(have hx:=sG;clear hx;go_at_call 131;refine(eu (by exact sG.out) o.val (by have:=iI.out;have:=wo.out;have:=zA.out;simp[jF];omega)).mono ?_;rintro e w5 ⟨rfl,hv3,hd3⟩;have r3:=jA.out _ _ hv3;have Fg:=ah hv3;have HD3:=ah hd3;clear hv3 hd3)
     |(have hx:=pN;clear hx;go_at_call 171;refine(qT (by exact pN.out) o.del (by have:=iI.out;have:=wo.out;have:=zA.out;simp;omega)).mono ?_;rintro e w4 ⟨rfl,hv2,hd2⟩;have r2:=jA.out _ _ hv2;have sG:=ah hv2;have HD2:=ah hd2;clear hv2 hd2)
     |(go_at_call 131;refine(eu (by exact HW0.out) o.key (by have:=iI.out;have:=wo.out;omega)).mono ?_;rintro e w3 ⟨rfl,hv1,hd1⟩;have r1:=jA.out _ _ hv1;have pN:=ah hv1;have HD1:=ah hd1;clear hv1 hd1))
   have hkk:=behind (behind (behind (w:=w) (by(repeat'(first|(with_reducible first|exact ay|apply aA|apply aB|apply aC|apply aF)|(with_reducible exact HK.out)|(right;simp;done)))) HD1.out hle) HD2.out hle) HD3.out hle;have HKK:=ah hkk;clear hkk HD1 HD2 HD3;have hv:=Fg.out.uw;rw[<-lD.out]at hv;have HV:=ah hv;clear hv;go_wp2;go_roundw
   case rel=>exact⟨i+1,by omega,by go_num,HV.out,HKK.out⟩
   case measure=>simp[intOf];omega
  ·obtain rfl:i=l.length:=by omega
   rw[List.take_length]at hws;have Bi:=ah hws;clear hws;go_wp2_with fail;refine(kZ Bi.out (by have:=lC.out.2.2;simp;intro h;exact absurd h this)).mono ?_;rintro e w5 ⟨rfl,hb⟩;have hkk:=behind HK.out hb hle;have HKK:=ah hkk;clear hkk hb;go_wp2;go_ret2;exact⟨by rw[<-lC.out.1];rfl,HKK.out⟩
