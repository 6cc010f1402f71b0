/- Part 17. -/
import Derived.Test.YtgbigpdiacjbgaaGreatCZ14
import Derived.Test.YtgbigpdiacjbgaaGreatCZ15
set_option linter.unusedSimpArgs false
set_option linter.unusedVariables false
set_option maxHeartbeats 32000000
set_option maxRecDepth 100000
namespace Go.Proofs.YtgbigpdiacjbgaaGreat
open Go.RowKit Go.Shelf
namespace bQ
open aJ Ops dG Vn oU
def iQ(m:Mem):List UInt8:=put m.1.toNat++put m.2.toNat
theorem yA(w:World)(ep fl:Int)(A:Option Addr)(c:Nat)(l:List Mem)(hs:Src w 2 A l.length (aZ l))(hlc:l.length<=c)(hlen:l.length<=1000)(hfl:0<=fl/\fl<=aO):
  Calls Tryz.prog 172 #[xJ ep A l.length c fl] w fun e w'=>e=.returned (.tuple #[.string (gG ep l fl),.int .i64 (aJ.chk ep l)])/\Kept aj w w':=by
 have fJ:=fun W (hW:Kept aj w W)=>Mst.nU W ep fl A c l (hs.kept hW (fun _ _ x=>x)) hlc (by omega);have gK:=ah fJ;clear fJ;have HS:=ah hs;clear hs;by_cases hz:aJ.chk ep l=0;rotate_left
 ·have hr:gG ep l fl=emp:=by unfold gG;rw[if_neg hz]
  rw[hr];obtain⟨x,hx⟩:∃x,aJ.chk ep l=x:=⟨_,rfl⟩;rw[hx]at hz gK⊢;have hz2:(x !=0)=true:=by simpa using hz
  clear hx hr hz;go_enter Tryz.func172,Tryz.ntmps172;go_wp2_with fail;refine(gK.out _ (by(repeat'(first|(with_reducible first|exact ay|apply aA|apply aB|apply aC|apply aF)|(right;simp;done))))).mono ?_;rintro e w2 ⟨rfl,hk⟩;have hk2:=Kept.then (a:=w) (by(repeat'(first|(with_reducible first|exact ay|apply aA|apply aB|apply aC|apply aF)|(right;simp;done)))) hk;have bK:=ah hk2;clear hk2 hk;go_wp2;go_ret2;exact⟨rfl,bK.out⟩
 have hr:gG ep l fl=bJ (put ep.toNat++put l.length++l.flatMap iQ++put fl.toNat):=by unfold gG;rw[if_pos hz];rfl
 rw[hr,hz];rw[hz]at gK;obtain⟨⟨k1,k2⟩,_,k3,k4⟩:=jf hz;have hid:=k4.id;have Bj:=k4.jQ;obtain⟨en,rfl⟩:∃en:Nat,ep=en:=⟨ep.toNat,by omega⟩;obtain⟨fn,rfl⟩:∃fn:Nat,fl=fn:=⟨fl.toNat,by omega⟩;rw[Int.toNat_natCast,Int.toNat_natCast];have hfn:fn<18446744073709551616:=by unfold aO at hfl;omega
 have sH:=ah (And.intro hid Bj);clear hid Bj k4 hz hr hfl;have HB0:=ah (Has.new w 57 #[.int .i64 en,.slice A l.length c,.int .u64 fn]);go_enter Tryz.func172,Tryz.ntmps172;go_wp2_with fail;refine(gK.out _ (by(repeat'(first|(with_reducible first|exact ay|apply aA|apply aB|apply aC|apply aF)|(right;simp;done))))).mono ?_;rintro e w2 ⟨rfl,hk⟩;have hb2:=Has.kept (F:=aj) HB0.out hk (fun x=>x);have hk2:=Kept.then (a:=w) (by(repeat'(first|(with_reducible first|exact ay|apply aA|apply aB|apply aC|apply aF)|(right;simp;done)))) hk;have c0:w2.cell? ⟨w.heap.size,0,none⟩=some (.int .i64 en):=hb2.cell 0;have c1:w2.cell? ⟨w.heap.size,1,none⟩=some (.slice A l.length c):=hb2.cell 1;have HB2:=ah hb2;clear hb2;have bK:=ah hk2;clear hk2 hk;have hN:∀n,(w2.drewN n).heap.size=w2.heap.size:=fun n=>rfl
 have hnew:∀W,Has W w.heap.size 57 #[.int .i64 en,.slice A l.length c,.int .u64 fn]->Calls Tryz.prog 87 #[] W fun e w'=>∃g,e=.returned (.pointer (some ⟨g,0,none⟩))/\WS W.heap.size w' g [] [(w.heap.size,57,#[.int .i64 en,.slice A l.length c,.int .u64 fn])]/\Kept aj W w':=
  fun W hW=>nV W _ (fun x hx=>by simp at hx;subst hx;exact hW)
 have fB:=ah hnew;clear hnew;have hss:∀W,Has W w.heap.size 57 #[.int .i64 en,.slice A l.length c,.int .u64 fn]->(W.cell? ⟨w.heap.size,0,none⟩=some (.int .i64 en)/\W.cell? ⟨w.heap.size,1,none⟩=some (.slice A l.length c)):=fun W hW=>⟨hW.cell 0,hW.cell 1⟩;have jT:=ah hss;clear hss;have p1:=fD (n:=en) (by omega);have p2:=fD (n:=l.length) (by omega);have HP:=ah (And.intro p1 p2);clear p1 p2;have HQ:=ah (And.intro k1 (And.intro k2 k3));clear k1 k2;have Fh:=ah hfn;clear hfn;go_wp2_with fail
 go_region_held3 (fun W=>W.cell? ⟨w.heap.size,0,none⟩=some (.int .i64 en)/\W.cell? ⟨w.heap.size,1,none⟩=some (.slice A l.length c)) (first|with_reducible exact q5|with_reducible exact q4|with_reducible exact q3|with_reducible exact⟨c0,c1⟩|(simp[go_sem,c0,c1];done))
  (first
   |(go_at_call 87;refine(fB.out _ (by exact HB2.out)).mono ?_;rintro e w3 ⟨g,rfl,hw3,lq⟩;have q3:=jT.out _ (hw3.has (List.mem_singleton.2 rfl));have HW3:=ah hw3;have lu:=ah lq;clear hw3 lq)
   |(have hx:=jU;clear hx;go_at_call 88;refine(dU (by exact jU.out) l.length (by have:=HQ.out;omega) (by have:=HP.out;simp;omega)).mono ?_;rintro e w5 ⟨rfl,hw5,hb5⟩;have q5:=jT.out _ (hw5.has (List.mem_singleton.2 rfl));have gQ:=ah hw5;have fV:=ah hb5;clear hw5 hb5)
   |(have hx:=HW3;clear hx;go_at_call 88;refine(dU (by exact HW3.out) en (by have:=HQ.out;omega) (by simp)).mono ?_;rintro e w4 ⟨rfl,hw4,hb4⟩;have q4:=jT.out _ (hw4.has (List.mem_singleton.2 rfl));have jU:=ah hw4;have HB4:=ah hb4;clear hw4 hb4))
 have hk3:Kept aj w w3:=Kept.then (by(repeat'(first|(with_reducible first|exact ay|apply aA|apply aB|apply aC|apply aF)|(with_reducible exact bK.out)|(right;simp;done)))) lu.out;have hle:w.heap.size<=w2.heap.size:=bK.out.size;have hk5:Kept aj w w5:=behind (behind hk3 HB4.out hle) fV.out hle;have hw5:=gQ.out;simp only[List.nil_append]at hw5;clear q3 q4 HW3 jU gQ HB4 fV bK lu c0 c1 hk3 fB gK HB0 HB2;obtain⟨hdr,jm⟩:∃hdr,put en++put l.length=hdr:=⟨_,rfl⟩;rw[jm]at hw5;have hdl:hdr.length<=18:=by rw[<-jm];have:=HP.out;simp only[lA0];omega
 have hdp:hdr≠[]:=by rw[<-jm];have h1:=put_pos en;intro e;have:=congrArg List.length e;simp only[lA0,List.length_nil]at this;omega
 have lC:=ah (And.intro jm (And.intro hdl hdp));clear jm hdl hdp HP;have gQ:=ah hw5;clear hw5;have dw:=ah hk5;clear hk5;obtain⟨u0,u1⟩:=q5;go_wp2;go_loopw [24] (fun v24 wr=>∃i:Nat,i<=l.length/\v24=.int .i64 i/\WS w2.heap.size wr g (hdr++(l.take i).flatMap iQ) [(w.heap.size,57,#[.int .i64 en,.slice A l.length c,.int .u64 fn])]/\Kept aj w wr) (fun v24 _=>l.length-(intOf v24).toNat)
 case atStart=>exact⟨0,Nat.zero_le _,rfl,by simpa using gQ.out,dw.out⟩
 case round=>
  obtain⟨i,hi,rfl,hws,hk⟩:=hrel;have HK:=ah hk;clear hk;by_cases hil:i<l.length
  ·obtain⟨m,hm⟩:∃m,l[i]? =some m:=⟨_,lB0 hil⟩;have DC:l[i]=m:=by rw[lB0 hil]at hm;exact Option.some.inj hm
   obtain⟨ad,rfl,had,e0,e1⟩:=jq (HS.out.kept HK.out (fun _ _ x=>x)) (by omega) i m hm;have hb1:=sH.out.1 m (lC0 hm);have hb2:=sH.out.2 m (lC0 hm);have bu:=fO iQ l i hil;rw[DC]at bu
   have hfl:=dL iQ (l.take (i+1)) 18 (fun y hy=>by have b1:=sH.out.1 y (List.mem_of_mem_take hy);have b2:=sH.out.2 y (List.mem_of_mem_take hy);have c1:=aI (n:=y.1.toNat) (by omega);have c2:=aI (n:=y.2.toNat) (by omega);unfold iQ;rw[lA0];omega)
   rw[bu,lA0]at hfl;have hmin:(l.take (i+1)).length<=4:=by rw[List.length_take];omega
   have eP:(hdr++(l.take i).flatMap iQ).length<=200:=by rw[lA0];have:=lC.out.2.1;omega
   obtain⟨m1,m2⟩:=m;dsimp only at hb1 hb2 e0 e1;obtain⟨a,rfl⟩:∃a:Nat,m1=a:=⟨m1.toNat,by omega⟩;obtain⟨b,rfl⟩:∃b:Nat,m2=b:=⟨m2.toNat,by omega⟩;obtain⟨cur,hcur⟩:∃cur,hdr++(l.take i).flatMap iQ=cur:=⟨_,rfl⟩;rw[hcur]at hws eP;have hnext:hdr++(l.take (i+1)).flatMap iQ=(cur++put a)++put b:=by rw[bu,<-List.append_assoc,hcur];unfold iQ;simp only[List.append_assoc,Int.toNat_natCast]
   have lD:=ah hnext;clear hnext bu hfl hcur hmin hm DC;have iI:=ah eP;clear eP;have qP:=ah (And.intro hb1 hb2);clear hb1 hb2;have p1:=aI (n:=a) (by have:=qP.out;omega);have zA:=ah p1;clear p1;have hw0:=hws.add 175 #[.int .i64 a,.int .i64 b];have HW0:=ah hw0;clear hw0 hws
   have hos:∀W bs,WS w2.heap.size W g bs [(wr.heap.size,175,#[.int .i64 a,.int .i64 b]),(w.heap.size,57,#[.int .i64 en,.slice (some ad) l.length c,.int .u64 fn])]->(W.cell? ⟨wr.heap.size,0,none⟩=some (.int .i64 a)/\W.cell? ⟨wr.heap.size,1,none⟩=some (.int .i64 b)):=
    fun W bs hW=>⟨(hW.has (List.mem_cons_self ..)).cell 0,(hW.has (List.mem_cons_self ..)).cell 1⟩
   have jA:=ah hos;clear hos;have r0:=jA.out _ _ HW0.out;go_wp2_with fail
   go_region_held3 (fun W=>W.cell? ⟨wr.heap.size,0,none⟩=some (.int .i64 a)/\W.cell? ⟨wr.heap.size,1,none⟩=some (.int .i64 b)) (first|with_reducible exact r2|with_reducible exact r1|with_reducible exact r0|(simp[go_sem,r0];done))
    (first
     |(have hx:=pN;clear hx;go_at_call 88;refine(dU (by exact pN.out) b (by have:=qP.out;omega) (by have:=iI.out;have:=zA.out;simp;omega)).mono ?_;rintro e w4 ⟨rfl,hv2,hd2⟩;have r2:=jA.out _ _ hv2;have sG:=ah hv2;have HD2:=ah hd2;clear hv2 hd2)
     |(go_at_call 88;refine(dU (by exact HW0.out) a (by have:=qP.out;omega) (by have:=iI.out;omega)).mono ?_;rintro e w3 ⟨rfl,hv1,hd1⟩;have r1:=jA.out _ _ hv1;have pN:=ah hv1;have HD1:=ah hd1;clear hv1 hd1))
   have hkk:=behind (behind (w:=w) (by(repeat'(first|(with_reducible first|exact ay|apply aA|apply aB|apply aC|apply aF)|(with_reducible exact HK.out)|(right;simp;done)))) HD1.out hle) HD2.out hle;have HKK:=ah hkk;clear hkk HD1 HD2;have hv:=sG.out.uw;rw[<-lD.out]at hv;have HV:=ah hv;clear hv;go_wp2;go_roundw
   case rel=>exact⟨i+1,by omega,by go_num,HV.out,HKK.out⟩
   case measure=>simp[intOf];omega
  ·obtain rfl:i=l.length:=by omega
   rw[List.take_length]at hws
   have hfl:=dL iQ l 18 (fun y hy=>by have b1:=sH.out.1 y hy;have b2:=sH.out.2 y hy;have c1:=aI (n:=y.1.toNat) (by omega);have c2:=aI (n:=y.2.toNat) (by omega);unfold iQ;rw[lA0];omega)
   have eP:(hdr++l.flatMap iQ).length<=200:=by rw[lA0];have:=lC.out.2.1;omega
   have z2:wr.cell? ⟨w.heap.size,2,none⟩=some (.int .u64 fn):=(hws.has (List.mem_singleton.2 rfl)).cell 2;have Bi:=ah hws;have iI:=ah eP;clear hws eP hfl;go_wp2_with fail;refine(l7 Bi.out fn Fh.out (by have:=iI.out;omega)).mono ?_;rintro e w5 ⟨rfl,hw5,hb5⟩;have gQ:=ah hw5;have fV:=ah hb5;clear hw5 hb5 z2;go_wp2_with fail;refine(kZ gQ.out (by have:=lC.out.2.2;simp;intro h;exact absurd h this)).mono ?_;rintro e w6 ⟨rfl,hb⟩;have hkk:=behind (behind HK.out fV.out hle) hb hle;have HKK:=ah hkk;clear hkk hb;go_wp2;go_ret2;exact⟨by rw[<-lC.out.1];simp only[List.append_assoc];rfl,HKK.out⟩
theorem yB(w:World)(y:dA)(hs:Src w 3 y.A y.ops.length (cells y.ops))(hts:0<=y.ts/\y.ts<=aO):
  Calls Tryz.prog 130 #[D9 y] w fun e w'=>e=.returned (.tuple #[.string (dR y),.int .i64 (Ops.chk (dK y))])/\Kept aj w w':=by
 have hput:=fun W (hW:Kept aj w W)=>qU W (dK y) y.A y.c (hs.kept hW (fun _ _ x=>x));have hE:dR y=if Ops.chk (dK y)=0 then bJ (put y.ts.toNat++aP (jl (dK y)))else emp:=by
  unfold dR xM jl;by_cases h:Ops.chk (dK y)=0
  ·rw[if_pos h,if_pos h,if_pos h]
  ·rw[if_neg h,if_neg h]
 rw[hE];have hlen:(jl (dK y)).size<=103:=by have:=ni (dK y);unfold kV at this;unfold jl;exact this
 obtain⟨z,hz⟩:∃z,Ops.chk (dK y)=z:=⟨_,rfl⟩;obtain⟨s,hs2⟩:∃s,jl (dK y)=s:=⟨_,rfl⟩;rw[hz,hs2]at hput⊢;rw[hs2]at hlen;clear hE hz hs2 hs;obtain⟨cl,req,A,c,ops,ts⟩:=y;dsimp only[dK,mW]at hput hts⊢;obtain⟨tn,rfl⟩:∃tn:Nat,ts=tn:=⟨ts.toNat,by omega⟩;have htn:tn<18446744073709551616:=by unfold aO at hts;omega
 rw[Int.toNat_natCast];have yC:=ah hput;have DF:=ah htn;have jI:=ah hlen;clear hput htn hts hlen;have HB0:=ah (Has.new w 183 #[.int .i64 cl,.int .i64 req,.slice A ops.length c,.int .u64 tn]);by_cases h0:z=0;rotate_left
 ·rw[if_neg h0];have hz2:(z !=0)=true:=by simpa using h0
  clear h0;go_enter Tryz.func130,Tryz.ntmps130;go_wp2_with fail;refine(yC.out _ (by(repeat'(first|(with_reducible first|exact ay|apply aA|apply aB|apply aC|apply aF)|(right;simp;done))))).mono ?_;rintro e w2 ⟨rfl,hk⟩;have hk2:=Kept.then (a:=w) (by(repeat'(first|(with_reducible first|exact ay|apply aA|apply aB|apply aC|apply aF)|(right;simp;done)))) hk;have bK:=ah hk2;clear hk2 hk;go_wp2;go_ret2;exact⟨rfl,bK.out⟩
 rw[if_pos h0];subst h0;obtain⟨R,hR⟩:∃R,put tn++aP s=R:=⟨_,rfl⟩;have hR0:R≠[]:=by rw[<-hR];have h1:=put_pos tn;intro e;have:=congrArg List.length e;simp only[lA0,List.length_nil]at this;omega
 rw[hR];have HR:=ah (And.intro hR hR0);clear hR hR0;go_enter Tryz.func130,Tryz.ntmps130;go_wp2_with fail;refine(yC.out _ (by(repeat'(first|(with_reducible first|exact ay|apply aA|apply aB|apply aC|apply aF)|(right;simp;done))))).mono ?_;rintro e w2 ⟨rfl,hk⟩;have hb2:=Has.kept (F:=aj) HB0.out hk (fun x=>x);have hk2:=Kept.then (a:=w) (by(repeat'(first|(with_reducible first|exact ay|apply aA|apply aB|apply aC|apply aF)|(right;simp;done)))) hk;have c0:w2.cell? ⟨w.heap.size,3,none⟩=some (.int .u64 tn):=hb2.cell 3;have HB2:=ah hb2;clear hb2;have bK:=ah hk2;clear hk2 hk
 have hnew:∀W,Has W w.heap.size 183 #[.int .i64 cl,.int .i64 req,.slice A ops.length c,.int .u64 tn]->Calls Tryz.prog 87 #[] W fun e w'=>∃g,e=.returned (.pointer (some ⟨g,0,none⟩))/\WS W.heap.size w' g [] [(w.heap.size,183,#[.int .i64 cl,.int .i64 req,.slice A ops.length c,.int .u64 tn])]/\Kept aj W w':=
  fun W hW=>nV W _ (fun x hx=>by simp at hx;subst hx;exact hW)
 have fB:=ah hnew;clear hnew;have hss:∀W,Has W w.heap.size 183 #[.int .i64 cl,.int .i64 req,.slice A ops.length c,.int .u64 tn]->(W.cell? ⟨w.heap.size,3,none⟩=some (.int .u64 tn)):=fun W hW=>hW.cell 3;have jT:=ah hss;clear hss;have sD:=ah HB2.out.lt;go_wp2_with fail
 go_region_held3 (fun W=>W.cell? ⟨w.heap.size,3,none⟩=some (.int .u64 tn)) (first|with_reducible exact q6|with_reducible exact q5|with_reducible exact q4|with_reducible exact q3|with_reducible exact c0|(simp[go_sem,c0];done))
  (first
   |(go_at_call 87;refine(fB.out _ (by exact HB2.out)).mono ?_;rintro e w3 ⟨g,rfl,hw3,lq⟩;have q3:=jT.out _ (hw3.has (List.mem_singleton.2 rfl));have HW3:=ah hw3;have lu:=ah lq;clear hw3 lq)
   |(go_at_call 132;refine(l7 (by exact HW3.out) tn DF.out (by simp)).mono ?_;rintro e w4 ⟨rfl,hw4,hb4⟩;have q4:=jT.out _ (hw4.has (List.mem_singleton.2 rfl));have jU:=ah hw4;have HB4:=ah hb4;clear hw4 hb4)
   |(go_at_call 131;refine(eu (by exact jU.out) s (by have:=aI (n:=tn) (by have:=DF.out;omega);have:=jI.out;simp;omega)).mono ?_;rintro e w5 ⟨rfl,hw5,hb5⟩;have q5:=jT.out _ (hw5.has (List.mem_singleton.2 rfl));have gQ:=ah hw5;have fV:=ah hb5;clear hw5 hb5)
   |(go_at_call 90;refine(kZ (by exact gQ.out) (by rw[List.nil_append,HR.out.1];exact HR.out.2)).mono ?_;rintro e w6 ⟨rfl,hb6⟩;have q6:w6.cell? ⟨w.heap.size,3,none⟩=some (.int .u64 tn):=(hb6.cell (p:=⟨w.heap.size,3,none⟩) (by exact sD.out)).trans q5;have dP:=ah hb6;clear hb6))
 have hk3:Kept aj w w3:=Kept.then (by(repeat'(first|(with_reducible first|exact ay|apply aA|apply aB|apply aC|apply aF)|(with_reducible exact bK.out)|(right;simp;done)))) lu.out;have hle:w.heap.size<=w2.heap.size:=bK.out.size;have hk6:Kept aj w w6:=behind (behind (behind hk3 HB4.out hle) fV.out hle) dP.out hle;have cO:=ah hk6;clear q3 q4 q5 q6 HW3 jU gQ HB4 fV dP bK lu c0 hk3 fB yC HB0 HB2 hk6 sD;go_wp2;go_ret2;exact⟨by rw[<-HR.out.1];rfl,cO.out⟩
