/- Part 23. -/
import Derived.Test.YtgbigpdiacjbgaaGreatKP15
import Derived.Test.YtgbigpdiacjbgaaGreatKP21
set_option linter.unusedSimpArgs false
set_option linter.unusedVariables false
set_option maxHeartbeats 32000000
set_option maxRecDepth 100000
namespace Go.Proofs.YtgbigpdiacjbgaaGreat
open Go.RowKit Go.Shelf
namespace Ops
open Vn iI
def qy(b:Batch):ByteArray:=if chk b=0 then fE (vH b)else emp
theorem Lc(w:World)(b:Batch)(A:Option Addr)(c:Nat)(hs:Src w 3 A b.ops.length (cells b.ops)):
  Calls Tryz.prog 170 #[nT b A c] w fun e w'=>e=.returned (.tuple #[.string (qy b),.int .i64 (chk b)])/\Kept aj w w':=by
 have iy:=fun W (hW:Kept aj w W)=>wI W b A c (hs.kept hW (fun _ _ x=>x));have nX:=ah iy;clear iy;have HS:=ah hs;clear hs;by_cases hz:chk b=0;rotate_left
 ·have hr:qy b=emp:=by unfold qy;rw[if_neg hz]
  rw[hr];obtain⟨x,hx⟩:∃x,chk b=x:=⟨_,rfl⟩;rw[hx]at hz nX⊢;have hz2:(x !=0)=true:=by simpa using hz
  clear hx hr hz;go_enter Tryz.func170,Tryz.ntmps170;go_wp2_with fail;refine(nX.out _ (by(repeat'(first|(with_reducible first|exact ay|apply aA|apply aB|apply aC|apply aF)|(right;simp;done))))).mono ?_;rintro e w2 ⟨rfl,hk⟩;have hk2:=Kept.then (a:=w) (by(repeat'(first|(with_reducible first|exact ay|apply aA|apply aB|apply aC|apply aF)|(right;simp;done)))) hk;have gJ:=ah hk2;clear hk2 hk;go_wp2;go_ret2;exact⟨rfl,gJ.out⟩
 have hr:qy b=fE (vH b):=by unfold qy;rw[if_pos hz]
 rw[hr,hz];rw[hz]at nX;obtain⟨k1,k2,k3,k4,k5,k6⟩:=sZ hz;have hok:=EJ k6;obtain⟨cl,req,l⟩:=b;dsimp only at k1 k2 k3 k4 k5 k6 hok HS;obtain⟨cn,rfl⟩:∃cn:Nat,cl=cn:=⟨cl.toNat,by omega⟩;obtain⟨rn,rfl⟩:∃rn:Nat,req=rn:=⟨req.toNat,by omega⟩;have hpb:vH ⟨cn,rn,l⟩=put cn++put rn++put l.length++l.flatMap bn:=rfl;rw[hpb];have wL:=ah hok;clear hok k6 hz hr hpb;have HB0:=ah (Has.new w 59 #[.int .i64 cn,.int .i64 rn,.slice A l.length c]);go_enter Tryz.func170,Tryz.ntmps170;go_wp2_with fail;refine(nX.out _ (by(repeat'(first|(with_reducible first|exact ay|apply aA|apply aB|apply aC|apply aF)|(right;simp;done))))).mono ?_;rintro e w2 ⟨rfl,hk⟩;have hb2:=Has.kept (F:=aj) HB0.out hk (fun x=>x);have hk2:=Kept.then (a:=w) (by(repeat'(first|(with_reducible first|exact ay|apply aA|apply aB|apply aC|apply aF)|(right;simp;done)))) hk;have c0:w2.cell? ⟨w.heap.size,0,none⟩=some (.int .i64 cn):=hb2.cell 0;have c1:w2.cell? ⟨w.heap.size,1,none⟩=some (.int .i64 rn):=hb2.cell 1;have c2:w2.cell? ⟨w.heap.size,2,none⟩=some (.slice A l.length c):=hb2.cell 2;have HB2:=ah hb2;clear hb2;have gJ:=ah hk2;clear hk2 hk;have hN:∀n,(w2.drewN n).heap.size=w2.heap.size:=fun n=>rfl
 have hnew:∀W,Has W w.heap.size 59 #[.int .i64 cn,.int .i64 rn,.slice A l.length c]->Calls Tryz.prog 87 #[] W fun e w'=>∃g,e=.returned (.pointer (some ⟨g,0,none⟩))/\WS W.heap.size w' g [] [(w.heap.size,59,#[.int .i64 cn,.int .i64 rn,.slice A l.length c])]/\Kept aj W w':=
  fun W hW=>GM W _ (fun x hx=>by simp at hx;subst hx;exact hW)
 have mF:=ah hnew;clear hnew;have hss:∀W,Has W w.heap.size 59 #[.int .i64 cn,.int .i64 rn,.slice A l.length c]->(W.cell? ⟨w.heap.size,0,none⟩=some (.int .i64 cn)/\W.cell? ⟨w.heap.size,1,none⟩=some (.int .i64 rn)/\W.cell? ⟨w.heap.size,2,none⟩=some (.slice A l.length c)):=fun W hW=>⟨hW.cell 0,hW.cell 1,hW.cell 2⟩;have qI:=ah hss;clear hss;have p1:=nG (n:=cn) (by omega);have p2:=nG (n:=rn) (by omega);have p3:=nG (n:=l.length) (by omega);have HP:=ah (And.intro p1 (And.intro p2 p3));clear p1 p2 p3;have HQ:=ah (And.intro k1 (And.intro k2 (And.intro k3 (And.intro k4 k5))));clear k1 k2 k3 k4;go_wp2_with fail
 go_region_held3 (fun W=>W.cell? ⟨w.heap.size,0,none⟩=some (.int .i64 cn)/\W.cell? ⟨w.heap.size,1,none⟩=some (.int .i64 rn)/\W.cell? ⟨w.heap.size,2,none⟩=some (.slice A l.length c)) (first|with_reducible exact q6|with_reducible exact q5|with_reducible exact q4|with_reducible exact q3|with_reducible exact⟨c0,c1,c2⟩|(simp[go_sem,c0,c1,c2];done))
  (first
   |(go_at_call 87;refine(mF.out _ (by exact HB2.out)).mono ?_;rintro e w3 ⟨g,rfl,hw3,D7⟩;have q3:=qI.out _ (hw3.has (List.mem_singleton.2 rfl));have HW3:=ah hw3;have D8:=ah D7;clear hw3 D7)
   |(have hx:=uP;clear hx;go_at_call 88;refine(sN (by exact uP.out) l.length (by have:=HQ.out;omega) (by have:=HP.out;simp;omega)).mono ?_;rintro e w6 ⟨rfl,hw6,hb6⟩;have q6:=qI.out _ (hw6.has (List.mem_singleton.2 rfl));have qR:=ah hw6;have jS:=ah hb6;clear hw6 hb6)
   |(have hx:=jo;clear hx;go_at_call 88;refine(sN (by exact jo.out) rn (by have:=HQ.out;omega) (by have:=HP.out;simp;omega)).mono ?_;rintro e w5 ⟨rfl,hw5,hb5⟩;have q5:=qI.out _ (hw5.has (List.mem_singleton.2 rfl));have uP:=ah hw5;have tX:=ah hb5;clear hw5 hb5)
   |(have hx:=HW3;clear hx;go_at_call 88;refine(sN (by exact HW3.out) cn (by have:=HQ.out;omega) (by simp)).mono ?_;rintro e w4 ⟨rfl,hw4,hb4⟩;have q4:=qI.out _ (hw4.has (List.mem_singleton.2 rfl));have jo:=ah hw4;have HB4:=ah hb4;clear hw4 hb4))
 have hk3:Kept aj w w3:=Kept.then (by(repeat'(first|(with_reducible first|exact ay|apply aA|apply aB|apply aC|apply aF)|(with_reducible exact gJ.out)|(right;simp;done)))) D8.out;have hle:w.heap.size<=w2.heap.size:=gJ.out.size;have hk6:Kept aj w w6:=behind (behind (behind hk3 HB4.out hle) tX.out hle) jS.out hle;have hw6:=qR.out;simp only[List.nil_append]at hw6;clear q3 q4 q5 HW3 jo uP qR HB4 tX jS gJ D8 c0 c1 c2 hk3 mF nX HB0 HB2;obtain⟨hdr,vK⟩:∃hdr,put cn++put rn++put l.length=hdr:=⟨_,rfl⟩;rw[vK]at hw6;have hdl:hdr.length<=27:=by rw[<-vK];have:=HP.out;simp only[lA0];omega
 have hdp:hdr≠[]:=by rw[<-vK];have h1:=put_pos cn;intro e;have:=congrArg List.length e;simp only[lA0,List.length_nil]at this;omega
 have yX:=ah (And.intro vK (And.intro hdl hdp));clear vK hdl hdp HP;have qR:=ah hw6;clear hw6;have eu:=ah hk6;clear hk6;obtain⟨u0,u1,u2⟩:=q6;go_wp2;go_loopw [27] (fun v27 wr=>∃i:Nat,i<=l.length/\v27=.int .i64 i/\WS w2.heap.size wr g (hdr++(l.take i).flatMap bn) [(w.heap.size,59,#[.int .i64 cn,.int .i64 rn,.slice A l.length c])]/\Kept aj w wr) (fun v27 _=>l.length-(intOf v27).toNat)
 case atStart=>exact⟨0,Nat.zero_le _,rfl,by simpa using qR.out,eu.out⟩
 case round=>
  obtain⟨i,hi,rfl,hws,hk⟩:=hrel;have HK:=ah hk;clear hk;have hcs:=qI.out _ (hws.has (List.mem_singleton.2 rfl));obtain⟨b0,b1,b2⟩:=hcs;by_cases hil:i<l.length
  ·obtain⟨o,ho⟩:∃o,l[i]? =some o:=⟨_,lB0 hil⟩;have hoi:l[i]=o:=by rw[lB0 hil]at ho;exact Option.some.inj ho
   obtain⟨ad,rfl,had,e0,e1,e2⟩:=nU (HS.out.kept HK.out (fun _ _ x=>x)) (by omega) i o ho;have jf:=qW bn l i hil;rw[hoi]at jf;have Sl:∀x∈l.take (i+1),(bn x).length<=19:=fun x hx=>mO (wL.out x (List.mem_of_mem_take hx)).2.1 (wL.out x (List.mem_of_mem_take hx)).2.2.1;have hfl:=xP _ Sl;rw[jf,lA0]at hfl;have hob:=wL.out o (by rw[<-hoi];exact List.getElem_mem hil);have hmin:(l.take (i+1)).length<=4:=by rw[List.length_take];omega
   have ru:(hdr++(l.take i).flatMap bn).length<=200:=by rw[lA0];have:=yX.out.2.1;omega
   obtain⟨cur,hcur⟩:∃cur,hdr++(l.take i).flatMap bn=cur:=⟨_,rfl⟩;rw[hcur]at hws ru;have hnext:hdr++(l.take (i+1)).flatMap bn=((cur++dA o.key)++sW o.del)++dA o.val:=by rw[jf,<-List.append_assoc,hcur];unfold bn;simp only[List.append_assoc]
   have jT:=ah hnext;clear hnext jf hfl Sl hcur hmin ho hoi;have um:=ah ru;clear ru;have Di:=ah hob;clear hob;have Sm:(dA o.key).length<=17:=by have h1:=nG (n:=o.key.size) (by have:=Di.out;omega);unfold dA;rw[lA0,iw];have:=Di.out;omega
   have AP:=ah Sm;clear Sm;have hw0:=hws.add 143 #[.string o.key,.string o.val,.bool o.del];have HW0:=ah hw0;clear hw0 hws
   have hos:∀W bs,WS w2.heap.size W g bs [(wr.heap.size,143,#[.string o.key,.string o.val,.bool o.del]),(w.heap.size,59,#[.int .i64 cn,.int .i64 rn,.slice (some ad) l.length c])]->(W.cell? ⟨wr.heap.size,0,none⟩=some (.string o.key)/\W.cell? ⟨wr.heap.size,1,none⟩=some (.string o.val)/\W.cell? ⟨wr.heap.size,2,none⟩=some (.bool o.del)):=
    fun W bs hW=>⟨(hW.has (List.mem_cons_self ..)).cell 0,(hW.has (List.mem_cons_self ..)).cell 1,(hW.has (List.mem_cons_self ..)).cell 2⟩
   have zV:=ah hos;clear hos;have r0:=zV.out _ _ HW0.out;go_wp2_with fail
   go_region_held3 (fun W=>W.cell? ⟨wr.heap.size,0,none⟩=some (.string o.key)/\W.cell? ⟨wr.heap.size,1,none⟩=some (.string o.val)/\W.cell? ⟨wr.heap.size,2,none⟩=some (.bool o.del)) (first|with_reducible exact r3|with_reducible exact r2|with_reducible exact r1|with_reducible exact r0|(simp[go_sem,r0];done))
    (first
     |(have hx:=NR;clear hx;go_at_call 131;refine(uk (by exact NR.out) o.val (by have:=um.out;have:=Di.out;have:=AP.out;simp[sW];omega)).mono ?_;rintro e w5 ⟨rfl,hv3,hd3⟩;have r3:=zV.out _ _ hv3;have HV3:=ah hv3;have HD3:=ah hd3;clear hv3 hd3)
     |(have hx:=Jk;clear hx;go_at_call 171;refine(La (by exact Jk.out) o.del (by have:=um.out;have:=Di.out;have:=AP.out;simp;omega)).mono ?_;rintro e w4 ⟨rfl,hv2,hd2⟩;have r2:=zV.out _ _ hv2;have NR:=ah hv2;have HD2:=ah hd2;clear hv2 hd2)
     |(go_at_call 131;refine(uk (by exact HW0.out) o.key (by have:=um.out;have:=Di.out;omega)).mono ?_;rintro e w3 ⟨rfl,hv1,hd1⟩;have r1:=zV.out _ _ hv1;have Jk:=ah hv1;have HD1:=ah hd1;clear hv1 hd1))
   have hkk:=behind (behind (behind (w:=w) (by(repeat'(first|(with_reducible first|exact ay|apply aA|apply aB|apply aC|apply aF)|(with_reducible exact HK.out)|(right;simp;done)))) HD1.out hle) HD2.out hle) HD3.out hle;have HKK:=ah hkk;clear hkk HD1 HD2 HD3;have hv:=HV3.out.O8;rw[<-jT.out]at hv;have HV:=ah hv;clear hv;go_wp2;go_roundw
   case rel=>exact⟨i+1,by omega,by go_num,HV.out,HKK.out⟩
   case measure=>simp[intOf];omega
  ·obtain rfl:i=l.length:=by omega
   rw[List.take_length]at hws;have Zl:=ah hws;clear hws;go_wp2_with fail;refine(D6 Zl.out (by have:=yX.out.2.2;simp;intro h;exact absurd h this)).mono ?_;rintro e w5 ⟨rfl,hb⟩;have hkk:=behind HK.out hb hle;have HKK:=ah hkk;clear hkk hb;go_wp2;go_ret2;exact⟨by rw[<-yX.out.1];rfl,HKK.out⟩
end Ops
namespace eP
open bg Ops fG Vn iI
def yY(m:Mem):List UInt8:=put m.1.toNat++put m.2.toNat
theorem Vp(w:World)(ep fl:Int)(A:Option Addr)(c:Nat)(l:List Mem)(hs:Src w 2 A l.length (dL l))(hlc:l.length<=c)(hlen:l.length<=1000)(hfl:0<=fl/\fl<=aY):
  Calls Tryz.prog 172 #[zL ep A l.length c fl] w fun e w'=>e=.returned (.tuple #[.string (wJ ep l fl),.int .i64 (bg.chk ep l)])/\Kept aj w w':=by
 have iy:=fun W (hW:Kept aj w W)=>Mst.CJ W ep fl A c l (hs.kept hW (fun _ _ x=>x)) hlc (by omega);have nX:=ah iy;clear iy;have HS:=ah hs;clear hs;by_cases hz:bg.chk ep l=0;rotate_left
 ·have hr:wJ ep l fl=emp:=by unfold wJ;rw[if_neg hz]
  rw[hr];obtain⟨x,hx⟩:∃x,bg.chk ep l=x:=⟨_,rfl⟩;rw[hx]at hz nX⊢;have hz2:(x !=0)=true:=by simpa using hz
  clear hx hr hz;go_enter Tryz.func172,Tryz.ntmps172;go_wp2_with fail;refine(nX.out _ (by(repeat'(first|(with_reducible first|exact ay|apply aA|apply aB|apply aC|apply aF)|(right;simp;done))))).mono ?_;rintro e w2 ⟨rfl,hk⟩;have hk2:=Kept.then (a:=w) (by(repeat'(first|(with_reducible first|exact ay|apply aA|apply aB|apply aC|apply aF)|(right;simp;done)))) hk;have gJ:=ah hk2;clear hk2 hk;go_wp2;go_ret2;exact⟨rfl,gJ.out⟩
 have hr:wJ ep l fl=fE (put ep.toNat++put l.length++l.flatMap yY++put fl.toNat):=by unfold wJ;rw[if_pos hz];rfl
 rw[hr,hz];rw[hz]at nX;obtain⟨⟨k1,k2⟩,_,k3,k4⟩:=rG hz;have hid:=k4.id;have Zm:=k4.tK;obtain⟨en,rfl⟩:∃en:Nat,ep=en:=⟨ep.toNat,by omega⟩;obtain⟨fn,rfl⟩:∃fn:Nat,fl=fn:=⟨fl.toNat,by omega⟩;rw[Int.toNat_natCast,Int.toNat_natCast];have hfn:fn<18446744073709551616:=by unfold aY at hfl;omega
 have NS:=ah (And.intro hid Zm);clear hid Zm k4 hz hr hfl;have HB0:=ah (Has.new w 57 #[.int .i64 en,.slice A l.length c,.int .u64 fn]);go_enter Tryz.func172,Tryz.ntmps172;go_wp2_with fail;refine(nX.out _ (by(repeat'(first|(with_reducible first|exact ay|apply aA|apply aB|apply aC|apply aF)|(right;simp;done))))).mono ?_;rintro e w2 ⟨rfl,hk⟩;have hb2:=Has.kept (F:=aj) HB0.out hk (fun x=>x);have hk2:=Kept.then (a:=w) (by(repeat'(first|(with_reducible first|exact ay|apply aA|apply aB|apply aC|apply aF)|(right;simp;done)))) hk;have c0:w2.cell? ⟨w.heap.size,0,none⟩=some (.int .i64 en):=hb2.cell 0;have c1:w2.cell? ⟨w.heap.size,1,none⟩=some (.slice A l.length c):=hb2.cell 1;have HB2:=ah hb2;clear hb2;have gJ:=ah hk2;clear hk2 hk;have hN:∀n,(w2.drewN n).heap.size=w2.heap.size:=fun n=>rfl
 have hnew:∀W,Has W w.heap.size 57 #[.int .i64 en,.slice A l.length c,.int .u64 fn]->Calls Tryz.prog 87 #[] W fun e w'=>∃g,e=.returned (.pointer (some ⟨g,0,none⟩))/\WS W.heap.size w' g [] [(w.heap.size,57,#[.int .i64 en,.slice A l.length c,.int .u64 fn])]/\Kept aj W w':=
  fun W hW=>GM W _ (fun x hx=>by simp at hx;subst hx;exact hW)
 have mF:=ah hnew;clear hnew;have hss:∀W,Has W w.heap.size 57 #[.int .i64 en,.slice A l.length c,.int .u64 fn]->(W.cell? ⟨w.heap.size,0,none⟩=some (.int .i64 en)/\W.cell? ⟨w.heap.size,1,none⟩=some (.slice A l.length c)):=fun W hW=>⟨hW.cell 0,hW.cell 1⟩;have qI:=ah hss;clear hss;have p1:=nG (n:=en) (by omega);have p2:=nG (n:=l.length) (by omega);have HP:=ah (And.intro p1 p2);clear p1 p2;have HQ:=ah (And.intro k1 (And.intro k2 k3));clear k1 k2;have HFN:=ah hfn;clear hfn;go_wp2_with fail
 go_region_held3 (fun W=>W.cell? ⟨w.heap.size,0,none⟩=some (.int .i64 en)/\W.cell? ⟨w.heap.size,1,none⟩=some (.slice A l.length c)) (first|with_reducible exact q5|with_reducible exact q4|with_reducible exact q3|with_reducible exact⟨c0,c1⟩|(simp[go_sem,c0,c1];done))
  (first
   |(go_at_call 87;refine(mF.out _ (by exact HB2.out)).mono ?_;rintro e w3 ⟨g,rfl,hw3,D7⟩;have q3:=qI.out _ (hw3.has (List.mem_singleton.2 rfl));have HW3:=ah hw3;have D8:=ah D7;clear hw3 D7)
   |(have hx:=jo;clear hx;go_at_call 88;refine(sN (by exact jo.out) l.length (by have:=HQ.out;omega) (by have:=HP.out;simp;omega)).mono ?_;rintro e w5 ⟨rfl,hw5,hb5⟩;have q5:=qI.out _ (hw5.has (List.mem_singleton.2 rfl));have uP:=ah hw5;have tX:=ah hb5;clear hw5 hb5)
   |(have hx:=HW3;clear hx;go_at_call 88;refine(sN (by exact HW3.out) en (by have:=HQ.out;omega) (by simp)).mono ?_;rintro e w4 ⟨rfl,hw4,hb4⟩;have q4:=qI.out _ (hw4.has (List.mem_singleton.2 rfl));have jo:=ah hw4;have HB4:=ah hb4;clear hw4 hb4))
 have hk3:Kept aj w w3:=Kept.then (by(repeat'(first|(with_reducible first|exact ay|apply aA|apply aB|apply aC|apply aF)|(with_reducible exact gJ.out)|(right;simp;done)))) D8.out;have hle:w.heap.size<=w2.heap.size:=gJ.out.size;have hk5:Kept aj w w5:=behind (behind hk3 HB4.out hle) tX.out hle;have hw5:=uP.out;simp only[List.nil_append]at hw5;clear q3 q4 HW3 jo uP HB4 tX gJ D8 c0 c1 hk3 mF nX HB0 HB2;obtain⟨hdr,vK⟩:∃hdr,put en++put l.length=hdr:=⟨_,rfl⟩;rw[vK]at hw5;have hdl:hdr.length<=18:=by rw[<-vK];have:=HP.out;simp only[lA0];omega
 have hdp:hdr≠[]:=by rw[<-vK];have h1:=put_pos en;intro e;have:=congrArg List.length e;simp only[lA0,List.length_nil]at this;omega
 have yX:=ah (And.intro vK (And.intro hdl hdp));clear vK hdl hdp HP;have uP:=ah hw5;clear hw5;have dK:=ah hk5;clear hk5;obtain⟨u0,u1⟩:=q5;go_wp2;go_loopw [24] (fun v24 wr=>∃i:Nat,i<=l.length/\v24=.int .i64 i/\WS w2.heap.size wr g (hdr++(l.take i).flatMap yY) [(w.heap.size,57,#[.int .i64 en,.slice A l.length c,.int .u64 fn])]/\Kept aj w wr) (fun v24 _=>l.length-(intOf v24).toNat)
 case atStart=>exact⟨0,Nat.zero_le _,rfl,by simpa using uP.out,dK.out⟩
 case round=>
  obtain⟨i,hi,rfl,hws,hk⟩:=hrel;have HK:=ah hk;clear hk;by_cases hil:i<l.length
  ·obtain⟨m,hm⟩:∃m,l[i]? =some m:=⟨_,lB0 hil⟩;have Sr:l[i]=m:=by rw[lB0 hil]at hm;exact Option.some.inj hm
   obtain⟨ad,rfl,had,e0,e1⟩:=qX (HS.out.kept HK.out (fun _ _ x=>x)) (by omega) i m hm;have hb1:=NS.out.1 m (lC0 hm);have hb2:=NS.out.2 m (lC0 hm);have jf:=qW yY l i hil;rw[Sr]at jf
   have hfl:=oW yY (l.take (i+1)) 18 (fun y hy=>by have b1:=NS.out.1 y (List.mem_of_mem_take hy);have b2:=NS.out.2 y (List.mem_of_mem_take hy);have c1:=dJ (n:=y.1.toNat) (by omega);have c2:=dJ (n:=y.2.toNat) (by omega);unfold yY;rw[lA0];omega)
   rw[jf,lA0]at hfl;have hmin:(l.take (i+1)).length<=4:=by rw[List.length_take];omega
   have ru:(hdr++(l.take i).flatMap yY).length<=200:=by rw[lA0];have:=yX.out.2.1;omega
   obtain⟨m1,m2⟩:=m;dsimp only at hb1 hb2 e0 e1;obtain⟨a,rfl⟩:∃a:Nat,m1=a:=⟨m1.toNat,by omega⟩;obtain⟨b,rfl⟩:∃b:Nat,m2=b:=⟨m2.toNat,by omega⟩;obtain⟨cur,hcur⟩:∃cur,hdr++(l.take i).flatMap yY=cur:=⟨_,rfl⟩;rw[hcur]at hws ru;have hnext:hdr++(l.take (i+1)).flatMap yY=(cur++put a)++put b:=by rw[jf,<-List.append_assoc,hcur];unfold yY;simp only[List.append_assoc,Int.toNat_natCast]
   have jT:=ah hnext;clear hnext jf hfl hcur hmin hm Sr;have um:=ah ru;clear ru;have Ku:=ah (And.intro hb1 hb2);clear hb1 hb2;have p1:=dJ (n:=a) (by have:=Ku.out;omega);have AP:=ah p1;clear p1;have hw0:=hws.add 175 #[.int .i64 a,.int .i64 b];have HW0:=ah hw0;clear hw0 hws
   have hos:∀W bs,WS w2.heap.size W g bs [(wr.heap.size,175,#[.int .i64 a,.int .i64 b]),(w.heap.size,57,#[.int .i64 en,.slice (some ad) l.length c,.int .u64 fn])]->(W.cell? ⟨wr.heap.size,0,none⟩=some (.int .i64 a)/\W.cell? ⟨wr.heap.size,1,none⟩=some (.int .i64 b)):=
    fun W bs hW=>⟨(hW.has (List.mem_cons_self ..)).cell 0,(hW.has (List.mem_cons_self ..)).cell 1⟩
   have zV:=ah hos;clear hos;have r0:=zV.out _ _ HW0.out;go_wp2_with fail
   go_region_held3 (fun W=>W.cell? ⟨wr.heap.size,0,none⟩=some (.int .i64 a)/\W.cell? ⟨wr.heap.size,1,none⟩=some (.int .i64 b)) (first|with_reducible exact r2|with_reducible exact r1|with_reducible exact r0|(simp[go_sem,r0];done))
    (first
     |(have hx:=Jk;clear hx;go_at_call 88;refine(sN (by exact Jk.out) b (by have:=Ku.out;omega) (by have:=um.out;have:=AP.out;simp;omega)).mono ?_;rintro e w4 ⟨rfl,hv2,hd2⟩;have r2:=zV.out _ _ hv2;have NR:=ah hv2;have HD2:=ah hd2;clear hv2 hd2)
     |(go_at_call 88;refine(sN (by exact HW0.out) a (by have:=Ku.out;omega) (by have:=um.out;omega)).mono ?_;rintro e w3 ⟨rfl,hv1,hd1⟩;have r1:=zV.out _ _ hv1;have Jk:=ah hv1;have HD1:=ah hd1;clear hv1 hd1))
   have hkk:=behind (behind (w:=w) (by(repeat'(first|(with_reducible first|exact ay|apply aA|apply aB|apply aC|apply aF)|(with_reducible exact HK.out)|(right;simp;done)))) HD1.out hle) HD2.out hle;have HKK:=ah hkk;clear hkk HD1 HD2;have hv:=NR.out.O8;rw[<-jT.out]at hv;have HV:=ah hv;clear hv;go_wp2;go_roundw
   case rel=>exact⟨i+1,by omega,by go_num,HV.out,HKK.out⟩
   case measure=>simp[intOf];omega
  ·obtain rfl:i=l.length:=by omega
   rw[List.take_length]at hws
   have hfl:=oW yY l 18 (fun y hy=>by have b1:=NS.out.1 y hy;have b2:=NS.out.2 y hy;have c1:=dJ (n:=y.1.toNat) (by omega);have c2:=dJ (n:=y.2.toNat) (by omega);unfold yY;rw[lA0];omega)
   have ru:(hdr++l.flatMap yY).length<=200:=by rw[lA0];have:=yX.out.2.1;omega
   have z2:wr.cell? ⟨w.heap.size,2,none⟩=some (.int .u64 fn):=(hws.has (List.mem_singleton.2 rfl)).cell 2;have Zl:=ah hws;have um:=ah ru;clear hws ru hfl;go_wp2_with fail;refine(EN Zl.out fn HFN.out (by have:=um.out;omega)).mono ?_;rintro e w5 ⟨rfl,hw5,hb5⟩;have uP:=ah hw5;have tX:=ah hb5;clear hw5 hb5 z2;go_wp2_with fail;refine(D6 uP.out (by have:=yX.out.2.2;simp;intro h;exact absurd h this)).mono ?_;rintro e w6 ⟨rfl,hb⟩;have hkk:=behind (behind HK.out tX.out hle) hb hle;have HKK:=ah hkk;clear hkk hb;go_wp2;go_ret2;exact⟨by rw[<-yX.out.1];simp only[List.append_assoc];rfl,HKK.out⟩
theorem Vq(w:World)(y:iM)(hs:Src w 3 y.A y.ops.length (cells y.ops))(hts:0<=y.ts/\y.ts<=aY):
  Calls Tryz.prog 130 #[Bf y] w fun e w'=>e=.returned (.tuple #[.string (su y),.int .i64 (Ops.chk (lZ y))])/\Kept aj w w':=by
 have hput:=fun W (hW:Kept aj w W)=>Lc W (lZ y) y.A y.c (hs.kept hW (fun _ _ x=>x));have hE:su y=if Ops.chk (lZ y)=0 then fE (put y.ts.toNat++dA (qy (lZ y)))else emp:=by
  unfold su UD qy;by_cases h:Ops.chk (lZ y)=0
  ·rw[if_pos h,if_pos h,if_pos h]
  ·rw[if_neg h,if_neg h]
 rw[hE];have hlen:(qy (lZ y)).size<=103:=by have:=xU (lZ y);unfold wK at this;unfold qy;exact this
 obtain⟨z,hz⟩:∃z,Ops.chk (lZ y)=z:=⟨_,rfl⟩;obtain⟨s,hs2⟩:∃s,qy (lZ y)=s:=⟨_,rfl⟩;rw[hz,hs2]at hput⊢;rw[hs2]at hlen;clear hE hz hs2 hs;obtain⟨cl,req,A,c,ops,ts⟩:=y;dsimp only[lZ,nT]at hput hts⊢;obtain⟨tn,rfl⟩:∃tn:Nat,ts=tn:=⟨ts.toNat,by omega⟩;have htn:tn<18446744073709551616:=by unfold aY at hts;omega
 rw[Int.toNat_natCast];have Bo:=ah hput;have IY:=ah htn;have eH:=ah hlen;clear hput htn hts hlen;have HB0:=ah (Has.new w 183 #[.int .i64 cl,.int .i64 req,.slice A ops.length c,.int .u64 tn]);by_cases h0:z=0;rotate_left
 ·rw[if_neg h0];have hz2:(z !=0)=true:=by simpa using h0
  clear h0;go_enter Tryz.func130,Tryz.ntmps130;go_wp2_with fail;refine(Bo.out _ (by(repeat'(first|(with_reducible first|exact ay|apply aA|apply aB|apply aC|apply aF)|(right;simp;done))))).mono ?_;rintro e w2 ⟨rfl,hk⟩;have hk2:=Kept.then (a:=w) (by(repeat'(first|(with_reducible first|exact ay|apply aA|apply aB|apply aC|apply aF)|(right;simp;done)))) hk;have gJ:=ah hk2;clear hk2 hk;go_wp2;go_ret2;exact⟨rfl,gJ.out⟩
 rw[if_pos h0];subst h0;obtain⟨R,hR⟩:∃R,put tn++dA s=R:=⟨_,rfl⟩;have hR0:R≠[]:=by rw[<-hR];have h1:=put_pos tn;intro e;have:=congrArg List.length e;simp only[lA0,List.length_nil]at this;omega
 rw[hR];have HR:=ah (And.intro hR hR0);clear hR hR0;go_enter Tryz.func130,Tryz.ntmps130;go_wp2_with fail;refine(Bo.out _ (by(repeat'(first|(with_reducible first|exact ay|apply aA|apply aB|apply aC|apply aF)|(right;simp;done))))).mono ?_;rintro e w2 ⟨rfl,hk⟩;have hb2:=Has.kept (F:=aj) HB0.out hk (fun x=>x);have hk2:=Kept.then (a:=w) (by(repeat'(first|(with_reducible first|exact ay|apply aA|apply aB|apply aC|apply aF)|(right;simp;done)))) hk;have c0:w2.cell? ⟨w.heap.size,3,none⟩=some (.int .u64 tn):=hb2.cell 3;have HB2:=ah hb2;clear hb2;have gJ:=ah hk2;clear hk2 hk
 have hnew:∀W,Has W w.heap.size 183 #[.int .i64 cl,.int .i64 req,.slice A ops.length c,.int .u64 tn]->Calls Tryz.prog 87 #[] W fun e w'=>∃g,e=.returned (.pointer (some ⟨g,0,none⟩))/\WS W.heap.size w' g [] [(w.heap.size,183,#[.int .i64 cl,.int .i64 req,.slice A ops.length c,.int .u64 tn])]/\Kept aj W w':=
  fun W hW=>GM W _ (fun x hx=>by simp at hx;subst hx;exact hW)
 have mF:=ah hnew;clear hnew;have hss:∀W,Has W w.heap.size 183 #[.int .i64 cl,.int .i64 req,.slice A ops.length c,.int .u64 tn]->(W.cell? ⟨w.heap.size,3,none⟩=some (.int .u64 tn)):=fun W hW=>hW.cell 3;have qI:=ah hss;clear hss;have jm:=ah HB2.out.lt;go_wp2_with fail
 go_region_held3 (fun W=>W.cell? ⟨w.heap.size,3,none⟩=some (.int .u64 tn)) (first|with_reducible exact q6|with_reducible exact q5|with_reducible exact q4|with_reducible exact q3|with_reducible exact c0|(simp[go_sem,c0];done))
  (first
   |(go_at_call 87;refine(mF.out _ (by exact HB2.out)).mono ?_;rintro e w3 ⟨g,rfl,hw3,D7⟩;have q3:=qI.out _ (hw3.has (List.mem_singleton.2 rfl));have HW3:=ah hw3;have D8:=ah D7;clear hw3 D7)
   |(go_at_call 132;refine(EN (by exact HW3.out) tn IY.out (by simp)).mono ?_;rintro e w4 ⟨rfl,hw4,hb4⟩;have q4:=qI.out _ (hw4.has (List.mem_singleton.2 rfl));have jo:=ah hw4;have HB4:=ah hb4;clear hw4 hb4)
   |(go_at_call 131;refine(uk (by exact jo.out) s (by have:=dJ (n:=tn) (by have:=IY.out;omega);have:=eH.out;simp;omega)).mono ?_;rintro e w5 ⟨rfl,hw5,hb5⟩;have q5:=qI.out _ (hw5.has (List.mem_singleton.2 rfl));have uP:=ah hw5;have tX:=ah hb5;clear hw5 hb5)
   |(go_at_call 90;refine(D6 (by exact uP.out) (by rw[List.nil_append,HR.out.1];exact HR.out.2)).mono ?_;rintro e w6 ⟨rfl,hb6⟩;have q6:w6.cell? ⟨w.heap.size,3,none⟩=some (.int .u64 tn):=(hb6.cell (p:=⟨w.heap.size,3,none⟩) (by exact jm.out)).trans q5;have jS:=ah hb6;clear hb6))
 have hk3:Kept aj w w3:=Kept.then (by(repeat'(first|(with_reducible first|exact ay|apply aA|apply aB|apply aC|apply aF)|(with_reducible exact gJ.out)|(right;simp;done)))) D8.out;have hle:w.heap.size<=w2.heap.size:=gJ.out.size;have hk6:Kept aj w w6:=behind (behind (behind hk3 HB4.out hle) tX.out hle) jS.out hle;have eu:=ah hk6;clear q3 q4 q5 q6 HW3 jo uP HB4 tX jS gJ D8 c0 hk3 mF Bo HB0 HB2 hk6 jm;go_wp2;go_ret2;exact⟨by rw[<-HR.out.1];rfl,eu.out⟩
end eP
namespace JL
open Vn Ops iI
abbrev KB:=Nat×Obj
theorem GN{w:World}{k:Nat}{o:Obj}(h:w.heap[k]? =some o):k<w.heap.size:=(Array.getElem?_eq_some_iff.1 h).1
theorem Ag{F:Nat->Prop}{a b:World}{k:Nat}{o:Obj}(h:a.heap[k]? =some o)(hk:Kept F a b)(hf:¬F k):b.heap[k]? =some o:=(hk.block k (GN h) hf).trans h
def WS(N:Nat)(w:World)(g:Nat)(bs:List UInt8)(keep:List KB):Prop:=
 N<=w.heap.size/\∃F,oD w g F bs/\(∀k,F k->N<=k)/\∀x∈keep,¬F x.1/\w.heap[x.1]? =some x.2
section
variable{N g:Nat}{w w':World}{bs:List UInt8}{keep:List KB}
theorem WS.alloc(h:WS N w g bs keep)(o:Obj):WS N (w.alloc o) g bs keep:=by obtain⟨h0,F,h1,h2,h3⟩:=h;exact⟨by simp;omega,F,h1.kept ((Kept.refl aj w).alloc o) (wF F),h2,fun x hx=>⟨(h3 x hx).1,Ag (h3 x hx).2 ((Kept.refl aj w).alloc o) (fun z=>z)⟩⟩
theorem WS.add(h:WS N w g bs keep)(o:Obj):WS N (w.alloc o) g bs ((w.heap.size,o)::keep):=by
 obtain⟨h0,F,h1,h2,h3⟩:=h;refine⟨by simp;omega,F,h1.kept ((Kept.refl aj w).alloc _) (wF F),h2,fun x hx=> ?_⟩;rcases List.mem_cons.1 hx with rfl|hx
 ·exact⟨fun hF=>by have:=h1.lt _ hF;simp at this,heap_alloc_new w o⟩
 ·exact⟨(h3 x hx).1,Ag (h3 x hx).2 ((Kept.refl aj w).alloc _) (fun z=>z)⟩
theorem WS.tail{x:KB}(h:WS N w g bs (x::keep)):WS N w g bs keep:=by obtain⟨h0,F,h1,h2,h3⟩:=h;exact⟨h0,F,h1,h2,fun y hy=>h3 y (List.mem_cons_of_mem _ hy)⟩
theorem WS.O8{x y:KB}(h:WS N w g bs (x::y::keep)):WS N w g bs (y::keep):=h.tail
theorem WS.has{x:KB}(h:WS N w g bs keep)(hx:x∈keep):w.heap[x.1]? =some x.2:=by obtain⟨h0,F,h1,h2,h3⟩:=h;exact(h3 x hx).2
theorem WS.kept{G:Nat->Prop}(h:WS N w g bs keep)(hk:Kept aj w w'):WS N w' g bs keep:=by obtain⟨h0,F,h1,h2,h3⟩:=h;exact⟨Nat.le_trans h0 hk.size,F,h1.kept hk (wF F),h2,fun x hx=>⟨(h3 x hx).1,Ag (h3 x hx).2 hk (fun y=>y)⟩⟩
theorem WS.iterAt{k p q:Nat}{s:ByteArray}(h:WS N w g bs ((k,.stringIter s p)::keep))(hd:∀x∈keep,x.1≠k):WS N (w.iterAt k s q) g bs ((k,.stringIter s q)::keep):=by
 obtain⟨h0,F,h1,h2,h3⟩:=h;have hk:=h3 (k,.stringIter s p) (List.mem_cons_self ..);refine⟨by rw[Lib.iterAt_size];exact h0,F,h1.kept (G:=fun j=>j=k) ⟨rfl,rfl,rfl,by rw[Lib.iterAt_size];exact Nat.le_refl _,fun i _ hi=>Lib.iterAt_other w k i s q hi⟩ (fun j hj e=>hk.1 (e▸hj)),h2,fun x hx=> ?_⟩;rcases List.mem_cons.1 hx with rfl|hx
 ·exact⟨hk.1,Lib.iterAt_heap w k s p q hk.2⟩
 ·have h4:=h3 x (List.mem_cons_of_mem _ hx);exact⟨h4.1,(Lib.iterAt_other w k x.1 s q (hd x hx)).trans h4.2⟩
def wU(N:Nat)(w:World)(g:Nat)(bs:List UInt8)(keep:List KB)(e:Ending)(w':World):Prop:=e=.returned (.pointer (some ⟨g,0,none⟩))/\WS N w' g bs keep/\Below N w w'
theorem WS.step{f:FuncId}{args:Array Value}{bs':List UInt8}(h:WS N w g bs keep)
  (hc:∀F,oD w g F bs->Calls Tryz.prog f args w (Wrote w g F bs')):Calls Tryz.prog f args w (wU N w g bs' keep):=by
 obtain⟨h0,F,h1,h2,h3⟩:=h;refine(hc F h1).mono ?_;rintro e w' ⟨he,F',g1,g2,g3⟩;refine⟨he,⟨Nat.le_trans h0 g3.size,F',g1,fun k hk=> ?_,fun x hx=>⟨fun hF=> ?_,Ag (h3 x hx).2 g3 (h3 x hx).1⟩⟩,g3.below h0 h2⟩
 ·rcases g2 k hk with y|y
  ·exact h2 k y
  ·omega
 ·rcases g2 x.1 hF with y|y
  ·exact(h3 x hx).1 y
  ·have:=GN (h3 x hx).2;omega
theorem sN(h:WS N w g bs keep)(n:Nat)(hn:n<=9223372036854775807)(hlen:bs.length+9<=140737488355328):
  Calls Tryz.prog 88 #[.pointer (some ⟨g,0,none⟩),.int .i64 n] w (wU N w g (bs++put n) keep):=h.step fun F hF=>JW w g F bs n hn hF hlen
theorem EN(h:WS N w g bs keep)(n:Nat)(hn:n<18446744073709551616)(hlen:bs.length+9<=140737488355328):
  Calls Tryz.prog 132 #[.pointer (some ⟨g,0,none⟩),.int .u64 n] w (wU N w g (bs++put n) keep):=h.step fun F hF=>JX w g F bs n hn hF hlen
theorem uk(h:WS N w g bs keep)(s:ByteArray)(hlen:bs.length+9+s.size<=140737488355328):
  Calls Tryz.prog 131 #[.pointer (some ⟨g,0,none⟩),.string s] w (wU N w g (bs++dA s) keep):=h.step fun F hF=>IE w g F bs s hF hlen
theorem La(h:WS N w g bs keep)(b:Bool)(hlen:bs.length+9<=140737488355328):
  Calls Tryz.prog 171 #[.pointer (some ⟨g,0,none⟩),.bool b] w (wU N w g (bs++sW b) keep):=h.step fun F hF=>IG w g F bs b hF (by omega)
theorem GM(w:World)(keep:List KB)(hk:∀x∈keep,w.heap[x.1]? =some x.2):
  Calls Tryz.prog 87 #[] w fun e w'=>∃g,e=.returned (.pointer (some ⟨g,0,none⟩))/\WS w.heap.size w' g [] keep/\Kept aj w w':=by
 refine(JY w).mono ?_;rintro e w' ⟨he,h1,h2⟩;exact⟨w.heap.size,he,⟨h2.size,_,h1,fun k hk=>by rw[hk];exact Nat.le_refl _,fun x hx=>⟨fun e=>by have:=GN (hk x hx);omega,Ag (hk x hx) h2 (fun y=>y)⟩⟩,h2⟩
theorem D6(h:WS N w g bs keep)(h0:bs≠[]):
  Calls Tryz.prog 90 #[.pointer (some ⟨g,0,none⟩)] w fun e w'=>e=.returned (.tuple #[.string (fE bs),.int .i64 0])/\Below N w w':=by
 obtain⟨hN,F,h1,h2,h3⟩:=h;refine(JV w g F bs h1 h0).mono ?_;rintro e w' ⟨he,hk⟩;exact⟨he,hk.below hN h2⟩
theorem behind{a b:World}(h:Kept aj w a)(hb:Below N a b)(hN:w.heap.size<=N):Kept aj w b:=
 h.trans (G:=fun k=>N<=k) (Kept.of_below hb fun k _ hf=>by omega) fun i hi=> .inr (by omega)
