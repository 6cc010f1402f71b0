/- Part 10 of what the proof needs. -/
import Derived.Test.YtolkgbafebehfaaGreatZP08
set_option linter.unusedSimpArgs false
set_option linter.unusedVariables false
set_option maxHeartbeats 32000000
set_option maxRecDepth 100000
namespace Go.Proofs.YtolkgbafebehfaaGreat
open Go.RowKit Go.Shelf
set_option maxRecDepth 100000
namespace Ops
open Vn Dk
def vX(b:Batch):ByteArray:=if chk b=0 then bu (zW b)else emp
theorem I5(w:World)(b:Batch)(A:Option Addr)(c:Nat)(hs:Src w 3 A b.ops.length (cells b.ops)):
  Calls Tryz.prog 307 #[Dp b A c] w fun e w'=>e=.returned (.tuple #[.string (vX b),.int .i64 (chk b)])/\Kept aj w w':=by
 have dL:=fun W (hW:Kept aj w W)=>yP W b A c (hs.kept hW (fun _ _ x=>x))
 have vY:=ah dL;clear dL
 have HS:=ah hs;clear hs
 by_cases hz:chk b=0
 rotate_left
 ·have hr:vX b=emp:=by unfold vX;rw[if_neg hz]
  rw[hr]
  obtain⟨x,hx⟩:∃x,chk b=x:=⟨_,rfl⟩
  rw[hx]at hz vY⊢
  have hz2:(x !=0)=true:=by simpa using hz
  clear hx hr hz
  go_enter Tryz.func307,Tryz.ntmps307
  go_wp2_with fail
  refine(vY.out _ (by(repeat'(first|(with_reducible first|exact ak|apply au|apply ay|apply aA|apply aB)|(right;simp;done))))).mono ?_
  rintro e w2 ⟨rfl,hk⟩
  have hk2:=Kept.then (a:=w) (by(repeat'(first|(with_reducible first|exact ak|apply au|apply ay|apply aA|apply aB)|(right;simp;done)))) hk
  have aQ:=ah hk2;clear hk2 hk
  go_wp2
  go_ret2
  exact⟨rfl,aQ.out⟩
 have hr:vX b=bu (zW b):=by unfold vX;rw[if_pos hz]
 rw[hr,hz]
 rw[hz]at vY
 obtain⟨k1,k2,k3,k4,k5,k6⟩:=QE hz
 have hok:=Np k6
 obtain⟨cl,req,l⟩:=b
 dsimp only at k1 k2 k3 k4 k5 k6 hok HS
 obtain⟨cn,rfl⟩:∃cn:Nat,cl=cn:=⟨cl.toNat,by omega⟩
 obtain⟨rn,rfl⟩:∃rn:Nat,req=rn:=⟨req.toNat,by omega⟩
 have hpb:zW ⟨cn,rn,l⟩=put cn++put rn++put l.length++l.flatMap sJ:=rfl
 rw[hpb]
 have Af:=ah hok;clear hok k6 hz hr hpb
 have HB0:=ah (Has.new w 41 #[.int .i64 cn,.int .i64 rn,.slice A l.length c])
 go_enter Tryz.func307,Tryz.ntmps307
 go_wp2_with fail
 refine(vY.out _ (by(repeat'(first|(with_reducible first|exact ak|apply au|apply ay|apply aA|apply aB)|(right;simp;done))))).mono ?_
 rintro e w2 ⟨rfl,hk⟩
 have hb2:=Has.kept (F:=aj) HB0.out hk (fun x=>x)
 have hk2:=Kept.then (a:=w) (by(repeat'(first|(with_reducible first|exact ak|apply au|apply ay|apply aA|apply aB)|(right;simp;done)))) hk
 have c0:w2.cell? ⟨w.heap.size,0,none⟩=some (.int .i64 cn):=hb2.cell 0
 have c1:w2.cell? ⟨w.heap.size,1,none⟩=some (.int .i64 rn):=hb2.cell 1
 have c2:w2.cell? ⟨w.heap.size,2,none⟩=some (.slice A l.length c):=hb2.cell 2
 have HB2:=ah hb2;clear hb2
 have aQ:=ah hk2;clear hk2 hk
 have hN:∀n,(w2.drewN n).heap.size=w2.heap.size:=fun n=>rfl
 have hnew:∀W,Has W w.heap.size 41 #[.int .i64 cn,.int .i64 rn,.slice A l.length c]->Calls Tryz.prog 194 #[] W fun e w'=>∃g,e=.returned (.pointer (some ⟨g,0,none⟩))/\WS W.heap.size w' g [] [(w.heap.size,41,#[.int .i64 cn,.int .i64 rn,.slice A l.length c])]/\Kept aj W w':=
  fun W hW=>pP W _ (fun x hx=>by simp at hx;subst hx;exact hW)
 have fE:=ah hnew;clear hnew
 have hss:∀W,Has W w.heap.size 41 #[.int .i64 cn,.int .i64 rn,.slice A l.length c]->(W.cell? ⟨w.heap.size,0,none⟩=some (.int .i64 cn)/\W.cell? ⟨w.heap.size,1,none⟩=some (.int .i64 rn)/\W.cell? ⟨w.heap.size,2,none⟩=some (.slice A l.length c)):=fun W hW=>⟨hW.cell 0,hW.cell 1,hW.cell 2⟩
 have uj:=ah hss;clear hss
 have p1:=kX (n:=cn) (by omega)
 have p2:=kX (n:=rn) (by omega)
 have p3:=kX (n:=l.length) (by omega)
 have HP:=ah (And.intro p1 (And.intro p2 p3));clear p1 p2 p3
 have HQ:=ah (And.intro k1 (And.intro k2 (And.intro k3 (And.intro k4 k5))));clear k1 k2 k3 k4
 go_wp2_with fail
 go_region_held3 (fun W=>W.cell? ⟨w.heap.size,0,none⟩=some (.int .i64 cn)/\W.cell? ⟨w.heap.size,1,none⟩=some (.int .i64 rn)/\W.cell? ⟨w.heap.size,2,none⟩=some (.slice A l.length c)) (first|with_reducible exact q6|with_reducible exact q5|with_reducible exact q4|with_reducible exact q3|with_reducible exact⟨c0,c1,c2⟩|(simp[go_sem,c0,c1,c2];done))
  (first
   |(go_at_call 194;refine(fE.out _ (by exact HB2.out)).mono ?_;rintro e w3 ⟨g,rfl,hw3,Ag⟩;have q3:=uj.out _ (hw3.has (List.mem_singleton.2 rfl));have HW3:=ah hw3;have Ah:=ah Ag;clear hw3 Ag)
   |(have hx:=dJ;clear hx;go_at_call 195;refine(fJ (by exact dJ.out) l.length (by have:=HQ.out;omega) (by have:=HP.out;simp;omega)).mono ?_;rintro e w6 ⟨rfl,hw6,hb6⟩;have q6:=uj.out _ (hw6.has (List.mem_singleton.2 rfl));have vZ:=ah hw6;have FY:=ah hb6;clear hw6 hb6)
   |(have hx:=kC;clear hx;go_at_call 195;refine(fJ (by exact kC.out) rn (by have:=HQ.out;omega) (by have:=HP.out;simp;omega)).mono ?_;rintro e w5 ⟨rfl,hw5,hb5⟩;have q5:=uj.out _ (hw5.has (List.mem_singleton.2 rfl));have dJ:=ah hw5;have iy:=ah hb5;clear hw5 hb5)
   |(have hx:=HW3;clear hx;go_at_call 195;refine(fJ (by exact HW3.out) cn (by have:=HQ.out;omega) (by simp)).mono ?_;rintro e w4 ⟨rfl,hw4,hb4⟩;have q4:=uj.out _ (hw4.has (List.mem_singleton.2 rfl));have kC:=ah hw4;have HB4:=ah hb4;clear hw4 hb4))
 have hk3:Kept aj w w3:=Kept.then (by(repeat'(first|(with_reducible first|exact ak|apply au|apply ay|apply aA|apply aB)|(with_reducible exact aQ.out)|(right;simp;done)))) Ah.out
 have hle:w.heap.size<=w2.heap.size:=aQ.out.size
 have hk6:Kept aj w w6:=behind (behind (behind hk3 HB4.out hle) iy.out hle) FY.out hle
 have hw6:=vZ.out
 simp only[List.nil_append]at hw6
 clear q3 q4 q5 HW3 kC dJ vZ HB4 iy FY aQ Ah c0 c1 c2 hk3 fE vY HB0 HB2
 obtain⟨hdr,qN⟩:∃hdr,put cn++put rn++put l.length=hdr:=⟨_,rfl⟩
 rw[qN]at hw6
 have hdl:hdr.length<=27:=by
  rw[<-qN]
  have:=HP.out
  simp only[List.length_append]
  omega
 have hdp:hdr≠[]:=by
  rw[<-qN]
  have h1:=put_pos cn
  intro e
  have:=congrArg List.length e
  simp only[List.length_append,List.length_nil]at this
  omega
 have Ai:=ah (And.intro qN (And.intro hdl hdp));clear qN hdl hdp HP
 have vZ:=ah hw6;clear hw6
 have jV:=ah hk6;clear hk6
 obtain⟨u0,u1,u2⟩:=q6
 go_wp2
 go_loopw [27] (fun v27 wr=>∃i:Nat,i<=l.length/\v27=.int .i64 i/\WS w2.heap.size wr g (hdr++(l.take i).flatMap sJ) [(w.heap.size,41,#[.int .i64 cn,.int .i64 rn,.slice A l.length c])]/\Kept aj w wr) (fun v27 _=>l.length-(intOf v27).toNat)
 case atStart=>exact⟨0,Nat.zero_le _,rfl,by simpa using vZ.out,jV.out⟩
 case round=>
  obtain⟨i,hi,rfl,hws,hk⟩:=hrel
  have HK:=ah hk;clear hk
  have hcs:=uj.out _ (hws.has (List.mem_singleton.2 rfl))
  obtain⟨b0,b1,b2⟩:=hcs
  by_cases hil:i<l.length
  ·obtain⟨o,ho⟩:∃o,l[i]? =some o:=⟨_,List.getElem?_eq_getElem hil⟩
   have hoi:l[i]=o:=by rw[List.getElem?_eq_getElem hil]at ho;exact Option.some.inj ho
   obtain⟨ad,rfl,had,e0,e1,e2⟩:=IG (HS.out.kept HK.out (fun _ _ x=>x)) (by omega) i o ho
   have gG:=oZ sJ l i hil
   rw[hoi]at gG
   have hOK:∀x∈l.take (i+1),(sJ x).length<=19:=fun x hx=>Iy (Af.out x (List.mem_of_mem_take hx)).2.1 (Af.out x (List.mem_of_mem_take hx)).2.2.1
   have hfl:=Iz _ hOK
   rw[gG,List.length_append]at hfl
   have hob:=Af.out o (by rw[<-hoi];exact List.getElem_mem hil)
   have hmin:(l.take (i+1)).length<=4:=by rw[List.length_take];omega
   have nP:(hdr++(l.take i).flatMap sJ).length<=200:=by rw[List.length_append];have:=Ai.out.2.1;omega
   obtain⟨cur,hcur⟩:∃cur,hdr++(l.take i).flatMap sJ=cur:=⟨_,rfl⟩
   rw[hcur]at hws nP
   have hnext:hdr++(l.take (i+1)).flatMap sJ=((cur++dD o.key)++xO o.del)++dD o.val:=by
    rw[gG,<-List.append_assoc,hcur]
    unfold sJ
    simp only[List.append_assoc]
   have nD:=ah hnext;clear hnext gG hfl hOK hcur hmin ho hoi
   have iW:=ah nP;clear nP
   have Rf:=ah hob;clear hob
   have pt1:(dD o.key).length<=17:=by
    have h1:=kX (n:=o.key.size) (by have:=Rf.out;omega)
    unfold dD;rw[List.length_append,dh];have:=Rf.out;omega
   have Yg:=ah pt1;clear pt1
   have hw0:=hws.add 398 #[.string o.key,.string o.val,.bool o.del]
   have HW0:=ah hw0;clear hw0 hws
   have hos:∀W bs,WS w2.heap.size W g bs [(wr.heap.size,398,#[.string o.key,.string o.val,.bool o.del]),(w.heap.size,41,#[.int .i64 cn,.int .i64 rn,.slice (some ad) l.length c])]->(W.cell? ⟨wr.heap.size,0,none⟩=some (.string o.key)/\W.cell? ⟨wr.heap.size,1,none⟩=some (.string o.val)/\W.cell? ⟨wr.heap.size,2,none⟩=some (.bool o.del)):=
    fun W bs hW=>⟨(hW.has (List.mem_cons_self ..)).cell 0,(hW.has (List.mem_cons_self ..)).cell 1,(hW.has (List.mem_cons_self ..)).cell 2⟩
   have zJ:=ah hos;clear hos
   have r0:=zJ.out _ _ HW0.out
   go_wp2_with fail
   go_region_held3 (fun W=>W.cell? ⟨wr.heap.size,0,none⟩=some (.string o.key)/\W.cell? ⟨wr.heap.size,1,none⟩=some (.string o.val)/\W.cell? ⟨wr.heap.size,2,none⟩=some (.bool o.del)) (first|with_reducible exact r3|with_reducible exact r2|with_reducible exact r1|with_reducible exact r0|(simp[go_sem,r0];done))
    (first
     |(have hx:=qg;clear hx;go_at_call 197;refine(ny (by exact qg.out) o.val (by have:=iW.out;have:=Rf.out;have:=Yg.out;simp[xO];omega)).mono ?_;rintro e w5 ⟨rfl,hv3,hd3⟩;have r3:=zJ.out _ _ hv3;have FZ:=ah hv3;have HD3:=ah hd3;clear hv3 hd3)
     |(have hx:=o8;clear hx;go_at_call 362;refine(I4 (by exact o8.out) o.del (by have:=iW.out;have:=Rf.out;have:=Yg.out;simp;omega)).mono ?_;rintro e w4 ⟨rfl,hv2,hd2⟩;have r2:=zJ.out _ _ hv2;have qg:=ah hv2;have HD2:=ah hd2;clear hv2 hd2)
     |(go_at_call 197;refine(ny (by exact HW0.out) o.key (by have:=iW.out;have:=Rf.out;omega)).mono ?_;rintro e w3 ⟨rfl,hv1,hd1⟩;have r1:=zJ.out _ _ hv1;have o8:=ah hv1;have HD1:=ah hd1;clear hv1 hd1))
   have hkk:=behind (behind (behind (w:=w) (by(repeat'(first|(with_reducible first|exact ak|apply au|apply ay|apply aA|apply aB)|(with_reducible exact HK.out)|(right;simp;done)))) HD1.out hle) HD2.out hle) HD3.out hle
   have HKK:=ah hkk;clear hkk HD1 HD2 HD3
   have hv:=FZ.out.OI
   rw[<-nD.out]at hv
   have HV:=ah hv;clear hv
   go_wp2
   go_roundw
   case rel=>exact⟨i+1,by omega,by go_num,HV.out,HKK.out⟩
   case measure=>simp[intOf];omega
  ·obtain rfl:i=l.length:=by omega
   rw[List.take_length]at hws
   have rF:=ah hws;clear hws
   go_wp2_with fail
   refine(nC rF.out (by have:=Ai.out.2.2;simp;intro h;exact absurd h this)).mono ?_
   rintro e w5 ⟨rfl,hb⟩
   have hkk:=behind HK.out hb hle
   have HKK:=ah hkk;clear hkk hb
   go_wp2
   go_ret2
   exact⟨by rw[<-Ai.out.1];rfl,HKK.out⟩
end Ops
namespace gX
open aP Ops zY Vn Dk
def uO(m:Mem):List UInt8:=put m.1.toNat++put m.2.toNat
theorem I7(w:World)(ep fl:Int)(A:Option Addr)(c:Nat)(l:List Mem)(hs:Src w 2 A l.length (aS l))(hlc:l.length<=c)(hlen:l.length<=1000)(hfl:0<=fl/\fl<=aT):
  Calls Tryz.prog 196 #[mP ep A l.length c fl] w fun e w'=>e=.returned (.tuple #[.string (nU ep l fl),.int .i64 (aP.chk ep l)])/\Kept aj w w':=by
 have dL:=fun W (hW:Kept aj w W)=>Mst.rD W ep fl A c l (hs.kept hW (fun _ _ x=>x)) hlc (by omega)
 have vY:=ah dL;clear dL
 have HS:=ah hs;clear hs
 by_cases hz:aP.chk ep l=0
 rotate_left
 ·have hr:nU ep l fl=emp:=by unfold nU;rw[if_neg hz]
  rw[hr]
  obtain⟨x,hx⟩:∃x,aP.chk ep l=x:=⟨_,rfl⟩
  rw[hx]at hz vY⊢
  have hz2:(x !=0)=true:=by simpa using hz
  clear hx hr hz
  go_enter Tryz.func196,Tryz.ntmps196
  go_wp2_with fail
  refine(vY.out _ (by(repeat'(first|(with_reducible first|exact ak|apply au|apply ay|apply aA|apply aB)|(right;simp;done))))).mono ?_
  rintro e w2 ⟨rfl,hk⟩
  have hk2:=Kept.then (a:=w) (by(repeat'(first|(with_reducible first|exact ak|apply au|apply ay|apply aA|apply aB)|(right;simp;done)))) hk
  have aQ:=ah hk2;clear hk2 hk
  go_wp2
  go_ret2
  exact⟨rfl,aQ.out⟩
 have hr:nU ep l fl=bu (put ep.toNat++put l.length++l.flatMap uO++put fl.toNat):=by unfold nU;rw[if_pos hz];rfl
 rw[hr,hz]
 rw[hz]at vY
 obtain⟨⟨k1,k2⟩,_,k3,k4⟩:=kH hz
 have hid:=k4.id
 have aam:=k4.aV
 obtain⟨en,rfl⟩:∃en:Nat,ep=en:=⟨ep.toNat,by omega⟩
 obtain⟨fn,rfl⟩:∃fn:Nat,fl=fn:=⟨fl.toNat,by omega⟩
 rw[Int.toNat_natCast,Int.toNat_natCast]
 have hfn:fn<18446744073709551616:=by unfold aT at hfl;omega
 have F7:=ah (And.intro hid aam);clear hid aam k4 hz hr hfl
 have HB0:=ah (Has.new w 25 #[.int .i64 en,.slice A l.length c,.int .u64 fn])
 go_enter Tryz.func196,Tryz.ntmps196
 go_wp2_with fail
 refine(vY.out _ (by(repeat'(first|(with_reducible first|exact ak|apply au|apply ay|apply aA|apply aB)|(right;simp;done))))).mono ?_
 rintro e w2 ⟨rfl,hk⟩
 have hb2:=Has.kept (F:=aj) HB0.out hk (fun x=>x)
 have hk2:=Kept.then (a:=w) (by(repeat'(first|(with_reducible first|exact ak|apply au|apply ay|apply aA|apply aB)|(right;simp;done)))) hk
 have c0:w2.cell? ⟨w.heap.size,0,none⟩=some (.int .i64 en):=hb2.cell 0
 have c1:w2.cell? ⟨w.heap.size,1,none⟩=some (.slice A l.length c):=hb2.cell 1
 have HB2:=ah hb2;clear hb2
 have aQ:=ah hk2;clear hk2 hk
 have hN:∀n,(w2.drewN n).heap.size=w2.heap.size:=fun n=>rfl
 have hnew:∀W,Has W w.heap.size 25 #[.int .i64 en,.slice A l.length c,.int .u64 fn]->Calls Tryz.prog 194 #[] W fun e w'=>∃g,e=.returned (.pointer (some ⟨g,0,none⟩))/\WS W.heap.size w' g [] [(w.heap.size,25,#[.int .i64 en,.slice A l.length c,.int .u64 fn])]/\Kept aj W w':=
  fun W hW=>pP W _ (fun x hx=>by simp at hx;subst hx;exact hW)
 have fE:=ah hnew;clear hnew
 have hss:∀W,Has W w.heap.size 25 #[.int .i64 en,.slice A l.length c,.int .u64 fn]->(W.cell? ⟨w.heap.size,0,none⟩=some (.int .i64 en)/\W.cell? ⟨w.heap.size,1,none⟩=some (.slice A l.length c)):=fun W hW=>⟨hW.cell 0,hW.cell 1⟩
 have uj:=ah hss;clear hss
 have p1:=kX (n:=en) (by omega)
 have p2:=kX (n:=l.length) (by omega)
 have HP:=ah (And.intro p1 p2);clear p1 p2
 have HQ:=ah (And.intro k1 (And.intro k2 k3));clear k1 k2
 have HFN:=ah hfn;clear hfn
 go_wp2_with fail
 go_region_held3 (fun W=>W.cell? ⟨w.heap.size,0,none⟩=some (.int .i64 en)/\W.cell? ⟨w.heap.size,1,none⟩=some (.slice A l.length c)) (first|with_reducible exact q5|with_reducible exact q4|with_reducible exact q3|with_reducible exact⟨c0,c1⟩|(simp[go_sem,c0,c1];done))
  (first
   |(go_at_call 194;refine(fE.out _ (by exact HB2.out)).mono ?_;rintro e w3 ⟨g,rfl,hw3,Ag⟩;have q3:=uj.out _ (hw3.has (List.mem_singleton.2 rfl));have HW3:=ah hw3;have Ah:=ah Ag;clear hw3 Ag)
   |(have hx:=kC;clear hx;go_at_call 195;refine(fJ (by exact kC.out) l.length (by have:=HQ.out;omega) (by have:=HP.out;simp;omega)).mono ?_;rintro e w5 ⟨rfl,hw5,hb5⟩;have q5:=uj.out _ (hw5.has (List.mem_singleton.2 rfl));have dJ:=ah hw5;have iy:=ah hb5;clear hw5 hb5)
   |(have hx:=HW3;clear hx;go_at_call 195;refine(fJ (by exact HW3.out) en (by have:=HQ.out;omega) (by simp)).mono ?_;rintro e w4 ⟨rfl,hw4,hb4⟩;have q4:=uj.out _ (hw4.has (List.mem_singleton.2 rfl));have kC:=ah hw4;have HB4:=ah hb4;clear hw4 hb4))
 have hk3:Kept aj w w3:=Kept.then (by(repeat'(first|(with_reducible first|exact ak|apply au|apply ay|apply aA|apply aB)|(with_reducible exact aQ.out)|(right;simp;done)))) Ah.out
 have hle:w.heap.size<=w2.heap.size:=aQ.out.size
 have hk5:Kept aj w w5:=behind (behind hk3 HB4.out hle) iy.out hle
 have hw5:=dJ.out
 simp only[List.nil_append]at hw5
 clear q3 q4 HW3 kC dJ HB4 iy aQ Ah c0 c1 hk3 fE vY HB0 HB2
 obtain⟨hdr,qN⟩:∃hdr,put en++put l.length=hdr:=⟨_,rfl⟩
 rw[qN]at hw5
 have hdl:hdr.length<=18:=by
  rw[<-qN]
  have:=HP.out
  simp only[List.length_append]
  omega
 have hdp:hdr≠[]:=by
  rw[<-qN]
  have h1:=put_pos en
  intro e
  have:=congrArg List.length e
  simp only[List.length_append,List.length_nil]at this
  omega
 have Ai:=ah (And.intro qN (And.intro hdl hdp));clear qN hdl hdp HP
 have dJ:=ah hw5;clear hw5
 have cO:=ah hk5;clear hk5
 obtain⟨u0,u1⟩:=q5
 go_wp2
 go_loopw [24] (fun v24 wr=>∃i:Nat,i<=l.length/\v24=.int .i64 i/\WS w2.heap.size wr g (hdr++(l.take i).flatMap uO) [(w.heap.size,25,#[.int .i64 en,.slice A l.length c,.int .u64 fn])]/\Kept aj w wr) (fun v24 _=>l.length-(intOf v24).toNat)
 case atStart=>exact⟨0,Nat.zero_le _,rfl,by simpa using dJ.out,cO.out⟩
 case round=>
  obtain⟨i,hi,rfl,hws,hk⟩:=hrel
  have HK:=ah hk;clear hk
  by_cases hil:i<l.length
  ·obtain⟨m,hm⟩:∃m,l[i]? =some m:=⟨_,List.getElem?_eq_getElem hil⟩
   have uk:l[i]=m:=by rw[List.getElem?_eq_getElem hil]at hm;exact Option.some.inj hm
   obtain⟨ad,rfl,had,e0,e1⟩:=ig (HS.out.kept HK.out (fun _ _ x=>x)) (by omega) i m hm
   have hb1:=F7.out.1 m (List.mem_of_getElem? hm)
   have hb2:=F7.out.2 m (List.mem_of_getElem? hm)
   have gG:=oZ uO l i hil
   rw[uk]at gG
   have hfl:=lS uO (l.take (i+1)) 18 (fun y hy=>by
    have b1:=F7.out.1 y (List.mem_of_mem_take hy)
    have b2:=F7.out.2 y (List.mem_of_mem_take hy)
    have c1:=bn (n:=y.1.toNat) (by omega)
    have c2:=bn (n:=y.2.toNat) (by omega)
    unfold uO
    rw[List.length_append];omega)
   rw[gG,List.length_append]at hfl
   have hmin:(l.take (i+1)).length<=4:=by rw[List.length_take];omega
   have nP:(hdr++(l.take i).flatMap uO).length<=200:=by rw[List.length_append];have:=Ai.out.2.1;omega
   obtain⟨m1,m2⟩:=m
   dsimp only at hb1 hb2 e0 e1
   obtain⟨a,rfl⟩:∃a:Nat,m1=a:=⟨m1.toNat,by omega⟩
   obtain⟨b,rfl⟩:∃b:Nat,m2=b:=⟨m2.toNat,by omega⟩
   obtain⟨cur,hcur⟩:∃cur,hdr++(l.take i).flatMap uO=cur:=⟨_,rfl⟩
   rw[hcur]at hws nP
   have hnext:hdr++(l.take (i+1)).flatMap uO=(cur++put a)++put b:=by
    rw[gG,<-List.append_assoc,hcur]
    unfold uO
    simp only[List.append_assoc,Int.toNat_natCast]
   have nD:=ah hnext;clear hnext gG hfl hcur hmin hm uk
   have iW:=ah nP;clear nP
   have Nu:=ah (And.intro hb1 hb2);clear hb1 hb2
   have p1:=bn (n:=a) (by have:=Nu.out;omega)
   have Yg:=ah p1;clear p1
   have hw0:=hws.add 53 #[.int .i64 a,.int .i64 b]
   have HW0:=ah hw0;clear hw0 hws
   have hos:∀W bs,WS w2.heap.size W g bs [(wr.heap.size,53,#[.int .i64 a,.int .i64 b]),(w.heap.size,25,#[.int .i64 en,.slice (some ad) l.length c,.int .u64 fn])]->(W.cell? ⟨wr.heap.size,0,none⟩=some (.int .i64 a)/\W.cell? ⟨wr.heap.size,1,none⟩=some (.int .i64 b)):=
    fun W bs hW=>⟨(hW.has (List.mem_cons_self ..)).cell 0,(hW.has (List.mem_cons_self ..)).cell 1⟩
   have zJ:=ah hos;clear hos
   have r0:=zJ.out _ _ HW0.out
   go_wp2_with fail
   go_region_held3 (fun W=>W.cell? ⟨wr.heap.size,0,none⟩=some (.int .i64 a)/\W.cell? ⟨wr.heap.size,1,none⟩=some (.int .i64 b)) (first|with_reducible exact r2|with_reducible exact r1|with_reducible exact r0|(simp[go_sem,r0];done))
    (first
     |(have hx:=o8;clear hx;go_at_call 195;refine(fJ (by exact o8.out) b (by have:=Nu.out;omega) (by have:=iW.out;have:=Yg.out;simp;omega)).mono ?_;rintro e w4 ⟨rfl,hv2,hd2⟩;have r2:=zJ.out _ _ hv2;have qg:=ah hv2;have HD2:=ah hd2;clear hv2 hd2)
     |(go_at_call 195;refine(fJ (by exact HW0.out) a (by have:=Nu.out;omega) (by have:=iW.out;omega)).mono ?_;rintro e w3 ⟨rfl,hv1,hd1⟩;have r1:=zJ.out _ _ hv1;have o8:=ah hv1;have HD1:=ah hd1;clear hv1 hd1))
   have hkk:=behind (behind (w:=w) (by(repeat'(first|(with_reducible first|exact ak|apply au|apply ay|apply aA|apply aB)|(with_reducible exact HK.out)|(right;simp;done)))) HD1.out hle) HD2.out hle
   have HKK:=ah hkk;clear hkk HD1 HD2
   have hv:=qg.out.OI
   rw[<-nD.out]at hv
   have HV:=ah hv;clear hv
   go_wp2
   go_roundw
   case rel=>exact⟨i+1,by omega,by go_num,HV.out,HKK.out⟩
   case measure=>simp[intOf];omega
  ·obtain rfl:i=l.length:=by omega
   rw[List.take_length]at hws
   have hfl:=lS uO l 18 (fun y hy=>by
    have b1:=F7.out.1 y hy
    have b2:=F7.out.2 y hy
    have c1:=bn (n:=y.1.toNat) (by omega)
    have c2:=bn (n:=y.2.toNat) (by omega)
    unfold uO
    rw[List.length_append];omega)
   have nP:(hdr++l.flatMap uO).length<=200:=by rw[List.length_append];have:=Ai.out.2.1;omega
   have z2:wr.cell? ⟨w.heap.size,2,none⟩=some (.int .u64 fn):=(hws.has (List.mem_singleton.2 rfl)).cell 2
   have rF:=ah hws;have iW:=ah nP;clear hws nP hfl
   go_wp2_with fail
   refine(vk rF.out fn HFN.out (by have:=iW.out;omega)).mono ?_
   rintro e w5 ⟨rfl,hw5,hb5⟩
   have dJ:=ah hw5;have iy:=ah hb5;clear hw5 hb5 z2
   go_wp2_with fail
   refine(nC dJ.out (by have:=Ai.out.2.2;simp;intro h;exact absurd h this)).mono ?_
   rintro e w6 ⟨rfl,hb⟩
   have hkk:=behind (behind HK.out iy.out hle) hb hle
   have HKK:=ah hkk;clear hkk hb
   go_wp2
   go_ret2
   exact⟨by rw[<-Ai.out.1];simp only[List.append_assoc];rfl,HKK.out⟩
theorem I8(w:World)(y:kF)(hs:Src w 3 y.A y.ops.length (cells y.ops))(hts:0<=y.ts/\y.ts<=aT):
  Calls Tryz.prog 198 #[aak y] w fun e w'=>e=.returned (.tuple #[.string (lQ y),.int .i64 (Ops.chk (mV y))])/\Kept aj w w':=by
 have hput:=fun W (hW:Kept aj w W)=>I5 W (mV y) y.A y.c (hs.kept hW (fun _ _ x=>x))
 have hE:lQ y=if Ops.chk (mV y)=0 then bu (put y.ts.toNat++dD (vX (mV y)))else emp:=by
  unfold lQ VB vX
  by_cases h:Ops.chk (mV y)=0
  ·rw[if_pos h,if_pos h,if_pos h]
  ·rw[if_neg h,if_neg h]
 rw[hE]
 have hlen:(vX (mV y)).size<=103:=by have:=Dq (mV y);unfold zZ at this;unfold vX;exact this
 obtain⟨z,hz⟩:∃z,Ops.chk (mV y)=z:=⟨_,rfl⟩
 obtain⟨s,hs2⟩:∃s,vX (mV y)=s:=⟨_,rfl⟩
 rw[hz,hs2]at hput⊢
 rw[hs2]at hlen
 clear hE hz hs2 hs
 obtain⟨cl,req,A,c,ops,ts⟩:=y
 dsimp only[mV,Dp]at hput hts⊢
 obtain⟨tn,rfl⟩:∃tn:Nat,ts=tn:=⟨ts.toNat,by omega⟩
 have htn:tn<18446744073709551616:=by unfold aT at hts;omega
 rw[Int.toNat_natCast]
 have Du:=ah hput;have HTN:=ah htn;have jW:=ah hlen
 clear hput htn hts hlen
 have HB0:=ah (Has.new w 98 #[.int .i64 cl,.int .i64 req,.slice A ops.length c,.int .u64 tn])
 by_cases h0:z=0
 rotate_left
 ·rw[if_neg h0]
  have hz2:(z !=0)=true:=by simpa using h0
  clear h0
  go_enter Tryz.func198,Tryz.ntmps198
  go_wp2_with fail
  refine(Du.out _ (by(repeat'(first|(with_reducible first|exact ak|apply au|apply ay|apply aA|apply aB)|(right;simp;done))))).mono ?_
  rintro e w2 ⟨rfl,hk⟩
  have hk2:=Kept.then (a:=w) (by(repeat'(first|(with_reducible first|exact ak|apply au|apply ay|apply aA|apply aB)|(right;simp;done)))) hk
  have aQ:=ah hk2;clear hk2 hk
  go_wp2
  go_ret2
  exact⟨rfl,aQ.out⟩
 rw[if_pos h0]
 subst h0
 obtain⟨R,hR⟩:∃R,put tn++dD s=R:=⟨_,rfl⟩
 have hR0:R≠[]:=by
  rw[<-hR]
  have h1:=put_pos tn
  intro e
  have:=congrArg List.length e
  simp only[List.length_append,List.length_nil]at this
  omega
 rw[hR]
 have HR:=ah (And.intro hR hR0);clear hR hR0
 go_enter Tryz.func198,Tryz.ntmps198
 go_wp2_with fail
 refine(Du.out _ (by(repeat'(first|(with_reducible first|exact ak|apply au|apply ay|apply aA|apply aB)|(right;simp;done))))).mono ?_
 rintro e w2 ⟨rfl,hk⟩
 have hb2:=Has.kept (F:=aj) HB0.out hk (fun x=>x)
 have hk2:=Kept.then (a:=w) (by(repeat'(first|(with_reducible first|exact ak|apply au|apply ay|apply aA|apply aB)|(right;simp;done)))) hk
 have c0:w2.cell? ⟨w.heap.size,3,none⟩=some (.int .u64 tn):=hb2.cell 3
 have HB2:=ah hb2;clear hb2
 have aQ:=ah hk2;clear hk2 hk
 have hnew:∀W,Has W w.heap.size 98 #[.int .i64 cl,.int .i64 req,.slice A ops.length c,.int .u64 tn]->Calls Tryz.prog 194 #[] W fun e w'=>∃g,e=.returned (.pointer (some ⟨g,0,none⟩))/\WS W.heap.size w' g [] [(w.heap.size,98,#[.int .i64 cl,.int .i64 req,.slice A ops.length c,.int .u64 tn])]/\Kept aj W w':=
  fun W hW=>pP W _ (fun x hx=>by simp at hx;subst hx;exact hW)
 have fE:=ah hnew;clear hnew
 have hss:∀W,Has W w.heap.size 98 #[.int .i64 cl,.int .i64 req,.slice A ops.length c,.int .u64 tn]->(W.cell? ⟨w.heap.size,3,none⟩=some (.int .u64 tn)):=fun W hW=>hW.cell 3
 have uj:=ah hss;clear hss
 have wZ:=ah HB2.out.lt
 go_wp2_with fail
 go_region_held3 (fun W=>W.cell? ⟨w.heap.size,3,none⟩=some (.int .u64 tn)) (first|with_reducible exact q6|with_reducible exact q5|with_reducible exact q4|with_reducible exact q3|with_reducible exact c0|(simp[go_sem,c0];done))
  (first
   |(go_at_call 194;refine(fE.out _ (by exact HB2.out)).mono ?_;rintro e w3 ⟨g,rfl,hw3,Ag⟩;have q3:=uj.out _ (hw3.has (List.mem_singleton.2 rfl));have HW3:=ah hw3;have Ah:=ah Ag;clear hw3 Ag)
   |(go_at_call 199;refine(vk (by exact HW3.out) tn HTN.out (by simp)).mono ?_;rintro e w4 ⟨rfl,hw4,hb4⟩;have q4:=uj.out _ (hw4.has (List.mem_singleton.2 rfl));have kC:=ah hw4;have HB4:=ah hb4;clear hw4 hb4)
   |(go_at_call 197;refine(ny (by exact kC.out) s (by have:=bn (n:=tn) (by have:=HTN.out;omega);have:=jW.out;simp;omega)).mono ?_;rintro e w5 ⟨rfl,hw5,hb5⟩;have q5:=uj.out _ (hw5.has (List.mem_singleton.2 rfl));have dJ:=ah hw5;have iy:=ah hb5;clear hw5 hb5)
   |(go_at_call 200;refine(nC (by exact dJ.out) (by rw[List.nil_append,HR.out.1];exact HR.out.2)).mono ?_;rintro e w6 ⟨rfl,hb6⟩;have q6:w6.cell? ⟨w.heap.size,3,none⟩=some (.int .u64 tn):=(hb6.cell (p:=⟨w.heap.size,3,none⟩) (by exact wZ.out)).trans q5;have FY:=ah hb6;clear hb6))
 have hk3:Kept aj w w3:=Kept.then (by(repeat'(first|(with_reducible first|exact ak|apply au|apply ay|apply aA|apply aB)|(with_reducible exact aQ.out)|(right;simp;done)))) Ah.out
 have hle:w.heap.size<=w2.heap.size:=aQ.out.size
 have hk6:Kept aj w w6:=behind (behind (behind hk3 HB4.out hle) iy.out hle) FY.out hle
 have jV:=ah hk6
 clear q3 q4 q5 q6 HW3 kC dJ HB4 iy FY aQ Ah c0 hk3 fE Du HB0 HB2 hk6 wZ
 go_wp2
 go_ret2
 exact⟨by rw[<-HR.out.1];rfl,jV.out⟩
end gX
end Go.Proofs.YtolkgbafebehfaaGreat
