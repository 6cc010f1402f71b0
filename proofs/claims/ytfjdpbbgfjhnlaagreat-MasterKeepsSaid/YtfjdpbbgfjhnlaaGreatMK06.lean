/- Part 7 of what the proof needs. -/
import Derived.Test.YtfjdpbbgfjhnlaaGreatMK05
set_option linter.unusedSimpArgs false
set_option linter.unusedVariables false
set_option maxHeartbeats 32000000
set_option maxRecDepth 100000
namespace Go.Proofs.YtfjdpbbgfjhnlaaGreat
open Go.RowKit Go.Shelf
set_option maxRecDepth 100000
namespace gZ
open aO Ops xE Vn mP
def xw(m:Mem):List UInt8:=put m.1.toNat++put m.2.toNat
theorem NS(w:World)(ep fl:Int)(A:Option Addr)(c:Nat)(l:List Mem)(hs:Src w 2 A l.length (aP l))(hlc:l.length<=c)(hlen:l.length<=1000)(hfl:0<=fl/\fl<=aT):
  Calls Tryz.prog 119 #[lq ep A l.length c fl] w fun e w'=>e=.returned (.tuple #[.string (ku ep l fl),.int .i64 (aO.chk ep l)])/\Kept aj w w':=by
 have eu:=fun W (hW:Kept aj w W)=>Mst.rE W ep fl A c l (hs.kept hW (fun _ _ x=>x)) hlc (by omega)
 have yB:=ah eu;clear eu
 have HS:=ah hs;clear hs
 by_cases hz:aO.chk ep l=0
 rotate_left
 ·have hr:ku ep l fl=emp:=by unfold ku;rw[if_neg hz]
  rw[hr]
  obtain⟨x,hx⟩:∃x,aO.chk ep l=x:=⟨_,rfl⟩
  rw[hx]at hz yB⊢
  have hz2:(x !=0)=true:=by simpa using hz
  clear hx hr hz
  go_enter Tryz.func119,Tryz.ntmps119
  go_wp2_with fail
  refine(yB.out _ (by(repeat'(first|(with_reducible first|exact ak|apply au|apply ay|apply aA|apply aB)|(right;simp;done))))).mono ?_
  rintro e w2 ⟨rfl,hk⟩
  have hk2:=Kept.then (a:=w) (by(repeat'(first|(with_reducible first|exact ak|apply au|apply ay|apply aA|apply aB)|(right;simp;done)))) hk
  have aW:=ah hk2;clear hk2 hk
  go_wp2
  go_ret2
  exact⟨rfl,aW.out⟩
 have hr:ku ep l fl=bG (put ep.toNat++put l.length++l.flatMap xw++put fl.toNat):=by unfold ku;rw[if_pos hz];rfl
 rw[hr,hz]
 rw[hz]at yB
 obtain⟨⟨k1,k2⟩,_,k3,k4⟩:=iT hz
 have hid:=k4.id
 have aeg:=k4.aU
 obtain⟨en,rfl⟩:∃en:Nat,ep=en:=⟨ep.toNat,by omega⟩
 obtain⟨fn,rfl⟩:∃fn:Nat,fl=fn:=⟨fl.toNat,by omega⟩
 rw[Int.toNat_natCast,Int.toNat_natCast]
 have hfn:fn<18446744073709551616:=by unfold aT at hfl;omega
 have Kw:=ah (And.intro hid aeg);clear hid aeg k4 hz hr hfl
 have HB0:=ah (Has.new w 25 #[.int .i64 en,.slice A l.length c,.int .u64 fn])
 go_enter Tryz.func119,Tryz.ntmps119
 go_wp2_with fail
 refine(yB.out _ (by(repeat'(first|(with_reducible first|exact ak|apply au|apply ay|apply aA|apply aB)|(right;simp;done))))).mono ?_
 rintro e w2 ⟨rfl,hk⟩
 have hb2:=Has.kept (F:=aj) HB0.out hk (fun x=>x)
 have hk2:=Kept.then (a:=w) (by(repeat'(first|(with_reducible first|exact ak|apply au|apply ay|apply aA|apply aB)|(right;simp;done)))) hk
 have c0:w2.cell? ⟨w.heap.size,0,none⟩=some (.int .i64 en):=hb2.cell 0
 have c1:w2.cell? ⟨w.heap.size,1,none⟩=some (.slice A l.length c):=hb2.cell 1
 have HB2:=ah hb2;clear hb2
 have aW:=ah hk2;clear hk2 hk
 have hN:∀n,(w2.drewN n).heap.size=w2.heap.size:=fun n=>rfl
 have hnew:∀W,Has W w.heap.size 25 #[.int .i64 en,.slice A l.length c,.int .u64 fn]->Calls Tryz.prog 117 #[] W fun e w'=>∃g,e=.returned (.pointer (some ⟨g,0,none⟩))/\WS W.heap.size w' g [] [(w.heap.size,25,#[.int .i64 en,.slice A l.length c,.int .u64 fn])]/\Kept aj W w':=
  fun W hW=>rF W _ (fun x hx=>by simp at hx;subst hx;exact hW)
 have fH:=ah hnew;clear hnew
 have hss:∀W,Has W w.heap.size 25 #[.int .i64 en,.slice A l.length c,.int .u64 fn]->(W.cell? ⟨w.heap.size,0,none⟩=some (.int .i64 en)/\W.cell? ⟨w.heap.size,1,none⟩=some (.slice A l.length c)):=fun W hW=>⟨hW.cell 0,hW.cell 1⟩
 have tV:=ah hss;clear hss
 have p1:=mD (n:=en) (by omega)
 have p2:=mD (n:=l.length) (by omega)
 have HP:=ah (And.intro p1 p2);clear p1 p2
 have HQ:=ah (And.intro k1 (And.intro k2 k3));clear k1 k2
 have HFN:=ah hfn;clear hfn
 go_wp2_with fail
 go_region_held3 (fun W=>W.cell? ⟨w.heap.size,0,none⟩=some (.int .i64 en)/\W.cell? ⟨w.heap.size,1,none⟩=some (.slice A l.length c)) (first|with_reducible exact q5|with_reducible exact q4|with_reducible exact q3|with_reducible exact⟨c0,c1⟩|(simp[go_sem,c0,c1];done))
  (first
   |(go_at_call 117;refine(fH.out _ (by exact HB2.out)).mono ?_;rintro e w3 ⟨g,rfl,hw3,D5⟩;have q3:=tV.out _ (hw3.has (List.mem_singleton.2 rfl));have HW3:=ah hw3;have D6:=ah D5;clear hw3 D5)
   |(have hx:=kC;clear hx;go_at_call 118;refine(gX (by exact kC.out) l.length (by have:=HQ.out;omega) (by have:=HP.out;simp;omega)).mono ?_;rintro e w5 ⟨rfl,hw5,hb5⟩;have q5:=tV.out _ (hw5.has (List.mem_singleton.2 rfl));have dS:=ah hw5;have jf:=ah hb5;clear hw5 hb5)
   |(have hx:=HW3;clear hx;go_at_call 118;refine(gX (by exact HW3.out) en (by have:=HQ.out;omega) (by simp)).mono ?_;rintro e w4 ⟨rfl,hw4,hb4⟩;have q4:=tV.out _ (hw4.has (List.mem_singleton.2 rfl));have kC:=ah hw4;have HB4:=ah hb4;clear hw4 hb4))
 have hk3:Kept aj w w3:=Kept.then (by(repeat'(first|(with_reducible first|exact ak|apply au|apply ay|apply aA|apply aB)|(with_reducible exact aW.out)|(right;simp;done)))) D6.out
 have hle:w.heap.size<=w2.heap.size:=aW.out.size
 have hk5:Kept aj w w5:=behind (behind hk3 HB4.out hle) jf.out hle
 have hw5:=dS.out
 simp only[List.nil_append]at hw5
 clear q3 q4 HW3 kC dS HB4 jf aW D6 c0 c1 hk3 fH yB HB0 HB2
 obtain⟨hdr,sZ⟩:∃hdr,put en++put l.length=hdr:=⟨_,rfl⟩
 rw[sZ]at hw5
 have hdl:hdr.length<=18:=by
  rw[<-sZ]
  have:=HP.out
  simp only[List.length_append]
  omega
 have hdp:hdr≠[]:=by
  rw[<-sZ]
  have h1:=put_pos en
  intro e
  have:=congrArg List.length e
  simp only[List.length_append,List.length_nil]at this
  omega
 have D8:=ah (And.intro sZ (And.intro hdl hdp));clear sZ hdl hdp HP
 have dS:=ah hw5;clear hw5
 have cO:=ah hk5;clear hk5
 obtain⟨u0,u1⟩:=q5
 go_wp2
 go_loopw [24] (fun v24 wr=>∃i:Nat,i<=l.length/\v24=.int .i64 i/\WS w2.heap.size wr g (hdr++(l.take i).flatMap xw) [(w.heap.size,25,#[.int .i64 en,.slice A l.length c,.int .u64 fn])]/\Kept aj w wr) (fun v24 _=>l.length-(intOf v24).toNat)
 case atStart=>exact⟨0,Nat.zero_le _,rfl,by simpa using dS.out,cO.out⟩
 case round=>
  obtain⟨i,hi,rfl,hws,hk⟩:=hrel
  have HK:=ah hk;clear hk
  by_cases hil:i<l.length
  ·obtain⟨m,hm⟩:∃m,l[i]? =some m:=⟨_,List.getElem?_eq_getElem hil⟩
   have uD:l[i]=m:=by rw[List.getElem?_eq_getElem hil]at hm;exact Option.some.inj hm
   obtain⟨ad,rfl,had,e0,e1⟩:=iH (HS.out.kept HK.out (fun _ _ x=>x)) (by omega) i m hm
   have hb1:=Kw.out.1 m (List.mem_of_getElem? hm)
   have hb2:=Kw.out.2 m (List.mem_of_getElem? hm)
   have iF:=qP xw l i hil
   rw[uD]at iF
   have hfl:=nR xw (l.take (i+1)) 18 (fun y hy=>by
    have b1:=Kw.out.1 y (List.mem_of_mem_take hy)
    have b2:=Kw.out.2 y (List.mem_of_mem_take hy)
    have c1:=bH (n:=y.1.toNat) (by omega)
    have c2:=bH (n:=y.2.toNat) (by omega)
    unfold xw
    rw[List.length_append];omega)
   rw[iF,List.length_append]at hfl
   have hmin:(l.take (i+1)).length<=4:=by rw[List.length_take];omega
   have pW:(hdr++(l.take i).flatMap xw).length<=200:=by rw[List.length_append];have:=D8.out.2.1;omega
   obtain⟨m1,m2⟩:=m
   dsimp only at hb1 hb2 e0 e1
   obtain⟨a,rfl⟩:∃a:Nat,m1=a:=⟨m1.toNat,by omega⟩
   obtain⟨b,rfl⟩:∃b:Nat,m2=b:=⟨m2.toNat,by omega⟩
   obtain⟨cur,hcur⟩:∃cur,hdr++(l.take i).flatMap xw=cur:=⟨_,rfl⟩
   rw[hcur]at hws pW
   have hnext:hdr++(l.take (i+1)).flatMap xw=(cur++put a)++put b:=by
    rw[iF,<-List.append_assoc,hcur]
    unfold xw
    simp only[List.append_assoc,Int.toNat_natCast]
   have nV:=ah hnext;clear hnext iF hfl hcur hmin hm uD
   have jy:=ah pW;clear pW
   have xG:=ah (And.intro hb1 hb2);clear hb1 hb2
   have p1:=bH (n:=a) (by have:=xG.out;omega)
   have HPT:=ah p1;clear p1
   have hw0:=hws.add 65 #[.int .i64 a,.int .i64 b]
   have HW0:=ah hw0;clear hw0 hws
   have hos:∀W bs,WS w2.heap.size W g bs [(wr.heap.size,65,#[.int .i64 a,.int .i64 b]),(w.heap.size,25,#[.int .i64 en,.slice (some ad) l.length c,.int .u64 fn])]->(W.cell? ⟨wr.heap.size,0,none⟩=some (.int .i64 a)/\W.cell? ⟨wr.heap.size,1,none⟩=some (.int .i64 b)):=
    fun W bs hW=>⟨(hW.has (List.mem_cons_self ..)).cell 0,(hW.has (List.mem_cons_self ..)).cell 1⟩
   have Dq:=ah hos;clear hos
   have r0:=Dq.out _ _ HW0.out
   go_wp2_with fail
   go_region_held3 (fun W=>W.cell? ⟨wr.heap.size,0,none⟩=some (.int .i64 a)/\W.cell? ⟨wr.heap.size,1,none⟩=some (.int .i64 b)) (first|with_reducible exact r2|with_reducible exact r1|with_reducible exact r0|(simp[go_sem,r0];done))
    (first
     |(have hx:=qQ;clear hx;go_at_call 118;refine(gX (by exact qQ.out) b (by have:=xG.out;omega) (by have:=jy.out;have:=HPT.out;simp;omega)).mono ?_;rintro e w4 ⟨rfl,hv2,hd2⟩;have r2:=Dq.out _ _ hv2;have rW:=ah hv2;have HD2:=ah hd2;clear hv2 hd2)
     |(go_at_call 118;refine(gX (by exact HW0.out) a (by have:=xG.out;omega) (by have:=jy.out;omega)).mono ?_;rintro e w3 ⟨rfl,hv1,hd1⟩;have r1:=Dq.out _ _ hv1;have qQ:=ah hv1;have HD1:=ah hd1;clear hv1 hd1))
   have hkk:=behind (behind (w:=w) (by(repeat'(first|(with_reducible first|exact ak|apply au|apply ay|apply aA|apply aB)|(with_reducible exact HK.out)|(right;simp;done)))) HD1.out hle) HD2.out hle
   have HKK:=ah hkk;clear hkk HD1 HD2
   have hv:=rW.out.Ub
   rw[<-nV.out]at hv
   have HV:=ah hv;clear hv
   go_wp2
   go_roundw
   case rel=>exact⟨i+1,by omega,by go_num,HV.out,HKK.out⟩
   case measure=>simp[intOf];omega
  ·obtain rfl:i=l.length:=by omega
   rw[List.take_length]at hws
   have hfl:=nR xw l 18 (fun y hy=>by
    have b1:=Kw.out.1 y hy
    have b2:=Kw.out.2 y hy
    have c1:=bH (n:=y.1.toNat) (by omega)
    have c2:=bH (n:=y.2.toNat) (by omega)
    unfold xw
    rw[List.length_append];omega)
   have pW:(hdr++l.flatMap xw).length<=200:=by rw[List.length_append];have:=D8.out.2.1;omega
   have z2:wr.cell? ⟨w.heap.size,2,none⟩=some (.int .u64 fn):=(hws.has (List.mem_singleton.2 rfl)).cell 2
   have uz:=ah hws;have jy:=ah pW;clear hws pW hfl
   go_wp2_with fail
   refine(xO uz.out fn HFN.out (by have:=jy.out;omega)).mono ?_
   rintro e w5 ⟨rfl,hw5,hb5⟩
   have dS:=ah hw5;have jf:=ah hb5;clear hw5 hb5 z2
   go_wp2_with fail
   refine(pF dS.out (by have:=D8.out.2.2;simp;intro h;exact absurd h this)).mono ?_
   rintro e w6 ⟨rfl,hb⟩
   have hkk:=behind (behind HK.out jf.out hle) hb hle
   have HKK:=ah hkk;clear hkk hb
   go_wp2
   go_ret2
   exact⟨by rw[<-D8.out.1];simp only[List.append_assoc];rfl,HKK.out⟩
theorem NT(w:World)(y:kZ)(hs:Src w 3 y.A y.ops.length (cells y.ops))(hts:0<=y.ts/\y.ts<=aT):
  Calls Tryz.prog 121 #[aee y] w fun e w'=>e=.returned (.tuple #[.string (nM y),.int .i64 (Ops.chk (oK y))])/\Kept aj w w':=by
 have hput:=fun W (hW:Kept aj w W)=>NR W (oK y) y.A y.c (hs.kept hW (fun _ _ x=>x))
 have hE:nM y=if Ops.chk (oK y)=0 then bG (put y.ts.toNat++dK (yA (oK y)))else emp:=by
  unfold nM aac yA
  by_cases h:Ops.chk (oK y)=0
  ·rw[if_pos h,if_pos h,if_pos h]
  ·rw[if_neg h,if_neg h]
 rw[hE]
 have hlen:(yA (oK y)).size<=103:=by have:=Gx (oK y);unfold DX at this;unfold yA;exact this
 obtain⟨z,hz⟩:∃z,Ops.chk (oK y)=z:=⟨_,rfl⟩
 obtain⟨s,hs2⟩:∃s,yA (oK y)=s:=⟨_,rfl⟩
 rw[hz,hs2]at hput⊢
 rw[hs2]at hlen
 clear hE hz hs2 hs
 obtain⟨cl,req,A,c,ops,ts⟩:=y
 dsimp only[oK,Gw]at hput hts⊢
 obtain⟨tn,rfl⟩:∃tn:Nat,ts=tn:=⟨ts.toNat,by omega⟩
 have htn:tn<18446744073709551616:=by unfold aT at hts;omega
 rw[Int.toNat_natCast]
 have Gz:=ah hput;have HTN:=ah htn;have kQ:=ah hlen
 clear hput htn hts hlen
 have HB0:=ah (Has.new w 81 #[.int .i64 cl,.int .i64 req,.slice A ops.length c,.int .u64 tn])
 by_cases h0:z=0
 rotate_left
 ·rw[if_neg h0]
  have hz2:(z !=0)=true:=by simpa using h0
  clear h0
  go_enter Tryz.func121,Tryz.ntmps121
  go_wp2_with fail
  refine(Gz.out _ (by(repeat'(first|(with_reducible first|exact ak|apply au|apply ay|apply aA|apply aB)|(right;simp;done))))).mono ?_
  rintro e w2 ⟨rfl,hk⟩
  have hk2:=Kept.then (a:=w) (by(repeat'(first|(with_reducible first|exact ak|apply au|apply ay|apply aA|apply aB)|(right;simp;done)))) hk
  have aW:=ah hk2;clear hk2 hk
  go_wp2
  go_ret2
  exact⟨rfl,aW.out⟩
 rw[if_pos h0]
 subst h0
 obtain⟨R,hR⟩:∃R,put tn++dK s=R:=⟨_,rfl⟩
 have hR0:R≠[]:=by
  rw[<-hR]
  have h1:=put_pos tn
  intro e
  have:=congrArg List.length e
  simp only[List.length_append,List.length_nil]at this
  omega
 rw[hR]
 have HR:=ah (And.intro hR hR0);clear hR hR0
 go_enter Tryz.func121,Tryz.ntmps121
 go_wp2_with fail
 refine(Gz.out _ (by(repeat'(first|(with_reducible first|exact ak|apply au|apply ay|apply aA|apply aB)|(right;simp;done))))).mono ?_
 rintro e w2 ⟨rfl,hk⟩
 have hb2:=Has.kept (F:=aj) HB0.out hk (fun x=>x)
 have hk2:=Kept.then (a:=w) (by(repeat'(first|(with_reducible first|exact ak|apply au|apply ay|apply aA|apply aB)|(right;simp;done)))) hk
 have c0:w2.cell? ⟨w.heap.size,3,none⟩=some (.int .u64 tn):=hb2.cell 3
 have HB2:=ah hb2;clear hb2
 have aW:=ah hk2;clear hk2 hk
 have hnew:∀W,Has W w.heap.size 81 #[.int .i64 cl,.int .i64 req,.slice A ops.length c,.int .u64 tn]->Calls Tryz.prog 117 #[] W fun e w'=>∃g,e=.returned (.pointer (some ⟨g,0,none⟩))/\WS W.heap.size w' g [] [(w.heap.size,81,#[.int .i64 cl,.int .i64 req,.slice A ops.length c,.int .u64 tn])]/\Kept aj W w':=
  fun W hW=>rF W _ (fun x hx=>by simp at hx;subst hx;exact hW)
 have fH:=ah hnew;clear hnew
 have hss:∀W,Has W w.heap.size 81 #[.int .i64 cl,.int .i64 req,.slice A ops.length c,.int .u64 tn]->(W.cell? ⟨w.heap.size,3,none⟩=some (.int .u64 tn)):=fun W hW=>hW.cell 3
 have tV:=ah hss;clear hss
 have uY:=ah HB2.out.lt
 go_wp2_with fail
 go_region_held3 (fun W=>W.cell? ⟨w.heap.size,3,none⟩=some (.int .u64 tn)) (first|with_reducible exact q6|with_reducible exact q5|with_reducible exact q4|with_reducible exact q3|with_reducible exact c0|(simp[go_sem,c0];done))
  (first
   |(go_at_call 117;refine(fH.out _ (by exact HB2.out)).mono ?_;rintro e w3 ⟨g,rfl,hw3,D5⟩;have q3:=tV.out _ (hw3.has (List.mem_singleton.2 rfl));have HW3:=ah hw3;have D6:=ah D5;clear hw3 D5)
   |(go_at_call 122;refine(xO (by exact HW3.out) tn HTN.out (by simp)).mono ?_;rintro e w4 ⟨rfl,hw4,hb4⟩;have q4:=tV.out _ (hw4.has (List.mem_singleton.2 rfl));have kC:=ah hw4;have HB4:=ah hb4;clear hw4 hb4)
   |(go_at_call 120;refine(pz (by exact kC.out) s (by have:=bH (n:=tn) (by have:=HTN.out;omega);have:=kQ.out;simp;omega)).mono ?_;rintro e w5 ⟨rfl,hw5,hb5⟩;have q5:=tV.out _ (hw5.has (List.mem_singleton.2 rfl));have dS:=ah hw5;have jf:=ah hb5;clear hw5 hb5)
   |(go_at_call 123;refine(pF (by exact dS.out) (by rw[List.nil_append,HR.out.1];exact HR.out.2)).mono ?_;rintro e w6 ⟨rfl,hb6⟩;have q6:w6.cell? ⟨w.heap.size,3,none⟩=some (.int .u64 tn):=(hb6.cell (p:=⟨w.heap.size,3,none⟩) (by exact uY.out)).trans q5;have D7:=ah hb6;clear hb6))
 have hk3:Kept aj w w3:=Kept.then (by(repeat'(first|(with_reducible first|exact ak|apply au|apply ay|apply aA|apply aB)|(with_reducible exact aW.out)|(right;simp;done)))) D6.out
 have hle:w.heap.size<=w2.heap.size:=aW.out.size
 have hk6:Kept aj w w6:=behind (behind (behind hk3 HB4.out hle) jf.out hle) D7.out hle
 have jY:=ah hk6
 clear q3 q4 q5 q6 HW3 kC dS HB4 jf D7 aW D6 c0 hk3 fH Gz HB0 HB2 hk6 uY
 go_wp2
 go_ret2
 exact⟨by rw[<-HR.out.1];rfl,jY.out⟩
end gZ
end Go.Proofs.YtfjdpbbgfjhnlaaGreat
