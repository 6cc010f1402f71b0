/- Part 25. -/
import Derived.Test.YtgbigpdiacjbgaaGreatCZ23
set_option linter.unusedSimpArgs false
set_option linter.unusedVariables false
set_option maxHeartbeats 32000000
set_option maxRecDepth 100000
namespace Go.Proofs.YtgbigpdiacjbgaaGreat
open Go.RowKit
namespace Ask
open aJ Ops dG bQ MO Vn
def fG(cl rq:Int)(B:Option Addr)(bc:Nat)(bo:List aS)(a:bF):List Value:=[.int .i64 cl,.int .i64 rq,.slice B bo.length bc]++aQ a
section
variable{w w':World}
theorem Ai(w:World)(s:ByteArray):Calls Tryz.prog 86 #[.string s] w fun e w'=>e=.returned (.int .i64 (keyE s))/\w=w':=kD s w
theorem jX(w:World)(cl rq:Int)(B:Option Addr)(bc:Nat)(bo:List aS)(a:bF)(hb:Src w 3 B bo.length (cells bo))(hka:a.key.size<=maxLen/\a.to.size<=maxLen):
  Calls Tryz.prog 51 #[.agg (fG cl rq B bc bo a).toArray] w fun e w'=>e=.returned (.bool (eG cl rq bo a))/\Kept aj w w':=by
 obtain⟨W0,hW0⟩:∃W0,w.alloc (.cells (fG cl rq B bc bo a).toArray 103)=W0:=⟨_,rfl⟩;have hk0:Kept aj w W0:=by rw[<-hW0];(repeat'(first|(with_reducible first|exact ay|apply aA|apply aB|apply aC|apply aF)|(right;simp;done)))
 have hn0:Has W0 w.heap.size 103 (fG cl rq B bc bo a).toArray:=by rw[<-hW0];exact Has.new _ _ _
 obtain⟨W1,hW1⟩:∃W1,W0.alloc (.cells (aQ a).toArray 25)=W1:=⟨_,rfl⟩;have hk1:Kept aj W0 W1:=by rw[<-hW1];(repeat'(first|(with_reducible first|exact ay|apply aA|apply aB|apply aC|apply aF)|(right;simp;done)))
 have hn1:Has W1 W0.heap.size 25 (aQ a).toArray:=by rw[<-hW1];exact Has.new _ _ _
 have uI:=hn0.kept hk1 (fun z=>z);have c3:W0.cell? ⟨w.heap.size,3,none⟩=some (.int .i64 a.k):=hn0.cell 3;have c4:W0.cell? ⟨w.heap.size,4,none⟩=some (.int .i64 a.nd):=hn0.cell 4;have c5:W0.cell? ⟨w.heap.size,5,none⟩=some (.string a.key):=hn0.cell 5;have c6:W0.cell? ⟨w.heap.size,6,none⟩=some (.string a.to):=hn0.cell 6;have c7:W0.cell? ⟨w.heap.size,7,none⟩=some (.int .u64 a.at'):=hn0.cell 7;have c8:W0.cell? ⟨w.heap.size,8,none⟩=some (.int .i64 a.n):=hn0.cell 8;have c9:W0.cell? ⟨w.heap.size,9,none⟩=some (.slice a.A a.ops.length a.c):=hn0.cell 9;have q0:W1.cell? ⟨W0.heap.size,0,none⟩=some (.int .i64 a.k):=hn1.cell 0;have q1:W1.cell? ⟨W0.heap.size,1,none⟩=some (.int .i64 a.nd):=hn1.cell 1;have q2:W1.cell? ⟨W0.heap.size,2,none⟩=some (.string a.key):=hn1.cell 2;have q3:W1.cell? ⟨W0.heap.size,3,none⟩=some (.string a.to):=hn1.cell 3;have q5:W1.cell? ⟨W0.heap.size,5,none⟩=some (.int .i64 a.n):=hn1.cell 5;have d0:W1.cell? ⟨w.heap.size,0,none⟩=some (.int .i64 cl):=uI.cell 0;have d1:W1.cell? ⟨w.heap.size,1,none⟩=some (.int .i64 rq):=uI.cell 1;have d2:W1.cell? ⟨w.heap.size,2,none⟩=some (.slice B bo.length bc):=uI.cell 2;have fJ:=iY W1 ⟨cl,rq,bo⟩ B bc (hb.kept (hk0.then hk1) (fun _ _ z=>z));have hrep:=fun W=>rM W a.nd;have hkey:=fun W=>Ai W a.key;obtain⟨vr,BM⟩:∃vr,decide (0<=a.nd/\a.nd<4)=vr:=⟨_,rfl⟩;simp only[BM]at hrep;obtain⟨vk,hvk⟩:∃vk,keyE a.key=vk:=⟨_,rfl⟩;simp only[hvk]at hkey;have hl5:a.key.size<=9223372036854775807:=by have:=hka.1;unfold maxLen at this;omega
 have GG:a.to.size<=9223372036854775807:=by have:=hka.2;unfold maxLen at this;omega
 have HK:=ah (hk0.then hk1);have gK:=ah fJ;have jJ:=ah hrep;have BN:=ah hkey;have hmay:eG cl rq bo a=if a.k=0 then decide (Ops.chk ⟨cl,rq,bo⟩=0)else if a.k=1\/a.k=3 then vr&&decide (vk=0)else if a.k=2 then vr&&(decide (a.key.size<=8)&&(decide (a.to.size<=8)&&(decide (1<=a.n)&&decide (a.n<=32))))else if a.k=5\/a.k=6 then decide (0<=a.n)&&decide (a.n<=1073741824)else decide (a.k=4):=by unfold eG;rw[BM,hvk]
 obtain⟨v,hv⟩:∃v,eG cl rq bo a=v:=⟨_,rfl⟩;rw[hv]at hmay⊢;have lQ:=ah hmay;unfold fG aQ at hW0;unfold aQ at hW1;simp only[List.cons_append,List.nil_append]at hW0;unfold fG aQ;simp only[List.cons_append,List.nil_append];clear hk0 hn0 hk1 hn1 uI fJ hrep hkey BM hvk hb hka hmay hv;by_cases hk:a.k=0
 ·have b0:(a.k==0)=true:=by simpa using hk
  have hv:v=decide (Ops.chk ⟨cl,rq,bo⟩=0):=by rw[lQ.out,hk];simp
  have HV:=ah hv;clear hv hk;obtain⟨z,hz⟩:∃z,Ops.chk ⟨cl,rq,bo⟩=z:=⟨_,rfl⟩;rw[hz]at gK HV;clear hz;have bz:(z==0)=decide (z=0):=by rw[Bool.eq_iff_iff];simp
  obtain⟨y,hy⟩:∃y,decide (z=0)=y:=⟨_,rfl⟩;rw[hy]at bz HV;clear hy;go_enter Tryz.func51,Tryz.ntmps51;go_wp2_with fail;refine gK.out.mono ?_;rintro e w3 ⟨rfl,hk3⟩;have bf:=ah hk3;clear hk3;go_wp2;go_ret;exact⟨by rw[HV.out];rfl,HK.out.then bf.out⟩
 have H0:=ah hk;clear hk;by_cases hk:a.k=1
 ·have b0:(a.k==0)=false:=by simp[hk]
  have b1:(a.k==1)=true:=by simpa using hk
  have hv:v=(vr&&decide (vk=0)):=by rw[lQ.out,hk];simp
  have HV:=ah hv;clear hv hk;have bz:(vk==0)=decide (vk=0):=by rw[Bool.eq_iff_iff];simp
  obtain⟨y,hy⟩:∃y,decide (vk=0)=y:=⟨_,rfl⟩;rw[hy]at bz HV;clear hy;cases vr
  ·go_enter Tryz.func51,Tryz.ntmps51;go_wp2_with fail;refine(jJ.out _).mono ?_;rintro e w3 ⟨rfl,rfl⟩;go_wp2;go_ret;exact⟨by rw[HV.out];rfl,HK.out⟩
  ·go_enter Tryz.func51,Tryz.ntmps51;go_wp2_with fail;refine(jJ.out _).mono ?_;rintro e w3 ⟨rfl,rfl⟩;go_wp2_with fail;refine(BN.out _).mono ?_;rintro e w4 ⟨rfl,rfl⟩;go_wp2;go_ret;exact⟨by rw[HV.out];simp,HK.out⟩
 have H1:=ah hk;clear hk;by_cases hk:a.k=3
 ·have b0:(a.k==0)=false:=by simp[hk]
  have b1:(a.k==1)=false:=by simp[hk]
  have b3:(a.k==3)=true:=by simpa using hk
  have hv:v=(vr&&decide (vk=0)):=by rw[lQ.out,hk];simp
  have HV:=ah hv;clear hv hk;have bz:(vk==0)=decide (vk=0):=by rw[Bool.eq_iff_iff];simp
  obtain⟨y,hy⟩:∃y,decide (vk=0)=y:=⟨_,rfl⟩;rw[hy]at bz HV;clear hy;cases vr
  ·go_enter Tryz.func51,Tryz.ntmps51;go_wp2_with fail;refine(jJ.out _).mono ?_;rintro e w3 ⟨rfl,rfl⟩;go_wp2;go_ret;exact⟨by rw[HV.out];rfl,HK.out⟩
  ·go_enter Tryz.func51,Tryz.ntmps51;go_wp2_with fail;refine(jJ.out _).mono ?_;rintro e w3 ⟨rfl,rfl⟩;go_wp2_with fail;refine(BN.out _).mono ?_;rintro e w4 ⟨rfl,rfl⟩;go_wp2;go_ret;exact⟨by rw[HV.out];simp,HK.out⟩
 have H3:=ah hk;clear hk;by_cases hk:a.k=2
 ·have b0:(a.k==0)=false:=by simp[hk]
  have b1:(a.k==1)=false:=by simp[hk]
  have b3:(a.k==3)=false:=by simp[hk]
  have b2:(a.k==2)=true:=by simpa using hk
  have hv:v=(vr&&(decide (a.key.size<=8)&&(decide (a.to.size<=8)&&(decide (1<=a.n)&&decide (a.n<=32))))):=by rw[lQ.out,hk];simp
  have HV:=ah hv;clear hv hk;cases vr
  ·go_enter Tryz.func51,Tryz.ntmps51;go_wp2_with fail;refine(jJ.out _).mono ?_;rintro e w3 ⟨rfl,rfl⟩;go_wp2;go_ret;exact⟨by rw[HV.out];rfl,HK.out⟩
  by_cases g1:a.key.size<=8;rotate_left
  ·have G:=ah g1;have G2:¬((a.key.size:Nat):Int)<=8:=by omega
   go_enter Tryz.func51,Tryz.ntmps51;go_wp2_with fail;refine(jJ.out _).mono ?_;rintro e w3 ⟨rfl,rfl⟩;go_wp2;go_ret;exact⟨by rw[HV.out];rw[decide_eq_false (show¬(a.key.size<=8) by have:=G.out;omega)];simp,HK.out⟩
  have wV:=ah g1;have GH:((a.key.size:Nat):Int)<=8:=by omega
  by_cases g2:a.to.size<=8;rotate_left
  ·have G:=ah g2;have G2:¬((a.to.size:Nat):Int)<=8:=by omega
   go_enter Tryz.func51,Tryz.ntmps51;go_wp2_with fail;refine(jJ.out _).mono ?_;rintro e w3 ⟨rfl,rfl⟩;go_wp2;go_ret;exact⟨by rw[HV.out];rw[decide_eq_false (show¬(a.to.size<=8) by have:=G.out;omega)];simp,HK.out⟩
  have wW:=ah g2;have GI:((a.to.size:Nat):Int)<=8:=by omega
  by_cases g3:1<=a.n;rotate_left
  ·have G:=ah g3;go_enter Tryz.func51,Tryz.ntmps51;go_wp2_with fail;refine(jJ.out _).mono ?_;rintro e w3 ⟨rfl,rfl⟩;go_wp2;go_ret;exact⟨by rw[HV.out];rw[decide_eq_false (show¬(1<=a.n) by have:=G.out;omega)];simp,HK.out⟩
  have Fv:=ah g3;by_cases g4:a.n<=32;rotate_left
  ·have G:=ah g4;go_enter Tryz.func51,Tryz.ntmps51;go_wp2_with fail;refine(jJ.out _).mono ?_;rintro e w3 ⟨rfl,rfl⟩;go_wp2;go_ret;exact⟨by rw[HV.out];rw[decide_eq_false (show¬(a.n<=32) by have:=G.out;omega)];simp,HK.out⟩
  have Fz:=ah g4;go_enter Tryz.func51,Tryz.ntmps51;go_wp2_with fail;refine(jJ.out _).mono ?_;rintro e w3 ⟨rfl,rfl⟩;go_wp2;go_ret;exact⟨by rw[HV.out];rw[decide_eq_true wV.out,decide_eq_true wW.out,decide_eq_true Fv.out,decide_eq_true Fz.out];rfl,HK.out⟩
 have H2:=ah hk;clear hk;by_cases hk:a.k=5
 ·have b0:(a.k==0)=false:=by simp[hk]
  have b1:(a.k==1)=false:=by simp[hk]
  have b3:(a.k==3)=false:=by simp[hk]
  have b2:(a.k==2)=false:=by simp[hk]
  have b5:(a.k==5)=true:=by simpa using hk
  have hv:v=(decide (0<=a.n)&&decide (a.n<=1073741824)):=by rw[lQ.out,hk];simp
  have HV:=ah hv;clear hv hk;by_cases g1:0<=a.n;rotate_left
  ·have G:=ah g1;go_enter Tryz.func51,Tryz.ntmps51;go_wp2;go_ret;exact⟨by rw[HV.out];rw[decide_eq_false (show¬(0<=a.n) by have:=G.out;omega)];rfl,HK.out⟩
  have wV:=ah g1;by_cases g2:a.n<=1073741824;rotate_left
  ·have G:=ah g2;go_enter Tryz.func51,Tryz.ntmps51;go_wp2;go_ret;exact⟨by rw[HV.out];rw[decide_eq_false (show¬(a.n<=1073741824) by have:=G.out;omega)];simp,HK.out⟩
  have wW:=ah g2;go_enter Tryz.func51,Tryz.ntmps51;go_wp2;go_ret;exact⟨by rw[HV.out];rw[decide_eq_true wV.out,decide_eq_true wW.out];rfl,HK.out⟩
 have H5:=ah hk;clear hk;by_cases hk:a.k=6
 ·have b0:(a.k==0)=false:=by simp[hk]
  have b1:(a.k==1)=false:=by simp[hk]
  have b3:(a.k==3)=false:=by simp[hk]
  have b2:(a.k==2)=false:=by simp[hk]
  have b5:(a.k==5)=false:=by simp[hk]
  have b6:(a.k==6)=true:=by simpa using hk
  have hv:v=(decide (0<=a.n)&&decide (a.n<=1073741824)):=by rw[lQ.out,hk];simp
  have HV:=ah hv;clear hv hk;by_cases g1:0<=a.n;rotate_left
  ·have G:=ah g1;go_enter Tryz.func51,Tryz.ntmps51;go_wp2;go_ret;exact⟨by rw[HV.out];rw[decide_eq_false (show¬(0<=a.n) by have:=G.out;omega)];rfl,HK.out⟩
  have wV:=ah g1;by_cases g2:a.n<=1073741824;rotate_left
  ·have G:=ah g2;go_enter Tryz.func51,Tryz.ntmps51;go_wp2;go_ret;exact⟨by rw[HV.out];rw[decide_eq_false (show¬(a.n<=1073741824) by have:=G.out;omega)];simp,HK.out⟩
  have wW:=ah g2;go_enter Tryz.func51,Tryz.ntmps51;go_wp2;go_ret;exact⟨by rw[HV.out];rw[decide_eq_true wV.out,decide_eq_true wW.out];rfl,HK.out⟩
 have H6:=ah hk;clear hk;by_cases hk:a.k=4
 ·have b0:(a.k==0)=false:=by simp[hk]
  have b1:(a.k==1)=false:=by simp[hk]
  have b3:(a.k==3)=false:=by simp[hk]
  have b2:(a.k==2)=false:=by simp[hk]
  have b5:(a.k==5)=false:=by simp[hk]
  have b6:(a.k==6)=false:=by simp[hk]
  have b4:(a.k==4)=true:=by simpa using hk
  have hv:v=true:=by rw[lQ.out,hk];simp
  have HV:=ah hv;clear hv hk;go_enter Tryz.func51,Tryz.ntmps51;go_wp2;go_ret;exact⟨by rw[HV.out];rfl,HK.out⟩
 have H4:=ah hk;clear hk;have b0:(a.k==0)=false:=by simpa using H0.out
 have b1:(a.k==1)=false:=by simpa using H1.out
 have b3:(a.k==3)=false:=by simpa using H3.out
 have b2:(a.k==2)=false:=by simpa using H2.out
 have b5:(a.k==5)=false:=by simpa using H5.out
 have b6:(a.k==6)=false:=by simpa using H6.out
 have b4:(a.k==4)=false:=by simpa using H4.out
 have hv:v=false:=by rw[lQ.out,if_neg H0.out,if_neg (fun e=>e.elim H1.out H3.out),if_neg H2.out,if_neg (fun e=>e.elim H5.out H6.out),decide_eq_false H4.out]
 have HV:=ah hv;clear hv;go_enter Tryz.func51,Tryz.ntmps51;go_wp2;go_ret;exact⟨by rw[HV.out];rfl,HK.out⟩
def bV(w:World)(cl rq:Int)(a:bF)(e:Ending)(w':World):Prop:=
 (newE cl rq a≠0->e=.returned (.tuple #[.pointer none,.int .i64 (newE cl rq a)])/\Kept aj w w')/\
 (newE cl rq a=0->∃X,e=.returned (.tuple #[.pointer (some ⟨X.b,0,none⟩),.int .i64 0])/\fE w' X (newT cl rq a)/\(∀k,jk X (newT cl rq a) k->w.heap.size<=k)/\Kept aj w w')
theorem bV.bad{cl rq:Int}{a:bF}{z:Int}(hz:newE cl rq a=z)(h0:z≠0)(hk:Kept aj w w'):bV w cl rq a (.returned (.tuple #[.pointer none,.int .i64 z])) w':=
 ⟨fun _=>⟨by rw[hz],hk⟩,fun e=>absurd (hz.symm.trans e) h0⟩
theorem o7{W:World}{cl rq:Int}{a:bF}{tb:Nat}{A:Option Addr}{c:Nat}(gU:bD a≠1)(hb:Has W tb 109 #[ji ⟨tb,tb,A,c,none,0,none,0⟩ (newT cl rq a),.int .i64 rq,.int .i64 0,.bool false,.int .i64 0,.int .i64 0,.int .u64 0,.int .i64 0,.slice none 0 0])
  (ho:W.ownsRow 0 143 3 (.slice A (aY a).length c) (aY a).length (cells (aY a))):fE W ⟨tb,tb,A,c,none,0,none,0⟩ (newT cl rq a):=
 ⟨hb,fun e=>absurd e gU,fun _=>⟨rfl,rfl,rfl,rfl⟩,ho,⟨rfl,.inl ⟨rfl,rfl⟩⟩,⟨rfl,.inl ⟨rfl,rfl⟩⟩,fun _=>⟨rfl,rfl,rfl⟩⟩
theorem qZ{W:World}{cl rq:Int}{a:bF}{tb gb:Nat}{A:Option Addr}{c:Nat}(gU:bD a=1)(hb:Has W tb 109 #[.iface 112 (.pointer (some ⟨gb,0,none⟩)),.int .i64 rq,.int .i64 0,.bool false,.int .i64 0,.int .i64 0,.int .u64 0,.int .i64 0,.slice none 0 0])
  (hg:Has W gb 114 (jw ⟨tb,gb,A,c,none,0,none,0⟩ (newT cl rq a))) (ho:W.ownsRow 0 143 3 (.slice A (aY a).length c) (aY a).length (cells (aY a))):fE W ⟨tb,gb,A,c,none,0,none,0⟩ (newT cl rq a):=
 ⟨by unfold tZ;rw[Bc gU];exact hb,fun _=>hg,fun e=>absurd gU e,ho,⟨rfl,.inl ⟨rfl,rfl⟩⟩,⟨rfl,.inl ⟨rfl,rfl⟩⟩,fun _=>⟨rfl,rfl,rfl⟩⟩
theorem yS(w:World)(cl rq:Int)(a:bF)(ha:iZ w a)(hl:a.ops.length<=1000):Calls Tryz.prog 25 #[.int .i64 cl,.int .i64 rq,iO a] w (bV w cl rq a):=by
 obtain⟨W0,hW0⟩:∃W0,w.alloc (.cells (aQ a).toArray 25)=W0:=⟨_,rfl⟩;have hk0:Kept aj w W0:=by rw[<-hW0];(repeat'(first|(with_reducible first|exact ay|apply aA|apply aB|apply aC|apply aF)|(right;simp;done)))
 have hn0:Has W0 w.heap.size 25 (aQ a).toArray:=by rw[<-hW0];exact Has.new _ _ _
 have u0:W0.cell? ⟨w.heap.size,0,none⟩=some (.int .i64 a.k):=hn0.cell 0;have u1:W0.cell? ⟨w.heap.size,1,none⟩=some (.int .i64 a.nd):=hn0.cell 1;have u2:W0.cell? ⟨w.heap.size,2,none⟩=some (.string a.key):=hn0.cell 2;have u3:W0.cell? ⟨w.heap.size,3,none⟩=some (.string a.to):=hn0.cell 3;have u4:W0.cell? ⟨w.heap.size,4,none⟩=some (.int .u64 a.at'):=hn0.cell 4;have u5:W0.cell? ⟨w.heap.size,5,none⟩=some (.int .i64 a.n):=hn0.cell 5;have u6:W0.cell? ⟨w.heap.size,6,none⟩=some (.slice a.A a.ops.length a.c):=hn0.cell 6;obtain⟨hs,hac,Ei,hos,hik,Ej,hin,hat,hkl,htl⟩:=ha;have aN:=ah hk0;have dF:=ah hn0;have yR:=ah hs;have jA:=ah hos;have wX:=ah (And.intro hkl htl);have HL:=ah hl;have hne:newE cl rq a=if cl<0\/3<=cl then 1 else if rq<1\/1073741824<rq then 5 else if eG cl rq (aY a) a=true then 0 else 1:=rfl;have mF:=ah hne;obtain⟨k,hk⟩:∃k,a.k=k:=⟨_,rfl⟩;unfold aQ at hW0;unfold iO aQ;clear hk0 hn0 hs hac Ei hos hik Ej hin hat hkl htl hl hne;by_cases g1:cl<0
 ·clear hk;have hz:newE cl rq a=1:=by rw[mF.out];rw[if_pos (.inl g1)]
  have HZ:=ah hz;clear hz;go_enter Tryz.func25,Tryz.ntmps25;go_wp2;go_ret2;exact bV.bad HZ.out (by decide) (by(repeat'(first|(with_reducible first|exact ay|apply aA|apply aB|apply aC|apply aF)|(exact aN.out)|(right;simp;done))))
 by_cases g2:3<=cl
 ·clear hk;have hz:newE cl rq a=1:=by rw[mF.out];rw[if_pos (.inr g2)]
  have HZ:=ah hz;clear hz;go_enter Tryz.func25,Tryz.ntmps25;go_wp2;go_ret2;exact bV.bad HZ.out (by decide) (by(repeat'(first|(with_reducible first|exact ay|apply aA|apply aB|apply aC|apply aF)|(exact aN.out)|(right;simp;done))))
 by_cases g3:rq<1
 ·clear hk;have hz:newE cl rq a=5:=by rw[mF.out];rw[if_neg (by omega),if_pos (.inl g3)]
  have HZ:=ah hz;clear hz;go_enter Tryz.func25,Tryz.ntmps25;go_wp2;go_ret2;exact bV.bad HZ.out (by decide) (by(repeat'(first|(with_reducible first|exact ay|apply aA|apply aB|apply aC|apply aF)|(exact aN.out)|(right;simp;done))))
 by_cases g4:1073741824<rq
 ·clear hk;have hz:newE cl rq a=5:=by rw[mF.out];rw[if_neg (by omega),if_pos (.inr g4)]
  have HZ:=ah hz;clear hz;go_enter Tryz.func25,Tryz.ntmps25;go_wp2;go_ret2;exact bV.bad HZ.out (by decide) (by(repeat'(first|(with_reducible first|exact ay|apply aA|apply aB|apply aC|apply aF)|(exact aN.out)|(right;simp;done))))
 have hne2:newE cl rq a=if eG cl rq (aY a) a=true then 0 else 1:=by rw[mF.out,if_neg (by omega),if_neg (by omega)]
 have ru:=ah hne2;have HG:=ah (And.intro g1 (And.intro g2 (And.intro g3 g4)));obtain⟨W1,hW1⟩:∃W1,W0.alloc (.cells #[.int .i64 cl,.int .i64 rq,.slice none 0 0,.int .i64 a.k,.int .i64 a.nd,.string a.key,.string a.to,.int .u64 a.at',.int .i64 a.n,.slice a.A a.ops.length a.c] 103)=W1:=⟨_,rfl⟩;have hk1:Kept aj W0 W1:=by rw[<-hW1];(repeat'(first|(with_reducible first|exact ay|apply aA|apply aB|apply aC|apply aF)|(right;simp;done)))
 have hn1:Has W1 W0.heap.size 103 #[.int .i64 cl,.int .i64 rq,.slice none 0 0,.int .i64 a.k,.int .i64 a.nd,.string a.key,.string a.to,.int .u64 a.at',.int .i64 a.n,.slice a.A a.ops.length a.c]:=by rw[<-hW1];exact Has.new _ _ _
 have hb1:=dF.out.kept hk1 (fun z=>z);have iH:=ah hk1;have su:=ah hn1;have HB1:=ah hb1;have w0:W1.cell? ⟨w.heap.size,0,none⟩=some (.int .i64 a.k):=hb1.cell 0;have w6:W1.cell? ⟨w.heap.size,6,none⟩=some (.slice a.A a.ops.length a.c):=hb1.cell 6;have hcb:∀W,Kept aj W1 W->W.cell? ⟨W0.heap.size,2,none⟩=some (.slice none 0 0)/\W.frozen? ⟨W0.heap.size,2,none⟩=false:=fun W hW=>⟨(hn1.kept hW (fun z=>z)).cell 2,(hn1.kept hW (fun z=>z)).frozen 2⟩;have oG:=ah hcb;clear hne2 hk1 hn1 hb1 hcb;clear g1 g2 g3 g4;have g1:=HG.out.1;have g2:=HG.out.2.1;have g3:=HG.out.2.2.1;have g4:=HG.out.2.2.2;clear hk k;by_cases h0:a.k=0;rotate_left
 ·obtain⟨n,hn⟩:∃n,(aY a).length=n:=⟨_,rfl⟩;have pR:aY a=[]:=by unfold aY;rw[if_neg h0]
  have hn0:n=0:=by rw[<-hn,pR];rfl
  subst hn0;obtain⟨B,hB⟩:∃B:Option Addr,B=none:=⟨_,rfl⟩;obtain⟨bc,hbc⟩:∃bc:Nat,bc=0:=⟨_,rfl⟩;have FB:=ah (And.intro hB hbc);have iJ:=ah hn;have iU:=ah (show W1.ownsRow 0 143 3 (.slice none (aY a).length 0) (aY a).length (cells (aY a))from by rw[pR];exact⟨rfl,.inl ⟨rfl,rfl⟩⟩);have mM:=ah (show∀k,(Value.slice none 0 0).ownBlock=some k->w.heap.size<=k from fun k hk=>by cases hk);have HCM:=su;have kP:=HB1;have iV:=ah (aN.out.then iH.out);clear hn pR hB hbc B bc FB;have b0:(a.k==0)=false:=by simpa using h0
  have FC:=u0;clear FC;by_cases hk:a.k=3
  ·have b3:(a.k==3)=true:=by simpa using hk
   have hmay:=jX W1 cl rq none 0 (aY a) a (Src.gq iU.out) wX.out;unfold fG aQ at hmay;simp only[List.cons_append,List.nil_append,iJ.out]at hmay;have e0:=HCM.out.cell 0;have e1:=HCM.out.cell 1;have e2:=HCM.out.cell 2;have e3:=HCM.out.cell 3;have e4:=HCM.out.cell 4;have e5:=HCM.out.cell 5;have e6:=HCM.out.cell 6;have e7:=HCM.out.cell 7;have e8:=HCM.out.cell 8;have e9:=HCM.out.cell 9;simp at e0 e1 e2 e3 e4 e5 e6 e7 e8 e9;obtain⟨mv,hmv⟩:∃mv,eG cl rq (aY a) a=mv:=⟨_,rfl⟩;rw[hmv]at hmay;have hz:newE cl rq a=if mv=true then 0 else 1:=by rw[ru.out,hmv]
   have jE:=ah hmay;have HZ:=ah hz;clear hmay hmv hz;have gU:bD a=0:=by unfold bD;rw[if_pos (.inr hk)]
   have kQ:=ah gU;clear gU hk;cases mv
   ·clear h0;go_enter Tryz.func25,Tryz.ntmps25;go_wp2_with fail;clear hW0 hW1 u0 u1 u2 u3 u4 u5 u6 w0 w6;refine jE.out.mono ?_;rintro e w3 ⟨rfl,hk3⟩;have bf:=ah hk3;clear hk3;go_wp2;go_ret2;exact bV.bad HZ.out (by decide) (iV.out.then bf.out)
   ·clear h0;go_enter Tryz.func25,Tryz.ntmps25;go_wp2_with fail;clear hW0 hW1 u0 u1 u2 u3 u4 u5 u6 w0 w6;refine jE.out.mono ?_;rintro e w3 ⟨rfl,hk3⟩;have bf:=ah hk3;have gV:=HCM.out.kept hk3 (fun z=>z);have gW:=kP.out.kept hk3 (fun z=>z);obtain⟨W4,gX⟩:∃W4,w3.alloc (.cells #[.nilIface,.int .i64 rq,.int .i64 0,.bool false,.int .i64 0,.int .i64 0,.int .u64 0,.int .i64 0,.slice none 0 0] 109)=W4:=⟨_,rfl⟩;have hk4:Kept aj w3 W4:=by rw[<-gX];(repeat'(first|(with_reducible first|exact ay|apply aA|apply aB|apply aC|apply aF)|(right;simp;done)))
    have dV:Has W4 w3.heap.size 109 #[.nilIface,.int .i64 rq,.int .i64 0,.bool false,.int .i64 0,.int .i64 0,.int .u64 0,.int .i64 0,.slice none 0 0]:=by rw[<-gX];exact Has.new _ _ _
    have hc4:=gV.kept hk4 (fun z=>z);have hb4:=gW.kept hk4 (fun z=>z);have z0:=hc4.cell 0;have z1:=hc4.cell 1;have z2:=hc4.cell 2;have z3:=hc4.cell 3;have z4:=hc4.cell 4;have z5:=hc4.cell 5;have z6:=hc4.cell 6;have z7:=hc4.cell 7;have z8:=hc4.cell 8;have z9:=hc4.cell 9;simp at z0 z1 z2 z3 z4 z5 z6 z7 z8 z9;have x0:W4.cell? ⟨w.heap.size,0,none⟩=some (.int .i64 a.k):=hb4.cell 0;have x2:W4.cell? ⟨w.heap.size,2,none⟩=some (.string a.key):=hb4.cell 2;have x4:W4.cell? ⟨w.heap.size,4,none⟩=some (.int .u64 a.at'):=hb4.cell 4;have t0:W4.cell? ⟨w3.heap.size,0,none⟩=some .nilIface:=dV.cell 0;have oH:=dV.frozen 0;have HT4:=ah dV;have dW:=ah hk4;have gY:=ah (show w.heap.size<=w3.heap.size from Nat.le_trans iV.out.size hk3.size);have hne1:w3.heap.size≠w.heap.size:=by have:=kP.out.lt;have:=hk3.size;omega
    have hne2:w3.heap.size≠W0.heap.size:=by have:=HCM.out.lt;have:=hk3.size;omega
    clear gV gW hk3 hc4 hb4 hk4 dV e0 e1 e2 e3 e4 e5 e6 e7 e8 e9;go_wp2;clear gX z0 z1 z2 z3 z4 z5 z6 z7 z8 z9 x0 x2 x4 t0 oH;go_ret2;have iW:Kept (fun k=>k=w3.heap.size) W4 (W4.setCell ⟨w3.heap.size,0,none⟩ (.iface 111 (.agg #[.int .i64 cl,.int .i64 rq,.slice none 0 0,.int .i64 a.k,.int .i64 a.nd,.string a.key,.string a.to,.int .u64 a.at',.int .i64 a.n,.slice a.A a.ops.length a.c]))):=by(repeat'(first|(with_reducible first|exact ay|apply aA|apply aB|apply aC|apply aF)|(exact .inl rfl)|(right;simp;done)))
    refine⟨fun e=>absurd HZ.out e,fun _=>⟨⟨w3.heap.size,w3.heap.size,none,0,none,0,none,0⟩,rfl,o7 (by rw[kQ.out];decide) ?_ (aX iU.out (((bf.out.then dW.out).mono (fun _ z=>z.elim)).then iW) (fun k hk e=> ?_)),(fun k hk=>by
     rcases hk with e|e|e|e|e
     ·rw[e];exact gY.out
     ·rw[e];exact gY.out
     ·cases e
     ·exact mM.out k (by have e2:(Value.slice none (aY a).length 0).ownBlock=some k:=e;rwa[iJ.out]at e2)
     ·cases e),?_⟩⟩
    ·have e9:ji ⟨w3.heap.size,w3.heap.size,none,0,none,0,none,0⟩ (newT cl rq a)=.iface 111 (.agg #[.int .i64 cl,.int .i64 rq,.slice none 0 0,.int .i64 a.k,.int .i64 a.nd,.string a.key,.string a.to,.int .u64 a.at',.int .i64 a.n,.slice a.A a.ops.length a.c]):=by rw[xX (t:=newT cl rq a) kQ.out];unfold bH aQ newT;dsimp only;rw[iJ.out];rfl
     rw[e9];exact HT4.out.bI rfl
    ·have:=fC iU.out hk;have:=bf.out.size;omega
    ·exact((iV.out.then bf.out).then dW.out).trans iW (fun i hi=> .inr (by rw[hi];exact gY.out))
  have b3:(a.k==3)=false:=by simpa using hk
  have H3:=ah hk;clear hk;by_cases hk:a.k=1
  ·have b1:(a.k==1)=true:=by simpa using hk
   have hmay:=jX W1 cl rq none 0 (aY a) a (Src.gq iU.out) wX.out;unfold fG aQ at hmay;simp only[List.cons_append,List.nil_append,iJ.out]at hmay;have e0:=HCM.out.cell 0;have e1:=HCM.out.cell 1;have e2:=HCM.out.cell 2;have e3:=HCM.out.cell 3;have e4:=HCM.out.cell 4;have e5:=HCM.out.cell 5;have e6:=HCM.out.cell 6;have e7:=HCM.out.cell 7;have e8:=HCM.out.cell 8;have e9:=HCM.out.cell 9;simp at e0 e1 e2 e3 e4 e5 e6 e7 e8 e9;obtain⟨mv,hmv⟩:∃mv,eG cl rq (aY a) a=mv:=⟨_,rfl⟩;rw[hmv]at hmay;have hz:newE cl rq a=if mv=true then 0 else 1:=by rw[ru.out,hmv]
   have jE:=ah hmay;have HZ:=ah hz;clear hmay hmv hz;have gU:bD a=1:=by unfold bD;rw[if_neg (by omega),if_pos (.inl hk)]
   have kQ:=ah gU;clear gU hk;cases mv
   ·clear h0;go_enter Tryz.func25,Tryz.ntmps25;go_wp2_with fail;clear hW0 hW1 u0 u1 u2 u3 u4 u5 u6 w0 w6;refine jE.out.mono ?_;rintro e w3 ⟨rfl,hk3⟩;have bf:=ah hk3;clear hk3;go_wp2;go_ret2;exact bV.bad HZ.out (by decide) (iV.out.then bf.out)
   ·clear h0;go_enter Tryz.func25,Tryz.ntmps25;go_wp2_with fail;clear hW0 hW1 u0 u1 u2 u3 u4 u5 u6 w0 w6;refine jE.out.mono ?_;rintro e w3 ⟨rfl,hk3⟩;have bf:=ah hk3;have gV:=HCM.out.kept hk3 (fun z=>z);have gW:=kP.out.kept hk3 (fun z=>z);obtain⟨W4,gX⟩:∃W4,w3.alloc (.cells #[.nilIface,.int .i64 rq,.int .i64 0,.bool false,.int .i64 0,.int .i64 0,.int .u64 0,.int .i64 0,.slice none 0 0] 109)=W4:=⟨_,rfl⟩;have hk4:Kept aj w3 W4:=by rw[<-gX];(repeat'(first|(with_reducible first|exact ay|apply aA|apply aB|apply aC|apply aF)|(right;simp;done)))
    have dV:Has W4 w3.heap.size 109 #[.nilIface,.int .i64 rq,.int .i64 0,.bool false,.int .i64 0,.int .i64 0,.int .u64 0,.int .i64 0,.slice none 0 0]:=by rw[<-gX];exact Has.new _ _ _
    have hc4:=gV.kept hk4 (fun z=>z);have hb4:=gW.kept hk4 (fun z=>z);have z0:=hc4.cell 0;have z1:=hc4.cell 1;have z2:=hc4.cell 2;have z3:=hc4.cell 3;have z4:=hc4.cell 4;have z5:=hc4.cell 5;have z6:=hc4.cell 6;have z7:=hc4.cell 7;have z8:=hc4.cell 8;have z9:=hc4.cell 9;simp at z0 z1 z2 z3 z4 z5 z6 z7 z8 z9;have x0:W4.cell? ⟨w.heap.size,0,none⟩=some (.int .i64 a.k):=hb4.cell 0;have x2:W4.cell? ⟨w.heap.size,2,none⟩=some (.string a.key):=hb4.cell 2;have x4:W4.cell? ⟨w.heap.size,4,none⟩=some (.int .u64 a.at'):=hb4.cell 4;have t0:W4.cell? ⟨w3.heap.size,0,none⟩=some .nilIface:=dV.cell 0;have oH:=dV.frozen 0;have HT4:=ah dV;have dW:=ah hk4;have gY:=ah (show w.heap.size<=w3.heap.size from Nat.le_trans iV.out.size hk3.size);have hne1:w3.heap.size≠w.heap.size:=by have:=kP.out.lt;have:=hk3.size;omega
    have hne2:w3.heap.size≠W0.heap.size:=by have:=HCM.out.lt;have:=hk3.size;omega
    clear gV gW hk3 hc4 hb4 hk4 dV e0 e1 e2 e3 e4 e5 e6 e7 e8 e9;obtain⟨W5,ig⟩:∃W5,W4.alloc (.cells #[.int .i64 cl,.int .i64 rq,.slice none 0 0,.int .i64 a.k,.int .i64 a.nd,.string a.key,.string a.to,.int .u64 a.at',.int .i64 a.n,.slice a.A a.ops.length a.c,.int .u64 a.at',.string a.key,.slice none 0 0] 114)=W5:=⟨_,rfl⟩;have hk5:Kept aj W4 W5:=by rw[<-ig];(repeat'(first|(with_reducible first|exact ay|apply aA|apply aB|apply aC|apply aF)|(right;simp;done)))
    have hg5:Has W5 W4.heap.size 114 #[.int .i64 cl,.int .i64 rq,.slice none 0 0,.int .i64 a.k,.int .i64 a.nd,.string a.key,.string a.to,.int .u64 a.at',.int .i64 a.n,.slice a.A a.ops.length a.c,.int .u64 a.at',.string a.key,.slice none 0 0]:=by rw[<-ig];exact Has.new _ _ _
    have rC:=HT4.out.kept hk5 (fun z=>z);have s0:=rC.cell 0;have oI:=rC.frozen 0;simp at s0;have BO:=ah hg5;have dw:=ah hk5;clear hg5 hk5 rC;go_wp2;clear ig s0 oI;clear gX z0 z1 z2 z3 z4 z5 z6 z7 z8 z9 x0 x2 x4 t0 oH;go_ret2;have hg5:Has W5 W4.heap.size 114 (jw ⟨w3.heap.size,W4.heap.size,none,0,none,0,none,0⟩ (newT cl rq a)):=by
     have e9:jw ⟨w3.heap.size,W4.heap.size,none,0,none,0,none,0⟩ (newT cl rq a)=#[.int .i64 cl,.int .i64 rq,.slice none 0 0,.int .i64 a.k,.int .i64 a.nd,.string a.key,.string a.to,.int .u64 a.at',.int .i64 a.n,.slice a.A a.ops.length a.c,.int .u64 a.at',.string a.key,.slice none 0 0]:=by unfold jw bH aQ newT;dsimp only;rw[iJ.out];rfl
     rw[e9];exact BO.out
    have iW:Kept (fun k=>k=w3.heap.size) W5 (W5.setCell ⟨w3.heap.size,0,none⟩ (.iface 112 (.pointer (some ⟨W4.heap.size,0,none⟩)))):=by(repeat'(first|(with_reducible first|exact ay|apply aA|apply aB|apply aC|apply aF)|(exact .inl rfl)|(right;simp;done)))
    have yT:W4.heap.size≠w3.heap.size:=by have:=HT4.out.lt;omega
    refine⟨fun e=>absurd HZ.out e,fun _=>⟨⟨w3.heap.size,W4.heap.size,none,0,none,0,none,0⟩,rfl,qZ kQ.out ?_ (hg5.kept iW yT) (aX iU.out ((((bf.out.then dW.out).then dw.out).mono (fun _ z=>z.elim)).then iW) (fun k hk e=> ?_)),(fun k hk=>by
     rcases hk with e|e|e|e|e
     ·rw[e];exact gY.out
     ·rw[e];exact Nat.le_trans gY.out dW.out.size
     ·cases e
     ·exact mM.out k (by have e2:(Value.slice none (aY a).length 0).ownBlock=some k:=e;rwa[iJ.out]at e2)
     ·cases e),?_⟩⟩
    ·exact(HT4.out.kept dw.out (fun z=>z)).bI rfl
    ·have:=fC iU.out hk;have:=bf.out.size;omega
    ·exact(((iV.out.then bf.out).then dW.out).then dw.out).trans iW (fun i hi=> .inr (by rw[hi];exact gY.out))
  have b1:(a.k==1)=false:=by simpa using hk
  have H1:=ah hk;clear hk;by_cases hk:a.k=2
  ·have b2:(a.k==2)=true:=by simpa using hk
   have hmay:=jX W1 cl rq none 0 (aY a) a (Src.gq iU.out) wX.out;unfold fG aQ at hmay;simp only[List.cons_append,List.nil_append,iJ.out]at hmay;have e0:=HCM.out.cell 0;have e1:=HCM.out.cell 1;have e2:=HCM.out.cell 2;have e3:=HCM.out.cell 3;have e4:=HCM.out.cell 4;have e5:=HCM.out.cell 5;have e6:=HCM.out.cell 6;have e7:=HCM.out.cell 7;have e8:=HCM.out.cell 8;have e9:=HCM.out.cell 9;simp at e0 e1 e2 e3 e4 e5 e6 e7 e8 e9;obtain⟨mv,hmv⟩:∃mv,eG cl rq (aY a) a=mv:=⟨_,rfl⟩;rw[hmv]at hmay;have hz:newE cl rq a=if mv=true then 0 else 1:=by rw[ru.out,hmv]
   have jE:=ah hmay;have HZ:=ah hz;clear hmay hmv hz;have gU:bD a=1:=by unfold bD;rw[if_neg (by omega),if_pos (.inr hk)]
   have kQ:=ah gU;clear gU hk;cases mv
   ·clear h0;go_enter Tryz.func25,Tryz.ntmps25;go_wp2_with fail;clear hW0 hW1 u0 u1 u2 u3 u4 u5 u6 w0 w6;refine jE.out.mono ?_;rintro e w3 ⟨rfl,hk3⟩;have bf:=ah hk3;clear hk3;go_wp2;go_ret2;exact bV.bad HZ.out (by decide) (iV.out.then bf.out)
   ·clear h0;go_enter Tryz.func25,Tryz.ntmps25;go_wp2_with fail;clear hW0 hW1 u0 u1 u2 u3 u4 u5 u6 w0 w6;refine jE.out.mono ?_;rintro e w3 ⟨rfl,hk3⟩;have bf:=ah hk3;have gV:=HCM.out.kept hk3 (fun z=>z);have gW:=kP.out.kept hk3 (fun z=>z);obtain⟨W4,gX⟩:∃W4,w3.alloc (.cells #[.nilIface,.int .i64 rq,.int .i64 0,.bool false,.int .i64 0,.int .i64 0,.int .u64 0,.int .i64 0,.slice none 0 0] 109)=W4:=⟨_,rfl⟩;have hk4:Kept aj w3 W4:=by rw[<-gX];(repeat'(first|(with_reducible first|exact ay|apply aA|apply aB|apply aC|apply aF)|(right;simp;done)))
    have dV:Has W4 w3.heap.size 109 #[.nilIface,.int .i64 rq,.int .i64 0,.bool false,.int .i64 0,.int .i64 0,.int .u64 0,.int .i64 0,.slice none 0 0]:=by rw[<-gX];exact Has.new _ _ _
    have hc4:=gV.kept hk4 (fun z=>z);have hb4:=gW.kept hk4 (fun z=>z);have z0:=hc4.cell 0;have z1:=hc4.cell 1;have z2:=hc4.cell 2;have z3:=hc4.cell 3;have z4:=hc4.cell 4;have z5:=hc4.cell 5;have z6:=hc4.cell 6;have z7:=hc4.cell 7;have z8:=hc4.cell 8;have z9:=hc4.cell 9;simp at z0 z1 z2 z3 z4 z5 z6 z7 z8 z9;have x0:W4.cell? ⟨w.heap.size,0,none⟩=some (.int .i64 a.k):=hb4.cell 0;have x2:W4.cell? ⟨w.heap.size,2,none⟩=some (.string a.key):=hb4.cell 2;have x4:W4.cell? ⟨w.heap.size,4,none⟩=some (.int .u64 a.at'):=hb4.cell 4;have t0:W4.cell? ⟨w3.heap.size,0,none⟩=some .nilIface:=dV.cell 0;have oH:=dV.frozen 0;have HT4:=ah dV;have dW:=ah hk4;have gY:=ah (show w.heap.size<=w3.heap.size from Nat.le_trans iV.out.size hk3.size);have hne1:w3.heap.size≠w.heap.size:=by have:=kP.out.lt;have:=hk3.size;omega
    have hne2:w3.heap.size≠W0.heap.size:=by have:=HCM.out.lt;have:=hk3.size;omega
    clear gV gW hk3 hc4 hb4 hk4 dV e0 e1 e2 e3 e4 e5 e6 e7 e8 e9;obtain⟨W5,ig⟩:∃W5,W4.alloc (.cells #[.int .i64 cl,.int .i64 rq,.slice none 0 0,.int .i64 a.k,.int .i64 a.nd,.string a.key,.string a.to,.int .u64 a.at',.int .i64 a.n,.slice a.A a.ops.length a.c,.int .u64 a.at',.string a.key,.slice none 0 0] 114)=W5:=⟨_,rfl⟩;have hk5:Kept aj W4 W5:=by rw[<-ig];(repeat'(first|(with_reducible first|exact ay|apply aA|apply aB|apply aC|apply aF)|(right;simp;done)))
    have hg5:Has W5 W4.heap.size 114 #[.int .i64 cl,.int .i64 rq,.slice none 0 0,.int .i64 a.k,.int .i64 a.nd,.string a.key,.string a.to,.int .u64 a.at',.int .i64 a.n,.slice a.A a.ops.length a.c,.int .u64 a.at',.string a.key,.slice none 0 0]:=by rw[<-ig];exact Has.new _ _ _
    have rC:=HT4.out.kept hk5 (fun z=>z);have s0:=rC.cell 0;have oI:=rC.frozen 0;simp at s0;have BO:=ah hg5;have dw:=ah hk5;clear hg5 hk5 rC;go_wp2;clear ig s0 oI;clear gX z0 z1 z2 z3 z4 z5 z6 z7 z8 z9 x0 x2 x4 t0 oH;go_ret2;have hg5:Has W5 W4.heap.size 114 (jw ⟨w3.heap.size,W4.heap.size,none,0,none,0,none,0⟩ (newT cl rq a)):=by
     have e9:jw ⟨w3.heap.size,W4.heap.size,none,0,none,0,none,0⟩ (newT cl rq a)=#[.int .i64 cl,.int .i64 rq,.slice none 0 0,.int .i64 a.k,.int .i64 a.nd,.string a.key,.string a.to,.int .u64 a.at',.int .i64 a.n,.slice a.A a.ops.length a.c,.int .u64 a.at',.string a.key,.slice none 0 0]:=by unfold jw bH aQ newT;dsimp only;rw[iJ.out];rfl
     rw[e9];exact BO.out
    have iW:Kept (fun k=>k=w3.heap.size) W5 (W5.setCell ⟨w3.heap.size,0,none⟩ (.iface 112 (.pointer (some ⟨W4.heap.size,0,none⟩)))):=by(repeat'(first|(with_reducible first|exact ay|apply aA|apply aB|apply aC|apply aF)|(exact .inl rfl)|(right;simp;done)))
    have yT:W4.heap.size≠w3.heap.size:=by have:=HT4.out.lt;omega
    refine⟨fun e=>absurd HZ.out e,fun _=>⟨⟨w3.heap.size,W4.heap.size,none,0,none,0,none,0⟩,rfl,qZ kQ.out ?_ (hg5.kept iW yT) (aX iU.out ((((bf.out.then dW.out).then dw.out).mono (fun _ z=>z.elim)).then iW) (fun k hk e=> ?_)),(fun k hk=>by
     rcases hk with e|e|e|e|e
     ·rw[e];exact gY.out
     ·rw[e];exact Nat.le_trans gY.out dW.out.size
     ·cases e
     ·exact mM.out k (by have e2:(Value.slice none (aY a).length 0).ownBlock=some k:=e;rwa[iJ.out]at e2)
     ·cases e),?_⟩⟩
    ·exact(HT4.out.kept dw.out (fun z=>z)).bI rfl
    ·have:=fC iU.out hk;have:=bf.out.size;omega
    ·exact(((iV.out.then bf.out).then dW.out).then dw.out).trans iW (fun i hi=> .inr (by rw[hi];exact gY.out))
  have b2:(a.k==2)=false:=by simpa using hk
  have h3x:=H3.out;have h1x:=H1.out;have hmay:=jX W1 cl rq none 0 (aY a) a (Src.gq iU.out) wX.out;unfold fG aQ at hmay;simp only[List.cons_append,List.nil_append,iJ.out]at hmay;have e0:=HCM.out.cell 0;have e1:=HCM.out.cell 1;have e2:=HCM.out.cell 2;have e3:=HCM.out.cell 3;have e4:=HCM.out.cell 4;have e5:=HCM.out.cell 5;have e6:=HCM.out.cell 6;have e7:=HCM.out.cell 7;have e8:=HCM.out.cell 8;have e9:=HCM.out.cell 9;simp at e0 e1 e2 e3 e4 e5 e6 e7 e8 e9;obtain⟨mv,hmv⟩:∃mv,eG cl rq (aY a) a=mv:=⟨_,rfl⟩;rw[hmv]at hmay;have hz:newE cl rq a=if mv=true then 0 else 1:=by rw[ru.out,hmv]
  have jE:=ah hmay;have HZ:=ah hz;clear hmay hmv hz;have gU:bD a=2:=by unfold bD;rw[if_neg (by omega),if_neg (by omega)]
  have kQ:=ah gU;clear gU hk;cases mv
  ·clear h0 h3x h1x;go_enter Tryz.func25,Tryz.ntmps25;go_wp2_with fail;clear hW0 hW1 u0 u1 u2 u3 u4 u5 u6 w0 w6;refine jE.out.mono ?_;rintro e w3 ⟨rfl,hk3⟩;have bf:=ah hk3;clear hk3;go_wp2;go_ret2;exact bV.bad HZ.out (by decide) (iV.out.then bf.out)
  ·clear h0 h3x h1x;go_enter Tryz.func25,Tryz.ntmps25;go_wp2_with fail;clear hW0 hW1 u0 u1 u2 u3 u4 u5 u6 w0 w6;refine jE.out.mono ?_;rintro e w3 ⟨rfl,hk3⟩;have bf:=ah hk3;have gV:=HCM.out.kept hk3 (fun z=>z);have gW:=kP.out.kept hk3 (fun z=>z);obtain⟨W4,gX⟩:∃W4,w3.alloc (.cells #[.nilIface,.int .i64 rq,.int .i64 0,.bool false,.int .i64 0,.int .i64 0,.int .u64 0,.int .i64 0,.slice none 0 0] 109)=W4:=⟨_,rfl⟩;have hk4:Kept aj w3 W4:=by rw[<-gX];(repeat'(first|(with_reducible first|exact ay|apply aA|apply aB|apply aC|apply aF)|(right;simp;done)))
   have dV:Has W4 w3.heap.size 109 #[.nilIface,.int .i64 rq,.int .i64 0,.bool false,.int .i64 0,.int .i64 0,.int .u64 0,.int .i64 0,.slice none 0 0]:=by rw[<-gX];exact Has.new _ _ _
   have hc4:=gV.kept hk4 (fun z=>z);have hb4:=gW.kept hk4 (fun z=>z);have z0:=hc4.cell 0;have z1:=hc4.cell 1;have z2:=hc4.cell 2;have z3:=hc4.cell 3;have z4:=hc4.cell 4;have z5:=hc4.cell 5;have z6:=hc4.cell 6;have z7:=hc4.cell 7;have z8:=hc4.cell 8;have z9:=hc4.cell 9;simp at z0 z1 z2 z3 z4 z5 z6 z7 z8 z9;have x0:W4.cell? ⟨w.heap.size,0,none⟩=some (.int .i64 a.k):=hb4.cell 0;have x2:W4.cell? ⟨w.heap.size,2,none⟩=some (.string a.key):=hb4.cell 2;have x4:W4.cell? ⟨w.heap.size,4,none⟩=some (.int .u64 a.at'):=hb4.cell 4;have t0:W4.cell? ⟨w3.heap.size,0,none⟩=some .nilIface:=dV.cell 0;have oH:=dV.frozen 0;have HT4:=ah dV;have dW:=ah hk4;have gY:=ah (show w.heap.size<=w3.heap.size from Nat.le_trans iV.out.size hk3.size);have hne1:w3.heap.size≠w.heap.size:=by have:=kP.out.lt;have:=hk3.size;omega
   have hne2:w3.heap.size≠W0.heap.size:=by have:=HCM.out.lt;have:=hk3.size;omega
   clear gV gW hk3 hc4 hb4 hk4 dV e0 e1 e2 e3 e4 e5 e6 e7 e8 e9;go_wp2;clear gX z0 z1 z2 z3 z4 z5 z6 z7 z8 z9 x0 x2 x4 t0 oH;go_ret2;have iW:Kept (fun k=>k=w3.heap.size) W4 (W4.setCell ⟨w3.heap.size,0,none⟩ (.iface 115 (.agg #[.int .i64 cl,.int .i64 rq,.slice none 0 0,.int .i64 a.k,.int .i64 a.nd,.string a.key,.string a.to,.int .u64 a.at',.int .i64 a.n,.slice a.A a.ops.length a.c]))):=by(repeat'(first|(with_reducible first|exact ay|apply aA|apply aB|apply aC|apply aF)|(exact .inl rfl)|(right;simp;done)))
   refine⟨fun e=>absurd HZ.out e,fun _=>⟨⟨w3.heap.size,w3.heap.size,none,0,none,0,none,0⟩,rfl,o7 (by rw[kQ.out];decide) ?_ (aX iU.out (((bf.out.then dW.out).mono (fun _ z=>z.elim)).then iW) (fun k hk e=> ?_)),(fun k hk=>by
    rcases hk with e|e|e|e|e
    ·rw[e];exact gY.out
    ·rw[e];exact gY.out
    ·cases e
    ·exact mM.out k (by have e2:(Value.slice none (aY a).length 0).ownBlock=some k:=e;rwa[iJ.out]at e2)
    ·cases e),?_⟩⟩
   ·have e9:ji ⟨w3.heap.size,w3.heap.size,none,0,none,0,none,0⟩ (newT cl rq a)=.iface 115 (.agg #[.int .i64 cl,.int .i64 rq,.slice none 0 0,.int .i64 a.k,.int .i64 a.nd,.string a.key,.string a.to,.int .u64 a.at',.int .i64 a.n,.slice a.A a.ops.length a.c]):=by rw[Bd (t:=newT cl rq a) kQ.out];unfold bH aQ newT;dsimp only;rw[iJ.out];rfl
    rw[e9];exact HT4.out.bI rfl
   ·have:=fC iU.out hk;have:=bf.out.size;omega
   ·exact((iV.out.then bf.out).then dW.out).trans iW (fun i hi=> .inr (by rw[hi];exact gY.out))
 ·have b0:(a.k==0)=true:=by simpa using h0
  have pR:aY a=jD a.ops:=by unfold aY;rw[if_pos h0]
  obtain⟨n,hn⟩:∃n,(aY a).length=n:=⟨_,rfl⟩;have hno:=pO.yQ W1 a.A a.c a.ops (yR.out.kept (aN.out.then iH.out) (fun _ _ z=>z)) HL.out (fun o ho=>(jA.out o ho).1);unfold wO bG at hno;rw[<-pR,hn]at hno;have FD:=ah hno;have iJ:=ah hn;have sN:=ah h0;clear hno hn pR h0;go_enter Tryz.func25,Tryz.ntmps25;go_wp2_with fail;clear hW0 hW1 u0 u1 u2 u3 u4 u5 u6 w0 w6;refine FD.out.mono ?_;rintro e w2 ⟨B,bc,rfl,⟨hob,hnb⟩,hk2⟩;have hc2:=su.out.kept hk2 (fun z=>z);obtain⟨Wm,zH⟩:∃Wm,w2.setCell ⟨W0.heap.size,2,none⟩ (.slice B n bc)=Wm:=⟨_,rfl⟩;obtain⟨DW,DX⟩:=oG.out w2 hk2;have hkm:Kept (fun k=>k=W0.heap.size) w2 Wm:=by rw[<-zH];(repeat'(first|(with_reducible first|exact ay|apply aA|apply aB|apply aC|apply aF)|(exact .inl rfl)|(right;simp;done)))
  have HCM:=ah (show Has Wm W0.heap.size 103 #[.int .i64 cl,.int .i64 rq,.slice B n bc,.int .i64 a.k,.int .i64 a.nd,.string a.key,.string a.to,.int .u64 a.at',.int .i64 a.n,.slice a.A a.ops.length a.c] by rw[<-zH];exact hc2.bI rfl);have kP:=ah ((HB1.out.kept hk2 (fun z=>z)).kept hkm (fun e=>by have:=dF.out.lt;omega));have iU:=ah (show Wm.ownsRow 0 143 3 (.slice B (aY a).length bc) (aY a).length (cells (aY a))from by rw[iJ.out];exact aX hob hkm (fun k hk e=>own_ne hob hc2 (by decide) (e▸hk)));have mM:=ah (show∀k,(Value.slice B n bc).ownBlock=some k->w.heap.size<=k from fun k hk=>Nat.le_trans (aN.out.then iH.out).size (hnb k hk));have iV:=ah (show Kept aj w Wm from((aN.out.then iH.out).then hk2).trans hkm (fun i hi=> .inr (by rw[hi];exact aN.out.size)));have u0:Wm.cell? ⟨w.heap.size,0,none⟩=some (.int .i64 a.k):=kP.out.cell 0;clear hob hnb hk2 hc2 hkm;have hk:=sN.out;have hmay:=jX Wm cl rq B bc (aY a) a (Src.gq iU.out) wX.out;unfold fG aQ at hmay;simp only[List.cons_append,List.nil_append,iJ.out]at hmay;have e0:=HCM.out.cell 0;have e1:=HCM.out.cell 1;have e2:=HCM.out.cell 2;have e3:=HCM.out.cell 3;have e4:=HCM.out.cell 4;have e5:=HCM.out.cell 5;have e6:=HCM.out.cell 6;have e7:=HCM.out.cell 7;have e8:=HCM.out.cell 8;have e9:=HCM.out.cell 9;simp at e0 e1 e2 e3 e4 e5 e6 e7 e8 e9;obtain⟨mv,hmv⟩:∃mv,eG cl rq (aY a) a=mv:=⟨_,rfl⟩;rw[hmv]at hmay;have hz:newE cl rq a=if mv=true then 0 else 1:=by rw[ru.out,hmv]
  have jE:=ah hmay;have HZ:=ah hz;clear hmay hmv hz;have gU:bD a=0:=by unfold bD;rw[if_pos (.inl hk)]
  have kQ:=ah gU;clear gU hk;cases mv
  ·go_wp2_with fail;clear zH DW DX u0;refine jE.out.mono ?_;rintro e w3 ⟨rfl,hk3⟩;have bf:=ah hk3;clear hk3;go_wp2;go_ret2;exact bV.bad HZ.out (by decide) (iV.out.then bf.out)
  ·go_wp2_with fail;clear zH DW DX u0;refine jE.out.mono ?_;rintro e w3 ⟨rfl,hk3⟩;have bf:=ah hk3;have gV:=HCM.out.kept hk3 (fun z=>z);have gW:=kP.out.kept hk3 (fun z=>z);obtain⟨W4,gX⟩:∃W4,w3.alloc (.cells #[.nilIface,.int .i64 rq,.int .i64 0,.bool false,.int .i64 0,.int .i64 0,.int .u64 0,.int .i64 0,.slice none 0 0] 109)=W4:=⟨_,rfl⟩;have hk4:Kept aj w3 W4:=by rw[<-gX];(repeat'(first|(with_reducible first|exact ay|apply aA|apply aB|apply aC|apply aF)|(right;simp;done)))
   have dV:Has W4 w3.heap.size 109 #[.nilIface,.int .i64 rq,.int .i64 0,.bool false,.int .i64 0,.int .i64 0,.int .u64 0,.int .i64 0,.slice none 0 0]:=by rw[<-gX];exact Has.new _ _ _
   have hc4:=gV.kept hk4 (fun z=>z);have hb4:=gW.kept hk4 (fun z=>z);have z0:=hc4.cell 0;have z1:=hc4.cell 1;have z2:=hc4.cell 2;have z3:=hc4.cell 3;have z4:=hc4.cell 4;have z5:=hc4.cell 5;have z6:=hc4.cell 6;have z7:=hc4.cell 7;have z8:=hc4.cell 8;have z9:=hc4.cell 9;simp at z0 z1 z2 z3 z4 z5 z6 z7 z8 z9;have x0:W4.cell? ⟨w.heap.size,0,none⟩=some (.int .i64 a.k):=hb4.cell 0;have x2:W4.cell? ⟨w.heap.size,2,none⟩=some (.string a.key):=hb4.cell 2;have x4:W4.cell? ⟨w.heap.size,4,none⟩=some (.int .u64 a.at'):=hb4.cell 4;have t0:W4.cell? ⟨w3.heap.size,0,none⟩=some .nilIface:=dV.cell 0;have oH:=dV.frozen 0;have HT4:=ah dV;have dW:=ah hk4;have gY:=ah (show w.heap.size<=w3.heap.size from Nat.le_trans iV.out.size hk3.size);have hne1:w3.heap.size≠w.heap.size:=by have:=kP.out.lt;have:=hk3.size;omega
   have hne2:w3.heap.size≠W0.heap.size:=by have:=HCM.out.lt;have:=hk3.size;omega
   clear gV gW hk3 hc4 hb4 hk4 dV e0 e1 e2 e3 e4 e5 e6 e7 e8 e9;go_wp2;clear gX z0 z1 z2 z3 z4 z5 z6 z7 z8 z9 x0 x2 x4 t0 oH;go_ret2;have iW:Kept (fun k=>k=w3.heap.size) W4 (W4.setCell ⟨w3.heap.size,0,none⟩ (.iface 111 (.agg #[.int .i64 cl,.int .i64 rq,.slice B n bc,.int .i64 a.k,.int .i64 a.nd,.string a.key,.string a.to,.int .u64 a.at',.int .i64 a.n,.slice a.A a.ops.length a.c]))):=by(repeat'(first|(with_reducible first|exact ay|apply aA|apply aB|apply aC|apply aF)|(exact .inl rfl)|(right;simp;done)))
   refine⟨fun e=>absurd HZ.out e,fun _=>⟨⟨w3.heap.size,w3.heap.size,B,bc,none,0,none,0⟩,rfl,o7 (by rw[kQ.out];decide) ?_ (aX iU.out (((bf.out.then dW.out).mono (fun _ z=>z.elim)).then iW) (fun k hk e=> ?_)),(fun k hk=>by
    rcases hk with e|e|e|e|e
    ·rw[e];exact gY.out
    ·rw[e];exact gY.out
    ·cases e
    ·exact mM.out k (by have e2:(Value.slice B (aY a).length bc).ownBlock=some k:=e;rwa[iJ.out]at e2)
    ·cases e),?_⟩⟩
   ·have e9:ji ⟨w3.heap.size,w3.heap.size,B,bc,none,0,none,0⟩ (newT cl rq a)=.iface 111 (.agg #[.int .i64 cl,.int .i64 rq,.slice B n bc,.int .i64 a.k,.int .i64 a.nd,.string a.key,.string a.to,.int .u64 a.at',.int .i64 a.n,.slice a.A a.ops.length a.c]):=by rw[xX (t:=newT cl rq a) kQ.out];unfold bH aQ newT;dsimp only;rw[iJ.out];rfl
    rw[e9];exact HT4.out.bI rfl
   ·have:=fC iU.out hk;have:=bf.out.size;omega
   ·exact((iV.out.then bf.out).then dW.out).trans iW (fun i hi=> .inr (by rw[hi];exact gY.out))
