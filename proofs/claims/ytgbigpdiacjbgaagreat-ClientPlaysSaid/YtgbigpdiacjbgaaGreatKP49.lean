/- Part 50. -/
import Derived.Test.YtgbigpdiacjbgaaGreatKP15
import Derived.Test.YtgbigpdiacjbgaaGreatKP42
set_option linter.unusedSimpArgs false
set_option linter.unusedVariables false
set_option maxHeartbeats 32000000
set_option maxRecDepth 100000
namespace Go.Proofs.YtgbigpdiacjbgaaGreat
open Go.RowKit
namespace Ask
open bg Ops fG eP MO Vn
section
variable{w w':World}
theorem Wu(w:World)(s:ByteArray):Calls Tryz.prog 117 #[.string s] w fun e w'=>e=.returned (.int .i64 (keyE s))/\w=w':=Be s w
theorem G7(w:World)(cl rq:Int)(B:Option Addr)(bc:Nat)(bo:List dU)(a:iZ)(hb:Src w 3 B bo.length (cells bo))(hcap:bo.length<=bc)(hka:a.key.size<=maxLen/\a.to.size<=maxLen):
  Calls Tryz.prog 74 #[.agg #[.int .i64 cl,.int .i64 rq,.slice B bo.length bc],pN a] w fun e w'=>e=.returned (.bool (!nJ cl rq bo a))/\Kept aj w w':=by
 obtain⟨W0,hW0⟩:∃W0,w.alloc (.cells #[.int .i64 cl,.int .i64 rq,.slice B bo.length bc] 59)=W0:=⟨_,rfl⟩;have hk0:Kept aj w W0:=by rw[<-hW0];(repeat'(first|(with_reducible first|exact ay|apply aA|apply aB|apply aC|apply aF)|(right;simp;done)))
 have hn0:Has W0 w.heap.size 59 #[.int .i64 cl,.int .i64 rq,.slice B bo.length bc]:=by rw[<-hW0];exact Has.new _ _ _
 obtain⟨W1,hW1⟩:∃W1,W0.alloc (.cells (bQ a).toArray 25)=W1:=⟨_,rfl⟩;have hk1:Kept aj W0 W1:=by rw[<-hW1];(repeat'(first|(with_reducible first|exact ay|apply aA|apply aB|apply aC|apply aF)|(right;simp;done)))
 have hn1:Has W1 W0.heap.size 25 (bQ a).toArray:=by rw[<-hW1];exact Has.new _ _ _
 have yU:=hn0.kept hk1 (fun z=>z);have q0:W1.cell? ⟨W0.heap.size,0,none⟩=some (.int .i64 a.k):=hn1.cell 0;have q1:W1.cell? ⟨W0.heap.size,1,none⟩=some (.int .i64 a.nd):=hn1.cell 1;have q2:W1.cell? ⟨W0.heap.size,2,none⟩=some (.string a.key):=hn1.cell 2;have q3:W1.cell? ⟨W0.heap.size,3,none⟩=some (.string a.to):=hn1.cell 3;have q5:W1.cell? ⟨W0.heap.size,5,none⟩=some (.int .i64 a.n):=hn1.cell 5;have d0:W1.cell? ⟨w.heap.size,0,none⟩=some (.int .i64 cl):=yU.cell 0;have d1:W1.cell? ⟨w.heap.size,1,none⟩=some (.int .i64 rq):=yU.cell 1;have d2:W1.cell? ⟨w.heap.size,2,none⟩=some (.slice B bo.length bc):=yU.cell 2;have iy:=Ops.ng W1 ⟨cl,rq,bo⟩ B bc (hb.kept (hk0.then hk1) (fun _ _ z=>z)) hcap;have hrep:=fun W=>Eu W a.nd;have hkey:=fun W=>Wu W a.key;obtain⟨vr,KE⟩:∃vr,decide (0<=a.nd/\a.nd<4)=vr:=⟨_,rfl⟩;simp only[KE]at hrep;obtain⟨vk,hvk⟩:∃vk,keyE a.key=vk:=⟨_,rfl⟩;simp only[hvk]at hkey;have hl5:a.key.size<=9223372036854775807:=by have:=hka.1;unfold maxLen at this;omega
 have hl6:a.to.size<=9223372036854775807:=by have:=hka.2;unfold maxLen at this;omega
 have HK:=ah (hk0.then hk1);have nX:=ah iy;have jg:=ah hrep;have uf:=ah hkey;have hmay:nJ cl rq bo a=if a.k=0 then decide (Ops.chk ⟨cl,rq,bo⟩=0)else if a.k=1\/a.k=3 then vr&&decide (vk=0)else if a.k=2 then vr&&(decide (a.key.size<=8)&&(decide (a.to.size<=8)&&(decide (1<=a.n)&&decide (a.n<=32))))else if a.k=5\/a.k=6 then decide (0<=a.n)&&decide (a.n<=1073741824)else decide (a.k=4):=by unfold nJ;rw[KE,hvk]
 obtain⟨v,hv⟩:∃v,nJ cl rq bo a=v:=⟨_,rfl⟩;rw[hv]at hmay⊢;obtain⟨nv,hnv⟩:∃nv,(!v)=nv:=⟨_,rfl⟩;rw[hnv];have ug:=ah hmay;have xE:=ah hnv;unfold bQ at hW1;unfold pN bQ;unfold nT at nX;dsimp only at nX;clear hk0 hn0 hk1 hn1 yU iy hrep hkey KE hvk hb hka hmay hv hcap hnv;by_cases hk:a.k=0
 ·have b0:(a.k==0)=true:=by simpa using hk
  have hv:v=decide (Ops.chk ⟨cl,rq,bo⟩=0):=by rw[ug.out,hk];simp
  have HV:=ah hv;clear hv hk;obtain⟨z,hz⟩:∃z,Ops.chk ⟨cl,rq,bo⟩=z:=⟨_,rfl⟩;rw[hz]at nX HV;clear hz;have bz:(z !=0)= !decide (z=0):=by rw[Bool.eq_iff_iff];simp
  obtain⟨y,hy⟩:∃y,decide (z=0)=y:=⟨_,rfl⟩;rw[hy]at bz HV;clear hy;obtain⟨ny,hny⟩:∃ny,(!y)=ny:=⟨_,rfl⟩;rw[hny]at bz;have Ue:=ah hny;clear hny;go_enter Tryz.func74,Tryz.ntmps74;go_wp2_with fail;refine nX.out.mono ?_;rintro e w3 ⟨rfl,hk3⟩;have dI:=ah hk3;clear hk3;go_wp2;go_ret;exact⟨by rw[<-xE.out,HV.out,Ue.out];rfl,HK.out.then dI.out⟩
 have H0:=ah hk;clear hk;by_cases hk:a.k=1
 ·have b0:(a.k==0)=false:=by simp[hk]
  have b1:(a.k==1)=true:=by simpa using hk
  have hv:v=(vr&&decide (vk=0)):=by rw[ug.out,hk];simp
  have HV:=ah hv;clear hv hk;have bz:(vk !=0)= !decide (vk=0):=by rw[Bool.eq_iff_iff];simp
  obtain⟨y,hy⟩:∃y,decide (vk=0)=y:=⟨_,rfl⟩;rw[hy]at bz HV;clear hy;obtain⟨ny,hny⟩:∃ny,(!y)=ny:=⟨_,rfl⟩;rw[hny]at bz;have Ue:=ah hny;clear hny;cases vr
  ·go_enter Tryz.func74,Tryz.ntmps74;go_wp2_with fail;refine(jg.out _).mono ?_;rintro e w3 ⟨rfl,rfl⟩;go_wp2;go_ret;exact⟨by rw[<-xE.out,HV.out];rfl,HK.out⟩
  ·go_enter Tryz.func74,Tryz.ntmps74;go_wp2_with fail;refine(jg.out _).mono ?_;rintro e w3 ⟨rfl,rfl⟩;go_wp2_with fail;refine(uf.out _).mono ?_;rintro e w4 ⟨rfl,rfl⟩;go_wp2;go_ret;exact⟨by rw[<-xE.out,HV.out,<-Ue.out];simp,HK.out⟩
 have H1:=ah hk;clear hk;by_cases hk:a.k=3
 ·have b0:(a.k==0)=false:=by simp[hk]
  have b1:(a.k==1)=false:=by simp[hk]
  have b3:(a.k==3)=true:=by simpa using hk
  have hv:v=(vr&&decide (vk=0)):=by rw[ug.out,hk];simp
  have HV:=ah hv;clear hv hk;have bz:(vk !=0)= !decide (vk=0):=by rw[Bool.eq_iff_iff];simp
  obtain⟨y,hy⟩:∃y,decide (vk=0)=y:=⟨_,rfl⟩;rw[hy]at bz HV;clear hy;obtain⟨ny,hny⟩:∃ny,(!y)=ny:=⟨_,rfl⟩;rw[hny]at bz;have Ue:=ah hny;clear hny;cases vr
  ·go_enter Tryz.func74,Tryz.ntmps74;go_wp2_with fail;refine(jg.out _).mono ?_;rintro e w3 ⟨rfl,rfl⟩;go_wp2;go_ret;exact⟨by rw[<-xE.out,HV.out];rfl,HK.out⟩
  ·go_enter Tryz.func74,Tryz.ntmps74;go_wp2_with fail;refine(jg.out _).mono ?_;rintro e w3 ⟨rfl,rfl⟩;go_wp2_with fail;refine(uf.out _).mono ?_;rintro e w4 ⟨rfl,rfl⟩;go_wp2;go_ret;exact⟨by rw[<-xE.out,HV.out,<-Ue.out];simp,HK.out⟩
 have H3:=ah hk;clear hk;by_cases hk:a.k=2
 ·have b0:(a.k==0)=false:=by simp[hk]
  have b1:(a.k==1)=false:=by simp[hk]
  have b3:(a.k==3)=false:=by simp[hk]
  have b2:(a.k==2)=true:=by simpa using hk
  have hv:v=(vr&&(decide (a.key.size<=8)&&(decide (a.to.size<=8)&&(decide (1<=a.n)&&decide (a.n<=32))))):=by rw[ug.out,hk];simp
  have HV:=ah hv;clear hv hk;cases vr
  ·go_enter Tryz.func74,Tryz.ntmps74;go_wp2_with fail;refine(jg.out _).mono ?_;rintro e w3 ⟨rfl,rfl⟩;go_wp2;go_ret;exact⟨by rw[<-xE.out,HV.out];rfl,HK.out⟩
  by_cases g0:a.key.size<=8;rotate_left
  ·have G:=ah g0;have G2:(8:Int)<((a.key.size:Nat):Int):=by omega
   clear g0;go_enter Tryz.func74,Tryz.ntmps74;go_wp2_with fail;refine(jg.out _).mono ?_;rintro e w3 ⟨rfl,rfl⟩;go_wp2;go_ret;exact⟨by rw[<-xE.out,HV.out];rw[decide_eq_false (show¬(a.key.size<=8) by have:=G.out;omega)];simp,HK.out⟩
  have Uf:=ah g0;have N0:¬(8:Int)<((a.key.size:Nat):Int):=by omega
  clear g0;by_cases g1:a.to.size<=8;rotate_left
  ·have G:=ah g1;have G2:(8:Int)<((a.to.size:Nat):Int):=by omega
   clear g1;go_enter Tryz.func74,Tryz.ntmps74;go_wp2_with fail;refine(jg.out _).mono ?_;rintro e w3 ⟨rfl,rfl⟩;go_wp2;go_ret;exact⟨by rw[<-xE.out,HV.out];rw[decide_eq_false (show¬(a.to.size<=8) by have:=G.out;omega)];simp,HK.out⟩
  have DW:=ah g1;have N1:¬(8:Int)<((a.to.size:Nat):Int):=by omega
  clear g1;by_cases g2:1<=a.n;rotate_left
  ·have G:=ah g2;have G2:a.n<1:=by omega
   clear g2;go_enter Tryz.func74,Tryz.ntmps74;go_wp2_with fail;refine(jg.out _).mono ?_;rintro e w3 ⟨rfl,rfl⟩;go_wp2;go_ret;exact⟨by rw[<-xE.out,HV.out];rw[decide_eq_false (show¬(1<=a.n) by have:=G.out;omega)];simp,HK.out⟩
  have KF:=ah g2;have N2:¬a.n<1:=by omega
  clear g2;by_cases g3:a.n<=32;rotate_left
  ·have G:=ah g3;have G2:32<a.n:=by omega
   clear g3;go_enter Tryz.func74,Tryz.ntmps74;go_wp2_with fail;refine(jg.out _).mono ?_;rintro e w3 ⟨rfl,rfl⟩;go_wp2;go_ret;exact⟨by rw[<-xE.out,HV.out];rw[decide_eq_false (show¬(a.n<=32) by have:=G.out;omega)];simp,HK.out⟩
  have YZ:=ah g3;have N3:¬32<a.n:=by omega
  clear g3;go_enter Tryz.func74,Tryz.ntmps74;go_wp2_with fail;refine(jg.out _).mono ?_;rintro e w3 ⟨rfl,rfl⟩;go_wp2;go_ret;exact⟨by rw[<-xE.out,HV.out];rw[decide_eq_true Uf.out,decide_eq_true DW.out,decide_eq_true KF.out,decide_eq_true YZ.out];simp[N0,N1,N2,N3],HK.out⟩
 have H2:=ah hk;clear hk;by_cases hk:a.k=5
 ·have b0:(a.k==0)=false:=by simp[hk]
  have b1:(a.k==1)=false:=by simp[hk]
  have b3:(a.k==3)=false:=by simp[hk]
  have b2:(a.k==2)=false:=by simp[hk]
  have b5:(a.k==5)=true:=by simpa using hk
  have hv:v=(decide (0<=a.n)&&decide (a.n<=1073741824)):=by rw[ug.out,hk];simp
  have HV:=ah hv;clear hv hk;by_cases g0:0<=a.n;rotate_left
  ·have G:=ah g0;have G2:a.n<0:=by omega
   clear g0;go_enter Tryz.func74,Tryz.ntmps74;go_wp2;go_ret;exact⟨by rw[<-xE.out,HV.out];rw[decide_eq_false (show¬(0<=a.n) by have:=G.out;omega)];simp,HK.out⟩
  have Uf:=ah g0;have N0:¬a.n<0:=by omega
  clear g0;by_cases g1:a.n<=1073741824;rotate_left
  ·have G:=ah g1;have G2:1073741824<a.n:=by omega
   clear g1;go_enter Tryz.func74,Tryz.ntmps74;go_wp2;go_ret;exact⟨by rw[<-xE.out,HV.out];rw[decide_eq_false (show¬(a.n<=1073741824) by have:=G.out;omega)];simp,HK.out⟩
  have DW:=ah g1;have N1:¬1073741824<a.n:=by omega
  clear g1;go_enter Tryz.func74,Tryz.ntmps74;go_wp2;go_ret;exact⟨by rw[<-xE.out,HV.out];rw[decide_eq_true Uf.out,decide_eq_true DW.out];rfl,HK.out⟩
 have H5:=ah hk;clear hk;by_cases hk:a.k=6
 ·have b0:(a.k==0)=false:=by simp[hk]
  have b1:(a.k==1)=false:=by simp[hk]
  have b3:(a.k==3)=false:=by simp[hk]
  have b2:(a.k==2)=false:=by simp[hk]
  have b5:(a.k==5)=false:=by simp[hk]
  have b6:(a.k==6)=true:=by simpa using hk
  have hv:v=(decide (0<=a.n)&&decide (a.n<=1073741824)):=by rw[ug.out,hk];simp
  have HV:=ah hv;clear hv hk;by_cases g0:0<=a.n;rotate_left
  ·have G:=ah g0;have G2:a.n<0:=by omega
   clear g0;go_enter Tryz.func74,Tryz.ntmps74;go_wp2;go_ret;exact⟨by rw[<-xE.out,HV.out];rw[decide_eq_false (show¬(0<=a.n) by have:=G.out;omega)];simp,HK.out⟩
  have Uf:=ah g0;have N0:¬a.n<0:=by omega
  clear g0;by_cases g1:a.n<=1073741824;rotate_left
  ·have G:=ah g1;have G2:1073741824<a.n:=by omega
   clear g1;go_enter Tryz.func74,Tryz.ntmps74;go_wp2;go_ret;exact⟨by rw[<-xE.out,HV.out];rw[decide_eq_false (show¬(a.n<=1073741824) by have:=G.out;omega)];simp,HK.out⟩
  have DW:=ah g1;have N1:¬1073741824<a.n:=by omega
  clear g1;go_enter Tryz.func74,Tryz.ntmps74;go_wp2;go_ret;exact⟨by rw[<-xE.out,HV.out];rw[decide_eq_true Uf.out,decide_eq_true DW.out];rfl,HK.out⟩
 have H6:=ah hk;clear hk;by_cases hk:a.k=4
 ·have b0:(a.k==0)=false:=by simp[hk]
  have b1:(a.k==1)=false:=by simp[hk]
  have b3:(a.k==3)=false:=by simp[hk]
  have b2:(a.k==2)=false:=by simp[hk]
  have b5:(a.k==5)=false:=by simp[hk]
  have b6:(a.k==6)=false:=by simp[hk]
  have b4:(a.k==4)=true:=by simpa using hk
  have hv:v=true:=by rw[ug.out,hk];simp
  have HV:=ah hv;clear hv hk;go_enter Tryz.func74,Tryz.ntmps74;go_wp2;go_ret;exact⟨by rw[<-xE.out,HV.out];rfl,HK.out⟩
 have H4:=ah hk;clear hk;have b0:(a.k==0)=false:=by simpa using H0.out
 have b1:(a.k==1)=false:=by simpa using H1.out
 have b3:(a.k==3)=false:=by simpa using H3.out
 have b2:(a.k==2)=false:=by simpa using H2.out
 have b5:(a.k==5)=false:=by simpa using H5.out
 have b6:(a.k==6)=false:=by simpa using H6.out
 have b4:(a.k==4)=false:=by simpa using H4.out
 have hv:v=false:=by rw[ug.out,if_neg H0.out,if_neg (fun e=>e.elim H1.out H3.out),if_neg H2.out,if_neg (fun e=>e.elim H5.out H6.out),decide_eq_false H4.out]
 have HV:=ah hv;clear hv;go_enter Tryz.func74,Tryz.ntmps74;go_wp2;go_ret;exact⟨by rw[<-xE.out,HV.out];rfl,HK.out⟩
def qC(w:World)(cl rq:Int)(a:iZ)(e:Ending)(w':World):Prop:=
 (newE cl rq a≠0->e=.returned (.tuple #[.pointer none,.int .i64 (newE cl rq a)])/\Kept aj w w')/\
 (newE cl rq a=0->∃X:DX,e=.returned (.tuple #[.pointer (some ⟨X.b,0,none⟩),.int .i64 0])/\kS w' X (newT cl rq a)/\(∀k,dN X (newT cl rq a) k->w.heap.size<=k)/\Kept aj w w')
theorem qC.bad{cl rq:Int}{a:iZ}{z:Int}(hz:newE cl rq a=z)(h0:z≠0)(hk:Kept aj w w'):qC w cl rq a (.returned (.tuple #[.pointer none,.int .i64 z])) w':=
 ⟨fun _=>⟨by rw[hz],hk⟩,fun e=>absurd (hz.symm.trans e) h0⟩
theorem yt{W:World}{cl rq:Int}{a:iZ}{tb:Nat}{A:Option Addr}{c:Nat}(hb:Has W tb 136 (lC ⟨tb,A,c,none,0,none,0⟩ (newT cl rq a)).toArray)
  (ho:W.ownsRow 0 143 3 (.slice A (fK a).length c) (fK a).length (cells (fK a))):kS W ⟨tb,A,c,none,0,none,0⟩ (newT cl rq a):=
 ⟨hb,ho,⟨rfl,.inl ⟨rfl,rfl⟩⟩,⟨rfl,.inl ⟨rfl,rfl⟩⟩,fun _=>⟨rfl,rfl,rfl⟩⟩
theorem Wv(w:World)(cl rq:Int)(a:iZ)(ha:uZ w a)(hl:a.ops.length<=1000):Calls Tryz.prog 41 #[.int .i64 cl,.int .i64 rq,pN a] w (qC w cl rq a):=by
 obtain⟨W0,hW0⟩:∃W0,w.alloc (.cells (bQ a).toArray 25)=W0:=⟨_,rfl⟩;have hk0:Kept aj w W0:=by rw[<-hW0];(repeat'(first|(with_reducible first|exact ay|apply aA|apply aB|apply aC|apply aF)|(right;simp;done)))
 have hn0:Has W0 w.heap.size 25 (bQ a).toArray:=by rw[<-hW0];exact Has.new _ _ _
 have u0:W0.cell? ⟨w.heap.size,0,none⟩=some (.int .i64 a.k):=hn0.cell 0;have u1:W0.cell? ⟨w.heap.size,1,none⟩=some (.int .i64 a.nd):=hn0.cell 1;have u2:W0.cell? ⟨w.heap.size,2,none⟩=some (.string a.key):=hn0.cell 2;have u3:W0.cell? ⟨w.heap.size,3,none⟩=some (.string a.to):=hn0.cell 3;have u4:W0.cell? ⟨w.heap.size,4,none⟩=some (.int .u64 a.at'):=hn0.cell 4;have u5:W0.cell? ⟨w.heap.size,5,none⟩=some (.int .i64 a.n):=hn0.cell 5;have u6:W0.cell? ⟨w.heap.size,6,none⟩=some (.slice a.A a.ops.length a.c):=hn0.cell 6;obtain⟨hs,hac,UY,hos,hik,UZ,hin,hat,hkl,htl⟩:=ha;have aS:=ah hk0;have dZ:=ah hn0;have uS:=ah hs;have zV:=ah hos;have Jb:=ah (And.intro hkl htl);have HL:=ah hl;have hne:newE cl rq a=if cl<0\/3<=cl then 1 else if rq<1\/1073741824<rq then 5 else if nJ cl rq (fK a) a=true then 0 else 1:=rfl;have lJ:=ah hne;unfold bQ at hW0;unfold pN bQ;clear hk0 hn0 hs hac UY hos hik UZ hin hat hkl htl hl hne;by_cases g1:cl<0
 ·have hz:newE cl rq a=1:=by rw[lJ.out];rw[if_pos (.inl g1)]
  have HZ:=ah hz;clear hz;go_enter Tryz.func41,Tryz.ntmps41;go_wp2;go_ret2;exact qC.bad HZ.out (by decide) (by(repeat'(first|(with_reducible first|exact ay|apply aA|apply aB|apply aC|apply aF)|(exact aS.out)|(right;simp;done))))
 by_cases g2:3<=cl
 ·have hz:newE cl rq a=1:=by rw[lJ.out];rw[if_pos (.inr g2)]
  have HZ:=ah hz;clear hz;go_enter Tryz.func41,Tryz.ntmps41;go_wp2;go_ret2;exact qC.bad HZ.out (by decide) (by(repeat'(first|(with_reducible first|exact ay|apply aA|apply aB|apply aC|apply aF)|(exact aS.out)|(right;simp;done))))
 by_cases g3:rq<1
 ·have hz:newE cl rq a=5:=by rw[lJ.out];rw[if_neg (by omega),if_pos (.inl g3)]
  have HZ:=ah hz;clear hz;go_enter Tryz.func41,Tryz.ntmps41;go_wp2;go_ret2;exact qC.bad HZ.out (by decide) (by(repeat'(first|(with_reducible first|exact ay|apply aA|apply aB|apply aC|apply aF)|(exact aS.out)|(right;simp;done))))
 by_cases g4:1073741824<rq
 ·have hz:newE cl rq a=5:=by rw[lJ.out];rw[if_neg (by omega),if_pos (.inr g4)]
  have HZ:=ah hz;clear hz;go_enter Tryz.func41,Tryz.ntmps41;go_wp2;go_ret2;exact qC.bad HZ.out (by decide) (by(repeat'(first|(with_reducible first|exact ay|apply aA|apply aB|apply aC|apply aF)|(exact aS.out)|(right;simp;done))))
 have hne2:newE cl rq a=if nJ cl rq (fK a) a=true then 0 else 1:=by rw[lJ.out,if_neg (by omega),if_neg (by omega)]
 have DY:=ah hne2;clear hne2;obtain⟨W1,hW1⟩:∃W1,W0.alloc (.cells #[.int .i64 cl,.int .i64 rq,.slice none 0 0] 59)=W1:=⟨_,rfl⟩;have hk1:Kept aj W0 W1:=by rw[<-hW1];(repeat'(first|(with_reducible first|exact ay|apply aA|apply aB|apply aC|apply aF)|(right;simp;done)))
 have hn1:Has W1 W0.heap.size 59 #[.int .i64 cl,.int .i64 rq,.slice none 0 0]:=by rw[<-hW1];exact Has.new _ _ _
 have hb1:=dZ.out.kept hk1 (fun z=>z);have w0:W1.cell? ⟨w.heap.size,0,none⟩=some (.int .i64 a.k):=hb1.cell 0;have w6:W1.cell? ⟨w.heap.size,6,none⟩=some (.slice a.A a.ops.length a.c):=hb1.cell 6;have HW1:=ah hW1;have iL:=ah hk1;have BF:=ah hn1;have HB1:=ah hb1;have hcb:∀W,Kept aj W1 W->W.cell? ⟨W0.heap.size,2,none⟩=some (.slice none 0 0)/\W.frozen? ⟨W0.heap.size,2,none⟩=false:=fun W hW=>⟨(hn1.kept hW (fun z=>z)).cell 2,(hn1.kept hW (fun z=>z)).frozen 2⟩;have cu:=ah hcb;clear hk1 hn1 hb1 hcb hW1;have hlt0:w.heap.size<W0.heap.size:=dZ.out.lt;by_cases h0:a.k=0;rotate_left
 ·have b0:(a.k==0)=false:=by simpa using h0
  have hn:(fK a)=[]:=by unfold fK;rw[if_neg h0]
  have hm:=G7 W1 cl rq none 0 [] a (Src.nil _ _ _) (Nat.le_refl _) Jb.out;obtain⟨v,hv⟩:∃v,nJ cl rq [] a=v:=⟨_,rfl⟩;have hz:newE cl rq a=if v=true then 0 else 1:=by rw[DY.out,hn,hv]
  have hkk:v=true->a.k=1\/a.k=2\/a.k=3\/a.k=4\/a.k=5\/a.k=6:=fun e=>by
   rw[e]at hv;unfold nJ at hv;rw[if_neg h0]at hv;by_cases h1:a.k=1\/a.k=3
   ·omega
   rw[if_neg h1]at hv;by_cases h2:a.k=2
   ·omega
   rw[if_neg h2]at hv;by_cases h5:a.k=5\/a.k=6
   ·omega
   rw[if_neg h5]at hv;have:=of_decide_eq_true hv;omega
  rw[hv]at hm;have HM:=ah hm;unfold pN bQ at HM;dsimp only[List.length_nil]at HM;have HN:=ah hn;have HZ:=ah hz;have qG:=ah HB1.out;have HCM:=ah BF.out;have qQ:=ah (aS.out.then iL.out);clear hm hv hn hz;cases v
  ·have HZ:=ah (show newE cl rq a=1 from HZ.out);clear h0 hkk;go_enter Tryz.func41,Tryz.ntmps41;go_wp2_with fail;rw[HW1.out];refine HM.out.mono ?_;rintro e w3 ⟨rfl,hk3⟩;go_wp2;go_ret2;exact qC.bad HZ.out (by decide) (qQ.out.then hk3)
  have HZ:=ah (show newE cl rq a=0 from HZ.out);by_cases k1:a.k=1
  ·have b1:(a.k==1)=true:=by simp[k1]
   have b2:(a.k==2)=false:=by simp[k1]
   have b4:(a.k==4)=false:=by simp[k1]
   have b5:(a.k==5)=false:=by simp[k1]
   have b6:(a.k==6)=false:=by simp[k1]
   have iV:iG a=1:=by unfold iG;rw[if_neg (by omega),if_pos (by omega)]
   have iK:=ah iV;clear iV h0 hkk k1;go_enter Tryz.func41,Tryz.ntmps41;go_wp2_with fail;rw[HW1.out];refine HM.out.mono ?_;rintro e w3 ⟨rfl,hk3⟩;have hb3:=qG.out.kept hk3 (fun z=>z);have hc3:=HCM.out.kept hk3 (fun z=>z);have dI:=ah hk3;have z0:=hb3.cell 0;have z1:=hb3.cell 1;have z2:=hb3.cell 2;have z3:=hb3.cell 3;have z4:=hb3.cell 4;have z5:=hb3.cell 5;have z6:=hb3.cell 6;simp[bQ]at z0 z1 z2 z3 z4 z5 z6;have c0:=hc3.cell 0;have c1:=hc3.cell 1;have c2:=hc3.cell 2;simp at c0 c1 c2;have l1:w.heap.size<w3.heap.size:=hb3.lt;have l2:W0.heap.size<w3.heap.size:=hc3.lt;clear hb3 hc3 hk3;go_wp2;go_ret2;refine⟨fun e=>absurd HZ.out e,fun _=>⟨⟨w3.heap.size,none,0,none,0,none,0⟩,rfl,yt ?_ ?_,(fun k hk=> ?_),?_⟩⟩
   ·have e9:(lC ⟨w3.heap.size,none,0,none,0,none,0⟩ (newT cl rq a)).toArray=#[.int .i64 cl,.int .i64 rq,.slice none 0 0,.int .i64 a.k,.int .i64 a.nd,.string a.key,.string a.to,.int .u64 a.at',.int .i64 a.n,.slice none 0 0,.int .i64 1,.int .u64 a.at',.string a.key,.slice none 0 0,.int .i64 0,.bool false,.int .i64 0,.int .i64 0,.int .u64 0,.int .i64 0,.slice none 0 0]:=by unfold lC newT;dsimp only;rw[HN.out,iK.out];rfl
    rw[e9];first|exact Has.new _ _ _|exact Has.drew (Has.new _ _ _)|(repeat (with_reducible first|exact Has.dQ _ _ _ (by simp)|apply Has.drew|apply Has.drewN|apply Has.alloc|(apply Has.past<;>(try omega))))
   ·rw[HN.out];exact⟨rfl,.inl ⟨rfl,rfl⟩⟩
   ·rcases hk with e|e|e|e
    ·rw[e];exact Nat.le_of_lt l1
    ·cases e
    ·rw[show(newT cl rq a).bo=[]from HN.out]at e;cases e
    ·cases e
   ·exact(qQ.out.then dI.out).trans (F:=aj) (G:=aj) (by(repeat'(first|(with_reducible first|exact ay|apply aA|apply aB|apply aC|apply aF)|(right;simp;done)))) (fun _ z=>z.elim)
  by_cases k2:a.k=2
  ·have b1:(a.k==1)=false:=by simp[k2]
   have b2:(a.k==2)=true:=by simp[k2]
   have b4:(a.k==4)=false:=by simp[k2]
   have b5:(a.k==5)=false:=by simp[k2]
   have b6:(a.k==6)=false:=by simp[k2]
   have iV:iG a=1:=by unfold iG;rw[if_neg (by omega),if_pos (by omega)]
   have iK:=ah iV;clear iV h0 hkk k1 k2;go_enter Tryz.func41,Tryz.ntmps41;go_wp2_with fail;rw[HW1.out];refine HM.out.mono ?_;rintro e w3 ⟨rfl,hk3⟩;have hb3:=qG.out.kept hk3 (fun z=>z);have hc3:=HCM.out.kept hk3 (fun z=>z);have dI:=ah hk3;have z0:=hb3.cell 0;have z1:=hb3.cell 1;have z2:=hb3.cell 2;have z3:=hb3.cell 3;have z4:=hb3.cell 4;have z5:=hb3.cell 5;have z6:=hb3.cell 6;simp[bQ]at z0 z1 z2 z3 z4 z5 z6;have c0:=hc3.cell 0;have c1:=hc3.cell 1;have c2:=hc3.cell 2;simp at c0 c1 c2;have l1:w.heap.size<w3.heap.size:=hb3.lt;have l2:W0.heap.size<w3.heap.size:=hc3.lt;clear hb3 hc3 hk3;go_wp2;go_ret2;refine⟨fun e=>absurd HZ.out e,fun _=>⟨⟨w3.heap.size,none,0,none,0,none,0⟩,rfl,yt ?_ ?_,(fun k hk=> ?_),?_⟩⟩
   ·have e9:(lC ⟨w3.heap.size,none,0,none,0,none,0⟩ (newT cl rq a)).toArray=#[.int .i64 cl,.int .i64 rq,.slice none 0 0,.int .i64 a.k,.int .i64 a.nd,.string a.key,.string a.to,.int .u64 a.at',.int .i64 a.n,.slice none 0 0,.int .i64 1,.int .u64 a.at',.string a.key,.slice none 0 0,.int .i64 0,.bool false,.int .i64 0,.int .i64 0,.int .u64 0,.int .i64 0,.slice none 0 0]:=by unfold lC newT;dsimp only;rw[HN.out,iK.out];rfl
    rw[e9];first|exact Has.new _ _ _|exact Has.drew (Has.new _ _ _)|(repeat (with_reducible first|exact Has.dQ _ _ _ (by simp)|apply Has.drew|apply Has.drewN|apply Has.alloc|(apply Has.past<;>(try omega))))
   ·rw[HN.out];exact⟨rfl,.inl ⟨rfl,rfl⟩⟩
   ·rcases hk with e|e|e|e
    ·rw[e];exact Nat.le_of_lt l1
    ·cases e
    ·rw[show(newT cl rq a).bo=[]from HN.out]at e;cases e
    ·cases e
   ·exact(qQ.out.then dI.out).trans (F:=aj) (G:=aj) (by(repeat'(first|(with_reducible first|exact ay|apply aA|apply aB|apply aC|apply aF)|(right;simp;done)))) (fun _ z=>z.elim)
  by_cases k3:a.k=3
  ·have b1:(a.k==1)=false:=by simp[k3]
   have b2:(a.k==2)=false:=by simp[k3]
   have b4:(a.k==4)=false:=by simp[k3]
   have b5:(a.k==5)=false:=by simp[k3]
   have b6:(a.k==6)=false:=by simp[k3]
   have iV:iG a=0:=by unfold iG;rw[if_pos (.inr k3)]
   have iK:=ah iV;clear iV h0 hkk k1 k2 k3;go_enter Tryz.func41,Tryz.ntmps41;go_wp2_with fail;rw[HW1.out];refine HM.out.mono ?_;rintro e w3 ⟨rfl,hk3⟩;have hb3:=qG.out.kept hk3 (fun z=>z);have hc3:=HCM.out.kept hk3 (fun z=>z);have dI:=ah hk3;have z0:=hb3.cell 0;have z1:=hb3.cell 1;have z2:=hb3.cell 2;have z3:=hb3.cell 3;have z4:=hb3.cell 4;have z5:=hb3.cell 5;have z6:=hb3.cell 6;simp[bQ]at z0 z1 z2 z3 z4 z5 z6;have c0:=hc3.cell 0;have c1:=hc3.cell 1;have c2:=hc3.cell 2;simp at c0 c1 c2;have l1:w.heap.size<w3.heap.size:=hb3.lt;have l2:W0.heap.size<w3.heap.size:=hc3.lt;clear hb3 hc3 hk3;go_wp2;go_ret2;refine⟨fun e=>absurd HZ.out e,fun _=>⟨⟨w3.heap.size,none,0,none,0,none,0⟩,rfl,yt ?_ ?_,(fun k hk=> ?_),?_⟩⟩
   ·have e9:(lC ⟨w3.heap.size,none,0,none,0,none,0⟩ (newT cl rq a)).toArray=#[.int .i64 cl,.int .i64 rq,.slice none 0 0,.int .i64 a.k,.int .i64 a.nd,.string a.key,.string a.to,.int .u64 a.at',.int .i64 a.n,.slice none 0 0,.int .i64 0,.int .u64 a.at',.string a.key,.slice none 0 0,.int .i64 0,.bool false,.int .i64 0,.int .i64 0,.int .u64 0,.int .i64 0,.slice none 0 0]:=by unfold lC newT;dsimp only;rw[HN.out,iK.out];rfl
    rw[e9];first|exact Has.new _ _ _|exact Has.drew (Has.new _ _ _)|(repeat (with_reducible first|exact Has.dQ _ _ _ (by simp)|apply Has.drew|apply Has.drewN|apply Has.alloc|(apply Has.past<;>(try omega))))
   ·rw[HN.out];exact⟨rfl,.inl ⟨rfl,rfl⟩⟩
   ·rcases hk with e|e|e|e
    ·rw[e];exact Nat.le_of_lt l1
    ·cases e
    ·rw[show(newT cl rq a).bo=[]from HN.out]at e;cases e
    ·cases e
   ·exact(qQ.out.then dI.out).trans (F:=aj) (G:=aj) (by(repeat'(first|(with_reducible first|exact ay|apply aA|apply aB|apply aC|apply aF)|(right;simp;done)))) (fun _ z=>z.elim)
  by_cases k4:a.k=4
  ·have b1:(a.k==1)=false:=by simp[k4]
   have b2:(a.k==2)=false:=by simp[k4]
   have b4:(a.k==4)=true:=by simp[k4]
   have b5:(a.k==5)=false:=by simp[k4]
   have b6:(a.k==6)=false:=by simp[k4]
   have iV:iG a=2:=by unfold iG;rw[if_neg (by omega),if_neg (by omega)]
   have iK:=ah iV;clear iV h0 hkk k1 k2 k3 k4;go_enter Tryz.func41,Tryz.ntmps41;go_wp2_with fail;rw[HW1.out];refine HM.out.mono ?_;rintro e w3 ⟨rfl,hk3⟩;have hb3:=qG.out.kept hk3 (fun z=>z);have hc3:=HCM.out.kept hk3 (fun z=>z);have dI:=ah hk3;have z0:=hb3.cell 0;have z1:=hb3.cell 1;have z2:=hb3.cell 2;have z3:=hb3.cell 3;have z4:=hb3.cell 4;have z5:=hb3.cell 5;have z6:=hb3.cell 6;simp[bQ]at z0 z1 z2 z3 z4 z5 z6;have c0:=hc3.cell 0;have c1:=hc3.cell 1;have c2:=hc3.cell 2;simp at c0 c1 c2;have l1:w.heap.size<w3.heap.size:=hb3.lt;have l2:W0.heap.size<w3.heap.size:=hc3.lt;clear hb3 hc3 hk3;go_wp2;go_ret2;refine⟨fun e=>absurd HZ.out e,fun _=>⟨⟨w3.heap.size,none,0,none,0,none,0⟩,rfl,yt ?_ ?_,(fun k hk=> ?_),?_⟩⟩
   ·have e9:(lC ⟨w3.heap.size,none,0,none,0,none,0⟩ (newT cl rq a)).toArray=#[.int .i64 cl,.int .i64 rq,.slice none 0 0,.int .i64 a.k,.int .i64 a.nd,.string a.key,.string a.to,.int .u64 a.at',.int .i64 a.n,.slice none 0 0,.int .i64 2,.int .u64 a.at',.string a.key,.slice none 0 0,.int .i64 0,.bool false,.int .i64 0,.int .i64 0,.int .u64 0,.int .i64 0,.slice none 0 0]:=by unfold lC newT;dsimp only;rw[HN.out,iK.out];rfl
    rw[e9];first|exact Has.new _ _ _|exact Has.drew (Has.new _ _ _)|(repeat (with_reducible first|exact Has.dQ _ _ _ (by simp)|apply Has.drew|apply Has.drewN|apply Has.alloc|(apply Has.past<;>(try omega))))
   ·rw[HN.out];exact⟨rfl,.inl ⟨rfl,rfl⟩⟩
   ·rcases hk with e|e|e|e
    ·rw[e];exact Nat.le_of_lt l1
    ·cases e
    ·rw[show(newT cl rq a).bo=[]from HN.out]at e;cases e
    ·cases e
   ·exact(qQ.out.then dI.out).trans (F:=aj) (G:=aj) (by(repeat'(first|(with_reducible first|exact ay|apply aA|apply aB|apply aC|apply aF)|(right;simp;done)))) (fun _ z=>z.elim)
  by_cases k5:a.k=5
  ·have b1:(a.k==1)=false:=by simp[k5]
   have b2:(a.k==2)=false:=by simp[k5]
   have b4:(a.k==4)=false:=by simp[k5]
   have b5:(a.k==5)=true:=by simp[k5]
   have b6:(a.k==6)=false:=by simp[k5]
   have iV:iG a=2:=by unfold iG;rw[if_neg (by omega),if_neg (by omega)]
   have iK:=ah iV;clear iV h0 hkk k1 k2 k3 k4 k5;go_enter Tryz.func41,Tryz.ntmps41;go_wp2_with fail;rw[HW1.out];refine HM.out.mono ?_;rintro e w3 ⟨rfl,hk3⟩;have hb3:=qG.out.kept hk3 (fun z=>z);have hc3:=HCM.out.kept hk3 (fun z=>z);have dI:=ah hk3;have z0:=hb3.cell 0;have z1:=hb3.cell 1;have z2:=hb3.cell 2;have z3:=hb3.cell 3;have z4:=hb3.cell 4;have z5:=hb3.cell 5;have z6:=hb3.cell 6;simp[bQ]at z0 z1 z2 z3 z4 z5 z6;have c0:=hc3.cell 0;have c1:=hc3.cell 1;have c2:=hc3.cell 2;simp at c0 c1 c2;have l1:w.heap.size<w3.heap.size:=hb3.lt;have l2:W0.heap.size<w3.heap.size:=hc3.lt;clear hb3 hc3 hk3;go_wp2;go_ret2;refine⟨fun e=>absurd HZ.out e,fun _=>⟨⟨w3.heap.size,none,0,none,0,none,0⟩,rfl,yt ?_ ?_,(fun k hk=> ?_),?_⟩⟩
   ·have e9:(lC ⟨w3.heap.size,none,0,none,0,none,0⟩ (newT cl rq a)).toArray=#[.int .i64 cl,.int .i64 rq,.slice none 0 0,.int .i64 a.k,.int .i64 a.nd,.string a.key,.string a.to,.int .u64 a.at',.int .i64 a.n,.slice none 0 0,.int .i64 2,.int .u64 a.at',.string a.key,.slice none 0 0,.int .i64 0,.bool false,.int .i64 0,.int .i64 0,.int .u64 0,.int .i64 0,.slice none 0 0]:=by unfold lC newT;dsimp only;rw[HN.out,iK.out];rfl
    rw[e9];first|exact Has.new _ _ _|exact Has.drew (Has.new _ _ _)|(repeat (with_reducible first|exact Has.dQ _ _ _ (by simp)|apply Has.drew|apply Has.drewN|apply Has.alloc|(apply Has.past<;>(try omega))))
   ·rw[HN.out];exact⟨rfl,.inl ⟨rfl,rfl⟩⟩
   ·rcases hk with e|e|e|e
    ·rw[e];exact Nat.le_of_lt l1
    ·cases e
    ·rw[show(newT cl rq a).bo=[]from HN.out]at e;cases e
    ·cases e
   ·exact(qQ.out.then dI.out).trans (F:=aj) (G:=aj) (by(repeat'(first|(with_reducible first|exact ay|apply aA|apply aB|apply aC|apply aF)|(right;simp;done)))) (fun _ z=>z.elim)
  by_cases k6:a.k=6
  ·have b1:(a.k==1)=false:=by simp[k6]
   have b2:(a.k==2)=false:=by simp[k6]
   have b4:(a.k==4)=false:=by simp[k6]
   have b5:(a.k==5)=false:=by simp[k6]
   have b6:(a.k==6)=true:=by simp[k6]
   have iV:iG a=2:=by unfold iG;rw[if_neg (by omega),if_neg (by omega)]
   have iK:=ah iV;clear iV h0 hkk k1 k2 k3 k4 k5 k6;go_enter Tryz.func41,Tryz.ntmps41;go_wp2_with fail;rw[HW1.out];refine HM.out.mono ?_;rintro e w3 ⟨rfl,hk3⟩;have hb3:=qG.out.kept hk3 (fun z=>z);have hc3:=HCM.out.kept hk3 (fun z=>z);have dI:=ah hk3;have z0:=hb3.cell 0;have z1:=hb3.cell 1;have z2:=hb3.cell 2;have z3:=hb3.cell 3;have z4:=hb3.cell 4;have z5:=hb3.cell 5;have z6:=hb3.cell 6;simp[bQ]at z0 z1 z2 z3 z4 z5 z6;have c0:=hc3.cell 0;have c1:=hc3.cell 1;have c2:=hc3.cell 2;simp at c0 c1 c2;have l1:w.heap.size<w3.heap.size:=hb3.lt;have l2:W0.heap.size<w3.heap.size:=hc3.lt;clear hb3 hc3 hk3;go_wp2;go_ret2;refine⟨fun e=>absurd HZ.out e,fun _=>⟨⟨w3.heap.size,none,0,none,0,none,0⟩,rfl,yt ?_ ?_,(fun k hk=> ?_),?_⟩⟩
   ·have e9:(lC ⟨w3.heap.size,none,0,none,0,none,0⟩ (newT cl rq a)).toArray=#[.int .i64 cl,.int .i64 rq,.slice none 0 0,.int .i64 a.k,.int .i64 a.nd,.string a.key,.string a.to,.int .u64 a.at',.int .i64 a.n,.slice none 0 0,.int .i64 2,.int .u64 a.at',.string a.key,.slice none 0 0,.int .i64 0,.bool false,.int .i64 0,.int .i64 0,.int .u64 0,.int .i64 0,.slice none 0 0]:=by unfold lC newT;dsimp only;rw[HN.out,iK.out];rfl
    rw[e9];first|exact Has.new _ _ _|exact Has.drew (Has.new _ _ _)|(repeat (with_reducible first|exact Has.dQ _ _ _ (by simp)|apply Has.drew|apply Has.drewN|apply Has.alloc|(apply Has.past<;>(try omega))))
   ·rw[HN.out];exact⟨rfl,.inl ⟨rfl,rfl⟩⟩
   ·rcases hk with e|e|e|e
    ·rw[e];exact Nat.le_of_lt l1
    ·cases e
    ·rw[show(newT cl rq a).bo=[]from HN.out]at e;cases e
    ·cases e
   ·exact(qQ.out.then dI.out).trans (F:=aj) (G:=aj) (by(repeat'(first|(with_reducible first|exact ay|apply aA|apply aB|apply aC|apply aF)|(right;simp;done)))) (fun _ z=>z.elim)
  have:=hkk rfl;omega
 ·have b0:(a.k==0)=true:=by simpa using h0
  have b1:(a.k==1)=false:=by simp[h0]
  have b2:(a.k==2)=false:=by simp[h0]
  have b4:(a.k==4)=false:=by simp[h0]
  have b5:(a.k==5)=false:=by simp[h0]
  have b6:(a.k==6)=false:=by simp[h0]
  have hno:=Ri W1 a.A a.c a.ops (uS.out.kept (aS.out.then iL.out) (fun _ _ z=>z)) HL.out;have pX:fK a=rM a.ops:=by unfold fK;rw[if_pos h0]
  obtain⟨n,hn⟩:∃n,(fK a).length=n:=⟨_,rfl⟩;unfold Gn bV at hno;rw[<-pX,hn]at hno;have iV:iG a=0:=by unfold iG;rw[if_pos (.inl h0)]
  have iK:=ah iV;have oP:=ah hno;have qZ:=ah hn;clear hno hn pX h0 iV;go_enter Tryz.func41,Tryz.ntmps41;go_wp2_with fail;rw[HW1.out];refine oP.out.mono ?_;rintro e w2 ⟨B,bc,rfl,⟨hob,hnb⟩,hk2⟩;have hc2:=BF.out.kept hk2 (fun z=>z);obtain⟨Wm,Gy⟩:∃Wm,w2.setCell ⟨W0.heap.size,2,none⟩ (.slice B n bc)=Wm:=⟨_,rfl⟩;obtain⟨Rw,Rx⟩:=cu.out w2 hk2;have hkm:Kept (fun k=>k=W0.heap.size) w2 Wm:=by rw[<-Gy];(repeat'(first|(with_reducible first|exact ay|apply aA|apply aB|apply aC|apply aF)|(exact .inl rfl)|(right;simp;done)))
  have HCM:=ah (show Has Wm W0.heap.size 59 #[.int .i64 cl,.int .i64 rq,.slice B n bc] by rw[<-Gy];exact hc2.aQ rfl);have qG:=ah ((HB1.out.kept hk2 (fun z=>z)).kept hkm (fun e=>by have:=dZ.out.lt;omega));have vX:=ah (show Wm.ownsRow 0 143 3 (.slice B (fK a).length bc) (fK a).length (cells (fK a))from by rw[qZ.out];exact aP hob hkm (fun k hk e=>own_ne hob hc2 (by decide) (e▸hk)));have tY:=ah (show∀k,(Value.slice B n bc).ownBlock=some k->w.heap.size<=k from fun k hk=>Nat.le_trans (aS.out.then iL.out).size (hnb k hk));have qQ:=ah (show Kept aj w Wm from((aS.out.then iL.out).then hk2).trans hkm (fun i hi=> .inr (by rw[hi];exact aS.out.size)));have d0:Wm.cell? ⟨w.heap.size,0,none⟩=some (.int .i64 a.k):=qG.out.cell 0;have d1:Wm.cell? ⟨w.heap.size,1,none⟩=some (.int .i64 a.nd):=qG.out.cell 1;have d2:Wm.cell? ⟨w.heap.size,2,none⟩=some (.string a.key):=qG.out.cell 2;have d3:Wm.cell? ⟨w.heap.size,3,none⟩=some (.string a.to):=qG.out.cell 3;have d4:Wm.cell? ⟨w.heap.size,4,none⟩=some (.int .u64 a.at'):=qG.out.cell 4;have d5:Wm.cell? ⟨w.heap.size,5,none⟩=some (.int .i64 a.n):=qG.out.cell 5;have d6:Wm.cell? ⟨w.heap.size,6,none⟩=some (.slice a.A a.ops.length a.c):=qG.out.cell 6;have x0:Wm.cell? ⟨W0.heap.size,0,none⟩=some (.int .i64 cl):=HCM.out.cell 0;have x1:Wm.cell? ⟨W0.heap.size,1,none⟩=some (.int .i64 rq):=HCM.out.cell 1;have x2:Wm.cell? ⟨W0.heap.size,2,none⟩=some (.slice B n bc):=HCM.out.cell 2;have hm:=G7 Wm cl rq B bc (fK a) a (Src.fA vX.out) (mM vX.out).1 Jb.out;obtain⟨v,hv⟩:∃v,nJ cl rq (fK a) a=v:=⟨_,rfl⟩;rw[hv,qZ.out]at hm;have HM:=ah hm;unfold pN bQ at HM;have hz:newE cl rq a=if v=true then 0 else 1:=by rw[DY.out,hv]
  have HZ:=ah hz;clear hm hv hz hob hnb hk2 hc2 hkm u0 u1 u2 u3 u4 u5 u6 w0 w6;cases v
  ·go_wp2_with fail;clear Gy Rw Rx d0 d1 d2 d3 d4 d5 d6 x0 x1 x2;refine HM.out.mono ?_;rintro e w3 ⟨rfl,hk3⟩;have HZ:=ah (show newE cl rq a=1 from HZ.out);go_wp2;go_ret2;exact qC.bad HZ.out (by decide) (qQ.out.then hk3)
  have HZ:=ah (show newE cl rq a=0 from HZ.out);go_wp2_with fail;clear Gy Rw Rx d0 d1 d2 d3 d4 d5 d6 x0 x1 x2;refine HM.out.mono ?_;rintro e w3 ⟨rfl,hk3⟩;have hb3:=qG.out.kept hk3 (fun z=>z);have hc3:=HCM.out.kept hk3 (fun z=>z);have dI:=ah hk3;have z0:=hb3.cell 0;have z1:=hb3.cell 1;have z2:=hb3.cell 2;have z3:=hb3.cell 3;have z4:=hb3.cell 4;have z5:=hb3.cell 5;have z6:=hb3.cell 6;simp[bQ]at z0 z1 z2 z3 z4 z5 z6;have c0:=hc3.cell 0;have c1:=hc3.cell 1;have c2:=hc3.cell 2;simp at c0 c1 c2;have l1:w.heap.size<w3.heap.size:=hb3.lt;have l2:W0.heap.size<w3.heap.size:=hc3.lt;clear hb3 hc3 hk3;go_wp2;go_ret2;refine⟨fun e=>absurd HZ.out e,fun _=>⟨⟨w3.heap.size,B,bc,none,0,none,0⟩,rfl,yt ?_ ?_,(fun k hk=> ?_),?_⟩⟩
  ·have e9:(lC ⟨w3.heap.size,B,bc,none,0,none,0⟩ (newT cl rq a)).toArray=#[.int .i64 cl,.int .i64 rq,.slice B n bc,.int .i64 a.k,.int .i64 a.nd,.string a.key,.string a.to,.int .u64 a.at',.int .i64 a.n,.slice none 0 0,.int .i64 0,.int .u64 a.at',.string a.key,.slice none 0 0,.int .i64 0,.bool false,.int .i64 0,.int .i64 0,.int .u64 0,.int .i64 0,.slice none 0 0]:=by unfold lC newT;dsimp only;rw[qZ.out,iK.out];rfl
   rw[e9];first|exact Has.new _ _ _|exact Has.drew (Has.new _ _ _)|(repeat (with_reducible first|exact Has.dQ _ _ _ (by simp)|apply Has.drew|apply Has.drewN|apply Has.alloc|(apply Has.past<;>(try omega))))
  ·exact aP (vX.out) (F:=aj) (Kept.then dI.out (by(repeat'(first|(with_reducible first|exact ay|apply aA|apply aB|apply aC|apply aF)|(right;simp;done))))) (fun _ _ z=>z)
  ·rcases hk with e|e|e|e
   ·rw[e];exact Nat.le_of_lt l1
   ·cases e
   ·exact tY.out k (by have e2:(Value.slice B (fK a).length bc).ownBlock=some k:=e;rwa[qZ.out]at e2)
   ·cases e
  ·exact(qQ.out.then dI.out).trans (F:=aj) (G:=aj) (by(repeat'(first|(with_reducible first|exact ay|apply aA|apply aB|apply aC|apply aF)|(right;simp;done)))) (fun _ z=>z.elim)
