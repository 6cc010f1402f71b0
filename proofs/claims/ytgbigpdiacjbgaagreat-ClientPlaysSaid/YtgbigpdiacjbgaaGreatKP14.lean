/- Part 15. -/
import Derived.Test.YtgbigpdiacjbgaaGreatKP13
set_option linter.unusedSimpArgs false
set_option linter.unusedVariables false
set_option maxHeartbeats 32000000
set_option maxRecDepth 100000
namespace Go.Proofs.YtgbigpdiacjbgaaGreat
open Go.RowKit
namespace Ask
open bg Ops fG eP MO Vn
def uU(cl rq:Int)(B:Option Addr)(bc:Nat)(bo:List dU)(a:iZ):List Value:=[.int .i64 cl,.int .i64 rq,.slice B bo.length bc]++bQ a
section
variable{w w':World}
theorem XK(w:World)(s:ByteArray):Calls Tryz.prog 86 #[.string s] w fun e w'=>e=.returned (.int .i64 (keyE s))/\w=w':=zl s w
theorem BK(w:World)(cl rq:Int)(B:Option Addr)(bc:Nat)(bo:List dU)(a:iZ)(hb:Src w 3 B bo.length (cells bo))(hka:a.key.size<=maxLen/\a.to.size<=maxLen):
  Calls Tryz.prog 51 #[.agg (uU cl rq B bc bo a).toArray] w fun e w'=>e=.returned (.bool (nJ cl rq bo a))/\Kept aj w w':=by
 obtain⟨W0,hW0⟩:∃W0,w.alloc (.cells (uU cl rq B bc bo a).toArray 103)=W0:=⟨_,rfl⟩;have hk0:Kept aj w W0:=by rw[<-hW0];(repeat'(first|(with_reducible first|exact ay|apply aA|apply aB|apply aC|apply aF)|(right;simp;done)))
 have hn0:Has W0 w.heap.size 103 (uU cl rq B bc bo a).toArray:=by rw[<-hW0];exact Has.new _ _ _
 obtain⟨W1,hW1⟩:∃W1,W0.alloc (.cells (bQ a).toArray 25)=W1:=⟨_,rfl⟩;have hk1:Kept aj W0 W1:=by rw[<-hW1];(repeat'(first|(with_reducible first|exact ay|apply aA|apply aB|apply aC|apply aF)|(right;simp;done)))
 have hn1:Has W1 W0.heap.size 25 (bQ a).toArray:=by rw[<-hW1];exact Has.new _ _ _
 have yU:=hn0.kept hk1 (fun z=>z);have c3:W0.cell? ⟨w.heap.size,3,none⟩=some (.int .i64 a.k):=hn0.cell 3;have c4:W0.cell? ⟨w.heap.size,4,none⟩=some (.int .i64 a.nd):=hn0.cell 4;have c5:W0.cell? ⟨w.heap.size,5,none⟩=some (.string a.key):=hn0.cell 5;have c6:W0.cell? ⟨w.heap.size,6,none⟩=some (.string a.to):=hn0.cell 6;have c7:W0.cell? ⟨w.heap.size,7,none⟩=some (.int .u64 a.at'):=hn0.cell 7;have c8:W0.cell? ⟨w.heap.size,8,none⟩=some (.int .i64 a.n):=hn0.cell 8;have c9:W0.cell? ⟨w.heap.size,9,none⟩=some (.slice a.A a.ops.length a.c):=hn0.cell 9;have q0:W1.cell? ⟨W0.heap.size,0,none⟩=some (.int .i64 a.k):=hn1.cell 0;have q1:W1.cell? ⟨W0.heap.size,1,none⟩=some (.int .i64 a.nd):=hn1.cell 1;have q2:W1.cell? ⟨W0.heap.size,2,none⟩=some (.string a.key):=hn1.cell 2;have q3:W1.cell? ⟨W0.heap.size,3,none⟩=some (.string a.to):=hn1.cell 3;have q5:W1.cell? ⟨W0.heap.size,5,none⟩=some (.int .i64 a.n):=hn1.cell 5;have d0:W1.cell? ⟨w.heap.size,0,none⟩=some (.int .i64 cl):=yU.cell 0;have d1:W1.cell? ⟨w.heap.size,1,none⟩=some (.int .i64 rq):=yU.cell 1;have d2:W1.cell? ⟨w.heap.size,2,none⟩=some (.slice B bo.length bc):=yU.cell 2;have iy:=wI W1 ⟨cl,rq,bo⟩ B bc (hb.kept (hk0.then hk1) (fun _ _ z=>z));have hrep:=fun W=>EY W a.nd;have hkey:=fun W=>XK W a.key;obtain⟨vr,KE⟩:∃vr,decide (0<=a.nd/\a.nd<4)=vr:=⟨_,rfl⟩;simp only[KE]at hrep;obtain⟨vk,hvk⟩:∃vk,keyE a.key=vk:=⟨_,rfl⟩;simp only[hvk]at hkey;have hl5:a.key.size<=9223372036854775807:=by have:=hka.1;unfold maxLen at this;omega
 have hl6:a.to.size<=9223372036854775807:=by have:=hka.2;unfold maxLen at this;omega
 have HK:=ah (hk0.then hk1);have nX:=ah iy;have jg:=ah hrep;have uf:=ah hkey;have hmay:nJ cl rq bo a=if a.k=0 then decide (Ops.chk ⟨cl,rq,bo⟩=0)else if a.k=1\/a.k=3 then vr&&decide (vk=0)else if a.k=2 then vr&&(decide (a.key.size<=8)&&(decide (a.to.size<=8)&&(decide (1<=a.n)&&decide (a.n<=32))))else if a.k=5\/a.k=6 then decide (0<=a.n)&&decide (a.n<=1073741824)else decide (a.k=4):=by unfold nJ;rw[KE,hvk]
 obtain⟨v,hv⟩:∃v,nJ cl rq bo a=v:=⟨_,rfl⟩;rw[hv]at hmay⊢;have ug:=ah hmay;unfold uU bQ at hW0;unfold bQ at hW1;simp only[List.cons_append,List.nil_append]at hW0;unfold uU bQ;simp only[List.cons_append,List.nil_append];clear hk0 hn0 hk1 hn1 yU iy hrep hkey KE hvk hb hka hmay hv;by_cases hk:a.k=0
 ·have b0:(a.k==0)=true:=by simpa using hk
  have hv:v=decide (Ops.chk ⟨cl,rq,bo⟩=0):=by rw[ug.out,hk];simp
  have HV:=ah hv;clear hv hk;obtain⟨z,hz⟩:∃z,Ops.chk ⟨cl,rq,bo⟩=z:=⟨_,rfl⟩;rw[hz]at nX HV;clear hz;have bz:(z==0)=decide (z=0):=by rw[Bool.eq_iff_iff];simp
  obtain⟨y,hy⟩:∃y,decide (z=0)=y:=⟨_,rfl⟩;rw[hy]at bz HV;clear hy;go_enter Tryz.func51,Tryz.ntmps51;go_wp2_with fail;refine nX.out.mono ?_;rintro e w3 ⟨rfl,hk3⟩;have dI:=ah hk3;clear hk3;go_wp2;go_ret;exact⟨by rw[HV.out];rfl,HK.out.then dI.out⟩
 have H0:=ah hk;clear hk;by_cases hk:a.k=1
 ·have b0:(a.k==0)=false:=by simp[hk]
  have b1:(a.k==1)=true:=by simpa using hk
  have hv:v=(vr&&decide (vk=0)):=by rw[ug.out,hk];simp
  have HV:=ah hv;clear hv hk;have bz:(vk==0)=decide (vk=0):=by rw[Bool.eq_iff_iff];simp
  obtain⟨y,hy⟩:∃y,decide (vk=0)=y:=⟨_,rfl⟩;rw[hy]at bz HV;clear hy;cases vr
  ·go_enter Tryz.func51,Tryz.ntmps51;go_wp2_with fail;refine(jg.out _).mono ?_;rintro e w3 ⟨rfl,rfl⟩;go_wp2;go_ret;exact⟨by rw[HV.out];rfl,HK.out⟩
  ·go_enter Tryz.func51,Tryz.ntmps51;go_wp2_with fail;refine(jg.out _).mono ?_;rintro e w3 ⟨rfl,rfl⟩;go_wp2_with fail;refine(uf.out _).mono ?_;rintro e w4 ⟨rfl,rfl⟩;go_wp2;go_ret;exact⟨by rw[HV.out];simp,HK.out⟩
 have H1:=ah hk;clear hk;by_cases hk:a.k=3
 ·have b0:(a.k==0)=false:=by simp[hk]
  have b1:(a.k==1)=false:=by simp[hk]
  have b3:(a.k==3)=true:=by simpa using hk
  have hv:v=(vr&&decide (vk=0)):=by rw[ug.out,hk];simp
  have HV:=ah hv;clear hv hk;have bz:(vk==0)=decide (vk=0):=by rw[Bool.eq_iff_iff];simp
  obtain⟨y,hy⟩:∃y,decide (vk=0)=y:=⟨_,rfl⟩;rw[hy]at bz HV;clear hy;cases vr
  ·go_enter Tryz.func51,Tryz.ntmps51;go_wp2_with fail;refine(jg.out _).mono ?_;rintro e w3 ⟨rfl,rfl⟩;go_wp2;go_ret;exact⟨by rw[HV.out];rfl,HK.out⟩
  ·go_enter Tryz.func51,Tryz.ntmps51;go_wp2_with fail;refine(jg.out _).mono ?_;rintro e w3 ⟨rfl,rfl⟩;go_wp2_with fail;refine(uf.out _).mono ?_;rintro e w4 ⟨rfl,rfl⟩;go_wp2;go_ret;exact⟨by rw[HV.out];simp,HK.out⟩
 have H3:=ah hk;clear hk;by_cases hk:a.k=2
 ·have b0:(a.k==0)=false:=by simp[hk]
  have b1:(a.k==1)=false:=by simp[hk]
  have b3:(a.k==3)=false:=by simp[hk]
  have b2:(a.k==2)=true:=by simpa using hk
  have hv:v=(vr&&(decide (a.key.size<=8)&&(decide (a.to.size<=8)&&(decide (1<=a.n)&&decide (a.n<=32))))):=by rw[ug.out,hk];simp
  have HV:=ah hv;clear hv hk;cases vr
  ·go_enter Tryz.func51,Tryz.ntmps51;go_wp2_with fail;refine(jg.out _).mono ?_;rintro e w3 ⟨rfl,rfl⟩;go_wp2;go_ret;exact⟨by rw[HV.out];rfl,HK.out⟩
  by_cases g1:a.key.size<=8;rotate_left
  ·have G:=ah g1;have G2:¬((a.key.size:Nat):Int)<=8:=by omega
   go_enter Tryz.func51,Tryz.ntmps51;go_wp2_with fail;refine(jg.out _).mono ?_;rintro e w3 ⟨rfl,rfl⟩;go_wp2;go_ret;exact⟨by rw[HV.out];rw[decide_eq_false (show¬(a.key.size<=8) by have:=G.out;omega)];simp,HK.out⟩
  have DW:=ah g1;have Ng1:((a.key.size:Nat):Int)<=8:=by omega
  by_cases g2:a.to.size<=8;rotate_left
  ·have G:=ah g2;have G2:¬((a.to.size:Nat):Int)<=8:=by omega
   go_enter Tryz.func51,Tryz.ntmps51;go_wp2_with fail;refine(jg.out _).mono ?_;rintro e w3 ⟨rfl,rfl⟩;go_wp2;go_ret;exact⟨by rw[HV.out];rw[decide_eq_false (show¬(a.to.size<=8) by have:=G.out;omega)];simp,HK.out⟩
  have KF:=ah g2;have Ng2:((a.to.size:Nat):Int)<=8:=by omega
  by_cases g3:1<=a.n;rotate_left
  ·have G:=ah g3;go_enter Tryz.func51,Tryz.ntmps51;go_wp2_with fail;refine(jg.out _).mono ?_;rintro e w3 ⟨rfl,rfl⟩;go_wp2;go_ret;exact⟨by rw[HV.out];rw[decide_eq_false (show¬(1<=a.n) by have:=G.out;omega)];simp,HK.out⟩
  have YZ:=ah g3;by_cases g4:a.n<=32;rotate_left
  ·have G:=ah g4;go_enter Tryz.func51,Tryz.ntmps51;go_wp2_with fail;refine(jg.out _).mono ?_;rintro e w3 ⟨rfl,rfl⟩;go_wp2;go_ret;exact⟨by rw[HV.out];rw[decide_eq_false (show¬(a.n<=32) by have:=G.out;omega)];simp,HK.out⟩
  have Gg4:=ah g4;go_enter Tryz.func51,Tryz.ntmps51;go_wp2_with fail;refine(jg.out _).mono ?_;rintro e w3 ⟨rfl,rfl⟩;go_wp2;go_ret;exact⟨by rw[HV.out];rw[decide_eq_true DW.out,decide_eq_true KF.out,decide_eq_true YZ.out,decide_eq_true Gg4.out];rfl,HK.out⟩
 have H2:=ah hk;clear hk;by_cases hk:a.k=5
 ·have b0:(a.k==0)=false:=by simp[hk]
  have b1:(a.k==1)=false:=by simp[hk]
  have b3:(a.k==3)=false:=by simp[hk]
  have b2:(a.k==2)=false:=by simp[hk]
  have b5:(a.k==5)=true:=by simpa using hk
  have hv:v=(decide (0<=a.n)&&decide (a.n<=1073741824)):=by rw[ug.out,hk];simp
  have HV:=ah hv;clear hv hk;by_cases g1:0<=a.n;rotate_left
  ·have G:=ah g1;go_enter Tryz.func51,Tryz.ntmps51;go_wp2;go_ret;exact⟨by rw[HV.out];rw[decide_eq_false (show¬(0<=a.n) by have:=G.out;omega)];rfl,HK.out⟩
  have DW:=ah g1;by_cases g2:a.n<=1073741824;rotate_left
  ·have G:=ah g2;go_enter Tryz.func51,Tryz.ntmps51;go_wp2;go_ret;exact⟨by rw[HV.out];rw[decide_eq_false (show¬(a.n<=1073741824) by have:=G.out;omega)];simp,HK.out⟩
  have KF:=ah g2;go_enter Tryz.func51,Tryz.ntmps51;go_wp2;go_ret;exact⟨by rw[HV.out];rw[decide_eq_true DW.out,decide_eq_true KF.out];rfl,HK.out⟩
 have H5:=ah hk;clear hk;by_cases hk:a.k=6
 ·have b0:(a.k==0)=false:=by simp[hk]
  have b1:(a.k==1)=false:=by simp[hk]
  have b3:(a.k==3)=false:=by simp[hk]
  have b2:(a.k==2)=false:=by simp[hk]
  have b5:(a.k==5)=false:=by simp[hk]
  have b6:(a.k==6)=true:=by simpa using hk
  have hv:v=(decide (0<=a.n)&&decide (a.n<=1073741824)):=by rw[ug.out,hk];simp
  have HV:=ah hv;clear hv hk;by_cases g1:0<=a.n;rotate_left
  ·have G:=ah g1;go_enter Tryz.func51,Tryz.ntmps51;go_wp2;go_ret;exact⟨by rw[HV.out];rw[decide_eq_false (show¬(0<=a.n) by have:=G.out;omega)];rfl,HK.out⟩
  have DW:=ah g1;by_cases g2:a.n<=1073741824;rotate_left
  ·have G:=ah g2;go_enter Tryz.func51,Tryz.ntmps51;go_wp2;go_ret;exact⟨by rw[HV.out];rw[decide_eq_false (show¬(a.n<=1073741824) by have:=G.out;omega)];simp,HK.out⟩
  have KF:=ah g2;go_enter Tryz.func51,Tryz.ntmps51;go_wp2;go_ret;exact⟨by rw[HV.out];rw[decide_eq_true DW.out,decide_eq_true KF.out];rfl,HK.out⟩
 have H6:=ah hk;clear hk;by_cases hk:a.k=4
 ·have b0:(a.k==0)=false:=by simp[hk]
  have b1:(a.k==1)=false:=by simp[hk]
  have b3:(a.k==3)=false:=by simp[hk]
  have b2:(a.k==2)=false:=by simp[hk]
  have b5:(a.k==5)=false:=by simp[hk]
  have b6:(a.k==6)=false:=by simp[hk]
  have b4:(a.k==4)=true:=by simpa using hk
  have hv:v=true:=by rw[ug.out,hk];simp
  have HV:=ah hv;clear hv hk;go_enter Tryz.func51,Tryz.ntmps51;go_wp2;go_ret;exact⟨by rw[HV.out];rfl,HK.out⟩
 have H4:=ah hk;clear hk;have b0:(a.k==0)=false:=by simpa using H0.out
 have b1:(a.k==1)=false:=by simpa using H1.out
 have b3:(a.k==3)=false:=by simpa using H3.out
 have b2:(a.k==2)=false:=by simpa using H2.out
 have b5:(a.k==5)=false:=by simpa using H5.out
 have b6:(a.k==6)=false:=by simpa using H6.out
 have b4:(a.k==4)=false:=by simpa using H4.out
 have hv:v=false:=by rw[ug.out,if_neg H0.out,if_neg (fun e=>e.elim H1.out H3.out),if_neg H2.out,if_neg (fun e=>e.elim H5.out H6.out),decide_eq_false H4.out]
 have HV:=ah hv;clear hv;go_enter Tryz.func51,Tryz.ntmps51;go_wp2;go_ret;exact⟨by rw[HV.out];rfl,HK.out⟩
def nY(w:World)(cl rq:Int)(a:iZ)(e:Ending)(w':World):Prop:=
 (newE cl rq a≠0->e=.returned (.tuple #[.pointer none,.int .i64 (newE cl rq a)])/\Kept aj w w')/\
 (newE cl rq a=0->∃X,e=.returned (.tuple #[.pointer (some ⟨X.b,0,none⟩),.int .i64 0])/\kN w' X (newT cl rq a)/\(∀k,jW X (newT cl rq a) k->w.heap.size<=k)/\Kept aj w w')
theorem nY.bad{cl rq:Int}{a:iZ}{z:Int}(hz:newE cl rq a=z)(h0:z≠0)(hk:Kept aj w w'):nY w cl rq a (.returned (.tuple #[.pointer none,.int .i64 z])) w':=
 ⟨fun _=>⟨by rw[hz],hk⟩,fun e=>absurd (hz.symm.trans e) h0⟩
theorem Ia{W:World}{cl rq:Int}{a:iZ}{tb:Nat}{A:Option Addr}{c:Nat}(iV:iG a≠1)(hb:Has W tb 109 #[pI ⟨tb,tb,A,c,none,0,none,0⟩ (newT cl rq a),.int .i64 rq,.int .i64 0,.bool false,.int .i64 0,.int .i64 0,.int .u64 0,.int .i64 0,.slice none 0 0])
  (ho:W.ownsRow 0 143 3 (.slice A (fK a).length c) (fK a).length (cells (fK a))):kN W ⟨tb,tb,A,c,none,0,none,0⟩ (newT cl rq a):=
 ⟨hb,fun e=>absurd e iV,fun _=>⟨rfl,rfl,rfl,rfl⟩,ho,⟨rfl,.inl ⟨rfl,rfl⟩⟩,⟨rfl,.inl ⟨rfl,rfl⟩⟩,fun _=>⟨rfl,rfl,rfl⟩⟩
theorem KG{W:World}{cl rq:Int}{a:iZ}{tb gb:Nat}{A:Option Addr}{c:Nat}(iV:iG a=1)(hb:Has W tb 109 #[.iface 112 (.pointer (some ⟨gb,0,none⟩)),.int .i64 rq,.int .i64 0,.bool false,.int .i64 0,.int .i64 0,.int .u64 0,.int .i64 0,.slice none 0 0])
  (hg:Has W gb 114 (rJ ⟨tb,gb,A,c,none,0,none,0⟩ (newT cl rq a))) (ho:W.ownsRow 0 143 3 (.slice A (fK a).length c) (fK a).length (cells (fK a))):kN W ⟨tb,gb,A,c,none,0,none,0⟩ (newT cl rq a):=
 ⟨by unfold uI;rw[UI iV];exact hb,fun _=>hg,fun e=>absurd iV e,ho,⟨rfl,.inl ⟨rfl,rfl⟩⟩,⟨rfl,.inl ⟨rfl,rfl⟩⟩,fun _=>⟨rfl,rfl,rfl⟩⟩
theorem KH(w:World)(cl rq:Int)(a:iZ)(ha:uZ w a)(hl:a.ops.length<=1000):Calls Tryz.prog 25 #[.int .i64 cl,.int .i64 rq,pN a] w (nY w cl rq a):=by
 obtain⟨W0,hW0⟩:∃W0,w.alloc (.cells (bQ a).toArray 25)=W0:=⟨_,rfl⟩;have hk0:Kept aj w W0:=by rw[<-hW0];(repeat'(first|(with_reducible first|exact ay|apply aA|apply aB|apply aC|apply aF)|(right;simp;done)))
 have hn0:Has W0 w.heap.size 25 (bQ a).toArray:=by rw[<-hW0];exact Has.new _ _ _
 have u0:W0.cell? ⟨w.heap.size,0,none⟩=some (.int .i64 a.k):=hn0.cell 0;have u1:W0.cell? ⟨w.heap.size,1,none⟩=some (.int .i64 a.nd):=hn0.cell 1;have u2:W0.cell? ⟨w.heap.size,2,none⟩=some (.string a.key):=hn0.cell 2;have u3:W0.cell? ⟨w.heap.size,3,none⟩=some (.string a.to):=hn0.cell 3;have u4:W0.cell? ⟨w.heap.size,4,none⟩=some (.int .u64 a.at'):=hn0.cell 4;have u5:W0.cell? ⟨w.heap.size,5,none⟩=some (.int .i64 a.n):=hn0.cell 5;have u6:W0.cell? ⟨w.heap.size,6,none⟩=some (.slice a.A a.ops.length a.c):=hn0.cell 6;obtain⟨hs,hac,UY,hos,hik,UZ,hin,hat,hkl,htl⟩:=ha;have aS:=ah hk0;have dZ:=ah hn0;have uS:=ah hs;have zV:=ah hos;have Jb:=ah (And.intro hkl htl);have HL:=ah hl;have hne:newE cl rq a=if cl<0\/3<=cl then 1 else if rq<1\/1073741824<rq then 5 else if nJ cl rq (fK a) a=true then 0 else 1:=rfl;have lJ:=ah hne;obtain⟨k,hk⟩:∃k,a.k=k:=⟨_,rfl⟩;unfold bQ at hW0;unfold pN bQ;clear hk0 hn0 hs hac UY hos hik UZ hin hat hkl htl hl hne;by_cases g1:cl<0
 ·clear hk;have hz:newE cl rq a=1:=by rw[lJ.out];rw[if_pos (.inl g1)]
  have HZ:=ah hz;clear hz;go_enter Tryz.func25,Tryz.ntmps25;go_wp2;go_ret2;exact nY.bad HZ.out (by decide) (by(repeat'(first|(with_reducible first|exact ay|apply aA|apply aB|apply aC|apply aF)|(exact aS.out)|(right;simp;done))))
 by_cases g2:3<=cl
 ·clear hk;have hz:newE cl rq a=1:=by rw[lJ.out];rw[if_pos (.inr g2)]
  have HZ:=ah hz;clear hz;go_enter Tryz.func25,Tryz.ntmps25;go_wp2;go_ret2;exact nY.bad HZ.out (by decide) (by(repeat'(first|(with_reducible first|exact ay|apply aA|apply aB|apply aC|apply aF)|(exact aS.out)|(right;simp;done))))
 by_cases g3:rq<1
 ·clear hk;have hz:newE cl rq a=5:=by rw[lJ.out];rw[if_neg (by omega),if_pos (.inl g3)]
  have HZ:=ah hz;clear hz;go_enter Tryz.func25,Tryz.ntmps25;go_wp2;go_ret2;exact nY.bad HZ.out (by decide) (by(repeat'(first|(with_reducible first|exact ay|apply aA|apply aB|apply aC|apply aF)|(exact aS.out)|(right;simp;done))))
 by_cases g4:1073741824<rq
 ·clear hk;have hz:newE cl rq a=5:=by rw[lJ.out];rw[if_neg (by omega),if_pos (.inr g4)]
  have HZ:=ah hz;clear hz;go_enter Tryz.func25,Tryz.ntmps25;go_wp2;go_ret2;exact nY.bad HZ.out (by decide) (by(repeat'(first|(with_reducible first|exact ay|apply aA|apply aB|apply aC|apply aF)|(exact aS.out)|(right;simp;done))))
 have hne2:newE cl rq a=if nJ cl rq (fK a) a=true then 0 else 1:=by rw[lJ.out,if_neg (by omega),if_neg (by omega)]
 have DY:=ah hne2;have HG:=ah (And.intro g1 (And.intro g2 (And.intro g3 g4)));obtain⟨W1,hW1⟩:∃W1,W0.alloc (.cells #[.int .i64 cl,.int .i64 rq,.slice none 0 0,.int .i64 a.k,.int .i64 a.nd,.string a.key,.string a.to,.int .u64 a.at',.int .i64 a.n,.slice a.A a.ops.length a.c] 103)=W1:=⟨_,rfl⟩;have hk1:Kept aj W0 W1:=by rw[<-hW1];(repeat'(first|(with_reducible first|exact ay|apply aA|apply aB|apply aC|apply aF)|(right;simp;done)))
 have hn1:Has W1 W0.heap.size 103 #[.int .i64 cl,.int .i64 rq,.slice none 0 0,.int .i64 a.k,.int .i64 a.nd,.string a.key,.string a.to,.int .u64 a.at',.int .i64 a.n,.slice a.A a.ops.length a.c]:=by rw[<-hW1];exact Has.new _ _ _
 have hb1:=dZ.out.kept hk1 (fun z=>z);have iL:=ah hk1;have BF:=ah hn1;have HB1:=ah hb1;have w0:W1.cell? ⟨w.heap.size,0,none⟩=some (.int .i64 a.k):=hb1.cell 0;have w6:W1.cell? ⟨w.heap.size,6,none⟩=some (.slice a.A a.ops.length a.c):=hb1.cell 6;have hcb:∀W,Kept aj W1 W->W.cell? ⟨W0.heap.size,2,none⟩=some (.slice none 0 0)/\W.frozen? ⟨W0.heap.size,2,none⟩=false:=fun W hW=>⟨(hn1.kept hW (fun z=>z)).cell 2,(hn1.kept hW (fun z=>z)).frozen 2⟩;have cu:=ah hcb;clear hne2 hk1 hn1 hb1 hcb;clear g1 g2 g3 g4;have g1:=HG.out.1;have g2:=HG.out.2.1;have g3:=HG.out.2.2.1;have g4:=HG.out.2.2.2;clear hk k;by_cases h0:a.k=0;rotate_left
 ·obtain⟨n,hn⟩:∃n,(fK a).length=n:=⟨_,rfl⟩;have pX:fK a=[]:=by unfold fK;rw[if_neg h0]
  have hn0:n=0:=by rw[<-hn,pX];rfl
  subst hn0;obtain⟨B,hB⟩:∃B:Option Addr,B=none:=⟨_,rfl⟩;obtain⟨bc,hbc⟩:∃bc:Nat,bc=0:=⟨_,rfl⟩;have fF:=ah (And.intro hB hbc);have qZ:=ah hn;have vX:=ah (show W1.ownsRow 0 143 3 (.slice none (fK a).length 0) (fK a).length (cells (fK a))from by rw[pX];exact⟨rfl,.inl ⟨rfl,rfl⟩⟩);have tY:=ah (show∀k,(Value.slice none 0 0).ownBlock=some k->w.heap.size<=k from fun k hk=>by cases hk);have HCM:=BF;have qG:=HB1;have qQ:=ah (aS.out.then iL.out);clear hn pX hB hbc B bc fF;have b0:(a.k==0)=false:=by simpa using h0
  have u01:=u0;clear u01;by_cases hk:a.k=3
  ·have b3:(a.k==3)=true:=by simpa using hk
   have hmay:=BK W1 cl rq none 0 (fK a) a (Src.fA vX.out) Jb.out;unfold uU bQ at hmay;simp only[List.cons_append,List.nil_append,qZ.out]at hmay;have e0:=HCM.out.cell 0;have e1:=HCM.out.cell 1;have e2:=HCM.out.cell 2;have e3:=HCM.out.cell 3;have e4:=HCM.out.cell 4;have e5:=HCM.out.cell 5;have e6:=HCM.out.cell 6;have e7:=HCM.out.cell 7;have e8:=HCM.out.cell 8;have e9:=HCM.out.cell 9;simp at e0 e1 e2 e3 e4 e5 e6 e7 e8 e9;obtain⟨mv,hmv⟩:∃mv,nJ cl rq (fK a) a=mv:=⟨_,rfl⟩;rw[hmv]at hmay;have hz:newE cl rq a=if mv=true then 0 else 1:=by rw[DY.out,hmv]
   have AL:=ah hmay;have HZ:=ah hz;clear hmay hmv hz;have iV:iG a=0:=by unfold iG;rw[if_pos (.inr hk)]
   have iK:=ah iV;clear iV hk;cases mv
   ·clear h0;go_enter Tryz.func25,Tryz.ntmps25;go_wp2_with fail;clear hW0 hW1 u0 u1 u2 u3 u4 u5 u6 w0 w6;refine AL.out.mono ?_;rintro e w3 ⟨rfl,hk3⟩;have dI:=ah hk3;clear hk3;go_wp2;go_ret2;exact nY.bad HZ.out (by decide) (qQ.out.then dI.out)
   ·clear h0;go_enter Tryz.func25,Tryz.ntmps25;go_wp2_with fail;clear hW0 hW1 u0 u1 u2 u3 u4 u5 u6 w0 w6;refine AL.out.mono ?_;rintro e w3 ⟨rfl,hk3⟩;have dI:=ah hk3;have wP:=HCM.out.kept hk3 (fun z=>z);have wQ:=qG.out.kept hk3 (fun z=>z);obtain⟨W4,jD⟩:∃W4,w3.alloc (.cells #[.nilIface,.int .i64 rq,.int .i64 0,.bool false,.int .i64 0,.int .i64 0,.int .u64 0,.int .i64 0,.slice none 0 0] 109)=W4:=⟨_,rfl⟩;have hk4:Kept aj w3 W4:=by rw[<-jD];(repeat'(first|(with_reducible first|exact ay|apply aA|apply aB|apply aC|apply aF)|(right;simp;done)))
    have sK:Has W4 w3.heap.size 109 #[.nilIface,.int .i64 rq,.int .i64 0,.bool false,.int .i64 0,.int .i64 0,.int .u64 0,.int .i64 0,.slice none 0 0]:=by rw[<-jD];exact Has.new _ _ _
    have hc4:=wP.kept hk4 (fun z=>z);have hb4:=wQ.kept hk4 (fun z=>z);have z0:=hc4.cell 0;have z1:=hc4.cell 1;have z2:=hc4.cell 2;have z3:=hc4.cell 3;have z4:=hc4.cell 4;have z5:=hc4.cell 5;have z6:=hc4.cell 6;have z7:=hc4.cell 7;have z8:=hc4.cell 8;have z9:=hc4.cell 9;simp at z0 z1 z2 z3 z4 z5 z6 z7 z8 z9;have x0:W4.cell? ⟨w.heap.size,0,none⟩=some (.int .i64 a.k):=hb4.cell 0;have x2:W4.cell? ⟨w.heap.size,2,none⟩=some (.string a.key):=hb4.cell 2;have x4:W4.cell? ⟨w.heap.size,4,none⟩=some (.int .u64 a.at'):=hb4.cell 4;have t0:W4.cell? ⟨w3.heap.size,0,none⟩=some .nilIface:=sK.cell 0;have Gx:=sK.frozen 0;have HT4:=ah sK;have iU:=ah hk4;have vT:=ah (show w.heap.size<=w3.heap.size from Nat.le_trans qQ.out.size hk3.size);have hne1:w3.heap.size≠w.heap.size:=by have:=qG.out.lt;have:=hk3.size;omega
    have hne2:w3.heap.size≠W0.heap.size:=by have:=HCM.out.lt;have:=hk3.size;omega
    clear wP wQ hk3 hc4 hb4 hk4 sK e0 e1 e2 e3 e4 e5 e6 e7 e8 e9;go_wp2;clear jD z0 z1 z2 z3 z4 z5 z6 z7 z8 z9 x0 x2 x4 t0 Gx;go_ret2;have oO:Kept (fun k=>k=w3.heap.size) W4 (W4.setCell ⟨w3.heap.size,0,none⟩ (.iface 111 (.agg #[.int .i64 cl,.int .i64 rq,.slice none 0 0,.int .i64 a.k,.int .i64 a.nd,.string a.key,.string a.to,.int .u64 a.at',.int .i64 a.n,.slice a.A a.ops.length a.c]))):=by(repeat'(first|(with_reducible first|exact ay|apply aA|apply aB|apply aC|apply aF)|(exact .inl rfl)|(right;simp;done)))
    refine⟨fun e=>absurd HZ.out e,fun _=>⟨⟨w3.heap.size,w3.heap.size,none,0,none,0,none,0⟩,rfl,Ia (by rw[iK.out];decide) ?_ (aP vX.out (((dI.out.then iU.out).mono (fun _ z=>z.elim)).then oO) (fun k hk e=> ?_)),(fun k hk=>by
     rcases hk with e|e|e|e|e
     ·rw[e];exact vT.out
     ·rw[e];exact vT.out
     ·cases e
     ·exact tY.out k (by have e2:(Value.slice none (fK a).length 0).ownBlock=some k:=e;rwa[qZ.out]at e2)
     ·cases e),?_⟩⟩
    ·have e9:pI ⟨w3.heap.size,w3.heap.size,none,0,none,0,none,0⟩ (newT cl rq a)=.iface 111 (.agg #[.int .i64 cl,.int .i64 rq,.slice none 0 0,.int .i64 a.k,.int .i64 a.nd,.string a.key,.string a.to,.int .u64 a.at',.int .i64 a.n,.slice a.A a.ops.length a.c]):=by rw[Ox (t:=newT cl rq a) iK.out];unfold fM bQ newT;dsimp only;rw[qZ.out];rfl
     rw[e9];exact HT4.out.aQ rfl
    ·have:=jB vX.out hk;have:=dI.out.size;omega
    ·exact((qQ.out.then dI.out).then iU.out).trans oO (fun i hi=> .inr (by rw[hi];exact vT.out))
  have b3:(a.k==3)=false:=by simpa using hk
  have H3:=ah hk;clear hk;by_cases hk:a.k=1
  ·have b1:(a.k==1)=true:=by simpa using hk
   have hmay:=BK W1 cl rq none 0 (fK a) a (Src.fA vX.out) Jb.out;unfold uU bQ at hmay;simp only[List.cons_append,List.nil_append,qZ.out]at hmay;have e0:=HCM.out.cell 0;have e1:=HCM.out.cell 1;have e2:=HCM.out.cell 2;have e3:=HCM.out.cell 3;have e4:=HCM.out.cell 4;have e5:=HCM.out.cell 5;have e6:=HCM.out.cell 6;have e7:=HCM.out.cell 7;have e8:=HCM.out.cell 8;have e9:=HCM.out.cell 9;simp at e0 e1 e2 e3 e4 e5 e6 e7 e8 e9;obtain⟨mv,hmv⟩:∃mv,nJ cl rq (fK a) a=mv:=⟨_,rfl⟩;rw[hmv]at hmay;have hz:newE cl rq a=if mv=true then 0 else 1:=by rw[DY.out,hmv]
   have AL:=ah hmay;have HZ:=ah hz;clear hmay hmv hz;have iV:iG a=1:=by unfold iG;rw[if_neg (by omega),if_pos (.inl hk)]
   have iK:=ah iV;clear iV hk;cases mv
   ·clear h0;go_enter Tryz.func25,Tryz.ntmps25;go_wp2_with fail;clear hW0 hW1 u0 u1 u2 u3 u4 u5 u6 w0 w6;refine AL.out.mono ?_;rintro e w3 ⟨rfl,hk3⟩;have dI:=ah hk3;clear hk3;go_wp2;go_ret2;exact nY.bad HZ.out (by decide) (qQ.out.then dI.out)
   ·clear h0;go_enter Tryz.func25,Tryz.ntmps25;go_wp2_with fail;clear hW0 hW1 u0 u1 u2 u3 u4 u5 u6 w0 w6;refine AL.out.mono ?_;rintro e w3 ⟨rfl,hk3⟩;have dI:=ah hk3;have wP:=HCM.out.kept hk3 (fun z=>z);have wQ:=qG.out.kept hk3 (fun z=>z);obtain⟨W4,jD⟩:∃W4,w3.alloc (.cells #[.nilIface,.int .i64 rq,.int .i64 0,.bool false,.int .i64 0,.int .i64 0,.int .u64 0,.int .i64 0,.slice none 0 0] 109)=W4:=⟨_,rfl⟩;have hk4:Kept aj w3 W4:=by rw[<-jD];(repeat'(first|(with_reducible first|exact ay|apply aA|apply aB|apply aC|apply aF)|(right;simp;done)))
    have sK:Has W4 w3.heap.size 109 #[.nilIface,.int .i64 rq,.int .i64 0,.bool false,.int .i64 0,.int .i64 0,.int .u64 0,.int .i64 0,.slice none 0 0]:=by rw[<-jD];exact Has.new _ _ _
    have hc4:=wP.kept hk4 (fun z=>z);have hb4:=wQ.kept hk4 (fun z=>z);have z0:=hc4.cell 0;have z1:=hc4.cell 1;have z2:=hc4.cell 2;have z3:=hc4.cell 3;have z4:=hc4.cell 4;have z5:=hc4.cell 5;have z6:=hc4.cell 6;have z7:=hc4.cell 7;have z8:=hc4.cell 8;have z9:=hc4.cell 9;simp at z0 z1 z2 z3 z4 z5 z6 z7 z8 z9;have x0:W4.cell? ⟨w.heap.size,0,none⟩=some (.int .i64 a.k):=hb4.cell 0;have x2:W4.cell? ⟨w.heap.size,2,none⟩=some (.string a.key):=hb4.cell 2;have x4:W4.cell? ⟨w.heap.size,4,none⟩=some (.int .u64 a.at'):=hb4.cell 4;have t0:W4.cell? ⟨w3.heap.size,0,none⟩=some .nilIface:=sK.cell 0;have Gx:=sK.frozen 0;have HT4:=ah sK;have iU:=ah hk4;have vT:=ah (show w.heap.size<=w3.heap.size from Nat.le_trans qQ.out.size hk3.size);have hne1:w3.heap.size≠w.heap.size:=by have:=qG.out.lt;have:=hk3.size;omega
    have hne2:w3.heap.size≠W0.heap.size:=by have:=HCM.out.lt;have:=hk3.size;omega
    clear wP wQ hk3 hc4 hb4 hk4 sK e0 e1 e2 e3 e4 e5 e6 e7 e8 e9;obtain⟨W5,sG⟩:∃W5,W4.alloc (.cells #[.int .i64 cl,.int .i64 rq,.slice none 0 0,.int .i64 a.k,.int .i64 a.nd,.string a.key,.string a.to,.int .u64 a.at',.int .i64 a.n,.slice a.A a.ops.length a.c,.int .u64 a.at',.string a.key,.slice none 0 0] 114)=W5:=⟨_,rfl⟩;have hk5:Kept aj W4 W5:=by rw[<-sG];(repeat'(first|(with_reducible first|exact ay|apply aA|apply aB|apply aC|apply aF)|(right;simp;done)))
    have hg5:Has W5 W4.heap.size 114 #[.int .i64 cl,.int .i64 rq,.slice none 0 0,.int .i64 a.k,.int .i64 a.nd,.string a.key,.string a.to,.int .u64 a.at',.int .i64 a.n,.slice a.A a.ops.length a.c,.int .u64 a.at',.string a.key,.slice none 0 0]:=by rw[<-sG];exact Has.new _ _ _
    have KI:=HT4.out.kept hk5 (fun z=>z);have s0:=KI.cell 0;have KJ:=KI.frozen 0;simp at s0;have Y4:=ah hg5;have dK:=ah hk5;clear hg5 hk5 KI;go_wp2;clear sG s0 KJ;clear jD z0 z1 z2 z3 z4 z5 z6 z7 z8 z9 x0 x2 x4 t0 Gx;go_ret2;have hg5:Has W5 W4.heap.size 114 (rJ ⟨w3.heap.size,W4.heap.size,none,0,none,0,none,0⟩ (newT cl rq a)):=by
     have e9:rJ ⟨w3.heap.size,W4.heap.size,none,0,none,0,none,0⟩ (newT cl rq a)=#[.int .i64 cl,.int .i64 rq,.slice none 0 0,.int .i64 a.k,.int .i64 a.nd,.string a.key,.string a.to,.int .u64 a.at',.int .i64 a.n,.slice a.A a.ops.length a.c,.int .u64 a.at',.string a.key,.slice none 0 0]:=by unfold rJ fM bQ newT;dsimp only;rw[qZ.out];rfl
     rw[e9];exact Y4.out
    have oO:Kept (fun k=>k=w3.heap.size) W5 (W5.setCell ⟨w3.heap.size,0,none⟩ (.iface 112 (.pointer (some ⟨W4.heap.size,0,none⟩)))):=by(repeat'(first|(with_reducible first|exact ay|apply aA|apply aB|apply aC|apply aF)|(exact .inl rfl)|(right;simp;done)))
    have U0:W4.heap.size≠w3.heap.size:=by have:=HT4.out.lt;omega
    refine⟨fun e=>absurd HZ.out e,fun _=>⟨⟨w3.heap.size,W4.heap.size,none,0,none,0,none,0⟩,rfl,KG iK.out ?_ (hg5.kept oO U0) (aP vX.out ((((dI.out.then iU.out).then dK.out).mono (fun _ z=>z.elim)).then oO) (fun k hk e=> ?_)),(fun k hk=>by
     rcases hk with e|e|e|e|e
     ·rw[e];exact vT.out
     ·rw[e];exact Nat.le_trans vT.out iU.out.size
     ·cases e
     ·exact tY.out k (by have e2:(Value.slice none (fK a).length 0).ownBlock=some k:=e;rwa[qZ.out]at e2)
     ·cases e),?_⟩⟩
    ·exact(HT4.out.kept dK.out (fun z=>z)).aQ rfl
    ·have:=jB vX.out hk;have:=dI.out.size;omega
    ·exact(((qQ.out.then dI.out).then iU.out).then dK.out).trans oO (fun i hi=> .inr (by rw[hi];exact vT.out))
  have b1:(a.k==1)=false:=by simpa using hk
  have H1:=ah hk;clear hk;by_cases hk:a.k=2
  ·have b2:(a.k==2)=true:=by simpa using hk
   have hmay:=BK W1 cl rq none 0 (fK a) a (Src.fA vX.out) Jb.out;unfold uU bQ at hmay;simp only[List.cons_append,List.nil_append,qZ.out]at hmay;have e0:=HCM.out.cell 0;have e1:=HCM.out.cell 1;have e2:=HCM.out.cell 2;have e3:=HCM.out.cell 3;have e4:=HCM.out.cell 4;have e5:=HCM.out.cell 5;have e6:=HCM.out.cell 6;have e7:=HCM.out.cell 7;have e8:=HCM.out.cell 8;have e9:=HCM.out.cell 9;simp at e0 e1 e2 e3 e4 e5 e6 e7 e8 e9;obtain⟨mv,hmv⟩:∃mv,nJ cl rq (fK a) a=mv:=⟨_,rfl⟩;rw[hmv]at hmay;have hz:newE cl rq a=if mv=true then 0 else 1:=by rw[DY.out,hmv]
   have AL:=ah hmay;have HZ:=ah hz;clear hmay hmv hz;have iV:iG a=1:=by unfold iG;rw[if_neg (by omega),if_pos (.inr hk)]
   have iK:=ah iV;clear iV hk;cases mv
   ·clear h0;go_enter Tryz.func25,Tryz.ntmps25;go_wp2_with fail;clear hW0 hW1 u0 u1 u2 u3 u4 u5 u6 w0 w6;refine AL.out.mono ?_;rintro e w3 ⟨rfl,hk3⟩;have dI:=ah hk3;clear hk3;go_wp2;go_ret2;exact nY.bad HZ.out (by decide) (qQ.out.then dI.out)
   ·clear h0;go_enter Tryz.func25,Tryz.ntmps25;go_wp2_with fail;clear hW0 hW1 u0 u1 u2 u3 u4 u5 u6 w0 w6;refine AL.out.mono ?_;rintro e w3 ⟨rfl,hk3⟩;have dI:=ah hk3;have wP:=HCM.out.kept hk3 (fun z=>z);have wQ:=qG.out.kept hk3 (fun z=>z);obtain⟨W4,jD⟩:∃W4,w3.alloc (.cells #[.nilIface,.int .i64 rq,.int .i64 0,.bool false,.int .i64 0,.int .i64 0,.int .u64 0,.int .i64 0,.slice none 0 0] 109)=W4:=⟨_,rfl⟩;have hk4:Kept aj w3 W4:=by rw[<-jD];(repeat'(first|(with_reducible first|exact ay|apply aA|apply aB|apply aC|apply aF)|(right;simp;done)))
    have sK:Has W4 w3.heap.size 109 #[.nilIface,.int .i64 rq,.int .i64 0,.bool false,.int .i64 0,.int .i64 0,.int .u64 0,.int .i64 0,.slice none 0 0]:=by rw[<-jD];exact Has.new _ _ _
    have hc4:=wP.kept hk4 (fun z=>z);have hb4:=wQ.kept hk4 (fun z=>z);have z0:=hc4.cell 0;have z1:=hc4.cell 1;have z2:=hc4.cell 2;have z3:=hc4.cell 3;have z4:=hc4.cell 4;have z5:=hc4.cell 5;have z6:=hc4.cell 6;have z7:=hc4.cell 7;have z8:=hc4.cell 8;have z9:=hc4.cell 9;simp at z0 z1 z2 z3 z4 z5 z6 z7 z8 z9;have x0:W4.cell? ⟨w.heap.size,0,none⟩=some (.int .i64 a.k):=hb4.cell 0;have x2:W4.cell? ⟨w.heap.size,2,none⟩=some (.string a.key):=hb4.cell 2;have x4:W4.cell? ⟨w.heap.size,4,none⟩=some (.int .u64 a.at'):=hb4.cell 4;have t0:W4.cell? ⟨w3.heap.size,0,none⟩=some .nilIface:=sK.cell 0;have Gx:=sK.frozen 0;have HT4:=ah sK;have iU:=ah hk4;have vT:=ah (show w.heap.size<=w3.heap.size from Nat.le_trans qQ.out.size hk3.size);have hne1:w3.heap.size≠w.heap.size:=by have:=qG.out.lt;have:=hk3.size;omega
    have hne2:w3.heap.size≠W0.heap.size:=by have:=HCM.out.lt;have:=hk3.size;omega
    clear wP wQ hk3 hc4 hb4 hk4 sK e0 e1 e2 e3 e4 e5 e6 e7 e8 e9;obtain⟨W5,sG⟩:∃W5,W4.alloc (.cells #[.int .i64 cl,.int .i64 rq,.slice none 0 0,.int .i64 a.k,.int .i64 a.nd,.string a.key,.string a.to,.int .u64 a.at',.int .i64 a.n,.slice a.A a.ops.length a.c,.int .u64 a.at',.string a.key,.slice none 0 0] 114)=W5:=⟨_,rfl⟩;have hk5:Kept aj W4 W5:=by rw[<-sG];(repeat'(first|(with_reducible first|exact ay|apply aA|apply aB|apply aC|apply aF)|(right;simp;done)))
    have hg5:Has W5 W4.heap.size 114 #[.int .i64 cl,.int .i64 rq,.slice none 0 0,.int .i64 a.k,.int .i64 a.nd,.string a.key,.string a.to,.int .u64 a.at',.int .i64 a.n,.slice a.A a.ops.length a.c,.int .u64 a.at',.string a.key,.slice none 0 0]:=by rw[<-sG];exact Has.new _ _ _
    have KI:=HT4.out.kept hk5 (fun z=>z);have s0:=KI.cell 0;have KJ:=KI.frozen 0;simp at s0;have Y4:=ah hg5;have dK:=ah hk5;clear hg5 hk5 KI;go_wp2;clear sG s0 KJ;clear jD z0 z1 z2 z3 z4 z5 z6 z7 z8 z9 x0 x2 x4 t0 Gx;go_ret2;have hg5:Has W5 W4.heap.size 114 (rJ ⟨w3.heap.size,W4.heap.size,none,0,none,0,none,0⟩ (newT cl rq a)):=by
     have e9:rJ ⟨w3.heap.size,W4.heap.size,none,0,none,0,none,0⟩ (newT cl rq a)=#[.int .i64 cl,.int .i64 rq,.slice none 0 0,.int .i64 a.k,.int .i64 a.nd,.string a.key,.string a.to,.int .u64 a.at',.int .i64 a.n,.slice a.A a.ops.length a.c,.int .u64 a.at',.string a.key,.slice none 0 0]:=by unfold rJ fM bQ newT;dsimp only;rw[qZ.out];rfl
     rw[e9];exact Y4.out
    have oO:Kept (fun k=>k=w3.heap.size) W5 (W5.setCell ⟨w3.heap.size,0,none⟩ (.iface 112 (.pointer (some ⟨W4.heap.size,0,none⟩)))):=by(repeat'(first|(with_reducible first|exact ay|apply aA|apply aB|apply aC|apply aF)|(exact .inl rfl)|(right;simp;done)))
    have U0:W4.heap.size≠w3.heap.size:=by have:=HT4.out.lt;omega
    refine⟨fun e=>absurd HZ.out e,fun _=>⟨⟨w3.heap.size,W4.heap.size,none,0,none,0,none,0⟩,rfl,KG iK.out ?_ (hg5.kept oO U0) (aP vX.out ((((dI.out.then iU.out).then dK.out).mono (fun _ z=>z.elim)).then oO) (fun k hk e=> ?_)),(fun k hk=>by
     rcases hk with e|e|e|e|e
     ·rw[e];exact vT.out
     ·rw[e];exact Nat.le_trans vT.out iU.out.size
     ·cases e
     ·exact tY.out k (by have e2:(Value.slice none (fK a).length 0).ownBlock=some k:=e;rwa[qZ.out]at e2)
     ·cases e),?_⟩⟩
    ·exact(HT4.out.kept dK.out (fun z=>z)).aQ rfl
    ·have:=jB vX.out hk;have:=dI.out.size;omega
    ·exact(((qQ.out.then dI.out).then iU.out).then dK.out).trans oO (fun i hi=> .inr (by rw[hi];exact vT.out))
  have b2:(a.k==2)=false:=by simpa using hk
  have h3x:=H3.out;have h1x:=H1.out;have hmay:=BK W1 cl rq none 0 (fK a) a (Src.fA vX.out) Jb.out;unfold uU bQ at hmay;simp only[List.cons_append,List.nil_append,qZ.out]at hmay;have e0:=HCM.out.cell 0;have e1:=HCM.out.cell 1;have e2:=HCM.out.cell 2;have e3:=HCM.out.cell 3;have e4:=HCM.out.cell 4;have e5:=HCM.out.cell 5;have e6:=HCM.out.cell 6;have e7:=HCM.out.cell 7;have e8:=HCM.out.cell 8;have e9:=HCM.out.cell 9;simp at e0 e1 e2 e3 e4 e5 e6 e7 e8 e9;obtain⟨mv,hmv⟩:∃mv,nJ cl rq (fK a) a=mv:=⟨_,rfl⟩;rw[hmv]at hmay;have hz:newE cl rq a=if mv=true then 0 else 1:=by rw[DY.out,hmv]
  have AL:=ah hmay;have HZ:=ah hz;clear hmay hmv hz;have iV:iG a=2:=by unfold iG;rw[if_neg (by omega),if_neg (by omega)]
  have iK:=ah iV;clear iV hk;cases mv
  ·clear h0 h3x h1x;go_enter Tryz.func25,Tryz.ntmps25;go_wp2_with fail;clear hW0 hW1 u0 u1 u2 u3 u4 u5 u6 w0 w6;refine AL.out.mono ?_;rintro e w3 ⟨rfl,hk3⟩;have dI:=ah hk3;clear hk3;go_wp2;go_ret2;exact nY.bad HZ.out (by decide) (qQ.out.then dI.out)
  ·clear h0 h3x h1x;go_enter Tryz.func25,Tryz.ntmps25;go_wp2_with fail;clear hW0 hW1 u0 u1 u2 u3 u4 u5 u6 w0 w6;refine AL.out.mono ?_;rintro e w3 ⟨rfl,hk3⟩;have dI:=ah hk3;have wP:=HCM.out.kept hk3 (fun z=>z);have wQ:=qG.out.kept hk3 (fun z=>z);obtain⟨W4,jD⟩:∃W4,w3.alloc (.cells #[.nilIface,.int .i64 rq,.int .i64 0,.bool false,.int .i64 0,.int .i64 0,.int .u64 0,.int .i64 0,.slice none 0 0] 109)=W4:=⟨_,rfl⟩;have hk4:Kept aj w3 W4:=by rw[<-jD];(repeat'(first|(with_reducible first|exact ay|apply aA|apply aB|apply aC|apply aF)|(right;simp;done)))
   have sK:Has W4 w3.heap.size 109 #[.nilIface,.int .i64 rq,.int .i64 0,.bool false,.int .i64 0,.int .i64 0,.int .u64 0,.int .i64 0,.slice none 0 0]:=by rw[<-jD];exact Has.new _ _ _
   have hc4:=wP.kept hk4 (fun z=>z);have hb4:=wQ.kept hk4 (fun z=>z);have z0:=hc4.cell 0;have z1:=hc4.cell 1;have z2:=hc4.cell 2;have z3:=hc4.cell 3;have z4:=hc4.cell 4;have z5:=hc4.cell 5;have z6:=hc4.cell 6;have z7:=hc4.cell 7;have z8:=hc4.cell 8;have z9:=hc4.cell 9;simp at z0 z1 z2 z3 z4 z5 z6 z7 z8 z9;have x0:W4.cell? ⟨w.heap.size,0,none⟩=some (.int .i64 a.k):=hb4.cell 0;have x2:W4.cell? ⟨w.heap.size,2,none⟩=some (.string a.key):=hb4.cell 2;have x4:W4.cell? ⟨w.heap.size,4,none⟩=some (.int .u64 a.at'):=hb4.cell 4;have t0:W4.cell? ⟨w3.heap.size,0,none⟩=some .nilIface:=sK.cell 0;have Gx:=sK.frozen 0;have HT4:=ah sK;have iU:=ah hk4;have vT:=ah (show w.heap.size<=w3.heap.size from Nat.le_trans qQ.out.size hk3.size);have hne1:w3.heap.size≠w.heap.size:=by have:=qG.out.lt;have:=hk3.size;omega
   have hne2:w3.heap.size≠W0.heap.size:=by have:=HCM.out.lt;have:=hk3.size;omega
   clear wP wQ hk3 hc4 hb4 hk4 sK e0 e1 e2 e3 e4 e5 e6 e7 e8 e9;go_wp2;clear jD z0 z1 z2 z3 z4 z5 z6 z7 z8 z9 x0 x2 x4 t0 Gx;go_ret2;have oO:Kept (fun k=>k=w3.heap.size) W4 (W4.setCell ⟨w3.heap.size,0,none⟩ (.iface 115 (.agg #[.int .i64 cl,.int .i64 rq,.slice none 0 0,.int .i64 a.k,.int .i64 a.nd,.string a.key,.string a.to,.int .u64 a.at',.int .i64 a.n,.slice a.A a.ops.length a.c]))):=by(repeat'(first|(with_reducible first|exact ay|apply aA|apply aB|apply aC|apply aF)|(exact .inl rfl)|(right;simp;done)))
   refine⟨fun e=>absurd HZ.out e,fun _=>⟨⟨w3.heap.size,w3.heap.size,none,0,none,0,none,0⟩,rfl,Ia (by rw[iK.out];decide) ?_ (aP vX.out (((dI.out.then iU.out).mono (fun _ z=>z.elim)).then oO) (fun k hk e=> ?_)),(fun k hk=>by
    rcases hk with e|e|e|e|e
    ·rw[e];exact vT.out
    ·rw[e];exact vT.out
    ·cases e
    ·exact tY.out k (by have e2:(Value.slice none (fK a).length 0).ownBlock=some k:=e;rwa[qZ.out]at e2)
    ·cases e),?_⟩⟩
   ·have e9:pI ⟨w3.heap.size,w3.heap.size,none,0,none,0,none,0⟩ (newT cl rq a)=.iface 115 (.agg #[.int .i64 cl,.int .i64 rq,.slice none 0 0,.int .i64 a.k,.int .i64 a.nd,.string a.key,.string a.to,.int .u64 a.at',.int .i64 a.n,.slice a.A a.ops.length a.c]):=by rw[UJ (t:=newT cl rq a) iK.out];unfold fM bQ newT;dsimp only;rw[qZ.out];rfl
    rw[e9];exact HT4.out.aQ rfl
   ·have:=jB vX.out hk;have:=dI.out.size;omega
   ·exact((qQ.out.then dI.out).then iU.out).trans oO (fun i hi=> .inr (by rw[hi];exact vT.out))
 ·have b0:(a.k==0)=true:=by simpa using h0
  have pX:fK a=rM a.ops:=by unfold fK;rw[if_pos h0]
  obtain⟨n,hn⟩:∃n,(fK a).length=n:=⟨_,rfl⟩;have hno:=IZ.UX W1 a.A a.c a.ops (uS.out.kept (aS.out.then iL.out) (fun _ _ z=>z)) HL.out (fun o ho=>(zV.out o ho).1);unfold Gn bV at hno;rw[<-pX,hn]at hno;have oP:=ah hno;have qZ:=ah hn;have NM:=ah h0;clear hno hn pX h0;go_enter Tryz.func25,Tryz.ntmps25;go_wp2_with fail;clear hW0 hW1 u0 u1 u2 u3 u4 u5 u6 w0 w6;refine oP.out.mono ?_;rintro e w2 ⟨B,bc,rfl,⟨hob,hnb⟩,hk2⟩;have hc2:=BF.out.kept hk2 (fun z=>z);obtain⟨Wm,Gy⟩:∃Wm,w2.setCell ⟨W0.heap.size,2,none⟩ (.slice B n bc)=Wm:=⟨_,rfl⟩;obtain⟨Rw,Rx⟩:=cu.out w2 hk2;have hkm:Kept (fun k=>k=W0.heap.size) w2 Wm:=by rw[<-Gy];(repeat'(first|(with_reducible first|exact ay|apply aA|apply aB|apply aC|apply aF)|(exact .inl rfl)|(right;simp;done)))
  have HCM:=ah (show Has Wm W0.heap.size 103 #[.int .i64 cl,.int .i64 rq,.slice B n bc,.int .i64 a.k,.int .i64 a.nd,.string a.key,.string a.to,.int .u64 a.at',.int .i64 a.n,.slice a.A a.ops.length a.c] by rw[<-Gy];exact hc2.aQ rfl);have qG:=ah ((HB1.out.kept hk2 (fun z=>z)).kept hkm (fun e=>by have:=dZ.out.lt;omega));have vX:=ah (show Wm.ownsRow 0 143 3 (.slice B (fK a).length bc) (fK a).length (cells (fK a))from by rw[qZ.out];exact aP hob hkm (fun k hk e=>own_ne hob hc2 (by decide) (e▸hk)));have tY:=ah (show∀k,(Value.slice B n bc).ownBlock=some k->w.heap.size<=k from fun k hk=>Nat.le_trans (aS.out.then iL.out).size (hnb k hk));have qQ:=ah (show Kept aj w Wm from((aS.out.then iL.out).then hk2).trans hkm (fun i hi=> .inr (by rw[hi];exact aS.out.size)));have u0:Wm.cell? ⟨w.heap.size,0,none⟩=some (.int .i64 a.k):=qG.out.cell 0;clear hob hnb hk2 hc2 hkm;have hk:=NM.out;have hmay:=BK Wm cl rq B bc (fK a) a (Src.fA vX.out) Jb.out;unfold uU bQ at hmay;simp only[List.cons_append,List.nil_append,qZ.out]at hmay;have e0:=HCM.out.cell 0;have e1:=HCM.out.cell 1;have e2:=HCM.out.cell 2;have e3:=HCM.out.cell 3;have e4:=HCM.out.cell 4;have e5:=HCM.out.cell 5;have e6:=HCM.out.cell 6;have e7:=HCM.out.cell 7;have e8:=HCM.out.cell 8;have e9:=HCM.out.cell 9;simp at e0 e1 e2 e3 e4 e5 e6 e7 e8 e9;obtain⟨mv,hmv⟩:∃mv,nJ cl rq (fK a) a=mv:=⟨_,rfl⟩;rw[hmv]at hmay;have hz:newE cl rq a=if mv=true then 0 else 1:=by rw[DY.out,hmv]
  have AL:=ah hmay;have HZ:=ah hz;clear hmay hmv hz;have iV:iG a=0:=by unfold iG;rw[if_pos (.inl hk)]
  have iK:=ah iV;clear iV hk;cases mv
  ·go_wp2_with fail;clear Gy Rw Rx u0;refine AL.out.mono ?_;rintro e w3 ⟨rfl,hk3⟩;have dI:=ah hk3;clear hk3;go_wp2;go_ret2;exact nY.bad HZ.out (by decide) (qQ.out.then dI.out)
  ·go_wp2_with fail;clear Gy Rw Rx u0;refine AL.out.mono ?_;rintro e w3 ⟨rfl,hk3⟩;have dI:=ah hk3;have wP:=HCM.out.kept hk3 (fun z=>z);have wQ:=qG.out.kept hk3 (fun z=>z);obtain⟨W4,jD⟩:∃W4,w3.alloc (.cells #[.nilIface,.int .i64 rq,.int .i64 0,.bool false,.int .i64 0,.int .i64 0,.int .u64 0,.int .i64 0,.slice none 0 0] 109)=W4:=⟨_,rfl⟩;have hk4:Kept aj w3 W4:=by rw[<-jD];(repeat'(first|(with_reducible first|exact ay|apply aA|apply aB|apply aC|apply aF)|(right;simp;done)))
   have sK:Has W4 w3.heap.size 109 #[.nilIface,.int .i64 rq,.int .i64 0,.bool false,.int .i64 0,.int .i64 0,.int .u64 0,.int .i64 0,.slice none 0 0]:=by rw[<-jD];exact Has.new _ _ _
   have hc4:=wP.kept hk4 (fun z=>z);have hb4:=wQ.kept hk4 (fun z=>z);have z0:=hc4.cell 0;have z1:=hc4.cell 1;have z2:=hc4.cell 2;have z3:=hc4.cell 3;have z4:=hc4.cell 4;have z5:=hc4.cell 5;have z6:=hc4.cell 6;have z7:=hc4.cell 7;have z8:=hc4.cell 8;have z9:=hc4.cell 9;simp at z0 z1 z2 z3 z4 z5 z6 z7 z8 z9;have x0:W4.cell? ⟨w.heap.size,0,none⟩=some (.int .i64 a.k):=hb4.cell 0;have x2:W4.cell? ⟨w.heap.size,2,none⟩=some (.string a.key):=hb4.cell 2;have x4:W4.cell? ⟨w.heap.size,4,none⟩=some (.int .u64 a.at'):=hb4.cell 4;have t0:W4.cell? ⟨w3.heap.size,0,none⟩=some .nilIface:=sK.cell 0;have Gx:=sK.frozen 0;have HT4:=ah sK;have iU:=ah hk4;have vT:=ah (show w.heap.size<=w3.heap.size from Nat.le_trans qQ.out.size hk3.size);have hne1:w3.heap.size≠w.heap.size:=by have:=qG.out.lt;have:=hk3.size;omega
   have hne2:w3.heap.size≠W0.heap.size:=by have:=HCM.out.lt;have:=hk3.size;omega
   clear wP wQ hk3 hc4 hb4 hk4 sK e0 e1 e2 e3 e4 e5 e6 e7 e8 e9;go_wp2;clear jD z0 z1 z2 z3 z4 z5 z6 z7 z8 z9 x0 x2 x4 t0 Gx;go_ret2;have oO:Kept (fun k=>k=w3.heap.size) W4 (W4.setCell ⟨w3.heap.size,0,none⟩ (.iface 111 (.agg #[.int .i64 cl,.int .i64 rq,.slice B n bc,.int .i64 a.k,.int .i64 a.nd,.string a.key,.string a.to,.int .u64 a.at',.int .i64 a.n,.slice a.A a.ops.length a.c]))):=by(repeat'(first|(with_reducible first|exact ay|apply aA|apply aB|apply aC|apply aF)|(exact .inl rfl)|(right;simp;done)))
   refine⟨fun e=>absurd HZ.out e,fun _=>⟨⟨w3.heap.size,w3.heap.size,B,bc,none,0,none,0⟩,rfl,Ia (by rw[iK.out];decide) ?_ (aP vX.out (((dI.out.then iU.out).mono (fun _ z=>z.elim)).then oO) (fun k hk e=> ?_)),(fun k hk=>by
    rcases hk with e|e|e|e|e
    ·rw[e];exact vT.out
    ·rw[e];exact vT.out
    ·cases e
    ·exact tY.out k (by have e2:(Value.slice B (fK a).length bc).ownBlock=some k:=e;rwa[qZ.out]at e2)
    ·cases e),?_⟩⟩
   ·have e9:pI ⟨w3.heap.size,w3.heap.size,B,bc,none,0,none,0⟩ (newT cl rq a)=.iface 111 (.agg #[.int .i64 cl,.int .i64 rq,.slice B n bc,.int .i64 a.k,.int .i64 a.nd,.string a.key,.string a.to,.int .u64 a.at',.int .i64 a.n,.slice a.A a.ops.length a.c]):=by rw[Ox (t:=newT cl rq a) iK.out];unfold fM bQ newT;dsimp only;rw[qZ.out];rfl
    rw[e9];exact HT4.out.aQ rfl
   ·have:=jB vX.out hk;have:=dI.out.size;omega
   ·exact((qQ.out.then dI.out).then iU.out).trans oO (fun i hi=> .inr (by rw[hi];exact vT.out))
