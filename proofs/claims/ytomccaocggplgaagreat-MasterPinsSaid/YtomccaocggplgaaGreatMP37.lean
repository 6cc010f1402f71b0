/- Part 38. -/
import Derived.Test.YtomccaocggplgaaGreatMP36
set_option linter.unusedSimpArgs false
set_option linter.unusedVariables false
set_option maxHeartbeats 32000000
set_option maxRecDepth 100000
namespace Go.Proofs.YtomccaocggplgaaGreat
open Go.RowKit
namespace dh
open aJ Vn Mst jQ
theorem aaz(w:World)(A0:Option Addr)(c0:Nat)(l:List aO)(hl:Src w 3 A0 l.length (aS l))(hlen:l.length<=1000)(hleft:∀p∈l,0<=p.left/\p.left<=1000000):
  Calls Tryz.prog 36 #[.slice A0 l.length c0] w (Hw w l):=by
 have HL:=ah hl;have HLF:=ah hleft;clear hl hleft;go_enter Tryz.func36,Tryz.ntmps36;go_wp2_with fail
 go_loopw [4,5,6] (fun v4 v5 v10 wr=>∃(i:Nat) (A:Option Addr) (c:Nat) (B:Option Addr) (d:Nat),i<=l.length/\v10=.int .i64 i/\v4=.slice A (dI (l.take i)).length c/\v5=.slice B (iy (l.take i)).length d/\
  aF 53 3 w.heap.size wr A (dI (l.take i)).length c (aS (dI (l.take i)))/\aF 3 1 w.heap.size wr B (iy (l.take i)).length d (ints (iy (l.take i)))/\Kept aj w wr) (fun _ _ v10 _=>l.length-(intOf v10).toNat)
 case atStart=>exact⟨0,none,0,none,0,Nat.zero_le _,rfl,rfl,rfl,aF.nil _ _ _ _,aF.nil _ _ _ _,Kept.refl _ _⟩
 case round=>
  obtain⟨i,A,c,B,d,hi,rfl,rfl,rfl,hr1,hr2,hk⟩:=hrel;by_cases hil:i<l.length
  ·obtain⟨p,hp⟩:∃p,l[i]? =some p:=⟨_,lB0 hil⟩;obtain⟨ad,rfl,hl1,x0,x1,x2⟩:=iL (HL.out.kept hk (fun _ _ x=>x)) (by omega) i p hp;have ht:=LM hp;have hg:=TC hp;have hpl:=HLF.out p (lC0 hp);have b1:=yF (l.take i);have b2:=Hu (l.take i);have b3:(l.take i).length<=1000:=by rw[List.length_take];omega
   obtain⟨T,hT⟩:∃T,dI (l.take i)=T:=⟨_,rfl⟩;obtain⟨G,hG⟩:∃G,iy (l.take i)=G:=⟨_,rfl⟩;rw[hT]at ht hr1 b1⊢;rw[hG]at hg hr2 b2⊢;have HR1:=ah hr1;have HR2:=ah hr2;have HK:=ah hk;have HT:=ah ht;have HG:=ah hg;clear hp ht hg hT hG hr1 hr2 hk;obtain⟨q1,q2,q3⟩:=p;dsimp only at hpl x0 x1 x2;have hb3:0<=q3/\q3<=1000000:=hpl;have gU:Hid (T.length+1<=maxLen):=ah (by unfold maxLen;omega);have iT:Hid ((T.length+1)*24<=140737488355328):=ah (by omega);have xC:Hid (G.length+1<=maxLen):=ah (by unfold maxLen;omega);have zo:Hid ((G.length+1)*8<=140737488355328):=ah (by omega);clear hpl b1 b2 b3;by_cases h1:1<q3
   ·have ht1:=HT.out;have hg1:=HG.out;dsimp only at ht1 hg1;rw[if_pos h1]at ht1 hg1;have HT1:=ah ht1;have ig:=ah hg1;clear ht1 hg1 HT HG;have h2:¬q3<=1:=by omega
    go_wp2_with (at_builtin;refine aN qN (.tmp 30) (.tmp 32) rfl rfl (Value.slice A T.length c) rfl (aC HR1.out.1 (F:=aj) (by(repeat'(first|(with_reducible first|exact ak|apply au|apply ay|apply aA|apply aB)|(right;simp;done)))) (fun _ _ x=>x)) 1 rfl (Src.dA (t:=53) (size:=3) (m:=1) (cs:=#[.int .i64 q1,.int .u64 q2,.int .i64 (q3-1)]) (by(repeat (with_reducible first|exact Has.bK _ _ _ (by simp)|apply Has.drew|apply Has.drewN|apply Has.alloc|(apply Has.past<;>(try omega))))) rfl) (by simp[Value.oneCell']) gU.out iT.out ?_;intro A1 c1 w9 ho1 hg1 ha1;have hpush:=aF.pushed HR1.out (by(repeat'(first|(with_reducible first|exact ak|apply au|apply ay|apply aA|apply aB)|(exact HK.out)|(right;simp;done)))) ho1 hg1 ha1;have HP:=ah hpush;have fM:=aF.beside HR2.out (by(repeat'(first|(with_reducible first|exact ak|apply au|apply ay|apply aA|apply aB)|(right;simp;done)))) HR1.out (by decide) hg1;have uZ:=ah fM;clear ho1 hg1 ha1 hpush fM);go_roundw
    case rel=>exact⟨i+1,A1,c1,B,d,by omega,by go_num,by rw[HT1.out,lA0];rfl,by rw[ig.out],by rw[HT1.out,sW,lA0];exact HP.out.1,by rw[ig.out];exact uZ.out,HP.out.2⟩
    case measure=>simp[intOf];omega
   ·have ht1:=HT.out;have hg1:=HG.out;dsimp only at ht1 hg1;rw[if_neg h1]at ht1 hg1;have HT1:=ah ht1;have ig:=ah hg1;clear ht1 hg1 HT HG;have h2:q3<=1:=by omega
    go_wp2_with (at_builtin;refine aN aJ.jS (.tmp 21) (.tmp 24) rfl rfl (Value.slice B G.length d) rfl (aC HR2.out.1 (F:=aj) (by(repeat'(first|(with_reducible first|exact ak|apply au|apply ay|apply aA|apply aB)|(right;simp;done)))) (fun _ _ x=>x)) 1 rfl (Src.dA (t:=3) (size:=1) (m:=1) (cs:=#[.int .i64 q1]) (by(repeat (with_reducible first|exact Has.bK _ _ _ (by simp)|apply Has.drew|apply Has.drewN|apply Has.alloc|(apply Has.past<;>(try omega))))) rfl) (by simp[Value.oneCell']) xC.out zo.out ?_;intro A1 c1 w9 ho1 hg1 ha1;have hpush:=aF.pushed HR2.out (by(repeat'(first|(with_reducible first|exact ak|apply au|apply ay|apply aA|apply aB)|(exact HK.out)|(right;simp;done)))) ho1 hg1 ha1;have HP:=ah hpush;have fM:=aF.beside HR1.out (by(repeat'(first|(with_reducible first|exact ak|apply au|apply ay|apply aA|apply aB)|(right;simp;done)))) HR2.out (by decide) hg1;have uZ:=ah fM;clear ho1 hg1 ha1 hpush fM);go_roundw
    case rel=>exact⟨i+1,A,c,A1,c1,by omega,by go_num,by rw[HT1.out],by rw[ig.out,lA0];rfl,by rw[HT1.out];exact uZ.out,by rw[ig.out,lA0];simpa [ints]using HP.out.1,HP.out.2⟩
    case measure=>simp[intOf];omega
  ·obtain rfl:i=l.length:=by omega
   rw[List.take_length]at hr1 hr2⊢;have HR1:=ah hr1;have HR2:=ah hr2;have HK:=ah hk;clear hr1 hr2 hk;go_wp2;go_ret2;exact⟨A,c,B,d,rfl,HR1.out,HR2.out,HK.out⟩
end dh
namespace bW
open aJ Vn Mst jQ IM kK gu MO
def stA:bQ:={st0 with ep:=1,ms:=[(0,1),(1,1)],fl:=0,lg:=[0,1]}
def lC:bD:=⟨2,1,0,1,false,0,0,0,0,0,0,⟨#[]⟩,⟨#[]⟩,0,none,0,[],0,0,0,none,0,[],none,0,[],none,0,[],none,0,[]⟩
structure NH(M:MR)(j:Nat):Prop where
 st:M.st=stA
 ns:M.ns=[(j:Int),if j=0 then 0 else 1,j,j]
 pins:M.pins=[]
 joins:∀i,M.joins i=false
 leaves:∀i,M.leaves i=false
 lost:∀i,M.lost i=false
 last:M.last=0
 mark:M.marks 0=none
 out:M.out=[]
theorem aia:ou lC=0:=by decide
theorem NH.deliver{M:MR}{j:Nat}(h:NH M j):cZ M 1 lC=mg (jU M 1 lC):=by
 unfold cZ;rw[if_pos aia];have e1:bJ M 1 lC=jm M 1 lC:=rfl;rw[e1];have e2:iJ M 1 lC=jU M 1 lC:=by unfold iJ;rw[h.st,if_pos (by decide),if_neg (by decide),if_neg (by decide)]
 unfold jm;rw[h.st,if_neg (by decide),e2]
structure xU(M:MR)(j:Nat):Prop where
 st:M.st=stA
 ns:M.ns=[(j:Int),0,j,j]
 pins:M.pins=[]
 joins:∀i,M.joins i=false
 leaves:∀i,M.leaves i=false
 lost:∀i,M.lost i=false
 last:M.last=0
 mark:M.marks 0=none
 out:M.out=[]
theorem NH.d{M:MR}{j:Nat}(h:NH M j):xU (cZ M 1 lC) j:=by
 rw[h.deliver];refine⟨h.st,?_,h.pins,h.joins,h.leaves,h.lost,?_,?_,rfl⟩
 ·show M.ns.set 1 0=_;rw[h.ns];rfl
 ·show max M.last 0=0;rw[h.last];rfl
 ·show vg M.marks 1 (some 0) 0=none;unfold vg;rw[if_neg (by decide)];exact h.mark
theorem xU.kD{M:MR}{j:Nat}(h:xU M j):kD M=M:=by
 unfold bW.kD;have e0:dh.iy M.pins=[]:=by rw[h.pins];rfl
 have e1:ny M=M:=by
  unfold ny;have:dh.dI M.pins=M.pins:=by rw[h.pins];rfl
  rw[this]
 rw[e0,e1];rfl
theorem xU.ns2{M:MR}{j:Nat}(h:xU M j)(hj:j<=100):(bG M).ns=[(j:Int)+1,1,(j:Int)+1,(j:Int)+1]:=by
 unfold bG;rw[h.kD,h.ns];have hb:bump (j:Int)=(j:Int)+1:=by unfold bump;rw[if_neg (by omega)]
 simp[hb];rfl
theorem xU.gone{M:MR}{j:Nat}(h:xU M j)(hj:j<5):jc (bG M) 4=[]/\ku (bG M) 4=[]:=by
 have hl:zQ (bG M).ns=[]:=by
  rw[h.ns2 (by omega)];have:j=0\/j=1\/j=2\/j=3\/j=4:=by omega
  rcases this with rfl|rfl|rfl|rfl|rfl<;>decide
 have h1:(bG M).lost=M.lost/\(bG M).leaves=M.leaves/\(bG M).joins=M.joins:=by unfold bG;rw[h.kD];exact⟨rfl,rfl,rfl⟩
 constructor
 ·unfold jc;rw[List.map_eq_nil_iff,List.filter_eq_nil_iff];intro i _;unfold yJ;rw[hl,h1.1,h1.2.1,h.lost,h.leaves];simp[inB]
 ·unfold ku;rw[List.map_eq_nil_iff,List.filter_eq_nil_iff];intro i _;unfold F8;rw[h1.2.2,h.joins];simp
theorem xU.st2{M:MR}{j:Nat}(h:xU M j):(bG M).st=stA/\(bG M).last=0/\(bG M).marks 0=none/\(bG M).out=[]/\(bG M).pins=[]:=by unfold bG;rw[h.kD];exact⟨h.st,h.last,h.mark,h.out,h.pins⟩
theorem xU.next{M:MR}{j:Nat}(h:xU M j)(hj:j<5):fF (bG M)=bG M:=by
 unfold fF;have hp:(dX (bG M)).e=20:=by unfold dX;rw[(h.gone hj).1,(h.gone hj).2,h.st2.1,h.st2.2.1];decide
 rw[if_pos (by rw[hp];decide)]
theorem xU.hor{M:MR}{j:Nat}(h:xU M j):eu (bG M)=bG M:=by
 unfold eu;have hk:known (bG M) (bG M).st.ms.length=false:=by unfold known;rw[h.st2.1];show(([(0,1),(1,1)]:List Mem).all fun m=>((bG M).marks m.1).isSome)=false;simp only[List.all_cons,h.st2.2.2.1];rfl
 rw[hk,if_neg (by decide)]
theorem WR(M:MR)(l:List Mem):(gq M l).st=M.st/\(gq M l).ns=M.ns/\(gq M l).pins=M.pins/\(gq M l).joins=M.joins/\(gq M l).leaves=M.leaves/\(gq M l).lost=M.lost/\(gq M l).last=M.last/\(gq M l).marks=M.marks:=by
 induction l generalizing M with
 |nil=>exact⟨rfl,rfl,rfl,rfl,rfl,rfl,rfl,rfl⟩
 |cons a l ih=>
  have hs:∀x,(iC M a.1 x).st=M.st/\(iC M a.1 x).ns=M.ns/\(iC M a.1 x).pins=M.pins/\(iC M a.1 x).joins=M.joins/\(iC M a.1 x).leaves=M.leaves/\(iC M a.1 x).lost=M.lost/\(iC M a.1 x).last=M.last/\(iC M a.1 x).marks=M.marks:=fun x=>by unfold iC;split<;>exact⟨rfl,rfl,rfl,rfl,rfl,rfl,rfl,rfl⟩
  obtain⟨a1,a2,a3,a4,a5,a6,a7,a8⟩:=ih (jW M a.1);obtain⟨b1,b2,b3,b4,b5,b6,b7,b8⟩:=hs (wK M.st none 0);exact⟨a1.trans b1,a2.trans b2,a3.trans b3,a4.trans b4,a5.trans b5,a6.trans b6,a7.trans b7,a8.trans b8⟩
theorem xU.tick{M:MR}{j:Nat}(h:xU M j)(hj:j<5):NH (lU M) (j+1):=by
 have e3:fQ M=bG M:=by unfold fQ;rw[h.next hj,h.hor]
 have ht:=WR (bG M) (bG M).st.ms;have e4:qW M=gq (bG M) (bG M).st.ms:=by unfold qW;rw[e3]
 have e5:lU M=mg (gq (bG M) (bG M).st.ms):=by unfold lU;rw[e4]
 rw[e5];obtain⟨a1,a2,a3,a4,a5,a6,a7,a8⟩:=ht;have h1:(bG M).lost=M.lost/\(bG M).leaves=M.leaves/\(bG M).joins=M.joins:=by unfold bG;rw[h.kD];exact⟨rfl,rfl,rfl⟩
 refine⟨a1.trans h.st2.1,?_,a3.trans h.st2.2.2.2.2,fun i=> ?_,fun i=> ?_,fun i=> ?_,a7.trans h.st2.2.1,?_,rfl⟩
 ·show(gq (bG M) (bG M).st.ms).ns=_;rw[a2,h.ns2 (by omega),if_neg (Nat.succ_ne_zero j)];simp
 ·show(gq (bG M) (bG M).st.ms).joins i=false;rw[a4,h1.2.2];exact h.joins i
 ·show(gq (bG M) (bG M).st.ms).leaves i=false;rw[a5,h1.2.1];exact h.leaves i
 ·show(gq (bG M) (bG M).st.ms).lost i=false;rw[a6,h1.1];exact h.lost i
 ·show(gq (bG M) (bG M).st.ms).marks 0=none;rw[a8];exact h.st2.2.2.1
theorem aib:ids [(1,1)]=[1]:=by unfold ids;simp
theorem xU.ahr{M:MR}(h:xU M 5):(lU M).st.ep=2/\(lU M).st.ms=[(1,1)]:=by
 have h1:(bG M).lost=M.lost/\(bG M).leaves=M.leaves/\(bG M).joins=M.joins:=by unfold bG;rw[h.kD];exact⟨rfl,rfl,rfl⟩
 have hl:zQ (bG M).ns=[0,2,3]:=by rw[h.ns2 (by omega)];decide
 have hg:jc (bG M) 4=[0]:=by
  have hp:∀i:Nat,yJ (bG M) i=(cO stA.ms i&&inB [0,2,3] i):=fun i=>by unfold yJ;rw[hl,h1.1,h1.2.1,h.lost,h.leaves,h.st2.1];simp
  unfold jc;rw[show yJ (bG M)=fun i:Nat=>(cO stA.ms i&&inB [0,2,3] i)from funext hp];decide
 have hj:ku (bG M) 4=[]:=by unfold ku;rw[List.map_eq_nil_iff,List.filter_eq_nil_iff];intro i _;unfold F8;rw[h1.2.2,h.joins];simp
 have hf:firsts stA.ms stA.lg [0]=[(1,1)]:=by decide
 have hP:dX (bG M)=⟨0,2,[(1,1)],1,[1]⟩:=by
  unfold dX iH;rw[hg,hj,h.st2.1,h.st2.2.1,hf,aib];have a1:¬(chk stA.ep stA.ms≠0):=by decide
  have a2:¬(([(1,1)]:List Mem)=[]):=by decide
  have a3:allOf stA.ms stA.lg [0] []=[(1,1)]:=by decide
  rw[if_neg a1,if_neg a2,a3,if_neg (by decide),if_neg (by decide)];rfl
 have hE:bn (bG M).st (kC (dX (bG M)))=0:=by rw[hP,h.st2.1];decide
 have hN:(fF (bG M)).st=aP stA (kC ⟨0,2,[(1,1)],1,[1]⟩):=by unfold fF;rw[if_neg (by rw[hP];exact fun z=>z rfl),if_neg (by rw[hE];exact fun z=>z rfl),xP];show(writeM (bG M) (kC (dX (bG M)))).st=_;rw[jD,hP,h.st2.1]
 have hH:=D9 (fF (bG M));have hS:(lU M).st=(fQ M).st:=IB _ _;have h3:(fQ M).st=(eu (fF (bG M))).st:=rfl;rw[hS,h3];constructor
 ·rw[hH.ep,hN];decide
 ·rw[hH.ms,hN];decide
theorem aic:ids [(0,1),(1,1)]=[0,1]:=by rw[<-ad8 (l:=[(0,1),(1,1)]) (fun m hm=>by simp at hm;rcases hm with rfl|rfl<;>decide)];decide
theorem awA:NH (sQ 1 [(0,1),(1,1)] 0) 0:=by
 have hs:=KY (ep:=1) (fl:=0) (l:=[(0,1),(1,1)]) (by decide);rw[aic]at hs;have hw:∀x:aG,(writeM (mk0 nU) x).ns=(mk0 nU).ns/\(writeM (mk0 nU) x).pins=[]/\(writeM (mk0 nU) x).joins=(mk0 nU).joins/\(writeM (mk0 nU) x).leaves=(mk0 nU).leaves/\(writeM (mk0 nU) x).lost=(mk0 nU).lost/\(writeM (mk0 nU) x).last=0/\(writeM (mk0 nU) x).marks=(mk0 nU).marks:=fun x=>by unfold writeM;split<;>exact⟨rfl,rfl,rfl,rfl,rfl,rfl,rfl⟩
 obtain⟨a1,a2,a3,a4,a5,a6,a7⟩:=hw (lq 1 [(0,1),(1,1)] 0 (ids [(0,1),(1,1)]));refine⟨hs,a1,a2,fun i=> ?_,fun i=> ?_,fun i=> ?_,a6,?_,rfl⟩
 ·show(writeM (mk0 nU) _).joins i=false;rw[a3];rfl
 ·show(writeM (mk0 nU) _).leaves i=false;rw[a4];rfl
 ·show(writeM (mk0 nU) _).lost i=false;rw[a5];rfl
 ·show(writeM (mk0 nU) _).marks 0=none;rw[a7];rfl
end bW
namespace bW
open aJ Vn Mst jQ IM kK gu MO
theorem Q7(w:World):jd w lC:=
 ⟨Src.nil _ _ _,Nat.le_refl _,Nat.zero_le _,Src.nil _ _ _,Src.nil _ _ _,(fun y hy=>by cases hy),Nat.zero_le _,Src.nil _ _ _,Nat.zero_le _,(fun y hy=>by cases hy),Src.nil _ _ _,Nat.zero_le _,by unfold lC;dsimp only;unfold aW;decide⟩
structure Own(w:World)(mb:Nat)(c k:Nat)(W:World)(X:MX)(M:MR):Prop where
 mb:X.mb=mb
 at':dJ W X M
 lb:dG X M.lg c
 ok:bC M k
 nw:∀q,dN X M q->w.heap.size<=q
 kp:Kept aj w W
theorem Own.step{w W W':World}{mb c k c' k':Nat}{X X':MX}{M M':MR}(h:Own w mb c k W X M)(hs:Step W X M W' X' M')(hl:dG X' M'.lg c')(hk:bC M' k'):Own w mb c' k' W' X' M':=by
 refine⟨hs.mb.trans h.mb,hs.at',hl,hk,fun q hq=> ?_,h.kp.trans hs.k (fun q hq=> .inr (h.nw q hq))⟩;rcases hs.g q hq with y|y
 ·exact h.nw q y
 ·have:=h.kp.size;omega
theorem Own.quiet{w W W':World}{mb c k:Nat}{X:MX}{M:MR}(h:Own w mb c k W X M)(hk:Kept aj W W'):Own w mb c k W' X M:=⟨h.mb,h.at'.quiet hk,h.lb,h.ok,h.nw,h.kp.then hk⟩
theorem Own.mono{w W:World}{mb c k c' k':Nat}{X:MX}{M:MR}(h:Own w mb c k W X M)(hc:c<=c')(hk:k<=k'):Own w mb c' k' W X M:=⟨h.mb,h.at',h.lb.mono hc,h.ok.mono hk,h.nw,h.kp⟩
theorem Own.new{w w1 w2:World}{F:Nat->Prop}{ep fl:Int}{l:List Mem}{X:MX}(hk1:Kept aj w w1)(hF:∀k,F k->w.heap.size<=k)(hfl:0<=fl/\fl<=aW)(hm:dJ w2 X (sQ ep l fl))(hlb:dG X (sQ ep l fl).lg 2)(hft:∀k,dN X (sQ ep l fl) k->F k\/w1.heap.size<=k)(hk2:Kept F w1 w2):Own w X.mb 2 0 w2 X (sQ ep l fl):=
 ⟨rfl,hm,hlb,aeO hfl,(fun q hq=>by
  rcases hft q hq with y|y
  ·exact hF q y
  ·have:=hk1.size;omega),hk1.trans hk2 (fun q hq=> .inr (hF q hq))⟩
theorem WT:I64 1:=gY (by decide) (by decide)
theorem ahs:aJ.chk 1 [(0,1),(1,1)]=0:=by decide
theorem aeX(w:World):Calls Tryz.prog 5 #[] w fun e w'=>e=.returned (.bool true)/\Kept aj w w':=by
 go_enter Tryz.func5,Tryz.ntmps5;go_wp2_with fail;refine(aH.new_any w).mono ?_;rintro e w1 ⟨g,F,rfl,hd,hk1,hF⟩;obtain⟨W1,hW1⟩:∃W1,w1.alloc (.cells #[.int .i64 0,.int .i64 1,.int .i64 1,.int .i64 1] 56)=W1:=⟨_,rfl⟩;have hkw:Kept aj w1 W1:=by rw[<-hW1];(repeat'(first|(with_reducible first|exact ak|apply au|apply ay|apply aA|apply aB)|(right;simp;done)))
 have hnb:Has W1 w1.heap.size 56 #[.int .i64 0,.int .i64 1,.int .i64 1,.int .i64 1]:=by rw[<-hW1];exact Has.new _ _ _
 have hnew:=Qe W1 g F 1 1 1 0 (some ⟨w1.heap.size,0,none⟩) 2 [(0,1),(1,1)] (hd.kept hkw (fun _ _ z=>z)) (Src.dA (t:=56) (size:=2) (m:=2) (cs:=#[.int .i64 0,.int .i64 1,.int .i64 1,.int .i64 1]) hnb rfl) (fun _ ad e hf=>by injection e with e;subst e;exact absurd (hd.lt _ hf) (Nat.lt_irrefl _)) (by decide) (by decide) ⟨by decide,by decide⟩ ahs;have gI:=ah hnew;have gB:=ah (hk1.then hkw);have HF:=ah hF;clear hnew hkw hnb hd hk1 hF;go_wp2_with fail;clear hW1;refine gI.out.mono ?_;rintro e w2 ⟨X,rfl,hm,hlb,-,hft,hk2⟩;have ho:=Own.new gB.out HF.out ⟨by decide,by decide⟩ hm hlb hft hk2;obtain⟨mb,hmb⟩:∃mb,X.mb=mb:=⟨_,rfl⟩;rw[hmb]at ho⊢;have HO:=ah ho;clear ho hm hlb hft hk2 hmb gB HF gI;go_wp2_with fail;go_loopw [3] (fun v3 wr=>∃(i:Nat) (M:MR) (X1:MX),i<=6/\v3=.int .i64 i/\Own w mb (2+9*i) i wr X1 M/\(i<=5->NH M i)/\(i=6->M.st.ep=2/\M.st.ms=[(1,1)])) (fun v3 _=>6-(intOf v3).toNat)
 case atStart=>exact⟨0,_,X,by omega,rfl,HO.out,fun _=>awA,fun h=>by omega⟩
 case round=>
  obtain⟨i,M,X1,hi,rfl,ho,ha,hz⟩:=hrel;by_cases hil:i<6
  ·have haw:=ha (by omega);have hol:M.out.length<=90:=by rw[haw.out];decide
   have hdel:=G4 ho.at' ho.lb (by omega) ho.ok (by omega) hol 1 lC (Q7 wr) WT WT;rw[ho.mb]at hdel;have hd1:=ho.ok.deliver 1 lC WT (Q7 wr);have hout:(cZ M 1 lC).out.length<=90:=by rw[haw.d.out];decide
   have Aw:∀W X2,Step wr X1 M W X2 (cZ M 1 lC)->dG X2 (cZ M 1 lC).lg (2+9*i+3)->Calls Tryz.prog 15 #[.pointer (some ⟨mb,0,none⟩)] W fun e W'=>(∃v:Value,e=.returned v)/\∃X3,Own w mb (2+9*(i+1)) (i+1) W' X3 (lU (cZ M 1 lC)):=fun W X2 hs hl=>by have h2:=ho.step hs hl hd1;have ht:=QB h2.at' h2.lb (by omega) h2.ok (by omega) hout;rw[h2.mb]at ht;refine ht.mono fun e W' hp=> ?_;obtain⟨h3,X3,h4,h5⟩:=Step.J3 hp;exact⟨h3,X3,h2.step h4 (h5.mono (by omega)) hd1.tick⟩
   have hfin:(i+1<=5->NH (lU (cZ M 1 lC)) (i+1))/\(i+1=6->(lU (cZ M 1 lC)).st.ep=2/\(lU (cZ M 1 lC)).st.ms=[(1,1)]):=by
    refine⟨fun h=>haw.d.tick (by omega),fun h=> ?_⟩;obtain rfl:i=5:=by omega
    exact haw.d.ahr
   have Ob:=hdel.mono fun e W' hp=>show(∃v:Value,e=.returned v)/\∃X',Step wr X1 M W' X' (cZ M 1 lC)/\dG X' (cZ M 1 lC).lg (2+9*i+3)from Step.J3 hp;obtain⟨M2,hM2⟩:∃M2,cZ M 1 lC=M2:=⟨_,rfl⟩;simp only[hM2]at Ob Aw hfin;simp only[lC,iE,aI,List.length_nil]at Ob;have HD:=ah Ob;have HT:=ah Aw;have qg:=ah hfin;clear hdel Ob hd1 hout Aw hfin haw hol ho ha hz hM2;go_wp2_with fail;refine HD.out.mono ?_;rintro e w4 ⟨⟨v,rfl⟩,X2,hs,hl⟩;have HTT:=ah (HT.out w4 X2 hs hl);clear hs hl;go_wp2_with fail;refine HTT.out.mono ?_;rintro e w5 ⟨⟨v5,rfl⟩,X3,ho3⟩;have HO3:=ah ho3;clear ho3;go_wp2_with fail;go_roundw
   case rel=>exact⟨i+1,_,X3,by omega,by go_num,HO3.out,qg.out.1,qg.out.2⟩
   case measure=>simp[intOf];omega
  ·obtain rfl:i=6:=by omega
   obtain⟨hz1,hz2⟩:=hz rfl;have hcf:=Zx ho.at' ho.ok.st.inv.ok;rw[ho.mb,hz1,hz2]at hcf;obtain⟨fl,hfl⟩:∃fl,M.st.fl=fl:=⟨_,rfl⟩;rw[hfl]at hcf;have Cb:=ah hcf;have YV:=ah ho.kp;clear hcf ho ha hz hz1 hz2 hfl;go_wp2_with fail;refine Cb.out.mono ?_;rintro e w4 ⟨A,c4,rfl,hn,hk4⟩;obtain⟨g',cap,hv,_,_⟩:=hn.1.form (by decide);have hc:=(Src.bF hn.1).2 (by decide);obtain⟨ad,had,hlt,hcell⟩:=hc;have e1:A=some ⟨g',0,none⟩:=by injection hv
   subst e1;have e2:ad=⟨g',0,none⟩:=by injection had with had;exact had.symm
   subst e2;have d0:∀o,(w4.alloc o).cell? ⟨g',0,none⟩=some (.int .i64 1):=fun o=>by
    have h5:Kept aj w4 (w4.alloc o):=by(repeat'(first|(with_reducible first|exact ak|apply au|apply ay|apply aA|apply aB)|(right;simp;done)))
    obtain⟨ad,had,_,hcell⟩:=((Src.bF hn.1).kept h5 (fun _ _ z=>z)).2 (by decide);injection had with had;subst had;exact hcell 0 _ rfl
   have eY:=ah (YV.out.then hk4);clear hn hk4 hv hcell hlt had;go_wp2_with fail;go_ret;exact⟨rfl,by(repeat'(first|(with_reducible first|exact ak|apply au|apply ay|apply aA|apply aB)|(exact eY.out)|(right;simp;done)))⟩
end bW
namespace Mst
open aJ Vn
theorem aaA(w:World)(A:Option Addr)(c:Nat)(l:List aO)(id:Int)(hl:Src w 3 A l.length (aS l))(hlen:l.length<=1000000):
  Calls Tryz.prog 88 #[.slice A l.length c,.int .i64 id] w fun e w'=>e=.returned (.int .i64 (bV l id))/\w=w':=by
 have HL:=ah hl;clear hl;go_enter Tryz.func88,Tryz.ntmps88;go_wp2_with fail;go_loop [5] (fun v5=>∃i:Nat,i<=l.length/\v5=.int .i64 i/\bV l id=iF (fun x=>decide (x.id=id)) (l.drop i) i) (fun v5=>l.length-(intOf v5).toNat)
 case atStart=>exact⟨0,Nat.zero_le _,rfl,rfl⟩
 case round=>
  obtain⟨i,hi,rfl,he⟩:=hrel;have HE:=ah he;clear he;by_cases hil:i<l.length
  ·obtain⟨b,hb⟩:∃b,l[i]? =some b:=⟨_,lB0 hil⟩;obtain⟨ad,rfl,had,e0,e1,e2⟩:=iL HL.out (by omega) i b hb;have hd:=BI (fun x:aO=>decide (x.id=id)) hb;have HD:=ah hd;clear hd hb;obtain⟨b1,b2,b3⟩:=b;dsimp only at e0 e1 e2 HD;by_cases hbx:b1=id
   ·subst hbx;go_wp2;go_ret;exact⟨by rw[HE.out,HD.out];simp,rfl⟩
   ·have hne:(b1==id)=false:=by simpa using hbx
    go_wp2;go_round
    case rel=>exact⟨i+1,by omega,by go_num,by rw[HE.out,HD.out];simp[hbx]⟩
    case measure=>simp[intOf];omega
  ·obtain rfl:i=l.length:=by omega
   go_wp2;go_ret;exact⟨by rw[HE.out,List.drop_length];rfl,rfl⟩
end Mst
namespace Mst
open aJ Vn
theorem aaB(w:World)(A:Option Addr)(c:Nat)(l:List aO)(id:Int)(hl:Src w 3 A l.length (aS l))(hlc:l.length<=c)(hlen:l.length<=1000000):
  Calls Tryz.prog 38 #[.slice A l.length c,.int .i64 id] w (wF w l id):=by
 have hf:=aaA w A c l id hl hlen;rcases jE l id with h1|⟨k,x,h1,hx,hid⟩
 ·rw[h1]at hf;have hP:∀w',Kept aj w w'->wF w l id (.returned (.tuple #[.slice none 0 0,.int .i64 7])) w':=fun w' hk=> .inl ⟨by omega,rfl,hk⟩;have HF:=ah hf;have HP:=ah hP;clear hf hP hl h1;go_enter Tryz.func38,Tryz.ntmps38;go_wp2_with fail;refine HF.out.mono ?_;rintro e w1 ⟨rfl,rfl⟩;go_wp2;go_ret2;exact HP.out _ (Kept.refl _ _)
 ·rw[h1]at hf;have hkl:k<l.length:=(lD0.1 hx).1;have hP:∀w' A c,aF 53 3 w.heap.size w' A (k+(l.length-(k+1))) c (aS (l.take k)++aS (l.drop (k+1)))->Kept aj w w'->wF w l id (.returned (.tuple #[.slice A ((k+(l.length-(k+1)):Nat)) c,.int .i64 0])) w':=fun w' A c hn hk=>by
   have e1:freed l id=l.eraseIdx k:=by unfold freed;rw[h1,Int.toNat_natCast,if_neg (by omega)]
   have e2:(freed l id).length=k+(l.length-(k+1)):=by rw[e1,List.length_eraseIdx_of_lt hkl];omega
   refine .inr ⟨by omega,A,c,?_,?_,hk⟩
   ·rw[e2]
   ·rw[e2,e1,List.eraseIdx_eq_take_drop_succ,qH];exact hn
  obtain⟨ad,rfl,_⟩:=hl.2 (by omega);have ht:=hl.take (k:=k) (by omega);have hd:=hl.drop (k:=k+1) (by omega) hlc;rw[<-Gs]at ht;rw[<-Gq]at hd;have hd:Src w 3 (if c=k+1 then some ad else some (ad.add ((k+1)*3))) (l.length-(k+1)) (aS (l.drop (k+1))):=hd;obtain⟨D,hD⟩:∃D,(if c=k+1 then some ad else some (ad.add ((k+1)*3)))=D:=⟨_,rfl⟩;rw[hD]at hd;have b0:(0:Int)<=(k:Int):=by omega
  have b1:(k:Int)<=(c:Int):=by omega
  have b2:(k:Int)+1<=(l.length:Int):=by omega
  have b3:IntKind.i64.wrap ((k:Int)+1)=(k:Int)+1:=IntWalk.i64_in _ (by omega);have b4:(0:Int)<=(k:Int)+1:=by omega
  have b5:((k:Int)+1).toNat=k+1:=by omega
  have b6:(l.length:Int)<=(c:Int):=by omega
  have LX:Hid (0+k<=maxLen):=ah (by unfold maxLen;omega);have HY0:Hid ((0+k)*24<=140737488355328):=ah (by omega);have HM:Hid (k+(l.length-(k+1))<=maxLen):=ah (by unfold maxLen;omega);have HY:Hid ((k+(l.length-(k+1)))*24<=140737488355328):=ah (by omega);have HF:=ah hf;have HP:=ah hP;have HT:=ah ht;have HD:=ah hd;clear hf hP hl h1 hx hid ht hd;go_enter Tryz.func38,Tryz.ntmps38;go_wp2_with fail;refine HF.out.mono ?_;rintro e w1 ⟨rfl,rfl⟩;go_wp2_with fail
  go_region_law (first
   |(with_reducible apply kU qN (.tmp 12) (.tmp 15) (n:=0) (xs:=[]) (A:=some ad) (m:=k) (c:=c) (news:=aS (l.take k))
     rfl
     rfl
     exact(rfl:_=Value.slice (some ⟨_,0,none⟩) 0 0)
     (refine uj (cs:=#[]) ?_ rfl;(repeat (with_reducible first|exact Has.bK _ _ _ (by simp)|apply Has.drew|apply Has.drewN|apply Has.alloc|(apply Has.past<;>(try omega)))))
     rfl
     (refine HT.out.kept (F:=aj) ?_ (fun _ _ x=>x);(repeat'(first|(with_reducible first|exact ak|apply au|apply ay|apply aA|apply aB)|(right;simp;done))))
     exact uY _
     exact LX.out
     exact HY0.out
     intro A1 c1 w2 ho1 hg1 ha1
     have hk1:Kept aj w w2:=by refine Kept.grown ?_ hg1 ?_;(repeat'(first|(with_reducible first|exact ak|apply au|apply ay|apply aA|apply aB)|(right;simp;done)));(intro k hk;simp[Value.ownBlock]at hk;right;omega)
     have hz1:=hk1.size
     simp only[Nat.zero_add,List.nil_append]at ho1 ha1⊢)
   |(with_reducible apply kU qN (.tmp 16) (.tmp 20) (n:=k) (xs:=aS (l.take k)) (m:=l.length-(k+1)) (news:=aS (l.drop (k+1)))
     rfl
     rfl
     exact(rfl:_=Value.slice A1 k c1)
     (refine aC ho1 (F:=aj) ?_ (fun _ _ x=>x);(repeat'(first|(with_reducible first|exact ak|apply au|apply ay|apply aA|apply aB)|(right;simp;done))))
     exact(rfl:_=Value.slice D (l.length-(k+1)) (c-(k+1)))
     (refine HD.out.kept (F:=aj) (Kept.then hk1 ?_) (fun _ _ x=>x);(repeat'(first|(with_reducible first|exact ak|apply au|apply ay|apply aA|apply aB)|(right;simp;done))))
     exact uY _
     exact HM.out
     exact HY.out
     intro A2 c2 w3 ho2 hg2 ha2
     have hk2:Kept aj w w3:=by refine Kept.grown (Kept.then hk1 ?_) hg2 ?_;(repeat'(first|(with_reducible first|exact ak|apply au|apply ay|apply aA|apply aB)|(right;simp;done)));(intro k hk;rw[hk]at ha1;simp[Value.ownBlock]at ha1;right;omega)))
  all_goals
   go_wp2
   go_ret2
   refine HP.out _ _ _ ⟨ho2,fun g hg=> ?_⟩ hk2
   rcases ha2 with e|e
   ·rw[hg]at e;rw[<-e]at ha1;simp[Value.ownBlock]at ha1;omega
   ·rw[hg]at e;injection e with e;have:=hk1.size;omega
end Mst
namespace bW
open aJ Vn Mst jQ IM kK gu vM MO
structure mV(w:World)(X:MX)(M:MR)(A:Option Addr)(c:Nat)(T:List aO):Prop where
 s:Src w 3 A T.length (aS T)
 c:T.length<=c
 off:0<T.length->∀ad,A=some ad->¬dN X M ad.block
section
variable{w w':World}{X:MX}{M:MR}{A:Option Addr}{c k:Nat}{T:List aO}
theorem mV.kept(h:mV w X M A c T)(hk:Kept aj w w'):mV w' X M A c T:=⟨h.s.kept hk (fun _ _ z=>z),h.c,h.off⟩
theorem mV.new{B:Nat}(h:aF 53 3 B w' A T.length c (aS T))(hB:∀q,dN X M q->q<B):mV w' X M A c T:=by refine⟨Src.bF h.1,(gJ h.1).1,fun h0 ad e hf=> ?_⟩;obtain⟨g',cap,hv,_,_⟩:=h.1.form h0;injection hv with h1 h2 h3;rw[e]at h1;injection h1 with h1;have h4:=h.2 g' (by rw[e,h1];rfl);have h5:=hB _ hf;rw[h1]at h5;dsimp only at h5;omega
theorem mV.nil:mV w X M none 0 []:=⟨Src.nil _ _ _,Nat.le_refl _,fun h=>absurd h (Nat.lt_irrefl _)⟩
def og(w:World)(X:MX)(M:MR)(T:List aO)(a:fE)(e:Ending)(w':World):Prop:=∃A' c',e=.returned (.slice A' (iQ T M a).length c')/\mV w' X M A' c' (iQ T M a)/\Kept aj w w'
theorem uM{b:Nat}{a:fE}(h:Has w b 47 (fZ a).toArray):w.cell? ⟨b,0,none⟩=some (.int .i64 a.k)/\w.cell? ⟨b,1,none⟩=some (.int .i64 a.n)/\w.cell? ⟨b,2,none⟩=some (.int .i64 a.x.k)/\w.cell? ⟨b,4,none⟩=some (.int .i64 a.x.req)/\w.cell? ⟨b,9,none⟩=some (.int .i64 a.x.n):=⟨h.cell 0,h.cell 1,h.cell 2,h.cell 4,h.cell 9⟩
theorem aaC(h:dJ w X M)(hT:mV w X M A c T)(hl:T.length<=1000)(hp:∀p∈T,0<=p.left/\p.left<=1000000)(v:Value)(a:fE)(hk:a.k=4\/a.k=5):
  Calls Tryz.prog 12 #[.slice A T.length c,v,.agg (fZ a).toArray] w (og w X M T a):=by
 obtain⟨W0,hW0⟩:∃W0,w.alloc (.cells (fZ a).toArray 47)=W0:=⟨_,rfl⟩;have hk0:Kept aj w W0:=by rw[<-hW0];(repeat'(first|(with_reducible first|exact ak|apply au|apply ay|apply aA|apply aB)|(right;simp;done)))
 have hn0:Has W0 w.heap.size 47 (fZ a).toArray:=by rw[<-hW0];exact Has.new _ _ _
 obtain⟨q0,-,-,-,-⟩:=uM hn0;have e1:iQ T M a=dh.dI T:=by unfold iQ;rw[if_pos hk]
 have htk:=dh.aaz W0 A c T (hT.s.kept hk0 (fun _ _ z=>z)) hl hp;have hlt:∀q,dN X M q->q<W0.heap.size:=fun q hq=>by have:=h.lt hq;have:=hk0.size;omega
 unfold og;rw[e1];have HT:=ah htk;have HL:=ah hlt;have HK:=ah hk0;clear htk hlt hk0 hn0 e1 h hT hl hp;obtain⟨cs,hcs⟩:∃cs,(fZ a).toArray=cs:=⟨_,rfl⟩;rw[hcs]at hW0⊢;rcases hk with hk|hk
 all_goals
  rw[hk]at q0
  clear hcs hk
  go_enter Tryz.func12,Tryz.ntmps12
  go_wp2_with fail
  clear hW0 q0
  refine HT.out.mono ?_
  rintro e w2 ⟨A2,c2,B,d,rfl,hn,-,hk2⟩
  have HN:=ah hn;have aV:=ah (HK.out.then hk2);clear hn hk2
  go_wp2
  go_ret
  exact⟨A2,c2,rfl,mV.new HN.out HL.out,aV.out⟩
theorem aaD(hT:mV w X M A c T)(v:Value)(a:fE)(hk:¬(a.k=4\/a.k=5))(hb:a.k<0\/3<a.k\/a.n<5\/8<=a.n):
  Calls Tryz.prog 12 #[.slice A T.length c,v,.agg (fZ a).toArray] w (og w X M T a):=by
 obtain⟨W0,hW0⟩:∃W0,w.alloc (.cells (fZ a).toArray 47)=W0:=⟨_,rfl⟩;have hk0:Kept aj w W0:=by rw[<-hW0];(repeat'(first|(with_reducible first|exact ak|apply au|apply ay|apply aA|apply aB)|(right;simp;done)))
 have hn0:Has W0 w.heap.size 47 (fZ a).toArray:=by rw[<-hW0];exact Has.new _ _ _
 obtain⟨q0,q1,-,-,-⟩:=uM hn0;have e1:iQ T M a=T:=by unfold iQ;rw[if_neg hk,if_pos hb]
 unfold og;rw[e1];have HT:=ah (hT.kept hk0);have HK:=ah hk0;clear hk0 hn0 e1 hT;obtain⟨cs,hcs⟩:∃cs,(fZ a).toArray=cs:=⟨_,rfl⟩;rw[hcs]at hW0⊢;obtain⟨kk,hkk⟩:∃kk,a.k=kk:=⟨_,rfl⟩;obtain⟨nn,hnn⟩:∃nn,a.n=nn:=⟨_,rfl⟩;rw[hkk]at q0 hk hb;rw[hnn]at q1 hb;have hcase:kk<0\/(¬kk<0/\3<kk)\/(¬kk<0/\¬3<kk/\nn<5)\/(¬kk<0/\¬3<kk/\¬nn<5/\8<=nn):=by omega
 have k4:(kk==4)=false:=by simp;omega
 have k5:(kk==5)=false:=by simp;omega
 clear hb hk hcs hkk hnn;rcases hcase with g1|⟨g1,g2⟩|⟨g1,g2,g3⟩|⟨g1,g2,g3,g4⟩
 all_goals
  go_enter Tryz.func12,Tryz.ntmps12
  go_wp2
  go_ret
  exact⟨A,c,rfl,HT.out,HK.out⟩
end
end bW
namespace bW
open aJ Vn Mst jQ IM kK gu vM MO
section
variable{w w':World}{X:MX}{M:MR}{A:Option Addr}{c k:Nat}{T:List aO}
theorem IK(a:fE)(hk:0<=a.k/\a.k<=3)(hn:5<=a.n/\a.n<8):iQ T M a=(if(dO M.st (a.n-5)).req≠a.x.req\/(dO M.st (a.n-5)).e≠0 then T
 else if a.x.k=11 then (if T.any (fun p=>decide (p.id=(dO M.st (a.n-5)).pin))=true then T else T++M.pins.filter (fun p=>decide (p.id=(dO M.st (a.n-5)).pin)))
 else if a.x.k=13 then (if bV T a.x.n<0 then T else freed T a.x.n)else T):=by
 unfold iQ
 rw[if_neg (by omega),if_neg (by omega)]
theorem IL(h:dJ w X M)(hT:mV w X M A c T)(a:fE)(hk:0<=a.k/\a.k<=3)(hn:5<=a.n/\a.n<8)(hb:((dO M.st (a.n-5)).req≠a.x.req\/(dO M.st (a.n-5)).e≠0)\/(a.x.k≠11/\a.x.k≠13)):
  Calls Tryz.prog 12 #[.slice A T.length c,.pointer (some ⟨X.mb,0,none⟩),.agg (fZ a).toArray] w (og w X M T a):=by
 obtain⟨W0,hW0⟩:∃W0,w.alloc (.cells (fZ a).toArray 47)=W0:=⟨_,rfl⟩;have hk0:Kept aj w W0:=by rw[<-hW0];(repeat'(first|(with_reducible first|exact ak|apply au|apply ay|apply aA|apply aB)|(right;simp;done)))
 have hn0:Has W0 w.heap.size 47 (fZ a).toArray:=by rw[<-hW0];exact Has.new _ _ _
 obtain⟨q0,q1,-,-,-⟩:=uM hn0;have e1:iQ T M a=T:=by
  rw[IK a hk hn];split
  ·rfl
  ·rename_i h9;rcases hb with hb|hb
   ·exact absurd hb h9
   ·rw[if_neg hb.1,if_neg hb.2]
 unfold og;rw[e1];have hsd:=E7 (h.quiet hk0) (a.n-5);have hqq:∀W,Kept aj W0 W->W.cell? ⟨w.heap.size,2,none⟩=some (.int .i64 a.x.k)/\W.cell? ⟨w.heap.size,4,none⟩=some (.int .i64 a.x.req):=fun W hW=>by obtain⟨-,-,z2,z4,-⟩:=uM (hn0.kept hW (fun z=>z));exact⟨z2,z4⟩
 obtain⟨⟨s0,s1,s2,s3⟩,hs⟩:∃s,dO M.st (a.n-5)=s:=⟨_,rfl⟩;rw[hs]at hsd hb;have hw:IntKind.i64.wrap (a.n-5)=a.n-5:=IntWalk.i64_in _ (by omega);have HT:=ah hT;have HK:=ah hk0;have uD:=ah hsd;have HQ:=ah hqq;clear hk0 hn0 e1 hT h hsd hqq hs;obtain⟨cs,hcs⟩:∃cs,(fZ a).toArray=cs:=⟨_,rfl⟩;rw[hcs]at hW0⊢;obtain⟨kk,hkk⟩:∃kk,a.k=kk:=⟨_,rfl⟩;obtain⟨nn,hnn⟩:∃nn,a.n=nn:=⟨_,rfl⟩;obtain⟨xk,hxk⟩:∃xk,a.x.k=xk:=⟨_,rfl⟩;obtain⟨xr,hxr⟩:∃xr,a.x.req=xr:=⟨_,rfl⟩;rw[hkk]at q0 hk;rw[hnn]at q1 hn hw uD;rw[hxk]at hb HQ;rw[hxr]at hb HQ;obtain⟨bx,hbx⟩:∃bx,w.heap.size=bx:=⟨_,rfl⟩;rw[hbx]at q0 q1 HQ;have k4:(kk==4)=false:=by simp;omega
 have k5:(kk==5)=false:=by simp;omega
 have g1:¬kk<0:=by omega
 have g2:¬3<kk:=by omega
 have g3:¬nn<5:=by omega
 have g4:¬8<=nn:=by omega
 have hcase:s1≠xr\/(s1=xr/\s2≠0)\/(s1=xr/\s2=0/\xk≠11/\xk≠13):=by dsimp only at hb;omega
 clear hb hk hn hcs hkk hnn hxk hxr;go_enter Tryz.func12,Tryz.ntmps12;go_wp2_with fail;clear hW0 q0 q1 k4 k5 g1 g2 g3 g4 hw hbx;refine uD.out.mono ?_;rintro e w2 ⟨rfl,hk2⟩;unfold pI;obtain⟨W2,hW2⟩:∃W2,w2.alloc (.cells #[.int .i64 s0,.int .i64 s1,.int .i64 s2,.int .i64 s3] 76)=W2:=⟨_,rfl⟩;have hkw:Kept aj W0 W2:=by rw[<-hW2];(repeat'(first|(with_reducible first|exact ak|apply au|apply ay|apply aA|apply aB)|(exact hk2)|(right;simp;done)))
 have hs2:Has W2 w2.heap.size 76 #[.int .i64 s0,.int .i64 s1,.int .i64 s2,.int .i64 s3]:=by rw[<-hW2];exact Has.new _ _ _
 obtain⟨z2,z4⟩:=HQ.out W2 hkw;have y1:W2.cell? ⟨w2.heap.size,1,none⟩=some (.int .i64 s1):=hs2.cell 1;have y2:W2.cell? ⟨w2.heap.size,2,none⟩=some (.int .i64 s2):=hs2.cell 2;have aV:=ah (HK.out.then hkw);clear hkw hs2 hk2;rcases hcase with c1|⟨c1,c2⟩|⟨c1,c2,c3,c4⟩
 ·have n1:(s1 !=xr)=true:=by simpa using c1
  go_wp2;go_ret;exact⟨A,c,rfl,HT.out.kept aV.out,aV.out⟩
 ·subst c1;have n1:(s1 !=s1)=false:=by simp
  have n2:(s2 !=0)=true:=by simpa using c2
  go_wp2;go_ret;exact⟨A,c,rfl,HT.out.kept aV.out,aV.out⟩
 ·subst c1 c2;have n1:(s1 !=s1)=false:=by simp
  have n3:(xk==11)=false:=by simpa using c3
  have n4:(xk==13)=false:=by simpa using c4
  go_wp2;go_ret;exact⟨A,c,rfl,HT.out.kept aV.out,aV.out⟩
theorem aaE(h:dJ w X M)(hT:mV w X M A c T)(a:fE)(hk:0<=a.k/\a.k<=3)(hn:5<=a.n/\a.n<8)(hl:T.length<=1000)(hr:(dO M.st (a.n-5)).req=a.x.req)(he:(dO M.st (a.n-5)).e=0)(h13:a.x.k=13):
  Calls Tryz.prog 12 #[.slice A T.length c,.pointer (some ⟨X.mb,0,none⟩),.agg (fZ a).toArray] w (og w X M T a):=by
 obtain⟨W0,hW0⟩:∃W0,w.alloc (.cells (fZ a).toArray 47)=W0:=⟨_,rfl⟩;have hk0:Kept aj w W0:=by rw[<-hW0];(repeat'(first|(with_reducible first|exact ak|apply au|apply ay|apply aA|apply aB)|(right;simp;done)))
 have hn0:Has W0 w.heap.size 47 (fZ a).toArray:=by rw[<-hW0];exact Has.new _ _ _
 obtain⟨q0,q1,-,-,-⟩:=uM hn0;have e1:iQ T M a=(if bV T a.x.n<0 then T else freed T a.x.n):=by rw[IK a hk hn,if_neg (by rw[hr,he];simp),if_neg (by omega),if_pos h13]
 unfold og;rw[e1];have hfr:=fun W (hW:Kept aj W0 W)=>aaB W A c T a.x.n (hT.s.kept (hk0.then hW) (fun _ _ z=>z)) hT.c (by omega);have hlt:∀q,dN X M q->q<W0.heap.size:=fun q hq=>by have:=h.lt hq;have:=hk0.size;omega
 have hsd:=E7 (h.quiet hk0) (a.n-5);have hqq:∀W,Kept aj W0 W->W.cell? ⟨w.heap.size,2,none⟩=some (.int .i64 a.x.k)/\W.cell? ⟨w.heap.size,4,none⟩=some (.int .i64 a.x.req)/\W.cell? ⟨w.heap.size,9,none⟩=some (.int .i64 a.x.n):=fun W hW=>by obtain⟨-,-,z2,z4,z9⟩:=uM (hn0.kept hW (fun z=>z));exact⟨z2,z4,z9⟩
 obtain⟨⟨s0,s1,s2,s3⟩,hs⟩:∃s,dO M.st (a.n-5)=s:=⟨_,rfl⟩;rw[hs]at hsd hr he;have hw:IntKind.i64.wrap (a.n-5)=a.n-5:=IntWalk.i64_in _ (by omega);have HT:=ah hT;have HK:=ah hk0;have uD:=ah hsd;have HQ:=ah hqq;have Gt:=ah hfr;have sJ:=ah hlt;clear hk0 hn0 e1 hT h hsd hqq hs hfr hlt;obtain⟨cs,hcs⟩:∃cs,(fZ a).toArray=cs:=⟨_,rfl⟩;rw[hcs]at hW0⊢;obtain⟨kk,hkk⟩:∃kk,a.k=kk:=⟨_,rfl⟩;obtain⟨nn,hnn⟩:∃nn,a.n=nn:=⟨_,rfl⟩;obtain⟨xk,hxk⟩:∃xk,a.x.k=xk:=⟨_,rfl⟩;obtain⟨xr,hxr⟩:∃xr,a.x.req=xr:=⟨_,rfl⟩;rw[hkk]at q0 hk;rw[hnn]at q1 hn hw uD;rw[hxk]at h13 HQ;rw[hxr]at hr HQ;obtain⟨xn,hxn⟩:∃xn,a.x.n=xn:=⟨_,rfl⟩;rw[hxn]at HQ Gt⊢;obtain⟨bx,hbx⟩:∃bx,w.heap.size=bx:=⟨_,rfl⟩;rw[hbx]at q0 q1 HQ;have k4:(kk==4)=false:=by simp;omega
 have k5:(kk==5)=false:=by simp;omega
 have g1:¬kk<0:=by omega
 have g2:¬3<kk:=by omega
 have g3:¬nn<5:=by omega
 have g4:¬8<=nn:=by omega
 dsimp only at hr he;subst hr he h13;clear hk hn hcs hkk hnn hxk hxr hxn hl;obtain⟨R,hR⟩:∃R,(if bV T xn<0 then T else freed T xn)=R:=⟨_,rfl⟩;rw[hR];have HR:=ah hR;clear hR;go_enter Tryz.func12,Tryz.ntmps12;go_wp2_with fail;clear hW0 q0 q1 k4 k5 g1 g2 g3 g4 hw hbx;refine uD.out.mono ?_;rintro e w2 ⟨rfl,hk2⟩;unfold pI;obtain⟨W2,hW2⟩:∃W2,w2.alloc (.cells #[.int .i64 s0,.int .i64 s1,.int .i64 0,.int .i64 s3] 76)=W2:=⟨_,rfl⟩;have hkw:Kept aj W0 W2:=by rw[<-hW2];(repeat'(first|(with_reducible first|exact ak|apply au|apply ay|apply aA|apply aB)|(exact hk2)|(right;simp;done)))
 have hs2:Has W2 w2.heap.size 76 #[.int .i64 s0,.int .i64 s1,.int .i64 0,.int .i64 s3]:=by rw[<-hW2];exact Has.new _ _ _
 obtain⟨z2,z4,z9⟩:=HQ.out W2 hkw;have y1:W2.cell? ⟨w2.heap.size,1,none⟩=some (.int .i64 s1):=hs2.cell 1;have y2:W2.cell? ⟨w2.heap.size,2,none⟩=some (.int .i64 0):=hs2.cell 2;have aV:=ah (HK.out.then hkw);have hfr:=Gt.out W2 hkw;have WU:=ah hfr;have kR:=ah hkw.size;clear hkw hs2 hk2 hfr Gt;have n1:(s1 !=s1)=false:=by simp
 go_wp2_with fail;refine WU.out.mono ?_;rintro e w3 (⟨h0,rfl,hk3⟩|⟨h0,A3,c3,rfl,hn3,hk3⟩)
 ·have bu:=ah (aV.out.then hk3);have H0:=ah h0;clear hk3 h0 z2 z4 z9 y1 y2 hW2;go_wp2;go_ret;have h9:=HR.out;rw[if_pos H0.out]at h9;subst h9;exact⟨A,c,rfl,HT.out.kept bu.out,bu.out⟩
 ·have bu:=ah (aV.out.then hk3);have H0:=ah h0;have mG:=ah hn3;clear hk3 h0 hn3 z2 z4 z9 y1 y2 hW2;go_wp2;go_ret;have h0:=H0.out;have h9:=HR.out;rw[if_neg (by omega)]at h9;subst h9;exact⟨A3,c3,rfl,mV.new mG.out (fun q hq=>by have:=sJ.out q hq;have:=kR.out;omega),bu.out⟩
