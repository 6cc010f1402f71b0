/- Part 46 of what the proof needs. -/
import Derived.Test.YtolkgbafebehfaaGreatZP44
set_option linter.unusedSimpArgs false
set_option linter.unusedVariables false
set_option maxHeartbeats 32000000
set_option maxRecDepth 100000
namespace Go.Proofs.YtolkgbafebehfaaGreat
open Go.RowKit
set_option maxRecDepth 100000
namespace dM
open aP Vn Mst lJ IM nG gX MO
def stA:bV:={st0 with ep:=1,ms:=[(0,1),(1,1)],fl:=0,lg:=[0,1]}
def jE:bH:=⟨2,1,0,1,false,0,0,0,0,0,0,⟨#[]⟩,⟨#[]⟩,0,none,0,[],0,0,0,none,0,[],none,0,[],none,0,[],none,0,[]⟩
structure Hr(M:MR)(j:Nat):Prop where
 st:M.st=stA
 ns:M.ns=[(j:Int),if j=0 then 0 else 1,j,j]
 pins:M.pins=[]
 joins:∀i,M.joins i=false
 leaves:∀i,M.leaves i=false
 lost:∀i,M.lost i=false
 last:M.last=0
 mark:M.marks 0=none
 out:M.out=[]
theorem acU:ni jE=0:=by decide
theorem Hr.deliver{M:MR}{j:Nat}(h:Hr M j):fO M 1 jE=mX (kU M 1 jE):=by
 unfold fO
 rw[if_pos acU]
 have e1:dF M 1 jE=qK M 1 jE:=rfl
 rw[e1]
 have e2:jD M 1 jE=kU M 1 jE:=by
  unfold jD
  rw[h.st,if_pos (by decide),if_neg (by decide),if_neg (by decide)]
 unfold qK
 rw[h.st,if_neg (by decide),e2]
structure uJ(M:MR)(j:Nat):Prop where
 st:M.st=stA
 ns:M.ns=[(j:Int),0,j,j]
 pins:M.pins=[]
 joins:∀i,M.joins i=false
 leaves:∀i,M.leaves i=false
 lost:∀i,M.lost i=false
 last:M.last=0
 mark:M.marks 0=none
 out:M.out=[]
theorem Hr.d{M:MR}{j:Nat}(h:Hr M j):uJ (fO M 1 jE) j:=by
 rw[h.deliver]
 refine⟨h.st,?_,h.pins,h.joins,h.leaves,h.lost,?_,?_,rfl⟩
 ·show M.ns.set 1 0=_
  rw[h.ns];rfl
 ·show max M.last 0=0
  rw[h.last];rfl
 ·show y8 M.marks 1 (some 0) 0=none
  unfold y8
  rw[if_neg (by decide)]
  exact h.mark
theorem uJ.lM{M:MR}{j:Nat}(h:uJ M j):lM M=M:=by
 unfold dM.lM
 have e0:eF.jA M.pins=[]:=by rw[h.pins];rfl
 have e1:oU M=M:=by
  unfold oU
  have:eF.iE M.pins=M.pins:=by rw[h.pins];rfl
  rw[this]
 rw[e0,e1]
 rfl
theorem uJ.ns2{M:MR}{j:Nat}(h:uJ M j)(hj:j<=100):(bD M).ns=[(j:Int)+1,1,(j:Int)+1,(j:Int)+1]:=by
 unfold bD
 rw[h.lM,h.ns]
 have hb:bump (j:Int)=(j:Int)+1:=by unfold bump;rw[if_neg (by omega)]
 simp[hb]
 rfl
theorem uJ.gone{M:MR}{j:Nat}(h:uJ M j)(hj:j<5):gW (bD M) 4=[]/\jh (bD M) 4=[]:=by
 have hl:xq (bD M).ns=[]:=by
  rw[h.ns2 (by omega)]
  have:j=0\/j=1\/j=2\/j=3\/j=4:=by omega
  rcases this with rfl|rfl|rfl|rfl|rfl<;>decide
 have h1:(bD M).lost=M.lost/\(bD M).leaves=M.leaves/\(bD M).joins=M.joins:=by unfold bD;rw[h.lM];exact⟨rfl,rfl,rfl⟩
 constructor
 ·unfold gW
  rw[List.map_eq_nil_iff,List.filter_eq_nil_iff]
  intro i _
  unfold vJ
  rw[hl,h1.1,h1.2.1,h.lost,h.leaves]
  simp[inB]
 ·unfold jh
  rw[List.map_eq_nil_iff,List.filter_eq_nil_iff]
  intro i _
  unfold Ci
  rw[h1.2.2,h.joins]
  simp
theorem uJ.st2{M:MR}{j:Nat}(h:uJ M j):(bD M).st=stA/\(bD M).last=0/\(bD M).marks 0=none/\(bD M).out=[]/\(bD M).pins=[]:=by
 unfold bD
 rw[h.lM]
 exact⟨h.st,h.last,h.mark,h.out,h.pins⟩
theorem uJ.next{M:MR}{j:Nat}(h:uJ M j)(hj:j<5):jv (bD M)=bD M:=by
 unfold jv
 have hp:(dW (bD M)).e=20:=by
  unfold dW
  rw[(h.gone hj).1,(h.gone hj).2,h.st2.1,h.st2.2.1]
  decide
 rw[if_pos (by rw[hp];decide)]
theorem uJ.hor{M:MR}{j:Nat}(h:uJ M j):gB (bD M)=bD M:=by
 unfold gB
 have hk:known (bD M) (bD M).st.ms.length=false:=by
  unfold known
  rw[h.st2.1]
  show(([(0,1),(1,1)]:List Mem).all fun m=>((bD M).marks m.1).isSome)=false
  simp only[List.all_cons,h.st2.2.2.1]
  rfl
 rw[hk,if_neg (by decide)]
theorem Qn(M:MR)(l:List Mem):(gK M l).st=M.st/\(gK M l).ns=M.ns/\(gK M l).pins=M.pins/\(gK M l).joins=M.joins/\(gK M l).leaves=M.leaves/\(gK M l).lost=M.lost/\(gK M l).last=M.last/\(gK M l).marks=M.marks:=by
 induction l generalizing M with
 |nil=>exact⟨rfl,rfl,rfl,rfl,rfl,rfl,rfl,rfl⟩
 |cons a l ih=>
  have hs:∀x,(jf M a.1 x).st=M.st/\(jf M a.1 x).ns=M.ns/\(jf M a.1 x).pins=M.pins/\(jf M a.1 x).joins=M.joins/\(jf M a.1 x).leaves=M.leaves/\(jf M a.1 x).lost=M.lost/\(jf M a.1 x).last=M.last/\(jf M a.1 x).marks=M.marks:=fun x=>by
   unfold jf;split<;>exact⟨rfl,rfl,rfl,rfl,rfl,rfl,rfl,rfl⟩
  obtain⟨a1,a2,a3,a4,a5,a6,a7,a8⟩:=ih (jB M a.1)
  obtain⟨b1,b2,b3,b4,b5,b6,b7,b8⟩:=hs (sW M.st none 0)
  exact⟨a1.trans b1,a2.trans b2,a3.trans b3,a4.trans b4,a5.trans b5,a6.trans b6,a7.trans b7,a8.trans b8⟩
theorem uJ.tick{M:MR}{j:Nat}(h:uJ M j)(hj:j<5):Hr (oV M) (j+1):=by
 have e3:fD M=bD M:=by unfold fD;rw[h.next hj,h.hor]
 have ht:=Qn (bD M) (bD M).st.ms
 have e4:qL M=gK (bD M) (bD M).st.ms:=by unfold qL;rw[e3]
 have e5:oV M=mX (gK (bD M) (bD M).st.ms):=by unfold oV;rw[e4]
 rw[e5]
 obtain⟨a1,a2,a3,a4,a5,a6,a7,a8⟩:=ht
 have h1:(bD M).lost=M.lost/\(bD M).leaves=M.leaves/\(bD M).joins=M.joins:=by unfold bD;rw[h.lM];exact⟨rfl,rfl,rfl⟩
 refine⟨a1.trans h.st2.1,?_,a3.trans h.st2.2.2.2.2,fun i=> ?_,fun i=> ?_,fun i=> ?_,a7.trans h.st2.2.1,?_,rfl⟩
 ·show(gK (bD M) (bD M).st.ms).ns=_
  rw[a2,h.ns2 (by omega),if_neg (Nat.succ_ne_zero j)]
  simp
 ·show(gK (bD M) (bD M).st.ms).joins i=false
  rw[a4,h1.2.2];exact h.joins i
 ·show(gK (bD M) (bD M).st.ms).leaves i=false
  rw[a5,h1.2.1];exact h.leaves i
 ·show(gK (bD M) (bD M).st.ms).lost i=false
  rw[a6,h1.1];exact h.lost i
 ·show(gK (bD M) (bD M).st.ms).marks 0=none
  rw[a8];exact h.st2.2.2.1
theorem acV:ids [(1,1)]=[1]:=by unfold ids;simp
theorem uJ.ab8{M:MR}(h:uJ M 5):(oV M).st.ep=2/\(oV M).st.ms=[(1,1)]:=by
 have h1:(bD M).lost=M.lost/\(bD M).leaves=M.leaves/\(bD M).joins=M.joins:=by unfold bD;rw[h.lM];exact⟨rfl,rfl,rfl⟩
 have hl:xq (bD M).ns=[0,2,3]:=by rw[h.ns2 (by omega)];decide
 have hg:gW (bD M) 4=[0]:=by
  have hp:∀i:Nat,vJ (bD M) i=(dZ stA.ms i&&inB [0,2,3] i):=fun i=>by
   unfold vJ
   rw[hl,h1.1,h1.2.1,h.lost,h.leaves,h.st2.1]
   simp
  unfold gW
  rw[show vJ (bD M)=fun i:Nat=>(dZ stA.ms i&&inB [0,2,3] i)from funext hp]
  decide
 have hj:jh (bD M) 4=[]:=by
  unfold jh
  rw[List.map_eq_nil_iff,List.filter_eq_nil_iff]
  intro i _
  unfold Ci
  rw[h1.2.2,h.joins]
  simp
 have hf:firsts stA.ms stA.lg [0]=[(1,1)]:=by decide
 have hP:dW (bD M)=⟨0,2,[(1,1)],1,[1]⟩:=by
  unfold dW fH
  rw[hg,hj,h.st2.1,h.st2.2.1,hf,acV]
  have a1:¬(chk stA.ep stA.ms≠0):=by decide
  have a2:¬(([(1,1)]:List Mem)=[]):=by decide
  have a3:allOf stA.ms stA.lg [0] []=[(1,1)]:=by decide
  rw[if_neg a1,if_neg a2,a3,if_neg (by decide),if_neg (by decide)]
  rfl
 have hE:bF (bD M).st (mJ (dW (bD M)))=0:=by
  rw[hP,h.st2.1]
  decide
 have hN:(jv (bD M)).st=bG stA (mJ ⟨0,2,[(1,1)],1,[1]⟩):=by
  unfold jv
  rw[if_neg (by rw[hP];exact fun z=>z rfl),if_neg (by rw[hE];exact fun z=>z rfl),UK]
  show(writeM (bD M) (mJ (dW (bD M)))).st=_
  rw[BH,hP,h.st2.1]
 have hH:=Ib (jv (bD M))
 have hS:(oV M).st=(fD M).st:=XL _ _
 have h3:(fD M).st=(gB (jv (bD M))).st:=rfl
 rw[hS,h3]
 constructor
 ·rw[hH.ep,hN];decide
 ·rw[hH.ms,hN];decide
theorem acW:ids [(0,1),(1,1)]=[0,1]:=by
 rw[<-Zn (l:=[(0,1),(1,1)]) (fun m hm=>by simp at hm;rcases hm with rfl|rfl<;>decide)]
 decide
theorem awA:Hr (wO 1 [(0,1),(1,1)] 0) 0:=by
 have hs:=ZV (ep:=1) (fl:=0) (l:=[(0,1),(1,1)]) (by decide)
 rw[acW]at hs
 have hw:∀x:aN,(writeM (mk0 mF) x).ns=(mk0 mF).ns/\(writeM (mk0 mF) x).pins=[]/\(writeM (mk0 mF) x).joins=(mk0 mF).joins/\(writeM (mk0 mF) x).leaves=(mk0 mF).leaves/\(writeM (mk0 mF) x).lost=(mk0 mF).lost/\(writeM (mk0 mF) x).last=0/\(writeM (mk0 mF) x).marks=(mk0 mF).marks:=fun x=>by
  unfold writeM;split<;>exact⟨rfl,rfl,rfl,rfl,rfl,rfl,rfl⟩
 obtain⟨a1,a2,a3,a4,a5,a6,a7⟩:=hw (lG 1 [(0,1),(1,1)] 0 (ids [(0,1),(1,1)]))
 refine⟨hs,a1,a2,fun i=> ?_,fun i=> ?_,fun i=> ?_,a6,?_,rfl⟩
 ·show(writeM (mk0 mF) _).joins i=false
  rw[a3];rfl
 ·show(writeM (mk0 mF) _).leaves i=false
  rw[a4];rfl
 ·show(writeM (mk0 mF) _).lost i=false
  rw[a5];rfl
 ·show(writeM (mk0 mF) _).marks 0=none
  rw[a7];rfl
end dM
namespace dM
open gX MO
def Ii(w:World)(a:Addr):Array Value:=((List.range 22).map fun j=>(w.cell? (a.add j)).getD undef).toArray
def YU(w:World)(a:Addr):Prop:=∀j,j<22->(w.cell? (a.add j)).isSome=true
def oI(a:Addr):Sem Value:=loadVar 46 a
theorem tX(a:Addr):loadVar 46 a=oI a:=rfl
theorem Nh(w:World)(a:Addr)(h:YU w a):(oI a).run Tryz.prog w=.ok (.agg (Ii w a)) w:=by
 have hl:=run_loadCells (P:=Tryz.prog) w a 22 (fun j=>(w.cell? (a.add j)).getD undef) (fun j hj=>by
  obtain⟨v,hv⟩:=Option.isSome_iff_exists.1 (h j hj)
  rw[hv];rfl)
 have hi:(Tryz.prog.info? 46).map (·.size)=some 22:=by kernel_rfl
 have hagg:∀W,(isAgg 46).run Tryz.prog W=.ok true W:=fun W=>by
  unfold isAgg
  rw[Sem.run_bind,run_underlying Tryz.underlying46 W]
  rfl
 cases hq:Tryz.prog.info? 46 with
 |none=>simp[hq]at hi
 |some i=>
  have hs:i.size=22:=by simpa [hq]using hi
  unfold oI
  simp[loadVar,Sem.run_bind,hagg,sizeOf,typeInfo,hq,hs,hl,Ii]
theorem XQ{w:World}{a:Addr}{cs:List Value}(hn:cs.length=22)(h:∀j u,cs[j]? =some u->w.cell? (a.add j)=some u):YU w a/\Ii w a=cs.toArray:=by
 refine⟨fun j hj=> ?_,?_⟩
 ·rw[h j _ (List.getElem?_eq_getElem (by omega))];rfl
 ·unfold Ii
  congr 1
  apply List.ext_getElem?
  intro j
  rcases Nat.lt_or_ge j 22 with hj|hj
  ·rw[List.getElem?_map,List.getElem?_range hj,List.getElem?_eq_getElem (by omega:j<cs.length)]
   simp[h j _ (List.getElem?_eq_getElem (by omega:j<cs.length))]
  ·rw[List.getElem?_eq_none (by simpa using hj),List.getElem?_eq_none (by omega)]
theorem yI(w:World)(a:Addr)(cs:List Value)(hn:cs.length=22)(h:∀j u,cs[j]? =some u->w.cell? (a.add j)=some u):(oI a).run Tryz.prog w=.ok (.agg cs.toArray) w:=by
 obtain⟨h1,h2⟩:=XQ hn h
 rw[Nh w a h1,h2]
theorem xJ(w:World)(g:Nat)(x:bH)(h:Has w g 46 (aG x).toArray):(oI ⟨g,0,none⟩).run Tryz.prog w=.ok (.agg (aG x).toArray) w:=by
 refine yI w _ _ rfl fun j u hu=> ?_
 have e1:((⟨g,0,none⟩:Addr).add j)=⟨g,j,none⟩:=by unfold Addr.add;split<;>simp_all
 rw[e1,h.cell]
 simpa using hu
theorem EU(w:World)(A:Option Addr)(l:List pO)(hl:Src w 24 A l.length (wQ l))(i:Nat)(x:pO)(hx:l[i]? =some x):
  ∃ad,A=some ad/\ad.block<w.heap.size/\(oI ⟨(ad.add (i*24)).block,(ad.add (i*24)).off+2,none⟩).run Tryz.prog w=.ok (.agg (aG x.x).toArray) w/\w.cell? (ad.add (i*24))=some (.int .i64 x.k)/\w.cell? ⟨(ad.add (i*24)).block,(ad.add (i*24)).off+1,none⟩=some (.int .i64 x.n):=by
 obtain⟨hi,_⟩:=List.getElem?_eq_some_iff.1 hx
 obtain⟨ad,rfl,had,hc⟩:=US hl (by omega) i x hx
 refine⟨ad,rfl,had,?_,?_,?_⟩
 ·refine yI w _ _ rfl fun j u hu=> ?_
  have hj:(rW x)[2+j]? =some u:=by
   unfold rW
   rw[show 2+j=j+1+1 by omega,List.getElem?_cons_succ,List.getElem?_cons_succ]
   exact hu
  have h1:=hc (2+j) u hj
  have e1:((⟨(ad.add (i*24)).block,(ad.add (i*24)).off+2,none⟩:Addr).add j)=(ad.add (i*24)).add (2+j):=by
   rw[add_lit _ (by omega:0<2+j)]
   unfold Addr.add
   split<;>simp_all<;>omega
  rw[e1];exact h1
 ·have h1:=hc 0 _ rfl
  have e1:(ad.add (i*24)).add 0=ad.add (i*24):=by rw[add_add];rfl
  rw[e1]at h1;exact h1
 ·have h1:=hc 1 _ rfl
  rw[add_lit _ (by omega)]at h1;exact h1
end dM
namespace dM
open aP Vn Mst lJ IM nG gX
def lI(w:World)(X:MX)(M:MR)(c:Nat)(o:List xY)(M':MR)(e:Ending)(w':World):Prop:=
 ∃A d,e=.returned (.slice A o.length d)/\w'.ownsRow 0 143 2 (.slice A o.length d) o.length (rM o)/\(∀k,(Value.slice A o.length d).ownBlock=some k->dU X M k\/w.heap.size<=k)/\∃X',Step w X M w' X' M'/\cZ X' M'.lg c/\(∀k,(Value.slice A o.length d).ownBlock=some k->¬dU X' M' k)
section
variable{w w':World}{X X0:MX}{M M0:MR}{c k:Nat}
theorem lI.Z4{W:World}{X1:MX}{M1:MR}{e:Ending}(hs:Step w X M W X1 M1)(h:DK W X1 M1 c e w'):lI w X M (c+1) M1.out (mX M1) e w':=by
 obtain⟨A,d,h1,h2,h3,X',h4,h5,h6⟩:=h
 refine⟨A,d,h1,h2,fun k hk=> ?_,X',hs.trans h4,h5,h6⟩
 rcases h3 k hk with y|y
 ·exact hs.g k y
 ·have:=hs.k.size;exact .inr (by omega)
theorem lI.nil(h:dG w X M)(hb:cZ X M.lg c){W:World}(hk:Kept aj w W)(d:Nat):lI w X M (c+d) [] M (.returned (.slice none 0 0)) W:=
 ⟨none,0,rfl,⟨rfl,.inl ⟨rfl,rfl⟩⟩,(fun k hk=>by simp[Value.ownBlock]at hk),X,Step.refl h hk,hb.mono (by omega),(fun k hk=>by simp[Value.ownBlock]at hk)⟩
theorem KQ(h:bQ M k)(ho:M.out.length<=1000){W:World}{X1:MX}{M1:MR}(hs:Step w X M W X1 M1)(hb:cZ X1 M1.lg c)(hc:c<=4000)(h1:bQ M1 k):
  Calls Tryz.prog 46 #[.pointer (some ⟨X.mb,0,none⟩)] W (lI w X M (c+1) M1.out (mX M1)):=by
 have hd:=vT hs.at' hb hc h1.st.inv.ok h1.st.su h1.st.inv.pl
 rw[hs.mb]at hd
 exact hd.mono fun e w' hp=>lI.Z4 hs hp
theorem dK.at1{W W':World}{X1:MX}{M1 M2:MR}{v:Value}{e:Ending}{d:Nat}(hs:Step w X M W X1 M1)(h:dK W X1 M1 c v M2 d e W'):e=.returned v/\∃X2,Step w X M W' X2 M2/\cZ X2 M2.lg (c+d):=by
 obtain⟨h1,X2,h2,h3⟩:=h
 exact⟨h1,X2,hs.trans h2,h3⟩
attribute [local go_sem↓] tX
theorem Nj(h:dG w X M)(hb:cZ X M.lg c)(hc:c<=2900)(hm:bQ M k)(hk:k<=900)(ho:M.out.length<=90)(i:Int)(x:bH)(hx:iG w x)(hxs:I64 x.aV)(hi64:I64 i):
  Calls Tryz.prog 20 #[.pointer (some ⟨X.mb,0,none⟩),.int .i64 i,eH x] w (lI w X M (c+3) (tq M i x) (fO M i x)):=by
 obtain⟨W0,hW0⟩:∃W0,w.alloc (.cells (aG x).toArray 46)=W0:=⟨_,rfl⟩
 have hk0:Kept aj w W0:=by rw[<-hW0];(repeat'(first|(with_reducible first|exact ak|apply au|apply ay|apply aA|apply aB)|(right;simp;done)))
 have hn0:Has W0 w.heap.size 46 (aG x).toArray:=by rw[<-hW0];exact Has.new _ _ _
 have h1:=Bj (h.quiet hk0)
 have hld:∀W,Kept aj W0 W->(oI ⟨w.heap.size,0,none⟩).run Tryz.prog W=.ok (.agg (aG x).toArray) W:=fun W hW=>xJ W w.heap.size x (hn0.kept hW (fun z=>z))
 have h2:Calls Tryz.prog 56 #[.agg (aG x).toArray] W0 fun e w'=>e=.returned (.int .i64 (ni x))/\Kept aj W0 w':=D5 W0 x (hx.kept hk0)
 have hbad:ni x≠0->∀W,Kept aj w W->lI w X M (c+3) (tq M i x) (fO M i x) (.returned (.slice none 0 0)) W:=fun h0 W hW=>by
  have e1:tq M i x=[]:=if_neg h0
  have e2:fO M i x=M:=if_neg h0
  rw[e1,e2]
  exact lI.nil h hb hW 3
 have hend:ni x=0->∀W X1,Step w X M W X1 (dF M i x)->cZ X1 (dF M i x).lg (c+2)->Calls Tryz.prog 46 #[.pointer (some ⟨X.mb,0,none⟩)] W (lI w X M (c+3) (tq M i x) (fO M i x)):=fun h0 W X1 hs hl=>by
  have e1:tq M i x=(dF M i x).out:=if_pos h0
  have e2:fO M i x=mX (dF M i x):=if_pos h0
  rw[e1,e2]
  exact KQ (k:=k+1) (hm.mono (Nat.le_succ _)) (by omega) hs hl (by omega) (hm.dF i x hxs hx)
 have EV:x.k=2->0<=i/\i<4->∀W,Kept aj w W->Calls Tryz.prog 58 #[.pointer (some ⟨X.mb,0,none⟩),.int .i64 i,.agg (aG x).toArray] W fun e W'=>e=.returned (.tuple #[])/\∃X1,Step w X M W' X1 (dF M i x)/\cZ X1 (dF M i x).lg (c+2):=fun hk2 hi W hW=>by
  obtain⟨n,rfl⟩:=Int.eq_ofNat_of_zero_le hi.1
  have e1:dF M n x=qK M n x:=by unfold dF;rw[if_pos hk2,if_pos hi]
  rw[e1]
  refine(Xy (h.quiet hW) hb (by omega) hm (by omega) (by omega) n (by omega) x (hx.kept hW) hxs).mono ?_
  intro e W' hp
  obtain⟨h1,X2,h3,h4⟩:=dK.at1 (Step.refl h hW) hp
  exact⟨h1,X2,h3,h4.mono (by omega)⟩
 have EW:x.k=15->((0<=i/\i<4)\/(5<=i/\i<8))->∀W,Kept aj w W->Calls Tryz.prog 60 #[.pointer (some ⟨X.mb,0,none⟩),.int .i64 i] W fun e W'=>e=.returned (.tuple #[])/\∃X1,Step w X M W' X1 (dF M i x)/\cZ X1 (dF M i x).lg (c+2):=fun hk2 hi W hW=>by
  have e1:dF M i x=jB M i:=by unfold dF;rw[if_neg (by omega),if_pos hk2,if_pos hi]
  rw[e1]
  refine(Bo (h.quiet hW) hb (by omega) hm.st.inv.ok hm.st.su i).mono ?_
  intro e W' hp
  obtain⟨h1,X2,h3,h4⟩:=dK.at1 (Step.refl h hW) hp
  exact⟨h1,X2,h3,h4.mono (by omega)⟩
 have hask:(x.k=11\/x.k=12\/x.k=13)->5<=i/\i<8->∀W,Kept aj w W->Calls Tryz.prog 61 #[.pointer (some ⟨X.mb,0,none⟩),.int .i64 (i-5),.agg (aG x).toArray] W fun e W'=>e=.returned (.tuple #[])/\∃X1,Step w X M W' X1 (dF M i x)/\cZ X1 (dF M i x).lg (c+2):=fun hk2 hi W hW=>by
  have e1:dF M i x=oq M (i-5) x:=by unfold dF;rw[if_neg (by omega),if_neg (by omega),if_pos hk2,if_pos hi]
  rw[e1]
  refine(ZS (h.quiet hW) hb (by omega) hm (by omega) (i-5) (by omega) x (hx.kept hW)).mono ?_
  intro e W' hp
  obtain⟨h1,X2,h3,h4⟩:=dK.at1 (Step.refl h hW) hp
  exact⟨h1,X2,h3,h4⟩
 have hsame:((x.k=2/\¬(0<=i/\i<4))\/(x.k=15/\¬((0<=i/\i<4)\/(5<=i/\i<8)))\/((x.k=11\/x.k=12\/x.k=13)/\¬(5<=i/\i<8))\/(x.k≠2/\x.k≠15/\x.k≠11/\x.k≠12/\x.k≠13))->∀W,Kept aj w W->Step w X M W X (dF M i x)/\cZ X (dF M i x).lg (c+2):=fun hq W hW=>by
  have e1:dF M i x=M:=by
   unfold dF
   rcases hq with⟨a,b⟩|⟨a,b⟩|⟨a,b⟩|⟨a,b,d,e,f⟩
   ·rw[if_pos a,if_neg b]
   ·rw[if_neg (by omega),if_pos a,if_neg b]
   ·rw[if_neg (by omega),if_neg (by omega),if_pos a,if_neg b]
   ·rw[if_neg a,if_neg b,if_neg (by omega)]
  rw[e1]
  exact⟨Step.refl h hW,hb.mono (by omega)⟩
 have hrep:=fun W=>MS W i
 have abt:=fun W=>PO W i
 have hsub:5<=i/\i<8->IntKind.i64.wrap (i-5)=i-5:=fun hi=>IntWalk.i64_in _ (by omega)
 obtain⟨o,hO⟩:∃o,tq M i x=o:=⟨_,rfl⟩
 obtain⟨M',hM'⟩:∃M',fO M i x=M':=⟨_,rfl⟩
 obtain⟨M1,hM1⟩:∃M1,dF M i x=M1:=⟨_,rfl⟩
 obtain⟨z,hz⟩:∃z,ni x=z:=⟨_,rfl⟩
 rw[hO,hM']at hbad hend⊢
 simp only[hM1]at hend EV EW hask hsame
 rw[hz]at hbad hend h2
 obtain⟨kk,hkk⟩:∃kk,x.k=kk:=⟨_,rfl⟩
 rw[hkk]at EV EW hask hsame
 have hu0:(aG x).toArray[0]? =some (.int .i64 kk):=by rw[<-hkk];rfl
 obtain⟨cs,hcs⟩:∃cs,(aG x).toArray=cs:=⟨_,rfl⟩
 rw[hcs]at hn0 h2 hu0
 simp only[hcs]at hld EV hask
 have hW0':w.alloc (.cells cs 46)=W0:=by rw[<-hcs];exact hW0
 have hgoal:(eH x)=Value.agg cs:=by rw[<-hcs]
 rw[hgoal]
 have abu:=hld W0 (Kept.refl _ _)
 have YV:=ah hld
 clear hW0 hcs hgoal hld
 have hW0:=hW0'
 clear hW0'
 have H1:=ah h1;have HC:=ah h2;have HN:=ah hn0;have aW:=ah hk0;have HBAD:=ah hbad;have qm:=ah hend;have Eg:=ah EV;have Aq:=ah EW;have XR:=ah hask;have Cj:=ah hsame;have abv:=ah hrep;have abw:=ah abt;have Wh:=ah hsub;have HU:=ah hu0
 clear h1 h2 hn0 hk0 hbad hend EV EW hask hsame hrep abt hsub hu0 hO hM' hM1 hz hkk h hb hc hm hk ho hx hxs hi64
 by_cases h0:z=0
 rotate_left
 ·have h2:(z !=0)=true:=by simpa using h0
  have HF:=ah (HBAD.out h0)
  clear h0
  go_enter Tryz.func20,Tryz.ntmps20
  go_wp2_with fail
  clear hW0
  refine H1.out.mono ?_
  rintro e w1 ⟨rfl,rfl⟩
  go_wp2_with fail
  clear abu
  refine HC.out.mono ?_
  rintro e w2 ⟨rfl,hk2⟩
  have HQ:=ah (HF.out _ (aW.out.then hk2));clear hk2
  go_wp2
  go_ret
  exact HQ.out
 ·subst h0
  have HE:=ah (qm.out rfl)
  clear qm HBAD
  go_enter Tryz.func20,Tryz.ntmps20
  go_wp2_with fail
  clear hW0
  refine H1.out.mono ?_
  rintro e w1 ⟨rfl,rfl⟩
  go_wp2_with fail
  clear abu
  refine HC.out.mono ?_
  rintro e w2 ⟨rfl,hk2⟩
  have hn2:=HN.out.kept hk2 (fun z=>z)
  have adF:=YV.out w2 hk2
  have u0:w2.cell? ⟨w.heap.size,0,none⟩=some (.int .i64 kk):=by rw[Has.cell hn2];exact HU.out
  have aQ:=ah (aW.out.then hk2)
  have dA:=ah hn2
  clear hk2 hn2
  by_cases k2:kk=2
  ·subst k2
   obtain⟨r,hr⟩:∃r:Bool,decide (0<=i/\i<4)=r:=⟨_,rfl⟩
   have hcall:=abv.out w2
   rw[hr]at hcall
   have eX:=ah hcall;clear hcall
   cases r
   ·have hsm:=Cj.out (.inl ⟨rfl,of_decide_eq_false hr⟩) _ aQ.out
    have HD:=ah (HE.out _ _ hsm.1 hsm.2);clear hsm hr
    go_wp2_with fail
    refine eX.out.mono ?_
    rintro e w3 ⟨rfl,rfl⟩
    go_wp2_with fail
    refine HD.out.mono ?_
    rintro e w4 ⟨A,d,rfl,hp⟩
    have HP:=ah hp;clear hp
    go_wp2
    go_ret
    exact⟨A,d,rfl,HP.out⟩
   ·have hbe:=Eg.out rfl (of_decide_eq_true hr) _ aQ.out
    have HB:=ah hbe;clear hbe hr
    go_wp2_with fail
    refine eX.out.mono ?_
    rintro e w3 ⟨rfl,rfl⟩
    go_wp2_with fail
    refine HB.out.mono ?_
    rintro e w4 ⟨rfl,X1,hs1,hl1⟩
    have HD:=ah (HE.out _ _ hs1 hl1);clear hs1 hl1
    clear u0
    go_wp2_with fail
    refine HD.out.mono ?_
    rintro e w5 ⟨A,d,rfl,hp⟩
    have HP:=ah hp;clear hp
    go_wp2
    go_ret
    exact⟨A,d,rfl,HP.out⟩
  by_cases k15:kk=15
  ·subst k15
   obtain⟨r,hr⟩:∃r:Bool,decide (0<=i/\i<4)=r:=⟨_,rfl⟩
   obtain⟨s,hs⟩:∃s:Bool,decide (5<=i/\i<8)=s:=⟨_,rfl⟩
   have hcall:=abv.out w2
   have zC:=abw.out w2
   rw[hr]at hcall
   rw[hs]at zC
   have eX:=ah hcall;have EX:=ah zC;clear hcall zC
   have hwh:(r=true\/s=true)->_:=fun hh=>Aq.out rfl (by
    rcases hh with hh|hh
    ·rw[hh]at hr;exact .inl (of_decide_eq_true hr)
    ·rw[hh]at hs;exact .inr (of_decide_eq_true hs)) w2 aQ.out
   have HW:=ah hwh;clear hwh
   cases r
   ·cases s
    ·have hsm:=Cj.out (.inr (.inl ⟨rfl,fun hh=>by
      rcases hh with hh|hh
      ·exact of_decide_eq_false hr hh
      ·exact of_decide_eq_false hs hh⟩)) _ aQ.out
     have HD:=ah (HE.out _ _ hsm.1 hsm.2);clear hsm hr hs
     go_wp2_with fail
     refine eX.out.mono ?_
     rintro e w3 ⟨rfl,rfl⟩
     go_wp2_with fail
     refine EX.out.mono ?_
     rintro e w3 ⟨rfl,rfl⟩
     go_wp2_with fail
     refine HD.out.mono ?_
     rintro e w4 ⟨A,d,rfl,hp⟩
     have HP:=ah hp;clear hp
     go_wp2
     go_ret
     exact⟨A,d,rfl,HP.out⟩
    ·have HW2:=ah (HW.out (.inr rfl))
     clear hr hs
     go_wp2_with fail
     refine eX.out.mono ?_
     rintro e w3 ⟨rfl,rfl⟩
     go_wp2_with fail
     refine EX.out.mono ?_
     rintro e w3 ⟨rfl,rfl⟩
     go_wp2_with fail
     refine HW2.out.mono ?_
     rintro e w4 ⟨rfl,X1,hs1,hl1⟩
     have HD:=ah (HE.out _ _ hs1 hl1);clear hs1 hl1
     clear u0
     go_wp2_with fail
     refine HD.out.mono ?_
     rintro e w5 ⟨A,d,rfl,hp⟩
     have HP:=ah hp;clear hp
     go_wp2
     go_ret
     exact⟨A,d,rfl,HP.out⟩
   ·have HW2:=ah (HW.out (.inl rfl))
    clear hr hs
    go_wp2_with fail
    refine eX.out.mono ?_
    rintro e w3 ⟨rfl,rfl⟩
    go_wp2_with fail
    refine HW2.out.mono ?_
    rintro e w4 ⟨rfl,X1,hs1,hl1⟩
    have HD:=ah (HE.out _ _ hs1 hl1);clear hs1 hl1
    clear u0
    go_wp2_with fail
    refine HD.out.mono ?_
    rintro e w5 ⟨A,d,rfl,hp⟩
    have HP:=ah hp;clear hp
    go_wp2
    go_ret
    exact⟨A,d,rfl,HP.out⟩
  have n2:(kk==2)=false:=by simpa using k2
  have n15:(kk==15)=false:=by simpa using k15
  by_cases k11:kk=11\/kk=12\/kk=13
  ·obtain⟨s,hs⟩:∃s:Bool,decide (5<=i/\i<8)=s:=⟨_,rfl⟩
   have zC:=abw.out w2
   rw[hs]at zC
   have EX:=ah zC;clear zC
   have ab9:=ah (XR.out k11)
   have HSM:=ah (fun hn=>Cj.out (.inr (.inr (.inl ⟨k11,hn⟩))))
   clear XR Cj Eg Aq k2 k15
   rcases k11 with rfl|rfl|rfl
   all_goals (
    clear n2 n15
    cases s
    ·have hsm:=HSM.out (of_decide_eq_false hs) _ aQ.out
     have HD:=ah (HE.out _ _ hsm.1 hsm.2);clear hsm hs
     go_wp2_with fail
     refine EX.out.mono ?_
     rintro e w3 ⟨rfl,rfl⟩
     go_wp2_with fail
     refine HD.out.mono ?_
     rintro e w4 ⟨A,d,rfl,hp⟩
     have HP:=ah hp;clear hp
     go_wp2
     go_ret
     exact⟨A,d,rfl,HP.out⟩
    ·have hak:=ab9.out (of_decide_eq_true hs) _ aQ.out
     have hsb:=Wh.out (of_decide_eq_true hs)
     have HAK:=ah hak;clear hak hs
     go_wp2_with fail
     refine EX.out.mono ?_
     rintro e w3 ⟨rfl,rfl⟩
     go_wp2_with fail
     refine HAK.out.mono ?_
     rintro e w4 ⟨rfl,X1,hs1,hl1⟩
     have HD:=ah (HE.out _ _ hs1 hl1);clear hs1 hl1
     clear u0
     go_wp2_with fail
     refine HD.out.mono ?_
     rintro e w5 ⟨A,d,rfl,hp⟩
     have HP:=ah hp;clear hp
     go_wp2
     go_ret
     exact⟨A,d,rfl,HP.out⟩)
  ·have hsm:=Cj.out (.inr (.inr (.inr ⟨k2,k15,by omega,by omega,by omega⟩))) _ aQ.out
   have HD:=ah (HE.out _ _ hsm.1 hsm.2)
   have n11:(kk==11)=false:=by simp;omega
   have n12:(kk==12)=false:=by simp;omega
   have n13:(kk==13)=false:=by simp;omega
   clear hsm k2 k15 k11 XR Cj Eg Aq
   go_wp2_with fail
   refine HD.out.mono ?_
   rintro e w4 ⟨A,d,rfl,hp⟩
   have HP:=ah hp;clear hp
   go_wp2
   go_ret
   exact⟨A,d,rfl,HP.out⟩
end
end dM
end Go.Proofs.YtolkgbafebehfaaGreat
