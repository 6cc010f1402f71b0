/- Part 35 of what the proof needs. -/
import Derived.Test.YtfjdpbbgfjhnlaaGreatMK33
set_option linter.unusedSimpArgs false
set_option linter.unusedVariables false
set_option maxHeartbeats 32000000
set_option maxRecDepth 100000
namespace Go.Proofs.YtfjdpbbgfjhnlaaGreat
open Go.RowKit
set_option maxRecDepth 100000
namespace dH
open gZ MO
def MY(w:World)(a:Addr):Array Value:=((List.range 22).map fun j=>(w.cell? (a.add j)).getD undef).toArray
def acS(w:World)(a:Addr):Prop:=∀j,j<22->(w.cell? (a.add j)).isSome=true
def uh(a:Addr):Sem Value:=loadVar 45 a
theorem Ar(a:Addr):loadVar 45 a=uh a:=rfl
theorem RF(w:World)(a:Addr)(h:acS w a):(uh a).run Tryz.prog w=.ok (.agg (MY w a)) w:=by
 have hl:=run_loadCells (P:=Tryz.prog) w a 22 (fun j=>(w.cell? (a.add j)).getD undef) (fun j hj=>by
  obtain⟨v,hv⟩:=Option.isSome_iff_exists.1 (h j hj)
  rw[hv];rfl)
 have hi:(Tryz.prog.info? 45).map (·.size)=some 22:=by kernel_rfl
 have hagg:∀W,(isAgg 45).run Tryz.prog W=.ok true W:=fun W=>by
  unfold isAgg
  rw[Sem.run_bind,run_underlying Tryz.underlying45 W]
  rfl
 cases hq:Tryz.prog.info? 45 with
 |none=>simp[hq]at hi
 |some i=>
  have hs:i.size=22:=by simpa [hq]using hi
  unfold uh
  simp[loadVar,Sem.run_bind,hagg,sizeOf,typeInfo,hq,hs,hl,MY]
theorem abY{w:World}{a:Addr}{cs:List Value}(hn:cs.length=22)(h:∀j u,cs[j]? =some u->w.cell? (a.add j)=some u):acS w a/\MY w a=cs.toArray:=by
 refine⟨fun j hj=> ?_,?_⟩
 ·rw[h j _ (List.getElem?_eq_getElem (by omega))];rfl
 ·unfold MY
  congr 1
  apply List.ext_getElem?
  intro j
  rcases Nat.lt_or_ge j 22 with hj|hj
  ·rw[List.getElem?_map,List.getElem?_range hj,List.getElem?_eq_getElem (by omega:j<cs.length)]
   simp[h j _ (List.getElem?_eq_getElem (by omega:j<cs.length))]
  ·rw[List.getElem?_eq_none (by simpa using hj),List.getElem?_eq_none (by omega)]
theorem vX(w:World)(a:Addr)(cs:List Value)(hn:cs.length=22)(h:∀j u,cs[j]? =some u->w.cell? (a.add j)=some u):(uh a).run Tryz.prog w=.ok (.agg cs.toArray) w:=by
 obtain⟨h1,h2⟩:=abY hn h
 rw[RF w a h1,h2]
theorem Jf(w:World)(g:Nat)(x:bF)(h:Has w g 45 (aI x).toArray):(uh ⟨g,0,none⟩).run Tryz.prog w=.ok (.agg (aI x).toArray) w:=by
 refine vX w _ _ rfl fun j u hu=> ?_
 have e1:((⟨g,0,none⟩:Addr).add j)=⟨g,j,none⟩:=by unfold Addr.add;split<;>simp_all
 rw[e1,h.cell]
 simpa using hu
theorem Jg(w:World)(g:Nat)(a:jX)(h:Has w g 47 (oW a).toArray):(uh ⟨g,2,none⟩).run Tryz.prog w=.ok (.agg (aI a.x).toArray) w:=by
 refine vX w _ _ rfl fun j u hu=> ?_
 have e1:((⟨g,2,none⟩:Addr).add j)=⟨g,2+j,none⟩:=by unfold Addr.add;split<;>simp_all
 have hj:(oW a)[2+j]? =some u:=by
  unfold oW
  rw[show 2+j=j+1+1 by omega,List.getElem?_cons_succ,List.getElem?_cons_succ]
  exact hu
 rw[e1,h.cell]
 simpa using hj
theorem Jh(w:World)(A:Option Addr)(l:List jX)(hl:Src w 24 A l.length (yZ l))(i:Nat)(x:jX)(hx:l[i]? =some x):
  ∃ad,A=some ad/\ad.block<w.heap.size/\(uh ⟨(ad.add (i*24)).block,(ad.add (i*24)).off+2,none⟩).run Tryz.prog w=.ok (.agg (aI x.x).toArray) w/\w.cell? (ad.add (i*24))=some (.int .i64 x.k)/\w.cell? ⟨(ad.add (i*24)).block,(ad.add (i*24)).off+1,none⟩=some (.int .i64 x.n):=by
 obtain⟨hi,_⟩:=List.getElem?_eq_some_iff.1 hx
 obtain⟨ad,rfl,had,hc⟩:=ME hl (by omega) i x hx
 refine⟨ad,rfl,had,?_,?_,?_⟩
 ·refine vX w _ _ rfl fun j u hu=> ?_
  have hj:(oW x)[2+j]? =some u:=by
   unfold oW
   rw[show 2+j=j+1+1 by omega,List.getElem?_cons_succ,List.getElem?_cons_succ]
   exact hu
  have h1:=hc (2+j) u hj
  have e1:((⟨(ad.add (i*24)).block,(ad.add (i*24)).off+2,none⟩:Addr).add j)=(ad.add (i*24)).add (2+j):=by
   rw[add_lit _ (by omega:0<2+j)]
   unfold Addr.add
   split<;>simp_all<;>omega
  rw[e1];exact h1
 ·have h1:=hc 0 _ rfl
  have e1:(ad.add (i*24)).add 0=ad.add (i*24):=by rw[add_add];rfl
  rw[e1]at h1;exact h1
 ·have h1:=hc 1 _ rfl
  rw[add_lit _ (by omega)]at h1;exact h1
def MZ(w:World)(a:Addr):Array Value:=((List.range 24).map fun j=>(w.cell? (a.add j)).getD undef).toArray
def acT(w:World)(a:Addr):Prop:=∀j,j<24->(w.cell? (a.add j)).isSome=true
def FI(a:Addr):Sem Value:=loadVar 47 a
theorem RG(a:Addr):loadVar 47 a=FI a:=rfl
theorem RH(w:World)(a:Addr)(h:acT w a):(FI a).run Tryz.prog w=.ok (.agg (MZ w a)) w:=by
 have hl:=run_loadCells (P:=Tryz.prog) w a 24 (fun j=>(w.cell? (a.add j)).getD undef) (fun j hj=>by
  obtain⟨v,hv⟩:=Option.isSome_iff_exists.1 (h j hj)
  rw[hv];rfl)
 have hi:(Tryz.prog.info? 47).map (·.size)=some 24:=by kernel_rfl
 have hagg:∀W,(isAgg 47).run Tryz.prog W=.ok true W:=fun W=>by
  unfold isAgg
  rw[Sem.run_bind,run_underlying Tryz.underlying47 W]
  rfl
 cases hq:Tryz.prog.info? 47 with
 |none=>simp[hq]at hi
 |some i=>
  have hs:i.size=24:=by simpa [hq]using hi
  unfold FI
  simp[loadVar,Sem.run_bind,hagg,sizeOf,typeInfo,hq,hs,hl,MZ]
theorem abZ{w:World}{a:Addr}{cs:List Value}(hn:cs.length=24)(h:∀j u,cs[j]? =some u->w.cell? (a.add j)=some u):acT w a/\MZ w a=cs.toArray:=by
 refine⟨fun j hj=> ?_,?_⟩
 ·rw[h j _ (List.getElem?_eq_getElem (by omega))];rfl
 ·unfold MZ
  congr 1
  apply List.ext_getElem?
  intro j
  rcases Nat.lt_or_ge j 24 with hj|hj
  ·rw[List.getElem?_map,List.getElem?_range hj,List.getElem?_eq_getElem (by omega:j<cs.length)]
   simp[h j _ (List.getElem?_eq_getElem (by omega:j<cs.length))]
  ·rw[List.getElem?_eq_none (by simpa using hj),List.getElem?_eq_none (by omega)]
theorem Ji(w:World)(A:Option Addr)(l:List jX)(hl:Src w 24 A l.length (yZ l))(i:Nat)(x:jX)(hx:l[i]? =some x):
  ∃ad,A=some ad/\ad.block<w.heap.size/\(FI (ad.add (i*24))).run Tryz.prog w=.ok (.agg (oW x).toArray) w:=by
 obtain⟨hi,_⟩:=List.getElem?_eq_some_iff.1 hx
 obtain⟨ad,rfl,had,hc⟩:=ME hl (by omega) i x hx
 obtain⟨h1,h2⟩:=abZ (cs:=oW x) rfl hc
 exact⟨ad,rfl,had,by rw[RH w _ h1,h2]⟩
end dH
namespace dH
open aO Vn Mst lV IM mY gZ
def ny(w:World)(X:MX)(M:MR)(c:Nat)(o:List Ah)(M':MR)(e:Ending)(w':World):Prop:=
 ∃A d,e=.returned (.slice A o.length d)/\w'.ownsRow 0 240 2 (.slice A o.length d) o.length (uM o)/\(∀k,(Value.slice A o.length d).ownBlock=some k->dX X M k\/w.heap.size<=k)/\∃X',Step w X M w' X' M'/\dw X' M'.lg c/\(∀k,(Value.slice A o.length d).ownBlock=some k->¬dX X' M' k)
section
variable{w w':World}{X X0:MX}{M M0:MR}{c k:Nat}
theorem ny.adQ{W:World}{X1:MX}{M1:MR}{e:Ending}(hs:Step w X M W X1 M1)(h:G4 W X1 M1 c e w'):ny w X M (c+1) M1.out (l7 M1) e w':=by
 obtain⟨A,d,h1,h2,h3,X',h4,h5,h6⟩:=h
 refine⟨A,d,h1,h2,fun k hk=> ?_,X',hs.trans h4,h5,h6⟩
 rcases h3 k hk with y|y
 ·exact hs.g k y
 ·have:=hs.k.size;exact .inr (by omega)
theorem ny.nil(h:dD w X M)(hb:dw X M.lg c){W:World}(hk:Kept aj w W)(d:Nat):ny w X M (c+d) [] M (.returned (.slice none 0 0)) W:=
 ⟨none,0,rfl,⟨rfl,.inl ⟨rfl,rfl⟩⟩,(fun k hk=>by simp[Value.ownBlock]at hk),X,Step.refl h hk,hb.mono (by omega),(fun k hk=>by simp[Value.ownBlock]at hk)⟩
theorem PU(h:bD M k)(ho:M.out.length<=1000){W:World}{X1:MX}{M1:MR}(hs:Step w X M W X1 M1)(hb:dw X1 M1.lg c)(hc:c<=4000)(h1:bD M1 k):
  Calls Tryz.prog 27 #[.pointer (some ⟨X.mb,0,none⟩)] W (ny w X M (c+1) M1.out (l7 M1)):=by
 have hd:=yt hs.at' hb hc h1.st.inv.ok h1.st.su h1.st.inv.pl
 rw[hs.mb]at hd
 exact hd.mono fun e w' hp=>ny.adQ hs hp
theorem dF.at1{W W':World}{X1:MX}{M1 M2:MR}{v:Value}{e:Ending}{d:Nat}(hs:Step w X M W X1 M1)(h:dF W X1 M1 c v M2 d e W'):e=.returned v/\∃X2,Step w X M W' X2 M2/\dw X2 M2.lg (c+d):=by
 obtain⟨h1,X2,h2,h3⟩:=h
 exact⟨h1,X2,hs.trans h2,h3⟩
attribute [local go_sem↓] Ar
theorem Gp(h:dD w X M)(hb:dw X M.lg c)(hc:c<=2900)(hm:bD M k)(hk:k<=900)(ho:M.out.length<=90)(i:Int)(x:bF)(hx:iZ w x)(hxs:I64 x.aU)(hi64:I64 i):
  Calls Tryz.prog 20 #[.pointer (some ⟨X.mb,0,none⟩),.int .i64 i,gK x] w (ny w X M (c+3) (vW M i x) (fC M i x)):=by
 obtain⟨W0,hW0⟩:∃W0,w.alloc (.cells (aI x).toArray 45)=W0:=⟨_,rfl⟩
 have hk0:Kept aj w W0:=by rw[<-hW0];(repeat'(first|(with_reducible first|exact ak|apply au|apply ay|apply aA|apply aB)|(right;simp;done)))
 have hn0:Has W0 w.heap.size 45 (aI x).toArray:=by rw[<-hW0];exact Has.new _ _ _
 have h1:=ou (h.quiet hk0)
 have hld:∀W,Kept aj W0 W->(uh ⟨w.heap.size,0,none⟩).run Tryz.prog W=.ok (.agg (aI x).toArray) W:=fun W hW=>Jf W w.heap.size x (hn0.kept hW (fun z=>z))
 have h2:Calls Tryz.prog 46 #[.agg (aI x).toArray] W0 fun e w'=>e=.returned (.int .i64 (o9 x))/\Kept aj W0 w':=Ib W0 x (hx.kept hk0)
 have hbad:o9 x≠0->∀W,Kept aj w W->ny w X M (c+3) (vW M i x) (fC M i x) (.returned (.slice none 0 0)) W:=fun h0 W hW=>by
  have e1:vW M i x=[]:=if_neg h0
  have e2:fC M i x=M:=if_neg h0
  rw[e1,e2]
  exact ny.nil h hb hW 3
 have hend:o9 x=0->∀W X1,Step w X M W X1 (dA M i x)->dw X1 (dA M i x).lg (c+2)->Calls Tryz.prog 27 #[.pointer (some ⟨X.mb,0,none⟩)] W (ny w X M (c+3) (vW M i x) (fC M i x)):=fun h0 W X1 hs hl=>by
  have e1:vW M i x=(dA M i x).out:=if_pos h0
  have e2:fC M i x=l7 (dA M i x):=if_pos h0
  rw[e1,e2]
  exact PU (k:=k+1) (hm.mono (Nat.le_succ _)) (by omega) hs hl (by omega) (hm.dA i x hxs hx)
 have Jj:x.k=2->0<=i/\i<4->∀W,Kept aj w W->Calls Tryz.prog 48 #[.pointer (some ⟨X.mb,0,none⟩),.int .i64 i,.agg (aI x).toArray] W fun e W'=>e=.returned (.tuple #[])/\∃X1,Step w X M W' X1 (dA M i x)/\dw X1 (dA M i x).lg (c+2):=fun hk2 hi W hW=>by
  obtain⟨n,rfl⟩:=Int.eq_ofNat_of_zero_le hi.1
  have e1:dA M n x=kY M n x:=by unfold dA;rw[if_pos hk2,if_pos hi]
  rw[e1]
  refine(abK (h.quiet hW) hb (by omega) hm (by omega) (by omega) n (by omega) x (hx.kept hW) hxs).mono ?_
  intro e W' hp
  obtain⟨h1,X2,h3,h4⟩:=dF.at1 (Step.refl h hW) hp
  exact⟨h1,X2,h3,h4.mono (by omega)⟩
 have Jk:x.k=15->((0<=i/\i<4)\/(5<=i/\i<8))->∀W,Kept aj w W->Calls Tryz.prog 50 #[.pointer (some ⟨X.mb,0,none⟩),.int .i64 i] W fun e W'=>e=.returned (.tuple #[])/\∃X1,Step w X M W' X1 (dA M i x)/\dw X1 (dA M i x).lg (c+2):=fun hk2 hi W hW=>by
  have e1:dA M i x=jU M i:=by unfold dA;rw[if_neg (by omega),if_pos hk2,if_pos hi]
  rw[e1]
  refine(EK (h.quiet hW) hb (by omega) hm.st.inv.ok hm.st.su i).mono ?_
  intro e W' hp
  obtain⟨h1,X2,h3,h4⟩:=dF.at1 (Step.refl h hW) hp
  exact⟨h1,X2,h3,h4.mono (by omega)⟩
 have hask:(x.k=11\/x.k=12\/x.k=13)->5<=i/\i<8->∀W,Kept aj w W->Calls Tryz.prog 51 #[.pointer (some ⟨X.mb,0,none⟩),.int .i64 (i-5),.agg (aI x).toArray] W fun e W'=>e=.returned (.tuple #[])/\∃X1,Step w X M W' X1 (dA M i x)/\dw X1 (dA M i x).lg (c+2):=fun hk2 hi W hW=>by
  have e1:dA M i x=kH M (i-5) x:=by unfold dA;rw[if_neg (by omega),if_neg (by omega),if_pos hk2,if_pos hi]
  rw[e1]
  refine(adM (h.quiet hW) hb (by omega) hm (by omega) (i-5) (by omega) x (hx.kept hW)).mono ?_
  intro e W' hp
  obtain⟨h1,X2,h3,h4⟩:=dF.at1 (Step.refl h hW) hp
  exact⟨h1,X2,h3,h4⟩
 have hsame:((x.k=2/\¬(0<=i/\i<4))\/(x.k=15/\¬((0<=i/\i<4)\/(5<=i/\i<8)))\/((x.k=11\/x.k=12\/x.k=13)/\¬(5<=i/\i<8))\/(x.k≠2/\x.k≠15/\x.k≠11/\x.k≠12/\x.k≠13))->∀W,Kept aj w W->Step w X M W X (dA M i x)/\dw X (dA M i x).lg (c+2):=fun hq W hW=>by
  have e1:dA M i x=M:=by
   unfold dA
   rcases hq with⟨a,b⟩|⟨a,b⟩|⟨a,b⟩|⟨a,b,d,e,f⟩
   ·rw[if_pos a,if_neg b]
   ·rw[if_neg (by omega),if_pos a,if_neg b]
   ·rw[if_neg (by omega),if_neg (by omega),if_pos a,if_neg b]
   ·rw[if_neg a,if_neg b,if_neg (by omega)]
  rw[e1]
  exact⟨Step.refl h hW,hb.mono (by omega)⟩
 have hrep:=fun W=>Ak W i
 have afo:=fun W=>UW W i
 have hsub:5<=i/\i<8->IntKind.i64.wrap (i-5)=i-5:=fun hi=>IntWalk.i64_in _ (by omega)
 obtain⟨o,hO⟩:∃o,vW M i x=o:=⟨_,rfl⟩
 obtain⟨M',hM'⟩:∃M',fC M i x=M':=⟨_,rfl⟩
 obtain⟨M1,hM1⟩:∃M1,dA M i x=M1:=⟨_,rfl⟩
 obtain⟨z,hz⟩:∃z,o9 x=z:=⟨_,rfl⟩
 rw[hO,hM']at hbad hend⊢
 simp only[hM1]at hend Jj Jk hask hsame
 rw[hz]at hbad hend h2
 obtain⟨kk,hkk⟩:∃kk,x.k=kk:=⟨_,rfl⟩
 rw[hkk]at Jj Jk hask hsame
 have hu0:(aI x).toArray[0]? =some (.int .i64 kk):=by rw[<-hkk];rfl
 obtain⟨cs,hcs⟩:∃cs,(aI x).toArray=cs:=⟨_,rfl⟩
 rw[hcs]at hn0 h2 hu0
 simp only[hcs]at hld Jj hask
 have hW0':w.alloc (.cells cs 45)=W0:=by rw[<-hcs];exact hW0
 have hgoal:(gK x)=Value.agg cs:=by rw[<-hcs]
 rw[hgoal]
 have afp:=hld W0 (Kept.refl _ _)
 have HLD:=ah hld
 clear hW0 hcs hgoal hld
 have hW0:=hW0'
 clear hW0'
 have H1:=ah h1;have HC:=ah h2;have HN:=ah hn0;have bf:=ah hk0;have HBAD:=ah hbad;have jv:=ah hend;have yN:=ah Jj;have Eb:=ah Jk;have ab1:=ah hask;have FK:=ah hsame;have afq:=ah hrep;have afr:=ah afo;have aaG:=ah hsub;have HU:=ah hu0
 clear h1 h2 hn0 hk0 hbad hend Jj Jk hask hsame hrep afo hsub hu0 hO hM' hM1 hz hkk h hb hc hm hk ho hx hxs hi64
 by_cases h0:z=0
 rotate_left
 ·have h2:(z !=0)=true:=by simpa using h0
  have HF:=ah (HBAD.out h0)
  clear h0
  go_enter Tryz.func20,Tryz.ntmps20
  go_wp2_with fail
  clear hW0
  refine H1.out.mono ?_
  rintro e w1 ⟨rfl,rfl⟩
  go_wp2_with fail
  clear afp
  refine HC.out.mono ?_
  rintro e w2 ⟨rfl,hk2⟩
  have HQ:=ah (HF.out _ (bf.out.then hk2));clear hk2
  go_wp2
  go_ret
  exact HQ.out
 ·subst h0
  have HE:=ah (jv.out rfl)
  clear jv HBAD
  go_enter Tryz.func20,Tryz.ntmps20
  go_wp2_with fail
  clear hW0
  refine H1.out.mono ?_
  rintro e w1 ⟨rfl,rfl⟩
  go_wp2_with fail
  clear afp
  refine HC.out.mono ?_
  rintro e w2 ⟨rfl,hk2⟩
  have hn2:=HN.out.kept hk2 (fun z=>z)
  have aid:=HLD.out w2 hk2
  have u0:w2.cell? ⟨w.heap.size,0,none⟩=some (.int .i64 kk):=by rw[Has.cell hn2];exact HU.out
  have aW:=ah (bf.out.then hk2)
  have dL:=ah hn2
  clear hk2 hn2
  by_cases k2:kk=2
  ·subst k2
   obtain⟨r,hr⟩:∃r:Bool,decide (0<=i/\i<4)=r:=⟨_,rfl⟩
   have hcall:=afq.out w2
   rw[hr]at hcall
   have fO:=ah hcall;clear hcall
   cases r
   ·have hsm:=FK.out (.inl ⟨rfl,of_decide_eq_false hr⟩) _ aW.out
    have HD:=ah (HE.out _ _ hsm.1 hsm.2);clear hsm hr
    go_wp2_with fail
    refine fO.out.mono ?_
    rintro e w3 ⟨rfl,rfl⟩
    go_wp2_with fail
    refine HD.out.mono ?_
    rintro e w4 ⟨A,d,rfl,hp⟩
    have HP:=ah hp;clear hp
    go_wp2
    go_ret
    exact⟨A,d,rfl,HP.out⟩
   ·have hbe:=yN.out rfl (of_decide_eq_true hr) _ aW.out
    have HB:=ah hbe;clear hbe hr
    go_wp2_with fail
    refine fO.out.mono ?_
    rintro e w3 ⟨rfl,rfl⟩
    go_wp2_with fail
    refine HB.out.mono ?_
    rintro e w4 ⟨rfl,X1,hs1,hl1⟩
    have HD:=ah (HE.out _ _ hs1 hl1);clear hs1 hl1
    clear u0
    go_wp2_with fail
    refine HD.out.mono ?_
    rintro e w5 ⟨A,d,rfl,hp⟩
    have HP:=ah hp;clear hp
    go_wp2
    go_ret
    exact⟨A,d,rfl,HP.out⟩
  by_cases k15:kk=15
  ·subst k15
   obtain⟨r,hr⟩:∃r:Bool,decide (0<=i/\i<4)=r:=⟨_,rfl⟩
   obtain⟨s,hs⟩:∃s:Bool,decide (5<=i/\i<8)=s:=⟨_,rfl⟩
   have hcall:=afq.out w2
   have C9:=afr.out w2
   rw[hr]at hcall
   rw[hs]at C9
   have fO:=ah hcall;have Jl:=ah C9;clear hcall C9
   have hwh:(r=true\/s=true)->_:=fun hh=>Eb.out rfl (by
    rcases hh with hh|hh
    ·rw[hh]at hr;exact .inl (of_decide_eq_true hr)
    ·rw[hh]at hs;exact .inr (of_decide_eq_true hs)) w2 aW.out
   have HW:=ah hwh;clear hwh
   cases r
   ·cases s
    ·have hsm:=FK.out (.inr (.inl ⟨rfl,fun hh=>by
      rcases hh with hh|hh
      ·exact of_decide_eq_false hr hh
      ·exact of_decide_eq_false hs hh⟩)) _ aW.out
     have HD:=ah (HE.out _ _ hsm.1 hsm.2);clear hsm hr hs
     go_wp2_with fail
     refine fO.out.mono ?_
     rintro e w3 ⟨rfl,rfl⟩
     go_wp2_with fail
     refine Jl.out.mono ?_
     rintro e w3 ⟨rfl,rfl⟩
     go_wp2_with fail
     refine HD.out.mono ?_
     rintro e w4 ⟨A,d,rfl,hp⟩
     have HP:=ah hp;clear hp
     go_wp2
     go_ret
     exact⟨A,d,rfl,HP.out⟩
    ·have HW2:=ah (HW.out (.inr rfl))
     clear hr hs
     go_wp2_with fail
     refine fO.out.mono ?_
     rintro e w3 ⟨rfl,rfl⟩
     go_wp2_with fail
     refine Jl.out.mono ?_
     rintro e w3 ⟨rfl,rfl⟩
     go_wp2_with fail
     refine HW2.out.mono ?_
     rintro e w4 ⟨rfl,X1,hs1,hl1⟩
     have HD:=ah (HE.out _ _ hs1 hl1);clear hs1 hl1
     clear u0
     go_wp2_with fail
     refine HD.out.mono ?_
     rintro e w5 ⟨A,d,rfl,hp⟩
     have HP:=ah hp;clear hp
     go_wp2
     go_ret
     exact⟨A,d,rfl,HP.out⟩
   ·have HW2:=ah (HW.out (.inl rfl))
    clear hr hs
    go_wp2_with fail
    refine fO.out.mono ?_
    rintro e w3 ⟨rfl,rfl⟩
    go_wp2_with fail
    refine HW2.out.mono ?_
    rintro e w4 ⟨rfl,X1,hs1,hl1⟩
    have HD:=ah (HE.out _ _ hs1 hl1);clear hs1 hl1
    clear u0
    go_wp2_with fail
    refine HD.out.mono ?_
    rintro e w5 ⟨A,d,rfl,hp⟩
    have HP:=ah hp;clear hp
    go_wp2
    go_ret
    exact⟨A,d,rfl,HP.out⟩
  have n2:(kk==2)=false:=by simpa using k2
  have n15:(kk==15)=false:=by simpa using k15
  by_cases k11:kk=11\/kk=12\/kk=13
  ·obtain⟨s,hs⟩:∃s:Bool,decide (5<=i/\i<8)=s:=⟨_,rfl⟩
   have C9:=afr.out w2
   rw[hs]at C9
   have Jl:=ah C9;clear C9
   have agt:=ah (ab1.out k11)
   have HSM:=ah (fun hn=>FK.out (.inr (.inr (.inl ⟨k11,hn⟩))))
   clear ab1 FK yN Eb k2 k15
   rcases k11 with rfl|rfl|rfl
   all_goals (
    clear n2 n15
    cases s
    ·have hsm:=HSM.out (of_decide_eq_false hs) _ aW.out
     have HD:=ah (HE.out _ _ hsm.1 hsm.2);clear hsm hs
     go_wp2_with fail
     refine Jl.out.mono ?_
     rintro e w3 ⟨rfl,rfl⟩
     go_wp2_with fail
     refine HD.out.mono ?_
     rintro e w4 ⟨A,d,rfl,hp⟩
     have HP:=ah hp;clear hp
     go_wp2
     go_ret
     exact⟨A,d,rfl,HP.out⟩
    ·have hak:=agt.out (of_decide_eq_true hs) _ aW.out
     have hsb:=aaG.out (of_decide_eq_true hs)
     have HAK:=ah hak;clear hak hs
     go_wp2_with fail
     refine Jl.out.mono ?_
     rintro e w3 ⟨rfl,rfl⟩
     go_wp2_with fail
     refine HAK.out.mono ?_
     rintro e w4 ⟨rfl,X1,hs1,hl1⟩
     have HD:=ah (HE.out _ _ hs1 hl1);clear hs1 hl1
     clear u0
     go_wp2_with fail
     refine HD.out.mono ?_
     rintro e w5 ⟨A,d,rfl,hp⟩
     have HP:=ah hp;clear hp
     go_wp2
     go_ret
     exact⟨A,d,rfl,HP.out⟩)
  ·have hsm:=FK.out (.inr (.inr (.inr ⟨k2,k15,by omega,by omega,by omega⟩))) _ aW.out
   have HD:=ah (HE.out _ _ hsm.1 hsm.2)
   have n11:(kk==11)=false:=by simp;omega
   have n12:(kk==12)=false:=by simp;omega
   have n13:(kk==13)=false:=by simp;omega
   clear hsm k2 k15 k11 ab1 FK yN Eb
   go_wp2_with fail
   refine HD.out.mono ?_
   rintro e w4 ⟨A,d,rfl,hp⟩
   have HP:=ah hp;clear hp
   go_wp2
   go_ret
   exact⟨A,d,rfl,HP.out⟩
end
end dH
end Go.Proofs.YtfjdpbbgfjhnlaaGreat
