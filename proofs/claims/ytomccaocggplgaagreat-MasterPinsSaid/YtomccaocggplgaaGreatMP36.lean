/- Part 37. -/
import Derived.Test.YtomccaocggplgaaGreatMP32
import Derived.Test.YtomccaocggplgaaGreatMP35
set_option linter.unusedSimpArgs false
set_option linter.unusedVariables false
set_option maxHeartbeats 32000000
set_option maxRecDepth 100000
namespace Go.Proofs.YtomccaocggplgaaGreat
open Go.RowKit
namespace Mst
open aJ Vn Go.Sort
theorem aaq{s:bQ}{pre:List aG}(h:Inv s)(hpre:(pre=[]/\¬0<s.ep)\/(0<s.ep/\∃A c B d,pre=[mZ s A c B d])):
  o9 st0 (pre++s.pins.map iD++jZ s++[eH s.hz]++dM (iW s))/\runN st0 (pre++s.pins.map iD++jZ s++[eH s.hz]++dM (iW s))=s:=by
 have c1:o9 st0 pre/\runN st0 pre={st0 with ep:=s.ep,ms:=s.ms,fl:=s.fl,lg:=s.lg}:=by
  rcases hpre with⟨rfl,h0⟩|⟨h0,A,c,B,d,rfl⟩
  ·rcases h.conf with⟨e1,e2,e3,e4⟩|⟨e1,_⟩
   ·rw[e1,e2,e3,e4];exact⟨trivial,rfl⟩
   ·have:=(jf e1).1;omega
  ·rcases h.conf with⟨e1,_⟩|⟨e1,e2,e3,e4,e5⟩
   ·omega
   ·have hk:(mZ s A c B d).k=1:=rfl;have hne:aT (mZ s A c B d)=0:=by unfold aT;rw[if_pos hk];show(if chk s.ep s.ms=0 then nO s.lg else chk s.ep s.ms)=0;rw[if_pos e1,e2]
    have hnx:mX st0 (mZ s A c B d)=0:=by
     unfold mX;rw[if_neg (by show¬s.ep<=0;omega),if_neg,if_neg]
     ·show¬inB s.lg (oh s.ms)=false;rw[rZ.2 e4];decide
     ·show¬(s.lg.any fun id=> !cO s.ms id)=true;rw[List.any_eq_true];rintro⟨x,hx,hn⟩;rw[e3 x hx]at hn;cases hn
    have hE:bn st0 (mZ s A c B d)=0:=by unfold bn;rw[if_neg (by rw[hne];decide),if_pos hk];exact hnx
    refine⟨⟨hE,trivial⟩,?_⟩;show aP st0 (mZ s A c B d)=_;unfold aP;rw[if_neg (by rw[hE];decide),if_pos hk];rfl
 have ht:=h.top;have ah':∀p∈s.pins,1<=p.id/\p.id<=1073741824/\p.left=8/\0<=p.at':=fun p hp=>by obtain⟨a1,a2,a3,a4⟩:=h.pin p hp;exact⟨a1,by omega,a3,a4⟩
 have c2:=P9 {st0 with ep:=s.ep,ms:=s.ms,fl:=s.fl,lg:=s.lg} rfl s.pins [] h.pl h.vZ ah';have hlast:iq s.pins<=s.top:=by
  rcases E4 s.pins with⟨_,e⟩|⟨p,hp,e⟩
  ·rw[e];exact ht.1
  ·rw[e];exact(h.pin p hp).2.1
 have c3:o9 {st0 with ep:=s.ep,ms:=s.ms,fl:=s.fl,lg:=s.lg,pins:=s.pins,top:=iq s.pins} (jZ s)/\runN {st0 with ep:=s.ep,ms:=s.ms,fl:=s.fl,lg:=s.lg,pins:=s.pins,top:=iq s.pins} (jZ s)={st0 with ep:=s.ep,ms:=s.ms,fl:=s.fl,lg:=s.lg,pins:=s.pins,top:=s.top}:=by
  unfold jZ;split
  ·rename_i hu;obtain⟨p,hp,he⟩:=List.any_eq_true.1 hu;have e1:p.id=s.top:=of_decide_eq_true he;have:=Zl h.vZ p hp;have e2:iq s.pins=s.top:=by omega
   rw[e2];exact⟨trivial,rfl⟩
  ·rename_i hu;have hno:∀p∈s.pins,p.id≠s.top:=fun p hp e=>hu (List.any_eq_true.2 ⟨p,hp,decide_eq_true e⟩);have hk:(wU s.top).k=7:=rfl;have hne:aT (wU s.top)=0:=by unfold aT;rw[if_neg (by omega),if_neg (by omega),if_pos (by omega)];exact VE ht
   have hE:bn {st0 with ep:=s.ep,ms:=s.ms,fl:=s.fl,lg:=s.lg,pins:=s.pins,top:=iq s.pins} (wU s.top)=0:=by unfold bn;rw[if_neg (by rw[hne];decide),if_neg (by omega),if_neg (by omega),if_neg (by omega),if_neg (by omega),if_pos hk]
   refine⟨⟨hE,trivial⟩,?_⟩;show aP _ (wU s.top)=_;unfold aP;rw[if_neg (by rw[hE];decide),if_neg (by omega),if_neg (by omega),if_neg (by omega),if_neg (by omega),if_pos hk];show({st0 with ep:=s.ep,ms:=s.ms,fl:=s.fl,lg:=s.lg,pins:=freed s.pins s.top,top:=max (iq s.pins) s.top}:bQ)=_;rw[ack hno,show max (iq s.pins) s.top=s.top by omega]
 have c4:o9 {st0 with ep:=s.ep,ms:=s.ms,fl:=s.fl,lg:=s.lg,pins:=s.pins,top:=s.top} [eH s.hz]/\runN {st0 with ep:=s.ep,ms:=s.ms,fl:=s.fl,lg:=s.lg,pins:=s.pins,top:=s.top} [eH s.hz]={st0 with ep:=s.ep,ms:=s.ms,fl:=s.fl,lg:=s.lg,pins:=s.pins,top:=s.top,hz:=s.hz}:=by
  have hk:(eH s.hz).k=4:=rfl;have hne:aT (eH s.hz)=0:=by unfold aT;rw[if_neg (by omega),if_neg (by omega),if_pos (by omega)];exact VE (x:=0) ⟨by decide,by decide⟩
  have hE:bn {st0 with ep:=s.ep,ms:=s.ms,fl:=s.fl,lg:=s.lg,pins:=s.pins,top:=s.top} (eH s.hz)=0:=by unfold bn;rw[if_neg (by rw[hne];decide),if_neg (by omega),if_neg (by omega),if_pos hk];rw[if_neg (by show¬s.hz<0;have:=h.hz;omega)]
  refine⟨⟨hE,trivial⟩,?_⟩;show aP _ (eH s.hz)=_;unfold aP;rw[if_neg (by rw[hE];decide),if_neg (by omega),if_neg (by omega),if_pos hk];rfl
 have c5:=Zm {st0 with ep:=s.ep,ms:=s.ms,fl:=s.fl,lg:=s.lg,pins:=s.pins,top:=s.top,hz:=s.hz} s h rfl rfl rfl;have e0:(({st0 with ep:=s.ep,ms:=s.ms,fl:=s.fl,lg:=s.lg}:bQ))={st0 with ep:=s.ep,ms:=s.ms,fl:=s.fl,lg:=s.lg,pins:=[],top:=iq []}:=rfl;have q2:o9 st0 (pre++s.pins.map iD):=pU c1.1 (by rw[c1.2];exact c2.1);have p2:=nS st0 pre (s.pins.map iD);rw[c1.2]at p2;have p2:=p2.trans c2.2;have q3:=pU q2 (b:=jZ s) (by rw[p2];exact c3.1);have p3:=nS st0 (pre++s.pins.map iD) (jZ s);rw[p2]at p3;have p3':=p3.trans c3.2;have q4:=pU q3 (b:=[eH s.hz]) (by rw[p3'];exact c4.1);have p4:=nS st0 (pre++s.pins.map iD++jZ s) [eH s.hz];rw[p3']at p4;have p4':=p4.trans c4.2;refine⟨pU q4 (by rw[p4'];exact c5.1),?_⟩;rw[nS,p4'];exact c5.2
end Mst
namespace bW
open aJ Vn Mst jQ IM kK gu vM MO
theorem WG{l:List aG}:∀{s:bQ},o9 s l->∀x∈l,MK x/\aT x=0:=by
 induction l with
 |nil=>intro s _ x hx;cases hx
 |cons a l ih=>
  intro s h x hx;rcases List.mem_cons.1 hx with rfl|hx
  ·refine⟨?_,kS h.1⟩;have:=Bc h.1;unfold MK;omega
  ·exact ih h.2 x hx
theorem WH{l:List aG}(h:∀x∈l,aT x=0):gG l=l.map lK:=by unfold gG;rw[List.filter_eq_self.2 (fun x hx=>decide_eq_true (h x hx))]
theorem aar{s:bQ}(h:qA s):o9 st0 (mQ s)/\Mst.runN st0 (mQ s)=s/\∀x∈mQ s,NU x:=by
 have hp:((if 0<s.ep then [mZ s none 0 none 0]else([]:List aG))=[]/\¬0<s.ep)\/(0<s.ep/\∃A c B d,(if 0<s.ep then [mZ s none 0 none 0]else([]:List aG))=[mZ s A c B d]):=by
  by_cases h0:0<s.ep
  ·exact .inr ⟨h0,none,0,none,0,if_pos h0⟩
  ·exact .inl ⟨if_neg h0,h0⟩
 obtain⟨h1,h2⟩:=Mst.aaq h.inv hp;refine⟨h1,h2,Il h.su _ (fun x hx=> ?_)⟩;have z:(0:Int)<=0/\(0:Int)<=aW:=by decide
 split at hx
 ·rw[List.mem_singleton.1 hx];exact⟨z,z,h.su.fl,z⟩
 ·cases hx
structure fO(M:MR):Prop where
 ns:∃ns,WE M.lg.l ns/\Mst.runN st0 ns=M.st
theorem fO.of{M M':MR}(h:fO M)(h1:M'.lg.l=M.lg.l)(h2:M'.st=M.st):fO M':=by obtain⟨ns,a,b⟩:=h.ns;exact⟨ns,by rw[h1];exact a,by rw[h2];exact b⟩
section
variable{M:MR}{k c:Nat}
theorem fO.write(h:fO M){x:aG}(hu:NU x):fO (writeM M x):=by
 unfold writeM;split
 ·rename_i he;obtain⟨ns,a,b⟩:=h.ns;refine⟨ns++[x],⟨?_,fun y hy=> ?_⟩,?_⟩
  ·show M.lg.l++[lK x]=_;rw[a.l,List.map_append];rfl
  ·rcases List.mem_append.1 hy with hy|hy
   ·exact a.k y hy
   ·obtain rfl:=List.mem_singleton.1 hy;have:=Bc he;exact⟨by unfold MK;omega,kS he,hu⟩
  ·rw[Mst.nS,b];rfl
 ·exact h
theorem fO.send(h:fO M)(tt:Int)(x:bD):fO (iC M tt x):=by
 unfold iC;split
 ·exact h.of rfl rfl
 ·exact h
theorem fO.done(h:fO M)(hs:qA M.st):fO (mg M):=by
 obtain⟨ns,a,b⟩:=h.ns;unfold mg;split
 ·obtain⟨h1,h2,h3⟩:=aar hs;have h4:=WG h1;refine⟨mQ M.st,⟨?_,fun x hx=>⟨(h4 x hx).1,(h4 x hx).2,h3 x hx⟩⟩,h2⟩;exact WH (fun x hx=>(h4 x hx).2)
 ·exact⟨ns,a,b⟩
theorem fO.jm(h:fO M)(id:Int)(x:bD)(h0:0<=id):fO (jm M id x):=by
 have h1:fO (iJ M id x):=by
  unfold iJ;split
  ·split
   ·exact h.of rfl rfl
   split
   ·exact fO.write (M:=jU M id x) (h.of rfl rfl) (qC 5 id ⟨0,0,0⟩ (by decide) (by decide))
   ·exact h.of rfl rfl
  split
  ·exact h.of rfl rfl
  ·exact h.of rfl rfl
 unfold bW.jm;split
 ·exact h1.send _ _
 ·exact h1
theorem fO.jX(h:fO M)(hm:bC M k)(at':Int)(ha:0<=at'/\at'<=aW):fO (jX M at'):=by
 unfold bW.jX;split
 ·exact h
 ·split
  ·exact h
  ·exact fO.of (h.write (qC 6 0 ⟨M.st.top+1,at',8⟩ ha (by have:=hm.st.inv.top;dsimp only;omega))) rfl rfl
theorem fO.dQ(h:fO M)(hm:bC M k)(x:bD)(ha:0<=x.at'/\x.at'<=aW):fO (dQ M x):=by
 unfold bW.dQ;split
 ·exact h.jX hm _ ha
 split
 ·exact h
 ·rename_i p hp;have hpm:p∈M.st.pins:=by
   split at hp
   ·cases hp
   ·exact lC0 hp
  have hpi:=hm.st.inv.pin p hpm;have hpu:=hm.st.su.pin p hpm;split
  ·exact fO.of (h.write (qC 6 0 p hpu (by omega))) rfl rfl
  ·exact fO.of (h.write (qC 7 x.n ⟨0,0,0⟩ (by decide) (by decide))) rfl rfl
theorem fO.jC(h:fO M)(hm:bC M k)(cl:Int)(x:bD)(ha:0<=x.at'/\x.at'<=aW):fO (jC M cl x):=by
 have h1:fO (fV M cl x):=by
  unfold fV;split
  ·exact(h.dQ hm x ha).write (KR _)
  ·exact h
 unfold bW.jC;split
 ·exact h
 ·exact h1.send _ _
theorem fO.bJ(h:fO M)(hm:bC M k)(i:Int)(x:bD)(ha:0<=x.at'/\x.at'<=aW):fO (bJ M i x):=by
 unfold bW.bJ;split
 ·split
  ·exact h.jm _ _ (by omega)
  ·exact h
 split
 ·split
  ·exact h.send _ _
  ·exact h
 split
 ·split
  ·exact h.jC hm _ _ ha
  ·exact h
 ·exact h
theorem fO.deliver{w:World}(h:fO M)(hm:bC M k)(i:Int)(x:bD)(hx:I64 x.aX)(hok:jd w x)(ha:0<=x.at'/\x.at'<=aW):fO (cZ M i x):=by
 unfold cZ;split
 ·exact(h.bJ hm i x ha).done (hm.bJ i x hx hok).st
 ·exact h
theorem aas(M:MR)(n:Nat):(jL M n).lg=M.lg:=(tu M n).2.2.1
theorem fO.fF(h:fO M)(hm:bC M k):fO (fF M):=by
 unfold bW.fF;split
 ·exact h
 split
 ·exact h
 ·exact fO.of (h.write (KU (Iz hm))) (by rw[aas];rfl) (by rw[xP];rfl)
theorem fO.uK(h:fO M)(hm:bC M k):fO (eu M):=by
 unfold bW.eu;split
 ·split
  ·exact h.write (Qr (Fp hm))
  ·exact h
 ·exact h
theorem fO.iZ(h:fO M)(l:List Int):fO (iZ M l):=by
 induction l generalizing M with
 |nil=>exact h
 |cons a l ih=>exact ih (h.write (qC _ _ _ (by decide) (by decide)))
theorem fO.gq(h:fO M)(l:List Mem):fO (gq M l):=by
 induction l generalizing M with
 |nil=>exact h
 |cons a l ih=>exact ih (h.send _ _)
theorem fO.tick(h:fO M)(hm:bC M k):fO (lU M):=by have h1:fO (kD M):=fO.iZ (M:=ny M) (h.of rfl rfl) _;have h2:fO (bG M):=h1.of rfl rfl;exact(((h2.fF hm.bG).uK hm.bG.fF).gq _).done hm.qW.st
theorem fO.act{w:World}(h:fO M)(hm:bC M k)(a:fE)(hi:I64 a.x.aX)(hok:jd w a.x)(ha:0<=a.x.at'/\a.x.at'<=aW):fO (jJ M a):=by
 unfold jJ;split
 ·exact h.deliver hm a.n a.x hi hok ha
 split
 ·exact h.tick hm
 split
 ·refine h.of ?_ ?_<;>(unfold ni;split<;>rfl)
 split
 ·refine h.of ?_ ?_<;>(unfold kN;split<;>rfl)
 ·exact h
theorem fO.new{ep fl:Int}{l:List Mem}(hf:0<=fl/\fl<=aW):fO (sQ ep l fl):=
 fO.done (fO.write (M:=mk0 nU) ⟨[],⟨rfl,fun x hx=>by cases hx⟩,rfl⟩ (wM hf)) (QG.write (wM hf)).st
theorem QU(M:MR):(mg M).lg.T=[]:=by unfold mg;dsimp only;split<;>rfl
theorem agR(M:MR)(a:fE)(h:M.lg.T=[]):(jJ M a).lg.T=[]:=by
 unfold jJ;split
 ·unfold cZ;split
  ·exact QU _
  ·exact h
 split
 ·exact QU _
 split
 ·unfold ni;split<;>exact h
 split
 ·unfold kN;split<;>exact h
 ·exact h
def kp(l:List aO):List (Int×Int):=l.map fun p=>(p.id,p.at')
def dS(M:MR):Prop:=kp M.pins=kp M.st.pins
theorem QV:∀(l:List aO) (id:Int) (i:Nat),iF (fun x:aO=>decide (x.id=id)) l i=iF (fun x:Int×Int=>decide (x.1=id)) (kp l) i
 |[],_,_=>rfl
 |p::l,id,i=>by show _=iF _ ((p.id,p.at')::kp l) i;unfold iF;rw[QV l id (i+1)]
theorem Ko{a b:List aO}(h:kp a=kp b):a.length=b.length:=by have:=congrArg List.length h;simpa [kp]using this
theorem Oa{a b:List aO}(h:kp a=kp b)(id:Int):bV a id=bV b id:=by unfold bV;rw[QV,QV,h]
theorem Gj{M M':MR}(h:dS M)(h1:M'.pins=M.pins)(h2:M'.st.pins=M.st.pins):dS M':=by unfold dS;rw[h1,h2];exact h
theorem WI(s:bQ)(x:aG)(h6:x.k≠6)(h7:x.k≠7):(aP s x).pins=s.pins:=by
 unfold aP;split
 ·rfl
 split
 ·rfl
 split
 ·rfl
 have e:∀a:kP,(jA s a).pins=s.pins:=fun a=>by
  unfold jA;split
  ·rfl
  split<;>rfl
 split
 ·rfl
 exact e x.said
theorem dS.write(h:dS M){x:aG}(h6:x.k≠6)(h7:x.k≠7):dS (writeM M x):=
 Gj h (kT M x) (by rw[jD,WI _ _ h6 h7])
theorem dS.send(h:dS M)(tt:Int)(x:bD):dS (iC M tt x):=by
 unfold iC;split
 ·exact h
 ·exact h
theorem FH(a b:List aO):kp (a++b)=kp a++kp b:=List.map_append
theorem Kq{l:List aO}{id:Int}(h0:0<=bV l id):kp (jk l id)=kp l:=by
 rcases jE l id with h1|⟨q,y,h2,h3,h4⟩
 ·omega
 unfold jk;rw[show(bV l id).toNat=q by omega,h3];show kp (l.set q ⟨id,y.at',8⟩)=kp l;unfold kp;rw[List.map_set];refine List.ext_getElem? (fun j=> ?_);rw[List.getElem?_set];obtain⟨hi,he⟩:=lD0.1 h3;split
 ·rename_i hj;subst hj;rw[if_pos (by simpa using hi),List.getElem?_map,h3,<-h4];rfl
 ·rfl
theorem ade{a b:List aO}(h:kp a=kp b)(id:Int):kp (freed a id)=kp (freed b id):=by
 unfold freed;rw[Oa h id];split
 ·exact h
 ·unfold kp at*
  rw[List.eraseIdx_eq_take_drop_succ,List.eraseIdx_eq_take_drop_succ,List.map_append,List.map_append,List.map_take,List.map_drop,List.map_take,List.map_drop,h]
theorem QW{f:aO->Bool}{s:aO}{r:List aO}(hs:f s=true):∀(d:List aO) (i:Nat),(∀q∈d,f q=false)->iF f (d++s::r) i=((i+d.length:Nat):Int)
 |[],i,_=>by show iF f (s::r) i=_;unfold iF;rw[hs];rfl
 |q::d,i,h=>by show iF f (q::(d++s::r)) i=_;unfold iF;rw[h q List.mem_cons_self,QW hs d (i+1) (fun y hy=>h y (List.mem_cons_of_mem _ hy)),List.length_cons];show((i+1+d.length:Nat):Int)=_;omega
theorem aat{d:List aO}{s:aO}{r:List aO}(h:∀q∈d,q.id≠s.id):freed (d++s::r) s.id=d++r:=by
 have e:bV (d++s::r) s.id=((d.length:Nat):Int):=by unfold bV;rw[QW (decide_eq_true rfl) d 0 (fun q hq=>decide_eq_false (h q hq)),Nat.zero_add]
 unfold freed;rw[if_neg (by omega),e,Int.toNat_natCast,List.eraseIdx_append_of_length_le (Nat.le_refl _),Nat.sub_self];rfl
theorem G7{s:bQ}{n:Int}(h:0<=n/\n<=1073741824):(aP s (dP n)).pins=freed s.pins n:=by
 have hk:(dP n).k=7:=rfl;have hne:aT (dP n)=0:=by unfold aT;rw[if_neg (by omega),if_neg (by omega),if_pos (by omega)];exact Mst.VE (x:=n) h
 have hE:bn s (dP n)=0:=by unfold bn;rw[if_neg (by rw[hne];decide),if_neg (by omega),if_neg (by omega),if_neg (by omega),if_neg (by omega),if_pos hk]
 unfold aP;rw[if_neg (by rw[hE];decide),if_neg (by omega),if_neg (by omega),if_neg (by omega),if_neg (by omega),if_pos hk];rfl
theorem FI:∀(P:List aO) (M:MR) (d S:List aO),M.st.pins=d++S->kp P=kp S->(d++S).Pairwise (fun a b=>a.id<b.id)->(∀q∈S,0<=q.id/\q.id<=1073741824)->kp (iZ M (dh.iy P)).st.pins=kp d++kp (dh.dI P)
 |[],M,d,S,h1,h2,_,_=>by have:S=[]:=lE0 (by have:=Ko h2;simpa using this.symm);subst this;show kp M.st.pins=kp d++[];rw[h1,List.append_nil,List.append_nil]
 |p::P,M,d,[],h1,h2,_,_=>by have:=Ko h2;simp at this
 |p::P,M,d,s::S,h1,h2,h3,h4=>by
  have h5:p.id=s.id/\p.at'=s.at'/\kp P=kp S:=by unfold kp at h2⊢;simp only[List.map_cons,List.cons.injEq,Prod.mk.injEq]at h2;exact⟨h2.1.1,h2.1.2,h2.2⟩
  have h4':∀q∈S,0<=q.id/\q.id<=1073741824:=fun q hq=>h4 q (List.mem_cons_of_mem _ hq);by_cases hl:1<p.left
  ·have e1:dh.iy (p::P)=dh.iy P:=by unfold dh.iy;rw[List.filter_cons,if_neg (by rw[decide_eq_true hl];decide)]
   have e2:dh.dI (p::P)=⟨p.id,p.at',p.left-1⟩::dh.dI P:=by unfold dh.dI;rw[List.filter_cons,if_pos (decide_eq_true hl)];rfl
   have ih:=FI P M (d++[s]) S (by rw[h1];simp) h5.2.2 (by simpa using h3) h4';rw[e1,e2,ih,FH,List.append_assoc];show kp d++([(s.id,s.at')]++kp (dh.dI P))=kp d++((p.id,p.at')::kp (dh.dI P));rw[h5.1,h5.2.1];rfl
  ·have e1:dh.iy (p::P)=p.id::dh.iy P:=by unfold dh.iy;rw[List.filter_cons,if_pos (by rw[decide_eq_false hl];rfl)];rfl
   have e2:dh.dI (p::P)=dh.dI P:=by unfold dh.dI;rw[List.filter_cons,if_neg (by simpa using hl)]
   have hno:∀q∈d,q.id≠s.id:=fun q hq=>by have:=(List.pairwise_append.1 h3).2.2 q hq s List.mem_cons_self;omega
   have e3:(writeM M (dP p.id)).st.pins=d++S:=by rw[jD,G7 (by rw[h5.1];exact h4 s List.mem_cons_self),h1,h5.1,aat hno]
   have h3':(d++S).Pairwise (fun a b=>a.id<b.id):=h3.sublist (List.Sublist.append (List.Sublist.refl d) (List.sublist_cons_self s S));have ih:=FI P (writeM M (dP p.id)) d S e3 h5.2.2 h3' h4';rw[e1,e2];exact ih
theorem G8(M:MR)(l:List Int):(iZ M l).pins=M.pins:=by
 induction l generalizing M with
 |nil=>rfl
 |cons a l ih=>exact(ih (writeM M (dP a))).trans (kT _ _)
theorem dS.kD(h:dS M)(hm:bC M k):dS (kD M):=by have hi:=hm.st.inv;have h1:=FI M.pins (ny M) [] M.st.pins rfl h hi.vZ (fun q hq=>by have:=hi.pin q hq;have:=hi.top;omega);show kp (iZ (ny M) (dh.iy M.pins)).pins=kp (iZ (ny M) (dh.iy M.pins)).st.pins;rw[h1,G8];rfl
theorem dS.fF(h:dS M):dS (fF M):=by
 unfold bW.fF;split
 ·exact h
 split
 ·exact h
 ·have h1:dS (writeM M (kC (dX M))):=h.write (by unfold kC lq tV;dsimp only;omega) (by unfold kC lq tV;dsimp only;omega);exact Gj h1 (by rw[(tu _ _).2.1];rfl) (by rw[xP];rfl)
theorem dS.uK(h:dS M):dS (eu M):=by
 unfold bW.eu;split
 ·split
  ·exact h.write (by unfold eH;dsimp only;omega) (by unfold eH;dsimp only;omega)
  ·exact h
 ·exact h
theorem dS.gq(h:dS M)(l:List Mem):dS (gq M l):=by
 induction l generalizing M with
 |nil=>exact h
 |cons a l ih=>exact ih (h.send _ _)
theorem dS.tick(h:dS M)(hm:bC M k):dS (lU M):=by have h2:dS (bG M):=h.kD hm;have h3:dS (qW M):=((h2.fF).uK).gq _;exact h3
theorem Kr{a b:List aO}(h:kp a=kp b){p:aO}(hp:p∈a):∃q∈b,q.id=p.id/\q.at'=p.at':=by
 have h1:(p.id,p.at')∈kp b:=by rw[<-h];exact List.mem_map.2 ⟨p,hp,rfl⟩
 obtain⟨q,hq,e⟩:=List.mem_map.1 h1;injection e with e1 e2;exact⟨q,hq,e1,e2⟩
theorem dS.jX(h:dS M)(hm:bC M k)(at':Int):dS (jX M at'):=by
 unfold bW.jX;split
 ·exact h
 split
 ·exact h
 rename_i hE;have hE:bn M.st (gZ ⟨M.st.top+1,at',8⟩)=0:=Classical.not_not.1 hE;have hi:=hm.st.inv;have hk:(gZ ⟨M.st.top+1,at',8⟩).k=6:=rfl;have hr:=Nb (kS hE) hk;have hr:0<=M.st.top+1/\M.st.top+1<=1073741824:=hr;have hno:bV M.st.pins (M.st.top+1)<0:=Mst.Du (fun p hp e=>by have:=hi.pin p hp;omega);have hpe:oC M.st ⟨M.st.top+1,at',8⟩=0:=by have h9:=hE;unfold bn at h9;rw[if_neg (by rw[kS hE];decide),if_neg (by omega),if_neg (by omega),if_neg (by omega),if_pos hk]at h9;exact h9
 have hlen:M.st.pins.length<3:=by
  unfold oC at hpe;rw[if_neg (by show¬0<=bV M.st.pins (M.st.top+1);omega)]at hpe;split at hpe
  ·cases hpe
  ·omega
 have hS:(aP M.st (gZ ⟨M.st.top+1,at',8⟩)).pins=M.st.pins++[⟨M.st.top+1,at',8⟩]:=by unfold aP;rw[if_neg (by rw[hE];decide),if_neg (by omega),if_neg (by omega),if_neg (by omega),if_pos hk];show(jy M.st ⟨M.st.top+1,at',8⟩).pins=_;unfold jy;rw[if_neg (by show¬0<=bV M.st.pins (M.st.top+1);omega)]
 have hg:granted M.pins (M.st.top+1) at'=M.pins++[⟨M.st.top+1,at',8⟩]:=by
  have h0:dh.kL M.pins (M.st.top+1)=0:=by
   unfold dh.kL;have:=Ko h;have:=hi.top;rw[if_neg (by omega),if_neg (by omega),if_neg];rintro⟨a,b⟩;have hne:M.pins≠[]:=fun e=>by rw[e]at a;exact absurd a (Nat.lt_irrefl _)
   have hl:dh.iq M.pins=(M.pins.getLast hne).id:=dh.last_at (by rw[<-List.getLast?_eq_getElem?,List.getLast?_eq_some_getLast hne]);obtain⟨q,hq,e1,-⟩:=Kr h (List.getLast_mem hne);have:=hi.pin q hq;omega
  unfold granted;rw[if_pos h0]
 show kp (granted M.pins (M.st.top+1) at')=kp (writeM M (gZ ⟨M.st.top+1,at',8⟩)).st.pins;rw[jD,hS,hg,FH,FH,h]
theorem dS.dQ(h:dS M)(hm:bC M k)(x:bD):dS (dQ M x):=by
 unfold bW.dQ;split
 ·exact h.jX hm _
 split
 ·exact h
 ·rename_i p hp;obtain⟨h0,hpp⟩:0<=bV M.st.pins x.n/\M.st.pins[(bV M.st.pins x.n).toNat]? =some p:=by
   split at hp
   ·cases hp
   ·exact⟨by omega,hp⟩
  have hpi:=hm.st.inv.pin p (lC0 hpp);have htop:=hm.st.inv.top;have hid:p.id=x.n:=by
   rcases jE M.st.pins x.n with h1|⟨q,y,h2,h3,h4⟩
   ·omega
   ·rw[show(bV M.st.pins x.n).toNat=q by omega,h3]at hpp;injection hpp with e;rw[<-e];exact h4
  have hM:=Oa h x.n;split
  ·have hk:(gZ p).k=6:=rfl;have hS:kp (aP M.st (gZ p)).pins=kp M.st.pins:=by
    unfold aP;split
    ·rfl
    rw[if_neg (by omega),if_neg (by omega),if_neg (by omega)];show kp (jy M.st p).pins=_;unfold jy;rw[if_pos (by rw[hid];exact h0)];exact Kq (by rw[hid];exact h0)
   show kp (lV M.pins x.n)=kp (writeM M (gZ p)).st.pins;rw[jD,hS];unfold lV;rw[if_neg (by omega),Kq (by omega)];exact h
  ·show kp (lS M.pins x.n)=kp (writeM M (dP x.n)).st.pins;rw[jD,G7 (by omega)];unfold lS;rw[if_neg (by omega)];exact ade h x.n
theorem dS.jC(h:dS M)(hm:bC M k)(cl:Int)(x:bD):dS (jC M cl x):=by
 have h1:dS (fV M cl x):=by
  unfold fV;split
  ·exact(h.dQ hm x).write (by unfold lT;dsimp only;omega) (by unfold lT;dsimp only;omega)
  ·exact h
 unfold bW.jC;split
 ·exact h
 ·exact h1.send _ _
theorem dS.jm(h:dS M)(id:Int)(x:bD):dS (jm M id x):=by
 have h1:dS (iJ M id x):=by
  unfold iJ;split
  ·split
   ·exact h
   split
   ·exact dS.write (M:=jU M id x) h (by unfold qL nt;dsimp only;omega) (by unfold qL nt;dsimp only;omega)
   ·exact h
  split
  ·exact h
  ·exact h
 unfold bW.jm;split
 ·exact h1.send _ _
 ·exact h1
theorem dS.bJ(h:dS M)(hm:bC M k)(i:Int)(x:bD):dS (bJ M i x):=by
 unfold bW.bJ;split
 ·split
  ·exact h.jm _ _
  ·exact h
 split
 ·split
  ·exact h.send _ _
  ·exact h
 split
 ·split
  ·exact h.jC hm _ _
  ·exact h
 ·exact h
theorem dS.act(h:dS M)(hm:bC M k)(a:fE):dS (jJ M a):=by
 unfold jJ;split
 ·unfold cZ;split
  ·have h1:=h.bJ hm a.n a.x;exact h1
  ·exact h
 split
 ·exact h.tick hm
 split
 ·refine Gj h ?_ ?_<;>(unfold ni;split<;>rfl)
 split
 ·refine Gj h ?_ ?_<;>(unfold kN;split<;>rfl)
 ·exact h
theorem dS.new{ep fl:Int}{l:List Mem}(h:aJ.chk ep l=0):dS (sQ ep l fl):=by unfold dS;rw[KY h];show kp (writeM (mk0 nU) (lq ep l fl (ids l))).pins=_;rw[kT];rfl
end
end bW
namespace bW
open aJ Vn Mst jQ IM kK gu vM MO
def iQ(T:List aO)(M:MR)(a:fE):List aO:=
 if a.k=4\/a.k=5 then dh.dI T
 else if a.k<0\/3<a.k\/a.n<5\/8<=a.n then T
 else if(dO M.st (a.n-5)).req≠a.x.req\/(dO M.st (a.n-5)).e≠0 then T
 else if a.x.k=11 then (if T.any (fun p=>decide (p.id=(dO M.st (a.n-5)).pin))=true then T else T++M.pins.filter (fun p=>decide (p.id=(dO M.st (a.n-5)).pin)))
 else if a.x.k=13 then (if bV T a.x.n<0 then T else freed T a.x.n)else T
def There(T P:List aO):Prop:=∀p∈T,0<=p.left/\∃q∈P,q.id=p.id/\q.at'=p.at'/\p.left<=q.left
def sU(T:List aO):Prop:=T.Pairwise (fun a b=>a.id≠b.id)
theorem There.mono{T P P':List aO}(h:There T P)(hp:∀q∈P,∃q'∈P',q'.id=q.id/\q'.at'=q.at'/\q.left<=q'.left):There T P':=fun p hp2=>by obtain⟨h0,q,hq,a,b,c⟩:=h p hp2;obtain⟨q',hq',a',b',c'⟩:=hp q hq;exact⟨h0,q',hq',a'.trans a,b'.trans b,by omega⟩
theorem There.sub{T T' P:List aO}(h:There T P)(hs:∀p∈T',p∈T):There T' P:=fun p hp=>h p (hs p hp)
theorem There.dI{T P:List aO}(h:There T P):There (dh.dI T) (dh.dI P):=fun p hp=>by obtain⟨p0,hp0,h1,rfl⟩:=JL hp;obtain⟨h0,q,hq,a,b,c⟩:=h p0 hp0;refine⟨by dsimp only;omega,⟨q.id,q.at',q.left-1⟩,?_,a,b,by dsimp only;omega⟩;unfold dh.dI;exact List.mem_map.2 ⟨q,List.mem_filter.2 ⟨hq,decide_eq_true (by omega)⟩,rfl⟩
theorem sU.dI{T:List aO}(h:sU T):sU (dh.dI T):=by unfold sU dh.dI;rw[List.pairwise_map];exact(h.filter _).imp (fun h=>h)
theorem uI{T:List aO}{n:Int}{p:aO}(h:p∈freed T n):p∈T:=by
 unfold freed at h;split at h
 ·exact h
 ·exact List.mem_of_mem_eraseIdx h
theorem sU.freed{T:List aO}(h:sU T)(n:Int):sU (freed T n):=by
 unfold Mst.freed;split
 ·exact h
 ·exact h.sublist (List.eraseIdx_sublist _ _)
theorem adf{T:List aO}(h:sU T){n:Int}{p:aO}(hp:p∈freed T n):p.id≠n:=by
 unfold freed at hp;split at hp
 ·rename_i h0;exact Vu h0 p hp
 ·rename_i h0;rcases jE T n with h1|⟨k,x,h1,h2,h3⟩
  ·omega
  rw[show(bV T n).toNat=k by omega]at hp;obtain⟨j,hj,hjk⟩:=List.mem_eraseIdx_iff_getElem?.1 hp;obtain⟨hk',ek⟩:=lD0.1 h2;obtain⟨hj',ej⟩:=lD0.1 hjk;rw[<-h3,<-ek,<-ej];have hpw:=List.pairwise_iff_getElem.1 h;rcases Nat.lt_or_gt_of_ne hj with hl|hl
  ·exact hpw j k hj' hk' hl
  ·exact fun e=>hpw k j hk' hj' hl e.symm
theorem aau{T:List aO}{n:Int}{p:aO}(hp:p∈T)(hn:p.id≠n):p∈freed T n:=by
 unfold freed;split
 ·exact hp
 ·rename_i h0;rcases jE T n with h1|⟨k,x,h1,h2,h3⟩
  ·omega
  rw[show(bV T n).toNat=k by omega];obtain⟨j,hj,ej⟩:=List.getElem_of_mem hp;refine List.mem_eraseIdx_iff_getElem?.2 ⟨j,?_,by rw[<-ej];exact lB0 hj⟩;rintro rfl;obtain⟨hk',ek⟩:=lD0.1 h2;rw[ek]at ej;rw[<-ej]at hn;exact hn h3
section
variable{M M':MR}{k:Nat}{T:List aO}
theorem told_other(h:There T M.pins)(hl:∀q∈M.pins,0<=q.left)(a:fE)(hk:¬(a.k=4\/a.k=5)):There (iQ T M a) M.pins:=by
 unfold iQ;rw[if_neg hk];split
 ·exact h
 split
 ·exact h
 split
 ·split
  ·exact h
  ·intro p hp;rcases List.mem_append.1 hp with hp|hp
   ·exact h p hp
   ·have:=(List.mem_filter.1 hp).1;exact⟨hl p this,p,this,rfl,rfl,Int.le_refl _⟩
 split
 ·split
  ·exact h
  ·exact h.sub (fun p hp=>uI hp)
 ·exact h
theorem aav(h:sU T)(hP:sU M.pins)(a:fE):sU (iQ T M a):=by
 unfold iQ;split
 ·exact h.dI
 split
 ·exact h
 split
 ·exact h
 split
 ·split
  ·exact h
  ·rename_i hn;refine List.pairwise_append.2 ⟨h,hP.filter _,fun p hp q hq e=> ?_⟩;have h1:=of_decide_eq_true (List.mem_filter.1 hq).2;exact hn (List.any_eq_true.2 ⟨p,hp,decide_eq_true (e.trans h1)⟩)
 split
 ·split
  ·exact h
  ·exact h.freed _
 ·exact h
theorem adg(T:List aO)(M:MR)(a:fE):(iQ T M a).length<=T.length+M.pins.length:=by
 unfold iQ;split
 ·have:=dh.yF T;omega
 split
 ·omega
 split
 ·omega
 split
 ·split
  ·omega
  ·rw[lA0];have:=List.length_filter_le (fun p:aO=>decide (p.id=(dO M.st (a.n-5)).pin)) M.pins;omega
 split
 ·split
  ·omega
  ·unfold freed;split
   ·omega
   ·rw[List.length_eraseIdx];split<;>omega
 ·omega
theorem aaw(hm:bC M k)(hp:dS M):sU M.pins:=by
 have h1:(kp M.pins).Pairwise (fun a b=>a.1≠b.1):=by have e:kp M.pins=kp M.st.pins:=hp;rw[e];unfold kp;rw[List.pairwise_map];exact hm.st.inv.vZ.imp (fun h e=>by dsimp only at e;omega)
 unfold kp at h1;rw[List.pairwise_map]at h1;exact h1
theorem xR(M:MR)(tt:Int)(x:bD):(iC M tt x).pins=M.pins:=by unfold iC;split<;>rfl
theorem WJ(M:MR):(fF M).pins=M.pins:=by
 unfold fF;split
 ·rfl
 split
 ·rfl
 ·rw[(tu _ _).2.1];exact kT _ _
theorem NM(M:MR):(eu M).pins=M.pins:=by
 unfold eu;split
 ·split
  ·exact kT _ _
  ·rfl
 ·rfl
theorem WL(M:MR)(l:List Mem):(gq M l).pins=M.pins:=by
 induction l generalizing M with
 |nil=>rfl
 |cons a l ih=>exact(ih (jW M a.1)).trans (xR _ _ _)
theorem WM(M:MR):(lU M).pins=dh.dI M.pins:=by show(lU M).pins=_;have h1:(kD M).pins=dh.dI M.pins:=G8 _ _;show(gq (fQ M) (fQ M).st.ms).pins=_;rw[WL];show(eu (fF (bG M))).pins=_;rw[NM,WJ];exact h1
theorem WN(M:MR)(id:Int)(x:bD):(jm M id x).pins=M.pins:=by
 have h1:(iJ M id x).pins=M.pins:=by
  unfold iJ;split
  ·split
   ·rfl
   split
   ·exact kT _ _
   ·rfl
  split<;>rfl
 unfold jm;split
 ·exact(xR _ _ _).trans h1
 ·exact h1
def Up(P P':List aO):Prop:=∀q∈P,∃q'∈P',q'.id=q.id/\q'.at'=q.at'/\q.left<=q'.left
theorem Up.refl(P:List aO):Up P P:=fun q hq=>⟨q,hq,rfl,rfl,Int.le_refl _⟩
theorem Up.of_eq{P P':List aO}(h:P'=P):Up P P':=by subst h;exact Up.refl _
theorem aeW(hm:bC M k)(hp:dS M)(at':Int):Up M.pins (jX M at').pins:=by
 unfold jX;split
 ·exact Up.refl _
 split
 ·exact Up.refl _
 ·rename_i h1 h2;have h3:=dS.jX hp hm at';unfold jX at h3;rw[if_neg h1,if_neg h2]at h3;have h4:=Ko h3;have h5:(writeM M (gZ ⟨M.st.top+1,at',8⟩)).st.pins.length≠0:=by have hE:bn M.st (gZ ⟨M.st.top+1,at',8⟩)=0:=Classical.not_not.1 h2;have hk:(gZ ⟨M.st.top+1,at',8⟩).k=6:=rfl;have hi:=hm.st.inv;have hno:bV M.st.pins (M.st.top+1)<0:=Mst.Du (fun p hp e=>by have:=hi.pin p hp;omega);rw[jD];unfold aP;rw[if_neg (by rw[hE];decide),if_neg (by omega),if_neg (by omega),if_neg (by omega),if_pos hk];show(jy M.st ⟨M.st.top+1,at',8⟩).pins.length≠0;unfold jy;rw[if_neg (by show¬0<=bV M.st.pins (M.st.top+1);omega)];show(M.st.pins++[_]).length≠0;simp
  have h6:granted M.pins (M.st.top+1) at'=M.pins++[⟨M.st.top+1,at',8⟩]:=by
   have h7:(granted M.pins (M.st.top+1) at').length≠0:=by have h8:(granted M.pins (M.st.top+1) at').length=(writeM M (gZ ⟨M.st.top+1,at',8⟩)).st.pins.length:=h4;omega
   unfold granted at h7⊢;split
   ·rfl
   ·rename_i h9;rw[if_neg h9]at h7;exact absurd rfl h7
  intro q hq;refine⟨q,?_,rfl,rfl,Int.le_refl _⟩;show q∈granted M.pins (M.st.top+1) at';rw[h6];exact List.mem_append_left _ hq
theorem adh{P:List aO}{n:Int}(h8:∀q∈P,q.left<=8)(h0:0<=bV P n):Up P (jk P n):=by
 rcases jE P n with h1|⟨j,y,h1,h2,h3⟩
 ·omega
 intro q hq;obtain⟨i,hi,ei⟩:=List.getElem_of_mem hq;unfold jk;rw[show(bV P n).toNat=j by omega,h2];show∃q'∈P.set j ⟨n,y.at',8⟩,_;obtain⟨hj,ej⟩:=lD0.1 h2;by_cases hij:j=i
 ·subst hij;rw[ej]at ei;subst ei;exact⟨_,List.mem_iff_getElem.2 ⟨j,by simpa using hj,List.getElem_set_self _⟩,h3.symm,rfl,h8 _ hq⟩
 ·exact⟨q,List.mem_iff_getElem.2 ⟨i,by simpa using hi,by rw[List.getElem_set_ne hij];exact ei⟩,rfl,rfl,Int.le_refl _⟩
theorem adi(hm:bC M k)(hp:dS M)(x:bD)(hn:¬(x.k≠11/\x.k≠12/\0<=bV M.st.pins x.n)):Up M.pins (dQ M x).pins:=by
 unfold dQ;split
 ·exact aeW hm hp _
 rename_i h11;split
 ·exact Up.refl _
 ·rename_i p hpp;have h0:0<=bV M.st.pins x.n:=by
   split at hpp
   ·cases hpp
   ·omega
  split
  ·show Up M.pins (lV M.pins x.n);unfold lV;have e:=Oa hp x.n;rw[if_neg (by omega)];exact adh (fun q hq=>(hm.pin q hq).2.1) (by omega)
  ·exact absurd ⟨h11,‹_›,h0⟩ hn
structure WO(M:MR)(n:Int)(x:bD):Prop where
 c:ou x=0
 k:x.k=13
 nn:5<=n/\n<8
 r:1<=x.req
 s:(dO M.st (n-5)).req<x.req
 p:0<=bV M.st.pins x.n
theorem WQ(hm:bC M k)(hp:dS M)(n:Int)(x:bD)(hn:¬WO M n x):Up M.pins (cZ M n x).pins:=by
 unfold cZ;split;rotate_left
 ·exact Up.refl _
 rename_i hc;show Up M.pins (bJ M n x).pins;unfold bJ;split
 ·split
  ·exact Up.of_eq (WN _ _ _)
  ·exact Up.refl _
 split
 ·split
  ·exact Up.of_eq (xR _ _ _)
  ·exact Up.refl _
 split
 ·rename_i hk;split
  ·rename_i h5;unfold jC;split
   ·exact Up.refl _
   ·rename_i hr;show Up M.pins (iC (fV M (n-5) x) _ _).pins;rw[xR];unfold fV;split
    ·rename_i hs;show Up M.pins (writeM (dQ M x) _).pins;rw[kT];exact adi hm hp x (fun⟨a,b,c⟩=>hn ⟨hc,by omega,h5,by omega,hs,c⟩)
    ·exact Up.refl _
  ·exact Up.refl _
 ·exact Up.refl _
theorem QX(M:MR)(tt:Int)(x:bD):(iC M tt x).st=M.st:=by unfold iC;split<;>rfl
theorem QY{n:Int}{x:bD}(hm:bC M k)(h:WO M n x):(cZ M n x).pins=lS M.pins x.n/\dO (cZ M n x).st (n-5)=⟨n-5,x.req,0,x.n⟩:=by
 obtain⟨hc,hk,hn,hr,hs,hpn⟩:=h;obtain⟨p,hpp,hpm⟩:∃p,M.st.pins[(bV M.st.pins x.n).toNat]? =some p/\p.id=x.n:=by
  rcases jE M.st.pins x.n with h1|⟨q,y,h2,h3,h4⟩
  ·omega
  ·exact⟨y,by rw[show(bV M.st.pins x.n).toNat=q by omega];exact h3,h4⟩
 have hg:dQ M x={writeM M (dP x.n)with pins:=lS M.pins x.n}:=by unfold dQ;rw[if_neg (by omega),if_neg (by omega),hpp];show(if x.k=12 then _ else _)=_;rw[if_neg (by omega)]
 have hv:gW M x=(x.n,0):=by unfold gW;rw[if_neg (by omega),if_neg (by omega)]
 have ha:qE M (n-5) x=⟨n-5,x.req,0,x.n⟩:=by unfold qE;rw[if_pos hs,hv]
 have h1:fV M (n-5) x=writeM {writeM M (dP x.n)with pins:=lS M.pins x.n} (lT ⟨n-5,x.req,0,x.n⟩):=by unfold fV;rw[if_pos hs,hg,ha]
 have hd:bJ M n x=iC (fV M (n-5) x) (5+(n-5)) (xN (fV M (n-5) x).st (qE M (n-5) x)):=by unfold bJ;rw[if_neg (by omega),if_neg (by omega),if_pos (by omega),if_pos hn];unfold jC;rw[if_neg (by omega)]
 have hD:cZ M n x=mg (bJ M n x):=by unfold cZ;rw[if_pos hc]
 have af6:0<=x.req/\x.req<=1073741824:=by
  unfold ou at hc;rw[hk,if_pos (by decide)]at hc;have:=uS hc 114 (by decide);have h2:Hl x.req=0:=this;unfold Hl at h2;split at h2
  ·cases h2
  ·omega
 have hpi:=hm.st.inv.pin p (lC0 hpp);have htop:=hm.st.inv.top;refine⟨?_,?_⟩
 ·rw[hD];show(bJ M n x).pins=_;rw[hd,xR,h1,kT]
 ·rw[hD];show dO (bJ M n x).st (n-5)=_;rw[hd,QX,h1,jD];have hst:({writeM M (dP x.n)with pins:=lS M.pins x.n}:MR).st=aP M.st (dP x.n):=jD _ _;rw[hst];have hto:∀i,toldOf (aP M.st (dP x.n)) i=toldOf M.st i:=fun i=>by
   have nG:(dP x.n).k=7:=rfl;unfold aP;split
   ·rfl
   rw[if_neg (by omega),if_neg (by omega),if_neg (by omega),if_neg (by omega)];rfl
  have hcl:n-5=0\/n-5=1\/n-5=2:=by omega
  have hso:∀s:bQ,dO s (n-5)=toldOf s (n-5):=fun s=>by rcases hcl with e|e|e<;>rw[e]<;>rfl
  have hk8:(lT ⟨n-5,x.req,0,x.n⟩).k=8:=rfl;have hne:aT (lT ⟨n-5,x.req,0,x.n⟩)=0:=by
   unfold aT;rw[if_neg (by omega),if_neg (by omega),if_neg (by omega),if_neg (by omega),if_pos hk8];show saidE ⟨n-5,x.req,0,x.n⟩=0
   have hr2:iG [x.req,x.n]=0:=uH.2 (fun y hy=>by
    rcases List.mem_cons.1 hy with rfl|hy
    ·exact af6
    ·rw[List.mem_singleton.1 hy];omega)
   unfold saidE;dsimp only;rw[if_neg (by omega),if_neg (by rw[hr2];decide),if_neg (by decide)]
  have hE:bn (aP M.st (dP x.n)) (lT ⟨n-5,x.req,0,x.n⟩)=0:=by unfold bn;rw[if_neg (by rw[hne];decide),if_neg (by omega),if_neg (by omega),if_neg (by omega),if_neg (by omega),if_neg (by omega),if_pos hk8];show(if x.req<(toldOf (aP M.st (dP x.n)) (n-5)).req then (18:Int)else 0)=0;rw[hto,<-hso,if_neg (by omega)]
  have hS:aP (aP M.st (dP x.n)) (lT ⟨n-5,x.req,0,x.n⟩)=jA (aP M.st (dP x.n)) ⟨n-5,x.req,0,x.n⟩:=by rw[aP,if_neg (by rw[hE];decide),if_neg (by omega),if_neg (by omega),if_neg (by omega),if_neg (by omega),if_neg (by omega)];rfl
  rw[hS,hso];rcases hcl with e|e|e<;>rw[e]<;>rfl
theorem QZ{k':Nat}(hm:bC M k)(hp:dS M)(h:There T M.pins)(hd:sU T)(a:fE)(hk:0<=a.k/\a.k<=3)(hm':bC (cZ M a.n a.x) k'):There (iQ T (cZ M a.n a.x) a) (cZ M a.n a.x).pins:=by
 have hl:∀q∈(cZ M a.n a.x).pins,0<=q.left:=fun q hq=>(hm'.pin q hq).1;by_cases hf:WO M a.n a.x
 ·obtain⟨h1,h2⟩:=QY hm hf;have e1:iQ T (cZ M a.n a.x) a=freed T a.x.n:=by
   unfold iQ;have hn:=hf.nn;have h13:=hf.k;rw[if_neg (by omega),if_neg (by omega),h2,if_neg (by simp),if_neg (by omega),if_pos h13];split
   ·rename_i h0;unfold freed;rw[if_pos h0]
   ·rfl
  have e2:lS M.pins a.x.n=freed M.pins a.x.n:=by unfold lS;have:=Oa hp a.x.n;have:=hf.p;rw[if_neg (by omega)]
  rw[e1,h1,e2];intro p hpm;obtain⟨h0,q,hq,x1,x2,x3⟩:=h p (uI hpm);exact⟨h0,q,aau hq (by rw[x1];exact adf hd hpm),x1,x2,x3⟩
 ·exact told_other (h.mono (WQ hm hp _ _ hf)) hl a (by omega)
structure Hz(h0:Int)(M:MR):Prop where
 g:h0<=M.st.hz
 p:∀q∈M.st.pins,M.st.hz<=q.at'
theorem adk(s:bQ)(x:aG):s.hz<=(aP s x).hz:=by
 unfold aP;split
 ·exact Int.le_refl _
 rename_i hE;have hE:bn s x=0:=Classical.not_not.1 hE;split
 ·exact Int.le_refl _
 split
 ·exact Int.le_refl _
 split
 ·rename_i h1 h5 h4;unfold bn at hE;rw[if_neg (by rw[kS (s:=s) (by unfold bn;exact hE)];decide),if_neg h1,if_neg h5,if_pos h4]at hE;split at hE
  ·cases hE
  ·show s.hz<=x.at';omega
 split
 ·unfold jy;split<;>exact Int.le_refl _
 split
 ·exact Int.le_refl _
 ·unfold jA;split
  ·exact Int.le_refl _
  split<;>exact Int.le_refl _
theorem aax{s:bQ}{x:aG}(h:∀q∈s.pins,s.hz<=q.at')(hx:x.k=4->∀q∈s.pins,x.at'<=q.at'):∀q∈(aP s x).pins,(aP s x).hz<=q.at':=by
 by_cases hE:bn s x=0;rotate_left
 ·have e:aP s x=s:=by unfold aP;rw[if_pos hE]
  rw[e];exact h
 by_cases h1:x.k=1
 ·have e:(aP s x).pins=s.pins/\(aP s x).hz=s.hz:=by unfold aP;rw[if_neg (by rw[hE];decide),if_pos h1];exact⟨rfl,rfl⟩
  rw[e.1,e.2];exact h
 by_cases h5:x.k=5
 ·have e:(aP s x).pins=s.pins/\(aP s x).hz=s.hz:=by unfold aP;rw[if_neg (by rw[hE];decide),if_neg h1,if_pos h5];exact⟨rfl,rfl⟩
  rw[e.1,e.2];exact h
 by_cases h4:x.k=4
 ·have e:(aP s x).pins=s.pins/\(aP s x).hz=x.at':=by unfold aP;rw[if_neg (by rw[hE];decide),if_neg h1,if_neg h5,if_pos h4];exact⟨rfl,rfl⟩
  rw[e.1,e.2];exact hx h4
 by_cases h6:x.k=6
 ·have e:aP s x=jy s x.pin:=by unfold aP;rw[if_neg (by rw[hE];decide),if_neg h1,if_neg h5,if_neg h4,if_pos h6]
  rw[e];have hp:oC s x.pin=0:=by have h9:=hE;unfold bn at h9;rw[if_neg (by rw[kS hE];decide),if_neg h1,if_neg h5,if_neg h4,if_pos h6]at h9;exact h9
  unfold oC at hp;unfold jy;split
  ·intro q hq;show s.hz<=q.at';rcases Bi hq with y|⟨z,hz,rfl⟩
   ·exact h q y
   ·exact h z hz
  ·rename_i h0;rw[if_neg h0]at hp;intro q hq;show s.hz<=q.at';rcases List.mem_append.1 hq with y|y
   ·exact h q y
   ·rw[List.mem_singleton.1 y];show s.hz<=x.pin.at';split at hp
    ·cases hp
    split at hp
    ·cases hp
    split at hp
    ·cases hp
    ·omega
 by_cases h7:x.k=7
 ·have e:(aP s x).pins=freed s.pins x.n/\(aP s x).hz=s.hz:=by unfold aP;rw[if_neg (by rw[hE];decide),if_neg h1,if_neg h5,if_neg h4,if_neg h6,if_pos h7];exact⟨rfl,rfl⟩
  rw[e.1,e.2];exact fun q hq=>h q (uI hq)
 ·have e:(aP s x).pins=s.pins/\(aP s x).hz=s.hz:=by
   unfold aP;rw[if_neg (by rw[hE];decide),if_neg h1,if_neg h5,if_neg h4,if_neg h6,if_neg h7];unfold jA;split
   ·exact⟨rfl,rfl⟩
   split<;>exact⟨rfl,rfl⟩
  rw[e.1,e.2];exact h
variable{h0:Int}
theorem Hz.of(h:Hz h0 M)(h1:M'.st=M.st):Hz h0 M':=⟨by rw[h1];exact h.g,by rw[h1];exact h.p⟩
theorem Hz.write(h:Hz h0 M){x:aG}(hx:x.k=4->∀q∈M.st.pins,x.at'<=q.at'):Hz h0 (writeM M x):=
 ⟨by rw[jD];exact Int.le_trans h.g (adk _ _),by rw[jD];exact aax h.p hx⟩
theorem Hz.send(h:Hz h0 M)(tt:Int)(x:bD):Hz h0 (iC M tt x):=h.of (QX _ _ _)
theorem Hz.jm(h:Hz h0 M)(id:Int)(x:bD):Hz h0 (jm M id x):=by
 have h1:Hz h0 (iJ M id x):=by
  unfold iJ;split
  ·split
   ·exact h.of rfl
   split
   ·exact Hz.write (M:=jU M id x) (h.of rfl) (fun e=>by unfold qL nt at e;dsimp only at e;omega)
   ·exact h.of rfl
  split
  ·exact h.of rfl
  ·exact h.of rfl
 unfold bW.jm;split
 ·exact h1.send _ _
 ·exact h1
theorem Hz.jX(h:Hz h0 M)(at':Int):Hz h0 (jX M at'):=by
 unfold bW.jX;split
 ·exact h
 split
 ·exact h
 ·exact Hz.of (h.write (x:=gZ ⟨M.st.top+1,at',8⟩) (fun e=>by unfold gZ nt at e;dsimp only at e;omega)) rfl
theorem Hz.dQ(h:Hz h0 M)(x:bD):Hz h0 (dQ M x):=by
 unfold bW.dQ;split
 ·exact h.jX _
 split
 ·exact h
 ·rename_i p hp;split
  ·exact Hz.of (h.write (x:=gZ p) (fun e=>by unfold gZ nt at e;dsimp only at e;omega)) rfl
  ·exact Hz.of (h.write (x:=dP x.n) (fun e=>by unfold dP nt at e;dsimp only at e;omega)) rfl
theorem Hz.jC(h:Hz h0 M)(cl:Int)(x:bD):Hz h0 (jC M cl x):=by
 have h1:Hz h0 (fV M cl x):=by
  unfold fV;split
  ·exact(h.dQ x).write (fun e=>by unfold lT at e;dsimp only at e;omega)
  ·exact h
 unfold bW.jC;split
 ·exact h
 ·exact h1.send _ _
theorem Hz.deliver(h:Hz h0 M)(i:Int)(x:bD):Hz h0 (cZ M i x):=by
 have h1:Hz h0 (bJ M i x):=by
  unfold bJ;split
  ·split
   ·exact h.jm _ _
   ·exact h
  split
  ·split
   ·exact h.send _ _
   ·exact h
  split
  ·split
   ·exact h.jC _ _
   ·exact h
  ·exact h
 unfold cZ;split
 ·exact h1.of rfl
 ·exact h
theorem Hz.fF(h:Hz h0 M):Hz h0 (fF M):=by
 unfold bW.fF;split
 ·exact h
 split
 ·exact h
 ·exact Hz.of (h.write (x:=kC (dX M)) (fun e=>by unfold kC lq tV at e;dsimp only at e;omega)) (by rw[xP];rfl)
theorem least_le{f:Int}{l:List Int}:dh.gV f l<=f/\∀x∈l,dh.gV f l<=x:=by
 induction l generalizing f with
 |nil=>exact⟨Int.le_refl _,fun x hx=>by cases hx⟩
 |cons a l ih=>
  obtain⟨h1,h2⟩:=ih (f:=min f a);have e:dh.gV f (a::l)=dh.gV (min f a) l:=rfl;rw[e];refine⟨by omega,fun x hx=> ?_⟩;rcases List.mem_cons.1 hx with rfl|hx
  ·omega
  ·exact h2 x hx
theorem Hz.uK(h:Hz h0 M)(hp:dS M):Hz h0 (eu M):=by
 unfold bW.eu;split;rotate_left
 ·exact h
 split;rotate_left
 ·exact h
 rename_i hlt;refine h.write (fun _ q hq=> ?_);show nZ M<=q.at';obtain⟨p,hpm,e1,e2⟩:=Kr (a:=M.st.pins) (b:=M.pins) (Eq.symm hp) hq;unfold nZ at hlt⊢;cases hm:jM M M.st.ms.length with
 |nil=>rw[hm]at hlt;exact absurd hlt (Int.lt_irrefl _)
 |cons m r=>
  rw[hm]at hlt;have e:dh.zU M.st.hz (m::r) M.pins=max M.st.hz (dh.gV (dh.gV m r-min (dh.gV m r) 2) (M.pins.map fun p=>p.at')):=rfl;rw[e]at hlt⊢;have h3:=(least_le (f:=dh.gV m r-min (dh.gV m r) 2) (l:=M.pins.map fun p=>p.at')).2 p.at' (List.mem_map.2 ⟨p,hpm,rfl⟩);omega
theorem Hz.iZ(h:Hz h0 M)(l:List Int):Hz h0 (iZ M l):=by
 induction l generalizing M with
 |nil=>exact h
 |cons a l ih=>exact ih (h.write (x:=dP a) (fun e=>by unfold dP nt at e;dsimp only at e;omega))
theorem Hz.tick(h:Hz h0 M)(hp:dS M)(hm:bC M k):Hz h0 (lU M):=by have h1:Hz h0 (kD M):=Hz.iZ (M:=ny M) (h.of rfl) _;have h2:Hz h0 (bG M):=h1.of rfl;have h3:Hz h0 (fQ M):=(h2.fF).uK ((dS.fF (M:=bG M) (hp.kD hm)));exact h3.of (IB _ _)
theorem Hz.act(h:Hz h0 M)(hp:dS M)(hm:bC M k)(a:fE):Hz h0 (jJ M a):=by
 unfold jJ;split
 ·exact h.deliver _ _
 split
 ·exact h.tick hp hm
 split
 ·refine h.of ?_;unfold ni;split<;>rfl
 split
 ·refine h.of ?_;unfold kN;split<;>rfl
 ·exact h
theorem adl{k':Nat}(hm:bC M k)(hp:dS M)(h:There T M.pins)(hd:sU T)(a:fE)(hm':bC (jJ M a) k'):There (iQ T (jJ M a) a) (jJ M a).pins:=by
 unfold jJ at hm'⊢;by_cases h1:0<=a.k/\a.k<=3
 ·rw[if_pos h1]at hm'⊢;exact QZ hm hp h hd a h1 hm'
 rw[if_neg h1]at hm'⊢;by_cases h2:a.k=4\/a.k=5
 ·rw[if_pos h2,WM];unfold iQ;rw[if_pos h2];exact h.dI
 rw[if_neg h2];have e:∀M2,iQ T M2 a=T:=fun M2=>by unfold iQ;rw[if_neg h2,if_pos (by omega)]
 rw[e];have hj:∀P,P=M.pins->There T P:=fun P e=>by rw[e];exact h
 split
 ·refine hj _ ?_;unfold ni;split<;>rfl
 split
 ·refine hj _ ?_;unfold kN;split<;>rfl
 ·exact h
theorem aay{M2:MR}(hm:bC M k)(hp:dS M)(h:There T M.pins)(h2:M2.pins=M.st.pins):There T M2.pins:=h.mono (fun q hq=>by obtain⟨q',hq',e1,e2⟩:=Kr hp hq;have h8:=(hm.st.inv.pin q' hq').2.2.1;have h9:=(hm.pin q hq).2.1;exact⟨q',by rw[h2];exact hq',e1,e2,by omega⟩)
