/- Part 34 of what the proof needs. -/
import Derived.Test.YtfjdpbbgfjhnlaaGreatMK32
set_option linter.unusedSimpArgs false
set_option linter.unusedVariables false
set_option maxHeartbeats 32000000
set_option maxRecDepth 100000
namespace Go.Proofs.YtfjdpbbgfjhnlaaGreat
open Go.RowKit
set_option maxRecDepth 100000
namespace dH
open aO Vn Mst lV IM mY gZ
def dA(M:MR)(i:Int)(x:bF):MR:=
 if x.k=2 then (if 0<=i/\i<4 then kY M i x else M)
 else if x.k=15 then (if(0<=i/\i<4)\/(5<=i/\i<8)then jU M i else M)
 else if x.k=11\/x.k=12\/x.k=13 then (if 5<=i/\i<8 then kH M (i-5) x else M)
 else M
def fC(M:MR)(i:Int)(x:bF):MR:=if o9 x=0 then l7 (dA M i x)else M
def vW(M:MR)(i:Int)(x:bF):List Ah:=if o9 x=0 then (dA M i x).out else []
def xU(M:MR)(i:Nat):Bool:=bY M.st.ms i&&(inB (zq M.ns) i||M.lost i||M.leaves i)
def FB(M:MR)(i:Int):Int:=(M.iE i).getD 0
def FC(M:MR)(i:Nat):Bool:=M.joins i&&decide (0<FB M i)
def iQ(M:MR)(n:Nat):List Int:=((List.range n).filter (xU M)).map fun k:Nat=>(k:Int)
def jJ(M:MR)(n:Nat):List Mem:=((List.range n).filter (FC M)).map fun k:Nat=>((k:Int),FB M k)
def dQ(M:MR):aO.Next:=gU M.st.ep M.st.ms M.st.fl M.st.lg (iQ M 4) (jJ M 4) M.last
def mO(M:MR)(i:Nat):MR:=if bY M.st.ms i then {M with ns:=M.ns.set i 0,joins:=fun y=> !decide (y=(i:Int))&&M.joins y}else{M with leaves:=fun y=> !decide (y=(i:Int))&&M.leaves y}
def jq(M:MR)(n:Nat):MR:=(List.range n).foldl mO M
def kJ(d:aO.Next):aG:=kX d.ep d.l d.fl d.t
def cleared(M:MR):MR:={M with marks:=fun _=>none,lost:=fun _=>false}
def iy(M:MR):MR:=if(dQ M).e≠0 then M else if bu M.st (kJ (dQ M))≠0 then M else jq (cleared (writeM M (kJ (dQ M)))) 4
def jF(M:MR)(n:Nat):List Int:=(M.st.ms.take n).map fun m=>(M.marks m.1).getD 0
def known(M:MR)(n:Nat):Bool:=(M.st.ms.take n).all fun m=>(M.marks m.1).isSome
def pV(M:MR):Int:=dM.BU M.st.hz (jF M M.st.ms.length) M.pins
def fJ(M:MR):MR:=if known M M.st.ms.length=true then (if M.st.hz<pV M then writeM M (dV (pV M))else M)else M
def nI(M:MR):MR:={M with pins:=dM.fK M.pins}
def jG(M:MR)(l:List Int):MR:=l.foldl (fun M id=>writeM M (gG id)) M
def mg(M:MR):MR:=jG (nI M) (dM.iG M.pins)
def bK(M:MR):MR:={mg M with ns:=(mg M).ns.map bump,tk:=bump (mg M).tk}
def fP(M:MR):MR:=fJ (iy (bK M))
def gJ(M:MR)(l:List Mem):MR:=l.foldl (fun M m=>jU M m.1) M
def sV(M:MR):MR:=gJ (fP M) (fP M).st.ms
def oD(M:MR):MR:=l7 (sV M)
section
variable{M:MR}{k c:Nat}
theorem bD.done(h:bD M k):bD (l7 M) k:=⟨h.st,h.p3,h.pin,h.ug,h.last,h.marks,h.iE,h.cnt⟩
theorem bD.dA{w:World}(h:bD M k)(i:Int)(x:bF)(hx:I64 x.aU)(hok:iZ w x):bD (dA M i x) (k+1):=by
 unfold dH.dA
 split
 ·split
  ·exact h.kY i x hx hok ‹_›
  ·exact h.mono (Nat.le_succ _)
 split
 ·split
  ·exact(h.send _ _).mono (Nat.le_succ _)
  ·exact h.mono (Nat.le_succ _)
 split
 ·split
  ·exact(h.kH _ x hok).mono (Nat.le_succ _)
  ·exact h.mono (Nat.le_succ _)
 ·exact h.mono (Nat.le_succ _)
theorem bD.deliver{w:World}(h:bD M k)(i:Int)(x:bF)(hx:I64 x.aU)(hok:iZ w x):bD (fC M i x) (k+1):=by
 unfold fC
 split
 ·exact(h.dA i x hx hok).done
 ·exact h.mono (Nat.le_succ _)
theorem Vh(M:MR)(i:Nat):iQ M (i+1)=if xU M i=true then iQ M i++[(i:Int)]else iQ M i:=by
 unfold iQ
 rw[List.range_succ,List.filter_append,List.map_append]
 by_cases h:xU M i=true
 ·rw[if_pos h,List.filter_cons,if_pos h];rfl
 ·rw[if_neg h,List.filter_cons,if_neg h];simp
theorem Vj(M:MR)(i:Nat):jJ M (i+1)=if FC M i=true then jJ M i++[((i:Int),FB M i)]else jJ M i:=by
 unfold jJ
 rw[List.range_succ,List.filter_append,List.map_append]
 by_cases h:FC M i=true
 ·rw[if_pos h,List.filter_cons,if_pos h];rfl
 ·rw[if_neg h,List.filter_cons,if_neg h];simp
theorem Me(M:MR)(i:Nat):(iQ M i).length<=i:=by
 unfold iQ
 rw[List.length_map]
 exact Nat.le_trans (List.length_filter_le _ _) (by simp)
theorem MB(M:MR)(i:Nat):(jJ M i).length<=i:=by
 unfold jJ
 rw[List.length_map]
 exact Nat.le_trans (List.length_filter_le _ _) (by simp)
theorem wB(M:MR)(i:Nat):jq M (i+1)=mO (jq M i) i:=by unfold jq;rw[List.range_succ,List.foldl_append];rfl
theorem Zf(M:MR)(i:Nat):(mO M i).st=M.st:=by unfold mO;split<;>rfl
theorem zQ(M:MR)(n:Nat):(jq M n).st=M.st:=by
 induction n with
 |zero=>rfl
 |succ n ih=>rw[wB,Zf,ih]
theorem Rw(M:MR)(i:Nat):(mO M i).out=M.out/\(mO M i).pins=M.pins/\(mO M i).lg=M.lg/\(mO M i).cnt=M.cnt:=by unfold mO;split<;>exact⟨rfl,rfl,rfl,rfl⟩
theorem wC(M:MR)(n:Nat):(jq M n).out=M.out/\(jq M n).pins=M.pins/\(jq M n).lg=M.lg/\(jq M n).cnt=M.cnt:=by
 induction n with
 |zero=>exact⟨rfl,rfl,rfl,rfl⟩
 |succ n ih=>
  obtain⟨a,b,c,d⟩:=Rw (jq M n) n
  rw[wB,a,b,c,d];exact ih
theorem bD.mO(h:bD M k)(i:Nat):bD (mO M i) k:=by
 unfold dH.mO
 split
 ·exact⟨h.st,h.p3,h.pin,zo.heard h.ug _,h.last,h.marks,h.iE,h.cnt⟩
 ·exact⟨h.st,h.p3,h.pin,h.ug,h.last,h.marks,h.iE,h.cnt⟩
theorem bD.jq(h:bD M k)(n:Nat):bD (jq M n) k:=by
 induction n with
 |zero=>exact h
 |succ n ih=>rw[wB];exact ih.mO n
theorem J5{d:aO.Next}(h:0<=d.fl/\d.fl<=aT):NU (kJ d):=vU h
theorem Hl(h:bD M k):0<=(dQ M).fl/\(dQ M).fl<=aT:=by
 have h1:=h.st.su.fl
 have h2:=h.last
 have h0:(0:Int)<=aT:=by decide
 by_cases h3:(dQ M).e=0
 ·have h4:=AB h3
  have h5:(dQ M).fl=o8 M.st.fl M.last:=h4.flv
  rw[h5]
  unfold o8
  split<;>omega
 ·have h4:=aab h3
  have h5:(dQ M).fl=0:=h4.2.2.1
  rw[h5]
  exact⟨Int.le_refl _,h0⟩
theorem bD.cleared(h:bD M k):bD (cleared M) k:=⟨h.st,h.p3,h.pin,h.ug,h.last,(fun i v hv=>by cases hv),h.iE,h.cnt⟩
theorem bD.iy(h:bD M k):bD (iy M) k:=by
 unfold dH.iy
 split
 ·exact h
 split
 ·exact h
 ·exact((h.write (J5 (Hl h))).cleared).jq 4
theorem Zg(M:MR):(iy M).out=M.out:=by
 unfold iy
 split
 ·rfl
 split
 ·rfl
 ·rw[(wC _ _).1];exact qw _ _
theorem abV{hz:Int}{l:List Int}{p:List aY}(h1:0<=hz/\hz<=aT)(h2:∀x∈l,0<=x/\x<=aT)(h3:∀x∈p,0<=x.at'/\x.at'<=aT):0<=dM.BU hz l p/\dM.BU hz l p<=aT:=by
 cases l with
 |nil=>exact h1
 |cons m r=>
  have a1:=dM.Eg (f:=m) (l:=r) (h2 m (List.mem_cons_self ..)) (fun x hx=>h2 x (List.mem_cons_of_mem _ hx))
  have a2:=dM.Eg (f:=dM.jm m r-min (dM.jm m r) 2) (l:=p.map fun p=>p.at') (by omega) (fun x hx=>by
   obtain⟨y,hy,rfl⟩:=List.mem_map.1 hx
   exact h3 y hy)
  have e:dM.BU hz (m::r) p=max hz (dM.jm (dM.jm m r-min (dM.jm m r) 2) (p.map fun p=>p.at')):=rfl
  rw[e]
  omega
theorem MC(h:bD M k)(n:Nat):∀x∈jF M n,0<=x/\x<=aT:=by
 intro x hx
 unfold jF at hx
 obtain⟨m,hm,rfl⟩:=List.mem_map.1 hx
 cases hv:M.marks m.1 with
 |none=>exact⟨Int.le_refl _,by decide⟩
 |some v=>exact h.marks _ v hv
theorem Vk(M:MR)(n:Nat):(jF M n).length=(M.st.ms.take n).length:=List.length_map _
theorem PL{h:Int}(hh:0<=h/\h<=aT):NU (dV h):=⟨hh,by unfold dV zn;dsimp only;unfold aT;decide,by unfold dV zn;dsimp only;unfold aT;decide,by unfold dV zn;dsimp only;unfold aT;decide⟩
theorem EW(h:bD M k):0<=pV M/\pV M<=aT:=abV h.st.su.hz (MC h _) (fun p hp=>(h.pin p hp).2.2)
theorem bD.FD(h:bD M k):bD (fJ M) k:=by
 unfold dH.fJ
 split
 ·split
  ·exact h.write (PL (EW h))
  ·exact h
 ·exact h
theorem PN(M:MR):(fJ M).out=M.out:=by
 unfold fJ
 split
 ·split
  ·exact qw _ _
  ·rfl
 ·rfl
theorem Vl{l:List aY}{p:aY}(h:p∈dM.fK l):∃q∈l,1<q.left/\p=⟨q.id,q.at',q.left-1⟩:=by
 unfold dM.fK at h
 obtain⟨q,hq,rfl⟩:=List.mem_map.1 h
 have:=List.mem_filter.1 hq
 exact⟨q,this.1,of_decide_eq_true this.2,rfl⟩
theorem bD.nI(h:bD M k):bD (nI M) k:=by
 refine h.abO (Nat.le_trans (dM.Io _) h.p3) (fun p hp=> ?_)
 obtain⟨q,hq,h1,rfl⟩:=Vl hp
 have:=h.pin q hq
 exact⟨by dsimp only;omega,by dsimp only;omega,this.2.2⟩
theorem bD.jG(h:bD M k)(l:List Int):bD (jG M l) k:=by
 induction l generalizing M with
 |nil=>exact h
 |cons a l ih=>exact ih (h.write (qx _ _ _ (by decide) (by decide)))
theorem Vm(M:MR)(l:List Int):(jG M l).out=M.out:=by
 induction l generalizing M with
 |nil=>rfl
 |cons a l ih=>exact(ih (writeM M (gG a))).trans (qw _ _)
theorem Rx(M:MR)(l:List Int)(a:Int):jG M (l++[a])=writeM (jG M l) (gG a):=by unfold jG;rw[List.foldl_append];rfl
theorem Vo(M:MR)(l:List Mem)(m:Mem):gJ M (l++[m])=jU (gJ M l) m.1:=by unfold gJ;rw[List.foldl_append];rfl
theorem bD.mg(h:bD M k):bD (mg M) k:=(h.nI).jG _
theorem zo.bumped{ns:List Int}{t:Int}(h:zo ns t):zo (ns.map bump) (bump t):=
 ⟨by rw[List.length_map];exact h.len,(fun n hn=>by
  obtain⟨y,hy,rfl⟩:=List.mem_map.1 hn
  exact Sj (h.ns y hy)),Sj h.t⟩
theorem bD.bK(h:bD M k):bD (bK M) k:=by
 have h1:=h.mg
 exact⟨h1.st,h1.p3,h1.pin,zo.bumped h1.ug,h1.last,h1.marks,h1.iE,h1.cnt⟩
theorem bD.fP(h:bD M k):bD (fP M) k:=((h.bK).iy).FD
theorem bD.gJ(h:bD M k)(l:List Mem):bD (gJ M l) k:=by
 induction l generalizing M with
 |nil=>exact h
 |cons a l ih=>exact ih (h.send _ _)
theorem FH(M:MR)(to:Int)(x:bF):(iU M to x).st=M.st:=by unfold iU;split<;>rfl
theorem PO(M:MR)(l:List Mem):(gJ M l).st=M.st:=by
 induction l generalizing M with
 |nil=>rfl
 |cons a l ih=>exact(ih (jU M a.1)).trans (FH _ _ _)
theorem Zh(M:MR)(l:List Mem):(gJ M l).out.length<=M.out.length+l.length:=by
 induction l generalizing M with
 |nil=>exact Nat.le_refl _
 |cons a l ih=>
  have h1:=ih (jU M a.1)
  have h2:(jU M a.1).out.length<=M.out.length+1:=abJ _ _ _
  have h3:gJ M (a::l)=gJ (jU M a.1) l:=rfl
  rw[h3,List.length_cons]
  omega
theorem bD.sV(h:bD M k):bD (sV M) k:=(h.fP).gJ _
theorem Zi(M:MR):(fP M).out=M.out:=by
 unfold fP
 rw[PN,Zg]
 exact Vm (nI M) _
theorem bD.tick(h:bD M k):bD (oD M) k:=(h.sV).done
end
end dH
namespace dH
open aO Vn Mst lV IM mY gZ
structure eG(a b:bQ):Prop where
 ep:b.ep=a.ep
 ms:b.ms=a.ms
 fl:b.fl=a.fl
 lg:b.lg=a.lg
structure Jd(a b:bQ):Prop where
 ep:b.ep=a.ep
 ms:b.ms=a.ms
 fl:b.fl=a.fl
 lg:a.lg.length<=b.lg.length
structure Turn(a b:bQ):Prop where
 ep:b.ep=a.ep+1
 fl:a.fl<=b.fl
 tr:∀m∈b.ms,m.1∈b.lg->m∈a.ms/\m.1∈a.lg
def rC(a b:bQ):Prop:=Jd a b\/Turn a b
section
variable{a b c:bQ}{M:MR}{k:Nat}
theorem eG.refl(a:bQ):eG a a:=⟨rfl,rfl,rfl,rfl⟩
theorem eG.of_eq(h:b=a):eG a b:=by subst h;exact eG.refl _
theorem eG.trans(h:eG a b)(k:eG b c):eG a c:=⟨k.ep.trans h.ep,k.ms.trans h.ms,k.fl.trans h.fl,k.lg.trans h.lg⟩
theorem eG.rel(h:eG a b):rC a b:=.inl ⟨h.ep,h.ms,h.fl,by rw[h.lg];exact Nat.le_refl _⟩
theorem eG.agr(h:eG a b)(k:rC b c):rC a c:=by
 rcases k with k|k
 ·exact .inl ⟨k.ep.trans h.ep,k.ms.trans h.ms,k.fl.trans h.fl,by rw[<-h.lg];exact k.lg⟩
 ·exact .inr ⟨by rw[k.ep,h.ep],by rw[<-h.fl];exact k.fl,fun m hm hl=>by have:=k.tr m hm hl;rw[h.ms,h.lg]at this;exact this⟩
theorem rC.thenS(h:rC a b)(k:eG b c):rC a c:=by
 rcases h with h|h
 ·exact .inl ⟨k.ep.trans h.ep,k.ms.trans h.ms,k.fl.trans h.fl,by rw[k.lg];exact h.lg⟩
 ·exact .inr ⟨k.ep.trans h.ep,by rw[k.fl];exact h.fl,fun m hm hl=>h.tr m (by rw[<-k.ms];exact hm) (by rw[<-k.lg];exact hl)⟩
theorem Vp(s:bQ)(x:aG)(h1:x.k≠1)(h5:x.k≠5):eG s (aZ s x):=by
 unfold aZ
 split
 ·exact eG.refl _
 split
 ·exact⟨rfl,rfl,rfl,rfl⟩
 split
 ·unfold jW
  split<;>exact⟨rfl,rfl,rfl,rfl⟩
 split
 ·exact⟨rfl,rfl,rfl,rfl⟩
 ·unfold kF
  split
  ·exact⟨rfl,rfl,rfl,rfl⟩
  split
  ·exact⟨rfl,rfl,rfl,rfl⟩
  ·exact⟨rfl,rfl,rfl,rfl⟩
theorem Ry(s:bQ)(x:aG)(h5:x.k=5):Jd s (aZ s x):=by
 unfold aZ
 split
 ·exact⟨rfl,rfl,rfl,Nat.le_refl _⟩
 rw[if_neg (show¬x.k=1 by omega)]
 refine⟨rfl,rfl,rfl,?_⟩
 show s.lg.length<=(kE s.lg x.n).length
 unfold kE
 split
 ·exact Nat.le_refl _
 ·rw[Ed,List.length_append];omega
theorem ni(M:MR)(x:aG):(writeM M x).st=aZ M.st x:=by
 unfold writeM
 split
 ·rfl
 ·rename_i h
  unfold aZ
  rw[if_pos h]
theorem rU(M:MR)(x:aG)(h1:x.k≠1)(h5:x.k≠5):eG M.st (writeM M x).st:=by
 rw[ni];exact Vp _ _ h1 h5
theorem Rz(M:MR)(x:aG)(h5:x.k=5):Jd M.st (writeM M x).st:=by
 rw[ni];exact Ry _ _ h5
theorem RD(M:MR)(l:List Int):eG M.st (jG M l).st:=by
 induction l generalizing M with
 |nil=>exact eG.refl _
 |cons x l ih=>exact(rU M (gG x) (by show(7:Int)≠1;decide) (by show(7:Int)≠5;decide)).trans (ih (writeM M (gG x)))
theorem Zj(h:bD M k):rC M.st (iy M).st:=by
 unfold iy
 split
 ·exact(eG.refl _).rel
 ·rename_i h0
  split
  ·exact(eG.refl _).rel
  ·rename_i h1
   rw[zQ]
   show rC M.st (writeM M (kJ (dQ M))).st
   rw[ni]
   have hi:=AB (Classical.not_not.1 h0)
   have e:aZ M.st (kJ (dQ M))={M.st with ep:=(dQ M).ep,ms:=(dQ M).l,fl:=(dQ M).fl,lg:=(dQ M).t}:=by
    unfold aZ
    rw[if_neg h1,if_pos (show(kJ (dQ M)).k=1 from rfl)]
    rfl
   rw[e]
   refine .inr ⟨hi.epv,hi.floor h.st.su.fl.2,fun m hm hl=> ?_⟩
   have:=hi.ade hm hl
   exact⟨this.1,this.2.1⟩
theorem DK(M:MR):eG M.st (fJ M).st:=by
 unfold fJ
 split
 ·split
  ·exact rU _ _ (by show(4:Int)≠1;decide) (by show(4:Int)≠5;decide)
  ·exact eG.refl _
 ·exact eG.refl _
theorem Zk(h:bD M k):rC M.st (oD M).st:=by
 have h1:eG M.st (bK M).st:=RD (nI M) _
 have h2:=Zj h.bK
 have h3:=DK (iy (bK M))
 have h4:(oD M).st=(fP M).st:=PO _ _
 exact(h1.agr h2).thenS (h3.trans (eG.of_eq h4))
theorem Zl(M:MR)(at':Int):eG M.st (mW M at').st:=by
 unfold mW
 split
 ·exact eG.refl _
 split
 ·exact eG.refl _
 ·exact rU M _ (by show(6:Int)≠1;decide) (by show(6:Int)≠5;decide)
theorem RE(M:MR)(x:bF):eG M.st (fB M x).st:=by
 unfold fB
 split
 ·exact Zl _ _
 split
 ·exact eG.refl _
 split
 ·exact rU M _ (by show(6:Int)≠1;decide) (by show(6:Int)≠5;decide)
 ·exact rU M _ (by show(7:Int)≠1;decide) (by show(7:Int)≠5;decide)
theorem Zm(M:MR)(cl:Int)(x:bF):eG M.st (ig M cl x).st:=by
 unfold ig
 split
 ·exact(RE M x).trans (rU _ _ (by show(8:Int)≠1;decide) (by show(8:Int)≠5;decide))
 ·exact eG.refl _
theorem Zn(M:MR)(cl:Int)(x:bF):eG M.st (kH M cl x).st:=by
 unfold kH
 split
 ·exact eG.refl _
 ·rw[FH];exact Zm M cl x
theorem Je(M:MR)(id:Int)(x:bF):Jd M.st (iM M id x).st:=by
 have hr:∀s:bQ,Jd s s:=fun s=>⟨rfl,rfl,rfl,Nat.le_refl _⟩
 unfold iM
 split
 ·split
  ·exact hr _
  split
  ·exact Rz (jV M id x) _ rfl
  ·exact hr _
 ·split<;>exact hr _
theorem Zo(M:MR)(id:Int)(x:bF):rC M.st (kY M id x).st:=by
 unfold kY
 split
 ·have e:(jU (iM M id x) id).st=(iM M id x).st:=FH _ _ _
  rw[e];exact .inl (Je M id x)
 ·exact .inl (Je M id x)
theorem PS(M:MR)(i:Int)(x:bF):rC M.st (dA M i x).st:=by
 unfold dA
 split
 ·split
  ·exact Zo _ _ _
  ·exact(eG.refl _).rel
 split
 ·split
  ·exact(eG.of_eq (FH _ _ _)).rel
  ·exact(eG.refl _).rel
 split
 ·split
  ·exact(Zn _ _ _).rel
  ·exact(eG.refl _).rel
 ·exact(eG.refl _).rel
theorem PT(M:MR)(i:Int)(x:bF):rC M.st (fC M i x).st:=by
 unfold fC
 split
 ·exact PS M i x
 ·exact(eG.refl _).rel
theorem Zp(M:MR)(i:Int):rC M.st (oP M i).st:=by unfold oP;split<;>exact(eG.refl _).rel
theorem Vq(M:MR)(i:Int):rC M.st (mJ M i).st:=by unfold mJ;split<;>exact(eG.refl _).rel
theorem rC.ep(h:rC a b)(h1:1<=a.ep):1<=b.ep:=by
 rcases h with h|h
 ·rw[h.ep];exact h1
 ·rw[h.ep];omega
theorem abW{ep fl:Int}{l:List Mem}(h:aO.chk ep l=0):bu st0 (kX ep l fl (ids l))=0:=by
 obtain⟨h1,h2,h3,h4⟩:=iT h
 have hl:mV (ids l)=0:=zL.2 ⟨(fun x hx=>by obtain⟨m,hm,rfl⟩:=AA.1 hx;exact h4.id m hm),NH h4.nd⟩
 have hn:aQ (kX ep l fl (ids l))=0:=by
  unfold aQ
  rw[if_pos (show(kX ep l fl (ids l)).k=1 from rfl)]
  show(if chk ep l=0 then mV (ids l)else chk ep l)=0
  rw[if_pos h,hl]
 unfold bu
 rw[if_neg (by rw[hn];exact fun z=>z rfl),if_pos (show(kX ep l fl (ids l)).k=1 from rfl)]
 show lW st0 (kX ep l fl (ids l))=0
 unfold lW
 have e1:¬((kX ep l fl (ids l)).ep<=st0.ep):=by show¬(ep<=0);omega
 rw[if_neg e1]
 have e2:((kX ep l fl (ids l)).lg.any fun id=> !bY (kX ep l fl (ids l)).ms id)=false:=by
  show((ids l).any fun id=> !bY l id)=false
  rw[List.any_eq_false]
  intro x hx
  rw[LH.2 (AA.1 hx)]
  decide
 rw[e2,if_neg (by decide)]
 have e3:inB (kX ep l fl (ids l)).lg (nH (kX ep l fl (ids l)).ms)=true:=by
  show inB (ids l) (nH l)=true
  obtain⟨m,r,rfl⟩:=List.exists_cons_of_ne_nil h2
  unfold inB
  rw[List.contains_iff_mem]
  exact AA.2 ⟨m,List.mem_cons_self ..,rfl⟩
 rw[e3,if_neg (by decide)]
theorem J6{ep fl:Int}{l:List Mem}(h:aO.chk ep l=0):(tH ep l fl).st={st0 with ep:=ep,ms:=l,fl:=fl,lg:=ids l}:=by
 show(writeM (mk0 nG) (kX ep l fl (ids l))).st=_
 rw[ni]
 show aZ st0 (kX ep l fl (ids l))=_
 unfold aZ
 rw[if_neg (by rw[abW h];exact fun z=>z rfl),if_pos (show(kX ep l fl (ids l)).k=1 from rfl)]
 rfl
theorem Zq:bD (mk0 nG) 0:=⟨EN,by decide,(fun p hp=>by cases hp),⟨rfl,(fun n hn=>by revert n;decide),by decide⟩,by decide,(fun i v hv=>by cases hv),(fun i v hv=>by cases hv),by decide⟩
theorem adN{ep fl:Int}{l:List Mem}(hf:0<=fl/\fl<=aT):bD (tH ep l fl) 0:=(Zq.write (vU hf)).done
end
end dH
end Go.Proofs.YtfjdpbbgfjhnlaaGreat
namespace Go.Proofs.YtfjdpbbgfjhnlaaGreat
open Go.RowKit Go.WideShapes Go.ChangeShapes
set_option maxRecDepth 100000
namespace MO
open aO Ops xE gZ
structure C5(w:World)(x:bF):Prop where
 m:Src w 2 x.mA x.ms.length (aP x.ms)
 mc:x.ms.length<=x.mc
 o:Src w 3 x.oA x.ops.length (cells x.ops)
 e:Src w 4 x.eA x.es.length (yu x.es)
 eo:∀y∈x.es,Src w 3 y.A y.ops.length (cells y.ops)/\0<=y.ts/\y.ts<=aT
 s:Src w 1 x.sA x.ss.length (xq x.ss)
 so:∀y∈x.ss,0<=y/\y<=aT
 p:Src w 2 x.pA x.ps.length (Ops.aS x.ps)
 t:(0<=x.at'/\x.at'<=aT)/\(0<=x.last/\x.last<=aT)/\(0<=x.AO/\x.AO<=aT)
 i:I64 x.aU
 lens:x.ms.length<=maxLen/\x.ops.length<=maxLen/\x.es.length<=maxLen/\x.ss.length<=maxLen/\x.ps.length<=maxLen
theorem C5.kept{w w':World}{x:bF}(h:C5 w x)(hk:Kept aj w w'):C5 w' x:=
 ⟨h.m.kept hk (fun _ _ z=>z),h.mc,h.o.kept hk (fun _ _ z=>z),h.e.kept hk (fun _ _ z=>z),(fun y hy=>⟨(h.eo y hy).1.kept hk (fun _ _ z=>z),(h.eo y hy).2⟩),h.s.kept hk (fun _ _ z=>z),h.so,h.p.kept hk (fun _ _ z=>z),h.t,h.i,h.lens⟩
theorem C5.ok{w:World}{x:bF}(h:C5 w x)(h1:x.ms.length<=20)(h3:x.es.length<=20)(h4:x.ss.length<=20)(h5:x.ps.length<=40):iZ w x:=
 ⟨h.m,h.mc,by omega,h.o,h.e,h.eo,by omega,h.s,by omega,h.so,h.p,by omega,h.t⟩
theorem qy{H:Type}{enc:TypeId×Value->H}{P:Program}{w:World}{base:Nat}{spare:Nat->Bool}{held:Bool}{t:TypeId}{fs:Array Field}{fuel:Nat}{cs:List Value}{x:DataW H×List MemPlace}
  (ht:P.underlying t=some (.struct fs)) (h:DataW.trod enc P w base spare held fuel t cs=some x):
  cs.length=P.cellsOf t/\∃n,∀(i:Nat) (f:Field),fs[i]? =some f->∃y,DataW.trod enc P w base spare held n f.type ((cs.drop f.offset).take (P.cellsOf f.type))=some y:=by
 obtain⟨xs,n,_,rfl,hl,hlen,hf⟩:=DataW.trod_struct ht h
 refine⟨hl,n,fun i f hi=> ?_⟩
 have h1:=hf i f hi
 have h2:i<xs.length:=by rw[hlen];exact(Array.getElem?_eq_some_iff.1 hi).1
 exact⟨xs[i],h1.trans (List.getElem?_eq_getElem h2)⟩
section
variable{H:Type}{enc:TypeId×Value->H}{W:World}{v:Value}{d:DataW H}{ps:List MemPlace}{r:Reach}{b0:Nat}
theorem J7{x:Int}(h:(Lit.int .u64 x).wf=true):0<=x/\x<=aT:=by
 unfold aT
 simpa [Lit.wf,IntKind.min,IntKind.max,IntKind.signed,IntKind.bits]using h
theorem tJ{t e:TypeId}{fuel:Nat}{c0:Value}{y:DataW H×List MemPlace}(ht:Tryz.prog.underlying t=some (.slice e))(h:DataW.trod enc Tryz.prog W 0 (fun _=>true) true fuel t [c0]=some y):
  (∃A n c,c0=.slice A n c)/\DataW.Trod enc Tryz.prog W 0 (fun _=>true) true t c0 y.1 y.2:=by
 have hv1:∃A n c,c0=.slice A n c:=by
  rcases Deep.open_slice ht h with⟨e,_⟩|⟨a,len,cap,_,_,_,_,e,_⟩
  ·simp at e;exact⟨_,_,_,e⟩
  ·simp at e;exact⟨_,_,_,e⟩
 refine⟨hv1,?_⟩
 obtain⟨A,k',c,rfl⟩:=hv1
 exact⟨fuel,h⟩
theorem Tz(hv:∃A n c,v=.slice A n c)(h:DataW.Trod enc Tryz.prog W 0 (fun _=>true) true 22 v d ps):
  ∃(A:Option Addr) (c:Nat) (l:List Mem),v=.slice A l.length c/\l.length<=c/\c<=maxLen/\Src W 2 A l.length (aP l)/\(∀m∈l,I64 m.1):=by
 obtain⟨A,c,l,h1,h2,h3,h4,h5,_⟩:=tK (α:=Mem) Fa (fun m=>I64 m.1) 2 Tryz.underlying22 (by kernel_rfl) (by decide) (fun _=>rfl)
  (fun fuel cs y hy=>by
   obtain⟨hl,n,hf⟩:=qy Tryz.underlying65 hy
   have hC:Tryz.prog.cellsOf 65=2:=by kernel_rfl
   rw[hC]at hl
   match cs,hl with
   |[c0,c1],_=>
    have e3:Tryz.prog.cellsOf 3=1:=by kernel_rfl
    obtain⟨_,h0⟩:=hf 0 _ rfl
    obtain⟨_,h1⟩:=hf 1 _ rfl
    obtain⟨x0,hx0,_,m0⟩:=DataW.trod_int Tryz.underlying3 h0
    obtain⟨x1,hx1,_,_⟩:=DataW.trod_int Tryz.underlying3 h1
    simp[e3]at hx0 hx1
    subst hx0
    subst hx1
    exact⟨(x0,x1),rfl,m0⟩) h hv
 exact⟨A,c,l,h1,h2,h3,h4,h5⟩
theorem Zr(hv:∃A n c,v=.slice A n c)(h:DataW.Trod enc Tryz.prog W 0 (fun _=>true) true 38 v d ps):
  ∃(A:Option Addr) (c:Nat) (l:List uk),v=.slice A l.length c/\l.length<=c/\c<=maxLen/\Src W 3 A l.length (Ops.cells l):=by
 have _:Inhabited uk:=⟨⟨⟨#[]⟩,⟨#[]⟩,false⟩⟩
 obtain⟨A,c,l,h1,h2,h3,h4,h5,_⟩:=tK (α:=uk) Ops.cell (fun o=>True) 3 Tryz.underlying38 (by kernel_rfl) (by decide) (fun _=>rfl)
  (fun fuel cs y hy=>by
   obtain⟨hl,n,hf⟩:=qy Tryz.underlying301 hy
   have hC:Tryz.prog.cellsOf 301=3:=by kernel_rfl
   rw[hC]at hl
   match cs,hl with
   |[c0,c1,c2],_=>
    have e9:Tryz.prog.cellsOf 9=1:=by kernel_rfl
    have e4:Tryz.prog.cellsOf 4=1:=by kernel_rfl
    obtain⟨_,h0⟩:=hf 0 _ rfl
    obtain⟨_,h1⟩:=hf 1 _ rfl
    obtain⟨_,h2⟩:=hf 2 _ rfl
    obtain⟨x0,hx0,_,m0⟩:=DataW.trod_string Tryz.underlying9 h0
    obtain⟨x1,hx1,_,m1⟩:=DataW.trod_string Tryz.underlying9 h1
    obtain⟨x2,hx2,_⟩:=DataW.trod_bool Tryz.underlying4 h2
    simp[e9]at hx0 hx1
    simp[e9,e4]at hx2
    subst hx0
    subst hx1
    subst hx2
    exact⟨⟨x0,x1,x2⟩,rfl,trivial⟩) h hv
 exact⟨A,c,l,h1,h2,h3,h4⟩
theorem abX(hv:∃A n c,v=.slice A n c)(h:DataW.Trod enc Tryz.prog W 0 (fun _=>true) true 43 v d ps):
  ∃(A:Option Addr) (c:Nat) (l:List lU),v=.slice A l.length c/\l.length<=c/\c<=maxLen/\Src W 2 A l.length (Ops.aS l):=by
 have _:Inhabited lU:=⟨⟨⟨#[]⟩,⟨#[]⟩⟩⟩
 obtain⟨A,c,l,h1,h2,h3,h4,h5,_⟩:=tK (α:=lU) Ops.qI (fun o=>True) 2 Tryz.underlying43 (by kernel_rfl) (by decide) (fun _=>rfl)
  (fun fuel cs y hy=>by
   obtain⟨hl,n,hf⟩:=qy Tryz.underlying304 hy
   have hC:Tryz.prog.cellsOf 304=2:=by kernel_rfl
   rw[hC]at hl
   match cs,hl with
   |[c0,c1],_=>
    have e9:Tryz.prog.cellsOf 9=1:=by kernel_rfl
    obtain⟨_,h0⟩:=hf 0 _ rfl
    obtain⟨_,h1⟩:=hf 1 _ rfl
    obtain⟨x0,hx0,_,m0⟩:=DataW.trod_string Tryz.underlying9 h0
    obtain⟨x1,hx1,_,m1⟩:=DataW.trod_string Tryz.underlying9 h1
    simp[e9]at hx0 hx1
    subst hx0
    subst hx1
    exact⟨⟨x0,x1⟩,rfl,trivial⟩) h hv
 exact⟨A,c,l,h1,h2,h3,h4⟩
theorem adO(hv:∃A n c,v=.slice A n c)(h:DataW.Trod enc Tryz.prog W 0 (fun _=>true) true 42 v d ps):
  ∃(A:Option Addr) (c:Nat) (l:List Int),v=.slice A l.length c/\l.length<=c/\c<=maxLen/\Src W 1 A l.length (xq l)/\(∀x∈l,0<=x/\x<=aT):=by
 obtain⟨A,c,l,h1,h2,h3,h4,h5,_⟩:=tK (α:=Int) (fun x=>[.int .u64 x]) (fun x=>0<=x/\x<=aT) 1 Tryz.underlying42 (by kernel_rfl) (by decide) (fun _=>rfl)
  (fun fuel cs y hy=>by
   obtain⟨x,hx,_,hw⟩:=DataW.trod_int Tryz.underlying23 hy
   exact⟨x,hx,J7 hw⟩) h hv
 have hf:∀l:List Int,l.flatMap (fun x=>[Value.int .u64 x])=xq l:=by
  intro l
  induction l with
  |nil=>rfl
  |cons a l ih=>rw[List.flatMap_cons,ih];rfl
 rw[hf]at h4
 exact⟨A,c,l,h1,h2,h3,h4,h5⟩
theorem adP(hv:∃A n c,v=.slice A n c)(h:DataW.Trod enc Tryz.prog W 0 (fun _=>true) true 41 v d ps):
  ∃(A:Option Addr) (c:Nat) (l:List kZ),v=.slice A l.length c/\l.length<=c/\c<=maxLen/\Src W 4 A l.length (yu l)/\(∀y∈l,Src W 3 y.A y.ops.length (Ops.cells y.ops)/\0<=y.ts/\y.ts<=aT):=by
 have _:Inhabited kZ:=⟨⟨0,0,none,0,[],0⟩⟩
 obtain⟨A,c,l,h1,h2,h3,h4,h5,_⟩:=tK (α:=kZ) MP (fun y=>Src W 3 y.A y.ops.length (Ops.cells y.ops)/\0<=y.ts/\y.ts<=aT) 4 Tryz.underlying41 (by kernel_rfl) (by decide) (fun _=>rfl)
  (fun fuel cs y hy=>by
   obtain⟨hl,n,hf⟩:=qy Tryz.underlying81 hy
   have hC:Tryz.prog.cellsOf 81=4:=by kernel_rfl
   rw[hC]at hl
   match cs,hl with
   |[c0,c1,c2,c3],_=>
    have eB:Tryz.prog.cellsOf 40=3:=by kernel_rfl
    have e3:Tryz.prog.cellsOf 3=1:=by kernel_rfl
    have eO:Tryz.prog.cellsOf 38=1:=by kernel_rfl
    have eU:Tryz.prog.cellsOf 23=1:=by kernel_rfl
    obtain⟨_,h0⟩:=hf 0 _ rfl
    obtain⟨_,h1⟩:=hf 1 _ rfl
    obtain⟨x3,hx3,_,m3⟩:=DataW.trod_int Tryz.underlying23 h1
    simp[eB]at h0
    simp[eU]at hx3
    obtain⟨_,n2,hg⟩:=qy Tryz.underlying40 h0
    obtain⟨_,g0⟩:=hg 0 _ rfl
    obtain⟨_,g1⟩:=hg 1 _ rfl
    obtain⟨_,g2⟩:=hg 2 _ rfl
    obtain⟨x0,hx0,_,_⟩:=DataW.trod_int Tryz.underlying3 g0
    obtain⟨x1,hx1,_,_⟩:=DataW.trod_int Tryz.underlying3 g1
    simp[e3]at hx0 hx1
    simp[eO]at g2
    subst hx0
    subst hx1
    subst hx3
    obtain⟨v1,t1⟩:=tJ Tryz.underlying38 g2
    obtain⟨oA,oc,ops,rfl,_,_,q⟩:=Zr v1 t1
    exact⟨⟨x0,x1,oA,oc,ops,x3⟩,rfl,q,J7 m3⟩) h hv
 exact⟨A,c,l,h1,h2,h3,h4,h5⟩
theorem Zs(fuel:Nat)(cs:List Value)(y:DataW H×List MemPlace)(hy:DataW.trod enc Tryz.prog W 0 (fun _=>true) true fuel 45 cs=some y):∃a,cs=aI a/\C5 W a:=by
 obtain⟨hl,n,hf⟩:=qy Tryz.underlying45 hy
 have hC:Tryz.prog.cellsOf 45=22:=by kernel_rfl
 rw[hC]at hl
 match cs,hl with
 |[c0,c1,c2,c3,c4,c5,c6,c7,c8,c9,c10,c11,c12,c13,c14,c15,c16,c17,c18,c19,c20,c21],_=>
  have e3:Tryz.prog.cellsOf 3=1:=by kernel_rfl
  have e4:Tryz.prog.cellsOf 4=1:=by kernel_rfl
  have e9:Tryz.prog.cellsOf 9=1:=by kernel_rfl
  have eU:Tryz.prog.cellsOf 23=1:=by kernel_rfl
  have eC:Tryz.prog.cellsOf 25=3:=by kernel_rfl
  have eM:Tryz.prog.cellsOf 22=1:=by kernel_rfl
  have eB:Tryz.prog.cellsOf 40=3:=by kernel_rfl
  have eO:Tryz.prog.cellsOf 38=1:=by kernel_rfl
  have eN:Tryz.prog.cellsOf 32=1:=by kernel_rfl
  have eE:Tryz.prog.cellsOf 41=1:=by kernel_rfl
  have eS:Tryz.prog.cellsOf 42=1:=by kernel_rfl
  have eP:Tryz.prog.cellsOf 43=1:=by kernel_rfl
  obtain⟨_,h0⟩:=hf 0 _ rfl
  obtain⟨_,h1⟩:=hf 1 _ rfl
  obtain⟨_,h2⟩:=hf 2 _ rfl
  obtain⟨_,h3⟩:=hf 3 _ rfl
  obtain⟨_,h4⟩:=hf 4 _ rfl
  obtain⟨_,h5⟩:=hf 5 _ rfl
  obtain⟨_,h6⟩:=hf 6 _ rfl
  obtain⟨_,h7⟩:=hf 7 _ rfl
  obtain⟨_,h8⟩:=hf 8 _ rfl
  obtain⟨_,h9⟩:=hf 9 _ rfl
  obtain⟨_,h10⟩:=hf 10 _ rfl
  obtain⟨_,h11⟩:=hf 11 _ rfl
  obtain⟨_,h12⟩:=hf 12 _ rfl
  obtain⟨_,h13⟩:=hf 13 _ rfl
  obtain⟨_,h14⟩:=hf 14 _ rfl
  obtain⟨_,h15⟩:=hf 15 _ rfl
  obtain⟨_,h16⟩:=hf 16 _ rfl
  obtain⟨_,h17⟩:=hf 17 _ rfl
  obtain⟨x0,hx0,_,_⟩:=DataW.trod_int Tryz.underlying3 h0
  obtain⟨x1,hx1,_,_⟩:=DataW.trod_int Tryz.underlying3 h1
  obtain⟨x2,hx2,_,_⟩:=DataW.trod_int Tryz.underlying3 h2
  obtain⟨x3,hx3,_,m3⟩:=DataW.trod_int Tryz.underlying3 h3
  obtain⟨x4,hx4,_⟩:=DataW.trod_bool Tryz.underlying4 h4
  obtain⟨x5,hx5,_,m5⟩:=DataW.trod_int Tryz.underlying23 h5
  obtain⟨x6,hx6,_,m6⟩:=DataW.trod_int Tryz.underlying23 h6
  obtain⟨x7,hx7,_,_⟩:=DataW.trod_int Tryz.underlying3 h7
  obtain⟨x8,RZ,_,_⟩:=DataW.trod_int Tryz.underlying3 h8
  obtain⟨x9,hx9,_,_⟩:=DataW.trod_int Tryz.underlying3 h9
  obtain⟨x10,TV,_,_⟩:=DataW.trod_int Tryz.underlying32 h10
  obtain⟨x11,afj,_,_⟩:=DataW.trod_string Tryz.underlying9 h11
  obtain⟨x12,afk,_,_⟩:=DataW.trod_string Tryz.underlying9 h12
  simp[e3]at hx0 hx1 hx2 hx3 hx7 RZ hx9
  simp[e4]at hx4
  simp[eU]at hx5 hx6
  simp[eN]at TV
  simp[e9]at afj afk
  simp[eC]at h13
  simp[eB]at h14
  simp[eE]at h15
  simp[eS]at h16
  simp[eP]at h17
  obtain⟨_,n2,hg⟩:=qy Tryz.underlying25 h13
  obtain⟨_,g0⟩:=hg 0 _ rfl
  obtain⟨_,g1⟩:=hg 1 _ rfl
  obtain⟨_,g2⟩:=hg 2 _ rfl
  obtain⟨x13,afl,_,_⟩:=DataW.trod_int Tryz.underlying3 g0
  obtain⟨x15,afm,_,m15⟩:=DataW.trod_int Tryz.underlying23 g2
  simp[e3]at afl
  simp[eU]at afm
  simp[eM]at g1
  obtain⟨_,n3,hh⟩:=qy Tryz.underlying40 h14
  obtain⟨_,k0⟩:=hh 0 _ rfl
  obtain⟨_,k1⟩:=hh 1 _ rfl
  obtain⟨_,k2⟩:=hh 2 _ rfl
  obtain⟨x16,hx16,_,_⟩:=DataW.trod_int Tryz.underlying3 k0
  obtain⟨x17,afn,_,_⟩:=DataW.trod_int Tryz.underlying3 k1
  simp[e3]at hx16 afn
  simp[eO]at k2
  subst hx0 hx1 hx2 hx3 hx4 hx5 hx6 hx7 RZ hx9 TV afj afk afl afm hx16 afn
  obtain⟨v14,t14⟩:=tJ Tryz.underlying22 g1
  obtain⟨v18,t18⟩:=tJ Tryz.underlying38 k2
  obtain⟨v19,t19⟩:=tJ Tryz.underlying41 h15
  obtain⟨v20,t20⟩:=tJ Tryz.underlying42 h16
  obtain⟨v21,t21⟩:=tJ Tryz.underlying43 h17
  obtain⟨mA,mc,ms,rfl,q1,q2,q3,_⟩:=Tz v14 t14
  obtain⟨oA,oc,ops,rfl,q4,q5,q6⟩:=Zr v18 t18
  obtain⟨eA,ec,es,rfl,q7,q8,q9,q10⟩:=adP v19 t19
  obtain⟨sA,sc,ss,rfl,q11,q12,q13,q14⟩:=adO v20 t20
  obtain⟨pA,pc,ps,rfl,q15,q16,q17⟩:=abX v21 t21
  exact⟨⟨x0,x1,x2,x3,x4,x5,x6,x7,x8,x9,x10,x11,x12,x13,mA,mc,ms,x15,x16,x17,oA,oc,ops,eA,ec,es,sA,sc,ss,pA,pc,ps⟩,rfl,q3,q1,q6,q9,q10,q13,q14,q17,⟨J7 m5,J7 m6,J7 m15⟩,m3,Nat.le_trans q1 q2,Nat.le_trans q4 q5,Nat.le_trans q7 q8,Nat.le_trans q11 q12,Nat.le_trans q15 q16⟩
end
end MO
namespace MO
open aO Ops xE gZ
structure jX where
 k:Int
 n:Int
 x:bF
def oW(a:jX):List Value:=.int .i64 a.k::.int .i64 a.n::aI a.x
def yZ(l:List jX):List Value:=l.flatMap oW
def C6(w:World)(a:jX):Prop:=C5 w a.x/\I64 a.n
theorem C6.kept{w w':World}{a:jX}(h:C6 w a)(hk:Kept aj w w'):C6 w' a:=⟨h.1.kept hk,h.2⟩
theorem ME{w:World}{A:Option Addr}{m:Nat}{l:List jX}(h:Src w 24 A m (yZ l))(hm:0<m)(i:Nat)(x:jX)(hx:l[i]? =some x):
  ∃ad,A=some ad/\ad.block<w.heap.size/\∀j u,(oW x)[j]? =some u->w.cell? ((ad.add (i*24)).add j)=some u:=by
 obtain⟨ad,rfl,had,hcell⟩:=h.2 hm
 refine⟨ad,rfl,had,fun j u hu=> ?_⟩
 have hj:j<24:=(List.getElem?_eq_some_iff.1 hu).1
 rw[add_add]
 refine hcell _ _ ?_
 unfold yZ
 rw[flat_get oW 24 (by decide) (fun _=>rfl),show(i*24+j)/24=i by omega,show(i*24+j)%24=j by omega,hx]
 exact hu
section
variable{H:Type}{enc:TypeId×Value->H}{W:World}{v:Value}{d:DataW H}{ps:List MemPlace}{r:Reach}{b0:Nat}
theorem Zt(fuel:Nat)(cs:List Value)(y:DataW H×List MemPlace)(hy:DataW.trod enc Tryz.prog W 0 (fun _=>true) true fuel 47 cs=some y):∃a,cs=oW a/\C6 W a:=by
 obtain⟨hl,n,hf⟩:=qy Tryz.underlying47 hy
 have hC:Tryz.prog.cellsOf 47=24:=by kernel_rfl
 rw[hC]at hl
 have e3:Tryz.prog.cellsOf 3=1:=by kernel_rfl
 have eX:Tryz.prog.cellsOf 45=22:=by kernel_rfl
 match cs,hl with
 |c0::c1::r,hl=>
  have hr:r.length=22:=by simpa using hl
  obtain⟨_,h0⟩:=hf 0 _ rfl
  obtain⟨_,h1⟩:=hf 1 _ rfl
  obtain⟨z2,h2⟩:=hf 2 _ rfl
  obtain⟨x0,hx0,_,_⟩:=DataW.trod_int Tryz.underlying3 h0
  obtain⟨x1,hx1,_,m1⟩:=DataW.trod_int Tryz.underlying3 h1
  simp[e3]at hx0 hx1
  have h2':DataW.trod enc Tryz.prog W 0 (fun _=>true) true n 45 (r.take (Tryz.prog.cellsOf 45))=some z2:=h2
  rw[eX,List.take_of_length_le (by omega)]at h2'
  subst hx0 hx1
  obtain⟨x,hx,hg⟩:=Zs _ _ _ h2'
  exact⟨⟨x0,x1,x⟩,by rw[hx];rfl,hg,m1⟩
theorem Zu(hv:Value.okWide Tryz.prog W r b0 26 v)(h:DataW.Trod enc Tryz.prog W 0 (fun _=>true) true 26 v d ps):
  ∃(A:Option Addr) (c:Nat) (l:List jX),v=.slice A l.length c/\l.length<=c/\c<=maxLen/\Src W 24 A l.length (yZ l)/\(∀x∈l,C6 W x):=by
 have _:Inhabited jX:=⟨⟨0,0,⟨0,0,0,0,false,0,0,0,0,0,0,⟨#[]⟩,⟨#[]⟩,0,none,0,[],0,0,0,none,0,[],none,0,[],none,0,[],none,0,[]⟩⟩⟩
 obtain⟨A,c,l,h1,h2,h3,h4,h5,_⟩:=tK (α:=jX) oW (C6 W) 24 Tryz.underlying26 (by kernel_rfl) (by decide) (fun _=>rfl) Zt h (okWide_slice Tryz.underlying26 hv)
 exact⟨A,c,l,h1,h2,h3,h4,h5⟩
theorem Vr(hv:Value.okWide Tryz.prog W r b0 25 v)(h:DataW.Trod enc Tryz.prog W 0 (fun _=>true) true 25 v d ps):
  ∃(ep fl:Int) (A:Option Addr) (c:Nat) (l:List aO.Mem),v=aO.lq ep A l.length c fl/\l.length<=c/\c<=maxLen/\Src W 2 A l.length (aO.aP l)/\(∀m∈l,aO.I64 m.1)/\(0<=fl/\fl<=aO.aT):=by
 obtain⟨v0,v1,v2,y0,y1,y2,n,rfl,_,_,h0,h1,h2⟩:=Joins.open_agg3 Tryz.underlying25 (by kernel_rfl) (by kernel_rfl) hv h
 obtain⟨x0,hx0,_,_⟩:=DataW.trod_int Tryz.underlying3 h0
 obtain⟨x2,hx2,_,m2⟩:=DataW.trod_int Tryz.underlying23 h2
 simp at hx0 hx2
 subst hx0
 subst hx2
 obtain⟨hv1,t1⟩:=tJ Tryz.underlying22 h1
 obtain⟨A,c,l,rfl,q1,q2,q3,q4⟩:=Tz hv1 t1
 exact⟨x0,x2,A,c,l,rfl,q1,q2,q3,q4,J7 m2⟩
end
end MO
end Go.Proofs.YtfjdpbbgfjhnlaaGreat
namespace Go.Proofs.YtfjdpbbgfjhnlaaGreat
open Go.RowKit
set_option maxRecDepth 100000
namespace dH
open aO Vn Mst lV IM mY gZ MO
def stA:bQ:={st0 with ep:=1,ms:=[(0,1),(1,1)],fl:=0,lg:=[0,1]}
def kK:bF:=⟨2,1,0,1,false,0,0,0,0,0,0,⟨#[]⟩,⟨#[]⟩,0,none,0,[],0,0,0,none,0,[],none,0,[],none,0,[],none,0,[]⟩
structure MF(M:MR)(j:Nat):Prop where
 st:M.st=stA
 ns:M.ns=[(j:Int),if j=0 then 0 else 1,j,j]
 pins:M.pins=[]
 joins:∀i,M.joins i=false
 leaves:∀i,M.leaves i=false
 lost:∀i,M.lost i=false
 last:M.last=0
 mark:M.marks 0=none
 out:M.out=[]
theorem ag9:o9 kK=0:=by decide
theorem MF.deliver{M:MR}{j:Nat}(h:MF M j):fC M 1 kK=l7 (jV M 1 kK):=by
 unfold fC
 rw[if_pos ag9]
 have e1:dA M 1 kK=kY M 1 kK:=rfl
 rw[e1]
 have e2:iM M 1 kK=jV M 1 kK:=by
  unfold iM
  rw[h.st,if_pos (by decide),if_neg (by decide),if_neg (by decide)]
 unfold kY
 rw[h.st,if_neg (by decide),e2]
structure wX(M:MR)(j:Nat):Prop where
 st:M.st=stA
 ns:M.ns=[(j:Int),0,j,j]
 pins:M.pins=[]
 joins:∀i,M.joins i=false
 leaves:∀i,M.leaves i=false
 lost:∀i,M.lost i=false
 last:M.last=0
 mark:M.marks 0=none
 out:M.out=[]
theorem MF.d{M:MR}{j:Nat}(h:MF M j):wX (fC M 1 kK) j:=by
 rw[h.deliver]
 refine⟨h.st,?_,h.pins,h.joins,h.leaves,h.lost,?_,?_,rfl⟩
 ·show M.ns.set 1 0=_
  rw[h.ns];rfl
 ·show max M.last 0=0
  rw[h.last];rfl
 ·show uG M.marks 1 (some 0) 0=none
  unfold uG
  rw[if_neg (by decide)]
  exact h.mark
theorem wX.mg{M:MR}{j:Nat}(h:wX M j):mg M=M:=by
 unfold dH.mg
 have e0:dM.iG M.pins=[]:=by rw[h.pins];rfl
 have e1:nI M=M:=by
  unfold nI
  have:dM.fK M.pins=M.pins:=by rw[h.pins];rfl
  rw[this]
 rw[e0,e1]
 rfl
theorem wX.ns2{M:MR}{j:Nat}(h:wX M j)(hj:j<=100):(bK M).ns=[(j:Int)+1,1,(j:Int)+1,(j:Int)+1]:=by
 unfold bK
 rw[h.mg,h.ns]
 have hb:bump (j:Int)=(j:Int)+1:=by unfold bump;rw[if_neg (by omega)]
 simp[hb]
 rfl
theorem wX.gone{M:MR}{j:Nat}(h:wX M j)(hj:j<5):iQ (bK M) 4=[]/\jJ (bK M) 4=[]:=by
 have hl:zq (bK M).ns=[]:=by
  rw[h.ns2 (by omega)]
  have:j=0\/j=1\/j=2\/j=3\/j=4:=by omega
  rcases this with rfl|rfl|rfl|rfl|rfl<;>decide
 have h1:(bK M).lost=M.lost/\(bK M).leaves=M.leaves/\(bK M).joins=M.joins:=by unfold bK;rw[h.mg];exact⟨rfl,rfl,rfl⟩
 constructor
 ·unfold iQ
  rw[List.map_eq_nil_iff,List.filter_eq_nil_iff]
  intro i _
  unfold xU
  rw[hl,h1.1,h1.2.1,h.lost,h.leaves]
  simp[inB]
 ·unfold jJ
  rw[List.map_eq_nil_iff,List.filter_eq_nil_iff]
  intro i _
  unfold FC
  rw[h1.2.2,h.joins]
  simp
theorem wX.st2{M:MR}{j:Nat}(h:wX M j):(bK M).st=stA/\(bK M).last=0/\(bK M).marks 0=none/\(bK M).out=[]/\(bK M).pins=[]:=by
 unfold bK
 rw[h.mg]
 exact⟨h.st,h.last,h.mark,h.out,h.pins⟩
theorem wX.next{M:MR}{j:Nat}(h:wX M j)(hj:j<5):iy (bK M)=bK M:=by
 unfold iy
 have hp:(dQ (bK M)).e=20:=by
  unfold dQ
  rw[(h.gone hj).1,(h.gone hj).2,h.st2.1,h.st2.2.1]
  decide
 rw[if_pos (by rw[hp];decide)]
theorem wX.hor{M:MR}{j:Nat}(h:wX M j):fJ (bK M)=bK M:=by
 unfold fJ
 have hk:known (bK M) (bK M).st.ms.length=false:=by
  unfold known
  rw[h.st2.1]
  show(([(0,1),(1,1)]:List Mem).all fun m=>((bK M).marks m.1).isSome)=false
  simp only[List.all_cons,h.st2.2.2.1]
  rfl
 rw[hk,if_neg (by decide)]
theorem Vs(M:MR)(l:List Mem):(gJ M l).st=M.st/\(gJ M l).ns=M.ns/\(gJ M l).pins=M.pins/\(gJ M l).joins=M.joins/\(gJ M l).leaves=M.leaves/\(gJ M l).lost=M.lost/\(gJ M l).last=M.last/\(gJ M l).marks=M.marks:=by
 induction l generalizing M with
 |nil=>exact⟨rfl,rfl,rfl,rfl,rfl,rfl,rfl,rfl⟩
 |cons a l ih=>
  have hs:∀x,(iU M a.1 x).st=M.st/\(iU M a.1 x).ns=M.ns/\(iU M a.1 x).pins=M.pins/\(iU M a.1 x).joins=M.joins/\(iU M a.1 x).leaves=M.leaves/\(iU M a.1 x).lost=M.lost/\(iU M a.1 x).last=M.last/\(iU M a.1 x).marks=M.marks:=fun x=>by
   unfold iU;split<;>exact⟨rfl,rfl,rfl,rfl,rfl,rfl,rfl,rfl⟩
  obtain⟨a1,a2,a3,a4,a5,a6,a7,a8⟩:=ih (jU M a.1)
  obtain⟨b1,b2,b3,b4,b5,b6,b7,b8⟩:=hs (vS M.st none 0)
  exact⟨a1.trans b1,a2.trans b2,a3.trans b3,a4.trans b4,a5.trans b5,a6.trans b6,a7.trans b7,a8.trans b8⟩
theorem wX.tick{M:MR}{j:Nat}(h:wX M j)(hj:j<5):MF (oD M) (j+1):=by
 have e3:fP M=bK M:=by unfold fP;rw[h.next hj,h.hor]
 have ht:=Vs (bK M) (bK M).st.ms
 have e4:sV M=gJ (bK M) (bK M).st.ms:=by unfold sV;rw[e3]
 have e5:oD M=l7 (gJ (bK M) (bK M).st.ms):=by unfold oD;rw[e4]
 rw[e5]
 obtain⟨a1,a2,a3,a4,a5,a6,a7,a8⟩:=ht
 have h1:(bK M).lost=M.lost/\(bK M).leaves=M.leaves/\(bK M).joins=M.joins:=by unfold bK;rw[h.mg];exact⟨rfl,rfl,rfl⟩
 refine⟨a1.trans h.st2.1,?_,a3.trans h.st2.2.2.2.2,fun i=> ?_,fun i=> ?_,fun i=> ?_,a7.trans h.st2.2.1,?_,rfl⟩
 ·show(gJ (bK M) (bK M).st.ms).ns=_
  rw[a2,h.ns2 (by omega),if_neg (Nat.succ_ne_zero j)]
  simp
 ·show(gJ (bK M) (bK M).st.ms).joins i=false
  rw[a4,h1.2.2];exact h.joins i
 ·show(gJ (bK M) (bK M).st.ms).leaves i=false
  rw[a5,h1.2.1];exact h.leaves i
 ·show(gJ (bK M) (bK M).st.ms).lost i=false
  rw[a6,h1.1];exact h.lost i
 ·show(gJ (bK M) (bK M).st.ms).marks 0=none
  rw[a8];exact h.st2.2.2.1
theorem ag':ids [(1,1)]=[1]:=by unfold ids;simp
theorem wX.ags{M:MR}(h:wX M 5):(oD M).st.ep=2/\(oD M).st.ms=[(1,1)]:=by
 have h1:(bK M).lost=M.lost/\(bK M).leaves=M.leaves/\(bK M).joins=M.joins:=by unfold bK;rw[h.mg];exact⟨rfl,rfl,rfl⟩
 have hl:zq (bK M).ns=[0,2,3]:=by rw[h.ns2 (by omega)];decide
 have hg:iQ (bK M) 4=[0]:=by
  have hp:∀i:Nat,xU (bK M) i=(bY stA.ms i&&inB [0,2,3] i):=fun i=>by
   unfold xU
   rw[hl,h1.1,h1.2.1,h.lost,h.leaves,h.st2.1]
   simp
  unfold iQ
  rw[show xU (bK M)=fun i:Nat=>(bY stA.ms i&&inB [0,2,3] i)from funext hp]
  decide
 have hj:jJ (bK M) 4=[]:=by
  unfold jJ
  rw[List.map_eq_nil_iff,List.filter_eq_nil_iff]
  intro i _
  unfold FC
  rw[h1.2.2,h.joins]
  simp
 have hf:firsts stA.ms stA.lg [0]=[(1,1)]:=by decide
 have hP:dQ (bK M)=⟨0,2,[(1,1)],1,[1]⟩:=by
  unfold dQ gU
  rw[hg,hj,h.st2.1,h.st2.2.1,hf,ag']
  have a1:¬(chk stA.ep stA.ms≠0):=by decide
  have a2:¬(([(1,1)]:List Mem)=[]):=by decide
  have a3:allOf stA.ms stA.lg [0] []=[(1,1)]:=by decide
  rw[if_neg a1,if_neg a2,a3,if_neg (by decide),if_neg (by decide)]
  rfl
 have hE:bu (bK M).st (kJ (dQ (bK M)))=0:=by
  rw[hP,h.st2.1]
  decide
 have hN:(iy (bK M)).st=aZ stA (kJ ⟨0,2,[(1,1)],1,[1]⟩):=by
  unfold iy
  rw[if_neg (by rw[hP];exact fun z=>z rfl),if_neg (by rw[hE];exact fun z=>z rfl),zQ]
  show(writeM (bK M) (kJ (dQ (bK M)))).st=_
  rw[ni,hP,h.st2.1]
 have hH:=DK (iy (bK M))
 have hS:(oD M).st=(fP M).st:=PO _ _
 have h3:(fP M).st=(fJ (iy (bK M))).st:=rfl
 rw[hS,h3]
 constructor
 ·rw[hH.ep,hN];decide
 ·rw[hH.ms,hN];decide
theorem aha:ids [(0,1),(1,1)]=[0,1]:=by
 rw[<-adb (l:=[(0,1),(1,1)]) (fun m hm=>by simp at hm;rcases hm with rfl|rfl<;>decide)]
 decide
theorem awA:MF (tH 1 [(0,1),(1,1)] 0) 0:=by
 have hs:=J6 (ep:=1) (fl:=0) (l:=[(0,1),(1,1)]) (by decide)
 rw[aha]at hs
 have hw:∀x:aG,(writeM (mk0 nG) x).ns=(mk0 nG).ns/\(writeM (mk0 nG) x).pins=[]/\(writeM (mk0 nG) x).joins=(mk0 nG).joins/\(writeM (mk0 nG) x).leaves=(mk0 nG).leaves/\(writeM (mk0 nG) x).lost=(mk0 nG).lost/\(writeM (mk0 nG) x).last=0/\(writeM (mk0 nG) x).marks=(mk0 nG).marks:=fun x=>by
  unfold writeM;split<;>exact⟨rfl,rfl,rfl,rfl,rfl,rfl,rfl⟩
 obtain⟨a1,a2,a3,a4,a5,a6,a7⟩:=hw (kX 1 [(0,1),(1,1)] 0 (ids [(0,1),(1,1)]))
 refine⟨hs,a1,a2,fun i=> ?_,fun i=> ?_,fun i=> ?_,a6,?_,rfl⟩
 ·show(writeM (mk0 nG) _).joins i=false
  rw[a3];rfl
 ·show(writeM (mk0 nG) _).leaves i=false
  rw[a4];rfl
 ·show(writeM (mk0 nG) _).lost i=false
  rw[a5];rfl
 ·show(writeM (mk0 nG) _).marks 0=none
  rw[a7];rfl
end dH
end Go.Proofs.YtfjdpbbgfjhnlaaGreat
