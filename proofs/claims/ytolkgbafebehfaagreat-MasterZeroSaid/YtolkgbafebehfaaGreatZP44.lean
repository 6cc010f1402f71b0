/- Part 45 of what the proof needs. -/
import Derived.Test.YtolkgbafebehfaaGreatZP43
set_option linter.unusedSimpArgs false
set_option linter.unusedVariables false
set_option maxHeartbeats 32000000
set_option maxRecDepth 100000
namespace Go.Proofs.YtolkgbafebehfaaGreat
open Go.RowKit
set_option maxRecDepth 100000
namespace dM
open aP Vn Mst lJ IM nG gX
def dF(M:MR)(i:Int)(x:bH):MR:=
 if x.k=2 then (if 0<=i/\i<4 then qK M i x else M)
 else if x.k=15 then (if(0<=i/\i<4)\/(5<=i/\i<8)then jB M i else M)
 else if x.k=11\/x.k=12\/x.k=13 then (if 5<=i/\i<8 then oq M (i-5) x else M)
 else M
def fO(M:MR)(i:Int)(x:bH):MR:=if ni x=0 then mX (dF M i x)else M
def tq(M:MR)(i:Int)(x:bH):List xY:=if ni x=0 then (dF M i x).out else []
def vJ(M:MR)(i:Nat):Bool:=dZ M.st.ms i&&(inB (xq M.ns) i||M.lost i||M.leaves i)
def Cf(M:MR)(i:Int):Int:=(M.iP i).getD 0
def Ci(M:MR)(i:Nat):Bool:=M.joins i&&decide (0<Cf M i)
def gW(M:MR)(n:Nat):List Int:=((List.range n).filter (vJ M)).map fun k:Nat=>(k:Int)
def jh(M:MR)(n:Nat):List Mem:=((List.range n).filter (Ci M)).map fun k:Nat=>((k:Int),Cf M k)
def dW(M:MR):aP.Next:=fH M.st.ep M.st.ms M.st.fl M.st.lg (gW M 4) (jh M 4) M.last
def lC(M:MR)(i:Nat):MR:=if dZ M.st.ms i then {M with ns:=M.ns.set i 0,joins:=fun y=> !decide (y=(i:Int))&&M.joins y}else{M with leaves:=fun y=> !decide (y=(i:Int))&&M.leaves y}
def jc(M:MR)(n:Nat):MR:=(List.range n).foldl lC M
def mJ(d:aP.Next):aN:=lG d.ep d.l d.fl d.t
def cleared(M:MR):MR:={M with marks:=fun _=>none,lost:=fun _=>false}
def jv(M:MR):MR:=if(dW M).e≠0 then M else if bF M.st (mJ (dW M))≠0 then M else jc (cleared (writeM M (mJ (dW M)))) 4
def jd(M:MR)(n:Nat):List Int:=(M.st.ms.take n).map fun m=>(M.marks m.1).getD 0
def known(M:MR)(n:Nat):Bool:=(M.st.ms.take n).all fun m=>(M.marks m.1).isSome
def nO(M:MR):Int:=eF.yZ M.st.hz (jd M M.st.ms.length) M.pins
def gB(M:MR):MR:=if known M M.st.ms.length=true then (if M.st.hz<nO M then writeM M (fP (nO M))else M)else M
def oU(M:MR):MR:={M with pins:=eF.iE M.pins}
def mM(M:MR)(l:List Int):MR:=l.foldl (fun M id=>writeM M (jr id)) M
def lM(M:MR):MR:=mM (oU M) (eF.jA M.pins)
def bD(M:MR):MR:={lM M with ns:=(lM M).ns.map bump,tk:=bump (lM M).tk}
def fD(M:MR):MR:=gB (jv (bD M))
def gK(M:MR)(l:List Mem):MR:=l.foldl (fun M m=>jB M m.1) M
def qL(M:MR):MR:=gK (fD M) (fD M).st.ms
def oV(M:MR):MR:=mX (qL M)
section
variable{M:MR}{k c:Nat}
theorem bQ.done(h:bQ M k):bQ (mX M) k:=⟨h.st,h.p3,h.pin,h.sF,h.last,h.marks,h.iP,h.cnt⟩
theorem bQ.dF{w:World}(h:bQ M k)(i:Int)(x:bH)(hx:I64 x.aV)(hok:iG w x):bQ (dF M i x) (k+1):=by
 unfold dM.dF
 split
 ·split
  ·exact h.qK i x hx hok ‹_›
  ·exact h.mono (Nat.le_succ _)
 split
 ·split
  ·exact(h.send _ _).mono (Nat.le_succ _)
  ·exact h.mono (Nat.le_succ _)
 split
 ·split
  ·exact(h.oq _ x hok).mono (Nat.le_succ _)
  ·exact h.mono (Nat.le_succ _)
 ·exact h.mono (Nat.le_succ _)
theorem bQ.deliver{w:World}(h:bQ M k)(i:Int)(x:bH)(hx:I64 x.aV)(hok:iG w x):bQ (fO M i x) (k+1):=by
 unfold fO
 split
 ·exact(h.dF i x hx hok).done
 ·exact h.mono (Nat.le_succ _)
theorem Qd(M:MR)(i:Nat):gW M (i+1)=if vJ M i=true then gW M i++[(i:Int)]else gW M i:=by
 unfold gW
 rw[List.range_succ,List.filter_append,List.map_append]
 by_cases h:vJ M i=true
 ·rw[if_pos h,List.filter_cons,if_pos h];rfl
 ·rw[if_neg h,List.filter_cons,if_neg h];simp
theorem Qe(M:MR)(i:Nat):jh M (i+1)=if Ci M i=true then jh M i++[((i:Int),Cf M i)]else jh M i:=by
 unfold jh
 rw[List.range_succ,List.filter_append,List.map_append]
 by_cases h:Ci M i=true
 ·rw[if_pos h,List.filter_cons,if_pos h];rfl
 ·rw[if_neg h,List.filter_cons,if_neg h];simp
theorem Hg(M:MR)(i:Nat):(gW M i).length<=i:=by
 unfold gW
 rw[List.length_map]
 exact Nat.le_trans (List.length_filter_le _ _) (by simp)
theorem Hl(M:MR)(i:Nat):(jh M i).length<=i:=by
 unfold jh
 rw[List.length_map]
 exact Nat.le_trans (List.length_filter_le _ _) (by simp)
theorem tN(M:MR)(i:Nat):jc M (i+1)=lC (jc M i) i:=by unfold jc;rw[List.range_succ,List.foldl_append];rfl
theorem UJ(M:MR)(i:Nat):(lC M i).st=M.st:=by unfold lC;split<;>rfl
theorem UK(M:MR)(n:Nat):(jc M n).st=M.st:=by
 induction n with
 |zero=>rfl
 |succ n ih=>rw[tN,UJ,ih]
theorem Nb(M:MR)(i:Nat):(lC M i).out=M.out/\(lC M i).pins=M.pins/\(lC M i).lg=M.lg/\(lC M i).cnt=M.cnt:=by unfold lC;split<;>exact⟨rfl,rfl,rfl,rfl⟩
theorem Di(M:MR)(n:Nat):(jc M n).out=M.out/\(jc M n).pins=M.pins/\(jc M n).lg=M.lg/\(jc M n).cnt=M.cnt:=by
 induction n with
 |zero=>exact⟨rfl,rfl,rfl,rfl⟩
 |succ n ih=>
  obtain⟨a,b,c,d⟩:=Nb (jc M n) n
  rw[tN,a,b,c,d];exact ih
theorem bQ.lC(h:bQ M k)(i:Nat):bQ (lC M i) k:=by
 unfold dM.lC
 split
 ·exact⟨h.st,h.p3,h.pin,xk.heard h.sF _,h.last,h.marks,h.iP,h.cnt⟩
 ·exact⟨h.st,h.p3,h.pin,h.sF,h.last,h.marks,h.iP,h.cnt⟩
theorem bQ.jc(h:bQ M k)(n:Nat):bQ (jc M n) k:=by
 induction n with
 |zero=>exact h
 |succ n ih=>rw[tN];exact ih.lC n
theorem Oa{d:aP.Next}(h:0<=d.fl/\d.fl<=aT):NU (mJ d):=yH h
theorem KN(h:bQ M k):0<=(dW M).fl/\(dW M).fl<=aT:=by
 have h1:=h.st.su.fl
 have h2:=h.last
 have h0:(0:Int)<=aT:=by decide
 by_cases h3:(dW M).e=0
 ·have h4:=BO h3
  have h5:(dW M).fl=kG M.st.fl M.last:=h4.flv
  rw[h5]
  unfold kG
  split<;>omega
 ·have h4:=Vz h3
  have h5:(dW M).fl=0:=h4.2.2.1
  rw[h5]
  exact⟨Int.le_refl _,h0⟩
theorem bQ.cleared(h:bQ M k):bQ (cleared M) k:=⟨h.st,h.p3,h.pin,h.sF,h.last,(fun i v hv=>by cases hv),h.iP,h.cnt⟩
theorem bQ.jv(h:bQ M k):bQ (jv M) k:=by
 unfold dM.jv
 split
 ·exact h
 split
 ·exact h
 ·exact((h.write (Oa (KN h))).cleared).jc 4
theorem UL(M:MR):(jv M).out=M.out:=by
 unfold jv
 split
 ·rfl
 split
 ·rfl
 ·rw[(Di _ _).1];exact oh _ _
theorem XK{hz:Int}{l:List Int}{p:List aZ}(h1:0<=hz/\hz<=aT)(h2:∀x∈l,0<=x/\x<=aT)(h3:∀x∈p,0<=x.at'/\x.at'<=aT):0<=eF.yZ hz l p/\eF.yZ hz l p<=aT:=by
 cases l with
 |nil=>exact h1
 |cons m r=>
  have a1:=eF.Az (f:=m) (l:=r) (h2 m (List.mem_cons_self ..)) (fun x hx=>h2 x (List.mem_cons_of_mem _ hx))
  have a2:=eF.Az (f:=eF.iO m r-min (eF.iO m r) 2) (l:=p.map fun p=>p.at') (by omega) (fun x hx=>by
   obtain⟨y,hy,rfl⟩:=List.mem_map.1 hx
   exact h3 y hy)
  have e:eF.yZ hz (m::r) p=max hz (eF.iO (eF.iO m r-min (eF.iO m r) 2) (p.map fun p=>p.at')):=rfl
  rw[e]
  omega
theorem Ho(h:bQ M k)(n:Nat):∀x∈jd M n,0<=x/\x<=aT:=by
 intro x hx
 unfold jd at hx
 obtain⟨m,hm,rfl⟩:=List.mem_map.1 hx
 cases hv:M.marks m.1 with
 |none=>exact⟨Int.le_refl _,by decide⟩
 |some v=>exact h.marks _ v hv
theorem Qg(M:MR)(n:Nat):(jd M n).length=(M.st.ms.take n).length:=List.length_map _
theorem UM{h:Int}(hh:0<=h/\h<=aT):NU (fP h):=⟨hh,by unfold fP zn;dsimp only;unfold aT;decide,by unfold fP zn;dsimp only;unfold aT;decide,by unfold fP zn;dsimp only;unfold aT;decide⟩
theorem Hq(h:bQ M k):0<=nO M/\nO M<=aT:=XK h.st.su.hz (Ho h _) (fun p hp=>(h.pin p hp).2.2)
theorem bQ.ZT(h:bQ M k):bQ (gB M) k:=by
 unfold dM.gB
 split
 ·split
  ·exact h.write (UM (Hq h))
  ·exact h
 ·exact h
theorem KO(M:MR):(gB M).out=M.out:=by
 unfold gB
 split
 ·split
  ·exact oh _ _
  ·rfl
 ·rfl
theorem Qh{l:List aZ}{p:aZ}(h:p∈eF.iE l):∃q∈l,1<q.left/\p=⟨q.id,q.at',q.left-1⟩:=by
 unfold eF.iE at h
 obtain⟨q,hq,rfl⟩:=List.mem_map.1 h
 have:=List.mem_filter.1 hq
 exact⟨q,this.1,of_decide_eq_true this.2,rfl⟩
theorem bQ.oU(h:bQ M k):bQ (oU M) k:=by
 refine h.XC (Nat.le_trans (eF.Ef _) h.p3) (fun p hp=> ?_)
 obtain⟨q,hq,h1,rfl⟩:=Qh hp
 have:=h.pin q hq
 exact⟨by dsimp only;omega,by dsimp only;omega,this.2.2⟩
theorem bQ.mM(h:bQ M k)(l:List Int):bQ (mM M l) k:=by
 induction l generalizing M with
 |nil=>exact h
 |cons a l ih=>exact ih (h.write (tK _ _ _ (by decide) (by decide)))
theorem Qi(M:MR)(l:List Int):(mM M l).out=M.out:=by
 induction l generalizing M with
 |nil=>rfl
 |cons a l ih=>exact(ih (writeM M (jr a))).trans (oh _ _)
theorem Nc(M:MR)(l:List Int)(a:Int):mM M (l++[a])=writeM (mM M l) (jr a):=by unfold mM;rw[List.foldl_append];rfl
theorem Qj(M:MR)(l:List Mem)(m:Mem):gK M (l++[m])=jB (gK M l) m.1:=by unfold gK;rw[List.foldl_append];rfl
theorem bQ.lM(h:bQ M k):bQ (lM M) k:=(h.oU).mM _
theorem xk.bumped{ns:List Int}{t:Int}(h:xk ns t):xk (ns.map bump) (bump t):=
 ⟨by rw[List.length_map];exact h.len,(fun n hn=>by
  obtain⟨y,hy,rfl⟩:=List.mem_map.1 hn
  exact Nw (h.ns y hy)),Nw h.t⟩
theorem bQ.bD(h:bQ M k):bQ (bD M) k:=by
 have h1:=h.lM
 exact⟨h1.st,h1.p3,h1.pin,xk.bumped h1.sF,h1.last,h1.marks,h1.iP,h1.cnt⟩
theorem bQ.fD(h:bQ M k):bQ (fD M) k:=((h.bD).jv).ZT
theorem bQ.gK(h:bQ M k)(l:List Mem):bQ (gK M l) k:=by
 induction l generalizing M with
 |nil=>exact h
 |cons a l ih=>exact ih (h.send _ _)
theorem ZU(M:MR)(to:Int)(x:bH):(jf M to x).st=M.st:=by unfold jf;split<;>rfl
theorem XL(M:MR)(l:List Mem):(gK M l).st=M.st:=by
 induction l generalizing M with
 |nil=>rfl
 |cons a l ih=>exact(ih (jB M a.1)).trans (ZU _ _ _)
theorem UN(M:MR)(l:List Mem):(gK M l).out.length<=M.out.length+l.length:=by
 induction l generalizing M with
 |nil=>exact Nat.le_refl _
 |cons a l ih=>
  have h1:=ih (jB M a.1)
  have h2:(jB M a.1).out.length<=M.out.length+1:=Xx _ _ _
  have h3:gK M (a::l)=gK (jB M a.1) l:=rfl
  rw[h3,List.length_cons]
  omega
theorem bQ.qL(h:bQ M k):bQ (qL M) k:=(h.fD).gK _
theorem UO(M:MR):(fD M).out=M.out:=by
 unfold fD
 rw[KO,UL]
 exact Qi (oU M) _
theorem bQ.tick(h:bQ M k):bQ (oV M) k:=(h.qL).done
end
end dM
namespace dM
open aP Vn Mst lJ IM nG gX
structure tV(a b:bV):Prop where
 ep:b.ep=a.ep
 ms:b.ms=a.ms
 fl:b.fl=a.fl
 lg:b.lg=a.lg
structure ab7(a b:bV):Prop where
 ep:b.ep=a.ep
 ms:b.ms=a.ms
 fl:b.fl=a.fl
 lg:a.lg.length<=b.lg.length
structure Turn(a b:bV):Prop where
 ep:b.ep=a.ep+1
 fl:a.fl<=b.fl
 tr:∀m∈b.ms,m.1∈b.lg->m∈a.ms/\m.1∈a.lg
def XM(a b:bV):Prop:=ab7 a b\/Turn a b
section
variable{a b c:bV}{M:MR}{k:Nat}
theorem tV.refl(a:bV):tV a a:=⟨rfl,rfl,rfl,rfl⟩
theorem tV.rel(h:tV a b):XM a b:=.inl ⟨h.ep,h.ms,h.fl,by rw[h.lg];exact Nat.le_refl _⟩
theorem Qk(s:bV)(x:aN)(h1:x.k≠1)(h5:x.k≠5):tV s (bG s x):=by
 unfold bG
 split
 ·exact tV.refl _
 split
 ·exact⟨rfl,rfl,rfl,rfl⟩
 split
 ·unfold kW
  split<;>exact⟨rfl,rfl,rfl,rfl⟩
 split
 ·exact⟨rfl,rfl,rfl,rfl⟩
 ·unfold pz
  split
  ·exact⟨rfl,rfl,rfl,rfl⟩
  split
  ·exact⟨rfl,rfl,rfl,rfl⟩
  ·exact⟨rfl,rfl,rfl,rfl⟩
theorem BH(M:MR)(x:aN):(writeM M x).st=bG M.st x:=by
 unfold writeM
 split
 ·rfl
 ·rename_i h
  unfold bG
  rw[if_pos h]
theorem Ql(M:MR)(x:aN)(h1:x.k≠1)(h5:x.k≠5):tV M.st (writeM M x).st:=by
 rw[BH];exact Qk _ _ h1 h5
theorem Ib(M:MR):tV M.st (gB M).st:=by
 unfold gB
 split
 ·split
  ·exact Ql _ _ (by show(4:Int)≠1;decide) (by show(4:Int)≠5;decide)
  ·exact tV.refl _
 ·exact tV.refl _
theorem XM.ep(h:XM a b)(h1:1<=a.ep):1<=b.ep:=by
 rcases h with h|h
 ·rw[h.ep];exact h1
 ·rw[h.ep];omega
theorem XN{ep fl:Int}{l:List Mem}(h:aP.chk ep l=0):bF st0 (lG ep l fl (ids l))=0:=by
 obtain⟨h1,h2,h3,h4⟩:=kH h
 have hl:nX (ids l)=0:=xG.2 ⟨(fun x hx=>by obtain⟨m,hm,rfl⟩:=BN.1 hx;exact h4.id m hm),IQ h4.nd⟩
 have hn:aY (lG ep l fl (ids l))=0:=by
  unfold aY
  rw[if_pos (show(lG ep l fl (ids l)).k=1 from rfl)]
  show(if chk ep l=0 then nX (ids l)else chk ep l)=0
  rw[if_pos h,hl]
 unfold bF
 rw[if_neg (by rw[hn];exact fun z=>z rfl),if_pos (show(lG ep l fl (ids l)).k=1 from rfl)]
 show lW st0 (lG ep l fl (ids l))=0
 unfold lW
 have e1:¬((lG ep l fl (ids l)).ep<=st0.ep):=by show¬(ep<=0);omega
 rw[if_neg e1]
 have e2:((lG ep l fl (ids l)).lg.any fun id=> !dZ (lG ep l fl (ids l)).ms id)=false:=by
  show((ids l).any fun id=> !dZ l id)=false
  rw[List.any_eq_false]
  intro x hx
  rw[GX.2 (BN.1 hx)]
  decide
 rw[e2,if_neg (by decide)]
 have e3:inB (lG ep l fl (ids l)).lg (lV (lG ep l fl (ids l)).ms)=true:=by
  show inB (ids l) (lV l)=true
  obtain⟨m,r,rfl⟩:=List.exists_cons_of_ne_nil h2
  unfold inB
  rw[List.contains_iff_mem]
  exact BN.2 ⟨m,List.mem_cons_self ..,rfl⟩
 rw[e3,if_neg (by decide)]
theorem ZV{ep fl:Int}{l:List Mem}(h:aP.chk ep l=0):(wO ep l fl).st={st0 with ep:=ep,ms:=l,fl:=fl,lg:=ids l}:=by
 show(writeM (mk0 mF) (lG ep l fl (ids l))).st=_
 rw[BH]
 show bG st0 (lG ep l fl (ids l))=_
 unfold bG
 rw[if_neg (by rw[XN h];exact fun z=>z rfl),if_pos (show(lG ep l fl (ids l)).k=1 from rfl)]
 rfl
theorem abm:bQ (mk0 mF) 0:=⟨KA,by decide,(fun p hp=>by cases hp),⟨rfl,(fun n hn=>by revert n;decide),by decide⟩,by decide,(fun i v hv=>by cases hv),(fun i v hv=>by cases hv),by decide⟩
theorem ZW{ep fl:Int}{l:List Mem}(hf:0<=fl/\fl<=aT):bQ (wO ep l fl) 0:=(abm.write (yH hf)).done
end
end dM
end Go.Proofs.YtolkgbafebehfaaGreat
namespace Go.Proofs.YtolkgbafebehfaaGreat
open Go.RowKit Go.WideShapes Go.ChangeShapes
set_option maxRecDepth 100000
namespace MO
open aP Ops zY gX
structure vK(w:World)(x:bH):Prop where
 m:Src w 2 x.mA x.ms.length (aS x.ms)
 mc:x.ms.length<=x.mc
 o:Src w 3 x.oA x.ops.length (cells x.ops)
 e:Src w 4 x.eA x.es.length (vU x.es)
 eo:∀y∈x.es,Src w 3 y.A y.ops.length (cells y.ops)/\0<=y.ts/\y.ts<=aT
 s:Src w 1 x.sA x.ss.length (uM x.ss)
 so:∀y∈x.ss,0<=y/\y<=aT
 p:Src w 2 x.pA x.ps.length (Ops.aK x.ps)
 t:(0<=x.at'/\x.at'<=aT)/\(0<=x.last/\x.last<=aT)/\(0<=x.yt/\x.yt<=aT)
 i:I64 x.aV
 lens:x.ms.length<=maxLen/\x.ops.length<=maxLen/\x.es.length<=maxLen/\x.ss.length<=maxLen/\x.ps.length<=maxLen
theorem vK.kept{w w':World}{x:bH}(h:vK w x)(hk:Kept aj w w'):vK w' x:=
 ⟨h.m.kept hk (fun _ _ z=>z),h.mc,h.o.kept hk (fun _ _ z=>z),h.e.kept hk (fun _ _ z=>z),(fun y hy=>⟨(h.eo y hy).1.kept hk (fun _ _ z=>z),(h.eo y hy).2⟩),h.s.kept hk (fun _ _ z=>z),h.so,h.p.kept hk (fun _ _ z=>z),h.t,h.i,h.lens⟩
theorem vK.ok{w:World}{x:bH}(h:vK w x)(h1:x.ms.length<=20)(h3:x.es.length<=20)(h4:x.ss.length<=20)(h5:x.ps.length<=40):iG w x:=
 ⟨h.m,h.mc,by omega,h.o,h.e,h.eo,by omega,h.s,by omega,h.so,h.p,by omega,h.t⟩
theorem pN{H:Type}{enc:TypeId×Value->H}{P:Program}{w:World}{base:Nat}{spare:Nat->Bool}{held:Bool}{t:TypeId}{fs:Array Field}{fuel:Nat}{cs:List Value}{x:DataW H×List MemPlace}
  (ht:P.underlying t=some (.struct fs)) (h:DataW.trod enc P w base spare held fuel t cs=some x):
  cs.length=P.cellsOf t/\∃n,∀(i:Nat) (f:Field),fs[i]? =some f->∃y,DataW.trod enc P w base spare held n f.type ((cs.drop f.offset).take (P.cellsOf f.type))=some y:=by
 obtain⟨xs,n,_,rfl,hl,hlen,hf⟩:=DataW.trod_struct ht h
 refine⟨hl,n,fun i f hi=> ?_⟩
 have h1:=hf i f hi
 have h2:i<xs.length:=by rw[hlen];exact(Array.getElem?_eq_some_iff.1 hi).1
 exact⟨xs[i],h1.trans (List.getElem?_eq_getElem h2)⟩
section
variable{H:Type}{enc:TypeId×Value->H}{W:World}{v:Value}{d:DataW H}{ps:List MemPlace}{r:Reach}{b0:Nat}
theorem KP{x:Int}(h:(Lit.int .u64 x).wf=true):0<=x/\x<=aT:=by
 unfold aT
 simpa [Lit.wf,IntKind.min,IntKind.max,IntKind.signed,IntKind.bits]using h
theorem tu{t e:TypeId}{fuel:Nat}{c0:Value}{y:DataW H×List MemPlace}(ht:Tryz.prog.underlying t=some (.slice e))(h:DataW.trod enc Tryz.prog W 0 (fun _=>true) true fuel t [c0]=some y):
  (∃A n c,c0=.slice A n c)/\DataW.Trod enc Tryz.prog W 0 (fun _=>true) true t c0 y.1 y.2:=by
 have hv1:∃A n c,c0=.slice A n c:=by
  rcases Deep.open_slice ht h with⟨e,_⟩|⟨a,len,cap,_,_,_,_,e,_⟩
  ·simp at e;exact⟨_,_,_,e⟩
  ·simp at e;exact⟨_,_,_,e⟩
 refine⟨hv1,?_⟩
 obtain⟨A,k',c,rfl⟩:=hv1
 exact⟨fuel,h⟩
theorem ZX(hv:∃A n c,v=.slice A n c)(h:DataW.Trod enc Tryz.prog W 0 (fun _=>true) true 22 v d ps):
  ∃(A:Option Addr) (c:Nat) (l:List Mem),v=.slice A l.length c/\l.length<=c/\c<=maxLen/\Src W 2 A l.length (aS l)/\(∀m∈l,I64 m.1):=by
 obtain⟨A,c,l,h1,h2,h3,h4,h5,_⟩:=ug (α:=Mem) BP (fun m=>I64 m.1) 2 Tryz.underlying22 (by kernel_rfl) (by decide) (fun _=>rfl)
  (fun fuel cs y hy=>by
   obtain⟨hl,n,hf⟩:=pN Tryz.underlying53 hy
   have hC:Tryz.prog.cellsOf 53=2:=by kernel_rfl
   rw[hC]at hl
   match cs,hl with
   |[c0,c1],_=>
    have e3:Tryz.prog.cellsOf 3=1:=by kernel_rfl
    obtain⟨_,h0⟩:=hf 0 _ rfl
    obtain⟨_,h1⟩:=hf 1 _ rfl
    obtain⟨x0,hx0,_,m0⟩:=DataW.trod_int Tryz.underlying3 h0
    obtain⟨x1,hx1,_,_⟩:=DataW.trod_int Tryz.underlying3 h1
    simp[e3]at hx0 hx1
    subst hx0
    subst hx1
    exact⟨(x0,x1),rfl,m0⟩) h hv
 exact⟨A,c,l,h1,h2,h3,h4,h5⟩
theorem UQ(hv:∃A n c,v=.slice A n c)(h:DataW.Trod enc Tryz.prog W 0 (fun _=>true) true 39 v d ps):
  ∃(A:Option Addr) (c:Nat) (l:List qX),v=.slice A l.length c/\l.length<=c/\c<=maxLen/\Src W 3 A l.length (Ops.cells l):=by
 have _:Inhabited qX:=⟨⟨⟨#[]⟩,⟨#[]⟩,false⟩⟩
 obtain⟨A,c,l,h1,h2,h3,h4,h5,_⟩:=ug (α:=qX) Ops.cell (fun o=>True) 3 Tryz.underlying39 (by kernel_rfl) (by decide) (fun _=>rfl)
  (fun fuel cs y hy=>by
   obtain⟨hl,n,hf⟩:=pN Tryz.underlying398 hy
   have hC:Tryz.prog.cellsOf 398=3:=by kernel_rfl
   rw[hC]at hl
   match cs,hl with
   |[c0,c1,c2],_=>
    have e9:Tryz.prog.cellsOf 9=1:=by kernel_rfl
    have e4:Tryz.prog.cellsOf 4=1:=by kernel_rfl
    obtain⟨_,h0⟩:=hf 0 _ rfl
    obtain⟨_,h1⟩:=hf 1 _ rfl
    obtain⟨_,h2⟩:=hf 2 _ rfl
    obtain⟨x0,hx0,_,m0⟩:=DataW.trod_string Tryz.underlying9 h0
    obtain⟨x1,hx1,_,m1⟩:=DataW.trod_string Tryz.underlying9 h1
    obtain⟨x2,hx2,_⟩:=DataW.trod_bool Tryz.underlying4 h2
    simp[e9]at hx0 hx1
    simp[e9,e4]at hx2
    subst hx0
    subst hx1
    subst hx2
    exact⟨⟨x0,x1,x2⟩,rfl,trivial⟩) h hv
 exact⟨A,c,l,h1,h2,h3,h4⟩
theorem XO(hv:∃A n c,v=.slice A n c)(h:DataW.Trod enc Tryz.prog W 0 (fun _=>true) true 44 v d ps):
  ∃(A:Option Addr) (c:Nat) (l:List kT),v=.slice A l.length c/\l.length<=c/\c<=maxLen/\Src W 2 A l.length (Ops.aK l):=by
 have _:Inhabited kT:=⟨⟨⟨#[]⟩,⟨#[]⟩⟩⟩
 obtain⟨A,c,l,h1,h2,h3,h4,h5,_⟩:=ug (α:=kT) Ops.oK (fun o=>True) 2 Tryz.underlying44 (by kernel_rfl) (by decide) (fun _=>rfl)
  (fun fuel cs y hy=>by
   obtain⟨hl,n,hf⟩:=pN Tryz.underlying401 hy
   have hC:Tryz.prog.cellsOf 401=2:=by kernel_rfl
   rw[hC]at hl
   match cs,hl with
   |[c0,c1],_=>
    have e9:Tryz.prog.cellsOf 9=1:=by kernel_rfl
    obtain⟨_,h0⟩:=hf 0 _ rfl
    obtain⟨_,h1⟩:=hf 1 _ rfl
    obtain⟨x0,hx0,_,m0⟩:=DataW.trod_string Tryz.underlying9 h0
    obtain⟨x1,hx1,_,m1⟩:=DataW.trod_string Tryz.underlying9 h1
    simp[e9]at hx0 hx1
    subst hx0
    subst hx1
    exact⟨⟨x0,x1⟩,rfl,trivial⟩) h hv
 exact⟨A,c,l,h1,h2,h3,h4⟩
theorem ZY(hv:∃A n c,v=.slice A n c)(h:DataW.Trod enc Tryz.prog W 0 (fun _=>true) true 43 v d ps):
  ∃(A:Option Addr) (c:Nat) (l:List Int),v=.slice A l.length c/\l.length<=c/\c<=maxLen/\Src W 1 A l.length (uM l)/\(∀x∈l,0<=x/\x<=aT):=by
 obtain⟨A,c,l,h1,h2,h3,h4,h5,_⟩:=ug (α:=Int) (fun x=>[.int .u64 x]) (fun x=>0<=x/\x<=aT) 1 Tryz.underlying43 (by kernel_rfl) (by decide) (fun _=>rfl)
  (fun fuel cs y hy=>by
   obtain⟨x,hx,_,hw⟩:=DataW.trod_int Tryz.underlying23 hy
   exact⟨x,hx,KP hw⟩) h hv
 have hf:∀l:List Int,l.flatMap (fun x=>[Value.int .u64 x])=uM l:=by
  intro l
  induction l with
  |nil=>rfl
  |cons a l ih=>rw[List.flatMap_cons,ih];rfl
 rw[hf]at h4
 exact⟨A,c,l,h1,h2,h3,h4,h5⟩
theorem ZZ(hv:∃A n c,v=.slice A n c)(h:DataW.Trod enc Tryz.prog W 0 (fun _=>true) true 42 v d ps):
  ∃(A:Option Addr) (c:Nat) (l:List kF),v=.slice A l.length c/\l.length<=c/\c<=maxLen/\Src W 4 A l.length (vU l)/\(∀y∈l,Src W 3 y.A y.ops.length (Ops.cells y.ops)/\0<=y.ts/\y.ts<=aT):=by
 have _:Inhabited kF:=⟨⟨0,0,none,0,[],0⟩⟩
 obtain⟨A,c,l,h1,h2,h3,h4,h5,_⟩:=ug (α:=kF) Ic (fun y=>Src W 3 y.A y.ops.length (Ops.cells y.ops)/\0<=y.ts/\y.ts<=aT) 4 Tryz.underlying42 (by kernel_rfl) (by decide) (fun _=>rfl)
  (fun fuel cs y hy=>by
   obtain⟨hl,n,hf⟩:=pN Tryz.underlying98 hy
   have hC:Tryz.prog.cellsOf 98=4:=by kernel_rfl
   rw[hC]at hl
   match cs,hl with
   |[c0,c1,c2,c3],_=>
    have eB:Tryz.prog.cellsOf 41=3:=by kernel_rfl
    have e3:Tryz.prog.cellsOf 3=1:=by kernel_rfl
    have eO:Tryz.prog.cellsOf 39=1:=by kernel_rfl
    have eU:Tryz.prog.cellsOf 23=1:=by kernel_rfl
    obtain⟨_,h0⟩:=hf 0 _ rfl
    obtain⟨_,h1⟩:=hf 1 _ rfl
    obtain⟨x3,hx3,_,m3⟩:=DataW.trod_int Tryz.underlying23 h1
    simp[eB]at h0
    simp[eU]at hx3
    obtain⟨_,n2,hg⟩:=pN Tryz.underlying41 h0
    obtain⟨_,g0⟩:=hg 0 _ rfl
    obtain⟨_,g1⟩:=hg 1 _ rfl
    obtain⟨_,g2⟩:=hg 2 _ rfl
    obtain⟨x0,hx0,_,_⟩:=DataW.trod_int Tryz.underlying3 g0
    obtain⟨x1,hx1,_,_⟩:=DataW.trod_int Tryz.underlying3 g1
    simp[e3]at hx0 hx1
    simp[eO]at g2
    subst hx0
    subst hx1
    subst hx3
    obtain⟨v1,t1⟩:=tu Tryz.underlying39 g2
    obtain⟨oA,oc,ops,rfl,_,_,q⟩:=UQ v1 t1
    exact⟨⟨x0,x1,oA,oc,ops,x3⟩,rfl,q,KP m3⟩) h hv
 exact⟨A,c,l,h1,h2,h3,h4,h5⟩
theorem UR(fuel:Nat)(cs:List Value)(y:DataW H×List MemPlace)(hy:DataW.trod enc Tryz.prog W 0 (fun _=>true) true fuel 46 cs=some y):∃a,cs=aG a/\vK W a:=by
 obtain⟨hl,n,hf⟩:=pN Tryz.underlying46 hy
 have hC:Tryz.prog.cellsOf 46=22:=by kernel_rfl
 rw[hC]at hl
 match cs,hl with
 |[c0,c1,c2,c3,c4,c5,c6,c7,c8,c9,c10,c11,c12,c13,c14,c15,c16,c17,c18,c19,c20,c21],_=>
  have e3:Tryz.prog.cellsOf 3=1:=by kernel_rfl
  have e4:Tryz.prog.cellsOf 4=1:=by kernel_rfl
  have e9:Tryz.prog.cellsOf 9=1:=by kernel_rfl
  have eU:Tryz.prog.cellsOf 23=1:=by kernel_rfl
  have eC:Tryz.prog.cellsOf 25=3:=by kernel_rfl
  have eM:Tryz.prog.cellsOf 22=1:=by kernel_rfl
  have eB:Tryz.prog.cellsOf 41=3:=by kernel_rfl
  have eO:Tryz.prog.cellsOf 39=1:=by kernel_rfl
  have eN:Tryz.prog.cellsOf 30=1:=by kernel_rfl
  have eE:Tryz.prog.cellsOf 42=1:=by kernel_rfl
  have eS:Tryz.prog.cellsOf 43=1:=by kernel_rfl
  have eP:Tryz.prog.cellsOf 44=1:=by kernel_rfl
  obtain⟨_,h0⟩:=hf 0 _ rfl
  obtain⟨_,h1⟩:=hf 1 _ rfl
  obtain⟨_,h2⟩:=hf 2 _ rfl
  obtain⟨_,h3⟩:=hf 3 _ rfl
  obtain⟨_,h4⟩:=hf 4 _ rfl
  obtain⟨_,h5⟩:=hf 5 _ rfl
  obtain⟨_,h6⟩:=hf 6 _ rfl
  obtain⟨_,h7⟩:=hf 7 _ rfl
  obtain⟨_,h8⟩:=hf 8 _ rfl
  obtain⟨_,h9⟩:=hf 9 _ rfl
  obtain⟨_,h10⟩:=hf 10 _ rfl
  obtain⟨_,h11⟩:=hf 11 _ rfl
  obtain⟨_,h12⟩:=hf 12 _ rfl
  obtain⟨_,h13⟩:=hf 13 _ rfl
  obtain⟨_,h14⟩:=hf 14 _ rfl
  obtain⟨_,h15⟩:=hf 15 _ rfl
  obtain⟨_,h16⟩:=hf 16 _ rfl
  obtain⟨_,h17⟩:=hf 17 _ rfl
  obtain⟨x0,hx0,_,_⟩:=DataW.trod_int Tryz.underlying3 h0
  obtain⟨x1,hx1,_,_⟩:=DataW.trod_int Tryz.underlying3 h1
  obtain⟨x2,hx2,_,_⟩:=DataW.trod_int Tryz.underlying3 h2
  obtain⟨x3,hx3,_,m3⟩:=DataW.trod_int Tryz.underlying3 h3
  obtain⟨x4,hx4,_⟩:=DataW.trod_bool Tryz.underlying4 h4
  obtain⟨x5,hx5,_,m5⟩:=DataW.trod_int Tryz.underlying23 h5
  obtain⟨x6,hx6,_,m6⟩:=DataW.trod_int Tryz.underlying23 h6
  obtain⟨x7,hx7,_,_⟩:=DataW.trod_int Tryz.underlying3 h7
  obtain⟨x8,Nr,_,_⟩:=DataW.trod_int Tryz.underlying3 h8
  obtain⟨x9,Ye,_,_⟩:=DataW.trod_int Tryz.underlying3 h9
  obtain⟨x10,OD,_,_⟩:=DataW.trod_int Tryz.underlying30 h10
  obtain⟨x11,abn,_,_⟩:=DataW.trod_string Tryz.underlying9 h11
  obtain⟨x12,abo,_,_⟩:=DataW.trod_string Tryz.underlying9 h12
  simp[e3]at hx0 hx1 hx2 hx3 hx7 Nr Ye
  simp[e4]at hx4
  simp[eU]at hx5 hx6
  simp[eN]at OD
  simp[e9]at abn abo
  simp[eC]at h13
  simp[eB]at h14
  simp[eE]at h15
  simp[eS]at h16
  simp[eP]at h17
  obtain⟨_,n2,hg⟩:=pN Tryz.underlying25 h13
  obtain⟨_,g0⟩:=hg 0 _ rfl
  obtain⟨_,g1⟩:=hg 1 _ rfl
  obtain⟨_,g2⟩:=hg 2 _ rfl
  obtain⟨x13,abp,_,_⟩:=DataW.trod_int Tryz.underlying3 g0
  obtain⟨x15,abq,_,m15⟩:=DataW.trod_int Tryz.underlying23 g2
  simp[e3]at abp
  simp[eU]at abq
  simp[eM]at g1
  obtain⟨_,n3,hh⟩:=pN Tryz.underlying41 h14
  obtain⟨_,k0⟩:=hh 0 _ rfl
  obtain⟨_,k1⟩:=hh 1 _ rfl
  obtain⟨_,k2⟩:=hh 2 _ rfl
  obtain⟨x16,hx16,_,_⟩:=DataW.trod_int Tryz.underlying3 k0
  obtain⟨x17,abr,_,_⟩:=DataW.trod_int Tryz.underlying3 k1
  simp[e3]at hx16 abr
  simp[eO]at k2
  subst hx0 hx1 hx2 hx3 hx4 hx5 hx6 hx7 Nr Ye OD abn abo abp abq hx16 abr
  obtain⟨v14,t14⟩:=tu Tryz.underlying22 g1
  obtain⟨v18,t18⟩:=tu Tryz.underlying39 k2
  obtain⟨v19,t19⟩:=tu Tryz.underlying42 h15
  obtain⟨v20,t20⟩:=tu Tryz.underlying43 h16
  obtain⟨v21,t21⟩:=tu Tryz.underlying44 h17
  obtain⟨mA,mc,ms,rfl,q1,q2,q3,_⟩:=ZX v14 t14
  obtain⟨oA,oc,ops,rfl,q4,q5,q6⟩:=UQ v18 t18
  obtain⟨eA,ec,es,rfl,q7,q8,q9,q10⟩:=ZZ v19 t19
  obtain⟨sA,sc,ss,rfl,q11,q12,q13,Yo⟩:=ZY v20 t20
  obtain⟨pA,pc,ps,rfl,Yp,q16,Yq⟩:=XO v21 t21
  exact⟨⟨x0,x1,x2,x3,x4,x5,x6,x7,x8,x9,x10,x11,x12,x13,mA,mc,ms,x15,x16,x17,oA,oc,ops,eA,ec,es,sA,sc,ss,pA,pc,ps⟩,rfl,q3,q1,q6,q9,q10,q13,Yo,Yq,⟨KP m5,KP m6,KP m15⟩,m3,Nat.le_trans q1 q2,Nat.le_trans q4 q5,Nat.le_trans q7 q8,Nat.le_trans q11 q12,Nat.le_trans Yp q16⟩
theorem XP(hv:Value.okWide Tryz.prog W r b0 46 v)(h:DataW.Trod enc Tryz.prog W 0 (fun _=>true) true 46 v d ps):∃x:bH,v=eH x/\vK W x:=by
 obtain⟨cs,rfl,hsz⟩:=okWide_struct Tryz.underlying46 hv
 obtain⟨fuel,hy⟩:=h
 obtain⟨x,hx,hg⟩:=UR _ _ _ hy
 exact⟨x,by show Value.agg cs=.agg (aG x).toArray;rw[<-hx];simp[Value.cells],hg⟩
end
end MO
namespace MO
open aP Ops zY gX
structure pO where
 k:Int
 n:Int
 x:bH
def rW(a:pO):List Value:=.int .i64 a.k::.int .i64 a.n::aG a.x
def wQ(l:List pO):List Value:=l.flatMap rW
def Qm(w:World)(a:pO):Prop:=vK w a.x/\I64 a.n
theorem Qm.kept{w w':World}{a:pO}(h:Qm w a)(hk:Kept aj w w'):Qm w' a:=⟨h.1.kept hk,h.2⟩
theorem US{w:World}{A:Option Addr}{m:Nat}{l:List pO}(h:Src w 24 A m (wQ l))(hm:0<m)(i:Nat)(x:pO)(hx:l[i]? =some x):
  ∃ad,A=some ad/\ad.block<w.heap.size/\∀j u,(rW x)[j]? =some u->w.cell? ((ad.add (i*24)).add j)=some u:=by
 obtain⟨ad,rfl,had,hcell⟩:=h.2 hm
 refine⟨ad,rfl,had,fun j u hu=> ?_⟩
 have hj:j<24:=(List.getElem?_eq_some_iff.1 hu).1
 rw[add_add]
 refine hcell _ _ ?_
 unfold wQ
 rw[flat_get rW 24 (by decide) (fun _=>rfl),show(i*24+j)/24=i by omega,show(i*24+j)%24=j by omega,hx]
 exact hu
section
variable{H:Type}{enc:TypeId×Value->H}{W:World}{v:Value}{d:DataW H}{ps:List MemPlace}{r:Reach}{b0:Nat}
end
end MO
end Go.Proofs.YtolkgbafebehfaaGreat
