/- Part 28 of what the proof needs. -/
import Derived.Test.YtolkgbafebehfaaGreatZP24
import Derived.Test.YtolkgbafebehfaaGreatZP26
set_option linter.unusedSimpArgs false
set_option linter.unusedVariables false
set_option maxHeartbeats 32000000
set_option maxRecDepth 100000
namespace Go.Proofs.YtolkgbafebehfaaGreat
open Go.RowKit Go.Shelf
attribute [local go_sem] Oper.semAt_some
set_option maxRecDepth 100000
namespace Wl
open aJ
def je(p:Int->Bool)(d:Int->ByteArray):Nat->Int->List (Int×ByteArray)
 |0,_=>[]
 |k+1,n=>if p n then (n,d n)::je p d k (n+1)else []
structure KS(FF E:Nat->Prop)(A B:World):Prop where
 size:A.heap.size<=B.heap.size
 block:∀k,FF k->B.heap[k]? =A.heap[k]?
 ints:∀k cs,¬E k->Has A k 3 cs->Has B k 3 cs
section
variable{FF E F:Nat->Prop}{A B C w w':World}{g n:Nat}{m:aJ.Safe}{ps:List aJ.Pc}{aV aO:Int}
theorem KS.refl:KS FF E A A:=⟨Nat.le_refl _,fun _ _=>rfl,fun _ _ _ h=>h⟩
theorem KS.trans(h:KS FF E A B)(k:KS FF E B C):KS FF E A C:=⟨Nat.le_trans h.size k.size,fun i hi=>(k.block i hi).trans (h.block i hi),fun i cs hi hc=>k.ints i cs hi (h.ints i cs hi hc)⟩
theorem KS.pW(h:Kept aj A B)(hF:∀k,FF k->k<A.heap.size):KS FF E A B:=⟨h.size,fun k hk=>h.block k (hF k hk) (fun z=>z),fun k cs _ hc=>hc.kept h (fun z=>z)⟩
theorem KS.put(hF:∀k,FF k->k<w.heap.size)(W:World)(l:Nat)(o o':Obj)(h:w.heap.size<=l)(hl:W.heap[l]? =some o)(hc:o.isCells=false)(_:o.isWalk=false):KS FF E W (W.putObj l o'):=
 ⟨Nat.le_of_eq (by simp[World.putObj]),fun k hk=>World.putObj_heap_other (by have:=hF k hk;omega),fun k cs _ hh=>by
  have hne:k≠l:=by
   rintro rfl
   unfold Has at hh
   rw[hl]at hh
   cases hh
   cases hc
  unfold Has at hh⊢
  rw[World.putObj_heap_other hne]
  exact hh⟩
theorem JD{base size n:Nat}{e:TypeId}{v:Value}{xs:List Value}(h:w.ownsRow base e size v n xs)(hb:∀g,v.ownBlock=some g->w'.heap[g]? =w.heap[g]?):w'.ownsRow base e size v n xs:=by
 refine⟨h.1,?_⟩
 rcases h.2 with h2|⟨g,cap,cur,rfl,hg,hh,r⟩
 ·exact .inl h2
 ·exact .inr ⟨g,cap,cur,rfl,hg,(hb g rfl).trans hh,r⟩
theorem aX.same(h:aX w g F n m ps aV aO)(hb:∀k,F k->w'.heap[k]? =w.heap[k]?):aX w' g F n m ps aV aO:=by
 obtain⟨mb,A,c,hF,hg,hm,ho⟩:=h
 refine⟨mb,A,c,hF,(hb _ ((hF _).2 (.inl rfl))).trans hg,?_,JD ho fun k hk=>hb k ((hF k).2 (.inr (.inr hk)))⟩
 obtain⟨D,⟨es,clock,hbk,CW,hs,e⟩,hD⟩:=hm
 exact⟨D,⟨es,clock,(hb mb ((hF _).2 (.inr (.inl rfl)))).trans hbk,CW,hs,e⟩,hD⟩
theorem WG{base size n:Nat}{e:TypeId}{v:Value}{xs:List Value}(h:w.ownsRow base e size v n xs){g:Nat}(hg:v.ownBlock=some g):∃cs,Has w g e cs:=Fr.jH h hg
end
theorem WH{p:Int->Bool}{d:Int->ByteArray}{x:Int}(h:p x=false):∀j,je p d j x=[]
 |0=>rfl
 |j+1=>by unfold je;rw[h];rfl
theorem aaN(n:Nat)(hn:1<=n)(l Bd Bf g nn:Nat)(F E:Nat->Prop)(m:aJ.Safe)(ps:List aJ.Pc)(aV aO first:Int)(K:Nat)(J Jx:List (Int×ByteArray)->World->Prop)(W:World)
  (hd:aX W g F nn m ps aV aO) (hBd:Has W Bd 33 #[.pointer (some ⟨g,0,none⟩)]) (NI:Has W Bf 3 #[.int .i64 first])
  (hE:∀k,E k->k<W.heap.size) (hpi:∀p∈ps,I64 p.1) (hnn:nn<=100000) (hps:ps.length<=100000) (hsz:∀f,(dY m f).size+total ps<=140737488355328)
  (h1:1<=first) (h2:first+K<=4611686018427387904) (hK:cu m ps (first+K)=false)
  (hA:∀pre A B,J pre A->Kept aj A B->J pre B)
  (hY:∀pre x W,J pre W->pre++[x]<+:je (cu m ps) (dataOf m ps) K first->YieldAt Fence.wide (n-1) Tryz.prog l #[.int .i64 x.1,.string x.2] W fun e W'=>
   (e=.returned (.bool true)/\J (pre++[x]) W'/\KS (fun k=>F k\/k=Bd\/k=Bf) E W W')\/(e=.returned (.bool false)/\Jx (pre++[x]) W'))
  (h0:J [] W):
  CallsIn Fence.wide n Tryz.prog 372 #[.func (.yield l) #[] #[],.pointer (some ⟨Bd,0,none⟩),.pointer (some ⟨Bf,0,none⟩)] W fun e W'=>(∃v,e=.returned v)/\
   ((∃ys,ys=je (cu m ps) (dataOf m ps) K first/\J ys W')\/(∃pre,pre<+:je (cu m ps) (dataOf m ps) K first/\Jx pre W')):=by
 have hfn:∀k,Fence.wide.fn k:=fun _=>trivial
 obtain⟨FF,CW⟩:∃FF:Nat->Prop,FF=fun k=>F k\/k=Bd\/k=Bf:=⟨_,rfl⟩
 have JE:∀k,FF k->k<W.heap.size:=by
  intro k hk
  rw[CW]at hk
  rcases hk with h|rfl|rfl
  ·exact hd.lt k h
  ·exact hBd.lt
  ·exact NI.lt
 have aaO:∀k,F k->FF k:=fun k h=>by rw[CW];exact .inl h
 have aaP:FF Bd:=by rw[CW];exact .inr (.inl rfl)
 have aaQ:FF Bf:=by rw[CW];exact .inr (.inr rfl)
 rw[<-CW]at hY
 have hfi:=qV hd hpi hnn hps
 have c1:W.cell? ⟨Bd,0,none⟩=some (.pointer (some ⟨g,0,none⟩)):=hBd.cell 0
 have HA:=ah hA;have HY:=ah hY;have qh:=ah hfi;have HH0:=ah h0;have qB:=ah JE;have HK:=ah hK;have HE:=ah hE;have kZ:=ah hsz
 have HF1:=ah aaO;have HF2:=ah aaP;have HF3:=ah aaQ;have HD:=ah hd;have HBD:=ah hBd;have HBF:=ah NI;have Yr:=ah hnn;have HPS:=ah hps
 clear hA hY hfi h0 JE hK hE hsz aaO aaP aaQ hd hBd NI hpi CW
 refine callsIn_of_wp Tryz.func372 rfl trivial ?_ rfl
 simp only[Tryz.ntmps372,List.size_toArray,List.length_cons,List.length_nil,Nat.reduceAdd,Nat.reduceSub,Array.replicate_succ,Array.replicate_zero,List.push_toArray,List.append_toArray,List.nil_append,List.cons_append]
 gi_wp2_with (gi_at_call 95;(refine(callsIn_wide.2 qh.out).mono ?_;rintro e W1 ⟨fl,A,c,rfl,hfa,hown,hnew,hk⟩;have c2:W1.cell? ⟨Bf,0,none⟩=some (.int .i64 first):=(HBF.out.kept hk (fun z=>z)).cell 0;have Ew:=ah hfa;have qP:=ah hown;have fE:=ah hnew;have gI:=ah hk;clear hfa hown hnew hk))
 have aaR:KS FF E W W1:=KS.pW gI.out qB.out
 have hj1:J [] W1:=HA.out _ _ _ HH0.out gI.out
 have aaS:=ah aaR;have fF:=ah hj1
 clear aaR hj1
 gi_loopw [5] (fun v5 wr=>∃(x:Int) (j:Nat) (pre:List (Int×ByteArray)),v5=.int .i64 x/\first<=x/\x+j=first+K/\je (cu m ps) (dataOf m ps) K first=pre++je (cu m ps) (dataOf m ps) j x/\J pre wr/\KS FF E W1 wr) (fun v5 _=>(first+K-intOf v5).toNat)
 case atStart=>exact⟨first,K,[],rfl,Int.le_refl _,rfl,rfl,fF.out,KS.refl⟩
 case round=>
  obtain⟨x,j,pre,rfl,hx1,hx2,hL,hJ,hks⟩:=hrel
  have HL:=ah hL;have HJ:=ah hJ;have Yx:=ah hks
  clear hL hJ hks
  have hcap:=jk qP.out
  have hsrc:Src wr 1 A fl.length (fl.map (Value.int .i64)):=by
   refine Src.bC (JD qP.out fun b hb=> ?_)
   obtain⟨cs,hh⟩:=WG qP.out hb
   have hbE:¬E b:=fun h=>by have h8:=fE.out b hb;have h9:=HE.out b h;omega
   exact(Yx.out.ints b cs hbE hh).trans hh.symm
  have JF:I64 x:=jq (by omega) (by omega)
  have hco:=AU.kV wr A c fl x hsrc (by omega)
  have hin:AU.inB fl x=cu m ps x:=by
   rw[Bool.eq_iff_iff,AU.sS,Ew.out.mem x]
   exact⟨fun h=>h.2,fun h=>⟨JF,h⟩⟩
  rw[hin]at hco
  have uD:=ah hco
  clear hco hin hsrc hcap
  rcases hp:cu m ps x with _|_
  ·rw[hp]at uD
   have hno:=WH (d:=dataOf m ps) hp j
   have iZ:=ah hno
   clear hno hp
   gi_wp2_with (gi_at_call 142;(refine(callsIn_wide.2 uD.out).mono ?_;rintro e W2 ⟨rfl,rfl⟩))
   go_end0
   exact⟨⟨_,rfl⟩,.inl ⟨_,by rw[HL.out,iZ.out,List.append_nil],HJ.out⟩⟩
  ·rw[hp]at uD
   obtain⟨j,rfl⟩:∃j',j=j'+1:=by
    rcases j with _|j
    ·have e:x=first+K:=by omega
     rw[e,HK.out]at hp
     cases hp
    ·exact⟨j,rfl⟩
   have hcons:je (cu m ps) (dataOf m ps) (j+1) x=(x,dataOf m ps x)::je (cu m ps) (dataOf m ps) j (x+1):=by
    rw[je,hp];rfl
   have hL:=HL.out
   rw[hcons]at hL
   have hL2:je (cu m ps) (dataOf m ps) K first=(pre++[(x,dataOf m ps x)])++je (cu m ps) (dataOf m ps) j (x+1):=by rw[hL];simp
   have hlen:pre++[(x,dataOf m ps x)]<+:je (cu m ps) (dataOf m ps) K first:=by rw[hL2];exact List.prefix_append _ _
   have HL2:=ah hL2;have jW:=ah hlen
   have WI:KS FF E W wr:=aaS.out.trans Yx.out
   have hdw:aX wr g F nn m ps aV aO:=aX.same HD.out fun k hk=>WI.block k (HF1.out k hk)
   have hda:=DC hdw x JF HPS.out (kZ.out x)
   have b1:wr.cell? ⟨Bd,0,none⟩=some (.pointer (some ⟨g,0,none⟩)):=(show Has wr Bd _ _ from(WI.block Bd HF2.out).trans HBD.out).cell 0
   have SL:=ah hda
   clear hL hlen hL2 hcons hp WI hdw hda
   gi_wp2_with (first
    |(gi_at_call 142;(refine(callsIn_wide.2 uD.out).mono ?_;rintro e W2 ⟨rfl,rfl⟩))
    |(gi_at_call 102;(refine(callsIn_wide.2 SL.out).mono ?_;rintro e w2 ⟨rfl,hk⟩;have HJ2:=ah (HA.out _ _ _ HJ.out hk);have AL:∀k,FF k->k<wr.heap.size:=(fun k h=>Nat.lt_of_lt_of_le (qB.out k h) (aaS.out.trans Yx.out).size);have HB2:=ah (Yx.out.trans (KS.pW hk AL));clear hk AL;obtain⟨fn,tmps,assign,body,hy,hR⟩:=HY.out pre (x,dataOf m ps x) w2 HJ2.out jW.out;simp only at hy)))
   refine hR.mono ?_
   rintro e W3 (⟨rfl,hJ3,hk3⟩|⟨rfl,hJx3⟩)
   ·have Eo:=ah hJ3;have HB3:=ah (HB2.out.trans hk3);clear hJ3 hk3
    gi_wp2
    go_roundw
    case rel=>exact⟨x+1,j,pre++[(x,dataOf m ps x)],rfl,by omega,by omega,HL2.out,Eo.out,HB3.out⟩
    case measure=>simp[intOf];omega
   ·have zh:=ah hJx3;clear hJx3
    gi_wp2
    refine bodyPost_ret (results_none rfl _ _ _) rfl ?_
    exact⟨⟨_,rfl⟩,.inr ⟨_,by rw[HL2.out];exact List.prefix_append _ _,zh.out⟩⟩
abbrev Sg:={x:Int×ByteArray//x.2.size<=1000000/\1<=x.1/\x.1<=4611686018427387904}
theorem MK{α β:Type}(f:α->β){ls:List α}{pre:List α}{x:β}(h:pre.map f++[x]<+:ls.map f)(hp:pre<+:ls):∃y,f y=x/\pre++[y]<+:ls:=by
 obtain⟨r,rfl⟩:=hp
 rw[List.map_append]at h
 have h2:=(List.prefix_append_right_inj (pre.map f)).1 h
 rcases r with _|⟨y,r⟩
 ·have:=h2.length_le;simp at this
 ·refine⟨y,?_,?_⟩
  ·rw[List.map_cons]at h2
   obtain⟨z,hz⟩:=h2
   simp at hz
   exact hz.1.symm
  ·rw[show pre++y::r=(pre++[y])++r by simp];exact List.prefix_append _ _
theorem SN(n:Nat)(hn:1<=n)(Bd Bf g nn:Nat)(F E:Nat->Prop)(m:aJ.Safe)(ps:List aJ.Pc)(aV aO first:Int)(K:Nat)(ls:List Sg)(w:World)
  (hd:aX w g F nn m ps aV aO) (hBd:Has w Bd 33 #[.pointer (some ⟨g,0,none⟩)]) (NI:Has w Bf 3 #[.int .i64 first])
  (hE:∀k,E k->k<w.heap.size) (hpi:∀p∈ps,I64 p.1) (hnn:nn<=100000) (hps:ps.length<=100000) (hsz:∀f,(dY m f).size+total ps<=140737488355328)
  (h1:1<=first) (h2:first+K<=4611686018427387904) (hK:cu m ps (first+K)=false) (hls:ls.map (·.1)=je (cu m ps) (dataOf m ps) K first):
  SeqStopsK Fence.wide n Tryz.prog 372 #[.pointer (some ⟨Bd,0,none⟩),.pointer (some ⟨Bf,0,none⟩)] (fun x:Sg=>#[.int .i64 x.1.1,.string x.1.2]) (KS (fun k=>F k\/k=Bd\/k=Bf) E) (fun ys=>ys=ls) (fun pre=>pre<+:ls) ls.length w:=by
 intro l J Jx W hW hJ hJx hY h0
 have hkw:∀k,k<w.heap.size->W.heap[k]? =w.heap[k]? :=fun k hk=>hW.block k hk
 refine(aaN n hn l Bd Bf g nn F E m ps aV aO first K (fun pre W=>∃q,q.map (·.1)=pre/\q<+:ls/\J q W) (fun pre W=>∃q,q.map (·.1)=pre/\q<+:ls/\Jx q W) W
  (aX.same hd fun k hk=>hkw k (hd.lt k hk)) ((hkw _ hBd.lt).trans hBd) ((hkw _ NI.lt).trans NI) (fun k hk=>Nat.lt_of_lt_of_le (hE k hk) hW.size) hpi hnn hps hsz h1 h2 hK ?_ ?_ ⟨[],rfl,List.nil_prefix,h0⟩).mono ?_
 ·rintro pre A B ⟨q,h3,h4,h5⟩ hk
  exact⟨q,h3,h4,hJ q A B none h5 (Fr.Et hk) (fun r e=>by cases e)⟩
 ·rintro pre x W1 ⟨q,rfl,h4,h5⟩ hpre
  rw[<-hls]at hpre
  obtain⟨y,rfl,hy⟩:=MK _ hpre h4
  refine(hY q y W1 h5 ?_).mono ?_
  ·have:=hy.length_le;simp at this;omega
  ·rintro e W2 (⟨rfl,h6,h7⟩|⟨rfl,h6⟩)
   ·exact .inl ⟨rfl,⟨q++[y],by simp,hy,h6⟩,h7⟩
   ·exact .inr ⟨rfl,q++[y],by simp,hy,h6⟩
 ·rintro e W2 ⟨he,⟨ys,rfl,q,h3,h4,h5⟩|⟨pre,hpre,q,rfl,h4,h5⟩⟩
  ·refine⟨he,.inl ⟨q,?_,h5⟩⟩
   refine h4.eq_of_length ?_
   have:=congrArg List.length (h3.trans hls.symm)
   simpa using this
  ·exact⟨he,.inr ⟨q,h4,h5⟩⟩
end Wl
attribute [local go_sem] Oper.semAt_some
set_option maxRecDepth 100000
namespace Wl
open aJ Fr Vn Ops
theorem ML(F:Fence)(n:Nat)(h5:F.fn 326)(hro:F.round=none)(p:Option Addr)(first:Int)(w:World):
  CallsIn F n Tryz.prog 326 #[.pointer p,.int .i64 first] w fun e w'=>e=.returned (.func (.func 372) #[] #[.pointer (some ⟨w.heap.size,0,none⟩),.pointer (some ⟨w.heap.size+1,0,none⟩)])/\w'=(w.alloc (.cells #[.pointer p] 33)).alloc (.cells #[.int .i64 first] 3):=by
 refine callsIn_of_wp Tryz.func326 rfl h5 ?_ hro
 simp only[Tryz.ntmps326,List.size_toArray,List.length_cons,List.length_nil,Nat.reduceAdd,Nat.reduceSub,Array.replicate_succ,Array.replicate_zero,List.push_toArray,List.append_toArray,List.nil_append,List.cons_append]
 gi_wp2
 go_ret
 exact⟨by simp,rfl⟩
def dH(L:List Sg):List (List UInt8):=L.flatMap fun x=>bY (aU (bl x.1.2))
theorem vG(L:List Sg)(x:Sg):dH (L++[x])=dH L++bY (aU (bl x.1.2)):=by simp[dH]
def uG(s:ByteArray):Bool:=decide (rH (aU (bl s))=0)&&decide (s.size<256)
def wH(a:Int)(L:List Sg):Int:=L.foldl (fun _ x=>if uG x.1.2 then x.1.1 else x.1.1+1) a
theorem JG(a:Int)(L:List Sg)(x:Sg):wH a (L++[x])=if uG x.1.2 then x.1.1 else x.1.1+1:=by simp[wH]
def JH(w:World)(first:Int)(L:List Sg)(e:Ending)(w':World):Prop:=
 ∃A c,e=.returned (.tuple #[.slice A (dH L).length c,.int .i64 (wH first L)])/\aF 9 1 w.heap.size w' A (dH L).length c (gy (dH L))/\Below w.heap.size w w'
def RI(w:World)(first:Int)(pre:List Sg)(W:World):Prop:=
 (∃A c,Has W w.heap.size 106 #[.slice A (dH pre).length c]/\aF 9 1 (w.heap.size+4) W A (dH pre).length c (gy (dH pre))/\Has W (w.heap.size+1) 3 #[.int .i64 (wH first pre)])/\Below w.heap.size w W/\w.heap.size+4<=W.heap.size
theorem aaT(w:World)(first:Int)(B:Nat)(hB:w.heap.size+4<=B):OwnFrom B (RI w first):=fun pre W W' row h hg hr=>by
 obtain⟨⟨A,c,h5,hrow,h6⟩,hb,hw⟩:=h
 have hr2:∀r,row=some r->∃o:Obj,W.heap[r]? =some o/\o.isCells=false:=fun r e=>(hr r e).2
 have hk:Kept (fun k=>row=some k) W W':=(Kept.refl _ W).grownBy hg (fun k hk=> .inl hk)
 exact⟨⟨A,c,h5.kept hk (lT h5 hr2),AP hrow hk hr2,h6.kept hk (lT h6 hr2)⟩,hb.trans (hk.below hb.size (fun k h=>by have:=(hr k h).1;omega)),Nat.le_trans hw hk.size⟩
def EE(w:World)(k:Nat):Prop:=k=w.heap.size\/k=w.heap.size+1
theorem Gu(x:Sg):(bY (aU (bl x.1.2))).length<=1000001:=by
 have h1:=NH (aU (bl x.1.2))
 have h2:(aU (bl x.1.2)).length<=x.1.2.size+1:=by unfold aU;rw[dh];exact xX _ _ _
 have:=x.2.1
 omega
theorem SQ(L:List Sg):(dH L).length<=L.length*1000001:=by
 induction L with
 |nil=>exact Nat.le_refl _
 |cons x L ih=>
  have h1:=Gu x
  show(bY (aU (bl x.1.2))++dH L).length<=_
  rw[List.length_append,List.length_cons,Nat.succ_mul]
  omega
theorem aaU{w W w2 w' Wf:World}{first y:Int}{pre:List Sg}{x:Sg}{A A2 A':Option Addr}{c c2 c':Nat}{FF:Nat->Prop}(CW:∀k,FF k->k<w.heap.size\/k=w.heap.size+2\/k=w.heap.size+3)
  (hrow:aF 9 1 (w.heap.size+4) W A (dH pre).length c (gy (dH pre))) (hB:Below w.heap.size w W) (hW:w.heap.size+4<=W.heap.size) (hb2:Below W.heap.size W w2)
  (hown:w'.ownsRow 0 9 1 (.slice A' ((dH pre).length+(bY (aU (bl x.1.2))).length) c') ((dH pre).length+(bY (aU (bl x.1.2))).length) (gy (dH pre)++gy (bY (aU (bl x.1.2))))) (hgr:w2.grownBy w' (Value.slice A (dH pre).length c).ownBlock)
  (hbl:(Value.slice A' ((dH pre).length+(bY (aU (bl x.1.2))).length) c').ownBlock=(Value.slice A (dH pre).length c).ownBlock\/(Value.slice A' ((dH pre).length+(bY (aU (bl x.1.2))).length) c').ownBlock=some w2.heap.size)
  (hf:Kept (EE w) w' Wf) (r5:Has Wf w.heap.size 106 #[.slice A' ((dH pre).length+(bY (aU (bl x.1.2))).length) c']) (r6:Has Wf (w.heap.size+1) 3 #[.int .i64 y]) (hy:y=wH first (pre++[x])):
  KeepsFrom (w.heap.size+4) W Wf/\KS FF (EE w) W Wf/\RI w first (pre++[x]) Wf:=by
 have hk12:Kept aj W w2:=Kept.of_below hb2 (fun k hk _=>hk)
 have hkg:Kept (fun k=>RowOf (.slice A (dH pre).length c) k) W w':=Kept.grown (hk12.mono (fun _ z=>z.elim)) hgr (fun k hk=> .inl hk)
 have hk:Kept (fun k=>k=w.heap.size\/k=w.heap.size+1\/RowOf (.slice A (dH pre).length c) k) W Wf:=
  (hkg.mono (fun k h=> .inr (.inr h))).then (hf.mono (fun k h=>by rcases h with h|h;exact .inl h;exact .inr (.inl h)))
 have hlow:∀k,k<w.heap.size+4->¬RowOf (.slice A (dH pre).length c) k:=fun k hk h=>by have:=hrow.2 _ h;omega
 have hrt:∀k,RowOf (.slice A (dH pre).length c) k->∃cs,Has W k 9 cs:=fun k h=>jH hrow.1 h
 have hnew:∀k,RowOf (.slice A' ((dH pre).length+(bY (aU (bl x.1.2))).length) c') k->w.heap.size+4<=k:=fun k h=>by
  rcases hbl with e|e
  ·exact hrow.2 k (e.symm.trans h)
  ·have h9:=e.symm.trans h
   injection h9 with h9
   have:=hb2.size
   omega
 refine⟨ql hk (fun k hF hB6 o ho=> ?_),⟨hk.size,fun k hF=> ?_,fun k cs hE hh=> ?_⟩,⟨A',c',?_,⟨?_,?_⟩,?_⟩,?_,Nat.le_trans hW hk.size⟩
 ·rcases hF with h|h|h
  ·omega
  ·omega
  ·obtain⟨cs,hh⟩:=hrt k h
   unfold Has at hh
   rw[hh]at ho
   cases ho
   rfl
 ·have hlt:=CW k hF
  refine hk.block k (by omega) (fun h=> ?_)
  rcases h with h|h|h
  ·omega
  ·omega
  ·exact hlow k (by omega) h
 ·refine hh.kept hk (fun h=> ?_)
  rcases h with h|h|h
  ·exact hE (.inl h)
  ·exact hE (.inr h)
  ·obtain⟨cs',h2⟩:=hrt k h
   exact Has.ne hh h2 (by decide) rfl
 ·rw[vG,List.length_append];exact r5
 ·rw[vG,List.length_append]
  have e1:gy (dH pre++bY (aU (bl x.1.2)))=gy (dH pre)++gy (bY (aU (bl x.1.2))):=by simp[gy]
  rw[e1]
  exact aC hown hf (fun g hg h=>by
   have:=hnew g hg
   rcases h with h|h<;>omega)
 ·intro k h
  rw[vG,List.length_append]at h
  exact hnew k h
 ·rw[<-hy];exact r6
 ·exact hB.trans (hk.below hB.size (fun k h=>by
   rcases h with h|h|h
   ·omega
   ·omega
   ·have:=hrow.2 k h;omega))
theorem Pn(l:List (List UInt8)):∀u∈gy l,u.oneCell'=true:=by
 intro u hu
 unfold gy at hu
 rw[List.mem_map]at hu
 obtain⟨x,_,rfl⟩:=hu
 rfl
attribute [local go_sem↓] AO
theorem JI(w:World)(g nn:Nat)(F:Nat->Prop)(m:aJ.Safe)(ps:List aJ.Pc)(aV aO first:Int)(K:Nat)(ls:List Sg)
  (hd:aX w g F nn m ps aV aO) (hpi:∀p∈ps,I64 p.1) (hnn:nn<=100000) (hps:ps.length<=100000) (hsz:∀f,(dY m f).size+total ps<=140737488355328)
  (h1:1<=first) (h1':first<=1073741824) (h2:first+K<=4611686018427387904) (hK:cu m ps (first+K)=false) (hls:ls.map (·.1)=je (cu m ps) (dataOf m ps) K first) (hlen:ls.length<=1000000):
  Calls Tryz.prog 212 #[.pointer (some ⟨g,0,none⟩),.int .i64 first] w (JH w first ls):=by
 have hfn:∀k,Fence.wide.fn k:=fun _=>trivial
 refine(callsIn_wide (n:=5)).1 ?_
 refine callsIn_of_wp_marks Tryz.func212 rfl trivial ?_ rfl
 have q1:¬first<1:=by omega
 have q2:¬1073741824<first:=by omega
 have uY:=ah hpi;have HLS:=ah hls;have acI:=ah hsz;have HK:=ah hK;have HD:=ah hd
 clear hpi hls hsz hK hd
 simp only[Tryz.ntmps212,List.size_toArray,List.length_cons,List.length_nil,Nat.reduceAdd,Nat.reduceSub,Array.replicate_succ,Array.replicate_zero,List.push_toArray,List.append_toArray,List.nil_append,List.cons_append]
 refine wpIn_wide.2 ?_
 go_wp2
 go_step3
 go_wp2
 go_step3
 go_wp2_with (go_at_call 326;refine((callsIn_wide (n:=5)).1 (ML Fence.wide 5 trivial rfl _ _ _)).mono ?_;rintro e w' ⟨rfl,rfl⟩)
 obtain⟨W0,hW0⟩:∃W0,(((w.alloc (.cells #[.slice none 0 0] 106)).alloc (.cells #[.int .i64 first] 3)).alloc (.cells #[.pointer (some ⟨g,0,none⟩)] 33)).alloc (.cells #[.int .i64 first] 3)=W0:=⟨_,rfl⟩
 have hsz:W0.heap.size=w.heap.size+4:=by rw[<-hW0];simp
 have hk0:Kept aj w W0:=by rw[<-hW0];exact by(repeat'(first|(with_reducible first|exact ak|apply au|apply ay|apply aA|apply aB)|(right;simp;done)))
 have hB0:Below w.heap.size w W0:=Kept.below hk0 (Nat.le_refl _) (fun _ z=>z.elim)
 have hbd:Has W0 (w.heap.size+2) 33 #[.pointer (some ⟨g,0,none⟩)]:=by rw[<-hW0];exact(Has.bP _ 33 #[.pointer (some ⟨g,0,none⟩)] (by simp)).alloc _
 have hbf:Has W0 (w.heap.size+3) 3 #[.int .i64 first]:=by rw[<-hW0];exact Has.bP _ 3 #[.int .i64 first] (by simp)
 have hd0:aX W0 g F nn m ps aV aO:=HD.out.kept hk0 (fun _ _ z=>z)
 have hI0:RI w first [] W0:=by
  refine⟨⟨none,0,?_,⟨⟨rfl,.inl ⟨rfl,rfl⟩⟩,(fun k hk=>by cases hk)⟩,?_⟩,hB0,by rw[hsz];exact Nat.le_refl _⟩
  ·rw[<-hW0];exact(((Has.bP _ 106 #[.slice none 0 0] rfl).alloc _).alloc _).alloc _
  ·rw[<-hW0];exact((Has.bP _ 3 #[.int .i64 first] (by simp)).alloc _).alloc _
 rw[show w.heap.size+1+1=w.heap.size+2 from rfl,show w.heap.size+2+1=w.heap.size+3 from rfl]
 rw[hW0]
 clear hW0
 have kZ:=ah hsz;clear hsz
 have JJ:=ah (HD.out.lt)
 refine(wpIn_wide (n:=5)).1 ?_
 refine wpIn_rangeFunc_ownH rfl (by omega) (gf:=372) (lb:=#[.pointer (some ⟨w.heap.size+2,0,none⟩),.pointer (some ⟨w.heap.size+3,0,none⟩)]) rfl (hfn _) (enters_of Tryz.func372 (by kernel_rfl) rfl)
  (SN (5-1) (by omega) (w.heap.size+2) (w.heap.size+3) g nn F (EE w) m ps aV aO first K ls W0 hd0 hbd hbf (fun k h=>by have:=kZ.out;rcases h with h|h<;>omega) uY.out hnn hps acI.out h1 h2 HK.out HLS.out) KS.trans
  (KS.put (fun k h=>by have:=kZ.out;rcases h with h|h|h;exact Nat.lt_of_lt_of_le (JJ.out k h) (by omega);omega;omega)) (Below.refl _ _) (fun _=>rfl)
  (RI w first) (fun _ _ _=>False) (aaT w first _ (by rw[kZ.out];exact Nat.le_refl _)) (fun _ _ _ _ _ h _ _=>h) hI0
  (fun x a' W=>a'={tmps:=#[.pointer (some ⟨g,0,none⟩),.int .i64 first,undef,undef,.slice none 0 0,.int .i64 0,.pointer (some ⟨w.heap.size,0,none⟩),.pointer (some ⟨w.heap.size+1,0,none⟩),.int .i64 x.1.1,.string x.1.2,undef,undef,undef,.pointer (some ⟨g,0,none⟩),.bool false,.bool false,.int .i64 first,.bool (decide (first<1)),.bool (decide (first<1)),.bool (decide (first<1)),.int .i64 first,.bool (decide (1073741824<first)),.bool (decide (first<1)||decide (1073741824<first)),undef,.int .i64 first,.pointer (some ⟨g,0,none⟩),.int .i64 first,.func (.func 372) #[] #[.pointer (some ⟨w.heap.size+2,0,none⟩),.pointer (some ⟨w.heap.size+3,0,none⟩)],.int .i64 x.1.1,.string x.1.2,undef,undef,undef,undef,undef,undef,undef,undef,undef,undef,undef,undef,undef,undef,undef,undef,undef,undef,undef,undef,undef],defers:=[]})
  (fun x a' _ X Y row hs hg hr=>hs)
  ?assign ?body ?done ?stop
 case assign=>
  rintro l pre x W K hI hK
  gi_wp2
  exact hK _ _ (KeepsFrom.refl _ _) KS.refl hI rfl
 case body=>
  rintro l pre x a' W hl ⟨r,hr⟩ ⟨⟨A,c,hb5,hrow,hb6⟩,hB,xu⟩ rfl hlt
  have hal:=WA W x.1.2 x.2.1
  have hpl:=SQ pre
  have hxl:=Gu x
  have hx1:=x.2.2.1
  have hx2:=x.2.2.2
  have hend:∀(w2:World) (A2:Option Addr) (c2:Nat),aF 9 1 W.heap.size w2 A2 (bY (aU (bl x.1.2))).length c2 (gy (bY (aU (bl x.1.2))))->Below W.heap.size W w2->
    ∃A' c' w',(appG #[106,106] 106 #[.slice A (dH pre).length c,.slice A2 (bY (aU (bl x.1.2))).length c2]).run Tryz.prog w2=.ok (.slice A' ((dH pre).length+(bY (aU (bl x.1.2))).length) c') w'/\
     Has w2 w.heap.size 106 #[.slice A (dH pre).length c]/\Has w' w.heap.size 106 #[.slice A (dH pre).length c]/\Has w' (w.heap.size+1) 3 #[.int .i64 (wH first pre)]/\
     ∀Wf y,Kept (EE w) w' Wf->Has Wf w.heap.size 106 #[.slice A' ((dH pre).length+(bY (aU (bl x.1.2))).length) c']->Has Wf (w.heap.size+1) 3 #[.int .i64 y]->y=wH first (pre++[x])->
      ownPostG W0.heap.size (KS (fun k=>F k\/k=w.heap.size+2\/k=w.heap.size+3) (EE w)) (RI w first) (fun _ _ _=>False) (pre++[x]) W Exit.normal {tmps:=#[],defers:=[]} Wf:=by
   intro w2 A2 c2 hn2 hb2
   have hk12:Kept aj W w2:=Kept.of_below hb2 (fun k hk _=>hk)
   obtain⟨v',w',hrun,hown,hgr,hbl⟩:=sH (P:=Tryz.prog) (ty:=106) (w:=w2) BV (v:=.slice A (dH pre).length c) (n:=(dH pre).length) (xs:=gy (dH pre)) (aC hrow.1 hk12 (fun _ _ z=>z)) (A:=A2) (m:=(bY (aU (bl x.1.2))).length) (c:=c2) (news:=gy (bY (aU (bl x.1.2)))) (Src.bC hn2.1) (Pn _) (by unfold maxLen;omega) (by omega)
   obtain⟨A',c',rfl,_⟩:=yK hown
   have hkg:Kept (fun k=>RowOf (.slice A (dH pre).length c) k) w2 w':=Kept.grown (Kept.refl _ w2) hgr (fun k hk=> .inl hk)
   have hlow:∀k,k<w.heap.size+4->¬RowOf (.slice A (dH pre).length c) k:=fun k hk h=>by have:=hrow.2 _ h;omega
   refine⟨A',c',w',hrun,hb5.kept hk12 (fun z=>z),(hb5.kept hk12 (fun z=>z)).kept hkg (hlow _ (by omega)),(hb6.kept hk12 (fun z=>z)).kept hkg (hlow _ (by omega)),fun Wf y h1 h2 h3 h4=> ?_⟩
   have h5:=aaU (A2:=A2) (c2:=c2) (FF:=fun k=>F k\/k=w.heap.size+2\/k=w.heap.size+3) (fun k h=>by rcases h with h|h|h;exact .inl (JJ.out k h);exact .inr (.inl h);exact .inr (.inr h)) hrow hB xu hb2 hown hgr hbl h1 h2 h3 h4
   show KeepsFrom W0.heap.size _ _/\_
   rw[kZ.out]
   exact h5
  have HAL:=ah hal;have qm:=ah hend;have NJ:=ah (JG first pre x)
  clear hal hend hpl hxl hb5 hrow hb6 hB
  obtain⟨⟨x1,x2⟩,hxp⟩:=x
  dsimp only at*
  gi_wp2_with (gi_at_call 210;(refine(callsIn_wide.2 HAL.out).mono ?_;rintro e w2 ⟨A2,c2,rfl,hn2,hb2⟩;obtain⟨A',c',w',hrun,qY,h5,h6,hfin⟩:=qm.out w2 A2 c2 hn2 hb2;have d0:=qY.cell 0;have bI:=ah hfin;have f0:=h5.frozen 0;have f1:=h6.frozen 0;have e0:=h5.cell 0;have e1:=h6.cell 0;have H5:=ah h5;have H6:=ah h6;clear hn2 hb2 hfin qY h5 h6))
  ·refine bI.out _ _ ((((Kept.refl _ w').put (.inl (.inl rfl))).put (.inl (.inr rfl)))) ((H5.out.dB rfl).past (by omega)) ((H6.out.past (by omega)).dB rfl) ?_
   rw[NJ.out,if_pos]
   have h8:rH (aU (bl x2))=0:=by assumption
   have h9:(x2.size:Int)<256:=by assumption
   simp[uG,h8];omega
  ·refine bI.out _ _ (((((Kept.refl _ w').put (.inl (.inl rfl))).put (.inl (.inr rfl))).put (.inl (.inr rfl)))) (((H5.out.dB rfl).past (by omega)).past (by omega)) (((H6.out.past (by omega)).dB rfl).dB rfl) ?_
   rw[NJ.out,if_neg]
   have h9:256<=(x2.size:Int):=by assumption
   simp[uG];omega
  ·refine bI.out _ _ (((((Kept.refl _ w').put (.inl (.inl rfl))).put (.inl (.inr rfl))).put (.inl (.inr rfl)))) (((H5.out.dB rfl).past (by omega)).past (by omega)) (((H6.out.past (by omega)).dB rfl).dB rfl) ?_
   rw[NJ.out,if_neg]
   have h8:¬rH (aU (bl x2))=0:=by assumption
   simp[uG,h8]
 case done=>
  rintro D xs W hD rfl ⟨⟨A,c,hb5,hrow,hb6⟩,hB,xu⟩ hK
  have hDW:w.heap.size+4<=D:=by have:=kZ.out;omega
  have e0:W.cell? ⟨w.heap.size,0,none⟩=some (.slice A (dH xs).length c):=hb5.cell 0
  have e1:W.cell? ⟨w.heap.size+1,0,none⟩=some (.int .i64 (wH first xs)):=hb6.cell 0
  have hfin:∀(tmps:Array Value) (k:Nat),tmps.getD 4 undef=.slice A (dH xs).length c->tmps.getD 5 undef=.int .i64 (wH first xs)->
    bodyPostM Fence.wide 5 Tryz.prog Tryz.f212 (JH w first xs) Exit.ret {tmps:=tmps,defers:=[{target:=.collected D,args:=#[]}]} W.drew:=by
   intro tmps k p0 p1
   have Gm:W.drew.heap[D]? =some (.deferred (some [])):=hK
   refine⟨by simp,.inl ⟨_,_,rfl,run_takeDeferred Gm,?_⟩⟩
   have q0:tmps[4]?.getD undef=.slice A (dH xs).length c:=by simpa using p0
   have q1:tmps[5]?.getD undef=.int .i64 (wH first xs):=by simpa using p1
   refine⟨_,?_,A,c,rfl,⟨ownsRow_putObj (W:=W.drew) hrow.1 _ Gm rfl,fun g hg=>Nat.le_trans (by omega) (hrow.2 g hg)⟩,hB.drew.trans (belowK_b (w:=w) (Nat.le_refl _) W.drew D _ _ (by omega) Gm rfl rfl)⟩
   have e:Tryz.f212.results=#[.tmp 4,.tmp 5]:=rfl
   simp only[results,e]
   simp[Sem.run_bind,Result.andThen,q0,q1,go_sem]
  have bI:=ah hfin
  clear hfin hrow hB hb5 hb6
  go_wp2
  go_region
  all_goals
   go_wp2
   refine bI.out _ 0 ?_ ?_<;>rfl
 case stop=>
  rintro D cc pre W hD hSp h hK
  exact h.elim
end Wl
end Go.Proofs.YtolkgbafebehfaaGreat
