/- Part 18. -/
import Derived.Test.YtomccaocggplgaaGreatMP16
set_option linter.unusedSimpArgs false
set_option linter.unusedVariables false
set_option maxHeartbeats 32000000
set_option maxRecDepth 100000
namespace Go.Proofs.YtomccaocggplgaaGreat
open Go.RowKit
namespace zu
theorem vC{w:World}{A:Option Addr}{k:Nat}{l:List Int}(h:Src w 1 A k (l.map (Value.int .i64)))(hm:0<k)(i:Nat)(p:Int)(hp:l[i]? =some p):
  ∃ad:Addr,A=some ad/\ad.block<w.heap.size/\w.cell? (ad.add i)=some (.int .i64 p):=by
 obtain⟨ad,e,hb,hc⟩:=h.2 hm;exact⟨ad,e,hb,hc i _ (by rw[List.getElem?_map,hp];rfl)⟩
theorem drop_cons{α:Type}{l:List α}{i:Nat}{p:α}(h:l[i]? =some p):l.drop i=p::l.drop (i+1):=by obtain⟨hi,e⟩:=lD0.1 h;rw[List.drop_eq_getElem_cons hi,e]
def inB(l:List Int)(x:Int):Bool:=l.contains x
theorem rZ{l:List Int}{x:Int}:inB l x=true↔x∈l:=by unfold inB;simp
theorem CW(w:World)(A:Option Addr)(c:Nat)(l:List Int)(x:Int)(hl:Src w 1 A l.length (l.map (Value.int .i64)))(hlen:l.length<=maxLen):
  Calls Tryz.prog 167 #[.slice A l.length c,.int .i64 x] w fun e w'=>(∃n:Int,e=.returned (.int .i64 n)/\(0<=n↔x∈l))/\w=w':=by
 unfold maxLen at hlen;have HL:=ah hl;clear hl;go_enter Tryz.func167,Tryz.ntmps167;go_wp2_with fail;go_loop [5,8] (fun v5 v8=>∃i:Nat,i<=l.length/\v8=.int .i64 i/\(x∈l↔x∈l.drop i)) (fun _ v8=>l.length-(intOf v8).toNat)
 case atStart=>exact⟨0,Nat.zero_le _,rfl,Iff.rfl⟩
 case round=>
  obtain⟨i,hi,rfl,he⟩:=hrel;have HE:=ah he;clear he;by_cases hil:i<l.length
  ·obtain⟨b,hb⟩:∃b,l[i]? =some b:=⟨_,lB0 hil⟩;obtain⟨ad,rfl,had,e0⟩:=vC HL.out (by omega) i b hb;have hs:x∈l.drop i↔x=b\/x∈l.drop (i+1):=by rw[drop_cons hb,List.mem_cons]
   have HS:=ah hs;clear hs hb;by_cases hbx:x=b
   ·subst hbx;go_wp2;go_ret;exact⟨⟨_,rfl,⟨fun _=>by rw[HE.out,HS.out];simp,fun _=>by omega⟩⟩,rfl⟩
   ·have hne:(x==b)=false:=by simpa using hbx
    go_wp2;go_round
    case rel=>exact⟨i+1,by omega,by go_num,by rw[HE.out,HS.out];simp[hbx]⟩
    case measure=>simp[intOf];omega
  ·obtain rfl:i=l.length:=by omega
   go_wp2;go_ret;exact⟨⟨-1,rfl,⟨fun h=>by omega,fun h=>by rw[HE.out,List.drop_length]at h;cases h⟩⟩,rfl⟩
theorem lG(w:World)(A:Option Addr)(c:Nat)(l:List Int)(x:Int)(hl:Src w 1 A l.length (l.map (Value.int .i64)))(hlen:l.length<=maxLen):
  Calls Tryz.prog 93 #[.slice A l.length c,.int .i64 x] w fun e w'=>e=.returned (.bool (inB l x))/\w=w':=by
 have hi:=CW w A c l x hl hlen;have HI:=ah hi;clear hi hl;by_cases hx:x∈l
 ·have hb:inB l x=true:=rZ.2 hx;rw[hb];have HX:=ah hx;clear hx;go_enter Tryz.func93,Tryz.ntmps93;go_wp2_with fail;refine HI.out.mono ?_;rintro e w2 ⟨⟨n,rfl,hn⟩,rfl⟩;have hn0:0<=n:=hn.2 HX.out;clear hn;go_wp2;go_ret;exact⟨rfl,rfl⟩
 ·have hb:inB l x=false:=by unfold inB;simpa using hx
  rw[hb];have HX:=ah hx;clear hx;go_enter Tryz.func93,Tryz.ntmps93;go_wp2_with fail;refine HI.out.mono ?_;rintro e w2 ⟨⟨n,rfl,hn⟩,rfl⟩;have hn0:¬0<=n:=fun h=>HX.out (hn.1 h);clear hn;go_wp2;go_ret
  exact⟨by have h2:decide (0<=n)=false:=decide_eq_false (by omega)
           simp[h2],rfl⟩
theorem LY{w:World}{A:Option Addr}{k:Nat}{l:List ByteArray}(h:Src w 1 A k (l.map Value.string))(hm:0<k)(i:Nat)(p:ByteArray)(hp:l[i]? =some p):
  ∃ad:Addr,A=some ad/\ad.block<w.heap.size/\w.cell? (ad.add i)=some (.string p):=by
 obtain⟨ad,e,hb,hc⟩:=h.2 hm;exact⟨ad,e,hb,hc i _ (by rw[List.getElem?_map,hp];rfl)⟩
end zu
namespace aH
def mA:Safe:=l7 (fun _=>none) [(1,⟨#[97,98]⟩)]
theorem gY{k:Int}(h0:0<=k)(h1:k<=4611686018427387904):I64 k:=by
 unfold I64 Lit.wf;have hb:(2:Int)^(IntKind.i64.bits-1)=9223372036854775808:=by decide
 simp[IntKind.signed,IntKind.min,IntKind.max,hb];omega
end aH
end Go.Proofs.YtomccaocggplgaaGreat
namespace Go.Proofs.YtomccaocggplgaaGreat
open Go.RowKit Go.Shelf
attribute [local go_sem] Oper.semAt_some
namespace Wl
open aH
def jY(p:Int->Bool)(d:Int->ByteArray):Nat->Int->List (Int×ByteArray)
 |0,_=>[]
 |k+1,n=>if p n then (n,d n)::jY p d k (n+1)else []
structure KS(FF E:Nat->Prop)(A B:World):Prop where
 size:A.heap.size<=B.heap.size
 block:∀k,FF k->B.heap[k]? =A.heap[k]?
 ints:∀k cs,¬E k->Has A k 3 cs->Has B k 3 cs
section
variable{FF E F:Nat->Prop}{A B C w w':World}{g n:Nat}{m:aH.Safe}{ps:List aH.Pc}{aX aQ:Int}
theorem KS.refl:KS FF E A A:=⟨Nat.le_refl _,fun _ _=>rfl,fun _ _ _ h=>h⟩
theorem KS.trans(h:KS FF E A B)(k:KS FF E B C):KS FF E A C:=⟨Nat.le_trans h.size k.size,fun i hi=>(k.block i hi).trans (h.block i hi),fun i cs hi hc=>k.ints i cs hi (h.ints i cs hi hc)⟩
theorem KS.rX(h:Kept aj A B)(hF:∀k,FF k->k<A.heap.size):KS FF E A B:=⟨h.size,fun k hk=>h.block k (hF k hk) (fun z=>z),fun k cs _ hc=>hc.kept h (fun z=>z)⟩
theorem KS.put(hF:∀k,FF k->k<w.heap.size)(W:World)(l:Nat)(o o':Obj)(h:w.heap.size<=l)(hl:W.heap[l]? =some o)(hc:o.isCells=false)(_:o.isWalk=false):KS FF E W (W.putObj l o'):=
 ⟨Nat.le_of_eq (by simp[World.putObj]),fun k hk=>World.putObj_heap_other (by have:=hF k hk;omega),fun k cs _ hh=>by
  have hne:k≠l:=by rintro rfl;unfold Has at hh;rw[hl]at hh;cases hh;cases hc
  unfold Has at hh⊢;rw[World.putObj_heap_other hne];exact hh⟩
theorem Pn{base size n:Nat}{e:TypeId}{v:Value}{xs:List Value}(h:w.ownsRow base e size v n xs)(hb:∀g,v.ownBlock=some g->w'.heap[g]? =w.heap[g]?):w'.ownsRow base e size v n xs:=by
 refine⟨h.1,?_⟩;rcases h.2 with h2|⟨g,cap,cur,rfl,hg,hh,r⟩
 ·exact .inl h2
 ·exact .inr ⟨g,cap,cur,rfl,hg,(hb g rfl).trans hh,r⟩
theorem aZ.same(h:aZ w g F n m ps aX aQ)(hb:∀k,F k->w'.heap[k]? =w.heap[k]?):aZ w' g F n m ps aX aQ:=by obtain⟨mb,A,c,hF,hg,hm,ho⟩:=h;refine⟨mb,A,c,hF,(hb _ ((hF _).2 (.inl rfl))).trans hg,?_,Pn ho fun k hk=>hb k ((hF k).2 (.inr (.inr hk)))⟩;obtain⟨D,⟨es,clock,hbk,GI,hs,e⟩,hD⟩:=hm;exact⟨D,⟨es,clock,(hb mb ((hF _).2 (.inr (.inl rfl)))).trans hbk,GI,hs,e⟩,hD⟩
theorem abz{base size n:Nat}{e:TypeId}{v:Value}{xs:List Value}(h:w.ownsRow base e size v n xs){g:Nat}(hg:v.ownBlock=some g):∃cs,Has w g e cs:=Fr.jT h hg
end
theorem abA{p:Int->Bool}{d:Int->ByteArray}{x:Int}(h:p x=false):∀j,jY p d j x=[]
 |0=>rfl
 |j+1=>by unfold jY;rw[h];rfl
theorem afz(n:Nat)(hn:1<=n)(l Bd Bf g nn:Nat)(F E:Nat->Prop)(m:aH.Safe)(ps:List aH.Pc)(aX aQ first:Int)(K:Nat)(J Jx:List (Int×ByteArray)->World->Prop)(W:World)
  (hd:aZ W g F nn m ps aX aQ) (hBd:Has W Bd 29 #[.pointer (some ⟨g,0,none⟩)]) (TG:Has W Bf 3 #[.int .i64 first])
  (hE:∀k,E k->k<W.heap.size) (hpi:∀p∈ps,I64 p.1) (hnn:nn<=100000) (hps:ps.length<=100000) (hsz:∀f,(dU m f).size+total ps<=140737488355328)
  (h1:1<=first) (h2:first+K<=4611686018427387904) (hK:cu m ps (first+K)=false)
  (hA:∀pre A B,J pre A->Kept aj A B->J pre B)
  (hY:∀pre x W,J pre W->pre++[x]<+:jY (cu m ps) (dataOf m ps) K first->YieldAt Fence.wide (n-1) Tryz.prog l #[.int .i64 x.1,.string x.2] W fun e W'=>
   (e=.returned (.bool true)/\J (pre++[x]) W'/\KS (fun k=>F k\/k=Bd\/k=Bf) E W W')\/(e=.returned (.bool false)/\Jx (pre++[x]) W'))
  (h0:J [] W):
  CallsIn Fence.wide n Tryz.prog 248 #[.func (.yield l) #[] #[],.pointer (some ⟨Bd,0,none⟩),.pointer (some ⟨Bf,0,none⟩)] W fun e W'=>(∃v,e=.returned v)/\
   ((∃ys,ys=jY (cu m ps) (dataOf m ps) K first/\J ys W')\/(∃pre,pre<+:jY (cu m ps) (dataOf m ps) K first/\Jx pre W')):=by
 have hfn:∀k,Fence.wide.fn k:=fun _=>trivial;obtain⟨FF,GI⟩:∃FF:Nat->Prop,FF=fun k=>F k\/k=Bd\/k=Bf:=⟨_,rfl⟩;have EM:∀k,FF k->k<W.heap.size:=by
  intro k hk;rw[GI]at hk;rcases hk with h|rfl|rfl
  ·exact hd.lt k h
  ·exact hBd.lt
  ·exact TG.lt
 have afA:∀k,F k->FF k:=fun k h=>by rw[GI];exact .inl h
 have afB:FF Bd:=by rw[GI];exact .inr (.inl rfl)
 have afC:FF Bf:=by rw[GI];exact .inr (.inr rfl)
 rw[<-GI]at hY;have hfi:=pZ hd hpi hnn hps;have c1:W.cell? ⟨Bd,0,none⟩=some (.pointer (some ⟨g,0,none⟩)):=hBd.cell 0;have HA:=ah hA;have HY:=ah hY;have qg:=ah hfi;have HH0:=ah h0;have o7:=ah EM;have HK:=ah hK;have HE:=ah hE;have kR:=ah hsz;have Yr:=ah afA;have HF2:=ah afB;have HF3:=ah afC;have HD:=ah hd;have HBD:=ah hBd;have HBF:=ah TG;have Jg:=ah hnn;have HPS:=ah hps;clear hA hY hfi h0 EM hK hE hsz afA afB afC hd hBd TG hpi GI;refine callsIn_of_wp Tryz.func248 rfl trivial ?_ rfl;simp only[Tryz.ntmps248,List.size_toArray,List.length_cons,List.length_nil,Nat.reduceAdd,Nat.reduceSub,Array.replicate_succ,Array.replicate_zero,List.push_toArray,List.append_toArray,List.nil_append,List.cons_append];gi_wp2_with (gi_at_call 52;(refine(callsIn_wide.2 qg.out).mono ?_;rintro e W1 ⟨fl,A,c,rfl,hfa,hown,hnew,hk⟩;have c2:W1.cell? ⟨Bf,0,none⟩=some (.int .i64 first):=(HBF.out.kept hk (fun z=>z)).cell 0;have EL:=ah hfa;have qp:=ah hown;have gI:=ah hnew;have gB:=ah hk;clear hfa hown hnew hk));have afD:KS FF E W W1:=KS.rX gB.out o7.out;have hj1:J [] W1:=HA.out _ _ _ HH0.out gB.out;have afE:=ah afD;have iw:=ah hj1;clear afD hj1;gi_loopw [5] (fun v5 wr=>∃(x:Int) (j:Nat) (pre:List (Int×ByteArray)),v5=.int .i64 x/\first<=x/\x+j=first+K/\jY (cu m ps) (dataOf m ps) K first=pre++jY (cu m ps) (dataOf m ps) j x/\J pre wr/\KS FF E W1 wr) (fun v5 _=>(first+K-intOf v5).toNat)
 case atStart=>exact⟨first,K,[],rfl,Int.le_refl _,rfl,rfl,iw.out,KS.refl⟩
 case round=>
  obtain⟨x,j,pre,rfl,hx1,hx2,hL,hJ,hks⟩:=hrel;have HL:=ah hL;have HJ:=ah hJ;have HKS:=ah hks;clear hL hJ hks;have hcap:=gJ qp.out;have hsrc:Src wr 1 A fl.length (fl.map (Value.int .i64)):=by
   refine Src.bF (Pn qp.out fun b hb=> ?_);obtain⟨cs,hh⟩:=abz qp.out hb;have hbE:¬E b:=fun h=>by have h8:=gI.out b hb;have h9:=HE.out b h;omega
   exact(HKS.out.ints b cs hbE hh).trans hh.symm
  have Po:I64 x:=gY (by omega) (by omega);have hco:=zu.lG wr A c fl x hsrc (by omega);have hin:zu.inB fl x=cu m ps x:=by rw[Bool.eq_iff_iff,zu.rZ,EL.out.mem x];exact⟨fun h=>h.2,fun h=>⟨Po,h⟩⟩
  rw[hin]at hco;have qR:=ah hco;clear hco hin hsrc hcap;rcases hp:cu m ps x with _|_
  ·rw[hp]at qR;have hno:=abA (d:=dataOf m ps) hp j;have jK:=ah hno;clear hno hp;gi_wp2_with (gi_at_call 93;(refine(callsIn_wide.2 qR.out).mono ?_;rintro e W2 ⟨rfl,rfl⟩));go_end0;exact⟨⟨_,rfl⟩,.inl ⟨_,by rw[HL.out,jK.out,List.append_nil],HJ.out⟩⟩
  ·rw[hp]at qR;obtain⟨j,rfl⟩:∃j',j=j'+1:=by
    rcases j with _|j
    ·have e:x=first+K:=by omega
     rw[e,HK.out]at hp;cases hp
    ·exact⟨j,rfl⟩
   have hcons:jY (cu m ps) (dataOf m ps) (j+1) x=(x,dataOf m ps x)::jY (cu m ps) (dataOf m ps) j (x+1):=by rw[jY,hp];rfl
   have hL:=HL.out;rw[hcons]at hL;have hL2:jY (cu m ps) (dataOf m ps) K first=(pre++[(x,dataOf m ps x)])++jY (cu m ps) (dataOf m ps) j (x+1):=by rw[hL];simp
   have hlen:pre++[(x,dataOf m ps x)]<+:jY (cu m ps) (dataOf m ps) K first:=by rw[hL2];exact List.prefix_append _ _
   have HL2:=ah hL2;have lH:=ah hlen;have abB:KS FF E W wr:=afE.out.trans HKS.out;have hdw:aZ wr g F nn m ps aX aQ:=aZ.same HD.out fun k hk=>abB.block k (Yr.out k hk);have hda:=zq hdw x Po HPS.out (kR.out x);have b1:wr.cell? ⟨Bd,0,none⟩=some (.pointer (some ⟨g,0,none⟩)):=(show Has wr Bd _ _ from(abB.block Bd HF2.out).trans HBD.out).cell 0;have GK:=ah hda;clear hL hlen hL2 hcons hp abB hdw hda
   gi_wp2_with (first
    |(gi_at_call 93;(refine(callsIn_wide.2 qR.out).mono ?_;rintro e W2 ⟨rfl,rfl⟩))
    |(gi_at_call 122;(refine(callsIn_wide.2 GK.out).mono ?_;rintro e w2 ⟨rfl,hk⟩;have HJ2:=ah (HA.out _ _ _ HJ.out hk);have EH:∀k,FF k->k<wr.heap.size:=(fun k h=>Nat.lt_of_lt_of_le (o7.out k h) (afE.out.trans HKS.out).size);have HB2:=ah (HKS.out.trans (KS.rX hk EH));clear hk EH;obtain⟨fn,tmps,assign,body,hy,hR⟩:=HY.out pre (x,dataOf m ps x) w2 HJ2.out lH.out;simp only at hy)))
   refine hR.mono ?_;rintro e W3 (⟨rfl,hJ3,hk3⟩|⟨rfl,hJx3⟩)
   ·have Jh:=ah hJ3;have HB3:=ah (HB2.out.trans hk3);clear hJ3 hk3;gi_wp2;go_roundw
    case rel=>exact⟨x+1,j,pre++[(x,dataOf m ps x)],rfl,by omega,by omega,HL2.out,Jh.out,HB3.out⟩
    case measure=>simp[intOf];omega
   ·have C4:=ah hJx3;clear hJx3;gi_wp2;refine bodyPost_ret (results_none rfl _ _ _) rfl ?_;exact⟨⟨_,rfl⟩,.inr ⟨_,by rw[HL2.out];exact List.prefix_append _ _,C4.out⟩⟩
abbrev Sg:={x:Int×ByteArray//x.2.size<=1000000/\1<=x.1/\x.1<=4611686018427387904}
theorem Sr{α β:Type}(f:α->β){ls:List α}{pre:List α}{x:β}(h:pre.map f++[x]<+:ls.map f)(hp:pre<+:ls):∃y,f y=x/\pre++[y]<+:ls:=by
 obtain⟨r,rfl⟩:=hp;rw[List.map_append]at h;have h2:=(List.prefix_append_right_inj (pre.map f)).1 h;rcases r with _|⟨y,r⟩
 ·have:=h2.length_le;simp at this
 ·refine⟨y,?_,?_⟩
  ·rw[List.map_cons]at h2;obtain⟨z,hz⟩:=h2;simp at hz;exact hz.1.symm
  ·rw[show pre++y::r=(pre++[y])++r by simp];exact List.prefix_append _ _
theorem Yt(n:Nat)(hn:1<=n)(Bd Bf g nn:Nat)(F E:Nat->Prop)(m:aH.Safe)(ps:List aH.Pc)(aX aQ first:Int)(K:Nat)(ls:List Sg)(w:World)
  (hd:aZ w g F nn m ps aX aQ) (hBd:Has w Bd 29 #[.pointer (some ⟨g,0,none⟩)]) (TG:Has w Bf 3 #[.int .i64 first])
  (hE:∀k,E k->k<w.heap.size) (hpi:∀p∈ps,I64 p.1) (hnn:nn<=100000) (hps:ps.length<=100000) (hsz:∀f,(dU m f).size+total ps<=140737488355328)
  (h1:1<=first) (h2:first+K<=4611686018427387904) (hK:cu m ps (first+K)=false) (hls:ls.map (·.1)=jY (cu m ps) (dataOf m ps) K first):
  SeqStopsK Fence.wide n Tryz.prog 248 #[.pointer (some ⟨Bd,0,none⟩),.pointer (some ⟨Bf,0,none⟩)] (fun x:Sg=>#[.int .i64 x.1.1,.string x.1.2]) (KS (fun k=>F k\/k=Bd\/k=Bf) E) (fun ys=>ys=ls) (fun pre=>pre<+:ls) ls.length w:=by
 intro l J Jx W hW hJ hJx hY h0;have hkw:∀k,k<w.heap.size->W.heap[k]? =w.heap[k]? :=fun k hk=>hW.block k hk
 refine(afz n hn l Bd Bf g nn F E m ps aX aQ first K (fun pre W=>∃q,q.map (·.1)=pre/\q<+:ls/\J q W) (fun pre W=>∃q,q.map (·.1)=pre/\q<+:ls/\Jx q W) W
  (aZ.same hd fun k hk=>hkw k (hd.lt k hk)) ((hkw _ hBd.lt).trans hBd) ((hkw _ TG.lt).trans TG) (fun k hk=>Nat.lt_of_lt_of_le (hE k hk) hW.size) hpi hnn hps hsz h1 h2 hK ?_ ?_ ⟨[],rfl,List.nil_prefix,h0⟩).mono ?_
 ·rintro pre A B ⟨q,h3,h4,h5⟩ hk;exact⟨q,h3,h4,hJ q A B none h5 (Fr.Jj hk) (fun r e=>by cases e)⟩
 ·rintro pre x W1 ⟨q,rfl,h4,h5⟩ hpre;rw[<-hls]at hpre;obtain⟨y,rfl,hy⟩:=Sr _ hpre h4;refine(hY q y W1 h5 ?_).mono ?_
  ·have:=hy.length_le;simp at this;omega
  ·rintro e W2 (⟨rfl,h6,h7⟩|⟨rfl,h6⟩)
   ·exact .inl ⟨rfl,⟨q++[y],by simp,hy,h6⟩,h7⟩
   ·exact .inr ⟨rfl,q++[y],by simp,hy,h6⟩
 ·rintro e W2 ⟨he,⟨ys,rfl,q,h3,h4,h5⟩|⟨pre,hpre,q,rfl,h4,h5⟩⟩
  ·refine⟨he,.inl ⟨q,?_,h5⟩⟩;refine h4.eq_of_length ?_;have:=congrArg List.length (h3.trans hls.symm);simpa using this
  ·exact⟨he,.inr ⟨q,h4,h5⟩⟩
end Wl
attribute [local go_sem] Oper.semAt_some
namespace Wl
open aH Fr Vn Ops
theorem Ss(F:Fence)(n:Nat)(h5:F.fn 214)(hro:F.round=none)(p:Option Addr)(first:Int)(w:World):
  CallsIn F n Tryz.prog 214 #[.pointer p,.int .i64 first] w fun e w'=>e=.returned (.func (.func 248) #[] #[.pointer (some ⟨w.heap.size,0,none⟩),.pointer (some ⟨w.heap.size+1,0,none⟩)])/\w'=(w.alloc (.cells #[.pointer p] 29)).alloc (.cells #[.int .i64 first] 3):=by
 refine callsIn_of_wp Tryz.func214 rfl h5 ?_ hro;simp only[Tryz.ntmps214,List.size_toArray,List.length_cons,List.length_nil,Nat.reduceAdd,Nat.reduceSub,Array.replicate_succ,Array.replicate_zero,List.push_toArray,List.append_toArray,List.nil_append,List.cons_append];gi_wp2;go_ret;exact⟨by simp,rfl⟩
def eG(L:List Sg):List (List UInt8):=L.flatMap fun x=>dF (aY (bl x.1.2))
theorem yH(L:List Sg)(x:Sg):eG (L++[x])=eG L++dF (aY (bl x.1.2)):=by simp[eG]
def xG(s:ByteArray):Bool:=decide (oV (aY (bl s))=0)&&decide (s.size<256)
def zx(a:Int)(L:List Sg):Int:=L.foldl (fun _ x=>if xG x.1.2 then x.1.1 else x.1.1+1) a
theorem Pq(a:Int)(L:List Sg)(x:Sg):zx a (L++[x])=if xG x.1.2 then x.1.1 else x.1.1+1:=by simp[zx]
def Df(w:World)(first:Int)(L:List Sg)(e:Ending)(w':World):Prop:=
 ∃A c,e=.returned (.tuple #[.slice A (eG L).length c,.int .i64 (zx first L)])/\aF 9 1 w.heap.size w' A (eG L).length c (dn (eG L))/\Below w.heap.size w w'
def RI(w:World)(first:Int)(pre:List Sg)(W:World):Prop:=
 (∃A c,Has W w.heap.size 89 #[.slice A (eG pre).length c]/\aF 9 1 (w.heap.size+4) W A (eG pre).length c (dn (eG pre))/\Has W (w.heap.size+1) 3 #[.int .i64 (zx first pre)])/\Below w.heap.size w W/\w.heap.size+4<=W.heap.size
theorem afF(w:World)(first:Int)(B:Nat)(hB:w.heap.size+4<=B):OwnFrom B (RI w first):=fun pre W W' row h hg hr=>by obtain⟨⟨A,c,h5,hrow,h6⟩,hb,hw⟩:=h;have hr2:∀r,row=some r->∃o:Obj,W.heap[r]? =some o/\o.isCells=false:=fun r e=>(hr r e).2;have hk:Kept (fun k=>row=some k) W W':=(Kept.refl _ W).grownBy hg (fun k hk=> .inl hk);exact⟨⟨A,c,h5.kept hk (oJ h5 hr2),EK hrow hk hr2,h6.kept hk (oJ h6 hr2)⟩,hb.trans (hk.below hb.size (fun k h=>by have:=(hr k h).1;omega)),Nat.le_trans hw hk.size⟩
def EE(w:World)(k:Nat):Prop:=k=w.heap.size\/k=w.heap.size+1
theorem LZ(x:Sg):(dF (aY (bl x.1.2))).length<=1000001:=by
 have h1:=FU (aY (bl x.1.2));have h2:(aY (bl x.1.2)).length<=x.1.2.size+1:=by unfold aY;rw[bP];exact sZ _ _ _
 have:=x.2.1;omega
theorem Yu(L:List Sg):(eG L).length<=L.length*1000001:=by
 induction L with
 |nil=>exact Nat.le_refl _
 |cons x L ih=>
  have h1:=LZ x;show(dF (aY (bl x.1.2))++eG L).length<=_;rw[lA0,List.length_cons,Nat.succ_mul];omega
theorem afG{w W w2 w' Wf:World}{first y:Int}{pre:List Sg}{x:Sg}{A A2 A':Option Addr}{c c2 c':Nat}{FF:Nat->Prop}(GI:∀k,FF k->k<w.heap.size\/k=w.heap.size+2\/k=w.heap.size+3)
  (hrow:aF 9 1 (w.heap.size+4) W A (eG pre).length c (dn (eG pre))) (hB:Below w.heap.size w W) (hW:w.heap.size+4<=W.heap.size) (hb2:Below W.heap.size W w2)
  (hown:w'.ownsRow 0 9 1 (.slice A' ((eG pre).length+(dF (aY (bl x.1.2))).length) c') ((eG pre).length+(dF (aY (bl x.1.2))).length) (dn (eG pre)++dn (dF (aY (bl x.1.2))))) (hgr:w2.grownBy w' (Value.slice A (eG pre).length c).ownBlock)
  (hbl:(Value.slice A' ((eG pre).length+(dF (aY (bl x.1.2))).length) c').ownBlock=(Value.slice A (eG pre).length c).ownBlock\/(Value.slice A' ((eG pre).length+(dF (aY (bl x.1.2))).length) c').ownBlock=some w2.heap.size)
  (hf:Kept (EE w) w' Wf) (r5:Has Wf w.heap.size 89 #[.slice A' ((eG pre).length+(dF (aY (bl x.1.2))).length) c']) (r6:Has Wf (w.heap.size+1) 3 #[.int .i64 y]) (hy:y=zx first (pre++[x])):
  KeepsFrom (w.heap.size+4) W Wf/\KS FF (EE w) W Wf/\RI w first (pre++[x]) Wf:=by
 have hk12:Kept aj W w2:=Kept.of_below hb2 (fun k hk _=>hk);have hkg:Kept (fun k=>RowOf (.slice A (eG pre).length c) k) W w':=Kept.grown (hk12.mono (fun _ z=>z.elim)) hgr (fun k hk=> .inl hk)
 have hk:Kept (fun k=>k=w.heap.size\/k=w.heap.size+1\/RowOf (.slice A (eG pre).length c) k) W Wf:=
  (hkg.mono (fun k h=> .inr (.inr h))).then (hf.mono (fun k h=>by rcases h with h|h;exact .inl h;exact .inr (.inl h)))
 have hlow:∀k,k<w.heap.size+4->¬RowOf (.slice A (eG pre).length c) k:=fun k hk h=>by have:=hrow.2 _ h;omega
 have hrt:∀k,RowOf (.slice A (eG pre).length c) k->∃cs,Has W k 9 cs:=fun k h=>jT hrow.1 h;have hnew:∀k,RowOf (.slice A' ((eG pre).length+(dF (aY (bl x.1.2))).length) c') k->w.heap.size+4<=k:=fun k h=>by
  rcases hbl with e|e
  ·exact hrow.2 k (e.symm.trans h)
  ·have h9:=e.symm.trans h;injection h9 with h9;have:=hb2.size;omega
 refine⟨sO hk (fun k hF hB6 o ho=> ?_),⟨hk.size,fun k hF=> ?_,fun k cs hE hh=> ?_⟩,⟨A',c',?_,⟨?_,?_⟩,?_⟩,?_,Nat.le_trans hW hk.size⟩
 ·rcases hF with h|h|h
  ·omega
  ·omega
  ·obtain⟨cs,hh⟩:=hrt k h;unfold Has at hh;rw[hh]at ho;cases ho;rfl
 ·have hlt:=GI k hF;refine hk.block k (by omega) (fun h=> ?_);rcases h with h|h|h
  ·omega
  ·omega
  ·exact hlow k (by omega) h
 ·refine hh.kept hk (fun h=> ?_);rcases h with h|h|h
  ·exact hE (.inl h)
  ·exact hE (.inr h)
  ·obtain⟨cs',h2⟩:=hrt k h;exact Has.ne hh h2 (by decide) rfl
 ·rw[yH,lA0];exact r5
 ·rw[yH,lA0];have e1:dn (eG pre++dF (aY (bl x.1.2)))=dn (eG pre)++dn (dF (aY (bl x.1.2))):=by simp[dn]
  rw[e1]
  exact aC hown hf (fun g hg h=>by have:=hnew g hg;rcases h with h|h<;>omega)
 ·intro k h;rw[yH,lA0]at h;exact hnew k h
 ·rw[<-hy];exact r6
 ·exact hB.trans (hk.below hB.size (fun k h=>by
   rcases h with h|h|h
   ·omega
   ·omega
   ·have:=hrow.2 k h;omega))
theorem Vd(l:List (List UInt8)):∀u∈dn l,u.oneCell'=true:=by intro u hu;unfold dn at hu;rw[List.mem_map]at hu;obtain⟨x,_,rfl⟩:=hu;rfl
attribute [local go_sem↓] EJ
theorem Dh(w:World)(g nn:Nat)(F:Nat->Prop)(m:aH.Safe)(ps:List aH.Pc)(aX aQ first:Int)(K:Nat)(ls:List Sg)
  (hd:aZ w g F nn m ps aX aQ) (hpi:∀p∈ps,I64 p.1) (hnn:nn<=100000) (hps:ps.length<=100000) (hsz:∀f,(dU m f).size+total ps<=140737488355328)
  (h1:1<=first) (h1':first<=1073741824) (h2:first+K<=4611686018427387904) (hK:cu m ps (first+K)=false) (hls:ls.map (·.1)=jY (cu m ps) (dataOf m ps) K first) (hlen:ls.length<=1000000):
  Calls Tryz.prog 132 #[.pointer (some ⟨g,0,none⟩),.int .i64 first] w (Df w first ls):=by
 have hfn:∀k,Fence.wide.fn k:=fun _=>trivial;refine(callsIn_wide (n:=5)).1 ?_;refine callsIn_of_wp_marks Tryz.func132 rfl trivial ?_ rfl;have q1:¬first<1:=by omega
 have q2:¬1073741824<first:=by omega
 have vw:=ah hpi;have TI:=ah hls;have ahG:=ah hsz;have HK:=ah hK;have HD:=ah hd;clear hpi hls hsz hK hd;simp only[Tryz.ntmps132,List.size_toArray,List.length_cons,List.length_nil,Nat.reduceAdd,Nat.reduceSub,Array.replicate_succ,Array.replicate_zero,List.push_toArray,List.append_toArray,List.nil_append,List.cons_append];refine wpIn_wide.2 ?_;go_wp2;go_step3;go_wp2;go_step3;go_wp2_with (go_at_call 214;refine((callsIn_wide (n:=5)).1 (Ss Fence.wide 5 trivial rfl _ _ _)).mono ?_;rintro e w' ⟨rfl,rfl⟩);obtain⟨W0,hW0⟩:∃W0,(((w.alloc (.cells #[.slice none 0 0] 89)).alloc (.cells #[.int .i64 first] 3)).alloc (.cells #[.pointer (some ⟨g,0,none⟩)] 29)).alloc (.cells #[.int .i64 first] 3)=W0:=⟨_,rfl⟩;have hsz:W0.heap.size=w.heap.size+4:=by rw[<-hW0];simp
 have hk0:Kept aj w W0:=by rw[<-hW0];exact by(repeat'(first|(with_reducible first|exact ak|apply au|apply ay|apply aA|apply aB)|(right;simp;done)))
 have hB0:Below w.heap.size w W0:=Kept.below hk0 (Nat.le_refl _) (fun _ z=>z.elim);have hbd:Has W0 (w.heap.size+2) 29 #[.pointer (some ⟨g,0,none⟩)]:=by rw[<-hW0];exact(Has.bK _ 29 #[.pointer (some ⟨g,0,none⟩)] (by simp)).alloc _
 have hbf:Has W0 (w.heap.size+3) 3 #[.int .i64 first]:=by rw[<-hW0];exact Has.bK _ 3 #[.int .i64 first] (by simp)
 have hd0:aZ W0 g F nn m ps aX aQ:=HD.out.kept hk0 (fun _ _ z=>z);have hI0:RI w first [] W0:=by
  refine⟨⟨none,0,?_,⟨⟨rfl,.inl ⟨rfl,rfl⟩⟩,(fun k hk=>by cases hk)⟩,?_⟩,hB0,by rw[hsz];exact Nat.le_refl _⟩
  ·rw[<-hW0];exact(((Has.bK _ 89 #[.slice none 0 0] rfl).alloc _).alloc _).alloc _
  ·rw[<-hW0];exact((Has.bK _ 3 #[.int .i64 first] (by simp)).alloc _).alloc _
 rw[show w.heap.size+1+1=w.heap.size+2 from rfl,show w.heap.size+2+1=w.heap.size+3 from rfl];rw[hW0];clear hW0;have kR:=ah hsz;clear hsz;have Pv:=ah (HD.out.lt);refine(wpIn_wide (n:=5)).1 ?_
 refine wpIn_rangeFunc_ownH rfl (by omega) (gf:=248) (lb:=#[.pointer (some ⟨w.heap.size+2,0,none⟩),.pointer (some ⟨w.heap.size+3,0,none⟩)]) rfl (hfn _) (enters_of Tryz.func248 (by kernel_rfl) rfl)
  (Yt (5-1) (by omega) (w.heap.size+2) (w.heap.size+3) g nn F (EE w) m ps aX aQ first K ls W0 hd0 hbd hbf (fun k h=>by have:=kR.out;rcases h with h|h<;>omega) vw.out hnn hps ahG.out h1 h2 HK.out TI.out) KS.trans
  (KS.put (fun k h=>by have:=kR.out;rcases h with h|h|h;exact Nat.lt_of_lt_of_le (Pv.out k h) (by omega);omega;omega)) (Below.refl _ _) (fun _=>rfl)
  (RI w first) (fun _ _ _=>False) (afF w first _ (by rw[kR.out];exact Nat.le_refl _)) (fun _ _ _ _ _ h _ _=>h) hI0
  (fun x a' W=>a'={tmps:=#[.pointer (some ⟨g,0,none⟩),.int .i64 first,undef,undef,.slice none 0 0,.int .i64 0,.pointer (some ⟨w.heap.size,0,none⟩),.pointer (some ⟨w.heap.size+1,0,none⟩),.int .i64 x.1.1,.string x.1.2,undef,undef,undef,.pointer (some ⟨g,0,none⟩),.bool false,.bool false,.int .i64 first,.bool (decide (first<1)),.bool (decide (first<1)),.bool (decide (first<1)),.int .i64 first,.bool (decide (1073741824<first)),.bool (decide (first<1)||decide (1073741824<first)),undef,.int .i64 first,.pointer (some ⟨g,0,none⟩),.int .i64 first,.func (.func 248) #[] #[.pointer (some ⟨w.heap.size+2,0,none⟩),.pointer (some ⟨w.heap.size+3,0,none⟩)],.int .i64 x.1.1,.string x.1.2,undef,undef,undef,undef,undef,undef,undef,undef,undef,undef,undef,undef,undef,undef,undef,undef,undef,undef,undef,undef,undef],defers:=[]})
  (fun x a' _ X Y row hs hg hr=>hs)
  ?assign ?body ?done ?stop
 case assign=>
  rintro l pre x W K hI hK;gi_wp2;exact hK _ _ (KeepsFrom.refl _ _) KS.refl hI rfl
 case body=>
  rintro l pre x a' W hl ⟨r,hr⟩ ⟨⟨A,c,hb5,hrow,hb6⟩,hB,zS⟩ rfl hlt;have hal:=O9 W x.1.2 x.2.1;have hpl:=Yu pre;have hxl:=LZ x;have hx1:=x.2.2.1;have hx2:=x.2.2.2
  have hend:∀(w2:World) (A2:Option Addr) (c2:Nat),aF 9 1 W.heap.size w2 A2 (dF (aY (bl x.1.2))).length c2 (dn (dF (aY (bl x.1.2))))->Below W.heap.size W w2->
    ∃A' c' w',(appG #[89,89] 89 #[.slice A (eG pre).length c,.slice A2 (dF (aY (bl x.1.2))).length c2]).run Tryz.prog w2=.ok (.slice A' ((eG pre).length+(dF (aY (bl x.1.2))).length) c') w'/\
     Has w2 w.heap.size 89 #[.slice A (eG pre).length c]/\Has w' w.heap.size 89 #[.slice A (eG pre).length c]/\Has w' (w.heap.size+1) 3 #[.int .i64 (zx first pre)]/\
     ∀Wf y,Kept (EE w) w' Wf->Has Wf w.heap.size 89 #[.slice A' ((eG pre).length+(dF (aY (bl x.1.2))).length) c']->Has Wf (w.heap.size+1) 3 #[.int .i64 y]->y=zx first (pre++[x])->
      ownPostG W0.heap.size (KS (fun k=>F k\/k=w.heap.size+2\/k=w.heap.size+3) (EE w)) (RI w first) (fun _ _ _=>False) (pre++[x]) W Exit.normal {tmps:=#[],defers:=[]} Wf:=by
   intro w2 A2 c2 hn2 hb2;have hk12:Kept aj W w2:=Kept.of_below hb2 (fun k hk _=>hk);obtain⟨v',w',hrun,hown,hgr,hbl⟩:=vW (P:=Tryz.prog) (ty:=89) (w:=w2) yO (v:=.slice A (eG pre).length c) (n:=(eG pre).length) (xs:=dn (eG pre)) (aC hrow.1 hk12 (fun _ _ z=>z)) (A:=A2) (m:=(dF (aY (bl x.1.2))).length) (c:=c2) (news:=dn (dF (aY (bl x.1.2)))) (Src.bF hn2.1) (Vd _) (by unfold maxLen;omega) (by omega);obtain⟨A',c',rfl,_⟩:=Ci hown;have hkg:Kept (fun k=>RowOf (.slice A (eG pre).length c) k) w2 w':=Kept.grown (Kept.refl _ w2) hgr (fun k hk=> .inl hk);have hlow:∀k,k<w.heap.size+4->¬RowOf (.slice A (eG pre).length c) k:=fun k hk h=>by have:=hrow.2 _ h;omega
   refine⟨A',c',w',hrun,hb5.kept hk12 (fun z=>z),(hb5.kept hk12 (fun z=>z)).kept hkg (hlow _ (by omega)),(hb6.kept hk12 (fun z=>z)).kept hkg (hlow _ (by omega)),fun Wf y h1 h2 h3 h4=> ?_⟩;have h5:=afG (A2:=A2) (c2:=c2) (FF:=fun k=>F k\/k=w.heap.size+2\/k=w.heap.size+3) (fun k h=>by rcases h with h|h|h;exact .inl (Pv.out k h);exact .inr (.inl h);exact .inr (.inr h)) hrow hB zS hb2 hown hgr hbl h1 h2 h3 h4;show KeepsFrom W0.heap.size _ _/\_;rw[kR.out];exact h5
  have HAL:=ah hal;have jI:=ah hend;have vT:=ah (Pq first pre x);clear hal hend hpl hxl hb5 hrow hb6 hB;obtain⟨⟨x1,x2⟩,hxp⟩:=x;dsimp only at*
  gi_wp2_with (gi_at_call 130;(refine(callsIn_wide.2 HAL.out).mono ?_;rintro e w2 ⟨A2,c2,rfl,hn2,hb2⟩;obtain⟨A',c',w',hrun,uO,h5,h6,hfin⟩:=jI.out w2 A2 c2 hn2 hb2;have d0:=uO.cell 0;have bU:=ah hfin;have f0:=h5.frozen 0;have f1:=h6.frozen 0;have e0:=h5.cell 0;have e1:=h6.cell 0;have H5:=ah h5;have H6:=ah h6;clear hn2 hb2 hfin uO h5 h6))
  ·refine bU.out _ _ ((((Kept.refl _ w').put (.inl (.inl rfl))).put (.inl (.inr rfl)))) ((H5.out.dH rfl).past (by omega)) ((H6.out.past (by omega)).dH rfl) ?_;rw[vT.out,if_pos];have h8:oV (aY (bl x2))=0:=by assumption
   have h9:(x2.size:Int)<256:=by assumption
   simp[xG,h8];omega
  ·refine bU.out _ _ (((((Kept.refl _ w').put (.inl (.inl rfl))).put (.inl (.inr rfl))).put (.inl (.inr rfl)))) (((H5.out.dH rfl).past (by omega)).past (by omega)) (((H6.out.past (by omega)).dH rfl).dH rfl) ?_;rw[vT.out,if_neg];have h9:256<=(x2.size:Int):=by assumption
   simp[xG];omega
  ·refine bU.out _ _ (((((Kept.refl _ w').put (.inl (.inl rfl))).put (.inl (.inr rfl))).put (.inl (.inr rfl)))) (((H5.out.dH rfl).past (by omega)).past (by omega)) (((H6.out.past (by omega)).dH rfl).dH rfl) ?_;rw[vT.out,if_neg];have h8:¬oV (aY (bl x2))=0:=by assumption
   simp[xG,h8]
 case done=>
  rintro D xs W hD rfl ⟨⟨A,c,hb5,hrow,hb6⟩,hB,zS⟩ hK;have hDW:w.heap.size+4<=D:=by have:=kR.out;omega
  have e0:W.cell? ⟨w.heap.size,0,none⟩=some (.slice A (eG xs).length c):=hb5.cell 0;have e1:W.cell? ⟨w.heap.size+1,0,none⟩=some (.int .i64 (zx first xs)):=hb6.cell 0
  have hfin:∀(tmps:Array Value) (k:Nat),tmps.getD 4 undef=.slice A (eG xs).length c->tmps.getD 5 undef=.int .i64 (zx first xs)->
    bodyPostM Fence.wide 5 Tryz.prog Tryz.f132 (Df w first xs) Exit.ret {tmps:=tmps,defers:=[{target:=.collected D,args:=#[]}]} W.drew:=by
   intro tmps k p0 p1;have LQ:W.drew.heap[D]? =some (.deferred (some [])):=hK;refine⟨by simp,.inl ⟨_,_,rfl,run_takeDeferred LQ,?_⟩⟩;have q0:tmps[4]?.getD undef=.slice A (eG xs).length c:=by simpa using p0
   have q1:tmps[5]?.getD undef=.int .i64 (zx first xs):=by simpa using p1
   refine⟨_,?_,A,c,rfl,⟨ownsRow_putObj (W:=W.drew) hrow.1 _ LQ rfl,fun g hg=>Nat.le_trans (by omega) (hrow.2 g hg)⟩,hB.drew.trans (belowK_b (w:=w) (Nat.le_refl _) W.drew D _ _ (by omega) LQ rfl rfl)⟩;have e:Tryz.f132.results=#[.tmp 4,.tmp 5]:=rfl;simp only[results,e];simp[Sem.run_bind,Result.andThen,q0,q1,go_sem]
  have bU:=ah hfin;clear hfin hrow hB hb5 hb6;go_wp2;go_region
  all_goals
   go_wp2
   refine bU.out _ 0 ?_ ?_<;>rfl
 case stop=>
  rintro D cc pre W hD hSp h hK;exact h.elim
end Wl
end Go.Proofs.YtomccaocggplgaaGreat
namespace Go.Proofs.YtomccaocggplgaaGreat
namespace Wl
open aH Fr Vn Ops
structure o8 where
 ts:List (List UInt8)
 q:List UInt8
def pR(f:o8):List UInt8:=dY f.ts++f.q
structure TJ(f:o8):Prop where
 ts:∀t∈f.ts,t.length<=65536
 q:∃t':List UInt8,t'.length<=65536/\f.q<+:bM t'/\f.q.length<(bM t').length
 size:(pR f).length<=66000
def full(f:o8):Prop:=f.q≠[]\/256<=(pR f).length
instance(f:o8):Decidable (full f):=by unfold full;exact inferInstance
abbrev St:=List o8
def lastOf:St->Nat
 |[]=>0
 |f::R=>if full f then R.length+1 else R.length
def app(R:St)(t:List UInt8):St:=match R with
 |[]=>[⟨[t],[]⟩]
 |f::R=>if full f then ⟨[t],[]⟩::f::R else⟨f.ts++[t],[]⟩::R
def tail(R:St)(q:List UInt8):St:=match R with
 |[]=>[⟨[],q⟩]
 |f::R=>if full f then ⟨[],q⟩::f::R else⟨f.ts,q⟩::R
def lZ:St->Nat->List UInt8
 |[],_=>[]
 |f::R,i=>if i=R.length then pR f else lZ R i
def texts:St->List (List UInt8)
 |[]=>[]
 |f::R=>texts R++f.ts
def Ok(R:St):Prop:=∀f∈R,TJ f
theorem FW{R:St}{i:Nat}(h:R.length<=i):lZ R i=[]:=by
 induction R with
 |nil=>rfl
 |cons f R ih=>simp only[lZ];rw[if_neg (by simp at h;omega),ih (by simp at h;omega)]
theorem EN(R:St):lastOf R<=R.length:=by
 cases R with
 |nil=>exact Nat.le_refl _
 |cons f R=>simp only[lastOf];split<;>simp
theorem zZ{f:o8}{R:St}(h:full f):lastOf (f::R)=R.length+1:=by simp only[lastOf];rw[if_pos h]
theorem Di{f:o8}{R:St}(h:¬full f):lastOf (f::R)=R.length:=by simp only[lastOf];rw[if_neg h]
theorem Ib{f:o8}{R:St}{t:List UInt8}(h:full f):app (f::R) t=⟨[t],[]⟩::f::R:=by simp only[app];rw[if_pos h]
theorem KG{f:o8}{R:St}{t:List UInt8}(h:¬full f):app (f::R) t=⟨f.ts++[t],[]⟩::R:=by simp only[app];rw[if_neg h]
theorem EO{f:o8}{R:St}{t:List UInt8}(h:full f):tail (f::R) t=⟨[],t⟩::f::R:=by simp only[tail];rw[if_pos h]
theorem Ic{f:o8}{R:St}{t:List UInt8}(h:¬full f):tail (f::R) t=⟨f.ts,t⟩::R:=by simp only[tail];rw[if_neg h]
theorem Jn(ts:List (List UInt8))(t:List UInt8):dY (ts++[t])=dY ts++bM t:=by simp[dY]
theorem aeo(R:St)(t:List UInt8)(i:Nat):lZ (app R t) i=lZ R i++if i=lastOf R then bM t else []:=by
 cases R with
 |nil=>
  simp only[app,lZ,lastOf,List.length_nil];by_cases h:i=0<;>simp[h,pR,dY]
 |cons f R=>
  by_cases hf:full f
  ·rw[Ib hf,zZ hf];simp only[lZ,List.length_cons];by_cases h:i=R.length+1
   ·subst h;rw[if_pos rfl,if_pos rfl,if_neg (by omega),FW (by omega)];simp[pR,dY]
   ·rw[if_neg h,if_neg h,List.append_nil]
  ·rw[KG hf,Di hf];simp only[lZ];by_cases h:i=R.length
   ·rw[if_pos h,if_pos h,if_pos h];have hq:f.q=[]:=by
     rcases Classical.em (f.q=[])with h|h
     ·exact h
     ·exact absurd (.inl h) hf
    simp[pR,hq,Jn]
   ·rw[if_neg h,if_neg h,if_neg h,List.append_nil]
theorem aep(R:St)(t:List UInt8)(i:Nat):i<(app R t).length↔i<R.length\/i=lastOf R:=by
 cases R with
 |nil=>simp[app,lastOf]
 |cons f R=>
  by_cases hf:full f
  ·rw[Ib hf,zZ hf];simp;omega
  ·rw[KG hf,Di hf];simp;omega
theorem abC(R:St)(q:List UInt8)(i:Nat):lZ (tail R q) i=lZ R i++if i=lastOf R then q else []:=by
 cases R with
 |nil=>
  simp only[tail,lZ,lastOf,List.length_nil];by_cases h:i=0<;>simp[h,pR,dY]
 |cons f R=>
  by_cases hf:full f
  ·rw[EO hf,zZ hf];simp only[lZ,List.length_cons];by_cases h:i=R.length+1
   ·subst h;rw[if_pos rfl,if_pos rfl,if_neg (by omega),FW (by omega)];simp[pR,dY]
   ·rw[if_neg h,if_neg h,List.append_nil]
  ·rw[Ic hf,Di hf];simp only[lZ];by_cases h:i=R.length
   ·rw[if_pos h,if_pos h,if_pos h];have hq:f.q=[]:=by
     rcases Classical.em (f.q=[])with h|h
     ·exact h
     ·exact absurd (.inl h) hf
    simp[pR,hq]
   ·rw[if_neg h,if_neg h,if_neg h,List.append_nil]
theorem abD(R:St)(q:List UInt8)(i:Nat):i<(tail R q).length↔i<R.length\/i=lastOf R:=by
 cases R with
 |nil=>simp[tail,lastOf]
 |cons f R=>
  by_cases hf:full f
  ·rw[EO hf,zZ hf];simp;omega
  ·rw[Ic hf,Di hf];simp;omega
theorem L6(R:St)(t:List UInt8):texts (app R t)=texts R++[t]:=by
 cases R with
 |nil=>simp[app,texts]
 |cons f R=>simp only[app];split<;>simp[texts]
theorem Ve(R:St)(q:List UInt8):texts (tail R q)=texts R:=by
 cases R with
 |nil=>simp[tail,texts]
 |cons f R=>simp only[tail];split<;>simp[texts]
theorem Ie{t:List UInt8}(h:t.length<=65536):(bM t).length<=65549:=by rw[oN];have:=nD (n:=t.length) (by omega);omega
theorem Px:∃t':List UInt8,t'.length<=65536/\([]:List UInt8)<+:bM t'/\([]:List UInt8).length<(bM t').length:=
 ⟨[],Nat.zero_le _,List.nil_prefix,by rw[oN];simp⟩
theorem Yv{R:St}(h:Ok R){t:List UInt8}(ht:t.length<=65536):Ok (app R t):=by
 have hfr:=Ie ht;have hnew:TJ ⟨[t],[]⟩:=⟨fun x hx=>by simp at hx;subst hx;exact ht,Px,by simp[pR,dY];omega⟩;cases R with
 |nil=>intro f hf;simp[app]at hf;subst hf;exact hnew
 |cons f R=>
  simp only[app];split
  ·intro g hg;rcases List.mem_cons.1 hg with rfl|hg
   ·exact hnew
   ·exact h g hg
  ·rename_i hf;intro g hg;rcases List.mem_cons.1 hg with rfl|hg
   ·have ho:=h f (by simp);refine⟨fun x hx=> ?_,Px,?_⟩
    ·rcases List.mem_append.1 hx with hx|hx
     ·exact ho.ts x hx
     ·simp at hx;subst hx;exact ht
    ·have h2:¬256<=(pR f).length:=fun z=>hf (.inr z);simp[pR,Jn]at h2⊢;omega
   ·exact h g (List.mem_cons_of_mem _ hg)
theorem aer{R:St}(h:Ok R){t q:List UInt8}(ht:t.length<=65536)(hq:q<+:bM t)(hl:q.length<(bM t).length):Ok (tail R q):=by
 have hfr:=Ie ht;have hnew:TJ ⟨[],q⟩:=⟨fun x hx=>by simp at hx,⟨t,ht,hq,hl⟩,by simp[pR,dY];omega⟩;cases R with
 |nil=>intro f hf;simp[tail]at hf;subst hf;exact hnew
 |cons f R=>
  simp only[tail];split
  ·intro g hg;rcases List.mem_cons.1 hg with rfl|hg
   ·exact hnew
   ·exact h g hg
  ·rename_i hf;intro g hg;rcases List.mem_cons.1 hg with rfl|hg
   ·have ho:=h f (by simp);refine⟨ho.ts,⟨t,ht,hq,hl⟩,?_⟩;have h2:¬256<=(pR f).length:=fun z=>hf (.inr z);simp[pR]at h2⊢;omega
   ·exact h g (List.mem_cons_of_mem _ hg)
def cur(R:St)(T:List (List UInt8)):St:=T.foldl app R
theorem Dj(R:St)(t:List UInt8)(T:List (List UInt8)):cur R (t::T)=cur (app R t) T:=rfl
theorem Py(R:St)(T:List (List UInt8))(t:List UInt8):cur R (T++[t])=app (cur R T) t:=by simp[cur]
theorem rF(R:St):∀T,texts (cur R T)=texts R++T:=by
 intro T;induction T generalizing R with
 |nil=>simp[cur]
 |cons t T ih=>rw[Dj,ih,L6];simp
theorem Pz{R:St}(h:Ok R){T:List (List UInt8)}(hT:∀t∈T,t.length<=65536):Ok (cur R T):=by
 induction T generalizing R with
 |nil=>exact h
 |cons t T ih=>exact ih (Yv h (hT t (by simp))) (fun x hx=>hT x (by simp[hx]))
theorem Ig(R:St)(t:List UInt8):(app R t).length<=R.length+1:=by
 cases R with
 |nil=>simp[app]
 |cons f R=>simp only[app];split<;>simp
theorem Yw(R:St)(t:List UInt8):(tail R t).length<=R.length+1:=by
 cases R with
 |nil=>simp[tail]
 |cons f R=>simp only[tail];split<;>simp
theorem Dk(R:St):∀T,(cur R T).length<=R.length+T.length:=by
 intro T;induction T generalizing R with
 |nil=>exact Nat.le_refl _
 |cons t T ih=>
  have h1:=ih (app R t);have h2:=Ig R t;rw[Dj,List.length_cons];omega
def jl(first:Int):St->List (List UInt8)->List Pc
 |_,[]=>[]
 |R,t::T=>(first+lastOf R,bI (bM t))::jl first (app R t) T
theorem Dl(first:Int):∀(R:St) (T:List (List UInt8)) (t:List UInt8),jl first R (T++[t])=jl first R T++[(first+lastOf (cur R T),bI (bM t))]
 |R,[],t=>rfl
 |R,x::T,t=>by
  show _::jl first (app R x) (T++[t])=_::(jl first (app R x) T++_)
  rw[Dl first (app R x) T t];rfl
theorem xH(first:Int):∀(R:St) (T:List (List UInt8)),(jl first R T).length=T.length
 |R,[]=>rfl
 |R,t::T=>by show(_::jl first (app R t) T).length=_;simp[xH first (app R t) T]
def fileAt(R:St)(i:Nat):Option ByteArray:=if i<R.length then some (bI (lZ R i))else none
def BR(first:Int)(R:St)(m:aH.Safe):Prop:=∀i:Nat,m (first+i)=fileAt R i
def mine(first:Int)(p:aH.Pc):Bool:=decide (first<=p.1)
theorem TK(a b:List UInt8):bI a++bI b=bI (a++b):=by apply ByteArray.ext;simp[bI]
theorem AX(R:St)(i:Nat):(fileAt R i).getD ⟨#[]⟩=bI (lZ R i):=by
 unfold fileAt;split
 ·rfl
 ·rw[FW (by omega)];rfl
theorem TL{first:Int}{R:St}{m:aH.Safe}(h:BR first R m)(t:List UInt8):BR first (app R t) (oD m (first+lastOf R) (dU m (first+lastOf R)++bI (bM t))):=by
 intro i;have hl:=aep R t i;have hb:=aeo R t i;unfold oD dU;rw[h (lastOf R),AX,TK];by_cases e:i=lastOf R
 ·subst e;rw[if_pos rfl];unfold fileAt;rw[if_pos (hl.2 (.inr rfl)),hb,if_pos rfl]
 ·rw[if_neg (by omega),h i];unfold fileAt;rw[hb,if_neg e,List.append_nil];by_cases h2:i<R.length
  ·rw[if_pos h2,if_pos (hl.2 (.inl h2))]
  ·rw[if_neg h2,if_neg (fun z=>by rcases hl.1 z with z|z;exact h2 z;exact e z)]
theorem abE{first:Int}{R:St}{m:aH.Safe}(h:BR first R m)(q:List UInt8):BR first (tail R q) (oD m (first+lastOf R) (dU m (first+lastOf R)++bI q)):=by
 intro i;have hl:=abD R q i;have hb:=abC R q i;unfold oD dU;rw[h (lastOf R),AX,TK];by_cases e:i=lastOf R
 ·subst e;rw[if_pos rfl];unfold fileAt;rw[if_pos (hl.2 (.inr rfl)),hb,if_pos rfl]
 ·rw[if_neg (by omega),h i];unfold fileAt;rw[hb,if_neg e,List.append_nil];by_cases h2:i<R.length
  ·rw[if_pos h2,if_pos (hl.2 (.inl h2))]
  ·rw[if_neg h2,if_neg (fun z=>by rcases hl.1 z with z|z;exact h2 z;exact e z)]
theorem KH{first:Int}{R:St}{m:aH.Safe}(h:BR first R m){x:Int}(hx:x<first)(s:ByteArray):BR first R (oD m x s):=by intro i;unfold oD;rw[if_neg (by omega)];exact h i
theorem Dn{first:Int}:∀(ps:List aH.Pc) {R:St} {m:aH.Safe} {T:List (List UInt8)},BR first R m->ps.filter (mine first)=jl first R T->BR first (cur R T) (l7 m ps)
 |[],R,m,T,h,hp=>by
  cases T with
  |nil=>exact h
  |cons t T=>cases hp
 |p::ps,R,m,T,h,hp=>by
  unfold l7;by_cases hx:first<=p.1
  ·rw[List.filter_cons_of_pos (by simpa [mine]using hx)]at hp;cases T with
   |nil=>cases hp
   |cons t T=>
    injection hp with h1 h2;subst h1;exact Dn ps (T:=T) (TL h t) h2
  ·rw[List.filter_cons_of_neg (by simpa [mine]using hx)]at hp;exact Dn ps (KH h (by omega) _) hp
theorem Sv(l:List UInt8)(k:Nat):(bI l).extract 0 k=bI (l.take k):=by apply ByteArray.ext;simp[bI,ByteArray.extract,ByteArray.copySlice]
theorem Yx(ps:List aH.Pc):∀(m:aH.Safe) (x:Int),l7 m ps x=if cu m ps x=true then some (dataOf m ps x)else none:=by
 induction ps with
 |nil=>
  intro m x;unfold l7 cu;cases hm:m x with
  |none=>simp
  |some s=>simp[dataOf,ofFile,dU,hm]
 |cons p ps ih=>
  intro m x;unfold l7;rw[ih];have h1:cu (oD m p.1 (dU m p.1++p.2)) ps x=cu m (p::ps) x:=by
   unfold cu oD;by_cases hx:x=p.1
   ·subst hx;simp
   ·have:¬p.1=x:=fun h=>hx h.symm;rw[if_neg hx];simp[this]
  have h2:dataOf (oD m p.1 (dU m p.1++p.2)) ps x=dataOf m (p::ps) x:=by
   unfold dataOf;rw[LW,GH];by_cases hx:x=p.1
   ·subst hx;simp
   ·have:¬p.1=x:=fun h=>hx h.symm;rw[if_neg hx,if_neg this];simp
  rw[h1,h2]
def Yy(first:Int):St->List (Int×ByteArray)
 |[]=>[]
 |f::R=>Yy first R++[(first+R.length,bI (pR f))]
theorem Jo(p:Int->Bool)(d:Int->ByteArray):∀(k:Nat) (x:Int),(∀i:Nat,i<k+1->p (x+i)=true)->jY p d (k+1) x=jY p d k x++[(x+k,d (x+k))]
 |0,x,h=>by have h0:=h 0 (by omega);simp at h0;simp[jY,h0]
 |k+1,x,h=>by
  have h0:=h 0 (by omega);simp at h0;have ih:=Jo p d k (x+1) (fun i hi=>by have:=h (i+1) (by omega);rw[<-this];congr 1;omega);rw[jY,if_pos h0,ih];conv=>rhs;rw[jY,if_pos h0]
  simp only[List.cons_append];have e:x+1+(k:Int)=x+((k+1:Nat):Int):=by omega
  rw[e]
theorem TM{first:Int}{p:Int->Bool}{d:Int->ByteArray}:∀{R:St},(∀i:Nat,i<R.length->p (first+i)=true/\d (first+i)=bI (lZ R i))->jY p d R.length first=Yy first R
 |[],_=>rfl
 |f::R,h=>by
  rw[List.length_cons,Jo p d R.length first (fun i hi=>(h i (by simpa using hi)).1),TM (R:=R) (fun i hi=>by have:=h i (by simp;omega);refine⟨this.1,?_⟩;rw[this.2];simp only[lZ];rw[if_neg (by omega)])]
  have h2:=(h R.length (by simp)).2;rw[h2];simp[Yy,lZ]
theorem KI{f:o8}(h:TJ f):dF (aY (pR f))=f.ts/\oV (aY (pR f))=if f.q=[]then 0 else qw 2:=by obtain⟨t',h1,h2,h3⟩:=h.q;have:=Yi f.ts f.q t' h.ts h1 h2 h3;exact⟨this.1,this.2.2⟩
theorem Yz{f:o8}(h:TJ f):xG (bI (pR f))= !decide (full f):=by
 unfold xG full;rw[jq,nI,(KI h).2];by_cases hq:f.q=[]
 ·by_cases hs:(pR f).length<256
  ·have:¬256<=(pR f).length:=by omega
   simp[hq,hs]
  ·have:256<=(pR f).length:=by omega
   simp[hq,this]
 ·have:=O1 2;simp[hq,this]
theorem TN{first:Int}(h1:1<=first)(h2:first<=1152921504606846976):∀{R:St},Ok R->R.length<=1152921504606846976->∃ls:List Sg,ls.map (·.1)=Yy first R/\eG ls=texts R/\(∀a,R≠[]->zx a ls=first+lastOf R)/\ls.length=R.length
 |[],_,_=>⟨[],rfl,rfl,fun a h=>absurd rfl h,rfl⟩
 |f::R,ho,hl=>by
  obtain⟨ls,h3,h4,_,h6⟩:=TN h1 h2 (R:=R) (fun g hg=>ho g (List.mem_cons_of_mem _ hg)) (by simp at hl;omega);have hf:=ho f (by simp);simp only[List.length_cons]at hl;let x:Sg:=⟨(first+R.length,bI (pR f)),by rw[nI];have:=hf.size;show _<=_;omega,by show 1<=first+(R.length:Int);omega,by show first+(R.length:Int)<=_;omega⟩;refine⟨ls++[x],by rw[List.map_append,h3];rfl,?_,fun a _=> ?_,by simp[h6]⟩
  ·rw[yH,h4];show _++dF (aY (bl (bI (pR f))))=texts R++f.ts;rw[jq,(KI hf).1]
  ·rw[Pq];show(if xG (bI (pR f))=true then first+(R.length:Int)else first+(R.length:Int)+1)=_;rw[Yz hf];simp only[lastOf];by_cases hfu:full f
   ·simp[hfu];omega
   ·simp[hfu]
structure Log(first:Int)(R:St)(T:List (List UInt8))(m:aH.Safe)(ps:List aH.Pc):Prop where
 safe:BR first R m
 rest:ps.filter (mine first)=jl first R T
 ok:Ok R
 T:∀t∈T,t.length<=65536
section
variable{first:Int}{R:St}{T:List (List UInt8)}{m:aH.Safe}{ps:List aH.Pc}
theorem Log.file(h:Log first R T m ps)(i:Nat):cu m ps (first+i)=decide (i<(cur R T).length)/\dataOf m ps (first+i)=bI (lZ (cur R T) i):=by
 have h1:=Dn ps h.safe h.rest i;rw[Yx]at h1;unfold fileAt at h1;by_cases hi:i<(cur R T).length
 ·rw[if_pos hi]at h1;split at h1
  ·rename_i h2;injection h1 with h1;exact⟨by simp[h2,hi],h1⟩
  ·cases h1
 ·rw[if_neg hi]at h1;split at h1
  ·cases h1
  ·rename_i h2;refine⟨by simp[hi,h2],?_⟩;rw[FW (by omega)];have h3:=h2;unfold cu at h3;simp only[Bool.or_eq_true,not_or,Bool.not_eq_true,List.any_eq_false,decide_eq_true_eq,Option.isSome_eq_false_iff,Option.isNone_iff_eq_none]at h3;unfold dataOf dU;rw[h3.1];have:ofFile (first+i) ps=[]:=by unfold ofFile;rw[List.flatMap_eq_nil_iff];intro p hp;rw[if_neg (h3.2 p hp)]
   rw[this];rfl
theorem Log.abG(h:Log first R T m ps):jY (cu m ps) (dataOf m ps) (cur R T).length first=Yy first (cur R T)/\cu m ps (first+(cur R T).length)=false:=
 ⟨TM fun i hi=>⟨by rw[(h.file i).1];simpa using hi,(h.file i).2⟩,by rw[(h.file _).1];simp⟩
theorem Log.append(h:Log first R T m ps){t:List UInt8}(ht:t.length<=65536):Log first R (T++[t]) m (ps++[(first+lastOf (cur R T),bI (bM t))]):=
 ⟨h.safe,by rw[List.filter_append,h.rest,Dl];congr 1;simp[mine];omega,h.ok,fun x hx=>by rcases List.mem_append.1 hx with hx|hx;exact h.T x hx;simp at hx;subst hx;exact ht⟩
theorem Log.sync(h:Log first R T m ps):Log first (cur R T) [] (l7 m ps) []:=⟨Dn ps h.safe h.rest,rfl,Pz h.ok h.T,fun t ht=>by cases ht⟩
theorem abH(R:St)(t:List UInt8):lastOf (app R t)=if 256<=(lZ (app R t) (lastOf R)).length then lastOf R+1 else lastOf R:=by
 cases R with
 |nil=>
  have e:app [] t=[⟨[t],[]⟩]:=rfl;rw[e];simp only[lastOf,lZ,List.length_nil,if_true,full,ne_eq,not_true_eq_false,false_or]
 |cons f R=>
  by_cases hf:full f
  ·have e:app (f::R) t=⟨[t],[]⟩::f::R:=by simp only[app];rw[if_pos hf]
   have e2:lastOf (f::R)=R.length+1:=by simp only[lastOf];rw[if_pos hf]
   rw[e,e2];simp[lastOf,lZ,full]
  ·have e:app (f::R) t=⟨f.ts++[t],[]⟩::R:=by simp only[app];rw[if_neg hf]
   have e2:lastOf (f::R)=R.length:=by simp only[lastOf];rw[if_neg hf]
   rw[e,e2];simp[lastOf,lZ,full]
