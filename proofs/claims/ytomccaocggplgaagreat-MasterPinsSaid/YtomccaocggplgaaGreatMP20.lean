/- Part 21. -/
import Derived.Test.YtomccaocggplgaaGreatMP07
import Derived.Test.YtomccaocggplgaaGreatMP13
import Derived.Test.YtomccaocggplgaaGreatMP19
set_option linter.unusedSimpArgs false
set_option linter.unusedVariables false
set_option maxHeartbeats 32000000
set_option maxRecDepth 100000
namespace Go.Proofs.YtomccaocggplgaaGreat
open Go.RowKit
namespace Pt
open aH Fr Vn Ops Wl
structure qx(first:Int)(m:aH.Safe)(ps:List aH.Pc):Prop where
 file:∀x,x<first->m x=none
 pc:∀p∈ps,first<=p.1
section
variable{first:Int}{R:St}{T:List (List UInt8)}{m:aH.Safe}{ps:List aH.Pc}
theorem qx.low(h:qx first m ps):Low first m ps:=⟨fun x hx=>by unfold dU;rw[h.file x hx];rfl,h.pc⟩
theorem PN{x:Int}:∀(ps:List aH.Pc) (m:aH.Safe),(∀p∈ps,p.1≠x)->l7 m ps x=m x
 |[],_,_=>rfl
 |p::ps,m,h=>by have h1:=h p (by simp);rw[l7,PN ps _ (fun q hq=>h q (by simp[hq]))];unfold oD;rw[if_neg (fun e=>h1 e.symm)]
theorem MH{x:Int}:∀(ps:List aH.Pc) (m:aH.Safe) (left:Nat),(∀p∈ps,p.1≠x)->qK m left ps x=m x
 |[],_,_,_=>rfl
 |p::ps,m,left,h=>by
  have h1:=h p (by simp);have h2:∀s,oD m p.1 s x=m x:=fun s=>by unfold oD;rw[if_neg (fun e=>h1 e.symm)]
  unfold qK;split
  ·split
   ·rfl
   ·exact h2 _
  ·rw[MH ps _ _ (fun q hq=>h q (by simp[hq])),h2]
theorem qx.sync(h:qx first m ps):qx first (l7 m ps) []:=
 ⟨fun x hx=>by rw[PN ps m (fun p hp e=>by have:=h.pc p hp;omega)];exact h.file x hx,fun p hp=>by cases hp⟩
theorem qx.Vr(h:qx first m ps)(left:Nat):qx first (qK m left ps) []:=
 ⟨fun x hx=>by rw[MH ps m left (fun p hp e=>by have:=h.pc p hp;omega)];exact h.file x hx,fun p hp=>by cases hp⟩
theorem qx.append(h:qx first m ps){f:Int}{s:ByteArray}(hf:first<=f):qx first m (ps++[(f,s)]):=
 ⟨h.file,fun p hp=>by
  rcases List.mem_append.1 hp with hp|hp
  ·exact h.pc p hp
  ·simp at hp;subst hp;exact hf⟩
theorem qx.cu(h:qx first m ps)(hl:Log first R T m ps)(x:Int):cu m ps x=decide (first<=x/\x<first+(cur R T).length):=by
 by_cases hx:first<=x
 ·have h1:=(hl.file (x-first).toNat).1;rw[show first+((x-first).toNat:Int)=x by omega]at h1;rw[h1];congr 1;rw[eq_iff_iff];omega
 ·have h1:¬(first<=x/\x<first+(cur R T).length):=fun h=>hx h.1;rw[decide_eq_false h1];unfold aH.cu;rw[h.file x (by omega)];simp only[Option.isSome_none,Bool.false_or,List.any_eq_false,decide_eq_true_eq];intro p hp e;have:=h.pc p hp;omega
theorem Log.above(h:Log first R T m ps):Log (first+(cur R T).length) [] [] m ps:=by
 have hno:∀i:Nat,aH.cu m ps (first+(cur R T).length+i)=false:=fun i=>by have:=(h.file ((cur R T).length+i)).1;rw[show first+(((cur R T).length+i:Nat):Int)=first+(cur R T).length+i by omega]at this;rw[this];simp
 refine⟨fun i=> ?_,?_,(fun f hf=>by cases hf),(fun t ht=>by cases ht)⟩
 ·have:=hno i;unfold aH.cu at this;simp only[Bool.or_eq_false_iff,Option.isSome_eq_false_iff,Option.isNone_iff_eq_none]at this;rw[this.1];rfl
 ·show _=[];rw[List.filter_eq_nil_iff];intro p hp hm;simp only[mine,decide_eq_true_eq]at hm;have:=hno (p.1-(first+(cur R T).length)).toNat;rw[show first+((cur R T).length:Int)+((p.1-(first+(cur R T).length)).toNat:Int)=p.1 by omega]at this;unfold aH.cu at this;simp only[Bool.or_eq_false_iff,List.any_eq_false,decide_eq_true_eq]at this;exact this.2 p hp rfl
end
def sD(a b:Int)(m:aH.Safe):aH.Safe:=fun x=>if a<=x/\x<b then m x else none
def wT(a b:Int)(fl:List Int)(m:aH.Safe):aH.Safe:=fun x=>if x∈fl/\¬(a<=x/\x<b)then none else m x
theorem Vs{fl:List Int}(h:fl.Pairwise (· <·)){i:Nat}{x:Int}(hx:fl[i]? =some x):x∉fl.take i:=by intro hm;obtain⟨j,hj,e⟩:=List.getElem_of_mem hm;rw[List.length_take]at hj;rw[List.getElem_take]at e;obtain⟨hi,e2⟩:=lD0.1 hx;have:=List.pairwise_iff_getElem.1 h j i (by omega) hi (by omega);omega
theorem iK.congr{w:World}{b n:Nat}{m m':aH.Safe}(h:iK w b n m)(he:∀k,I64 k->m' k=m k):iK w b n m':=by obtain⟨D,ho,hD⟩:=h;refine⟨D,ho,fun k hk=> ?_⟩;have:=hD k hk;unfold dU at this⊢;rw[he k hk];exact this
theorem aZ.congr{F:Nat->Prop}{w:World}{g n:Nat}{m m':aH.Safe}{ps:List aH.Pc}{aX aQ:Int}(h:aZ w g F n m ps aX aQ)(he:∀k,I64 k->m' k=m k):aZ w g F n m' ps aX aQ:=by obtain⟨mb,A,c,hF,hg,hm,ho⟩:=h;exact⟨mb,A,c,hF,hg,iK.congr hm he,ho⟩
section
variable{F:Nat->Prop}{w:World}{g gp n:Nat}{m:aH.Safe}{aX aQ first:Int}
theorem keep_any(v0 v3:Value)(hp:ER w gp v0 g first v3)(hd:aZ w g F n m [] aX aQ)(hn:n<=100000)(a b:Int):
  Calls Tryz.prog 70 #[.pointer (some ⟨gp,0,none⟩),.int .i64 a,.int .i64 b] w fun e w'=>e=.returned (.tuple #[])/\aZ w' g F n (sD a b m) [] aX aQ/\Kept F w w':=by
 have hfi:=pZ hd (fun p hp=>by cases hp) hn (by decide);have hgF:¬F gp:=aZ.not hd hp (by decide) (by decide);have c1:w.cell? ⟨gp,1,none⟩=some (.pointer (some ⟨g,0,none⟩)):=hp.cell 1;have hlt:=hd.lt;have qg:=ah hfi;have HD:=ah hd;have HP:=ah hp;have HGF:=ah hgF;have sJ:=ah hlt;clear hfi hd hp hgF hlt;go_enter Tryz.func70,Tryz.ntmps70;go_wp2_with fail;refine qg.out.mono ?_;rintro e w1 ⟨fl,A,c,rfl,hfa,hown,hnew,hk1⟩;have EL:=ah hfa;have qp:=ah hown;have gI:=ah hnew;have gB:=ah hk1;have hd1:=HD.out.kept hk1 (fun _ _ z=>z);have hcap:=gJ hown;unfold maxLen at hcap;have HD1:=ah hd1;clear hfa hown hnew hk1 c1 hd1;go_wp2_with fail;go_loopw [14] (fun v14 wr=>∃i:Nat,i<=fl.length/\v14=.int .i64 i/\aZ wr g F n (wT a b (fl.take i) m) [] aX aQ/\Kept F w1 wr) (fun v14 _=>fl.length-(intOf v14).toNat)
 case atStart=>exact⟨0,Nat.zero_le _,rfl,aZ.congr HD1.out (fun k hk=>by unfold wT;rw[if_neg (fun h=>by simp at h)]),Kept.refl _ _⟩
 case round=>
  obtain⟨i,hi,rfl,hd,hk⟩:=hrel;have hsrc:Src wr 1 A fl.length (fl.map (Value.int .i64)):=by refine Src.bF (aC qp.out hk (fun b hb hf=> ?_));have h1:=gI.out b hb;have h2:=sJ.out b hf;omega
  have hpr:=(HP.out.kept gB.out (fun z=>z)).kept hk HGF.out;have d1:wr.cell? ⟨gp,1,none⟩=some (.pointer (some ⟨g,0,none⟩)):=hpr.cell 1;have HD2:=ah hd;have HK:=ah hk;have PL:=ah hsrc;clear hd hk hsrc hpr;by_cases hil:i<fl.length
  ·obtain⟨x,hx⟩:∃x,fl[i]? =some x:=⟨_,lB0 hil⟩;obtain⟨ad,rfl,-,e0⟩:=zu.vC PL.out (by omega) i x hx;have hxm:=(EL.out.mem x).1 (lC0 hx);have hnt:=Vs EL.out.rises hx;have htk:=aH.take_snoc hx;by_cases hin:a<=x/\x<b
   ·obtain⟨h1,h2⟩:=hin;have q1:¬x<a:=by omega
    have q2:¬b<=x:=by omega
    have hfin:aZ wr g F n (wT a b (fl.take (i+1)) m) [] aX aQ:=aZ.congr HD2.out (fun k hk=>by
     unfold wT;rw[htk];by_cases hkx:k=x
     ·subst hkx;rw[if_neg (fun h=>h.2 ⟨h1,h2⟩),if_neg (fun h=>hnt h.1)]
     ·simp[hkx])
    have bU:=ah hfin;clear hfin hxm hnt htk hx;go_wp2;go_roundw
    case rel=>exact⟨i+1,by omega,by go_num,bU.out,HK.out⟩
    case measure=>simp[intOf];omega
   ·have afR:cu (wT a b (fl.take i) m) [] x=true:=by have:=hxm.2;unfold cu at this⊢;unfold wT;rw[if_neg (fun h=>hnt h.1)];exact this
    have hdr:=abM HD2.out x hxm.1 hn afR
    have hfin:∀w3,aZ w3 g F n (KL (wT a b (fl.take i) m) x) [] aX aQ->aZ w3 g F n (wT a b (fl.take (i+1)) m) [] aX aQ:=fun w3 h=>aZ.congr h (fun k hk=>by
     unfold KL wT;rw[htk];by_cases hkx:k=x
     ·subst hkx;rw[if_pos ⟨by simp,hin⟩,if_pos rfl]
     ·rw[if_neg hkx];simp[hkx])
    have HDR:=ah hdr;have bU:=ah hfin;clear hdr hfin afR hxm hnt htk hx;by_cases q1:x<a
    ·go_wp2_with fail;refine HDR.out.mono ?_;rintro e w3 ⟨rfl,hd3,hk3⟩;have HD3:=ah (bU.out w3 hd3);have bu:=ah (HK.out.then hk3);clear hd3 hk3;go_wp2;go_roundw
     case rel=>exact⟨i+1,by omega,by go_num,HD3.out,bu.out⟩
     case measure=>simp[intOf];omega
    ·have q2:b<=x:=by
      rcases Int.lt_or_le x b with h|h
      ·exact absurd ⟨by omega,h⟩ hin
      ·exact h
     go_wp2_with fail;refine HDR.out.mono ?_;rintro e w3 ⟨rfl,hd3,hk3⟩;have HD3:=ah (bU.out w3 hd3);have bu:=ah (HK.out.then hk3);clear hd3 hk3;go_wp2;go_roundw
     case rel=>exact⟨i+1,by omega,by go_num,HD3.out,bu.out⟩
     case measure=>simp[intOf];omega
  ·obtain rfl:i=fl.length:=by omega
   rw[List.take_length]at HD2
   have hfin:aZ wr g F n (sD a b m) [] aX aQ:=aZ.congr HD2.out (fun k hk=>by
    unfold sD wT;by_cases hin:a<=k/\k<b
    ·rw[if_pos hin,if_neg (fun h=>h.2 hin)]
    ·rw[if_neg hin];by_cases hm:k∈fl
     ·rw[if_pos ⟨hm,hin⟩]
     ·rw[if_neg (fun h=>hm h.1)];have h9:¬cu m [] k=true:=fun h=>hm ((EL.out.mem k).2 ⟨hk,h⟩);unfold cu at h9;exact(by simpa using h9:m k=none).symm)
   have bU:=ah hfin;clear hfin;go_wp2;go_end0;exact⟨rfl,bU.out,(gB.out.mono (fun _ z=>z.elim)).then HK.out⟩
end
end Pt
namespace Pt
open aH Fr Vn Ops Wl
structure lX(w:World)(B gp gw g:Nat)(F:Nat->Prop)(n:Nat)(m:aH.Safe)(ps:List aH.Pc)(aX aQ first:Int)(R:St)(T:List (List UInt8))(A:Option Addr)(c:Nat)(l:List ByteArray):Prop where
 d:aZ w g F n m ps aX aQ
 p:ER w gp (.pointer (some ⟨gw,0,none⟩)) g first (.slice A l.length c)
 wl:D3 w gw g (first+lastOf (cur R T))
 row:aF 9 1 B w A l.length c (l.map Value.string)
 log:Log first R T m ps
 low:qx first m ps
 f1:1<=first
 tx:∃k,texts R++T=kM k l/\k+1<=(texts R).length
 hs:∀s∈l,s.size<65536
def PF(gp gw:Nat)(F:Nat->Prop)(A:Option Addr)(n c:Nat)(k:Nat):Prop:=F k\/k=gp\/k=gw\/(Value.slice A n c).ownBlock=some k
section
variable{w:World}{B gp gw g n c:Nat}{F:Nat->Prop}{m:aH.Safe}{ps:List aH.Pc}{aX aQ first:Int}{R:St}{T:List (List UInt8)}{A:Option Addr}{l:List ByteArray}
theorem lX.kept{w':World}(h:lX w B gp gw g F n m ps aX aQ first R T A c l)(hk:Kept aj w w'):lX w' B gp gw g F n m ps aX aQ first R T A c l:=
 ⟨h.d.kept hk (fun _ _ z=>z),h.p.kept hk (fun z=>z),h.wl.kept hk (fun z=>z),h.row.kept hk,h.log,h.low,h.f1,h.tx,h.hs⟩
theorem xJ{v0 v3:Value}{f:Int}(h:ER w gp v0 g f v3):Calls Tryz.prog 73 #[.pointer (some ⟨gp,0,none⟩)] w fun e w'=>e=.returned (.bool false)/\w=w':=by have c1:w.cell? ⟨gp,1,none⟩=some (.pointer (some ⟨g,0,none⟩)):=h.cell 1;clear h;go_enter Tryz.func73,Tryz.ntmps73;go_wp2;go_ret;exact⟨rfl,rfl⟩
theorem MI(h:lX w B gp gw g F n m ps aX aQ first R T A c l)(hl:l.length<=1000000):
  Calls Tryz.prog 31 #[.pointer (some ⟨gp,0,none⟩)] w fun e w'=>∃A' c',e=.returned (.slice A' l.length c')/\aF 9 1 w.heap.size w' A' l.length c' (l.map Value.string)/\Below w.heap.size w w':=by
 have hno:=xJ h.p;have hcl:=clone_any w A c l (by have:=Src.bF h.row.1;exact this) (by omega);have c3:w.cell? ⟨gp,3,none⟩=some (.slice A l.length c):=h.p.cell 3;have jK:=ah hno;have oL:=ah hcl;clear hno hcl h hl;go_enter Tryz.func31,Tryz.ntmps31;go_wp2_with fail;refine jK.out.mono ?_;rintro e w' ⟨rfl,rfl⟩;go_wp2_with fail;refine oL.out.mono ?_;rintro e w' ⟨A',c',rfl,h1,h2⟩;go_wp2;go_ret;exact⟨A',c',rfl,h1,h2⟩
theorem lX.EU(h:lX w B gp gw g F n m ps aX aQ first R T A c l):¬F gp/\¬F gw/\gp≠gw:=⟨aZ.not h.d h.p (by decide) (by decide),aZ.not h.d h.wl (by decide) (by decide),h.p.ne h.wl (by decide)⟩
theorem lX.FX(h:lX w B gp gw g F n m ps aX aQ first R T A c l){k:Nat}(hk:(Value.slice A l.length c).ownBlock=some k):¬F k/\k≠gp/\k≠gw:=by obtain⟨cs,hh⟩:=jT h.row.1 hk;exact⟨aZ.not h.d hh (by decide) (by decide),fun e=>by subst e;exact Has.ne hh h.p (by decide) rfl,fun e=>by subst e;exact Has.ne hh h.wl (by decide) rfl⟩
def abU(w:World)(B gp gw g:Nat)(F:Nat->Prop)(n:Nat)(m:aH.Safe)(ps:List aH.Pc)(aX aQ first:Int)(R:St)(T:List (List UInt8))(A:Option Addr)(c:Nat)(l:List ByteArray)(s:ByteArray)(e:Ending)(w':World):Prop:=
 e=.returned (.int .i64 0)/\∃F' A' c',lX w' B gp gw g F' n m (ps++[(first+lastOf (cur R T),bI (bM (84::bl s)))]) aX aQ first R (T++[84::bl s]) A' c' (l++[s])/\Kept (PF gp gw F A l.length c) w w'/\(∀k,F' k->F k\/w.heap.size<=k)
end
end Pt
namespace Pt
open aH Fr Vn Ops Wl
theorem MJ{k:Nat}(hk:k<18446744073709551616){l:List ByteArray}(h:∀s∈l,s.size<65536):∀t∈kM k l,t.length<=65536:=by
 intro t ht;unfold kM at ht;rcases List.mem_cons.1 ht with rfl|ht
 ·have:=nD hk;simp;omega
 ·rw[List.mem_map]at ht;obtain⟨s,hs,rfl⟩:=ht;have:=h s hs;simp[bP];omega
theorem SA(T:List (List UInt8)):(cur [] T).length<=T.length:=by have:=Dk [] T;simpa using this
theorem abV{f b:Int}{R:St}{m:aH.Safe}(h:BR f R m)(hb:f+R.length<=b):BR f R (sD f b m):=by
 intro i;unfold sD;by_cases hi:f<=f+(i:Int)/\f+(i:Int)<b
 ·rw[if_pos hi];exact h i
 ·rw[if_neg hi];unfold fileAt;rw[if_neg (by omega)]
theorem ML{f:Int}{m:aH.Safe}{ps:List aH.Pc}{k:Nat}{l:List ByteArray}(hk:k<18446744073709551616)(hl:∀s∈l,s.size<65536)(h:Log f [] [] m ps):Log f (cur [] (kM k l)) [] (l7 m (ps++jl f [] (kM k l))) []:=by have:=(YP h (MJ hk hl)).sync;exact this
theorem Ii{f b:Int}{R:St}{m:aH.Safe}(h:Log f R [] m [])(hb:f+R.length<=b):Log f R [] (sD f b m) []:=⟨abV h.safe hb,rfl,h.ok,h.T⟩
section
variable{w:World}{B gp gw g n c:Nat}{F:Nat->Prop}{m:aH.Safe}{ps:List aH.Pc}{aX aQ first:Int}{R:St}{T:List (List UInt8)}{A:Option Addr}{l:List ByteArray}
def PO(w:World)(g:Nat)(F:Nat->Prop)(n:Nat)(aX aQ:Int)(e:Ending)(w':World):Prop:=
 ∃gp gw F' m' A c,e=.returned (.tuple #[.pointer (some ⟨gp,0,none⟩),.int .i64 0])/\lX w' w.heap.size gp gw g F' (n+1) m' [] aX aQ 1 (cur [] (kM 0 [])) [] A c []/\w.heap.size<=gp/\w.heap.size<=gw/\(∀k,F' k->F k\/w.heap.size<=k)/\Kept F w w'
theorem abW(hd:aZ w g F n (fun _=>none) [] aX aQ)(hn:n<=100000):Calls Tryz.prog 18 #[.pointer (some ⟨g,0,none⟩)] w (PO w g F n aX aQ):=by
 have hfi:=pZ hd (fun p hp=>by cases hp) hn (by decide);have qg:=ah hfi;have HD:=ah hd;clear hfi hd;go_enter Tryz.func18,Tryz.ntmps18;go_wp2_with fail;refine qg.out.mono ?_;rintro e w1 ⟨fl,A,c,rfl,hfa,hown,hnew,hk1⟩;have hfl:fl=[]:=by
  rcases fl with _|⟨x,fl⟩
  ·rfl
  ·have:=((hfa.mem x).1 (by simp)).2;simp[cu]at this
 subst hfl;obtain⟨w2,hw2⟩:∃w2,w1.alloc (.cells #[.pointer none,.pointer (some ⟨g,0,none⟩),.int .i64 0,.slice none 0 0] 107)=w2:=⟨_,rfl⟩;have hk2:Kept aj w w2:=by rw[<-hw2];exact hk1.alloc _
 have hp2:ER w2 w1.heap.size (.pointer none) g 0 (.slice none 0 0):=by rw[<-hw2];exact Has.new _ _ _
 have hd2:=HD.out.kept hk2 (fun _ _ z=>z);have hfit:Fits n (fun _=>none) []:=⟨hn,by decide,fun f=>Nat.zero_le _,fun p hp=>by cases hp⟩;have hbg:=MF (.pointer none) (.slice none 0 0) hp2 hd2 (TP 1) hfit none 0 [] (Src.nil _ _ _) (fun _ ad e=>by cases e) (fun s hs=>by cases hs) (by decide) (by decide) (by decide);have BX:=ah hbg;have HW2:=ah hw2;have aV:=ah hk2;have gB:=ah hk1.size;clear hfa hown hnew hk1 hw2 hk2 hp2 hd2 hfit hbg;go_wp2_with fail;rw[HW2.out];refine BX.out.mono ?_;rintro e w3 ⟨rfl,F3,gw,A3,c3,hd3,hw3,hp3,hn3,PS,hg3,hk3⟩;have hfin:PO w g F n aX aQ (.returned (.tuple #[.pointer (some ⟨w1.heap.size,0,none⟩),.int .i64 0])) w3:=by
  refine⟨w1.heap.size,gw,F3,_,A3,c3,rfl,⟨hd3,hp3,hw3,⟨hn3.1,fun k hk=>Nat.le_trans aV.out.size (hn3.2 k hk)⟩,ML (by decide) (fun s hs=>by cases hs) (TP 1),?_,Int.le_refl _,⟨0,by rw[rF];rfl,by rw[rF];decide⟩,fun s hs=>by cases hs⟩,gB.out,Nat.le_trans aV.out.size PS,fun k hk=> ?_,?_⟩
  ·have:qx 1 (fun _=>none) ([]++jl 1 [] (kM 0 [])):=⟨fun x hx=>rfl,fun p hp=>(xI 1 [] (kM 0 []) (MJ (by decide) (fun s hs=>by cases hs)) p hp).2.1⟩;exact this.sync
  ·rcases hg3 k hk with h|h
   ·exact .inl h
   ·exact .inr (Nat.le_trans aV.out.size h)
  ·exact(aV.out.mono (fun _ z=>z.elim)).trans hk3 (fun k hk=>by rcases hk with h|h;exact .inl h;exact .inr (by rw[h];exact gB.out))
 have bU:=ah hfin;clear hd3 hw3 hp3 hn3 PS hg3 hk3 hfin;go_wp2;go_ret2;exact bU.out
end
end Pt
namespace Pt
open aH Fr Vn Ops Wl
theorem PT(w:World)(A:Option Addr)(c:Nat)(l:List ByteArray)(hl:Src w 1 A l.length (l.map Value.string))(hlen:l.length<=1000000)(hs:∀s∈l,s.size<65536):
  Calls Tryz.prog 207 #[.slice A l.length c,.func (.func 119) #[] #[]] w fun e w'=>e=.returned (.int .i64 (-1))/\w=w':=by
 have HL:=ah hl;have HS:=ah hs;clear hl hs;go_enter Tryz.func207,Tryz.ntmps207;go_wp2_with fail;go_loop [5,8] (fun v5 v8=>∃i:Nat,i<=l.length/\v8=.int .i64 i) (fun _ v8=>l.length-(intOf v8).toNat)
 case atStart=>exact⟨0,Nat.zero_le _,rfl⟩
 case round=>
  obtain⟨i,hi,rfl⟩:=hrel;by_cases hil:i<l.length
  ·obtain⟨s,hs⟩:∃s,l[i]? =some s:=⟨_,lB0 hil⟩;obtain⟨ad,rfl,-,e0⟩:=zu.LY HL.out (by omega) i s hs;have hs6:s.size<65536:=HS.out s (lC0 hs);have hlo:=wC w s false (decide_eq_false (by omega));have Xq:=ah hlo;clear hlo hs6 hs;go_wp2_with fail;refine Xq.out.mono ?_;rintro e w' ⟨rfl,rfl⟩;go_wp2;go_round
   case rel=>exact⟨i+1,by omega,by go_num⟩
   case measure=>simp[intOf];omega
  ·obtain rfl:i=l.length:=by omega
   go_wp2;go_ret;exact⟨rfl,rfl⟩
theorem abX(w:World)(A:Option Addr)(c:Nat)(l:List ByteArray)(hl:Src w 1 A l.length (l.map Value.string))(hlen:l.length<=1000000)(hs:∀s∈l,s.size<65536):
  Calls Tryz.prog 123 #[.slice A l.length c,.func (.func 119) #[] #[]] w fun e w'=>e=.returned (.bool false)/\w=w':=by
 have HI:=ah (PT w A c l hl hlen hs);clear hl hlen hs;go_enter Tryz.func123,Tryz.ntmps123;go_wp2_with fail;refine HI.out.mono ?_;rintro e w' ⟨rfl,rfl⟩;go_wp2;go_ret;exact⟨rfl,rfl⟩
theorem YT{m:aH.Safe}{ps:List aH.Pc}{fl:List Int}{first:Int}{K:Nat}(h:Dc m ps fl)(hf:∀x,cu m ps x=decide (first<=x/\x<first+K))(h0:0<=first)(h1:first+K<=1152921504606846976)(hK:0<K):
  0<fl.length/\fl[fl.length-1]? =some (first+K-1):=by
 have hm:first+K-1∈fl:=(h.mem _).2 ⟨gY (by omega) (by omega),by rw[hf];simp;omega⟩
 obtain⟨j,hj,e⟩:=List.getElem_of_mem hm;have hpos:0<fl.length:=by omega
 refine⟨hpos,?_⟩;rw[lB0 (by omega)];have hy:=((h.mem fl[fl.length-1]).1 (List.getElem_mem _)).2;rw[hf]at hy;simp only[decide_eq_true_eq]at hy;congr 1;by_cases hjl:j=fl.length-1
 ·subst hjl;exact e
 ·have:=List.pairwise_iff_getElem.1 h.rises j (fl.length-1) hj (by omega) (by omega);omega
section
variable{w:World}{B gp gw g n c:Nat}{F:Nat->Prop}{m:aH.Safe}{ps:List aH.Pc}{aX aQ first:Int}{R:St}{T:List (List UInt8)}{A:Option Addr}{l:List ByteArray}
def MN(w:World)(B gp g:Nat)(F:Nat->Prop)(n:Nat)(ps:List aH.Pc)(aX aQ first':Int)(l':List ByteArray)(e:Ending)(w':World):Prop:=
 e=.returned (.int .i64 0)/\∃Ah F' m' A' c',lX w' B gp Ah g F' (n+ps.length+l'.length+1) m' [] aX aQ first' (cur [] (kM l'.length l')) [] A' c' l'/\w.heap.size<=Ah/\(∀k,F' k->F k\/w.heap.size<=k)/\Kept (fun k=>F k\/k=gp) w w'/\(∀k,(Value.slice A' l'.length c').ownBlock=some k->w.heap.size<=k)
theorem YU(h:lX w B gp gw g F n m ps aX aQ first R T A c l)(hf:Fits n m ps)(hB:B<=w.heap.size)(A0:Option Addr)(c0:Nat)(l':List ByteArray)(hA:Src w 1 A0 l'.length (l'.map Value.string))
  (MG:0<l'.length->∀ad,A0=some ad->¬F ad.block/\ad.block≠gp) (hs:∀s∈l',s.size<65536) (hl':l'.length<=10000) (h2:first+(cur R T).length+l'.length+2<=1073741824) (h3:n+ps.length+l'.length+2<100000):
  Calls Tryz.prog 62 #[.pointer (some ⟨gp,0,none⟩),.slice A0 l'.length c0] w (MN w B gp g F n ps aX aQ (first+(cur R T).length) l'):=by
 have hno:=xJ h.p;have hcl:=abX w A0 c0 l' hA (by omega) hs;have hfi:=pZ h.d hf.i64 hf.n (by have:=hf.len;omega);have c1:w.cell? ⟨gp,1,none⟩=some (.pointer (some ⟨g,0,none⟩)):=h.p.cell 1;have c2:w.cell? ⟨gp,2,none⟩=some (.int .i64 first):=h.p.cell 2;obtain⟨K,hK⟩:∃K,(cur R T).length=K:=⟨_,rfl⟩;have ag7:0<K:=by
  rcases Nat.eq_zero_or_pos K with h0|h0
  ·rw[h0]at hK;have h9:=rF R T;rw[lE0 hK]at h9;obtain⟨k,h4,_⟩:=h.tx;rw[h4]at h9;cases h9
  ·exact h0
 have hif:=h.low.cu h.log;have hab:=Log.above h.log;rw[hK]at h2 hif hab⊢;have hf1:=h.f1;have H:=ah h;have jK:=ah hno;have oL:=ah hcl;have qg:=ah hfi;have HIF:=ah hif;have HAB:=ah hab;have HF:=ah hf;have HA:=ah hA;have HAF:=ah MG;have HS:=ah hs;clear h hno hcl hfi hif hab hf hA MG hs hK;go_enter Tryz.func62,Tryz.ntmps62;go_wp2_with fail;refine jK.out.mono ?_;rintro e w' ⟨rfl,rfl⟩;go_wp2_with fail;refine oL.out.mono ?_;rintro e w' ⟨rfl,rfl⟩;go_wp2_with fail;refine qg.out.mono ?_;rintro e w1 ⟨fl,A1,c1',rfl,hfa,hown,hnew,hk1⟩;obtain⟨hpos,hlast⟩:=YT hfa HIF.out (by omega) (by omega) ag7;obtain⟨ad1,rfl,-,e0⟩:=zu.vC (Src.bF hown) hpos _ _ hlast;have hcap:=gJ hown;unfold maxLen at hcap;have hw1:IntKind.i64.wrap ((fl.length:Int)-1)=(fl.length:Int)-1:=IntWalk.i64_in _ (by omega);have hd0:0<=(fl.length:Int)-1:=by omega
 have hd1:(fl.length:Int)-1<fl.length:=by omega
 have ht1:((fl.length:Int)-1).toNat=fl.length-1:=by omega
 have hpos':(0:Int)<fl.length:=by omega
 have hp1:=H.out.p.kept hk1 (fun z=>z);have afS:=H.out.d.kept hk1 (fun _ _ z=>z);have hbg:=MF (.pointer (some ⟨gw,0,none⟩)) (.slice A l.length c) hp1 afS HAB.out HF.out A0 c0 l' (HA.out.kept hk1 (fun _ _ z=>z)) HAF.out HS.out (by omega) (by omega) (by omega);have hsum:(first+(K:Int)-1)+1=first+K:=by omega
 have BX:=ah hbg;have gB:=ah hk1;have aiP:=ah hsum;clear hfa hown hnew hk1 hlast hcap hp1 afS hbg hsum;go_wp2_with fail;refine BX.out.mono ?_;rintro e w3 ⟨rfl,F3,gw3,A3,c3,hd3,hw3,hp3,hn3,PS,hg3,hk3⟩;have afT:n+(ps++jl (first+K) [] (kM l'.length l')).length=n+ps.length+l'.length+1:=by rw[lA0,xH,uF];omega
 rw[afT]at hd3;have hkp:=keep_any (.pointer (some ⟨gw3,0,none⟩)) (.slice A3 l'.length c3) hp3 hd3 (by omega) (first+K) 1073741826;have afU:=SA (kM l'.length l');rw[uF]at afU;have hfin:∀w4,aZ w4 g F3 (n+ps.length+l'.length+1) (sD (first+K) 1073741826 (l7 m (ps++jl (first+K) [] (kM l'.length l')))) [] aX aQ->Kept F3 w3 w4->MN w B gp g F n ps aX aQ (first+K) l' (.returned (.int .i64 0)) w4:=by
  intro w4 hd4 hk4;have hn1:¬F3 gp:=aZ.not hd3 hp3 (by decide) (by decide);have hn2:¬F3 gw3:=aZ.not hd3 hw3 (by decide) (by decide);refine⟨rfl,gw3,F3,_,A3,c3,⟨hd4,hp3.kept hk4 hn1,hw3.kept hk4 hn2,⟨aC hn3.1 hk4 (fun k hk hh=> ?_),fun k hk=> ?_⟩,Ii (ML (by omega) HS.out HAB.out) (by omega),⟨fun x hx=>by unfold sD;rw[if_neg (by omega)],fun p hp=>by cases hp⟩,by omega,⟨l'.length,by rw[rF,List.append_nil];rfl,by rw[rF,lA0,uF];simp⟩,HS.out⟩,Nat.le_trans gB.out.size PS,fun k hk=> ?_,?_,fun k hk=>Nat.le_trans gB.out.size (hn3.2 k hk)⟩
  ·obtain⟨cs,h9⟩:=jT hn3.1 hk;exact aZ.not hd3 h9 (by decide) (by decide) hh
  ·exact Nat.le_trans hB (Nat.le_trans gB.out.size (hn3.2 k hk))
  ·rcases hg3 k hk with z|z
   ·exact .inl z
   ·exact .inr (Nat.le_trans gB.out.size z)
  ·refine(((gB.out.mono (fun _ z=>z.elim)).then hk3)).trans hk4 (fun k hk=> ?_);rcases hg3 k hk with z|z
   ·exact .inl (.inl z)
   ·exact .inr (Nat.le_trans gB.out.size z)
 have d2:w3.cell? ⟨gp,2,none⟩=some (.int .i64 (first+K)):=hp3.cell 2;have YV:=ah hkp;have bU:=ah hfin;clear hd3 hw3 hp3 hn3 PS hg3 hk3 afT hkp hfin afU hw1 hd0 hd1 ht1 hpos' e0 hpos;go_wp2_with fail;refine YV.out.mono ?_;rintro e w4 ⟨rfl,hd4,hk4⟩;have HE:=ah (bU.out w4 hd4 hk4);clear hd4 hk4;go_wp2;go_ret;exact HE.out
end
end Pt
namespace Pt
open aH Fr Vn Ops Wl
theorem PU:∀{a b:List Int},a.Pairwise (· <·)->b.Pairwise (· <·)->(∀x,x∈a↔x∈b)->a=b
 |[],[],_,_,_=>rfl
 |[],y::b,_,_,h=>by have:=(h y).2 (by simp);simp at this
 |x::a,[],_,_,h=>by have:=(h x).1 (by simp);simp at this
 |x::a,y::b,ha,hb,h=>by
  rw[List.pairwise_cons]at ha hb;have hxy:x=y:=by
   rcases List.mem_cons.1 ((h x).1 (by simp))with e|h1
   ·exact e
   ·rcases List.mem_cons.1 ((h y).2 (by simp))with e|h2
    ·exact e.symm
    ·have:=hb.1 x h1;have:=ha.1 y h2;omega
  subst hxy;rw[PU ha.2 hb.2 (fun z=> ?_)];constructor
  ·intro hz;rcases List.mem_cons.1 ((h z).1 (List.mem_cons_of_mem _ hz))with e|h1
   ·have:=ha.1 z hz;omega
   ·exact h1
  ·intro hz;rcases List.mem_cons.1 ((h z).2 (List.mem_cons_of_mem _ hz))with e|h1
   ·have:=hb.1 z hz;omega
   ·exact h1
def nums(first:Int)(K:Nat):List Int:=(List.range K).map fun(i:Nat)=>first+(i:Int)
theorem Jw{m:aH.Safe}{ps:List aH.Pc}{fl:List Int}{first:Int}{K:Nat}(h:Dc m ps fl)(hf:∀x,cu m ps x=decide (first<=x/\x<first+K))(h0:0<=first)(h1:first+K<=1152921504606846976):fl=nums first K:=by
 refine PU h.rises ?_ (fun x=> ?_)
 ·unfold nums;rw[List.pairwise_map];exact List.pairwise_lt_range.imp (fun h=>by omega)
 ·rw[h.mem,hf];unfold nums;simp only[decide_eq_true_eq,List.mem_map,List.mem_range];constructor
  ·rintro⟨_,h2,h3⟩;exact⟨(x-first).toNat,by omega,by omega⟩
  ·rintro⟨i,h2,rfl⟩;exact⟨gY (by omega) (by omega),by omega,by omega⟩
theorem abY{first:Int}{R:St}{T:List (List UInt8)}{m:aH.Safe}{ps:List aH.Pc}{n:Nat}(h:qx first m ps)(hl:Log first R T m ps)(h1:1<=first)(h2:first+(R.length+T.length:Nat)<=1073741824)(hn:n<=100000)(hT:T.length<100000):Fits n m ps:=
 h.low.fits hl h1 h2 hn hT
structure TY(w0 w:World)(gp gw g:Nat)(F:Nat->Prop)(n:Nat)(m:aH.Safe)(ps:List aH.Pc)(aQ first:Int)(R:St)(T:List (List UInt8))(A:Option Addr)(c:Nat)(l:List ByteArray):Prop where
 pt:lX w w0.heap.size gp gw g F n m ps 1 aQ first R T A c l
 f:∀k,F k->w0.heap.size<=k
 gp:w0.heap.size<=gp
 gw:w0.heap.size<=gw
 k:Kept aj w0 w
section
variable{w0 w w':World}{gp gw g n c:Nat}{F:Nat->Prop}{m:aH.Safe}{ps:List aH.Pc}{aQ first:Int}{R:St}{T:List (List UInt8)}{A:Option Addr}{l:List ByteArray}
theorem TY.kept(h:TY w0 w gp gw g F n m ps aQ first R T A c l)(hk:Kept aj w w'):TY w0 w' gp gw g F n m ps aQ first R T A c l:=
 ⟨h.pt.kept hk,h.f,h.gp,h.gw,h.k.then hk⟩
theorem TY.app(h:TY w0 w gp gw g F n m ps aQ first R T A c l){s:ByteArray}{e:Ending}(ha:abU w w0.heap.size gp gw g F n m ps 1 aQ first R T A c l s e w'):
  e=.returned (.int .i64 0)/\∃F' A' c',TY w0 w' gp gw g F' n m (ps++[(first+lastOf (cur R T),bI (bM (84::bl s)))]) aQ first R (T++[84::bl s]) A' c' (l++[s]):=by
 obtain⟨he,F',A',c',hp,hk,hG⟩:=ha;refine⟨he,F',A',c',hp,fun k hk2=> ?_,h.gp,h.gw,h.k.trans hk (fun k hk2=> .inr ?_)⟩
 ·rcases hG k hk2 with z|z
  ·exact h.f k z
  ·exact Nat.le_trans h.k.size z
 ·rcases hk2 with z|z|z|z
  ·exact h.f k z
  ·rw[z];exact h.gp
  ·rw[z];exact h.gw
  ·exact h.pt.row.2 k z
end
end Pt
namespace bW
open aJ Vn Mst jQ IM
structure AZ where
 to:Int
 body:ByteArray
deriving DecidableEq
def ag8(o:AZ):List Value:=[.int .i64 o.to,.string o.body]
def vF(l:List AZ):List Value:=l.flatMap ag8
structure nR where
 first:Int
 R:Wl.St
 T:List (List UInt8)
 l:List ByteArray
structure MR where
 lg:nR
 st:bQ
 pins:List aO
 ns:List Int
 tk:Int
 marks:Int->Option Int
 iO:Int->Option Int
 last:Int
 joins:Int->Bool
 leaves:Int->Bool
 lost:Int->Bool
 out:List AZ
 cnt:Nat
structure MX where
 mb:Nat
 gp:Nat
 gw:Nat
 g:Nat
 sb:Nat
 wb:Nat
 mm:Nat
 se:Nat
 jo:Nat
 le:Nat
 lo:Nat
 F:Nat->Prop
 FS:Nat->Prop
 pA:Option Addr
 pc:Nat
 oA:Option Addr
 oc:Nat
 A:Option Addr
 c:Nat
 n:Nat
 m:aH.Safe
 ps:List aH.Pc
 aX:Int
 aQ:Int
def MX.fix(X:MX):List Nat:=[X.mb,X.gp,X.g,X.sb,X.wb,X.mm,X.se,X.jo,X.le,X.lo]
def wI(X:MX)(M:MR):Array Value:=#[.pointer (some ⟨X.g,0,none⟩),.pointer (some ⟨X.gp,0,none⟩),.pointer (some ⟨X.sb,0,none⟩),.slice X.pA M.pins.length X.pc,.pointer (some ⟨X.wb,0,none⟩),.map (some X.mm),.map (some X.se),.int .u64 M.last,.map (some X.jo),.map (some X.le),.map (some X.lo),.slice X.oA M.out.length X.oc]
def parts(X:MX)(M:MR):Nat->Nat->Prop
 |0=>fun k=>k=X.mb
 |1=>Pt.PF X.gp X.gw X.F X.A M.lg.l.length X.c
 |2=>X.FS
 |3=>fun k=>(Value.slice X.pA M.pins.length X.pc).ownBlock=some k
 |4=>fun k=>k=X.wb
 |5=>fun k=>k=X.mm
 |6=>fun k=>k=X.se
 |7=>fun k=>k=X.jo
 |8=>fun k=>k=X.le
 |9=>fun k=>k=X.lo
 |10=>fun k=>(Value.slice X.oA M.out.length X.oc).ownBlock=some k
 |_=>fun _=>False
def sK(w:World)(X:MX)(L:nR):Prop:=Pt.lX w 0 X.gp X.gw X.g X.F X.n X.m X.ps X.aX X.aQ L.first L.R L.T X.A X.c L.l
def yj(X:MX)(M:MR)(w:World):Nat->Prop
 |0=>Has w X.mb 85 (wI X M)
 |1=>sK w X M.lg
 |2=>fH w X.sb X.FS M.st
 |3=>w.ownsRow 0 53 3 (.slice X.pA M.pins.length X.pc) M.pins.length (aS M.pins)
 |4=>AU w X.wb M.ns M.tk
 |5=>fD .u64 23 w X.mm M.cnt M.marks
 |6=>fD .i64 3 w X.se M.cnt M.iO
 |7=>bT w X.jo M.cnt M.joins
 |8=>bT w X.le M.cnt M.leaves
 |9=>bT w X.lo M.cnt M.lost
 |10=>w.ownsRow 0 237 2 (.slice X.oA M.out.length X.oc) M.out.length (vF M.out)
 |_=>True
theorem sK.adB{w w':World}{X:MX}{L:nR}{G:Nat->Prop}(h:sK w X L)(hk:Kept G w w')(hs:∀k,Pt.PF X.gp X.gw X.F X.A L.l.length X.c k->¬G k):sK w' X L:=
 ⟨h.d.kept hk (fun k hf=>hs k (.inl hf)),h.p.kept hk (hs _ (.inr (.inl rfl))),h.wl.kept hk (hs _ (.inr (.inr (.inl rfl)))),⟨aC h.row.1 hk (fun g hg=>hs g (.inr (.inr (.inr hg)))),h.row.2⟩,h.log,h.low,h.f1,h.tx,h.hs⟩
theorem yj.kept{X:MX}{M:MR}{w w':World}{G:Nat->Prop}{i:Nat}(h:yj X M w i)(hk:Kept G w w')(hs:∀k,parts X M i k->¬G k):yj X M w' i:=by
 rcases i with _|_|_|_|_|_|_|_|_|_|_|i
 ·exact Has.kept h hk (hs _ rfl)
 ·exact sK.adB h hk hs
 ·exact fH.kept h hk hs
 ·exact aC h hk hs
 ·exact Has.kept h hk (hs _ rfl)
 ·exact fD.kept h hk (hs _ rfl)
 ·exact fD.kept h hk (hs _ rfl)
 ·exact bT.kept h hk (hs _ rfl)
 ·exact bT.kept h hk (hs _ rfl)
 ·exact bT.kept h hk (hs _ rfl)
 ·exact aC h hk hs
 ·trivial
theorem yj.lt{X:MX}{M:MR}{w:World}{i k:Nat}(h:yj X M w i)(hp:parts X M i k):k<w.heap.size:=by
 rcases i with _|_|_|_|_|_|_|_|_|_|_|i
 ·obtain rfl:k=X.mb:=hp;exact Has.lt h
 ·have hh:sK w X M.lg:=h;rcases hp with hp|hp|hp|hp
  ·exact hh.d.lt k hp
  ·rw[hp];exact Has.lt hh.p
  ·rw[hp];exact Has.lt hh.wl
  ·exact mD hh.row.1 hp
 ·exact fH.lt h k hp
 ·exact mD h hp
 ·obtain rfl:k=X.wb:=hp;exact Has.lt h
 ·obtain rfl:k=X.mm:=hp;exact fD.lt h
 ·obtain rfl:k=X.se:=hp;exact fD.lt h
 ·obtain rfl:k=X.jo:=hp;exact bT.lt h
 ·obtain rfl:k=X.le:=hp;exact bT.lt h
 ·obtain rfl:k=X.lo:=hp;exact bT.lt h
 ·exact mD h hp
 ·exact hp.elim
structure dJ(w:World)(X:MX)(M:MR):Prop where
 c:∀i,yj X M w i
 ap:∀i j k,parts X M i k->parts X M j k->i=j
def dN(X:MX)(M:MR)(k:Nat):Prop:=∃i,parts X M i k
theorem dJ.lt{w:World}{X:MX}{M:MR}(h:dJ w X M){k:Nat}(hk:dN X M k):k<w.heap.size:=by obtain⟨i,hi⟩:=hk;exact(h.c i).lt hi
theorem dJ.quiet{w w':World}{X:MX}{M:MR}(h:dJ w X M)(hk:Kept aj w w'):dJ w' X M:=⟨fun i=>(h.c i).kept hk (fun _ _ z=>z),h.ap⟩
structure Step(w:World)(X:MX)(M:MR)(w':World)(X':MX)(M':MR):Prop where
 at':dJ w' X' M'
 g:∀k,dN X' M' k->dN X M k\/w.heap.size<=k
 k:Kept (dN X M) w w'
 fx:X'.fix=X.fix
theorem Step.mb{w w':World}{X X':MX}{M M':MR}(h:Step w X M w' X' M'):X'.mb=X.mb:=by have:=h.fx;simp only[MX.fix,List.cons.injEq]at this;exact this.1
theorem Step.sb{w w':World}{X X':MX}{M M':MR}(h:Step w X M w' X' M'):X'.sb=X.sb:=by have:=h.fx;simp only[MX.fix,List.cons.injEq]at this;exact this.2.2.2.1
theorem Step.gp{w w':World}{X X':MX}{M M':MR}(h:Step w X M w' X' M'):X'.gp=X.gp:=by have:=h.fx;simp only[MX.fix,List.cons.injEq]at this;exact this.2.1
theorem Step.dk{w w':World}{X X':MX}{M M':MR}(h:Step w X M w' X' M'):X'.g=X.g:=by have:=h.fx;simp only[MX.fix,List.cons.injEq]at this;exact this.2.2.1
theorem Step.refl{w w':World}{X:MX}{M:MR}(h:dJ w X M)(hk:Kept aj w w'):Step w X M w' X M:=⟨h.quiet hk,fun _ h=> .inl h,Kept.up hk,rfl⟩
theorem Step.trans{w w1 w2:World}{X X1 X2:MX}{M M1 M2:MR}(h:Step w X M w1 X1 M1)(k:Step w1 X1 M1 w2 X2 M2):Step w X M w2 X2 M2:=
 ⟨k.at',fun i hi=>by
  rcases k.g i hi with y|y
  ·exact h.g i y
  ·have:=h.k.size;exact .inr (by omega),h.k.trans k.k h.g,k.fx.trans h.fx⟩
theorem Step.quiet{w w1 w2:World}{X X1:MX}{M M1:MR}(h:Step w X M w1 X1 M1)(hk:Kept aj w1 w2):Step w X M w2 X1 M1:=h.trans (Step.refl h.at' hk)
theorem dJ.upd{w w':World}{X X':MX}{M M':MR}(h:dJ w X M)(i:Nat)(hk:Kept (parts X M i) w w')(hsp:∀j,j≠i->parts X' M' j=parts X M j)(hsc:∀j,j≠i->yj X M w' j->yj X' M' w' j)
  (hc:yj X' M' w' i) (hg:∀k,parts X' M' i k->parts X M i k\/w.heap.size<=k) (hmb:X'.fix=X.fix):Step w X M w' X' M':=by
 have hap:∀j k,j≠i->parts X M j k->¬parts X M i k:=fun j k hj h1 h2=>hj (h.ap j i k h1 h2);refine⟨⟨fun j=> ?_,fun a b k ha hb=> ?_⟩,fun k hf=> ?_,hk.mono fun k hk=>⟨i,hk⟩,hmb⟩
 ·by_cases hj:j=i
  ·subst hj;exact hc
  ·exact hsc j hj ((h.c j).kept hk (fun k hp=>hap j k hj hp))
 ·by_cases h1:a=i
  ·by_cases h2:b=i
   ·rw[h1,h2]
   ·subst h1;rw[hsp b h2]at hb;rcases hg k ha with y|y
    ·exact h.ap a b k y hb
    ·have:=(h.c b).lt hb;omega
  ·by_cases h2:b=i
   ·subst h2;rw[hsp a h1]at ha;rcases hg k hb with y|y
    ·exact h.ap a b k ha y
    ·have:=(h.c a).lt ha;omega
   ·rw[hsp a h1]at ha;rw[hsp b h2]at hb;exact h.ap a b k ha hb
 ·obtain⟨j,hj⟩:=hf;by_cases h1:j=i
  ·subst h1;rcases hg k hj with y|y
   ·exact .inl ⟨j,y⟩
   ·exact .inr y
  ·rw[hsp j h1]at hj;exact .inl ⟨j,hj⟩
theorem Step.abZ{ws w w':World}{X0 X X':MX}{M0 M M':MR}(h:Step ws X0 M0 w X M)(S:Nat->Prop)(hk:Kept (fun k=>∃i,S i/\parts X M i k) w w')(hsp:∀j,¬S j->parts X' M' j=parts X M j)(hsc:∀j,¬S j->yj X M w' j->yj X' M' w' j)
  (hc:∀i,S i->yj X' M' w' i) (hg:∀i k,S i->parts X' M' i k->parts X M i k\/(¬dN X M k/\ws.heap.size<=k)) (hfr:∀i j k,S i->S j->parts X' M' i k->parts X' M' j k->¬dN X M k->i=j) (hmb:X'.fix=X.fix):Step ws X0 M0 w' X' M':=by
 have ha:=h.at';refine⟨⟨fun j=> ?_,fun a b k h1 h2=> ?_⟩,fun k hf=> ?_,?_,hmb.trans h.fx⟩
 ·by_cases hj:S j
  ·exact hc j hj
  ·refine hsc j hj ((ha.c j).kept hk (fun k hp=> ?_));rintro⟨i,hi,hp2⟩;obtain rfl:=ha.ap i j k hp2 hp;exact hj hi
 ·by_cases s1:S a
  ·by_cases s2:S b
   ·rcases hg a k s1 h1 with y|⟨y,_⟩
    ·rcases hg b k s2 h2 with z|⟨z,_⟩
     ·exact ha.ap a b k y z
     ·exact absurd ⟨a,y⟩ z
    ·exact hfr a b k s1 s2 h1 h2 y
   ·rw[hsp b s2]at h2;rcases hg a k s1 h1 with y|⟨y,_⟩
    ·exact ha.ap a b k y h2
    ·exact absurd ⟨b,h2⟩ y
  ·rw[hsp a s1]at h1;by_cases s2:S b
   ·rcases hg b k s2 h2 with z|⟨z,_⟩
    ·exact ha.ap a b k h1 z
    ·exact absurd ⟨a,h1⟩ z
   ·rw[hsp b s2]at h2;exact ha.ap a b k h1 h2
 ·obtain⟨j,hj⟩:=hf;by_cases s1:S j
  ·rcases hg j k s1 hj with y|⟨_,y⟩
   ·exact h.g k ⟨j,y⟩
   ·exact .inr y
  ·rw[hsp j s1]at hj;exact h.g k ⟨j,hj⟩
 ·exact h.k.trans hk (fun k hp=>by obtain⟨i,_,hp⟩:=hp;exact h.g k ⟨i,hp⟩)
section
variable{ws w w':World}{X X0:MX}{M M0:MR}
theorem Step.BZ(h:Step ws X0 M0 w X M){A:Option Addr}{c:Nat}{l:List aO}(hr:w.ownsRow 0 53 3 (.slice A l.length c) l.length (aS l))(hnew:∀k,(Value.slice A l.length c).ownBlock=some k->ws.heap.size<=k/\¬dN X M k):
  Step ws X0 M0 (w.setCell ⟨X.mb,3,none⟩ (.slice A l.length c)) {X with pA:=A,pc:=c} {M with pins:=l}:=by
 have hk:Kept (fun k=>k=X.mb) w (w.setCell ⟨X.mb,3,none⟩ (.slice A l.length c)):=(Kept.refl _ w).put (.inl rfl);refine h.abZ (fun i=>i=0\/i=3) (hk.mono fun k hk=>⟨0,.inl rfl,hk⟩) (fun j hj=> ?_) (fun j hj hc=> ?_) (fun i hi=> ?_) (fun i k hi hp=> ?_) (fun i j k hi hj h1 h2 hf=> ?_) rfl
 ·rcases j with _|_|_|_|_|_|_|_|_|_|_|j<;>first|rfl|exact absurd (Or.inl rfl) hj|exact absurd (Or.inr rfl) hj
 ·rcases j with _|_|_|_|_|_|_|_|_|_|_|j<;>first|exact hc|exact absurd (Or.inl rfl) hj|exact absurd (Or.inr rfl) hj
 ·rcases hi with rfl|rfl
  ·exact Has.dH (h.at'.c 0) rfl
  ·exact aC hr hk (fun g hg e=>(hnew g hg).2 ⟨0,e⟩)
 ·rcases hi with rfl|rfl
  ·exact .inl hp
  ·exact .inr ⟨(hnew k hp).2,(hnew k hp).1⟩
 ·rcases hi with rfl|rfl<;>rcases hj with rfl|rfl
  ·rfl
  ·exact absurd ⟨0,h1⟩ hf
  ·exact absurd ⟨0,h2⟩ hf
  ·rfl
theorem Step.afV(h:Step ws X0 M0 w X M){w9:World}{A:Option Addr}{c:Nat}{l:List AZ}(hr:w9.ownsRow 0 237 2 (.slice A l.length c) l.length (vF l))(hk9:Kept (fun k=>(Value.slice X.oA M.out.length X.oc).ownBlock=some k) w w9)
  (hg:∀k,(Value.slice A l.length c).ownBlock=some k->(Value.slice X.oA M.out.length X.oc).ownBlock=some k\/w.heap.size<=k):
  Step ws X0 M0 (w9.setCell ⟨X.mb,11,none⟩ (.slice A l.length c)) {X with oA:=A,oc:=c} {M with out:=l}:=by
 have hk:Kept (fun k=>∃i,(i=0\/i=10)/\parts X M i k) w (w9.setCell ⟨X.mb,11,none⟩ (.slice A l.length c)):=Kept.put (hk9.mono fun k hk=>⟨10,.inr rfl,hk⟩) (.inl ⟨0,.inl rfl,rfl⟩);have hmb:X.mb<w.heap.size:=(h.at'.c 0).lt rfl;refine h.abZ (fun i=>i=0\/i=10) hk (fun j hj=> ?_) (fun j hj hc=> ?_) (fun i hi=> ?_) (fun i k hi hp=> ?_) (fun i j k hi hj h1 h2 hf=> ?_) rfl
 ·rcases j with _|_|_|_|_|_|_|_|_|_|_|j<;>first|rfl|exact absurd (Or.inl rfl) hj|exact absurd (Or.inr rfl) hj
 ·rcases j with _|_|_|_|_|_|_|_|_|_|_|j<;>first|exact hc|exact absurd (Or.inl rfl) hj|exact absurd (Or.inr rfl) hj
 ·rcases hi with rfl|rfl
  ·exact Has.dH (Has.kept (h.at'.c 0) hk9 (fun e=>absurd (h.at'.ap 0 10 _ rfl e) (by decide))) rfl
  ·exact aC (F:=fun k=>k=X.mb) hr ((Kept.refl _ w9).put (.inl rfl)) (fun g hg2 e=>by
    rcases hg g hg2 with y|y
    ·exact absurd (h.at'.ap 0 10 g e y) (by decide)
    ·omega)
 ·rcases hi with rfl|rfl
  ·exact .inl hp
  ·rcases hg k hp with y|y
   ·exact .inl y
   ·exact .inr ⟨fun hf=>by have:=h.at'.lt hf;omega,Nat.le_trans h.k.size y⟩
 ·rcases hi with rfl|rfl<;>rcases hj with rfl|rfl
  ·rfl
  ·exact absurd ⟨0,h1⟩ hf
  ·exact absurd ⟨0,h2⟩ hf
  ·rfl
theorem Step.setLast(h:Step ws X0 M0 w X M)(x:Int):Step ws X0 M0 (w.setCell ⟨X.mb,7,none⟩ (.int .u64 x)) X {M with last:=x}:=
 h.trans (h.at'.upd 0 ((Kept.refl _ w).put (.inl rfl)) (fun j hj=>by rcases j with _|_|_|_|_|_|_|_|_|_|_|j<;>first|rfl|exact absurd rfl hj)
  (fun j hj hc=>by rcases j with _|_|_|_|_|_|_|_|_|_|_|j<;>first|exact hc|exact absurd rfl hj) (Has.dH (h.at'.c 0) rfl) (fun k hk=> .inl hk) rfl)
theorem Step.ab1(h:Step ws X0 M0 w X M):Step ws X0 M0 (w.setCell ⟨X.mb,11,none⟩ (.slice none 0 0)) {X with oA:=none,oc:=0} {M with out:=[]}:=by
 have hk:Kept (fun k=>k=X.mb) w (w.setCell ⟨X.mb,11,none⟩ (.slice none 0 0)):=(Kept.refl _ w).put (.inl rfl);refine h.abZ (fun i=>i=0\/i=10) (hk.mono fun k hk=>⟨0,.inl rfl,hk⟩) (fun j hj=> ?_) (fun j hj hc=> ?_) (fun i hi=> ?_) (fun i k hi hp=> ?_) (fun i j k hi hj h1 h2 hf=> ?_) rfl
 ·rcases j with _|_|_|_|_|_|_|_|_|_|_|j<;>first|rfl|exact absurd (Or.inl rfl) hj|exact absurd (Or.inr rfl) hj
 ·rcases j with _|_|_|_|_|_|_|_|_|_|_|j<;>first|exact hc|exact absurd (Or.inl rfl) hj|exact absurd (Or.inr rfl) hj
 ·rcases hi with rfl|rfl
  ·exact Has.dH (h.at'.c 0) rfl
  ·exact⟨rfl,.inl ⟨rfl,rfl⟩⟩
 ·rcases hi with rfl|rfl
  ·exact .inl hp
  ·simp[parts,Value.ownBlock]at hp
 ·rcases hi with rfl|rfl<;>rcases hj with rfl|rfl
  ·rfl
  ·simp[parts,Value.ownBlock]at h2
  ·simp[parts,Value.ownBlock]at h1
  ·rfl
end
section
variable{w w':World}{X:MX}{M:MR}
theorem dJ.PV(h:dJ w X M){n:Nat}{f:Int->Option Int}(hw:fD .u64 23 w' X.mm n f)(hn:M.cnt<=n)(hk:Kept (fun k=>k=X.mm) w w'):Step w X M w' X {M with marks:=f,cnt:=n}:=
 h.upd 5 hk (fun j hj=>by rcases j with _|_|_|_|_|_|_|_|_|_|_|j<;>first|rfl|exact absurd rfl hj)
  (fun j hj hc=>by rcases j with _|_|_|_|_|_|_|_|_|_|_|j<;>first|exact hc|exact absurd rfl hj|exact fD.mono hc hn|exact bT.mono hc hn) hw (fun k hk=> .inl hk) rfl
theorem dJ.MP(h:dJ w X M){n:Nat}{f:Int->Option Int}(hw:fD .i64 3 w' X.se n f)(hn:M.cnt<=n)(hk:Kept (fun k=>k=X.se) w w'):Step w X M w' X {M with iO:=f,cnt:=n}:=
 h.upd 6 hk (fun j hj=>by rcases j with _|_|_|_|_|_|_|_|_|_|_|j<;>first|rfl|exact absurd rfl hj)
  (fun j hj hc=>by rcases j with _|_|_|_|_|_|_|_|_|_|_|j<;>first|exact hc|exact absurd rfl hj|exact fD.mono hc hn|exact bT.mono hc hn) hw (fun k hk=> .inl hk) rfl
theorem dJ.PW(h:dJ w X M){n:Nat}{f:Int->Bool}(hw:bT w' X.jo n f)(hn:M.cnt<=n)(hk:Kept (fun k=>k=X.jo) w w'):Step w X M w' X {M with joins:=f,cnt:=n}:=
 h.upd 7 hk (fun j hj=>by rcases j with _|_|_|_|_|_|_|_|_|_|_|j<;>first|rfl|exact absurd rfl hj)
  (fun j hj hc=>by rcases j with _|_|_|_|_|_|_|_|_|_|_|j<;>first|exact hc|exact absurd rfl hj|exact fD.mono hc hn|exact bT.mono hc hn) hw (fun k hk=> .inl hk) rfl
theorem dJ.MQ(h:dJ w X M){n:Nat}{f:Int->Bool}(hw:bT w' X.le n f)(hn:M.cnt<=n)(hk:Kept (fun k=>k=X.le) w w'):Step w X M w' X {M with leaves:=f,cnt:=n}:=
 h.upd 8 hk (fun j hj=>by rcases j with _|_|_|_|_|_|_|_|_|_|_|j<;>first|rfl|exact absurd rfl hj)
  (fun j hj hc=>by rcases j with _|_|_|_|_|_|_|_|_|_|_|j<;>first|exact hc|exact absurd rfl hj|exact fD.mono hc hn|exact bT.mono hc hn) hw (fun k hk=> .inl hk) rfl
theorem dJ.Ua(h:dJ w X M){n:Nat}{f:Int->Bool}(hw:bT w' X.lo n f)(hn:M.cnt<=n)(hk:Kept (fun k=>k=X.lo) w w'):Step w X M w' X {M with lost:=f,cnt:=n}:=
 h.upd 9 hk (fun j hj=>by rcases j with _|_|_|_|_|_|_|_|_|_|_|j<;>first|rfl|exact absurd rfl hj)
  (fun j hj hc=>by rcases j with _|_|_|_|_|_|_|_|_|_|_|j<;>first|exact hc|exact absurd rfl hj|exact fD.mono hc hn|exact bT.mono hc hn) hw (fun k hk=> .inl hk) rfl
theorem dJ.setSt(h:dJ w X M){uG:Nat->Prop}{s':bQ}(hst:fH w' X.sb uG s')(hg:jG w X.FS uG)(hk:Kept X.FS w w'):Step w X M w' {X with FS:=uG} {M with st:=s'}:=
 h.upd 2 hk (fun j hj=>by rcases j with _|_|_|_|_|_|_|_|_|_|_|j<;>first|rfl|exact absurd rfl hj)
  (fun j hj hc=>by rcases j with _|_|_|_|_|_|_|_|_|_|_|j<;>first|exact hc|exact absurd rfl hj) hst (fun k hk=>hg k hk) rfl
theorem dJ.PX(h:dJ w X M){ns:List Int}{t:Int}(hw:AU w' X.wb ns t)(hk:Kept (fun k=>k=X.wb) w w'):Step w X M w' X {M with ns:=ns,tk:=t}:=
 h.upd 4 hk (fun j hj=>by rcases j with _|_|_|_|_|_|_|_|_|_|_|j<;>first|rfl|exact absurd rfl hj)
  (fun j hj hc=>by rcases j with _|_|_|_|_|_|_|_|_|_|_|j<;>first|exact hc|exact absurd rfl hj) hw (fun k hk=> .inl hk) rfl
end
end bW
namespace Pt
open aH Fr Vn Ops Wl
theorem SB(w:World)(A:Option Addr)(c:Nat)(fl:List Int)(ho:w.ownsRow 0 3 1 (.slice A fl.length c) fl.length (fl.map (Value.int .i64))):
  Calls Tryz.prog 67 #[.slice A fl.length c] w fun e w'=>e=.returned (.tuple #[])/\Src w' 1 A fl.length (fl.reverse.map (Value.int .i64))/\Kept (fun k=>(Value.slice A fl.length c).ownBlock=some k) w w':=by
 rcases Nat.eq_zero_or_pos fl.length with h0|hpos
 ·obtain rfl:fl=[]:=lE0 h0;refine(Rv.reverse_empty A c w).mono ?_;rintro e w' ⟨rfl,rfl⟩;exact⟨rfl,Src.nil _ _ _,Kept.refl _ _⟩
 ·obtain⟨b,cap,hv,_,hlt⟩:=ho.form hpos;injection hv with hA _ hc;subst hA hc;have hcap:=gJ ho;unfold maxLen at hcap;have hcell:=ho.cells (g:=b) rfl;have hc:∀j,j<fl.length->w.cell? ⟨b,0+j,none⟩=some (.int .i64 (fl.getD j 0)):=by
   intro j hj;have h1:=hcell j (.int .i64 (fl.getD j 0)) (by rw[List.getElem?_map,lB0 hj];simp[hj]);have e:((⟨b,0,none⟩:Addr).add j)=⟨b,0+j,none⟩:=by unfold Addr.add;split<;>simp_all
   rw[<-e];exact h1
  have hf:∀j,j<fl.length->w.frozen? ⟨b,0+j,none⟩=false:=by intro j hj;obtain⟨cs,hh⟩:=Fr.jT ho (k:=b) rfl;exact hh.frozen _
  refine(Rv.NL b 0 fl.length c fl w (Nat.le_refl _) (by omega) hc hf).mono ?_;rintro e w' ⟨rfl,q,rfl⟩;have hlen:((fl.take fl.length).reverse.map (Value.int .i64)).length=fl.length:=by simp
  have hks:Kept (fun k=>some b=some k) w ((w.drewN q).setCells b 0 ((fl.take fl.length).reverse.map (Value.int .i64))):=((Kept.refl _ w).drewN q).then (Kept.setCells _ _ _);refine⟨rfl,⟨by simp,fun _=>⟨_,rfl,Nat.lt_of_lt_of_le hlt hks.size,fun j u hu=> ?_⟩⟩,hks⟩;have hj:j<fl.length:=by have:=(lD0.1 hu).1;simpa using this
  have h1:=World.cell?_setCells_in b ((fl.take fl.length).reverse.map (Value.int .i64)) 0 (w.drewN q) (fun i hi=>by rw[hlen]at hi;show(w.cell? ⟨b,0+i,none⟩).isSome=true;rw[hc i hi];rfl) j (by rw[hlen];exact hj)
  have e:((⟨b,0,none⟩:Addr).add j)=⟨b,0+j,none⟩:=by unfold Addr.add;split<;>simp_all
  rw[e,h1];have h2:=hu;rw[lB0 (by simp;exact hj)]at h2;injection h2 with h2;rw[<-h2];simp
