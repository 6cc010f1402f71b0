/- Part 19 of what the proof needs. -/
import Derived.Test.YtfjdpbbgfjhnlaaGreatMK16
import Derived.Test.YtfjdpbbgfjhnlaaGreatMK17
set_option linter.unusedSimpArgs false
set_option linter.unusedVariables false
set_option maxHeartbeats 32000000
set_option maxRecDepth 100000
namespace Go.Proofs.YtfjdpbbgfjhnlaaGreat
open Go.RowKit Go.Maps
set_option maxRecDepth 100000
namespace aH
def kW(w:World)(b n:Nat)(s:Int->Bool):Prop:=
 ∃D:DataW Unit,w.ownsMap Tryz.prog 3 (plainElem Tryz.prog 4) b n D/\∀x,has D (.int .i64 x)=s x
theorem kW.lt{w:World}{b n:Nat}{s:Int->Bool}(h:kW w b n s):b<w.heap.size:=by
 obtain⟨D,h,_⟩:=h
 exact h.lt
theorem kW.mono{w:World}{b n n':Nat}{s:Int->Bool}(h:kW w b n s)(hn:n<=n'):kW w b n' s:=by
 obtain⟨D,ho,hD⟩:=h
 exact⟨D,ho.mono hn,hD⟩
theorem kW.store{w:World}{b n:Nat}{s:Int->Bool}(h:kW w b n s)(hn:n<maxLen){x:Int}(hx:I64 x):
  ∃w',(Instr.mapUpdate 88 (.map (some b)) (.int .i64 x) (.bool true)).run Tryz.prog w=.ok () w'/\kW w' b (n+1) (fun y=>decide (y=x)||s y)/\w.grownBy w' (some b):=by
 obtain⟨D,ho,hD⟩:=h
 obtain⟨w',hrun,ho',hg⟩:=ho.update jL Tryz.underlying88 hn (qB hx) (plainElem_bool Tryz.underlying4 true)
 refine⟨w',hrun,⟨_,ho',?_⟩,hg⟩
 intro y
 have hm:IsMap D:=ho.isMap
 have hl:WideAt.IsKeyLit (.int .i64 x):=by trivial
 by_cases e:y=x
 ·subst e
  rw[has_put_same hm hl]
  simp
 ·have hne:(Lit.int .i64 y)≠ .int .i64 x:=fun h=>e (by injection h)
  rw[has_put_other hne,hD y]
  simp[e]
theorem kW.kept{F:Nat->Prop}{w w':World}{b n:Nat}{s:Int->Bool}(h:kW w b n s)(hk:Kept F w w')(hf:¬F b):kW w' b n s:=by
 obtain⟨D,ho,hD⟩:=h
 have hlt:=ho.lt
 obtain⟨es,clock,hb,hF,hs,e⟩:=ho
 exact⟨D,⟨es,clock,(hk.block b hlt hf).trans hb,hF,hs,e⟩,hD⟩
theorem kW.made(w:World):kW (w.alloc (.map #[] 0)) w.heap.size 0 (fun _=>false):=
 ⟨_,World.ownsMap_made w _ _ _,fun x=>rfl⟩
def bW(m:Safe)(ps:List Pc)(x:Int):Bool:=(m x).isSome||ps.any fun p=>decide (p.1=x)
theorem agi{w:World}{b n:Nat}{R:Value->Option (DataW Unit×List MemPlace)}{D:DataW Unit}(hown:w.ownsMap Tryz.prog 3 R b n D):(intKeys D).Nodup/\∀x,x∈intKeys D↔has D (.int .i64 x)=true:=by
 obtain⟨es,hD,hpw,_⟩:=hown.entries jL
 obtain⟨es',hD',hko⟩:=hown.keysOf
 obtain rfl:es=es':=by rw[hD]at hD';simpa using hD'
 subst hD
 have hk:∀p∈es,∃x,p.1=.int .i64 x:=fun p hp=>by obtain⟨v,hv⟩:=hko p hp;obtain⟨x,_,hx,_⟩:=Maps.keyOf_i64 Tryz.underlying3 hv;exact⟨x,hx⟩
 refine⟨?_,fun x=> ?_⟩
 ·show(es.map fun p=>Go.intOf p.1).Nodup
  refine List.pairwise_map.2 (hpw.imp_of_mem fun{p q} hp' hq' hne e=>hne ?_)
  obtain⟨a,ha⟩:=hk p hp'
  obtain⟨b,hb⟩:=hk q hq'
  rw[ha,hb]at e⊢
  exact congrArg _ e
 ·rw[has_eq,List.any_eq_true]
  show x∈es.map (fun p=>Go.intOf p.1)↔_
  rw[List.mem_map]
  constructor
  ·rintro⟨p,hp',rfl⟩
   obtain⟨a,ha⟩:=hk p hp'
   exact⟨p,hp',by rw[ha];simp[Lit.sameKey,Go.intOf]⟩
  ·rintro⟨p,hp',hs⟩
   obtain⟨a,ha⟩:=hk p hp'
   rw[ha]at hs
   exact⟨p,hp',by rw[ha];simpa [Lit.sameKey,Go.intOf,eq_comm]using hs⟩
structure Ci(m:Safe)(ps:List Pc)(fl:List Int):Prop where
 rises:fl.Pairwise (· <·)
 mem:∀x,x∈fl↔I64 x/\bW m ps x=true
def XI(w:World)(m:Safe)(ps:List Pc)(e:Ending)(w':World):Prop:=
 ∃fl A c,e=.returned (.slice A fl.length c)/\Ci m ps fl/\w'.ownsRow 0 3 1 (.slice A fl.length c) fl.length (fl.map (Value.int .i64))/\(∀k,(Value.slice A fl.length c).ownBlock=some k->w.heap.size<=k)/\Kept aj w w'
variable{F:Nat->Prop}{w:World}{g n:Nat}{m:Safe}{ps:List Pc}{aU aK:Int}
theorem pX(h:aX w g F n m ps aU aK)(hpi:∀p∈ps,I64 p.1)(hn:n<=100000)(hlen:ps.length<=100000):
  Calls Tryz.prog 58 #[.pointer (some ⟨g,0,none⟩)] w (XI w m ps):=by
 have hno:=dR h
 have HN:=ah hno;clear hno
 obtain⟨mb,A,c,hF,hg,hm,ho⟩:=h
 obtain⟨D0,hown0,hD0⟩:=hm
 have HD0:=ah hD0;clear hD0
 have c0:w.cell? ⟨g,0,none⟩=some (.map (some mb)):=hg.cell 0
 have hgl:=hg.lt
 have hown1:=hown0.alloc (.map #[] 0)
 have hml:=hown0.lt
 have HG:=ah hg;clear hg
 have HS:=ah (Src.bC ho);clear ho
 have uJ:=ah hpi;clear hpi
 have hmk:= @run_makeMap Tryz.prog
 have hsz0:=hown0.size_le
 clear hF hown0
 go_enter Tryz.func58,Tryz.ntmps58
 go_wp2_with fail
 refine HN.out.mono ?_
 rintro e w' ⟨rfl,rfl⟩
 have HW0:=ah ((Kept.refl aj w).alloc (.map #[] 0))
 have HM0:=ah (kW.made w)
 go_wp2_with (first
  |(at_range;refine wpList_range_own _ rfl _ 69 rfl 3 9 jL Tryz.underlying69 _ mb _ _ rfl hown1 ?_;intro w0 hrg0 hg0 hs0)
  |go_in)
 go_frame
 clear hmk
 have aeG:(w.alloc (.map #[] 0)).heap.size=w.heap.size+1:=by simp
 rw[aeG]at hrg0 hs0⊢
 have hk0:Kept aj w w0:=HW0.out.grownBy hg0 (fun k hk=>by cases hk)
 have hm0:kW w0 w.heap.size 0 (fun x=>has D0 (.int .i64 x)&& !has D0 (.int .i64 x)):=by
  have e:(fun x:Int=>has D0 (.int .i64 x)&& !has D0 (.int .i64 x))=fun _=>false:=by funext x;cases has D0 (.int .i64 x)<;>rfl
  rw[e]
  exact HM0.out.kept ((Kept.refl aj _).grownBy hg0 (fun k hk=>by cases hk)) (fun x=>x)
 have bf:=ah hk0;clear hk0
 have gq:=ah hm0;clear hm0
 clear hg0 hs0 aeG
 go_loopw [4] (fun v4 wr=>∃(left:Lit->Bool) (cnt na:Nat),wr.ranges Tryz.prog 3 (plainElem Tryz.prog 9) mb (w.heap.size+1) n D0 left cnt/\na+cnt<=Maps.size D0/\kW wr w.heap.size na (fun x=>has D0 (.int .i64 x)&& !left (.int .i64 x))/\Kept aj w wr) (fun _ wr=>wr.rangeLeft mb (w.heap.size+1))
 case atStart=>exact⟨_,_,0,hrg0,by simp,gq.out,bf.out⟩
 case round=>
  obtain⟨left,cnt,na,hrg,hcs,hse,hk⟩:=hrel
  have xM:=ah hse;clear hse
  have HK:=ah hk;clear hk
  have hsz:=HK.out.size
  go_wp2_with (first
   |(at_next;refine wpList_next_ranges _ rfl _ rfl 3 jL (plainElem Tryz.prog 9) encZ (fun v:Value=>v) (fun key kl hk=>by obtain⟨x,hx,_⟩:=Maps.keyOf_i64 Tryz.underlying3 hk;exact⟨x,hx⟩) (fun v y hv=>⟨v,rfl⟩) mb (w.heap.size+1) n _ _ _ rfl hrg ?_ ?_)
   |go_in)
  ·intro hc0 hl0
   have Ox:kW wr w.heap.size n (fun x=>has D0 (.int .i64 x)||([]:List Pc).any fun p=>decide (p.1=x)):=by
    have e:(fun x:Int=>has D0 (.int .i64 x)&& !left (.int .i64 x))=fun x=>has D0 (.int .i64 x)||([]:List Pc).any fun p=>decide (p.1=x):=by funext x;rw[hl0];simp
    rw[<-e]
    exact xM.out.mono (by omega)
   have agU:=ah Ox;clear Ox xM
   have c1:wr.cell? ⟨g,1,none⟩=some (.slice A ps.length c):=(HG.out.kept HK.out (fun x=>x)).cell 1
   clear hrg hl0
   obtain⟨w1,hw1⟩:∃w1:World,w1=wr:=⟨_,rfl⟩
   subst hw1
   go_wp2_with fail
   go_loopw [6,26] (fun v6 v26 wr=>∃i:Nat,i<=ps.length/\v26=.int .i64 i/\kW wr w.heap.size (n+i) (fun x=>has D0 (.int .i64 x)||(ps.take i).any fun p=>decide (p.1=x))/\Kept aj w wr) (fun _ v26 _=>ps.length-(RowKit.intOf v26).toNat)
   case atStart=>exact⟨0,Nat.zero_le _,rfl,agU.out,HK.out⟩
   case round=>
    obtain⟨i,hi,rfl,hse,hk⟩:=hrel
    have xM:=ah hse;clear hse
    have HK:=ah hk;clear hk
    have hsz:=HK.out.size
    by_cases hil:i<ps.length
    ·obtain⟨q,hq⟩:∃q,ps[i]? =some q:=⟨_,List.getElem?_eq_getElem hil⟩
     obtain⟨ad,rfl,hl1,e0,e1⟩:=Cf (HS.out.kept HK.out (fun _ _ x=>x)) (by omega) i q hq
     have hq1:I64 q.1:=uJ.out q (List.mem_of_getElem? hq)
     have hwl:=xM.out.lt
     obtain⟨w3,hst,Oy,hg3⟩:=kW.store (w:=wr.alloc (.cells #[.int .i64 q.1,.string q.2] 93)) (xM.out.kept ((Kept.refl aj _).alloc _) (fun x=>x)) (by unfold maxLen;omega) hq1
     have Oz:kW w3 w.heap.size (n+(i+1)) (fun x=>has D0 (.int .i64 x)||(ps.take (i+1)).any fun p=>decide (p.1=x)):=by
      have e:(fun y:Int=>decide (y=q.1)||(has D0 (.int .i64 y)||(ps.take i).any fun p=>decide (p.1=y)))=fun y=>has D0 (.int .i64 y)||(ps.take (i+1)).any fun p=>decide (p.1=y):=by
       funext y
       rw[take_snoc hq,List.any_append]
       by_cases hy:y=q.1
       ·subst hy;simp
       ·have hy':¬q.1=y:=fun h=>hy h.symm
        simp[hy,hy']
      rw[<-e]
      exact Oy
     have hk3:Kept aj w w3:=(HK.out.alloc _).grownBy hg3 (fun k hk=>by injection hk with hk;exact .inr (by omega))
     have aaQ:=ah Oz;clear Oz Oy
     have bn:=ah hk3;clear hk3 hg3
     obtain⟨q1,q2⟩:=q
     dsimp only at e0 e1 hst
     clear hq hq1
     go_wp2_with fail
     go_roundw
     case rel=>exact⟨i+1,by omega,by go_num,aaQ.out,bn.out⟩
     case measure=>simp[RowKit.intOf];omega
    ·obtain rfl:i=ps.length:=by omega
     rw[List.take_length]at xM
     obtain⟨D,IG,hDs⟩:=xM.out
     have hDz:=IG.size_le
     have hkz:=agi IG
     have hwf:=intKeys_wf IG Tryz.underlying3
     go_wp2_with fail
     refine(It.aaP _ _).mono ?_
     rintro e w' ⟨rfl,rfl⟩
     go_wp2_with fail
     refine(It.UA w.heap.size _ D _ wr IG (by unfold maxLen;omega) (by omega)).mono ?_
     rintro e w2 ⟨v,ss,rfl,hperm,hrow,hb2⟩
     obtain⟨A',c',rfl,hcc⟩:=BF hrow
     have hfa:Ci m ps (ss.mergeSort leI):=by
      have tr:∀a b c:Int,leI a b=true->leI b c=true->leI a c=true:=fun a b c h1 h2=>by simp only[leI,decide_eq_true_eq]at*;exact Int.le_trans h1 h2
      have to:∀a b:Int,(leI a b||leI b a)=true:=fun a b=>by simp only[leI,Bool.or_eq_true,decide_eq_true_eq];exact Int.le_total a b
      have h1:=List.pairwise_mergeSort tr to ss
      have h2:(ss.mergeSort leI).Nodup:=(List.mergeSort_perm ss leI).nodup_iff.2 (hperm.nodup_iff.2 hkz.1)
      refine⟨(h1.and h2).imp fun{a b} h=>by have:=h.1;simp only[leI,decide_eq_true_eq]at this;have:=h.2;omega,fun x=> ?_⟩
      rw[List.mem_mergeSort,hperm.mem_iff,hkz.2 x,hDs x]
      constructor
      ·intro hx
       have hi:I64 x:=hwf x ((hkz.2 x).2 (by rw[hDs x];exact hx))
       refine⟨hi,?_⟩
       rw[(HD0.out x hi).1]at hx
       exact hx
      ·rintro⟨hi,hx⟩
       rw[(HD0.out x hi).1]
       exact hx
     have hrow0:w2.ownsRow 0 3 1 (.slice A' ss.length c') ss.length ((ss.mergeSort leI).map (Value.int .i64)):=⟨hrow.1,hrow.2.imp id fun⟨g,cap,cur,a,_,c⟩=>⟨g,cap,cur,a,Nat.zero_le _,c⟩⟩
     have hnew:=hrow.lt
     have hk2:Kept aj w w2:=(HK.out.alloc _).then (Kept.of_below (hb2.mono (B':=wr.heap.size+1) (Nat.le_refl _)) (fun k hk _=>by simpa using hk))
     have hlen2:(ss.mergeSort leI).length=ss.length:=List.length_mergeSort _
     have bV:=ah hrow0;clear hrow0 hrow
     have fH:=ah hnew;clear hnew
     have Eo:=ah hfa;clear hfa
     have aW:=ah hk2;clear hk2
     have kQ:=ah hlen2;clear hlen2
     clear hperm hkz hwf hDs hb2 IG hcc
     go_wp2_with fail
     go_ret
     exact⟨ss.mergeSort leI,A',c',by rw[kQ.out];rfl,Eo.out,by rw[kQ.out];exact bV.out,by rw[kQ.out];exact fun k hk=>by have:=(fH.out k hk).1;omega,aW.out⟩
  ·intro x cb kl yd yp w2 cnt2 hkey hlk hv hat hrg2 hlt hg2 hs2 hen
   obtain⟨x',ex,rfl,hxw⟩:=Maps.keyOf_i64 Tryz.underlying3 hkey
   obtain rfl:x=x':=encZ_inj ex
   have hk2:Kept aj w w2:=HK.out.grownBy hg2 (fun k hk=>by injection hk with hk;exact .inr (by omega))
   have Ox:kW w2 w.heap.size na (fun x=>has D0 (.int .i64 x)&& !left (.int .i64 x)):=xM.out.kept ((Kept.refl (fun k=>k=w.heap.size+1) wr).grownBy hg2 (fun k hk=>by injection hk with hk;exact .inl hk.symm)) (by omega)
   obtain⟨w3,hst,Oy,hg3⟩:=Ox.store (by unfold maxLen;omega) hxw
   have hhas:has D0 (.int .i64 x)=true:=has_true_of_atKey hat
   have Oz:kW w3 w.heap.size (na+1) (fun y=>has D0 (.int .i64 y)&& !(left (.int .i64 y)&& !(Lit.int .i64 y).sameKey (.int .i64 x))):=by
    have e:(fun y:Int=>decide (y=x)||(has D0 (.int .i64 y)&& !left (.int .i64 y)))=fun y=>has D0 (.int .i64 y)&& !(left (.int .i64 y)&& !(Lit.int .i64 y).sameKey (.int .i64 x)):=by
     funext y
     by_cases hy:y=x
     ·subst hy;simp[hhas,Lit.sameKey]
     ·simp[hy,Lit.sameKey]
    rw[<-e]
    exact Oy
   have hrg3:=hrg2.kept hg3 (fun e=>by have:=Option.some.inj e;omega) (fun e=>by have:=Option.some.inj e;omega)
   have hk3:Kept aj w w3:=hk2.grownBy hg3 (fun k hk=>by injection hk with hk;exact .inr (by omega))
   have aaQ:=ah Oz;clear Oz Oy Ox
   have bn:=ah hk3;clear hk3 hk2
   clear hs2 hkey hv hat hhas hg3
   unfold encZ at hen
   go_wp2_with fail
   go_roundw
   case rel=>exact⟨_,cnt2,na+1,hrg3,by omega,aaQ.out,bn.out⟩
   case measure=>rw[hrg3.left_eq,hrg.left_eq];exact hlt
end aH
end Go.Proofs.YtfjdpbbgfjhnlaaGreat
namespace Go.Proofs.YtfjdpbbgfjhnlaaGreat
open Go.RowKit
set_option maxRecDepth 100000
namespace yP
theorem uK{w:World}{A:Option Addr}{k:Nat}{l:List Int}(h:Src w 1 A k (l.map (Value.int .i64)))(hm:0<k)(i:Nat)(p:Int)(hp:l[i]? =some p):
  ∃ad:Addr,A=some ad/\ad.block<w.heap.size/\w.cell? (ad.add i)=some (.int .i64 p):=by
 obtain⟨ad,e,hb,hc⟩:=h.2 hm
 exact⟨ad,e,hb,hc i _ (by rw[List.getElem?_map,hp];rfl)⟩
theorem drop_cons{α:Type}{l:List α}{i:Nat}{p:α}(h:l[i]? =some p):l.drop i=p::l.drop (i+1):=by
 obtain⟨hi,e⟩:=List.getElem?_eq_some_iff.1 h
 rw[List.drop_eq_getElem_cons hi,e]
def inB(l:List Int)(x:Int):Bool:=l.contains x
theorem rO{l:List Int}{x:Int}:inB l x=true↔x∈l:=by unfold inB;simp
theorem BR(w:World)(A:Option Addr)(c:Nat)(l:List Int)(x:Int)(hl:Src w 1 A l.length (l.map (Value.int .i64)))(hlen:l.length<=maxLen):
  Calls Tryz.prog 171 #[.slice A l.length c,.int .i64 x] w fun e w'=>(∃n:Int,e=.returned (.int .i64 n)/\(0<=n↔x∈l))/\w=w':=by
 unfold maxLen at hlen
 have HL:=ah hl;clear hl
 go_enter Tryz.func171,Tryz.ntmps171
 go_wp2_with fail
 go_loop [5,8] (fun v5 v8=>∃i:Nat,i<=l.length/\v8=.int .i64 i/\(x∈l↔x∈l.drop i)) (fun _ v8=>l.length-(intOf v8).toNat)
 case atStart=>exact⟨0,Nat.zero_le _,rfl,Iff.rfl⟩
 case round=>
  obtain⟨i,hi,rfl,he⟩:=hrel
  have HE:=ah he;clear he
  by_cases hil:i<l.length
  ·obtain⟨b,hb⟩:∃b,l[i]? =some b:=⟨_,List.getElem?_eq_getElem hil⟩
   obtain⟨ad,rfl,had,e0⟩:=uK HL.out (by omega) i b hb
   have hs:x∈l.drop i↔x=b\/x∈l.drop (i+1):=by rw[drop_cons hb,List.mem_cons]
   have HS:=ah hs;clear hs hb
   by_cases hbx:x=b
   ·subst hbx
    go_wp2
    go_ret
    exact⟨⟨_,rfl,⟨fun _=>by rw[HE.out,HS.out];simp,fun _=>by omega⟩⟩,rfl⟩
   ·have hne:(x==b)=false:=by simpa using hbx
    go_wp2
    go_round
    case rel=>exact⟨i+1,by omega,by go_num,by rw[HE.out,HS.out];simp[hbx]⟩
    case measure=>simp[intOf];omega
  ·obtain rfl:i=l.length:=by omega
   go_wp2
   go_ret
   exact⟨⟨-1,rfl,⟨fun h=>by omega,fun h=>by rw[HE.out,List.drop_length]at h;cases h⟩⟩,rfl⟩
theorem kP(w:World)(A:Option Addr)(c:Nat)(l:List Int)(x:Int)(hl:Src w 1 A l.length (l.map (Value.int .i64)))(hlen:l.length<=maxLen):
  Calls Tryz.prog 99 #[.slice A l.length c,.int .i64 x] w fun e w'=>e=.returned (.bool (inB l x))/\w=w':=by
 have hi:=BR w A c l x hl hlen
 have HI:=ah hi;clear hi hl
 by_cases hx:x∈l
 ·have hb:inB l x=true:=rO.2 hx
  rw[hb]
  have HX:=ah hx;clear hx
  go_enter Tryz.func99,Tryz.ntmps99
  go_wp2_with fail
  refine HI.out.mono ?_
  rintro e w2 ⟨⟨n,rfl,hn⟩,rfl⟩
  have hn0:0<=n:=hn.2 HX.out
  clear hn
  go_wp2
  go_ret
  exact⟨rfl,rfl⟩
 ·have hb:inB l x=false:=by unfold inB;simpa using hx
  rw[hb]
  have HX:=ah hx;clear hx
  go_enter Tryz.func99,Tryz.ntmps99
  go_wp2_with fail
  refine HI.out.mono ?_
  rintro e w2 ⟨⟨n,rfl,hn⟩,rfl⟩
  have hn0:¬0<=n:=fun h=>HX.out (hn.1 h)
  clear hn
  go_wp2
  go_ret
  exact⟨by have h2:decide (0<=n)=false:=decide_eq_false (by omega)
           simp[h2],rfl⟩
theorem KP{w:World}{A:Option Addr}{k:Nat}{l:List ByteArray}(h:Src w 1 A k (l.map Value.string))(hm:0<k)(i:Nat)(p:ByteArray)(hp:l[i]? =some p):
  ∃ad:Addr,A=some ad/\ad.block<w.heap.size/\w.cell? (ad.add i)=some (.string p):=by
 obtain⟨ad,e,hb,hc⟩:=h.2 hm
 exact⟨ad,e,hb,hc i _ (by rw[List.getElem?_map,hp];rfl)⟩
end yP
namespace aH
def mA:Safe:=lG (fun _=>none) [(1,⟨#[97,98]⟩)]
theorem fZ{k:Int}(h0:0<=k)(h1:k<=4611686018427387904):I64 k:=by
 unfold I64 Lit.wf
 have hb:(2:Int)^(IntKind.i64.bits-1)=9223372036854775808:=by decide
 simp[IntKind.signed,IntKind.min,IntKind.max,hb]
 omega
end aH
end Go.Proofs.YtfjdpbbgfjhnlaaGreat
namespace Go.Proofs.YtfjdpbbgfjhnlaaGreat
open Go.RowKit Go.Shelf
attribute [local go_sem] Oper.semAt_some
set_option maxRecDepth 100000
namespace Wl
open aH
def jH(p:Int->Bool)(d:Int->ByteArray):Nat->Int->List (Int×ByteArray)
 |0,_=>[]
 |k+1,n=>if p n then (n,d n)::jH p d k (n+1)else []
structure KS(FF E:Nat->Prop)(A B:World):Prop where
 size:A.heap.size<=B.heap.size
 block:∀k,FF k->B.heap[k]? =A.heap[k]?
 ints:∀k cs,¬E k->Has A k 3 cs->Has B k 3 cs
section
variable{FF E F:Nat->Prop}{A B C w w':World}{g n:Nat}{m:aH.Safe}{ps:List aH.Pc}{aU aK:Int}
theorem KS.refl:KS FF E A A:=⟨Nat.le_refl _,fun _ _=>rfl,fun _ _ _ h=>h⟩
theorem KS.trans(h:KS FF E A B)(k:KS FF E B C):KS FF E A C:=⟨Nat.le_trans h.size k.size,fun i hi=>(k.block i hi).trans (h.block i hi),fun i cs hi hc=>k.ints i cs hi (h.ints i cs hi hc)⟩
theorem KS.rJ(h:Kept aj A B)(hF:∀k,FF k->k<A.heap.size):KS FF E A B:=⟨h.size,fun k hk=>h.block k (hF k hk) (fun z=>z),fun k cs _ hc=>hc.kept h (fun z=>z)⟩
theorem KS.put(hF:∀k,FF k->k<w.heap.size)(W:World)(l:Nat)(o o':Obj)(h:w.heap.size<=l)(hl:W.heap[l]? =some o)(hc:o.isCells=false)(_:o.isWalk=false):KS FF E W (W.putObj l o'):=
 ⟨Nat.le_of_eq (by simp[World.putObj]),fun k hk=>World.putObj_heap_other (by have:=hF k hk;omega),fun k cs _ hh=>by
  have hne:k≠l:=by
   rintro rfl
   unfold Has at hh
   rw[hl]at hh
   cases hh
   cases hc
  unfold Has at hh⊢
  rw[World.putObj_heap_other hne]
  exact hh⟩
theorem OA{base size n:Nat}{e:TypeId}{v:Value}{xs:List Value}(h:w.ownsRow base e size v n xs)(hb:∀g,v.ownBlock=some g->w'.heap[g]? =w.heap[g]?):w'.ownsRow base e size v n xs:=by
 refine⟨h.1,?_⟩
 rcases h.2 with h2|⟨g,cap,cur,rfl,hg,hh,r⟩
 ·exact .inl h2
 ·exact .inr ⟨g,cap,cur,rfl,hg,(hb g rfl).trans hh,r⟩
theorem aX.same(h:aX w g F n m ps aU aK)(hb:∀k,F k->w'.heap[k]? =w.heap[k]?):aX w' g F n m ps aU aK:=by
 obtain⟨mb,A,c,hF,hg,hm,ho⟩:=h
 refine⟨mb,A,c,hF,(hb _ ((hF _).2 (.inl rfl))).trans hg,?_,OA ho fun k hk=>hb k ((hF k).2 (.inr (.inr hk)))⟩
 obtain⟨D,⟨es,clock,hbk,Gf,hs,e⟩,hD⟩:=hm
 exact⟨D,⟨es,clock,(hb mb ((hF _).2 (.inr (.inl rfl)))).trans hbk,Gf,hs,e⟩,hD⟩
theorem aaR{base size n:Nat}{e:TypeId}{v:Value}{xs:List Value}(h:w.ownsRow base e size v n xs){g:Nat}(hg:v.ownBlock=some g):∃cs,Has w g e cs:=Fr.jC h hg
end
theorem aaS{p:Int->Bool}{d:Int->ByteArray}{x:Int}(h:p x=false):∀j,jH p d j x=[]
 |0=>rfl
 |j+1=>by unfold jH;rw[h];rfl
theorem aeH(n:Nat)(hn:1<=n)(l Bd Bf g nn:Nat)(F E:Nat->Prop)(m:aH.Safe)(ps:List aH.Pc)(aU aK first:Int)(K:Nat)(J Jx:List (Int×ByteArray)->World->Prop)(W:World)
  (hd:aX W g F nn m ps aU aK) (hBd:Has W Bd 29 #[.pointer (some ⟨g,0,none⟩)]) (SA:Has W Bf 3 #[.int .i64 first])
  (hE:∀k,E k->k<W.heap.size) (hpi:∀p∈ps,I64 p.1) (hnn:nn<=100000) (hps:ps.length<=100000) (hsz:∀f,(dN m f).size+total ps<=140737488355328)
  (h1:1<=first) (h2:first+K<=4611686018427387904) (hK:bW m ps (first+K)=false)
  (hA:∀pre A B,J pre A->Kept aj A B->J pre B)
  (hY:∀pre x W,J pre W->pre++[x]<+:jH (bW m ps) (dataOf m ps) K first->YieldAt Fence.wide (n-1) Tryz.prog l #[.int .i64 x.1,.string x.2] W fun e W'=>
   (e=.returned (.bool true)/\J (pre++[x]) W'/\KS (fun k=>F k\/k=Bd\/k=Bf) E W W')\/(e=.returned (.bool false)/\Jx (pre++[x]) W'))
  (h0:J [] W):
  CallsIn Fence.wide n Tryz.prog 252 #[.func (.yield l) #[] #[],.pointer (some ⟨Bd,0,none⟩),.pointer (some ⟨Bf,0,none⟩)] W fun e W'=>(∃v,e=.returned v)/\
   ((∃ys,ys=jH (bW m ps) (dataOf m ps) K first/\J ys W')\/(∃pre,pre<+:jH (bW m ps) (dataOf m ps) K first/\Jx pre W')):=by
 have hfn:∀k,Fence.wide.fn k:=fun _=>trivial
 obtain⟨FF,Gf⟩:∃FF:Nat->Prop,FF=fun k=>F k\/k=Bd\/k=Bf:=⟨_,rfl⟩
 have Ep:∀k,FF k->k<W.heap.size:=by
  intro k hk
  rw[Gf]at hk
  rcases hk with h|rfl|rfl
  ·exact hd.lt k h
  ·exact hBd.lt
  ·exact SA.lt
 have aeI:∀k,F k->FF k:=fun k h=>by rw[Gf];exact .inl h
 have aeJ:FF Bd:=by rw[Gf];exact .inr (.inl rfl)
 have aeK:FF Bf:=by rw[Gf];exact .inr (.inr rfl)
 rw[<-Gf]at hY
 have hfi:=pX hd hpi hnn hps
 have c1:W.cell? ⟨Bd,0,none⟩=some (.pointer (some ⟨g,0,none⟩)):=hBd.cell 0
 have HA:=ah hA;have HY:=ah hY;have pY:=ah hfi;have HH0:=ah h0;have oM:=ah Ep;have HK:=ah hK;have HE:=ah hE;have lD:=ah hsz
 have XJ:=ah aeI;have HF2:=ah aeJ;have HF3:=ah aeK;have HD:=ah hd;have HBD:=ah hBd;have HBF:=ah SA;have HNN:=ah hnn;have HPS:=ah hps
 clear hA hY hfi h0 Ep hK hE hsz aeI aeJ aeK hd hBd SA hpi Gf
 refine callsIn_of_wp Tryz.func252 rfl trivial ?_ rfl
 simp only[Tryz.ntmps252,List.size_toArray,List.length_cons,List.length_nil,Nat.reduceAdd,Nat.reduceSub,Array.replicate_succ,Array.replicate_zero,List.push_toArray,List.append_toArray,List.nil_append,List.cons_append]
 gi_wp2_with (gi_at_call 58;(refine(callsIn_wide.2 pY.out).mono ?_;rintro e W1 ⟨fl,A,c,rfl,hfa,hown,hnew,hk⟩;have c2:W1.cell? ⟨Bf,0,none⟩=some (.int .i64 first):=(HBF.out.kept hk (fun z=>z)).cell 0;have Eo:=ah hfa;have ql:=ah hown;have fH:=ah hnew;have fF:=ah hk;clear hfa hown hnew hk))
 have aeL:KS FF E W W1:=KS.rJ fF.out oM.out
 have hj1:J [] W1:=HA.out _ _ _ HH0.out fF.out
 have aeM:=ah aeL;have gB:=ah hj1
 clear aeL hj1
 gi_loopw [5] (fun v5 wr=>∃(x:Int) (j:Nat) (pre:List (Int×ByteArray)),v5=.int .i64 x/\first<=x/\x+j=first+K/\jH (bW m ps) (dataOf m ps) K first=pre++jH (bW m ps) (dataOf m ps) j x/\J pre wr/\KS FF E W1 wr) (fun v5 _=>(first+K-intOf v5).toNat)
 case atStart=>exact⟨first,K,[],rfl,Int.le_refl _,rfl,rfl,gB.out,KS.refl⟩
 case round=>
  obtain⟨x,j,pre,rfl,hx1,hx2,hL,hJ,hks⟩:=hrel
  have HL:=ah hL;have HJ:=ah hJ;have HKS:=ah hks
  clear hL hJ hks
  have hcap:=fV ql.out
  have hsrc:Src wr 1 A fl.length (fl.map (Value.int .i64)):=by
   refine Src.bC (OA ql.out fun b hb=> ?_)
   obtain⟨cs,hh⟩:=aaR ql.out hb
   have hbE:¬E b:=fun h=>by have h8:=fH.out b hb;have h9:=HE.out b h;omega
   exact(HKS.out.ints b cs hbE hh).trans hh.symm
  have OB:I64 x:=fZ (by omega) (by omega)
  have hco:=yP.kP wr A c fl x hsrc (by omega)
  have hin:yP.inB fl x=bW m ps x:=by
   rw[Bool.eq_iff_iff,yP.rO,Eo.out.mem x]
   exact⟨fun h=>h.2,fun h=>⟨OB,h⟩⟩
  rw[hin]at hco
  have qK:=ah hco
  clear hco hin hsrc hcap
  rcases hp:bW m ps x with _|_
  ·rw[hp]at qK
   have hno:=aaS (d:=dataOf m ps) hp j
   have jl:=ah hno
   clear hno hp
   gi_wp2_with (gi_at_call 99;(refine(callsIn_wide.2 qK.out).mono ?_;rintro e W2 ⟨rfl,rfl⟩))
   go_end0
   exact⟨⟨_,rfl⟩,.inl ⟨_,by rw[HL.out,jl.out,List.append_nil],HJ.out⟩⟩
  ·rw[hp]at qK
   obtain⟨j,rfl⟩:∃j',j=j'+1:=by
    rcases j with _|j
    ·have e:x=first+K:=by omega
     rw[e,HK.out]at hp
     cases hp
    ·exact⟨j,rfl⟩
   have hcons:jH (bW m ps) (dataOf m ps) (j+1) x=(x,dataOf m ps x)::jH (bW m ps) (dataOf m ps) j (x+1):=by
    rw[jH,hp];rfl
   have hL:=HL.out
   rw[hcons]at hL
   have hL2:jH (bW m ps) (dataOf m ps) K first=(pre++[(x,dataOf m ps x)])++jH (bW m ps) (dataOf m ps) j (x+1):=by rw[hL];simp
   have hlen:pre++[(x,dataOf m ps x)]<+:jH (bW m ps) (dataOf m ps) K first:=by rw[hL2];exact List.prefix_append _ _
   have HL2:=ah hL2;have kQ:=ah hlen
   have aaT:KS FF E W wr:=aeM.out.trans HKS.out
   have hdw:aX wr g F nn m ps aU aK:=aX.same HD.out fun k hk=>aaT.block k (XJ.out k hk)
   have hda:=yO hdw x OB HPS.out (lD.out x)
   have b1:wr.cell? ⟨Bd,0,none⟩=some (.pointer (some ⟨g,0,none⟩)):=(show Has wr Bd _ _ from(aaT.block Bd HF2.out).trans HBD.out).cell 0
   have Gg:=ah hda
   clear hL hlen hL2 hcons hp aaT hdw hda
   gi_wp2_with (first
    |(gi_at_call 99;(refine(callsIn_wide.2 qK.out).mono ?_;rintro e W2 ⟨rfl,rfl⟩))
    |(gi_at_call 127;(refine(callsIn_wide.2 Gg.out).mono ?_;rintro e w2 ⟨rfl,hk⟩;have HJ2:=ah (HA.out _ _ _ HJ.out hk);have Ei:∀k,FF k->k<wr.heap.size:=(fun k h=>Nat.lt_of_lt_of_le (oM.out k h) (aeM.out.trans HKS.out).size);have HB2:=ah (HKS.out.trans (KS.rJ hk Ei));clear hk Ei;obtain⟨fn,tmps,assign,body,hy,hR⟩:=HY.out pre (x,dataOf m ps x) w2 HJ2.out kQ.out;simp only at hy)))
   refine hR.mono ?_
   rintro e W3 (⟨rfl,hJ3,hk3⟩|⟨rfl,hJx3⟩)
   ·have Iy:=ah hJ3;have HB3:=ah (HB2.out.trans hk3);clear hJ3 hk3
    gi_wp2
    go_roundw
    case rel=>exact⟨x+1,j,pre++[(x,dataOf m ps x)],rfl,by omega,by omega,HL2.out,Iy.out,HB3.out⟩
    case measure=>simp[intOf];omega
   ·have Cb:=ah hJx3;clear hJx3
    gi_wp2
    refine bodyPost_ret (results_none rfl _ _ _) rfl ?_
    exact⟨⟨_,rfl⟩,.inr ⟨_,by rw[HL2.out];exact List.prefix_append _ _,Cb.out⟩⟩
abbrev Sg:={x:Int×ByteArray//x.2.size<=1000000/\1<=x.1/\x.1<=4611686018427387904}
theorem Q8{α β:Type}(f:α->β){ls:List α}{pre:List α}{x:β}(h:pre.map f++[x]<+:ls.map f)(hp:pre<+:ls):∃y,f y=x/\pre++[y]<+:ls:=by
 obtain⟨r,rfl⟩:=hp
 rw[List.map_append]at h
 have h2:=(List.prefix_append_right_inj (pre.map f)).1 h
 rcases r with _|⟨y,r⟩
 ·have:=h2.length_le;simp at this
 ·refine⟨y,?_,?_⟩
  ·rw[List.map_cons]at h2
   obtain⟨z,hz⟩:=h2
   simp at hz
   exact hz.1.symm
  ·rw[show pre++y::r=(pre++[y])++r by simp];exact List.prefix_append _ _
theorem XK(n:Nat)(hn:1<=n)(Bd Bf g nn:Nat)(F E:Nat->Prop)(m:aH.Safe)(ps:List aH.Pc)(aU aK first:Int)(K:Nat)(ls:List Sg)(w:World)
  (hd:aX w g F nn m ps aU aK) (hBd:Has w Bd 29 #[.pointer (some ⟨g,0,none⟩)]) (SA:Has w Bf 3 #[.int .i64 first])
  (hE:∀k,E k->k<w.heap.size) (hpi:∀p∈ps,I64 p.1) (hnn:nn<=100000) (hps:ps.length<=100000) (hsz:∀f,(dN m f).size+total ps<=140737488355328)
  (h1:1<=first) (h2:first+K<=4611686018427387904) (hK:bW m ps (first+K)=false) (hls:ls.map (·.1)=jH (bW m ps) (dataOf m ps) K first):
  SeqStopsK Fence.wide n Tryz.prog 252 #[.pointer (some ⟨Bd,0,none⟩),.pointer (some ⟨Bf,0,none⟩)] (fun x:Sg=>#[.int .i64 x.1.1,.string x.1.2]) (KS (fun k=>F k\/k=Bd\/k=Bf) E) (fun ys=>ys=ls) (fun pre=>pre<+:ls) ls.length w:=by
 intro l J Jx W hW hJ hJx hY h0
 have hkw:∀k,k<w.heap.size->W.heap[k]? =w.heap[k]? :=fun k hk=>hW.block k hk
 refine(aeH n hn l Bd Bf g nn F E m ps aU aK first K (fun pre W=>∃q,q.map (·.1)=pre/\q<+:ls/\J q W) (fun pre W=>∃q,q.map (·.1)=pre/\q<+:ls/\Jx q W) W
  (aX.same hd fun k hk=>hkw k (hd.lt k hk)) ((hkw _ hBd.lt).trans hBd) ((hkw _ SA.lt).trans SA) (fun k hk=>Nat.lt_of_lt_of_le (hE k hk) hW.size) hpi hnn hps hsz h1 h2 hK ?_ ?_ ⟨[],rfl,List.nil_prefix,h0⟩).mono ?_
 ·rintro pre A B ⟨q,h3,h4,h5⟩ hk
  exact⟨q,h3,h4,hJ q A B none h5 (Fr.IB hk) (fun r e=>by cases e)⟩
 ·rintro pre x W1 ⟨q,rfl,h4,h5⟩ hpre
  rw[<-hls]at hpre
  obtain⟨y,rfl,hy⟩:=Q8 _ hpre h4
  refine(hY q y W1 h5 ?_).mono ?_
  ·have:=hy.length_le;simp at this;omega
  ·rintro e W2 (⟨rfl,h6,h7⟩|⟨rfl,h6⟩)
   ·exact .inl ⟨rfl,⟨q++[y],by simp,hy,h6⟩,h7⟩
   ·exact .inr ⟨rfl,q++[y],by simp,hy,h6⟩
 ·rintro e W2 ⟨he,⟨ys,rfl,q,h3,h4,h5⟩|⟨pre,hpre,q,rfl,h4,h5⟩⟩
  ·refine⟨he,.inl ⟨q,?_,h5⟩⟩
   refine h4.eq_of_length ?_
   have:=congrArg List.length (h3.trans hls.symm)
   simpa using this
  ·exact⟨he,.inr ⟨q,h4,h5⟩⟩
end Wl
end Go.Proofs.YtfjdpbbgfjhnlaaGreat
