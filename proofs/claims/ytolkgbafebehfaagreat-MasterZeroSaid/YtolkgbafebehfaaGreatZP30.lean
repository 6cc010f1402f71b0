/- Part 31 of what the proof needs. -/
import Derived.Test.YtolkgbafebehfaaGreatZP29
set_option linter.unusedSimpArgs false
set_option linter.unusedVariables false
set_option maxHeartbeats 32000000
set_option maxRecDepth 100000
namespace Go.Proofs.YtolkgbafebehfaaGreat
open Go.RowKit
set_option maxRecDepth 100000
namespace Pt
open aJ Fr Vn Ops Wl
structure sU(first:Int)(m:aJ.Safe)(ps:List aJ.Pc):Prop where
 file:∀x,x<first->m x=none
 pc:∀p∈ps,first<=p.1
section
variable{first:Int}{R:St}{T:List (List UInt8)}{m:aJ.Safe}{ps:List aJ.Pc}
theorem sU.low(h:sU first m ps):Low first m ps:=⟨fun x hx=>by unfold dY;rw[h.file x hx];rfl,h.pc⟩
theorem J3{x:Int}:∀(ps:List aJ.Pc) (m:aJ.Safe),(∀p∈ps,p.1≠x)->kK m ps x=m x
 |[],_,_=>rfl
 |p::ps,m,h=>by
  have h1:=h p (by simp)
  rw[kK,J3 ps _ (fun q hq=>h q (by simp[hq]))]
  unfold oJ
  rw[if_neg (fun e=>h1 e.symm)]
theorem sU.sync(h:sU first m ps):sU first (kK m ps) []:=
 ⟨fun x hx=>by rw[J3 ps m (fun p hp e=>by have:=h.pc p hp;omega)];exact h.file x hx,fun p hp=>by cases hp⟩
theorem sU.append(h:sU first m ps){f:Int}{s:ByteArray}(hf:first<=f):sU first m (ps++[(f,s)]):=
 ⟨h.file,fun p hp=>by
  rcases List.mem_append.1 hp with hp|hp
  ·exact h.pc p hp
  ·simp at hp;subst hp;exact hf⟩
theorem sU.cu(h:sU first m ps)(hl:Log first R T m ps)(x:Int):cu m ps x=decide (first<=x/\x<first+(cur R T).length):=by
 by_cases hx:first<=x
 ·have h1:=(hl.file (x-first).toNat).1
  rw[show first+((x-first).toNat:Int)=x by omega]at h1
  rw[h1]
  congr 1
  rw[eq_iff_iff]
  omega
 ·have h1:¬(first<=x/\x<first+(cur R T).length):=fun h=>hx h.1
  rw[decide_eq_false h1]
  unfold aJ.cu
  rw[h.file x (by omega)]
  simp only[Option.isSome_none,Bool.false_or,List.any_eq_false,decide_eq_true_eq]
  intro p hp e
  have:=h.pc p hp
  omega
theorem Log.above(h:Log first R T m ps):Log (first+(cur R T).length) [] [] m ps:=by
 have hno:∀i:Nat,aJ.cu m ps (first+(cur R T).length+i)=false:=fun i=>by
  have:=(h.file ((cur R T).length+i)).1
  rw[show first+(((cur R T).length+i:Nat):Int)=first+(cur R T).length+i by omega]at this
  rw[this]
  simp
 refine⟨fun i=> ?_,?_,(fun f hf=>by cases hf),(fun t ht=>by cases ht)⟩
 ·have:=hno i
  unfold aJ.cu at this
  simp only[Bool.or_eq_false_iff,Option.isSome_eq_false_iff,Option.isNone_iff_eq_none]at this
  rw[this.1]
  rfl
 ·show _=[]
  rw[List.filter_eq_nil_iff]
  intro p hp hm
  simp only[mine,decide_eq_true_eq]at hm
  have:=hno (p.1-(first+(cur R T).length)).toNat
  rw[show first+((cur R T).length:Int)+((p.1-(first+(cur R T).length)).toNat:Int)=p.1 by omega]at this
  unfold aJ.cu at this
  simp only[Bool.or_eq_false_iff,List.any_eq_false,decide_eq_true_eq]at this
  exact this.2 p hp rfl
end
def xC(a b:Int)(m:aJ.Safe):aJ.Safe:=fun x=>if a<=x/\x<b then m x else none
def tH(a b:Int)(fl:List Int)(m:aJ.Safe):aJ.Safe:=fun x=>if x∈fl/\¬(a<=x/\x<b)then none else m x
theorem PE{fl:List Int}(h:fl.Pairwise (· <·)){i:Nat}{x:Int}(hx:fl[i]? =some x):x∉fl.take i:=by
 intro hm
 obtain⟨j,hj,e⟩:=List.getElem_of_mem hm
 rw[List.length_take]at hj
 rw[List.getElem_take]at e
 obtain⟨hi,e2⟩:=List.getElem?_eq_some_iff.1 hx
 have:=List.pairwise_iff_getElem.1 h j i (by omega) hi (by omega)
 omega
theorem gJ.congr{w:World}{b n:Nat}{m m':aJ.Safe}(h:gJ w b n m)(he:∀k,I64 k->m' k=m k):gJ w b n m':=by
 obtain⟨D,ho,hD⟩:=h
 refine⟨D,ho,fun k hk=> ?_⟩
 have:=hD k hk
 unfold dY at this⊢
 rw[he k hk]
 exact this
theorem aX.congr{F:Nat->Prop}{w:World}{g n:Nat}{m m':aJ.Safe}{ps:List aJ.Pc}{aV aO:Int}(h:aX w g F n m ps aV aO)(he:∀k,I64 k->m' k=m k):aX w g F n m' ps aV aO:=by
 obtain⟨mb,A,c,hF,hg,hm,ho⟩:=h
 exact⟨mb,A,c,hF,hg,gJ.congr hm he,ho⟩
section
variable{F:Nat->Prop}{w:World}{g gp n:Nat}{m:aJ.Safe}{aV aO first:Int}
theorem keep_any(v0 v3:Value)(hp:JV w gp v0 g first v3)(hd:aX w g F n m [] aV aO)(hn:n<=100000)(a b:Int):
  Calls Tryz.prog 122 #[.pointer (some ⟨gp,0,none⟩),.int .i64 a,.int .i64 b] w fun e w'=>e=.returned (.tuple #[])/\aX w' g F n (xC a b m) [] aV aO/\Kept F w w':=by
 have hfi:=qV hd (fun p hp=>by cases hp) hn (by decide)
 have hgF:¬F gp:=aX.not hd hp (by decide) (by decide)
 have c1:w.cell? ⟨gp,1,none⟩=some (.pointer (some ⟨g,0,none⟩)):=hp.cell 1
 have hlt:=hd.lt
 have qh:=ah hfi;have HD:=ah hd;have HP:=ah hp;have YC:=ah hgF;have wZ:=ah hlt
 clear hfi hd hp hgF hlt
 go_enter Tryz.func122,Tryz.ntmps122
 go_wp2_with fail
 refine qh.out.mono ?_
 rintro e w1 ⟨fl,A,c,rfl,hfa,hown,hnew,hk1⟩
 have Ew:=ah hfa;have qP:=ah hown;have fE:=ah hnew;have gI:=ah hk1
 have hd1:=HD.out.kept hk1 (fun _ _ z=>z)
 have hcap:=jk hown
 unfold maxLen at hcap
 have HD1:=ah hd1
 clear hfa hown hnew hk1 c1 hd1
 go_wp2_with fail
 go_loopw [14] (fun v14 wr=>∃i:Nat,i<=fl.length/\v14=.int .i64 i/\aX wr g F n (tH a b (fl.take i) m) [] aV aO/\Kept F w1 wr) (fun v14 _=>fl.length-(intOf v14).toNat)
 case atStart=>exact⟨0,Nat.zero_le _,rfl,aX.congr HD1.out (fun k hk=>by unfold tH;rw[if_neg (fun h=>by simp at h)]),Kept.refl _ _⟩
 case round=>
  obtain⟨i,hi,rfl,hd,hk⟩:=hrel
  have hsrc:Src wr 1 A fl.length (fl.map (Value.int .i64)):=by
   refine Src.bC (aC qP.out hk (fun b hb hf=> ?_))
   have h1:=fE.out b hb
   have h2:=wZ.out b hf
   omega
  have hpr:=(HP.out.kept gI.out (fun z=>z)).kept hk YC.out
  have d1:wr.cell? ⟨gp,1,none⟩=some (.pointer (some ⟨g,0,none⟩)):=hpr.cell 1
  have HD2:=ah hd;have HK:=ah hk;have JW:=ah hsrc
  clear hd hk hsrc hpr
  by_cases hil:i<fl.length
  ·obtain⟨x,hx⟩:∃x,fl[i]? =some x:=⟨_,List.getElem?_eq_getElem hil⟩
   obtain⟨ad,rfl,-,e0⟩:=AU.vF JW.out (by omega) i x hx
   have hxm:=(Ew.out.mem x).1 (List.mem_of_getElem? hx)
   have hnt:=PE Ew.out.rises hx
   have htk:=aJ.take_snoc hx
   by_cases hin:a<=x/\x<b
   ·obtain⟨h1,h2⟩:=hin
    have q1:¬x<a:=by omega
    have q2:¬b<=x:=by omega
    have hfin:aX wr g F n (tH a b (fl.take (i+1)) m) [] aV aO:=aX.congr HD2.out (fun k hk=>by
     unfold tH
     rw[htk]
     by_cases hkx:k=x
     ·subst hkx
      rw[if_neg (fun h=>h.2 ⟨h1,h2⟩),if_neg (fun h=>hnt h.1)]
     ·simp[hkx])
    have bI:=ah hfin
    clear hfin hxm hnt htk hx
    go_wp2
    go_roundw
    case rel=>exact⟨i+1,by omega,by go_num,bI.out,HK.out⟩
    case measure=>simp[intOf];omega
   ·have aa5:cu (tH a b (fl.take i) m) [] x=true:=by
     have:=hxm.2
     unfold cu at this⊢
     unfold tH
     rw[if_neg (fun h=>hnt h.1)]
     exact this
    have hdr:=WR HD2.out x hxm.1 hn aa5
    have hfin:∀w3,aX w3 g F n (FH (tH a b (fl.take i) m) x) [] aV aO->aX w3 g F n (tH a b (fl.take (i+1)) m) [] aV aO:=fun w3 h=>aX.congr h (fun k hk=>by
     unfold FH tH
     rw[htk]
     by_cases hkx:k=x
     ·subst hkx
      rw[if_pos ⟨by simp,hin⟩,if_pos rfl]
     ·rw[if_neg hkx];simp[hkx])
    have HDR:=ah hdr;have bI:=ah hfin
    clear hdr hfin aa5 hxm hnt htk hx
    by_cases q1:x<a
    ·go_wp2_with fail
     refine HDR.out.mono ?_
     rintro e w3 ⟨rfl,hd3,hk3⟩
     have HD3:=ah (bI.out w3 hd3);have bf:=ah (HK.out.then hk3)
     clear hd3 hk3
     go_wp2
     go_roundw
     case rel=>exact⟨i+1,by omega,by go_num,HD3.out,bf.out⟩
     case measure=>simp[intOf];omega
    ·have q2:b<=x:=by
      rcases Int.lt_or_le x b with h|h
      ·exact absurd ⟨by omega,h⟩ hin
      ·exact h
     go_wp2_with fail
     refine HDR.out.mono ?_
     rintro e w3 ⟨rfl,hd3,hk3⟩
     have HD3:=ah (bI.out w3 hd3);have bf:=ah (HK.out.then hk3)
     clear hd3 hk3
     go_wp2
     go_roundw
     case rel=>exact⟨i+1,by omega,by go_num,HD3.out,bf.out⟩
     case measure=>simp[intOf];omega
  ·obtain rfl:i=fl.length:=by omega
   rw[List.take_length]at HD2
   have hfin:aX wr g F n (xC a b m) [] aV aO:=aX.congr HD2.out (fun k hk=>by
    unfold xC tH
    by_cases hin:a<=k/\k<b
    ·rw[if_pos hin,if_neg (fun h=>h.2 hin)]
    ·rw[if_neg hin]
     by_cases hm:k∈fl
     ·rw[if_pos ⟨hm,hin⟩]
     ·rw[if_neg (fun h=>hm h.1)]
      have h9:¬cu m [] k=true:=fun h=>hm ((Ew.out.mem k).2 ⟨hk,h⟩)
      unfold cu at h9
      exact(by simpa using h9:m k=none).symm)
   have bI:=ah hfin
   clear hfin
   go_wp2
   go_end0
   exact⟨rfl,bI.out,(gI.out.mono (fun _ z=>z.elim)).then HK.out⟩
end
end Pt
namespace Pt
open aJ Fr Vn Ops Wl
structure nZ(w:World)(B gp gw g:Nat)(F:Nat->Prop)(n:Nat)(m:aJ.Safe)(ps:List aJ.Pc)(aV aO first:Int)(R:St)(T:List (List UInt8))(A:Option Addr)(c:Nat)(l:List ByteArray):Prop where
 d:aX w g F n m ps aV aO
 p:JV w gp (.pointer (some ⟨gw,0,none⟩)) g first (.slice A l.length c)
 wl:AX w gw g (first+lastOf (cur R T))
 row:aF 9 1 B w A l.length c (l.map Value.string)
 log:Log first R T m ps
 low:sU first m ps
 f1:1<=first
 tx:∃k,texts R++T=lu k l/\k+1<=(texts R).length
 hs:∀s∈l,s.size<65536
def PF(gp gw:Nat)(F:Nat->Prop)(A:Option Addr)(n c:Nat)(k:Nat):Prop:=F k\/k=gp\/k=gw\/(Value.slice A n c).ownBlock=some k
section
variable{w:World}{B gp gw g n c:Nat}{F:Nat->Prop}{m:aJ.Safe}{ps:List aJ.Pc}{aV aO first:Int}{R:St}{T:List (List UInt8)}{A:Option Addr}{l:List ByteArray}
theorem nZ.kept{w':World}(h:nZ w B gp gw g F n m ps aV aO first R T A c l)(hk:Kept aj w w'):nZ w' B gp gw g F n m ps aV aO first R T A c l:=
 ⟨h.d.kept hk (fun _ _ z=>z),h.p.kept hk (fun z=>z),h.wl.kept hk (fun z=>z),h.row.kept hk,h.log,h.low,h.f1,h.tx,h.hs⟩
theorem xE{v0 v3:Value}{f:Int}(h:JV w gp v0 g f v3):Calls Tryz.prog 125 #[.pointer (some ⟨gp,0,none⟩)] w fun e w'=>e=.returned (.bool false)/\w=w':=by
 have c1:w.cell? ⟨gp,1,none⟩=some (.pointer (some ⟨g,0,none⟩)):=h.cell 1
 clear h
 go_enter Tryz.func125,Tryz.ntmps125
 go_wp2
 go_ret
 exact⟨rfl,rfl⟩
theorem GH(h:nZ w B gp gw g F n m ps aV aO first R T A c l)(hl:l.length<=1000000):
  Calls Tryz.prog 52 #[.pointer (some ⟨gp,0,none⟩)] w fun e w'=>∃A' c',e=.returned (.slice A' l.length c')/\aF 9 1 w.heap.size w' A' l.length c' (l.map Value.string)/\Below w.heap.size w w':=by
 have hno:=xE h.p
 have hcl:=clone_any w A c l (by have:=Src.bC h.row.1;exact this) (by omega)
 have c3:w.cell? ⟨gp,3,none⟩=some (.slice A l.length c):=h.p.cell 3
 have iZ:=ah hno;have o9:=ah hcl
 clear hno hcl h hl
 go_enter Tryz.func52,Tryz.ntmps52
 go_wp2_with fail
 refine iZ.out.mono ?_
 rintro e w' ⟨rfl,rfl⟩
 go_wp2_with fail
 refine o9.out.mono ?_
 rintro e w' ⟨A',c',rfl,h1,h2⟩
 go_wp2
 go_ret
 exact⟨A',c',rfl,h1,h2⟩
theorem nZ.Ba(h:nZ w B gp gw g F n m ps aV aO first R T A c l):¬F gp/\¬F gw/\gp≠gw:=⟨aX.not h.d h.p (by decide) (by decide),aX.not h.d h.wl (by decide) (by decide),h.p.ne h.wl (by decide)⟩
theorem nZ.BZ(h:nZ w B gp gw g F n m ps aV aO first R T A c l){k:Nat}(hk:(Value.slice A l.length c).ownBlock=some k):¬F k/\k≠gp/\k≠gw:=by
 obtain⟨cs,hh⟩:=jH h.row.1 hk
 exact⟨aX.not h.d hh (by decide) (by decide),fun e=>by subst e;exact Has.ne hh h.p (by decide) rfl,fun e=>by subst e;exact Has.ne hh h.wl (by decide) rfl⟩
def WV(w:World)(B gp gw g:Nat)(F:Nat->Prop)(n:Nat)(m:aJ.Safe)(ps:List aJ.Pc)(aV aO first:Int)(R:St)(T:List (List UInt8))(A:Option Addr)(c:Nat)(l:List ByteArray)(s:ByteArray)(e:Ending)(w':World):Prop:=
 e=.returned (.int .i64 0)/\∃F' A' c',nZ w' B gp gw g F' n m (ps++[(first+lastOf (cur R T),bu (bM (84::bl s)))]) aV aO first R (T++[84::bl s]) A' c' (l++[s])/\Kept (PF gp gw F A l.length c) w w'/\(∀k,F' k->F k\/w.heap.size<=k)
end
end Pt
namespace Pt
open aJ Fr Vn Ops Wl
theorem GI{k:Nat}(hk:k<18446744073709551616){l:List ByteArray}(h:∀s∈l,s.size<65536):∀t∈lu k l,t.length<=65536:=by
 intro t ht
 unfold lu at ht
 rcases List.mem_cons.1 ht with rfl|ht
 ·have:=kX hk;simp;omega
 ·rw[List.mem_map]at ht
  obtain⟨s,hs,rfl⟩:=ht
  have:=h s hs
  simp[dh];omega
theorem MN(T:List (List UInt8)):(cur [] T).length<=T.length:=by
 have:=zq [] T
 simpa using this
theorem WW{f b:Int}{R:St}{m:aJ.Safe}(h:Ez f R m)(hb:f+R.length<=b):Ez f R (xC f b m):=by
 intro i
 unfold xC
 by_cases hi:f<=f+(i:Int)/\f+(i:Int)<b
 ·rw[if_pos hi];exact h i
 ·rw[if_neg hi]
  unfold fileAt
  rw[if_neg (by omega)]
theorem GK{f:Int}{m:aJ.Safe}{ps:List aJ.Pc}{k:Nat}{l:List ByteArray}(hk:k<18446744073709551616)(hl:∀s∈l,s.size<65536)(h:Log f [] [] m ps):Log f (cur [] (lu k l)) [] (kK m (ps++iK f [] (lu k l))) []:=by
 have:=(TA h (GI hk hl)).sync
 exact this
theorem WX{f b:Int}{R:St}{m:aJ.Safe}(h:Log f R [] m [])(hb:f+R.length<=b):Log f R [] (xC f b m) []:=⟨WW h.safe hb,rfl,h.ok,h.T⟩
section
variable{w:World}{B gp gw g n c:Nat}{F:Nat->Prop}{m:aJ.Safe}{ps:List aJ.Pc}{aV aO first:Int}{R:St}{T:List (List UInt8)}{A:Option Addr}{l:List ByteArray}
def J4(w:World)(g:Nat)(F:Nat->Prop)(n:Nat)(aV aO:Int)(e:Ending)(w':World):Prop:=
 ∃gp gw F' m' A c,e=.returned (.tuple #[.pointer (some ⟨gp,0,none⟩),.int .i64 0])/\nZ w' w.heap.size gp gw g F' (n+1) m' [] aV aO 1 (cur [] (lu 0 [])) [] A c []/\w.heap.size<=gp/\w.heap.size<=gw/\(∀k,F' k->F k\/w.heap.size<=k)/\Kept F w w'
theorem WY(hd:aX w g F n (fun _=>none) [] aV aO)(hn:n<=100000):Calls Tryz.prog 42 #[.pointer (some ⟨g,0,none⟩)] w (J4 w g F n aV aO):=by
 have hfi:=qV hd (fun p hp=>by cases hp) hn (by decide)
 have qh:=ah hfi;have HD:=ah hd
 clear hfi hd
 go_enter Tryz.func42,Tryz.ntmps42
 go_wp2_with fail
 refine qh.out.mono ?_
 rintro e w1 ⟨fl,A,c,rfl,hfa,hown,hnew,hk1⟩
 have hfl:fl=[]:=by
  rcases fl with _|⟨x,fl⟩
  ·rfl
  ·have:=((hfa.mem x).1 (by simp)).2
   simp[cu]at this
 subst hfl
 obtain⟨w2,hw2⟩:∃w2,w1.alloc (.cells #[.pointer none,.pointer (some ⟨g,0,none⟩),.int .i64 0,.slice none 0 0] 157)=w2:=⟨_,rfl⟩
 have hk2:Kept aj w w2:=by rw[<-hw2];exact hk1.alloc _
 have hp2:JV w2 w1.heap.size (.pointer none) g 0 (.slice none 0 0):=by rw[<-hw2];exact Has.new _ _ _
 have hd2:=HD.out.kept hk2 (fun _ _ z=>z)
 have hfit:Fits n (fun _=>none) []:=⟨hn,by decide,fun f=>Nat.zero_le _,fun p hp=>by cases hp⟩
 have hbg:=Gy (.pointer none) (.slice none 0 0) hp2 hd2 (NP 1) hfit none 0 [] (Src.nil _ _ _) (fun _ ad e=>by cases e) (fun s hs=>by cases hs) (by decide) (by decide) (by decide)
 have yF:=ah hbg;have HW2:=ah hw2;have aQ:=ah hk2;have gI:=ah hk1.size
 clear hfa hown hnew hk1 hw2 hk2 hp2 hd2 hfit hbg
 go_wp2_with fail
 rw[HW2.out]
 refine yF.out.mono ?_
 rintro e w3 ⟨rfl,F3,gw,A3,c3,hd3,hw3,hp3,hn3,J5,hg3,hk3⟩
 have hfin:J4 w g F n aV aO (.returned (.tuple #[.pointer (some ⟨w1.heap.size,0,none⟩),.int .i64 0])) w3:=by
  refine⟨w1.heap.size,gw,F3,_,A3,c3,rfl,⟨hd3,hp3,hw3,⟨hn3.1,fun k hk=>Nat.le_trans aQ.out.size (hn3.2 k hk)⟩,GK (by decide) (fun s hs=>by cases hs) (NP 1),?_,Int.le_refl _,⟨0,by rw[pI];rfl,by rw[pI];decide⟩,fun s hs=>by cases hs⟩,gI.out,Nat.le_trans aQ.out.size J5,fun k hk=> ?_,?_⟩
  ·have:sU 1 (fun _=>none) ([]++iK 1 [] (lu 0 [])):=⟨fun x hx=>rfl,fun p hp=>(uH 1 [] (lu 0 []) (GI (by decide) (fun s hs=>by cases hs)) p hp).2.1⟩
   exact this.sync
  ·rcases hg3 k hk with h|h
   ·exact .inl h
   ·exact .inr (Nat.le_trans aQ.out.size h)
  ·exact(aQ.out.mono (fun _ z=>z.elim)).trans hk3 (fun k hk=>by rcases hk with h|h;exact .inl h;exact .inr (by rw[h];exact gI.out))
 have bI:=ah hfin
 clear hd3 hw3 hp3 hn3 J5 hg3 hk3 hfin
 go_wp2
 go_ret2
 exact bI.out
end
end Pt
namespace Pt
open aJ Fr Vn Ops Wl
theorem J6(w:World)(A:Option Addr)(c:Nat)(l:List ByteArray)(hl:Src w 1 A l.length (l.map Value.string))(hlen:l.length<=1000000)(hs:∀s∈l,s.size<65536):
  Calls Tryz.prog 319 #[.slice A l.length c,.func (.func 201) #[] #[]] w fun e w'=>e=.returned (.int .i64 (-1))/\w=w':=by
 have HL:=ah hl;have HS:=ah hs
 clear hl hs
 go_enter Tryz.func319,Tryz.ntmps319
 go_wp2_with fail
 go_loop [5,8] (fun v5 v8=>∃i:Nat,i<=l.length/\v8=.int .i64 i) (fun _ v8=>l.length-(intOf v8).toNat)
 case atStart=>exact⟨0,Nat.zero_le _,rfl⟩
 case round=>
  obtain⟨i,hi,rfl⟩:=hrel
  by_cases hil:i<l.length
  ·obtain⟨s,hs⟩:∃s,l[i]? =some s:=⟨_,List.getElem?_eq_getElem hil⟩
   obtain⟨ad,rfl,-,e0⟩:=AU.Gt HL.out (by omega) i s hs
   have hs6:s.size<65536:=HS.out s (List.mem_of_getElem? hs)
   have hlo:=sO w s false (decide_eq_false (by omega))
   have QV:=ah hlo
   clear hlo hs6 hs
   go_wp2_with fail
   refine QV.out.mono ?_
   rintro e w' ⟨rfl,rfl⟩
   go_wp2
   go_round
   case rel=>exact⟨i+1,by omega,by go_num⟩
   case measure=>simp[intOf];omega
  ·obtain rfl:i=l.length:=by omega
   go_wp2
   go_ret
   exact⟨rfl,rfl⟩
theorem WZ(w:World)(A:Option Addr)(c:Nat)(l:List ByteArray)(hl:Src w 1 A l.length (l.map Value.string))(hlen:l.length<=1000000)(hs:∀s∈l,s.size<65536):
  Calls Tryz.prog 204 #[.slice A l.length c,.func (.func 201) #[] #[]] w fun e w'=>e=.returned (.bool false)/\w=w':=by
 have HI:=ah (J6 w A c l hl hlen hs)
 clear hl hlen hs
 go_enter Tryz.func204,Tryz.ntmps204
 go_wp2_with fail
 refine HI.out.mono ?_
 rintro e w' ⟨rfl,rfl⟩
 go_wp2
 go_ret
 exact⟨rfl,rfl⟩
theorem TD{m:aJ.Safe}{ps:List aJ.Pc}{fl:List Int}{first:Int}{K:Nat}(h:zl m ps fl)(hf:∀x,cu m ps x=decide (first<=x/\x<first+K))(h0:0<=first)(h1:first+K<=1152921504606846976)(hK:0<K):
  0<fl.length/\fl[fl.length-1]? =some (first+K-1):=by
 have hm:first+K-1∈fl:=(h.mem _).2 ⟨jq (by omega) (by omega),by rw[hf];simp;omega⟩
 obtain⟨j,hj,e⟩:=List.getElem_of_mem hm
 have hpos:0<fl.length:=by omega
 refine⟨hpos,?_⟩
 rw[List.getElem?_eq_getElem (by omega)]
 have hy:=((h.mem fl[fl.length-1]).1 (List.getElem_mem _)).2
 rw[hf]at hy
 simp only[decide_eq_true_eq]at hy
 congr 1
 by_cases hjl:j=fl.length-1
 ·subst hjl;exact e
 ·have:=List.pairwise_iff_getElem.1 h.rises j (fl.length-1) hj (by omega) (by omega)
  omega
section
variable{w:World}{B gp gw g n c:Nat}{F:Nat->Prop}{m:aJ.Safe}{ps:List aJ.Pc}{aV aO first:Int}{R:St}{T:List (List UInt8)}{A:Option Addr}{l:List ByteArray}
def GL(w:World)(B gp g:Nat)(F:Nat->Prop)(n:Nat)(ps:List aJ.Pc)(aV aO first':Int)(l':List ByteArray)(e:Ending)(w':World):Prop:=
 e=.returned (.int .i64 0)/\∃zS F' m' A' c',nZ w' B gp zS g F' (n+ps.length+l'.length+1) m' [] aV aO first' (cur [] (lu l'.length l')) [] A' c' l'/\w.heap.size<=zS/\(∀k,F' k->F k\/w.heap.size<=k)/\Kept (fun k=>F k\/k=gp) w w'/\(∀k,(Value.slice A' l'.length c').ownBlock=some k->w.heap.size<=k)
theorem TE(h:nZ w B gp gw g F n m ps aV aO first R T A c l)(hf:Fits n m ps)(hB:B<=w.heap.size)(A0:Option Addr)(c0:Nat)(l':List ByteArray)(hA:Src w 1 A0 l'.length (l'.map Value.string))
  (Gz:0<l'.length->∀ad,A0=some ad->¬F ad.block/\ad.block≠gp) (hs:∀s∈l',s.size<65536) (hl':l'.length<=10000) (h2:first+(cur R T).length+l'.length+2<=1073741824) (h3:n+ps.length+l'.length+2<100000):
  Calls Tryz.prog 113 #[.pointer (some ⟨gp,0,none⟩),.slice A0 l'.length c0] w (GL w B gp g F n ps aV aO (first+(cur R T).length) l'):=by
 have hno:=xE h.p
 have hcl:=WZ w A0 c0 l' hA (by omega) hs
 have hfi:=qV h.d hf.i64 hf.n (by have:=hf.len;omega)
 have c1:w.cell? ⟨gp,1,none⟩=some (.pointer (some ⟨g,0,none⟩)):=h.p.cell 1
 have c2:w.cell? ⟨gp,2,none⟩=some (.int .i64 first):=h.p.cell 2
 obtain⟨K,hK⟩:∃K,(cur R T).length=K:=⟨_,rfl⟩
 have ab3:0<K:=by
  rcases Nat.eq_zero_or_pos K with h0|h0
  ·rw[h0]at hK
   have h9:=pI R T
   rw[List.eq_nil_of_length_eq_zero hK]at h9
   obtain⟨k,h4,_⟩:=h.tx
   rw[h4]at h9
   cases h9
  ·exact h0
 have hif:=h.low.cu h.log
 have hab:=Log.above h.log
 rw[hK]at h2 hif hab⊢
 have hf1:=h.f1
 have H:=ah h;have iZ:=ah hno;have o9:=ah hcl;have qh:=ah hfi;have HIF:=ah hif;have HAB:=ah hab;have HF:=ah hf;have HA:=ah hA;have YB:=ah Gz;have HS:=ah hs
 clear h hno hcl hfi hif hab hf hA Gz hs hK
 go_enter Tryz.func113,Tryz.ntmps113
 go_wp2_with fail
 refine iZ.out.mono ?_
 rintro e w' ⟨rfl,rfl⟩
 go_wp2_with fail
 refine o9.out.mono ?_
 rintro e w' ⟨rfl,rfl⟩
 go_wp2_with fail
 refine qh.out.mono ?_
 rintro e w1 ⟨fl,A1,c1',rfl,hfa,hown,hnew,hk1⟩
 obtain⟨hpos,hlast⟩:=TD hfa HIF.out (by omega) (by omega) ab3
 obtain⟨ad1,rfl,-,e0⟩:=AU.vF (Src.bC hown) hpos _ _ hlast
 have hcap:=jk hown
 unfold maxLen at hcap
 have hw1:IntKind.i64.wrap ((fl.length:Int)-1)=(fl.length:Int)-1:=IntWalk.i64_in _ (by omega)
 have hd0:0<=(fl.length:Int)-1:=by omega
 have hd1:(fl.length:Int)-1<fl.length:=by omega
 have ht1:((fl.length:Int)-1).toNat=fl.length-1:=by omega
 have hpos':(0:Int)<fl.length:=by omega
 have hp1:=H.out.p.kept hk1 (fun z=>z)
 have aa6:=H.out.d.kept hk1 (fun _ _ z=>z)
 have hbg:=Gy (.pointer (some ⟨gw,0,none⟩)) (.slice A l.length c) hp1 aa6 HAB.out HF.out A0 c0 l' (HA.out.kept hk1 (fun _ _ z=>z)) YB.out HS.out (by omega) (by omega) (by omega)
 have hsum:(first+(K:Int)-1)+1=first+K:=by omega
 have yF:=ah hbg;have gI:=ah hk1;have adD:=ah hsum
 clear hfa hown hnew hk1 hlast hcap hp1 aa6 hbg hsum
 go_wp2_with fail
 refine yF.out.mono ?_
 rintro e w3 ⟨rfl,F3,gw3,A3,c3,hd3,hw3,hp3,hn3,J5,hg3,hk3⟩
 have aa7:n+(ps++iK (first+K) [] (lu l'.length l')).length=n+ps.length+l'.length+1:=by rw[List.length_append,xA,yE];omega
 rw[aa7]at hd3
 have hkp:=keep_any (.pointer (some ⟨gw3,0,none⟩)) (.slice A3 l'.length c3) hp3 hd3 (by omega) (first+K) 1073741826
 have aa8:=MN (lu l'.length l')
 rw[yE]at aa8
 have hfin:∀w4,aX w4 g F3 (n+ps.length+l'.length+1) (xC (first+K) 1073741826 (kK m (ps++iK (first+K) [] (lu l'.length l')))) [] aV aO->Kept F3 w3 w4->GL w B gp g F n ps aV aO (first+K) l' (.returned (.int .i64 0)) w4:=by
  intro w4 hd4 hk4
  have hn1:¬F3 gp:=aX.not hd3 hp3 (by decide) (by decide)
  have hn2:¬F3 gw3:=aX.not hd3 hw3 (by decide) (by decide)
  refine⟨rfl,gw3,F3,_,A3,c3,⟨hd4,hp3.kept hk4 hn1,hw3.kept hk4 hn2,⟨aC hn3.1 hk4 (fun k hk hh=> ?_),fun k hk=> ?_⟩,WX (GK (by omega) HS.out HAB.out) (by omega),⟨fun x hx=>by unfold xC;rw[if_neg (by omega)],fun p hp=>by cases hp⟩,by omega,⟨l'.length,by rw[pI,List.append_nil];rfl,by rw[pI,List.length_append,yE];simp⟩,HS.out⟩,Nat.le_trans gI.out.size J5,fun k hk=> ?_,?_,fun k hk=>Nat.le_trans gI.out.size (hn3.2 k hk)⟩
  ·obtain⟨cs,h9⟩:=jH hn3.1 hk
   exact aX.not hd3 h9 (by decide) (by decide) hh
  ·exact Nat.le_trans hB (Nat.le_trans gI.out.size (hn3.2 k hk))
  ·rcases hg3 k hk with z|z
   ·exact .inl z
   ·exact .inr (Nat.le_trans gI.out.size z)
  ·refine(((gI.out.mono (fun _ z=>z.elim)).then hk3)).trans hk4 (fun k hk=> ?_)
   rcases hg3 k hk with z|z
   ·exact .inl (.inl z)
   ·exact .inr (Nat.le_trans gI.out.size z)
 have d2:w3.cell? ⟨gp,2,none⟩=some (.int .i64 (first+K)):=hp3.cell 2
 have HKP:=ah hkp;have bI:=ah hfin
 clear hd3 hw3 hp3 hn3 J5 hg3 hk3 aa7 hkp hfin aa8 hw1 hd0 hd1 ht1 hpos' e0 hpos
 go_wp2_with fail
 refine HKP.out.mono ?_
 rintro e w4 ⟨rfl,hd4,hk4⟩
 have HE:=ah (bI.out w4 hd4 hk4)
 clear hd4 hk4
 go_wp2
 go_ret
 exact HE.out
end
end Pt
namespace Pt
open aJ Fr Vn Ops Wl
theorem J7:∀{a b:List Int},a.Pairwise (· <·)->b.Pairwise (· <·)->(∀x,x∈a↔x∈b)->a=b
 |[],[],_,_,_=>rfl
 |[],y::b,_,_,h=>by have:=(h y).2 (by simp);simp at this
 |x::a,[],_,_,h=>by have:=(h x).1 (by simp);simp at this
 |x::a,y::b,ha,hb,h=>by
  rw[List.pairwise_cons]at ha hb
  have hxy:x=y:=by
   rcases List.mem_cons.1 ((h x).1 (by simp))with e|h1
   ·exact e
   ·rcases List.mem_cons.1 ((h y).2 (by simp))with e|h2
    ·exact e.symm
    ·have:=hb.1 x h1;have:=ha.1 y h2;omega
  subst hxy
  rw[J7 ha.2 hb.2 (fun z=> ?_)]
  constructor
  ·intro hz
   rcases List.mem_cons.1 ((h z).1 (List.mem_cons_of_mem _ hz))with e|h1
   ·have:=ha.1 z hz;omega
   ·exact h1
  ·intro hz
   rcases List.mem_cons.1 ((h z).2 (List.mem_cons_of_mem _ hz))with e|h1
   ·have:=hb.1 z hz;omega
   ·exact h1
def nums(first:Int)(K:Nat):List Int:=(List.range K).map fun(i:Nat)=>first+(i:Int)
theorem PG{m:aJ.Safe}{ps:List aJ.Pc}{fl:List Int}{first:Int}{K:Nat}(h:zl m ps fl)(hf:∀x,cu m ps x=decide (first<=x/\x<first+K))(h0:0<=first)(h1:first+K<=1152921504606846976):fl=nums first K:=by
 refine J7 h.rises ?_ (fun x=> ?_)
 ·unfold nums
  rw[List.pairwise_map]
  exact List.pairwise_lt_range.imp (fun h=>by omega)
 ·rw[h.mem,hf]
  unfold nums
  simp only[decide_eq_true_eq,List.mem_map,List.mem_range]
  constructor
  ·rintro⟨_,h2,h3⟩
   exact⟨(x-first).toNat,by omega,by omega⟩
  ·rintro⟨i,h2,rfl⟩
   exact⟨jq (by omega) (by omega),by omega,by omega⟩
theorem Xa{first:Int}{R:St}{T:List (List UInt8)}{m:aJ.Safe}{ps:List aJ.Pc}{n:Nat}(h:sU first m ps)(hl:Log first R T m ps)(h1:1<=first)(h2:first+(R.length+T.length:Nat)<=1073741824)(hn:n<=100000)(hT:T.length<100000):Fits n m ps:=
 h.low.fits hl h1 h2 hn hT
structure NT(w0 w:World)(gp gw g:Nat)(F:Nat->Prop)(n:Nat)(m:aJ.Safe)(ps:List aJ.Pc)(aO first:Int)(R:St)(T:List (List UInt8))(A:Option Addr)(c:Nat)(l:List ByteArray):Prop where
 pt:nZ w w0.heap.size gp gw g F n m ps 1 aO first R T A c l
 f:∀k,F k->w0.heap.size<=k
 gp:w0.heap.size<=gp
 gw:w0.heap.size<=gw
 k:Kept aj w0 w
section
variable{w0 w w':World}{gp gw g n c:Nat}{F:Nat->Prop}{m:aJ.Safe}{ps:List aJ.Pc}{aO first:Int}{R:St}{T:List (List UInt8)}{A:Option Addr}{l:List ByteArray}
theorem NT.kept(h:NT w0 w gp gw g F n m ps aO first R T A c l)(hk:Kept aj w w'):NT w0 w' gp gw g F n m ps aO first R T A c l:=
 ⟨h.pt.kept hk,h.f,h.gp,h.gw,h.k.then hk⟩
theorem NT.app(h:NT w0 w gp gw g F n m ps aO first R T A c l){s:ByteArray}{e:Ending}(ha:WV w w0.heap.size gp gw g F n m ps 1 aO first R T A c l s e w'):
  e=.returned (.int .i64 0)/\∃F' A' c',NT w0 w' gp gw g F' n m (ps++[(first+lastOf (cur R T),bu (bM (84::bl s)))]) aO first R (T++[84::bl s]) A' c' (l++[s]):=by
 obtain⟨he,F',A',c',hp,hk,hG⟩:=ha
 refine⟨he,F',A',c',hp,fun k hk2=> ?_,h.gp,h.gw,h.k.trans hk (fun k hk2=> .inr ?_)⟩
 ·rcases hG k hk2 with z|z
  ·exact h.f k z
  ·exact Nat.le_trans h.k.size z
 ·rcases hk2 with z|z|z|z
  ·exact h.f k z
  ·rw[z];exact h.gp
  ·rw[z];exact h.gw
  ·exact h.pt.row.2 k z
end
end Pt
end Go.Proofs.YtolkgbafebehfaaGreat
