/- Part 29 of what the proof needs. -/
import Derived.Test.YtolkgbafebehfaaGreatZP27
import Derived.Shelf.Slices.Cells
import Derived.Shelf.Slices.Clone
set_option linter.unusedSimpArgs false
set_option linter.unusedVariables false
set_option maxHeartbeats 32000000
set_option maxRecDepth 100000
namespace Go.Proofs.YtolkgbafebehfaaGreat
set_option maxRecDepth 100000
namespace Wl
open aJ Fr Vn Ops
structure pY where
 ts:List (List UInt8)
 q:List UInt8
def qW(f:pY):List UInt8:=eu f.ts++f.q
structure Yy(f:pY):Prop where
 ts:∀t∈f.ts,t.length<=65536
 q:∃t':List UInt8,t'.length<=65536/\f.q<+:bM t'/\f.q.length<(bM t').length
 size:(qW f).length<=66000
def full(f:pY):Prop:=f.q≠[]\/256<=(qW f).length
instance(f:pY):Decidable (full f):=by unfold full;exact inferInstance
abbrev St:=List pY
def lastOf:St->Nat
 |[]=>0
 |f::R=>if full f then R.length+1 else R.length
def app(R:St)(t:List UInt8):St:=match R with
 |[]=>[⟨[t],[]⟩]
 |f::R=>if full f then ⟨[t],[]⟩::f::R else⟨f.ts++[t],[]⟩::R
def qC:St->Nat->List UInt8
 |[],_=>[]
 |f::R,i=>if i=R.length then qW f else qC R i
def texts:St->List (List UInt8)
 |[]=>[]
 |f::R=>texts R++f.ts
def Ok(R:St):Prop:=∀f∈R,Yy f
theorem FC{R:St}{i:Nat}(h:R.length<=i):qC R i=[]:=by
 induction R with
 |nil=>rfl
 |cons f R ih=>simp only[qC];rw[if_neg (by simp at h;omega),ih (by simp at h;omega)]
theorem AV(R:St):lastOf R<=R.length:=by
 cases R with
 |nil=>exact Nat.le_refl _
 |cons f R=>simp only[lastOf];split<;>simp
theorem Gv{f:pY}{R:St}(h:full f):lastOf (f::R)=R.length+1:=by simp only[lastOf];rw[if_pos h]
theorem JK{f:pY}{R:St}(h:¬full f):lastOf (f::R)=R.length:=by simp only[lastOf];rw[if_neg h]
theorem DF{f:pY}{R:St}{t:List UInt8}(h:full f):app (f::R) t=⟨[t],[]⟩::f::R:=by simp only[app];rw[if_pos h]
theorem FD{f:pY}{R:St}{t:List UInt8}(h:¬full f):app (f::R) t=⟨f.ts++[t],[]⟩::R:=by simp only[app];rw[if_neg h]
theorem Ey(ts:List (List UInt8))(t:List UInt8):eu (ts++[t])=eu ts++bM t:=by simp[eu]
theorem ZD(R:St)(t:List UInt8)(i:Nat):qC (app R t) i=qC R i++if i=lastOf R then bM t else []:=by
 cases R with
 |nil=>
  simp only[app,qC,lastOf,List.length_nil]
  by_cases h:i=0<;>simp[h,qW,eu]
 |cons f R=>
  by_cases hf:full f
  ·rw[DF hf,Gv hf]
   simp only[qC,List.length_cons]
   by_cases h:i=R.length+1
   ·subst h
    rw[if_pos rfl,if_pos rfl,if_neg (by omega),FC (by omega)]
    simp[qW,eu]
   ·rw[if_neg h,if_neg h,List.append_nil]
  ·rw[FD hf,JK hf]
   simp only[qC]
   by_cases h:i=R.length
   ·rw[if_pos h,if_pos h,if_pos h]
    have hq:f.q=[]:=by
     rcases Classical.em (f.q=[])with h|h
     ·exact h
     ·exact absurd (.inl h) hf
    simp[qW,hq,Ey]
   ·rw[if_neg h,if_neg h,if_neg h,List.append_nil]
theorem ZE(R:St)(t:List UInt8)(i:Nat):i<(app R t).length↔i<R.length\/i=lastOf R:=by
 cases R with
 |nil=>simp[app,lastOf]
 |cons f R=>
  by_cases hf:full f
  ·rw[DF hf,Gv hf];simp;omega
  ·rw[FD hf,JK hf];simp;omega
theorem SS(R:St)(t:List UInt8):texts (app R t)=texts R++[t]:=by
 cases R with
 |nil=>simp[app,texts]
 |cons f R=>simp only[app];split<;>simp[texts]
theorem JL{t:List UInt8}(h:t.length<=65536):(bM t).length<=65549:=by
 rw[lY]
 have:=kX (n:=t.length) (by omega)
 omega
theorem JM:∃t':List UInt8,t'.length<=65536/\([]:List UInt8)<+:bM t'/\([]:List UInt8).length<(bM t').length:=
 ⟨[],Nat.zero_le _,List.nil_prefix,by rw[lY];simp⟩
theorem aaV{R:St}(h:Ok R){t:List UInt8}(ht:t.length<=65536):Ok (app R t):=by
 have hfr:=JL ht
 have hnew:Yy ⟨[t],[]⟩:=⟨fun x hx=>by simp at hx;subst hx;exact ht,JM,by simp[qW,eu];omega⟩
 cases R with
 |nil=>intro f hf;simp[app]at hf;subst hf;exact hnew
 |cons f R=>
  simp only[app]
  split
  ·intro g hg
   rcases List.mem_cons.1 hg with rfl|hg
   ·exact hnew
   ·exact h g hg
  ·rename_i hf
   intro g hg
   rcases List.mem_cons.1 hg with rfl|hg
   ·have ho:=h f (by simp)
    refine⟨fun x hx=> ?_,JM,?_⟩
    ·rcases List.mem_append.1 hx with hx|hx
     ·exact ho.ts x hx
     ·simp at hx;subst hx;exact ht
    ·have h2:¬256<=(qW f).length:=fun z=>hf (.inr z)
     simp[qW,Ey]at h2⊢
     omega
   ·exact h g (List.mem_cons_of_mem _ hg)
def cur(R:St)(T:List (List UInt8)):St:=T.foldl app R
theorem zo(R:St)(t:List UInt8)(T:List (List UInt8)):cur R (t::T)=cur (app R t) T:=rfl
theorem JO(R:St)(T:List (List UInt8))(t:List UInt8):cur R (T++[t])=app (cur R T) t:=by simp[cur]
theorem pI(R:St):∀T,texts (cur R T)=texts R++T:=by
 intro T
 induction T generalizing R with
 |nil=>simp[cur]
 |cons t T ih=>rw[zo,ih,SS];simp
theorem JQ{R:St}(h:Ok R){T:List (List UInt8)}(hT:∀t∈T,t.length<=65536):Ok (cur R T):=by
 induction T generalizing R with
 |nil=>exact h
 |cons t T ih=>exact ih (aaV h (hT t (by simp))) (fun x hx=>hT x (by simp[hx]))
theorem JR(R:St)(t:List UInt8):(app R t).length<=R.length+1:=by
 cases R with
 |nil=>simp[app]
 |cons f R=>simp only[app];split<;>simp
theorem zq(R:St):∀T,(cur R T).length<=R.length+T.length:=by
 intro T
 induction T generalizing R with
 |nil=>exact Nat.le_refl _
 |cons t T ih=>
  have h1:=ih (app R t)
  have h2:=JR R t
  rw[zo,List.length_cons]
  omega
def iK(first:Int):St->List (List UInt8)->List Pc
 |_,[]=>[]
 |R,t::T=>(first+lastOf R,bu (bM t))::iK first (app R t) T
theorem zu(first:Int):∀(R:St) (T:List (List UInt8)) (t:List UInt8),iK first R (T++[t])=iK first R T++[(first+lastOf (cur R T),bu (bM t))]
 |R,[],t=>rfl
 |R,x::T,t=>by
  show _::iK first (app R x) (T++[t])=_::(iK first (app R x) T++_)
  rw[zu first (app R x) T t]
  rfl
theorem xA(first:Int):∀(R:St) (T:List (List UInt8)),(iK first R T).length=T.length
 |R,[]=>rfl
 |R,t::T=>by show(_::iK first (app R t) T).length=_;simp[xA first (app R t) T]
def fileAt(R:St)(i:Nat):Option ByteArray:=if i<R.length then some (bu (qC R i))else none
def Ez(first:Int)(R:St)(m:aJ.Safe):Prop:=∀i:Nat,m (first+i)=fileAt R i
def mine(first:Int)(p:aJ.Pc):Bool:=decide (first<=p.1)
theorem ZF(a b:List UInt8):bu a++bu b=bu (a++b):=by
 apply ByteArray.ext
 simp[bu]
theorem CX(R:St)(i:Nat):(fileAt R i).getD ⟨#[]⟩=bu (qC R i):=by
 unfold fileAt
 split
 ·rfl
 ·rw[FC (by omega)];rfl
theorem ZG{first:Int}{R:St}{m:aJ.Safe}(h:Ez first R m)(t:List UInt8):Ez first (app R t) (oJ m (first+lastOf R) (dY m (first+lastOf R)++bu (bM t))):=by
 intro i
 have hl:=ZE R t i
 have hb:=ZD R t i
 unfold oJ dY
 rw[h (lastOf R),CX,ZF]
 by_cases e:i=lastOf R
 ·subst e
  rw[if_pos rfl]
  unfold fileAt
  rw[if_pos (hl.2 (.inr rfl)),hb,if_pos rfl]
 ·rw[if_neg (by omega),h i]
  unfold fileAt
  rw[hb,if_neg e,List.append_nil]
  by_cases h2:i<R.length
  ·rw[if_pos h2,if_pos (hl.2 (.inl h2))]
  ·rw[if_neg h2,if_neg (fun z=>by rcases hl.1 z with z|z;exact h2 z;exact e z)]
theorem ZH{first:Int}{R:St}{m:aJ.Safe}(h:Ez first R m){x:Int}(hx:x<first)(s:ByteArray):Ez first R (oJ m x s):=by
 intro i
 unfold oJ
 rw[if_neg (by omega)]
 exact h i
theorem zx{first:Int}:∀(ps:List aJ.Pc) {R:St} {m:aJ.Safe} {T:List (List UInt8)},Ez first R m->ps.filter (mine first)=iK first R T->Ez first (cur R T) (kK m ps)
 |[],R,m,T,h,hp=>by
  cases T with
  |nil=>exact h
  |cons t T=>cases hp
 |p::ps,R,m,T,h,hp=>by
  unfold kK
  by_cases hx:first<=p.1
  ·rw[List.filter_cons_of_pos (by simpa [mine]using hx)]at hp
   cases T with
   |nil=>cases hp
   |cons t T=>
    injection hp with h1 h2
    subst h1
    exact zx ps (T:=T) (ZG h t) h2
  ·rw[List.filter_cons_of_neg (by simpa [mine]using hx)]at hp
   exact zx ps (ZH h (by omega) _) hp
theorem SV(ps:List aJ.Pc):∀(m:aJ.Safe) (x:Int),kK m ps x=if cu m ps x=true then some (dataOf m ps x)else none:=by
 induction ps with
 |nil=>
  intro m x
  unfold kK cu
  cases hm:m x with
  |none=>simp
  |some s=>simp[dataOf,ofFile,dY,hm]
 |cons p ps ih=>
  intro m x
  unfold kK
  rw[ih]
  have h1:cu (oJ m p.1 (dY m p.1++p.2)) ps x=cu m (p::ps) x:=by
   unfold cu oJ
   by_cases hx:x=p.1
   ·subst hx;simp
   ·have:¬p.1=x:=fun h=>hx h.symm
    rw[if_neg hx];simp[this]
  have h2:dataOf (oJ m p.1 (dY m p.1++p.2)) ps x=dataOf m (p::ps) x:=by
   unfold dataOf
   rw[Gs,CV]
   by_cases hx:x=p.1
   ·subst hx;simp
   ·have:¬p.1=x:=fun h=>hx h.symm
    rw[if_neg hx,if_neg this];simp
  rw[h1,h2]
def SX(first:Int):St->List (Int×ByteArray)
 |[]=>[]
 |f::R=>SX first R++[(first+R.length,bu (qW f))]
theorem EC(p:Int->Bool)(d:Int->ByteArray):∀(k:Nat) (x:Int),(∀i:Nat,i<k+1->p (x+i)=true)->je p d (k+1) x=je p d k x++[(x+k,d (x+k))]
 |0,x,h=>by
  have h0:=h 0 (by omega)
  simp at h0
  simp[je,h0]
 |k+1,x,h=>by
  have h0:=h 0 (by omega)
  simp at h0
  have ih:=EC p d k (x+1) (fun i hi=>by have:=h (i+1) (by omega);rw[<-this];congr 1;omega)
  rw[je,if_pos h0,ih]
  conv=>rhs;rw[je,if_pos h0]
  simp only[List.cons_append]
  have e:x+1+(k:Int)=x+((k+1:Nat):Int):=by omega
  rw[e]
theorem NK{first:Int}{p:Int->Bool}{d:Int->ByteArray}:∀{R:St},(∀i:Nat,i<R.length->p (first+i)=true/\d (first+i)=bu (qC R i))->je p d R.length first=SX first R
 |[],_=>rfl
 |f::R,h=>by
  rw[List.length_cons,EC p d R.length first (fun i hi=>(h i (by simpa using hi)).1),NK (R:=R) (fun i hi=>by
   have:=h i (by simp;omega)
   refine⟨this.1,?_⟩
   rw[this.2]
   simp only[qC]
   rw[if_neg (by omega)])]
  have h2:=(h R.length (by simp)).2
  rw[h2]
  simp[SX,qC]
theorem NL{f:pY}(h:Yy f):bY (aU (qW f))=f.ts/\rH (aU (qW f))=if f.q=[]then 0 else nY 2:=by
 obtain⟨t',h1,h2,h3⟩:=h.q
 have:=SA f.ts f.q t' h.ts h1 h2 h3
 exact⟨this.1,this.2.2⟩
theorem SY{f:pY}(h:Yy f):uG (bu (qW f))= !decide (full f):=by
 unfold uG full
 rw[kN,lX,(NL h).2]
 by_cases hq:f.q=[]
 ·by_cases hs:(qW f).length<256
  ·have:¬256<=(qW f).length:=by omega
   simp[hq,hs]
  ·have:256<=(qW f).length:=by omega
   simp[hq,this]
 ·have:=Js 2
  simp[hq,this]
theorem NM{first:Int}(h1:1<=first)(h2:first<=1152921504606846976):∀{R:St},Ok R->R.length<=1152921504606846976->∃ls:List Sg,ls.map (·.1)=SX first R/\dH ls=texts R/\(∀a,R≠[]->wH a ls=first+lastOf R)/\ls.length=R.length
 |[],_,_=>⟨[],rfl,rfl,fun a h=>absurd rfl h,rfl⟩
 |f::R,ho,hl=>by
  obtain⟨ls,h3,h4,_,h6⟩:=NM h1 h2 (R:=R) (fun g hg=>ho g (List.mem_cons_of_mem _ hg)) (by simp at hl;omega)
  have hf:=ho f (by simp)
  simp only[List.length_cons]at hl
  let x:Sg:=⟨(first+R.length,bu (qW f)),by rw[lX];have:=hf.size;show _<=_;omega,by show 1<=first+(R.length:Int);omega,by show first+(R.length:Int)<=_;omega⟩
  refine⟨ls++[x],by rw[List.map_append,h3];rfl,?_,fun a _=> ?_,by simp[h6]⟩
  ·rw[vG,h4]
   show _++bY (aU (bl (bu (qW f))))=texts R++f.ts
   rw[kN,(NL hf).1]
  ·rw[JG]
   show(if uG (bu (qW f))=true then first+(R.length:Int)else first+(R.length:Int)+1)=_
   rw[SY hf]
   simp only[lastOf]
   by_cases hfu:full f
   ·simp[hfu];omega
   ·simp[hfu]
structure Log(first:Int)(R:St)(T:List (List UInt8))(m:aJ.Safe)(ps:List aJ.Pc):Prop where
 safe:Ez first R m
 rest:ps.filter (mine first)=iK first R T
 ok:Ok R
 T:∀t∈T,t.length<=65536
section
variable{first:Int}{R:St}{T:List (List UInt8)}{m:aJ.Safe}{ps:List aJ.Pc}
theorem Log.file(h:Log first R T m ps)(i:Nat):cu m ps (first+i)=decide (i<(cur R T).length)/\dataOf m ps (first+i)=bu (qC (cur R T) i):=by
 have h1:=zx ps h.safe h.rest i
 rw[SV]at h1
 unfold fileAt at h1
 by_cases hi:i<(cur R T).length
 ·rw[if_pos hi]at h1
  split at h1
  ·rename_i h2
   injection h1 with h1
   exact⟨by simp[h2,hi],h1⟩
  ·cases h1
 ·rw[if_neg hi]at h1
  split at h1
  ·cases h1
  ·rename_i h2
   refine⟨by simp[hi,h2],?_⟩
   rw[FC (by omega)]
   have h3:=h2
   unfold cu at h3
   simp only[Bool.or_eq_true,not_or,Bool.not_eq_true,List.any_eq_false,decide_eq_true_eq,Option.isSome_eq_false_iff,Option.isNone_iff_eq_none]at h3
   unfold dataOf dY
   rw[h3.1]
   have:ofFile (first+i) ps=[]:=by
    unfold ofFile
    rw[List.flatMap_eq_nil_iff]
    intro p hp
    rw[if_neg (h3.2 p hp)]
   rw[this]
   rfl
theorem Log.WJ(h:Log first R T m ps):je (cu m ps) (dataOf m ps) (cur R T).length first=SX first (cur R T)/\cu m ps (first+(cur R T).length)=false:=
 ⟨NK fun i hi=>⟨by rw[(h.file i).1];simpa using hi,(h.file i).2⟩,by rw[(h.file _).1];simp⟩
theorem Log.append(h:Log first R T m ps){t:List UInt8}(ht:t.length<=65536):Log first R (T++[t]) m (ps++[(first+lastOf (cur R T),bu (bM t))]):=
 ⟨h.safe,by rw[List.filter_append,h.rest,zu];congr 1;simp[mine];omega,h.ok,fun x hx=>by rcases List.mem_append.1 hx with hx|hx;exact h.T x hx;simp at hx;subst hx;exact ht⟩
theorem Log.sync(h:Log first R T m ps):Log first (cur R T) [] (kK m ps) []:=⟨zx ps h.safe h.rest,rfl,JQ h.ok h.T,fun t ht=>by cases ht⟩
theorem WL(R:St)(t:List UInt8):lastOf (app R t)=if 256<=(qC (app R t) (lastOf R)).length then lastOf R+1 else lastOf R:=by
 cases R with
 |nil=>
  have e:app [] t=[⟨[t],[]⟩]:=rfl
  rw[e]
  simp only[lastOf,qC,List.length_nil,if_true,full,ne_eq,not_true_eq_false,false_or]
 |cons f R=>
  by_cases hf:full f
  ·have e:app (f::R) t=⟨[t],[]⟩::f::R:=by simp only[app];rw[if_pos hf]
   have e2:lastOf (f::R)=R.length+1:=by simp only[lastOf];rw[if_pos hf]
   rw[e,e2]
   simp[lastOf,qC,full]
  ·have e:app (f::R) t=⟨f.ts++[t],[]⟩::R:=by simp only[app];rw[if_neg hf]
   have e2:lastOf (f::R)=R.length:=by simp only[lastOf];rw[if_neg hf]
   rw[e,e2]
   simp[lastOf,qC,full]
end
end Wl
end Go.Proofs.YtolkgbafebehfaaGreat
namespace Go.Proofs.YtolkgbafebehfaaGreat
open Go.RowKit
set_option maxRecDepth 100000
namespace Wl
open aJ Fr Vn Ops
def WM(w:World)(g:Nat)(first:Int)(L:List Sg)(e:Ending)(w':World):Prop:=
 ∃gw A c,e=.returned (.tuple #[.pointer (some ⟨gw,0,none⟩),.slice A (dH L).length c,.int .i64 0])/\Has w' gw 282 #[.pointer (some ⟨g,0,none⟩),.int .i64 (wH first L)]/\w.heap.size<=gw/\
  aF 9 1 w.heap.size w' A (dH L).length c (gy (dH L))/\Below w.heap.size w w'
theorem open_any(w:World)(g nn:Nat)(F:Nat->Prop)(m:aJ.Safe)(ps:List aJ.Pc)(aV aO first:Int)(K:Nat)(ls:List Sg)
  (hd:aX w g F nn m ps aV aO) (hpi:∀p∈ps,I64 p.1) (hnn:nn<=100000) (hps:ps.length<=100000) (hsz:∀f,(dY m f).size+total ps<=140737488355328)
  (h1:1<=first) (h1':first<=1073741824) (h2:first+K<=4611686018427387904) (hK:cu m ps (first+K)=false) (hls:ls.map (·.1)=je (cu m ps) (dataOf m ps) K first) (hlen:ls.length<=1000000):
  Calls Tryz.prog 124 #[.pointer (some ⟨g,0,none⟩),.int .i64 first] w (WM w g first ls):=by
 have hr:=JI w g nn F m ps aV aO first K ls hd hpi hnn hps hsz h1 h1' h2 hK hls hlen
 have HR:=ah hr
 clear hr hd hpi hnn hps hsz h2 hK hls hlen
 go_enter Tryz.func124,Tryz.ntmps124
 go_wp2_with fail
 refine HR.out.mono ?_
 rintro e w1 ⟨A,c,rfl,hn,hb⟩
 have HN:=ah hn;have HB:=ah hb
 clear hn hb
 go_wp2
 go_ret3
 have hk:Kept aj w1 (w1.alloc (.cells #[.pointer (some ⟨g,0,none⟩),.int .i64 (wH first ls)] 282)):=(Kept.refl _ _).alloc _
 exact⟨w1.heap.size,A,c,rfl,Has.new _ _ _,HB.out.size,HN.out.kept hk,HB.out.alloc HB.out.size _⟩
abbrev AX(w:World)(gw g:Nat)(last:Int):Prop:=Has w gw 282 #[.pointer (some ⟨g,0,none⟩),.int .i64 last]
section
variable{F:Nat->Prop}{w:World}{g gw n:Nat}{m:aJ.Safe}{ps:List aJ.Pc}{aV aO last:Int}
theorem uo(h:AX w gw g last):Calls Tryz.prog 301 #[.pointer (some ⟨gw,0,none⟩)] w fun e w'=>e=.returned (.bool false)/\w=w':=by
 have c0:w.cell? ⟨gw,0,none⟩=some (.pointer (some ⟨g,0,none⟩)):=h.cell 0
 clear h
 go_enter Tryz.func301,Tryz.ntmps301
 go_wp2
 go_ret
 exact⟨rfl,rfl⟩
theorem aX.ne(h:aX w g F n m ps aV aO)(hw:AX w gw g last):¬F gw:=by
 obtain⟨mb,A,c,hF,hg,hm,ho⟩:=h
 intro hf
 rcases(hF gw).1 hf with rfl|rfl|h
 ·exact hg.ne hw (by decide) rfl
 ·exact hm.ne hw rfl
 ·exact own_ne ho hw (by decide) h
def ZI(w:World)(g gw:Nat)(F:Nat->Prop)(n:Nat)(m:aJ.Safe)(ps:List aJ.Pc)(aV aO last:Int)(e:Ending)(w':World):Prop:=
 e=.returned (.int .i64 0)/\∃F',aX w' g F' n m ps aV aO/\iH w F F'/\AX w' gw g (if 256<=(dataOf m ps last).size then last+1 else last)/\Kept (fun k=>F k\/k=gw) w w'
theorem Po(h:aX w g F n m ps aV aO)(hw:AX w gw g last)(s:ByteArray)(hs:s.size<=65536)(hl1:1<=last)(hl2:last<=1073741824)(hlen:ps.length<100000)
  (hsz:(dY m last).size+total ps<=140737488000000):
  Calls Tryz.prog 192 #[.pointer (some ⟨gw,0,none⟩),.string s] w (ZI w g gw F n m (ps++[(last,bu (bM (bl s)))]) aV aO last):=by
 have hno:=uo hw
 have hfl:(bM (bl s)).length<=65549:=by
  rw[lY,dh]
  have:=kX (n:=s.size) (by omega)
  omega
 have hne:=aX.ne h hw
 have hgl:=hw.lt
 have hwr:=fun(W:World) (hk:Kept aj w W)=>WB (h.kept hk (fun _ _ z=>z)) last (bu (bM (bl s))) hl1 hl2 (by omega)
 have JF:I64 last:=jq (by omega) (by omega)
 obtain⟨fr,hfr⟩:∃fr,bu (bM (bl s))=fr:=⟨_,rfl⟩
 have hfz:fr.size<=65549:=by rw[<-hfr,lX];exact hfl
 have hfp:=Wi w s hs
 rw[hfr]at hwr hfp⊢
 have hda:∀(W:World) (F2:Nat->Prop),aX W g F2 n m (ps++[(last,fr)]) aV aO->_:=fun W F2 h2=>DC h2 last JF (by simp;omega) (by rw[pX];dsimp only;omega)
 have iZ:=ah hno;have HFP:=ah hfp;have oM:=ah hwr;have SL:=ah hda;have HW:=ah hw;have zF:=ah hne;have wZ:=ah h.lt
 have HL:Hid (last<=1073741824):=ah hl2
 have hw1:IntKind.i64.wrap (last+1)=last+1:=IntWalk.i64_in _ (by omega)
 clear hno hfp hwr hda hw hne h hfr hsz hfl hlen hfz JF hs
 go_enter Tryz.func192,Tryz.ntmps192
 go_wp2_with fail
 refine iZ.out.mono ?_
 rintro e w' ⟨rfl,rfl⟩
 go_wp2_with fail
 refine HFP.out.mono ?_
 rintro e w1 ⟨rfl,hk1⟩
 have gI:=ah hk1
 have WN:=HW.out.kept hk1 (fun z=>z)
 have c0:w1.cell? ⟨gw,0,none⟩=some (.pointer (some ⟨g,0,none⟩)):=WN.cell 0
 have c1:w1.cell? ⟨gw,1,none⟩=some (.int .i64 last):=WN.cell 1
 clear hk1 WN
 go_wp2_with fail
 refine wp_region_still_tail 9 (by kernel_rfl) (by kernel_rfl) ?_
 simp only[List.take_succ_cons,List.take_zero,List.drop_succ_cons,List.drop_zero]
 change wpStill _ _ (World.drew w1) _ _ _
 repeat still_step
 refine wpStill_nil ?_
 change wpList _ _ _ _ _ (World.drew w1)
 go_wp2_with fail
 refine(oM.out _ gI.out.drew).mono ?_
 rintro e w2 ⟨rfl,F2,h2,g2,k2⟩
 have hw2:=(HW.out.kept gI.out.drew (fun z=>z)).kept k2 zF.out
 have d0:w2.cell? ⟨gw,0,none⟩=some (.pointer (some ⟨g,0,none⟩)):=hw2.cell 0
 have d1:w2.cell? ⟨gw,1,none⟩=some (.int .i64 last):=hw2.cell 1
 have hk2:Kept F w w2:=((gI.out.drew).mono (fun _ z=>z.elim)).then k2
 have H2:=ah h2;have HW2:=ah hw2;have aQ:=ah hk2;have g2':iH w F F2:=(fun k hk=>by rcases g2 k hk with z|z;exact .inl z;exact .inr (Nat.le_trans (gI.out.drew).size z))
 have lZ:=ah g2';clear g2'
 clear h2 g2 k2 hw2 hk2 c0 c1
 go_wp2_with fail
 refine wp_region_still_tail 8 (by kernel_rfl) (by kernel_rfl) ?_
 simp only[List.take_succ_cons,List.take_zero,List.drop_succ_cons,List.drop_zero]
 change wpStill _ _ (World.drew w2) _ _ _
 repeat still_step
 refine wpStill_nil ?_
 change wpList _ _ _ _ _ (World.drew w2)
 go_wp2_with fail
 have hkd:Kept aj w2 w2.drew:=(Kept.refl _ w2).drew
 refine(SL.out _ F2 (H2.out.kept hkd (fun _ _ z=>z))).mono ?_
 rintro e w3 ⟨rfl,hk3⟩
 obtain⟨D,hD⟩:∃D,dataOf m (ps++[(last,fr)]) last=D:=⟨_,rfl⟩
 rw[hD]
 have hw3:=(HW2.out.kept hkd (fun z=>z)).kept hk3 (fun z=>z)
 have b1:w3.cell? ⟨gw,1,none⟩=some (.int .i64 last):=hw3.cell 1
 have f1:=hw3.frozen 1
 have hF2:¬F2 gw:=fun hh=>by rcases lZ.out gw hh with h|h;exact zF.out h;have:=HW.out.lt;omega
 have HW3:=ah hw3;have HF2:=ah hF2;have HDD:=ah hD
 clear hw3 hF2 hD d0 d1
 have bf:=ah (hkd.then hk3)
 clear hkd hk3
 by_cases hb:256<=D.size
 ·have hb':(256:Int)<=(D.size:Int):=by omega
  have HB:=ah hb
  clear hb
  go_wp2
  go_ret
  have hk4:Kept (fun k=>k=gw) w3 (w3.setCell ⟨gw,1,none⟩ (.int .i64 (last+1))):=(Kept.refl _ w3).put (.inl rfl)
  refine⟨rfl,F2,(H2.out.kept bf.out (fun _ _ z=>z)).kept hk4 (fun k hk e=>HF2.out (e▸hk)),lZ.out,?_,?_⟩
  ·rw[HDD.out,if_pos HB.out]
   exact HW3.out.dB rfl
  ·exact((aQ.out.mono (fun k h=> .inl h)).then (bf.out.mono (fun _ z=>z.elim))).put (.inl (.inr rfl))
 ·have hb':¬(256:Int)<=(D.size:Int):=by omega
  have HB:=ah hb
  clear hb
  go_wp2
  go_ret
  refine⟨rfl,F2,(H2.out.kept bf.out (fun _ _ z=>z)),lZ.out,?_,?_⟩
  ·rw[HDD.out,if_neg HB.out]
   exact HW3.out
  ·exact(aQ.out.mono (fun k h=> .inl h)).then (bf.out.mono (fun _ z=>z.elim))
end
end Wl
namespace Wl
open aJ Fr Vn Ops
section
variable{F:Nat->Prop}{w:World}{g gw n:Nat}{m:aJ.Safe}{ps:List aJ.Pc}{aV aO first:Int}{R:St}{T:List (List UInt8)}
def S9(w:World)(g:Nat)(first:Int)(R:St)(e:Ending)(w':World):Prop:=
 ∃gw A c,e=.returned (.tuple #[.pointer (some ⟨gw,0,none⟩),.slice A (texts R).length c,.int .i64 0])/\AX w' gw g (first+lastOf R)/\w.heap.size<=gw/\
  aF 9 1 w.heap.size w' A (texts R).length c (gy (texts R))/\Below w.heap.size w w'
def Tc(w:World)(first:Int)(R:St)(e:Ending)(w':World):Prop:=
 ∃A c,e=.returned (.tuple #[.slice A (texts R).length c,.int .i64 (first+lastOf R)])/\aF 9 1 w.heap.size w' A (texts R).length c (gy (texts R))/\Below w.heap.size w w'
structure Fits(n:Nat)(m:aJ.Safe)(ps:List aJ.Pc):Prop where
 n:n<=100000
 len:ps.length<100000
 file:∀f,(dY m f).size<=100000
 pc:∀p∈ps,p.2.size<=65549/\1<=p.1/\p.1<=1073741824
theorem WO{ps:List aJ.Pc}{k:Nat}(h:∀p∈ps,p.2.size<=k):total ps<=ps.length*k:=by
 induction ps with
 |nil=>simp[total]
 |cons p ps ih=>
  have h1:=h p (by simp)
  have h2:=ih (fun q hq=>h q (by simp[hq]))
  rw[total_cons,List.length_cons,Nat.succ_mul]
  omega
theorem Fits.total(h:Fits n m ps):aJ.total ps<=6554900000:=by
 have h1:=WO (k:=65549) (fun p hp=>(h.pc p hp).1)
 have:=h.len
 omega
theorem Fits.i64(h:Fits n m ps):∀p∈ps,I64 p.1:=fun p hp=>by have:=h.pc p hp;exact jq (by omega) (by omega)
theorem ED(h:Log first R T m ps)(hf1:1<=first)(hf2:first<=1073741824)(hl:(cur R T).length<=100000):
  ∃ls:List Sg,ls.map (·.1)=je (cu m ps) (dataOf m ps) (cur R T).length first/\dH ls=texts (cur R T)/\wH first ls=first+lastOf (cur R T)/\ls.length=(cur R T).length:=by
 obtain⟨ls,h3,h4,h5,h6⟩:=NM hf1 (by omega) (JQ h.ok h.T) (by omega)
 refine⟨ls,h3.trans h.WJ.1.symm,h4,?_,h6⟩
 by_cases hc:cur R T=[]
 ·rw[hc]at h6⊢
  obtain rfl:ls=[]:=List.eq_nil_of_length_eq_zero h6
  simp[wH,lastOf]
 ·exact h5 _ hc
theorem acu(hd:aX w g F n m ps aV aO)(h:Log first R T m ps)(hf:Fits n m ps)(hf1:1<=first)(hf2:first<=1073741824)(hl:(cur R T).length<=100000):
  Calls Tryz.prog 212 #[.pointer (some ⟨g,0,none⟩),.int .i64 first] w (Tc w first (cur R T)):=by
 obtain⟨ls,h3,h4,h5,h6⟩:=ED h hf1 hf2 hl
 have ht:=hf.total
 refine(JI w g n F m ps aV aO first (cur R T).length ls hd hf.i64 hf.n (by have:=hf.len;omega) (fun f=>by have:=hf.file f;omega) hf1 hf2 (by omega) h.WJ.2 h3 (by omega)).mono ?_
 rintro e w' ⟨A,c,h7,h8,h9⟩
 rw[h4]at h7 h8
 rw[h5]at h7
 exact⟨A,c,h7,h8,h9⟩
theorem Td(hd:aX w g F n m ps aV aO)(h:Log first R T m ps)(hf:Fits n m ps)(hf1:1<=first)(hf2:first<=1073741824)(hl:(cur R T).length<=100000):
  Calls Tryz.prog 124 #[.pointer (some ⟨g,0,none⟩),.int .i64 first] w (S9 w g first (cur R T)):=by
 obtain⟨ls,h3,h4,h5,h6⟩:=ED h hf1 hf2 hl
 have ht:=hf.total
 refine(open_any w g n F m ps aV aO first (cur R T).length ls hd hf.i64 hf.n (by have:=hf.len;omega) (fun f=>by have:=hf.file f;omega) hf1 hf2 (by omega) h.WJ.2 h3 (by omega)).mono ?_
 rintro e w' ⟨gw,A,c,h7,h8,h9,h10,h11⟩
 rw[h4]at h7 h10
 rw[h5]at h8
 exact⟨gw,A,c,h7,h8,h9,h10,h11⟩
def WQ(w:World)(g gw:Nat)(F:Nat->Prop)(n:Nat)(m:aJ.Safe)(ps:List aJ.Pc)(aV aO first:Int)(R:St)(T:List (List UInt8))(e:Ending)(w':World):Prop:=
 e=.returned (.int .i64 0)/\∃F',aX w' g F' n m ps aV aO/\iH w F F'/\AX w' gw g (first+lastOf (cur R T))/\Kept (fun k=>F k\/k=gw) w w'
theorem CY(hd:aX w g F n m ps aV aO)(hw:AX w gw g (first+lastOf (cur R T)))(h:Log first R T m ps)(hf:Fits n m ps)(hf1:1<=first)(hf2:first+lastOf (cur R T)<=1073741824)(s:ByteArray)(hs:s.size<=65536):
  Calls Tryz.prog 192 #[.pointer (some ⟨gw,0,none⟩),.string s] w (WQ w g gw F n m (ps++[(first+lastOf (cur R T),bu (bM (bl s)))]) aV aO first R (T++[bl s])):=by
 have ht:=hf.total
 refine(Po hd hw s hs (by omega) hf2 hf.len (by have:=hf.file (first+lastOf (cur R T));omega)).mono ?_
 rintro e w' ⟨h1,F',h2,h3,h4,h5⟩
 refine⟨h1,F',h2,h3,?_,h5⟩
 have h6:=(h.append (t:=bl s) (by rw[dh];exact hs)).file (lastOf (cur R T))
 rw[h6.2,lX,JO]at h4
 rw[JO,WL]
 split
 ·rename_i h7
  rw[if_pos h7]at h4
  rw[show first+((lastOf (cur R T)+1:Nat):Int)=first+(lastOf (cur R T):Int)+1 by omega]
  exact h4
 ·rename_i h7
  rw[if_neg h7]at h4
  exact h4
end
theorem NP(first:Int):Log first [] [] (fun _=>none) []:=⟨fun i=>rfl,rfl,(fun f hf=>by cases hf),(fun t ht=>by cases ht)⟩
end Wl
namespace Pt
open aJ Fr Vn Ops Wl
theorem yO(s:ByteArray):(s.toList==[])=decide (s.size=0):=by
 rw[ByteArray.toList_eq,<-dh]
 cases h:bl s<;>simp[h]
end Pt
end Go.Proofs.YtolkgbafebehfaaGreat
