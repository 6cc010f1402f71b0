/- Part 23. -/
import Derived.Test.YtgbigpdiacjbgaaGreatCZ21
set_option linter.unusedSimpArgs false
set_option linter.unusedVariables false
set_option maxHeartbeats 32000000
set_option maxRecDepth 100000
namespace Go.Proofs.YtgbigpdiacjbgaaGreat
open Go.RowKit
namespace Ops
open Vn
def iG(f:BL->Option aS)(o:aS):BL->Option aS:=fun x=>if x=bl o.key then some o else f x
def dH(m:List aS):BL->Option aS:=m.foldl iG fun _=>none
def o0:aS:=⟨⟨#[]⟩,⟨#[]⟩,false⟩
def nZ(m:List aS):List BL:=Keys.tu (m.map fun o=>bl o.key)
def jD(m:List aS):List aS:=(nZ m).map fun x=>(dH m x).getD o0
theorem uF(m:List aS)(i:Nat)(o:aS)(h:m[i]? =some o):dH (m.take (i+1))=iG (dH (m.take i)) o:=by unfold dH;rw[List.take_add_one,h,Option.toList_some,List.foldl_append];rfl
def wO(w:World)(l:List aS)(e:Ending)(w':World):Prop:=
 ∃A c,e=.returned (.slice A l.length c)/\bG 143 3 w.heap.size w' A l.length c (cells l)/\Kept aj w w'
theorem cells_at{l:List aS}{i:Nat}{o:aS}(h:l[i]? =some o):cells (l.take (i+1))=cells (l.take i)++[.string o.key,.string o.val,.bool o.del]:=by rw[List.take_add_one,h,Option.toList_some];unfold cells;rw[List.flatMap_append];simp[cell]
def BF(o:aS):Array Value:=#[.string o.key,.string o.val,.bool o.del]
end Ops
namespace Ops
open Vn
theorem pP{m:List aS}{x:BL}{o:aS}(h:dH m x=some o):bl o.key=x/\o∈m:=by
 suffices∀(m:List aS) (g:BL->Option aS),m.foldl iG g x=some o->g x=some o\/(bl o.key=x/\o∈m) by
  rcases this m _ h with h1|h1
  ·cases h1
  ·exact h1
 intro m;induction m with
 |nil=>intro g h;exact .inl h
 |cons p m ih=>
  intro g h;rcases ih _ h with h1|⟨h1,h2⟩
  ·unfold iG at h1;split at h1
   ·rename_i e;injection h1 with h1;subst h1;exact .inr ⟨e.symm,by simp⟩
   ·exact .inl h1
  ·exact .inr ⟨h1,List.mem_cons_of_mem _ h2⟩
theorem og{m:List aS}{x:BL}(h:x∈m.map fun o=>bl o.key):∃o,dH m x=some o:=by
 suffices∀(m:List aS) (g:BL->Option aS),((∃o,g x=some o)\/x∈m.map fun o=>bl o.key)->∃o,m.foldl iG g x=some o from this m _ (.inr h);intro m;induction m with
 |nil=>
  intro g h;rcases h with h|h
  ·exact h
  ·cases h
 |cons p m ih=>
  intro g h;rw[List.foldl_cons];refine ih _ ?_;by_cases e:x=bl p.key
  ·exact .inl ⟨p,by unfold iG;rw[if_pos e]⟩
  ·rcases h with⟨o,h⟩|h
   ·exact .inl ⟨o,by unfold iG;rw[if_neg e];exact h⟩
   ·rw[List.map_cons,List.mem_cons]at h;rcases h with h|h
    ·exact absurd h e
    ·exact .inr h
theorem wP{m:List aS}{x:BL}:x∈nZ m↔x∈m.map fun o=>bl o.key:=Keys.mem_set _ _
end Ops
end Go.Proofs.YtgbigpdiacjbgaaGreat
namespace Go.Proofs.YtgbigpdiacjbgaaGreat
open Go.Shelf Go.Sort Go.RowKit Go.Maps Go.Proofs
namespace pO
open Ops
theorem oh{w:World}{g:Nat}{cur:Array Value}{e:TypeId}{xs:List Value}(hb:w.heap[g]? =some (.cells cur e (0,0)))(ht:cur.toList.take xs.length=xs):Holds id w g 0 xs.toArray:=by
 intro j hj;have hj':j<xs.length:=by simpa using hj
 refine⟨?_,by simp[World.frozen?,hb]⟩;have h1:(cur.toList.take xs.length)[j]? =xs[j]? :=by rw[ht]
 rw[List.getElem?_take_of_lt hj']at h1;simp only[World.cell?,hb,Nat.zero_add];simp only[Option.isSome_none,Bool.false_eq_true,if_false];rw[<-Array.getElem?_toList,h1];simp[hj']
theorem qX{w:World}{g n:Nat}{os:Array Obj}{cur:Array Value}{e:TypeId}{fr:Nat×Nat}(d:Array Value)(hb:w.heap[g]? =some (.cells cur e fr)):
  (grow (putRow id (Sort.ahead w n) g 0 d) os).heap[g]? =some (.cells (putCells id 0 d cur) e fr):=by
 have hg:g<w.heap.size:=(Array.getElem?_eq_some_iff.1 hb).1;rw[heap_grow_old _ _ (by simpa using hg)];simp[putRow,mapBlock,Sort.ahead,Array.getElem?_modify,hb,onCells]
theorem oq{w:World}{g n:Nat}{os:Array Obj}(d:Array Value):w.grownBy (grow (putRow id (Sort.ahead w n) g 0 d) os) (some g):=by refine⟨rfl,rfl,rfl,by simp,fun k hk hne=> ?_⟩;rw[heap_grow_old _ _ (by simpa using hk)];have:g≠k:=fun e=>hne (by rw[e]);simp[putRow,mapBlock,Sort.ahead,Array.getElem?_modify,this]
theorem oZ(cur:Array Value)(ts:List Value)(h:ts.length<=cur.size):(putCells id 0 ts.toArray cur).toList.take ts.length=ts:=by
 apply List.ext_getElem?
 intro j;by_cases hj:j<ts.length
 ·rw[List.getElem?_take_of_lt hj,Array.getElem?_toList];simp[putCells,hj,show j<cur.size by omega]
 ·rw[List.getElem?_take_eq_none (by omega),List.getElem?_eq_none (by omega)]
theorem ou{w:World}{base g cap n m sz:Nat}{e:TypeId}{os:Array Obj}{cur:Array Value}{ts:List Value}(hl:ts.length=m*sz)(hbase:base<=g)(hb:w.heap[g]? =some (.cells cur e (0,0)))
  (h1:m<=cap) (h2:cap<=maxLen) (h3:cur.size=cap*sz):
  (grow (putRow id (Sort.ahead w n) g 0 ts.toArray) os).ownsRow base e sz (.slice (some ⟨g,0,none⟩) m cap) m ts:=
 ⟨hl,.inr ⟨g,cap,_,rfl,hbase,qX _ hb,h1,h2,by simp[putCells,h3],by rw[<-hl];exact oZ cur ts (by rw[h3,hl];exact Nat.mul_le_mul_right _ h1)⟩⟩
theorem oz{α:Type} [Inhabited α](enc:α->List Value)(k:Nat)(hpos:0<k)(hk:∀x,(enc x).length=k)(l:List α):flatK enc k l.toArray=(l.flatMap enc).toArray:=by
 have hlen:(l.flatMap enc).length=l.length*k:=by
  induction l with
  |nil=>simp
  |cons a l ih=>rw[List.flatMap_cons,lA0,hk,ih,List.length_cons,Nat.succ_mul];omega
 refine Array.ext (by simp[hlen]) fun t h1 h2=> ?_;have ht:t<l.length*k:=by simpa using h1
 have e1:=get_flatK enc k l.toArray t (by simpa using ht);rw[getElem!_pos _ t h1]at e1;rw[e1];have htk:t/k<l.length:=Nat.div_lt_of_lt_mul (by rwa[Nat.mul_comm]);have hf:=flat_get enc k hpos hk l t;rw[lB0 htk,Option.bind_some]at hf;have hm:t%k<(enc l[t/k]).length:=by rw[hk];exact Nat.mod_lt _ hpos
 rw[lB0 hm]at hf;have h3:(l.flatMap enc)[t]? =some ((l.flatMap enc)[t]'(by rw[hlen];exact ht)):=lB0 _;rw[h3]at hf;injection hf with hf;show _=(l.flatMap enc)[t]'(by rw[hlen];exact ht);rw[hf];have e2:(l.toArray)[t/k]! =l[t/k]:=by simp[htk]
 rw[e2];exact getElem!_pos (enc l[t/k]) (t%k) hm
def fK(x y:BL):Int:=if Op.bytesLess x y=true then-1 else if Op.bytesLess y x=true then 1 else 0
theorem wQ(w:World)(a:ByteArray):Calls Tryz.prog 167 #[.string a] w fun e w'=>e=.returned (.bool false)/\w=w':=by go_enter Tryz.func167,Tryz.ntmps167;go_wp2;go_ret;exact⟨by simp,rfl⟩
theorem BG(x:BL):Op.bytesLess x x=false:=by rw[bytesLess_eq];simp
theorem rV(w:World)(a b:ByteArray):Calls Tryz.prog 125 #[.string a,.string b] w fun e w'=>e=.returned (.int .i64 (fK a.toList b.toList))/\w=w':=by
 have hn:=fun W s=>wQ W s;have HN:=ah hn;clear hn;unfold fK;by_cases h1:Op.bytesLess a.toList b.toList=true
 ·rw[if_pos h1];go_enter Tryz.func125,Tryz.ntmps125;go_wp2_with (go_at_call 167;refine(HN.out _ _).mono ?_;rintro e w' ⟨rfl,rfl⟩);go_ret;exact⟨rfl,rfl⟩
 ·rw[if_neg h1];have h1':Op.bytesLess a.toList b.toList=false:=by simpa using h1
  clear h1;by_cases h2:Op.bytesLess b.toList a.toList=true
  ·rw[if_pos h2];have hne:(a.toList==b.toList)=false:=by rw[beq_eq_false_iff_ne];intro e;rw[e,BG]at h2;cases h2
   go_enter Tryz.func125,Tryz.ntmps125;go_wp2_with (go_at_call 167;refine(HN.out _ _).mono ?_;rintro e w' ⟨rfl,rfl⟩);go_ret;exact⟨rfl,rfl⟩
  ·rw[if_neg h2];have h2':Op.bytesLess b.toList a.toList=false:=by simpa using h2
   clear h2;have heq:(a.toList==b.toList)=true:=by
    rw[beq_iff_eq];by_cases e:a.toList=b.toList
    ·exact e
    ·have:=Keys.nN _ _ h1' e;rw[h2']at this;cases this
   go_enter Tryz.func125,Tryz.ntmps125;go_wp2_with (go_at_call 167;refine(HN.out _ _).mono ?_;rintro e w' ⟨rfl,rfl⟩);go_ret;exact⟨rfl,rfl⟩
theorem wR(w:World)(o p:aS):Calls Tryz.prog 83 #[iL o,iL p] w fun e w'=>e=.returned (.int .i64 (fK o.key.toList p.key.toList))/\∃q os',w'=grow (w.drewN q) os':=by obtain⟨k1,v1,d1⟩:=o;obtain⟨k2,v2,d2⟩:=p;have hc:=fun W=>rV W k1 k2;dsimp only[iL];generalize fK k1.toList k2.toList=r at hc⊢;have HC:=ah hc;clear hc;go_enter Tryz.func83,Tryz.ntmps83;go_wp2_with (go_at_call 125;refine(HC.out _).mono ?_;rintro e w' ⟨rfl,rfl⟩);go_ret;exact⟨rfl,0,_,by rw[alloc_eq_grow,alloc_eq_grow,grow_grow];rfl⟩
def rowOf(f:BL->Option aS)(x:BL):aS:=⟨bJ x,((f x).getD o0).val,((f x).getD o0).del⟩
def cu(f:BL->Option aS)(x:BL):List Value:=cell (rowOf f x)
theorem qY(x y:BL):ltOf fK x y=decide (x<y):=by
 unfold ltOf fK;rw[bytesLess_eq,bytesLess_eq];by_cases h:x<y
 ·simp[h]
 ·by_cases h2:y<x<;>simp[h,h2]
theorem Af:SWO (ltOf fK):=by
 have e:ltOf fK=fun x y=>decide (x<y):=funext fun x=>funext fun y=>qY x y;rw[e];refine⟨fun x=>by simp,fun x y z h1 h2=> ?_,fun x y z h1 h2=> ?_⟩
 ·simp only[decide_eq_true_eq]at*
  exact List.lt_trans h1 h2
 ·simp only[decide_eq_false_iff_not,List.not_lt]at*
  exact List.le_trans h2 h1
theorem Ag(x y:BL)(h1:ltOf fK x y=false)(h2:ltOf fK y x=false):x=y:=by rw[qY,decide_eq_false_iff_not,List.not_lt]at h1 h2;exact List.le_antisymm h2 h1
theorem yM(l:List BL):(l.mergeSort fun x y=> !(ltOf fK) y x)=l.mergeSort leB:=by
 congr 1;funext x y;rw[qY];unfold leB;by_cases h:y<x
 ·have:¬x<=y:=fun e=>List.not_lt.2 e h;simp[h,this]
 ·simp[h,List.not_lt.1 h]
theorem yN(f:BL->Option aS)(blk off size:Nat)(w:World):CmpLays Tryz.prog 83 #[] (cu f) 3 fK blk off size w:=
 fun m os dk _ x y=>by
  have h:=wR (sortWorldK (cu f) 3 w blk off m dk os) (rowOf f x) (rowOf f y);have e:∀z:BL,(bJ z).toList=z:=fun z=>by rw[ByteArray.toList_eq];simp[bJ]
  have h2:fK (rowOf f x).key.toList (rowOf f y).key.toList=fK x y:=by unfold rowOf;rw[e,e]
  rw[h2]at h;exact h
end pO
namespace pO
open Ops
abbrev lM:=BL->Option aS
def lN(o:aS):DataW Unit:=.agg [.lit (.string (bl o.key)),.lit (.string (bl o.val)),.lit (.bool o.del)]
theorem yO{o p:aS}(h:lN o=lN p):o=p:=by obtain⟨a,b,c⟩:=o;obtain⟨a',b',c'⟩:=p;unfold lN at h;injection h with h;injection h with h1 h;injection h with h2 h;injection h with h3 h;injection h1 with h1;injection h1 with h1;injection h2 with h2;injection h2 with h2;injection h3 with h3;injection h3 with h3;have k1:a=a':=uQ h1;have k2:b=b':=uQ h2;have k3:c=c':=h3;rw[k1,k2,k3]
def l9:List Value->Option aS
 |[.string k,.string v,.bool d]=>some ⟨k,v,d⟩
 |_=>none
theorem rW{l:List Value}{o:aS}(h:l9 l=some o):l=[.string o.key,.string o.val,.bool o.del]:=by
 unfold l9 at h;split at h
 ·injection h with h;subst h;rfl
 ·cases h
def jW:Value->Option (DataW Unit×List MemPlace)
 | .agg cs=>(l9 cs.toList).map fun o=>(lN o,[])
 |_=>none
theorem wS(o:aS):jW (iL o)=some (lN o,[]):=rfl
theorem uG{v:Value}{y:DataW Unit×List MemPlace}(h:jW v=some y):∃o:aS,v=iL o:=by
 cases v<;>simp only[jW]at h
 case agg cs=>
  cases ho:l9 cs.toList with
  |none=>rw[ho]at h;cases h
  |some o=>
   have:=rW ho;obtain⟨l⟩:=cs;simp only at this;subst this;exact⟨o,rfl⟩
 all_goals cases h
def iR(w:World)(b n:Nat)(f:lM):Prop:=
 ∃D:DataW Unit,w.ownsMap Tryz.prog 9 jW b n D/\∀x:BL,has D (.string x)=(f x).isSome/\∀o,f x=some o->D.atKey (.string x) (.lit (.bool false))=lN o
theorem iR.lt{w:World}{b n:Nat}{m:lM}(h:iR w b n m):b<w.heap.size:=by obtain⟨D,h,_⟩:=h;exact h.lt
theorem iR.kept{F:Nat->Prop}{w w':World}{b n:Nat}{m:lM}(h:iR w b n m)(hk:Kept F w w')(hf:¬F b):iR w' b n m:=by obtain⟨D,ho,hD⟩:=h;have hlt:=ho.lt;obtain⟨es,clock,hb,hF,hs,e⟩:=ho;exact⟨D,⟨es,clock,(hk.block b hlt hf).trans hb,hF,hs,e⟩,hD⟩
theorem iR.made(w:World):iR (w.alloc (.map #[] 0)) w.heap.size 0 (fun _=>none):=
 ⟨_,World.ownsMap_made w _ _ _,fun k=>⟨rfl,fun o h=>by cases h⟩⟩
theorem iR.store{w:World}{b n:Nat}{m:lM}(h:iR w b n m)(hn:n<maxLen)(o:aS)(hk:o.key.size<=maxLen):
  ∃w',(Instr.mapUpdate 141 (.map (some b)) (.string o.key) (iL o)).run Tryz.prog w=.ok () w'/\iR w' b (n+1) (iG m o)/\Kept (fun i=>i=b) w w':=by
 obtain⟨D,ho,hD⟩:=h;obtain⟨w',hrun,ho',hg⟩:=ho.update mZ Tryz.underlying141 hn (AB hk) (wS o);refine⟨w',hrun,⟨_,ho',?_⟩,(Kept.refl _ _).grownBy hg fun i hi=>by injection hi with hi;exact .inl hi.symm⟩;intro x;have hm:IsMap D:=ho.isMap;have hl:WideAt.IsKeyLit (.string (bl o.key)):=by trivial
 by_cases e:x=bl o.key
 ·subst e;rw[has_put_same hm hl,atKey_put_same hm hl];unfold iG;rw[if_pos rfl];exact⟨rfl,fun p hp=>by injection hp with hp;rw[hp]⟩
 ·have hne:(Lit.string x)≠ .string (bl o.key):=fun h=>e (by injection h);rw[has_put_other hne,atKey_put_other hne];have:=hD x;unfold iG;rw[if_neg e];exact this
theorem uH{w:World}{base e sz n b k m:Nat}{v:Value}{xs:List Value}{R:Value->Option (DataW Unit×List MemPlace)}{D:DataW Unit}(h:w.ownsRow base e sz v n xs)(hm:w.ownsMap Tryz.prog k R b m D):v.ownBlock≠some b:=by
 obtain⟨es,clock,hb,_⟩:=hm;rcases h.2 with⟨rfl,_⟩|⟨g,cap,cur,rfl,_,hg,_⟩
 ·simp[Value.ownBlock]
 ·intro e;obtain rfl:g=b:=by simpa [Value.ownBlock]using e
  rw[hg]at hb;cases hb
theorem Ah:Elem Tryz.prog 144 145 3 40:=by obtain⟨i0,hi,hz0,hz1,hz2⟩:=info_parts (show(Tryz.prog.info? 145).map (fun i=>(i.zero,i.size,i.bytes))=some (some (.agg #[.string ⟨#[]⟩,.string ⟨#[]⟩,.bool false]),3,40) by kernel_rfl);exact⟨Tryz.underlying144,⟨i0,_,hi,hz0,hz1,hz2,rfl⟩,by decide⟩
theorem kK(f:lM)(x:BL):(cu f x).length=3:=rfl
theorem yP(f:lM)(x:BL):∀v∈cu f x,v.oneCell'=true:=by intro v hv;unfold cu cell at hv;simp at hv;rcases hv with rfl|rfl|rfl<;>rfl
theorem je(f:lM)(l:List BL):(l.flatMap (cu f)).length=l.length*3:=by
 induction l with
 |nil=>rfl
 |cons a l ih=>rw[List.flatMap_cons,lA0,kK,ih,List.length_cons,Nat.succ_mul];omega
theorem wT(w:World)(base:Nat)(A:Option Addr)(c:Nat)(f:lM)(L:List BL)(h:w.ownsRow base 145 3 (.slice A L.length c) L.length (L.flatMap (cu f)))(hlen:L.length<=1000000):
  Calls Tryz.prog 82 #[.slice A L.length c,.func (.func 83) #[] #[]] w fun e w'=>e=.returned (.tuple #[])/\
   w'.ownsRow base 145 3 (.slice A L.length c) L.length ((L.mergeSort leB).flatMap (cu f))/\Kept (fun k=>(Value.slice A L.length c).ownBlock=some k) w w':=by
 rcases h.2 with⟨hv,hn⟩|⟨g,cap,cur,hv,hbase,hb,h1,h2,h3,h4⟩
 ·have hl:L=[]:=lE0 hn;subst hl;refine(uD A c _ w).mono ?_;rintro e w' ⟨rfl,rfl⟩;exact⟨rfl,by simpa using h,Kept.refl _ _⟩
 ·injection hv with hA hn hc;subst hA;subst hc;have eg:∀args w,(callFunc 83 args).run Tryz.prog w=.ok (.enter 83 args) w:=enters_of Tryz.func83 (by kernel_rfl) rfl;have hfl:(flatK (cu f) 3 L.toArray)=(L.flatMap (cu f)).toArray:=oz (cu f) 3 (by decide) (kK f) L;have hH:HoldsK (cu f) 3 w g 0 L.toArray:=by unfold HoldsK;rw[hfl];exact oh hb (by rw[je];exact h4)
  have hg:g<w.heap.size:=(Array.getElem?_eq_some_iff.1 hb).1;have hc:=AnyQ.slices_SortFunc_total wM 3 Tryz.isAgg145 Tryz.sizeOf145 (cu f) (kK f) (yP f) fK Af 83 #[] g 0 c L.toArray w eg (yN f g 0 _ w) hH hg (by simp;omega) Ag;have e1:L.toArray.size=L.length:=by simp
  rw[e1]at hc;refine Calls.mono hc ?_;rintro e w' ⟨rfl,n,os,rfl⟩;have e2:L.toArray.toList=L:=rfl;rw[e2,yM];have Ef:(flatK (cu f) 3 (L.mergeSort leB).toArray)=((L.mergeSort leB).flatMap (cu f)).toArray:=oz (cu f) 3 (by decide) (kK f) _;unfold sortWorldK putRowK;rw[Ef];refine⟨rfl,ou (by rw[je,List.length_mergeSort]) hbase hb h1 h2 h3,(Kept.refl _ _).grownBy (oq _) fun k hk=>by injection hk with hk;subst hk;exact .inl rfl⟩
