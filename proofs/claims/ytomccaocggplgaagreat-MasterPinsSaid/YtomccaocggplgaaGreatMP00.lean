/- Part 1. -/
import Derived.Deep.AppendLies
import Derived.Test.YtomccaocggplgaaGreatChecked
import Derived.WalkSpells
import Derived.WalkLawsBesides
import Derived.BigQuiet
import Derived.Lib.Hide
import Derived.Deep.OwnRows
import Derived.Lib.SlBytesRow
set_option linter.unusedSimpArgs false
set_option linter.unusedVariables false
set_option maxHeartbeats 32000000
set_option maxRecDepth 100000
namespace Go.Proofs.YtomccaocggplgaaGreat
open Go.RowKit
theorem lA0{α:Type _}{a b:List α}:(a++b).length=a.length+b.length:=List.length_append
theorem lB0{α:Type _}{l:List α}{i:Nat}(h:i<l.length):l[i]? =some l[i]:=List.getElem?_eq_getElem h
theorem lC0{α:Type _}{l:List α}{i:Nat}{a:α}(h:l[i]? =some a):a∈l:=List.mem_of_getElem? h
theorem lD0{α:Type _}{i:Nat}{a:α}{l:List α}:l[i]? =some a↔∃h,l[i]=a:=List.getElem?_eq_some_iff
theorem lE0{α:Type _}{l:List α}(h:l.length=0):l=[]:=List.eq_nil_of_length_eq_zero h
theorem lF0{α:Type _}{a:List α}{i:Nat}:a.toArray[i]? =a[i]?:=List.getElem?_toArray
def Has(w:World)(g:Nat)(t:TypeId)(cs:Array Value):Prop:=w.heap[g]? =some (.cells cs t (0,0))
structure Kept(F:Nat->Prop)(a b:World):Prop where
 os:b.os=a.os
 tape:b.tape=a.tape
 output:b.output=a.output
 size:a.heap.size<=b.heap.size
 block:∀k,k<a.heap.size->¬F k->b.heap[k]? =a.heap[k]?
def Sep(F G:Nat->Prop):Prop:=∀k,F k->¬G k
def aj:Nat->Prop:=fun _=>False
def jG(w:World)(F F':Nat->Prop):Prop:=∀k,F' k->F k\/w.heap.size<=k
section
variable{F G:Nat->Prop}{a b c w w':World}{g:Nat}{t:TypeId}{cs:Array Value}
theorem Has.lt(h:Has w g t cs):g<w.heap.size:=by
 rcases Nat.lt_or_ge g w.heap.size with hl|hl
 ·exact hl
 ·unfold Has at h;rw[Array.getElem?_eq_none hl]at h;cases h
theorem Has.cell(h:Has w g t cs)(i:Nat):w.cell? ⟨g,i,none⟩=cs[i]? :=cell_of_row w g i cs t (0,0) h
theorem Has.frozen(h:Has w g t cs)(i:Nat):w.frozen? ⟨g,i,none⟩=false:=by unfold Has at h;simp[World.frozen?,h]
theorem Has.new(w:World)(t:TypeId)(cs:Array Value):Has (w.alloc (.cells cs t)) w.heap.size t cs:=heap_alloc_new w _
theorem Has.bK(w:World)(t:TypeId)(cs:Array Value){g:Nat}(hg:g=w.heap.size):Has (w.alloc (.cells cs t)) g t cs:=by subst hg;exact Has.new w t cs
theorem size_alloc(w:World)(o:Obj):(w.alloc o).heap.size=w.heap.size+1:=by simp
theorem Has.drew(h:Has w g t cs):Has w.drew g t cs:=h
theorem Has.drewN(h:Has w g t cs)(n:Nat):Has (w.drewN n) g t cs:=h
theorem Has.alloc(h:Has w g t cs)(o:Obj):Has (w.alloc o) g t cs:=(Below.heap_alloc w o g h.lt).trans h
theorem Has.put(h:Has w g t cs)(i:Nat)(u:Value):Has (w.setCell ⟨g,i,none⟩ u) g t (cs.setIfInBounds i u):=by unfold Has at h⊢;simp[World.setCell,Array.getElem?_modify,h]
theorem Has.far(h:Has w g t cs){p:Addr}(hp:g≠p.block)(u:Value):Has (w.setCell p u) g t cs:=(Below.heap_setCell w p u g hp).trans h
theorem Has.past(h:Has w g t cs){b i:Nat}{u:Value}(hp:g≠b):Has (w.setCell ⟨b,i,none⟩ u) g t cs:=h.far (p:=⟨b,i,none⟩) hp u
theorem Has.dH{cs':Array Value}{i:Nat}{u:Value}(h:Has w g t cs)(e:cs.setIfInBounds i u=cs'):Has (w.setCell ⟨g,i,none⟩ u) g t cs':=e▸h.put i u
theorem Has.kept(h:Has a g t cs)(hk:Kept F a b)(hg:¬F g):Has b g t cs:=(hk.block g h.lt hg).trans h
theorem Has.ne{g':Nat}{t':TypeId}{cs':Array Value}(h:Has w g t cs)(h':Has w g' t' cs')(hne:t≠t'):g≠g':=by rintro rfl;unfold Has at h h';rw[h]at h';injection h' with h';injection h' with _ e;exact hne e
theorem Kept.refl(F:Nat->Prop)(w:World):Kept F w w:=⟨rfl,rfl,rfl,Nat.le_refl _,fun _ _ _=>rfl⟩
theorem Kept.trans(h:Kept F a b)(k:Kept G b c)(hs:∀i,G i->F i\/a.heap.size<=i):Kept F a c:=
 ⟨k.os.trans h.os,k.tape.trans h.tape,k.output.trans h.output,Nat.le_trans h.size k.size,fun i hi hf=>
  (k.block i (Nat.lt_of_lt_of_le hi h.size) (fun hg=>by rcases hs i hg with x|x;exact hf x;omega)).trans (h.block i hi hf)⟩
theorem Kept.then(h:Kept F a b)(k:Kept F b c):Kept F a c:=h.trans k fun _ x=> .inl x
theorem Kept.mono(h:Kept F a b)(hs:∀i,F i->G i):Kept G a b:=⟨h.os,h.tape,h.output,h.size,fun i hi hg=>h.block i hi fun x=>hg (hs i x)⟩
theorem Kept.drew(h:Kept F a b):Kept F a b.drew:=⟨h.os,h.tape,h.output,h.size,h.block⟩
theorem Kept.drewN(h:Kept F a b)(n:Nat):Kept F a (b.drewN n):=⟨h.os,h.tape,h.output,h.size,h.block⟩
theorem Kept.alloc(h:Kept F a b)(o:Obj):Kept F a (b.alloc o):=
 h.trans (G:=aj) ⟨rfl,rfl,rfl,by simp,fun k hk _=>Below.heap_alloc _ _ _ hk⟩ fun _ x=>x.elim
theorem Kept.setCell(h:Kept F a b){p:Addr}(hp:F p.block\/a.heap.size<=p.block)(u:Value):Kept F a (b.setCell p u):=
 h.trans (G:=fun k=>k=p.block) ⟨rfl,rfl,rfl,by simp[World.setCell],fun k _ hk=>Below.heap_setCell _ _ _ _ hk⟩ fun _ x=>by rw[x];exact hp
theorem Kept.put(h:Kept F a b){g i:Nat}{u:Value}(hp:F g\/a.heap.size<=g):Kept F a (b.setCell ⟨g,i,none⟩ u):=h.setCell hp u
theorem Kept.of_below{B:Nat}(h:Below B a b)(hB:∀k,k<a.heap.size->¬F k->k<B):Kept F a b:=⟨h.os,h.tape,h.output,h.size,fun k hk hf=>h.block k (hB k hk hf)⟩
theorem Kept.below(h:Kept F a b){B:Nat}(hB:B<=a.heap.size)(hf:∀k,F k->B<=k):Below B a b:=
 ⟨h.os,h.tape,h.output,h.size,fun k hk=>h.block k (by omega) (fun x=>by have:=hf k x;omega)⟩
theorem Kept.grownBy(h:Kept F a b){row:Option Nat}(hg:b.grownBy c row)(hr:∀k,row=some k->F k\/a.heap.size<=k):Kept F a c:=
 h.trans (G:=fun k=>row=some k) ⟨hg.os,hg.tape,hg.output,hg.size,fun k hk hn=>hg.block k hk (fun e=>hn e.symm)⟩ hr
theorem Sep.grow{F':Nat->Prop}(h:Sep F G)(hg:jG w F F')(hb:∀k,G k->k<w.heap.size):Sep F' G:=fun k x y=>by
 rcases hg k x with z|z
 ·exact h k z y
 ·have:=hb k y;omega
theorem jG.refl(w:World)(F:Nat->Prop):jG w F F:=fun _ h=> .inl h
theorem jG.trans{F1 F2 F3:Nat->Prop}(h:jG a F1 F2)(k:jG b F2 F3)(hs:a.heap.size<=b.heap.size):jG a F1 F3:=fun i x=>by
 rcases k i x with y|y
 ·exact h i y
 ·exact .inr (by omega)
end
theorem ah{p:Prop}(h:p):Hid p:=Lib.hid h
section
variable{F:Nat->Prop}{a b:World}
theorem ak:Kept F a a:=Kept.refl F a
theorem au(h:Kept F a b){g i:Nat}{u:Value}(hp:F g\/a.heap.size<=g):Kept F a (b.setCell ⟨g,i,none⟩ u):=h.put hp
theorem ay(h:Kept F a b)(n:Nat):Kept F a (b.drewN n):=h.drewN n
theorem aA(h:Kept F a b):Kept F a b.drew:=h.drew
theorem aB(h:Kept F a b)(o:Obj):Kept F a (b.alloc o):=h.alloc o
end
def Src(w:World)(size:Nat)(A:Option Addr)(m:Nat)(news:List Value):Prop:=
 news.length=m*size/\(0<m->∃ad,A=some ad/\ad.block<w.heap.size/\∀j u,news[j]? =some u->w.cell? (ad.add j)=some u)
theorem block_add(a:Addr)(n:Nat):(a.add n).block=a.block:=by unfold Addr.add;split<;>rfl
theorem add_add(a:Addr)(i j:Nat):(a.add i).add j=a.add (i+j):=by unfold Addr.add;by_cases hi:i=0<;>by_cases hj:j=0<;>simp[hi,hj,Nat.add_assoc]
def rd(w:World)(b i:Nat):Value:=(w.cell? ⟨b,i,none⟩).getD undef
section
variable{P:Program}{w w':World}{size m n:Nat}{A:Option Addr}{news xs:List Value}{e:TypeId}
theorem Src.nil(w:World)(size:Nat)(A:Option Addr):Src w size A 0 []:=⟨by simp,fun h=>absurd h (by omega)⟩
theorem Src.same(h:Src w size A m news)(hs:w.heap.size<=w'.heap.size)(hk:∀ad,A=some ad->∀k,k=ad.block->k<w.heap.size->w'.heap[k]? =w.heap[k]?):Src w' size A m news:=
 ⟨h.1,fun hm=>by obtain⟨ad,e,hb,hc⟩:=h.2 hm;exact⟨ad,e,by omega,fun j u hu=>(World.cell?_of_block (w:=w) (by rw[block_add];exact hk ad e _ rfl hb)).trans (hc j u hu)⟩⟩
theorem Src.kept{F:Nat->Prop}(h:Src w size A m news)(hk:Kept F w w')(hf:∀ad,A=some ad->¬F ad.block):Src w' size A m news:=
 h.same hk.size fun ad e k hkb hl=>hk.block k hl (by rw[hkb];exact hf ad e)
theorem Src.bF{base c:Nat}(h:w.ownsRow base e size (.slice A n c) n xs):Src w size A n xs:=by refine⟨h.1,fun hn=> ?_⟩;obtain⟨g,cap,hv,_,hlt⟩:=h.form hn;injection hv with hA;subst hA;exact⟨_,rfl,hlt,h.cells (g:=g) rfl⟩
theorem Src.take(h:Src w size A m news){k:Nat}(hk:k<=m):Src w size A k (news.take (k*size)):=by
 refine⟨by rw[List.length_take,h.1];exact Nat.min_eq_left (Nat.mul_le_mul_right _ hk),fun h0=> ?_⟩;obtain⟨ad,e,hb,hc⟩:=h.2 (by omega);refine⟨ad,e,hb,fun j u hu=>hc j u ?_⟩;rw[List.getElem?_take]at hu;split at hu
 ·exact hu
 ·cases hu
theorem Src.drop(h:Src w size A m news){k cap:Nat}(hk:k<=m)(hc:m<=cap):
  Src w size (if cap=k then A else A.map (·.add (k*size))) (m-k) (news.drop (k*size)):=by
 refine⟨by rw[List.length_drop,h.1,Nat.sub_mul],fun h0=> ?_⟩;obtain⟨ad,rfl,hb,hcell⟩:=h.2 (by omega);rw[if_neg (by omega)];refine⟨ad.add (k*size),rfl,by rw[block_add];exact hb,fun j u hu=> ?_⟩;rw[add_add];exact hcell _ u (by rw[<-hu,List.getElem?_drop])
theorem Src.dA{g:Nat}{t:TypeId}{cs:Array Value}(h:Has w g t cs)(hm:cs.size=m*size):Src w size (some ⟨g,0,none⟩) m cs.toList:=by
 refine⟨by simpa using hm,fun _=>⟨_,rfl,h.lt,fun j u hu=> ?_⟩⟩;have e1:((⟨g,0,none⟩:Addr).add j)=⟨g,j,none⟩:=by unfold Addr.add;split<;>simp_all
 rw[e1,h.cell];simpa using hu
theorem Has.grown{a b:World}{g:Nat}{t:TypeId}{cs:Array Value}{row:Option Nat}(h:Has a g t cs)(hg:a.grownBy b row)(hne:row≠some g):Has b g t cs:=(hg.block g h.lt fun e=>hne e.symm).trans h
theorem Kept.grown{F:Nat->Prop}{a b c:World}(h:Kept F a b){row:Option Nat}(hg:b.grownBy c row)(hr:∀k,row=some k->F k\/a.heap.size<=k):Kept F a c:=h.grownBy hg hr
theorem aC{F:Nat->Prop}{base:Nat}{v:Value}(h:w.ownsRow base e size v n xs)(hk:Kept F w w')(hf:∀g,v.ownBlock=some g->¬F g):w'.ownsRow base e size v n xs:=by
 refine⟨h.1,?_⟩;rcases h.2 with h2|⟨g,cap,cur,rfl,hg,hh,r⟩
 ·exact .inl h2
 ·have hlt:g<w.heap.size:=by
   rcases Nat.lt_or_ge g w.heap.size with hl|hl
   ·exact hl
   ·rw[Array.getElem?_eq_none hl]at hh;cases hh
  exact .inr ⟨g,cap,cur,rfl,hg,(hk.block g hlt (hf g rfl)).trans hh,r⟩
theorem uj{g:Nat}{cs:Array Value}(h:Has w g e cs)(hc:cs.size=0):w.ownsRow 0 e size (.slice (some ⟨g,0,none⟩) 0 0) 0 []:=
 ⟨by simp,.inr ⟨g,0,cs,rfl,Nat.zero_le _,h,Nat.le_refl _,by decide,by simpa using hc,by simp⟩⟩
theorem mD{base:Nat}{v:Value}(h:w.ownsRow base e size v n xs){g:Nat}(hg:v.ownBlock=some g):g<w.heap.size:=by
 rcases h.2 with⟨rfl,_⟩|⟨g',cap,cur,rfl,_,hh,_⟩
 ·simp[Value.ownBlock]at hg
 ·obtain rfl:g'=g:=by simpa [Value.ownBlock]using hg
  rcases Nat.lt_or_ge g' w.heap.size with hl|hl
  ·exact hl
  ·rw[Array.getElem?_eq_none hl]at hh;cases hh
theorem Ci{base:Nat}{v:Value}(h:w.ownsRow base e size v n xs):∃A c,v=.slice A n c/\n<=c:=by
 rcases h.2 with⟨rfl,rfl⟩|⟨g,cap,cur,rfl,_,_,hn,_⟩
 ·exact⟨none,0,rfl,Nat.le_refl _⟩
 ·exact⟨_,cap,rfl,hn⟩
theorem gJ{base c:Nat}(h:w.ownsRow base e size (.slice A n c) n xs):n<=c/\c<=maxLen:=by
 rcases h.2 with⟨h1,h2⟩|⟨g,cap,cur,h1,_,_,hn,hm,_⟩
 ·injection h1 with _ _ h3;omega
 ·injection h1 with _ _ h3;subst h3;exact⟨hn,hm⟩
theorem own_ne{base:Nat}{v:Value}{g:Nat}{t:TypeId}{cs:Array Value}(h:w.ownsRow base e size v n xs)(hg:Has w g t cs)(hne:e≠t):v.ownBlock≠some g:=by
 rcases h.2 with⟨rfl,_⟩|⟨g',cap,cur,rfl,_,hh,_⟩
 ·simp[Value.ownBlock]
 ·intro he;obtain rfl:g'=g:=by simpa [Value.ownBlock]using he
  exact Has.ne (t:=e) hh hg hne rfl
theorem vV{b n c k m:Nat}(hk:(Value.slice (some ⟨b,0,none⟩) n c).ownBlock=some k)(h:m<=b):m<=k:=by simp only[Value.ownBlock,Option.some.injEq]at hk;omega
structure Elem(P:Program)(t e:TypeId)(size bytes:Nat):Prop where
 under:P.underlying t=some (.slice e)
 info:∃(i:TypeInfo) (z:Value),P.info? e=some i/\i.zero=some z/\i.size=size/\i.bytes=bytes/\z.cells.size=size
 pos:0<size
theorem run_append_nil{t ty:TypeId}{bytes base:Nat}(E:Elem P t e size bytes){v:Value}(h:w.ownsRow base e size v n xs)(c:Nat):
  (Builtin.append_ #[t,t] ty #[v,.slice none 0 c]).run P w=.ok v w:=by
 obtain⟨i,z,hi,hz,_⟩:=E.info;rcases h.2 with⟨rfl,rfl⟩|⟨g,cap,cur,rfl,_,_,hnc,_⟩
 ·simp[Builtin.append_,run_underlying E.under,sizeOf,typeInfo,hi,Builtin.lenOf,Builtin.firstCells]
 ·simp[Builtin.append_,run_underlying E.under,sizeOf,typeInfo,hi,Builtin.lenOf,Builtin.firstCells,hnc,storeCells]
theorem vW{t ty:TypeId}{bytes:Nat}(E:Elem P t e size bytes){v:Value}(hown:w.ownsRow 0 e size v n xs){c:Nat}(hr:Src w size A m news)(h1:∀u∈news,u.oneCell'=true)
  (h63:n+m<=maxLen) (hbytes:(n+m)*bytes<=140737488355328):
  ∃v' w',(Builtin.append_ #[t,t] ty #[v,.slice A m c]).run P w=.ok v' w'/\w'.ownsRow 0 e size v' (n+m) (xs++news)/\w.grownBy w' v.ownBlock/\(v'.ownBlock=v.ownBlock\/v'.ownBlock=some w.heap.size):=by
 obtain⟨i,z,hi,hz,hs,hby,hzs⟩:=E.info;cases A with
 |none=>
  obtain rfl:m=0:=by
   rcases Nat.eq_zero_or_pos m with h0|h0
   ·exact h0
   ·obtain⟨ad,h,_⟩:=hr.2 h0;cases h
  obtain rfl:news=[]:=lE0 (by simpa using hr.1);exact⟨v,w,run_append_nil E hown c,by simpa using hown,World.grownBy.refl w _,.inl rfl⟩
 |some ad=>
  have hcells:∀j u,news[j]? =some u->w.cell? (ad.add j)=some u:=by
   intro j u hu;rcases Nat.eq_zero_or_pos m with h0|h0
   ·have hn:news.length=0:=by rw[hr.1,h0];simp
    rw[lE0 hn]at hu;simp at hu
   ·obtain⟨ad',h,_,hc⟩:=hr.2 h0;injection h with h;subst h;exact hc j u hu
  obtain⟨v',w',hrun,h2,h3,_,h5⟩:=run_append_own_at (P:=P) w 0 t ty e i z size bytes E.under hi hz hs hby hzs E.pos v n xs hown ad m c news hr.1 hcells h1 h63 hbytes (Nat.zero_le _);exact⟨v',w',hrun,h2,h3,h5⟩
theorem DJ{o:Oper}{a:Act}{K:Act->World->Prop}{Q:Exit->Act->World->Prop}{t:TypeId}{bytes:Nat}(E:Elem P t e size bytes)(s x:Operand)
  (ho:o.op=.call {callee:=.builtin .append,args:=#[s,x],argTypes:=#[t,t]}) (v:Value) (hs:a.eval s=v) (hown:w.ownsRow 0 e size v n xs)
  (c:Nat) (hx:a.eval x=.slice A m c) (hr:Src w size A m news) (h1:∀u∈news,u.oneCell'=true) (h63:n+m<=maxLen) (hbytes:(n+m)*bytes<=140737488355328)
  (h:∀A' c' w',w'.ownsRow 0 e size (.slice A' (n+m) c') (n+m) (xs++news)->w.grownBy w' v.ownBlock->((Value.slice A' (n+m) c').ownBlock=v.ownBlock\/(Value.slice A' (n+m) c').ownBlock=some w.heap.size)->K (a.put o.dst (.slice A' (n+m) c')) w'):o.wp P a w K Q:=by
 obtain⟨v',w',hrun,h2,h3,h4⟩:=vW (P:=P) (ty:=o.type) E hown (c:=c) hr h1 h63 hbytes;unfold Oper.wp execOp;simp only[ho,resolve,invoke,builtin,Sem.run_bind,Sem.run_pure,Result.andThen_ok,List.map_toArray,List.map_cons,List.map_nil,hs,hx,hrun];obtain⟨A',c',rfl,_⟩:=Ci h2;exact h A' c' w' h2 h3 h4
theorem aN{ops:Array Oper}{rest:List Oper}{o:Oper}{a:Act}{Q:Exit->Act->World->Prop}{t:TypeId}{bytes:Nat}(E:Elem P t e size bytes)(s x:Operand)
  (hgd:o.guard=none) (ho:o.op=.call {callee:=.builtin .append,args:=#[s,x],argTypes:=#[t,t]}) (v:Value) (hs:a.eval s=v) (hown:w.ownsRow 0 e size v n xs)
  (c:Nat) (hx:a.eval x=.slice A m c) (hr:Src w size A m news) (h1:∀u∈news,u.oneCell'=true) (h63:n+m<=maxLen) (hbytes:(n+m)*bytes<=140737488355328)
  (h:∀A' c' w',w'.ownsRow 0 e size (.slice A' (n+m) c') (n+m) (xs++news)->w.grownBy w' v.ownBlock->((Value.slice A' (n+m) c').ownBlock=v.ownBlock\/(Value.slice A' (n+m) c').ownBlock=some w.heap.size)->wpList P ops Q rest (a.put o.dst (.slice A' (n+m) c')) w'):wpList P ops Q (o::rest) a w:=
 wpList_plain hgd fun _ hK=>DJ E s x ho v hs hown c hx hr h1 h63 hbytes fun A' c' w' h2 h3 h4=>hK _ _ (h A' c' w' h2 h3 h4)
theorem kU{ops:Array Oper}{o:Oper}{a:Act}{K:Act->World->Prop}{Q:Exit->Act->World->Prop}{X:Prop}{t:TypeId}{bytes:Nat}(E:Elem P t e size bytes)(s x:Operand)
  (hgd:o.guard=none) (ho:o.op=.call {callee:=.builtin .append,args:=#[s,x],argTypes:=#[t,t]}) (v:Value) (hs:a.eval s=v) (hown:w.ownsRow 0 e size v n xs)
  (c:Nat) (hx:a.eval x=.slice A m c) (hr:Src w size A m news) (h1:∀u∈news,u.oneCell'=true) (h63:n+m<=maxLen) (hbytes:(n+m)*bytes<=140737488355328)
  (h:∀A' c' w',w'.ownsRow 0 e size (.slice A' (n+m) c') (n+m) (xs++news)->w.grownBy w' v.ownBlock->((Value.slice A' (n+m) c').ownBlock=v.ownBlock\/(Value.slice A' (n+m) c').ownBlock=some w.heap.size)->K (a.put o.dst (.slice A' (n+m) c')) w'):
  if Region.wanted o (yielded ops a.tmps)=true then Oper.wp P o a w K Q else X:=by
 rw[if_pos (by simp[Region.wanted,hgd])];exact DJ E s x ho v hs hown c hx hr h1 h63 hbytes h
end
end Go.Proofs.YtomccaocggplgaaGreat
namespace Go.Proofs.YtomccaocggplgaaGreat
namespace Vn
def be:Nat->Nat->List Nat
 |0,_=>[]
 |k+1,n=>be k (n/256)++[n%256]
def needs(n:Nat):Nat:=if h:n<256 then 1 else 1+needs (n/256)
termination_by n
decreasing_by omega
def oK(l:List Nat):List UInt8:=l.map fun x=>UInt8.ofNat x
def put(n:Nat):List UInt8:=if n<248 then oK [n]else oK ((247+needs n)::be (needs n) n)
def val(l:List Nat):Nat:=l.foldl (fun a b=>a*256+b) 0
theorem mF(k n:Nat):(be k n).length=k:=by
 induction k generalizing n with
 |zero=>rfl
 |succ k ih=>simp[be,ih]
theorem zK(n:Nat):1<=needs n:=by rw[needs];split<;>omega
theorem AB{n:Nat}(h:n<256):needs n=1:=by rw[needs,dif_pos h]
theorem Eb{n:Nat}(h:¬n<256):needs n=1+needs (n/256):=by rw[needs,dif_neg h]
theorem aaI(k n:Nat)(h:n<256^k)(hk:1<=k):needs n<=k:=by
 induction k generalizing n with
 |zero=>omega
 |succ k ih=>
  by_cases hn:n<256
  ·rw[AB hn];omega
  ·rw[Eb hn];have h1:n/256<256^k:=by rw[Nat.div_lt_iff_lt_mul (by decide)];rw[Nat.pow_succ]at h;exact h
   have hk1:1<=k:=by
    rcases Nat.eq_zero_or_pos k with rfl|h0
    ·simp at h;omega
    ·exact h0
   have:=ih (n/256) h1 hk1;omega
theorem wY{n:Nat}(h:n<18446744073709551616):needs n<=8:=aaI 8 n (by simpa using h) (by decide)
theorem aaJ(n:Nat):n<256^needs n:=by
 induction n using Nat.strongRecOn with
 |ind n ih=>
  by_cases hn:n<256
  ·rw[AB hn];simpa using hn
  ·rw[Eb hn,Nat.add_comm,Nat.pow_succ,<-Nat.div_lt_iff_lt_mul (by decide)];exact ih (n/256) (by omega)
theorem ae1(k n i:Nat)(h:i<k):(be k n)[i]? =some (n/256^(k-1-i)%256):=by
 induction k generalizing n with
 |zero=>omega
 |succ k ih=>
  by_cases hi:i<k
  ·rw[be,List.getElem?_append_left (by rw[mF];exact hi),ih _ hi,Nat.div_div_eq_div_mul];have e:k+1-1-i=(k-1-i)+1:=by omega
   rw[e,Nat.pow_succ,Nat.mul_comm]
  ·obtain rfl:i=k:=by omega
   rw[be,List.getElem?_append_right (by rw[mF];omega)];simp[mF]
theorem Oc(k n i:Nat)(h:i<k):(be k n).take (i+1)=(be k n).take i++[n/256^(k-1-i)%256]:=by rw[List.take_add_one,ae1 k n i h];rfl
theorem agZ(k n:Nat):∀x∈be k n,x<256:=by
 induction k generalizing n with
 |zero=>simp[be]
 |succ k ih=>
  intro x hx;simp[be]at hx;rcases hx with h|rfl
  ·exact ih _ _ h
  ·omega
theorem Cj(l:List Nat)(x:Nat):val (l++[x])=val l*256+x:=by simp[val]
theorem ae2(k n:Nat):val (be k n)=n%256^k:=by
 induction k generalizing n with
 |zero=>simp[be,val,Nat.mod_one]
 |succ k ih=>
  rw[be,Cj,ih,Nat.pow_succ,Nat.mul_comm (256^k) 256,Nat.mod_mul];omega
theorem Xa(n:Nat):val (be (needs n) n)=n:=by rw[ae2];exact Nat.mod_eq_of_lt (aaJ n)
theorem Xb(l:List Nat)(h:∀x∈l,x<256):val l<256^l.length:=by
 suffices∀(m:List Nat),(∀x∈m,x<256)->val m.reverse<256^m.length by have:=this l.reverse (by simpa using h);simpa using this
 intro m hm;induction m with
 |nil=>simp[val]
 |cons a m ih=>
  have h1:=ih (fun x hx=>hm x (by simp[hx]));have h2:=hm a (by simp);rw[List.reverse_cons,Cj,List.length_cons,Nat.pow_succ];omega
theorem ae3(l:List Nat)(h:∀x∈l,x<256):be l.length (val l)=l:=by
 suffices∀(m:List Nat),(∀x∈m,x<256)->be m.length (val m.reverse)=m.reverse by have:=this l.reverse (by simpa using h);simpa using this
 intro m hm;induction m with
 |nil=>simp[be]
 |cons a m ih=>
  have h1:=ih (fun x hx=>hm x (by simp[hx]));have h2:=hm a (by simp);rw[List.reverse_cons,Cj,List.length_cons,be];have e1:(val m.reverse*256+a)/256=val m.reverse:=by omega
  have e2:(val m.reverse*256+a)%256=a:=by omega
  rw[e1,e2,h1]
theorem qX{n:Nat}(h:n<248):put n=[UInt8.ofNat n]:=by simp[put,h,oK]
theorem yM{n:Nat}(h:¬n<248):put n=oK ((247+needs n)::be (needs n) n):=by simp[put,h]
theorem IP(n:Nat):(put n).length=if n<248 then 1 else 1+needs n:=by unfold put;split<;>simp[oK,mF,Nat.add_comm]
theorem nD{n:Nat}(h:n<18446744073709551616):(put n).length<=9:=by have:=wY h;rw[IP];split<;>omega
theorem put_pos(n:Nat):1<=(put n).length:=by rw[IP];split<;>omega
def get(s:List UInt8)(i:Nat):Except Nat (Nat×Nat):=
 match s[i]? with
 |none=> .error 2
 |some b=>
  if b.toNat<248 then .ok (b.toNat,i+1)
  else
   let k:=b.toNat-247
   let r:=(s.drop (i+1)).take k
   if r.length<k then .error 2
   else
    let n:=val (r.map UInt8.toNat)
    if n<248\/needs n≠k then .error 4 else .ok (n,i+1+k)
theorem get_put(pre post:List UInt8)(n:Nat)(h:n<18446744073709551616):get (pre++put n++post) pre.length=.ok (n,pre.length+(put n).length):=by
 have h8:=wY h;by_cases hs:n<248
 ·have e:(pre++put n++post)[pre.length]? =some (UInt8.ofNat n):=by rw[qX hs,List.append_assoc,List.getElem?_append_right (Nat.le_refl _)];simp
  have e2:(UInt8.ofNat n).toNat=n:=by rw[UInt8.toNat_ofNat'];omega
  unfold get;rw[e];simp only[e2];rw[if_pos hs,qX hs];rfl
 ·have hk:=zK n;have e:(pre++put n++post)[pre.length]? =some (UInt8.ofNat (247+needs n)):=by rw[yM hs,List.append_assoc,List.getElem?_append_right (Nat.le_refl _)];simp[oK]
  have e2:(UInt8.ofNat (247+needs n)).toNat=247+needs n:=by rw[UInt8.toNat_ofNat'];omega
  have e3:((pre++put n++post).drop (pre.length+1)).take (needs n)=oK (be (needs n) n):=by rw[yM hs,List.append_assoc,List.drop_append,List.drop_eq_nil_of_le (by omega)];simp only[oK,List.map_cons,List.cons_append,List.nil_append,Nat.add_sub_cancel_left,List.drop_succ_cons,List.drop_zero];rw[List.take_append_of_le_length (by simp[mF]),List.take_of_length_le (by simp[mF])]
  have e4:(oK (be (needs n) n)).map UInt8.toNat=be (needs n) n:=by
   unfold oK;rw[List.map_map];conv=>rhs;rw[<-List.map_id (be (needs n) n)]
   apply List.map_congr_left;intro x hx;have:=agZ _ _ x hx;simp only[Function.comp,id];rw[UInt8.toNat_ofNat'];omega
  unfold get;rw[e];simp only[e2];rw[if_neg (by omega),Nat.add_sub_cancel_left,e3,e4,Xa,if_neg (by simp[oK,mF]),if_neg (by simp;omega),yM hs];simp[oK,mF];omega
theorem IQ(l:List UInt8):(l.map UInt8.toNat).map UInt8.ofNat=l:=by
 rw[List.map_map];conv=>rhs;rw[<-List.map_id l]
 apply List.map_congr_left;intro x _;simp
theorem yQ(l:List UInt8):∀x∈l.map UInt8.toNat,x<256:=by intro x hx;rw[List.mem_map]at hx;obtain⟨y,_,rfl⟩:=hx;have:=UInt8.toNat_lt y;omega
theorem yN{s:List UInt8}{i n j:Nat}(h:get s i=.ok (n,j)):i<j/\j<=s.length/\n<18446744073709551616/\(s.drop i).take (j-i)=put n:=by
 unfold get at h;split at h
 ·cases h
 ·rename_i b hb;have hi:i<s.length:=(lD0.1 hb).1;have hbe:s[i]=b:=(lD0.1 hb).2;have hdrop:s.drop i=b::s.drop (i+1):=by rw[List.drop_eq_getElem_cons hi,hbe]
  have hb256:=b.toNat_lt;split at h
  ·rename_i hs;injection h with h;injection h with h1 h2;subst h1;subst h2;refine⟨by omega,by omega,by omega,?_⟩;rw[Nat.add_sub_cancel_left,hdrop,qX hs];simp
  ·rename_i hs;dsimp only at h;split at h
   ·cases h
   ·rename_i hk;split at h
    ·cases h
    ·rename_i hn;injection h with h;injection h with h1 h2;have hlen:((s.drop (i+1)).take (b.toNat-247)).length=b.toNat-247:=by have:=List.length_take_le (b.toNat-247) (s.drop (i+1));omega
     have hle:i+1+(b.toNat-247)<=s.length:=by rw[List.length_take,List.length_drop]at hlen;omega
     have hv:=Xb (((s.drop (i+1)).take (b.toNat-247)).map UInt8.toNat) (yQ _);have hbe:=ae3 (((s.drop (i+1)).take (b.toNat-247)).map UInt8.toNat) (yQ _);rw[List.length_map,hlen]at hv hbe;simp only[h1]at hn hv hbe;have hn2:¬n<248:=fun x=>hn (.inl x);have hn3:needs n=b.toNat-247:=Classical.byContradiction fun x=>hn (.inr x);refine⟨by omega,by omega,?_,?_⟩
     ·have:(256:Nat)^(b.toNat-247)<=256^8:=Nat.pow_le_pow_right (by decide) (by omega);have e8:(256:Nat)^8=18446744073709551616:=by decide
      omega
     ·rw[yM hn2,hn3,<-h2];have e:i+1+(b.toNat-247)-i=(b.toNat-247)+1:=by omega
      have e9:247+(b.toNat-247)=b.toNat:=by omega
      rw[e,hdrop,List.take_succ_cons,oK,List.map_cons,e9,hbe,IQ];simp
end Vn
end Go.Proofs.YtomccaocggplgaaGreat
namespace Go.Proofs.YtomccaocggplgaaGreat
namespace Ops
open Vn
abbrev bl(s:ByteArray):List UInt8:=s.data.toList
def bI(l:List UInt8):ByteArray:=⟨l.toArray⟩
structure uN where
 key:ByteArray
 val:ByteArray
 del:Bool
deriving DecidableEq
def cell(o:uN):List Value:=[.string o.key,.string o.val,.bool o.del]
def cells(l:List uN):List Value:=l.flatMap cell
structure Batch where
 cl:Int
 req:Int
 ops:List uN
def emp:ByteArray:=⟨#[]⟩
theorem bP(s:ByteArray):(bl s).length=s.size:=Array.length_toList
theorem yR(s:ByteArray):bI (bl s)=s:=by simp[bI,bl]
theorem jq(l:List UInt8):bl (bI l)=l:=by simp[bI,bl]
theorem ae4{s t:ByteArray}(h:bl s=bl t):s=t:=by rw[<-yR s,<-yR t,h]
def one(o:uN)(ahead:ByteArray)(first:Bool):Int:=
 if o.key.size<1\/8<o.key.size then 10 else if 8<o.val.size then 3 else if o.del=true/\o.val.size≠0 then 4
 else if first=false/\Op.bytesLess ahead.toList o.key.toList=false then 18 else 0
def xW:List uN->ByteArray->Bool->Int
 |[],_,_=>0
 |o::l,a,f=>if one o a f≠0 then one o a f else xW l o.key false
def chk(b:Batch):Int:=
 if b.cl<0\/3<=b.cl then 1 else if b.req<1\/1073741824<b.req then 5 else if 4<b.ops.length then 6 else xW b.ops emp true
def dR(s:ByteArray):List UInt8:=put s.size++bl s
def AO(b:Bool):List UInt8:=[if b then 1 else 0]
def vX(o:uN):List UInt8:=dR o.key++AO o.del++dR o.val
def Ec(b:Batch):List UInt8:=put b.cl.toNat++put b.req.toNat++put b.ops.length++b.ops.flatMap vX
theorem qY{α β:Type}(f:α->List β)(l:List α)(i:Nat)(h:i<l.length):(l.take (i+1)).flatMap f=(l.take i).flatMap f++f l[i]:=by rw[List.take_add_one,lB0 h,List.flatMap_append];simp
theorem Tm{l:List uN}{a:ByteArray}{f:Bool}(h:xW l a f=0):∀o∈l,1<=o.key.size/\o.key.size<=8/\o.val.size<=8/\(o.del=true->o.val.size=0):=by
 induction l generalizing a f with
 |nil=>intro o ho;cases ho
 |cons x l ih=>
  unfold xW at h;split at h
  ·rename_i h1;exact absurd h h1
  ·rename_i h1;have h2:one x a f=0:=Classical.byContradiction h1;have hx:1<=x.key.size/\x.key.size<=8/\x.val.size<=8/\(x.del=true->x.val.size=0):=by
    unfold one at h2;split at h2
    ·cases h2
    ·rename_i g1;split at h2
     ·cases h2
     ·rename_i g2;split at h2
      ·cases h2
      ·rename_i g3;refine⟨by omega,by omega,by omega,fun hd=> ?_⟩;exact Classical.byContradiction fun hv=>g3 ⟨hd,hv⟩
   intro o ho;rcases List.mem_cons.1 ho with rfl|ho
   ·exact hx
   ·exact ih h o ho
theorem Xc{b:Batch}(h:chk b=0):0<=b.cl/\b.cl<3/\1<=b.req/\b.req<=1073741824/\b.ops.length<=4/\xW b.ops emp true=0:=by
 unfold chk at h;split at h
 ·cases h
 ·split at h
  ·cases h
  ·split at h
   ·cases h
   ·rename_i h1 h2 h3;exact⟨by omega,by omega,by omega,by omega,by omega,h⟩
theorem adY(l:List uN)(i:Nat)(h:i<l.length)(a:ByteArray)(f:Bool):xW (l.drop i) a f=if one l[i] a f≠0 then one l[i] a f else xW (l.drop (i+1)) l[i].key false:=by rw[List.drop_eq_getElem_cons h,xW]
theorem Oe{o:uN}(h1:o.key.size<=8)(h2:o.val.size<=8):(vX o).length<=19:=by
 have e1:(put o.key.size).length=1:=by rw[qX (by omega)];rfl
 have e2:(put o.val.size).length=1:=by rw[qX (by omega)];rfl
 simp only[vX,dR,AO,lA0,e1,e2,bP,List.length_cons,List.length_nil];omega
theorem Og(l:List uN)(h:∀o∈l,(vX o).length<=19):(l.flatMap vX).length<=l.length*19:=by
 induction l with
 |nil=>simp
 |cons a l ih=>
  have h1:=h a (by simp);have h2:=ih fun o ho=>h o (by simp[ho]);simp only[List.flatMap_cons,lA0,List.length_cons];omega
end Ops
end Go.Proofs.YtomccaocggplgaaGreat
namespace Go.Proofs.YtomccaocggplgaaGreat
open Go.RowKit
namespace Vn
open Ops (bI bl)
theorem Xd:Elem Tryz.prog 253 5 1 1:=
 by
 obtain⟨i0,hi,hz0,hz1,hz2⟩:=info_parts (show(Tryz.prog.info? 5).map (fun i=>(i.zero,i.size,i.bytes))=some (some (.int .u8 0),1,1) by kernel_rfl)
 exact⟨Tryz.underlying253,⟨i0,_,hi,hz0,hz1,hz2,rfl⟩,by decide⟩
def aF(e:TypeId)(size B:Nat)(w:World)(A:Option Addr)(n c:Nat)(xs:List Value):Prop:=
 w.ownsRow 0 e size (.slice A n c) n xs/\∀k,(Value.slice A n c).ownBlock=some k->B<=k
theorem aF.kept{e:TypeId}{size B n c:Nat}{w w':World}{A:Option Addr}{xs:List Value}(h:aF e size B w A n c xs)(hk:Kept aj w w'):aF e size B w' A n c xs:=
 ⟨aC h.1 hk (fun _ _ x=>x),h.2⟩
theorem aF.snoc{e:TypeId}{size B n c n' c':Nat}{w w1 w':World}{A A':Option Addr}{xs ys:List Value}(h:aF e size B w A n c xs)(hB:B<=w1.heap.size)(ho:w'.ownsRow 0 e size (.slice A' n' c') n' ys)
  (ha:(Value.slice A' n' c').ownBlock=(Value.slice A n c).ownBlock\/(Value.slice A' n' c').ownBlock=some w1.heap.size):aF e size B w' A' n' c' ys:=
 ⟨ho,fun k hk=>by
  rcases ha with e1|e1
  ·exact h.2 k (e1.symm.trans hk)
  ·rw[hk]at e1;injection e1 with e1;omega⟩
theorem aaK(W:World)(b:Nat)(n:Int)(c:Nat)(hn:0<=n)(hn':n<256)(hc:W.cell? ⟨b,0,none⟩=some (.int .u8 n)):
  (convert 253 9 (.slice (some ⟨b,0,none⟩) 1 c)).run Tryz.prog W=.ok (.string ⟨#[UInt8.ofNat n.toNat]⟩) W:=by
 refine Lib.run_convert_whole (P:=Tryz.prog) W 253 5 9 Tryz.underlying253 Tryz.underlying5 Tryz.underlying9 b 0 ⟨#[UInt8.ofNat n.toNat]⟩ ?_ c;intro i hi;have h0:i=0:=by have:i<1:=hi;omega
 subst h0;rw[Nat.add_zero,hc];show _=some (Value.int IntKind.u8 ((UInt8.ofNat n.toNat).toNat:Int));congr 2;simp;omega
theorem Oh(W:World)(b:Nat)(l:List UInt8)(c:Nat)(h:∀(i:Nat) x,l[i]? =some x->W.cell? ⟨b,i,none⟩=some (.int .u8 x.toNat)):
  (convert 253 9 (.slice (some ⟨b,0,none⟩) l.length c)).run Tryz.prog W=.ok (.string (bI l)) W:=by
 have hs:(bI l).size=l.length:=by simp[bI,ByteArray.size]
 rw[<-hs];refine Lib.run_convert_whole (P:=Tryz.prog) W 253 5 9 Tryz.underlying253 Tryz.underlying5 Tryz.underlying9 b 0 (bI l) ?_ c;intro i hi;have hi':i<l.length:=by omega
 rw[Nat.zero_add,h i l[i] (lB0 hi')];rfl
theorem IU(n:Nat)(hn:n<18446744073709551616)(w:World):Calls Tryz.prog 190 #[.int .u64 n] w fun e w'=>e=.returned (.int .i64 (needs n))/\w=w':=by
 have h8:=wY hn;go_enter Tryz.func190,Tryz.ntmps190;go_wp2;go_step3;go_wp2;go_step3;go_wp2;go_loop [0,3] (fun v0 v3=>∃m k:Nat,v0=.int .u64 m/\v3=.int .i64 k/\m<18446744073709551616/\k+needs m=needs n) (fun v0 _=>(intOf v0).toNat)
 case atStart=>exact⟨n,0,rfl,rfl,hn,by omega⟩
 case round=>
  obtain⟨m,k,rfl,rfl,hm,he⟩:=hrel;have hp:=zK m;have hk:k<8:=by omega
  by_cases h0:m<256
  ·have e1:=AB h0;have hz:m/256=0:=by omega
   have hz2:(m:Int)/256=0:=by omega
   have hkn:k+1=needs n:=by omega
   have HE:=ah he;clear he;have HK:=ah hkn;clear hkn e1 hp h8;go_wp2;go_ret;exact⟨by rw[<-HK.out];simp,rfl⟩
  ·have e1:=Eb h0;have hz:¬m/256=0:=by omega
   have hz2:¬(m:Int)/256=0:=by omega
   have HE:=ah he;clear he;have HE1:=ah e1;clear e1 hp h8;go_wp2;go_round
   case rel=>exact⟨m/256,k+1,by go_num,by go_num,by omega,by rw[<-HE.out,HE1.out];omega⟩
   case measure=>simp[intOf];omega
theorem adZ(g i:Nat):((⟨g,0,none⟩:Addr).add i)=⟨g,i,none⟩:=by unfold Addr.add;split<;>simp_all
theorem NJ(l:List UInt8)(i:Nat)(x:UInt8)(h:l[i]? =some x):(Lib.byteCells l)[i]? =some (.int .u8 x.toNat):=by simp[Lib.byteCells,h]
theorem yS(n:Nat)(hn:n<18446744073709551616)(w:World):Calls Tryz.prog 111 #[.int .u64 n] w fun e w'=>e=.returned (.string (bI (put n)))/\Kept aj w w':=by
 by_cases hs:n<248
 ·have hp:put n=[UInt8.ofNat n]:=qX hs;rw[hp];have hcv:=aaK (w.alloc (Obj.cells #[Value.int .u8 n] 5)) w.heap.size n 1 (by omega) (by omega) (by simp);have hs':(n:Int)<248:=by omega
  clear hp;go_enter Tryz.func111,Tryz.ntmps111;go_wp2;go_ret;exact⟨rfl,(Kept.refl _ _).alloc _⟩
 ·obtain⟨i0,hi,hz0,hz1,hz2⟩:=info_parts (show(Tryz.prog.info? 5).map (fun i=>(i.zero,i.size,i.bytes))=some (some (.int .u8 0),1,1) by kernel_rfl);have Le:=wY hn;have hn1:=zK n;have hnd:=IU n hn;have hp:=yM hs;obtain⟨k,hk⟩:∃k,needs n=k:=⟨_,rfl⟩;rw[hk]at Le hn1 hnd hp;have HP:=ah hp;clear hp hk;have HN:=ah hnd;clear hnd;have hs':¬(n:Int)<248:=by omega
  go_enter Tryz.func111,Tryz.ntmps111;go_wp2_with fail;refine(HN.out _).mono ?_;rintro e w2 ⟨rfl,rfl⟩;go_wp2_with (refine wpList_make_own _ rfl _ _ 253 rfl 0 5 i0 (.int .u8 0) 1 Tryz.underlying253 hi hz0 hz1 .i64 .i64 9 9 rfl rfl rfl (by rw[hz2];decide) (by decide) (Nat.zero_le _) ?_);intro w3 hown hg;have hk3:Kept aj w w3:=(Kept.refl _ _).grown hg (fun k hk=>by cases hk);have hz3:w.heap.size<=w3.heap.size:=hk3.size;have hrow:aF 5 1 w.heap.size w3 (some ⟨w.heap.size,0,none⟩) 0 9 []:=⟨hown,fun k hk=>vV hk (Nat.le_refl _)⟩;have bZ:=ah hrow;clear hrow hown hg;have bu:=ah hk3;clear hk3;go_wp2_with (at_builtin;refine aN Xd (.tmp 15) (.tmp 19) rfl rfl (Value.slice _ 0 9) rfl ((bZ.out.kept ((Kept.refl _ _).alloc _)).1) 1 rfl (Src.dA (m:=1) (cs:=#[.int .u8 (247+k)]) (Has.bK _ 5 _ (by simp)) rfl) (by intro u hu;simp at hu;subst hu;rfl) (by decide) (by decide) ?_;intro A c w4 ho4 hg4 ha4);have hz4:=bu.out.size;have hn3:aF 5 1 w.heap.size w4 A 1 c [.int .u8 (247+k)]:=bZ.out.snoc (by simp;omega) ho4 ha4;have hk4:Kept aj w w4:=(bu.out.alloc _).grown hg4 (fun k hk=> .inr (bZ.out.2 k hk));clear ho4 hg4 ha4;have mG:=ah hn3;clear hn3;have eY:=ah hk4;clear hk4;go_loopw [4,22] (fun v4 v22 wr=>∃(i:Nat) (A:Option Addr) (c:Nat),i<=k/\v22=.int .i64 i/\v4=.slice A (1+i) c/\aF 5 1 w.heap.size wr A (1+i) c (Lib.byteCells (oK ((247+k)::(be k n).take i)))/\Kept aj w wr) (fun _ v22 _=>k-(intOf v22).toNat)
  case atStart=>
   refine⟨0,A,c,Nat.zero_le _,rfl,rfl,?_,eY.out⟩;have e:Lib.byteCells (oK ((247+k)::(be k n).take 0))=[.int .u8 (247+k)]:=by simp[Lib.byteCells,oK];omega
   rw[e];exact mG.out
  case round=>
   obtain⟨i,A,c,hi,rfl,rfl,hrow,hk⟩:=hrel;have bZ:=ah hrow;clear hrow;have uk:=ah hk;clear hk;by_cases hik:i<k
   ·have e1:((8:Int)*(↑k-1-↑i))=((8*(k-1-i):Nat):Int):=by omega
    have e2:8*(k-1-i)<64:=by omega
    have e3:(Value.int .u8 ((n:Int)/2^(8*(k-1-i))%256))=.int .u8 ((UInt8.ofNat (n/256^(k-1-i)%256)).toNat:Nat):=by
     have h2:((2:Int)^(8*(k-1-i)))=((256^(k-1-i):Nat):Int):=by
      have:(256:Nat)^(k-1-i)=2^(8*(k-1-i)):=by rw[Nat.pow_mul]
      rw[this,Int.natCast_pow];rfl
     have h3:(UInt8.ofNat (n/256^(k-1-i)%256)).toNat=n/256^(k-1-i)%256:=by rw[UInt8.toNat_ofNat'];omega
     rw[h2,h3];norm_cast
    have e4:Lib.byteCells (oK ((247+k)::(be k n).take (i+1)))=Lib.byteCells (oK ((247+k)::(be k n).take i))++[.int .u8 ((n:Int)/2^(8*(k-1-i))%256)]:=by rw[Oc k n i hik,e3];simp[Lib.byteCells,oK]
    have HE4:=ah e4;clear e4 e3;have hS:1+i+1<=maxLen:=by unfold maxLen;omega
    have hS2:(1+i+1)*1<=140737488355328:=by omega
    have HS:=ah hS;clear hS;have HS2:=ah hS2;clear hS2;have Xe:=uk.out.size;have HZR:=ah Xe;clear Xe;go_wp2_with (at_builtin;refine aN Xd (.tmp 25) (.tmp 34) rfl rfl (Value.slice A (1+i) c) rfl ((bZ.out.kept ((Kept.refl _ _).alloc _)).1) 1 rfl (Src.dA (m:=1) (cs:=#[.int .u8 ((n:Int)/2^(8*(k-1-i))%256)]) (Has.bK _ 5 _ (by simp)) rfl) (by intro u hu;simp at hu;subst hu;rfl) HS.out HS2.out ?_;intro A5 c5 w5 uO hg5 ha5);have kG:aF 5 1 w.heap.size w5 A5 (1+i+1) c5 (Lib.byteCells (oK ((247+k)::(be k n).take (i+1)))):=by rw[HE4.out];exact bZ.out.snoc (by simp;have:=HZR.out;omega) uO ha5
    have hk5:Kept aj w w5:=(uk.out.alloc _).grown hg5 (fun k hk=> .inr (bZ.out.2 k hk));clear uO hg5 ha5;have uP:=ah kG;clear kG;have dB:=ah hk5;clear hk5;go_wp2;go_roundw
    case rel=>exact⟨i+1,A5,c5,by omega,by go_num,rfl,uP.out,dB.out⟩
    case measure=>simp[intOf];omega
   ·obtain rfl:i=k:=by omega
    have hform:=bZ.out.1.form (by omega);obtain⟨b,cap,hv,_,hlt⟩:=hform;injection hv with hA _ hC;subst hA;subst hC;have hlen:(oK ((247+i)::(be i n).take i)).length=1+i:=by simp[oK,mF];omega
    have hcv:=Oh wr b (oK ((247+i)::(be i n).take i)) c (fun j x hx=>by have:=bZ.out.1.cells (g:=b) rfl j _ (NJ _ _ _ hx);rwa[adZ]at this)
    rw[hlen,List.take_of_length_le (by rw[mF];exact Nat.le_refl _),<-HP.out]at hcv;go_wp2;go_ret;exact⟨rfl,uk.out⟩
