/- Part 1. -/
import Derived.Deep.Draws
import Derived.LaidEqlPtr
import Derived.Deep.AppendLies
import Derived.OwnWalk
import Derived.Lib.Hide
set_option linter.unusedSimpArgs false
set_option linter.unusedVariables false
set_option maxHeartbeats 32000000
set_option maxRecDepth 100000
namespace Go.Proofs.YtgbigpdiacjbgaaGreat
open Go.RowKit
theorem lA0{α:Type _}{a b:List α}:(a++b).length=a.length+b.length:=List.length_append
theorem lB0{α:Type _}{l:List α}{i:Nat}(h:i<l.length):l[i]? =some l[i]:=List.getElem?_eq_getElem h
theorem lC0{α:Type _}{l:List α}{i:Nat}{a:α}(h:l[i]? =some a):a∈l:=List.mem_of_getElem? h
theorem lD0{α:Type _}{i:Nat}{a:α}{l:List α}:l[i]? =some a↔∃h,l[i]=a:=List.getElem?_eq_some_iff
theorem lE0{α:Type _}{l:List α}(h:l.length=0):l=[]:=List.eq_nil_of_length_eq_zero h
theorem lF0{α:Type _}{a:List α}{i:Nat}:a.toArray[i]? =a[i]?:=List.getElem?_toArray
def Has(w:World)(g:Nat)(t:TypeId)(cs:Array Value):Prop:=w.heap[g]? =some (.cells cs t (0,0))
structure Kept(F:Nat->Prop)(a b:World):Prop where
 os:b.os=a.os
 tape:b.tape=a.tape
 output:b.output=a.output
 size:a.heap.size<=b.heap.size
 block:∀k,k<a.heap.size->¬F k->b.heap[k]? =a.heap[k]?
def Sep(F G:Nat->Prop):Prop:=∀k,F k->¬G k
def aj:Nat->Prop:=fun _=>False
def wE(w:World)(F F':Nat->Prop):Prop:=∀k,F' k->F k\/w.heap.size<=k
section
variable{F G:Nat->Prop}{a b c w w':World}{g:Nat}{t:TypeId}{cs:Array Value}
theorem Has.lt(h:Has w g t cs):g<w.heap.size:=by
 rcases Nat.lt_or_ge g w.heap.size with hl|hl
 ·exact hl
 ·unfold Has at h;rw[Array.getElem?_eq_none hl]at h;cases h
theorem Has.cell(h:Has w g t cs)(i:Nat):w.cell? ⟨g,i,none⟩=cs[i]? :=cell_of_row w g i cs t (0,0) h
theorem Has.frozen(h:Has w g t cs)(i:Nat):w.frozen? ⟨g,i,none⟩=false:=by unfold Has at h;simp[World.frozen?,h]
theorem Has.new(w:World)(t:TypeId)(cs:Array Value):Has (w.alloc (.cells cs t)) w.heap.size t cs:=heap_alloc_new w _
theorem Has.dQ(w:World)(t:TypeId)(cs:Array Value){g:Nat}(hg:g=w.heap.size):Has (w.alloc (.cells cs t)) g t cs:=by subst hg;exact Has.new w t cs
theorem size_alloc(w:World)(o:Obj):(w.alloc o).heap.size=w.heap.size+1:=by simp
theorem Has.drew(h:Has w g t cs):Has w.drew g t cs:=h
theorem Has.drewN(h:Has w g t cs)(n:Nat):Has (w.drewN n) g t cs:=h
theorem Has.alloc(h:Has w g t cs)(o:Obj):Has (w.alloc o) g t cs:=(Below.heap_alloc w o g h.lt).trans h
theorem Has.put(h:Has w g t cs)(i:Nat)(u:Value):Has (w.setCell ⟨g,i,none⟩ u) g t (cs.setIfInBounds i u):=by unfold Has at h⊢;simp[World.setCell,Array.getElem?_modify,h]
theorem Has.far(h:Has w g t cs){p:Addr}(hp:g≠p.block)(u:Value):Has (w.setCell p u) g t cs:=(Below.heap_setCell w p u g hp).trans h
theorem Has.past(h:Has w g t cs){b i:Nat}{u:Value}(hp:g≠b):Has (w.setCell ⟨b,i,none⟩ u) g t cs:=h.far (p:=⟨b,i,none⟩) hp u
theorem Has.aQ{cs':Array Value}{i:Nat}{u:Value}(h:Has w g t cs)(e:cs.setIfInBounds i u=cs'):Has (w.setCell ⟨g,i,none⟩ u) g t cs':=e▸h.put i u
theorem Has.kept(h:Has a g t cs)(hk:Kept F a b)(hg:¬F g):Has b g t cs:=(hk.block g h.lt hg).trans h
theorem Has.ne{g':Nat}{t':TypeId}{cs':Array Value}(h:Has w g t cs)(h':Has w g' t' cs')(hne:t≠t'):g≠g':=by rintro rfl;unfold Has at h h';rw[h]at h';injection h' with h';injection h' with _ e;exact hne e
theorem Kept.refl(F:Nat->Prop)(w:World):Kept F w w:=⟨rfl,rfl,rfl,Nat.le_refl _,fun _ _ _=>rfl⟩
theorem Kept.trans(h:Kept F a b)(k:Kept G b c)(hs:∀i,G i->F i\/a.heap.size<=i):Kept F a c:=
 ⟨k.os.trans h.os,k.tape.trans h.tape,k.output.trans h.output,Nat.le_trans h.size k.size,fun i hi hf=>
  (k.block i (Nat.lt_of_lt_of_le hi h.size) (fun hg=>by rcases hs i hg with x|x;exact hf x;omega)).trans (h.block i hi hf)⟩
theorem Kept.then(h:Kept F a b)(k:Kept F b c):Kept F a c:=h.trans k fun _ x=> .inl x
theorem Kept.mono(h:Kept F a b)(hs:∀i,F i->G i):Kept G a b:=⟨h.os,h.tape,h.output,h.size,fun i hi hg=>h.block i hi fun x=>hg (hs i x)⟩
theorem Kept.drew(h:Kept F a b):Kept F a b.drew:=⟨h.os,h.tape,h.output,h.size,h.block⟩
theorem Kept.drewN(h:Kept F a b)(n:Nat):Kept F a (b.drewN n):=⟨h.os,h.tape,h.output,h.size,h.block⟩
theorem Kept.alloc(h:Kept F a b)(o:Obj):Kept F a (b.alloc o):=
 h.trans (G:=aj) ⟨rfl,rfl,rfl,by simp,fun k hk _=>Below.heap_alloc _ _ _ hk⟩ fun _ x=>x.elim
theorem Kept.setCell(h:Kept F a b){p:Addr}(hp:F p.block\/a.heap.size<=p.block)(u:Value):Kept F a (b.setCell p u):=
 h.trans (G:=fun k=>k=p.block) ⟨rfl,rfl,rfl,by simp[World.setCell],fun k _ hk=>Below.heap_setCell _ _ _ _ hk⟩ fun _ x=>by rw[x];exact hp
theorem Kept.put(h:Kept F a b){g i:Nat}{u:Value}(hp:F g\/a.heap.size<=g):Kept F a (b.setCell ⟨g,i,none⟩ u):=h.setCell hp u
theorem Kept.of_below{B:Nat}(h:Below B a b)(hB:∀k,k<a.heap.size->¬F k->k<B):Kept F a b:=⟨h.os,h.tape,h.output,h.size,fun k hk hf=>h.block k (hB k hk hf)⟩
theorem Kept.below(h:Kept F a b){B:Nat}(hB:B<=a.heap.size)(hf:∀k,F k->B<=k):Below B a b:=
 ⟨h.os,h.tape,h.output,h.size,fun k hk=>h.block k (by omega) (fun x=>by have:=hf k x;omega)⟩
theorem Kept.quiet(F:Nat->Prop)(w:World)(n:Nat):Kept F w (w.drewN n):=⟨rfl,rfl,rfl,Nat.le_refl _,fun _ _ _=>rfl⟩
theorem Kept.grownBy(h:Kept F a b){row:Option Nat}(hg:b.grownBy c row)(hr:∀k,row=some k->F k\/a.heap.size<=k):Kept F a c:=
 h.trans (G:=fun k=>row=some k) ⟨hg.os,hg.tape,hg.output,hg.size,fun k hk hn=>hg.block k hk (fun e=>hn e.symm)⟩ hr
theorem Sep.symm(h:Sep F G):Sep G F:=fun k x y=>h k y x
theorem Sep.grow{F':Nat->Prop}(h:Sep F G)(hg:wE w F F')(hb:∀k,G k->k<w.heap.size):Sep F' G:=fun k x y=>by
 rcases hg k x with z|z
 ·exact h k z y
 ·have:=hb k y;omega
theorem wE.refl(w:World)(F:Nat->Prop):wE w F F:=fun _ h=> .inl h
theorem wE.trans{F1 F2 F3:Nat->Prop}(h:wE a F1 F2)(k:wE b F2 F3)(hs:a.heap.size<=b.heap.size):wE a F1 F3:=fun i x=>by
 rcases k i x with y|y
 ·exact h i y
 ·exact .inr (by omega)
end
theorem ah{p:Prop}(h:p):Hid p:=Lib.hid h
section
variable{F:Nat->Prop}{a b:World}
theorem ay:Kept F a a:=Kept.refl F a
theorem aA(h:Kept F a b){g i:Nat}{u:Value}(hp:F g\/a.heap.size<=g):Kept F a (b.setCell ⟨g,i,none⟩ u):=h.put hp
theorem aB(h:Kept F a b)(n:Nat):Kept F a (b.drewN n):=h.drewN n
theorem aC(h:Kept F a b):Kept F a b.drew:=h.drew
theorem aF(h:Kept F a b)(o:Obj):Kept F a (b.alloc o):=h.alloc o
end
def Src(w:World)(size:Nat)(A:Option Addr)(m:Nat)(news:List Value):Prop:=
 news.length=m*size/\(0<m->∃ad,A=some ad/\ad.block<w.heap.size/\∀j u,news[j]? =some u->w.cell? (ad.add j)=some u)
theorem block_add(a:Addr)(n:Nat):(a.add n).block=a.block:=by unfold Addr.add;split<;>rfl
theorem add_add(a:Addr)(i j:Nat):(a.add i).add j=a.add (i+j):=by unfold Addr.add;by_cases hi:i=0<;>by_cases hj:j=0<;>simp[hi,hj,Nat.add_assoc]
def rd(w:World)(b i:Nat):Value:=(w.cell? ⟨b,i,none⟩).getD undef
theorem EI{w:World}{b i:Nat}{v:Value}(h:w.cell? ⟨b,i,none⟩=some v):rd w b i=v:=by unfold rd;rw[h];rfl
section
variable{P:Program}{w w':World}{size m n:Nat}{A:Option Addr}{news xs:List Value}{e:TypeId}
theorem Src.nil(w:World)(size:Nat)(A:Option Addr):Src w size A 0 []:=⟨by simp,fun h=>absurd h (by omega)⟩
theorem Src.same(h:Src w size A m news)(hs:w.heap.size<=w'.heap.size)(hk:∀ad,A=some ad->∀k,k=ad.block->k<w.heap.size->w'.heap[k]? =w.heap[k]?):Src w' size A m news:=
 ⟨h.1,fun hm=>by obtain⟨ad,e,hb,hc⟩:=h.2 hm;exact⟨ad,e,by omega,fun j u hu=>(World.cell?_of_block (w:=w) (by rw[block_add];exact hk ad e _ rfl hb)).trans (hc j u hu)⟩⟩
theorem Src.kept{F:Nat->Prop}(h:Src w size A m news)(hk:Kept F w w')(hf:∀ad,A=some ad->¬F ad.block):Src w' size A m news:=
 h.same hk.size fun ad e k hkb hl=>hk.block k hl (by rw[hkb];exact hf ad e)
theorem Src.fA{base c:Nat}(h:w.ownsRow base e size (.slice A n c) n xs):Src w size A n xs:=by refine⟨h.1,fun hn=> ?_⟩;obtain⟨g,cap,hv,_,hlt⟩:=h.form hn;injection hv with hA;subst hA;exact⟨_,rfl,hlt,h.cells (g:=g) rfl⟩
theorem Src.take(h:Src w size A m news){k:Nat}(hk:k<=m):Src w size A k (news.take (k*size)):=by
 refine⟨by rw[List.length_take,h.1];exact Nat.min_eq_left (Nat.mul_le_mul_right _ hk),fun h0=> ?_⟩;obtain⟨ad,e,hb,hc⟩:=h.2 (by omega);refine⟨ad,e,hb,fun j u hu=>hc j u ?_⟩;rw[List.getElem?_take]at hu;split at hu
 ·exact hu
 ·cases hu
theorem Src.drop(h:Src w size A m news){k cap:Nat}(hk:k<=m)(hc:m<=cap):
  Src w size (if cap=k then A else A.map (·.add (k*size))) (m-k) (news.drop (k*size)):=by
 refine⟨by rw[List.length_drop,h.1,Nat.sub_mul],fun h0=> ?_⟩;obtain⟨ad,rfl,hb,hcell⟩:=h.2 (by omega);rw[if_neg (by omega)];refine⟨ad.add (k*size),rfl,by rw[block_add];exact hb,fun j u hu=> ?_⟩;rw[add_add];exact hcell _ u (by rw[<-hu,List.getElem?_drop])
theorem Src.kW{g:Nat}{t:TypeId}{cs:Array Value}(h:Has w g t cs)(hm:cs.size=m*size):Src w size (some ⟨g,0,none⟩) m cs.toList:=by
 refine⟨by simpa using hm,fun _=>⟨_,rfl,h.lt,fun j u hu=> ?_⟩⟩;have e1:((⟨g,0,none⟩:Addr).add j)=⟨g,j,none⟩:=by unfold Addr.add;split<;>simp_all
 rw[e1,h.cell];simpa using hu
theorem Has.grown{a b:World}{g:Nat}{t:TypeId}{cs:Array Value}{row:Option Nat}(h:Has a g t cs)(hg:a.grownBy b row)(hne:row≠some g):Has b g t cs:=(hg.block g h.lt fun e=>hne e.symm).trans h
theorem Kept.grown{F:Nat->Prop}{a b c:World}(h:Kept F a b){row:Option Nat}(hg:b.grownBy c row)(hr:∀k,row=some k->F k\/a.heap.size<=k):Kept F a c:=h.grownBy hg hr
theorem aP{F:Nat->Prop}{base:Nat}{v:Value}(h:w.ownsRow base e size v n xs)(hk:Kept F w w')(hf:∀g,v.ownBlock=some g->¬F g):w'.ownsRow base e size v n xs:=by
 refine⟨h.1,?_⟩;rcases h.2 with h2|⟨g,cap,cur,rfl,hg,hh,r⟩
 ·exact .inl h2
 ·have hlt:g<w.heap.size:=by
   rcases Nat.lt_or_ge g w.heap.size with hl|hl
   ·exact hl
   ·rw[Array.getElem?_eq_none hl]at hh;cases hh
  exact .inr ⟨g,cap,cur,rfl,hg,(hk.block g hlt (hf g rfl)).trans hh,r⟩
theorem pR{g:Nat}{cs:Array Value}(h:Has w g e cs)(hc:cs.size=0):w.ownsRow 0 e size (.slice (some ⟨g,0,none⟩) 0 0) 0 []:=
 ⟨by simp,.inr ⟨g,0,cs,rfl,Nat.zero_le _,h,Nat.le_refl _,by decide,by simpa using hc,by simp⟩⟩
theorem jB{base:Nat}{v:Value}(h:w.ownsRow base e size v n xs){g:Nat}(hg:v.ownBlock=some g):g<w.heap.size:=by
 rcases h.2 with⟨rfl,_⟩|⟨g',cap,cur,rfl,_,hh,_⟩
 ·simp[Value.ownBlock]at hg
 ·obtain rfl:g'=g:=by simpa [Value.ownBlock]using hg
  rcases Nat.lt_or_ge g' w.heap.size with hl|hl
  ·exact hl
  ·rw[Array.getElem?_eq_none hl]at hh;cases hh
theorem Us{base:Nat}{v:Value}(h:w.ownsRow base e size v n xs):∃A c,v=.slice A n c/\n<=c:=by
 rcases h.2 with⟨rfl,rfl⟩|⟨g,cap,cur,rfl,_,_,hn,_⟩
 ·exact⟨none,0,rfl,Nat.le_refl _⟩
 ·exact⟨_,cap,rfl,hn⟩
theorem mM{base c:Nat}(h:w.ownsRow base e size (.slice A n c) n xs):n<=c/\c<=maxLen:=by
 rcases h.2 with⟨h1,h2⟩|⟨g,cap,cur,h1,_,_,hn,hm,_⟩
 ·injection h1 with _ _ h3;omega
 ·injection h1 with _ _ h3;subst h3;exact⟨hn,hm⟩
theorem own_ne{base:Nat}{v:Value}{g:Nat}{t:TypeId}{cs:Array Value}(h:w.ownsRow base e size v n xs)(hg:Has w g t cs)(hne:e≠t):v.ownBlock≠some g:=by
 rcases h.2 with⟨rfl,_⟩|⟨g',cap,cur,rfl,_,hh,_⟩
 ·simp[Value.ownBlock]
 ·intro he;obtain rfl:g'=g:=by simpa [Value.ownBlock]using he
  exact Has.ne (t:=e) hh hg hne rfl
theorem oV{b n c k m:Nat}(hk:(Value.slice (some ⟨b,0,none⟩) n c).ownBlock=some k)(h:m<=b):m<=k:=by simp only[Value.ownBlock,Option.some.injEq]at hk;omega
theorem sU{v:Value}{b n c k m s:Nat}(hk:v.ownBlock=some k)(ha:v.ownBlock=(Value.slice (some ⟨b,0,none⟩) n c).ownBlock\/v.ownBlock=some s)(h1:m<=b)(h2:m<=s):m<=k:=by
 rcases ha with e|e
 ·exact oV (e.symm.trans hk) h1
 ·rw[hk]at e;injection e with e;omega
theorem Fe{v u:Value}{b n c k m s r:Nat}(hk:u.ownBlock=some k)(hb:u.ownBlock=v.ownBlock\/u.ownBlock=some r)(ha:v.ownBlock=(Value.slice (some ⟨b,0,none⟩) n c).ownBlock\/v.ownBlock=some s)(h1:m<=b)(h2:m<=s)(h3:m<=r):m<=k:=by
 rcases hb with e|e
 ·exact sU (e.symm.trans hk) ha h1 h2
 ·rw[hk]at e;injection e with e;omega
structure Elem(P:Program)(t e:TypeId)(size bytes:Nat):Prop where
 under:P.underlying t=some (.slice e)
 info:∃(i:TypeInfo) (z:Value),P.info? e=some i/\i.zero=some z/\i.size=size/\i.bytes=bytes/\z.cells.size=size
 pos:0<size
theorem run_append_nil{t ty:TypeId}{bytes base:Nat}(E:Elem P t e size bytes){v:Value}(h:w.ownsRow base e size v n xs)(c:Nat):
  (Builtin.append_ #[t,t] ty #[v,.slice none 0 c]).run P w=.ok v w:=by
 obtain⟨i,z,hi,hz,_⟩:=E.info;rcases h.2 with⟨rfl,rfl⟩|⟨g,cap,cur,rfl,_,_,hnc,_⟩
 ·simp[Builtin.append_,run_underlying E.under,sizeOf,typeInfo,hi,Builtin.lenOf,Builtin.firstCells]
 ·simp[Builtin.append_,run_underlying E.under,sizeOf,typeInfo,hi,Builtin.lenOf,Builtin.firstCells,hnc,storeCells]
theorem Ho{t ty:TypeId}{bytes:Nat}(E:Elem P t e size bytes){v:Value}(hown:w.ownsRow 0 e size v n xs){c:Nat}(hr:Src w size A m news)(h1:∀u∈news,u.oneCell'=true)
  (h63:n+m<=maxLen) (hbytes:(n+m)*bytes<=140737488355328):
  ∃v' w',(Builtin.append_ #[t,t] ty #[v,.slice A m c]).run P w=.ok v' w'/\w'.ownsRow 0 e size v' (n+m) (xs++news)/\w.grownBy w' v.ownBlock/\(v'.ownBlock=v.ownBlock\/v'.ownBlock=some w.heap.size):=by
 obtain⟨i,z,hi,hz,hs,hby,hzs⟩:=E.info;cases A with
 |none=>
  obtain rfl:m=0:=by
   rcases Nat.eq_zero_or_pos m with h0|h0
   ·exact h0
   ·obtain⟨ad,h,_⟩:=hr.2 h0;cases h
  obtain rfl:news=[]:=lE0 (by simpa using hr.1);exact⟨v,w,run_append_nil E hown c,by simpa using hown,World.grownBy.refl w _,.inl rfl⟩
 |some ad=>
  have hcells:∀j u,news[j]? =some u->w.cell? (ad.add j)=some u:=by
   intro j u hu;rcases Nat.eq_zero_or_pos m with h0|h0
   ·have hn:news.length=0:=by rw[hr.1,h0];simp
    rw[lE0 hn]at hu;simp at hu
   ·obtain⟨ad',h,_,hc⟩:=hr.2 h0;injection h with h;subst h;exact hc j u hu
  obtain⟨v',w',hrun,h2,h3,_,h5⟩:=run_append_own_at (P:=P) w 0 t ty e i z size bytes E.under hi hz hs hby hzs E.pos v n xs hown ad m c news hr.1 hcells h1 h63 hbytes (Nat.zero_le _);exact⟨v',w',hrun,h2,h3,h5⟩
theorem C4{o:Oper}{a:Act}{K:Act->World->Prop}{Q:Exit->Act->World->Prop}{t:TypeId}{bytes:Nat}(E:Elem P t e size bytes)(s x:Operand)
  (ho:o.op=.call {callee:=.builtin .append,args:=#[s,x],argTypes:=#[t,t]}) (v:Value) (hs:a.eval s=v) (hown:w.ownsRow 0 e size v n xs)
  (c:Nat) (hx:a.eval x=.slice A m c) (hr:Src w size A m news) (h1:∀u∈news,u.oneCell'=true) (h63:n+m<=maxLen) (hbytes:(n+m)*bytes<=140737488355328)
  (h:∀A' c' w',w'.ownsRow 0 e size (.slice A' (n+m) c') (n+m) (xs++news)->w.grownBy w' v.ownBlock->((Value.slice A' (n+m) c').ownBlock=v.ownBlock\/(Value.slice A' (n+m) c').ownBlock=some w.heap.size)->K (a.put o.dst (.slice A' (n+m) c')) w'):o.wp P a w K Q:=by
 obtain⟨v',w',hrun,h2,h3,h4⟩:=Ho (P:=P) (ty:=o.type) E hown (c:=c) hr h1 h63 hbytes;unfold Oper.wp execOp;simp only[ho,resolve,invoke,builtin,Sem.run_bind,Sem.run_pure,Result.andThen_ok,List.map_toArray,List.map_cons,List.map_nil,hs,hx,hrun];obtain⟨A',c',rfl,_⟩:=Us h2;exact h A' c' w' h2 h3 h4
theorem bH{ops:Array Oper}{rest:List Oper}{o:Oper}{a:Act}{Q:Exit->Act->World->Prop}{t:TypeId}{bytes:Nat}(E:Elem P t e size bytes)(s x:Operand)
  (hgd:o.guard=none) (ho:o.op=.call {callee:=.builtin .append,args:=#[s,x],argTypes:=#[t,t]}) (v:Value) (hs:a.eval s=v) (hown:w.ownsRow 0 e size v n xs)
  (c:Nat) (hx:a.eval x=.slice A m c) (hr:Src w size A m news) (h1:∀u∈news,u.oneCell'=true) (h63:n+m<=maxLen) (hbytes:(n+m)*bytes<=140737488355328)
  (h:∀A' c' w',w'.ownsRow 0 e size (.slice A' (n+m) c') (n+m) (xs++news)->w.grownBy w' v.ownBlock->((Value.slice A' (n+m) c').ownBlock=v.ownBlock\/(Value.slice A' (n+m) c').ownBlock=some w.heap.size)->wpList P ops Q rest (a.put o.dst (.slice A' (n+m) c')) w'):wpList P ops Q (o::rest) a w:=
 wpList_plain hgd fun _ hK=>C4 E s x ho v hs hown c hx hr h1 h63 hbytes fun A' c' w' h2 h3 h4=>hK _ _ (h A' c' w' h2 h3 h4)
theorem jL{ops:Array Oper}{o:Oper}{a:Act}{K:Act->World->Prop}{Q:Exit->Act->World->Prop}{X:Prop}{t:TypeId}{bytes:Nat}(E:Elem P t e size bytes)(s x:Operand)
  (hgd:o.guard=none) (ho:o.op=.call {callee:=.builtin .append,args:=#[s,x],argTypes:=#[t,t]}) (v:Value) (hs:a.eval s=v) (hown:w.ownsRow 0 e size v n xs)
  (c:Nat) (hx:a.eval x=.slice A m c) (hr:Src w size A m news) (h1:∀u∈news,u.oneCell'=true) (h63:n+m<=maxLen) (hbytes:(n+m)*bytes<=140737488355328)
  (h:∀A' c' w',w'.ownsRow 0 e size (.slice A' (n+m) c') (n+m) (xs++news)->w.grownBy w' v.ownBlock->((Value.slice A' (n+m) c').ownBlock=v.ownBlock\/(Value.slice A' (n+m) c').ownBlock=some w.heap.size)->K (a.put o.dst (.slice A' (n+m) c')) w'):
  if Region.wanted o (yielded ops a.tmps)=true then Oper.wp P o a w K Q else X:=by
 rw[if_pos (by simp[Region.wanted,hgd])];exact C4 E s x ho v hs hown c hx hr h1 h63 hbytes h
end
end Go.Proofs.YtgbigpdiacjbgaaGreat
namespace Go.Proofs.YtgbigpdiacjbgaaGreat
namespace Vn
def be:Nat->Nat->List Nat
 |0,_=>[]
 |k+1,n=>be k (n/256)++[n%256]
def needs(n:Nat):Nat:=if h:n<256 then 1 else 1+needs (n/256)
termination_by n
decreasing_by omega
def kX(l:List Nat):List UInt8:=l.map fun x=>UInt8.ofNat x
def put(n:Nat):List UInt8:=if n<248 then kX [n]else kX ((247+needs n)::be (needs n) n)
def val(l:List Nat):Nat:=l.foldl (fun a b=>a*256+b) 0
theorem nD(k n:Nat):(be k n).length=k:=by
 induction k generalizing n with
 |zero=>rfl
 |succ k ih=>simp[be,ih]
theorem yF(n:Nat):1<=needs n:=by rw[needs];split<;>omega
theorem uT{n:Nat}(h:n<256):needs n=1:=by rw[needs,dif_pos h]
theorem yG{n:Nat}(h:¬n<256):needs n=1+needs (n/256):=by rw[needs,dif_neg h]
theorem Ut(k n:Nat)(h:n<256^k)(hk:1<=k):needs n<=k:=by
 induction k generalizing n with
 |zero=>omega
 |succ k ih=>
  by_cases hn:n<256
  ·rw[uT hn];omega
  ·rw[yG hn];have h1:n/256<256^k:=by rw[Nat.div_lt_iff_lt_mul (by decide)];rw[Nat.pow_succ]at h;exact h
   have hk1:1<=k:=by
    rcases Nat.eq_zero_or_pos k with rfl|h0
    ·simp at h;omega
    ·exact h0
   have:=ih (n/256) h1 hk1;omega
theorem vN{n:Nat}(h:n<18446744073709551616):needs n<=8:=Ut 8 n (by simpa using h) (by decide)
theorem Uu(n:Nat):n<256^needs n:=by
 induction n using Nat.strongRecOn with
 |ind n ih=>
  by_cases hn:n<256
  ·rw[uT hn];simpa using hn
  ·rw[yG hn,Nat.add_comm,Nat.pow_succ,<-Nat.div_lt_iff_lt_mul (by decide)];exact ih (n/256) (by omega)
theorem Yv(k n i:Nat)(h:i<k):(be k n)[i]? =some (n/256^(k-1-i)%256):=by
 induction k generalizing n with
 |zero=>omega
 |succ k ih=>
  by_cases hi:i<k
  ·rw[be,List.getElem?_append_left (by rw[nD];exact hi),ih _ hi,Nat.div_div_eq_div_mul];have e:k+1-1-i=(k-1-i)+1:=by omega
   rw[e,Nat.pow_succ,Nat.mul_comm]
  ·obtain rfl:i=k:=by omega
   rw[be,List.getElem?_append_right (by rw[nD];omega)];simp[nD]
theorem JO(k n i:Nat)(h:i<k):(be k n).take (i+1)=(be k n).take i++[n/256^(k-1-i)%256]:=by rw[List.take_add_one,Yv k n i h];rfl
theorem Uw(k j n:Nat):be (k+j) n=be k (n/256^j)++be j n:=by
 induction j generalizing n with
 |zero=>simp[be]
 |succ j ih=>
  rw[<-Nat.add_assoc,be,ih,be,Nat.div_div_eq_div_mul,Nat.pow_succ,Nat.mul_comm 256,List.append_assoc]
theorem aaF(k n:Nat):∀x∈be k n,x<256:=by
 induction k generalizing n with
 |zero=>simp[be]
 |succ k ih=>
  intro x hx;simp[be]at hx;rcases hx with h|rfl
  ·exact ih _ _ h
  ·omega
theorem BZ(l:List Nat)(x:Nat):val (l++[x])=val l*256+x:=by simp[val]
theorem Yw(k n:Nat):val (be k n)=n%256^k:=by
 induction k generalizing n with
 |zero=>simp[be,val,Nat.mod_one]
 |succ k ih=>
  rw[be,BZ,ih,Nat.pow_succ,Nat.mul_comm (256^k) 256,Nat.mod_mul];omega
theorem Qn(n:Nat):val (be (needs n) n)=n:=by rw[Yw];exact Nat.mod_eq_of_lt (Uu n)
theorem Qo(l:List Nat)(h:∀x∈l,x<256):val l<256^l.length:=by
 suffices∀(m:List Nat),(∀x∈m,x<256)->val m.reverse<256^m.length by have:=this l.reverse (by simpa using h);simpa using this
 intro m hm;induction m with
 |nil=>simp[val]
 |cons a m ih=>
  have h1:=ih (fun x hx=>hm x (by simp[hx]));have h2:=hm a (by simp);rw[List.reverse_cons,BZ,List.length_cons,Nat.pow_succ];omega
theorem Yx(l:List Nat)(h:∀x∈l,x<256):be l.length (val l)=l:=by
 suffices∀(m:List Nat),(∀x∈m,x<256)->be m.length (val m.reverse)=m.reverse by have:=this l.reverse (by simpa using h);simpa using this
 intro m hm;induction m with
 |nil=>simp[be]
 |cons a m ih=>
  have h1:=ih (fun x hx=>hm x (by simp[hx]));have h2:=hm a (by simp);rw[List.reverse_cons,BZ,List.length_cons,be];have e1:(val m.reverse*256+a)/256=val m.reverse:=by omega
  have e2:(val m.reverse*256+a)%256=a:=by omega
  rw[e1,e2,h1]
theorem sV{n:Nat}(h:n<248):put n=[UInt8.ofNat n]:=by simp[put,h,kX]
theorem zF{n:Nat}(h:¬n<248):put n=kX ((247+needs n)::be (needs n) n):=by simp[put,h]
theorem B5(n:Nat):(put n).length=if n<248 then 1 else 1+needs n:=by unfold put;split<;>simp[kX,nD,Nat.add_comm]
theorem nG{n:Nat}(h:n<18446744073709551616):(put n).length<=9:=by have:=vN h;rw[B5];split<;>omega
theorem put_pos(n:Nat):1<=(put n).length:=by rw[B5];split<;>omega
def get(s:List UInt8)(i:Nat):Except Nat (Nat×Nat):=
 match s[i]? with
 |none=> .error 2
 |some b=>
  if b.toNat<248 then .ok (b.toNat,i+1)
  else
   let k:=b.toNat-247
   let r:=(s.drop (i+1)).take k
   if r.length<k then .error 2
   else
    let n:=val (r.map UInt8.toNat)
    if n<248\/needs n≠k then .error 4 else .ok (n,i+1+k)
theorem get_put(pre post:List UInt8)(n:Nat)(h:n<18446744073709551616):get (pre++put n++post) pre.length=.ok (n,pre.length+(put n).length):=by
 have h8:=vN h;by_cases hs:n<248
 ·have e:(pre++put n++post)[pre.length]? =some (UInt8.ofNat n):=by rw[sV hs,List.append_assoc,List.getElem?_append_right (Nat.le_refl _)];simp
  have e2:(UInt8.ofNat n).toNat=n:=by rw[UInt8.toNat_ofNat'];omega
  unfold get;rw[e];simp only[e2];rw[if_pos hs,sV hs];rfl
 ·have hk:=yF n;have e:(pre++put n++post)[pre.length]? =some (UInt8.ofNat (247+needs n)):=by rw[zF hs,List.append_assoc,List.getElem?_append_right (Nat.le_refl _)];simp[kX]
  have e2:(UInt8.ofNat (247+needs n)).toNat=247+needs n:=by rw[UInt8.toNat_ofNat'];omega
  have e3:((pre++put n++post).drop (pre.length+1)).take (needs n)=kX (be (needs n) n):=by rw[zF hs,List.append_assoc,List.drop_append,List.drop_eq_nil_of_le (by omega)];simp only[kX,List.map_cons,List.cons_append,List.nil_append,Nat.add_sub_cancel_left,List.drop_succ_cons,List.drop_zero];rw[List.take_append_of_le_length (by simp[nD]),List.take_of_length_le (by simp[nD])]
  have e4:(kX (be (needs n) n)).map UInt8.toNat=be (needs n) n:=by
   unfold kX;rw[List.map_map];conv=>rhs;rw[<-List.map_id (be (needs n) n)]
   apply List.map_congr_left;intro x hx;have:=aaF _ _ x hx;simp only[Function.comp,id];rw[UInt8.toNat_ofNat'];omega
  unfold get;rw[e];simp only[e2];rw[if_neg (by omega),Nat.add_sub_cancel_left,e3,e4,Qn,if_neg (by simp[kX,nD]),if_neg (by simp;omega),zF hs];simp[kX,nD];omega
theorem FZ(l:List UInt8):(l.map UInt8.toNat).map UInt8.ofNat=l:=by
 rw[List.map_map];conv=>rhs;rw[<-List.map_id l]
 apply List.map_congr_left;intro x _;simp
theorem zI(l:List UInt8):∀x∈l.map UInt8.toNat,x<256:=by intro x hx;rw[List.mem_map]at hx;obtain⟨y,_,rfl⟩:=hx;have:=UInt8.toNat_lt y;omega
theorem BD{s:List UInt8}{i n j:Nat}(h:get s i=.ok (n,j)):i<j/\j<=s.length/\n<18446744073709551616/\(s.drop i).take (j-i)=put n:=by
 unfold get at h;split at h
 ·cases h
 ·rename_i b hb;have hi:i<s.length:=(lD0.1 hb).1;have hbe:s[i]=b:=(lD0.1 hb).2;have hdrop:s.drop i=b::s.drop (i+1):=by rw[List.drop_eq_getElem_cons hi,hbe]
  have hb256:=b.toNat_lt;split at h
  ·rename_i hs;injection h with h;injection h with h1 h2;subst h1;subst h2;refine⟨by omega,by omega,by omega,?_⟩;rw[Nat.add_sub_cancel_left,hdrop,sV hs];simp
  ·rename_i hs;dsimp only at h;split at h
   ·cases h
   ·rename_i hk;split at h
    ·cases h
    ·rename_i hn;injection h with h;injection h with h1 h2;have hlen:((s.drop (i+1)).take (b.toNat-247)).length=b.toNat-247:=by have:=List.length_take_le (b.toNat-247) (s.drop (i+1));omega
     have hle:i+1+(b.toNat-247)<=s.length:=by rw[List.length_take,List.length_drop]at hlen;omega
     have hv:=Qo (((s.drop (i+1)).take (b.toNat-247)).map UInt8.toNat) (zI _);have hbe:=Yx (((s.drop (i+1)).take (b.toNat-247)).map UInt8.toNat) (zI _);rw[List.length_map,hlen]at hv hbe;simp only[h1]at hn hv hbe;have hn2:¬n<248:=fun x=>hn (.inl x);have hn3:needs n=b.toNat-247:=Classical.byContradiction fun x=>hn (.inr x);refine⟨by omega,by omega,?_,?_⟩
     ·have:(256:Nat)^(b.toNat-247)<=256^8:=Nat.pow_le_pow_right (by decide) (by omega);have e8:(256:Nat)^8=18446744073709551616:=by decide
      omega
     ·rw[zF hn2,hn3,<-h2];have e:i+1+(b.toNat-247)-i=(b.toNat-247)+1:=by omega
      have e9:247+(b.toNat-247)=b.toNat:=by omega
      rw[e,hdrop,List.take_succ_cons,kX,List.map_cons,e9,hbe,FZ];simp
end Vn
end Go.Proofs.YtgbigpdiacjbgaaGreat
namespace Go.Proofs.YtgbigpdiacjbgaaGreat
namespace Ops
open Vn
abbrev bl(s:ByteArray):List UInt8:=s.data.toList
def fE(l:List UInt8):ByteArray:=⟨l.toArray⟩
structure dU where
 key:ByteArray
 val:ByteArray
 del:Bool
deriving DecidableEq
def cell(o:dU):List Value:=[.string o.key,.string o.val,.bool o.del]
def cells(l:List dU):List Value:=l.flatMap cell
structure Batch where
 cl:Int
 req:Int
 ops:List dU
def emp:ByteArray:=⟨#[]⟩
theorem iw(s:ByteArray):(bl s).length=s.size:=Array.length_toList
theorem Du(s:ByteArray):fE (bl s)=s:=by simp[fE,bl]
theorem lH(l:List UInt8):bl (fE l)=l:=by simp[fE,bl]
theorem yH{s t:ByteArray}(h:bl s=bl t):s=t:=by rw[<-Du s,<-Du t,h]
def one(o:dU)(ahead:ByteArray)(first:Bool):Int:=
 if o.key.size<1\/8<o.key.size then 10 else if 8<o.val.size then 3 else if o.del=true/\o.val.size≠0 then 4
 else if first=false/\Op.bytesLess ahead.toList o.key.toList=false then 18 else 0
def vG:List dU->ByteArray->Bool->Int
 |[],_,_=>0
 |o::l,a,f=>if one o a f≠0 then one o a f else vG l o.key false
def chk(b:Batch):Int:=
 if b.cl<0\/3<=b.cl then 1 else if b.req<1\/1073741824<b.req then 5 else if 4<b.ops.length then 6 else vG b.ops emp true
def dA(s:ByteArray):List UInt8:=put s.size++bl s
def sW(b:Bool):List UInt8:=[if b then 1 else 0]
def bn(o:dU):List UInt8:=dA o.key++sW o.del++dA o.val
def vH(b:Batch):List UInt8:=put b.cl.toNat++put b.req.toNat++put b.ops.length++b.ops.flatMap bn
theorem qW{α β:Type}(f:α->List β)(l:List α)(i:Nat)(h:i<l.length):(l.take (i+1)).flatMap f=(l.take i).flatMap f++f l[i]:=by rw[List.take_add_one,lB0 h,List.flatMap_append];simp
theorem EJ{l:List dU}{a:ByteArray}{f:Bool}(h:vG l a f=0):∀o∈l,1<=o.key.size/\o.key.size<=8/\o.val.size<=8/\(o.del=true->o.val.size=0):=by
 induction l generalizing a f with
 |nil=>intro o ho;cases ho
 |cons x l ih=>
  unfold vG at h;split at h
  ·rename_i h1;exact absurd h h1
  ·rename_i h1;have h2:one x a f=0:=Classical.byContradiction h1;have hx:1<=x.key.size/\x.key.size<=8/\x.val.size<=8/\(x.del=true->x.val.size=0):=by
    unfold one at h2;split at h2
    ·cases h2
    ·rename_i g1;split at h2
     ·cases h2
     ·rename_i g2;split at h2
      ·cases h2
      ·rename_i g3;refine⟨by omega,by omega,by omega,fun hd=> ?_⟩;exact Classical.byContradiction fun hv=>g3 ⟨hd,hv⟩
   intro o ho;rcases List.mem_cons.1 ho with rfl|ho
   ·exact hx
   ·exact ih h o ho
theorem sZ{b:Batch}(h:chk b=0):0<=b.cl/\b.cl<3/\1<=b.req/\b.req<=1073741824/\b.ops.length<=4/\vG b.ops emp true=0:=by
 unfold chk at h;split at h
 ·cases h
 ·split at h
  ·cases h
  ·split at h
   ·cases h
   ·rename_i h1 h2 h3;exact⟨by omega,by omega,by omega,by omega,by omega,h⟩
theorem NF(l:List dU)(i:Nat)(h:i<l.length)(a:ByteArray)(f:Bool):vG (l.drop i) a f=if one l[i] a f≠0 then one l[i] a f else vG (l.drop (i+1)) l[i].key false:=by rw[List.drop_eq_getElem_cons h,vG]
theorem mO{o:dU}(h1:o.key.size<=8)(h2:o.val.size<=8):(bn o).length<=19:=by
 have e1:(put o.key.size).length=1:=by rw[sV (by omega)];rfl
 have e2:(put o.val.size).length=1:=by rw[sV (by omega)];rfl
 simp only[bn,dA,sW,lA0,e1,e2,iw,List.length_cons,List.length_nil];omega
theorem xP(l:List dU)(h:∀o∈l,(bn o).length<=19):(l.flatMap bn).length<=l.length*19:=by
 induction l with
 |nil=>simp
 |cons a l ih=>
  have h1:=h a (by simp);have h2:=ih fun o ho=>h o (by simp[ho]);simp only[List.flatMap_cons,lA0,List.length_cons];omega
