/- Part 4. -/
import Derived.Test.YtgbigpdiacjbgaaGreatCZ00
import Derived.Test.YtgbigpdiacjbgaaGreatChecked
import Derived.Lib.SmallJoins
set_option linter.unusedSimpArgs false
set_option linter.unusedVariables false
set_option maxHeartbeats 32000000
set_option maxRecDepth 100000
namespace Go.Proofs.YtgbigpdiacjbgaaGreat
open Go.RowKit Go.WideShapes Go.ChangeShapes
theorem sZ{H:Type}{enc:TypeId×Value->H}{P:Program}{f:Func}{s:ChangeSpec}{apart fresh handsOn again:Bool}{W W':World}
  {args:Array Value} {v:Value} {ds gs:List (DataW H)} {before pa pv:List MemPlace}
  (hW:DataW.Whole enc P f.params.toList s.vars apart W args.toList ds gs before)
  (hres:∀(b:Nat) (sp:Nat->Bool) (hd:Bool),DataW.TrodAll enc P W' b sp hd f.resultTypes.toList (v.resultList f.resultTypes.size) (s.fn H (ds++gs)).results [])
  (hargs:∀sp:Nat->Bool,(∀p∈before,sp p.block=true)->DataW.TrodAll enc P W' 0 sp true f.params.toList args.toList (s.fn H (ds++gs)).args pa)
  (hvars:∀sp:Nat->Bool,(∀p∈before,sp p.block=true)->DataW.TrodVars enc P W' sp s.vars (s.fn H (ds++gs)).vars pv)
  (hsum:before=pa++pv) (hb:Below W.heap.size W W')
  (hok:∀(j:Nat) (t:TypeId) (r:Value),f.resultTypes[j]? =some t->(v.resultList f.resultTypes.size)[j]? =some r->Value.okWide P W' .any 0 t r):
  s.post enc P f apart fresh handsOn again W args v W':=by
 subst hsum;have later:=hW;have lt:∀p∈pa++pv,p.block<W.heap.size:=fun p hp=>hW.lt p hp;obtain⟨_,_,_,_,_,zS,hapart⟩:=hW;have asked:∀p∈pa++pv,(fun b=>decide (b<W.heap.size)) p.block=true:=fun p hp=>decide_eq_true (lt p hp);have kept:World.keptBut W W' fun p=>p∈pa++pv/\p∈([]++pa)++pv:=World.keptBut_mono (fun p hp=>⟨hp,by simpa using hp⟩) (hb.frame (· ∈pa++pv))
 exact⟨ds,gs,_,[],pa,pv,later,hres _ _ _,hargs _ asked,hvars _ asked,World.keptBut_mono (fun p hp=>⟨hp.1,by simpa using hp.2⟩) kept,fun _=>
  ⟨hok,_,_,_,⟨[]++pa,pv,trodAll_append (hargs _ fun _ _=>rfl) (hres _ _ _),hvars _ fun _ _=>rfl,rfl,
   fun b off hp=>by
    have hin:MemPlace.cell b off∈pa++pv:=by simpa using hp
    rw[hb.frozen (lt _ hin)];exact zS b off hin,
   fun ha=>by simpa using hapart ha⟩,fun p hp _=>by simpa using hp⟩⟩
theorem own:ownKnob Tryz.prog.godebug=none:=by kernel_rfl
theorem laid:laidOutB Tryz.prog=true:=by kernel_rfl
theorem AA{t:Nat}(h:Nat.blt t Tryz.prog.types.size=true):t<Tryz.prog.types.size:=Nat.le_of_ble_eq_true h
theorem kU{H:Type}{enc:TypeId×Value->H}{t:TypeId}{W W':World}{v:Value}{d:DataW H}{ps before:List MemPlace}{sp:Nat->Bool}
  (hr:Tryz.prog.readableRec t=true) (ht:Nat.blt t Tryz.prog.types.size=true)
  (h:DataW.Trod enc Tryz.prog W 0 (fun _=>true) true t v d ps) (hb:Below W.heap.size W W') (hlt:∀x∈before,x.block<W.heap.size)
  (hsp:∀x∈before,sp x.block=true) (hin:∀x∈ps,x∈before):DataW.Trod enc Tryz.prog W' 0 sp true t v d ps:=
 WideElems.Trod_stays laid hr (AA ht) h (fun x hx=>hb.same (hlt x (hin x hx))) fun x hx=>hsp x (hin x hx)
theorem add_lit(a:Addr){j:Nat}(h:0<j):a.add j=⟨a.block,a.off+j,none⟩:=by unfold Addr.add;rw[if_neg (by omega)]
theorem flat_get{α:Type}(cells:α->List Value)(C:Nat)(hC:0<C)(h1:∀a,(cells a).length=C):∀(l:List α) (j:Nat),(l.flatMap cells)[j]? =(l[j/C]?).bind fun a=>(cells a)[j%C]? :=by
 intro l;induction l with
 |nil=>intro j;simp
 |cons a l ih=>
  intro j;rw[List.flatMap_cons];rcases Nat.lt_or_ge j C with h|h
  ·rw[List.getElem?_append_left (by rw[h1];exact h),Nat.div_eq_of_lt h,Nat.mod_eq_of_lt h];simp
  ·rw[List.getElem?_append_right (by rw[h1];exact h),h1,ih];have e1:j/C=(j-C)/C+1:=by rw[Nat.div_eq_sub_div hC h]
   have e2:j%C=(j-C)%C:=by rw[Nat.mod_eq_sub_mod h]
   rw[e1,e2,List.getElem?_cons_succ]
theorem uU{H:Type}{enc:TypeId×Value->H}{P:Program}{W:World}{t e:TypeId}{v:Value}{d:DataW H}{ps:List MemPlace}{α:Type} [Inhabited α](cells:α->List Value)(good:α->Prop)(C:Nat)
  (ht:P.underlying t=some (.slice e)) (hC:P.cellsOf e=C) (hpos:0<C) (h1:∀a,(cells a).length=C)
  (each:∀(fuel:Nat) (cs:List Value) (y:DataW H×List MemPlace),DataW.trod enc P W 0 (fun _=>true) true fuel e cs=some y->∃a,cs=cells a/\good a)
  (h:DataW.Trod enc P W 0 (fun _=>true) true t v d ps) (hv:∃A n c,v=.slice A n c):
  ∃(A:Option Addr) (c:Nat) (l:List α),v=.slice A l.length c/\l.length<=c/\c<=maxLen/\Src W C A l.length (l.flatMap cells)/\(∀a∈l,good a)/\(A=none->l=[]/\c=0):=by
 obtain⟨A,n,c,rfl⟩:=hv;obtain⟨fuel,hf⟩:=h;rcases Deep.open_slice ht hf with⟨h0,_⟩|⟨a,len,cap,m,n',D,Pl,hcs,_,hl,hm,hmm,_,hi⟩
 ·obtain⟨rfl,rfl,rfl⟩:A=none/\n=0/\c=0:=by simpa [Value.cells]using h0
  exact⟨none,0,[],rfl,Nat.le_refl _,Nat.zero_le _,Src.nil W C none,fun a ha=>absurd ha List.not_mem_nil,fun _=>⟨rfl,rfl⟩⟩
 ·obtain⟨rfl,rfl,rfl⟩:A=some a/\n=len/\c=cap:=by simpa [Value.cells]using hcs
  have hml:n<=m:=by rw[hmm];split<;>omega
  have hall:∀i,∃x:α,i<n->(W.cells? 0 (a.add (i*C)) C=some (cells x)/\good x):=by
   intro i;by_cases hin:i<n
   ·obtain⟨cs',h2,h3⟩:=hi i (by omega);rw[hC]at h2;obtain⟨x,rfl,hg⟩:=each _ _ _ h3;exact⟨x,fun _=>⟨h2,hg⟩⟩
   ·exact⟨default,fun h=>absurd h hin⟩
  obtain⟨f,hf⟩:=Classical.axiomOfChoice hall;refine⟨some a,c,(List.range n).map f,by simp,by simpa using hl,hm,?_,?_,fun h=>by cases h⟩
  ·have hcell:∀j u,(((List.range n).map f).flatMap cells)[j]? =some u->W.cell? (a.add j)=some u:=by intro j u hu;rw[flat_get cells C hpos h1]at hu;rw[Option.bind_eq_some_iff]at hu;obtain⟨x,hx,hu⟩:=hu;rw[List.getElem?_map]at hx;rw[Option.map_eq_some_iff]at hx;obtain⟨i,hir,rfl⟩:=hx;obtain⟨hlt,hie⟩:=lD0.1 hir;simp at hlt hie;subst hie;obtain⟨_,_,hat⟩:=World.cells?_some (hf (j/C) hlt).1;have hjm:j%C<C:=Nat.mod_lt _ hpos;have:=hat (j%C) hjm;rw[add_add]at this;rw[show j/C*C+j%C=j by rw[Nat.mul_comm];exact Nat.div_add_mod j C]at this;rw[this,hu]
   refine⟨?_,fun h0=>⟨a,rfl,?_,hcell⟩⟩
   ·rw[List.length_flatMap];have hs:∀k,((List.range k).map fun _=>C).sum=k*C:=by
     intro k;induction k with
     |zero=>simp
     |succ k ih=>rw[List.range_succ,List.map_append,List.sum_append,ih];simp[Nat.succ_mul]
    simp[h1,Function.comp_def,hs]
   ·have h0':0<n:=by simpa using h0
    have hz:(((List.range n).map f).flatMap cells)[0]? =(cells (f 0))[0]? :=by rw[flat_get cells C hpos h1];simp[h0']
    have h2:0<(cells (f 0)).length:=by rw[h1];exact hpos
    have h3:=hcell 0 _ (hz.trans (lB0 h2));have h4:=block_lt_of_cell h3;rw[block_add]at h4;exact h4
  ·intro x hx;obtain⟨i,hi2,rfl⟩:=List.mem_map.1 hx;exact(hf i (by simpa using hi2)).2
