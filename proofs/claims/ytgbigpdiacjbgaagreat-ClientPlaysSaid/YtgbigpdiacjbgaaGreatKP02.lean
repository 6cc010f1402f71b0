/- Part 3. -/
import Derived.Test.YtgbigpdiacjbgaaGreatKP01
import Derived.Lib.SmallJoins
import Derived.Sort.KeysCollected
import Derived.Sort.Walk0
set_option linter.unusedSimpArgs false
set_option linter.unusedVariables false
set_option maxHeartbeats 32000000
set_option maxRecDepth 100000
namespace Go.Proofs.YtgbigpdiacjbgaaGreat
open Go.RowKit Go.Shelf
namespace iI
open Vn Ops
def lD(w:World)(g:Nat)(bs:List UInt8):Prop:=Has w g 194 #[.string (fE bs),.int .i64 0]
def iY(w:World)(g:Nat)(bs:List UInt8)(e:Ending)(w':World):Prop:=e=.returned (.tuple #[])/\lD w' g bs/\Kept (fun k=>k=g) w w'
theorem tH(n:Nat)(hn:n<18446744073709551616)(W:World):(convert 3 22 (.int .i64 (n:Int))).run Tryz.prog W=.ok (.int .u64 n) W:=by
 have hw:IntKind.u64.wrap (n:Int)=n:=by simp[IntKind.wrap,IntKind.signed,IntKind.bits];omega
 simp[go_sem,hw]
theorem wG(a b:List UInt8):fE a++fE b=fE (a++b):=by apply yH;rw[lH];simp[bl,fE]
theorem JG(a:List UInt8)(s:ByteArray):fE a++s=fE (a++bl s):=by rw[<-wG,Du]
theorem Dv(w:World)(g:Nat)(bs:List UInt8)(n:Nat)(hn:n<18446744073709551616)(h:lD w g bs)(hlen:bs.length+9<=140737488355328):
  Calls Tryz.prog 151 #[.pointer (some ⟨g,0,none⟩),.int .u64 n] w (iY w g (bs++put n)):=by
 have hv:=B6 n (by omega);have HV:=ah hv;clear hv;have c0:=h.cell 0;have c1:=h.cell 1;simp only[lF0,List.getElem?_cons_zero,List.getElem?_cons_succ]at c0 c1;have H:=ah h;clear h;have hp:=nG (n:=n) (by omega);have hsum:¬9223372036854775807<(fE bs).size+(fE (put n)).size:=by rw[nS,nS];omega
 clear hp;go_enter Tryz.func151,Tryz.ntmps151;go_wp2;go_region_law (go_simp;go_at_call 149;refine(HV.out _).mono ?_;rintro e w2 ⟨rfl,hk0⟩;have hk:Kept aj w w2:=Kept.then (a:=w) (by(repeat'(first|(with_reducible first|exact ay|apply aA|apply aB|apply aC|apply aF)|(right;simp;done)))) hk0;clear hk0;have hx:=Has.kept (F:=aj) H.out hk (fun x=>x);have d0:=hx.cell 0;have f0:=hx.frozen 0;simp only[lF0,List.getElem?_cons_zero,List.getElem?_cons_succ]at d0;have HX:=ah hx;clear hx;have HK:=ah hk;clear hk);all_goals (go_end0;exact⟨rfl,Has.aQ HX.out (by rw[wG];simp),(HK.out.mono fun _ x=>x.elim).put (.inl rfl)⟩)
theorem tJ(w:World)(g:Nat)(bs:List UInt8)(n:Nat)(hn:n<=9223372036854775807)(h:lD w g bs)(hlen:bs.length+9<=140737488355328):
  Calls Tryz.prog 119 #[.pointer (some ⟨g,0,none⟩),.int .i64 n] w (iY w g (bs++put n)):=by
 have hv:=B6 n (by omega);have HV:=ah hv;clear hv;have c0:=h.cell 0;have c1:=h.cell 1;simp only[lF0,List.getElem?_cons_zero,List.getElem?_cons_succ]at c0 c1;have H:=ah h;clear h;have hcv:=tH n (by omega);have hp:=nG (n:=n) (by omega);have hsum:¬9223372036854775807<(fE bs).size+(fE (put n)).size:=by rw[nS,nS];omega
 clear hp;go_enter Tryz.func119,Tryz.ntmps119;go_wp2;go_region_law (go_simp;go_at_call 149;refine(HV.out _).mono ?_;rintro e w2 ⟨rfl,hk0⟩;have hk:Kept aj w w2:=Kept.then (a:=w) (by(repeat'(first|(with_reducible first|exact ay|apply aA|apply aB|apply aC|apply aF)|(right;simp;done)))) hk0;clear hk0;have hx:=Has.kept (F:=aj) H.out hk (fun x=>x);have d0:=hx.cell 0;have f0:=hx.frozen 0;simp only[lF0,List.getElem?_cons_zero,List.getElem?_cons_succ]at d0;have HX:=ah hx;clear hx;have HK:=ah hk;clear hk);all_goals (go_end0;exact⟨rfl,Has.aQ HX.out (by rw[wG];simp),(HK.out.mono fun _ x=>x.elim).put (.inl rfl)⟩)
theorem wH(w:World)(g:Nat)(bs:List UInt8)(s:ByteArray)(h:lD w g bs)(hlen:bs.length+9+s.size<=140737488355328):
  Calls Tryz.prog 153 #[.pointer (some ⟨g,0,none⟩),.string s] w (iY w g (bs++dA s)):=by
 have hsz:(s.size:Int)<18446744073709551616:=by omega
 have hv:=B6 s.size (by omega);have HV:=ah hv;clear hv;have c0:=h.cell 0;have c1:=h.cell 1;simp only[lF0,List.getElem?_cons_zero,List.getElem?_cons_succ]at c0 c1;have H:=ah h;clear h;have hcv:=tH s.size (by omega);have hp:=nG (n:=s.size) (by omega);have hsum:¬9223372036854775807<(fE bs).size+(fE (put s.size)).size:=by rw[nS,nS];omega
 have acm:¬9223372036854775807<(fE bs++fE (put s.size)).size+s.size:=by rw[wG,nS,lA0];omega
 have acn:¬9223372036854775807<(fE bs).size+(fE (put s.size)).size+s.size:=by rw[nS,nS];omega
 clear hp;go_enter Tryz.func153,Tryz.ntmps153;go_wp2;go_region_law (go_simp;go_at_call 149;refine(HV.out _).mono ?_;rintro e w2 ⟨rfl,hk0⟩;have hk:Kept aj w w2:=Kept.then (a:=w) (by(repeat'(first|(with_reducible first|exact ay|apply aA|apply aB|apply aC|apply aF)|(right;simp;done)))) hk0;clear hk0;have hx:=Has.kept (F:=aj) H.out hk (fun x=>x);have d0:=hx.cell 0;have f0:=hx.frozen 0;simp only[lF0,List.getElem?_cons_zero,List.getElem?_cons_succ]at d0;have HX:=ah hx;clear hx;have HK:=ah hk;clear hk);all_goals (go_end0;exact⟨rfl,Has.aQ HX.out (by rw[wG,JG,List.append_assoc];simp[dA]),(HK.out.mono fun _ x=>x.elim).put (.inl rfl)⟩)
theorem Ol(w:World)(g:Nat)(bs:List UInt8)(b:Bool)(h:lD w g bs)(hlen:bs.length+9<=140737488355328):
  Calls Tryz.prog 152 #[.pointer (some ⟨g,0,none⟩),.bool b] w (iY w g (bs++sW b)):=by
 cases b
 ·have hp2:=Dv w g bs 0 (by decide) h hlen;have HP:=ah hp2;clear hp2 h;go_enter Tryz.func152,Tryz.ntmps152;go_wp2_with fail;refine HP.out.mono ?_;rintro e w4 ⟨rfl,hw⟩;have HW:=ah hw;clear hw;go_wp2;go_end0;exact⟨rfl,HW.out⟩
 ·have hp2:=Dv w g bs 1 (by decide) h hlen;have HP:=ah hp2;clear hp2 h;go_enter Tryz.func152,Tryz.ntmps152;go_wp2_with fail;refine HP.out.mono ?_;rintro e w4 ⟨rfl,hw⟩;have HW:=ah hw;clear hw;go_wp2;go_end0;exact⟨rfl,HW.out⟩
theorem F5(w:World)(g:Nat)(bs:List UInt8)(h:lD w g bs):
  Calls Tryz.prog 121 #[.pointer (some ⟨g,0,none⟩)] w fun e w'=>e=.returned (.tuple #[.string (fE bs),.int .i64 0])/\w=w':=by
 have c0:=h.cell 0;have c1:=h.cell 1;simp only[lF0,List.getElem?_cons_zero,List.getElem?_cons_succ]at c0 c1;clear h;go_enter Tryz.func121,Tryz.ntmps121;go_wp2;go_ret2;exact⟨rfl,rfl⟩
end iI
end Go.Proofs.YtgbigpdiacjbgaaGreat
namespace Go.Proofs.YtgbigpdiacjbgaaGreat
open Go.RowKit Go.WideShapes Go.ChangeShapes
theorem Om{H:Type}{enc:TypeId×Value->H}{P:Program}{f:Func}{s:ChangeSpec}{apart fresh handsOn again:Bool}{W W':World}
  {args:Array Value} {v:Value} {ds gs:List (DataW H)} {before pa pv:List MemPlace}
  (hW:DataW.Whole enc P f.params.toList s.vars apart W args.toList ds gs before)
  (hres:∀(b:Nat) (sp:Nat->Bool) (hd:Bool),DataW.TrodAll enc P W' b sp hd f.resultTypes.toList (v.resultList f.resultTypes.size) (s.fn H (ds++gs)).results [])
  (hargs:∀sp:Nat->Bool,(∀p∈before,sp p.block=true)->DataW.TrodAll enc P W' 0 sp true f.params.toList args.toList (s.fn H (ds++gs)).args pa)
  (hvars:∀sp:Nat->Bool,(∀p∈before,sp p.block=true)->DataW.TrodVars enc P W' sp s.vars (s.fn H (ds++gs)).vars pv)
  (hsum:before=pa++pv) (hb:Below W.heap.size W W')
  (hok:∀(j:Nat) (t:TypeId) (r:Value),f.resultTypes[j]? =some t->(v.resultList f.resultTypes.size)[j]? =some r->Value.okWide P W' .any 0 t r):
  s.post enc P f apart fresh handsOn again W args v W':=by
 subst hsum;have later:=hW;have lt:∀p∈pa++pv,p.block<W.heap.size:=fun p hp=>hW.lt p hp;obtain⟨_,_,_,_,_,Xz,hapart⟩:=hW;have asked:∀p∈pa++pv,(fun b=>decide (b<W.heap.size)) p.block=true:=fun p hp=>decide_eq_true (lt p hp);have kept:World.keptBut W W' fun p=>p∈pa++pv/\p∈([]++pa)++pv:=World.keptBut_mono (fun p hp=>⟨hp,by simpa using hp⟩) (hb.frame (· ∈pa++pv))
 exact⟨ds,gs,_,[],pa,pv,later,hres _ _ _,hargs _ asked,hvars _ asked,World.keptBut_mono (fun p hp=>⟨hp.1,by simpa using hp.2⟩) kept,fun _=>
  ⟨hok,_,_,_,⟨[]++pa,pv,trodAll_append (hargs _ fun _ _=>rfl) (hres _ _ _),hvars _ fun _ _=>rfl,rfl,
   fun b off hp=>by
    have hin:MemPlace.cell b off∈pa++pv:=by simpa using hp
    rw[hb.frozen (lt _ hin)];exact Xz b off hin,
   fun ha=>by simpa using hapart ha⟩,fun p hp _=>by simpa using hp⟩⟩
theorem own:ownKnob Tryz.prog.godebug=none:=by kernel_rfl
theorem laid:laidOutB Tryz.prog=true:=by kernel_rfl
theorem YA{t:Nat}(h:Nat.blt t Tryz.prog.types.size=true):t<Tryz.prog.types.size:=Nat.le_of_ble_eq_true h
theorem II{H:Type}{enc:TypeId×Value->H}{t:TypeId}{W W':World}{v:Value}{d:DataW H}{ps before:List MemPlace}{sp:Nat->Bool}
  (hr:Tryz.prog.readableRec t=true) (ht:Nat.blt t Tryz.prog.types.size=true)
  (h:DataW.Trod enc Tryz.prog W 0 (fun _=>true) true t v d ps) (hb:Below W.heap.size W W') (hlt:∀x∈before,x.block<W.heap.size)
  (hsp:∀x∈before,sp x.block=true) (hin:∀x∈ps,x∈before):DataW.Trod enc Tryz.prog W' 0 sp true t v d ps:=
 WideElems.Trod_stays laid hr (YA ht) h (fun x hx=>hb.same (hlt x (hin x hx))) fun x hx=>hsp x (hin x hx)
theorem add_lit(a:Addr){j:Nat}(h:0<j):a.add j=⟨a.block,a.off+j,none⟩:=by unfold Addr.add;rw[if_neg (by omega)]
theorem flat_get{α:Type}(cells:α->List Value)(C:Nat)(hC:0<C)(h1:∀a,(cells a).length=C):∀(l:List α) (j:Nat),(l.flatMap cells)[j]? =(l[j/C]?).bind fun a=>(cells a)[j%C]? :=by
 intro l;induction l with
 |nil=>intro j;simp
 |cons a l ih=>
  intro j;rw[List.flatMap_cons];rcases Nat.lt_or_ge j C with h|h
  ·rw[List.getElem?_append_left (by rw[h1];exact h),Nat.div_eq_of_lt h,Nat.mod_eq_of_lt h];simp
  ·rw[List.getElem?_append_right (by rw[h1];exact h),h1,ih];have e1:j/C=(j-C)/C+1:=by rw[Nat.div_eq_sub_div hC h]
   have e2:j%C=(j-C)%C:=by rw[Nat.mod_eq_sub_mod h]
   rw[e1,e2,List.getElem?_cons_succ]
theorem IJ{H:Type}{enc:TypeId×Value->H}{P:Program}{W:World}{t e:TypeId}{v:Value}{d:DataW H}{ps:List MemPlace}{α:Type} [Inhabited α](cells:α->List Value)(good:α->Prop)(C:Nat)
  (ht:P.underlying t=some (.slice e)) (hC:P.cellsOf e=C) (hpos:0<C) (h1:∀a,(cells a).length=C)
  (each:∀(fuel:Nat) (cs:List Value) (y:DataW H×List MemPlace),DataW.trod enc P W 0 (fun _=>true) true fuel e cs=some y->∃a,cs=cells a/\good a)
  (h:DataW.Trod enc P W 0 (fun _=>true) true t v d ps) (hv:∃A n c,v=.slice A n c):
  ∃(A:Option Addr) (c:Nat) (l:List α),v=.slice A l.length c/\l.length<=c/\c<=maxLen/\Src W C A l.length (l.flatMap cells)/\(∀a∈l,good a)/\(A=none->l=[]/\c=0):=by
 obtain⟨A,n,c,rfl⟩:=hv;obtain⟨fuel,hf⟩:=h;rcases Deep.open_slice ht hf with⟨h0,_⟩|⟨a,len,cap,m,n',D,Pl,hcs,_,hl,hm,hmm,_,hi⟩
 ·obtain⟨rfl,rfl,rfl⟩:A=none/\n=0/\c=0:=by simpa [Value.cells]using h0
  exact⟨none,0,[],rfl,Nat.le_refl _,Nat.zero_le _,Src.nil W C none,fun a ha=>absurd ha List.not_mem_nil,fun _=>⟨rfl,rfl⟩⟩
 ·obtain⟨rfl,rfl,rfl⟩:A=some a/\n=len/\c=cap:=by simpa [Value.cells]using hcs
  have hml:n<=m:=by rw[hmm];split<;>omega
  have hall:∀i,∃x:α,i<n->(W.cells? 0 (a.add (i*C)) C=some (cells x)/\good x):=by
   intro i;by_cases hin:i<n
   ·obtain⟨cs',h2,h3⟩:=hi i (by omega);rw[hC]at h2;obtain⟨x,rfl,hg⟩:=each _ _ _ h3;exact⟨x,fun _=>⟨h2,hg⟩⟩
   ·exact⟨default,fun h=>absurd h hin⟩
  obtain⟨f,hf⟩:=Classical.axiomOfChoice hall;refine⟨some a,c,(List.range n).map f,by simp,by simpa using hl,hm,?_,?_,fun h=>by cases h⟩
  ·have hcell:∀j u,(((List.range n).map f).flatMap cells)[j]? =some u->W.cell? (a.add j)=some u:=by intro j u hu;rw[flat_get cells C hpos h1]at hu;rw[Option.bind_eq_some_iff]at hu;obtain⟨x,hx,hu⟩:=hu;rw[List.getElem?_map]at hx;rw[Option.map_eq_some_iff]at hx;obtain⟨i,hir,rfl⟩:=hx;obtain⟨hlt,hie⟩:=lD0.1 hir;simp at hlt hie;subst hie;obtain⟨_,_,hat⟩:=World.cells?_some (hf (j/C) hlt).1;have hjm:j%C<C:=Nat.mod_lt _ hpos;have:=hat (j%C) hjm;rw[add_add]at this;rw[show j/C*C+j%C=j by rw[Nat.mul_comm];exact Nat.div_add_mod j C]at this;rw[this,hu]
   refine⟨?_,fun h0=>⟨a,rfl,?_,hcell⟩⟩
   ·rw[List.length_flatMap];have hs:∀k,((List.range k).map fun _=>C).sum=k*C:=by
     intro k;induction k with
     |zero=>simp
     |succ k ih=>rw[List.range_succ,List.map_append,List.sum_append,ih];simp[Nat.succ_mul]
    simp[h1,Function.comp_def,hs]
   ·have h0':0<n:=by simpa using h0
    have hz:(((List.range n).map f).flatMap cells)[0]? =(cells (f 0))[0]? :=by rw[flat_get cells C hpos h1];simp[h0']
    have h2:0<(cells (f 0)).length:=by rw[h1];exact hpos
    have h3:=hcell 0 _ (hz.trans (lB0 h2));have h4:=block_lt_of_cell h3;rw[block_add]at h4;exact h4
  ·intro x hx;obtain⟨i,hi2,rfl⟩:=List.mem_map.1 hx;exact(hf i (by simpa using hi2)).2
end Go.Proofs.YtgbigpdiacjbgaaGreat
namespace Go.Proofs.YtgbigpdiacjbgaaGreat
open Go.RowKit Go.Shelf
namespace Ops
open Vn
abbrev yS(o:dU):Value:=.agg #[.string o.key,.string o.val,.bool o.del]
abbrev nT(b:Batch)(A:Option Addr)(c:Nat):Value:=.agg #[.int .i64 b.cl,.int .i64 b.req,.slice A b.ops.length c]
theorem nU{w:World}{A:Option Addr}{m:Nat}{l:List dU}(h:Src w 3 A m (cells l))(hm:0<m)(i:Nat)(p:dU)(hp:l[i]? =some p):
  ∃ad,A=some ad/\ad.block<w.heap.size/\w.cell? (ad.add (i*3))=some (.string p.key)/\w.cell? ⟨(ad.add (i*3)).block,(ad.add (i*3)).off+1,none⟩=some (.string p.val)/\w.cell? ⟨(ad.add (i*3)).block,(ad.add (i*3)).off+2,none⟩=some (.bool p.del):=by
 obtain⟨ad,rfl,had,hcell⟩:=h.2 hm;have k0:(cells l)[i*3]? =some (.string p.key):=by unfold cells;rw[flat_get cell 3 (by decide) (fun _=>rfl),show i*3/3=i by omega,show i*3%3=0 by omega,hp];rfl
 have k1:(cells l)[i*3+1]? =some (.string p.val):=by unfold cells;rw[flat_get cell 3 (by decide) (fun _=>rfl),show(i*3+1)/3=i by omega,show(i*3+1)%3=1 by omega,hp];rfl
 have k2:(cells l)[i*3+2]? =some (.bool p.del):=by unfold cells;rw[flat_get cell 3 (by decide) (fun _=>rfl),show(i*3+2)/3=i by omega,show(i*3+2)%3=2 by omega,hp];rfl
 refine⟨ad,rfl,had,hcell _ _ k0,?_,?_⟩
 ·rw[<-add_lit _ (by omega),add_add];exact hcell _ _ k1
 ·rw[<-add_lit _ (by omega),add_add];exact hcell _ _ k2
theorem Cb(s:ByteArray):s.toList.isEmpty=decide (s.size=0):=by rw[ByteArray.toList_eq,<-iw];cases h:bl s<;>simp[h]
theorem zl(s:ByteArray)(w:World):Calls Tryz.prog 86 #[.string s] w fun e w'=>e=.returned (.int .i64 (if s.size<1\/8<s.size then 10 else 0))/\w=w':=by
 have he:=Cb s;by_cases h0:s.size<1
 ·have h1:s.toList.isEmpty=true:=by rw[he];exact decide_eq_true (by omega)
  rw[if_pos (.inl h0)];clear he;go_enter Tryz.func86,Tryz.ntmps86;go_wp2;go_ret;exact⟨rfl,rfl⟩
 ·have h1:s.toList.isEmpty=false:=by rw[he];exact decide_eq_false (by omega)
  clear he;by_cases h8:8<s.size
  ·rw[if_pos (.inr h8)];go_enter Tryz.func86,Tryz.ntmps86;go_wp2;go_ret;exact⟨rfl,rfl⟩
  ·rw[if_neg (by omega)];go_enter Tryz.func86,Tryz.ntmps86;go_wp2;go_ret;exact⟨rfl,rfl⟩
theorem Be(s:ByteArray)(w:World):Calls Tryz.prog 117 #[.string s] w fun e w'=>e=.returned (.int .i64 (if s.size<1\/8<s.size then 10 else 0))/\w=w':=by
 by_cases h0:s.size<1
 ·rw[if_pos (.inl h0)];go_enter Tryz.func117,Tryz.ntmps117;go_wp2;go_ret;exact⟨rfl,rfl⟩
 ·by_cases h8:8<s.size
  ·rw[if_pos (.inr h8)];go_enter Tryz.func117,Tryz.ntmps117;go_wp2;go_ret;exact⟨rfl,rfl⟩
  ·rw[if_neg (by omega)];go_enter Tryz.func117,Tryz.ntmps117;go_wp2;go_ret;exact⟨rfl,rfl⟩
theorem one_any(o:dU)(a:ByteArray)(f:Bool)(w:World):Calls Tryz.prog 126 #[yS o,.string a,.bool f] w fun e w'=>e=.returned (.int .i64 (one o a f))/\Kept aj w w':=by
 obtain⟨k,v,d⟩:=o;have hk:=zl k;unfold one yS;dsimp only;by_cases h1:k.size<1\/8<k.size
 ·rw[if_pos h1]at hk⊢;have HK:=ah hk;clear hk h1;go_enter Tryz.func126,Tryz.ntmps126;go_wp2_with fail;refine(HK.out _).mono ?_;rintro e w2 ⟨rfl,rfl⟩;go_wp2;go_ret;exact⟨rfl,(Kept.refl _ _).alloc _⟩
 ·rw[if_neg h1]at hk⊢;have HK:=ah hk;clear hk h1;by_cases h2:8<v.size
  ·rw[if_pos h2];go_enter Tryz.func126,Tryz.ntmps126;go_wp2_with fail;refine(HK.out _).mono ?_;rintro e w2 ⟨rfl,rfl⟩;go_wp2;go_ret;exact⟨rfl,(Kept.refl _ _).alloc _⟩
  ·rw[if_neg h2];have he:=Cb v;by_cases h3:d=true/\v.size≠0
   ·rw[if_pos h3];have he2:v.toList.isEmpty=false:=by rw[he];exact decide_eq_false h3.2
    obtain⟨rfl,h4⟩:=h3;clear he;go_enter Tryz.func126,Tryz.ntmps126;go_wp2_with fail;refine(HK.out _).mono ?_;rintro e w2 ⟨rfl,rfl⟩;go_wp2;go_ret;exact⟨rfl,(Kept.refl _ _).alloc _⟩
   ·rw[if_neg h3];by_cases h4:f=false/\Op.bytesLess a.toList k.toList=false
    ·rw[if_pos h4];obtain⟨rfl,h5⟩:=h4;cases d
     ·clear he h3;go_enter Tryz.func126,Tryz.ntmps126;go_wp2_with fail;refine(HK.out _).mono ?_;rintro e w2 ⟨rfl,rfl⟩;go_wp2;go_ret;exact⟨rfl,(Kept.refl _ _).alloc _⟩
     ·have he2:v.toList.isEmpty=true:=by rw[he];exact decide_eq_true (Classical.byContradiction fun x=>h3 ⟨rfl,x⟩)
      clear he h3;go_enter Tryz.func126,Tryz.ntmps126;go_wp2_with fail;refine(HK.out _).mono ?_;rintro e w2 ⟨rfl,rfl⟩;go_wp2;go_ret;exact⟨rfl,(Kept.refl _ _).alloc _⟩
    ·rw[if_neg h4];have h5:f=true\/(f=false/\Op.bytesLess a.toList k.toList=true):=by
      cases f
      ·right;refine⟨rfl,?_⟩;cases hb:Op.bytesLess a.toList k.toList
       ·exact absurd ⟨rfl,hb⟩ h4
       ·rfl
      ·left;rfl
     clear h4;cases d
     ·clear he h3;rcases h5 with rfl|⟨rfl,h5⟩
      all_goals
       go_enter Tryz.func126,Tryz.ntmps126
       go_wp2_with fail
       refine(HK.out _).mono ?_
       rintro e w2 ⟨rfl,rfl⟩
       go_wp2
       go_ret
       exact⟨rfl,(Kept.refl _ _).alloc _⟩
     ·have he2:v.toList.isEmpty=true:=by rw[he];exact decide_eq_true (Classical.byContradiction fun x=>h3 ⟨rfl,x⟩)
      clear he h3;rcases h5 with rfl|⟨rfl,h5⟩
      all_goals
       go_enter Tryz.func126,Tryz.ntmps126
       go_wp2_with fail
       refine(HK.out _).mono ?_
       rintro e w2 ⟨rfl,rfl⟩
       go_wp2
       go_ret
       exact⟨rfl,(Kept.refl _ _).alloc _⟩
theorem IK(b:Batch):(chk b=1/\(b.cl<0\/(¬b.cl<0/\3<=b.cl)))\/(chk b=5/\0<=b.cl/\b.cl<3/\(b.req<1\/(¬b.req<1/\1073741824<b.req)))\/(chk b=6/\0<=b.cl/\b.cl<3/\1<=b.req/\b.req<=1073741824/\4<b.ops.length)\/(chk b=vG b.ops emp true/\0<=b.cl/\b.cl<3/\1<=b.req/\b.req<=1073741824/\b.ops.length<=4):=by
 unfold chk;by_cases h1:b.cl<0\/3<=b.cl
 ·rw[if_pos h1];left;exact⟨rfl,by omega⟩
 ·rw[if_neg h1];right;by_cases h2:b.req<1\/1073741824<b.req
  ·rw[if_pos h2];left;exact⟨rfl,by omega,by omega,by omega⟩
  ·rw[if_neg h2];right;by_cases h3:4<b.ops.length
   ·rw[if_pos h3];left;exact⟨rfl,by omega,by omega,by omega,by omega,h3⟩
   ·rw[if_neg h3];right;exact⟨rfl,by omega,by omega,by omega,by omega,by omega⟩
theorem wI(w:World)(b:Batch)(A:Option Addr)(c:Nat)(hs:Src w 3 A b.ops.length (cells b.ops)):
  Calls Tryz.prog 84 #[nT b A c] w fun e w'=>e=.returned (.int .i64 (chk b))/\Kept aj w w':=by
 have hc:=IK b;obtain⟨cl,req,l⟩:=b;dsimp only at hc hs;unfold nT;dsimp only;have HS:=ah hs;clear hs;rcases hc with⟨hc,h1|⟨h1,h2⟩⟩|⟨hc,h0,h1,h2|⟨h2,h3⟩⟩|⟨hc,h0,h1,h2,h3,h4⟩|⟨hc,h0,h1,h2,h3,h4⟩
 ·rw[hc];clear hc HS;go_enter Tryz.func84,Tryz.ntmps84;go_wp2;go_ret;exact⟨rfl,(Kept.refl _ _).alloc _⟩
 ·rw[hc];clear hc HS;go_enter Tryz.func84,Tryz.ntmps84;go_wp2;go_ret;exact⟨rfl,(Kept.refl _ _).alloc _⟩
 ·rw[hc];clear hc HS;have g1:¬cl<0:=by omega
  have g2:¬3<=cl:=by omega
  go_enter Tryz.func84,Tryz.ntmps84;go_wp2;go_ret;exact⟨rfl,(Kept.refl _ _).alloc _⟩
 ·rw[hc];clear hc HS;have g1:¬cl<0:=by omega
  have g2:¬3<=cl:=by omega
  go_enter Tryz.func84,Tryz.ntmps84;go_wp2;go_ret;exact⟨rfl,(Kept.refl _ _).alloc _⟩
 ·rw[hc];clear hc HS;have g1:¬cl<0:=by omega
  have g2:¬3<=cl:=by omega
  have g3:¬req<1:=by omega
  have g4:¬1073741824<req:=by omega
  go_enter Tryz.func84,Tryz.ntmps84;go_wp2;go_ret;exact⟨rfl,(Kept.refl _ _).alloc _⟩
 ·rw[hc];clear hc;have g1:¬cl<0:=by omega
  have g2:¬3<=cl:=by omega
  have g3:¬req<1:=by omega
  have g4:¬1073741824<req:=by omega
  go_enter Tryz.func84,Tryz.ntmps84;go_wp2;go_loopw [3,33] (fun v3 v33 wr=>∃(i:Nat) (a:ByteArray),i<=l.length/\v33=.int .i64 i/\v3=.string a/\vG l emp true=vG (l.drop i) a (decide (i=0))/\Kept aj w wr) (fun _ v33 _=>l.length-(intOf v33).toNat)
  case atStart=>exact⟨0,emp,Nat.zero_le _,rfl,rfl,rfl,by(repeat'(first|(with_reducible first|exact ay|apply aA|apply aB|apply aC|apply aF)|(right;simp;done)))⟩
  case round=>
   obtain⟨i,a,hi,rfl,rfl,he,hk⟩:=hrel;have HE:=ah he;clear he;have HK:=ah hk;clear hk;by_cases hil:i<l.length
   ·obtain⟨o,ho⟩:∃o,l[i]? =some o:=⟨_,lB0 hil⟩;have hoi:l[i]=o:=by rw[lB0 hil]at ho;exact Option.some.inj ho
    obtain⟨ad,rfl,had,e0,e1,e2⟩:=nU (HS.out.kept HK.out (fun _ _ x=>x)) (by omega) i o ho;have hd:=NF l i hil a (decide (i=0));rw[hoi]at hd;have HD:=ah hd;clear hd ho hoi;obtain⟨f,hf⟩:∃f,decide (i=0)=f:=⟨_,rfl⟩;rw[hf]at HD HE;have hone:∀(g:Bool) (W:World),g=f->Calls Tryz.prog 126 #[yS o,.string a,.bool g] W fun e w'=>e=.returned (.int .i64 (one o a f))/\Kept aj W w':=fun g W hg=>by rw[hg];exact one_any o a f W
    have HF:=ah hf;clear hf;have HO:=ah hone;clear hone;have HN:=ah (Has.new wr 143 #[.string o.key,.string o.val,.bool o.del]);go_wp2_with fail;refine(HO.out _ _ (by rw[<-HF.out];by_cases h0:i=0<;>simp[h0])).mono ?_;rintro e w2 ⟨rfl,hk⟩;have hh:=HN.out.kept hk (fun x=>x);have c0:w2.cell? ⟨wr.heap.size,0,none⟩=some (.string o.key):=hh.cell 0;have hk2:=(HK.out.alloc _).then hk;have gJ:=ah hk2;clear hk2 hk hh HN HK HO;by_cases hz:one o a f=0
    ·have hz2:(one o a f==0)=true:=by simp[hz]
     have hd2:=HD.out;rw[if_neg (by simp[hz])]at hd2;rw[hz]at hz2⊢;have HD2:=ah hd2;clear hd2 HD;have HZ:=ah hz;clear hz hz2;go_wp2;go_roundw
     case rel=>exact⟨i+1,o.key,by omega,by go_num,rfl,by
      rw[HE.out,HD2.out];have:decide (i+1=0)=false:=by simp
      rw[this],gJ.out⟩
     case measure=>simp[intOf];omega
    ·have hd2:=HD.out;rw[if_pos hz]at hd2;have hr:=HE.out.trans hd2;obtain⟨x,hx⟩:∃x,one o a f=x:=⟨_,rfl⟩;rw[hx]at hz hr⊢;have hz2:(x !=0)=true:=by simpa using hz
     have HR:=ah hr;clear HD HE hd2 hr hx hz;go_wp2;go_ret;exact⟨by rw[HR.out];rfl,gJ.out⟩
   ·obtain rfl:i=l.length:=by omega
    have hr:=HE.out;rw[List.drop_length,vG]at hr;have HR:=ah hr;clear HE hr;go_wp2;go_ret;exact⟨by rw[HR.out];rfl,HK.out⟩
end Ops
end Go.Proofs.YtgbigpdiacjbgaaGreat
namespace Go.Proofs.YtgbigpdiacjbgaaGreat.Keys
open Go.Proofs
abbrev BL:=List UInt8
def Cc:List BL->List BL
 |[]=>[]
 |a::l=>if a∈l then Cc l else a::Cc l
theorem Fj(l:List BL)(x:BL):x∈Cc l↔x∈l:=by
 induction l with
 |nil=>exact Iff.rfl
 |cons a l ih=>
  unfold Cc;split
  ·rename_i h;rw[ih,List.mem_cons];constructor
   ·exact .inr
   ·rintro(rfl|h2)
    ·exact h
    ·exact h2
  ·rw[List.mem_cons,List.mem_cons,ih]
theorem Oq(l:List BL):(Cc l).Nodup:=by
 induction l with
 |nil=>exact List.nodup_nil
 |cons a l ih=>
  unfold Cc;split
  ·exact ih
  ·rename_i h;exact List.nodup_cons.2 ⟨fun x=>h ((Fj l a).1 x),ih⟩
theorem Ux(l:List BL):(Cc l).length<=l.length:=by
 induction l with
 |nil=>exact Nat.le_refl _
 |cons a l ih=>
  unfold Cc;split
  ·simp;omega
  ·simp;omega
def Ce(l:List BL):List BL:=(Cc l).mergeSort leB
theorem YB(x:BL):¬x<x:=List.lt_irrefl x
theorem MZ{l:List BL}(h:l.Pairwise (· <·)):l.Nodup:=h.imp fun{a b} hab e=>by subst e;exact YB _ hab
theorem Qq{x y:BL}(h:x<y):x<=y:=List.le_of_lt h
theorem Qr{r:List BL}(h:r.Pairwise (· <·)):r.mergeSort leB=r:=
 List.mergeSort_of_pairwise (h.imp fun{a b} hab=>by simp only[leB,decide_eq_true_eq];exact Qq hab)
theorem set_perm{ss l:List BL}(hn:ss.Nodup)(hm:∀x,x∈ss↔x∈l):ss.mergeSort leB=Ce l:=
 mergeSort_of_perm ((List.perm_ext_iff_of_nodup hn (Oq l)).2 fun x=>(hm x).trans (Fj l x).symm)
theorem Ot{r l:List BL}(hp:r.Pairwise (· <·))(hm:∀x,x∈r↔x∈l):r=Ce l:=
 (Qr hp).symm.trans (set_perm (MZ hp) hm)
theorem mem_set(l:List BL)(x:BL):x∈Ce l↔x∈l:=by unfold Ce;rw[List.mem_mergeSort,Fj]
theorem XA(l:List BL):(Ce l).length<=l.length:=by unfold Ce;rw[List.length_mergeSort];exact Ux l
theorem Dw{r:List BL}{x:BL}{k:Nat}(h:r.Pairwise (· <·))(h1:∀(j:Nat) (p:BL),j<k->r[j]? =some p->p<x)(h2:∀p,r[k]? =some p->x<p):(r.take k++x::r.drop k).Pairwise (· <·):=by
 rw[List.pairwise_append];refine⟨h.sublist (List.take_sublist _ _),?_,?_⟩
 ·rw[List.pairwise_cons];refine⟨fun b hb=> ?_,h.sublist (List.drop_sublist _ _)⟩;obtain⟨j,hj⟩:=List.mem_iff_getElem?.1 hb;rw[List.getElem?_drop]at hj;cases j with
  |zero=>exact h2 b hj
  |succ j=>
   have hlt:k+(j+1)<r.length:=(lD0.1 hj).1;have hk:r[k]? =some r[k]:=lB0 (by omega);have e:=(lD0.1 hj).2;have:=List.pairwise_iff_getElem.1 h k (k+(j+1)) (by omega) hlt (by omega);rw[e]at this;exact List.lt_trans (h2 _ hk) this
 ·intro a ha b hb;obtain⟨j,hj⟩:=List.mem_iff_getElem?.1 ha;rw[List.getElem?_take]at hj;split at hj
  ·rename_i hjk;have ha:=h1 j a hjk hj;rcases List.mem_cons.1 hb with rfl|hb
   ·exact ha
   ·obtain⟨i,hi⟩:=List.mem_iff_getElem?.1 hb;rw[List.getElem?_drop]at hi;have e1:=lD0.1 hj;have e2:=lD0.1 hi;obtain⟨l1,e1⟩:=e1;obtain⟨l2,e2⟩:=e2;have:=List.pairwise_iff_getElem.1 h j (k+i) l1 l2 (by omega);rw[e1,e2]at this;exact this
  ·cases hj
theorem Hq{r:List BL}{x:BL}{k:Nat}(y:BL):y∈r.take k++x::r.drop k↔y=x\/y∈r:=by
 conv=>rhs;rw[<-List.take_append_drop k r]
 simp only[List.mem_append,List.mem_cons];constructor
 ·rintro(h|h|h)
  ·exact .inr (.inl h)
  ·exact .inl h
  ·exact .inr (.inr h)
 ·rintro(h|h|h)
  ·exact .inr (.inl h)
  ·exact .inl h
  ·exact .inr (.inr h)
end Go.Proofs.YtgbigpdiacjbgaaGreat.Keys
namespace Go.Proofs.YtgbigpdiacjbgaaGreat
open Go.RowKit Go.Maps
namespace Ops
abbrev BL:=List UInt8
abbrev Env:=BL->Option ByteArray
def Uy(f:Env)(k:ByteArray)(v:Option ByteArray):Env:=fun x=>if x=bl k then v else f x
theorem Fp:Keyed Tryz.prog 9:=string_keyed Tryz.underlying9
theorem YC{s:ByteArray}(h:s.size<=maxLen):keyOf Tryz.prog 9 (.string s)=some (.string (bl s)):=WideMaps.keyOf_string_mk Tryz.underlying9 h
def SMap(w:World)(b n:Nat)(f:Env):Prop:=
 ∃D:DataW Unit,w.ownsMap Tryz.prog 9 (plainElem Tryz.prog 9) b n D/\∀x:BL,has D (.string x)=(f x).isSome/\D.atKey (.string x) (.lit (.string []))=.lit (.string (bl ((f x).getD emp)))
theorem SMap.lt{w:World}{b n:Nat}{m:Env}(h:SMap w b n m):b<w.heap.size:=by obtain⟨D,h,_⟩:=h;exact h.lt
theorem SMap.kept{F:Nat->Prop}{w w':World}{b n:Nat}{m:Env}(h:SMap w b n m)(hk:Kept F w w')(hf:¬F b):SMap w' b n m:=by obtain⟨D,ho,hD⟩:=h;have hlt:=ho.lt;obtain⟨es,clock,hb,hF,hs,e⟩:=ho;exact⟨D,⟨es,clock,(hk.block b hlt hf).trans hb,hF,hs,e⟩,hD⟩
theorem SMap.mono{w:World}{b n n':Nat}{m:Env}(h:SMap w b n m)(hn:n<=n'):SMap w b n' m:=by obtain⟨D,ho,hD⟩:=h;exact⟨D,ho.mono hn,hD⟩
end Ops
end Go.Proofs.YtgbigpdiacjbgaaGreat
namespace Go.Proofs.YtgbigpdiacjbgaaGreat
namespace Ops
structure iC where
 key:ByteArray
 val:ByteArray
deriving DecidableEq
def Az(p:iC):List Value:=[.string p.key,.string p.val]
def bI(l:List iC):List Value:=l.flatMap Az
