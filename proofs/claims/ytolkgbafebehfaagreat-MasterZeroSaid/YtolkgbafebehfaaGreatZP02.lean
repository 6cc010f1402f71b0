/- Part 3 of what the proof needs. -/
import Derived.Test.YtolkgbafebehfaaGreatZP01
import Derived.Lib.SmallJoins
import Derived.Sort.KeysCollected
import Derived.Sort.Walk0
import Derived.Test.YtolkgbafebehfaaGreatRows
set_option linter.unusedSimpArgs false
set_option linter.unusedVariables false
set_option maxHeartbeats 32000000
set_option maxRecDepth 100000
namespace Go.Proofs.YtolkgbafebehfaaGreat
open Go.RowKit Go.WideShapes Go.ChangeShapes
theorem Oo{H:Type}{enc:TypeId×Value->H}{P:Program}{f:Func}{s:ChangeSpec}{apart fresh handsOn again:Bool}{W W':World}
  {args:Array Value} {v:Value} {ds gs:List (DataW H)} {before pa pv:List MemPlace}
  (hW:DataW.Whole enc P f.params.toList s.vars apart W args.toList ds gs before)
  (hres:∀(b:Nat) (sp:Nat->Bool) (hd:Bool),DataW.TrodAll enc P W' b sp hd f.resultTypes.toList (v.resultList f.resultTypes.size) (s.fn H (ds++gs)).results [])
  (hargs:∀sp:Nat->Bool,(∀p∈before,sp p.block=true)->DataW.TrodAll enc P W' 0 sp true f.params.toList args.toList (s.fn H (ds++gs)).args pa)
  (hvars:∀sp:Nat->Bool,(∀p∈before,sp p.block=true)->DataW.TrodVars enc P W' sp s.vars (s.fn H (ds++gs)).vars pv)
  (hsum:before=pa++pv) (hb:Below W.heap.size W W')
  (hok:∀(j:Nat) (t:TypeId) (r:Value),f.resultTypes[j]? =some t->(v.resultList f.resultTypes.size)[j]? =some r->Value.okWide P W' .any 0 t r):
  s.post enc P f apart fresh handsOn again W args v W':=by
 subst hsum
 have later:=hW
 have lt:∀p∈pa++pv,p.block<W.heap.size:=fun p hp=>hW.lt p hp
 obtain⟨_,_,_,_,_,Zl,hapart⟩:=hW
 have asked:∀p∈pa++pv,(fun b=>decide (b<W.heap.size)) p.block=true:=fun p hp=>decide_eq_true (lt p hp)
 have kept:World.keptBut W W' fun p=>p∈pa++pv/\p∈([]++pa)++pv:=World.keptBut_mono (fun p hp=>⟨hp,by simpa using hp⟩) (hb.frame (· ∈pa++pv))
 exact⟨ds,gs,_,[],pa,pv,later,hres _ _ _,hargs _ asked,hvars _ asked,World.keptBut_mono (fun p hp=>⟨hp.1,by simpa using hp.2⟩) kept,fun _=>
  ⟨hok,_,_,_,⟨[]++pa,pv,trodAll_append (hargs _ fun _ _=>rfl) (hres _ _ _),hvars _ fun _ _=>rfl,rfl,
   fun b off hp=>by
    have hin:MemPlace.cell b off∈pa++pv:=by simpa using hp
    rw[hb.frozen (lt _ hin)]
    exact Zl b off hin,
   fun ha=>by simpa using hapart ha⟩,fun p hp _=>by simpa using hp⟩⟩
theorem own:ownKnob Tryz.prog.godebug=none:=by kernel_rfl
theorem laid:laidOutB Tryz.prog=true:=by kernel_rfl
theorem aai{t:Nat}(h:Nat.blt t Tryz.prog.types.size=true):t<Tryz.prog.types.size:=Nat.le_of_ble_eq_true h
theorem FV{H:Type}{enc:TypeId×Value->H}{t:TypeId}{W W':World}{v:Value}{d:DataW H}{ps before:List MemPlace}{sp:Nat->Bool}
  (hr:Tryz.prog.readableRec t=true) (ht:Nat.blt t Tryz.prog.types.size=true)
  (h:DataW.Trod enc Tryz.prog W 0 (fun _=>true) true t v d ps) (hb:Below W.heap.size W W') (hlt:∀x∈before,x.block<W.heap.size)
  (hsp:∀x∈before,sp x.block=true) (hin:∀x∈ps,x∈before):DataW.Trod enc Tryz.prog W' 0 sp true t v d ps:=
 WideElems.Trod_stays laid hr (aai ht) h (fun x hx=>hb.same (hlt x (hin x hx))) fun x hx=>hsp x (hin x hx)
theorem add_lit(a:Addr){j:Nat}(h:0<j):a.add j=⟨a.block,a.off+j,none⟩:=by unfold Addr.add;rw[if_neg (by omega)]
theorem flat_get{α:Type}(cells:α->List Value)(C:Nat)(hC:0<C)(h1:∀a,(cells a).length=C):∀(l:List α) (j:Nat),(l.flatMap cells)[j]? =(l[j/C]?).bind fun a=>(cells a)[j%C]? :=by
 intro l
 induction l with
 |nil=>intro j;simp
 |cons a l ih=>
  intro j
  rw[List.flatMap_cons]
  rcases Nat.lt_or_ge j C with h|h
  ·rw[List.getElem?_append_left (by rw[h1];exact h),Nat.div_eq_of_lt h,Nat.mod_eq_of_lt h]
   simp
  ·rw[List.getElem?_append_right (by rw[h1];exact h),h1,ih]
   have e1:j/C=(j-C)/C+1:=by rw[Nat.div_eq_sub_div hC h]
   have e2:j%C=(j-C)%C:=by rw[Nat.mod_eq_sub_mod h]
   rw[e1,e2,List.getElem?_cons_succ]
theorem ug{H:Type}{enc:TypeId×Value->H}{P:Program}{W:World}{t e:TypeId}{v:Value}{d:DataW H}{ps:List MemPlace}{α:Type} [Inhabited α](cells:α->List Value)(good:α->Prop)(C:Nat)
  (ht:P.underlying t=some (.slice e)) (hC:P.cellsOf e=C) (hpos:0<C) (h1:∀a,(cells a).length=C)
  (each:∀(fuel:Nat) (cs:List Value) (y:DataW H×List MemPlace),DataW.trod enc P W 0 (fun _=>true) true fuel e cs=some y->∃a,cs=cells a/\good a)
  (h:DataW.Trod enc P W 0 (fun _=>true) true t v d ps) (hv:∃A n c,v=.slice A n c):
  ∃(A:Option Addr) (c:Nat) (l:List α),v=.slice A l.length c/\l.length<=c/\c<=maxLen/\Src W C A l.length (l.flatMap cells)/\(∀a∈l,good a)/\(A=none->l=[]/\c=0):=by
 obtain⟨A,n,c,rfl⟩:=hv
 obtain⟨fuel,hf⟩:=h
 rcases Deep.open_slice ht hf with⟨h0,_⟩|⟨a,len,cap,m,n',D,Pl,hcs,_,hl,hm,hmm,_,hi⟩
 ·obtain⟨rfl,rfl,rfl⟩:A=none/\n=0/\c=0:=by simpa [Value.cells]using h0
  exact⟨none,0,[],rfl,Nat.le_refl _,Nat.zero_le _,Src.nil W C none,fun a ha=>absurd ha List.not_mem_nil,fun _=>⟨rfl,rfl⟩⟩
 ·obtain⟨rfl,rfl,rfl⟩:A=some a/\n=len/\c=cap:=by simpa [Value.cells]using hcs
  have hml:n<=m:=by rw[hmm];split<;>omega
  have hall:∀i,∃x:α,i<n->(W.cells? 0 (a.add (i*C)) C=some (cells x)/\good x):=by
   intro i
   by_cases hin:i<n
   ·obtain⟨cs',h2,h3⟩:=hi i (by omega)
    rw[hC]at h2
    obtain⟨x,rfl,hg⟩:=each _ _ _ h3
    exact⟨x,fun _=>⟨h2,hg⟩⟩
   ·exact⟨default,fun h=>absurd h hin⟩
  obtain⟨f,hf⟩:=Classical.axiomOfChoice hall
  refine⟨some a,c,(List.range n).map f,by simp,by simpa using hl,hm,?_,?_,fun h=>by cases h⟩
  ·have hcell:∀j u,(((List.range n).map f).flatMap cells)[j]? =some u->W.cell? (a.add j)=some u:=by
    intro j u hu
    rw[flat_get cells C hpos h1]at hu
    rw[Option.bind_eq_some_iff]at hu
    obtain⟨x,hx,hu⟩:=hu
    rw[List.getElem?_map]at hx
    rw[Option.map_eq_some_iff]at hx
    obtain⟨i,hir,rfl⟩:=hx
    obtain⟨hlt,hie⟩:=List.getElem?_eq_some_iff.1 hir
    simp at hlt hie
    subst hie
    obtain⟨_,_,hat⟩:=World.cells?_some (hf (j/C) hlt).1
    have hjm:j%C<C:=Nat.mod_lt _ hpos
    have:=hat (j%C) hjm
    rw[add_add]at this
    rw[show j/C*C+j%C=j by rw[Nat.mul_comm];exact Nat.div_add_mod j C]at this
    rw[this,hu]
   refine⟨?_,fun h0=>⟨a,rfl,?_,hcell⟩⟩
   ·rw[List.length_flatMap]
    have hs:∀k,((List.range k).map fun _=>C).sum=k*C:=by
     intro k
     induction k with
     |zero=>simp
     |succ k ih=>rw[List.range_succ,List.map_append,List.sum_append,ih];simp[Nat.succ_mul]
    simp[h1,Function.comp_def,hs]
   ·have h0':0<n:=by simpa using h0
    have hz:(((List.range n).map f).flatMap cells)[0]? =(cells (f 0))[0]? :=by
     rw[flat_get cells C hpos h1]
     simp[h0']
    have h2:0<(cells (f 0)).length:=by rw[h1];exact hpos
    have h3:=hcell 0 _ (hz.trans (List.getElem?_eq_getElem h2))
    have h4:=block_lt_of_cell h3
    rw[block_add]at h4
    exact h4
  ·intro x hx
   obtain⟨i,hi2,rfl⟩:=List.mem_map.1 hx
   exact(hf i (by simpa using hi2)).2
end Go.Proofs.YtolkgbafebehfaaGreat
namespace Go.Proofs.YtolkgbafebehfaaGreat
open Go.RowKit Go.Shelf
set_option maxRecDepth 100000
namespace Ops
open Vn
abbrev Vt(o:qX):Value:=.agg #[.string o.key,.string o.val,.bool o.del]
abbrev Dp(b:Batch)(A:Option Addr)(c:Nat):Value:=.agg #[.int .i64 b.cl,.int .i64 b.req,.slice A b.ops.length c]
theorem IG{w:World}{A:Option Addr}{m:Nat}{l:List qX}(h:Src w 3 A m (cells l))(hm:0<m)(i:Nat)(p:qX)(hp:l[i]? =some p):
  ∃ad,A=some ad/\ad.block<w.heap.size/\w.cell? (ad.add (i*3))=some (.string p.key)/\w.cell? ⟨(ad.add (i*3)).block,(ad.add (i*3)).off+1,none⟩=some (.string p.val)/\w.cell? ⟨(ad.add (i*3)).block,(ad.add (i*3)).off+2,none⟩=some (.bool p.del):=by
 obtain⟨ad,rfl,had,hcell⟩:=h.2 hm
 have k0:(cells l)[i*3]? =some (.string p.key):=by
  unfold cells
  rw[flat_get cell 3 (by decide) (fun _=>rfl),show i*3/3=i by omega,show i*3%3=0 by omega,hp];rfl
 have k1:(cells l)[i*3+1]? =some (.string p.val):=by
  unfold cells
  rw[flat_get cell 3 (by decide) (fun _=>rfl),show(i*3+1)/3=i by omega,show(i*3+1)%3=1 by omega,hp];rfl
 have k2:(cells l)[i*3+2]? =some (.bool p.del):=by
  unfold cells
  rw[flat_get cell 3 (by decide) (fun _=>rfl),show(i*3+2)/3=i by omega,show(i*3+2)%3=2 by omega,hp];rfl
 refine⟨ad,rfl,had,hcell _ _ k0,?_,?_⟩
 ·rw[<-add_lit _ (by omega),add_add];exact hcell _ _ k1
 ·rw[<-add_lit _ (by omega),add_add];exact hcell _ _ k2
theorem yO(s:ByteArray):s.toList.isEmpty=decide (s.size=0):=by
 rw[ByteArray.toList_eq,<-dh]
 cases h:bl s<;>simp[h]
theorem DZ(s:ByteArray)(w:World):Calls Tryz.prog 338 #[.string s] w fun e w'=>e=.returned (.int .i64 (if s.size<1\/8<s.size then 10 else 0))/\w=w':=by
 have he:=yO s
 by_cases h0:s.size<1
 ·have h1:s.toList.isEmpty=true:=by rw[he];exact decide_eq_true (by omega)
  rw[if_pos (.inl h0)]
  clear he
  go_enter Tryz.func338,Tryz.ntmps338
  go_wp2
  go_ret
  exact⟨rfl,rfl⟩
 ·have h1:s.toList.isEmpty=false:=by rw[he];exact decide_eq_false (by omega)
  clear he
  by_cases h8:8<s.size
  ·rw[if_pos (.inr h8)]
   go_enter Tryz.func338,Tryz.ntmps338
   go_wp2
   go_ret
   exact⟨rfl,rfl⟩
  ·rw[if_neg (by omega)]
   go_enter Tryz.func338,Tryz.ntmps338
   go_wp2
   go_ret
   exact⟨rfl,rfl⟩
theorem one_any(o:qX)(a:ByteArray)(f:Bool)(w:World):Calls Tryz.prog 337 #[Vt o,.string a,.bool f] w fun e w'=>e=.returned (.int .i64 (one o a f))/\Kept aj w w':=by
 obtain⟨k,v,d⟩:=o
 have hk:=DZ k
 unfold one Vt
 dsimp only
 by_cases h1:k.size<1\/8<k.size
 ·rw[if_pos h1]at hk⊢
  have HK:=ah hk;clear hk h1
  go_enter Tryz.func337,Tryz.ntmps337
  go_wp2_with fail
  refine(HK.out _).mono ?_
  rintro e w2 ⟨rfl,rfl⟩
  go_wp2
  go_ret
  exact⟨rfl,(Kept.refl _ _).alloc _⟩
 ·rw[if_neg h1]at hk⊢
  have HK:=ah hk;clear hk h1
  by_cases h2:8<v.size
  ·rw[if_pos h2]
   go_enter Tryz.func337,Tryz.ntmps337
   go_wp2_with fail
   refine(HK.out _).mono ?_
   rintro e w2 ⟨rfl,rfl⟩
   go_wp2
   go_ret
   exact⟨rfl,(Kept.refl _ _).alloc _⟩
  ·rw[if_neg h2]
   have he:=yO v
   by_cases h3:d=true/\v.size≠0
   ·rw[if_pos h3]
    have he2:v.toList.isEmpty=false:=by rw[he];exact decide_eq_false h3.2
    obtain⟨rfl,h4⟩:=h3
    clear he
    go_enter Tryz.func337,Tryz.ntmps337
    go_wp2_with fail
    refine(HK.out _).mono ?_
    rintro e w2 ⟨rfl,rfl⟩
    go_wp2
    go_ret
    exact⟨rfl,(Kept.refl _ _).alloc _⟩
   ·rw[if_neg h3]
    by_cases h4:f=false/\Op.bytesLess a.toList k.toList=false
    ·rw[if_pos h4]
     obtain⟨rfl,h5⟩:=h4
     cases d
     ·clear he h3
      go_enter Tryz.func337,Tryz.ntmps337
      go_wp2_with fail
      refine(HK.out _).mono ?_
      rintro e w2 ⟨rfl,rfl⟩
      go_wp2
      go_ret
      exact⟨rfl,(Kept.refl _ _).alloc _⟩
     ·have he2:v.toList.isEmpty=true:=by rw[he];exact decide_eq_true (Classical.byContradiction fun x=>h3 ⟨rfl,x⟩)
      clear he h3
      go_enter Tryz.func337,Tryz.ntmps337
      go_wp2_with fail
      refine(HK.out _).mono ?_
      rintro e w2 ⟨rfl,rfl⟩
      go_wp2
      go_ret
      exact⟨rfl,(Kept.refl _ _).alloc _⟩
    ·rw[if_neg h4]
     have h5:f=true\/(f=false/\Op.bytesLess a.toList k.toList=true):=by
      cases f
      ·right;refine⟨rfl,?_⟩;cases hb:Op.bytesLess a.toList k.toList
       ·exact absurd ⟨rfl,hb⟩ h4
       ·rfl
      ·left;rfl
     clear h4
     cases d
     ·clear he h3
      rcases h5 with rfl|⟨rfl,h5⟩
      all_goals
       go_enter Tryz.func337,Tryz.ntmps337
       go_wp2_with fail
       refine(HK.out _).mono ?_
       rintro e w2 ⟨rfl,rfl⟩
       go_wp2
       go_ret
       exact⟨rfl,(Kept.refl _ _).alloc _⟩
     ·have he2:v.toList.isEmpty=true:=by rw[he];exact decide_eq_true (Classical.byContradiction fun x=>h3 ⟨rfl,x⟩)
      clear he h3
      rcases h5 with rfl|⟨rfl,h5⟩
      all_goals
       go_enter Tryz.func337,Tryz.ntmps337
       go_wp2_with fail
       refine(HK.out _).mono ?_
       rintro e w2 ⟨rfl,rfl⟩
       go_wp2
       go_ret
       exact⟨rfl,(Kept.refl _ _).alloc _⟩
theorem QG(b:Batch):(chk b=1/\(b.cl<0\/(¬b.cl<0/\3<=b.cl)))\/(chk b=5/\0<=b.cl/\b.cl<3/\(b.req<1\/(¬b.req<1/\1073741824<b.req)))\/(chk b=6/\0<=b.cl/\b.cl<3/\1<=b.req/\b.req<=1073741824/\4<b.ops.length)\/(chk b=uK b.ops emp true/\0<=b.cl/\b.cl<3/\1<=b.req/\b.req<=1073741824/\b.ops.length<=4):=by
 unfold chk
 by_cases h1:b.cl<0\/3<=b.cl
 ·rw[if_pos h1];left;exact⟨rfl,by omega⟩
 ·rw[if_neg h1]
  right
  by_cases h2:b.req<1\/1073741824<b.req
  ·rw[if_pos h2];left;exact⟨rfl,by omega,by omega,by omega⟩
  ·rw[if_neg h2]
   right
   by_cases h3:4<b.ops.length
   ·rw[if_pos h3];left;exact⟨rfl,by omega,by omega,by omega,by omega,h3⟩
   ·rw[if_neg h3];right;exact⟨rfl,by omega,by omega,by omega,by omega,by omega⟩
theorem yP(w:World)(b:Batch)(A:Option Addr)(c:Nat)(hs:Src w 3 A b.ops.length (cells b.ops)):
  Calls Tryz.prog 237 #[Dp b A c] w fun e w'=>e=.returned (.int .i64 (chk b))/\Kept aj w w':=by
 have hc:=QG b
 obtain⟨cl,req,l⟩:=b
 dsimp only at hc hs
 unfold Dp
 dsimp only
 have HS:=ah hs;clear hs
 rcases hc with⟨hc,h1|⟨h1,h2⟩⟩|⟨hc,h0,h1,h2|⟨h2,h3⟩⟩|⟨hc,h0,h1,h2,h3,h4⟩|⟨hc,h0,h1,h2,h3,h4⟩
 ·rw[hc];clear hc HS
  go_enter Tryz.func237,Tryz.ntmps237
  go_wp2
  go_ret
  exact⟨rfl,(Kept.refl _ _).alloc _⟩
 ·rw[hc];clear hc HS
  go_enter Tryz.func237,Tryz.ntmps237
  go_wp2
  go_ret
  exact⟨rfl,(Kept.refl _ _).alloc _⟩
 ·rw[hc];clear hc HS
  have g1:¬cl<0:=by omega
  have g2:¬3<=cl:=by omega
  go_enter Tryz.func237,Tryz.ntmps237
  go_wp2
  go_ret
  exact⟨rfl,(Kept.refl _ _).alloc _⟩
 ·rw[hc];clear hc HS
  have g1:¬cl<0:=by omega
  have g2:¬3<=cl:=by omega
  go_enter Tryz.func237,Tryz.ntmps237
  go_wp2
  go_ret
  exact⟨rfl,(Kept.refl _ _).alloc _⟩
 ·rw[hc];clear hc HS
  have g1:¬cl<0:=by omega
  have g2:¬3<=cl:=by omega
  have g3:¬req<1:=by omega
  have g4:¬1073741824<req:=by omega
  go_enter Tryz.func237,Tryz.ntmps237
  go_wp2
  go_ret
  exact⟨rfl,(Kept.refl _ _).alloc _⟩
 ·rw[hc];clear hc
  have g1:¬cl<0:=by omega
  have g2:¬3<=cl:=by omega
  have g3:¬req<1:=by omega
  have g4:¬1073741824<req:=by omega
  go_enter Tryz.func237,Tryz.ntmps237
  go_wp2
  go_loopw [3,33] (fun v3 v33 wr=>∃(i:Nat) (a:ByteArray),i<=l.length/\v33=.int .i64 i/\v3=.string a/\uK l emp true=uK (l.drop i) a (decide (i=0))/\Kept aj w wr) (fun _ v33 _=>l.length-(intOf v33).toNat)
  case atStart=>exact⟨0,emp,Nat.zero_le _,rfl,rfl,rfl,by(repeat'(first|(with_reducible first|exact ak|apply au|apply ay|apply aA|apply aB)|(right;simp;done)))⟩
  case round=>
   obtain⟨i,a,hi,rfl,rfl,he,hk⟩:=hrel
   have HE:=ah he;clear he
   have HK:=ah hk;clear hk
   by_cases hil:i<l.length
   ·obtain⟨o,ho⟩:∃o,l[i]? =some o:=⟨_,List.getElem?_eq_getElem hil⟩
    have hoi:l[i]=o:=by rw[List.getElem?_eq_getElem hil]at ho;exact Option.some.inj ho
    obtain⟨ad,rfl,had,e0,e1,e2⟩:=IG (HS.out.kept HK.out (fun _ _ x=>x)) (by omega) i o ho
    have hd:=Zi l i hil a (decide (i=0))
    rw[hoi]at hd
    have HD:=ah hd;clear hd ho hoi
    obtain⟨f,hf⟩:∃f,decide (i=0)=f:=⟨_,rfl⟩
    rw[hf]at HD HE
    have hone:∀(g:Bool) (W:World),g=f->Calls Tryz.prog 337 #[Vt o,.string a,.bool g] W fun e w'=>e=.returned (.int .i64 (one o a f))/\Kept aj W w':=fun g W hg=>by rw[hg];exact one_any o a f W
    have HF:=ah hf;clear hf
    have HO:=ah hone;clear hone
    have HN:=ah (Has.new wr 398 #[.string o.key,.string o.val,.bool o.del])
    go_wp2_with fail
    refine(HO.out _ _ (by rw[<-HF.out];by_cases h0:i=0<;>simp[h0])).mono ?_
    rintro e w2 ⟨rfl,hk⟩
    have hh:=HN.out.kept hk (fun x=>x)
    have c0:w2.cell? ⟨wr.heap.size,0,none⟩=some (.string o.key):=hh.cell 0
    have hk2:=(HK.out.alloc _).then hk
    have aQ:=ah hk2;clear hk2 hk hh HN HK HO
    by_cases hz:one o a f=0
    ·have hz2:(one o a f==0)=true:=by simp[hz]
     have hd2:=HD.out
     rw[if_neg (by simp[hz])]at hd2
     rw[hz]at hz2⊢
     have HD2:=ah hd2;clear hd2 HD
     have HZ:=ah hz;clear hz hz2
     go_wp2
     go_roundw
     case rel=>exact⟨i+1,o.key,by omega,by go_num,rfl,by
      rw[HE.out,HD2.out]
      have:decide (i+1=0)=false:=by simp
      rw[this],aQ.out⟩
     case measure=>simp[intOf];omega
    ·have hd2:=HD.out
     rw[if_pos hz]at hd2
     have hr:=HE.out.trans hd2
     obtain⟨x,hx⟩:∃x,one o a f=x:=⟨_,rfl⟩
     rw[hx]at hz hr⊢
     have hz2:(x !=0)=true:=by simpa using hz
     have HR:=ah hr
     clear HD HE hd2 hr hx hz
     go_wp2
     go_ret
     exact⟨by rw[HR.out];rfl,aQ.out⟩
   ·obtain rfl:i=l.length:=by omega
    have hr:=HE.out
    rw[List.drop_length,uK]at hr
    have HR:=ah hr;clear HE hr
    go_wp2
    go_ret
    exact⟨by rw[HR.out];rfl,HK.out⟩
end Ops
end Go.Proofs.YtolkgbafebehfaaGreat
namespace Go.Proofs.YtolkgbafebehfaaGreat.Keys
open Go.Proofs
abbrev BL:=List UInt8
def II:List BL->List BL
 |[]=>[]
 |a::l=>if a∈l then II l else a::II l
theorem Vu(l:List BL)(x:BL):x∈II l↔x∈l:=by
 induction l with
 |nil=>exact Iff.rfl
 |cons a l ih=>
  unfold II
  split
  ·rename_i h
   rw[ih,List.mem_cons]
   constructor
   ·exact .inr
   ·rintro(rfl|h2)
    ·exact h
    ·exact h2
  ·rw[List.mem_cons,List.mem_cons,ih]
def aaj(l:List BL):List BL:=(II l).mergeSort leB
theorem mem_set(l:List BL)(x:BL):x∈aaj l↔x∈l:=by
 unfold aaj
 rw[List.mem_mergeSort,Vu]
end Go.Proofs.YtolkgbafebehfaaGreat.Keys
namespace Go.Proofs.YtolkgbafebehfaaGreat
open Go.RowKit Go.Maps
set_option maxRecDepth 100000
namespace Ops
abbrev BL:=List UInt8
abbrev Env:=BL->Option ByteArray
def SMap(w:World)(b n:Nat)(f:Env):Prop:=
 ∃D:DataW Unit,w.ownsMap Tryz.prog 9 (plainElem Tryz.prog 9) b n D/\∀x:BL,has D (.string x)=(f x).isSome/\D.atKey (.string x) (.lit (.string []))=.lit (.string (bl ((f x).getD emp)))
theorem SMap.lt{w:World}{b n:Nat}{m:Env}(h:SMap w b n m):b<w.heap.size:=by
 obtain⟨D,h,_⟩:=h
 exact h.lt
theorem SMap.kept{F:Nat->Prop}{w w':World}{b n:Nat}{m:Env}(h:SMap w b n m)(hk:Kept F w w')(hf:¬F b):SMap w' b n m:=by
 obtain⟨D,ho,hD⟩:=h
 have hlt:=ho.lt
 obtain⟨es,clock,hb,hF,hs,e⟩:=ho
 exact⟨D,⟨es,clock,(hk.block b hlt hf).trans hb,hF,hs,e⟩,hD⟩
theorem SMap.made(w:World):SMap (w.alloc (.map #[] 0)) w.heap.size 0 (fun _=>none):=
 ⟨_,World.ownsMap_made w _ _ _,fun k=>⟨rfl,rfl⟩⟩
end Ops
end Go.Proofs.YtolkgbafebehfaaGreat
namespace Go.Proofs.YtolkgbafebehfaaGreat
namespace Ops
structure kT where
 key:ByteArray
 val:ByteArray
deriving DecidableEq
def oK(p:kT):List Value:=[.string p.key,.string p.val]
def aK(l:List kT):List Value:=l.flatMap oK
theorem oz(l:List kT):(aK l).length=l.length*2:=by
 induction l with
 |nil=>rfl
 |cons a l ih=>simp[aK,oK]at ih⊢;omega
end Ops
end Go.Proofs.YtolkgbafebehfaaGreat
namespace Go.Proofs.YtolkgbafebehfaaGreat
open Go.RowKit Go.Shelf
set_option maxRecDepth 100000
namespace Ops
open Vn
abbrev yQ(p:kT):Value:=.agg #[.string p.key,.string p.val]
theorem pair_cells{w:World}{A:Option Addr}{m:Nat}{l:List kT}(h:Src w 2 A m (aK l))(hm:0<m)(i:Nat)(p:kT)(hp:l[i]? =some p):
  ∃ad,A=some ad/\ad.block<w.heap.size/\w.cell? (ad.add (i*2))=some (.string p.key)/\w.cell? ⟨(ad.add (i*2)).block,(ad.add (i*2)).off+1,none⟩=some (.string p.val):=by
 obtain⟨ad,rfl,had,hcell⟩:=h.2 hm
 have k0:(aK l)[i*2]? =some (.string p.key):=by
  unfold aK
  rw[flat_get oK 2 (by decide) (fun _=>rfl),show i*2/2=i by omega,show i*2%2=0 by omega,hp];rfl
 have k1:(aK l)[i*2+1]? =some (.string p.val):=by
  unfold aK
  rw[flat_get oK 2 (by decide) (fun _=>rfl),show(i*2+1)/2=i by omega,show(i*2+1)%2=1 by omega,hp];rfl
 refine⟨ad,rfl,had,hcell _ _ k0,?_⟩
 rw[<-add_lit _ (by omega),add_add];exact hcell _ _ k1
end Ops
end Go.Proofs.YtolkgbafebehfaaGreat
namespace Go.Proofs.YtolkgbafebehfaaGreat
open Go.RowKit Go.WideShapes Go.ChangeShapes
set_option maxRecDepth 100000
namespace zY
open Ops
structure kF where
 cl:Int
 req:Int
 A:Option Addr
 c:Nat
 ops:List qX
 ts:Int
def Ic(e:kF):List Value:=[.int .i64 e.cl,.int .i64 e.req,.slice e.A e.ops.length e.c,.int .u64 e.ts]
def vU(l:List kF):List Value:=l.flatMap Ic
abbrev aak(e:kF):Value:=.agg #[.int .i64 e.cl,.int .i64 e.req,.slice e.A e.ops.length e.c,.int .u64 e.ts]
def mV(e:kF):Batch:=⟨e.cl,e.req,e.ops⟩
def Yd(W:World)(e:kF):Prop:=Src W 3 e.A e.ops.length (cells e.ops)/\e.ops.length<=e.c/\e.c<=maxLen/\(∀o∈e.ops,o.key.size<=maxLen/\o.val.size<=maxLen)/\0<=e.ts/\e.ts<=18446744073709551615/\e.ops.length*40<=140737488351232
def LOk(W:World)(l:List kF):Prop:=∀e∈l,Yd W e
theorem Yd.kept{W W':World}{e:kF}(h:Yd W e)(hk:Kept aj W W'):Yd W' e:=⟨h.1.kept hk (fun _ _ x=>x),h.2⟩
theorem LOk.kept{W W':World}{l:List kF}(h:LOk W l)(hk:Kept aj W W'):LOk W' l:=fun e he=>(h e he).kept hk
theorem FW{w:World}{A:Option Addr}{m:Nat}{l:List kF}(h:Src w 4 A m (vU l))(hm:0<m)(i:Nat)(e:kF)(he:l[i]? =some e):
  ∃ad,A=some ad/\ad.block<w.heap.size/\w.cell? (ad.add (i*4))=some (.int .i64 e.cl)/\w.cell? ⟨(ad.add (i*4)).block,(ad.add (i*4)).off+1,none⟩=some (.int .i64 e.req)/\
   w.cell? ⟨(ad.add (i*4)).block,(ad.add (i*4)).off+2,none⟩=some (.slice e.A e.ops.length e.c)/\w.cell? ⟨(ad.add (i*4)).block,(ad.add (i*4)).off+3,none⟩=some (.int .u64 e.ts):=by
 obtain⟨ad,rfl,had,hcell⟩:=h.2 hm
 have hk:∀j,j<4->(vU l)[i*4+j]? =(Ic e)[j]? :=by
  intro j hj
  unfold vU
  rw[flat_get Ic 4 (by decide) (fun _=>rfl),show(i*4+j)/4=i by omega,show(i*4+j)%4=j by omega,he]
  rfl
 refine⟨ad,rfl,had,hcell _ _ (hk 0 (by decide)),?_,?_,?_⟩
 ·rw[<-add_lit _ (by omega),add_add];exact hcell _ _ (hk 1 (by decide))
 ·rw[<-add_lit _ (by omega),add_add];exact hcell _ _ (hk 2 (by decide))
 ·rw[<-add_lit _ (by omega),add_add];exact hcell _ _ (hk 3 (by decide))
end zY
section
variable{H:Type}{enc:TypeId×Value->H}{W:World}{v:Value}{d:DataW H}{ps:List MemPlace}{r:Reach}{b0:Nat}
end
end Go.Proofs.YtolkgbafebehfaaGreat
