/- Part 20 of what the proof needs. -/
import Derived.Test.YtfjdpbbgfjhnlaaGreatMK18
set_option linter.unusedSimpArgs false
set_option linter.unusedVariables false
set_option maxHeartbeats 32000000
set_option maxRecDepth 100000
namespace Go.Proofs.YtfjdpbbgfjhnlaaGreat
open Go.RowKit Go.Shelf
attribute [local go_sem] Oper.semAt_some
set_option maxRecDepth 100000
namespace Wl
open aH Fr Vn Ops
theorem Q9(F:Fence)(n:Nat)(h5:F.fn 218)(hro:F.round=none)(p:Option Addr)(first:Int)(w:World):
  CallsIn F n Tryz.prog 218 #[.pointer p,.int .i64 first] w fun e w'=>e=.returned (.func (.func 252) #[] #[.pointer (some ⟨w.heap.size,0,none⟩),.pointer (some ⟨w.heap.size+1,0,none⟩)])/\w'=(w.alloc (.cells #[.pointer p] 29)).alloc (.cells #[.int .i64 first] 3):=by
 refine callsIn_of_wp Tryz.func218 rfl h5 ?_ hro
 simp only[Tryz.ntmps218,List.size_toArray,List.length_cons,List.length_nil,Nat.reduceAdd,Nat.reduceSub,Array.replicate_succ,Array.replicate_zero,List.push_toArray,List.append_toArray,List.nil_append,List.cons_append]
 gi_wp2
 go_ret
 exact⟨by simp,rfl⟩
def dU(L:List Sg):List (List UInt8):=L.flatMap fun x=>dh (aV (bl x.1.2))
theorem xQ(L:List Sg)(x:Sg):dU (L++[x])=dU L++dh (aV (bl x.1.2)):=by simp[dU]
def wR(s:ByteArray):Bool:=decide (oI (aV (bl s))=0)&&decide (s.size<256)
def yQ(a:Int)(L:List Sg):Int:=L.foldl (fun _ x=>if wR x.1.2 then x.1.1 else x.1.1+1) a
theorem OC(a:Int)(L:List Sg)(x:Sg):yQ a (L++[x])=if wR x.1.2 then x.1.1 else x.1.1+1:=by simp[yQ]
def Cj(w:World)(first:Int)(L:List Sg)(e:Ending)(w':World):Prop:=
 ∃A c,e=.returned (.tuple #[.slice A (dU L).length c,.int .i64 (yQ first L)])/\aF 9 1 w.heap.size w' A (dU L).length c (bZ (dU L))/\Below w.heap.size w w'
def RI(w:World)(first:Int)(pre:List Sg)(W:World):Prop:=
 (∃A c,Has W w.heap.size 94 #[.slice A (dU pre).length c]/\aF 9 1 (w.heap.size+4) W A (dU pre).length c (bZ (dU pre))/\Has W (w.heap.size+1) 3 #[.int .i64 (yQ first pre)])/\Below w.heap.size w W/\w.heap.size+4<=W.heap.size
theorem aeN(w:World)(first:Int)(B:Nat)(hB:w.heap.size+4<=B):OwnFrom B (RI w first):=fun pre W W' row h hg hr=>by
 obtain⟨⟨A,c,h5,hrow,h6⟩,hb,hw⟩:=h
 have hr2:∀r,row=some r->∃o:Obj,W.heap[r]? =some o/\o.isCells=false:=fun r e=>(hr r e).2
 have hk:Kept (fun k=>row=some k) W W':=(Kept.refl _ W).grownBy hg (fun k hk=> .inl hk)
 exact⟨⟨A,c,h5.kept hk (nS h5 hr2),En hrow hk hr2,h6.kept hk (nS h6 hr2)⟩,hb.trans (hk.below hb.size (fun k h=>by have:=(hr k h).1;omega)),Nat.le_trans hw hk.size⟩
def EE(w:World)(k:Nat):Prop:=k=w.heap.size\/k=w.heap.size+1
theorem KQ(x:Sg):(dh (aV (bl x.1.2))).length<=1000001:=by
 have h1:=Fh (aV (bl x.1.2))
 have h2:(aV (bl x.1.2)).length<=x.1.2.size+1:=by unfold aV;rw[bJ];exact sH _ _ _
 have:=x.2.1
 omega
theorem XL(L:List Sg):(dU L).length<=L.length*1000001:=by
 induction L with
 |nil=>exact Nat.le_refl _
 |cons x L ih=>
  have h1:=KQ x
  show(dh (aV (bl x.1.2))++dU L).length<=_
  rw[List.length_append,List.length_cons,Nat.succ_mul]
  omega
theorem aeO{w W w2 w' Wf:World}{first y:Int}{pre:List Sg}{x:Sg}{A A2 A':Option Addr}{c c2 c':Nat}{FF:Nat->Prop}(Gf:∀k,FF k->k<w.heap.size\/k=w.heap.size+2\/k=w.heap.size+3)
  (hrow:aF 9 1 (w.heap.size+4) W A (dU pre).length c (bZ (dU pre))) (hB:Below w.heap.size w W) (hW:w.heap.size+4<=W.heap.size) (hb2:Below W.heap.size W w2)
  (hown:w'.ownsRow 0 9 1 (.slice A' ((dU pre).length+(dh (aV (bl x.1.2))).length) c') ((dU pre).length+(dh (aV (bl x.1.2))).length) (bZ (dU pre)++bZ (dh (aV (bl x.1.2))))) (hgr:w2.grownBy w' (Value.slice A (dU pre).length c).ownBlock)
  (hbl:(Value.slice A' ((dU pre).length+(dh (aV (bl x.1.2))).length) c').ownBlock=(Value.slice A (dU pre).length c).ownBlock\/(Value.slice A' ((dU pre).length+(dh (aV (bl x.1.2))).length) c').ownBlock=some w2.heap.size)
  (hf:Kept (EE w) w' Wf) (r5:Has Wf w.heap.size 94 #[.slice A' ((dU pre).length+(dh (aV (bl x.1.2))).length) c']) (r6:Has Wf (w.heap.size+1) 3 #[.int .i64 y]) (hy:y=yQ first (pre++[x])):
  KeepsFrom (w.heap.size+4) W Wf/\KS FF (EE w) W Wf/\RI w first (pre++[x]) Wf:=by
 have hk12:Kept aj W w2:=Kept.of_below hb2 (fun k hk _=>hk)
 have hkg:Kept (fun k=>RowOf (.slice A (dU pre).length c) k) W w':=Kept.grown (hk12.mono (fun _ z=>z.elim)) hgr (fun k hk=> .inl hk)
 have hk:Kept (fun k=>k=w.heap.size\/k=w.heap.size+1\/RowOf (.slice A (dU pre).length c) k) W Wf:=
  (hkg.mono (fun k h=> .inr (.inr h))).then (hf.mono (fun k h=>by rcases h with h|h;exact .inl h;exact .inr (.inl h)))
 have hlow:∀k,k<w.heap.size+4->¬RowOf (.slice A (dU pre).length c) k:=fun k hk h=>by have:=hrow.2 _ h;omega
 have hrt:∀k,RowOf (.slice A (dU pre).length c) k->∃cs,Has W k 9 cs:=fun k h=>jC hrow.1 h
 have hnew:∀k,RowOf (.slice A' ((dU pre).length+(dh (aV (bl x.1.2))).length) c') k->w.heap.size+4<=k:=fun k h=>by
  rcases hbl with e|e
  ·exact hrow.2 k (e.symm.trans h)
  ·have h9:=e.symm.trans h
   injection h9 with h9
   have:=hb2.size
   omega
 refine⟨rZ hk (fun k hF hB6 o ho=> ?_),⟨hk.size,fun k hF=> ?_,fun k cs hE hh=> ?_⟩,⟨A',c',?_,⟨?_,?_⟩,?_⟩,?_,Nat.le_trans hW hk.size⟩
 ·rcases hF with h|h|h
  ·omega
  ·omega
  ·obtain⟨cs,hh⟩:=hrt k h
   unfold Has at hh
   rw[hh]at ho
   cases ho
   rfl
 ·have hlt:=Gf k hF
  refine hk.block k (by omega) (fun h=> ?_)
  rcases h with h|h|h
  ·omega
  ·omega
  ·exact hlow k (by omega) h
 ·refine hh.kept hk (fun h=> ?_)
  rcases h with h|h|h
  ·exact hE (.inl h)
  ·exact hE (.inr h)
  ·obtain⟨cs',h2⟩:=hrt k h
   exact Has.ne hh h2 (by decide) rfl
 ·rw[xQ,List.length_append];exact r5
 ·rw[xQ,List.length_append]
  have e1:bZ (dU pre++dh (aV (bl x.1.2)))=bZ (dU pre)++bZ (dh (aV (bl x.1.2))):=by simp[bZ]
  rw[e1]
  exact aC hown hf (fun g hg h=>by
   have:=hnew g hg
   rcases h with h|h<;>omega)
 ·intro k h
  rw[xQ,List.length_append]at h
  exact hnew k h
 ·rw[<-hy];exact r6
 ·exact hB.trans (hk.below hB.size (fun k h=>by
   rcases h with h|h|h
   ·omega
   ·omega
   ·have:=hrow.2 k h;omega))
theorem UB(l:List (List UInt8)):∀u∈bZ l,u.oneCell'=true:=by
 intro u hu
 unfold bZ at hu
 rw[List.mem_map]at hu
 obtain⟨x,_,rfl⟩:=hu
 rfl
attribute [local go_sem↓] Em
theorem Cm(w:World)(g nn:Nat)(F:Nat->Prop)(m:aH.Safe)(ps:List aH.Pc)(aU aK first:Int)(K:Nat)(ls:List Sg)
  (hd:aX w g F nn m ps aU aK) (hpi:∀p∈ps,I64 p.1) (hnn:nn<=100000) (hps:ps.length<=100000) (hsz:∀f,(dN m f).size+total ps<=140737488355328)
  (h1:1<=first) (h1':first<=1073741824) (h2:first+K<=4611686018427387904) (hK:bW m ps (first+K)=false) (hls:ls.map (·.1)=jH (bW m ps) (dataOf m ps) K first) (hlen:ls.length<=1000000):
  Calls Tryz.prog 136 #[.pointer (some ⟨g,0,none⟩),.int .i64 first] w (Cj w first ls):=by
 have hfn:∀k,Fence.wide.fn k:=fun _=>trivial
 refine(callsIn_wide (n:=5)).1 ?_
 refine callsIn_of_wp_marks Tryz.func136 rfl trivial ?_ rfl
 have q1:¬first<1:=by omega
 have q2:¬1073741824<first:=by omega
 have uJ:=ah hpi;have SB:=ah hls;have agV:=ah hsz;have HK:=ah hK;have HD:=ah hd
 clear hpi hls hsz hK hd
 simp only[Tryz.ntmps136,List.size_toArray,List.length_cons,List.length_nil,Nat.reduceAdd,Nat.reduceSub,Array.replicate_succ,Array.replicate_zero,List.push_toArray,List.append_toArray,List.nil_append,List.cons_append]
 refine wpIn_wide.2 ?_
 go_wp2
 go_step3
 go_wp2
 go_step3
 go_wp2_with (go_at_call 218;refine((callsIn_wide (n:=5)).1 (Q9 Fence.wide 5 trivial rfl _ _ _)).mono ?_;rintro e w' ⟨rfl,rfl⟩)
 obtain⟨W0,hW0⟩:∃W0,(((w.alloc (.cells #[.slice none 0 0] 94)).alloc (.cells #[.int .i64 first] 3)).alloc (.cells #[.pointer (some ⟨g,0,none⟩)] 29)).alloc (.cells #[.int .i64 first] 3)=W0:=⟨_,rfl⟩
 have hsz:W0.heap.size=w.heap.size+4:=by rw[<-hW0];simp
 have hk0:Kept aj w W0:=by rw[<-hW0];exact by(repeat'(first|(with_reducible first|exact ak|apply au|apply ay|apply aA|apply aB)|(right;simp;done)))
 have hB0:Below w.heap.size w W0:=Kept.below hk0 (Nat.le_refl _) (fun _ z=>z.elim)
 have hbd:Has W0 (w.heap.size+2) 29 #[.pointer (some ⟨g,0,none⟩)]:=by rw[<-hW0];exact(Has.bT _ 29 #[.pointer (some ⟨g,0,none⟩)] (by simp)).alloc _
 have hbf:Has W0 (w.heap.size+3) 3 #[.int .i64 first]:=by rw[<-hW0];exact Has.bT _ 3 #[.int .i64 first] (by simp)
 have hd0:aX W0 g F nn m ps aU aK:=HD.out.kept hk0 (fun _ _ z=>z)
 have hI0:RI w first [] W0:=by
  refine⟨⟨none,0,?_,⟨⟨rfl,.inl ⟨rfl,rfl⟩⟩,(fun k hk=>by cases hk)⟩,?_⟩,hB0,by rw[hsz];exact Nat.le_refl _⟩
  ·rw[<-hW0];exact(((Has.bT _ 94 #[.slice none 0 0] rfl).alloc _).alloc _).alloc _
  ·rw[<-hW0];exact((Has.bT _ 3 #[.int .i64 first] (by simp)).alloc _).alloc _
 rw[show w.heap.size+1+1=w.heap.size+2 from rfl,show w.heap.size+2+1=w.heap.size+3 from rfl]
 rw[hW0]
 clear hW0
 have lD:=ah hsz;clear hsz
 have OD:=ah (HD.out.lt)
 refine(wpIn_wide (n:=5)).1 ?_
 refine wpIn_rangeFunc_ownH rfl (by omega) (gf:=252) (lb:=#[.pointer (some ⟨w.heap.size+2,0,none⟩),.pointer (some ⟨w.heap.size+3,0,none⟩)]) rfl (hfn _) (enters_of Tryz.func252 (by kernel_rfl) rfl)
  (XK (5-1) (by omega) (w.heap.size+2) (w.heap.size+3) g nn F (EE w) m ps aU aK first K ls W0 hd0 hbd hbf (fun k h=>by have:=lD.out;rcases h with h|h<;>omega) uJ.out hnn hps agV.out h1 h2 HK.out SB.out) KS.trans
  (KS.put (fun k h=>by have:=lD.out;rcases h with h|h|h;exact Nat.lt_of_lt_of_le (OD.out k h) (by omega);omega;omega)) (Below.refl _ _) (fun _=>rfl)
  (RI w first) (fun _ _ _=>False) (aeN w first _ (by rw[lD.out];exact Nat.le_refl _)) (fun _ _ _ _ _ h _ _=>h) hI0
  (fun x a' W=>a'={tmps:=#[.pointer (some ⟨g,0,none⟩),.int .i64 first,undef,undef,.slice none 0 0,.int .i64 0,.pointer (some ⟨w.heap.size,0,none⟩),.pointer (some ⟨w.heap.size+1,0,none⟩),.int .i64 x.1.1,.string x.1.2,undef,undef,undef,.pointer (some ⟨g,0,none⟩),.bool false,.bool false,.int .i64 first,.bool (decide (first<1)),.bool (decide (first<1)),.bool (decide (first<1)),.int .i64 first,.bool (decide (1073741824<first)),.bool (decide (first<1)||decide (1073741824<first)),undef,.int .i64 first,.pointer (some ⟨g,0,none⟩),.int .i64 first,.func (.func 252) #[] #[.pointer (some ⟨w.heap.size+2,0,none⟩),.pointer (some ⟨w.heap.size+3,0,none⟩)],.int .i64 x.1.1,.string x.1.2,undef,undef,undef,undef,undef,undef,undef,undef,undef,undef,undef,undef,undef,undef,undef,undef,undef,undef,undef,undef,undef],defers:=[]})
  (fun x a' _ X Y row hs hg hr=>hs)
  ?assign ?body ?done ?stop
 case assign=>
  rintro l pre x W K hI hK
  gi_wp2
  exact hK _ _ (KeepsFrom.refl _ _) KS.refl hI rfl
 case body=>
  rintro l pre x a' W hl ⟨r,hr⟩ ⟨⟨A,c,hb5,hrow,hb6⟩,hB,zu⟩ rfl hlt
  have hal:=Ot W x.1.2 x.2.1
  have hpl:=XL pre
  have hxl:=KQ x
  have hx1:=x.2.2.1
  have hx2:=x.2.2.2
  have hend:∀(w2:World) (A2:Option Addr) (c2:Nat),aF 9 1 W.heap.size w2 A2 (dh (aV (bl x.1.2))).length c2 (bZ (dh (aV (bl x.1.2))))->Below W.heap.size W w2->
    ∃A' c' w',(appG #[94,94] 94 #[.slice A (dU pre).length c,.slice A2 (dh (aV (bl x.1.2))).length c2]).run Tryz.prog w2=.ok (.slice A' ((dU pre).length+(dh (aV (bl x.1.2))).length) c') w'/\
     Has w2 w.heap.size 94 #[.slice A (dU pre).length c]/\Has w' w.heap.size 94 #[.slice A (dU pre).length c]/\Has w' (w.heap.size+1) 3 #[.int .i64 (yQ first pre)]/\
     ∀Wf y,Kept (EE w) w' Wf->Has Wf w.heap.size 94 #[.slice A' ((dU pre).length+(dh (aV (bl x.1.2))).length) c']->Has Wf (w.heap.size+1) 3 #[.int .i64 y]->y=yQ first (pre++[x])->
      ownPostG W0.heap.size (KS (fun k=>F k\/k=w.heap.size+2\/k=w.heap.size+3) (EE w)) (RI w first) (fun _ _ _=>False) (pre++[x]) W Exit.normal {tmps:=#[],defers:=[]} Wf:=by
   intro w2 A2 c2 hn2 hb2
   have hk12:Kept aj W w2:=Kept.of_below hb2 (fun k hk _=>hk)
   obtain⟨v',w',hrun,hown,hgr,hbl⟩:=vF (P:=Tryz.prog) (ty:=94) (w:=w2) xZ (v:=.slice A (dU pre).length c) (n:=(dU pre).length) (xs:=bZ (dU pre)) (aC hrow.1 hk12 (fun _ _ z=>z)) (A:=A2) (m:=(dh (aV (bl x.1.2))).length) (c:=c2) (news:=bZ (dh (aV (bl x.1.2)))) (Src.bC hn2.1) (UB _) (by unfold maxLen;omega) (by omega)
   obtain⟨A',c',rfl,_⟩:=BF hown
   have hkg:Kept (fun k=>RowOf (.slice A (dU pre).length c) k) w2 w':=Kept.grown (Kept.refl _ w2) hgr (fun k hk=> .inl hk)
   have hlow:∀k,k<w.heap.size+4->¬RowOf (.slice A (dU pre).length c) k:=fun k hk h=>by have:=hrow.2 _ h;omega
   refine⟨A',c',w',hrun,hb5.kept hk12 (fun z=>z),(hb5.kept hk12 (fun z=>z)).kept hkg (hlow _ (by omega)),(hb6.kept hk12 (fun z=>z)).kept hkg (hlow _ (by omega)),fun Wf y h1 h2 h3 h4=> ?_⟩
   have h5:=aeO (A2:=A2) (c2:=c2) (FF:=fun k=>F k\/k=w.heap.size+2\/k=w.heap.size+3) (fun k h=>by rcases h with h|h|h;exact .inl (OD.out k h);exact .inr (.inl h);exact .inr (.inr h)) hrow hB zu hb2 hown hgr hbl h1 h2 h3 h4
   show KeepsFrom W0.heap.size _ _/\_
   rw[lD.out]
   exact h5
  have HAL:=ah hal;have jv:=ah hend;have vk:=ah (OC first pre x)
  clear hal hend hpl hxl hb5 hrow hb6 hB
  obtain⟨⟨x1,x2⟩,hxp⟩:=x
  dsimp only at*
  gi_wp2_with (gi_at_call 134;(refine(callsIn_wide.2 HAL.out).mono ?_;rintro e w2 ⟨A2,c2,rfl,hn2,hb2⟩;obtain⟨A',c',w',hrun,um,h5,h6,hfin⟩:=jv.out w2 A2 c2 hn2 hb2;have d0:=um.cell 0;have bP:=ah hfin;have f0:=h5.frozen 0;have f1:=h6.frozen 0;have e0:=h5.cell 0;have e1:=h6.cell 0;have H5:=ah h5;have H6:=ah h6;clear hn2 hb2 hfin um h5 h6))
  ·refine bP.out _ _ ((((Kept.refl _ w').put (.inl (.inl rfl))).put (.inl (.inr rfl)))) ((H5.out.dB rfl).past (by omega)) ((H6.out.past (by omega)).dB rfl) ?_
   rw[vk.out,if_pos]
   have h8:oI (aV (bl x2))=0:=by assumption
   have h9:(x2.size:Int)<256:=by assumption
   simp[wR,h8];omega
  ·refine bP.out _ _ (((((Kept.refl _ w').put (.inl (.inl rfl))).put (.inl (.inr rfl))).put (.inl (.inr rfl)))) (((H5.out.dB rfl).past (by omega)).past (by omega)) (((H6.out.past (by omega)).dB rfl).dB rfl) ?_
   rw[vk.out,if_neg]
   have h9:256<=(x2.size:Int):=by assumption
   simp[wR];omega
  ·refine bP.out _ _ (((((Kept.refl _ w').put (.inl (.inl rfl))).put (.inl (.inr rfl))).put (.inl (.inr rfl)))) (((H5.out.dB rfl).past (by omega)).past (by omega)) (((H6.out.past (by omega)).dB rfl).dB rfl) ?_
   rw[vk.out,if_neg]
   have h8:¬oI (aV (bl x2))=0:=by assumption
   simp[wR,h8]
 case done=>
  rintro D xs W hD rfl ⟨⟨A,c,hb5,hrow,hb6⟩,hB,zu⟩ hK
  have hDW:w.heap.size+4<=D:=by have:=lD.out;omega
  have e0:W.cell? ⟨w.heap.size,0,none⟩=some (.slice A (dU xs).length c):=hb5.cell 0
  have e1:W.cell? ⟨w.heap.size+1,0,none⟩=some (.int .i64 (yQ first xs)):=hb6.cell 0
  have hfin:∀(tmps:Array Value) (k:Nat),tmps.getD 4 undef=.slice A (dU xs).length c->tmps.getD 5 undef=.int .i64 (yQ first xs)->
    bodyPostM Fence.wide 5 Tryz.prog Tryz.f136 (Cj w first xs) Exit.ret {tmps:=tmps,defers:=[{target:=.collected D,args:=#[]}]} W.drew:=by
   intro tmps k p0 p1
   have KJ:W.drew.heap[D]? =some (.deferred (some [])):=hK
   refine⟨by simp,.inl ⟨_,_,rfl,run_takeDeferred KJ,?_⟩⟩
   have q0:tmps[4]?.getD undef=.slice A (dU xs).length c:=by simpa using p0
   have q1:tmps[5]?.getD undef=.int .i64 (yQ first xs):=by simpa using p1
   refine⟨_,?_,A,c,rfl,⟨ownsRow_putObj (W:=W.drew) hrow.1 _ KJ rfl,fun g hg=>Nat.le_trans (by omega) (hrow.2 g hg)⟩,hB.drew.trans (belowK_b (w:=w) (Nat.le_refl _) W.drew D _ _ (by omega) KJ rfl rfl)⟩
   have e:Tryz.f136.results=#[.tmp 4,.tmp 5]:=rfl
   simp only[results,e]
   simp[Sem.run_bind,Result.andThen,q0,q1,go_sem]
  have bP:=ah hfin
  clear hfin hrow hB hb5 hb6
  go_wp2
  go_region
  all_goals
   go_wp2
   refine bP.out _ 0 ?_ ?_<;>rfl
 case stop=>
  rintro D cc pre W hD hSp h hK
  exact h.elim
end Wl
end Go.Proofs.YtfjdpbbgfjhnlaaGreat
namespace Go.Proofs.YtfjdpbbgfjhnlaaGreat
set_option maxRecDepth 100000
namespace Wl
open aH Fr Vn Ops
structure oN where
 ts:List (List UInt8)
 q:List UInt8
def pO(f:oN):List UInt8:=dP f.ts++f.q
structure SC(f:oN):Prop where
 ts:∀t∈f.ts,t.length<=65536
 q:∃t':List UInt8,t'.length<=65536/\f.q<+:bI t'/\f.q.length<(bI t').length
 size:(pO f).length<=66000
def full(f:oN):Prop:=f.q≠[]\/256<=(pO f).length
instance(f:oN):Decidable (full f):=by unfold full;exact inferInstance
abbrev St:=List oN
def lastOf:St->Nat
 |[]=>0
 |f::R=>if full f then R.length+1 else R.length
def app(R:St)(t:List UInt8):St:=match R with
 |[]=>[⟨[t],[]⟩]
 |f::R=>if full f then ⟨[t],[]⟩::f::R else⟨f.ts++[t],[]⟩::R
def tail(R:St)(q:List UInt8):St:=match R with
 |[]=>[⟨[],q⟩]
 |f::R=>if full f then ⟨[],q⟩::f::R else⟨f.ts,q⟩::R
def lF:St->Nat->List UInt8
 |[],_=>[]
 |f::R,i=>if i=R.length then pO f else lF R i
def texts:St->List (List UInt8)
 |[]=>[]
 |f::R=>texts R++f.ts
def Ok(R:St):Prop:=∀f∈R,SC f
theorem Fp{R:St}{i:Nat}(h:R.length<=i):lF R i=[]:=by
 induction R with
 |nil=>rfl
 |cons f R ih=>simp only[lF];rw[if_neg (by simp at h;omega),ih (by simp at h;omega)]
theorem Es(R:St):lastOf R<=R.length:=by
 cases R with
 |nil=>exact Nat.le_refl _
 |cons f R=>simp only[lastOf];split<;>simp
theorem zD{f:oN}{R:St}(h:full f):lastOf (f::R)=R.length+1:=by simp only[lastOf];rw[if_pos h]
theorem CB{f:oN}{R:St}(h:¬full f):lastOf (f::R)=R.length:=by simp only[lastOf];rw[if_neg h]
theorem GN{f:oN}{R:St}{t:List UInt8}(h:full f):app (f::R) t=⟨[t],[]⟩::f::R:=by simp only[app];rw[if_pos h]
theorem JO{f:oN}{R:St}{t:List UInt8}(h:¬full f):app (f::R) t=⟨f.ts++[t],[]⟩::R:=by simp only[app];rw[if_neg h]
theorem Et{f:oN}{R:St}{t:List UInt8}(h:full f):tail (f::R) t=⟨[],t⟩::f::R:=by simp only[tail];rw[if_pos h]
theorem GR{f:oN}{R:St}{t:List UInt8}(h:¬full f):tail (f::R) t=⟨f.ts,t⟩::R:=by simp only[tail];rw[if_neg h]
theorem II(ts:List (List UInt8))(t:List UInt8):dP (ts++[t])=dP ts++bI t:=by simp[dP]
theorem adv(R:St)(t:List UInt8)(i:Nat):lF (app R t) i=lF R i++if i=lastOf R then bI t else []:=by
 cases R with
 |nil=>
  simp only[app,lF,lastOf,List.length_nil]
  by_cases h:i=0<;>simp[h,pO,dP]
 |cons f R=>
  by_cases hf:full f
  ·rw[GN hf,zD hf]
   simp only[lF,List.length_cons]
   by_cases h:i=R.length+1
   ·subst h
    rw[if_pos rfl,if_pos rfl,if_neg (by omega),Fp (by omega)]
    simp[pO,dP]
   ·rw[if_neg h,if_neg h,List.append_nil]
  ·rw[JO hf,CB hf]
   simp only[lF]
   by_cases h:i=R.length
   ·rw[if_pos h,if_pos h,if_pos h]
    have hq:f.q=[]:=by
     rcases Classical.em (f.q=[])with h|h
     ·exact h
     ·exact absurd (.inl h) hf
    simp[pO,hq,II]
   ·rw[if_neg h,if_neg h,if_neg h,List.append_nil]
theorem adw(R:St)(t:List UInt8)(i:Nat):i<(app R t).length↔i<R.length\/i=lastOf R:=by
 cases R with
 |nil=>simp[app,lastOf]
 |cons f R=>
  by_cases hf:full f
  ·rw[GN hf,zD hf];simp;omega
  ·rw[JO hf,CB hf];simp;omega
theorem aaU(R:St)(q:List UInt8)(i:Nat):lF (tail R q) i=lF R i++if i=lastOf R then q else []:=by
 cases R with
 |nil=>
  simp only[tail,lF,lastOf,List.length_nil]
  by_cases h:i=0<;>simp[h,pO,dP]
 |cons f R=>
  by_cases hf:full f
  ·rw[Et hf,zD hf]
   simp only[lF,List.length_cons]
   by_cases h:i=R.length+1
   ·subst h
    rw[if_pos rfl,if_pos rfl,if_neg (by omega),Fp (by omega)]
    simp[pO,dP]
   ·rw[if_neg h,if_neg h,List.append_nil]
  ·rw[GR hf,CB hf]
   simp only[lF]
   by_cases h:i=R.length
   ·rw[if_pos h,if_pos h,if_pos h]
    have hq:f.q=[]:=by
     rcases Classical.em (f.q=[])with h|h
     ·exact h
     ·exact absurd (.inl h) hf
    simp[pO,hq]
   ·rw[if_neg h,if_neg h,if_neg h,List.append_nil]
theorem aaV(R:St)(q:List UInt8)(i:Nat):i<(tail R q).length↔i<R.length\/i=lastOf R:=by
 cases R with
 |nil=>simp[tail,lastOf]
 |cons f R=>
  by_cases hf:full f
  ·rw[Et hf,zD hf];simp;omega
  ·rw[GR hf,CB hf];simp;omega
theorem KR(R:St)(t:List UInt8):texts (app R t)=texts R++[t]:=by
 cases R with
 |nil=>simp[app,texts]
 |cons f R=>simp only[app];split<;>simp[texts]
theorem UC(R:St)(q:List UInt8):texts (tail R q)=texts R:=by
 cases R with
 |nil=>simp[tail,texts]
 |cons f R=>simp only[tail];split<;>simp[texts]
theorem CG{t:List UInt8}(h:t.length<=65536):(bI t).length<=65549:=by
 rw[og]
 have:=mD (n:=t.length) (by omega)
 omega
theorem OE:∃t':List UInt8,t'.length<=65536/\([]:List UInt8)<+:bI t'/\([]:List UInt8).length<(bI t').length:=
 ⟨[],Nat.zero_le _,List.nil_prefix,by rw[og];simp⟩
theorem XM{R:St}(h:Ok R){t:List UInt8}(ht:t.length<=65536):Ok (app R t):=by
 have hfr:=CG ht
 have hnew:SC ⟨[t],[]⟩:=⟨fun x hx=>by simp at hx;subst hx;exact ht,OE,by simp[pO,dP];omega⟩
 cases R with
 |nil=>intro f hf;simp[app]at hf;subst hf;exact hnew
 |cons f R=>
  simp only[app]
  split
  ·intro g hg
   rcases List.mem_cons.1 hg with rfl|hg
   ·exact hnew
   ·exact h g hg
  ·rename_i hf
   intro g hg
   rcases List.mem_cons.1 hg with rfl|hg
   ·have ho:=h f (by simp)
    refine⟨fun x hx=> ?_,OE,?_⟩
    ·rcases List.mem_append.1 hx with hx|hx
     ·exact ho.ts x hx
     ·simp at hx;subst hx;exact ht
    ·have h2:¬256<=(pO f).length:=fun z=>hf (.inr z)
     simp[pO,II]at h2⊢
     omega
   ·exact h g (List.mem_cons_of_mem _ hg)
theorem adx{R:St}(h:Ok R){t q:List UInt8}(ht:t.length<=65536)(hq:q<+:bI t)(hl:q.length<(bI t).length):Ok (tail R q):=by
 have hfr:=CG ht
 have hnew:SC ⟨[],q⟩:=⟨fun x hx=>by simp at hx,⟨t,ht,hq,hl⟩,by simp[pO,dP];omega⟩
 cases R with
 |nil=>intro f hf;simp[tail]at hf;subst hf;exact hnew
 |cons f R=>
  simp only[tail]
  split
  ·intro g hg
   rcases List.mem_cons.1 hg with rfl|hg
   ·exact hnew
   ·exact h g hg
  ·rename_i hf
   intro g hg
   rcases List.mem_cons.1 hg with rfl|hg
   ·have ho:=h f (by simp)
    refine⟨ho.ts,⟨t,ht,hq,hl⟩,?_⟩
    have h2:¬256<=(pO f).length:=fun z=>hf (.inr z)
    simp[pO]at h2⊢
    omega
   ·exact h g (List.mem_cons_of_mem _ hg)
def cur(R:St)(T:List (List UInt8)):St:=T.foldl app R
theorem CJ(R:St)(t:List UInt8)(T:List (List UInt8)):cur R (t::T)=cur (app R t) T:=rfl
theorem OG(R:St)(T:List (List UInt8))(t:List UInt8):cur R (T++[t])=app (cur R T) t:=by simp[cur]
theorem qU(R:St):∀T,texts (cur R T)=texts R++T:=by
 intro T
 induction T generalizing R with
 |nil=>simp[cur]
 |cons t T ih=>rw[CJ,ih,KR];simp
theorem OH{R:St}(h:Ok R){T:List (List UInt8)}(hT:∀t∈T,t.length<=65536):Ok (cur R T):=by
 induction T generalizing R with
 |nil=>exact h
 |cons t T ih=>exact ih (XM h (hT t (by simp))) (fun x hx=>hT x (by simp[hx]))
theorem GU(R:St)(t:List UInt8):(app R t).length<=R.length+1:=by
 cases R with
 |nil=>simp[app]
 |cons f R=>simp only[app];split<;>simp
theorem XN(R:St)(t:List UInt8):(tail R t).length<=R.length+1:=by
 cases R with
 |nil=>simp[tail]
 |cons f R=>simp only[tail];split<;>simp
theorem CO(R:St):∀T,(cur R T).length<=R.length+T.length:=by
 intro T
 induction T generalizing R with
 |nil=>exact Nat.le_refl _
 |cons t T ih=>
  have h1:=ih (app R t)
  have h2:=GU R t
  rw[CJ,List.length_cons]
  omega
def jc(first:Int):St->List (List UInt8)->List Pc
 |_,[]=>[]
 |R,t::T=>(first+lastOf R,bG (bI t))::jc first (app R t) T
theorem CQ(first:Int):∀(R:St) (T:List (List UInt8)) (t:List UInt8),jc first R (T++[t])=jc first R T++[(first+lastOf (cur R T),bG (bI t))]
 |R,[],t=>rfl
 |R,x::T,t=>by
  show _::jc first (app R x) (T++[t])=_::(jc first (app R x) T++_)
  rw[CQ first (app R x) T t]
  rfl
theorem wS(first:Int):∀(R:St) (T:List (List UInt8)),(jc first R T).length=T.length
 |R,[]=>rfl
 |R,t::T=>by show(_::jc first (app R t) T).length=_;simp[wS first (app R t) T]
def fileAt(R:St)(i:Nat):Option ByteArray:=if i<R.length then some (bG (lF R i))else none
def Bh(first:Int)(R:St)(m:aH.Safe):Prop:=∀i:Nat,m (first+i)=fileAt R i
def mine(first:Int)(p:aH.Pc):Bool:=decide (first<=p.1)
theorem SE(a b:List UInt8):bG a++bG b=bG (a++b):=by
 apply ByteArray.ext
 simp[bG]
theorem Af(R:St)(i:Nat):(fileAt R i).getD ⟨#[]⟩=bG (lF R i):=by
 unfold fileAt
 split
 ·rfl
 ·rw[Fp (by omega)];rfl
theorem SG{first:Int}{R:St}{m:aH.Safe}(h:Bh first R m)(t:List UInt8):Bh first (app R t) (nN m (first+lastOf R) (dN m (first+lastOf R)++bG (bI t))):=by
 intro i
 have hl:=adw R t i
 have hb:=adv R t i
 unfold nN dN
 rw[h (lastOf R),Af,SE]
 by_cases e:i=lastOf R
 ·subst e
  rw[if_pos rfl]
  unfold fileAt
  rw[if_pos (hl.2 (.inr rfl)),hb,if_pos rfl]
 ·rw[if_neg (by omega),h i]
  unfold fileAt
  rw[hb,if_neg e,List.append_nil]
  by_cases h2:i<R.length
  ·rw[if_pos h2,if_pos (hl.2 (.inl h2))]
  ·rw[if_neg h2,if_neg (fun z=>by rcases hl.1 z with z|z;exact h2 z;exact e z)]
theorem aaW{first:Int}{R:St}{m:aH.Safe}(h:Bh first R m)(q:List UInt8):Bh first (tail R q) (nN m (first+lastOf R) (dN m (first+lastOf R)++bG q)):=by
 intro i
 have hl:=aaV R q i
 have hb:=aaU R q i
 unfold nN dN
 rw[h (lastOf R),Af,SE]
 by_cases e:i=lastOf R
 ·subst e
  rw[if_pos rfl]
  unfold fileAt
  rw[if_pos (hl.2 (.inr rfl)),hb,if_pos rfl]
 ·rw[if_neg (by omega),h i]
  unfold fileAt
  rw[hb,if_neg e,List.append_nil]
  by_cases h2:i<R.length
  ·rw[if_pos h2,if_pos (hl.2 (.inl h2))]
  ·rw[if_neg h2,if_neg (fun z=>by rcases hl.1 z with z|z;exact h2 z;exact e z)]
theorem JQ{first:Int}{R:St}{m:aH.Safe}(h:Bh first R m){x:Int}(hx:x<first)(s:ByteArray):Bh first R (nN m x s):=by
 intro i
 unfold nN
 rw[if_neg (by omega)]
 exact h i
theorem CS{first:Int}:∀(ps:List aH.Pc) {R:St} {m:aH.Safe} {T:List (List UInt8)},Bh first R m->ps.filter (mine first)=jc first R T->Bh first (cur R T) (lG m ps)
 |[],R,m,T,h,hp=>by
  cases T with
  |nil=>exact h
  |cons t T=>cases hp
 |p::ps,R,m,T,h,hp=>by
  unfold lG
  by_cases hx:first<=p.1
  ·rw[List.filter_cons_of_pos (by simpa [mine]using hx)]at hp
   cases T with
   |nil=>cases hp
   |cons t T=>
    injection hp with h1 h2
    subst h1
    exact CS ps (T:=T) (SG h t) h2
  ·rw[List.filter_cons_of_neg (by simpa [mine]using hx)]at hp
   exact CS ps (JQ h (by omega) _) hp
theorem Rf(l:List UInt8)(k:Nat):(bG l).extract 0 k=bG (l.take k):=by
 apply ByteArray.ext
 simp[bG,ByteArray.extract,ByteArray.copySlice]
theorem XO(ps:List aH.Pc):∀(m:aH.Safe) (x:Int),lG m ps x=if bW m ps x=true then some (dataOf m ps x)else none:=by
 induction ps with
 |nil=>
  intro m x
  unfold lG bW
  cases hm:m x with
  |none=>simp
  |some s=>simp[dataOf,ofFile,dN,hm]
 |cons p ps ih=>
  intro m x
  unfold lG
  rw[ih]
  have h1:bW (nN m p.1 (dN m p.1++p.2)) ps x=bW m (p::ps) x:=by
   unfold bW nN
   by_cases hx:x=p.1
   ·subst hx;simp
   ·have:¬p.1=x:=fun h=>hx h.symm
    rw[if_neg hx];simp[this]
  have h2:dataOf (nN m p.1 (dN m p.1++p.2)) ps x=dataOf m (p::ps) x:=by
   unfold dataOf
   rw[KO,F9]
   by_cases hx:x=p.1
   ·subst hx;simp
   ·have:¬p.1=x:=fun h=>hx h.symm
    rw[if_neg hx,if_neg this];simp
  rw[h1,h2]
def XP(first:Int):St->List (Int×ByteArray)
 |[]=>[]
 |f::R=>XP first R++[(first+R.length,bG (pO f))]
theorem IJ(p:Int->Bool)(d:Int->ByteArray):∀(k:Nat) (x:Int),(∀i:Nat,i<k+1->p (x+i)=true)->jH p d (k+1) x=jH p d k x++[(x+k,d (x+k))]
 |0,x,h=>by
  have h0:=h 0 (by omega)
  simp at h0
  simp[jH,h0]
 |k+1,x,h=>by
  have h0:=h 0 (by omega)
  simp at h0
  have ih:=IJ p d k (x+1) (fun i hi=>by have:=h (i+1) (by omega);rw[<-this];congr 1;omega)
  rw[jH,if_pos h0,ih]
  conv=>rhs;rw[jH,if_pos h0]
  simp only[List.cons_append]
  have e:x+1+(k:Int)=x+((k+1:Nat):Int):=by omega
  rw[e]
theorem SH{first:Int}{p:Int->Bool}{d:Int->ByteArray}:∀{R:St},(∀i:Nat,i<R.length->p (first+i)=true/\d (first+i)=bG (lF R i))->jH p d R.length first=XP first R
 |[],_=>rfl
 |f::R,h=>by
  rw[List.length_cons,IJ p d R.length first (fun i hi=>(h i (by simpa using hi)).1),SH (R:=R) (fun i hi=>by
   have:=h i (by simp;omega)
   refine⟨this.1,?_⟩
   rw[this.2]
   simp only[lF]
   rw[if_neg (by omega)])]
  have h2:=(h R.length (by simp)).2
  rw[h2]
  simp[XP,lF]
theorem JR{f:oN}(h:SC f):dh (aV (pO f))=f.ts/\oI (aV (pO f))=if f.q=[]then 0 else qm 2:=by
 obtain⟨t',h1,h2,h3⟩:=h.q
 have:=XB f.ts f.q t' h.ts h1 h2 h3
 exact⟨this.1,this.2.2⟩
theorem XQ{f:oN}(h:SC f):wR (bG (pO f))= !decide (full f):=by
 unfold wR full
 rw[jd,lQ,(JR h).2]
 by_cases hq:f.q=[]
 ·by_cases hs:(pO f).length<256
  ·have:¬256<=(pO f).length:=by omega
   simp[hq,hs]
  ·have:256<=(pO f).length:=by omega
   simp[hq,this]
 ·have:=Oi 2
  simp[hq,this]
theorem SI{first:Int}(h1:1<=first)(h2:first<=1152921504606846976):∀{R:St},Ok R->R.length<=1152921504606846976->∃ls:List Sg,ls.map (·.1)=XP first R/\dU ls=texts R/\(∀a,R≠[]->yQ a ls=first+lastOf R)/\ls.length=R.length
 |[],_,_=>⟨[],rfl,rfl,fun a h=>absurd rfl h,rfl⟩
 |f::R,ho,hl=>by
  obtain⟨ls,h3,h4,_,h6⟩:=SI h1 h2 (R:=R) (fun g hg=>ho g (List.mem_cons_of_mem _ hg)) (by simp at hl;omega)
  have hf:=ho f (by simp)
  simp only[List.length_cons]at hl
  let x:Sg:=⟨(first+R.length,bG (pO f)),by rw[lQ];have:=hf.size;show _<=_;omega,by show 1<=first+(R.length:Int);omega,by show first+(R.length:Int)<=_;omega⟩
  refine⟨ls++[x],by rw[List.map_append,h3];rfl,?_,fun a _=> ?_,by simp[h6]⟩
  ·rw[xQ,h4]
   show _++dh (aV (bl (bG (pO f))))=texts R++f.ts
   rw[jd,(JR hf).1]
  ·rw[OC]
   show(if wR (bG (pO f))=true then first+(R.length:Int)else first+(R.length:Int)+1)=_
   rw[XQ hf]
   simp only[lastOf]
   by_cases hfu:full f
   ·simp[hfu];omega
   ·simp[hfu]
structure Log(first:Int)(R:St)(T:List (List UInt8))(m:aH.Safe)(ps:List aH.Pc):Prop where
 safe:Bh first R m
 rest:ps.filter (mine first)=jc first R T
 ok:Ok R
 T:∀t∈T,t.length<=65536
section
variable{first:Int}{R:St}{T:List (List UInt8)}{m:aH.Safe}{ps:List aH.Pc}
theorem Log.file(h:Log first R T m ps)(i:Nat):bW m ps (first+i)=decide (i<(cur R T).length)/\dataOf m ps (first+i)=bG (lF (cur R T) i):=by
 have h1:=CS ps h.safe h.rest i
 rw[XO]at h1
 unfold fileAt at h1
 by_cases hi:i<(cur R T).length
 ·rw[if_pos hi]at h1
  split at h1
  ·rename_i h2
   injection h1 with h1
   exact⟨by simp[h2,hi],h1⟩
  ·cases h1
 ·rw[if_neg hi]at h1
  split at h1
  ·cases h1
  ·rename_i h2
   refine⟨by simp[hi,h2],?_⟩
   rw[Fp (by omega)]
   have h3:=h2
   unfold bW at h3
   simp only[Bool.or_eq_true,not_or,Bool.not_eq_true,List.any_eq_false,decide_eq_true_eq,Option.isSome_eq_false_iff,Option.isNone_iff_eq_none]at h3
   unfold dataOf dN
   rw[h3.1]
   have:ofFile (first+i) ps=[]:=by
    unfold ofFile
    rw[List.flatMap_eq_nil_iff]
    intro p hp
    rw[if_neg (h3.2 p hp)]
   rw[this]
   rfl
theorem Log.aaX(h:Log first R T m ps):jH (bW m ps) (dataOf m ps) (cur R T).length first=XP first (cur R T)/\bW m ps (first+(cur R T).length)=false:=
 ⟨SH fun i hi=>⟨by rw[(h.file i).1];simpa using hi,(h.file i).2⟩,by rw[(h.file _).1];simp⟩
theorem Log.append(h:Log first R T m ps){t:List UInt8}(ht:t.length<=65536):Log first R (T++[t]) m (ps++[(first+lastOf (cur R T),bG (bI t))]):=
 ⟨h.safe,by rw[List.filter_append,h.rest,CQ];congr 1;simp[mine];omega,h.ok,fun x hx=>by rcases List.mem_append.1 hx with hx|hx;exact h.T x hx;simp at hx;subst hx;exact ht⟩
theorem Log.sync(h:Log first R T m ps):Log first (cur R T) [] (lG m ps) []:=⟨CS ps h.safe h.rest,rfl,OH h.ok h.T,fun t ht=>by cases ht⟩
theorem aaY(R:St)(t:List UInt8):lastOf (app R t)=if 256<=(lF (app R t) (lastOf R)).length then lastOf R+1 else lastOf R:=by
 cases R with
 |nil=>
  have e:app [] t=[⟨[t],[]⟩]:=rfl
  rw[e]
  simp only[lastOf,lF,List.length_nil,if_true,full,ne_eq,not_true_eq_false,false_or]
 |cons f R=>
  by_cases hf:full f
  ·have e:app (f::R) t=⟨[t],[]⟩::f::R:=by simp only[app];rw[if_pos hf]
   have e2:lastOf (f::R)=R.length+1:=by simp only[lastOf];rw[if_pos hf]
   rw[e,e2]
   simp[lastOf,lF,full]
  ·have e:app (f::R) t=⟨f.ts++[t],[]⟩::R:=by simp only[app];rw[if_neg hf]
   have e2:lastOf (f::R)=R.length:=by simp only[lastOf];rw[if_neg hf]
   rw[e,e2]
   simp[lastOf,lF,full]
end
end Wl
end Go.Proofs.YtfjdpbbgfjhnlaaGreat
namespace Go.Proofs.YtfjdpbbgfjhnlaaGreat
open Go.RowKit
set_option maxRecDepth 100000
namespace Wl
open aH Fr Vn Ops
def aaZ(w:World)(g:Nat)(first:Int)(L:List Sg)(e:Ending)(w':World):Prop:=
 ∃gw A c,e=.returned (.tuple #[.pointer (some ⟨gw,0,none⟩),.slice A (dU L).length c,.int .i64 0])/\Has w' gw 206 #[.pointer (some ⟨g,0,none⟩),.int .i64 (yQ first L)]/\w.heap.size<=gw/\
  aF 9 1 w.heap.size w' A (dU L).length c (bZ (dU L))/\Below w.heap.size w w'
theorem open_any(w:World)(g nn:Nat)(F:Nat->Prop)(m:aH.Safe)(ps:List aH.Pc)(aU aK first:Int)(K:Nat)(ls:List Sg)
  (hd:aX w g F nn m ps aU aK) (hpi:∀p∈ps,I64 p.1) (hnn:nn<=100000) (hps:ps.length<=100000) (hsz:∀f,(dN m f).size+total ps<=140737488355328)
  (h1:1<=first) (h1':first<=1073741824) (h2:first+K<=4611686018427387904) (hK:bW m ps (first+K)=false) (hls:ls.map (·.1)=jH (bW m ps) (dataOf m ps) K first) (hlen:ls.length<=1000000):
  Calls Tryz.prog 78 #[.pointer (some ⟨g,0,none⟩),.int .i64 first] w (aaZ w g first ls):=by
 have hr:=Cm w g nn F m ps aU aK first K ls hd hpi hnn hps hsz h1 h1' h2 hK hls hlen
 have HR:=ah hr
 clear hr hd hpi hnn hps hsz h2 hK hls hlen
 go_enter Tryz.func78,Tryz.ntmps78
 go_wp2_with fail
 refine HR.out.mono ?_
 rintro e w1 ⟨A,c,rfl,hn,hb⟩
 have HN:=ah hn;have HB:=ah hb
 clear hn hb
 go_wp2
 go_ret3
 have hk:Kept aj w1 (w1.alloc (.cells #[.pointer (some ⟨g,0,none⟩),.int .i64 (yQ first ls)] 206)):=(Kept.refl _ _).alloc _
 exact⟨w1.heap.size,A,c,rfl,Has.new _ _ _,HB.out.size,HN.out.kept hk,HB.out.alloc HB.out.size _⟩
abbrev Dx(w:World)(gw g:Nat)(last:Int):Prop:=Has w gw 206 #[.pointer (some ⟨g,0,none⟩),.int .i64 last]
section
variable{F:Nat->Prop}{w:World}{g gw n:Nat}{m:aH.Safe}{ps:List aH.Pc}{aU aK last:Int}
theorem wK(h:Dx w gw g last):Calls Tryz.prog 191 #[.pointer (some ⟨gw,0,none⟩)] w fun e w'=>e=.returned (.bool false)/\w=w':=by
 have c0:w.cell? ⟨gw,0,none⟩=some (.pointer (some ⟨g,0,none⟩)):=h.cell 0
 clear h
 go_enter Tryz.func191,Tryz.ntmps191
 go_wp2
 go_ret
 exact⟨rfl,rfl⟩
theorem aX.ne(h:aX w g F n m ps aU aK)(hw:Dx w gw g last):¬F gw:=by
 obtain⟨mb,A,c,hF,hg,hm,ho⟩:=h
 intro hf
 rcases(hF gw).1 hf with rfl|rfl|h
 ·exact hg.ne hw (by decide) rfl
 ·exact hm.ne hw rfl
 ·exact own_ne ho hw (by decide) h
def ady(w:World)(g gw:Nat)(F:Nat->Prop)(n:Nat)(m:aH.Safe)(ps:List aH.Pc)(aU aK last:Int)(e:Ending)(w':World):Prop:=
 e=.returned (.int .i64 0)/\∃F',aX w' g F' n m ps aU aK/\ji w F F'/\Dx w' gw g (if 256<=(dataOf m ps last).size then last+1 else last)/\Kept (fun k=>F k\/k=gw) w w'
theorem UD(h:aX w g F n m ps aU aK)(hw:Dx w gw g last)(s:ByteArray)(hs:s.size<=65536)(hl1:1<=last)(hl2:last<=1073741824)(hlen:ps.length<100000)
  (hsz:(dN m last).size+total ps<=140737488000000):
  Calls Tryz.prog 115 #[.pointer (some ⟨gw,0,none⟩),.string s] w (ady w g gw F n m (ps++[(last,bG (bI (bl s)))]) aU aK last):=by
 have hno:=wK hw
 have hfl:(bI (bl s)).length<=65549:=by
  rw[og,bJ]
  have:=mD (n:=s.size) (by omega)
  omega
 have hne:=aX.ne h hw
 have hgl:=hw.lt
 have hwr:=fun(W:World) (hk:Kept aj w W)=>aaO (h.kept hk (fun _ _ z=>z)) last (bG (bI (bl s))) hl1 hl2 (by omega)
 have OB:I64 last:=fZ (by omega) (by omega)
 obtain⟨fr,hfr⟩:∃fr,bG (bI (bl s))=fr:=⟨_,rfl⟩
 have hfz:fr.size<=65549:=by rw[<-hfr,lQ];exact hfl
 have hfp:=aaH w s hs
 rw[hfr]at hwr hfp⊢
 have hda:∀(W:World) (F2:Nat->Prop),aX W g F2 n m (ps++[(last,fr)]) aU aK->_:=fun W F2 h2=>yO h2 last OB (by simp;omega) (by rw[rM];dsimp only;omega)
 have jl:=ah hno;have HFP:=ah hfp;have qM:=ah hwr;have Gg:=ah hda;have HW:=ah hw;have Dj:=ah hne;have uY:=ah h.lt
 have HL:Hid (last<=1073741824):=ah hl2
 have hw1:IntKind.i64.wrap (last+1)=last+1:=IntWalk.i64_in _ (by omega)
 clear hno hfp hwr hda hw hne h hfr hsz hfl hlen hfz OB hs
 go_enter Tryz.func115,Tryz.ntmps115
 go_wp2_with fail
 refine jl.out.mono ?_
 rintro e w' ⟨rfl,rfl⟩
 go_wp2_with fail
 refine HFP.out.mono ?_
 rintro e w1 ⟨rfl,hk1⟩
 have fF:=ah hk1
 have aa0:=HW.out.kept hk1 (fun z=>z)
 have c0:w1.cell? ⟨gw,0,none⟩=some (.pointer (some ⟨g,0,none⟩)):=aa0.cell 0
 have c1:w1.cell? ⟨gw,1,none⟩=some (.int .i64 last):=aa0.cell 1
 clear hk1 aa0
 go_wp2_with fail
 refine wp_region_still_tail 9 (by kernel_rfl) (by kernel_rfl) ?_
 simp only[List.take_succ_cons,List.take_zero,List.drop_succ_cons,List.drop_zero]
 change wpStill _ _ (World.drew w1) _ _ _
 repeat still_step
 refine wpStill_nil ?_
 change wpList _ _ _ _ _ (World.drew w1)
 go_wp2_with fail
 refine(qM.out _ fF.out.drew).mono ?_
 rintro e w2 ⟨rfl,F2,h2,g2,k2⟩
 have hw2:=(HW.out.kept fF.out.drew (fun z=>z)).kept k2 Dj.out
 have d0:w2.cell? ⟨gw,0,none⟩=some (.pointer (some ⟨g,0,none⟩)):=hw2.cell 0
 have d1:w2.cell? ⟨gw,1,none⟩=some (.int .i64 last):=hw2.cell 1
 have hk2:Kept F w w2:=((fF.out.drew).mono (fun _ z=>z.elim)).then k2
 have H2:=ah h2;have HW2:=ah hw2;have aW:=ah hk2;have g2':ji w F F2:=(fun k hk=>by rcases g2 k hk with z|z;exact .inl z;exact .inr (Nat.le_trans (fF.out.drew).size z))
 have mG:=ah g2';clear g2'
 clear h2 g2 k2 hw2 hk2 c0 c1
 go_wp2_with fail
 refine wp_region_still_tail 8 (by kernel_rfl) (by kernel_rfl) ?_
 simp only[List.take_succ_cons,List.take_zero,List.drop_succ_cons,List.drop_zero]
 change wpStill _ _ (World.drew w2) _ _ _
 repeat still_step
 refine wpStill_nil ?_
 change wpList _ _ _ _ _ (World.drew w2)
 go_wp2_with fail
 have hkd:Kept aj w2 w2.drew:=(Kept.refl _ w2).drew
 refine(Gg.out _ F2 (H2.out.kept hkd (fun _ _ z=>z))).mono ?_
 rintro e w3 ⟨rfl,hk3⟩
 obtain⟨D,hD⟩:∃D,dataOf m (ps++[(last,fr)]) last=D:=⟨_,rfl⟩
 rw[hD]
 have hw3:=(HW2.out.kept hkd (fun z=>z)).kept hk3 (fun z=>z)
 have b1:w3.cell? ⟨gw,1,none⟩=some (.int .i64 last):=hw3.cell 1
 have f1:=hw3.frozen 1
 have hF2:¬F2 gw:=fun hh=>by rcases mG.out gw hh with h|h;exact Dj.out h;have:=HW.out.lt;omega
 have HW3:=ah hw3;have HF2:=ah hF2;have HDD:=ah hD
 clear hw3 hF2 hD d0 d1
 have bn:=ah (hkd.then hk3)
 clear hkd hk3
 by_cases hb:256<=D.size
 ·have hb':(256:Int)<=(D.size:Int):=by omega
  have HB:=ah hb
  clear hb
  go_wp2
  go_ret
  have hk4:Kept (fun k=>k=gw) w3 (w3.setCell ⟨gw,1,none⟩ (.int .i64 (last+1))):=(Kept.refl _ w3).put (.inl rfl)
  refine⟨rfl,F2,(H2.out.kept bn.out (fun _ _ z=>z)).kept hk4 (fun k hk e=>HF2.out (e▸hk)),mG.out,?_,?_⟩
  ·rw[HDD.out,if_pos HB.out]
   exact HW3.out.dB rfl
  ·exact((aW.out.mono (fun k h=> .inl h)).then (bn.out.mono (fun _ z=>z.elim))).put (.inl (.inr rfl))
 ·have hb':¬(256:Int)<=(D.size:Int):=by omega
  have HB:=ah hb
  clear hb
  go_wp2
  go_ret
  refine⟨rfl,F2,(H2.out.kept bn.out (fun _ _ z=>z)),mG.out,?_,?_⟩
  ·rw[HDD.out,if_neg HB.out]
   exact HW3.out
  ·exact(aW.out.mono (fun k h=> .inl h)).then (bn.out.mono (fun _ z=>z.elim))
end
end Wl
end Go.Proofs.YtfjdpbbgfjhnlaaGreat
