/- Part 38. -/
import Derived.Test.YtgbigpdiacjbgaaGreatKP24
set_option linter.unusedSimpArgs false
set_option linter.unusedVariables false
set_option maxHeartbeats 32000000
set_option maxRecDepth 100000
namespace Go.Proofs.YtgbigpdiacjbgaaGreat
open Go.RowKit
namespace Cli
open bg Ops fG eP Go.Proofs.YtgbigpdiacjbgaaGreat.Ask
structure dS where
 to:Int
 body:ByteArray
def PI(o:dS):List Value:=[.int .i64 o.to,.string o.body]
def lI(l:List dS):List Value:=l.flatMap PI
theorem E9(l:List dS)(o:dS):lI (l++[o])=lI l++[.int .i64 o.to,.string o.body]:=by unfold lI;rw[List.flatMap_append];rfl
theorem N9:Elem Tryz.prog 39 54 2 24:=⟨Tryz.underlying39,⟨_,_,rfl,rfl,rfl,rfl,rfl⟩,by decide⟩
structure dh where
 id:Int
 req:Int
 ep:Int
 hd:Int
 t:Option TS
 r:o8
 has:Bool
 as':Bool
 tk:Int
structure CX where
 cb:Nat
 px:PX
 rA:Option Addr
 rc:Nat
def nM(X:CX)(C:dh):Value:=match C.t with
 |none=> .pointer none
 |some _=> .pointer (some ⟨X.px.b,0,none⟩)
def oz(X:CX)(C:dh):Array Value:=#[.int .i64 C.id,.int .i64 C.req,.int .i64 C.ep,.int .i64 C.hd,nM X C,.int .i64 C.r.req,.int .i64 C.r.e,.int .u64 C.r.at',.int .i64 C.r.pin,.slice X.rA C.r.ps.length X.rc,.bool C.has,.bool C.as',.int .i64 C.tk,.bool true]
structure gq(w:World)(X:CX)(C:dh):Prop where
 b:Has w X.cb 38 (oz X C)
 t:∀t,C.t=some t->kN w X.px t/\¬jW X.px t X.cb
 r:w.ownsRow 0 84 2 (.slice X.rA C.r.ps.length X.rc) C.r.ps.length (bI C.r.ps)
 ar:∀k,(Value.slice X.rA C.r.ps.length X.rc).ownBlock=some k->k≠X.cb/\∀t,C.t=some t->¬jW X.px t k
def pG(X:CX)(C:dh)(k:Nat):Prop:=k=X.cb\/(∃t,C.t=some t/\jW X.px t k)\/(Value.slice X.rA C.r.ps.length X.rc).ownBlock=some k
section
variable{w w':World}{X:CX}{C:dh}{G:Nat->Prop}
theorem gq.lQ(h:gq w X C)(hk:Kept G w w')(hs:∀k,pG X C k->¬G k):gq w' X C:=
 ⟨h.b.kept hk (hs _ (.inl rfl)),fun t e=>⟨(h.t t e).1.lQ hk (fun k hf=>hs k (.inr (.inl ⟨t,e,hf⟩))),(h.t t e).2⟩,aP h.r hk (fun k hk=>hs k (.inr (.inr hk))),h.ar⟩
theorem gq.quiet(h:gq w X C)(hk:Kept aj w w'):gq w' X C:=h.lQ hk (fun _ _ z=>z)
theorem gq.lt(h:gq w X C){k:Nat}(hf:pG X C k):k<w.heap.size:=by
 rcases hf with rfl|⟨t,e,hf⟩|hf
 ·exact h.b.lt
 ·exact(h.t t e).1.lt hf
 ·exact jB h.r hf
theorem uw(h:C.t=none):nM X C=.pointer none:=by unfold nM;rw[h]
theorem jI{t:TS}(h:C.t=some t):nM X C=.pointer (some ⟨X.px.b,0,none⟩):=by unfold nM;rw[h]
theorem kD(h:gq w X C):Calls Tryz.prog 24 #[.pointer (some ⟨X.cb,0,none⟩)] w fun e w'=>e=.returned (.bool false)/\w=w':=by have q:w.cell? ⟨X.cb,13,none⟩=some (.bool true):=h.b.cell 13;obtain⟨cb,hcb⟩:∃cb,X.cb=cb:=⟨_,rfl⟩;rw[hcb]at q⊢;clear h hcb;go_enter Tryz.func24,Tryz.ntmps24;go_wp2;go_ret;exact⟨rfl,rfl⟩
structure sQ(w:World)(lb:Nat)(A:Option Addr)(c:Nat)(L:List dS):Prop where
 b:Has w lb 39 #[.slice A L.length c]
 r:w.ownsRow 0 54 2 (.slice A L.length c) L.length (lI L)
 ap:(Value.slice A L.length c).ownBlock≠some lb
def yC(lb:Nat)(A:Option Addr)(n c:Nat)(k:Nat):Prop:=k=lb\/(Value.slice A n c).ownBlock=some k
theorem sQ.lQ{lb c:Nat}{A:Option Addr}{L:List dS}(h:sQ w lb A c L)(hk:Kept G w w')(hs:∀k,yC lb A L.length c k->¬G k):sQ w' lb A c L:=
 ⟨h.b.kept hk (hs _ (.inl rfl)),aP h.r hk (fun k hk=>hs k (.inr hk)),h.ap⟩
theorem sQ.quiet{lb c:Nat}{A:Option Addr}{L:List dS}(h:sQ w lb A c L)(hk:Kept aj w w'):sQ w' lb A c L:=h.lQ hk (fun _ _ z=>z)
theorem sQ.lt{lb c k:Nat}{A:Option Addr}{L:List dS}(h:sQ w lb A c L)(hf:yC lb A L.length c k):k<w.heap.size:=by
 rcases hf with rfl|hf
 ·exact h.b.lt
 ·exact jB h.r hf
theorem CS(w:World):Calls Tryz.prog 26 #[] w fun e w'=>∃lb,e=.returned (.tuple #[.func (.func 52) #[] #[.pointer (some ⟨lb,0,none⟩)],.func (.func 54) #[] #[.pointer (some ⟨lb,0,none⟩)]])/\sQ w' lb none 0 []/\w.heap.size<=lb/\Kept aj w w':=by go_enter Tryz.func26,Tryz.ntmps26;go_wp2;go_ret2;exact⟨w.heap.size,rfl,⟨Has.new _ _ _,⟨rfl,.inl ⟨rfl,rfl⟩⟩,by simp[Value.ownBlock]⟩,Nat.le_refl _,by(repeat'(first|(with_reducible first|exact ay|apply aA|apply aB|apply aC|apply aF)|(right;simp;done)))⟩
def mB(s:ByteArray):ByteArray:=⟨#[77]⟩++s
def bn(L:List dS)(to:Int)(m:aO):List dS:=if dP m=0/\0<=to then L++[⟨to,mB (nH m)⟩]else L
def Ip(w:World)(lb:Nat)(A:Option Addr)(c:Nat)(L L':List dS)(e:Ending)(w':World):Prop:=
 e=.returned (.tuple #[])/\∃A' c',sQ w' lb A' c' L'/\Kept (yC lb A L.length c) w w'/\∀k,yC lb A' L'.length c' k->yC lb A L.length c k\/w.heap.size<=k
theorem VZ{m:aO}(hx:pU w m)(h:dP m=0):(nH m).size<=100000:=by obtain⟨hkk,hwr⟩:=zH h;have Pe:1<=m.k/\m.k<=15:=of_decide_eq_true hkk;have kJ:=pV m.k;have h1:=oW (bT m) (partsOf m.k) 1100 (fun y hy=>IP hx (hwr y hy));have h2:=dJ (n:=m.k.toNat) (by omega);unfold nH;rw[if_pos h];show(Bg m).toArray.size<=_;rw[List.size_toArray];unfold Bg;rw[lA0];omega
theorem Kept.yM{F:Nat->Prop}{a b:World}(h:Kept aj a b):Kept F a b:=h.mono (fun _ z=>z.elim)
theorem put_any{lb c:Nat}{A:Option Addr}{L:List dS}(h:sQ w lb A c L)(hl:L.length<=1000)(to:Int)(m:aO)(hm:pU w m):
  Calls Tryz.prog 52 #[.int .i64 to,aK m,.pointer (some ⟨lb,0,none⟩)] w (Ip w lb A c L (bn L to m)):=by
 obtain⟨W0,hW0⟩:∃W0,w.alloc (.cells (au m).toArray 63)=W0:=⟨_,rfl⟩;have hk0:Kept aj w W0:=by rw[<-hW0];(repeat'(first|(with_reducible first|exact ay|apply aA|apply aB|apply aC|apply aF)|(right;simp;done)))
 have hn0:Has W0 w.heap.size 63 (au m).toArray:=by rw[<-hW0];exact Has.new _ _ _
 have hput:=Vy W0 m (hm.kept hk0);have hbad:¬(dP m=0/\0<=to)->∀W,Kept aj w W->Ip w lb A c L (bn L to m) (.returned (.tuple #[])) W:=fun h0 W hW=>by unfold bn;rw[if_neg h0];exact⟨rfl,A,c,h.quiet hW,Kept.yM hW,fun k hk=> .inl hk⟩
 have hS:dP m=0->0<=to->bn L to m=L++[⟨to,mB (nH m)⟩]:=fun h0 h1=>if_pos ⟨h0,h1⟩;have hsz:dP m=0->(nH m).size<=100000:=VZ hm;obtain⟨z,hz⟩:∃z,dP m=z:=⟨_,rfl⟩;obtain⟨s,hs⟩:∃s,nH m=s:=⟨_,rfl⟩;rw[hz]at hput hbad hS hsz;rw[hs]at hput hS hsz;have HP:=ah hput;have HN:=ah hn0;have aS:=ah hk0;have HBAD:=ah hbad;have HS:=ah hS;have H:=ah h;clear hput hn0 hk0 hbad hS h hm hz hs;by_cases h0:z=0;rotate_left
 ·have h2:(z==0)=false:=by simpa using h0
  have GV:=ah (HBAD.out (fun x=>h0 x.1));clear h0 HBAD hsz;go_enter Tryz.func52,Tryz.ntmps52;go_wp2_with (refine wpList_load_row rfl 63 (.tmp 4) rfl w.heap.size rfl 63 _ (0,0) _ HN.out Tryz.underlying63 rfl (by kernel_rfl) ?_);clear hW0;refine HP.out.mono ?_;rintro e w2 ⟨rfl,hk⟩;have HF:=ah (GV.out _ (aS.out.then hk));clear hk;go_wp2;go_end0;exact HF.out
 subst h0;by_cases h1:0<=to;rotate_left
 ·have GV:=ah (HBAD.out (fun x=>h1 x.2));clear HBAD hsz;go_enter Tryz.func52,Tryz.ntmps52;go_wp2_with (refine wpList_load_row rfl 63 (.tmp 4) rfl w.heap.size rfl 63 _ (0,0) _ HN.out Tryz.underlying63 rfl (by kernel_rfl) ?_);clear hW0;refine HP.out.mono ?_;rintro e w2 ⟨rfl,hk⟩;have HF:=ah (GV.out _ (aS.out.then hk));clear hk;go_wp2;go_end0;exact HF.out
 rw[HS.out rfl h1];have kY:Hid (L.length+1<=maxLen):=ah (by unfold maxLen;omega);have kR:Hid ((L.length+1)*24<=140737488355328):=ah (by omega);have hsum:¬9223372036854775807<(⟨#[77]⟩:ByteArray).size+s.size:=by have:=hsz rfl;have e1:(⟨#[77]⟩:ByteArray).size=1:=rfl;omega
 clear HBAD HS hsz;go_enter Tryz.func52,Tryz.ntmps52;go_wp2_with (refine wpList_load_row rfl 63 (.tmp 4) rfl w.heap.size rfl 63 _ (0,0) _ HN.out Tryz.underlying63 rfl (by kernel_rfl) ?_);clear hW0;refine HP.out.mono ?_;rintro e w2 ⟨rfl,hk⟩;have hb2:=H.out.quiet (aS.out.then hk);have mW:=ah (aS.out.then hk);clear hk;have q:w2.cell? ⟨lb,0,none⟩=some (.slice A L.length c):=hb2.b.cell 0;have HB:=ah hb2;clear hb2;have hlb:lb<w2.heap.size:=HB.out.b.lt;go_wp2_with (at_builtin;refine bH N9 (.tmp 18) (.tmp 23) rfl rfl (Value.slice A L.length c) rfl (aP HB.out.r (F:=aj) (by(repeat'(first|(with_reducible first|exact ay|apply aA|apply aB|apply aC|apply aF)|(right;simp;done)))) (fun _ _ x=>x)) 1 rfl (Src.kW (t:=54) (size:=2) (m:=1) (cs:=#[.int .i64 to,.string (⟨#[77]⟩++s)]) (by(repeat (with_reducible first|exact Has.dQ _ _ _ (by simp)|apply Has.drew|apply Has.drewN|apply Has.alloc|(apply Has.past<;>(try omega))))) rfl) (by simp[Value.oneCell']) kY.out kR.out ?_;intro A1 c1 w9 ho1 hg1 ha1;have hk9:Kept (fun k=>(Value.slice A L.length c).ownBlock=some k) w2 w9:=Kept.grownBy (by(repeat'(first|(with_reducible first|exact ay|apply aA|apply aB|apply aC|apply aF)|(right;simp;done)))) hg1 (fun k hk=> .inl hk);have Fa:Has w9 lb 39 #[.slice A L.length c]:=Has.kept HB.out.b hk9 HB.out.ap;have f9:=Fa.frozen 0;have d9:=Fa.cell 0;have HO:=ah ho1;have HA:=ah ha1;have sJ:=ah hk9;have HF9:=ah Fa;clear ho1 hg1 ha1 hk9 Fa);go_end0;have hlen:(L++[(⟨to,mB s⟩:dS)]).length=L.length+1:=by simp
 have hnb:∀k,(Value.slice A1 (L.length+1) c1).ownBlock=some k->(Value.slice A L.length c).ownBlock=some k\/w2.heap.size<=k:=fun k hk=>by
  rcases HA.out with e|e
  ·exact .inl (e.symm.trans hk)
  ·have h9:=e.symm.trans hk;injection h9 with h9;simp at h9;exact .inr (by omega)
 have hap:(Value.slice A1 (L.length+1) c1).ownBlock≠some lb:=fun e=>by
  rcases hnb _ e with y|y
  ·exact HB.out.ap y
  ·omega
 refine⟨rfl,A1,c1,⟨?_,?_,by rw[hlen];exact hap⟩,?_,fun k hk=> ?_⟩
 ·rw[hlen];exact Has.aQ HF9.out rfl
 ·rw[hlen,E9];exact aP (F:=fun k=>k=lb) HO.out ((Kept.refl _ w9).put (.inl rfl)) (fun g hg2 e=>by subst e;exact hap hg2)
 ·exact((Kept.yM (F:=yC lb A L.length c) mW.out).trans sJ.out (fun k hk=> .inl (.inr hk))).put (.inl (.inl rfl))
 ·rw[hlen]at hk;rcases hk with rfl|hk
  ·exact .inl (.inl rfl)
  ·rcases hnb k hk with y|y
   ·exact .inl (.inr y)
   ·have:=mW.out.size;exact .inr (by omega)
end
end Cli
namespace Cli
open bg Ops fG eP Vn Go.Proofs.YtgbigpdiacjbgaaGreat.Ask
def vF(w:World)(a:Addr):Array Value:=((List.range 7).map fun j=>(w.cell? (a.add j)).getD undef).toArray
def yD(w:World)(a:Addr):Prop:=∀j,j<7->(w.cell? (a.add j)).isSome=true
def EO(a:Addr):Sem Value:=loadVar 25 a
theorem qB(a:Addr):loadVar 25 a=EO a:=rfl
theorem rW(w:World)(a:Addr)(h:yD w a):(EO a).run Tryz.prog w=.ok (.agg (vF w a)) w:=by
 have hl:=run_loadCells (P:=Tryz.prog) w a 7 (fun j=>(w.cell? (a.add j)).getD undef) (fun j hj=>by obtain⟨v,hv⟩:=Option.isSome_iff_exists.1 (h j hj);rw[hv];rfl)
 have hi:(Tryz.prog.info? 25).map (·.size)=some 7:=by kernel_rfl
 have hagg:∀W,(isAgg 25).run Tryz.prog W=.ok true W:=fun W=>by unfold isAgg;rw[Sem.run_bind,run_underlying Tryz.underlying25 W];rfl
 cases hq:Tryz.prog.info? 25 with
 |none=>simp[hq]at hi
 |some i=>
  have hs:i.size=7:=by simpa [hq]using hi
  unfold EO;simp[loadVar,Sem.run_bind,hagg,sizeOf,typeInfo,hq,hs,hl,vF]
theorem LK{w:World}{a:Addr}{cs:List Value}(hn:cs.length=7)(h:∀j u,cs[j]? =some u->w.cell? (a.add j)=some u):yD w a/\vF w a=cs.toArray:=by
 refine⟨fun j hj=> ?_,?_⟩
 ·rw[h j _ (lB0 (by omega))];rfl
 ·unfold vF;congr 1;apply List.ext_getElem?
  intro j;rcases Nat.lt_or_ge j 7 with hj|hj
  ·rw[List.getElem?_map,List.getElem?_range hj,lB0 (by omega:j<cs.length)];simp[h j _ (lB0 (by omega:j<cs.length))]
  ·rw[List.getElem?_eq_none (by simpa using hj),List.getElem?_eq_none (by omega)]
theorem wB{w:World}{g:Nat}{cs:List Value}(hn:cs.length=7)(h:Has w g 25 cs.toArray):yD w ⟨g,0,none⟩/\vF w ⟨g,0,none⟩=cs.toArray:=by
 refine LK hn fun j u hu=> ?_;have e1:((⟨g,0,none⟩:Addr).add j)=⟨g,j,none⟩:=by unfold Addr.add;split<;>simp_all
 rw[e1,h.cell];simpa using hu
structure gV(w:World)(X:CX)(C:dh)(w':World)(X':CX)(C':dh):Prop where
 at':gq w' X' C'
 cb:X'.cb=X.cb
 g:∀k,pG X' C' k->pG X C k\/w.heap.size<=k
 k:Kept (pG X C) w w'
section
variable{w w':World}{X X':CX}{C C':dh}
theorem gV.refl(h:gq w X C)(hk:Kept aj w w'):gV w X C w' X C:=⟨h.quiet hk,rfl,fun _ h=> .inl h,Kept.yM hk⟩
theorem gV.trans{w1 w2:World}{X1 X2:CX}{C1 C2:dh}(h:gV w X C w1 X1 C1)(k:gV w1 X1 C1 w2 X2 C2):gV w X C w2 X2 C2:=
 ⟨k.at',k.cb.trans h.cb,fun i hi=>by
  rcases k.g i hi with y|y
  ·exact h.g i y
  ·have:=h.k.size;exact .inr (by omega),h.k.trans k.k h.g⟩
theorem gV.quiet{w1 w2:World}{X1:CX}{C1:dh}(h:gV w X C w1 X1 C1)(hk:Kept aj w1 w2):gV w X C w2 X1 C1:=h.trans (gV.refl h.at' hk)
def uy(w w':World)(A:Option Addr)(c:Nat)(L:List dS):Prop:=bV 54 2 w.heap.size w' A L.length c (lI L)
structure Oa(C:dh):Prop where
 id:0<=C.id/\C.id<3
 req:0<=C.req/\C.req<=1073741824
 ep:0<=C.ep/\C.ep<=1073741824
 hd: -1<=C.hd/\C.hd<=4
 t:∀t,C.t=some t->mV t/\t.bo.length<=1000/\t.r.ps.length<=1000
 r:C.r.ps.length<=1000
 tk:0<=C.tk/\C.tk<=1073741824
def BR(id:Int):dh:=⟨id,0,0,-1,none,oH,false,false,0⟩
theorem LM(w:World)(id:Int):Calls Tryz.prog 15 #[.int .i64 id] w fun e w'=>
  (¬(0<=id/\id<3)->e=.returned (.tuple #[.pointer none,.int .i64 1])/\Kept aj w w')/\
  (0<=id/\id<3->∃X,e=.returned (.tuple #[.pointer (some ⟨X.cb,0,none⟩),.int .i64 0])/\gq w' X (BR id)/\(∀k,pG X (BR id) k->w.heap.size<=k)/\Kept aj w w'):=by
 by_cases h0:0<=id
 ·by_cases h1:id<3
  ·have hP:(0<=id/\id<3):=⟨h0,h1⟩;refine Calls.mono (R:=fun e w'=>∃X,e=.returned (.tuple #[.pointer (some ⟨X.cb,0,none⟩),.int .i64 0])/\gq w' X (BR id)/\(∀k,pG X (BR id) k->w.heap.size<=k)/\Kept aj w w') ?_ (fun e w' h=>⟨fun hn=>absurd hP hn,fun _=>h⟩);clear hP;have h2:¬3<=id:=by omega
   go_enter Tryz.func15,Tryz.ntmps15;go_wp2;go_ret2;refine⟨⟨w.heap.size,⟨0,0,none,0,none,0,none,0⟩,none,0⟩,rfl,⟨Has.new _ _ _,(fun t e=>by cases e),⟨rfl,.inl ⟨rfl,rfl⟩⟩,fun k e=>by simp[Value.ownBlock]at e⟩,fun k hk=> ?_,by(repeat'(first|(with_reducible first|exact ay|apply aA|apply aB|apply aC|apply aF)|(right;simp;done)))⟩;rcases hk with rfl|⟨t,e,-⟩|e
   ·exact Nat.le_refl _
   ·cases e
   ·simp[Value.ownBlock]at e
  ·have hP:¬(0<=id/\id<3):=by omega
   refine Calls.mono (R:=fun e w'=>e=.returned (.tuple #[.pointer none,.int .i64 1])/\Kept aj w w') ?_ (fun e w' h=>⟨fun _=>h,fun hp=>absurd hp hP⟩);have h2:3<=id:=by omega
   clear hP;go_enter Tryz.func15,Tryz.ntmps15;go_wp2;go_ret2;exact⟨rfl,by(repeat'(first|(with_reducible first|exact ay|apply aA|apply aB|apply aC|apply aF)|(right;simp;done)))⟩
 ·have hP:¬(0<=id/\id<3):=by omega
  refine Calls.mono (R:=fun e w'=>e=.returned (.tuple #[.pointer none,.int .i64 1])/\Kept aj w w') ?_ (fun e w' h=>⟨fun _=>h,fun hp=>absurd hp hP⟩);have h2:id<0:=by omega
  clear hP h0;go_enter Tryz.func15,Tryz.ntmps15;go_wp2;go_ret2;exact⟨rfl,by(repeat'(first|(with_reducible first|exact ay|apply aA|apply aB|apply aC|apply aF)|(right;simp;done)))⟩
theorem lV{lb c:Nat}{A:Option Addr}{L:List dS}(h:sQ w lb A c L):Calls Tryz.prog 54 #[.pointer (some ⟨lb,0,none⟩)] w fun e w'=>e=.returned (.slice A L.length c)/\w=w':=by have q:w.cell? ⟨lb,0,none⟩=some (.slice A L.length c):=h.b.cell 0;obtain⟨n,hn⟩:∃n,L.length=n:=⟨_,rfl⟩;rw[hn]at q⊢;clear h;go_enter Tryz.func54,Tryz.ntmps54;go_wp2;go_ret;exact⟨rfl,rfl⟩
theorem FV(h:gq w X C):Calls Tryz.prog 14 #[.pointer (some ⟨X.cb,0,none⟩)] w fun e w'=>e=.returned (.bool C.t.isSome)/\w=w':=by
 have hn:=kD h;have q:w.cell? ⟨X.cb,4,none⟩=some (nM X C):=h.b.cell 4;obtain⟨cb,hcb⟩:∃cb,X.cb=cb:=⟨_,rfl⟩;rw[hcb]at hn q⊢;cases ht:C.t with
 |none=>
  rw[uw ht]at q;have HN:=ah hn;clear hn h hcb ht;go_enter Tryz.func14,Tryz.ntmps14;go_wp2_with fail;refine HN.out.mono ?_;rintro e w2 ⟨rfl,rfl⟩;go_wp2;go_ret;exact⟨rfl,rfl⟩
 |some t=>
  rw[jI ht]at q;have HN:=ah hn;obtain⟨tb,htb⟩:∃tb,X.px.b=tb:=⟨_,rfl⟩;rw[htb]at q;clear hn h hcb ht htb;go_enter Tryz.func14,Tryz.ntmps14;go_wp2_with fail;refine HN.out.mono ?_;rintro e w2 ⟨rfl,rfl⟩;go_wp2;go_ret;exact⟨rfl,rfl⟩
theorem Iq(h:gq w X C):Calls Tryz.prog 13 #[.pointer (some ⟨X.cb,0,none⟩)] w fun e w'=>e=.returned (.int .i64 C.req)/\w=w':=by have hn:=kD h;have q:w.cell? ⟨X.cb,1,none⟩=some (.int .i64 C.req):=h.b.cell 1;obtain⟨cb,hcb⟩:∃cb,X.cb=cb:=⟨_,rfl⟩;rw[hcb]at hn q⊢;have HN:=ah hn;clear hn h hcb;go_enter Tryz.func13,Tryz.ntmps13;go_wp2_with fail;refine HN.out.mono ?_;rintro e w2 ⟨rfl,rfl⟩;go_wp2;go_ret;exact⟨rfl,rfl⟩
theorem LP(h:gq w X C):Calls Tryz.prog 10 #[.pointer (some ⟨X.cb,0,none⟩)] w fun e w'=>e=.returned (.tuple #[.int .i64 C.ep,.int .i64 C.hd])/\Kept aj w w':=by have hn:=kD h;have q2:w.cell? ⟨X.cb,2,none⟩=some (.int .i64 C.ep):=h.b.cell 2;have q3:w.cell? ⟨X.cb,3,none⟩=some (.int .i64 C.hd):=h.b.cell 3;obtain⟨cb,hcb⟩:∃cb,X.cb=cb:=⟨_,rfl⟩;rw[hcb]at hn q2 q3⊢;have HN:=ah hn;clear hn h hcb;go_enter Tryz.func10,Tryz.ntmps10;go_wp2_with fail;refine HN.out.mono ?_;rintro e w2 ⟨rfl,rfl⟩;go_wp2;go_quiet (fail);go_wp2;go_ret2;exact⟨rfl,by(repeat'(first|(with_reducible first|exact ay|apply aA|apply aB|apply aC|apply aF)|(right;simp;done)))⟩
def CU(C:dh):o8:=if C.has=true then C.r else oH
def Em(w:World)(C:dh)(e:Ending)(w':World):Prop:=
 ∃A c,e=.returned (.tuple #[nV (CU C) A c,.bool C.has])/\bV 84 2 w.heap.size w' A (CU C).ps.length c (bI (CU C).ps)/\Kept aj w w'
theorem Jw(h:gq w X C)(hl:C.r.ps.length<=1000):Calls Tryz.prog 9 #[.pointer (some ⟨X.cb,0,none⟩)] w (Em w C):=by
 obtain⟨W0,hW0⟩:∃W0,w.alloc (.cells #[.int .i64 0,.int .i64 0,.int .u64 0,.int .i64 0,.slice none 0 0] 36)=W0:=⟨_,rfl⟩;have hk0:Kept aj w W0:=by rw[<-hW0];(repeat'(first|(with_reducible first|exact ay|apply aA|apply aB|apply aC|apply aF)|(right;simp;done)))
 have hn0:Has W0 w.heap.size 36 #[.int .i64 0,.int .i64 0,.int .u64 0,.int .i64 0,.slice none 0 0]:=by rw[<-hW0];exact Has.new _ _ _
 have hnone:=kD (h.quiet hk0);have hb:=h.b.kept hk0 (fun z=>z);have hcl:=fun W (hW:Kept aj W0 W)=>Bi W X.rA X.rc C.r.ps (Src.fA (aP h.r (hk0.then hW) (fun _ _ z=>z))) (by omega);unfold oz at hb;obtain⟨bb,hbb⟩:∃bb,X.cb=bb:=⟨_,rfl⟩;rw[hbb]at hnone hb⊢;obtain⟨rb,hrb⟩:∃rb,w.heap.size=rb:=⟨_,rfl⟩;rw[hrb]at hn0;have b3:W0.cell? ⟨bb,10,none⟩=some (.bool C.has):=hb.cell 10;have b4:W0.cell? ⟨bb,5,none⟩=some (.int .i64 C.r.req):=hb.cell 5;have b5:W0.cell? ⟨bb,6,none⟩=some (.int .i64 C.r.e):=hb.cell 6;have b6:W0.cell? ⟨bb,7,none⟩=some (.int .u64 C.r.at'):=hb.cell 7;have b7:W0.cell? ⟨bb,8,none⟩=some (.int .i64 C.r.pin):=hb.cell 8;have b8:W0.cell? ⟨bb,9,none⟩=some (.slice X.rA C.r.ps.length X.rc):=hb.cell 9;have HN:=ah hnone;have nP:=ah hcl;have aS:=ah hk0;have dZ:=ah hn0;clear hnone hcl hk0 hn0 h hb hl;cases hdn:C.has with
 |false=>
  have hrep:CU C=oH:=by unfold CU;rw[hdn];rfl
  have jg:=ah hrep;have qE:=ah hdn;clear hrep;rw[hdn]at b3;clear hdn b4 b5 b6 b7 b8;go_enter Tryz.func9,Tryz.ntmps9;go_wp2_with fail;refine HN.out.mono ?_;rintro e w1 ⟨rfl,rfl⟩;have f0:=dZ.out.frozen 0;have f1:=dZ.out.frozen 1;have f2:=dZ.out.frozen 2;have f3:=dZ.out.frozen 3;have f4:=dZ.out.frozen 4;have y0:=dZ.out.cell 0;have y1:=dZ.out.cell 1;have y2:=dZ.out.cell 2;have y3:=dZ.out.cell 3;have y4:=dZ.out.cell 4;simp at y0 y1 y2 y3 y4;go_wp2;refine bodyPost_ret (aU rfl _ _ rb _ rfl (xY (r:=oH) (A:=none) (c:=0) (by((repeat (first|with_reducible exact dZ.out|with_reducible apply Has.aQ|with_reducible apply Has.past|with_reducible apply Has.drewN|with_reducible apply Has.drew|with_reducible apply Has.alloc))<;>first|omega|rfl)))) rfl ?_;refine⟨none,0,?_,?_,?_⟩
  ·rw[jg.out,qE.out];rfl
  ·rw[jg.out];exact⟨⟨rfl,.inl ⟨rfl,rfl⟩⟩,fun k hk=>by cases hk⟩
  ·(repeat'(first|(with_reducible first|exact ay|apply aA|apply aB|apply aC|apply aF)|(first|exact aS.out|(right;omega))|(right;simp;done)))
 |true=>
  have hrep:CU C=C.r:=by unfold CU;rw[hdn];rfl
  have jg:=ah hrep;have qE:=ah hdn;clear hrep;rw[hdn]at b3;clear hdn;obtain⟨n,hn⟩:∃n,C.r.ps.length=n:=⟨_,rfl⟩;rw[hn]at b8;simp only[hn]at nP;have qF:=ah hn;clear hn;go_enter Tryz.func9,Tryz.ntmps9;go_wp2_with fail;refine HN.out.mono ?_;rintro e w1 ⟨rfl,rfl⟩;obtain⟨W1,hW1⟩:∃W1,W0.alloc (.cells #[.int .i64 C.r.req,.int .i64 C.r.e,.int .u64 C.r.at',.int .i64 C.r.pin,.slice X.rA n X.rc] 36)=W1:=⟨_,rfl⟩;have hk1:Kept aj W0 W1:=by rw[<-hW1];(repeat'(first|(with_reducible first|exact ay|apply aA|apply aB|apply aC|apply aF)|(right;simp;done)))
  have hn1:Has W1 W0.heap.size 36 #[.int .i64 C.r.req,.int .i64 C.r.e,.int .u64 C.r.at',.int .i64 C.r.pin,.slice X.rA n X.rc]:=by rw[<-hW1];exact Has.new _ _ _
  have BF:=ah hn1;have iL:=ah hk1;have Kt:=nP.out W1 hk1;have UH:=ah Kt;have zz:W1.cell? ⟨W0.heap.size,4,none⟩=some (.slice X.rA n X.rc):=hn1.cell 4;clear hk1 hn1 Kt;go_wp2_with fail;clear hW1 zz;refine UH.out.mono ?_;rintro e w3 ⟨A,c,rfl,hnp,hk3⟩;have h1:=BF.out.kept hk3 (fun z=>z);have h0:=dZ.out.kept (iL.out.then hk3) (fun z=>z);have hne:W0.heap.size≠rb:=fun e=>by have:=dZ.out.lt;omega
  obtain⟨ab,hab⟩:∃ab,W0.heap.size=ab:=⟨_,rfl⟩;rw[hab]at h1 hne⊢;have y0:=h1.cell 0;have y1:=h1.cell 1;have y2:=h1.cell 2;have y3:=h1.cell 3;have y4:=h1.cell 4;have f4':=h1.frozen 4;have f0:=h0.frozen 0;have f1:=h0.frozen 1;have f2:=h0.frozen 2;have f3:=h0.frozen 3;have f4:=h0.frozen 4;have z0:=h0.cell 0;have z1:=h0.cell 1;have z2:=h0.cell 2;have z3:=h0.cell 3;have z4:=h0.cell 4;simp at y0 y1 y2 y3 y4 z0 z1 z2 z3 z4;have H0:=ah h0;have zO:=ah hnp;have dI:=ah (aS.out.then (iL.out.then hk3));have lJ:=ah hne;have DC:=ah (show w.heap.size<=ab by have:=aS.out.size;omega);have jm:=ah h1.lt;have HAB:=ah h1;have HS:=ah (iL.out.then hk3).size;clear h1 h0 hnp hk3 hab;go_wp2;refine bodyPost_ret (aU rfl _ _ rb _ rfl (xY (r:=C.r) (A:=A) (c:=c) (by((repeat (first|with_reducible exact H0.out|with_reducible apply Has.aQ|with_reducible apply Has.past|with_reducible apply Has.drewN|with_reducible apply Has.drew|with_reducible apply Has.alloc))<;>first|omega|rfl)))) rfl ?_;refine⟨A,c,?_,?_,?_⟩
  ·rw[jg.out,qE.out];rfl
  ·rw[jg.out];have oO:Kept (fun k=>k=ab\/k=rb) w3 ((((((w3.setCell ⟨ab,4,none⟩ (.slice A C.r.ps.length c)).setCell ⟨rb,0,none⟩ (.int .i64 C.r.req)).setCell ⟨rb,1,none⟩ (.int .i64 C.r.e)).setCell ⟨rb,2,none⟩ (.int .u64 C.r.at')).setCell ⟨rb,3,none⟩ (.int .i64 C.r.pin)).setCell ⟨rb,4,none⟩ (.slice A C.r.ps.length c)):=by(repeat'(first|(with_reducible first|exact ay|apply aA|apply aB|apply aC|apply aF)|(first|exact .inl (.inl rfl)|exact .inl (.inr rfl))|(right;simp;done)))
   refine⟨aP zO.out.1 oO (fun k hk e=> ?_),fun k hk=> ?_⟩
   ·rcases e with e|e
    ·exact own_ne zO.out.1 HAB.out (by decide) (e▸hk)
    ·exact own_ne zO.out.1 H0.out (by decide) (e▸hk)
   ·have:=zO.out.2 k hk;have:=iL.out.size;have:=aS.out.size;omega
  ·(repeat'(first|(with_reducible first|exact ay|apply aA|apply aB|apply aC|apply aF)|(first|exact dI.out|exact .inr DC.out|exact .inr (by omega))|(right;simp;done)))
end
end Cli
namespace Ask
open bg Ops fG eP MO Vn
structure pK(t:TS):Prop where
 ok:mV t
 b:Ops.chk ⟨t.cl,t.rq,t.bo⟩=0
 key:t.a.k=1\/t.a.k=2\/t.a.k=3->t.key.size<=8/\t.a.key.size<=8
 to:t.a.k=2->t.a.to.size<=8
 nd:t.a.k=1\/t.a.k=2\/t.a.k=3->0<=t.a.nd/\t.a.nd<4
 n:t.a.k=5\/t.a.k=6->0<=t.a.n/\t.a.n<=1073741824
 p0:t.ph=0->t.a.k=0\/t.a.k=3
 p1:t.ph=1->t.a.k=1\/t.a.k=2\/t.a.k=3
 p2:t.ph=2->t.a.k=4\/t.a.k=5\/t.a.k=6
 e:t.r.e≠0->t.r.ps=[]
 rq:t.dn=true->t.r.req=t.rq
 rl:t.r.ps.length<=1000
theorem PK(l:List UInt8)(k:Nat):(Keys.jM l k).length<=k:=by
 induction k with
 |zero=>exact Nat.le_refl _
 |succ k ih=>
  unfold Keys.jM;split
  ·rw[lA0,List.length_take];show min k l.length+1<=k+1;omega
  ·omega
theorem TI(l:List UInt8):(Keys.nextL l).length<=8:=by
 unfold Keys.nextL;split
 ·rw[lA0];show l.length+1<=8;omega
 ·exact PK l 8
theorem LQ(l:List iC):(fQ l).size<=8:=by
 unfold fQ;split
 ·decide
 ·rw[<-iw,lH];exact TI _
theorem pK.new{cl rq:Int}{a:iZ}(hn:I64 a.n)(h:newE cl rq a=0):pK (newT cl rq a):=by
 have hok:=mV.new hn h;have hm:(0<=cl/\cl<3)/\(1<=rq/\rq<=1073741824)/\nJ cl rq (fK a) a=true:=by
  unfold newE at h;split at h
  ·cases h
  split at h
  ·cases h
  split at h
  ·exact⟨by omega,by omega,by assumption⟩
  ·cases h
 obtain⟨h1,h2,hm⟩:=hm;have hb0:Ops.chk ⟨cl,rq,[]⟩=0:=by unfold Ops.chk;dsimp only[List.length_nil];rw[if_neg (by omega),if_neg (by omega),if_neg (by omega)];rfl
 unfold nJ at hm;by_cases k0:a.k=0
 ·rw[if_pos k0]at hm;refine⟨hok,of_decide_eq_true hm,fun e=> ?_,fun e=> ?_,fun e=> ?_,fun e=> ?_,fun _=> .inl k0,fun e=> ?_,fun e=> ?_,fun e=>absurd rfl e,fun e=> ?_,by show(0:Nat)<=1000;decide⟩
  ·have e':a.k=1\/a.k=2\/a.k=3:=e;omega
  ·have e':a.k=2:=e;omega
  ·have e':a.k=1\/a.k=2\/a.k=3:=e;omega
  ·have e':a.k=5\/a.k=6:=e;omega
  ·have e':iG a=1:=e;unfold iG at e';rw[if_pos (.inl k0)]at e';cases e'
  ·have e':iG a=2:=e;unfold iG at e';rw[if_pos (.inl k0)]at e';cases e'
  ·cases e
 rw[if_neg k0]at hm;have pX:fK a=[]:=by unfold fK;rw[if_neg k0]
 have hb:Ops.chk ⟨cl,rq,fK a⟩=0:=by rw[pX];exact hb0
 by_cases k1:a.k=1\/a.k=3
 ·rw[if_pos k1]at hm;simp only[Bool.and_eq_true,decide_eq_true_eq]at hm;have hs:a.key.size<=8:=by
   have:=hm.2;unfold keyE at this;split at this
   ·cases this
   ·omega
  refine⟨hok,hb,fun _=>⟨hs,hs⟩,fun e=> ?_,fun _=>hm.1,fun e=> ?_,fun e=> ?_,fun e=> ?_,fun e=> ?_,fun e=>absurd rfl e,fun e=> ?_,by show(0:Nat)<=1000;decide⟩
  ·have e':a.k=2:=e;omega
  ·have e':a.k=5\/a.k=6:=e;omega
  ·have e':iG a=0:=e;unfold iG at e';by_cases k3:a.k=3
   ·exact .inr k3
   ·rw[if_neg (by omega),if_pos (by omega)]at e';cases e'
  ·show a.k=1\/a.k=2\/a.k=3;omega
  ·have e':iG a=2:=e;unfold iG at e';split at e'
   ·cases e'
   ·rw[if_pos (by omega)]at e';cases e'
  ·cases e
 rw[if_neg k1]at hm;by_cases k2:a.k=2
 ·rw[if_pos k2]at hm;simp only[Bool.and_eq_true,decide_eq_true_eq]at hm;have hp:iG a=1:=by unfold iG;rw[if_neg (by omega),if_pos (by omega)]
  refine⟨hok,hb,fun _=>⟨hm.2.1,hm.2.1⟩,fun _=>hm.2.2.1,fun _=>hm.1,fun e=> ?_,fun e=> ?_,fun e=> .inr (.inl k2),fun e=> ?_,fun e=>absurd rfl e,fun e=> ?_,by show(0:Nat)<=1000;decide⟩
  ·have e':a.k=5\/a.k=6:=e;omega
  ·have e':iG a=0:=e;omega
  ·have e':iG a=2:=e;omega
  ·cases e
 rw[if_neg k2]at hm;have hp:iG a=2:=by unfold iG;rw[if_neg (by omega),if_neg (by omega)]
 by_cases k5:a.k=5\/a.k=6
 ·rw[if_pos k5]at hm;simp only[Bool.and_eq_true,decide_eq_true_eq]at hm;refine⟨hok,hb,fun e=> ?_,fun e=>absurd e k2,fun e=> ?_,fun _=>hm,fun e=> ?_,fun e=> ?_,fun e=> .inr k5,fun e=>absurd rfl e,fun e=> ?_,by show(0:Nat)<=1000;decide⟩
  ·have e':a.k=1\/a.k=2\/a.k=3:=e;omega
  ·have e':a.k=1\/a.k=2\/a.k=3:=e;omega
  ·have e':iG a=0:=e;omega
  ·have e':iG a=1:=e;omega
  ·cases e
 ·rw[if_neg k5]at hm;have k4:a.k=4:=of_decide_eq_true hm;refine⟨hok,hb,fun e=> ?_,fun e=>absurd e k2,fun e=> ?_,fun e=>absurd e k5,fun e=> ?_,fun e=> ?_,fun e=> .inl k4,fun e=>absurd rfl e,fun e=> ?_,by show(0:Nat)<=1000;decide⟩
  ·have e':a.k=1\/a.k=2\/a.k=3:=e;omega
  ·have e':a.k=1\/a.k=2\/a.k=3:=e;omega
  ·have e':iG a=0:=e;omega
  ·have e':iG a=1:=e;omega
  ·cases e
theorem pK.end{t:TS}(h:pK t){r:o8}(he:r.e≠0->r.ps=[])(hl:r.ps.length<=1000):pK (eG t r):=
 ⟨h.ok.end r,h.b,h.key,h.to,h.nd,h.n,h.p0,h.p1,h.p2,he,fun _=>rfl,hl⟩
theorem pK.tick{t:TS}(h:pK t):pK (bu t).1:=by
 have hok:=h.ok.tick;unfold bu at hok⊢;split
 ·exact h
 rename_i hd;rw[if_neg hd]at hok;have hj:∀n,mV {t with waits:=n}->pK {t with waits:=n}:=fun n ho=>⟨ho,h.b,h.key,h.to,h.nd,h.n,h.p0,h.p1,h.p2,h.e,h.rq,h.rl⟩;have hw:=h.ok.wt;have h1:mV {t with waits:=min (t.waits+1) 1073741824}:=⟨h.ok.n,h.ok.ps,by show 0<=min (t.waits+1) 1073741824/\min (t.waits+1) 1073741824<=1073741824;omega,h.ok.ph,h.ok.n1,h.ok.np⟩;split
 ·exact(hj _ h1).end (fun _=>rfl) (by show(0:Nat)<=1000;decide)
 ·exact hj _ h1
theorem pK.take{t:TS}(h:pK t)(f:Int)(x:aO):pK (aI t f x).1:=by
 have hok:=h.ok.take f x;unfold aI at hok⊢;split
 ·exact h
 rename_i hg;rw[if_neg hg]at hok;split
 ·rename_i hp;rw[if_pos hp]at hok;have hkk:=h.p0 hp;unfold lN at hok⊢;split
  ·exact h.end (fun _=>rfl) (by show(0:Nat)<=1000;decide)
  rename_i g1;rw[if_neg g1]at hok;split
  ·exact h
  rename_i g2;rw[if_neg g2]at hok;split
  ·exact h.end (fun e=>absurd rfl e) (by show(0:Nat)<=1000;decide)
  ·rename_i g3;rw[if_neg g3]at hok;have hk3:t.a.k=3:=by omega
   refine⟨hok,h.b,fun e=>⟨(h.key e).2,(h.key e).2⟩,h.to,h.nd,h.n,fun e=> ?_,fun _=> .inr (.inr hk3),fun e=> ?_,h.e,h.rq,h.rl⟩
   ·cases e
   ·cases e
 rename_i hp0;rw[if_neg hp0]at hok;split
 ·rename_i hp;rw[if_pos hp]at hok;unfold je at hok⊢;split
  ·exact h.end (fun _=>rfl) (by show(0:Nat)<=1000;decide)
  rename_i g1;rw[if_neg g1]at hok;split
  ·exact h
  rename_i g2;rw[if_neg g2]at hok;split
  ·exact h.end (fun e=>absurd rfl e) (by show(x.ps.take 1).length<=1000;rw[List.length_take];omega)
  ·rename_i g3;rw[if_neg g3]at hok;have hk2:t.a.k=2:=by omega
   unfold ig at hok⊢;split
   ·rename_i g4;rw[if_pos g4]at hok;exact⟨hok,h.b,fun e=>⟨LQ _,(h.key e).2⟩,h.to,h.nd,h.n,h.p0,h.p1,h.p2,h.e,h.rq,h.rl⟩
   ·rename_i g4;rw[if_neg g4]at hok;have hl:=hok.ps.1;exact⟨hok,h.b,h.key,h.to,h.nd,h.n,h.p0,h.p1,h.p2,fun e=>absurd rfl e,fun _=>rfl,by show(t.ps++lM t x).length<=1000;exact Nat.le_trans hl (by decide)⟩
 ·unfold takeA;split
  ·exact h.end (fun e=>absurd rfl e) (by show(0:Nat)<=1000;decide)
  split
  ·exact h.end (fun _=>rfl) (by show(0:Nat)<=1000;decide)
  ·exact h
theorem Jy{t:TS}(h:t.dn=true):(bu t).1=t:=by unfold bu;rw[if_pos h]
