/- Part 48. -/
import Derived.Test.YtgbigpdiacjbgaaGreatKP41
import Derived.Test.YtgbigpdiacjbgaaGreatKP46
set_option linter.unusedSimpArgs false
set_option linter.unusedVariables false
set_option maxHeartbeats 32000000
set_option maxRecDepth 100000
namespace Go.Proofs.YtgbigpdiacjbgaaGreat
open Go.RowKit
namespace Cli
open bg Ops fG eP Vn Go.Proofs.YtgbigpdiacjbgaaGreat.Ask
section
variable{w w':World}{X X':CX}{C C':dh}
def Au(w:World)(X:CX)(C:dh)(a:iZ)(e:Ending)(w':World):Prop:=
 ∃X' A c,e=.returned (.tuple #[.slice A (jq C a).2.1.length c,.int .i64 (jq C a).2.2])/\gV w X C w' X' (jq C a).1/\uy w w' A c (jq C a).2.1
theorem uy.nil(w w':World):uy w w' none 0 []:=⟨⟨rfl,.inl ⟨rfl,rfl⟩⟩,fun k hk=>by simp[Value.ownBlock]at hk⟩
theorem Uc(h:gq w X C)(hi:gI C)(a:iZ)(ha:uZ w a)(hl:a.ops.length<=1000):Calls Tryz.prog 8 #[.pointer (some ⟨X.cb,0,none⟩),pN a] w (Au w X C a):=by
 by_cases ht:C.t.isSome=true
 ·have e:jq C a=(C,[],20):=if_pos ht;refine(PL h a ht).mono ?_;rintro e' w' ⟨rfl,hk⟩;unfold Au;rw[e];exact⟨X,none,0,rfl,gV.refl h hk,uy.nil _ _⟩
 have htn:C.t=none:=by cases e:C.t with
  |none=>rfl
  |some t=>exact absurd (by rw[e];rfl) ht
 by_cases hz:newE C.id (C.req+1) a=0
 ·have e:jq C a=(uz C a,wZ C a,0):=by unfold jq;rw[if_neg ht,if_neg (fun z=>z hz)]
  refine(LU h hi.ok a ha hl htn hz).mono ?_;rintro e' w' ⟨X',A,c,rfl,h1,h2⟩;unfold Au;rw[e];exact⟨X',A,c,rfl,h1,h2⟩
 ·have e:jq C a=(C,[],newE C.id (C.req+1) a):=by unfold jq;rw[if_neg ht,if_pos hz]
  refine(TJ h hi.ok a ha hl htn hz).mono ?_;rintro e' w' ⟨rfl,hk⟩;unfold Au;rw[e];exact⟨X,none,0,rfl,gV.refl h hk,uy.nil _ _⟩
theorem Wn(h:gq w X C)(hi:gI C):Calls Tryz.prog 12 #[.pointer (some ⟨X.cb,0,none⟩)] w (lG w X C (iQ C).1 (iQ C).2):=by
 cases ht:C.t with
 |none=>
  have e:iQ C=(C,[]):=by unfold iQ;rw[ht]
  rw[e];refine(TM h ht).mono ?_;rintro e' w' ⟨rfl,rfl⟩;exact⟨X,none,0,rfl,gV.refl h (Kept.refl _ _),uy.nil _ _⟩
 |some t=>
  have hv:=hi.t t ht;cases hz:(bu t).2 with
  |false=>
   have e:iQ C=(jy {C with t:=some (bu t).1},[]):=by unfold iQ;rw[ht];exact if_pos hz
   rw[e];refine(Jy h hi.ok ht hv.j.tick.rl hz).mono ?_;rintro e' w' ⟨rfl,X',h1⟩;exact⟨X',none,0,rfl,h1,uy.nil _ _⟩
  |true=>exact Yj h hi.ok ht hz ⟨hv.j.tick.ok,pK.bo hv.j.tick⟩ hv.a.tick
theorem zD{s:ByteArray}(hs:0<s.size):(bl s)[0]? =some s[0]:=zW s 0 hs
theorem Ud(h:gq w X C)(hi:gI C)(f:Int)(s:ByteArray)(hsm:s.size<=maxLen):Calls Tryz.prog 11 #[.pointer (some ⟨X.cb,0,none⟩),.int .i64 f,.string s] w (lG w X C (jk C f s).1 (jk C f s).2):=by
 have hno:∀e' w',e'=.returned (.slice none 0 0)->Kept aj w w'->lG w X C C [] e' w':=fun e' w' h1 hk=>⟨X,none,0,h1,gV.refl h hk,uy.nil _ _⟩;by_cases hs:0<s.size;rotate_left
 ·have hse:s=⟨#[]⟩:=by
   have h0:s.size=0:=by omega
   cases s with
   |mk d=>
    have h1:d.size=0:=h0;rw[Array.eq_empty_of_size_eq_zero h1]
  have e:jk C f s=(C,[]):=by unfold jk;rw[if_pos (by rw[hse];decide)]
  rw[e,hse];exact(JH h f).mono fun e' w' h1=>hno e' w' h1.1 (h1.2▸Kept.refl _ _)
 by_cases hb:s[0].toNat=77;rotate_left
 ·have e:jk C f s=(C,[]):=by unfold jk;rw[if_pos (by rw[zD hs];intro h1;injection h1 with h1;exact hb (by rw[h1];rfl))]
  rw[e];exact(JI h f s hs hb).mono fun e' w' h1=>hno e' w' h1.1 (h1.2▸Kept.refl _ _)
 have hfb:¬(bl s)[0]? ≠some 77:=by rw[zD hs];intro h1;exact h1 (congrArg some (UInt8.toNat_inj.1 hb))
 by_cases hz:(bJ.ofM (s.extract 1 s.size)).2=0;rotate_left
 ·have e:jk C f s=(C,[]):=by unfold jk;rw[if_neg hfb,if_pos hz]
  rw[e];exact(Nw h f s hs hsm hb hz).mono fun e' w' h1=>hno e' w' h1.1 h1.2
 have e:jk C f s=aV C f (bJ.ofM (s.extract 1 s.size)).1:=by unfold jk;rw[if_neg hfb,if_neg (fun z=>z hz)]
 rw[e];cases ht:C.t with
 |none=>
  have e2:(aV C f (bJ.ofM (s.extract 1 s.size)).1).2=[]:=by unfold aV;rw[ht]
  rw[e2];exact MB h ht f s hs hsm hb hz
 |some t=>exact MF h ht (hi.t t ht).j (hi.t t ht).a f s hs hsm hb hz
structure CZ(w:World)(cb:Nat)(W:World)(X:CX)(C:dh):Prop where
 at':gq W X C
 cb:X.cb=cb
 inv:gI C
 fr:∀k,pG X C k->w.heap.size<=k
 k:Kept aj w W
theorem CZ.quiet{cb:Nat}{W W':World}(h:CZ w cb W X C)(hk:Kept aj W W'):CZ w cb W' X C:=⟨h.at'.quiet hk,h.cb,h.inv,h.fr,h.k.then hk⟩
theorem CZ.step{cb:Nat}{W W':World}(h:CZ w cb W X C)(hs:gV W X C W' X' C')(hi:gI C'):CZ w cb W' X' C':=
 ⟨hs.at',hs.cb.trans h.cb,hi,fun k hk=>by
  rcases hs.g k hk with y|y
  ·exact h.fr k y
  ·have:=h.k.size;omega,h.k.trans hs.k (fun k hk=> .inr (h.fr k hk))⟩
theorem yZ{α:Type}{p:Prop} [Decidable p]{a b:α}{Q:α->Prop}(ha:p->Q a)(hb:¬p->Q b):Q (if p then a else b):=by
 by_cases h:p
 ·rw[if_pos h];exact ha h
 ·rw[if_neg h];exact hb h
theorem aaD(s:ByteArray):0<=(bJ.ofM s).1.at'/\(bJ.ofM s).1.at'<=aY:=by
 have z0:(0:Int)<=0/\(0:Int)<=aY:=by unfold aY;decide
 have hp:∀c (x:aO) r,(0<=x.at'/\x.at'<=aY)->0<=(bJ.bG s c x r).1.at'/\(bJ.bG s c x r).1.at'<=aY:=fun c x r h=>by
  have hs:∀v,(bJ.ou x c v).at'=x.at':=fun v=>by
   unfold bJ.ou;repeat' split
   all_goals rfl
  unfold bJ.bG;exact yZ (Q:=fun q:aO×Ops.RS×Int=>0<=q.1.at'/\q.1.at'<=aY) (fun _=>(by dsimp only;rw[hs];exact h)) (fun _=>yZ (Q:=fun q:aO×Ops.RS×Int=>0<=q.1.at'/\q.1.at'<=aY) (fun _=>h) (fun _=>yZ (Q:=fun q:aO×Ops.RS×Int=>0<=q.1.at'/\q.1.at'<=aY) (fun _=>h) (fun _=>yZ (Q:=fun q:aO×Ops.RS×Int=>0<=q.1.at'/\q.1.at'<=aY) (fun _=>h) (fun _=>yZ (Q:=fun q:aO×Ops.RS×Int=>0<=q.1.at'/\q.1.at'<=aY) (fun _=>h) (fun _=>yZ (Q:=fun q:aO×Ops.RS×Int=>0<=q.1.at'/\q.1.at'<=aY) (fun _=>h) (fun _=>yZ (Q:=fun q:aO×Ops.RS×Int=>0<=q.1.at'/\q.1.at'<=aY) (fun _=>h) (fun _=>yZ (Q:=fun q:aO×Ops.RS×Int=>0<=q.1.at'/\q.1.at'<=aY) (fun _=>(bJ.wV s r)) (fun _=>yZ (Q:=fun q:aO×Ops.RS×Int=>0<=q.1.at'/\q.1.at'<=aY) (fun _=>h) (fun _=>yZ (Q:=fun q:aO×Ops.RS×Int=>0<=q.1.at'/\q.1.at'<=aY) (fun _=>h) (fun _=>yZ (Q:=fun q:aO×Ops.RS×Int=>0<=q.1.at'/\q.1.at'<=aY) (fun _=>h) (fun _=>yZ (Q:=fun q:aO×Ops.RS×Int=>0<=q.1.at'/\q.1.at'<=aY) (fun _=>h) (fun _=>h))))))))))))
 have hl:∀(l:List Nat) (x:aO) r,(0<=x.at'/\x.at'<=aY)->0<=(bJ.dR s l x r).1.at'/\(bJ.dR s l x r).1.at'<=aY:=fun l=>by
  induction l with
  |nil=>intro x r h;exact h
  |cons c l ih=>
   intro x r h;rw[bJ.dR];split
   ·exact hp c x r h
   ·exact ih _ _ (hp c x r h)
 unfold bJ.ofM;split
 ·exact z0
 split
 ·exact z0
 split
 ·exact z0
 split
 ·exact z0
 split
 ·exact z0
 ·exact hl _ _ _ z0
end
end Cli
namespace wC
open bg Ops fG eP Vn Cli Go.Proofs.YtgbigpdiacjbgaaGreat.Ask
attribute [local go_sem↓] bW cZ
structure sS where
 cb:Nat
 dx:DX
 rA:Option Addr
 rc:Nat
 oA:Option Addr
 oc:Nat
def jc(Y:sS)(C:dh):Value:=match C.t with
 |none=> .pointer none
 |some _=> .pointer (some ⟨Y.dx.b,0,none⟩)
def lY(Y:sS)(C:dh)(L:List dS):Array Value:=#[.int .i64 C.id,.int .i64 C.req,.int .i64 C.ep,.int .i64 C.hd,jc Y C,.int .i64 C.r.req,.int .i64 C.r.e,.int .u64 C.r.at',.int .i64 C.r.pin,.slice Y.rA C.r.ps.length Y.rc,.bool C.has,.bool C.as',.int .i64 C.tk,.slice Y.oA L.length Y.oc]
def P8(A:Option Addr)(n k:Nat):Prop:=0<n/\∃ad,A=some ad/\ad.block=k
structure iR(w:World)(Y:sS)(C:dh)(L:List dS):Prop where
 b:Has w Y.cb 98 (lY Y C L)
 t:∀t,C.t=some t->kS w Y.dx t/\¬dN Y.dx t Y.cb
 r:Src w 2 Y.rA C.r.ps.length (bI C.r.ps)
 ar:∀k,P8 Y.rA C.r.ps.length k->k≠Y.cb/\(∀t,C.t=some t->¬dN Y.dx t k)/\(Value.slice Y.oA L.length Y.oc).ownBlock≠some k
 o:w.ownsRow 0 54 2 (.slice Y.oA L.length Y.oc) L.length (lI L)
 ao:∀k,(Value.slice Y.oA L.length Y.oc).ownBlock=some k->k≠Y.cb/\∀t,C.t=some t->¬dN Y.dx t k
def gX(Y:sS)(C:dh)(L:List dS)(k:Nat):Prop:=k=Y.cb\/(∃t,C.t=some t/\dN Y.dx t k)\/(Value.slice Y.oA L.length Y.oc).ownBlock=some k\/P8 Y.rA C.r.ps.length k
section
variable{w w':World}{Y Y':sS}{C C':dh}{L L':List dS}{G:Nat->Prop}
theorem kE(h:C.t=none):jc Y C=.pointer none:=by unfold jc;rw[h]
theorem dW{t:TS}(h:C.t=some t):jc Y C=.pointer (some ⟨Y.dx.b,0,none⟩):=by unfold jc;rw[h]
theorem iR.lQ(h:iR w Y C L)(hk:Kept G w w')(hs:∀k,gX Y C L k->¬G k):iR w' Y C L:=
 ⟨h.b.kept hk (hs _ (.inl rfl)),fun t e=>⟨(h.t t e).1.lQ hk (fun k hf=>hs k (.inr (.inl ⟨t,e,hf⟩))),(h.t t e).2⟩,Rm.vC h.r hk (fun k hG hr=>hs k (.inr (.inr (.inr hr))) hG),h.ar,aP h.o hk (fun k hk=>hs k (.inr (.inr (.inl hk)))),h.ao⟩
theorem iR.quiet(h:iR w Y C L)(hk:Kept aj w w'):iR w' Y C L:=h.lQ hk (fun _ _ z=>z)
theorem iR.lt(h:iR w Y C L){k:Nat}(hf:gX Y C L k):k<w.heap.size:=by
 rcases hf with rfl|⟨t,e,hf⟩|hf|hf
 ·exact h.b.lt
 ·exact(h.t t e).1.lt hf
 ·exact jB h.o hf
 ·exact Rm.oM h.r hf
structure aW(w:World)(Y:sS)(C:dh)(L:List dS)(w':World)(Y':sS)(C':dh)(L':List dS):Prop where
 at':iR w' Y' C' L'
 cb:Y'.cb=Y.cb
 g:∀k,gX Y' C' L' k->gX Y C L k\/w.heap.size<=k
 k:Kept (gX Y C L) w w'
theorem aW.refl(h:iR w Y C L)(hk:Kept aj w w'):aW w Y C L w' Y C L:=⟨h.quiet hk,rfl,fun _ h=> .inl h,Kept.yM hk⟩
theorem aW.trans{w1 w2:World}{Y1 Y2:sS}{C1 C2:dh}{L1 L2:List dS}(h:aW w Y C L w1 Y1 C1 L1)(k:aW w1 Y1 C1 L1 w2 Y2 C2 L2):aW w Y C L w2 Y2 C2 L2:=
 ⟨k.at',k.cb.trans h.cb,fun i hi=>by
  rcases k.g i hi with y|y
  ·exact h.g i y
  ·have:=h.k.size;exact .inr (by omega),h.k.trans k.k h.g⟩
theorem aW.quiet{w1 w2:World}{Y1:sS}{C1:dh}{L1:List dS}(h:aW w Y C L w1 Y1 C1 L1)(hk:Kept aj w1 w2):aW w Y C L w2 Y1 C1 L1:=h.trans (aW.refl h.at' hk)
theorem iR.nums(h:iR w Y C L)(hk:Kept (fun k=>k=Y.cb) w w')(hb:Has w' Y.cb 98 (lY Y C' L))(ht:C'.t=C.t)(hr:C'.r=C.r):aW w Y C L w' Y C' L:=by
 refine⟨⟨hb,fun t e=> ?_,?_,?_,aP h.o hk (fun k hk e=>(h.ao k hk).1 e),?_⟩,rfl,fun k hk=> ?_,hk.mono (fun k e=> .inl e)⟩
 ·rw[ht]at e;have h1:=h.t t e;exact⟨h1.1.lQ hk (fun k hf e=>h1.2 (e▸hf)),h1.2⟩
 ·rw[hr];exact Rm.vC h.r hk (fun k e hr=>(h.ar k hr).1 e)
 ·rw[hr,ht];exact h.ar
 ·rw[ht];exact h.ao
 ·unfold gX at hk⊢;rw[ht,hr]at hk;exact .inl hk
theorem iR.go(h:iR w Y C L){t t':TS}(ht:C.t=some t){X':DX}(hp:kS w' X' t')(hb:X'.b=Y.dx.b)(hf:∀k,dN X' t' k->dN Y.dx t k\/w.heap.size<=k)(hk:Kept (dN Y.dx t) w w'):aW w Y C L w' {Y with dx:=X'} {C with t:=some t'} L:=by
 have hlc:=h.b.lt;have ho:=fun k (hk:(Value.slice Y.oA L.length Y.oc).ownBlock=some k)=>jB h.o hk;have hr:=fun k (hk:P8 Y.rA C.r.ps.length k)=>Rm.oM h.r hk;refine⟨⟨?_,fun t2 e=> ?_,Rm.vC h.r hk (fun k hF hr=>(h.ar k hr).2.1 t ht hF),fun k hk=>⟨(h.ar k hk).1,fun t2 e hf2=> ?_,(h.ar k hk).2.2⟩,aP h.o hk (fun k hk=>(h.ao k hk).2 t ht),fun k hk=>⟨(h.ao k hk).1,fun t2 e hf2=> ?_⟩⟩,rfl,fun k hk2=> ?_,hk.mono (fun k hk=> .inr (.inl ⟨t,ht,hk⟩))⟩
 ·have h1:=h.b.kept hk (h.t t ht).2;have e1:lY {Y with dx:=X'} {C with t:=some t'} L=lY Y C L:=by unfold lY;rw[dW ht,dW (Y:={Y with dx:=X'}) (C:={C with t:=some t'}) rfl,hb]
  rw[e1];exact h1
 ·injection e with e;subst e;refine⟨hp,fun hf2=> ?_⟩;rcases hf _ hf2 with y|y
  ·exact(h.t t ht).2 y
  ·exact absurd (Nat.lt_of_lt_of_le hlc y) (Nat.lt_irrefl _)
 ·injection e with e;subst e;rcases hf _ hf2 with y|y
  ·exact(h.ar k hk).2.1 t ht y
  ·have:=hr k hk;omega
 ·injection e with e;subst e;rcases hf _ hf2 with y|y
  ·exact(h.ao k hk).2 t ht y
  ·have:=ho k hk;omega
 ·rcases hk2 with y|⟨t2,e,y⟩|y|y
  ·exact .inl (.inl y)
  ·injection e with e;subst e;rcases hf _ y with z|z
   ·exact .inl (.inr (.inl ⟨t,ht,z⟩))
   ·exact .inr z
  ·exact .inl (.inr (.inr (.inl y)))
  ·exact .inl (.inr (.inr (.inr y)))
theorem P9(w:World)(id:Int):Calls Tryz.prog 18 #[.int .i64 id] w fun e w'=>
  (¬(0<=id/\id<3)->e=.returned (.tuple #[.pointer none,.int .i64 1])/\Kept aj w w')/\
  (0<=id/\id<3->∃Y,e=.returned (.tuple #[.pointer (some ⟨Y.cb,0,none⟩),.int .i64 0])/\iR w' Y (BR id) []/\(∀k,gX Y (BR id) [] k->w.heap.size<=k)/\Kept aj w w'):=by
 by_cases h0:0<=id
 ·by_cases h1:id<3
  ·have hP:(0<=id/\id<3):=⟨h0,h1⟩;refine Calls.mono (R:=fun e w'=>∃Y,e=.returned (.tuple #[.pointer (some ⟨Y.cb,0,none⟩),.int .i64 0])/\iR w' Y (BR id) []/\(∀k,gX Y (BR id) [] k->w.heap.size<=k)/\Kept aj w w') ?_ (fun e w' h=>⟨fun hn=>absurd hP hn,fun _=>h⟩);clear hP;have h2:¬3<=id:=by omega
   go_enter Tryz.func18,Tryz.ntmps18;go_wp2;go_ret2;refine⟨⟨w.heap.size,⟨0,none,0,none,0,none,0⟩,none,0,none,0⟩,rfl,⟨Has.new _ _ _,(fun t e=>by cases e),Src.nil _ _ _,(fun k e=>by obtain⟨e,_⟩:=e;exact absurd e (Nat.lt_irrefl 0)),⟨rfl,.inl ⟨rfl,rfl⟩⟩,fun k e=>by simp[Value.ownBlock]at e⟩,fun k hk=> ?_,by(repeat'(first|(with_reducible first|exact ay|apply aA|apply aB|apply aC|apply aF)|(right;simp;done)))⟩;rcases hk with rfl|⟨t,e,-⟩|e|⟨e,_⟩
   ·exact Nat.le_refl _
   ·cases e
   ·simp[Value.ownBlock]at e
   ·exact absurd e (Nat.lt_irrefl 0)
  ·have hP:¬(0<=id/\id<3):=by omega
   refine Calls.mono (R:=fun e w'=>e=.returned (.tuple #[.pointer none,.int .i64 1])/\Kept aj w w') ?_ (fun e w' h=>⟨fun _=>h,fun hp=>absurd hp hP⟩);have h2:3<=id:=by omega
   clear hP;go_enter Tryz.func18,Tryz.ntmps18;go_wp2;go_ret2;exact⟨rfl,by(repeat'(first|(with_reducible first|exact ay|apply aA|apply aB|apply aC|apply aF)|(right;simp;done)))⟩
 ·have hP:¬(0<=id/\id<3):=by omega
  refine Calls.mono (R:=fun e w'=>e=.returned (.tuple #[.pointer none,.int .i64 1])/\Kept aj w w') ?_ (fun e w' h=>⟨fun _=>h,fun hp=>absurd hp hP⟩);have h2:id<0:=by omega
  clear hP h0;go_enter Tryz.func18,Tryz.ntmps18;go_wp2;go_ret2;exact⟨rfl,by(repeat'(first|(with_reducible first|exact ay|apply aA|apply aB|apply aC|apply aF)|(right;simp;done)))⟩
def yj(w:World)(Y:sS)(C:dh)(L:List dS)(e:Ending)(w':World):Prop:=
 e=.returned (.slice Y.oA L.length Y.oc)/\∃Y',aW w Y C L w' Y' C []/\w'.ownsRow 0 54 2 (.slice Y.oA L.length Y.oc) L.length (lI L)
theorem mg(h:iR w Y C L):Calls Tryz.prog 43 #[.pointer (some ⟨Y.cb,0,none⟩)] w (yj w Y C L):=by
 have q:w.cell? ⟨Y.cb,13,none⟩=some (.slice Y.oA L.length Y.oc):=h.b.cell 13;have f:=h.b.frozen 13;have hk:Kept (fun k=>k=Y.cb) w (w.setCell ⟨Y.cb,13,none⟩ (.slice none 0 0)):=(Kept.refl _ w).put (.inl rfl);have hb:Has (w.setCell ⟨Y.cb,13,none⟩ (.slice none 0 0)) Y.cb 98 (lY {Y with oA:=none,oc:=0} C []):=Has.aQ h.b rfl;have hend:yj w Y C L (.returned (.slice Y.oA L.length Y.oc)) (w.setCell ⟨Y.cb,13,none⟩ (.slice none 0 0)):=by
  refine⟨rfl,{Y with oA:=none,oc:=0},⟨⟨hb,fun t e=> ?_,Rm.vC h.r hk (fun k e hr=>(h.ar k hr).1 e),fun k hk=>⟨(h.ar k hk).1,(h.ar k hk).2.1,by simp[Value.ownBlock]⟩,⟨rfl,.inl ⟨rfl,rfl⟩⟩,fun k e=>by simp[Value.ownBlock]at e⟩,rfl,fun k hk=> ?_,hk.mono (fun k e=> .inl e)⟩,aP h.o hk (fun k hk e=>(h.ao k hk).1 e)⟩
  ·have h1:=h.t t e;exact⟨h1.1.lQ hk (fun k hf e=>h1.2 (e▸hf)),h1.2⟩
  ·rcases hk with y|y|y|y
   ·exact .inl (.inl y)
   ·exact .inl (.inr (.inl y))
   ·simp[Value.ownBlock]at y
   ·exact .inl (.inr (.inr (.inr y)))
 generalize yj w Y C L=Q at hend⊢;obtain⟨cb,hcb⟩:∃cb,Y.cb=cb:=⟨_,rfl⟩;obtain⟨n,hn⟩:∃n,L.length=n:=⟨_,rfl⟩;rw[hcb,hn]at q hend;rw[hcb]at f⊢;have HE:=ah hend;clear h hk hb hend hcb hn;go_enter Tryz.func43,Tryz.ntmps43;go_wp2_with fail;exact HE.out
def Bc(C:dh):Bool:=match C.t with
 |none=>false
 |some t=>jr t
theorem BA(h:iR w Y C L):Calls Tryz.prog 46 #[.pointer (some ⟨Y.cb,0,none⟩)] w fun e w'=>e=.returned (.bool (Bc C))/\w=w':=by
 have q4:w.cell? ⟨Y.cb,4,none⟩=some (jc Y C):=h.b.cell 4;obtain⟨cb,hcb⟩:∃cb,Y.cb=cb:=⟨_,rfl⟩;rw[hcb]at q4⊢;cases ht:C.t with
 |none=>
  rw[kE ht]at q4;have e:Bc C=false:=by unfold Bc;rw[ht]
  rw[e];clear h hcb ht e;go_enter Tryz.func46,Tryz.ntmps46;go_wp2;go_ret;exact⟨rfl,rfl⟩
 |some t=>
  rw[dW ht]at q4;have e:Bc C=jr t:=by unfold Bc;rw[ht]
  rw[e];have hd:=(h.t t ht).1.b;obtain⟨tb,htb⟩:∃tb,Y.dx.b=tb:=⟨_,rfl⟩;rw[htb]at q4 hd;have d15:w.cell? ⟨tb,15,none⟩=some (.bool t.dn):=hd.cell 15;have d10:w.cell? ⟨tb,10,none⟩=some (.int .i64 t.ph):=hd.cell 10;unfold jr;obtain⟨dn,hdn⟩:∃dn,t.dn=dn:=⟨_,rfl⟩;obtain⟨ph,iV⟩:∃ph,t.ph=ph:=⟨_,rfl⟩;rw[hdn]at d15⊢;rw[iV]at d10⊢;clear h hcb ht e hd htb hdn iV;cases dn
  ·by_cases hp:ph=0
   ·subst hp;go_enter Tryz.func46,Tryz.ntmps46;go_wp2;go_ret;exact⟨rfl,rfl⟩
   ·have e1:((ph:Int)==0)=false:=beq_false_of_ne (by omega);rw[show decide (ph=0)=false from decide_eq_false hp];go_enter Tryz.func46,Tryz.ntmps46;go_wp2;go_ret;exact⟨rfl,rfl⟩
  ·go_enter Tryz.func46,Tryz.ntmps46;go_wp2;go_ret;exact⟨rfl,rfl⟩
theorem MH(h:iR w Y C L)(hl:L.length<=1000)(to:Int)(m:aO)(hs:Sends w m)(ha:0<=m.at'/\m.at'<=aY)(hto:0<=to):
  Calls Tryz.prog 47 #[.pointer (some ⟨Y.cb,0,none⟩),.int .i64 to,aK m] w fun e w'=>e=.returned (.tuple #[])/\∃Y',aW w Y C L w' Y' C (bn L to m):=by
 obtain⟨W0,hW0⟩:∃W0,w.alloc (.cells (au m).toArray 63)=W0:=⟨_,rfl⟩;have hk0:Kept aj w W0:=by rw[<-hW0];(repeat'(first|(with_reducible first|exact ay|apply aA|apply aB|apply aC|apply aF)|(right;simp;done)))
 have hn0:Has W0 w.heap.size 63 (au m).toArray:=by rw[<-hW0];exact Has.new _ _ _
 have hput:=Rm.TV W0 m (hs.kept hk0) ha;have hl0:=aH W0 w.heap.size m hn0;have hck:=Rm.Et hs;have hS:bn L to m=L++[⟨to,mB (nH m)⟩]:=if_pos ⟨hck,hto⟩;have hsz:(nH m).size<=100000:=(Iu hs.k ha hck).2;rw[hS];obtain⟨s,hs2⟩:∃s,nH m=s:=⟨_,rfl⟩;rw[hs2]at hput hsz⊢;have h1:¬to<0:=by omega
 have HP:=ah hput;have aS:=ah hk0;have H:=ah h;have kY:Hid (L.length+1<=maxLen):=ah (by unfold maxLen;omega);have kR:Hid ((L.length+1)*24<=140737488355328):=ah (by omega);have hsum:¬9223372036854775807<(⟨#[77]⟩:ByteArray).size+s.size:=by have e1:(⟨#[77]⟩:ByteArray).size=1:=rfl;omega
 obtain⟨cb,hcb⟩:∃cb,Y.cb=cb:=⟨_,rfl⟩;rw[hcb];have cu:=ah hcb;obtain⟨cs,hcs⟩:∃cs,(au m).toArray=cs:=⟨_,rfl⟩;unfold aK at HP⊢;rw[hcs]at hW0 hl0 HP⊢;clear hput hk0 hn0 h hs ha hck hS hs2 hcb hcs hsz;go_enter Tryz.func47,Tryz.ntmps47;go_wp2_with fail;clear hW0 hl0;refine HP.out.mono ?_;rintro e w2 ⟨rfl,hk⟩;have hb2:=H.out.quiet (aS.out.then hk);have mW:=ah (aS.out.then hk);clear hk;have q:w2.cell? ⟨cb,13,none⟩=some (.slice Y.oA L.length Y.oc):=by rw[<-cu.out];exact hb2.b.cell 13
 have HB:=ah hb2;clear hb2;have hlb:cb<w2.heap.size:=by rw[<-cu.out];exact HB.out.b.lt
 go_wp2_with (at_builtin;refine bH N9 (.tmp 23) (.tmp 28) rfl rfl (Value.slice Y.oA L.length Y.oc) rfl (aP HB.out.o (F:=aj) (by(repeat'(first|(with_reducible first|exact ay|apply aA|apply aB|apply aC|apply aF)|(right;simp;done)))) (fun _ _ x=>x)) 1 rfl (Src.kW (t:=54) (size:=2) (m:=1) (cs:=#[.int .i64 to,.string (⟨#[77]⟩++s)]) (by(repeat (with_reducible first|exact Has.dQ _ _ _ (by simp)|apply Has.drew|apply Has.drewN|apply Has.alloc|(apply Has.past<;>(try omega))))) rfl) (by simp[Value.oneCell']) kY.out kR.out ?_;intro A1 c1 w9 ho1 hg1 ha1;have hk9:Kept (fun k=>(Value.slice Y.oA L.length Y.oc).ownBlock=some k) w2 w9:=Kept.grownBy (by(repeat'(first|(with_reducible first|exact ay|apply aA|apply aB|apply aC|apply aF)|(right;simp;done)))) hg1 (fun k hk=> .inl hk);have Fa:=HB.out.b.kept hk9 (fun e=>(HB.out.ao _ e).1 rfl);rw[cu.out]at Fa;have f9:=Fa.frozen 13;have d9:w9.cell? ⟨cb,13,none⟩=some (.slice Y.oA L.length Y.oc):=Fa.cell 13;have HO:=ah ho1;have HA:=ah ha1;have sJ:=ah hk9;have HF9:=ah Fa;clear ho1 hg1 ha1 hk9 Fa);go_end0;have hlen:(L++[(⟨to,mB s⟩:dS)]).length=L.length+1:=by simp
 have hnb:∀k,(Value.slice A1 (L.length+1) c1).ownBlock=some k->(Value.slice Y.oA L.length Y.oc).ownBlock=some k\/w2.heap.size<=k:=fun k hk=>by
  rcases HA.out with e|e
  ·exact .inl (e.symm.trans hk)
  ·have h9:=e.symm.trans hk;injection h9 with h9;simp at h9;exact .inr (by omega)
 have hw2:=mW.out.size;have hkk:Kept (fun k=>(Value.slice Y.oA L.length Y.oc).ownBlock=some k\/k=cb) w2 (w9.setCell ⟨cb,13,none⟩ (.slice A1 (L.length+1) c1)):=Kept.put (sJ.out.mono (fun _ z=> .inl z)) (.inl (.inr rfl));have hcell:Has (w9.setCell ⟨cb,13,none⟩ (.slice A1 (L.length+1) c1)) cb 98 (lY {Y with oA:=A1,oc:=c1} C (L++[⟨to,mB s⟩])):=Has.aQ HF9.out (by unfold lY;dsimp only;rw[hlen];rfl);have hlt:=fun k (hk:gX Y C L k)=>HB.out.lt hk;refine⟨rfl,{Y with oA:=A1,oc:=c1},⟨⟨by rw[cu.out];exact hcell,fun t e=> ?_,Rm.vC HB.out.r hkk (fun k hF hr=> ?_),fun k hk=>⟨(HB.out.ar k hk).1,(HB.out.ar k hk).2.1,fun e=> ?_⟩,?_,fun k hk=> ?_⟩,rfl,fun k hk=> ?_,?_⟩⟩
 ·have h1:=HB.out.t t e;refine⟨h1.1.lQ hkk (fun k hf hF=> ?_),h1.2⟩;rcases hF with y|y
  ·exact(HB.out.ao k y).2 t e hf
  ·subst y;rw[<-cu.out]at hf;exact h1.2 hf
 ·rcases hF with y|y
  ·exact(HB.out.ar k hr).2.2 y
  ·exact(HB.out.ar k hr).1 (y.trans cu.out.symm)
 ·rw[hlen]at e;rcases hnb k e with y|y
  ·exact(HB.out.ar k hk).2.2 y
  ·have:=hlt k (.inr (.inr (.inr hk)));omega
 ·rw[hlen,E9]
  exact aP (F:=fun k=>k=cb) HO.out ((Kept.refl _ w9).put (.inl rfl)) (fun g hg2 e=>by
   subst e;rcases hnb _ hg2 with y|y
   ·exact(HB.out.ao _ y).1 cu.out.symm
   ·omega)
 ·rw[hlen]at hk;rcases hnb k hk with y|y
  ·exact HB.out.ao k y
  ·refine⟨fun e=> ?_,fun t e hf=> ?_⟩
   ·have:=hlt k (.inl e);omega
   ·have:=hlt k (.inr (.inl ⟨t,e,hf⟩));omega
 ·rcases hk with y|y|y|y
  ·exact .inl (.inl y)
  ·exact .inl (.inr (.inl y))
  ·rw[hlen]at y;rcases hnb k y with z|z
   ·exact .inl (.inr (.inr (.inl z)))
   ·exact .inr (by omega)
  ·exact .inl (.inr (.inr (.inr y)))
 ·exact(Kept.yM mW.out).trans hkk (fun k hk=>by
   rcases hk with y|y
   ·exact .inl (.inr (.inr (.inl y)))
   ·exact .inl (.inl (y.trans cu.out.symm)))
