/- Part 22. -/
import Derived.Test.YtgbigpdiacjbgaaGreatCZ20
import Derived.Lib.QuietBelow
import Derived.Shelf.SlSortCmp.NoneTotal
import Derived.Shelf.SlIter.Nil
import Derived.Shelf.SortM.Plain
import Derived.Shelf.SortM.SortNone
set_option linter.unusedSimpArgs false
set_option linter.unusedVariables false
set_option maxHeartbeats 32000000
set_option maxRecDepth 100000
namespace Go.Proofs.YtgbigpdiacjbgaaGreat
open Go.RowKit
namespace Cli
open aJ Ops dG bQ Go.Proofs.YtgbigpdiacjbgaaGreat.Ask
structure eF where
 to:Int
 body:ByteArray
def Df(o:eF):List Value:=[.int .i64 o.to,.string o.body]
def lH(l:List eF):List Value:=l.flatMap Df
theorem rU(l:List eF)(o:eF):lH (l++[o])=lH l++[.int .i64 o.to,.string o.body]:=by unfold lH;rw[List.flatMap_append];rfl
theorem Ae:Elem Tryz.prog 39 54 2 24:=⟨Tryz.underlying39,⟨_,_,rfl,rfl,rfl,rfl,rfl⟩,by decide⟩
structure iq where
 id:Int
 req:Int
 ep:Int
 hd:Int
 t:Option TS
 r:kF
 has:Bool
 as':Bool
 tk:Int
structure CX where
 cb:Nat
 px:PX
 rA:Option Addr
 rc:Nat
def lI(X:CX)(C:iq):Value:=match C.t with
 |none=> .pointer none
 |some _=> .pointer (some ⟨X.px.b,0,none⟩)
def nY(X:CX)(C:iq):Array Value:=#[.int .i64 C.id,.int .i64 C.req,.int .i64 C.ep,.int .i64 C.hd,lI X C,.int .i64 C.r.req,.int .i64 C.r.e,.int .u64 C.r.at',.int .i64 C.r.pin,.slice X.rA C.r.ps.length X.rc,.bool C.has,.bool C.as',.int .i64 C.tk,.bool true]
structure dI(w:World)(X:CX)(C:iq):Prop where
 b:Has w X.cb 38 (nY X C)
 t:∀t,C.t=some t->fE w X.px t/\¬jk X.px t X.cb
 r:w.ownsRow 0 84 2 (.slice X.rA C.r.ps.length X.rc) C.r.ps.length (dO C.r.ps)
 ar:∀k,(Value.slice X.rA C.r.ps.length X.rc).ownBlock=some k->k≠X.cb/\∀t,C.t=some t->¬jk X.px t k
def iF(X:CX)(C:iq)(k:Nat):Prop:=k=X.cb\/(∃t,C.t=some t/\jk X.px t k)\/(Value.slice X.rA C.r.ps.length X.rc).ownBlock=some k
section
variable{w w':World}{X:CX}{C:iq}{G:Nat->Prop}
theorem dI.jy(h:dI w X C)(hk:Kept G w w')(hs:∀k,iF X C k->¬G k):dI w' X C:=
 ⟨h.b.kept hk (hs _ (.inl rfl)),fun t e=>⟨(h.t t e).1.jy hk (fun k hf=>hs k (.inr (.inl ⟨t,e,hf⟩))),(h.t t e).2⟩,aX h.r hk (fun k hk=>hs k (.inr (.inr hk))),h.ar⟩
theorem dI.quiet(h:dI w X C)(hk:Kept aj w w'):dI w' X C:=h.jy hk (fun _ _ z=>z)
theorem dI.lt(h:dI w X C){k:Nat}(hf:iF X C k):k<w.heap.size:=by
 rcases hf with rfl|⟨t,e,hf⟩|hf
 ·exact h.b.lt
 ·exact(h.t t e).1.lt hf
 ·exact fC h.r hf
theorem lJ(h:C.t=none):lI X C=.pointer none:=by unfold lI;rw[h]
theorem wL{t:TS}(h:C.t=some t):lI X C=.pointer (some ⟨X.px.b,0,none⟩):=by unfold lI;rw[h]
theorem lK(h:dI w X C):Calls Tryz.prog 24 #[.pointer (some ⟨X.cb,0,none⟩)] w fun e w'=>e=.returned (.bool false)/\w=w':=by have q:w.cell? ⟨X.cb,13,none⟩=some (.bool true):=h.b.cell 13;obtain⟨cb,hcb⟩:∃cb,X.cb=cb:=⟨_,rfl⟩;rw[hcb]at q⊢;clear h hcb;go_enter Tryz.func24,Tryz.ntmps24;go_wp2;go_ret;exact⟨rfl,rfl⟩
structure fH(w:World)(lb:Nat)(A:Option Addr)(c:Nat)(L:List eF):Prop where
 b:Has w lb 39 #[.slice A L.length c]
 r:w.ownsRow 0 54 2 (.slice A L.length c) L.length (lH L)
 ap:(Value.slice A L.length c).ownBlock≠some lb
def jC(lb:Nat)(A:Option Addr)(n c:Nat)(k:Nat):Prop:=k=lb\/(Value.slice A n c).ownBlock=some k
theorem fH.jy{lb c:Nat}{A:Option Addr}{L:List eF}(h:fH w lb A c L)(hk:Kept G w w')(hs:∀k,jC lb A L.length c k->¬G k):fH w' lb A c L:=
 ⟨h.b.kept hk (hs _ (.inl rfl)),aX h.r hk (fun k hk=>hs k (.inr hk)),h.ap⟩
theorem fH.quiet{lb c:Nat}{A:Option Addr}{L:List eF}(h:fH w lb A c L)(hk:Kept aj w w'):fH w' lb A c L:=h.jy hk (fun _ _ z=>z)
theorem fH.lt{lb c k:Nat}{A:Option Addr}{L:List eF}(h:fH w lb A c L)(hf:jC lb A L.length c k):k<w.heap.size:=by
 rcases hf with rfl|hf
 ·exact h.b.lt
 ·exact fC h.r hf
theorem yK(w:World):Calls Tryz.prog 26 #[] w fun e w'=>∃lb,e=.returned (.tuple #[.func (.func 52) #[] #[.pointer (some ⟨lb,0,none⟩)],.func (.func 54) #[] #[.pointer (some ⟨lb,0,none⟩)]])/\fH w' lb none 0 []/\w.heap.size<=lb/\Kept aj w w':=by go_enter Tryz.func26,Tryz.ntmps26;go_wp2;go_ret2;exact⟨w.heap.size,rfl,⟨Has.new _ _ _,⟨rfl,.inl ⟨rfl,rfl⟩⟩,by simp[Value.ownBlock]⟩,Nat.le_refl _,by(repeat'(first|(with_reducible first|exact ay|apply aA|apply aB|apply aC|apply aF)|(right;simp;done)))⟩
def mB(s:ByteArray):ByteArray:=⟨#[77]⟩++s
def bT(L:List eF)(to:Int)(m:aH):List eF:=if fA m=0/\0<=to then L++[⟨to,mB (iM m)⟩]else L
def sK(w:World)(lb:Nat)(A:Option Addr)(c:Nat)(L L':List eF)(e:Ending)(w':World):Prop:=
 e=.returned (.tuple #[])/\∃A' c',fH w' lb A' c' L'/\Kept (jC lb A L.length c) w w'/\∀k,jC lb A' L'.length c' k->jC lb A L.length c k\/w.heap.size<=k
theorem yL{m:aH}(hx:dM w m)(h:fA m=0):(iM m).size<=100000:=by obtain⟨hkk,hwr⟩:=sJ h;have nH:1<=m.k/\m.k<=15:=of_decide_eq_true hkk;have zC:=pG m.k;have h1:=dL (aT m) (partsOf m.k) 1100 (fun y hy=>pJ hx (hwr y hy));have h2:=aI (n:=m.k.toNat) (by omega);unfold iM;rw[if_pos h];show(qI m).toArray.size<=_;rw[List.size_toArray];unfold qI;rw[lA0];omega
theorem Kept.zF{F:Nat->Prop}{a b:World}(h:Kept aj a b):Kept F a b:=h.mono (fun _ z=>z.elim)
theorem put_any{lb c:Nat}{A:Option Addr}{L:List eF}(h:fH w lb A c L)(hl:L.length<=1000)(to:Int)(m:aH)(hm:dM w m):
  Calls Tryz.prog 52 #[.int .i64 to,bn m,.pointer (some ⟨lb,0,none⟩)] w (sK w lb A c L (bT L to m)):=by
 obtain⟨W0,hW0⟩:∃W0,w.alloc (.cells (au m).toArray 63)=W0:=⟨_,rfl⟩;have hk0:Kept aj w W0:=by rw[<-hW0];(repeat'(first|(with_reducible first|exact ay|apply aA|apply aB|apply aC|apply aF)|(right;simp;done)))
 have hn0:Has W0 w.heap.size 63 (au m).toArray:=by rw[<-hW0];exact Has.new _ _ _
 have hput:=yJ W0 m (hm.kept hk0);have hbad:¬(fA m=0/\0<=to)->∀W,Kept aj w W->sK w lb A c L (bT L to m) (.returned (.tuple #[])) W:=fun h0 W hW=>by unfold bT;rw[if_neg h0];exact⟨rfl,A,c,h.quiet hW,Kept.zF hW,fun k hk=> .inl hk⟩
 have hS:fA m=0->0<=to->bT L to m=L++[⟨to,mB (iM m)⟩]:=fun h0 h1=>if_pos ⟨h0,h1⟩;have hsz:fA m=0->(iM m).size<=100000:=yL hm;obtain⟨z,hz⟩:∃z,fA m=z:=⟨_,rfl⟩;obtain⟨s,hs⟩:∃s,iM m=s:=⟨_,rfl⟩;rw[hz]at hput hbad hS hsz;rw[hs]at hput hS hsz;have HP:=ah hput;have HN:=ah hn0;have aN:=ah hk0;have HBAD:=ah hbad;have HS:=ah hS;have H:=ah h;clear hput hn0 hk0 hbad hS h hm hz hs;by_cases h0:z=0;rotate_left
 ·have h2:(z==0)=false:=by simpa using h0
  have Bz:=ah (HBAD.out (fun x=>h0 x.1));clear h0 HBAD hsz;go_enter Tryz.func52,Tryz.ntmps52;go_wp2_with (refine wpList_load_row rfl 63 (.tmp 4) rfl w.heap.size rfl 63 _ (0,0) _ HN.out Tryz.underlying63 rfl (by kernel_rfl) ?_);clear hW0;refine HP.out.mono ?_;rintro e w2 ⟨rfl,hk⟩;have HF:=ah (Bz.out _ (aN.out.then hk));clear hk;go_wp2;go_end0;exact HF.out
 subst h0;by_cases h1:0<=to;rotate_left
 ·have Bz:=ah (HBAD.out (fun x=>h1 x.2));clear HBAD hsz;go_enter Tryz.func52,Tryz.ntmps52;go_wp2_with (refine wpList_load_row rfl 63 (.tmp 4) rfl w.heap.size rfl 63 _ (0,0) _ HN.out Tryz.underlying63 rfl (by kernel_rfl) ?_);clear hW0;refine HP.out.mono ?_;rintro e w2 ⟨rfl,hk⟩;have HF:=ah (Bz.out _ (aN.out.then hk));clear hk;go_wp2;go_end0;exact HF.out
 rw[HS.out rfl h1];have nS:Hid (L.length+1<=maxLen):=ah (by unfold maxLen;omega);have pK:Hid ((L.length+1)*24<=140737488355328):=ah (by omega);have hsum:¬9223372036854775807<(⟨#[77]⟩:ByteArray).size+s.size:=by have:=hsz rfl;have e1:(⟨#[77]⟩:ByteArray).size=1:=rfl;omega
 clear HBAD HS hsz;go_enter Tryz.func52,Tryz.ntmps52;go_wp2_with (refine wpList_load_row rfl 63 (.tmp 4) rfl w.heap.size rfl 63 _ (0,0) _ HN.out Tryz.underlying63 rfl (by kernel_rfl) ?_);clear hW0;refine HP.out.mono ?_;rintro e w2 ⟨rfl,hk⟩;have hb2:=H.out.quiet (aN.out.then hk);have jS:=ah (aN.out.then hk);clear hk;have q:w2.cell? ⟨lb,0,none⟩=some (.slice A L.length c):=hb2.b.cell 0;have HB:=ah hb2;clear hb2;have hlb:lb<w2.heap.size:=HB.out.b.lt;go_wp2_with (at_builtin;refine bM Ae (.tmp 18) (.tmp 23) rfl rfl (Value.slice A L.length c) rfl (aX HB.out.r (F:=aj) (by(repeat'(first|(with_reducible first|exact ay|apply aA|apply aB|apply aC|apply aF)|(right;simp;done)))) (fun _ _ x=>x)) 1 rfl (Src.jO (t:=54) (size:=2) (m:=1) (cs:=#[.int .i64 to,.string (⟨#[77]⟩++s)]) (by(repeat (with_reducible first|exact Has.jd _ _ _ (by simp)|apply Has.drew|apply Has.drewN|apply Has.alloc|(apply Has.past<;>(try omega))))) rfl) (by simp[Value.oneCell']) nS.out pK.out ?_;intro A1 c1 w9 ho1 hg1 ha1;have hk9:Kept (fun k=>(Value.slice A L.length c).ownBlock=some k) w2 w9:=Kept.grownBy (by(repeat'(first|(with_reducible first|exact ay|apply aA|apply aB|apply aC|apply aF)|(right;simp;done)))) hg1 (fun k hk=> .inl hk);have zG:Has w9 lb 39 #[.slice A L.length c]:=Has.kept HB.out.b hk9 HB.out.ap;have f9:=zG.frozen 0;have d9:=zG.cell 0;have HO:=ah ho1;have HA:=ah ha1;have BA:=ah hk9;have Fq:=ah zG;clear ho1 hg1 ha1 hk9 zG);go_end0;have hlen:(L++[(⟨to,mB s⟩:eF)]).length=L.length+1:=by simp
 have hnb:∀k,(Value.slice A1 (L.length+1) c1).ownBlock=some k->(Value.slice A L.length c).ownBlock=some k\/w2.heap.size<=k:=fun k hk=>by
  rcases HA.out with e|e
  ·exact .inl (e.symm.trans hk)
  ·have h9:=e.symm.trans hk;injection h9 with h9;simp at h9;exact .inr (by omega)
 have hap:(Value.slice A1 (L.length+1) c1).ownBlock≠some lb:=fun e=>by
  rcases hnb _ e with y|y
  ·exact HB.out.ap y
  ·omega
 refine⟨rfl,A1,c1,⟨?_,?_,by rw[hlen];exact hap⟩,?_,fun k hk=> ?_⟩
 ·rw[hlen];exact Has.bI Fq.out rfl
 ·rw[hlen,rU];exact aX (F:=fun k=>k=lb) HO.out ((Kept.refl _ w9).put (.inl rfl)) (fun g hg2 e=>by subst e;exact hap hg2)
 ·exact((Kept.zF (F:=jC lb A L.length c) jS.out).trans BA.out (fun k hk=> .inl (.inr hk))).put (.inl (.inl rfl))
 ·rw[hlen]at hk;rcases hk with rfl|hk
  ·exact .inl (.inl rfl)
  ·rcases hnb k hk with y|y
   ·exact .inl (.inr y)
   ·have:=jS.out.size;exact .inr (by omega)
end
end Cli
end Go.Proofs.YtgbigpdiacjbgaaGreat
namespace Go.Proofs.YtgbigpdiacjbgaaGreat
open Go.Shelf Go.Sort Go.RowKit Go.Maps Go.Proofs
namespace pO
def uz:Go.Shelf.Ren:=⟨fun|6=>82|15=>124|14=>123|28=>165|29=>166|20=>157|21=>158|22=>159|23=>160|24=>161|25=>162|26=>163|27=>164|46=>178|47=>179|48=>180|49=>181|50=>182|57=>186|n=>n,fun|22=>144|24=>145|25=>147|3=>3|39=>201|0=>0|53=>243|55=>22|4=>4|46=>236|45=>235|50=>240|5=>5|9=>9|66=>256|70=>161|76=>262|77=>44|n=>n,fun|n=>n⟩
theorem wM:Go.Proofs.SlLaysF0.n6 Tryz.prog uz:={
 mixed:=by kernel_rfl
 f6:=⟨Tryz.f82.name,by decide,Tryz.func82.trans (congrArg some (by kernel_rfl))⟩
 f14:=⟨Tryz.f123.name,by decide,Tryz.func123.trans (congrArg some (by kernel_rfl))⟩
 f15:=Tryz.func124.trans (congrArg some (by kernel_rfl))
 f20:=⟨Tryz.f157.name,by decide,Tryz.func157.trans (congrArg some (by kernel_rfl))⟩
 f21:=⟨Tryz.f158.name,by decide,Tryz.func158.trans (congrArg some (by kernel_rfl))⟩
 f22:=⟨Tryz.f159.name,by decide,Tryz.func159.trans (congrArg some (by kernel_rfl))⟩
 f23:=⟨Tryz.f160.name,by decide,Tryz.func160.trans (congrArg some (by kernel_rfl))⟩
 f24:=⟨Tryz.f161.name,by decide,Tryz.func161.trans (congrArg some (by kernel_rfl))⟩
 f25:=⟨Tryz.f162.name,by decide,Tryz.func162.trans (congrArg some (by kernel_rfl))⟩
 f26:=⟨Tryz.f163.name,by decide,Tryz.func163.trans (congrArg some (by kernel_rfl))⟩
 f27:=⟨Tryz.f164.name,by decide,Tryz.func164.trans (congrArg some (by kernel_rfl))⟩
 f28:=Tryz.func165.trans (congrArg some (by kernel_rfl))
 f29:=Tryz.func166.trans (congrArg some (by kernel_rfl))
 f46:=⟨Tryz.f178.name,by decide,Tryz.func178.trans (congrArg some (by kernel_rfl))⟩
 f47:=Tryz.func179.trans (congrArg some (by kernel_rfl))
 f48:=Tryz.func180.trans (congrArg some (by kernel_rfl))
 f49:=⟨Tryz.f181.name,by decide,Tryz.func181.trans (congrArg some (by kernel_rfl))⟩
 f50:=⟨Tryz.f182.name,by decide,Tryz.func182.trans (congrArg some (by kernel_rfl))⟩
 f57:=⟨Tryz.f186.name,by decide,Tryz.func186.trans (congrArg some (by kernel_rfl))⟩
 t0:=Tryz.underlying0
 a0:=Tryz.isAgg0
 z0:=Tryz.sizeOf0
 v0:=Tryz.zeroValue0
 t3:=Tryz.underlying3
 a3:=Tryz.isAgg3
 z3:=Tryz.sizeOf3
 v3:=Tryz.zeroValue3
 t4:=Tryz.underlying4
 a4:=Tryz.isAgg4
 z4:=Tryz.sizeOf4
 v4:=Tryz.zeroValue4
 t5:=Tryz.underlying5
 a5:=Tryz.isAgg5
 z5:=Tryz.sizeOf5
 v5:=Tryz.zeroValue5
 t9:=Tryz.underlying9
 a9:=Tryz.isAgg9
 z9:=Tryz.sizeOf9
 v9:=Tryz.zeroValue9
 t22:=Tryz.underlying144
 a22:=Tryz.isAgg144
 z22:=Tryz.sizeOf144
 v22:=Tryz.zeroValue144
 t25:=Tryz.underlying147
 a25:=Tryz.isAgg147
 z25:=Tryz.sizeOf147
 v25:=Tryz.zeroValue147
 t39:=Tryz.underlying201
 a39:=Tryz.isAgg201
 z39:=Tryz.sizeOf201
 v39:=Tryz.zeroValue201
 t45:=Tryz.underlying235
 a45:=Tryz.isAgg235
 z45:=Tryz.sizeOf235
 v45:=Tryz.zeroValue235
 t46:=Tryz.underlying236
 a46:=Tryz.isAgg236
 z46:=Tryz.sizeOf236
 v46:=Tryz.zeroValue236
 t50:=Tryz.underlying240
 a50:=Tryz.isAgg240
 z50:=Tryz.sizeOf240
 v50:=Tryz.zeroValue240
 t53:=Tryz.underlying243
 a53:=Tryz.isAgg243
 z53:=Tryz.sizeOf243
 v53:=Tryz.zeroValue243
 t55:=Tryz.underlying22
 a55:=Tryz.isAgg22
 z55:=Tryz.sizeOf22
 v55:=Tryz.zeroValue22
 t66:=Tryz.underlying256
 a66:=Tryz.isAgg256
 z66:=Tryz.sizeOf256
 v66:=Tryz.zeroValue256
 t70:=Tryz.underlying161
 a70:=Tryz.isAgg161
 z70:=Tryz.sizeOf161
 v70:=Tryz.zeroValue161
 t76:=Tryz.underlying262
 a76:=Tryz.isAgg262
 z76:=Tryz.sizeOf262
 v76:=Tryz.zeroValue262
 t77:=Tryz.underlying44
 a77:=Tryz.isAgg44
 z77:=Tryz.sizeOf44
 v77:=Tryz.zeroValue44}
theorem uD(p:Option Addr)(cap:Nat)(fv:Value)(w:World):Calls Tryz.prog 82 #[.slice p 0 cap,fv] w fun e w'=>e=.returned (.tuple #[])/\w'=w:=
 AnyF.slices_SortFunc_none wM p cap fv w
end pO
end Go.Proofs.YtgbigpdiacjbgaaGreat
namespace Go.Proofs.YtgbigpdiacjbgaaGreat
open Go.RowKit
namespace Keys
def bl(l:List ByteArray):List BL:=l.map ByteArray.toList
end Keys
end Go.Proofs.YtgbigpdiacjbgaaGreat
namespace Go.Proofs.YtgbigpdiacjbgaaGreat
open Go.RowKit Go.Maps
namespace Ops
open Vn
theorem BD:Elem Tryz.prog 23 143 3 40:=by obtain⟨i0,hi,hz0,hz1,hz2⟩:=info_parts (show(Tryz.prog.info? 143).map (fun i=>(i.zero,i.size,i.bytes))=some (some (.agg #[.string ⟨#[]⟩,.string ⟨#[]⟩,.bool false]),3,40) by kernel_rfl);exact⟨Tryz.underlying23,⟨i0,_,hi,hz0,hz1,hz2,rfl⟩,by decide⟩
