/- Part 51. -/
import Derived.Test.YtgbigpdiacjbgaaGreatKP48
import Derived.Test.YtgbigpdiacjbgaaGreatKP49
set_option linter.unusedSimpArgs false
set_option linter.unusedVariables false
set_option maxHeartbeats 32000000
set_option maxRecDepth 100000
namespace Go.Proofs.YtgbigpdiacjbgaaGreat
open Go.RowKit
namespace wC
open bg Ops fG eP Vn Cli Go.Proofs.YtgbigpdiacjbgaaGreat.Ask
attribute [local go_sem↓] bW cZ qB
attribute [local go_sem] rW
section
variable{w w':World}{Y Y':sS}{C C':dh}{L L':List dS}
theorem iR.task{w3 V:World}(h:iR w Y C L)(hk:Kept aj w w3){X':DX}{t':TS}{r1:Int}(ht:C.t=none)(hp:kS w3 X' t')(hf:∀k,dN X' t' k->w.heap.size<=k)(hkc:Kept (fun k=>k=Y.cb) w3 V)(hb:Has V Y.cb 98 (lY {Y with dx:=X'} {C with req:=r1,t:=some t'} L)):
  aW w Y C L V {Y with dx:=X'} {C with req:=r1,t:=some t'} L:=by
 have h3:=h.quiet hk;have hlt:=fun k (hk:gX Y C L k)=>h.lt hk;have hcb:=hlt _ (.inl rfl);refine⟨⟨hb,fun t e=> ?_,Rm.vC h3.r hkc (fun k e hr=>(h.ar k hr).1 e),fun k hk=>⟨(h.ar k hk).1,fun t e hf2=> ?_,(h.ar k hk).2.2⟩,aP h3.o hkc (fun k hk e=>(h.ao k hk).1 e),fun k hk=>⟨(h.ao k hk).1,fun t e hf2=> ?_⟩⟩,rfl,fun k hk2=> ?_,(Kept.yM hk).trans hkc (fun k e=> .inl (.inl e))⟩
 ·injection e with e;subst e;exact⟨hp.lQ hkc (fun k hf2 e=>by have:=hf k hf2;have:=hlt k (.inl e);omega),fun hf2=>by have:=hf _ hf2;exact absurd (Nat.lt_of_lt_of_le hcb this) (Nat.lt_irrefl _)⟩
 ·injection e with e;subst e;have:=hf k hf2;have:=hlt k (.inr (.inr (.inr hk)));omega
 ·injection e with e;subst e;have:=hf k hf2;have:=hlt k (.inr (.inr (.inl hk)));omega
 ·rcases hk2 with y|⟨t2,e,y⟩|y|y
  ·exact .inl (.inl y)
  ·injection e with e;subst e;exact .inr (hf k y)
  ·exact .inl (.inr (.inr (.inl y)))
  ·exact .inl (.inr (.inr (.inr y)))
def ED(w:World)(Y:sS)(C:dh)(a:iZ)(e:Ending)(w':World):Prop:=
 ∃Y' A c,e=.returned (.tuple #[.slice A (jq C a).2.1.length c,.int .i64 (jq C a).2.2])/\aW w Y C [] w' Y' (jq C a).1 []/\Src w' 2 A (jq C a).2.1.length (lI (jq C a).2.1)
theorem Qa(h:iR w Y C [])(hi:gI C)(a:iZ)(ha:uZ w a)(hl:a.ops.length<=1000):Calls Tryz.prog 19 #[.pointer (some ⟨Y.cb,0,none⟩),pN a] w (ED w Y C a):=by
 obtain⟨W0,hW0⟩:∃W0,w.alloc (.cells (bQ a).toArray 25)=W0:=⟨_,rfl⟩;have hk0:Kept aj w W0:=by rw[<-hW0];(repeat'(first|(with_reducible first|exact ay|apply aA|apply aB|apply aC|apply aF)|(right;simp;done)))
 have hn0:Has W0 w.heap.size 25 (bQ a).toArray:=by rw[<-hW0];exact Has.new _ _ _
 have h0:=h.quiet hk0;have q:W0.cell? ⟨Y.cb,4,none⟩=some (jc Y C):=h0.b.cell 4;have q0:W0.cell? ⟨Y.cb,0,none⟩=some (.int .i64 C.id):=h0.b.cell 0;have q1:W0.cell? ⟨Y.cb,1,none⟩=some (.int .i64 C.req):=h0.b.cell 1;have hrq:=hi.req;obtain⟨cb,hcb⟩:∃cb,Y.cb=cb:=⟨_,rfl⟩;by_cases ht:C.t.isSome=true
 ·have e:jq C a=(C,[],20):=if_pos ht;unfold ED;rw[e];obtain⟨t,htt⟩:=Option.isSome_iff_exists.1 ht;rw[dW htt]at q;have hend:∀W,Kept aj w W->∃Y' A c,(Ending.returned (.tuple #[.slice none 0 0,.int .i64 20]):Ending)=.returned (.tuple #[.slice A 0 c,.int .i64 20])/\aW w Y C [] W Y' C []/\Src W 2 A 0 []:=fun W hW=>⟨Y,none,0,rfl,aW.refl h hW,Src.nil _ _ _⟩;rw[hcb]at q⊢;have HE:=ah hend;have aS:=ah hk0;obtain⟨tb,htb⟩:∃tb,Y.dx.b=tb:=⟨_,rfl⟩;rw[htb]at q;unfold pN;obtain⟨cs,hcs⟩:∃cs,(bQ a).toArray=cs:=⟨_,rfl⟩;rw[hcs]at hW0⊢;clear hend hk0 hn0 h0 h hi ha q0 q1 hrq ht e htt hcb htb hcs;go_enter Tryz.func19,Tryz.ntmps19;go_wp2_with fail;clear hW0;go_ret2;exact HE.out _ aS.out
 have htn:C.t=none:=by cases e:C.t with
  |none=>rfl
  |some t=>exact absurd (by rw[e];rfl) ht
 rw[kE htn]at q;have hnew:=fun W (hW:Kept aj W0 W)=>Wv W C.id (C.req+1) a (ha.kept (hk0.then hW)) hl;unfold qC at hnew;have hwr0:IntKind.i64.wrap (C.req+1)=C.req+1:=IntWalk.i64_in _ (by omega);obtain⟨u1,u2⟩:=wB (cs:=bQ a) rfl hn0;have hS:∀W,Kept aj W0 W->W.cell? ⟨cb,0,none⟩=some (.int .i64 C.id)/\W.cell? ⟨cb,1,none⟩=some (.int .i64 C.req)/\yD W ⟨w.heap.size,0,none⟩/\vF W ⟨w.heap.size,0,none⟩=(bQ a).toArray:=fun W hW=>by have hb:=h0.b.kept hW (fun z=>z);rw[hcb]at hb;exact⟨hb.cell 0,hb.cell 1,wB (cs:=bQ a) rfl (hn0.kept hW (fun z=>z))⟩
 by_cases hz:newE C.id (C.req+1) a=0;rotate_left
 ·have e:jq C a=(C,[],newE C.id (C.req+1) a):=by unfold jq;rw[if_neg ht,if_pos hz]
  unfold ED;rw[e];have hnew2:=fun W hW=>(hnew W hW).mono fun e w' hp=>show e=.returned (.tuple #[.pointer none,.int .i64 (newE C.id (C.req+1) a)])/\Kept aj W w' from hp.1 hz;obtain⟨r1,hr1⟩:∃r1,C.req+1=r1:=⟨_,rfl⟩;rw[hr1]at hnew2 hz⊢;have hwr:IntKind.i64.wrap (C.req+1)=r1:=by rw[<-hr1];exact hwr0
  obtain⟨z,hzz⟩:∃z,newE C.id r1 a=z:=⟨_,rfl⟩;rw[hzz]at hz⊢;simp only[hzz]at hnew2;have hz2:(z !=0)=true:=by simpa using hz
  have hend:∀W,Kept aj w W->∃Y' A c,(Ending.returned (.tuple #[.slice none 0 0,.int .i64 z]):Ending)=.returned (.tuple #[.slice A 0 c,.int .i64 z])/\aW w Y C [] W Y' C []/\Src W 2 A 0 []:=fun W hW=>⟨Y,none,0,rfl,aW.refl h hW,Src.nil _ _ _⟩;rw[hcb]at q q0 q1⊢;unfold pN at hnew2⊢;obtain⟨cs,hcs⟩:∃cs,(bQ a).toArray=cs:=⟨_,rfl⟩;rw[hcs]at hW0 u2⊢;simp only[hcs]at hnew2 hS;have HE:=ah hend;have aS:=ah hk0;have mF:=ah hnew2;have HS:=ah hS;clear hend hk0 hn0 h0 h hi ha hrq ht htn e hcb hcs hnew hnew2 hwr0 hz hzz hr1 hS;go_enter Tryz.func19,Tryz.ntmps19;go_wp2_with fail;clear hW0
  go_region_held3 (fun W=>W.cell? ⟨cb,0,none⟩=some (.int .i64 C.id)/\W.cell? ⟨cb,1,none⟩=some (.int .i64 C.req)/\yD W ⟨w.heap.size,0,none⟩/\vF W ⟨w.heap.size,0,none⟩=cs) (first|with_reducible exact s3|with_reducible exact⟨q0,q1,u1,u2⟩|(refine HS.out _ ?_;(repeat'(first|(with_reducible first|exact ay|apply aA|apply aB|apply aC|apply aF)|(right;simp;done)));done))
   (first|(go_at_call 41;refine(mF.out _ (by(repeat'(first|(with_reducible first|exact ay|apply aA|apply aB|apply aC|apply aF)|(right;simp;done))))).mono ?_;rintro e w3 ⟨rfl,hk3⟩;have s3:=HS.out w3 (Kept.then (F:=aj) (a:=W0) (by(repeat'(first|(with_reducible first|exact ay|apply aA|apply aB|apply aC|apply aF)|(right;simp;done)))) hk3);have dI:=ah (Kept.then (F:=aj) (a:=W0) (by(repeat'(first|(with_reducible first|exact ay|apply aA|apply aB|apply aC|apply aF)|(right;simp;done)))) hk3);clear hk3))
  go_wp2_with fail;go_ret2;exact HE.out _ (aS.out.then dI.out)
 ·have e:jq C a=(uz C a,wZ C a,0):=by unfold jq;rw[if_neg ht,if_neg (fun z=>z hz)]
  have hin:=hi.start (a:=a) ha.2.2.2.2.2.2.1 ha.2.2.2.2.2.2.2.1;rw[e]at hin;have gZ:=Mc.new (C:=C) ha.2.2.2.2.2.2.1 ha.2.2.2.2.2.2.2.1 hz;unfold ED;rw[e];dsimp only at hin⊢;have hnew2:=fun W hW=>(hnew W hW).mono fun e w' hp=>show∃X:DX,e=.returned (.tuple #[.pointer (some ⟨X.b,0,none⟩),.int .i64 0])/\kS w' X (newT C.id (C.req+1) a)/\(∀k,dN X (newT C.id (C.req+1) a) k->W.heap.size<=k)/\Kept aj W w' from hp.2 hz;have hgo:∀w3 X V,Kept aj W0 w3->kS w3 X (newT C.id (C.req+1) a)->(∀k,dN X (newT C.id (C.req+1) a) k->W0.heap.size<=k)->(w3.setCell ⟨Y.cb,1,none⟩ (.int .i64 (C.req+1))).setCell ⟨Y.cb,4,none⟩ (.pointer (some ⟨X.b,0,none⟩))=V->aW w Y C [] V {Y with dx:=X} (uz C a) []:=fun w3 X V hk hp hf hV=>by have hb:=((h0.quiet hk)).b;refine h.task (hk0.then hk) htn hp (fun k hk2=>Nat.le_trans hk0.size (hf k hk2)) (by rw[<-hV];(repeat'(first|(with_reducible first|exact ay|apply aA|apply aB|apply aC|apply aF)|(exact Or.inl rfl)|(right;simp;done)))) ?_;rw[<-hV];refine Has.aQ (Has.aQ hb rfl) ?_;have e9:jc {Y with dx:=X} {C with req:=C.req+1,t:=some (newT C.id (C.req+1) a)}=.pointer (some ⟨X.b,0,none⟩):=dW (t:=newT C.id (C.req+1) a) rfl;unfold lY;rw[e9];rfl
  have hsn:∀V X,iR V {Y with dx:=X} (uz C a) []->Calls Tryz.prog 42 #[.pointer (some ⟨Y.cb,0,none⟩)] V fun e w'=>e=.returned (.tuple #[])/\∃Y',aW V {Y with dx:=X} (uz C a) [] w' Y' (uz C a) (wZ C a):=fun V X hV=>mD hV hin.1.ep hin.1.hd.2 rfl gZ.j gZ.a gZ.dn (Nat.zero_le _);have Wx:∀w3,Kept aj W0 w3->w3.cell? ⟨Y.cb,1,none⟩=some (.int .i64 C.req)/\w3.frozen? ⟨Y.cb,1,none⟩=false/\w3.cell? ⟨Y.cb,4,none⟩=some (.pointer none)/\w3.frozen? ⟨Y.cb,4,none⟩=false:=fun w3 hk=>by have hb:=(h0.quiet hk).b;have h4:w3.cell? ⟨Y.cb,4,none⟩=some (jc Y C):=hb.cell 4;rw[kE htn]at h4;exact⟨hb.cell 1,hb.frozen 1,h4,hb.frozen 4⟩
  obtain⟨r1,hr1⟩:∃r1,C.req+1=r1:=⟨_,rfl⟩;simp only[hr1]at hnew2 hgo;have hwr:IntKind.i64.wrap (C.req+1)=r1:=by rw[<-hr1];exact hwr0
  obtain⟨C1,jQ⟩:∃C1,uz C a=C1:=⟨_,rfl⟩;obtain⟨L1,hL1⟩:∃L1,wZ C a=L1:=⟨_,rfl⟩;simp only[jQ]at hgo;simp only[jQ,hL1]at hsn;rw[jQ,hL1];simp only[hcb]at hgo hsn Wx;rw[hcb]at q q0 q1⊢;unfold pN at hnew2⊢;obtain⟨cs,hcs⟩:∃cs,(bQ a).toArray=cs:=⟨_,rfl⟩;rw[hcs]at hW0 u2⊢;simp only[hcs]at hnew2 hS;obtain⟨nl,hnl⟩:∃nl,L1.length=nl:=⟨_,rfl⟩;rw[hnl];have aS:=ah hk0;have mF:=ah hnew2;have HS:=ah hS;have jH:=ah hgo;have nI:=ah hsn;have HRQ:=ah Wx;have cu:=ah hcb;have HR1:=ah (And.intro hr1 hrq);have o9:=ah hnl;clear hk0 hn0 h0 h hi ha hrq ht htn e hcb hcs hnew hnew2 hwr0 hz hr1 hS hgo hsn Wx jQ hL1 hin gZ hnl;go_enter Tryz.func19,Tryz.ntmps19;go_wp2_with fail;clear hW0
  go_region_held3 (fun W=>W.cell? ⟨cb,0,none⟩=some (.int .i64 C.id)/\W.cell? ⟨cb,1,none⟩=some (.int .i64 C.req)/\yD W ⟨w.heap.size,0,none⟩/\vF W ⟨w.heap.size,0,none⟩=cs) (first|with_reducible exact s3|with_reducible exact⟨q0,q1,u1,u2⟩|(refine HS.out _ ?_;(repeat'(first|(with_reducible first|exact ay|apply aA|apply aB|apply aC|apply aF)|(right;simp;done)));done))
   (first|(go_at_call 41;refine(mF.out _ (by(repeat'(first|(with_reducible first|exact ay|apply aA|apply aB|apply aC|apply aF)|(right;simp;done))))).mono ?_;rintro e w3 ⟨X3,rfl,hd3,hf3,hk3⟩;have hkk:Kept aj W0 w3:=(Kept.then (F:=aj) (a:=W0) (by(repeat'(first|(with_reducible first|exact ay|apply aA|apply aB|apply aC|apply aF)|(right;simp;done)))) hk3);have s3:=HS.out w3 hkk;have dI:=ah hkk;have HD3:=ah hd3;have HF3:=ah (show∀k,dN X3 _ k->W0.heap.size<=k from hf3);clear hk3 hkk hd3 hf3))
  all_goals
   obtain⟨r0,rf0,r4,rf4⟩:=HRQ.out w3 dI.out
   have hr1:=HR1.out.1
   have hr2:=HR1.out.2.1
   have hr3:=HR1.out.2.2
   clear q q0 q1 u1 u2 hwr
   subst hr1
   obtain⟨V,hV⟩:∃V,(w3.setCell ⟨cb,1,none⟩ (.int .i64 (C.req+1))).setCell ⟨cb,4,none⟩ (.pointer (some ⟨X3.b,0,none⟩))=V:=⟨_,rfl⟩
   have HST:=ah (jH.out w3 X3 V dI.out HD3.out HF3.out hV)
   go_wp2_with fail
   clear hV r0 rf0 r4 rf4 hr2 hr3
   refine(nI.out V X3 HST.out.at').mono ?_
   rintro e w5 ⟨rfl,Y5,hs5⟩
   have uX:=ah (HST.out.trans hs5)
   clear hs5
   have htl:=mg uX.out.at'
   rw[uX.out.cb,cu.out]at htl
   have gU:=ah htl
   clear htl
   unfold yj at gU
   rw[o9.out]at gU
   go_wp2_with fail
   refine gU.out.mono ?_
   rintro e w6 ⟨rfl,Y6,hs6,ji⟩
   have HE:=ah (And.intro (uX.out.trans hs6) (Src.fA ji))
   clear hs6 ji
   go_wp2_with fail
   go_ret2
   exact⟨Y6,_,_,rfl,HE.out.1,by have h9:=HE.out.2;exact h9⟩
end
end wC
namespace wC
open bg Ops fG eP Vn Cli Go.Proofs.YtgbigpdiacjbgaaGreat.Ask
attribute [local go_sem↓] bW cZ
section
variable{w w':World}{Y Y':sS}{C C':dh}{L L':List dS}
def eY(w:World)(Y:sS)(C C':dh)(L':List dS)(e:Ending)(w':World):Prop:=
 ∃Y' A c,e=.returned (.slice A (List.length L') c)/\aW w Y C [] w' Y' C' []/\Src w' 2 A L'.length (lI L')
theorem aW.told{w1 w2:World}{Y1:sS}{C1:dh}{L1:List dS}{e:Ending}(h:aW w Y C [] w1 Y1 C1 L1)(ht:yj w1 Y1 C1 L1 e w2):eY w Y C C1 L1 e w2:=by obtain⟨he,Y2,hs,ho⟩:=ht;exact⟨Y2,_,_,he,h.trans hs,Src.fA ho⟩
theorem aW.xG{w1 w2:World}{Y1:sS}{C1:dh}{L1:List dS}{e:Ending}(h:aW w Y C [] w1 Y1 C1 L1)(ht:yj w1 Y1 C1 L1 e w2):(∃A n c,e=.returned (.slice A n c))/\eY w Y C C1 L1 e w2:=⟨⟨_,_,_,ht.1⟩,h.told ht⟩
theorem Nz(W:World):Sends W {bP with k:=15}:=
 ⟨.inr (.inr (.inr (.inr (.inr (.inr rfl))))),by show(0:Int)<=0/\(0:Int)<=1073741824;decide,by show(0:Int)<=0/\(0:Int)<=1073741824;decide,by show(0:Int)<=0/\(0:Int)<=1073741824;decide,Nat.zero_le _,Nat.zero_le _,Src.nil _ _ _,Nat.le_refl _,fun e=>by cases e⟩
theorem NC(h:iR w Y C [])(hi:gI C):Calls Tryz.prog 21 #[.pointer (some ⟨Y.cb,0,none⟩)] w (eY w Y C (iQ C).1 (iQ C).2):=by
 have q:w.cell? ⟨Y.cb,4,none⟩=some (jc Y C):=h.b.cell 4;obtain⟨cb,hcb⟩:∃cb,Y.cb=cb:=⟨_,rfl⟩;cases ht:C.t with
 |none=>
  have e:iQ C=(C,[]):=by unfold iQ;rw[ht]
  have hend:eY w Y C C [] (.returned (.slice none 0 0)) w:=⟨Y,none,0,rfl,aW.refl h (Kept.refl _ _),Src.nil _ _ _⟩;rw[e];dsimp only;generalize eY w Y C C []=Q at hend⊢;rw[kE ht]at q;rw[hcb]at q⊢;have HE:=ah hend;clear h hi e ht hcb hend;go_enter Tryz.func21,Tryz.ntmps21;go_wp2;exact HE.out
 |some t=>
  have hv:=hi.t t ht;have hj:=hv.j.tick;have ha:=hv.a.tick;have htk:=TW (h.t t ht).1 hv.j.ok;have hgo:∀e W,iE w Y.dx t (.bool (bu t).2) (bu t).1 e W->e=.returned (.bool (bu t).2)/\∃Y1,Y1.cb=Y.cb/\aW w Y C [] W Y1 {C with t:=some (bu t).1} []:=fun e W hp=>by obtain⟨h1,X',h2,h3,h4,h5⟩:=hp;exact⟨h1,{Y with dx:=X'},rfl,h.go ht h2 h3 h4 h5⟩
  have xZ:=htk.mono (fun e W hp=>hgo e W hp)
  have htc:iQ C=if(bu t).2=false then (jy {C with t:=some (bu t).1},[])
   else if jr (bu t).1=false then ({C with t:=some (bu t).1},bn [] (aJ (bu t).1 C.ep C.hd).1 (aJ (bu t).1 C.ep C.hd).2)
   else if 0<=C.hd/\(C.as'=true\/(min (C.tk+1) 1073741824)%4=0)then ({C with t:=some (bu t).1,tk:=min (C.tk+1) 1073741824,as':=false},bn (bn [] (aJ (bu t).1 C.ep C.hd).1 (aJ (bu t).1 C.ep C.hd).2) 4 {bP with k:=15})
   else({C with t:=some (bu t).1,tk:=min (C.tk+1) 1073741824},bn [] (aJ (bu t).1 C.ep C.hd).1 (aJ (bu t).1 C.ep C.hd).2):=by
   unfold iQ;rw[ht]
  have hdn:=fun hz:(bu t).2=true=>Ob hz;have G5:=hi.ep;have hhd:=hi.hd.2;rw[dW ht]at q;obtain⟨t',ht'⟩:∃t',(bu t).1=t':=⟨_,rfl⟩;rw[ht']at htc xZ hdn hj ha;obtain⟨tb,htb⟩:∃tb,Y.dx.b=tb:=⟨_,rfl⟩;rw[htb]at q xZ;simp only[hcb]at xZ;rw[hcb]at q⊢;generalize hQ:eY w Y C (iQ C).1 (iQ C).2=Q;have HQ:=ah (And.intro hQ htc);have jH:=ah xZ;have HJ:=ah (And.intro hj (And.intro ha hdn));have HR:=ah (And.intro G5 (And.intro hhd hi.tk));clear hQ htc hgo xZ hj ha hdn G5 hhd h hi hv htk ht' hcb htb ht;cases hz:(bu t).2 with
  |false=>
   rw[hz]at jH HQ HJ;have hq:=HQ.out.1;rw[HQ.out.2,if_pos rfl]at hq;have oC:=ah hq;clear hq HQ hz;go_enter Tryz.func21,Tryz.ntmps21;go_wp2_with fail;clear q;refine jH.out.mono ?_;rintro e w3 ⟨rfl,Y1,hy1,hs1⟩;have hse:=jA hs1.at' (t:=t') rfl;rw[hy1]at hse;have iq:=ah hse;have Xt:=ah hs1;clear hse hs1;go_wp2_with fail;refine iq.out.mono ?_;rintro e w4 ⟨rfl,Y2,hs2⟩;have hend:eY w Y C (jy {C with t:=some t'}) [] (.returned (.slice none 0 0)) w4:=⟨Y2,none,0,rfl,Xt.out.trans hs2,Src.nil _ _ _⟩;rw[oC.out]at hend;have HE:=ah hend;clear hend hs2;go_wp2;exact HE.out
  |true=>
   rw[hz]at jH HQ HJ;have hdn:=HJ.out.2.2 rfl;have hq:=HQ.out.1;rw[HQ.out.2,if_neg (by decide)]at hq;obtain⟨L1,hL1⟩:∃L1,bn [] (aJ t' C.ep C.hd).1 (aJ t' C.ep C.hd).2=L1:=⟨_,rfl⟩;have hl1:L1.length<=1:=by rw[<-hL1];exact mO _ _ _
   rw[hL1]at hq;have oC:=ah hq;have kH:=ah (And.intro hL1 hl1);have qE:=ah hdn;clear hq HQ hz hdn hL1 hl1;go_enter Tryz.func21,Tryz.ntmps21;go_wp2_with fail;clear q;refine jH.out.mono ?_;rintro e w3 ⟨rfl,Y1,hy1,hs1⟩;have hsn:=mD hs1.at' (t:=t') HR.out.1 HR.out.2.1 rfl HJ.out.1 HJ.out.2.1 qE.out (Nat.zero_le _);rw[hy1]at hsn;dsimp only at hsn;rw[kH.out.1]at hsn;have nI:=ah hsn;have Xt:=ah hs1;have Dh:=ah hy1;clear hsn hs1 hy1 jH;go_wp2_with fail;refine nI.out.mono ?_;rintro e w4 ⟨rfl,Y2,hs2⟩;have hwr:=BA hs2.at';rw[hs2.cb,Dh.out]at hwr;have e2:Bc {C with t:=some t'}=jr t':=rfl;rw[e2]at hwr;obtain⟨wv,hwv⟩:∃wv,jr t'=wv:=⟨_,rfl⟩;rw[hwv]at hwr oC;have rQ:=ah hwr;have HS2:=ah (Xt.out.trans hs2);have nR:=ah (hs2.cb.trans Dh.out);clear hwr hs2 e2 hwv nI Xt;go_wp2_with fail;refine rQ.out.mono ?_;rintro e w5 ⟨rfl,rfl⟩;cases wv
   ·have hq:=oC.out;rw[if_pos rfl]at hq;have htl:=(mg HS2.out.at').mono (fun e W hp=>HS2.out.xG hp);rw[nR.out]at htl;rw[hq]at htl;have gU:=ah htl;clear hq htl;go_wp2_with fail;refine gU.out.mono ?_;rintro e w6 ⟨⟨A6,n6,c6,rfl⟩,hp⟩;have HP:=ah hp;clear hp;go_wp2;exact HP.out
   ·have hq:=oC.out;rw[if_neg (by decide)]at hq;have mJ:=ah hq;clear hq rQ oC;have Ep:=HS2.out.at'.b;rw[nR.out]at Ep;have y12:w4.cell? ⟨cb,12,none⟩=some (.int .i64 C.tk):=Ep.cell 12;have f12:=Ep.frozen 12;have acw:=HR.out.2.2.1;have acy:=HR.out.2.2.2;have abI:IntKind.i64.wrap (C.tk+1)=C.tk+1:=IntWalk.i64_in _ (by omega);have hmn:=rU (C.tk+1) 1073741824 _ rfl;obtain⟨M,hM⟩:∃M,min (C.tk+1) 1073741824=M:=⟨_,rfl⟩;rw[hM]at hmn;have hq:=mJ.out;rw[hM]at hq;have xg:Has (w4.setCell ⟨cb,12,none⟩ (.int .i64 M)) cb 98 (lY Y2 {C with t:=some t',tk:=M} L1):=Has.aQ Ep rfl;have hk10:Kept (fun k=>k=Y2.cb) w4 (w4.setCell ⟨cb,12,none⟩ (.int .i64 M)):=by rw[nR.out];(repeat'(first|(with_reducible first|exact ay|apply aA|apply aB|apply aC|apply aF)|(exact Or.inl rfl)|(right;simp;done)))
    have hs10:=HS2.out.trans (HS2.out.at'.nums (C':={C with t:=some t',tk:=M}) hk10 (by rw[nR.out];exact xg) rfl rfl);have z3:=xg.cell 3;have z11:=xg.cell 11;have z12:=xg.cell 12;have f11:=xg.frozen 11;simp[lY]at z3 z11 z12;have hm0:0<=M:=by omega
    have CV:(M.tmod 4==0)=decide (M%4=0):=by
     rw[Int.tmod_eq_emod_of_nonneg hm0];by_cases h:M%4=0
     ·rw[decide_eq_true h];simpa using h
     ·rw[decide_eq_false h];simpa using h
    obtain⟨b,hb⟩:∃b,decide (M%4=0)=b:=⟨_,rfl⟩;rw[hb]at CV;clear hm0;obtain⟨g,hg⟩:∃g,decide (0<=C.hd/\(C.as'=true\/M%4=0))=g:=⟨_,rfl⟩;have hgg:g=(decide (0<=C.hd)&&(C.as'||b)):=by rw[<-hg,<-hb];simp
    have hno:g=false->eY w Y C {C with t:=some t',tk:=M} L1=Q:=fun h=>by rw[<-hg]at h;rw[if_neg (of_decide_eq_false h)]at hq;exact hq
    have hyes:g=true->eY w Y C {C with t:=some t',tk:=M,as':=false} (bn L1 4 {bP with k:=15})=Q:=fun h=>by rw[<-hg]at h;rw[if_pos (of_decide_eq_true h)]at hq;exact hq
    obtain⟨V,hV⟩:∃V,w4.setCell ⟨cb,12,none⟩ (.int .i64 M)=V:=⟨_,rfl⟩;rw[hV]at hs10 z3 z11 z12 f11;have pP:=ah hs10;obtain⟨as0,LX⟩:∃as0,C.as'=as0:=⟨_,rfl⟩;rw[LX]at z11 hgg;have hput:Calls Tryz.prog 47 #[.pointer (some ⟨cb,0,none⟩),.int .i64 4,.agg (bJ.Ee 15)] V fun e w'=>e=.returned (.tuple #[])/\∃Y',aW V Y2 {C with t:=some t',tk:=M} L1 w' Y' {C with t:=some t',tk:=M} (bn L1 4 {bP with k:=15}):=by have h9:=MH hs10.at' (by have:=kH.out.2;omega) 4 {bP with k:=15} (Nz V) (by show(0:Int)<=0/\(0:Int)<=aY;unfold aY;decide) (by decide);rw[nR.out]at h9;exact h9
    have Bo:=ah hput;have oP:=ah hno;have LY:=ah hyes;clear hput hno hyes hs10 xg hk10 Ep hq hb hg hM LX;have htold:∀W Y3 C3 L3,aW w Y C [] W Y3 C3 L3->Y3.cb=cb->Calls Tryz.prog 43 #[.pointer (some ⟨cb,0,none⟩)] W (fun e w'=>(∃A n c,e=.returned (.slice A n c))/\eY w Y C C3 L3 e w'):=fun W Y3 C3 L3 hs hy=>by have h9:=(mg hs.at').mono (fun e W hp=>hs.xG hp);rw[hy]at h9;exact h9
    have lW:=ah htold;clear htold;by_cases hhd:0<=C.hd;rotate_left
    ·have hg0:g=false:=by rw[hgg,decide_eq_false hhd];rfl
     have htl:=lW.out V _ _ _ pP.out nR.out;rw[oP.out hg0]at htl;have gU:=ah htl;clear htl hgg hg0 CV;go_wp2_with fail;refine gU.out.mono ?_;rintro e w6 ⟨⟨A6,n6,c6,rfl⟩,hp⟩;have HP:=ah hp;clear hp;go_wp2;exact HP.out
    have Xu:g=true->∀W Y3,aW w Y C [] W Y3 {C with t:=some t',tk:=M} (bn L1 4 {bP with k:=15})->Y3.cb=cb->W.cell? ⟨cb,11,none⟩=some (.bool C.as')/\W.frozen? ⟨cb,11,none⟩=false/\Calls Tryz.prog 43 #[.pointer (some ⟨cb,0,none⟩)] (W.setCell ⟨cb,11,none⟩ (.bool false)) (fun e w'=>(∃A n c,e=.returned (.slice A n c))/\Q e w'):=fun hg W Y3 hs hy=>by
     have hb:=hs.at'.b;rw[hy]at hb;have hk:Kept (fun k=>k=Y3.cb) W (W.setCell ⟨cb,11,none⟩ (.bool false)):=by rw[hy];(repeat'(first|(with_reducible first|exact ay|apply aA|apply aB|apply aC|apply aF)|(exact Or.inl rfl)|(right;simp;done)))
     have hs2:=hs.trans (hs.at'.nums (C':={C with t:=some t',tk:=M,as':=false}) hk (by rw[hy];exact Has.aQ hb rfl) rfl rfl);have h9:=lW.out _ Y3 _ _ hs2 hy;rw[LY.out hg]at h9;exact⟨hb.cell 11,hb.frozen 11,h9⟩
    have HY:=ah Xu;clear Xu;cases as0
    ·cases b
     ·have hg0:g=false:=by rw[hgg];simp
      have htl:=lW.out V _ _ _ pP.out nR.out;rw[oP.out hg0]at htl;have gU:=ah htl;clear htl hgg hg0;go_wp2_with fail;refine gU.out.mono ?_;rintro e w6 ⟨⟨A6,n6,c6,rfl⟩,hp⟩;have HP:=ah hp;clear hp;go_wp2;exact HP.out
     ·have hg1:g=true:=by rw[hgg,decide_eq_true hhd];rfl
      have HG:=ah hg1;clear hgg hg1 f11;go_wp2_with fail;clear z3 z11 z12 CV hV;refine Bo.out.mono ?_;rintro e w7 ⟨rfl,Y3,hs7⟩;obtain⟨JA,f11,htl⟩:=HY.out HG.out w7 Y3 (pP.out.trans hs7) (hs7.cb.trans nR.out);have gU:=ah htl;clear hs7 htl;go_wp2_with fail;refine gU.out.mono ?_;rintro e w6 ⟨⟨A6,n6,c6,rfl⟩,hp⟩;have HP:=ah hp;clear hp;go_wp2;exact HP.out
    ·have hg1:g=true:=by rw[hgg,decide_eq_true hhd];rfl
     have HG:=ah hg1;clear hgg hg1 f11;go_wp2_with fail;clear z3 z11 z12 CV hV;refine Bo.out.mono ?_;rintro e w7 ⟨rfl,Y3,hs7⟩;obtain⟨JA,f11,htl⟩:=HY.out HG.out w7 Y3 (pP.out.trans hs7) (hs7.cb.trans nR.out);have gU:=ah htl;clear hs7 htl;go_wp2_with fail;refine gU.out.mono ?_;rintro e w6 ⟨⟨A6,n6,c6,rfl⟩,hp⟩;have HP:=ah hp;clear hp;go_wp2;exact HP.out
