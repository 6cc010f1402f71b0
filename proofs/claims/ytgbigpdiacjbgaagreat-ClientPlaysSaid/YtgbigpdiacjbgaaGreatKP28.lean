/- Part 29. -/
import Derived.Test.YtgbigpdiacjbgaaGreatKP15
import Derived.Test.YtgbigpdiacjbgaaGreatKP18
set_option linter.unusedSimpArgs false
set_option linter.unusedVariables false
set_option maxHeartbeats 32000000
set_option maxRecDepth 100000
namespace Go.Proofs.YtgbigpdiacjbgaaGreat
open Go.RowKit
namespace iI
open Vn Ops
def fB(w:World)(g:Nat)(s:ByteArray)(r:RS):Prop:=Has w g 91 #[.string s,.int .i64 r.1,.int .i64 r.2]/\r.1<=s.size
def AX(w:World)(g:Nat)(s:ByteArray)(v:Value)(r:RS)(e:Ending)(w':World):Prop:=e=.returned v/\fB w' g s r/\Kept (fun k=>k=g) w w'
theorem S7(s:ByteArray)(i:Nat)(hi:i<=s.size)(hs:s.size<=maxLen)(v:Value)(hv:Bj (get (bl s) i)=v)(w:World):Calls Tryz.prog 107 #[.string s,.int .i64 i] w fun e w'=>e=.returned v/\Kept aj w w':=by rw[<-hv];exact U5 s i hi hs w
theorem vM(w:World)(g:Nat)(s:ByteArray)(r:RS)(h:fB w g s r)(hs:s.size<=maxLen):
  Calls Tryz.prog 68 #[.pointer (some ⟨g,0,none⟩)] w (AX w g s (.int .u64 (bD s r).1) (bD s r).2):=by
 obtain⟨i,e0⟩:=r;have hi:i<=s.size:=h.2;have c0:=h.1.cell 0;have c1:=h.1.cell 1;have c2:=h.1.cell 2;have f1:=h.1.frozen 1;have f2:=h.1.frozen 2;simp only[lF0,List.getElem?_cons_zero,List.getElem?_cons_succ]at c0 c1 c2;have H:=ah h;clear h;by_cases he:e0=0;rotate_left
 ·have hr:=CB (s:=s) (q:=(i,e0)) he;rw[hr];have he2:(e0 !=0)=true:=by simpa using he
  clear he hr hs;go_enter Tryz.func68,Tryz.ntmps68;go_wp2;go_ret;exact⟨rfl,H.out,Kept.refl _ _⟩
 subst he;have hc:∀w',Kept aj w w'->(w'.cell? ⟨g,0,none⟩=some (.string s)/\w'.cell? ⟨g,1,none⟩=some (.int .i64 i)/\w'.cell? ⟨g,2,none⟩=some (.int .i64 0))/\w'.frozen? ⟨g,1,none⟩=false/\w'.frozen? ⟨g,2,none⟩=false:=fun w' hk=>by have hx:=H.out.1.kept hk (fun x=>x);exact⟨⟨hx.cell 0,hx.cell 1,hx.cell 2⟩,hx.frozen 1,hx.frozen 2⟩
 have HC:=ah hc;clear hc;cases hg:get (bl s) i with
 |error c=>
  have hr:bD s (i,0)=(0,(i,(c:Int))):=by unfold bD;simp[hg]
  rw[hr];have hce:=EM hg;have hc0:((c:Int) !=0)=true:=by simp;omega
  have hb:=fun W=>S7 s i hi hs _ (congrArg Bj hg) W;simp only[Bj]at hb;have HB:=ah hb;clear hb hr hs hg hce;go_enter Tryz.func68,Tryz.ntmps68;go_wp2_with fail
  go_region_held3 (fun W=>W.cell? ⟨g,0,none⟩=some (.string s)/\W.cell? ⟨g,1,none⟩=some (.int .i64 i)) (first|with_reducible exact⟨q0,q1⟩|exact⟨c0,c1⟩|(simp[go_sem,c0,c1];done))
   ((go_at_call 107;refine(HB.out _).mono ?_;rintro e w2 ⟨rfl,hk0⟩;have hk:Kept aj w w2:=Kept.then (a:=w) (by(repeat'(first|(with_reducible first|exact ay|apply aA|apply aB|apply aC|apply aF)|(right;simp;done)))) hk0;clear hk0;obtain⟨⟨q0,q1,q2⟩,g1,g2⟩:=HC.out _ hk;have HK:=ah hk;clear hk))
  go_wp2;go_ret;exact⟨rfl,⟨Has.aQ (H.out.1.kept HK.out (fun x=>x)) rfl,hi⟩,(HK.out.mono fun _ x=>x.elim).put (.inl rfl)⟩
 |ok q=>
  obtain⟨n,j⟩:=q;obtain⟨p1,p2,p3,p4⟩:=BD hg;rw[iw]at p2;have hr:bD s (i,0)=(n,(j,0)):=by unfold bD;simp[hg]
  rw[hr];have hb:=fun W=>S7 s i hi hs _ (congrArg Bj hg) W;simp only[Bj]at hb;have HB:=ah hb;clear hb hr hs hg p1 p3 p4;go_enter Tryz.func68,Tryz.ntmps68;go_wp2_with fail
  go_region_held3 (fun W=>W.cell? ⟨g,0,none⟩=some (.string s)/\W.cell? ⟨g,1,none⟩=some (.int .i64 i)) (first|with_reducible exact⟨q0,q1⟩|exact⟨c0,c1⟩|(simp[go_sem,c0,c1];done))
   ((go_at_call 107;refine(HB.out _).mono ?_;rintro e w2 ⟨rfl,hk0⟩;have hk:Kept aj w w2:=Kept.then (a:=w) (by(repeat'(first|(with_reducible first|exact ay|apply aA|apply aB|apply aC|apply aF)|(right;simp;done)))) hk0;clear hk0;obtain⟨⟨q0,q1,q2⟩,g1,g2⟩:=HC.out _ hk;have HK:=ah hk;clear hk))
  go_wp2;go_ret;exact⟨rfl,⟨Has.aQ (H.out.1.kept HK.out (fun x=>x)) rfl,p2⟩,(HK.out.mono fun _ x=>x.elim).put (.inl rfl)⟩
theorem S8{s:ByteArray}{r:RS}(h:(bD s r).2.2≠0):(bD s r).1=0:=by
 unfold bD at h⊢;split
 ·rfl
 ·rename_i h0;rw[if_neg h0]at h;split
  ·rename_i n j hg;rw[hg]at h;exact absurd rfl h
  ·rfl
theorem jK(w:World)(g:Nat)(s:ByteArray)(r:RS)(most:Nat)(h:fB w g s r)(hs:s.size<=maxLen)(hm:most<=9223372036854775807):
  Calls Tryz.prog 36 #[.pointer (some ⟨g,0,none⟩),.int .i64 most] w (AX w g s (.int .i64 (aG s most r).1) (aG s most r).2):=by
 have hb:=vM w g s r h hs;have hz:=S8 (s:=s) (r:=r);unfold aG;obtain⟨q,hq⟩:∃q,bD s r=q:=⟨_,rfl⟩;rw[hq]at hb hz⊢;obtain⟨n,j,e0⟩:=q;dsimp only at hb hz⊢;clear h hq;have HB:=ah hb;clear hb;have hcv:=tH most (by omega);by_cases h0:e0=0;rotate_left
 ·rw[if_neg (fun x=>h0 x.1)];obtain rfl:=hz h0;have q1:(e0==0)=false:=by rw[beq_eq_false_iff_ne];exact h0
  have q2:(e0 !=0)=true:=by simpa using h0
  clear hz h0 hs;go_enter Tryz.func36,Tryz.ntmps36;go_wp2_with fail;refine HB.out.mono ?_;rintro e w2 ⟨rfl,h2,hk⟩;have c2:=h2.1.cell 2;have f2:=h2.1.frozen 2;simp only[lF0,List.getElem?_cons_zero,List.getElem?_cons_succ]at c2;have H2:=ah (And.intro h2 hk);clear h2 hk;go_wp2;go_ret;exact⟨rfl,H2.out.1,H2.out.2⟩
 subst h0;clear hz hs;by_cases hlt:most<n
 ·rw[if_pos ⟨rfl,hlt⟩];go_enter Tryz.func36,Tryz.ntmps36;go_wp2_with fail;refine HB.out.mono ?_;rintro e w2 ⟨rfl,h2,hk⟩;have c2:=h2.1.cell 2;have f2:=h2.1.frozen 2;simp only[lF0,List.getElem?_cons_zero,List.getElem?_cons_succ]at c2;have H2:=ah (And.intro h2 hk);clear h2 hk;go_wp2;go_ret;exact⟨rfl,⟨Has.aQ H2.out.1.1 rfl,H2.out.1.2⟩,H2.out.2.put (.inl rfl)⟩
 ·rw[if_neg (fun x=>hlt x.2)];have hcv2:=CG n (by omega);go_enter Tryz.func36,Tryz.ntmps36;go_wp2_with fail;refine HB.out.mono ?_;rintro e w2 ⟨rfl,h2,hk⟩;have c2:=h2.1.cell 2;have f2:=h2.1.frozen 2;simp only[lF0,List.getElem?_cons_zero,List.getElem?_cons_succ]at c2;have H2:=ah (And.intro h2 hk);clear h2 hk;go_wp2;go_ret;exact⟨rfl,H2.out.1,H2.out.2⟩
theorem Jo(a b:Nat)(h:b<=a)(ha:a<=9223372036854775807)(W:World):(convert 3 22 (.int .i64 ((a:Int)-b))).run Tryz.prog W=.ok (.int .u64 ((a:Int)-b)) W:=by
 have e:(a:Int)-b=((a-b:Nat):Int):=by omega
 rw[e];exact tH _ (by omega) W
theorem oU(w:World)(g:Nat)(s:ByteArray)(r:RS)(most:Nat)(h:fB w g s r)(hs:s.size<=maxLen)(hm:most<=9223372036854775807):
  Calls Tryz.prog 70 #[.pointer (some ⟨g,0,none⟩),.int .i64 most] w (AX w g s (.string (aN s most r).1) (aN s most r).2):=by
 have hb:=vM w g s r h hs;unfold aN;obtain⟨q,hq⟩:∃q,bD s r=q:=⟨_,rfl⟩;rw[hq]at hb⊢;obtain⟨n,j,e0⟩:=q;dsimp only at hb⊢;clear h hq;have HB:=ah hb;clear hb;have hcv:=tH most (by omega);unfold maxLen at hs;by_cases h0:e0=0;rotate_left
 ·rw[if_pos h0];have q1:(e0==0)=false:=by rw[beq_eq_false_iff_ne];exact h0
  have q2:(e0 !=0)=true:=by simpa using h0
  clear h0;go_enter Tryz.func70,Tryz.ntmps70;go_wp2_with fail;refine HB.out.mono ?_;rintro e w2 ⟨rfl,h2,hk⟩;have c0:=h2.1.cell 0;have c1:=h2.1.cell 1;have c2:=h2.1.cell 2;simp only[lF0,List.getElem?_cons_zero,List.getElem?_cons_succ]at c0 c1 c2;have H2:=ah (And.intro h2 hk);clear h2 hk;go_wp2;go_quiet (fail);go_wp2;go_ret;exact⟨rfl,⟨H2.out.1.1.drewN _,H2.out.1.2⟩,H2.out.2.drewN _⟩
 subst h0;simp only[ne_eq,not_true_eq_false,if_false];by_cases hlt:most<n
 ·rw[if_pos hlt];go_enter Tryz.func70,Tryz.ntmps70;go_wp2_with fail;refine HB.out.mono ?_;rintro e w2 ⟨rfl,h2,hk⟩;have c2:=h2.1.cell 2;have f2:=h2.1.frozen 2;simp only[lF0,List.getElem?_cons_zero,List.getElem?_cons_succ]at c2;have d2:(w2.setCell ⟨g,2,none⟩ (.int .i64 3)).cell? ⟨g,2,none⟩=some (.int .i64 3):=(Has.aQ h2.1 rfl).cell 2;have H2:=ah (And.intro h2 hk);clear h2 hk;go_wp2;go_quiet (fail);go_wp2;go_ret;exact⟨rfl,⟨(Has.aQ H2.out.1.1 rfl).drewN _,H2.out.1.2⟩,(H2.out.2.put (.inl rfl)).drewN _⟩
 rw[if_neg hlt];by_cases hsh:s.size-j<n
 ·rw[if_pos hsh];go_enter Tryz.func70,Tryz.ntmps70;go_wp2_with fail;refine HB.out.mono ?_;rintro e w2 ⟨rfl,h2,hk⟩;have hj:j<=s.size:=h2.2;have c0:=h2.1.cell 0;have c1:=h2.1.cell 1;have c2:=h2.1.cell 2;have f2:=h2.1.frozen 2;simp only[lF0,List.getElem?_cons_zero,List.getElem?_cons_succ]at c0 c1 c2;have H2:=ah (And.intro h2 hk);clear h2 hk;have Zf:=Jo s.size j hj hs;have hd:decide ((s.size:Int)-j<n)=true:=decide_eq_true (by omega);have hd2:(s.size:Int)-j<n:=by omega
  go_wp2;go_quiet (fail);go_wp2;go_ret;exact⟨rfl,⟨Has.aQ (H2.out.1.1.drewN _) rfl,H2.out.1.2⟩,(H2.out.2.drewN _).put (.inl rfl)⟩
 ·rw[if_neg hsh];have hcv2:=CG n (by omega);go_enter Tryz.func70,Tryz.ntmps70;go_wp2_with fail;refine HB.out.mono ?_;rintro e w2 ⟨rfl,h2,hk⟩;have hj:j<=s.size:=h2.2;have c0:=h2.1.cell 0;have c1:=h2.1.cell 1;have c2:=h2.1.cell 2;have f1:=h2.1.frozen 1;have f2:=h2.1.frozen 2;simp only[lF0,List.getElem?_cons_zero,List.getElem?_cons_succ]at c0 c1 c2;have H2:=ah (And.intro h2 hk);clear h2 hk;have Zf:=Jo s.size j hj hs;have hd:decide ((s.size:Int)-j<n)=false:=decide_eq_false (by omega);have hd2:¬(s.size:Int)-j<n:=by omega
  have hto:(j:Int)+n<=s.size:=by omega
  have hw:IntKind.i64.wrap ((j:Int)+n)=(j:Int)+n:=IntWalk.i64_in _ (by omega);have htn:((j:Int)+n).toNat=j+n:=by omega
  have ht0:(0:Int)<=(j:Int)+n:=by omega
  have ht1:(j:Int)<=(j:Int)+n:=by omega
  go_wp2;go_quiet (fail);go_wp2;go_quiet (fail);go_wp2;go_ret;exact⟨rfl,⟨Has.aQ (H2.out.1.1.drewN _) rfl,by omega⟩,(H2.out.2.drewN _).put (.inl rfl)⟩
end iI
namespace iI
open Vn Ops
theorem Jp(w:World)(g:Nat)(s:ByteArray)(r:RS)(h:fB w g s r)(hs:s.size<=maxLen):
  Calls Tryz.prog 69 #[.pointer (some ⟨g,0,none⟩)] w (AX w g s (.bool (fZ s r).1) (fZ s r).2):=by
 obtain⟨i,e0⟩:=r;have hi:i<=s.size:=h.2;have c0:=h.1.cell 0;have c1:=h.1.cell 1;have c2:=h.1.cell 2;have f1:=h.1.frozen 1;have f2:=h.1.frozen 2;simp only[lF0,List.getElem?_cons_zero,List.getElem?_cons_succ]at c0 c1 c2;have H:=ah h;clear h;unfold maxLen at hs;by_cases he:e0=0;rotate_left
 ·have hr:=Ji (s:=s) (q:=(i,e0)) he;rw[hr];have q1:(e0==0)=false:=by rw[beq_eq_false_iff_ne];exact he
  have q2:(e0 !=0)=true:=by simpa using he
  clear he hr;go_enter Tryz.func69,Tryz.ntmps69;go_wp2;go_quiet (fail);go_wp2;go_quiet (fail);go_wp2;go_ret;exact⟨rfl,⟨H.out.1.drewN _,H.out.2⟩,(Kept.refl (fun k=>k=g) w).drewN _⟩
 subst he;by_cases hil:i=s.size
 ·have hr:fZ s (i,0)=(false,(i,2)):=by unfold fZ;rw[if_neg (by simp)];have:(bl s)[i]? =none:=List.getElem?_eq_none (by rw[iw];omega);rw[this]
  rw[hr];subst hil;clear hr;go_enter Tryz.func69,Tryz.ntmps69;go_wp2;go_quiet (fail);go_wp2;go_quiet (fail);go_wp2;go_ret;exact⟨rfl,⟨(Has.aQ (H.out.1.drewN _) rfl).drewN _,hi⟩,((Kept.refl (fun k=>k=g) w).drewN _|>.put (.inl rfl)).drewN _⟩
 have hlt:i<s.size:=by omega
 have hq:((i:Int)==(s.size:Int))=false:=by rw[beq_eq_false_iff_ne];omega
 have hbl:=zW s i hlt;have i0:(0:Int)<=(i:Int):=by omega
 have i1:(i:Int)<s.size:=by omega
 obtain⟨y,hy⟩:∃y,s[i].toNat=y:=⟨_,rfl⟩;clear hil;by_cases hbig:1<y
 ·have hr:fZ s (i,0)=(false,(i,4)):=by unfold fZ;rw[if_neg (by simp),hbl];simp only[hy,hbig,if_true]
  rw[hr];have hd:decide ((1:Int)<y)=true:=decide_eq_true (by omega);clear hr hbl hbig;go_enter Tryz.func69,Tryz.ntmps69;go_wp2;go_quiet (fail);go_wp2;go_quiet (fail);go_wp2;go_ret;exact⟨rfl,⟨Has.aQ (H.out.1.drewN _) rfl,hi⟩,((Kept.refl (fun k=>k=g) w).drewN _|>.put (.inl rfl))⟩
 ·have hr:fZ s (i,0)=(decide (y=1),(i+1,0)):=by unfold fZ;rw[if_neg (by simp),hbl];simp only[hy,hbig,if_false]
  rw[hr];obtain⟨b,hb⟩:∃b,decide (y=1)=b:=⟨_,rfl⟩;have hb2:((y:Int)==1)=b:=by
   rw[<-hb];by_cases h:y=1
   ·subst h;rfl
   ·rw[decide_eq_false h,beq_eq_false_iff_ne];omega
  rw[hb];have hd:decide ((1:Int)<y)=false:=decide_eq_false (by omega);clear hr hbl hbig hb;go_enter Tryz.func69,Tryz.ntmps69;go_wp2;go_quiet (fail);go_wp2;go_quiet (fail);go_wp2;go_quiet (fail);go_wp2;go_ret;exact⟨rfl,⟨Has.aQ (H.out.1.drewN _) rfl,by omega⟩,((Kept.refl (fun k=>k=g) w).drewN _|>.put (.inl rfl))⟩
theorem og(w:World)(g:Nat)(s:ByteArray)(r:RS)(h:fB w g s r)(hs:s.size<=maxLen):
  Calls Tryz.prog 39 #[.pointer (some ⟨g,0,none⟩)] w fun e w'=>e=.returned (.int .i64 (iJ s r))/\Kept aj w w':=by
 obtain⟨i,e0⟩:=r;have hi:i<=s.size:=h.2;have c0:=h.1.cell 0;have c1:=h.1.cell 1;have c2:=h.1.cell 2;simp only[lF0,List.getElem?_cons_zero,List.getElem?_cons_succ]at c0 c1 c2;clear h;unfold maxLen at hs;unfold iJ;dsimp only;by_cases h0:e0=0;rotate_left
 ·rw[if_pos h0];have q1:(e0==0)=false:=by rw[beq_eq_false_iff_ne];exact h0
  clear h0;go_enter Tryz.func39,Tryz.ntmps39;go_wp2_with fail;go_quiet (fail);go_wp2;go_ret;exact⟨rfl,(Kept.refl _ _).drewN _⟩
 subst h0;rw[if_neg (by simp)];by_cases hlt:i<s.size
 ·rw[if_pos hlt];go_enter Tryz.func39,Tryz.ntmps39;go_wp2_with fail;go_quiet (fail);go_wp2;go_ret;exact⟨rfl,(Kept.refl _ _).drewN _⟩
 ·rw[if_neg hlt];go_enter Tryz.func39,Tryz.ntmps39;go_wp2_with fail;go_quiet (fail);go_wp2;go_ret;exact⟨rfl,(Kept.refl _ _).drewN _⟩
end iI
namespace iI
theorem fB.kept{F:Nat->Prop}{w w':World}{g:Nat}{s:ByteArray}{r:Ops.RS}(h:fB w g s r)(hk:Kept F w w')(hf:¬F g):fB w' g s r:=⟨h.1.kept hk hf,h.2⟩
end iI
namespace Ops
open Vn iI
def Dt(w:World)(s:ByteArray)(g x y B:Nat)(c q:Int)(r:RS)(A:Option Addr)(cap:Nat)(l:List dU)(W:World):Prop:=
 fB W g s r/\Has W x 59 #[.int .i64 c,.int .i64 q,.slice A l.length cap]/\Has W y 59 #[.int .i64 0,.int .i64 0,.slice none 0 0]/\bV 143 3 B W A l.length cap (cells l)/\Kept aj w W
section
variable{w W W':World}{s:ByteArray}{g x y B cap:Nat}{c q:Int}{r r':RS}{A:Option Addr}{l:List dU}{v:Value}{e:Ending}
theorem Dt.read(o:Ord w g x y B)(h:Dt w s g x y B c q r A cap l W)(hr:AX W g s v r' e W'):e=.returned v/\Dt w s g x y B c q r' A cap l W'/\Kept (fun k=>k=g) W W':=by obtain⟨h1,h2,h3,h4,h5⟩:=h;obtain⟨he,g1,g2⟩:=hr;refine⟨he,⟨g1,h2.kept g2 (fun e=>o.gx e.symm),h3.kept g2 (fun e=>o.gy e.symm),⟨aP h4.1 g2 (fun k hk e=> ?_),h4.2⟩,h5.trans g2 fun i hi=>by rw[hi];exact .inr o.wg⟩,g2⟩;have:=h4.2 k hk;have:=o.gB;omega
theorem Dt.keep(h:Dt w s g x y B c q r A cap l W)(hk:Kept aj W W'):Dt w s g x y B c q r A cap l W':=
 ⟨h.1.kept hk (fun z=>z),h.2.1.kept hk (fun z=>z),h.2.2.1.kept hk (fun z=>z),h.2.2.2.1.kept hk,h.2.2.2.2.then hk⟩
theorem Dt.ge(o:Ord w g x y B)(h:Dt w s g x y B c q r A cap l W):B<=W.heap.size:=by have:=h.2.1.lt;have:=o.Bx;omega
theorem Dt.row(h:Dt w s g x y B c q r A cap l W):∀k,(Value.slice A l.length cap).ownBlock=some k->k<W.heap.size:=fun k hk=>jB h.2.2.2.1.1 hk
theorem Dt.FM{q':Int}(o:Ord w g x y B)(h:Dt w s g x y B c q r A cap l W):Dt w s g x y B c q' r A cap l (W.setCell ⟨x,1,none⟩ (.int .i64 q')):=by obtain⟨h1,h2,h3,h4,h5⟩:=h;have hk:Kept (fun k=>k=x) W (W.setCell ⟨x,1,none⟩ (.int .i64 q')):=(Kept.refl _ W).put (.inl rfl);refine⟨h1.kept hk o.gx,Has.aQ h2 rfl,h3.kept hk (fun e=>o.xy e.symm),⟨aP h4.1 hk (fun k hk e=> ?_),h4.2⟩,h5.trans hk fun i hi=>by rw[hi];exact .inr o.wx⟩;have:=h4.2 k hk;have:=o.xB;omega
theorem Dt.VC{c':Int}(o:Ord w g x y B)(h:Dt w s g x y B c q r A cap l W):Dt w s g x y B c' q r A cap l (W.setCell ⟨x,0,none⟩ (.int .i64 c')):=by obtain⟨h1,h2,h3,h4,h5⟩:=h;have hk:Kept (fun k=>k=x) W (W.setCell ⟨x,0,none⟩ (.int .i64 c')):=(Kept.refl _ W).put (.inl rfl);refine⟨h1.kept hk o.gx,Has.aQ h2 rfl,h3.kept hk (fun e=>o.xy e.symm),⟨aP h4.1 hk (fun k hk e=> ?_),h4.2⟩,h5.trans hk fun i hi=>by rw[hi];exact .inr o.wx⟩;have:=h4.2 k hk;have:=o.xB;omega
theorem Dt.far(o:Ord w g x y B)(h:Dt w s g x y B c q r A cap l W){z:Nat}(hz:B<=z)(hr:∀k,(Value.slice A l.length cap).ownBlock=some k->k<z)(i:Nat)(u:Value):Dt w s g x y B c q r A cap l (W.setCell ⟨z,i,none⟩ u):=by obtain⟨h1,h2,h3,h4,h5⟩:=h;have hk:Kept (fun k=>k=z) W (W.setCell ⟨z,i,none⟩ u):=(Kept.refl _ W).put (.inl rfl);have b1:=o.gB;have b2:=o.xB;have b3:=o.yB;have b4:=o.wg;refine⟨h1.kept hk (by omega),h2.kept hk (by omega),h3.kept hk (by omega),⟨aP h4.1 hk (fun k hk e=> ?_),h4.2⟩,h5.trans hk fun i hi=>by rw[hi];exact .inr (by omega)⟩;have:=hr k hk;omega
theorem Dt.append(o:Ord w g x y B)(h:Dt w s g x y B c q r A cap l W){W1:World}(hW:Kept aj W W1){A':Option Addr}{cap':Nat}{w6:World}{p:dU}(ho:w6.ownsRow 0 143 3 (.slice A' (l.length+1) cap') (l.length+1) (Ops.cells l++[.string p.key,.string p.val,.bool p.del]))
  (hg:W1.grownBy w6 (Value.slice A l.length cap).ownBlock) (ha:(Value.slice A' (l.length+1) cap').ownBlock=(Value.slice A l.length cap).ownBlock\/(Value.slice A' (l.length+1) cap').ownBlock=some W1.heap.size):
  Has w6 x 59 #[.int .i64 c,.int .i64 q,.slice A l.length cap]/\Dt w s g x y B c q r A' cap' (l++[p]) (w6.setCell ⟨x,2,none⟩ (.slice A' (l.length+1) cap')):=by
 have hge:=h.ge o;obtain⟨h1,h2,h3,h4,h5⟩:=h;have hz1:=hW.size;have hk:Kept (fun k=>(Value.slice A l.length cap).ownBlock=some k) W w6:=(hW.mono fun _ z=>z.elim).grown hg (fun k hk=> .inl hk);have b1:=o.gB;have b2:=o.xB;have b3:=o.yB;have hn:∀z,z<B->¬(Value.slice A l.length cap).ownBlock=some z:=fun z hz e=>by have:=h4.2 z e;omega
 have g1:=h1.kept hk (hn g b1);have g2:=h2.kept hk (hn x b2);have g3:=h3.kept hk (hn y b3);have g5:Kept aj w w6:=h5.trans hk fun i hi=> .inr (by have:=h4.2 i hi;have:=o.wg;omega);have hk2:Kept (fun k=>k=x) w6 (w6.setCell ⟨x,2,none⟩ (.slice A' (l.length+1) cap')):=(Kept.refl _ w6).put (.inl rfl);have hnew:bV 143 3 B w6 A' (l++[p]).length cap' (Ops.cells (l++[p])):=by
  rw[GI,lA0]
  exact⟨ho,fun k hk=>by
   rcases ha with e|e
   ·exact h4.2 k (e.symm.trans hk)
   ·have hk':(Value.slice A' (l.length+1) cap').ownBlock=some k:=hk;rw[hk']at e;injection e with e;omega⟩
 refine⟨g2,g1.kept hk2 o.gx,Has.aQ g2 (by simp),g3.kept hk2 (fun e=>o.xy e.symm),⟨aP hnew.1 hk2 (fun k hk e=> ?_),hnew.2⟩,g5.trans hk2 fun i hi=>by rw[hi];exact .inr o.wx⟩;have:=hnew.2 k hk;omega
theorem Dt.cells(h:Dt w s g x y B c q r A cap l W):(W.cell? ⟨x,0,none⟩=some (.int .i64 c)/\W.cell? ⟨x,1,none⟩=some (.int .i64 q)/\W.cell? ⟨x,2,none⟩=some (.slice A l.length cap))/\W.frozen? ⟨x,2,none⟩=false/\
  (W.cell? ⟨y,0,none⟩=some (.int .i64 0)/\W.cell? ⟨y,1,none⟩=some (.int .i64 0)/\W.cell? ⟨y,2,none⟩=some (.slice none 0 0))/\(W.frozen? ⟨y,0,none⟩=false/\W.frozen? ⟨y,1,none⟩=false/\W.frozen? ⟨y,2,none⟩=false):=
 ⟨⟨h.2.1.cell 0,h.2.1.cell 1,h.2.1.cell 2⟩,h.2.1.frozen 2,⟨h.2.2.1.cell 0,h.2.2.1.cell 1,h.2.2.1.cell 2⟩,h.2.2.1.frozen 0,h.2.2.1.frozen 1,h.2.2.1.frozen 2⟩
end
theorem N5(w:World)(s:ByteArray)(hs:s.size<=maxLen):Calls Tryz.prog 109 #[.string s] w (vw w s):=by
 obtain⟨cq,hcq⟩:∃cq,aG s 2 (0,0)=cq:=⟨_,rfl⟩;obtain⟨qq,hqq⟩:∃qq,aG s 1073741824 cq.2=qq:=⟨_,rfl⟩;obtain⟨nq,hnq⟩:∃nq,aG s 4 qq.2=nq:=⟨_,rfl⟩;have hn4:nq.1<=4:=by rw[<-hnq];exact jG _ _ _
 have hq4:qq.1<=1073741824:=by rw[<-hqq];exact jG _ _ _
 have hc4:cq.1<=2:=by rw[<-hcq];exact jG _ _ _
 obtain⟨c,r1⟩:=cq;obtain⟨q,r2⟩:=qq;obtain⟨n,r3⟩:=nq;dsimp only at hqq hnq hn4 hq4 hc4;have hof:pq s=if iJ s (jw s n r3).2≠0 then (zero,iJ s (jw s n r3).2)else if chk ⟨c,q,(jw s n r3).1⟩≠0 then (zero,chk ⟨c,q,(jw s n r3).1⟩)else(⟨c,q,(jw s n r3).1⟩,0):=by unfold pq;simp only[hcq,hqq,hnq]
 have dw:=ah hof;clear hof;have BN:=ah (And.intro hcq (And.intro hqq hnq));clear hcq hqq hnq;have ho:Ord w (w.heap.size+1) (w.heap.size+1+1) w.heap.size (w.heap.size+1+1+1):=⟨by omega,by omega,by omega,by omega,by omega,by omega,by omega,by omega,by omega,rfl⟩
 have hst:Dt w s (w.heap.size+1) (w.heap.size+1+1) w.heap.size (w.heap.size+1+1+1) 0 0 (0,0) none 0 [] (((w.alloc (.cells #[.int .i64 0,.int .i64 0,.slice none 0 0] 59)).alloc (.cells #[.string s,.int .i64 0,.int .i64 0] 91)).alloc (.cells #[.int .i64 0,.int .i64 0,.slice none 0 0] 59)):=
  ⟨⟨(Has.dQ _ _ _ (by simp)).alloc _,Nat.zero_le _⟩,Has.dQ _ _ _ (by simp),((Has.new _ _ _).alloc _).alloc _,⟨⟨rfl,.inl ⟨rfl,rfl⟩⟩,fun k hk=>by cases hk⟩,by(repeat'(first|(with_reducible first|exact ay|apply aA|apply aB|apply aC|apply aF)|(right;simp;done)))⟩
 go_enter Tryz.func109,Tryz.ntmps109;go_wp2_with fail;obtain⟨W4,jD⟩:∃W4,((w.alloc (.cells #[.int .i64 0,.int .i64 0,.slice none 0 0] 59)).alloc (.cells #[.string s,.int .i64 0,.int .i64 0] 91)).alloc (.cells #[.int .i64 0,.int .i64 0,.slice none 0 0] 59)=W4:=⟨_,rfl⟩;rw[jD]at hst⊢;clear jD;obtain⟨B,hB⟩:∃B,w.heap.size+1+1+1=B:=⟨_,rfl⟩;rw[hB]at hst ho;clear hB;obtain⟨x,hx⟩:∃x,w.heap.size+1+1=x:=⟨_,rfl⟩;rw[hx]at hst ho⊢;clear hx;obtain⟨g,hg⟩:∃g,w.heap.size+1=g:=⟨_,rfl⟩;rw[hg]at hst ho⊢;clear hg;obtain⟨y,hy⟩:∃y,w.heap.size=y:=⟨_,rfl⟩;rw[hy]at hst ho⊢;clear hy;have HO:=ah ho;clear ho;have HST:=ah hst;clear hst;refine(jK _ g s (0,0) 2 HST.out.1 hs (by decide)).mono ?_;intro e w3 hrd;obtain⟨rfl,hst,hk⟩:=HST.out.read HO.out hrd;rw[BN.out.1]at hst⊢;dsimp only at hst⊢;clear HST hrd hk;have x0:=hst.2.1.cell 0;have xf:=hst.2.1.frozen 0;simp only[lF0,List.getElem?_cons_zero]at x0;have hst2:=hst.VC (c':=c) HO.out;clear hst;have HST:=ah hst2;clear hst2;go_wp2_with fail;clear x0 xf;refine(jK _ g s r1 1073741824 HST.out.1 hs (by decide)).mono ?_;intro e w4 hrd;obtain⟨rfl,hst,hk⟩:=HST.out.read HO.out hrd;rw[BN.out.2.1]at hst⊢;dsimp only at hst⊢;clear HST hrd hk;have x1:=hst.2.1.cell 1;have xf:=hst.2.1.frozen 1;simp only[lF0,List.getElem?_cons_zero,List.getElem?_cons_succ]at x1;have hst2:=hst.FM (q':=q) HO.out;clear hst;have HST:=ah hst2;clear hst2;go_wp2_with fail;clear x1 xf;refine(jK _ g s r2 4 HST.out.1 hs (by decide)).mono ?_;intro e w5 hrd;obtain⟨rfl,hst,hk⟩:=HST.out.read HO.out hrd;rw[BN.out.2.2]at hst⊢;dsimp only at hst⊢;clear HST hrd hk;have HST:=ah hst;clear hst;go_wp2_with fail;go_loopw [7] (fun v7 wr=>∃(i:Nat) (A:Option Addr) (cap:Nat),i<=n/\v7=.int .i64 i/\Dt w s g x y B c q (jw s i r3).2 A cap (jw s i r3).1 wr) (fun v7 _=>n-(intOf v7).toNat)
 case atStart=>exact⟨0,none,0,Nat.zero_le _,rfl,HST.out⟩
 case round=>
  obtain⟨i,A,cap,hi,rfl,hst⟩:=hrel;clear HST;have hlen:=KQ s r3 i;by_cases hin:i<n
  ·have hnext:jw s (i+1) r3=((jw s i r3).1++[(E5 s (jw s i r3).2).1],(E5 s (jw s i r3).2).2):=rfl;obtain⟨l,hl⟩:∃l,(jw s i r3).1=l:=⟨_,rfl⟩;obtain⟨r,hr⟩:∃r,(jw s i r3).2=r:=⟨_,rfl⟩;rw[hl,hr]at hst hnext;rw[hl]at hlen;have hop:E5 s r=(⟨(aN s 8 r).1,(aN s 8 (fZ s (aN s 8 r).2).2).1,(fZ s (aN s 8 r).2).1⟩,(aN s 8 (fZ s (aN s 8 r).2).2).2):=rfl;obtain⟨p1,hp1⟩:∃p,aN s 8 r=p:=⟨_,rfl⟩;obtain⟨k1,ra⟩:=p1;rw[hp1]at hop;dsimp only at hop;obtain⟨p2,hp2⟩:∃p,fZ s ra=p:=⟨_,rfl⟩;obtain⟨d1,rb⟩:=p2;rw[hp2]at hop;dsimp only at hop;obtain⟨p3,hp3⟩:∃p,aN s 8 rb=p:=⟨_,rfl⟩;obtain⟨v1,rc⟩:=p3;rw[hp3]at hop;dsimp only at hop;rw[hop]at hnext;dsimp only at hnext;have jT:=ah hnext;clear hnext hop hl hr;have HP:=ah (And.intro hp1 (And.intro hp2 hp3));clear hp1 hp2 hp3;have HST:=ah hst;clear hst;have eH:=ah hlen;clear hlen;have hge:=HST.out.ge HO.out;have hrow:=HST.out.row;have hz0:=Has.new wr 143 #[.string ⟨#[]⟩,.string ⟨#[]⟩,.bool false];have hst2:=HST.out.keep ((Kept.refl aj wr).alloc (.cells #[.string ⟨#[]⟩,.string ⟨#[]⟩,.bool false] 143));clear HST;go_wp2_with fail;obtain⟨W7,qg⟩:∃W7,wr.alloc (.cells #[.string ⟨#[]⟩,.string ⟨#[]⟩,.bool false] 143)=W7:=⟨_,rfl⟩;obtain⟨z,hz⟩:∃z,wr.heap.size=z:=⟨_,rfl⟩;rw[qg]at hst2 hz0⊢;rw[hz]at hz0 hge hrow⊢;have HZ:=ah (And.intro hge hrow);clear hge hrow hz qg;have HST:=ah hst2;clear hst2;have HZ0:=ah hz0;clear hz0;refine(oU _ g s r 8 HST.out.1 hs (by decide)).mono ?_;intro e w6 hrd;obtain⟨rfl,hst,hk⟩:=HST.out.read HO.out hrd;rw[HP.out.1]at hst⊢;dsimp only at hst⊢;have hz1:=HZ0.out.kept hk (by have:=HO.out.gB;have:=HZ.out.1;omega);have z0:=hz1.cell 0;have S9:=hz1.frozen 0;simp only[lF0,List.getElem?_cons_zero,List.getElem?_cons_succ]at z0;have hst2:=hst.far HO.out HZ.out.1 HZ.out.2 0 (.string k1);have hz2:Has (w6.setCell ⟨z,0,none⟩ (.string k1)) z 143 #[.string k1,.string ⟨#[]⟩,.bool false]:=Has.aQ hz1 rfl;clear HST HZ0 hrd hk hst hz1;have HST:=ah hst2;clear hst2;have HZ0:=ah hz2;clear hz2;go_wp2_with fail;clear z0 S9;refine(Jp _ g s ra HST.out.1 hs).mono ?_;intro e w8 hrd;obtain⟨rfl,hst,hk⟩:=HST.out.read HO.out hrd;rw[HP.out.2.1]at hst⊢;dsimp only at hst⊢;have hz1:=HZ0.out.kept hk (by have:=HO.out.gB;have:=HZ.out.1;omega);have z2:=hz1.cell 2;have Zh:=hz1.frozen 2;simp only[lF0,List.getElem?_cons_zero,List.getElem?_cons_succ]at z2;have hst2:=hst.far HO.out HZ.out.1 HZ.out.2 2 (.bool d1);have hz2:Has (w8.setCell ⟨z,2,none⟩ (.bool d1)) z 143 #[.string k1,.string ⟨#[]⟩,.bool d1]:=Has.aQ hz1 rfl;clear HST HZ0 hrd hk hst hz1;have HST:=ah hst2;clear hst2;have HZ0:=ah hz2;clear hz2;go_wp2_with fail;refine(oU _ g s rb 8 HST.out.1 hs (by decide)).mono ?_;intro e w9 hrd;obtain⟨rfl,hst,hk⟩:=HST.out.read HO.out hrd;rw[HP.out.2.2]at hst⊢;dsimp only at hst⊢;have hz1:=HZ0.out.kept hk (by have:=HO.out.gB;have:=HZ.out.1;omega);have hst2:=hst.far HO.out HZ.out.1 HZ.out.2 1 (.string v1);have hz2:Has (w9.setCell ⟨z,1,none⟩ (.string v1)) z 143 #[.string k1,.string v1,.bool d1]:=Has.aQ hz1 rfl;clear z2 Zh;have z1:=hz1.cell 1;have RH:=hz1.frozen 1;simp only[lF0,List.getElem?_cons_zero,List.getElem?_cons_succ]at z1;have BO:=hz2.cell 0;have BP:=hz2.cell 1;have RI:=hz2.cell 2;simp only[lF0,List.getElem?_cons_zero,List.getElem?_cons_succ]at BO BP RI;have xx2:=hst2.cells.1.2.2;clear HST HZ0 hrd hk hst hz1 hz2;have HST:=ah hst2;clear hst2;have hm1:l.length+1<=maxLen:=by rw[eH.out];unfold maxLen;omega
   have hm2:(l.length+1)*40<=140737488355328:=by rw[eH.out];omega
   have kY:=ah hm1;clear hm1;have kR:=ah hm2;clear hm2;go_wp2_with (at_builtin;refine bH Gl (.tmp 39) (.tmp 41) rfl rfl (Value.slice A l.length cap) rfl ((HST.out.2.2.2.1.kept ((Kept.refl _ _).alloc _)).1) 1 rfl (Src.kW (m:=1) (cs:=#[.string k1,.string v1,.bool d1]) (Has.dQ _ 143 _ (by simp)) rfl) (by intro u hu;simp at hu;rcases hu with rfl|rfl|rfl<;>rfl) kY.out kR.out ?_;intro A6 c6 w10 ji fJ ha6;obtain⟨hx6,Ad⟩:=HST.out.append HO.out (p:=⟨k1,v1,d1⟩) ((Kept.refl _ _).alloc _) ji fJ ha6;have e2:=hx6.cell 2;have ef:=hx6.frozen 2;simp only[lF0,List.getElem?_cons_zero,List.getElem?_cons_succ]at e2;have qH:=ah Ad;clear ji fJ ha6 hx6 Ad);go_roundw
   case rel=>exact⟨i+1,A6,c6,by omega,by go_num,by rw[jT.out];exact qH.out⟩
   case measure=>simp[intOf];omega
  ·obtain rfl:i=n:=by omega
   obtain⟨l,hl⟩:∃l,(jw s i r3).1=l:=⟨_,rfl⟩;obtain⟨r,hr⟩:∃r,(jw s i r3).2=r:=⟨_,rfl⟩;rw[hl,hr]at hst dw;rw[hl]at hlen;clear hl hr;have HST:=ah hst;clear hst;have eH:=ah hlen;clear hlen;go_wp2_with fail;refine(og _ g s r HST.out.1 hs).mono ?_;rintro e w6 ⟨rfl,hk⟩;have hst:=HST.out.keep hk;clear HST hk;obtain⟨⟨x0,x1,x2⟩,xf,⟨y0,y1,y2⟩,jY,jZ,ku⟩:=hst.cells;have HST:=ah hst;clear hst;have hky:∀W,Kept aj w W->∀a b c,Kept aj w (((W.setCell ⟨y,0,none⟩ a).setCell ⟨y,1,none⟩ b).setCell ⟨y,2,none⟩ c):=fun W hW a b c=>((hW.put (.inr HO.out.wy)).put (.inr HO.out.wy)).put (.inr HO.out.wy);have mX:=ah hky;clear hky;obtain⟨er,uh⟩:∃er,iJ s r=er:=⟨_,rfl⟩;rw[uh]at dw⊢;clear uh;by_cases he:er=0;rotate_left
   ·have he2:(er !=0)=true:=by simpa using he
    have hof:=dw.out;rw[if_pos he]at hof;have dB:=ah hof;clear hof dw he;go_wp2_with fail;refine bodyPost_ret (v:=.tuple #[.agg #[.int .i64 0,.int .i64 0,.slice none 0 0],.int .i64 er]) (by simp[results,Tryz.results109,go_sem,y0,y1,y2,jY,jZ,ku]) rfl (?_:vw w s _ _);refine⟨none,0,by rw[dB.out];rfl,by rw[dB.out];exact Src.nil _ _ _,by rw[dB.out];exact Nat.le_refl _,Nat.zero_le _,(fun ad e=>by cases e),?_⟩;exact mX.out _ HST.out.2.2.2.2 _ _ _
   subst he;have hof:=dw.out;rw[if_neg (by simp)]at hof;have gK:=ah hof;clear hof dw;have hsr:=Src.fA HST.out.2.2.2.1.1;have hcap:=mM HST.out.2.2.2.1.1;have hck:=ng w6 ⟨c,q,l⟩ A cap hsr hcap.1;obtain⟨ck,vJ⟩:∃ck,chk ⟨c,q,l⟩=ck:=⟨_,rfl⟩;rw[vJ]at hck gK;unfold nT at hck;dsimp only at hck;have jO:=ah hck;clear hck vJ hsr;have HCAP:=ah hcap;clear hcap;go_wp2_with fail;refine jO.out.mono ?_;rintro e w7 ⟨rfl,hk⟩;have hst:=HST.out.keep hk;clear HST hk x0 x1 x2 xf y0 y1 y2 jY jZ ku;obtain⟨⟨x0,x1,x2⟩,xf,⟨y0,y1,y2⟩,jY,jZ,ku⟩:=hst.cells;have HST:=ah hst;clear hst;by_cases he:ck=0;rotate_left
   ·have he2:(ck !=0)=true:=by simpa using he
    have hof:=gK.out;rw[if_pos he]at hof;have dB:=ah hof;clear hof gK he;go_wp2_with fail;refine bodyPost_ret (v:=.tuple #[.agg #[.int .i64 0,.int .i64 0,.slice none 0 0],.int .i64 ck]) (by simp[results,Tryz.results109,go_sem,y0,y1,y2,jY,jZ,ku]) rfl (?_:vw w s _ _);refine⟨none,0,by rw[dB.out];rfl,by rw[dB.out];exact Src.nil _ _ _,by rw[dB.out];exact Nat.le_refl _,Nat.zero_le _,(fun ad e=>by cases e),?_⟩;exact mX.out _ HST.out.2.2.2.2 _ _ _
   ·subst he;have hof:=gK.out;rw[if_neg (by simp)]at hof;have dB:=ah hof;clear hof gK;go_wp2_with fail;refine bodyPost_ret (v:=.tuple #[.agg #[.int .i64 c,.int .i64 q,.slice A l.length cap],.int .i64 0]) (by simp[results,Tryz.results109,go_sem,y0,y1,y2,jY,jZ,ku]) rfl (?_:vw w s _ _);have hn:∀k,(Value.slice A l.length cap).ownBlock=some k->k≠y:=fun k hk e=>by have:=HST.out.2.2.2.1.2 k hk;have:=HO.out.yB;omega
    have hkk:∀a b c,Kept (fun k=>k=y) w7 (((w7.setCell ⟨y,0,none⟩ a).setCell ⟨y,1,none⟩ b).setCell ⟨y,2,none⟩ c):=fun a b c=>Kept.put (F:=fun k=>k=y) (Kept.put (F:=fun k=>k=y) (Kept.put (F:=fun k=>k=y) (Kept.refl _ _) (.inl rfl)) (.inl rfl)) (.inl rfl);refine⟨A,cap,by rw[dB.out],?_,by rw[dB.out];exact HCAP.out.1,HCAP.out.2,(fun ad e=>by have h1:=oQ HST.out.2.2.2.1 ad e;have:=HO.out.gB;have:=HO.out.wg;omega),?_⟩
    ·rw[dB.out];exact Src.fA (aP HST.out.2.2.2.1.1 (hkk _ _ _) hn)
    ·exact mX.out _ HST.out.2.2.2.2 _ _ _
