/- Part 18. -/
import Derived.Test.YtgbigpdiacjbgaaGreatKP02
import Derived.Test.YtgbigpdiacjbgaaGreatKP16
import Derived.StillTailTactics
set_option linter.unusedSimpArgs false
set_option linter.unusedVariables false
set_option maxHeartbeats 32000000
set_option maxRecDepth 100000
namespace Go.Proofs.YtgbigpdiacjbgaaGreat
open Go.RowKit
namespace iI
open Vn Ops
theorem EM{l:List UInt8}{i c:Nat}(h:get l i=.error c):c=2\/c=4:=by
 unfold Vn.get at h;split at h
 ·injection h with h;exact .inl h.symm
 ·split at h
  ·cases h
  ·dsimp only at h;split at h
   ·injection h with h;exact .inl h.symm
   ·split at h
    ·injection h with h;exact .inr h.symm
    ·cases h
theorem iH.kept{F:Nat->Prop}{w w':World}{g:Nat}{s:ByteArray}{r:RS}(h:iH w g s r)(hk:Kept F w w')(hf:¬F g):iH w' g s r:=⟨h.1.kept hk hf,h.2⟩
theorem iH.alloc{w:World}{g:Nat}{s:ByteArray}{r:RS}(h:iH w g s r)(o:Obj):iH (w.alloc o) g s r:=⟨h.1.alloc o,h.2⟩
def zx(w:World)(g:Nat)(s:ByteArray)(v:Value)(r:RS)(e:Ending)(w':World):Prop:=e=.returned v/\iH w' g s r/\Kept (fun k=>k=g) w w'
theorem KT(w:World)(g:Nat)(s:ByteArray)(i n j:Nat)(h:iH w g s (i,0))(hs:s.size<=maxLen)(hg:get (bl s) i=.ok (n,j))(hj:j<=s.size):
  Calls Tryz.prog 93 #[.pointer (some ⟨g,0,none⟩)] w (zx w g s (.int .u64 n) (j,0)):=by
 have hv:=KP s i h.2 hs;rw[hg]at hv;simp only[Bj]at hv;have HV:=ah hv;clear hv;have c0:=h.1.cell 0;have c1:=h.1.cell 1;have f1:=h.1.frozen 1;simp only[lF0,List.getElem?_cons_zero,List.getElem?_cons_succ]at c0 c1;have H:=ah h;clear h;have hb:=Zc;have HB:=ah hb;clear hb hg;go_enter Tryz.func93,Tryz.ntmps93;go_wp2_with fail;go_quiet ((go_at_call 135;exact Calls.quiet_of_same ((HV.out _).mono fun e w' h=>⟨h.1,h.2.symm⟩)));go_wp2_with fail;refine(HB.out _).mono ?_;rintro e w2 ⟨rfl,rfl⟩;go_wp2;go_ret;exact⟨rfl,⟨Has.aQ (H.out.1.drewN _) rfl,hj⟩,((Kept.refl _ _).drewN _).put (.inl rfl)⟩
theorem KU(w:World)(g:Nat)(s:ByteArray)(i c:Nat)(h:iH w g s (i,0))(hs:s.size<=maxLen)(hg:get (bl s) i=.error c):
  Calls Tryz.prog 93 #[.pointer (some ⟨g,0,none⟩)] w fun e w'=>e=thrown c/\iH w' g s (i,0)/\Kept aj w w':=by
 have hc:=EM hg;have hv:=KP s i h.2 hs;rw[hg]at hv;simp only[Bj]at hv;have HV:=ah hv;clear hv;have c0:=h.1.cell 0;have c1:=h.1.cell 1;simp only[lF0,List.getElem?_cons_zero,List.getElem?_cons_succ]at c0 c1;have H:=ah h;clear h;have hb:=RF c (by omega);have HB:=ah hb;clear hb hg;go_enter Tryz.func93,Tryz.ntmps93;go_wp2_with fail;go_quiet ((go_at_call 135;exact Calls.quiet_of_same ((HV.out _).mono fun e w' h=>⟨h.1,h.2.symm⟩)));go_wp2_with fail;refine(HB.out _).mono ?_;rintro e w2 ⟨rfl,rfl⟩;go_wp2;exact⟨rfl,rfl,⟨H.out.1.drewN _,H.out.2⟩,(Kept.refl _ _).drewN _⟩
theorem CG(n:Nat)(hn:n<=9223372036854775807)(W:World):(convert 22 3 (.int .u64 (n:Int))).run Tryz.prog W=.ok (.int .i64 n) W:=by have hw:IntKind.i64.wrap (n:Int)=n:=IntWalk.i64_in _ (by omega);simp[go_sem,hw]
theorem oZ(w:World)(g:Nat)(s:ByteArray)(r:RS)(most:Nat)(h:iH w g s r)(hs:s.size<=maxLen)(hm:most<=9223372036854775807):
  Calls Tryz.prog 57 #[.pointer (some ⟨g,0,none⟩),.int .i64 most] w (zx w g s (.int .i64 (aG s most r).1) (aG s most r).2):=by
 have hmf:∀(fn:Fn) (first cap:Array Value) (w:World),(Instr.makeFunc fn first cap).run Tryz.prog w=.ok (.func fn first cap) w:=fun _ _ _ _=>rfl;have hgl:=h.1.lt;have H0:=ah (h.alloc (.cells #[.pointer (some ⟨g,0,none⟩)] 118));have aS:=ah ((Kept.refl (fun k=>k=g) w).alloc (.cells #[.pointer (some ⟨g,0,none⟩)] 118));have HX0:=ah (Has.new w 118 #[.pointer (some ⟨g,0,none⟩)]);obtain⟨i,e0⟩:=r;by_cases he:e0=0;rotate_left
 ·have hr:=U8 (s:=s) (most:=most) (q:=(i,e0)) he;rw[hr];have he2:(e0 !=0)=true:=by simpa using he
  clear he hr hm hs h;go_enter_defers Tryz.func57,Tryz.ntmps57;go_wp2_with fail;refine(fU _ _ _ _ H0.out).mono ?_;rintro e w2 ⟨rfl,rfl⟩;go_wp2;exact⟨_,results_tmp rfl _ _ _,rfl,H0.out,aS.out⟩
 subst he;have hx0:=HX0.out.cell 0;simp only[lF0,List.getElem?_cons_zero]at hx0;cases hg:get (bl s) i with
 |error c=>
  have hr:aG s most (i,0)=(0,(i,(c:Int))):=by have:=EM hg;unfold aG bD;simp[hg]
  rw[hr];have hb:=fun W (hW:iH W g s (i,0))=>KU W g s i c hW hs hg;have HB:=ah hb;clear hb hr hm hs h hg;go_enter_defers Tryz.func57,Tryz.ntmps57;go_wp2_with fail;refine(fU _ _ _ _ H0.out).mono ?_;rintro e w2 ⟨rfl,rfl⟩;go_wp2_with fail;refine(HB.out _ H0.out).mono ?_;rintro e w2 ⟨rfl,hr,hk⟩;have HR:=ah (And.intro hr hk);clear hr hk;go_wp2;refine leaves_cons (f:=91) (args:=#[.pointer (some ⟨w.heap.size,0,none⟩)]) (by simp) (by simp[go_sem]) ?_;refine(KR _ w.heap.size g s (i,0) c [] HR.out.1 ((HX0.out.kept HR.out.2 (fun x=>x)).cell 0)).mono ?_;rintro e u w3 ⟨rfl,rfl,rfl⟩;simp[Leaves,settle,results,Tryz.results57,go_sem];exact⟨rfl,⟨Has.aQ HR.out.1.1.drew rfl,HR.out.1.2⟩,((aS.out.then (HR.out.2.mono fun _ x=>x.elim)).drew).put (.inl rfl)⟩
 |ok q=>
  obtain⟨n,j⟩:=q;obtain⟨p1,p2,p3,p4⟩:=BD hg;rw[iw]at p2;have hcv:=tH most (by omega);have hb:=fun W (hW:iH W g s (i,0))=>KT W g s i n j hW hs hg p2;have HB:=ah hb;clear hb;by_cases hlt:most<n
  ·have hr:aG s most (i,0)=(0,(j,5)):=by unfold aG bD;simp[hg,hlt]
   rw[hr];have hf:=zZ 5 (by decide);have HF:=ah hf;clear hf hr hm hs h hg p1 p2 p3 p4;go_enter_defers Tryz.func57,Tryz.ntmps57;go_wp2_with fail;refine(fU _ _ _ _ H0.out).mono ?_;rintro e w2 ⟨rfl,rfl⟩;go_wp2_with fail;refine(HB.out _ H0.out).mono ?_;rintro e w2 ⟨rfl,hr,hk⟩;have HR:=ah (And.intro hr hk);clear hr hk;have hx2:=(HX0.out.kept HR.out.2 (by omega)).cell 0;simp only[lF0,List.getElem?_cons_zero]at hx2;go_wp2_with fail;refine(HF.out _).mono ?_;rintro e w3 ⟨rfl,rfl⟩;go_wp2;refine leaves_cons (f:=91) (args:=#[.pointer (some ⟨w.heap.size,0,none⟩)]) (by simp) (by simp[go_sem]) ?_;refine(KR _ w.heap.size g s (j,0) 5 [] HR.out.1 hx2).mono ?_;rintro e u w3 ⟨rfl,rfl,rfl⟩;simp[Leaves,settle,results,Tryz.results57,go_sem];exact⟨rfl,⟨Has.aQ HR.out.1.1.drew rfl,HR.out.1.2⟩,((aS.out.then HR.out.2).drew).put (.inl rfl)⟩
  ·have hr:aG s most (i,0)=(n,(j,0)):=by unfold aG bD;simp[hg,hlt]
   rw[hr];have hcv2:=CG n (by omega);have hf:=zY 5;have HF:=ah hf;clear hf hr hm hs h hg p1 p2 p3 p4;go_enter_defers Tryz.func57,Tryz.ntmps57;go_wp2_with fail;refine(fU _ _ _ _ H0.out).mono ?_;rintro e w2 ⟨rfl,rfl⟩;go_wp2_with fail;refine(HB.out _ H0.out).mono ?_;rintro e w2 ⟨rfl,hr,hk⟩;have HR:=ah (And.intro hr hk);clear hr hk;have hx2:=(HX0.out.kept HR.out.2 (by omega)).cell 0;simp only[lF0,List.getElem?_cons_zero]at hx2;go_wp2_with fail;refine(HF.out _).mono ?_;rintro e w3 ⟨rfl,rfl⟩;go_wp2;refine leaves_cons (f:=91) (args:=#[.pointer (some ⟨w.heap.size,0,none⟩)]) (by simp) (by simp[go_sem]) ?_;refine(XQ _ w.heap.size g hx2).mono ?_;rintro e u w3 ⟨rfl,rfl,rfl⟩;simp[Leaves,settle,results,Tryz.results57,go_sem];exact⟨rfl,⟨HR.out.1.1.drew,HR.out.1.2⟩,(aS.out.then HR.out.2).drew⟩
end iI
namespace iI
open Vn Ops
theorem Vd(a b:Nat)(h:b<=a)(ha:a<=9223372036854775807)(W:World):(convert 3 22 (.int .i64 ((a:Int)-b))).run Tryz.prog W=.ok (.int .u64 ((a:Int)-b)) W:=by
 have e:(a:Int)-b=((a-b:Nat):Int):=by omega
 rw[e];exact tH _ (by omega) W
theorem qw(w:World)(g:Nat)(s:ByteArray)(r:RS)(most:Nat)(h:iH w g s r)(hs:s.size<=maxLen)(hm:most<=9223372036854775807):
  Calls Tryz.prog 137 #[.pointer (some ⟨g,0,none⟩),.int .i64 most] w (zx w g s (.string (aN s most r).1) (aN s most r).2):=by
 have hmf:∀(fn:Fn) (first cap:Array Value) (w:World),(Instr.makeFunc fn first cap).run Tryz.prog w=.ok (.func fn first cap) w:=fun _ _ _ _=>rfl;have hgl:=h.1.lt;have H0:=ah (h.alloc (.cells #[.pointer (some ⟨g,0,none⟩)] 118));have aS:=ah ((Kept.refl (fun k=>k=g) w).alloc (.cells #[.pointer (some ⟨g,0,none⟩)] 118));have HX0:=ah (Has.new w 118 #[.pointer (some ⟨g,0,none⟩)]);obtain⟨i,e0⟩:=r;by_cases he:e0=0;rotate_left
 ·have hr:=RE (s:=s) (most:=most) (q:=(i,e0)) he;rw[hr];have he2:(e0 !=0)=true:=by simpa using he
  clear he hr hm hs h;go_enter_defers Tryz.func137,Tryz.ntmps137;go_wp2_with fail;refine(fU _ _ _ _ H0.out).mono ?_;rintro e w2 ⟨rfl,rfl⟩;go_wp2;exact⟨_,results_tmp rfl _ _ _,rfl,H0.out,aS.out⟩
 subst he;have hx0:=HX0.out.cell 0;simp only[lF0,List.getElem?_cons_zero]at hx0;cases hg:get (bl s) i with
 |error c=>
  have hr:aN s most (i,0)=(emp,(i,(c:Int))):=by
   have:=EM hg;have hc:¬c=0:=by omega
   unfold aN bD;simp[hg,hc]
  rw[hr];have hb:=fun W (hW:iH W g s (i,0))=>KU W g s i c hW hs hg;have HB:=ah hb;clear hb hr hm hs h hg;go_enter_defers Tryz.func137,Tryz.ntmps137;go_wp2_with fail;refine(fU _ _ _ _ H0.out).mono ?_;rintro e w2 ⟨rfl,rfl⟩;go_wp2_with fail;refine(HB.out _ H0.out).mono ?_;rintro e w2 ⟨rfl,hr,hk⟩;have HR:=ah (And.intro hr hk);clear hr hk;go_wp2;refine leaves_cons (f:=173) (args:=#[.pointer (some ⟨w.heap.size,0,none⟩)]) (by simp) (by simp[go_sem]) ?_;refine(DZ _ w.heap.size g s (i,0) c [] HR.out.1 ((HX0.out.kept HR.out.2 (fun x=>x)).cell 0)).mono ?_;rintro e u w3 ⟨rfl,rfl,rfl⟩;simp[Leaves,settle,results,Tryz.results137,go_sem];exact⟨rfl,⟨Has.aQ HR.out.1.1.drew rfl,HR.out.1.2⟩,((aS.out.then (HR.out.2.mono fun _ x=>x.elim)).drew).put (.inl rfl)⟩
 |ok q=>
  obtain⟨n,j⟩:=q;obtain⟨p1,p2,p3,p4⟩:=BD hg;rw[iw]at p2;have hcv:=tH most (by omega);have hb:=fun W (hW:iH W g s (i,0))=>KT W g s i n j hW hs hg p2;have HB:=ah hb;clear hb;unfold maxLen at hs;by_cases hlt:most<n
  ·have hr:aN s most (i,0)=(emp,(j,3)):=by unfold aN bD;simp[hg,hlt]
   rw[hr];have hf:=zZ 3 (by decide);have HF:=ah hf;clear hf hr hm hs h hg p1 p2 p3 p4;go_enter_defers Tryz.func137,Tryz.ntmps137;go_wp2_with fail;refine(fU _ _ _ _ H0.out).mono ?_;rintro e w2 ⟨rfl,rfl⟩;go_wp2_with fail;refine(HB.out _ H0.out).mono ?_;rintro e w2 ⟨rfl,hr,hk⟩;have HR:=ah (And.intro hr hk);clear hr hk;have hx2:=(HX0.out.kept HR.out.2 (by omega)).cell 0;simp only[lF0,List.getElem?_cons_zero]at hx2;go_wp2_with fail;refine(HF.out _).mono ?_;rintro e w3 ⟨rfl,rfl⟩;go_wp2;refine leaves_cons (f:=173) (args:=#[.pointer (some ⟨w.heap.size,0,none⟩)]) (by simp) (by simp[go_sem]) ?_;refine(DZ _ w.heap.size g s (j,0) 3 [] HR.out.1 hx2).mono ?_;rintro e u w3 ⟨rfl,rfl,rfl⟩;simp[Leaves,settle,results,Tryz.results137,go_sem];exact⟨rfl,⟨Has.aQ HR.out.1.1.drew rfl,HR.out.1.2⟩,((aS.out.then HR.out.2).drew).put (.inl rfl)⟩
  have hf3:=zY 3;have HF3:=ah hf3;clear hf3;have Zf:=Vd s.size j p2 hs;by_cases hsh:s.size-j<n
  ·have hr:aN s most (i,0)=(emp,(j,2)):=by unfold aN bD;simp[hg,hlt,hsh]
   rw[hr];have hsh2:decide ((s.size:Int)-j<n)=true:=decide_eq_true (by omega);have hf:∀W,Calls Tryz.prog 94 #[.bool (decide ((s.size:Int)-j<n)),.int .i64 2] W fun e w'=>e=thrown 2/\W=w':=by rw[hsh2];exact zZ 2 (by decide)
   have HF:=ah hf;clear hsh2 hf hr hm h hg p1 p3 p4 hsh;go_enter_defers Tryz.func137,Tryz.ntmps137;go_wp2_with fail;refine(fU _ _ _ _ H0.out).mono ?_;rintro e w2 ⟨rfl,rfl⟩;go_wp2_with fail;refine(HB.out _ H0.out).mono ?_;rintro e w2 ⟨rfl,hr,hk⟩;have HR:=ah (And.intro hr hk);clear hr hk;have hx2:=(HX0.out.kept HR.out.2 (by omega)).cell 0;have c0:=HR.out.1.1.cell 0;have c1:=HR.out.1.1.cell 1;simp only[lF0,List.getElem?_cons_zero,List.getElem?_cons_succ]at hx2 c0 c1;go_wp2_with fail;refine(HF3.out _).mono ?_;rintro e w3 ⟨rfl,rfl⟩;go_wp2_with fail;refine wp_region_still_tail 13 (by kernel_rfl) (by kernel_rfl) ?_;simp only[List.take_succ_cons,List.take_zero,List.drop_succ_cons,List.drop_zero];change wpStill _ _ (World.drew w2) _ _ _;repeat still_step
   refine wpStill_nil ?_;change wpList _ _ _ _ _ (World.drew w2);go_wp2_with fail;refine(HF.out _).mono ?_;rintro e w3 ⟨rfl,rfl⟩;go_wp2;refine leaves_cons (f:=173) (args:=#[.pointer (some ⟨w.heap.size,0,none⟩)]) (by simp) (by simp[go_sem]) ?_;refine(DZ _ w.heap.size g s (j,0) 2 [] ⟨HR.out.1.1.drew,HR.out.1.2⟩ hx2).mono ?_;rintro e u w3 ⟨rfl,rfl,rfl⟩;simp[Leaves,settle,results,Tryz.results137,go_sem];exact⟨rfl,⟨Has.aQ HR.out.1.1.drew rfl,HR.out.1.2⟩,((aS.out.then HR.out.2).drew.drew).put (.inl rfl)⟩
  ·have hr:aN s most (i,0)=(s.extract j (j+n),(j+n,0)):=by unfold aN bD;simp[hg,hlt,hsh]
   rw[hr];have hcv2:=CG n (by omega);have hsh2:decide ((s.size:Int)-j<n)=false:=decide_eq_false (by omega);have hf:∀W,Calls Tryz.prog 94 #[.bool (decide ((s.size:Int)-j<n)),.int .i64 2] W fun e w'=>e=.returned (.tuple #[])/\W=w':=by rw[hsh2];exact zY 2
   have HF:=ah hf;clear hsh2;have hto:(j:Int)+n<=s.size:=by omega
   have hw:IntKind.i64.wrap ((j:Int)+n)=(j:Int)+n:=IntWalk.i64_in _ (by omega);have htn:((j:Int)+n).toNat=j+n:=by omega
   have ht0:(0:Int)<=(j:Int)+n:=by omega
   have ht1:(j:Int)<=(j:Int)+n:=by omega
   clear hf hr hm h hg p1 p3 p4 hsh;go_enter_defers Tryz.func137,Tryz.ntmps137;go_wp2_with fail;refine(fU _ _ _ _ H0.out).mono ?_;rintro e w2 ⟨rfl,rfl⟩;go_wp2_with fail;refine(HB.out _ H0.out).mono ?_;rintro e w2 ⟨rfl,hr,hk⟩;have HR:=ah (And.intro hr hk);clear hr hk;have hx2:=(HX0.out.kept HR.out.2 (by omega)).cell 0;have c0:=HR.out.1.1.cell 0;have c1:=HR.out.1.1.cell 1;have f1:=HR.out.1.1.frozen 1;simp only[lF0,List.getElem?_cons_zero,List.getElem?_cons_succ]at hx2 c0 c1;go_wp2_with fail;refine(HF3.out _).mono ?_;rintro e w3 ⟨rfl,rfl⟩;go_wp2_with fail;refine wp_region_still_tail 13 (by kernel_rfl) (by kernel_rfl) ?_;simp only[List.take_succ_cons,List.take_zero,List.drop_succ_cons,List.drop_zero];change wpStill _ _ (World.drew w2) _ _ _;repeat still_step
   refine wpStill_nil ?_;change wpList _ _ _ _ _ (World.drew w2);go_wp2_with fail;refine(HF.out _).mono ?_;rintro e w3 ⟨rfl,rfl⟩;go_wp2_with fail;refine wp_region_still_tail 15 (by kernel_rfl) (by kernel_rfl) ?_;simp only[List.take_succ_cons,List.take_zero,List.drop_succ_cons,List.drop_zero];change wpStill _ _ (World.drew w2.drew) _ _ _;repeat still_step
   refine wpStill_nil ?_;change wpList _ _ _ _ _ (World.drew w2.drew);go_wp2;refine leaves_cons (f:=173) (args:=#[.pointer (some ⟨w.heap.size,0,none⟩)]) (by simp) (by simp[go_sem]) ?_;refine(Va _ w.heap.size g ?_).mono ?_
   ·exact(((HX0.out.kept HR.out.2 (by omega)).past (by omega)).cell 0)
   rintro e u w3 ⟨rfl,rfl,rfl⟩;simp[Leaves,settle,results,Tryz.results137,go_sem];exact⟨rfl,⟨Has.aQ HR.out.1.1 rfl,by omega⟩,((aS.out.then HR.out.2).put (.inl rfl)).drew.drew.drew⟩
end iI
namespace iI
open Vn Ops
theorem KW(w:World)(g:Nat)(s:ByteArray)(r:RS)(h:iH w g s r)(hs:s.size<=maxLen):
  Calls Tryz.prog 139 #[.pointer (some ⟨g,0,none⟩)] w (zx w g s (.bool (fZ s r).1) (fZ s r).2):=by
 have hmf:∀(fn:Fn) (first cap:Array Value) (w:World),(Instr.makeFunc fn first cap).run Tryz.prog w=.ok (.func fn first cap) w:=fun _ _ _ _=>rfl;have hgl:=h.1.lt;have H0:=ah (h.alloc (.cells #[.pointer (some ⟨g,0,none⟩)] 118));have aS:=ah ((Kept.refl (fun k=>k=g) w).alloc (.cells #[.pointer (some ⟨g,0,none⟩)] 118));have HX0:=ah (Has.new w 118 #[.pointer (some ⟨g,0,none⟩)]);obtain⟨i,e0⟩:=r;by_cases he:e0=0;rotate_left
 ·have hr:=Ji (s:=s) (q:=(i,e0)) he;rw[hr];have he2:(e0 !=0)=true:=by simpa using he
  clear he hr hs h;go_enter_defers Tryz.func139,Tryz.ntmps139;go_wp2_with fail;refine(fU _ _ _ _ H0.out).mono ?_;rintro e w2 ⟨rfl,rfl⟩;go_wp2;exact⟨_,results_tmp rfl _ _ _,rfl,H0.out,aS.out⟩
 subst he;have hi:i<=s.size:=h.2;have hx0:=HX0.out.cell 0;have c0:=H0.out.1.cell 0;have c1:=H0.out.1.cell 1;have f1:=H0.out.1.frozen 1;simp only[lF0,List.getElem?_cons_zero,List.getElem?_cons_succ]at hx0 c0 c1;unfold maxLen at hs;clear h;obtain⟨W0,hW0⟩:∃W0,w.alloc (.cells #[.pointer (some ⟨g,0,none⟩)] 118)=W0:=⟨_,rfl⟩;rw[hW0]at H0 aS HX0 hx0 c0 c1 f1;have HW0:=ah hW0;clear hW0;by_cases hil:i=s.size
 ·have hr:fZ s (i,0)=(false,(i,2)):=by unfold fZ;rw[if_neg (by simp)];have:(bl s)[i]? =none:=List.getElem?_eq_none (by rw[iw];omega);rw[this]
  rw[hr];subst hil;have hf:=zZ 2 (by decide);have HF:=ah hf;clear hf hr;go_enter_defers Tryz.func139,Tryz.ntmps139;go_wp2_with fail;rw[HW0.out];refine(fU _ _ _ _ H0.out).mono ?_;rintro e w2 ⟨rfl,rfl⟩;go_wp2_with fail;refine wp_region_still_tail 10 (by kernel_rfl) (by kernel_rfl) ?_;simp only[List.take_succ_cons,List.take_zero,List.drop_succ_cons,List.drop_zero];change wpStill _ _ (World.drew W0) _ _ _;repeat still_step
  refine wpStill_nil ?_;change wpList _ _ _ _ _ (World.drew W0);go_wp2_with fail;refine(HF.out _).mono ?_;rintro e w3 ⟨rfl,rfl⟩;go_wp2;refine leaves_cons (f:=175) (args:=#[.pointer (some ⟨w.heap.size,0,none⟩)]) (by simp) (by simp[go_sem]) ?_;refine(Jj _ w.heap.size g s (s.size,0) 2 [] ⟨H0.out.1.drew,H0.out.2⟩ hx0).mono ?_;rintro e u w3 ⟨rfl,rfl,rfl⟩;simp[Leaves,settle,results,Tryz.results139,go_sem];exact⟨rfl,⟨Has.aQ H0.out.1 rfl,hi⟩,((aS.out.drew.drew).put (.inl rfl))⟩
 have hlt:i<s.size:=by omega
 have hq:((i:Int)==(s.size:Int))=false:=by rw[beq_eq_false_iff_ne];omega
 have hf:∀W,Calls Tryz.prog 94 #[.bool ((i:Int)==(s.size:Int)),.int .i64 2] W fun e w'=>e=.returned (.tuple #[])/\W=w':=by rw[hq];exact zY 2
 have HF:=ah hf;clear hf hq hil;have hbl:=zW s i hlt;have i0:(0:Int)<=(i:Int):=by omega
 have i1:(i:Int)<s.size:=by omega
 obtain⟨y,hy⟩:∃y,s[i].toNat=y:=⟨_,rfl⟩;by_cases hbig:1<y
 ·have hr:fZ s (i,0)=(false,(i,4)):=by unfold fZ;rw[if_neg (by simp),hbl];simp only[hy,hbig,if_true]
  rw[hr];have hf4:∀W,Calls Tryz.prog 94 #[.bool (decide ((1:Int)<y)),.int .i64 4] W fun e w'=>e=thrown 4/\W=w':=by rw[decide_eq_true (by omega)];exact zZ 4 (by decide)
  have Zg:=ah hf4;clear hf4;clear hr hbl hbig;go_enter_defers Tryz.func139,Tryz.ntmps139;go_wp2_with fail;rw[HW0.out];refine(fU _ _ _ _ H0.out).mono ?_;rintro e w2 ⟨rfl,rfl⟩;go_wp2_with fail;refine wp_region_still_tail 10 (by kernel_rfl) (by kernel_rfl) ?_;simp only[List.take_succ_cons,List.take_zero,List.drop_succ_cons,List.drop_zero];change wpStill _ _ (World.drew W0) _ _ _;repeat still_step
  refine wpStill_nil ?_;change wpList _ _ _ _ _ (World.drew W0);go_wp2_with fail;refine(HF.out _).mono ?_;rintro e w3 ⟨rfl,rfl⟩;go_wp2_with fail;refine wp_region_still_tail 10 (by kernel_rfl) (by kernel_rfl) ?_;simp only[List.take_succ_cons,List.take_zero,List.drop_succ_cons,List.drop_zero];change wpStill _ _ (World.drew W0.drew) _ _ _;repeat still_step
  refine wpStill_nil ?_;change wpList _ _ _ _ _ (World.drew W0.drew);go_wp2_with fail;refine(Zg.out _).mono ?_;rintro e w3 ⟨rfl,rfl⟩;go_wp2;refine leaves_cons (f:=175) (args:=#[.pointer (some ⟨w.heap.size,0,none⟩)]) (by simp) (by simp[go_sem]) ?_;refine(Jj _ w.heap.size g s (i,0) 4 [] ⟨H0.out.1.drew.drew,H0.out.2⟩ hx0).mono ?_;rintro e u w3 ⟨rfl,rfl,rfl⟩;simp[Leaves,settle,results,Tryz.results139,go_sem];exact⟨rfl,⟨Has.aQ H0.out.1 rfl,hi⟩,((aS.out.drew.drew.drew).put (.inl rfl))⟩
 ·have hr:fZ s (i,0)=(decide (y=1),(i+1,0)):=by unfold fZ;rw[if_neg (by simp),hbl];simp only[hy,hbig,if_false]
  rw[hr];have hf4:∀W,Calls Tryz.prog 94 #[.bool (decide ((1:Int)<y)),.int .i64 4] W fun e w'=>e=.returned (.tuple #[])/\W=w':=by rw[decide_eq_false (by omega)];exact zY 4
  have Zg:=ah hf4;clear hf4;obtain⟨b,hb⟩:∃b,decide (y=1)=b:=⟨_,rfl⟩;have hb2:((y:Int)==1)=b:=by
   rw[<-hb];by_cases h:y=1
   ·subst h;rfl
   ·rw[decide_eq_false h,beq_eq_false_iff_ne];omega
  rw[hb];clear hr hbl hbig hb;go_enter_defers Tryz.func139,Tryz.ntmps139;go_wp2_with fail;rw[HW0.out];refine(fU _ _ _ _ H0.out).mono ?_;rintro e w2 ⟨rfl,rfl⟩;go_wp2_with fail;refine wp_region_still_tail 10 (by kernel_rfl) (by kernel_rfl) ?_;simp only[List.take_succ_cons,List.take_zero,List.drop_succ_cons,List.drop_zero];change wpStill _ _ (World.drew W0) _ _ _;repeat still_step
  refine wpStill_nil ?_;change wpList _ _ _ _ _ (World.drew W0);go_wp2_with fail;refine(HF.out _).mono ?_;rintro e w3 ⟨rfl,rfl⟩;go_wp2_with fail;refine wp_region_still_tail 10 (by kernel_rfl) (by kernel_rfl) ?_;simp only[List.take_succ_cons,List.take_zero,List.drop_succ_cons,List.drop_zero];change wpStill _ _ (World.drew W0.drew) _ _ _;repeat still_step
  refine wpStill_nil ?_;change wpList _ _ _ _ _ (World.drew W0.drew);go_wp2_with fail;refine(Zg.out _).mono ?_;rintro e w3 ⟨rfl,rfl⟩;go_wp2_with fail;go_quiet (fail);go_wp2;refine leaves_cons (f:=175) (args:=#[.pointer (some ⟨w.heap.size,0,none⟩)]) (by simp) (by simp[go_sem]) ?_;refine(Vb _ w.heap.size g ?_).mono ?_
  ·exact(HX0.out.past (by omega)).cell 0
  rintro e u w3 ⟨rfl,rfl,rfl⟩;simp[Leaves,settle,results,Tryz.results139,go_sem];exact⟨rfl,⟨Has.aQ H0.out.1 rfl,by omega⟩,(((aS.out.drewN _).put (.inl rfl)).drew)⟩
theorem Aa(w:World)(g:Nat)(s:ByteArray)(r:RS)(h:iH w g s r)(hs:s.size<=maxLen):
  Calls Tryz.prog 102 #[.pointer (some ⟨g,0,none⟩)] w (zx w g s (.int .u64 (bD s r).1) (bD s r).2):=by
 have hmf:∀(fn:Fn) (first cap:Array Value) (w:World),(Instr.makeFunc fn first cap).run Tryz.prog w=.ok (.func fn first cap) w:=fun _ _ _ _=>rfl;have hgl:=h.1.lt;have H0:=ah (h.alloc (.cells #[.pointer (some ⟨g,0,none⟩)] 118));have aS:=ah ((Kept.refl (fun k=>k=g) w).alloc (.cells #[.pointer (some ⟨g,0,none⟩)] 118));have HX0:=ah (Has.new w 118 #[.pointer (some ⟨g,0,none⟩)]);obtain⟨i,e0⟩:=r;by_cases he:e0=0;rotate_left
 ·have hr:=CB (s:=s) (q:=(i,e0)) he;rw[hr];have he2:(e0 !=0)=true:=by simpa using he
  clear he hr hs h;go_enter_defers Tryz.func102,Tryz.ntmps102;go_wp2_with fail;refine(fU _ _ _ _ H0.out).mono ?_;rintro e w2 ⟨rfl,rfl⟩;go_wp2;exact⟨_,results_tmp rfl _ _ _,rfl,H0.out,aS.out⟩
 subst he;have hx0:=HX0.out.cell 0;simp only[lF0,List.getElem?_cons_zero]at hx0;cases hg:get (bl s) i with
 |error c=>
  have hr:bD s (i,0)=(0,(i,(c:Int))):=by unfold bD;simp[hg]
  rw[hr];have hb:=fun W (hW:iH W g s (i,0))=>KU W g s i c hW hs hg;have HB:=ah hb;clear hb hr hs h hg;go_enter_defers Tryz.func102,Tryz.ntmps102;go_wp2_with fail;refine(fU _ _ _ _ H0.out).mono ?_;rintro e w2 ⟨rfl,rfl⟩;go_wp2_with fail;refine(HB.out _ H0.out).mono ?_;rintro e w2 ⟨rfl,hr,hk⟩;have HR:=ah (And.intro hr hk);clear hr hk;go_wp2;refine leaves_cons (f:=142) (args:=#[.pointer (some ⟨w.heap.size,0,none⟩)]) (by simp) (by simp[go_sem]) ?_;refine(U9 _ w.heap.size g s (i,0) c [] HR.out.1 ((HX0.out.kept HR.out.2 (fun x=>x)).cell 0)).mono ?_;rintro e u w3 ⟨rfl,rfl,rfl⟩;simp[Leaves,settle,results,Tryz.results102,go_sem];exact⟨rfl,⟨Has.aQ HR.out.1.1.drew rfl,HR.out.1.2⟩,((aS.out.then (HR.out.2.mono fun _ x=>x.elim)).drew).put (.inl rfl)⟩
 |ok q=>
  obtain⟨n,j⟩:=q;obtain⟨p1,p2,p3,p4⟩:=BD hg;rw[iw]at p2;have hb:=fun W (hW:iH W g s (i,0))=>KT W g s i n j hW hs hg p2;have HB:=ah hb;clear hb;have hr:bD s (i,0)=(n,(j,0)):=by unfold bD;simp[hg]
  rw[hr];clear hr hs h hg p1 p2 p3 p4;go_enter_defers Tryz.func102,Tryz.ntmps102;go_wp2_with fail;refine(fU _ _ _ _ H0.out).mono ?_;rintro e w2 ⟨rfl,rfl⟩;go_wp2_with fail;refine(HB.out _ H0.out).mono ?_;rintro e w2 ⟨rfl,hr,hk⟩;have HR:=ah (And.intro hr hk);clear hr hk;have hx2:=(HX0.out.kept HR.out.2 (by omega)).cell 0;simp only[lF0,List.getElem?_cons_zero]at hx2;go_wp2;refine leaves_cons (f:=142) (args:=#[.pointer (some ⟨w.heap.size,0,none⟩)]) (by simp) (by simp[go_sem]) ?_;refine(XP _ w.heap.size g hx2).mono ?_;rintro e u w3 ⟨rfl,rfl,rfl⟩;simp[Leaves,settle,results,Tryz.results102,go_sem];exact⟨rfl,⟨HR.out.1.1.drew,HR.out.1.2⟩,(aS.out.then HR.out.2).drew⟩
theorem Ve(w:World)(g:Nat)(s:ByteArray)(i:Nat)(h:iH w g s (i,0))(hs:s.size<=maxLen):
  Calls Tryz.prog 105 #[.pointer (some ⟨g,0,none⟩)] w fun e w'=>e=.returned (.int .i64 ((s.size:Int)-i))/\Kept aj w w':=by
 have hi:i<=s.size:=h.2;have c0:=h.1.cell 0;have c1:=h.1.cell 1;simp only[lF0,List.getElem?_cons_zero,List.getElem?_cons_succ]at c0 c1;have he:=fU w g s (i,0) h;have HE:=ah he;clear he h;unfold maxLen at hs;go_enter Tryz.func105,Tryz.ntmps105;go_wp2_with fail;refine HE.out.mono ?_;rintro e w2 ⟨rfl,rfl⟩;go_wp2_with fail;go_quiet (fail);go_wp2;go_ret;exact⟨rfl,(Kept.refl _ _).drewN _⟩
theorem qO(w:World)(g:Nat)(s:ByteArray)(r:RS)(h:iH w g s r)(hs:s.size<=maxLen):
  Calls Tryz.prog 62 #[.pointer (some ⟨g,0,none⟩)] w fun e w'=>e=.returned (.int .i64 (iJ s r))/\Kept aj w w':=by
 obtain⟨i,e0⟩:=r;have he:=fU w g s (i,e0) h;have HE:=ah he;clear he;unfold iJ;dsimp only;by_cases h0:e0=0;rotate_left
 ·rw[if_pos h0];have h2:(e0 !=0)=true:=by simpa using h0
  clear h h0;go_enter Tryz.func62,Tryz.ntmps62;go_wp2_with fail;refine HE.out.mono ?_;rintro e w2 ⟨rfl,rfl⟩;go_wp2;go_ret;exact⟨rfl,Kept.refl _ _⟩
 subst h0;rw[if_neg (by simp)];have hl:=Ve w g s i h hs;have HL:=ah hl;clear hl;have hi:i<=s.size:=h.2;clear h;by_cases hlt:i<s.size
 ·rw[if_pos hlt];have hp:(0:Int)<(s.size:Int)-i:=by omega
  go_enter Tryz.func62,Tryz.ntmps62;go_wp2_with fail;refine HE.out.mono ?_;rintro e w2 ⟨rfl,rfl⟩;go_wp2_with fail;refine HL.out.mono ?_;rintro e w2 ⟨rfl,hk⟩;have HK:=ah hk;clear hk;go_wp2;go_ret;exact⟨rfl,HK.out⟩
 ·rw[if_neg hlt];have hp:¬(0:Int)<(s.size:Int)-i:=by omega
  go_enter Tryz.func62,Tryz.ntmps62;go_wp2_with fail;refine HE.out.mono ?_;rintro e w2 ⟨rfl,rfl⟩;go_wp2_with fail;refine HL.out.mono ?_;rintro e w2 ⟨rfl,hk⟩;have HK:=ah hk;clear hk;go_wp2;go_ret;exact⟨rfl,HK.out⟩
theorem open_any(w:World)(s:ByteArray):Calls Tryz.prog 56 #[.string s] w fun e w'=>e=.returned (.pointer (some ⟨w.heap.size,0,none⟩))/\iH w' w.heap.size s (0,0)/\Kept aj w w':=by go_enter Tryz.func56,Tryz.ntmps56;go_wp2;go_ret;exact⟨rfl,⟨Has.new _ _ _,Nat.zero_le _⟩,(Kept.refl _ _).alloc _⟩
