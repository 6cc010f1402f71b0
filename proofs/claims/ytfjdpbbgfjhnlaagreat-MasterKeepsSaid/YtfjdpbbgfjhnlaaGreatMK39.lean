/- Part 40 of what the proof needs. -/
import Derived.Test.YtfjdpbbgfjhnlaaGreatMK38
set_option linter.unusedSimpArgs false
set_option linter.unusedVariables false
set_option maxHeartbeats 32000000
set_option maxRecDepth 100000
namespace Go.Proofs.YtfjdpbbgfjhnlaaGreat
open Go.RowKit
set_option maxRecDepth 100000
namespace mP
open Vn Ops
def kS(w:World)(g:Nat)(s:ByteArray)(r:RS):Prop:=Has w g 208 #[.string s,.int .i64 r.1,.int .i64 r.2,.bool true]/\r.1<=s.size
abbrev thrown(c:Int):Ending:=.panicked [{v:=.iface 32 (.int .i64 c),recovered:=false}]
theorem afF(w:World):Calls Tryz.prog 219 #[.int .i64 0] w fun e w'=>e=.returned (.tuple #[])/\w=w':=by
 go_enter Tryz.func219,Tryz.ntmps219
 go_wp2
 go_end0
 exact⟨rfl,rfl⟩
theorem ZJ(c:Int)(hc:c≠0)(w:World):Calls Tryz.prog 219 #[.int .i64 c] w fun e w'=>e=thrown c/\w=w':=by
 have h:(c !=0)=true:=by simpa using hc
 go_enter Tryz.func219,Tryz.ntmps219
 go_wp2
 exact⟨rfl,rfl,rfl⟩
theorem Hr(c:Int)(w:World):Calls Tryz.prog 140 #[.bool false,.int .i64 c] w fun e w'=>e=.returned (.tuple #[])/\w=w':=by
 go_enter Tryz.func140,Tryz.ntmps140
 go_wp2
 go_end0
 exact⟨rfl,rfl⟩
theorem Ht(c:Int)(hc:c≠0)(w:World):Calls Tryz.prog 140 #[.bool true,.int .i64 c] w fun e w'=>e=thrown c/\w=w':=by
 have h:=ZJ c hc
 have H:=ah h;clear h
 go_enter Tryz.func140,Tryz.ntmps140
 go_wp2_with fail
 refine(H.out _).mono ?_
 rintro e w2 ⟨rfl,rfl⟩
 go_wp2
 exact⟨rfl,rfl,rfl⟩
theorem dR{v0 v1 v2:Value}(w:World)(g:Nat)(c3:w.cell? ⟨g,3,none⟩=some (.bool true)):
  Calls Tryz.prog 141 #[.pointer (some ⟨g,0,none⟩)] w fun e w'=>e=.returned (.bool false)/\w=w':=by
 go_enter Tryz.func141,Tryz.ntmps141
 go_wp2
 go_ret
 exact⟨rfl,rfl⟩
theorem iJ(w:World)(g:Nat)(s:ByteArray)(r:RS)(h:kS w g s r):Calls Tryz.prog 83 #[.pointer (some ⟨g,0,none⟩)] w fun e w'=>e=.returned (.int .i64 r.2)/\w=w':=by
 have c2:=h.1.cell 2
 have c3:=h.1.cell 3
 simp only[List.getElem?_toArray,List.getElem?_cons_zero,List.getElem?_cons_succ]at c2 c3
 clear h
 go_enter Tryz.func83,Tryz.ntmps83
 go_wp2
 go_ret
 exact⟨rfl,rfl⟩
theorem adW(c:Int)(W:World):(Instr.typeAssert (.iface 32 (.int .i64 c)) 20 32 true).run Tryz.prog W=.ok (.tuple #[.int .i64 c,.bool true]) W:=by kernel_rfl
theorem JX(W:World):(Instr.typeAssert .nilIface 20 32 true).run Tryz.prog W=.ok (.tuple #[.int .i64 0,.bool false]) W:=by kernel_rfl
theorem Dc(w:World)(g:Nat)(s:ByteArray)(r:RS)(c:Int)(h:kS w g s r):Calls Tryz.prog 138 #[.pointer (some ⟨g,0,none⟩),.iface 32 (.int .i64 c)] w fun e w'=>e=.returned (.tuple #[])/\w'=w.setCell ⟨g,2,none⟩ (.int .i64 c):=by
 have c2:=h.1.cell 2
 have f2:=h.1.frozen 2
 simp only[List.getElem?_toArray,List.getElem?_cons_zero,List.getElem?_cons_succ]at c2
 clear h
 have hta:=adW c
 go_enter Tryz.func138,Tryz.ntmps138
 go_wp2
 go_end0
 exact⟨rfl,rfl⟩
theorem Df(w:World)(g:Nat):Calls Tryz.prog 138 #[.pointer (some ⟨g,0,none⟩),.nilIface] w fun e w'=>e=.returned (.tuple #[])/\w'=w:=by
 have hta:=JX
 go_enter Tryz.func138,Tryz.ntmps138
 go_wp2
 go_end0
 exact⟨rfl,rfl⟩
end mP
theorem Jv{P:Program}{Q:Exit->Act->List Frame->World->Prop}{a:Act}{cs:List Frame}{w:World}{id:Nat}{ops:Array Oper}
  (h:∀t,wpOpsS P ops Q (Region.schedule (P.follows .mixedOrders) ops t) a cs {w with drawn:=w.drawn+1}):(Code.region id ops true).wpS P Q a cs w:=
 fun b k hb hr=>let ⟨e,a',cs',w',q,r⟩:=wp_opsS _ a cs _ (h _) b k hb hr;⟨e,a',cs',w',q,.of_steps (.one step_region_draw) r⟩
def lin(md:Region.Mode)(ops:Array Oper):Nat->Nat->Array Bool->List Nat
 |0,_,_=>[]
 |n+1,t,l=>
  match(Region.ready md ops l)[t% (Region.ready md ops l).length]? with
  |some i=>i::lin md ops n (t/(Region.ready md ops l).length) (l.setIfInBounds i true)
  |none=>[]
theorem afG(md:Region.Mode)(ops:Array Oper):∀(fuel t:Nat) (l:Array Bool),Region.linearise.go md ops fuel t l []=lin md ops fuel t l:=by
 intro fuel
 induction fuel with
 |zero=>intro t l;simp[Region.linearise.go,lin]
 |succ fuel ih=>
  intro t l
  simp only[Region.linearise.go]
  change (match(Region.ready md ops l)[t% (Region.ready md ops l).length]? with
   |some i=>Region.linearise.go md ops fuel (t/(Region.ready md ops l).length) (l.setIfInBounds i true) [i]
   |none=>[].reverse)=_
  unfold lin
  cases(Region.ready md ops l)[t% (Region.ready md ops l).length]? with
  |none=>rfl
  |some i=>simp only;rw[linearise_go_acc,ih];rfl
theorem afH{m:Bool}{ops:Array Oper}(hm:m=true)(hs:ops.size=3)(r0:Region.ready .any ops #[false,false,false]=[0,1])(r1:Region.ready .any ops #[true,false,false]=[1])(r2:Region.ready .any ops #[false,true,false]=[0])
  (r3:Region.ready .any ops #[true,true,false]=[2]) (t:Nat):Region.schedule m ops t=[0,1,2]\/Region.schedule m ops t=[1,0,2]:=by
 have e:Region.schedule m ops t=lin .any ops 3 t #[false,false,false]:=by
  subst hm
  simp only[Region.schedule,Bool.true_or,if_true,Region.linearise]
  rw[hs]
  exact afG _ _ _ _ _
 rw[e]
 unfold lin
 rw[r0]
 rcases(show t%2=0\/t%2=1 by omega)with h|h
 ·left
  have h':t% [0,1].length=0:=h
  rw[h']
  simp only[List.getElem?_cons_zero]
  have e1:(#[false,false,false]:Array Bool).setIfInBounds 0 true=#[true,false,false]:=rfl
  rw[e1]
  unfold lin
  rw[r1]
  have h1:∀x,x% [1].length=0:=fun x=>by simp[Nat.mod_one]
  rw[h1]
  simp only[List.getElem?_cons_zero]
  have e2:(#[true,false,false]:Array Bool).setIfInBounds 1 true=#[true,true,false]:=rfl
  rw[e2]
  unfold lin
  rw[r3]
  have h2:∀x,x% [2].length=0:=fun x=>by simp[Nat.mod_one]
  rw[h2]
  rfl
 ·right
  have h':t% [0,1].length=1:=h
  rw[h']
  simp only[List.getElem?_cons_succ,List.getElem?_cons_zero]
  have e1:(#[false,false,false]:Array Bool).setIfInBounds 1 true=#[false,true,false]:=rfl
  rw[e1]
  unfold lin
  rw[r2]
  have h1:∀x,x% [0].length=0:=fun x=>by simp[Nat.mod_one]
  rw[h1]
  simp only[List.getElem?_cons_zero]
  have e2:(#[false,true,false]:Array Bool).setIfInBounds 0 true=#[true,true,false]:=rfl
  rw[e2]
  unfold lin
  rw[r3]
  have h2:∀x,x% [2].length=0:=fun x=>by simp[Nat.mod_one]
  rw[h2]
  rfl
theorem lC{P:Program}{Q:Exit->Act->List Frame->World->Prop}{a:Act}{cs:List Frame}{w:World}{id:Nat}{ops:Array Oper}
  (hm:P.follows .mixedOrders=true) (hs:ops.size=3) (r0:Region.ready .any ops #[false,false,false]=[0,1]) (r1:Region.ready .any ops #[true,false,false]=[1]) (r2:Region.ready .any ops #[false,true,false]=[0])
  (r3:Region.ready .any ops #[true,true,false]=[2]) (h1:wpOpsS P ops Q [0,1,2] a cs w.drew) (h2:wpOpsS P ops Q [1,0,2] a cs w.drew):(Code.region id ops true).wpS P Q a cs w:=by
 refine Jv fun t=> ?_
 rcases afH (t:=t) hm hs r0 r1 r2 r3 with e|e
 ·rw[e];exact h1
 ·rw[e];exact h2
namespace mP
open Vn Ops
def Caught(w:World)(g:Nat)(c:Int)(older:List PanicEntry)(e:Ending)(u:FrameMode)(w':World):Prop:=
 e=.returned (.tuple #[])/\u=.panicking ({v:=.iface 32 (.int .i64 c),recovered:=true}::older)/\w'=w.drew.setCell ⟨g,2,none⟩ (.int .i64 c)
def Idle(w:World)(e:Ending)(u:FrameMode)(w':World):Prop:=e=.returned (.tuple #[])/\u=.returning/\w'=w.drew
theorem ack(w:World)(B g:Nat)(s:ByteArray)(r:RS)(c:Int)(older:List PanicEntry)(h:kS w g s r)(hB:w.cell? ⟨B,0,none⟩=some (.pointer (some ⟨g,0,none⟩))):
  CallsD Tryz.prog 222 #[.pointer (some ⟨B,0,none⟩)] (.panicking ({v:=.iface 32 (.int .i64 c),recovered:=false}::older)) w (Caught w g c older):=by
 have hst:=Dc w.drew g s r c h
 have hB2:w.drew.cell? ⟨B,0,none⟩=some (.pointer (some ⟨g,0,none⟩)):=hB
 refine callsD_of_wpS Tryz.func222 rfl fun c₀ cs hu=> ?_
 refine lC (by kernel_rfl) (by rfl) (by kernel_rfl) (by kernel_rfl) (by kernel_rfl) (by kernel_rfl) ?_ ?_
 all_goals
  simp[wpOpsS,go_sem,recoverD,hu,Tryz.ntmps222,Exit.thenS,hB2]
  refine hst.mono ?_
  rintro e w' ⟨rfl,rfl⟩
  exact⟨rfl,_,rfl,_,results_none rfl _ _ _,rfl,rfl,rfl⟩
theorem adX(w:World)(B g:Nat)(hB:w.cell? ⟨B,0,none⟩=some (.pointer (some ⟨g,0,none⟩))):
  CallsD Tryz.prog 222 #[.pointer (some ⟨B,0,none⟩)] .returning w (Idle w):=by
 have hst:=Df w.drew g
 have hB2:w.drew.cell? ⟨B,0,none⟩=some (.pointer (some ⟨g,0,none⟩)):=hB
 refine callsD_of_wpS Tryz.func222 rfl fun c₀ cs hu=> ?_
 refine lC (by kernel_rfl) (by rfl) (by kernel_rfl) (by kernel_rfl) (by kernel_rfl) (by kernel_rfl) ?_ ?_
 all_goals
  simp[wpOpsS,go_sem,recoverD,hu,Tryz.ntmps222,Exit.thenS,hB2]
  refine hst.mono ?_
  rintro e w' ⟨rfl,rfl⟩
  refine⟨rfl,.returning,?_,_,results_none rfl _ _ _,rfl,rfl,rfl⟩
  cases c₀
  simp_all
theorem Qa(w:World)(B g:Nat)(s:ByteArray)(r:RS)(c:Int)(older:List PanicEntry)(h:kS w g s r)(hB:w.cell? ⟨B,0,none⟩=some (.pointer (some ⟨g,0,none⟩))):
  CallsD Tryz.prog 137 #[.pointer (some ⟨B,0,none⟩)] (.panicking ({v:=.iface 32 (.int .i64 c),recovered:=false}::older)) w (Caught w g c older):=by
 have hst:=Dc w.drew g s r c h
 have hB2:w.drew.cell? ⟨B,0,none⟩=some (.pointer (some ⟨g,0,none⟩)):=hB
 refine callsD_of_wpS Tryz.func137 rfl fun c₀ cs hu=> ?_
 refine lC (by kernel_rfl) (by rfl) (by kernel_rfl) (by kernel_rfl) (by kernel_rfl) (by kernel_rfl) ?_ ?_
 all_goals
  simp[wpOpsS,go_sem,recoverD,hu,Tryz.ntmps137,Exit.thenS,hB2]
  refine hst.mono ?_
  rintro e w' ⟨rfl,rfl⟩
  exact⟨rfl,_,rfl,_,results_none rfl _ _ _,rfl,rfl,rfl⟩
theorem adY(w:World)(B g:Nat)(hB:w.cell? ⟨B,0,none⟩=some (.pointer (some ⟨g,0,none⟩))):
  CallsD Tryz.prog 137 #[.pointer (some ⟨B,0,none⟩)] .returning w (Idle w):=by
 have hst:=Df w.drew g
 have hB2:w.drew.cell? ⟨B,0,none⟩=some (.pointer (some ⟨g,0,none⟩)):=hB
 refine callsD_of_wpS Tryz.func137 rfl fun c₀ cs hu=> ?_
 refine lC (by kernel_rfl) (by rfl) (by kernel_rfl) (by kernel_rfl) (by kernel_rfl) (by kernel_rfl) ?_ ?_
 all_goals
  simp[wpOpsS,go_sem,recoverD,hu,Tryz.ntmps137,Exit.thenS,hB2]
  refine hst.mono ?_
  rintro e w' ⟨rfl,rfl⟩
  refine⟨rfl,.returning,?_,_,results_none rfl _ _ _,rfl,rfl,rfl⟩
  cases c₀
  simp_all
theorem EZ(w:World)(B g:Nat)(s:ByteArray)(r:RS)(c:Int)(older:List PanicEntry)(h:kS w g s r)(hB:w.cell? ⟨B,0,none⟩=some (.pointer (some ⟨g,0,none⟩))):
  CallsD Tryz.prog 253 #[.pointer (some ⟨B,0,none⟩)] (.panicking ({v:=.iface 32 (.int .i64 c),recovered:=false}::older)) w (Caught w g c older):=by
 have hst:=Dc w.drew g s r c h
 have hB2:w.drew.cell? ⟨B,0,none⟩=some (.pointer (some ⟨g,0,none⟩)):=hB
 refine callsD_of_wpS Tryz.func253 rfl fun c₀ cs hu=> ?_
 refine lC (by kernel_rfl) (by rfl) (by kernel_rfl) (by kernel_rfl) (by kernel_rfl) (by kernel_rfl) ?_ ?_
 all_goals
  simp[wpOpsS,go_sem,recoverD,hu,Tryz.ntmps253,Exit.thenS,hB2]
  refine hst.mono ?_
  rintro e w' ⟨rfl,rfl⟩
  exact⟨rfl,_,rfl,_,results_none rfl _ _ _,rfl,rfl,rfl⟩
theorem acm(w:World)(B g:Nat)(hB:w.cell? ⟨B,0,none⟩=some (.pointer (some ⟨g,0,none⟩))):
  CallsD Tryz.prog 253 #[.pointer (some ⟨B,0,none⟩)] .returning w (Idle w):=by
 have hst:=Df w.drew g
 have hB2:w.drew.cell? ⟨B,0,none⟩=some (.pointer (some ⟨g,0,none⟩)):=hB
 refine callsD_of_wpS Tryz.func253 rfl fun c₀ cs hu=> ?_
 refine lC (by kernel_rfl) (by rfl) (by kernel_rfl) (by kernel_rfl) (by kernel_rfl) (by kernel_rfl) ?_ ?_
 all_goals
  simp[wpOpsS,go_sem,recoverD,hu,Tryz.ntmps253,Exit.thenS,hB2]
  refine hst.mono ?_
  rintro e w' ⟨rfl,rfl⟩
  refine⟨rfl,.returning,?_,_,results_none rfl _ _ _,rfl,rfl,rfl⟩
  cases c₀
  simp_all
end mP
namespace mP
open Vn Ops
theorem Ko{l:List UInt8}{i c:Nat}(h:get l i=.error c):c=2\/c=4:=by
 unfold Vn.get at h
 split at h
 ·injection h with h;exact .inl h.symm
 ·split at h
  ·cases h
  ·dsimp only at h
   split at h
   ·injection h with h;exact .inl h.symm
   ·split at h
    ·injection h with h;exact .inr h.symm
    ·cases h
theorem kS.kept{F:Nat->Prop}{w w':World}{g:Nat}{s:ByteArray}{r:RS}(h:kS w g s r)(hk:Kept F w w')(hf:¬F g):kS w' g s r:=⟨h.1.kept hk hf,h.2⟩
theorem kS.alloc{w:World}{g:Nat}{s:ByteArray}{r:RS}(h:kS w g s r)(o:Obj):kS (w.alloc o) g s r:=⟨h.1.alloc o,h.2⟩
def Jw(w:World)(g:Nat)(s:ByteArray)(v:Value)(r:RS)(e:Ending)(w':World):Prop:=e=.returned v/\kS w' g s r/\Kept (fun k=>k=g) w w'
theorem Qb(w:World)(g:Nat)(s:ByteArray)(i n j:Nat)(h:kS w g s (i,0))(hs:s.size<=maxLen)(hg:get (bl s) i=.ok (n,j))(hj:j<=s.size):
  Calls Tryz.prog 139 #[.pointer (some ⟨g,0,none⟩)] w (Jw w g s (.int .u64 n) (j,0)):=by
 have hv:=BZ s i h.2 hs
 rw[hg]at hv
 simp only[GI]at hv
 have HV:=ah hv;clear hv
 have c0:=h.1.cell 0
 have c1:=h.1.cell 1
 have f1:=h.1.frozen 1
 simp only[List.getElem?_toArray,List.getElem?_cons_zero,List.getElem?_cons_succ]at c0 c1
 have H:=ah h;clear h
 have hb:=afF
 have HB:=ah hb;clear hb hg
 go_enter Tryz.func139,Tryz.ntmps139
 go_wp2_with fail
 go_quiet ((go_at_call 212;exact Calls.quiet_of_same ((HV.out _).mono fun e w' h=>⟨h.1,h.2.symm⟩)))
 go_wp2_with fail
 refine(HB.out _).mono ?_
 rintro e w2 ⟨rfl,rfl⟩
 go_wp2
 go_ret
 exact⟨rfl,⟨Has.dB (H.out.1.drewN _) rfl,hj⟩,((Kept.refl _ _).drewN _).put (.inl rfl)⟩
theorem Qc(w:World)(g:Nat)(s:ByteArray)(i c:Nat)(h:kS w g s (i,0))(hs:s.size<=maxLen)(hg:get (bl s) i=.error c):
  Calls Tryz.prog 139 #[.pointer (some ⟨g,0,none⟩)] w fun e w'=>e=thrown c/\kS w' g s (i,0)/\Kept aj w w':=by
 have hc:=Ko hg
 have hv:=BZ s i h.2 hs
 rw[hg]at hv
 simp only[GI]at hv
 have HV:=ah hv;clear hv
 have c0:=h.1.cell 0
 have c1:=h.1.cell 1
 simp only[List.getElem?_toArray,List.getElem?_cons_zero,List.getElem?_cons_succ]at c0 c1
 have H:=ah h;clear h
 have hb:=ZJ c (by omega)
 have HB:=ah hb;clear hb hg
 go_enter Tryz.func139,Tryz.ntmps139
 go_wp2_with fail
 go_quiet ((go_at_call 212;exact Calls.quiet_of_same ((HV.out _).mono fun e w' h=>⟨h.1,h.2.symm⟩)))
 go_wp2_with fail
 refine(HB.out _).mono ?_
 rintro e w2 ⟨rfl,rfl⟩
 go_wp2
 exact⟨rfl,rfl,⟨H.out.1.drewN _,H.out.2⟩,(Kept.refl _ _).drewN _⟩
theorem Qd(n:Nat)(hn:n<=9223372036854775807)(W:World):(convert 23 3 (.int .u64 (n:Int))).run Tryz.prog W=.ok (.int .i64 n) W:=by
 have hw:IntKind.i64.wrap (n:Int)=n:=IntWalk.i64_in _ (by omega)
 simp[go_sem,hw]
theorem kN(w:World)(g:Nat)(s:ByteArray)(r:RS)(most:Nat)(h:kS w g s r)(hs:s.size<=maxLen)(hm:most<=9223372036854775807):
  Calls Tryz.prog 82 #[.pointer (some ⟨g,0,none⟩),.int .i64 most] w (Jw w g s (.int .i64 (kL s most r).1) (kL s most r).2):=by
 have hmf:∀(fn:Fn) (first cap:Array Value) (w:World),(Instr.makeFunc fn first cap).run Tryz.prog w=.ok (.func fn first cap) w:=fun _ _ _ _=>rfl
 have hgl:=h.1.lt
 have H0:=ah (h.alloc (.cells #[.pointer (some ⟨g,0,none⟩)] 134))
 have bf:=ah ((Kept.refl (fun k=>k=g) w).alloc (.cells #[.pointer (some ⟨g,0,none⟩)] 134))
 have HX0:=ah (Has.new w 134 #[.pointer (some ⟨g,0,none⟩)])
 obtain⟨i,e0⟩:=r
 by_cases he:e0=0
 rotate_left
 ·have hr:=acj (s:=s) (most:=most) (q:=(i,e0)) he
  rw[hr]
  have he2:(e0 !=0)=true:=by simpa using he
  clear he hr hm hs h
  go_enter_defers Tryz.func82,Tryz.ntmps82
  go_wp2_with fail
  refine(iJ _ _ _ _ H0.out).mono ?_
  rintro e w2 ⟨rfl,rfl⟩
  go_wp2
  exact⟨_,results_tmp rfl _ _ _,rfl,H0.out,bf.out⟩
 subst he
 have hx0:=HX0.out.cell 0
 simp only[List.getElem?_toArray,List.getElem?_cons_zero]at hx0
 cases hg:get (bl s) i with
 |error c=>
  have hr:kL s most (i,0)=(0,(i,(c:Int))):=by
   have:=Ko hg
   unfold kL iW
   simp[hg]
  rw[hr]
  have hb:=fun W (hW:kS W g s (i,0))=>Qc W g s i c hW hs hg
  have HB:=ah hb;clear hb hr hm hs h hg
  go_enter_defers Tryz.func82,Tryz.ntmps82
  go_wp2_with fail
  refine(iJ _ _ _ _ H0.out).mono ?_
  rintro e w2 ⟨rfl,rfl⟩
  go_wp2_with fail
  refine(HB.out _ H0.out).mono ?_
  rintro e w2 ⟨rfl,hr,hk⟩
  have HR:=ah (And.intro hr hk);clear hr hk
  go_wp2
  refine leaves_cons (f:=137) (args:=#[.pointer (some ⟨w.heap.size,0,none⟩)]) (by simp) (by simp[go_sem]) ?_
  refine(Qa _ w.heap.size g s (i,0) c [] HR.out.1 ((HX0.out.kept HR.out.2 (fun x=>x)).cell 0)).mono ?_
  rintro e u w3 ⟨rfl,rfl,rfl⟩
  simp[Leaves,settle,results,Tryz.results82,go_sem]
  exact⟨rfl,⟨Has.dB HR.out.1.1.drew rfl,HR.out.1.2⟩,((bf.out.then (HR.out.2.mono fun _ x=>x.elim)).drew).put (.inl rfl)⟩
 |ok q=>
  obtain⟨n,j⟩:=q
  obtain⟨p1,p2,p3,p4⟩:=xY hg
  rw[bJ]at p2
  have hcv:=Gv most (by omega)
  have hb:=fun W (hW:kS W g s (i,0))=>Qb W g s i n j hW hs hg p2
  have HB:=ah hb;clear hb
  by_cases hlt:most<n
  ·have hr:kL s most (i,0)=(0,(j,5)):=by
    unfold kL iW
    simp[hg,hlt]
   rw[hr]
   have hf:=Ht 5 (by decide)
   have HF:=ah hf
   clear hf hr hm hs h hg p1 p2 p3 p4
   go_enter_defers Tryz.func82,Tryz.ntmps82
   go_wp2_with fail
   refine(iJ _ _ _ _ H0.out).mono ?_
   rintro e w2 ⟨rfl,rfl⟩
   go_wp2_with fail
   refine(HB.out _ H0.out).mono ?_
   rintro e w2 ⟨rfl,hr,hk⟩
   have HR:=ah (And.intro hr hk);clear hr hk
   have hx2:=(HX0.out.kept HR.out.2 (by omega)).cell 0
   simp only[List.getElem?_toArray,List.getElem?_cons_zero]at hx2
   go_wp2_with fail
   refine(HF.out _).mono ?_
   rintro e w3 ⟨rfl,rfl⟩
   go_wp2
   refine leaves_cons (f:=137) (args:=#[.pointer (some ⟨w.heap.size,0,none⟩)]) (by simp) (by simp[go_sem]) ?_
   refine(Qa _ w.heap.size g s (j,0) 5 [] HR.out.1 hx2).mono ?_
   rintro e u w3 ⟨rfl,rfl,rfl⟩
   simp[Leaves,settle,results,Tryz.results82,go_sem]
   exact⟨rfl,⟨Has.dB HR.out.1.1.drew rfl,HR.out.1.2⟩,((bf.out.then HR.out.2).drew).put (.inl rfl)⟩
  ·have hr:kL s most (i,0)=(n,(j,0)):=by
    unfold kL iW
    simp[hg,hlt]
   rw[hr]
   have hcv2:=Qd n (by omega)
   have hf:=Hr 5
   have HF:=ah hf
   clear hf hr hm hs h hg p1 p2 p3 p4
   go_enter_defers Tryz.func82,Tryz.ntmps82
   go_wp2_with fail
   refine(iJ _ _ _ _ H0.out).mono ?_
   rintro e w2 ⟨rfl,rfl⟩
   go_wp2_with fail
   refine(HB.out _ H0.out).mono ?_
   rintro e w2 ⟨rfl,hr,hk⟩
   have HR:=ah (And.intro hr hk);clear hr hk
   have hx2:=(HX0.out.kept HR.out.2 (by omega)).cell 0
   simp only[List.getElem?_toArray,List.getElem?_cons_zero]at hx2
   go_wp2_with fail
   refine(HF.out _).mono ?_
   rintro e w3 ⟨rfl,rfl⟩
   go_wp2
   refine leaves_cons (f:=137) (args:=#[.pointer (some ⟨w.heap.size,0,none⟩)]) (by simp) (by simp[go_sem]) ?_
   refine(adY _ w.heap.size g hx2).mono ?_
   rintro e u w3 ⟨rfl,rfl,rfl⟩
   simp[Leaves,settle,results,Tryz.results82,go_sem]
   exact⟨rfl,⟨HR.out.1.1.drew,HR.out.1.2⟩,(bf.out.then HR.out.2).drew⟩
end mP
namespace mP
open Vn Ops
theorem acn(a b:Nat)(h:b<=a)(ha:a<=9223372036854775807)(W:World):(convert 3 23 (.int .i64 ((a:Int)-b))).run Tryz.prog W=.ok (.int .u64 ((a:Int)-b)) W:=by
 have e:(a:Int)-b=((a-b:Nat):Int):=by omega
 rw[e]
 exact Gv _ (by omega) W
theorem aco(w:World)(g:Nat)(s:ByteArray)(r:RS)(most:Nat)(h:kS w g s r)(hs:s.size<=maxLen)(hm:most<=9223372036854775807):
  Calls Tryz.prog 220 #[.pointer (some ⟨g,0,none⟩),.int .i64 most] w (Jw w g s (.string (oZ s most r).1) (oZ s most r).2):=by
 have hmf:∀(fn:Fn) (first cap:Array Value) (w:World),(Instr.makeFunc fn first cap).run Tryz.prog w=.ok (.func fn first cap) w:=fun _ _ _ _=>rfl
 have hgl:=h.1.lt
 have H0:=ah (h.alloc (.cells #[.pointer (some ⟨g,0,none⟩)] 134))
 have bf:=ah ((Kept.refl (fun k=>k=g) w).alloc (.cells #[.pointer (some ⟨g,0,none⟩)] 134))
 have HX0:=ah (Has.new w 134 #[.pointer (some ⟨g,0,none⟩)])
 obtain⟨i,e0⟩:=r
 by_cases he:e0=0
 rotate_left
 ·have hr:=ZI (s:=s) (most:=most) (q:=(i,e0)) he
  rw[hr]
  have he2:(e0 !=0)=true:=by simpa using he
  clear he hr hm hs h
  go_enter_defers Tryz.func220,Tryz.ntmps220
  go_wp2_with fail
  refine(iJ _ _ _ _ H0.out).mono ?_
  rintro e w2 ⟨rfl,rfl⟩
  go_wp2
  exact⟨_,results_tmp rfl _ _ _,rfl,H0.out,bf.out⟩
 subst he
 have hx0:=HX0.out.cell 0
 simp only[List.getElem?_toArray,List.getElem?_cons_zero]at hx0
 cases hg:get (bl s) i with
 |error c=>
  have hr:oZ s most (i,0)=(emp,(i,(c:Int))):=by
   have:=Ko hg
   have hc:¬c=0:=by omega
   unfold oZ iW
   simp[hg,hc]
  rw[hr]
  have hb:=fun W (hW:kS W g s (i,0))=>Qc W g s i c hW hs hg
  have HB:=ah hb;clear hb hr hm hs h hg
  go_enter_defers Tryz.func220,Tryz.ntmps220
  go_wp2_with fail
  refine(iJ _ _ _ _ H0.out).mono ?_
  rintro e w2 ⟨rfl,rfl⟩
  go_wp2_with fail
  refine(HB.out _ H0.out).mono ?_
  rintro e w2 ⟨rfl,hr,hk⟩
  have HR:=ah (And.intro hr hk);clear hr hk
  go_wp2
  refine leaves_cons (f:=253) (args:=#[.pointer (some ⟨w.heap.size,0,none⟩)]) (by simp) (by simp[go_sem]) ?_
  refine(EZ _ w.heap.size g s (i,0) c [] HR.out.1 ((HX0.out.kept HR.out.2 (fun x=>x)).cell 0)).mono ?_
  rintro e u w3 ⟨rfl,rfl,rfl⟩
  simp[Leaves,settle,results,Tryz.results220,go_sem]
  exact⟨rfl,⟨Has.dB HR.out.1.1.drew rfl,HR.out.1.2⟩,((bf.out.then (HR.out.2.mono fun _ x=>x.elim)).drew).put (.inl rfl)⟩
 |ok q=>
  obtain⟨n,j⟩:=q
  obtain⟨p1,p2,p3,p4⟩:=xY hg
  rw[bJ]at p2
  have hcv:=Gv most (by omega)
  have hb:=fun W (hW:kS W g s (i,0))=>Qb W g s i n j hW hs hg p2
  have HB:=ah hb;clear hb
  unfold maxLen at hs
  by_cases hlt:most<n
  ·have hr:oZ s most (i,0)=(emp,(j,3)):=by
    unfold oZ iW
    simp[hg,hlt]
   rw[hr]
   have hf:=Ht 3 (by decide)
   have HF:=ah hf
   clear hf hr hm hs h hg p1 p2 p3 p4
   go_enter_defers Tryz.func220,Tryz.ntmps220
   go_wp2_with fail
   refine(iJ _ _ _ _ H0.out).mono ?_
   rintro e w2 ⟨rfl,rfl⟩
   go_wp2_with fail
   refine(HB.out _ H0.out).mono ?_
   rintro e w2 ⟨rfl,hr,hk⟩
   have HR:=ah (And.intro hr hk);clear hr hk
   have hx2:=(HX0.out.kept HR.out.2 (by omega)).cell 0
   simp only[List.getElem?_toArray,List.getElem?_cons_zero]at hx2
   go_wp2_with fail
   refine(HF.out _).mono ?_
   rintro e w3 ⟨rfl,rfl⟩
   go_wp2
   refine leaves_cons (f:=253) (args:=#[.pointer (some ⟨w.heap.size,0,none⟩)]) (by simp) (by simp[go_sem]) ?_
   refine(EZ _ w.heap.size g s (j,0) 3 [] HR.out.1 hx2).mono ?_
   rintro e u w3 ⟨rfl,rfl,rfl⟩
   simp[Leaves,settle,results,Tryz.results220,go_sem]
   exact⟨rfl,⟨Has.dB HR.out.1.1.drew rfl,HR.out.1.2⟩,((bf.out.then HR.out.2).drew).put (.inl rfl)⟩
  have hf3:=Hr 3
  have HF3:=ah hf3;clear hf3
  have aif:=acn s.size j p2 hs
  by_cases hsh:s.size-j<n
  ·have hr:oZ s most (i,0)=(emp,(j,2)):=by
    unfold oZ iW
    simp[hg,hlt,hsh]
   rw[hr]
   have hsh2:decide ((s.size:Int)-j<n)=true:=decide_eq_true (by omega)
   have hf:∀W,Calls Tryz.prog 140 #[.bool (decide ((s.size:Int)-j<n)),.int .i64 2] W fun e w'=>e=thrown 2/\W=w':=by rw[hsh2];exact Ht 2 (by decide)
   have HF:=ah hf
   clear hsh2 hf hr hm h hg p1 p3 p4 hsh
   go_enter_defers Tryz.func220,Tryz.ntmps220
   go_wp2_with fail
   refine(iJ _ _ _ _ H0.out).mono ?_
   rintro e w2 ⟨rfl,rfl⟩
   go_wp2_with fail
   refine(HB.out _ H0.out).mono ?_
   rintro e w2 ⟨rfl,hr,hk⟩
   have HR:=ah (And.intro hr hk);clear hr hk
   have hx2:=(HX0.out.kept HR.out.2 (by omega)).cell 0
   have c0:=HR.out.1.1.cell 0
   have c1:=HR.out.1.1.cell 1
   simp only[List.getElem?_toArray,List.getElem?_cons_zero,List.getElem?_cons_succ]at hx2 c0 c1
   go_wp2_with fail
   refine(HF3.out _).mono ?_
   rintro e w3 ⟨rfl,rfl⟩
   go_wp2_with fail
   refine wp_region_still_tail 13 (by kernel_rfl) (by kernel_rfl) ?_
   simp only[List.take_succ_cons,List.take_zero,List.drop_succ_cons,List.drop_zero]
   change wpStill _ _ (World.drew w2) _ _ _
   repeat still_step
   refine wpStill_nil ?_
   change wpList _ _ _ _ _ (World.drew w2)
   go_wp2_with fail
   refine(HF.out _).mono ?_
   rintro e w3 ⟨rfl,rfl⟩
   go_wp2
   refine leaves_cons (f:=253) (args:=#[.pointer (some ⟨w.heap.size,0,none⟩)]) (by simp) (by simp[go_sem]) ?_
   refine(EZ _ w.heap.size g s (j,0) 2 [] ⟨HR.out.1.1.drew,HR.out.1.2⟩ hx2).mono ?_
   rintro e u w3 ⟨rfl,rfl,rfl⟩
   simp[Leaves,settle,results,Tryz.results220,go_sem]
   exact⟨rfl,⟨Has.dB HR.out.1.1.drew rfl,HR.out.1.2⟩,((bf.out.then HR.out.2).drew.drew).put (.inl rfl)⟩
  ·have hr:oZ s most (i,0)=(s.extract j (j+n),(j+n,0)):=by
    unfold oZ iW
    simp[hg,hlt,hsh]
   rw[hr]
   have hcv2:=Qd n (by omega)
   have hsh2:decide ((s.size:Int)-j<n)=false:=decide_eq_false (by omega)
   have hf:∀W,Calls Tryz.prog 140 #[.bool (decide ((s.size:Int)-j<n)),.int .i64 2] W fun e w'=>e=.returned (.tuple #[])/\W=w':=by rw[hsh2];exact Hr 2
   have HF:=ah hf
   clear hsh2
   have hto:(j:Int)+n<=s.size:=by omega
   have hw:IntKind.i64.wrap ((j:Int)+n)=(j:Int)+n:=IntWalk.i64_in _ (by omega)
   have htn:((j:Int)+n).toNat=j+n:=by omega
   have ht0:(0:Int)<=(j:Int)+n:=by omega
   have ht1:(j:Int)<=(j:Int)+n:=by omega
   clear hf hr hm h hg p1 p3 p4 hsh
   go_enter_defers Tryz.func220,Tryz.ntmps220
   go_wp2_with fail
   refine(iJ _ _ _ _ H0.out).mono ?_
   rintro e w2 ⟨rfl,rfl⟩
   go_wp2_with fail
   refine(HB.out _ H0.out).mono ?_
   rintro e w2 ⟨rfl,hr,hk⟩
   have HR:=ah (And.intro hr hk);clear hr hk
   have hx2:=(HX0.out.kept HR.out.2 (by omega)).cell 0
   have c0:=HR.out.1.1.cell 0
   have c1:=HR.out.1.1.cell 1
   have f1:=HR.out.1.1.frozen 1
   simp only[List.getElem?_toArray,List.getElem?_cons_zero,List.getElem?_cons_succ]at hx2 c0 c1
   go_wp2_with fail
   refine(HF3.out _).mono ?_
   rintro e w3 ⟨rfl,rfl⟩
   go_wp2_with fail
   refine wp_region_still_tail 13 (by kernel_rfl) (by kernel_rfl) ?_
   simp only[List.take_succ_cons,List.take_zero,List.drop_succ_cons,List.drop_zero]
   change wpStill _ _ (World.drew w2) _ _ _
   repeat still_step
   refine wpStill_nil ?_
   change wpList _ _ _ _ _ (World.drew w2)
   go_wp2_with fail
   refine(HF.out _).mono ?_
   rintro e w3 ⟨rfl,rfl⟩
   go_wp2_with fail
   refine wp_region_still_tail 15 (by kernel_rfl) (by kernel_rfl) ?_
   simp only[List.take_succ_cons,List.take_zero,List.drop_succ_cons,List.drop_zero]
   change wpStill _ _ (World.drew w2.drew) _ _ _
   repeat still_step
   refine wpStill_nil ?_
   change wpList _ _ _ _ _ (World.drew w2.drew)
   go_wp2
   refine leaves_cons (f:=253) (args:=#[.pointer (some ⟨w.heap.size,0,none⟩)]) (by simp) (by simp[go_sem]) ?_
   refine(acm _ w.heap.size g ?_).mono ?_
   ·exact(((HX0.out.kept HR.out.2 (by omega)).past (by omega)).cell 0)
   rintro e u w3 ⟨rfl,rfl,rfl⟩
   simp[Leaves,settle,results,Tryz.results220,go_sem]
   exact⟨rfl,⟨Has.dB HR.out.1.1 rfl,by omega⟩,((bf.out.then HR.out.2).put (.inl rfl)).drew.drew.drew⟩
end mP
namespace mP
open Vn Ops
theorem Hu(w:World)(g:Nat)(s:ByteArray)(r:RS)(h:kS w g s r)(hs:s.size<=maxLen):
  Calls Tryz.prog 146 #[.pointer (some ⟨g,0,none⟩)] w (Jw w g s (.int .u64 (iW s r).1) (iW s r).2):=by
 have hmf:∀(fn:Fn) (first cap:Array Value) (w:World),(Instr.makeFunc fn first cap).run Tryz.prog w=.ok (.func fn first cap) w:=fun _ _ _ _=>rfl
 have hgl:=h.1.lt
 have H0:=ah (h.alloc (.cells #[.pointer (some ⟨g,0,none⟩)] 134))
 have bf:=ah ((Kept.refl (fun k=>k=g) w).alloc (.cells #[.pointer (some ⟨g,0,none⟩)] 134))
 have HX0:=ah (Has.new w 134 #[.pointer (some ⟨g,0,none⟩)])
 obtain⟨i,e0⟩:=r
 by_cases he:e0=0
 rotate_left
 ·have hr:=Hq (s:=s) (q:=(i,e0)) he
  rw[hr]
  have he2:(e0 !=0)=true:=by simpa using he
  clear he hr hs h
  go_enter_defers Tryz.func146,Tryz.ntmps146
  go_wp2_with fail
  refine(iJ _ _ _ _ H0.out).mono ?_
  rintro e w2 ⟨rfl,rfl⟩
  go_wp2
  exact⟨_,results_tmp rfl _ _ _,rfl,H0.out,bf.out⟩
 subst he
 have hx0:=HX0.out.cell 0
 simp only[List.getElem?_toArray,List.getElem?_cons_zero]at hx0
 cases hg:get (bl s) i with
 |error c=>
  have hr:iW s (i,0)=(0,(i,(c:Int))):=by
   unfold iW
   simp[hg]
  rw[hr]
  have hb:=fun W (hW:kS W g s (i,0))=>Qc W g s i c hW hs hg
  have HB:=ah hb;clear hb hr hs h hg
  go_enter_defers Tryz.func146,Tryz.ntmps146
  go_wp2_with fail
  refine(iJ _ _ _ _ H0.out).mono ?_
  rintro e w2 ⟨rfl,rfl⟩
  go_wp2_with fail
  refine(HB.out _ H0.out).mono ?_
  rintro e w2 ⟨rfl,hr,hk⟩
  have HR:=ah (And.intro hr hk);clear hr hk
  go_wp2
  refine leaves_cons (f:=222) (args:=#[.pointer (some ⟨w.heap.size,0,none⟩)]) (by simp) (by simp[go_sem]) ?_
  refine(ack _ w.heap.size g s (i,0) c [] HR.out.1 ((HX0.out.kept HR.out.2 (fun x=>x)).cell 0)).mono ?_
  rintro e u w3 ⟨rfl,rfl,rfl⟩
  simp[Leaves,settle,results,Tryz.results146,go_sem]
  exact⟨rfl,⟨Has.dB HR.out.1.1.drew rfl,HR.out.1.2⟩,((bf.out.then (HR.out.2.mono fun _ x=>x.elim)).drew).put (.inl rfl)⟩
 |ok q=>
  obtain⟨n,j⟩:=q
  obtain⟨p1,p2,p3,p4⟩:=xY hg
  rw[bJ]at p2
  have hb:=fun W (hW:kS W g s (i,0))=>Qb W g s i n j hW hs hg p2
  have HB:=ah hb;clear hb
  have hr:iW s (i,0)=(n,(j,0)):=by
   unfold iW
   simp[hg]
  rw[hr]
  clear hr hs h hg p1 p2 p3 p4
  go_enter_defers Tryz.func146,Tryz.ntmps146
  go_wp2_with fail
  refine(iJ _ _ _ _ H0.out).mono ?_
  rintro e w2 ⟨rfl,rfl⟩
  go_wp2_with fail
  refine(HB.out _ H0.out).mono ?_
  rintro e w2 ⟨rfl,hr,hk⟩
  have HR:=ah (And.intro hr hk);clear hr hk
  have hx2:=(HX0.out.kept HR.out.2 (by omega)).cell 0
  simp only[List.getElem?_toArray,List.getElem?_cons_zero]at hx2
  go_wp2
  refine leaves_cons (f:=222) (args:=#[.pointer (some ⟨w.heap.size,0,none⟩)]) (by simp) (by simp[go_sem]) ?_
  refine(adX _ w.heap.size g hx2).mono ?_
  rintro e u w3 ⟨rfl,rfl,rfl⟩
  simp[Leaves,settle,results,Tryz.results146,go_sem]
  exact⟨rfl,⟨HR.out.1.1.drew,HR.out.1.2⟩,(bf.out.then HR.out.2).drew⟩
theorem acp(w:World)(g:Nat)(s:ByteArray)(i:Nat)(h:kS w g s (i,0))(hs:s.size<=maxLen):
  Calls Tryz.prog 147 #[.pointer (some ⟨g,0,none⟩)] w fun e w'=>e=.returned (.int .i64 ((s.size:Int)-i))/\Kept aj w w':=by
 have hi:i<=s.size:=h.2
 have c0:=h.1.cell 0
 have c1:=h.1.cell 1
 simp only[List.getElem?_toArray,List.getElem?_cons_zero,List.getElem?_cons_succ]at c0 c1
 have he:=iJ w g s (i,0) h
 have HE:=ah he;clear he h
 unfold maxLen at hs
 go_enter Tryz.func147,Tryz.ntmps147
 go_wp2_with fail
 refine HE.out.mono ?_
 rintro e w2 ⟨rfl,rfl⟩
 go_wp2_with fail
 go_quiet (fail)
 go_wp2
 go_ret
 exact⟨rfl,(Kept.refl _ _).drewN _⟩
theorem Bi(w:World)(g:Nat)(s:ByteArray)(r:RS)(h:kS w g s r)(hs:s.size<=maxLen):
  Calls Tryz.prog 85 #[.pointer (some ⟨g,0,none⟩)] w fun e w'=>e=.returned (.int .i64 (Ho s r))/\Kept aj w w':=by
 obtain⟨i,e0⟩:=r
 have he:=iJ w g s (i,e0) h
 have HE:=ah he;clear he
 unfold Ho
 dsimp only
 by_cases h0:e0=0
 rotate_left
 ·rw[if_pos h0]
  have h2:(e0 !=0)=true:=by simpa using h0
  clear h h0
  go_enter Tryz.func85,Tryz.ntmps85
  go_wp2_with fail
  refine HE.out.mono ?_
  rintro e w2 ⟨rfl,rfl⟩
  go_wp2
  go_ret
  exact⟨rfl,Kept.refl _ _⟩
 subst h0
 rw[if_neg (by simp)]
 have hl:=acp w g s i h hs
 have HL:=ah hl;clear hl
 have hi:i<=s.size:=h.2
 clear h
 by_cases hlt:i<s.size
 ·rw[if_pos hlt]
  have hp:(0:Int)<(s.size:Int)-i:=by omega
  go_enter Tryz.func85,Tryz.ntmps85
  go_wp2_with fail
  refine HE.out.mono ?_
  rintro e w2 ⟨rfl,rfl⟩
  go_wp2_with fail
  refine HL.out.mono ?_
  rintro e w2 ⟨rfl,hk⟩
  have HK:=ah hk;clear hk
  go_wp2
  go_ret
  exact⟨rfl,HK.out⟩
 ·rw[if_neg hlt]
  have hp:¬(0:Int)<(s.size:Int)-i:=by omega
  go_enter Tryz.func85,Tryz.ntmps85
  go_wp2_with fail
  refine HE.out.mono ?_
  rintro e w2 ⟨rfl,rfl⟩
  go_wp2_with fail
  refine HL.out.mono ?_
  rintro e w2 ⟨rfl,hk⟩
  have HK:=ah hk;clear hk
  go_wp2
  go_ret
  exact⟨rfl,HK.out⟩
theorem open_any(w:World)(s:ByteArray):Calls Tryz.prog 81 #[.string s] w fun e w'=>e=.returned (.pointer (some ⟨w.heap.size,0,none⟩))/\kS w' w.heap.size s (0,0)/\Kept aj w w':=by
 go_enter Tryz.func81,Tryz.ntmps81
 go_wp2
 go_ret
 exact⟨rfl,⟨Has.new _ _ _,Nat.zero_le _⟩,(Kept.refl _ _).alloc _⟩
end mP
end Go.Proofs.YtfjdpbbgfjhnlaaGreat
