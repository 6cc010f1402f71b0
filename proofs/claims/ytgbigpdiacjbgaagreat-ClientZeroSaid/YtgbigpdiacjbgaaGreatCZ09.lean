/- Part 10. -/
import Derived.Test.YtgbigpdiacjbgaaGreatCZ08
set_option linter.unusedSimpArgs false
set_option linter.unusedVariables false
set_option maxHeartbeats 32000000
set_option maxRecDepth 100000
namespace Go.Proofs.YtgbigpdiacjbgaaGreat
open Go.RowKit
namespace Ask
open aJ Ops dG bQ MO Vn
attribute [local go_sem↓] gI iE
structure fF(t:TS):Prop where
 n:I64 t.a.n
 ps:t.ps.length<=32/\(t.a.k=2->(t.ps.length:Int)<=t.a.n)
 wt:0<=t.waits/\t.waits<=1073741824
 ph:t.ph<=2
 n1:t.a.k=2->1<=t.a.n/\t.a.n<=32
 np:t.a.k≠2->t.ps=[]
theorem AZ{x:Int}(h:I64 x): -9223372036854775808<=x/\x<=9223372036854775807:=by unfold I64 at h;simpa [Lit.wf,IntKind.min,IntKind.max,IntKind.signed,IntKind.bits]using h
theorem fF.i64{t:TS}(h:fF t): -9223372036854775808<=t.a.n-t.ps.length/\t.a.n-t.ps.length<=9223372036854775807:=by
 have h1:=AZ h.n;by_cases hk:t.a.k=2
 ·have:=h.n1 hk;have:=h.ps;omega
 ·rw[h.np hk];simpa using h1
theorem zX(a b M:Int)(h:min a b=M)(W:World)(ts:Array TypeId)(t:TypeId):(Builtin.min_ ts t #[.int .i64 a,.int .i64 b]).run Tryz.prog W=.ok (.int .i64 M) W:=by
 rw[run_min_int2];split
 ·rw[show M=b by omega]
 ·rw[show M=a by omega]
theorem zY:Elem Tryz.prog 23 143 3 40:=by obtain⟨i0,hi,hz0,hz1,hz2⟩:=info_parts (show(Tryz.prog.info? 143).map (fun i=>(i.zero,i.size,i.bytes))=some (some (.agg #[.string ⟨#[]⟩,.string ⟨#[]⟩,.bool false]),3,40) by kernel_rfl);exact⟨Tryz.underlying23,⟨i0,_,hi,hz0,hz1,hz2,rfl⟩,by decide⟩
theorem zZ(l:List aS):∀u∈cells l,u.oneCell'=true:=by intro u hu;unfold cells at hu;rw[List.mem_flatMap]at hu;obtain⟨p,_,hp⟩:=hu;unfold cell at hp;simp at hp;rcases hp with rfl|rfl|rfl<;>rfl
def C6(w:World)(l:List aS)(e:Ending)(w':World):Prop:=
 ∃A c,e=.returned (.slice A l.length c)/\bG 143 3 w.heap.size w' A l.length c (cells l)/\Kept aj w w'
theorem rO(w:World)(A:Option Addr)(c:Nat)(l:List aS)(hl:Src w 3 A l.length (cells l))(hlen:l.length<=1000000):
  Calls Tryz.prog 208 #[.slice A l.length c] w (C6 w l):=by
 have hnil:∀W n' c',(binOp .eql 23 (.slice A l.length c) (.slice none n' c')).run Tryz.prog W=.ok (.bool A.isNone) W:=fun W n' c'=>Lib.run_eql_slice_nil W _ _ A _ _ _ _ Tryz.underlying23;cases A with
 |none=>
  have h0:l.length=0:=by
   rcases Nat.eq_zero_or_pos l.length with h|h
   ·exact h
   ·obtain⟨ad,h1,_⟩:=hl.2 h;cases h1
  obtain rfl:l=[]:=lE0 h0;clear h0 hl;simp only[Option.isNone_none,List.length_nil]at hnil⊢;go_enter Tryz.func208,Tryz.ntmps208;go_wp2;go_ret;exact⟨none,0,rfl,⟨⟨rfl,.inl ⟨rfl,rfl⟩⟩,fun k hk=>by cases hk⟩,Kept.refl _ _⟩
 |some ad=>
  simp only[Option.isNone_some]at hnil;have hm1:0+l.length<=maxLen:=by unfold maxLen;omega
  have hm2:(0+l.length)*40<=140737488355328:=by omega
  have nS:=ah hm1;clear hm1;have pK:=ah hm2;clear hm2;have HL:=ah hl;clear hl;go_enter Tryz.func208,Tryz.ntmps208;go_wp2_with (at_builtin;refine bM zY (.tmp 5) (.tmp 6) rfl rfl (Value.slice (some ⟨w.heap.size,0,none⟩) 0 0) rfl (uP (Has.new w 143 #[]) rfl) c rfl (HL.out.kept ((Kept.refl aj w).alloc _) (fun _ _ x=>x)) (zZ l) nS.out pK.out ?_;intro A1 c1 w1 ho1 hg1 ha1;simp only[Nat.zero_add,List.nil_append]at ho1 ha1;have hk1:Kept aj w w1:=((Kept.refl aj w).alloc _).grown hg1 (fun k hk=> .inr (oP hk (Nat.le_refl _)));have Ba:=ah (And.intro ho1 (And.intro ha1 hk1));clear ho1 hg1 ha1 hk1);go_ret;refine⟨A1,c1,by simp,⟨Ba.out.1,fun k hk=> ?_⟩,Ba.out.2.2⟩;rcases Ba.out.2.1 with e|e
  ·exact oP (e.symm.trans hk) (Nat.le_refl _)
  ·rw[hk]at e;injection e with e;simp at e;omega
section
variable{w w':World}{X:PX}{t:TS}{G:Nat->Prop}
theorem vG(h:fE w X t)(h1:t.ph=1)(hok:fF t):Calls Tryz.prog 211 #[.pointer (some ⟨X.g,0,none⟩)] w fun e w'=>e=.returned (.int .i64 (iD t))/\Kept aj w w':=by
 have hg:=h.g h1;obtain⟨gb,hgb⟩:∃gb,X.g=gb:=⟨_,rfl⟩;rw[hgb]at hg⊢;have q1:w.cell? ⟨gb,8,none⟩=some (.int .i64 t.a.n):=hg.cell 8;have q2:w.cell? ⟨gb,12,none⟩=some (.slice X.pA t.ps.length X.pc):=hg.cell 12;have hi:=hok.i64;obtain⟨d,hd⟩:∃d,t.a.n-(t.ps.length:Int)=d:=⟨_,rfl⟩;rw[hd]at hi;have hl:t.ps.length<=9223372036854775807:=by have:=hok.ps.1;omega
 have hwr:IntKind.i64.wrap (t.a.n-(t.ps.length:Int))=d:=by rw[hd];exact IntWalk.i64_in _ hi
 have hmn:=zX 2 d _ rfl;have hs:iD t=min 2 d:=by unfold iD;rw[hd]
 rw[hs];clear h hg hd hs hok;go_enter Tryz.func211,Tryz.ntmps211;go_wp2;go_quiet (fail);go_wp2;go_ret;exact⟨rfl,by(repeat'(first|(with_reducible first|exact ay|apply aA|apply aB|apply aC|apply aF)|(right;simp;done)))⟩
theorem nT{fn:Func}{p u:Tmp}{ty:TypeId}(h:fn.results=#[.cell p ty,.tmp u])(tmps:Array Value)(W:World)(g:Nat)(v:Value)(hp:tmps.getD p undef=.pointer (some ⟨g,0,none⟩))(hl:(loadVar ty ⟨g,0,none⟩).run Tryz.prog W=.ok v W):
  (results fn tmps).run Tryz.prog W=.ok (.tuple #[v,tmps.getD u undef]) W:=by
 have hp':tmps[p]?.getD undef=.pointer (some ⟨g,0,none⟩):=by simpa using hp
 simp[results,h,hp',asAddr,hl]
theorem aW{fn:Func}{p u:Tmp}{ty:TypeId}(h:fn.results=#[.tmp u,.cell p ty])(tmps:Array Value)(W:World)(g:Nat)(v:Value)(hp:tmps.getD p undef=.pointer (some ⟨g,0,none⟩))(hl:(loadVar ty ⟨g,0,none⟩).run Tryz.prog W=.ok v W):
  (results fn tmps).run Tryz.prog W=.ok (.tuple #[tmps.getD u undef,v]) W:=by
 have hp':tmps[p]?.getD undef=.pointer (some ⟨g,0,none⟩):=by simpa using hp
 simp[results,h,hp',asAddr,hl]
theorem xW{W:World}{g:Nat}{r:kF}{A:Option Addr}{c:Nat}(h:Has W g 36 (pZ r A c).toArray):(loadVar 36 ⟨g,0,none⟩).run Tryz.prog W=.ok (tN r A c) W:=
 run_loadVar_row W g _ _ _ (0,0) _ h Tryz.underlying36 rfl (by kernel_rfl)
theorem bG.above{e:TypeId}{size B n c:Nat}{W:World}{A:Option Addr}{xs:List Value}(h:bG e size B W A n c xs):∀ad,A=some ad->B<=ad.block:=by
 rintro ad rfl;obtain⟨⟨_,h1⟩,h2⟩:=h;rcases h1 with⟨h3,_⟩|⟨g,cap,cur,h3,_⟩
 ·cases h3
 ·injection h3 with h4;injection h4 with h4;subst h4;exact h2 g rfl
theorem eH{W:World}{rb:Nat}{cs:Array Value}(h:Has W rb 63 cs)(hs:cs.size=22)(x:aH):∃W',(kJ ⟨rb,0,none⟩ (.agg (au x).toArray)).run Tryz.prog W=.ok () W'/\Has W' rb 63 (au x).toArray/\Kept (fun k=>k=rb) W W':=
 ⟨_,run_storeVar_row W rb _ _ _ _ h (show(Tryz.prog.info? 63).map (·.size)=some 22 by kernel_rfl) (by rw[hs];rfl) (zn x),setRow_heap W rb _ _ _ _ h,rJ _ _ _⟩
def dZ(w:World)(t:TS)(ep hd:Int)(e:Ending)(w':World):Prop:=
 ∃A c,e=.returned (.tuple #[.int .i64 (aU t ep hd).1,bn {(aU t ep hd).2 with oA:=A,oc:=c}])/\Src w' 3 A (aU t ep hd).2.ops.length (cells (aU t ep hd).2.ops)/\(aU t ep hd).2.ops.length<=c/\(∀ad,A=some ad->w.heap.size<=ad.block)/\Kept aj w w'
