/- Part 7. -/
import Derived.Test.YtgbigpdiacjbgaaGreatKP05
set_option linter.unusedSimpArgs false
set_option linter.unusedVariables false
set_option maxHeartbeats 32000000
set_option maxRecDepth 100000
namespace Go.Proofs.YtgbigpdiacjbgaaGreat
open Go.RowKit
namespace Ask
open bg Ops fG eP MO Vn
attribute [local go_sem↓] bW cZ
structure mV(t:TS):Prop where
 n:I64 t.a.n
 ps:t.ps.length<=32/\(t.a.k=2->(t.ps.length:Int)<=t.a.n)
 wt:0<=t.waits/\t.waits<=1073741824
 ph:t.ph<=2
 n1:t.a.k=2->1<=t.a.n/\t.a.n<=32
 np:t.a.k≠2->t.ps=[]
theorem YK{x:Int}(h:I64 x): -9223372036854775808<=x/\x<=9223372036854775807:=by unfold I64 at h;simpa [Lit.wf,IntKind.min,IntKind.max,IntKind.signed,IntKind.bits]using h
theorem mV.i64{t:TS}(h:mV t): -9223372036854775808<=t.a.n-t.ps.length/\t.a.n-t.ps.length<=9223372036854775807:=by
 have h1:=YK h.n;by_cases hk:t.a.k=2
 ·have:=h.n1 hk;have:=h.ps;omega
 ·rw[h.np hk];simpa using h1
theorem rU(a b M:Int)(h:min a b=M)(W:World)(ts:Array TypeId)(t:TypeId):(Builtin.min_ ts t #[.int .i64 a,.int .i64 b]).run Tryz.prog W=.ok (.int .i64 M) W:=by
 rw[run_min_int2];split
 ·rw[show M=b by omega]
 ·rw[show M=a by omega]
theorem pW:Elem Tryz.prog 34 84 2 32:=by obtain⟨i0,hi,hz0,hz1,hz2⟩:=info_parts (show(Tryz.prog.info? 84).map (fun i=>(i.zero,i.size,i.bytes))=some (some (.agg #[.string ⟨#[]⟩,.string ⟨#[]⟩]),2,32) by kernel_rfl);exact⟨Tryz.underlying34,⟨i0,_,hi,hz0,hz1,hz2,rfl⟩,by decide⟩
theorem XE:Elem Tryz.prog 23 143 3 40:=by obtain⟨i0,hi,hz0,hz1,hz2⟩:=info_parts (show(Tryz.prog.info? 143).map (fun i=>(i.zero,i.size,i.bytes))=some (some (.agg #[.string ⟨#[]⟩,.string ⟨#[]⟩,.bool false]),3,40) by kernel_rfl);exact⟨Tryz.underlying23,⟨i0,_,hi,hz0,hz1,hz2,rfl⟩,by decide⟩
theorem uJ(l:List iC):∀u∈bI l,u.oneCell'=true:=by intro u hu;unfold bI at hu;rw[List.mem_flatMap]at hu;obtain⟨p,_,hp⟩:=hu;unfold Az at hp;simp at hp;rcases hp with rfl|rfl<;>rfl
theorem XF(l:List dU):∀u∈cells l,u.oneCell'=true:=by intro u hu;unfold cells at hu;rw[List.mem_flatMap]at hu;obtain⟨p,_,hp⟩:=hu;unfold cell at hp;simp at hp;rcases hp with rfl|rfl|rfl<;>rfl
def WN(w:World)(l:List iC)(e:Ending)(w':World):Prop:=
 ∃A c,e=.returned (.slice A l.length c)/\bV 84 2 w.heap.size w' A l.length c (bI l)/\Kept aj w w'
theorem Bi(w:World)(A:Option Addr)(c:Nat)(l:List iC)(hl:Src w 2 A l.length (bI l))(hlen:l.length<=1000000):
  Calls Tryz.prog 28 #[.slice A l.length c] w (WN w l):=by
 have hnil:∀W n' c',(binOp .eql 34 (.slice A l.length c) (.slice none n' c')).run Tryz.prog W=.ok (.bool A.isNone) W:=fun W n' c'=>Lib.run_eql_slice_nil W _ _ A _ _ _ _ Tryz.underlying34;cases A with
 |none=>
  have h0:l.length=0:=by
   rcases Nat.eq_zero_or_pos l.length with h|h
   ·exact h
   ·obtain⟨ad,h1,_⟩:=hl.2 h;cases h1
  obtain rfl:l=[]:=lE0 h0;clear h0 hl;simp only[Option.isNone_none,List.length_nil]at hnil⊢;go_enter Tryz.func28,Tryz.ntmps28;go_wp2;go_ret;exact⟨none,0,rfl,⟨⟨rfl,.inl ⟨rfl,rfl⟩⟩,fun k hk=>by cases hk⟩,Kept.refl _ _⟩
 |some ad=>
  simp only[Option.isNone_some]at hnil;have hm1:0+l.length<=maxLen:=by unfold maxLen;omega
  have hm2:(0+l.length)*32<=140737488355328:=by omega
  have kY:=ah hm1;clear hm1;have kR:=ah hm2;clear hm2;have HL:=ah hl;clear hl;go_enter Tryz.func28,Tryz.ntmps28;go_wp2_with (at_builtin;refine bH pW (.tmp 5) (.tmp 6) rfl rfl (Value.slice (some ⟨w.heap.size,0,none⟩) 0 0) rfl (pR (Has.new w 84 #[]) rfl) c rfl (HL.out.kept ((Kept.refl aj w).alloc _) (fun _ _ x=>x)) (uJ l) kY.out kR.out ?_;intro A1 c1 w1 ho1 hg1 ha1;simp only[Nat.zero_add,List.nil_append]at ho1 ha1;have hk1:Kept aj w w1:=((Kept.refl aj w).alloc _).grown hg1 (fun k hk=> .inr (oV hk (Nat.le_refl _)));have Kr:=ah (And.intro ho1 (And.intro ha1 hk1));clear ho1 hg1 ha1 hk1);go_ret;refine⟨A1,c1,by simp,⟨Kr.out.1,fun k hk=> ?_⟩,Kr.out.2.2⟩;rcases Kr.out.2.1 with e|e
  ·exact oV (e.symm.trans hk) (Nat.le_refl _)
  ·rw[hk]at e;injection e with e;simp at e;omega
def aaH(w:World)(l:List dU)(e:Ending)(w':World):Prop:=
 ∃A c,e=.returned (.slice A l.length c)/\bV 143 3 w.heap.size w' A l.length c (cells l)/\Kept aj w w'
theorem Nb(w:World)(A:Option Addr)(c:Nat)(l:List dU)(hl:Src w 3 A l.length (cells l))(hlen:l.length<=1000000):
  Calls Tryz.prog 208 #[.slice A l.length c] w (aaH w l):=by
 have hnil:∀W n' c',(binOp .eql 23 (.slice A l.length c) (.slice none n' c')).run Tryz.prog W=.ok (.bool A.isNone) W:=fun W n' c'=>Lib.run_eql_slice_nil W _ _ A _ _ _ _ Tryz.underlying23;cases A with
 |none=>
  have h0:l.length=0:=by
   rcases Nat.eq_zero_or_pos l.length with h|h
   ·exact h
   ·obtain⟨ad,h1,_⟩:=hl.2 h;cases h1
  obtain rfl:l=[]:=lE0 h0;clear h0 hl;simp only[Option.isNone_none,List.length_nil]at hnil⊢;go_enter Tryz.func208,Tryz.ntmps208;go_wp2;go_ret;exact⟨none,0,rfl,⟨⟨rfl,.inl ⟨rfl,rfl⟩⟩,fun k hk=>by cases hk⟩,Kept.refl _ _⟩
 |some ad=>
  simp only[Option.isNone_some]at hnil;have hm1:0+l.length<=maxLen:=by unfold maxLen;omega
  have hm2:(0+l.length)*40<=140737488355328:=by omega
  have kY:=ah hm1;clear hm1;have kR:=ah hm2;clear hm2;have HL:=ah hl;clear hl;go_enter Tryz.func208,Tryz.ntmps208;go_wp2_with (at_builtin;refine bH XE (.tmp 5) (.tmp 6) rfl rfl (Value.slice (some ⟨w.heap.size,0,none⟩) 0 0) rfl (pR (Has.new w 143 #[]) rfl) c rfl (HL.out.kept ((Kept.refl aj w).alloc _) (fun _ _ x=>x)) (XF l) kY.out kR.out ?_;intro A1 c1 w1 ho1 hg1 ha1;simp only[Nat.zero_add,List.nil_append]at ho1 ha1;have hk1:Kept aj w w1:=((Kept.refl aj w).alloc _).grown hg1 (fun k hk=> .inr (oV hk (Nat.le_refl _)));have Kr:=ah (And.intro ho1 (And.intro ha1 hk1));clear ho1 hg1 ha1 hk1);go_ret;refine⟨A1,c1,by simp,⟨Kr.out.1,fun k hk=> ?_⟩,Kr.out.2.2⟩;rcases Kr.out.2.1 with e|e
  ·exact oV (e.symm.trans hk) (Nat.le_refl _)
  ·rw[hk]at e;injection e with e;simp at e;omega
section
variable{w w':World}{X:PX}{t:TS}{G:Nat->Prop}
theorem IU(h:kN w X t)(h1:t.ph=1)(hok:mV t):Calls Tryz.prog 211 #[.pointer (some ⟨X.g,0,none⟩)] w fun e w'=>e=.returned (.int .i64 (mZ t))/\Kept aj w w':=by
 have hg:=h.g h1;obtain⟨gb,hgb⟩:∃gb,X.g=gb:=⟨_,rfl⟩;rw[hgb]at hg⊢;have q1:w.cell? ⟨gb,8,none⟩=some (.int .i64 t.a.n):=hg.cell 8;have q2:w.cell? ⟨gb,12,none⟩=some (.slice X.pA t.ps.length X.pc):=hg.cell 12;have hi:=hok.i64;obtain⟨d,hd⟩:∃d,t.a.n-(t.ps.length:Int)=d:=⟨_,rfl⟩;rw[hd]at hi;have hl:t.ps.length<=9223372036854775807:=by have:=hok.ps.1;omega
 have hwr:IntKind.i64.wrap (t.a.n-(t.ps.length:Int))=d:=by rw[hd];exact IntWalk.i64_in _ hi
 have hmn:=rU 2 d _ rfl;have hs:mZ t=min 2 d:=by unfold mZ;rw[hd]
 rw[hs];clear h hg hd hs hok;go_enter Tryz.func211,Tryz.ntmps211;go_wp2;go_quiet (fail);go_wp2;go_ret;exact⟨rfl,by(repeat'(first|(with_reducible first|exact ay|apply aA|apply aB|apply aC|apply aF)|(right;simp;done)))⟩
theorem aU{fn:Func}{p u:Tmp}{ty:TypeId}(h:fn.results=#[.cell p ty,.tmp u])(tmps:Array Value)(W:World)(g:Nat)(v:Value)(hp:tmps.getD p undef=.pointer (some ⟨g,0,none⟩))(hl:(loadVar ty ⟨g,0,none⟩).run Tryz.prog W=.ok v W):
  (results fn tmps).run Tryz.prog W=.ok (.tuple #[v,tmps.getD u undef]) W:=by
 have hp':tmps[p]?.getD undef=.pointer (some ⟨g,0,none⟩):=by simpa using hp
 simp[results,h,hp',asAddr,hl]
theorem dG{fn:Func}{p u:Tmp}{ty:TypeId}(h:fn.results=#[.tmp u,.cell p ty])(tmps:Array Value)(W:World)(g:Nat)(v:Value)(hp:tmps.getD p undef=.pointer (some ⟨g,0,none⟩))(hl:(loadVar ty ⟨g,0,none⟩).run Tryz.prog W=.ok v W):
  (results fn tmps).run Tryz.prog W=.ok (.tuple #[tmps.getD u undef,v]) W:=by
 have hp':tmps[p]?.getD undef=.pointer (some ⟨g,0,none⟩):=by simpa using hp
 simp[results,h,hp',asAddr,hl]
theorem xY{W:World}{g:Nat}{r:o8}{A:Option Addr}{c:Nat}(h:Has W g 36 (iO r A c).toArray):(loadVar 36 ⟨g,0,none⟩).run Tryz.prog W=.ok (nV r A c) W:=
 run_loadVar_row W g _ _ _ (0,0) _ h Tryz.underlying36 rfl (by kernel_rfl)
theorem bV.above{e:TypeId}{size B n c:Nat}{W:World}{A:Option Addr}{xs:List Value}(h:bV e size B W A n c xs):∀ad,A=some ad->B<=ad.block:=by
 rintro ad rfl;obtain⟨⟨_,h1⟩,h2⟩:=h;rcases h1 with⟨h3,_⟩|⟨g,cap,cur,h3,_⟩
 ·cases h3
 ·injection h3 with h4;injection h4 with h4;subst h4;exact h2 g rfl
theorem jF{W:World}{rb:Nat}{cs:Array Value}(h:Has W rb 63 cs)(hs:cs.size=22)(x:aO):∃W',(jV ⟨rb,0,none⟩ (.agg (au x).toArray)).run Tryz.prog W=.ok () W'/\Has W' rb 63 (au x).toArray/\Kept (fun k=>k=rb) W W':=
 ⟨_,run_storeVar_row W rb _ _ _ _ h (show(Tryz.prog.info? 63).map (·.size)=some 22 by kernel_rfl) (by rw[hs];rfl) (WM x),setRow_heap W rb _ _ _ _ h,Na _ _ _⟩
def jJ(w:World)(t:TS)(ep hd:Int)(e:Ending)(w':World):Prop:=
 ∃A c,e=.returned (.tuple #[.int .i64 (aJ t ep hd).1,aK {(aJ t ep hd).2 with oA:=A,oc:=c}])/\Src w' 3 A (aJ t ep hd).2.ops.length (cells (aJ t ep hd).2.ops)/\(aJ t ep hd).2.ops.length<=c/\(∀ad,A=some ad->w.heap.size<=ad.block)/\Kept aj w w'
def Ks(w:World)(t:TS)(e:Ending)(w':World):Prop:=
 ∃A c,e=.returned (.tuple #[nV (pO t) A c,.bool t.dn])/\bV 84 2 w.heap.size w' A (pO t).ps.length c (bI (pO t).ps)/\Kept aj w w'
theorem QB(h:kN w X t)(hl:t.r.ps.length<=1000):Calls Tryz.prog 66 #[.pointer (some ⟨X.b,0,none⟩)] w (Ks w t):=by
 obtain⟨W0,hW0⟩:∃W0,w.alloc (.cells #[.int .i64 0,.int .i64 0,.int .u64 0,.int .i64 0,.slice none 0 0] 36)=W0:=⟨_,rfl⟩;have hk0:Kept aj w W0:=by rw[<-hW0];(repeat'(first|(with_reducible first|exact ay|apply aA|apply aB|apply aC|apply aF)|(right;simp;done)))
 have hn0:Has W0 w.heap.size 36 #[.int .i64 0,.int .i64 0,.int .u64 0,.int .i64 0,.slice none 0 0]:=by rw[<-hW0];exact Has.new _ _ _
 have hnone:=xX (h.quiet hk0);have hb:=h.b.kept hk0 (fun z=>z);have hcl:=fun W (hW:Kept aj W0 W)=>Bi W X.rA X.rc t.r.ps (Src.fA (aP h.r (hk0.then hW) (fun _ _ z=>z))) (by omega);unfold uI at hb;obtain⟨bb,hbb⟩:∃bb,X.b=bb:=⟨_,rfl⟩;rw[hbb]at hnone hb⊢;obtain⟨rb,hrb⟩:∃rb,w.heap.size=rb:=⟨_,rfl⟩;rw[hrb]at hn0;have b3:W0.cell? ⟨bb,3,none⟩=some (.bool t.dn):=hb.cell 3;have b4:W0.cell? ⟨bb,4,none⟩=some (.int .i64 t.r.req):=hb.cell 4;have b5:W0.cell? ⟨bb,5,none⟩=some (.int .i64 t.r.e):=hb.cell 5;have b6:W0.cell? ⟨bb,6,none⟩=some (.int .u64 t.r.at'):=hb.cell 6;have b7:W0.cell? ⟨bb,7,none⟩=some (.int .i64 t.r.pin):=hb.cell 7;have b8:W0.cell? ⟨bb,8,none⟩=some (.slice X.rA t.r.ps.length X.rc):=hb.cell 8;have HN:=ah hnone;have nP:=ah hcl;have aS:=ah hk0;have dZ:=ah hn0;clear hnone hcl hk0 hn0 h hb hl;cases hdn:t.dn with
 |false=>
  have hrep:pO t=oH:=by unfold pO;rw[hdn];rfl
  have jg:=ah hrep;have qE:=ah hdn;clear hrep;rw[hdn]at b3;clear hdn b4 b5 b6 b7 b8;go_enter Tryz.func66,Tryz.ntmps66;go_wp2_with fail;refine HN.out.mono ?_;rintro e w1 ⟨rfl,rfl⟩;have f0:=dZ.out.frozen 0;have f1:=dZ.out.frozen 1;have f2:=dZ.out.frozen 2;have f3:=dZ.out.frozen 3;have f4:=dZ.out.frozen 4;have y0:=dZ.out.cell 0;have y1:=dZ.out.cell 1;have y2:=dZ.out.cell 2;have y3:=dZ.out.cell 3;have y4:=dZ.out.cell 4;simp at y0 y1 y2 y3 y4;go_wp2;refine bodyPost_ret (aU rfl _ _ rb _ rfl (xY (r:=oH) (A:=none) (c:=0) (by((repeat (first|with_reducible exact dZ.out|with_reducible apply Has.aQ|with_reducible apply Has.past|with_reducible apply Has.drewN|with_reducible apply Has.drew|with_reducible apply Has.alloc))<;>first|omega|rfl)))) rfl ?_;refine⟨none,0,?_,?_,?_⟩
  ·rw[jg.out,qE.out];rfl
  ·rw[jg.out];exact⟨⟨rfl,.inl ⟨rfl,rfl⟩⟩,fun k hk=>by cases hk⟩
  ·(repeat'(first|(with_reducible first|exact ay|apply aA|apply aB|apply aC|apply aF)|(first|exact aS.out|(right;omega))|(right;simp;done)))
 |true=>
  have hrep:pO t=t.r:=by unfold pO;rw[hdn];rfl
  have jg:=ah hrep;have qE:=ah hdn;clear hrep;rw[hdn]at b3;clear hdn;obtain⟨n,hn⟩:∃n,t.r.ps.length=n:=⟨_,rfl⟩;rw[hn]at b8;simp only[hn]at nP;have qF:=ah hn;clear hn;go_enter Tryz.func66,Tryz.ntmps66;go_wp2_with fail;refine HN.out.mono ?_;rintro e w1 ⟨rfl,rfl⟩;obtain⟨W1,hW1⟩:∃W1,W0.alloc (.cells #[.int .i64 t.r.req,.int .i64 t.r.e,.int .u64 t.r.at',.int .i64 t.r.pin,.slice X.rA n X.rc] 36)=W1:=⟨_,rfl⟩;have hk1:Kept aj W0 W1:=by rw[<-hW1];(repeat'(first|(with_reducible first|exact ay|apply aA|apply aB|apply aC|apply aF)|(right;simp;done)))
  have hn1:Has W1 W0.heap.size 36 #[.int .i64 t.r.req,.int .i64 t.r.e,.int .u64 t.r.at',.int .i64 t.r.pin,.slice X.rA n X.rc]:=by rw[<-hW1];exact Has.new _ _ _
  have BF:=ah hn1;have iL:=ah hk1;have Kt:=nP.out W1 hk1;have UH:=ah Kt;have zz:W1.cell? ⟨W0.heap.size,4,none⟩=some (.slice X.rA n X.rc):=hn1.cell 4;clear hk1 hn1 Kt;go_wp2_with fail;clear hW1 zz;refine UH.out.mono ?_;rintro e w3 ⟨A,c,rfl,hnp,hk3⟩;have h1:=BF.out.kept hk3 (fun z=>z);have h0:=dZ.out.kept (iL.out.then hk3) (fun z=>z);have hne:W0.heap.size≠rb:=fun e=>by have:=dZ.out.lt;omega
  obtain⟨ab,hab⟩:∃ab,W0.heap.size=ab:=⟨_,rfl⟩;rw[hab]at h1 hne⊢;have y0:=h1.cell 0;have y1:=h1.cell 1;have y2:=h1.cell 2;have y3:=h1.cell 3;have y4:=h1.cell 4;have f4':=h1.frozen 4;have f0:=h0.frozen 0;have f1:=h0.frozen 1;have f2:=h0.frozen 2;have f3:=h0.frozen 3;have f4:=h0.frozen 4;have z0:=h0.cell 0;have z1:=h0.cell 1;have z2:=h0.cell 2;have z3:=h0.cell 3;have z4:=h0.cell 4;simp at y0 y1 y2 y3 y4 z0 z1 z2 z3 z4;have H0:=ah h0;have zO:=ah hnp;have dI:=ah (aS.out.then (iL.out.then hk3));have lJ:=ah hne;have DC:=ah (show w.heap.size<=ab by have:=aS.out.size;omega);have jm:=ah h1.lt;have HAB:=ah h1;have HS:=ah (iL.out.then hk3).size;clear h1 h0 hnp hk3 hab;go_wp2;refine bodyPost_ret (aU rfl _ _ rb _ rfl (xY (r:=t.r) (A:=A) (c:=c) (by((repeat (first|with_reducible exact H0.out|with_reducible apply Has.aQ|with_reducible apply Has.past|with_reducible apply Has.drewN|with_reducible apply Has.drew|with_reducible apply Has.alloc))<;>first|omega|rfl)))) rfl ?_;refine⟨A,c,?_,?_,?_⟩
  ·rw[jg.out,qE.out];rfl
  ·rw[jg.out];have oO:Kept (fun k=>k=ab\/k=rb) w3 ((((((w3.setCell ⟨ab,4,none⟩ (.slice A t.r.ps.length c)).setCell ⟨rb,0,none⟩ (.int .i64 t.r.req)).setCell ⟨rb,1,none⟩ (.int .i64 t.r.e)).setCell ⟨rb,2,none⟩ (.int .u64 t.r.at')).setCell ⟨rb,3,none⟩ (.int .i64 t.r.pin)).setCell ⟨rb,4,none⟩ (.slice A t.r.ps.length c)):=by(repeat'(first|(with_reducible first|exact ay|apply aA|apply aB|apply aC|apply aF)|(first|exact .inl (.inl rfl)|exact .inl (.inr rfl))|(right;simp;done)))
   refine⟨aP zO.out.1 oO (fun k hk e=> ?_),fun k hk=> ?_⟩
   ·rcases e with e|e
    ·exact own_ne zO.out.1 HAB.out (by decide) (e▸hk)
    ·exact own_ne zO.out.1 H0.out (by decide) (e▸hk)
   ·have:=zO.out.2 k hk;have:=iL.out.size;have:=aS.out.size;omega
  ·(repeat'(first|(with_reducible first|exact ay|apply aA|apply aB|apply aC|apply aF)|(first|exact dI.out|exact .inr DC.out|exact .inr (by omega))|(right;simp;done)))
