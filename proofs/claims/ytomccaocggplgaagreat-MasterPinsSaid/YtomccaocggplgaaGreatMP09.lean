/- Part 10. -/
import Derived.Test.YtomccaocggplgaaGreatMP08
import Derived.Shelf.Sort.Plain
import Derived.Shelf.Slices.In.SortNone
set_option linter.unusedSimpArgs false
set_option linter.unusedVariables false
set_option maxHeartbeats 32000000
set_option maxRecDepth 100000
namespace Go.Proofs.YtomccaocggplgaaGreat
open Go.RowKit
namespace Mst
open aJ Vn
def rW(w:World)(b:Nat)(old req:Int)(cs:Array Value)(e:Ending)(w':World):Prop:=
 (req<old/\e=.returned (.int .i64 18)/\Kept aj w w')\/(¬req<old/\e=.returned (.int .i64 0)/\Has w' b 121 cs/\Kept (fun k=>k=b) w w')
theorem aba(w:World)(b:Nat)(s:bQ)(mA:Option Addr)(mc:Nat)(lA:Option Addr)(lc:Nat)(pA:Option Addr)(pc:Nat)(req e2 pin:Int)(hb:Has w b 121 (dL s mA mc lA lc pA pc true)):
  Calls Tryz.prog 85 #[.pointer (some ⟨b,0,none⟩),.agg #[.int .i64 0,.int .i64 req,.int .i64 e2,.int .i64 pin]] w (rW w b s.t0.req req (dL {s with t0:=⟨0,req,e2,pin⟩} mA mc lA lc pA pc true)):=by
 have hk1:Kept aj w (w.alloc (.cells #[.int .i64 0,.int .i64 req,.int .i64 e2,.int .i64 pin] 76)):=by(repeat'(first|(with_reducible first|exact ak|apply au|apply ay|apply aA|apply aB)|(right;simp;done)))
 have hb1:=hb.kept hk1 (fun z=>z);obtain⟨W1,hW1⟩:∃W1,w.alloc (.cells #[.int .i64 0,.int .i64 req,.int .i64 e2,.int .i64 pin] 76)=W1:=⟨_,rfl⟩;have ha:=Has.new w 76 #[.int .i64 0,.int .i64 req,.int .i64 e2,.int .i64 pin];rw[hW1]at ha hb1 hk1;have c1:=hb1.cell 8;have a0:=ha.cell 0;have a1:=ha.cell 1;have a2:=ha.cell 2;have a3:=ha.cell 3;simp only[lF0,List.getElem?_cons_zero,List.getElem?_cons_succ]at c1 a0 a1 a2 a3;have f0:=hb1.frozen 7;have f1:=hb1.frozen (7+1);have f2:=hb1.frozen (7+2);have f3:=hb1.frozen (7+3);have k0:=hb1.cell 7;have k2:=hb1.cell (7+2);have k3:=hb1.cell (7+3);simp only[lF0,List.getElem?_cons_zero,List.getElem?_cons_succ]at k0 k2 k3;have HB:=ah hb1;have HK:=ah hk1;clear hb hb1 hk1 ha;by_cases hr:req<s.t0.req
 ·go_enter Tryz.func85,Tryz.ntmps85;go_wp2_with fail;go_quiet (fail);go_wp2;go_ret;exact .inl ⟨hr,rfl,HK.out.drewN _⟩
 ·go_enter Tryz.func85,Tryz.ntmps85;go_wp2_with fail;go_quiet (fail);go_wp2_with fail;refine wp_region_still_tail 7 (by kernel_rfl) (by kernel_rfl) ?_;simp only[List.take_succ_cons,List.take_zero,List.drop_succ_cons,List.drop_zero];change wpStill _ _ (World.drew (W1.drewN _)) _ _ _;repeat still_step
  refine wpStill_nil ?_;change wpList _ _ _ _ _ (World.drew (W1.drewN _));go_wp2;go_ret;refine .inr ⟨by omega,rfl,?_,?_⟩
  ·((repeat (first|with_reducible exact HB.out|with_reducible apply Has.dH|with_reducible apply Has.past|with_reducible apply Has.drewN|with_reducible apply Has.drew|with_reducible apply Has.alloc))<;>first|omega|rfl)
  ·have hm:Kept (fun k=>k=b) w (W1.drewN (nq+1)):=(HK.out.mono (fun _ x=>x.elim)).drewN _;exact(((hm.put (.inl rfl)).put (.inl rfl)).put (.inl rfl)).put (.inl rfl)
theorem abb(w:World)(b:Nat)(s:bQ)(mA:Option Addr)(mc:Nat)(lA:Option Addr)(lc:Nat)(pA:Option Addr)(pc:Nat)(req e2 pin:Int)(hb:Has w b 121 (dL s mA mc lA lc pA pc true)):
  Calls Tryz.prog 85 #[.pointer (some ⟨b,0,none⟩),.agg #[.int .i64 1,.int .i64 req,.int .i64 e2,.int .i64 pin]] w (rW w b s.t1.req req (dL {s with t1:=⟨1,req,e2,pin⟩} mA mc lA lc pA pc true)):=by
 have hk1:Kept aj w (w.alloc (.cells #[.int .i64 1,.int .i64 req,.int .i64 e2,.int .i64 pin] 76)):=by(repeat'(first|(with_reducible first|exact ak|apply au|apply ay|apply aA|apply aB)|(right;simp;done)))
 have hb1:=hb.kept hk1 (fun z=>z);obtain⟨W1,hW1⟩:∃W1,w.alloc (.cells #[.int .i64 1,.int .i64 req,.int .i64 e2,.int .i64 pin] 76)=W1:=⟨_,rfl⟩;have ha:=Has.new w 76 #[.int .i64 1,.int .i64 req,.int .i64 e2,.int .i64 pin];rw[hW1]at ha hb1 hk1;have c1:=hb1.cell 12;have a0:=ha.cell 0;have a1:=ha.cell 1;have a2:=ha.cell 2;have a3:=ha.cell 3;simp only[lF0,List.getElem?_cons_zero,List.getElem?_cons_succ]at c1 a0 a1 a2 a3;have f0:=hb1.frozen 11;have f1:=hb1.frozen (11+1);have f2:=hb1.frozen (11+2);have f3:=hb1.frozen (11+3);have k0:=hb1.cell 11;have k2:=hb1.cell (11+2);have k3:=hb1.cell (11+3);simp only[lF0,List.getElem?_cons_zero,List.getElem?_cons_succ]at k0 k2 k3;have HB:=ah hb1;have HK:=ah hk1;clear hb hb1 hk1 ha;by_cases hr:req<s.t1.req
 ·go_enter Tryz.func85,Tryz.ntmps85;go_wp2_with fail;go_quiet (fail);go_wp2;go_ret;exact .inl ⟨hr,rfl,HK.out.drewN _⟩
 ·go_enter Tryz.func85,Tryz.ntmps85;go_wp2_with fail;go_quiet (fail);go_wp2_with fail;refine wp_region_still_tail 7 (by kernel_rfl) (by kernel_rfl) ?_;simp only[List.take_succ_cons,List.take_zero,List.drop_succ_cons,List.drop_zero];change wpStill _ _ (World.drew (W1.drewN _)) _ _ _;repeat still_step
  refine wpStill_nil ?_;change wpList _ _ _ _ _ (World.drew (W1.drewN _));go_wp2;go_ret;refine .inr ⟨by omega,rfl,?_,?_⟩
  ·((repeat (first|with_reducible exact HB.out|with_reducible apply Has.dH|with_reducible apply Has.past|with_reducible apply Has.drewN|with_reducible apply Has.drew|with_reducible apply Has.alloc))<;>first|omega|rfl)
  ·have hm:Kept (fun k=>k=b) w (W1.drewN (nq+1)):=(HK.out.mono (fun _ x=>x.elim)).drewN _;exact(((hm.put (.inl rfl)).put (.inl rfl)).put (.inl rfl)).put (.inl rfl)
theorem abd(w:World)(b:Nat)(s:bQ)(mA:Option Addr)(mc:Nat)(lA:Option Addr)(lc:Nat)(pA:Option Addr)(pc:Nat)(req e2 pin:Int)(hb:Has w b 121 (dL s mA mc lA lc pA pc true)):
  Calls Tryz.prog 85 #[.pointer (some ⟨b,0,none⟩),.agg #[.int .i64 2,.int .i64 req,.int .i64 e2,.int .i64 pin]] w (rW w b s.t2.req req (dL {s with t2:=⟨2,req,e2,pin⟩} mA mc lA lc pA pc true)):=by
 have hk1:Kept aj w (w.alloc (.cells #[.int .i64 2,.int .i64 req,.int .i64 e2,.int .i64 pin] 76)):=by(repeat'(first|(with_reducible first|exact ak|apply au|apply ay|apply aA|apply aB)|(right;simp;done)))
 have hb1:=hb.kept hk1 (fun z=>z);obtain⟨W1,hW1⟩:∃W1,w.alloc (.cells #[.int .i64 2,.int .i64 req,.int .i64 e2,.int .i64 pin] 76)=W1:=⟨_,rfl⟩;have ha:=Has.new w 76 #[.int .i64 2,.int .i64 req,.int .i64 e2,.int .i64 pin];rw[hW1]at ha hb1 hk1;have c1:=hb1.cell 16;have a0:=ha.cell 0;have a1:=ha.cell 1;have a2:=ha.cell 2;have a3:=ha.cell 3;simp only[lF0,List.getElem?_cons_zero,List.getElem?_cons_succ]at c1 a0 a1 a2 a3;have f0:=hb1.frozen 15;have f1:=hb1.frozen (15+1);have f2:=hb1.frozen (15+2);have f3:=hb1.frozen (15+3);have k0:=hb1.cell 15;have k2:=hb1.cell (15+2);have k3:=hb1.cell (15+3);simp only[lF0,List.getElem?_cons_zero,List.getElem?_cons_succ]at k0 k2 k3;have HB:=ah hb1;have HK:=ah hk1;clear hb hb1 hk1 ha;by_cases hr:req<s.t2.req
 ·go_enter Tryz.func85,Tryz.ntmps85;go_wp2_with fail;go_quiet (fail);go_wp2;go_ret;exact .inl ⟨hr,rfl,HK.out.drewN _⟩
 ·go_enter Tryz.func85,Tryz.ntmps85;go_wp2_with fail;go_quiet (fail);go_wp2_with fail;refine wp_region_still_tail 7 (by kernel_rfl) (by kernel_rfl) ?_;simp only[List.take_succ_cons,List.take_zero,List.drop_succ_cons,List.drop_zero];change wpStill _ _ (World.drew (W1.drewN _)) _ _ _;repeat still_step
  refine wpStill_nil ?_;change wpList _ _ _ _ _ (World.drew (W1.drewN _));go_wp2;go_ret;refine .inr ⟨by omega,rfl,?_,?_⟩
  ·((repeat (first|with_reducible exact HB.out|with_reducible apply Has.dH|with_reducible apply Has.past|with_reducible apply Has.drewN|with_reducible apply Has.drew|with_reducible apply Has.alloc))<;>first|omega|rfl)
  ·have hm:Kept (fun k=>k=b) w (W1.drewN (nq+1)):=(HK.out.mono (fun _ x=>x.elim)).drewN _;exact(((hm.put (.inl rfl)).put (.inl rfl)).put (.inl rfl)).put (.inl rfl)
end Mst
namespace Mst
open aJ Vn
theorem KA(w:World)(b:Nat)(s:bQ)(mA:Option Addr)(mc:Nat)(lA:Option Addr)(lc:Nat)(pA:Option Addr)(pc:Nat)(hb:Has w b 121 (dL s mA mc lA lc pA pc true)):Calls Tryz.prog 24 #[.pointer (some ⟨b,0,none⟩)] w fun e w'=>e=.returned (.int .u64 s.hz)/\Kept aj w w':=by have h:=fun W (hW:Kept aj w W)=>dZ W b s mA mc lA lc pA pc true (hb.kept hW (fun z=>z));have hc:=fun W (hW:Kept aj w W)=>(hb.kept hW (fun z=>z)).cell 4;simp only[lF0,List.getElem?_cons_zero,List.getElem?_cons_succ]at hc;have H:=ah h;have HC:=ah hc;clear h hc hb;go_enter Tryz.func24,Tryz.ntmps24;go_wp2_with fail;refine(H.out _ (by(repeat'(first|(with_reducible first|exact ak|apply au|apply ay|apply aA|apply aB)|(right;simp;done))))).mono ?_;rintro e w2 ⟨rfl,hk⟩;have c0:=HC.out _ hk;have HK:=ah hk;clear hk;go_wp2;go_ret;exact⟨rfl,HK.out⟩
theorem UR(w:World)(b:Nat)(s:bQ)(mA:Option Addr)(mc:Nat)(lA:Option Addr)(lc:Nat)(pA:Option Addr)(pc:Nat)(hb:Has w b 121 (dL s mA mc lA lc pA pc true)):Calls Tryz.prog 229 #[.pointer (some ⟨b,0,none⟩)] w fun e w'=>e=.returned (.int .i64 s.top)/\Kept aj w w':=by have h:=fun W (hW:Kept aj w W)=>dZ W b s mA mc lA lc pA pc true (hb.kept hW (fun z=>z));have hc:=fun W (hW:Kept aj w W)=>(hb.kept hW (fun z=>z)).cell 6;simp only[lF0,List.getElem?_cons_zero,List.getElem?_cons_succ]at hc;have H:=ah h;have HC:=ah hc;clear h hc hb;go_enter Tryz.func229,Tryz.ntmps229;go_wp2_with fail;refine(H.out _ (by(repeat'(first|(with_reducible first|exact ak|apply au|apply ay|apply aA|apply aB)|(right;simp;done))))).mono ?_;rintro e w2 ⟨rfl,hk⟩;have c0:=HC.out _ hk;have HK:=ah hk;clear hk;go_wp2;go_ret;exact⟨rfl,HK.out⟩
theorem OO(w:World)(b:Nat)(s:bQ)(mA:Option Addr)(mc:Nat)(lA:Option Addr)(lc:Nat)(pA:Option Addr)(pc:Nat)(hb:Has w b 121 (dL s mA mc lA lc pA pc true))(hl:Src w 1 lA s.lg.length (ints s.lg))(hlen:s.lg.length<=1000000):Calls Tryz.prog 94 #[.pointer (some ⟨b,0,none⟩)] w (Et w s.lg):=by have hcl:=fun W (hW:Kept aj w W)=>zh W lA lc s.lg (hl.kept hW (fun _ _ z=>z)) hlen;have hP:∀W w' A c,Kept aj w W->aF 3 1 W.heap.size w' A s.lg.length c (ints s.lg)->Kept aj W w'->Et w s.lg (.returned (.slice A s.lg.length c)) w':=fun W w' A c hW h1 h2=>⟨A,c,rfl,⟨h1.1,fun k hk=>Nat.le_trans hW.size (h1.2 k hk)⟩,hW.then h2⟩;have oL:=ah hcl;have HP:=ah hP;clear hcl hl hP;have h:=fun W (hW:Kept aj w W)=>dZ W b s mA mc lA lc pA pc true (hb.kept hW (fun z=>z));have hc:=fun W (hW:Kept aj w W)=>(hb.kept hW (fun z=>z)).cell 3;simp only[lF0,List.getElem?_cons_zero,List.getElem?_cons_succ]at hc;have H:=ah h;have HC:=ah hc;clear h hc hb;go_enter Tryz.func94,Tryz.ntmps94;go_wp2_with fail;refine(H.out _ (by(repeat'(first|(with_reducible first|exact ak|apply au|apply ay|apply aA|apply aB)|(right;simp;done))))).mono ?_;rintro e w2 ⟨rfl,hk⟩;have c0:=HC.out _ hk;have HK:=ah hk;clear hk;go_wp2_with fail;refine(oL.out _ HK.out).mono ?_;rintro e w3 ⟨A3,c3,rfl,hn,hk⟩;have HN:=ah (And.intro hn hk);clear hn hk;go_wp2;go_ret;exact HP.out _ _ _ _ HK.out HN.out.1 HN.out.2
theorem RP(w:World)(b:Nat)(s:bQ)(mA:Option Addr)(mc:Nat)(lA:Option Addr)(lc:Nat)(pA:Option Addr)(pc:Nat)(hb:Has w b 121 (dL s mA mc lA lc pA pc true))(hl:Src w 3 pA s.pins.length (aS s.pins))(hlen:s.pins.length<=1000000):Calls Tryz.prog 35 #[.pointer (some ⟨b,0,none⟩)] w (xu w s.pins):=by have hcl:=fun W (hW:Kept aj w W)=>rD W pA pc s.pins (hl.kept hW (fun _ _ z=>z)) hlen;have hP:∀W w' A c,Kept aj w W->aF 53 3 W.heap.size w' A s.pins.length c (aS s.pins)->Kept aj W w'->xu w s.pins (.returned (.slice A s.pins.length c)) w':=fun W w' A c hW h1 h2=>⟨A,c,rfl,⟨h1.1,fun k hk=>Nat.le_trans hW.size (h1.2 k hk)⟩,hW.then h2⟩;have oL:=ah hcl;have HP:=ah hP;clear hcl hl hP;have h:=fun W (hW:Kept aj w W)=>dZ W b s mA mc lA lc pA pc true (hb.kept hW (fun z=>z));have hc:=fun W (hW:Kept aj w W)=>(hb.kept hW (fun z=>z)).cell 5;simp only[lF0,List.getElem?_cons_zero,List.getElem?_cons_succ]at hc;have H:=ah h;have HC:=ah hc;clear h hc hb;go_enter Tryz.func35,Tryz.ntmps35;go_wp2_with fail;refine(H.out _ (by(repeat'(first|(with_reducible first|exact ak|apply au|apply ay|apply aA|apply aB)|(right;simp;done))))).mono ?_;rintro e w2 ⟨rfl,hk⟩;have c0:=HC.out _ hk;have HK:=ah hk;clear hk;go_wp2_with fail;refine(oL.out _ HK.out).mono ?_;rintro e w3 ⟨A3,c3,rfl,hn,hk⟩;have HN:=ah (And.intro hn hk);clear hn hk;go_wp2;go_ret;exact HP.out _ _ _ _ HK.out HN.out.1 HN.out.2
end Mst
def zT(cs:Array Value):Nat->List Value->Array Value
 |_,[]=>cs
 |o,v::r=>zT (cs.setIfInBounds o v) (o+1) r
theorem CU:∀(vs:List Value) (cs:Array Value) (o:Nat),(zT cs o vs).size=cs.size
 |[],_,_=>rfl
 |v::r,cs,o=>by rw[zT,CU r];simp
theorem CV:∀(vs:List Value) (cs:Array Value) (o:Nat),o+vs.length<=cs.size->(zT cs o vs).toList=cs.toList.take o++vs++cs.toList.drop (o+vs.length)
 |[],cs,o,_=>by simp[zT]
 |v::r,cs,o,h=>by
  simp only[List.length_cons]at h;have ho:o<cs.toList.length:=by simp;omega
  rw[zT,CV r _ _ (by simp;omega),Array.toList_setIfInBounds,List.take_set,List.take_add_one,lB0 ho,List.drop_set,if_pos (by omega)];simp only[Option.toList_some,List.length_cons,List.append_assoc];have e1:(cs.toList.take o++[cs.toList[o]]).set o v=cs.toList.take o++[v]:=by
   rw[List.set_append_right _ _ (by simp;omega)];have:o-(cs.toList.take o).length=0:=by simp;omega
   rw[this];rfl
  rw[e1];simp only[List.append_assoc,List.singleton_append,List.cons_append,List.nil_append];rw[show o+1+r.length=o+(r.length+1) by omega]
theorem Has.uf{b:Nat}{t:TypeId}:∀(vs:List Value) (o:Nat) (w:World) (cs:Array Value),Has w b t cs->Has (w.setCells b o vs) b t (zT cs o vs)
 |[],_,_,_,h=>h
 |v::r,o,_,_,h=>Has.uf r (o+1) _ _ (h.put o v)
theorem Kept.uf{b:Nat}:∀(vs:List Value) (o:Nat) (w:World),Kept (fun k=>k=b) w (w.setCells b o vs)
 |[],_,w=>Kept.refl _ _
 |v::r,o,w=>Kept.then (F:=fun k=>k=b) ((Kept.refl _ w).put (g:=b) (i:=o) (u:=v) (.inl rfl)) (Kept.uf r (o+1) _)
theorem KC{P:Program}{w:World}{size g off n c:Nat}{cur:Array Value}{t e:TypeId}{z:Value}(h:Has w g e cur)(ht:P.underlying t=some (.slice e))
  (hv:∀w,(zeroValue e).run P w=.ok z w) (hz:z.cells.size=size) (h0:0<size) (h1:∀u∈z.cells,u.oneCell'=true) (hn:0<n) (hsz:off+n*size<=cur.size) (ty:TypeId):
  (Builtin.clear_ #[t] ty #[.slice (some ⟨g,off,none⟩) n c]).run P w=.ok (.tuple #[]) (w.setCells g off (Builtin.zeroCells z.cells n).toList):=by
 have hlen:(Builtin.zeroCells z.cells n).toList.length=n*size:=by simp[Builtin.zeroCells,hz]
 have hone:∀u∈(Builtin.zeroCells z.cells n).toList,u.oneCell'=true:=by intro u hu;simp only[Builtin.zeroCells,Array.toList_map,List.mem_map]at hu;obtain⟨i,_,rfl⟩:=hu;have hlt:i%z.cells.size<z.cells.size:=Nat.mod_lt _ (by omega);rw[getElem!_pos z.cells _ hlt];exact h1 _ (Array.getElem_mem hlt)
 have hst:=run_storeCells_cells (P:=P) g off (Builtin.zeroCells z.cells n).toList 0 w
  (by intro j hj;rw[hlen]at hj;rw[h.cell,Array.getElem?_eq_getElem (by omega)];rfl)
  (by intro j hj;exact h.frozen _) hone
 obtain⟨m,rfl⟩:∃m,n=m+1:=⟨n-1,by omega⟩;simp only[Nat.add_zero]at hst;simp[Builtin.clear_,run_underlying ht,hv,hst]
namespace Mst
open aJ Vn
theorem Gq(l:List aO)(k:Nat):aS (l.drop k)=(aS l).drop (k*3):=by
 induction l generalizing k with
 |nil=>simp[aS]
 |cons a l ih=>
  cases k with
  |zero=>simp
  |succ k=>
   have e:(k+1)*3=k*3+3:=by omega
   rw[e];simpa [aS,qP]using ih k
theorem Gs(l:List aO)(k:Nat):aS (l.take k)=(aS l).take (k*3):=by
 induction l generalizing k with
 |nil=>simp[aS]
 |cons a l ih=>
  cases k with
  |zero=>simp[aS]
  |succ k=>
   have e:(k+1)*3=k*3+3:=by omega
   rw[e];simpa [aS,qP]using ih k
theorem qH(a b:List aO):aS (a++b)=aS a++aS b:=by simp[aS]
theorem qG(l:List aO):(aS l).length=l.length*3:=by
 induction l with
 |nil=>rfl
 |cons a l ih=>simp only[aS,List.flatMap_cons,lA0,List.length_cons]at ih⊢;rw[ih];simp[qP];omega
theorem US(w:World)(g c k j:Nat)(hj:j=k+1)(l:List aO)(hl:w.ownsRow 0 53 3 (.slice (some ⟨g,0,none⟩) l.length c) l.length (aS l))(hk:k<l.length)(hlen:l.length<=1000000):
  Calls Tryz.prog 154 #[.slice (some ⟨g,0,none⟩) l.length c,.int .i64 k,.int .i64 j] w fun e w'=>
   e=.returned (.slice (some ⟨g,0,none⟩) (l.length-1) c)/\w'.ownsRow 0 53 3 (.slice (some ⟨g,0,none⟩) (l.length-1) c) (l.length-1) (aS (l.eraseIdx k))/\Kept (fun j=>j=g) w w':=by
 obtain⟨i0,hi,hz0,hz1,hz2⟩:=info_parts (show(Tryz.prog.info? 53).map (fun i=>(i.zero,i.size,i.bytes))=some (some (.agg #[.int .i64 0,.int .u64 0,.int .i64 0]),3,24) by kernel_rfl);have mixed:Tryz.prog.follows .mixedOrders=true:=by kernel_rfl
 rcases hl.2 with⟨hv,_⟩|⟨g',cap,cur,hv,hb,hh,hn,hm,hs,htk⟩
 ·cases hv
 injection hv with h1 h2 h3;injection h1 with h1;injection h1 with h1;subst h1;subst h3;clear h2;have hcap:=hm;unfold maxLen at hcap;have hH:Has w g 53 cur:=hh;clear hh;obtain⟨news,hnews⟩:∃news,news=aS (l.drop j):=⟨_,rfl⟩;have I9:news.length=(l.length-j)*3:=by rw[hnews,qG];simp
 have hget:∀t u,news[t]? =some u->cur[j*3+t]? =some u:=by intro t u hu;have ht:=(lD0.1 hu).1;rw[hnews,Gq,List.getElem?_drop,<-htk,List.getElem?_take,if_pos (by omega),Array.getElem?_toList]at hu;exact hu
 obtain⟨A,hA,hsrc⟩:∃A:Addr,(if c=j then (some (⟨g,0,none⟩:Addr))else some ⟨g,j*3,none⟩)=some A/\Hid (∀t u,news[t]? =some u->w.drew.cell? (A.add t)=some u):=by
  by_cases h:c=j
  ·refine⟨⟨g,0,none⟩,by simp[h],fun t u hu=> ?_⟩;have h0:news.length=0:=by rw[I9];omega
   rw[List.length_eq_zero_iff.1 h0]at hu;simp at hu
  ·refine⟨⟨g,j*3,none⟩,by simp[h],fun t u hu=> ?_⟩;rw[Addr.add_lit];exact(hH.drew.cell _).trans (hget t u hu)
 have s1:Hid (news.length=(l.length-j)*3):=I9;have s2:Hid (∀u∈news,u.oneCell'=true):=by rw[hnews];exact uY _
 have s3:Hid (∀t,t<news.length->(w.drew.cell? ⟨g,0+k*3+t,none⟩).isSome=true/\w.drew.frozen? ⟨g,0+k*3+t,none⟩=false):=by intro t ht;rw[I9]at ht;refine⟨?_,hH.drew.frozen _⟩;rw[hH.drew.cell,Array.getElem?_eq_getElem (by omega)];rfl
 obtain⟨W1,hW1⟩:∃W1,W1=w.drew.setCells g (0+k*3) news:=⟨_,rfl⟩;have hH1:Has W1 g 53 (zT cur (0+k*3) news):=by rw[hW1];exact Has.uf _ _ _ _ hH.drew
 have hk1:Kept (fun j=>j=g) w W1:=by rw[hW1];exact Kept.then (F:=fun j=>j=g) ((Kept.refl _ w).drew) (Kept.uf _ _ _)
 have hsz1:=CU news cur (0+k*3)
 have hcl:∀ty,(Builtin.clear_ #[35] ty #[.slice (some ⟨g,(l.length-1)*3,none⟩) 1 (c-(l.length-1))]).run Tryz.prog W1=.ok (.tuple #[]) (W1.setCells g ((l.length-1)*3) (Builtin.zeroCells (Value.agg #[.int .i64 0,.int .u64 0,.int .i64 0]).cells 1).toList):=
  fun ty=>KC (size:=3) hH1 Tryz.underlying35 (by intro w;kernel_rfl) rfl (by decide) (by intro u hu;simp[Value.cells]at hu;rcases hu with rfl|rfl|rfl<;>rfl) (by decide) (by rw[hsz1,hs];omega) ty
 have hfin:(W1.setCells g ((l.length-1)*3) (Builtin.zeroCells (Value.agg #[.int .i64 0,.int .u64 0,.int .i64 0]).cells 1).toList).ownsRow 0 53 3 (.slice (some ⟨g,0,none⟩) (l.length-1) c) (l.length-1) (aS (l.eraseIdx k)):=by
  have hH2:=Has.uf (Builtin.zeroCells (Value.agg #[.int .i64 0,.int .u64 0,.int .i64 0]).cells 1).toList ((l.length-1)*3) _ _ hH1;have hz3:(Builtin.zeroCells (Value.agg #[.int .i64 0,.int .u64 0,.int .i64 0]).cells 1).toList.length=3:=by kernel_rfl
  refine⟨by rw[qG,List.length_eraseIdx_of_lt hk],.inr ⟨g,c,_,rfl,Nat.zero_le _,hH2,by omega,hm,by rw[CU,hsz1,hs],?_⟩⟩;rw[CV _ _ _ (by rw[hsz1,hz3,hs];omega),List.append_assoc,List.take_append_of_le_length (by have hz:=hsz1;rw[<-Array.length_toList]at hz;rw[List.length_take,hz,hs];omega),List.take_of_length_le (by rw[List.length_take];omega),CV _ _ _ (by rw[I9];omega)];have e1:cur.toList.take (0+k*3)=aS (l.take k):=by rw[Gs,<-htk,List.take_take];congr 1;omega
  rw[e1,hnews,List.take_append_of_le_length (by simp[qG];omega),List.take_of_length_le (by simp[qG];omega),<-qH,List.eraseIdx_eq_take_drop_succ,hj]
 have iM:Kept (fun j=>j=g) w (W1.setCells g ((l.length-1)*3) (Builtin.zeroCells (Value.agg #[.int .i64 0,.int .u64 0,.int .i64 0]).cells 1).toList):=hk1.then (Kept.uf _ _ _);have bU:=ah (And.intro hfin iM);obtain⟨W2,hW2⟩:∃W2,W2=W1.setCells g ((l.length-1)*3) (Builtin.zeroCells (Value.agg #[.int .i64 0,.int .u64 0,.int .i64 0]).cells 1).toList:=⟨_,rfl⟩;rw[<-hW2]at hcl bU;have hW:Hid (W1=w.drew.setCells g (0+k*3) news):=hW1;have hic:k<=c:=by omega
 have hjc:j<=c:=by omega
 have hne:¬((k:Int)=(j:Int)):=by omega
 have hkk:(j:Int)<=(l.length:Int):=by omega
 have hnk:k+(l.length-j)=l.length-1:=by omega
 have hll:l.length-(l.length-1)=1:=by omega
 have hn1:((l.length-1:Nat):Int)<=(l.length:Int):=by omega
 have hnc:l.length<=c:=hn;have hkj:(k:Int)<=(j:Int):=by omega
 have hjl:j<=l.length:=by omega
 clear hj hk;clear hfin iM hW2 hW1 hH1 hk1 hsz1 hH hget hnews I9 hs htk hm hl hb;go_enter Tryz.func154,Tryz.ntmps154;go_wp2_with fail;go_region_law_o (refine step_append_room rfl (.tmp 22) (.tmp 25) 35 rfl 53 i0 3 Tryz.underlying35 hi hz1 g 0 k c (by simp[Act.eval,Act.put]) A (l.length-j) (c-j) news (by simp[Act.eval,Act.put,hA]) s1.out hsrc.out s2.out (by omega) s3.out ?_;rw[<-hW.out,hnk]);go_wp2;go_ret;exact⟨rfl,bU.out⟩
end Mst
namespace Mst
open aJ Vn
def freed(l:List aO)(id:Int):List aO:=if bV l id<0 then l else l.eraseIdx (bV l id).toNat
def wF(w:World)(l:List aO)(id:Int)(e:Ending)(w':World):Prop:=
 (bV l id<0/\e=.returned (.tuple #[.slice none 0 0,.int .i64 7])/\Kept aj w w')\/
 (0<=bV l id/\∃A c,e=.returned (.tuple #[.slice A (freed l id).length c,.int .i64 0])/\aF 53 3 w.heap.size w' A (freed l id).length c (aS (freed l id))/\Kept aj w w')
theorem Ht(w:World)(A:Option Addr)(c:Nat)(l:List aO)(id:Int)(hl:Src w 3 A l.length (aS l))(hlen:l.length<=1000000):
  Calls Tryz.prog 84 #[.slice A l.length c,.int .i64 id] w (wF w l id):=by
 have hf:=fun W (hW:Kept aj w W) (b:Nat) (hb:Has W b 3 #[.int .i64 id])=>OM W A c l b id hb (hl.kept hW (fun _ _ z=>z)) hlen;have hwh:=LD w id;rcases jE l id with h1|⟨k,x,h1,hx,hid⟩
 ·rw[h1]at hf;have hP:∀w',Kept aj w w'->wF w l id (.returned (.tuple #[.slice none 0 0,.int .i64 7])) w':=fun w' hk=> .inl ⟨by omega,rfl,hk⟩;have HF:=ah hf;have HP:=ah hP;have Ew:=ah hwh;clear hf hP hwh hl h1;go_enter Tryz.func84,Tryz.ntmps84;go_wp2_with fail;refine Ew.out.mono ?_;rintro e w1 ⟨rfl,rfl⟩;go_wp2_with fail;refine(HF.out _ (by(repeat'(first|(with_reducible first|exact ak|apply au|apply ay|apply aA|apply aB)|(right;simp;done)))) w.heap.size (Has.new w 3 #[.int .i64 id])).mono ?_;rintro e w2 ⟨rfl,hk⟩;have hk2:=Kept.then (F:=aj) (a:=w) (by(repeat'(first|(with_reducible first|exact ak|apply au|apply ay|apply aA|apply aB)|(right;simp;done)))) hk;have HK:=ah hk2;clear hk hk2;go_wp2;go_ret2;exact HP.out _ HK.out
 ·rw[h1]at hf;have hkl:k<l.length:=(lD0.1 hx).1;have hcl:=fun W (hW:Kept aj w W)=>rD W A c l (hl.kept hW (fun _ _ z=>z)) hlen;have hP:∀w' A c,aF 53 3 w.heap.size w' A (l.length-1) c (aS (l.eraseIdx k))->Kept aj w w'->wF w l id (.returned (.tuple #[.slice A ((l.length-1:Nat)) c,.int .i64 0])) w':=fun w' A c hn hk=>by
   have e1:freed l id=l.eraseIdx k:=by unfold freed;rw[h1,Int.toNat_natCast,if_neg (by omega)]
   have e2:(freed l id).length=l.length-1:=by rw[e1,List.length_eraseIdx_of_lt hkl]
   refine .inr ⟨by omega,A,c,?_,?_,hk⟩
   ·rw[e2]
   ·rw[e2,e1];exact hn
  have hj:∀W g c,_->_:=fun W g c h=>US W g c k (k+1) rfl l h hkl hlen;have hcast:((k+1:Nat):Int)=(k:Int)+1:=by omega
  rw[hcast]at hj;have hw1:IntKind.i64.wrap ((k:Int)+1)=(k:Int)+1:=IntWalk.i64_in _ (by omega);have HF:=ah hf;have HP:=ah hP;have Ew:=ah hwh;have HC:=ah hcl;have HJ:=ah hj;clear hf hP hwh hl h1 hcl hx hid hj hcast;have b0:(0:Int)<=(k:Int):=by omega
  go_enter Tryz.func84,Tryz.ntmps84;go_wp2_with fail;refine Ew.out.mono ?_;rintro e w1 ⟨rfl,rfl⟩;go_wp2_with fail;refine(HF.out _ (by(repeat'(first|(with_reducible first|exact ak|apply au|apply ay|apply aA|apply aB)|(right;simp;done)))) w.heap.size (Has.new w 3 #[.int .i64 id])).mono ?_;rintro e w2 ⟨rfl,hk⟩;have hk2:=Kept.then (F:=aj) (a:=w) (by(repeat'(first|(with_reducible first|exact ak|apply au|apply ay|apply aA|apply aB)|(right;simp;done)))) hk;have HK:=ah hk2;clear hk hk2;go_wp2_with fail;refine(HC.out _ HK.out).mono ?_;rintro e w3 ⟨A1,c1,rfl,hn,hk⟩;have bu:=ah (And.intro (HK.out.then hk) HK.out.size);clear HK hk;obtain⟨rb,cap,hv,_,hrl⟩:=hn.1.form (by omega);injection hv with hA _ hC;subst hA;subst hC;have HN:=ah hn;clear hn;go_wp2_with fail;refine(HJ.out _ _ _ HN.out.1).mono ?_;rintro e w4 ⟨rfl,ho,hk⟩;have HO:=ah (And.intro ho hk);clear ho hk;have hrb:w.heap.size<=rb:=by have h1:=HN.out.2 rb rfl;have h2:=bu.out.2;omega
  go_wp2;go_ret2
  exact HP.out _ _ _ ⟨HO.out.1,fun g hg=>by obtain rfl:rb=g:=by simpa [Value.ownBlock]using hg
                                            exact hrb⟩ (bu.out.1.trans HO.out.2 (fun i hi=> .inr (by subst hi;exact hrb)))
end Mst
namespace Mst
open aJ Vn
def oh:List Mem->Int
 |[]=> -1
 |m::_=>m.1
theorem Ey(w:World)(ep fl:Int)(A:Option Addr)(c:Nat)(l:List Mem)(hl:Src w 2 A l.length (aU l))(hlen:l.length<=1000000):
  Calls Tryz.prog 97 #[nC ep A l.length c fl] w fun e w'=>e=.returned (.int .i64 (oh l))/\Kept aj w w':=by
 cases l with
 |nil=>
  clear hl;simp only[List.length_nil];go_enter Tryz.func97,Tryz.ntmps97;go_wp2;go_ret;exact⟨rfl,by(repeat'(first|(with_reducible first|exact ak|apply au|apply ay|apply aA|apply aB)|(right;simp;done)))⟩
 |cons m r=>
  obtain⟨ad,rfl,had,d0,d1⟩:=jr hl (by simp) 0 m rfl;have d0':w.cell? ad=some (.int .i64 m.1):=d0;have afl:∀o,(w.alloc o).cell? ad=some (.int .i64 m.1):=fun o=>by rw[World.cell?_of_block (w:=w) (((Kept.refl aj w).alloc o).block _ had (fun x=>x))];exact d0'
  have e0:=afl (.cells #[.int .i64 ep,.slice (some ad) (m::r).length c,.int .u64 fl] 25);have hpos:0<(m::r).length:=by simp
  have HH:=ah (rfl:oh (m::r)=m.1);generalize(m::r).length=N at*
  rw[HH.out];have hp1:¬(N:Int)=0:=by omega
  have hp2:¬(N:Int)<=0:=by omega
  clear d0 d1 d0' afl hl had HH;have hadd:ad.add 0=ad:=by unfold Addr.add;rw[if_pos rfl]
  go_enter Tryz.func97,Tryz.ntmps97;go_wp2;go_ret;exact⟨rfl,by(repeat'(first|(with_reducible first|exact ak|apply au|apply ay|apply aA|apply aB)|(right;simp;done)))⟩
theorem CW(w:World)(A:Option Addr)(c:Nat)(l:List Int)(x:Int)(hl:Src w 1 A l.length (ints l))(hlen:l.length<=1000000):
  Calls Tryz.prog 167 #[.slice A l.length c,.int .i64 x] w fun e w'=>e=.returned (.int .i64 (iF (fun y=>decide (y=x)) l 0))/\Kept aj w w':=by
 have HL:=ah hl;clear hl;obtain⟨r,hr⟩:∃r,iF (fun y=>decide (y=x)) l 0=r:=⟨_,rfl⟩;rw[hr];have HR:=ah hr;clear hr;go_enter Tryz.func167,Tryz.ntmps167;go_wp2_with fail;go_loop [5,8] (fun v5 v8=>∃i:Nat,i<=l.length/\v8=.int .i64 i/\r=iF (fun y=>decide (y=x)) (l.drop i) i) (fun _ v8=>l.length-(intOf v8).toNat)
 case atStart=>exact⟨0,Nat.zero_le _,rfl,HR.out.symm⟩
 case round=>
  obtain⟨i,hi,rfl,hrr⟩:=hrel;by_cases hil:i<l.length
  ·obtain⟨y,hy⟩:∃y,l[i]? =some y:=⟨_,lB0 hil⟩;have hsa:=BI (fun y=>decide (y=x)) hy;obtain⟨ad,rfl,hl1,x0⟩:=qZ HL.out (by omega) i y hy;rw[hsa]at hrr;clear hsa hy;by_cases hyx:y=x
   ·subst hyx;rw[if_pos (by simp)]at hrr;have HRR:=ah hrr;clear hrr;go_wp2;go_ret;exact⟨by rw[HRR.out];rfl,Kept.refl _ _⟩
   ·rw[if_neg (by simpa using hyx)]at hrr;have HRR:=ah hrr;clear hrr;have hxy:¬x=y:=fun h=>hyx h.symm;go_wp2;go_round
    case rel=>exact⟨i+1,by omega,by go_num,HRR.out⟩
    case measure=>simp[intOf];omega
  ·obtain rfl:i=l.length:=by omega
   rw[List.drop_length,iF]at hrr;have HRR:=ah hrr;clear hrr;go_wp2;go_ret;exact⟨by rw[HRR.out];rfl,Kept.refl _ _⟩
theorem aeb(l:List Int)(x:Int):(l.any fun y=>decide (y=x))=inB l x:=by
 unfold inB;induction l with
 |nil=>rfl
 |cons a l ih=>
  have e:(x==a)=decide (a=x):=by rw[Bool.eq_iff_iff,beq_iff_eq,decide_eq_true_iff];exact eq_comm
  rw[List.any_cons,List.contains_cons,ih,e]
theorem lG(w:World)(A:Option Addr)(c:Nat)(l:List Int)(x:Int)(hl:Src w 1 A l.length (ints l))(hlen:l.length<=1000000):
  Calls Tryz.prog 93 #[.slice A l.length c,.int .i64 x] w fun e w'=>e=.returned (.bool (inB l x))/\Kept aj w w':=by
 have hi:=CW w A c l x hl hlen;have ha:=CQ (fun y=>decide (y=x)) l 0;rw[aeb]at ha;obtain⟨k,hk⟩:∃k,iF (fun y=>decide (y=x)) l 0=k:=⟨_,rfl⟩;rw[hk]at hi ha;rw[<-ha];have HI:=ah hi;clear hi hk hl ha;go_enter Tryz.func93,Tryz.ntmps93;go_wp2_with fail;refine HI.out.mono ?_;rintro e w2 ⟨rfl,hk⟩;have HK:=ah hk;clear hk;go_wp2;go_ret;exact⟨by simp,HK.out⟩
theorem XH(w:World)(x:aG)(b:Nat)(id:Int)(hb:Has w b 78 (aK x).toArray)(h:iR w x):
  Calls Tryz.prog 148 #[.int .i64 id,.pointer (some ⟨b,0,none⟩)] w fun e w'=>e=.returned (.bool (!cO x.ms id))/\Kept aj w w':=by
 have hm:=fun W (hW:Kept aj w W)=>oM W x.ep x.fl x.mA x.mc x.ms id (h.kept hW).m (by have:=h.ml;omega);obtain⟨r,hr⟩:∃r,cO x.ms id=r:=⟨_,rfl⟩;rw[hr]at hm⊢;clear hr h;obtain⟨k,n,at2,ep,mA,mc,ms,fl,lA,lc,lg,oA,oc,⟨ji,gK,ops⟩,ts,⟨p1,p2,p3⟩,⟨s1,s2,s3,s4⟩⟩:=x;have c3:=hb.cell 3;have c4:=hb.cell 4;have c5:=hb.cell 5;simp only[aK,lF0,List.getElem?_cons_zero,List.getElem?_cons_succ]at c3 c4 c5 hm;have HM:=ah hm;clear hm hb;go_enter Tryz.func148,Tryz.ntmps148;go_wp2_with fail;refine(HM.out _ (by(repeat'(first|(with_reducible first|exact ak|apply au|apply ay|apply aA|apply aB)|(right;simp;done))))).mono ?_;rintro e w2 ⟨rfl,hk⟩;have HK:=ah hk;clear hk;go_wp2;go_ret;exact⟨rfl,HK.out⟩
end Mst
theorem Kept.up{F:Nat->Prop}{a b:World}(h:Kept aj a b):Kept F a b:=h.mono (fun _ z=>z.elim)
namespace Mst
open aJ Vn
def mX(s:bQ)(x:aG):Int:=if x.ep<=s.ep then 18 else if(x.lg.any fun id=> !cO x.ms id)=true then 7 else if inB x.lg (oh x.ms)=false then 18 else 0
def kX(w:World)(b:Nat)(s:bQ)(x:aG)(pA:Option Addr)(pc:Nat)(e:Ending)(w':World):Prop:=
 (mX s x≠0/\e=.returned (.int .i64 (mX s x))/\Kept aj w w')\/
 (mX s x=0/\e=.returned (.int .i64 0)/\∃A c B d,Has w' b 121 (dL {s with ep:=x.ep,ms:=x.ms,fl:=x.fl,lg:=x.lg} A c B d pA pc true)/\
  aF 56 2 w.heap.size w' A x.ms.length c (aU x.ms)/\aF 3 1 w.heap.size w' B x.lg.length d (ints x.lg)/\Kept (fun k=>k=b) w w')
theorem next_any(w:World)(b:Nat)(s:bQ)(mA:Option Addr)(mc:Nat)(lA:Option Addr)(lc:Nat)(pA:Option Addr)(pc:Nat)(x:aG)(hb:Has w b 121 (dL s mA mc lA lc pA pc true))(h:iR w x):
  Calls Tryz.prog 81 #[.pointer (some ⟨b,0,none⟩),fU x] w (kX w b s x pA pc):=by
 obtain⟨E,hE⟩:∃E,mX s x=E:=⟨_,rfl⟩;have LH:∀w',E≠0->Kept aj w w'->kX w b s x pA pc (.returned (.int .i64 E)) w':=fun w' h0 hk=> .inl ⟨by rw[hE];exact h0,by rw[hE],hk⟩
 have hP0:∀w' A c B d,E=0->Has w' b 121 (dL {s with ep:=x.ep,ms:=x.ms,fl:=x.fl,lg:=x.lg} A c B d pA pc true)->
   aF 56 2 w.heap.size w' A x.ms.length c (aU x.ms)->aF 3 1 w.heap.size w' B x.lg.length d (ints x.lg)->Kept (fun k=>k=b) w w'->kX w b s x pA pc (.returned (.int .i64 0)) w':=
  fun w' A c B d h0 h1 h2 h3 h4=> .inr ⟨by rw[hE,h0],rfl,A,c,B,d,h1,h2,h3,h4⟩
 unfold mX at hE;have hbn:b≠w.heap.size:=by have:=hb.lt;omega
 obtain⟨W0,hW0⟩:∃W0,w.alloc (.cells (aK x).toArray 78)=W0:=⟨_,rfl⟩;have hk0:Kept aj w W0:=by rw[<-hW0];(repeat'(first|(with_reducible first|exact ak|apply au|apply ay|apply aA|apply aB)|(right;simp;done)))
 have hn0:Has W0 w.heap.size 78 (aK x).toArray:=by rw[<-hW0];exact Has.new _ _ _
 have hb0:=hb.kept hk0 (fun z=>z);have h0:=h.kept hk0
 have hstr:=fun W (hW:Kept aj W0 W)=>UF W x.lA x.lc x.lg 148 (.pointer (some ⟨w.heap.size,0,none⟩)) (fun id=> !cO x.ms id) (fun args W=>enters Tryz.func148 (by kernel_rfl) rfl args W) (h0.kept hW).l (by have:=h.ll;omega)
  (fun W2 y hW2 _=>XH W2 x w.heap.size y ((hn0.kept hW (fun z=>z)).kept hW2 (fun z=>z)) ((h0.kept hW).kept hW2))
 have hhead:=fun W (hW:Kept aj W0 W)=>Ey W x.ep x.fl x.mA x.mc x.ms (h0.kept hW).m (by have:=h.ml;omega);have hcon:=fun W (hW:Kept aj W0 W)=>lG W x.lA x.lc x.lg (oh x.ms) (h0.kept hW).l (by have:=h.ll;omega);have hown:=fun W (hW:Kept aj W0 W)=>Kz W x.ep x.fl x.mA x.mc x.ms (h0.kept hW).m (by have:=h.ml;omega);have hcl:=fun W (hW:Kept aj W0 W)=>zh W x.lA x.lc x.lg (h0.kept hW).l (by have:=h.ll;omega);obtain⟨S7,hS7⟩:∃S7,(x.lg.any fun id=> !cO x.ms id)=S7:=⟨_,rfl⟩;obtain⟨S8,hS8⟩:∃S8,inB x.lg (oh x.ms)=S8:=⟨_,rfl⟩;obtain⟨HI,hHI⟩:∃HI,oh x.ms=HI:=⟨_,rfl⟩;rw[hS7,hS8]at hE;rw[hS7]at hstr;rw[hS8]at hcon;rw[hHI]at hcon hhead;clear h h0 hS7 hS8 hHI;obtain⟨k,n,at2,ep,xw,xx,ms,fl,lA2,xA,lg,oA,oc,⟨ji,gK,ops⟩,ts,⟨p1,p2,p3⟩,⟨s1,s2,s3,s4⟩⟩:=x;simp only[aK]at hP0 LH hE hn0 hstr hhead hcon hown hcl;have hcells:∀W,Kept aj W0 W->W.cell? ⟨w.heap.size,3,none⟩=some (.int .i64 ep)/\W.cell? ⟨w.heap.size,4,none⟩=some (.slice xw ms.length xx)/\W.cell? ⟨w.heap.size,5,none⟩=some (.int .u64 fl)/\W.cell? ⟨w.heap.size,6,none⟩=some (.slice lA2 lg.length xA):=fun W hW=>by have g:=hn0.kept hW (fun z=>z);exact⟨g.cell 3,g.cell 4,g.cell 5,g.cell 6⟩
 have hfr:∀W,Kept aj W0 W->Has W b 121 (dL s mA mc lA lc pA pc true):=fun W hW=>hb0.kept hW (fun z=>z);have Tz:∀W,Kept (fun k=>k=b) W0 W->W.cell? ⟨w.heap.size,3,none⟩=some (.int .i64 ep)/\W.cell? ⟨w.heap.size,4,none⟩=some (.slice xw ms.length xx)/\W.cell? ⟨w.heap.size,5,none⟩=some (.int .u64 fl)/\W.cell? ⟨w.heap.size,6,none⟩=some (.slice lA2 lg.length xA):=fun W hW=>by have g:=hn0.kept hW (fun z=>hbn z.symm);exact⟨g.cell 3,g.cell 4,g.cell 5,g.cell 6⟩
 have ahw:=ah Tz;clear Tz;obtain⟨c3,c4,c5,c6⟩:=hcells W0 (Kept.refl _ _);have cb:=hb0.cell 0;simp only[lF0,List.getElem?_cons_zero,List.getElem?_cons_succ]at cb;have DW:=ah LH;have XI:=ah hP0;have HE:=ah hE;have HST:=ah hstr;have Lt:=ah hhead;have UT:=ah hcon;have qp:=ah hown;have oL:=ah hcl;have iY:=ah hcells;have Gt:=ah hfr;have bf:=ah hk0;have XJ:=ah (And.intro hbn hb.lt);clear LH hP0 hE hstr hhead hcon hown hcl hcells hfr hb hb0 hn0 hk0 hbn;go_enter Tryz.func81,Tryz.ntmps81;go_wp2_with fail;clear hW0;by_cases h1:ep<=s.ep
 ·have he:=HE.out;rw[if_pos h1]at he;subst he;go_quiet (fail);go_wp2;go_ret;exact DW.out _ (by decide) (bf.out.then (by(repeat'(first|(with_reducible first|exact ak|apply au|apply ay|apply aA|apply aB)|(right;simp;done)))))
 ·have he:=HE.out;rw[if_neg h1]at he;clear HE;have HE:=ah he;clear he;go_quiet (fail);have q:=iY.out (W0.drewN nq) (by(repeat'(first|(with_reducible first|exact ak|apply au|apply ay|apply aA|apply aB)|(right;simp;done))));obtain⟨q3,q4,q5,q6⟩:=q;clear c3 c4 c5 c6 cb;go_wp2_with fail;refine(HST.out _ (by(repeat'(first|(with_reducible first|exact ak|apply au|apply ay|apply aA|apply aB)|(right;simp;done))))).mono ?_;rintro e w2 ⟨rfl,hk⟩;have hk2:=Kept.then (F:=aj) (a:=W0) (by(repeat'(first|(with_reducible first|exact ak|apply au|apply ay|apply aA|apply aB)|(right;simp;done)))) hk;have aV:=ah hk2;clear hk hk2 q3 q4 q5 q6;cases S7
  ·have he:=HE.out;rw[if_neg (by simp)]at he;clear HE;have HE:=ah he;clear he;obtain⟨q3,q4,q5,q6⟩:=iY.out w2 aV.out;go_wp2_with fail;have HS:=ah (Kept.refl aj w2)
   go_region_held3 (fun W=>W.cell? ⟨w.heap.size,3,none⟩=some (.int .i64 ep)/\W.cell? ⟨w.heap.size,4,none⟩=some (.slice xw ms.length xx)/\W.cell? ⟨w.heap.size,5,none⟩=some (.int .u64 fl)/\W.cell? ⟨w.heap.size,6,none⟩=some (.slice lA2 lg.length xA))
    (first|with_reducible exact iY.out _ (aV.out.then HS.out)|exact iY.out _ (aV.out.then HS.out.drew)|(simp[go_sem,q3,q4,q5,q6];done))
    (first
     |(go_at_call 97;((with_reducible refine(Lt.out _ ?_).mono ?_);exact aV.out.then (by(repeat'(first|(with_reducible first|exact ak|apply au|apply ay|apply aA|apply aB)|(exact HS.out)|(right;simp;done))));rintro e w5 ⟨rfl,hk0⟩;have hk:=Kept.then (F:=aj) (a:=w2) (by(repeat'(first|(with_reducible first|exact ak|apply au|apply ay|apply aA|apply aB)|(exact HS.out)|(right;simp;done)))) hk0;clear HS hk0;have HS:=ah hk;clear hk))
     |(go_at_call 93;((with_reducible refine(UT.out _ ?_).mono ?_);exact aV.out.then (by(repeat'(first|(with_reducible first|exact ak|apply au|apply ay|apply aA|apply aB)|(exact HS.out)|(right;simp;done))));rintro e w5 ⟨rfl,hk0⟩;have hk:=Kept.then (F:=aj) (a:=w2) (by(repeat'(first|(with_reducible first|exact ak|apply au|apply ay|apply aA|apply aB)|(exact HS.out)|(right;simp;done)))) hk0;clear HS hk0;have HS:=ah hk;clear hk)))
   have dB:=ah (aV.out.then HS.out);clear HS aV q3 q4 q5 q6;obtain⟨q3,q4,q5,q6⟩:=iY.out w5 dB.out;cases S8
   ·have he:=HE.out;rw[if_pos rfl]at he;subst he;go_wp2;go_ret;exact DW.out _ (by decide) (bf.out.then dB.out)
   ·have he:=HE.out;rw[if_neg (by simp)]at he;clear HE;have HE:=ah he;clear he;have hst:∀W,Kept aj w5 W->W.cell? ⟨b,0,none⟩=some (.int .i64 s.ep)/\W.cell? ⟨b,1,none⟩=some (.slice mA s.ms.length mc)/\W.cell? ⟨b,2,none⟩=some (.int .u64 s.fl)/\W.cell? ⟨b,3,none⟩=some (.slice lA s.lg.length lc)/\W.frozen? ⟨b,0,none⟩=false/\W.frozen? ⟨b,1,none⟩=false/\W.frozen? ⟨b,2,none⟩=false/\W.frozen? ⟨b,3,none⟩=false:=fun W hW=>by have g:=Gt.out W (dB.out.then hW);exact⟨g.cell 0,g.cell 1,g.cell 2,g.cell 3,g.frozen 0,g.frozen 1,g.frozen 2,g.frozen 3⟩
    have zi:=ah hst;clear hst;go_wp2_with fail;have HS:=ah (Kept.refl aj w5)
    go_region_held3 (fun W=>W.cell? ⟨w.heap.size,3,none⟩=some (.int .i64 ep)/\W.cell? ⟨w.heap.size,4,none⟩=some (.slice xw ms.length xx)/\W.cell? ⟨w.heap.size,5,none⟩=some (.int .u64 fl)/\W.cell? ⟨w.heap.size,6,none⟩=some (.slice lA2 lg.length xA))
     (first|with_reducible exact iY.out _ (dB.out.then HS.out)|(refine ahw.out _ ?_;(repeat'(first|(with_reducible first|exact ak|apply au|apply ay|apply aA|apply aB)|(first|exact Or.inl (Or.inl rfl)|exact Or.inl rfl|with_reducible exact Kept.up (dB.out.then HS.out))|(right;simp;done)));done)|exact iY.out _ (dB.out.then HS.out.drew)|(simp[go_sem,q3,q4,q5,q6];done))
     (first
      |(go_at_call 86;((with_reducible refine(qp.out _ ?_).mono ?_);exact dB.out.then (by(repeat'(first|(with_reducible first|exact ak|apply au|apply ay|apply aA|apply aB)|(exact HS.out)|(right;simp;done))));rintro e w6 ⟨A1,c1,rfl,hn1,hk0⟩;have hk:=Kept.then (F:=aj) (a:=w5) (by(repeat'(first|(with_reducible first|exact ak|apply au|apply ay|apply aA|apply aB)|(exact HS.out)|(right;simp;done)))) hk0;have Gu:=ah (And.intro hn1 HS.out.size);obtain⟨k0,k1,k2,k3,f0,f1,f2,f3⟩:=zi.out _ hk;clear HS hn1;have BK:=ah hk0;clear hk0;have HS:=ah hk;clear hk))
      |(go_at_call 124;((with_reducible refine(oL.out _ ?_).mono ?_);exact dB.out.then (by(repeat'(first|(with_reducible first|exact ak|apply au|apply ay|apply aA|apply aB)|(exact HS.out)|(right;simp;done))));rintro e w7 ⟨A2,c2,rfl,hn2,hk0⟩;have hk:=Kept.then (F:=aj) (a:=w5) (by(repeat'(first|(with_reducible first|exact ak|apply au|apply ay|apply aA|apply aB)|(exact HS.out)|(right;simp;done)))) hk0;have dV:=ah (And.intro hn2 HS.out.size);obtain⟨k0,k1,k2,k3,f0,f1,f2,f3⟩:=zi.out _ hk;clear HS hn2;have DX:=ah hk0;clear hk0;have HS:=ah hk;clear hk)))
    have hb7:=Gt.out w7 (dB.out.then HS.out);have ho1:=aC (F:=aj) Gu.out.1.1 (Kept.then (F:=aj) (by(repeat'(first|(with_reducible first|exact ak|apply au|apply ay|apply aA|apply aB)|(right;simp;done)))) DX.out) (fun _ _ z=>z);have ho2:=dV.out.1.1;have hne1:=own_ne ho1 hb7 (by decide);have hne2:=own_ne ho2 hb7 (by decide);have hz1:=Gu.out.1.2;have hz2:=dV.out.1.2;have hs1:=Gu.out.2;have hs2:=dV.out.2;have hs0:=(bf.out.then dB.out).size;have nG:=bf.out.then (dB.out.then HS.out);have HX:=ah (And.intro ho1 (And.intro ho2 (And.intro hne1 (And.intro hne2 (And.intro hz1 hz2)))));have HZ:=ah (And.intro hs1 (And.intro hs2 hs0));have HB7:=ah hb7;have DU:=ah nG;have XK:=ah HE.out;clear ho1 ho2 hne1 hne2 hz1 hz2 hs1 hs2 hs0 hb7 nG q3 q4 q5 q6 k0 k1 k2 k3 f0 f1 f2 f3 Gu dV BK DX HE;go_wp2;go_ret;obtain⟨ho1,ho2,hne1,hne2,hz1,hz2⟩:=HX.out;obtain⟨hs1,hs2,hs0⟩:=HZ.out
    have iM:Kept (fun k=>k=b) w7 ((((w7.setCell ⟨b,0,none⟩ (.int .i64 ep)).setCell ⟨b,1,none⟩ (.slice A1 ms.length c1)).setCell ⟨b,2,none⟩ (.int .u64 fl)).setCell ⟨b,3,none⟩ (.slice A2 lg.length c2)):=
     ((((Kept.refl (fun k=>k=b) w7).put (.inl rfl)).put (.inl rfl)).put (.inl rfl)).put (.inl rfl)
    refine XI.out _ A1 c1 A2 c2 XK.out.symm ?_ ⟨aC ho1 iM (fun g hg hF=>hne1 (by rw[hg,hF])),fun g hg=> ?_⟩ ⟨aC ho2 iM (fun g hg hF=>hne2 (by rw[hg,hF])),fun g hg=> ?_⟩ ((Kept.up DU.out).then iM)
    ·((repeat (first|with_reducible exact HB7.out|with_reducible apply Has.dH|with_reducible apply Has.past|with_reducible apply Has.drewN|with_reducible apply Has.drew|with_reducible apply Has.alloc))<;>first|omega|rfl)
    ·exact Nat.le_trans hs0 (Nat.le_trans hs1 (hz1 g hg))
    ·exact Nat.le_trans hs0 (Nat.le_trans hs2 (hz2 g hg))
  ·have he:=HE.out;rw[if_pos rfl]at he;subst he;go_wp2;go_ret;exact DW.out _ (by decide) (bf.out.then aV.out)
end Mst
end Go.Proofs.YtomccaocggplgaaGreat
namespace Go.Proofs.YtomccaocggplgaaGreat
open Go.Shelf Go.Sort Go.RowKit
namespace XL
def RQ:Go.Shelf.Ren:=⟨fun|189=>58|125=>121|257=>120|128=>204|129=>205|294=>195|295=>196|296=>197|297=>198|298=>199|299=>200|216=>201|300=>202|301=>203|328=>238|329=>239|330=>240|331=>241|332=>242|215=>243|343=>253|n=>n,fun|28=>71|3=>3|46=>189|0=>0|51=>271|53=>23|4=>4|183=>264|182=>263|131=>122|5=>5|9=>9|218=>313|222=>224|228=>323|229=>324|n=>n,fun|n=>n⟩
theorem lays189:Go.Proofs.Lays.n189 Tryz.prog RQ:={
 mixed:=by kernel_rfl
 f125:=Tryz.func121.trans (congrArg some (by kernel_rfl))
 f128:=Tryz.func204.trans (congrArg some (by kernel_rfl))
 f129:=Tryz.func205.trans (congrArg some (by kernel_rfl))
 f189:=Tryz.func58.trans (congrArg some (by kernel_rfl))
 f215:=Tryz.func243.trans (congrArg some (by kernel_rfl))
 f216:=Tryz.func201.trans (congrArg some (by kernel_rfl))
 f257:=Tryz.func120.trans (congrArg some (by kernel_rfl))
 f294:=Tryz.func195.trans (congrArg some (by kernel_rfl))
 f295:=Tryz.func196.trans (congrArg some (by kernel_rfl))
 f296:=Tryz.func197.trans (congrArg some (by kernel_rfl))
 f297:=Tryz.func198.trans (congrArg some (by kernel_rfl))
 f298:=Tryz.func199.trans (congrArg some (by kernel_rfl))
 f299:=Tryz.func200.trans (congrArg some (by kernel_rfl))
 f300:=Tryz.func202.trans (congrArg some (by kernel_rfl))
 f301:=Tryz.func203.trans (congrArg some (by kernel_rfl))
 f328:=Tryz.func238.trans (congrArg some (by kernel_rfl))
 f329:=Tryz.func239.trans (congrArg some (by kernel_rfl))
 f330:=Tryz.func240.trans (congrArg some (by kernel_rfl))
 f331:=Tryz.func241.trans (congrArg some (by kernel_rfl))
 f332:=Tryz.func242.trans (congrArg some (by kernel_rfl))
 f343:=Tryz.func253.trans (congrArg some (by kernel_rfl))
 t0:=Tryz.underlying0
 a0:=Tryz.isAgg0
 z0:=Tryz.sizeOf0
 v0:=Tryz.zeroValue0
 t3:=Tryz.underlying3
 a3:=Tryz.isAgg3
 z3:=Tryz.sizeOf3
 v3:=Tryz.zeroValue3
 t4:=Tryz.underlying4
 a4:=Tryz.isAgg4
 z4:=Tryz.sizeOf4
 v4:=Tryz.zeroValue4
 t5:=Tryz.underlying5
 a5:=Tryz.isAgg5
 z5:=Tryz.sizeOf5
 v5:=Tryz.zeroValue5
 t9:=Tryz.underlying9
 a9:=Tryz.isAgg9
 z9:=Tryz.sizeOf9
 v9:=Tryz.zeroValue9
 t28:=Tryz.underlying71
 a28:=Tryz.isAgg71
 z28:=Tryz.sizeOf71
 v28:=Tryz.zeroValue71
 t46:=Tryz.underlying189
 a46:=Tryz.isAgg189
 z46:=Tryz.sizeOf189
 v46:=Tryz.zeroValue189
 t51:=Tryz.underlying271
 a51:=Tryz.isAgg271
 z51:=Tryz.sizeOf271
 v51:=Tryz.zeroValue271
 t53:=Tryz.underlying23
 a53:=Tryz.isAgg23
 z53:=Tryz.sizeOf23
 v53:=Tryz.zeroValue23
 t131:=Tryz.underlying122
 a131:=Tryz.isAgg122
 z131:=Tryz.sizeOf122
 v131:=Tryz.zeroValue122
 t182:=Tryz.underlying263
 a182:=Tryz.isAgg263
 z182:=Tryz.sizeOf263
 v182:=Tryz.zeroValue263
 t183:=Tryz.underlying264
 a183:=Tryz.isAgg264
 z183:=Tryz.sizeOf264
 v183:=Tryz.zeroValue264
 t218:=Tryz.underlying313
 a218:=Tryz.isAgg313
 z218:=Tryz.sizeOf313
 v218:=Tryz.zeroValue313
 t222:=Tryz.underlying224
 a222:=Tryz.isAgg224
 z222:=Tryz.sizeOf224
 v222:=Tryz.zeroValue224
 t228:=Tryz.underlying323
 a228:=Tryz.isAgg323
 z228:=Tryz.sizeOf323
 v228:=Tryz.zeroValue323
 t229:=Tryz.underlying324
 a229:=Tryz.isAgg324
 z229:=Tryz.sizeOf324
 v229:=Tryz.zeroValue324}
theorem slices_Sort_int(blk off cap:Nat)(zs:List Int)(w:World)(hH:Holds (Value.int .i64) w blk off zs.toArray)(hblk:blk<w.heap.size)(hsz:zs.length<4611686018427387904):
  Calls Tryz.prog 58 #[.slice (some ⟨blk,off,none⟩) zs.length cap] w fun e w'=>
   e=.returned (.tuple #[])/\∃n os,w'=grow (putRow (Value.int .i64) (Sort.ahead w n) blk off (zs.mergeSort fun x y=>decide (x<=y)).toArray) os:=Any.slices_Sort_int lays189 blk off cap zs w hH hblk hsz
theorem slices_Sort_int_none(p:Option Addr)(cap:Nat)(w:World):
  Calls Tryz.prog 58 #[.slice p 0 cap] w fun e w'=>e=.returned (.tuple #[])/\w'=w:=Any.slices_Sort_int_none lays189 p cap w
