/- Part 10 of what the proof needs. -/
import Derived.Test.YtfjdpbbgfjhnlaaGreatMK08
set_option linter.unusedSimpArgs false
set_option linter.unusedVariables false
set_option maxHeartbeats 32000000
set_option maxRecDepth 100000
namespace Go.Proofs.YtfjdpbbgfjhnlaaGreat
open Go.RowKit
set_option maxRecDepth 100000
namespace Mst
open aO Vn
def rH(w:World)(b:Nat)(old req:Int)(cs:Array Value)(e:Ending)(w':World):Prop:=
 (req<old/\e=.returned (.int .i64 18)/\Kept aj w w')\/(¬req<old/\e=.returned (.int .i64 0)/\Has w' b 124 cs/\Kept (fun k=>k=b) w w')
theorem aav(w:World)(b:Nat)(s:bQ)(mA:Option Addr)(mc:Nat)(lA:Option Addr)(lc:Nat)(pA:Option Addr)(pc:Nat)(req e2 pin:Int)(hb:Has w b 124 (dG s mA mc lA lc pA pc true)):
  Calls Tryz.prog 91 #[.pointer (some ⟨b,0,none⟩),.agg #[.int .i64 0,.int .i64 req,.int .i64 e2,.int .i64 pin]] w (rH w b s.t0.req req (dG {s with t0:=⟨0,req,e2,pin⟩} mA mc lA lc pA pc true)):=by
 have hk1:Kept aj w (w.alloc (.cells #[.int .i64 0,.int .i64 req,.int .i64 e2,.int .i64 pin] 56)):=by(repeat'(first|(with_reducible first|exact ak|apply au|apply ay|apply aA|apply aB)|(right;simp;done)))
 have hb1:=hb.kept hk1 (fun z=>z)
 obtain⟨W1,hW1⟩:∃W1,w.alloc (.cells #[.int .i64 0,.int .i64 req,.int .i64 e2,.int .i64 pin] 56)=W1:=⟨_,rfl⟩
 have ha:=Has.new w 56 #[.int .i64 0,.int .i64 req,.int .i64 e2,.int .i64 pin]
 rw[hW1]at ha hb1 hk1
 have c1:=hb1.cell 8
 have a0:=ha.cell 0
 have a1:=ha.cell 1
 have a2:=ha.cell 2
 have a3:=ha.cell 3
 simp only[List.getElem?_toArray,List.getElem?_cons_zero,List.getElem?_cons_succ]at c1 a0 a1 a2 a3
 have f0:=hb1.frozen 7
 have f1:=hb1.frozen (7+1)
 have f2:=hb1.frozen (7+2)
 have f3:=hb1.frozen (7+3)
 have k0:=hb1.cell 7
 have k2:=hb1.cell (7+2)
 have k3:=hb1.cell (7+3)
 simp only[List.getElem?_toArray,List.getElem?_cons_zero,List.getElem?_cons_succ]at k0 k2 k3
 have HB:=ah hb1;have HK:=ah hk1
 clear hb hb1 hk1 ha
 by_cases hr:req<s.t0.req
 ·go_enter Tryz.func91,Tryz.ntmps91
  go_wp2_with fail
  go_quiet (fail)
  go_wp2
  go_ret
  exact .inl ⟨hr,rfl,HK.out.drewN _⟩
 ·go_enter Tryz.func91,Tryz.ntmps91
  go_wp2_with fail
  go_quiet (fail)
  go_wp2_with fail
  refine wp_region_still_tail 7 (by kernel_rfl) (by kernel_rfl) ?_
  simp only[List.take_succ_cons,List.take_zero,List.drop_succ_cons,List.drop_zero]
  change wpStill _ _ (World.drew (W1.drewN _)) _ _ _
  repeat still_step
  refine wpStill_nil ?_
  change wpList _ _ _ _ _ (World.drew (W1.drewN _))
  go_wp2
  go_ret
  refine .inr ⟨by omega,rfl,?_,?_⟩
  ·((repeat (first|with_reducible exact HB.out|with_reducible apply Has.dB|with_reducible apply Has.past|with_reducible apply Has.drewN|with_reducible apply Has.drew|with_reducible apply Has.alloc))<;>first|omega|rfl)
  ·have hm:Kept (fun k=>k=b) w (W1.drewN (nq+1)):=(HK.out.mono (fun _ x=>x.elim)).drewN _
   exact(((hm.put (.inl rfl)).put (.inl rfl)).put (.inl rfl)).put (.inl rfl)
theorem aaw(w:World)(b:Nat)(s:bQ)(mA:Option Addr)(mc:Nat)(lA:Option Addr)(lc:Nat)(pA:Option Addr)(pc:Nat)(req e2 pin:Int)(hb:Has w b 124 (dG s mA mc lA lc pA pc true)):
  Calls Tryz.prog 91 #[.pointer (some ⟨b,0,none⟩),.agg #[.int .i64 1,.int .i64 req,.int .i64 e2,.int .i64 pin]] w (rH w b s.t1.req req (dG {s with t1:=⟨1,req,e2,pin⟩} mA mc lA lc pA pc true)):=by
 have hk1:Kept aj w (w.alloc (.cells #[.int .i64 1,.int .i64 req,.int .i64 e2,.int .i64 pin] 56)):=by(repeat'(first|(with_reducible first|exact ak|apply au|apply ay|apply aA|apply aB)|(right;simp;done)))
 have hb1:=hb.kept hk1 (fun z=>z)
 obtain⟨W1,hW1⟩:∃W1,w.alloc (.cells #[.int .i64 1,.int .i64 req,.int .i64 e2,.int .i64 pin] 56)=W1:=⟨_,rfl⟩
 have ha:=Has.new w 56 #[.int .i64 1,.int .i64 req,.int .i64 e2,.int .i64 pin]
 rw[hW1]at ha hb1 hk1
 have c1:=hb1.cell 12
 have a0:=ha.cell 0
 have a1:=ha.cell 1
 have a2:=ha.cell 2
 have a3:=ha.cell 3
 simp only[List.getElem?_toArray,List.getElem?_cons_zero,List.getElem?_cons_succ]at c1 a0 a1 a2 a3
 have f0:=hb1.frozen 11
 have f1:=hb1.frozen (11+1)
 have f2:=hb1.frozen (11+2)
 have f3:=hb1.frozen (11+3)
 have k0:=hb1.cell 11
 have k2:=hb1.cell (11+2)
 have k3:=hb1.cell (11+3)
 simp only[List.getElem?_toArray,List.getElem?_cons_zero,List.getElem?_cons_succ]at k0 k2 k3
 have HB:=ah hb1;have HK:=ah hk1
 clear hb hb1 hk1 ha
 by_cases hr:req<s.t1.req
 ·go_enter Tryz.func91,Tryz.ntmps91
  go_wp2_with fail
  go_quiet (fail)
  go_wp2
  go_ret
  exact .inl ⟨hr,rfl,HK.out.drewN _⟩
 ·go_enter Tryz.func91,Tryz.ntmps91
  go_wp2_with fail
  go_quiet (fail)
  go_wp2_with fail
  refine wp_region_still_tail 7 (by kernel_rfl) (by kernel_rfl) ?_
  simp only[List.take_succ_cons,List.take_zero,List.drop_succ_cons,List.drop_zero]
  change wpStill _ _ (World.drew (W1.drewN _)) _ _ _
  repeat still_step
  refine wpStill_nil ?_
  change wpList _ _ _ _ _ (World.drew (W1.drewN _))
  go_wp2
  go_ret
  refine .inr ⟨by omega,rfl,?_,?_⟩
  ·((repeat (first|with_reducible exact HB.out|with_reducible apply Has.dB|with_reducible apply Has.past|with_reducible apply Has.drewN|with_reducible apply Has.drew|with_reducible apply Has.alloc))<;>first|omega|rfl)
  ·have hm:Kept (fun k=>k=b) w (W1.drewN (nq+1)):=(HK.out.mono (fun _ x=>x.elim)).drewN _
   exact(((hm.put (.inl rfl)).put (.inl rfl)).put (.inl rfl)).put (.inl rfl)
theorem aax(w:World)(b:Nat)(s:bQ)(mA:Option Addr)(mc:Nat)(lA:Option Addr)(lc:Nat)(pA:Option Addr)(pc:Nat)(req e2 pin:Int)(hb:Has w b 124 (dG s mA mc lA lc pA pc true)):
  Calls Tryz.prog 91 #[.pointer (some ⟨b,0,none⟩),.agg #[.int .i64 2,.int .i64 req,.int .i64 e2,.int .i64 pin]] w (rH w b s.t2.req req (dG {s with t2:=⟨2,req,e2,pin⟩} mA mc lA lc pA pc true)):=by
 have hk1:Kept aj w (w.alloc (.cells #[.int .i64 2,.int .i64 req,.int .i64 e2,.int .i64 pin] 56)):=by(repeat'(first|(with_reducible first|exact ak|apply au|apply ay|apply aA|apply aB)|(right;simp;done)))
 have hb1:=hb.kept hk1 (fun z=>z)
 obtain⟨W1,hW1⟩:∃W1,w.alloc (.cells #[.int .i64 2,.int .i64 req,.int .i64 e2,.int .i64 pin] 56)=W1:=⟨_,rfl⟩
 have ha:=Has.new w 56 #[.int .i64 2,.int .i64 req,.int .i64 e2,.int .i64 pin]
 rw[hW1]at ha hb1 hk1
 have c1:=hb1.cell 16
 have a0:=ha.cell 0
 have a1:=ha.cell 1
 have a2:=ha.cell 2
 have a3:=ha.cell 3
 simp only[List.getElem?_toArray,List.getElem?_cons_zero,List.getElem?_cons_succ]at c1 a0 a1 a2 a3
 have f0:=hb1.frozen 15
 have f1:=hb1.frozen (15+1)
 have f2:=hb1.frozen (15+2)
 have f3:=hb1.frozen (15+3)
 have k0:=hb1.cell 15
 have k2:=hb1.cell (15+2)
 have k3:=hb1.cell (15+3)
 simp only[List.getElem?_toArray,List.getElem?_cons_zero,List.getElem?_cons_succ]at k0 k2 k3
 have HB:=ah hb1;have HK:=ah hk1
 clear hb hb1 hk1 ha
 by_cases hr:req<s.t2.req
 ·go_enter Tryz.func91,Tryz.ntmps91
  go_wp2_with fail
  go_quiet (fail)
  go_wp2
  go_ret
  exact .inl ⟨hr,rfl,HK.out.drewN _⟩
 ·go_enter Tryz.func91,Tryz.ntmps91
  go_wp2_with fail
  go_quiet (fail)
  go_wp2_with fail
  refine wp_region_still_tail 7 (by kernel_rfl) (by kernel_rfl) ?_
  simp only[List.take_succ_cons,List.take_zero,List.drop_succ_cons,List.drop_zero]
  change wpStill _ _ (World.drew (W1.drewN _)) _ _ _
  repeat still_step
  refine wpStill_nil ?_
  change wpList _ _ _ _ _ (World.drew (W1.drewN _))
  go_wp2
  go_ret
  refine .inr ⟨by omega,rfl,?_,?_⟩
  ·((repeat (first|with_reducible exact HB.out|with_reducible apply Has.dB|with_reducible apply Has.past|with_reducible apply Has.drewN|with_reducible apply Has.drew|with_reducible apply Has.alloc))<;>first|omega|rfl)
  ·have hm:Kept (fun k=>k=b) w (W1.drewN (nq+1)):=(HK.out.mono (fun _ x=>x.elim)).drewN _
   exact(((hm.put (.inl rfl)).put (.inl rfl)).put (.inl rfl)).put (.inl rfl)
end Mst
namespace Mst
open aO Vn
theorem JI(w:World)(b:Nat)(s:bQ)(mA:Option Addr)(mc:Nat)(lA:Option Addr)(lc:Nat)(pA:Option Addr)(pc:Nat)(hb:Has w b 124 (dG s mA mc lA lc pA pc true)):Calls Tryz.prog 29 #[.pointer (some ⟨b,0,none⟩)] w fun e w'=>e=.returned (.int .u64 s.hz)/\Kept aj w w':=by
 have h:=fun W (hW:Kept aj w W)=>dR W b s mA mc lA lc pA pc true (hb.kept hW (fun z=>z))
 have hc:=fun W (hW:Kept aj w W)=>(hb.kept hW (fun z=>z)).cell 4
 simp only[List.getElem?_toArray,List.getElem?_cons_zero,List.getElem?_cons_succ]at hc
 have H:=ah h;have HC:=ah hc;clear h hc hb
 go_enter Tryz.func29,Tryz.ntmps29
 go_wp2_with fail
 refine(H.out _ (by(repeat'(first|(with_reducible first|exact ak|apply au|apply ay|apply aA|apply aB)|(right;simp;done))))).mono ?_
 rintro e w2 ⟨rfl,hk⟩
 have c0:=HC.out _ hk
 have HK:=ah hk;clear hk
 go_wp2
 go_ret
 exact⟨rfl,HK.out⟩
theorem Uf(w:World)(b:Nat)(s:bQ)(mA:Option Addr)(mc:Nat)(lA:Option Addr)(lc:Nat)(pA:Option Addr)(pc:Nat)(hb:Has w b 124 (dG s mA mc lA lc pA pc true)):Calls Tryz.prog 233 #[.pointer (some ⟨b,0,none⟩)] w fun e w'=>e=.returned (.int .i64 s.top)/\Kept aj w w':=by
 have h:=fun W (hW:Kept aj w W)=>dR W b s mA mc lA lc pA pc true (hb.kept hW (fun z=>z))
 have hc:=fun W (hW:Kept aj w W)=>(hb.kept hW (fun z=>z)).cell 6
 simp only[List.getElem?_toArray,List.getElem?_cons_zero,List.getElem?_cons_succ]at hc
 have H:=ah h;have HC:=ah hc;clear h hc hb
 go_enter Tryz.func233,Tryz.ntmps233
 go_wp2_with fail
 refine(H.out _ (by(repeat'(first|(with_reducible first|exact ak|apply au|apply ay|apply aA|apply aB)|(right;simp;done))))).mono ?_
 rintro e w2 ⟨rfl,hk⟩
 have c0:=HC.out _ hk
 have HK:=ah hk;clear hk
 go_wp2
 go_ret
 exact⟨rfl,HK.out⟩
theorem N6(w:World)(b:Nat)(s:bQ)(mA:Option Addr)(mc:Nat)(lA:Option Addr)(lc:Nat)(pA:Option Addr)(pc:Nat)(hb:Has w b 124 (dG s mA mc lA lc pA pc true))(hl:Src w 1 lA s.lg.length (ints s.lg))(hlen:s.lg.length<=1000000):Calls Tryz.prog 45 #[.pointer (some ⟨b,0,none⟩)] w (yH w s.lg):=by
 have hcl:=fun W (hW:Kept aj w W)=>yI W lA lc s.lg (hl.kept hW (fun _ _ z=>z)) hlen
 have hP:∀W w' A c,Kept aj w W->aF 3 1 W.heap.size w' A s.lg.length c (ints s.lg)->Kept aj W w'->yH w s.lg (.returned (.slice A s.lg.length c)) w':=fun W w' A c hW h1 h2=>⟨A,c,rfl,⟨h1.1,fun k hk=>Nat.le_trans hW.size (h1.2 k hk)⟩,hW.then h2⟩
 have nX:=ah hcl;have HP:=ah hP;clear hcl hl hP
 have h:=fun W (hW:Kept aj w W)=>dR W b s mA mc lA lc pA pc true (hb.kept hW (fun z=>z))
 have hc:=fun W (hW:Kept aj w W)=>(hb.kept hW (fun z=>z)).cell 3
 simp only[List.getElem?_toArray,List.getElem?_cons_zero,List.getElem?_cons_succ]at hc
 have H:=ah h;have HC:=ah hc;clear h hc hb
 go_enter Tryz.func45,Tryz.ntmps45
 go_wp2_with fail
 refine(H.out _ (by(repeat'(first|(with_reducible first|exact ak|apply au|apply ay|apply aA|apply aB)|(right;simp;done))))).mono ?_
 rintro e w2 ⟨rfl,hk⟩
 have c0:=HC.out _ hk
 have HK:=ah hk;clear hk
 go_wp2_with fail
 refine(nX.out _ HK.out).mono ?_
 rintro e w3 ⟨A3,c3,rfl,hn,hk⟩
 have HN:=ah (And.intro hn hk);clear hn hk
 go_wp2
 go_ret
 exact HP.out _ _ _ _ HK.out HN.out.1 HN.out.2
theorem QL(w:World)(b:Nat)(s:bQ)(mA:Option Addr)(mc:Nat)(lA:Option Addr)(lc:Nat)(pA:Option Addr)(pc:Nat)(hb:Has w b 124 (dG s mA mc lA lc pA pc true))(hl:Src w 3 pA s.pins.length (aS s.pins))(hlen:s.pins.length<=1000000):Calls Tryz.prog 40 #[.pointer (some ⟨b,0,none⟩)] w (uF w s.pins):=by
 have hcl:=fun W (hW:Kept aj w W)=>pG W pA pc s.pins (hl.kept hW (fun _ _ z=>z)) hlen
 have hP:∀W w' A c,Kept aj w W->aF 53 3 W.heap.size w' A s.pins.length c (aS s.pins)->Kept aj W w'->uF w s.pins (.returned (.slice A s.pins.length c)) w':=fun W w' A c hW h1 h2=>⟨A,c,rfl,⟨h1.1,fun k hk=>Nat.le_trans hW.size (h1.2 k hk)⟩,hW.then h2⟩
 have nX:=ah hcl;have HP:=ah hP;clear hcl hl hP
 have h:=fun W (hW:Kept aj w W)=>dR W b s mA mc lA lc pA pc true (hb.kept hW (fun z=>z))
 have hc:=fun W (hW:Kept aj w W)=>(hb.kept hW (fun z=>z)).cell 5
 simp only[List.getElem?_toArray,List.getElem?_cons_zero,List.getElem?_cons_succ]at hc
 have H:=ah h;have HC:=ah hc;clear h hc hb
 go_enter Tryz.func40,Tryz.ntmps40
 go_wp2_with fail
 refine(H.out _ (by(repeat'(first|(with_reducible first|exact ak|apply au|apply ay|apply aA|apply aB)|(right;simp;done))))).mono ?_
 rintro e w2 ⟨rfl,hk⟩
 have c0:=HC.out _ hk
 have HK:=ah hk;clear hk
 go_wp2_with fail
 refine(nX.out _ HK.out).mono ?_
 rintro e w3 ⟨A3,c3,rfl,hn,hk⟩
 have HN:=ah (And.intro hn hk);clear hn hk
 go_wp2
 go_ret
 exact HP.out _ _ _ _ HK.out HN.out.1 HN.out.2
end Mst
def zx(cs:Array Value):Nat->List Value->Array Value
 |_,[]=>cs
 |o,v::r=>zx (cs.setIfInBounds o v) (o+1) r
theorem BP:∀(vs:List Value) (cs:Array Value) (o:Nat),(zx cs o vs).size=cs.size
 |[],_,_=>rfl
 |v::r,cs,o=>by rw[zx,BP r];simp
theorem BQ:∀(vs:List Value) (cs:Array Value) (o:Nat),o+vs.length<=cs.size->(zx cs o vs).toList=cs.toList.take o++vs++cs.toList.drop (o+vs.length)
 |[],cs,o,_=>by simp[zx]
 |v::r,cs,o,h=>by
  simp only[List.length_cons]at h
  have ho:o<cs.toList.length:=by simp;omega
  rw[zx,BQ r _ _ (by simp;omega),Array.toList_setIfInBounds,List.take_set,List.take_add_one,List.getElem?_eq_getElem ho,List.drop_set,if_pos (by omega)]
  simp only[Option.toList_some,List.length_cons,List.append_assoc]
  have e1:(cs.toList.take o++[cs.toList[o]]).set o v=cs.toList.take o++[v]:=by
   rw[List.set_append_right _ _ (by simp;omega)]
   have:o-(cs.toList.take o).length=0:=by simp;omega
   rw[this];rfl
  rw[e1]
  simp only[List.append_assoc,List.singleton_append,List.cons_append,List.nil_append]
  rw[show o+1+r.length=o+(r.length+1) by omega]
theorem Has.tu{b:Nat}{t:TypeId}:∀(vs:List Value) (o:Nat) (w:World) (cs:Array Value),Has w b t cs->Has (w.setCells b o vs) b t (zx cs o vs)
 |[],_,_,_,h=>h
 |v::r,o,_,_,h=>Has.tu r (o+1) _ _ (h.put o v)
theorem Kept.tu{b:Nat}:∀(vs:List Value) (o:Nat) (w:World),Kept (fun k=>k=b) w (w.setCells b o vs)
 |[],_,w=>Kept.refl _ _
 |v::r,o,w=>Kept.then (F:=fun k=>k=b) ((Kept.refl _ w).put (g:=b) (i:=o) (u:=v) (.inl rfl)) (Kept.tu r (o+1) _)
theorem JJ{P:Program}{w:World}{size g off n c:Nat}{cur:Array Value}{t e:TypeId}{z:Value}(h:Has w g e cur)(ht:P.underlying t=some (.slice e))
  (hv:∀w,(zeroValue e).run P w=.ok z w) (hz:z.cells.size=size) (h0:0<size) (h1:∀u∈z.cells,u.oneCell'=true) (hn:0<n) (hsz:off+n*size<=cur.size) (ty:TypeId):
  (Builtin.clear_ #[t] ty #[.slice (some ⟨g,off,none⟩) n c]).run P w=.ok (.tuple #[]) (w.setCells g off (Builtin.zeroCells z.cells n).toList):=by
 have hlen:(Builtin.zeroCells z.cells n).toList.length=n*size:=by simp[Builtin.zeroCells,hz]
 have hone:∀u∈(Builtin.zeroCells z.cells n).toList,u.oneCell'=true:=by
  intro u hu
  simp only[Builtin.zeroCells,Array.toList_map,List.mem_map]at hu
  obtain⟨i,_,rfl⟩:=hu
  have hlt:i%z.cells.size<z.cells.size:=Nat.mod_lt _ (by omega)
  rw[getElem!_pos z.cells _ hlt]
  exact h1 _ (Array.getElem_mem hlt)
 have hst:=run_storeCells_cells (P:=P) g off (Builtin.zeroCells z.cells n).toList 0 w
  (by intro j hj;rw[hlen]at hj;rw[h.cell,Array.getElem?_eq_getElem (by omega)];rfl)
  (by intro j hj;exact h.frozen _) hone
 obtain⟨m,rfl⟩:∃m,n=m+1:=⟨n-1,by omega⟩
 simp only[Nat.add_zero]at hst
 simp[Builtin.clear_,run_underlying ht,hv,hst]
namespace Mst
open aO Vn
theorem QM(l:List aY)(k:Nat):aS (l.drop k)=(aS l).drop (k*3):=by
 induction l generalizing k with
 |nil=>simp[aS]
 |cons a l ih=>
  cases k with
  |zero=>simp
  |succ k=>
   have e:(k+1)*3=k*3+3:=by omega
   rw[e]
   simpa [aS,qI]using ih k
theorem QN(l:List aY)(k:Nat):aS (l.take k)=(aS l).take (k*3):=by
 induction l generalizing k with
 |nil=>simp[aS]
 |cons a l ih=>
  cases k with
  |zero=>simp[aS]
  |succ k=>
   have e:(k+1)*3=k*3+3:=by omega
   rw[e]
   simpa [aS,qI]using ih k
theorem sQ(a b:List aY):aS (a++b)=aS a++aS b:=by simp[aS]
theorem qA(l:List aY):(aS l).length=l.length*3:=by
 induction l with
 |nil=>rfl
 |cons a l ih=>simp only[aS,List.flatMap_cons,List.length_append,List.length_cons]at ih⊢;rw[ih];simp[qI];omega
theorem Ug(w:World)(g c k j:Nat)(hj:j=k+1)(l:List aY)(hl:w.ownsRow 0 53 3 (.slice (some ⟨g,0,none⟩) l.length c) l.length (aS l))(hk:k<l.length)(hlen:l.length<=1000000):
  Calls Tryz.prog 158 #[.slice (some ⟨g,0,none⟩) l.length c,.int .i64 k,.int .i64 j] w fun e w'=>
   e=.returned (.slice (some ⟨g,0,none⟩) (l.length-1) c)/\w'.ownsRow 0 53 3 (.slice (some ⟨g,0,none⟩) (l.length-1) c) (l.length-1) (aS (l.eraseIdx k))/\Kept (fun j=>j=g) w w':=by
 obtain⟨i0,hi,hz0,hz1,hz2⟩:=info_parts (show(Tryz.prog.info? 53).map (fun i=>(i.zero,i.size,i.bytes))=some (some (.agg #[.int .i64 0,.int .u64 0,.int .i64 0]),3,24) by kernel_rfl)
 have mixed:Tryz.prog.follows .mixedOrders=true:=by kernel_rfl
 rcases hl.2 with⟨hv,_⟩|⟨g',cap,cur,hv,hb,hh,hn,hm,hs,htk⟩
 ·cases hv
 injection hv with h1 h2 h3
 injection h1 with h1
 injection h1 with h1
 subst h1
 subst h3
 clear h2
 have hcap:=hm
 unfold maxLen at hcap
 have hH:Has w g 53 cur:=hh
 clear hh
 --the cells that are moved to the left
 obtain⟨news,hnews⟩:∃news,news=aS (l.drop j):=⟨_,rfl⟩
 have Ik:news.length=(l.length-j)*3:=by rw[hnews,qA];simp
 have hget:∀t u,news[t]? =some u->cur[j*3+t]? =some u:=by
  intro t u hu
  have ht:=(List.getElem?_eq_some_iff.1 hu).1
  rw[hnews,QM,List.getElem?_drop,<-htk,List.getElem?_take,if_pos (by omega),Array.getElem?_toList]at hu
  exact hu
 obtain⟨A,hA,hsrc⟩:∃A:Addr,(if c=j then (some (⟨g,0,none⟩:Addr))else some ⟨g,j*3,none⟩)=some A/\Hid (∀t u,news[t]? =some u->w.drew.cell? (A.add t)=some u):=by
  by_cases h:c=j
  ·refine⟨⟨g,0,none⟩,by simp[h],fun t u hu=> ?_⟩
   have h0:news.length=0:=by rw[Ik];omega
   rw[List.length_eq_zero_iff.1 h0]at hu
   simp at hu
  ·refine⟨⟨g,j*3,none⟩,by simp[h],fun t u hu=> ?_⟩
   rw[Addr.add_lit]
   exact(hH.drew.cell _).trans (hget t u hu)
 have s1:Hid (news.length=(l.length-j)*3):=Ik
 have s2:Hid (∀u∈news,u.oneCell'=true):=by rw[hnews];exact Ii _
 have s3:Hid (∀t,t<news.length->(w.drew.cell? ⟨g,0+k*3+t,none⟩).isSome=true/\w.drew.frozen? ⟨g,0+k*3+t,none⟩=false):=by
  intro t ht
  rw[Ik]at ht
  refine⟨?_,hH.drew.frozen _⟩
  rw[hH.drew.cell,Array.getElem?_eq_getElem (by omega)];rfl
 obtain⟨W1,hW1⟩:∃W1,W1=w.drew.setCells g (0+k*3) news:=⟨_,rfl⟩
 have hH1:Has W1 g 53 (zx cur (0+k*3) news):=by rw[hW1];exact Has.tu _ _ _ _ hH.drew
 have hk1:Kept (fun j=>j=g) w W1:=by rw[hW1];exact Kept.then (F:=fun j=>j=g) ((Kept.refl _ w).drew) (Kept.tu _ _ _)
 have hsz1:=BP news cur (0+k*3)
 have hcl:∀ty,(Builtin.clear_ #[35] ty #[.slice (some ⟨g,(l.length-1)*3,none⟩) 1 (c-(l.length-1))]).run Tryz.prog W1=.ok (.tuple #[]) (W1.setCells g ((l.length-1)*3) (Builtin.zeroCells (Value.agg #[.int .i64 0,.int .u64 0,.int .i64 0]).cells 1).toList):=
  fun ty=>JJ (size:=3) hH1 Tryz.underlying35 (by intro w;kernel_rfl) rfl (by decide) (by intro u hu;simp[Value.cells]at hu;rcases hu with rfl|rfl|rfl<;>rfl) (by decide) (by rw[hsz1,hs];omega) ty
 have hfin:(W1.setCells g ((l.length-1)*3) (Builtin.zeroCells (Value.agg #[.int .i64 0,.int .u64 0,.int .i64 0]).cells 1).toList).ownsRow 0 53 3 (.slice (some ⟨g,0,none⟩) (l.length-1) c) (l.length-1) (aS (l.eraseIdx k)):=by
  have hH2:=Has.tu (Builtin.zeroCells (Value.agg #[.int .i64 0,.int .u64 0,.int .i64 0]).cells 1).toList ((l.length-1)*3) _ _ hH1
  have hz3:(Builtin.zeroCells (Value.agg #[.int .i64 0,.int .u64 0,.int .i64 0]).cells 1).toList.length=3:=by kernel_rfl
  refine⟨by rw[qA,List.length_eraseIdx_of_lt hk],.inr ⟨g,c,_,rfl,Nat.zero_le _,hH2,by omega,hm,by rw[BP,hsz1,hs],?_⟩⟩
  rw[BQ _ _ _ (by rw[hsz1,hz3,hs];omega),List.append_assoc,List.take_append_of_le_length (by have hz:=hsz1;rw[<-Array.length_toList]at hz;rw[List.length_take,hz,hs];omega),List.take_of_length_le (by rw[List.length_take];omega),BQ _ _ _ (by rw[Ik];omega)]
  have e1:cur.toList.take (0+k*3)=aS (l.take k):=by
   rw[QN,<-htk,List.take_take]
   congr 1
   omega
  rw[e1,hnews,List.take_append_of_le_length (by simp[qA];omega),List.take_of_length_le (by simp[qA];omega),<-sQ,List.eraseIdx_eq_take_drop_succ,hj]
 have iC:Kept (fun j=>j=g) w (W1.setCells g ((l.length-1)*3) (Builtin.zeroCells (Value.agg #[.int .i64 0,.int .u64 0,.int .i64 0]).cells 1).toList):=hk1.then (Kept.tu _ _ _)
 have bP:=ah (And.intro hfin iC)
 obtain⟨W2,hW2⟩:∃W2,W2=W1.setCells g ((l.length-1)*3) (Builtin.zeroCells (Value.agg #[.int .i64 0,.int .u64 0,.int .i64 0]).cells 1).toList:=⟨_,rfl⟩
 rw[<-hW2]at hcl bP
 have hW:Hid (W1=w.drew.setCells g (0+k*3) news):=hW1
 have hic:k<=c:=by omega
 have hjc:j<=c:=by omega
 have hne:¬((k:Int)=(j:Int)):=by omega
 have hkk:(j:Int)<=(l.length:Int):=by omega
 have hnk:k+(l.length-j)=l.length-1:=by omega
 have hll:l.length-(l.length-1)=1:=by omega
 have hn1:((l.length-1:Nat):Int)<=(l.length:Int):=by omega
 have hnc:l.length<=c:=hn
 have hkj:(k:Int)<=(j:Int):=by omega
 have hjl:j<=l.length:=by omega
 clear hj hk
 clear hfin iC hW2 hW1 hH1 hk1 hsz1 hH hget hnews Ik hs htk hm hl hb
 go_enter Tryz.func158,Tryz.ntmps158
 go_wp2_with fail
 go_region_law_o (refine step_append_room rfl (.tmp 22) (.tmp 25) 35 rfl 53 i0 3 Tryz.underlying35 hi hz1 g 0 k c (by simp[Act.eval,Act.put]) A (l.length-j) (c-j) news (by simp[Act.eval,Act.put,hA]) s1.out hsrc.out s2.out (by omega) s3.out ?_;rw[<-hW.out,hnk])
 go_wp2
 go_ret
 exact⟨rfl,bP.out⟩
end Mst
namespace Mst
open aO Vn
def freed(l:List aY)(id:Int):List aY:=if dJ l id<0 then l else l.eraseIdx (dJ l id).toNat
def GG(w:World)(l:List aY)(id:Int)(e:Ending)(w':World):Prop:=
 (dJ l id<0/\e=.returned (.tuple #[.slice none 0 0,.int .i64 7])/\Kept aj w w')\/
 (0<=dJ l id/\∃A c,e=.returned (.tuple #[.slice A (freed l id).length c,.int .i64 0])/\aF 53 3 w.heap.size w' A (freed l id).length c (aS (freed l id))/\Kept aj w w')
theorem GH(w:World)(A:Option Addr)(c:Nat)(l:List aY)(id:Int)(hl:Src w 3 A l.length (aS l))(hlen:l.length<=1000000):
  Calls Tryz.prog 90 #[.slice A l.length c,.int .i64 id] w (GG w l id):=by
 have hf:=fun W (hW:Kept aj w W) (b:Nat) (hb:Has W b 3 #[.int .i64 id])=>N5 W A c l b id hb (hl.kept hW (fun _ _ z=>z)) hlen
 have hwh:=KC w id
 rcases oH l id with h1|⟨k,x,h1,hx,hid⟩
 ·rw[h1]at hf
  have hP:∀w',Kept aj w w'->GG w l id (.returned (.tuple #[.slice none 0 0,.int .i64 7])) w':=fun w' hk=> .inl ⟨by omega,rfl,hk⟩
  have HF:=ah hf;have HP:=ah hP;have Eb:=ah hwh
  clear hf hP hwh hl h1
  go_enter Tryz.func90,Tryz.ntmps90
  go_wp2_with fail
  refine Eb.out.mono ?_
  rintro e w1 ⟨rfl,rfl⟩
  go_wp2_with fail
  refine(HF.out _ (by(repeat'(first|(with_reducible first|exact ak|apply au|apply ay|apply aA|apply aB)|(right;simp;done)))) w.heap.size (Has.new w 3 #[.int .i64 id])).mono ?_
  rintro e w2 ⟨rfl,hk⟩
  have hk2:=Kept.then (F:=aj) (a:=w) (by(repeat'(first|(with_reducible first|exact ak|apply au|apply ay|apply aA|apply aB)|(right;simp;done)))) hk
  have HK:=ah hk2;clear hk hk2
  go_wp2
  go_ret2
  exact HP.out _ HK.out
 ·rw[h1]at hf
  have hkl:k<l.length:=(List.getElem?_eq_some_iff.1 hx).1
  have hcl:=fun W (hW:Kept aj w W)=>pG W A c l (hl.kept hW (fun _ _ z=>z)) hlen
  have hP:∀w' A c,aF 53 3 w.heap.size w' A (l.length-1) c (aS (l.eraseIdx k))->Kept aj w w'->GG w l id (.returned (.tuple #[.slice A ((l.length-1:Nat)) c,.int .i64 0])) w':=fun w' A c hn hk=>by
   have e1:freed l id=l.eraseIdx k:=by unfold freed;rw[h1,Int.toNat_natCast,if_neg (by omega)]
   have e2:(freed l id).length=l.length-1:=by rw[e1,List.length_eraseIdx_of_lt hkl]
   refine .inr ⟨by omega,A,c,?_,?_,hk⟩
   ·rw[e2]
   ·rw[e2,e1];exact hn
  have hj:∀W g c,_->_:=fun W g c h=>Ug W g c k (k+1) rfl l h hkl hlen
  have hcast:((k+1:Nat):Int)=(k:Int)+1:=by omega
  rw[hcast]at hj
  have hw1:IntKind.i64.wrap ((k:Int)+1)=(k:Int)+1:=IntWalk.i64_in _ (by omega)
  have HF:=ah hf;have HP:=ah hP;have Eb:=ah hwh;have HC:=ah hcl;have HJ:=ah hj
  clear hf hP hwh hl h1 hcl hx hid hj hcast
  have b0:(0:Int)<=(k:Int):=by omega
  go_enter Tryz.func90,Tryz.ntmps90
  go_wp2_with fail
  refine Eb.out.mono ?_
  rintro e w1 ⟨rfl,rfl⟩
  go_wp2_with fail
  refine(HF.out _ (by(repeat'(first|(with_reducible first|exact ak|apply au|apply ay|apply aA|apply aB)|(right;simp;done)))) w.heap.size (Has.new w 3 #[.int .i64 id])).mono ?_
  rintro e w2 ⟨rfl,hk⟩
  have hk2:=Kept.then (F:=aj) (a:=w) (by(repeat'(first|(with_reducible first|exact ak|apply au|apply ay|apply aA|apply aB)|(right;simp;done)))) hk
  have HK:=ah hk2;clear hk hk2
  go_wp2_with fail
  refine(HC.out _ HK.out).mono ?_
  rintro e w3 ⟨A1,c1,rfl,hn,hk⟩
  have bn:=ah (And.intro (HK.out.then hk) HK.out.size);clear HK hk
  obtain⟨rb,cap,hv,_,hrl⟩:=hn.1.form (by omega)
  injection hv with hA _ hC
  subst hA
  subst hC
  have HN:=ah hn;clear hn
  go_wp2_with fail
  refine(HJ.out _ _ _ HN.out.1).mono ?_
  rintro e w4 ⟨rfl,ho,hk⟩
  have HO:=ah (And.intro ho hk);clear ho hk
  have hrb:w.heap.size<=rb:=by have h1:=HN.out.2 rb rfl;have h2:=bn.out.2;omega
  go_wp2
  go_ret2
  exact HP.out _ _ _ ⟨HO.out.1,fun g hg=>by obtain rfl:rb=g:=by simpa [Value.ownBlock]using hg
                                            exact hrb⟩ (bn.out.1.trans HO.out.2 (fun i hi=> .inr (by subst hi;exact hrb)))
end Mst
namespace Mst
open aO Vn
def nH:List Mem->Int
 |[]=> -1
 |m::_=>m.1
theorem Ec(w:World)(ep fl:Int)(A:Option Addr)(c:Nat)(l:List Mem)(hl:Src w 2 A l.length (aP l))(hlen:l.length<=1000000):
  Calls Tryz.prog 102 #[lq ep A l.length c fl] w fun e w'=>e=.returned (.int .i64 (nH l))/\Kept aj w w':=by
 cases l with
 |nil=>
  clear hl
  simp only[List.length_nil]
  go_enter Tryz.func102,Tryz.ntmps102
  go_wp2
  go_ret
  exact⟨rfl,by(repeat'(first|(with_reducible first|exact ak|apply au|apply ay|apply aA|apply aB)|(right;simp;done)))⟩
 |cons m r=>
  obtain⟨ad,rfl,had,d0,d1⟩:=iH hl (by simp) 0 m rfl
  have d0':w.cell? ad=some (.int .i64 m.1):=d0
  have aet:∀o,(w.alloc o).cell? ad=some (.int .i64 m.1):=fun o=>by rw[World.cell?_of_block (w:=w) (((Kept.refl aj w).alloc o).block _ had (fun x=>x))];exact d0'
  have e0:=aet (.cells #[.int .i64 ep,.slice (some ad) (m::r).length c,.int .u64 fl] 25)
  have hpos:0<(m::r).length:=by simp
  have HH:=ah (rfl:nH (m::r)=m.1)
  generalize(m::r).length=N at*
  rw[HH.out]
  have hp1:¬(N:Int)=0:=by omega
  have hp2:¬(N:Int)<=0:=by omega
  clear d0 d1 d0' aet hl had HH
  have hadd:ad.add 0=ad:=by unfold Addr.add;rw[if_pos rfl]
  go_enter Tryz.func102,Tryz.ntmps102
  go_wp2
  go_ret
  exact⟨rfl,by(repeat'(first|(with_reducible first|exact ak|apply au|apply ay|apply aA|apply aB)|(right;simp;done)))⟩
theorem BR(w:World)(A:Option Addr)(c:Nat)(l:List Int)(x:Int)(hl:Src w 1 A l.length (ints l))(hlen:l.length<=1000000):
  Calls Tryz.prog 171 #[.slice A l.length c,.int .i64 x] w fun e w'=>e=.returned (.int .i64 (gV (fun y=>decide (y=x)) l 0))/\Kept aj w w':=by
 have HL:=ah hl;clear hl
 obtain⟨r,hr⟩:∃r,gV (fun y=>decide (y=x)) l 0=r:=⟨_,rfl⟩
 rw[hr]
 have HR:=ah hr;clear hr
 go_enter Tryz.func171,Tryz.ntmps171
 go_wp2_with fail
 go_loop [5,8] (fun v5 v8=>∃i:Nat,i<=l.length/\v8=.int .i64 i/\r=gV (fun y=>decide (y=x)) (l.drop i) i) (fun _ v8=>l.length-(intOf v8).toNat)
 case atStart=>exact⟨0,Nat.zero_le _,rfl,HR.out.symm⟩
 case round=>
  obtain⟨i,hi,rfl,hrr⟩:=hrel
  by_cases hil:i<l.length
  ·obtain⟨y,hy⟩:∃y,l[i]? =some y:=⟨_,List.getElem?_eq_getElem hil⟩
   have hsa:=Fb (fun y=>decide (y=x)) hy
   obtain⟨ad,rfl,hl1,x0⟩:=nU HL.out (by omega) i y hy
   rw[hsa]at hrr
   clear hsa hy
   by_cases hyx:y=x
   ·subst hyx
    rw[if_pos (by simp)]at hrr
    have HRR:=ah hrr;clear hrr
    go_wp2
    go_ret
    exact⟨by rw[HRR.out];rfl,Kept.refl _ _⟩
   ·rw[if_neg (by simpa using hyx)]at hrr
    have HRR:=ah hrr;clear hrr
    have hxy:¬x=y:=fun h=>hyx h.symm
    go_wp2
    go_round
    case rel=>exact⟨i+1,by omega,by go_num,HRR.out⟩
    case measure=>simp[intOf];omega
  ·obtain rfl:i=l.length:=by omega
   rw[List.drop_length,gV]at hrr
   have HRR:=ah hrr;clear hrr
   go_wp2
   go_ret
   exact⟨by rw[HRR.out];rfl,Kept.refl _ _⟩
theorem adf(l:List Int)(x:Int):(l.any fun y=>decide (y=x))=inB l x:=by
 unfold inB
 induction l with
 |nil=>rfl
 |cons a l ih=>
  have e:(x==a)=decide (a=x):=by rw[Bool.eq_iff_iff,beq_iff_eq,decide_eq_true_iff];exact eq_comm
  rw[List.any_cons,List.contains_cons,ih,e]
theorem kP(w:World)(A:Option Addr)(c:Nat)(l:List Int)(x:Int)(hl:Src w 1 A l.length (ints l))(hlen:l.length<=1000000):
  Calls Tryz.prog 99 #[.slice A l.length c,.int .i64 x] w fun e w'=>e=.returned (.bool (inB l x))/\Kept aj w w':=by
 have hi:=BR w A c l x hl hlen
 have ha:=BN (fun y=>decide (y=x)) l 0
 rw[adf]at ha
 obtain⟨k,hk⟩:∃k,gV (fun y=>decide (y=x)) l 0=k:=⟨_,rfl⟩
 rw[hk]at hi ha
 rw[<-ha]
 have HI:=ah hi;clear hi hk hl ha
 go_enter Tryz.func99,Tryz.ntmps99
 go_wp2_with fail
 refine HI.out.mono ?_
 rintro e w2 ⟨rfl,hk⟩
 have HK:=ah hk;clear hk
 go_wp2
 go_ret
 exact⟨by simp,HK.out⟩
theorem WX(w:World)(x:aG)(b:Nat)(id:Int)(hb:Has w b 83 (aJ x).toArray)(h:iI w x):
  Calls Tryz.prog 152 #[.int .i64 id,.pointer (some ⟨b,0,none⟩)] w fun e w'=>e=.returned (.bool (!bY x.ms id))/\Kept aj w w':=by
 have hm:=fun W (hW:Kept aj w W)=>nY W x.ep x.fl x.mA x.mc x.ms id (h.kept hW).m (by have:=h.ml;omega)
 obtain⟨r,hr⟩:∃r,bY x.ms id=r:=⟨_,rfl⟩
 rw[hr]at hm⊢
 clear hr h
 obtain⟨k,n,at2,ep,mA,mc,ms,fl,lA,lc,lg,oA,oc,⟨iY,fM,ops⟩,ts,⟨p1,p2,p3⟩,⟨s1,s2,s3,s4⟩⟩:=x
 have c3:=hb.cell 3
 have c4:=hb.cell 4
 have c5:=hb.cell 5
 simp only[aJ,List.getElem?_toArray,List.getElem?_cons_zero,List.getElem?_cons_succ]at c3 c4 c5 hm
 have HM:=ah hm;clear hm hb
 go_enter Tryz.func152,Tryz.ntmps152
 go_wp2_with fail
 refine(HM.out _ (by(repeat'(first|(with_reducible first|exact ak|apply au|apply ay|apply aA|apply aB)|(right;simp;done))))).mono ?_
 rintro e w2 ⟨rfl,hk⟩
 have HK:=ah hk;clear hk
 go_wp2
 go_ret
 exact⟨rfl,HK.out⟩
end Mst
end Go.Proofs.YtfjdpbbgfjhnlaaGreat
