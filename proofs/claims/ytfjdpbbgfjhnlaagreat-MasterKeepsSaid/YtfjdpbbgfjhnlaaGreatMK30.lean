/- Part 31 of what the proof needs. -/
import Derived.Test.YtfjdpbbgfjhnlaaGreatMK29
set_option linter.unusedSimpArgs false
set_option linter.unusedVariables false
set_option maxHeartbeats 32000000
set_option maxRecDepth 100000
namespace Go.Proofs.YtfjdpbbgfjhnlaaGreat
open Go.RowKit
set_option maxRecDepth 100000
namespace dH
open aO Vn Mst lV IM mY gZ
section
variable{w w':World}{X X0:MX}{M M0:MR}{c:Nat}
theorem dD.cell(h:dD w X M){i:Nat}{v:Value}(hv:(vO X M)[i]? =some v):w.cell? ⟨X.mb,i,none⟩=some v:=by
 have h1:w.cell? ⟨X.mb,i,none⟩=(vO X M)[i]? :=Has.cell (h.c 0) i
 rw[h1,hv]
theorem abH(h:dD w X M):Calls Tryz.prog 9 #[.pointer (some ⟨X.mb,0,none⟩)] w fun e w'=>e=.returned (.int .u64 M.st.hz)/\Kept aj w w':=by
 have q:=h.cell (i:=2) rfl
 have h1:=ou h
 have h2:=uH (h.c 2)
 have H1:=ah h1;have H2:=ah h2;clear h h1 h2
 go_enter Tryz.func9,Tryz.ntmps9
 go_wp2_with fail
 refine H1.out.mono ?_
 rintro e w1 ⟨rfl,rfl⟩
 go_wp2_with fail
 refine H2.out.mono ?_
 rintro e w2 ⟨rfl,hk⟩
 clear q
 have HK:=ah hk;clear hk
 go_wp2
 go_ret
 exact⟨rfl,HK.out⟩
theorem U6(h:dD w X M)(hok:nZ M.st):Calls Tryz.prog 19 #[.pointer (some ⟨X.mb,0,none⟩)] w (yH w M.st.lg):=by
 have q:=h.cell (i:=2) rfl
 have h1:=ou h
 have h2:=BX (h.c 2) hok
 have H1:=ah h1;have H2:=ah h2;clear h h1 h2 hok
 go_enter Tryz.func19,Tryz.ntmps19
 go_wp2_with fail
 refine H1.out.mono ?_
 rintro e w1 ⟨rfl,rfl⟩
 go_wp2_with fail
 refine H2.out.mono ?_
 rintro e w2 ⟨A,d,rfl,hn,hk⟩
 clear q
 have HK:=ah hk;have HN:=ah hn;clear hk hn
 go_wp2
 go_ret
 exact⟨A,d,rfl,HN.out,HK.out⟩
theorem YZ(h:dD w X M)(hp:M.pins.length<=1000):Calls Tryz.prog 14 #[.pointer (some ⟨X.mb,0,none⟩)] w (uF w M.pins):=by
 have q:=h.cell (i:=3) rfl
 have h1:=ou h
 have h2:=pG w X.pA X.pc M.pins (Src.bC (h.c 3)) (by omega)
 have H1:=ah h1;have H2:=ah h2;clear h h1 h2 hp
 go_enter Tryz.func14,Tryz.ntmps14
 go_wp2_with fail
 refine H1.out.mono ?_
 rintro e w1 ⟨rfl,rfl⟩
 go_wp2_with fail
 refine H2.out.mono ?_
 rintro e w2 ⟨A,d,rfl,hn,hk⟩
 clear q
 have HK:=ah hk;have HN:=ah hn;clear hk hn
 go_wp2
 go_ret
 exact⟨A,d,rfl,HN.out,HK.out⟩
theorem LZ(h:dD w X M)(hok:nZ M.st):Calls Tryz.prog 17 #[.pointer (some ⟨X.mb,0,none⟩)] w (rG w M.st.ep M.st.fl M.st.ms):=by
 have h1:=fun W (hW:Kept aj w W)=>ou (h.quiet hW)
 have q:=fun W (hW:Kept aj w W)=>(h.quiet hW).cell (i:=2) rfl
 have h2:=fun W (hW:Kept aj w W)=>pN ((h.quiet hW).c 2) hok
 have H1:=ah h1;have H2:=ah h2;have HQ:=ah q;clear h h1 h2 hok q
 go_enter Tryz.func17,Tryz.ntmps17
 go_wp2_with fail
 refine(H1.out _ (by(repeat'(first|(with_reducible first|exact ak|apply au|apply ay|apply aA|apply aB)|(right;simp;done))))).mono ?_
 rintro e w1 ⟨rfl,rfl⟩
 have q:=HQ.out (w.alloc (.cells #[.int .i64 0,.slice none 0 0,.int .u64 0] 25)) (by(repeat'(first|(with_reducible first|exact ak|apply au|apply ay|apply aA|apply aB)|(right;simp;done))))
 go_wp2_with fail
 refine(H2.out _ (by(repeat'(first|(with_reducible first|exact ak|apply au|apply ay|apply aA|apply aB)|(right;simp;done))))).mono ?_
 rintro e w3 ⟨A1,c1,rfl,hn,hk⟩
 clear q
 have hb1:=(Has.new w 25 #[.int .i64 0,.slice none 0 0,.int .u64 0]).kept hk (fun z=>z)
 have c0:=hb1.cell 0
 have f0:=hb1.frozen 0
 have c1':=hb1.cell 1
 have f1:=hb1.frozen 1
 have c2:=hb1.cell 2
 have f2:=hb1.frozen 2
 simp only[List.getElem?_toArray,List.getElem?_cons_zero,List.getElem?_cons_succ]at c0 c1' c2
 have hz:w.heap.size<(w.alloc (.cells #[.int .i64 0,.slice none 0 0,.int .u64 0] 25)).heap.size:=by rw[size_alloc];exact Nat.lt_succ_self _
 have HZ:=ah hz
 have HB1:=ah hb1;have HN:=ah hn;have bn:=ah (Kept.then (F:=aj) (a:=w) (by(repeat'(first|(with_reducible first|exact ak|apply au|apply ay|apply aA|apply aB)|(right;simp;done)))) hk);clear hb1 hn hk hz
 go_wp2
 have hfin:=((HB1.out.put 0 (Value.int .i64 M.st.ep)).put 1 (Value.slice A1 M.st.ms.length c1)).put 2 (Value.int .u64 M.st.fl)
 refine bodyPost_ret (results_cell_row rfl _ _ w.heap.size 25 _ (0,0) _ rfl hfin Tryz.underlying25 rfl (by kernel_rfl)) rfl ?_
 have hk9:∀W (i:Nat) u,Kept aj w W->Kept aj w (W.setCell ⟨w.heap.size,i,none⟩ u):=fun W i u hW=>hW.put (.inr (Nat.le_refl _))
 have hz:=HZ.out
 refine⟨A1,c1,rfl,⟨?_,fun g hg=>by have:=HN.out.2 g hg;omega⟩,hk9 _ _ _ (hk9 _ _ _ (hk9 _ _ _ (bn.out)))⟩
 refine aC (F:=fun k=>k=w.heap.size) HN.out.1 ((((Kept.refl (fun k=>k=w.heap.size) w3).put (.inl rfl)).put (.inl rfl)).put (.inl rfl)) (fun g hg hF=> ?_)
 have h1:=HN.out.2 g hg
 omega
theorem Y0(h:dD w X M)(i:Int):Calls Tryz.prog 15 #[.pointer (some ⟨X.mb,0,none⟩),.int .i64 i] w fun e w'=>e=.returned (pq (jE M.st i))/\Kept aj w w':=by
 have h1:=fun W (hW:Kept aj w W)=>ou (h.quiet hW)
 have q:=fun W (hW:Kept aj w W)=>(h.quiet hW).cell (i:=2) rfl
 have h2:=fun W (hW:Kept aj w W)=>AZ ((h.quiet hW).c 2) i
 obtain⟨a0,a1,a2,a3,ha⟩:∃a0 a1 a2 a3,jE M.st i=⟨a0,a1,a2,a3⟩:=⟨_,_,_,_,rfl⟩
 rw[ha]at h2⊢
 have H1:=ah h1;have H2:=ah h2;have HQ:=ah q;clear h h1 h2 q ha
 go_enter Tryz.func15,Tryz.ntmps15
 go_wp2_with fail
 refine(H1.out _ (by(repeat'(first|(with_reducible first|exact ak|apply au|apply ay|apply aA|apply aB)|(right;simp;done))))).mono ?_
 rintro e w1 ⟨rfl,rfl⟩
 have q:=HQ.out (w.alloc (.cells #[.int .i64 0,.int .i64 0,.int .i64 0,.int .i64 0] 56)) (by(repeat'(first|(with_reducible first|exact ak|apply au|apply ay|apply aA|apply aB)|(right;simp;done))))
 go_wp2_with fail
 refine(H2.out _ (by(repeat'(first|(with_reducible first|exact ak|apply au|apply ay|apply aA|apply aB)|(right;simp;done))))).mono ?_
 rintro e w3 ⟨rfl,hk⟩
 clear q
 have hb1:=(Has.new w 56 #[.int .i64 0,.int .i64 0,.int .i64 0,.int .i64 0]).kept hk (fun z=>z)
 have c0:=hb1.cell 0
 have f0:=hb1.frozen 0
 have c1':=hb1.cell 1
 have f1:=hb1.frozen 1
 have c2:=hb1.cell 2
 have f2:=hb1.frozen 2
 have c3:=hb1.cell 3
 have f3:=hb1.frozen 3
 simp only[List.getElem?_toArray,List.getElem?_cons_zero,List.getElem?_cons_succ]at c0 c1' c2 c3
 have HB1:=ah hb1;have bn:=ah (Kept.then (F:=aj) (a:=w) (by(repeat'(first|(with_reducible first|exact ak|apply au|apply ay|apply aA|apply aB)|(right;simp;done)))) hk);clear hb1 hk
 go_wp2
 have hfin:=(((HB1.out.put 0 (Value.int .i64 a0)).put 1 (Value.int .i64 a1)).put 2 (Value.int .i64 a2)).put 3 (Value.int .i64 a3)
 refine bodyPost_ret (results_cell_row rfl _ _ w.heap.size 56 _ (0,0) _ rfl hfin Tryz.underlying56 rfl (by kernel_rfl)) rfl ?_
 have hk9:∀W (i:Nat) u,Kept aj w W->Kept aj w (W.setCell ⟨w.heap.size,i,none⟩ u):=fun W i u hW=>hW.put (.inr (Nat.le_refl _))
 exact⟨rfl,hk9 _ _ _ (hk9 _ _ _ (hk9 _ _ _ (hk9 _ _ _ (bn.out))))⟩
end
end dH
namespace dH
open aO Vn Mst lV IM mY gZ
structure bD(M:MR)(k:Nat):Prop where
 st:qG M.st
 p3:M.pins.length<=3
 pin:∀p∈M.pins,0<=p.left/\p.left<=8/\0<=p.at'/\p.at'<=aT
 ug:zo M.ns M.tk
 last:0<=M.last/\M.last<=aT
 marks:∀i v,M.marks i=some v->0<=v/\v<=aT
 iE:∀i v,M.iE i=some v->I64 v
 cnt:M.cnt<=8*k
theorem bD.mono{M:MR}{k j:Nat}(h:bD M k)(hj:k<=j):bD M j:=⟨h.st,h.p3,h.pin,h.ug,h.last,h.marks,h.iE,by have:=h.cnt;omega⟩
def oP(M:MR)(id:Int):MR:=if 0<=id/\id<4/\bY M.st.ms id=false then {M with joins:=fun y=>decide (y=id)||M.joins y,iE:=uG M.iE id none,cnt:=M.cnt+1}else M
def mJ(M:MR)(id:Int):MR:=if 0<=id/\id<4/\bY M.st.ms id=true then {M with leaves:=fun y=>decide (y=id)||M.leaves y,cnt:=M.cnt+1}else M
section
variable{w w':World}{X X0:MX}{M M0:MR}{c k:Nat}
theorem fZ{i:Int}(h0:0<=i)(h1:i<4):I64 i:=aH.fZ h0 (by omega)
theorem Y1(h:dD w X M)(hb:dw X M.lg c)(hm:bD M k)(hk:k<=1000)(id:Int):
  Calls Tryz.prog 30 #[.pointer (some ⟨X.mb,0,none⟩),.int .i64 id] w (dF w X M c (.bool (decide (0<=id/\id<4/\bY M.st.ms id=false))) (oP M id) 0):=by
 have h1:=ou h
 have h2:=Ak w id
 have h3:=nY h hm.st.inv.ok id
 have hq:∀W,Kept aj w W->W.cell? ⟨X.mb,8,none⟩=some (.map (some X.jo))/\W.cell? ⟨X.mb,6,none⟩=some (.map (some X.se)):=fun W hW=>⟨(h.quiet hW).cell (i:=8) rfl,(h.quiet hW).cell (i:=6) rfl⟩
 have hbad:¬(0<=id/\id<4/\bY M.st.ms id=false)->∀W,Kept aj w W->dF w X M c (.bool (decide (0<=id/\id<4/\bY M.st.ms id=false))) (oP M id) 0 (.returned (.bool false)) W:=fun hn W hW=>by
  unfold oP
  rw[if_neg hn,decide_eq_false hn]
  exact⟨rfl,X,Step.refl h hW,hb⟩
 have hgood:(0<=id/\id<4/\bY M.st.ms id=false)->∀W,Kept aj w W->∃W1,(Instr.mapUpdate 88 (.map (some X.jo)) (.int .i64 id) (.bool true)).run Tryz.prog W=.ok () W1/\W1.cell? ⟨X.mb,6,none⟩=some (.map (some X.se))/\∀ty,∃W2,(Builtin.delete_ #[87,3] ty #[.map (some X.se),.int .i64 id]).run Tryz.prog W1=.ok (.tuple #[]) W2/\dF w X M c (.bool (decide (0<=id/\id<4/\bY M.st.ms id=false))) (oP M id) 0 (.returned (.bool true)) W2:=fun hn W hW=>by
  have hi:=fZ hn.1 hn.2.1
  have hs0:=Step.refl h hW
  have hcj:bM W X.jo M.cnt M.joins:=(h.quiet hW).c 7
  have hct:=hm.cnt
  obtain⟨W1,hr1,hs1,hk1⟩:=bM.store hcj (by unfold maxLen;omega) hi
  have st1:=hs0.trans (dD.OZ hs0.at' hs1 (Nat.le_succ _) hk1)
  have hcs:eF .i64 3 W1 X.se (M.cnt+1) M.iE:=st1.at'.c 6
  refine⟨W1,hr1,st1.at'.cell (i:=6) rfl,fun ty=> ?_⟩
  obtain⟨W2,hr2,hs2,hk2⟩:=eF.drop hcs Tryz.underlying87 hi ty
  have st2:=st1.trans (dD.Lp st1.at' hs2 (Nat.le_refl _) hk2)
  refine⟨W2,hr2,?_⟩
  unfold oP
  rw[if_pos hn,decide_eq_true hn]
  exact⟨rfl,X,st2,hb⟩
 have H1:=ah h1;have H2:=ah h2;have H3:=ah h3;have HQ:=ah hq;have HB:=ah hbad;have HG:=ah hgood
 clear h h1 h2 h3 hq hbad hgood hb hm hk
 obtain⟨P,hP⟩:∃P:Prop,P=(0<=id/\id<4/\bY M.st.ms id=false):=⟨_,rfl⟩
 obtain⟨r,hr⟩:∃r:Bool,decide (0<=id/\id<4)=r:=⟨_,rfl⟩
 obtain⟨b,hbb⟩:∃b:Bool,bY M.st.ms id=b:=⟨_,rfl⟩
 have hin:r=true->b=false->(0<=id/\id<4/\bY M.st.ms id=false):=fun h1 h2=>by
  rw[h1]at hr;rw[h2]at hbb
  have:=of_decide_eq_true hr
  exact⟨this.1,this.2,hbb⟩
 have hout:r=false\/b=true->¬(0<=id/\id<4/\bY M.st.ms id=false):=fun h1 h2=>by
  rcases h1 with h1|h1
  ·rw[h1]at hr;exact absurd ⟨h2.1,h2.2.1⟩ (of_decide_eq_false hr)
  ·rw[hbb,h1]at h2;exact absurd h2.2.2 (by decide)
 rw[hr]at H2;rw[hbb]at H3
 have Pz:=ah hin;have vT:=ah hout;clear hin hout hr hbb hP P
 cases r
 ·have HF:=ah (HB.out (vT.out (.inl rfl)) w (Kept.refl _ _))
  generalize dF w X M c (.bool (decide (0<=id/\id<4/\bY M.st.ms id=false))) (oP M id) 0=Q at*
  go_enter Tryz.func30,Tryz.ntmps30
  go_wp2_with fail
  refine H1.out.mono ?_
  rintro e w1 ⟨rfl,rfl⟩
  go_wp2_with fail
  refine H2.out.mono ?_
  rintro e w1 ⟨rfl,rfl⟩
  go_wp2
  exact HF.out
 ·cases b
  ·have hg:=HG.out (Pz.out rfl rfl)
   have FY:=ah hg;clear hg
   generalize dF w X M c (.bool (decide (0<=id/\id<4/\bY M.st.ms id=false))) (oP M id) 0=Q at*
   go_enter Tryz.func30,Tryz.ntmps30
   go_wp2_with fail
   refine H1.out.mono ?_
   rintro e w1 ⟨rfl,rfl⟩
   go_wp2_with fail
   refine H2.out.mono ?_
   rintro e w1 ⟨rfl,rfl⟩
   go_wp2_with fail
   refine H3.out.mono ?_
   rintro e w2 ⟨rfl,hk2⟩
   obtain⟨q8,q6⟩:=HQ.out _ hk2
   obtain⟨W1,hr1,q6',hd⟩:=FY.out _ hk2
   obtain⟨W2,hd2⟩:=Classical.axiomOfChoice hd
   have hr2:=fun ty=>(hd2 ty).1
   have HF:=ah (fun ty=>(hd2 ty).2)
   clear hk2 hd hd2
   go_wp2
   exact HF.out _
  ·have HF:=ah (HB.out (vT.out (.inr rfl)))
   generalize dF w X M c (.bool (decide (0<=id/\id<4/\bY M.st.ms id=false))) (oP M id) 0=Q at*
   go_enter Tryz.func30,Tryz.ntmps30
   go_wp2_with fail
   refine H1.out.mono ?_
   rintro e w1 ⟨rfl,rfl⟩
   go_wp2_with fail
   refine H2.out.mono ?_
   rintro e w1 ⟨rfl,rfl⟩
   go_wp2_with fail
   refine H3.out.mono ?_
   rintro e w2 ⟨rfl,hk2⟩
   have mG:=ah (HF.out _ hk2)
   clear hk2
   go_wp2
   exact mG.out
theorem U7(h:dD w X M)(hb:dw X M.lg c)(hm:bD M k)(hk:k<=1000)(id:Int):
  Calls Tryz.prog 31 #[.pointer (some ⟨X.mb,0,none⟩),.int .i64 id] w (dF w X M c (.bool (decide (0<=id/\id<4/\bY M.st.ms id=true))) (mJ M id) 0):=by
 have h1:=ou h
 have h2:=Ak w id
 have h3:=nY h hm.st.inv.ok id
 have hq:∀W,Kept aj w W->W.cell? ⟨X.mb,9,none⟩=some (.map (some X.le)):=fun W hW=>(h.quiet hW).cell (i:=9) rfl
 have hbad:¬(0<=id/\id<4/\bY M.st.ms id=true)->∀W,Kept aj w W->dF w X M c (.bool (decide (0<=id/\id<4/\bY M.st.ms id=true))) (mJ M id) 0 (.returned (.bool false)) W:=fun hn W hW=>by
  unfold mJ
  rw[if_neg hn,decide_eq_false hn]
  exact⟨rfl,X,Step.refl h hW,hb⟩
 have hgood:(0<=id/\id<4/\bY M.st.ms id=true)->∀W,Kept aj w W->∃W1,(Instr.mapUpdate 88 (.map (some X.le)) (.int .i64 id) (.bool true)).run Tryz.prog W=.ok () W1/\dF w X M c (.bool (decide (0<=id/\id<4/\bY M.st.ms id=true))) (mJ M id) 0 (.returned (.bool true)) W1:=fun hn W hW=>by
  have hi:=fZ hn.1 hn.2.1
  have hs0:=Step.refl h hW
  have hcj:bM W X.le M.cnt M.leaves:=(h.quiet hW).c 8
  have hct:=hm.cnt
  obtain⟨W1,hr1,hs1,hk1⟩:=bM.store hcj (by unfold maxLen;omega) hi
  have st1:=hs0.trans (dD.Lr hs0.at' hs1 (Nat.le_succ _) hk1)
  refine⟨W1,hr1,?_⟩
  unfold mJ
  rw[if_pos hn,decide_eq_true hn]
  exact⟨rfl,X,st1,hb⟩
 have H1:=ah h1;have H2:=ah h2;have H3:=ah h3;have HQ:=ah hq;have HB:=ah hbad;have HG:=ah hgood
 clear h h1 h2 h3 hq hbad hgood hb hm hk
 obtain⟨P,hP⟩:∃P:Prop,P=(0<=id/\id<4/\bY M.st.ms id=true):=⟨_,rfl⟩
 obtain⟨r,hr⟩:∃r:Bool,decide (0<=id/\id<4)=r:=⟨_,rfl⟩
 obtain⟨b,hbb⟩:∃b:Bool,bY M.st.ms id=b:=⟨_,rfl⟩
 have hin:r=true->b=true->(0<=id/\id<4/\bY M.st.ms id=true):=fun h1 h2=>by
  rw[h1]at hr;rw[h2]at hbb
  have:=of_decide_eq_true hr
  exact⟨this.1,this.2,hbb⟩
 have hout:r=false\/b=false->¬(0<=id/\id<4/\bY M.st.ms id=true):=fun h1 h2=>by
  rcases h1 with h1|h1
  ·rw[h1]at hr;exact absurd ⟨h2.1,h2.2.1⟩ (of_decide_eq_false hr)
  ·rw[hbb,h1]at h2;exact absurd h2.2.2 (by decide)
 rw[hr]at H2;rw[hbb]at H3
 have Pz:=ah hin;have vT:=ah hout;clear hin hout hr hbb hP P
 cases r
 ·have HF:=ah (HB.out (vT.out (.inl rfl)) w (Kept.refl _ _))
  generalize dF w X M c (.bool (decide (0<=id/\id<4/\bY M.st.ms id=true))) (mJ M id) 0=Q at*
  go_enter Tryz.func31,Tryz.ntmps31
  go_wp2_with fail
  refine H1.out.mono ?_
  rintro e w1 ⟨rfl,rfl⟩
  go_wp2_with fail
  refine H2.out.mono ?_
  rintro e w1 ⟨rfl,rfl⟩
  go_wp2
  exact HF.out
 ·cases b
  rotate_left
  ·have hg:=HG.out (Pz.out rfl rfl)
   have FY:=ah hg;clear hg
   generalize dF w X M c (.bool (decide (0<=id/\id<4/\bY M.st.ms id=true))) (mJ M id) 0=Q at*
   go_enter Tryz.func31,Tryz.ntmps31
   go_wp2_with fail
   refine H1.out.mono ?_
   rintro e w1 ⟨rfl,rfl⟩
   go_wp2_with fail
   refine H2.out.mono ?_
   rintro e w1 ⟨rfl,rfl⟩
   go_wp2_with fail
   refine H3.out.mono ?_
   rintro e w2 ⟨rfl,hk2⟩
   have q8:=HQ.out _ hk2
   obtain⟨W1,hr1,hf⟩:=FY.out _ hk2
   have HF:=ah hf
   clear hk2 hf
   go_wp2
   exact HF.out
  ·have HF:=ah (HB.out (vT.out (.inr rfl)))
   generalize dF w X M c (.bool (decide (0<=id/\id<4/\bY M.st.ms id=true))) (mJ M id) 0=Q at*
   go_enter Tryz.func31,Tryz.ntmps31
   go_wp2_with fail
   refine H1.out.mono ?_
   rintro e w1 ⟨rfl,rfl⟩
   go_wp2_with fail
   refine H2.out.mono ?_
   rintro e w1 ⟨rfl,rfl⟩
   go_wp2_with fail
   refine H3.out.mono ?_
   rintro e w2 ⟨rfl,hk2⟩
   have mG:=ah (HF.out _ hk2)
   clear hk2
   go_wp2
   exact mG.out
theorem bD.join(h:bD M k)(id:Int):bD (oP M id) (k+1):=by
 unfold oP
 split
 ·refine⟨h.st,h.p3,h.pin,h.ug,h.last,h.marks,fun i v hv=> ?_,by have:=h.cnt;dsimp only;omega⟩
  simp only[uG]at hv
  split at hv
  ·cases hv
  ·exact h.iE i v hv
 ·exact h.mono (by omega)
theorem bD.leave(h:bD M k)(id:Int):bD (mJ M id) (k+1):=by
 unfold mJ
 split
 ·exact⟨h.st,h.p3,h.pin,h.ug,h.last,h.marks,h.iE,by have:=h.cnt;dsimp only;omega⟩
 ·exact h.mono (by omega)
end
end dH
namespace aO
theorem U8(w:World)(ep fl:Int)(A:Option Addr)(c:Nat)(l:List Mem)(x:Mem)(hl:Src w 2 A l.length (aP l))(hlen:l.length<=1000000):
  Calls Tryz.prog 97 #[lq ep A l.length c fl,je x] w fun e w'=>(∃n:Int,e=.returned (.int .i64 n)/\(0<=n↔x∈l)/\(n= -1\/0<=n))/\Kept aj w w':=by
 have HL:=ah hl;clear hl
 obtain⟨x1,x2⟩:=x
 have hn1:=(Has.new w 25 #[.int .i64 ep,.slice A l.length c,.int .u64 fl]).alloc (.cells #[.int .i64 x1,.int .i64 x2] 65)
 have hn2:=Has.new (w.alloc (.cells #[.int .i64 ep,.slice A l.length c,.int .u64 fl] 25)) 65 #[.int .i64 x1,.int .i64 x2]
 rw[size_alloc]at hn2
 have c0:=hn1.cell 1
 simp only[List.getElem?_toArray,List.getElem?_cons_zero,List.getElem?_cons_succ]at c0
 have dL:=ah hn2;clear hn2 hn1
 unfold je
 dsimp only
 go_enter Tryz.func97,Tryz.ntmps97
 go_wp2_with fail
 go_loopw [5,10] (fun v5 v10 wr=>∃i:Nat,i<=l.length/\v10=.int .i64 i/\Has wr (w.heap.size+1) 65 #[.int .i64 x1,.int .i64 x2]/\Kept aj w wr/\((x1,x2)∈l↔(x1,x2)∈l.drop i)) (fun _ v10 _=>l.length-(intOf v10).toNat)
 case atStart=>exact⟨0,Nat.zero_le _,rfl,dL.out,((Kept.refl _ _).alloc _).alloc _,Iff.rfl⟩
 case round=>
  obtain⟨i,hi,rfl,hh2,hk,he⟩:=hrel
  have e1:∀o,(wr.alloc o).cell? ⟨w.heap.size+1,0,none⟩=some (.int .i64 x1):=fun o=>(hh2.alloc o).cell 0
  have e2:∀o,(wr.alloc o).cell? ⟨w.heap.size+1,1,none⟩=some (.int .i64 x2):=fun o=>(hh2.alloc o).cell 1
  have Dn:=ah hh2;clear hh2
  have HK:=ah hk;clear hk
  have HE:=ah he;clear he
  by_cases hil:i<l.length
  ·obtain⟨m,hm⟩:∃m,l[i]? =some m:=⟨_,List.getElem?_eq_getElem hil⟩
   obtain⟨ad,hA,had,d0,d1⟩:=iH (HL.out.kept HK.out (fun _ _ x=>x)) (by omega) i m hm
   subst hA
   have hs:(x1,x2)∈l.drop i↔m=(x1,x2)\/(x1,x2)∈l.drop (i+1):=by rw[drop_cons hm,List.mem_cons,eq_comm]
   have abI:=Qs m (x1,x2)
   obtain⟨b,hb⟩:∃b:Bool,b=decide (m=(x1,x2)):=⟨_,rfl⟩
   rw[<-hb]at abI
   have HB:=ah hb;clear hb
   have HS:=ah hs;clear hs hm
   obtain⟨m1,m2⟩:=m
   unfold je at abI
   dsimp only at d0 d1 abI
   cases b
   ·go_wp2_with fail
    go_roundw
    case rel=>exact⟨i+1,by omega,by go_num,Dn.out.alloc _,HK.out.alloc _,by rw[HE.out,HS.out];have:=HB.out;simp at this;simp;omega⟩
    case measure=>simp[intOf];omega
   ·go_wp2_with fail
    go_ret
    exact⟨⟨_,rfl,⟨fun _=>by rw[HE.out,HS.out];have:=HB.out;simp at this;exact .inl (by simp[this]),fun _=>by omega⟩,.inr (by omega)⟩,HK.out.alloc _⟩
  ·obtain rfl:i=l.length:=by omega
   go_wp2
   go_ret
   exact⟨⟨-1,rfl,⟨fun h=>by omega,fun h=>by rw[HE.out,List.drop_length]at h;cases h⟩,.inl rfl⟩,HK.out⟩
end aO
namespace dH
open aO Vn Mst lV IM mY gZ
def qY(id:Int):aG:=nt 5 id ⟨0,0,0⟩ ⟨0,0,[]⟩
def oQ(M:MR)(id:Int)(x:bF):MR:={M with iE:=uG M.iE id (some x.aU),cnt:=M.cnt+1}
def EO(M:MR)(id:Int)(x:bF):MR:={oQ M id x with ns:=M.ns.set id.toNat 0,last:=max M.last x.last}
def jV(M:MR)(id:Int)(x:bF):MR:={EO M id x with marks:=uG M.marks id (some x.at'),cnt:=M.cnt+2}
def iM(M:MR)(id:Int)(x:bF):MR:=
 if(id,x.aU)∈M.st.ms then (if x.ep≠M.st.ep then EO M id x else if x.fl&& !inB M.st.lg id then writeM (jV M id x) (qY id)else jV M id x)
 else if bY M.st.ms id then {oQ M id x with lost:=fun y=>decide (y=id)||M.lost y,cnt:=M.cnt+2}else oQ M id x
def kY(M:MR)(id:Int)(x:bF):MR:=if x.ep<M.st.ep then jU (iM M id x) id else iM M id x
section
variable{w w':World}{X X0:MX}{M M0:MR}{c k:Nat}
theorem bD.write(h:bD M k){x:aG}(hu:NU x):bD (writeM M x) k:=by
 have h1:=h.st.write hu
 unfold writeM at*
 split
 ·rename_i he
  rw[if_pos he]at h1
  exact⟨h1,h.p3,h.pin,h.ug,h.last,h.marks,h.iE,h.cnt⟩
 ·exact h
theorem bD.send(h:bD M k)(to:Int)(x:bF):bD (iU M to x) k:=by
 unfold iU
 split
 ·exact⟨h.st,h.p3,h.pin,h.ug,h.last,h.marks,h.iE,h.cnt⟩
 ·exact h
theorem qw(M:MR)(x:aG):(writeM M x).out=M.out:=by unfold writeM;split<;>rfl
theorem abJ(M:MR)(to:Int)(x:bF):(iU M to x).out.length<=M.out.length+1:=by
 unfold iU
 split
 ·dsimp only;rw[List.length_append];exact Nat.le_refl _
 ·exact Nat.le_succ _
theorem qx(kk n:Int)(p:aY)(hp:0<=p.at'/\p.at'<=aT)(h0:0<=p.id):NU (nt kk n p ⟨0,0,[]⟩):=by
 refine⟨by unfold nt;dsimp only;unfold aT;decide,?_,?_⟩<;>first|exact hp|(unfold nt;dsimp only;unfold aT;decide)
theorem zo.heard{ns:List Int}{t:Int}(h:zo ns t)(i:Nat):zo (ns.set i 0) t:=
 ⟨by rw[List.length_set];exact h.len,fun n hn=>by
  rcases mem_set hn with y|y
  ·exact h.ns n y
  ·omega,h.t⟩
theorem Step.has{b:Nat}{t:TypeId}{cs:Array Value}(h:Step w X M w' X0 M0)(hh:Has w b t cs)(hn:¬dX X M b):Has w' b t cs/\¬dX X0 M0 b:=
 ⟨hh.kept h.k hn,fun hf=>by
  rcases h.g b hf with y|y
  ·exact hn y
  ·have:=hh.lt;omega⟩
theorem bD.oQ(h:bD M k)(id:Int)(x:bF)(hx:I64 x.aU):bD (oQ M id x) (k+1):=by
 refine⟨h.st,h.p3,h.pin,h.ug,h.last,h.marks,fun i v hv=> ?_,by have:=h.cnt;unfold dH.oQ;dsimp only;omega⟩
 simp only[dH.oQ,uG]at hv
 split at hv
 ·cases hv;exact hx
 ·exact h.iE i v hv
theorem bD.iM{w:World}(h:bD M k)(id:Int)(x:bF)(hx:I64 x.aU)(hok:iZ w x)(hid:0<=id/\id<4):bD (iM M id x) (k+1):=by
 have hl:0<=max M.last x.last/\max M.last x.last<=aT:=by have:=h.last;have:=hok.t.2.1;omega
 have h0:=h.oQ id x hx
 have hmk:bD (jV M id x) (k+1):=by
  refine⟨h.st,h.p3,h.pin,zo.heard h.ug _,hl,fun i v hv=> ?_,h0.iE,by have:=h.cnt;unfold jV;dsimp only;omega⟩
  simp only[jV,uG]at hv
  split at hv
  ·cases hv;exact hok.t.1
  ·exact h.marks i v hv
 unfold dH.iM
 split
 ·split
  ·exact⟨h.st,h.p3,h.pin,zo.heard h.ug _,hl,h.marks,h0.iE,h0.cnt⟩
  ·split
   ·exact hmk.write (qx _ _ _ (by decide) (by decide))
   ·exact hmk
 ·split
  ·exact⟨h.st,h.p3,h.pin,h.ug,h.last,h.marks,h0.iE,by have:=h.cnt;dsimp only;omega⟩
  ·exact h0
theorem bD.kY{w:World}(h:bD M k)(id:Int)(x:bF)(hx:I64 x.aU)(hok:iZ w x)(hid:0<=id/\id<4):bD (kY M id x) (k+1):=by
 unfold dH.kY
 split
 ·exact(h.iM id x hx hok hid).send _ _
 ·exact h.iM id x hx hok hid
theorem Y2(M:MR)(id:Int)(x:bF):(iM M id x).out=M.out:=by
 unfold iM
 split
 ·split
  ·rfl
  ·split
   ·exact qw _ _
   ·rfl
 ·split<;>rfl
theorem Y3(F:Nat->Prop)(id:Int):JY F (qY id):=⟨fun h=>absurd h (Nat.lt_irrefl _),fun h=>absurd h (Nat.lt_irrefl _),fun h=>absurd h (Nat.lt_irrefl _)⟩
theorem aff{v:Int}(h:0<=v/\v<=aT):(Lit.int .u64 v).wf=true:=by
 unfold Lit.wf
 unfold aT at h
 have hb:(2:Int)^IntKind.u64.bits=18446744073709551616:=by decide
 simp[IntKind.signed,IntKind.min,IntKind.max,hb]
 omega
structure qF(w:World)(X:MX)(M:MR)(c:Nat)(b1:Nat)(t1:TypeId)(k1:Array Value)(b2:Nat)(t2:TypeId)(k2:Array Value)(W:World)(X1:MX)(M1:MR):Prop where
 s:Step w X M W X1 M1
 lb:dw X1 M1.lg c
 h1:Has W b1 t1 k1
 h2:Has W b2 t2 k2
 o1:¬dX X1 M1 b1
 o2:¬dX X1 M1 b2
section
variable{W W':World}{X1 X2:MX}{M1 M2:MR}{b1 b2:Nat}{t1 t2:TypeId}{k1 k2:Array Value}
theorem qF.quiet(h:qF w X M c b1 t1 k1 b2 t2 k2 W X1 M1)(hk:Kept aj W W'):qF w X M c b1 t1 k1 b2 t2 k2 W' X1 M1:=⟨h.s.quiet hk,h.lb,h.h1.kept hk (fun z=>z),h.h2.kept hk (fun z=>z),h.o1,h.o2⟩
theorem qF.step(h:qF w X M c b1 t1 k1 b2 t2 k2 W X1 M1)(hs:Step W X1 M1 W' X2 M2){c2:Nat}(hl:dw X2 M2.lg c2):qF w X M c2 b1 t1 k1 b2 t2 k2 W' X2 M2:=by
 have a1:=hs.has h.h1 h.o1
 have a2:=hs.has h.h2 h.o2
 exact⟨h.s.trans hs,hl,a1.1,a2.1,a1.2,a2.2⟩
theorem qF.mono(h:qF w X M c b1 t1 k1 b2 t2 k2 W X1 M1){c2:Nat}(hc:c<=c2):qF w X M c2 b1 t1 k1 b2 t2 k2 W X1 M1:=⟨h.s,h.lb.mono hc,h.h1,h.h2,h.o1,h.o2⟩
end
theorem abK(h:dD w X M)(hb:dw X M.lg c)(hc:c<=4000)(hm:bD M k)(hk:k<=1000)(ho:M.out.length<=100)(i:Nat)(h4:i<4)(x:bF)(hx:iZ w x)(hxs:I64 x.aU):
  Calls Tryz.prog 48 #[.pointer (some ⟨X.mb,0,none⟩),.int .i64 i,gK x] w (dF w X M c (.tuple #[]) (kY M i x) 1):=by
 have hi:=fZ (i:=i) (by omega) (by omega)
 obtain⟨W0,hW0⟩:∃W0,w.alloc (.cells (aI x).toArray 45)=W0:=⟨_,rfl⟩
 have hk0:Kept aj w W0:=by rw[<-hW0];(repeat'(first|(with_reducible first|exact ak|apply au|apply ay|apply aA|apply aB)|(right;simp;done)))
 have hn0:Has W0 w.heap.size 45 (aI x).toArray:=by rw[<-hW0];exact Has.new _ _ _
 have hsd:Step w X M W0.drew X M:=Step.refl h hk0.drew
 have hcs:eF .i64 3 W0.drew X.se M.cnt M.iE:=hsd.at'.c 6
 obtain⟨W1,hr1,hs1,hk1⟩:=eF.store hcs Tryz.underlying87 Tryz.underlying3 (by have:=hm.cnt;unfold maxLen;omega) hi hxs
 have st1:Step w X M W1 X (oQ M i x):=hsd.trans (dD.Lp hsd.at' hs1 (Nat.le_succ _) hk1)
 have hoff:¬dX X M w.heap.size:=fun hf=>absurd (h.lt hf) (Nat.lt_irrefl _)
 have hn1:Has W1 w.heap.size 45 (aI x).toArray:=(Has.drew hn0).kept hk1 (fun e=>hoff ⟨6,e⟩)
 have p0:W0.cell? ⟨X.mb,6,none⟩=some (.map (some X.se)):=(h.quiet hk0).cell (i:=6) rfl
 have p1:W0.cell? ⟨w.heap.size,3,none⟩=some (.int .i64 x.aU):=hn0.cell 3
 have q2:W1.cell? ⟨X.mb,2,none⟩=some (.pointer (some ⟨X.sb,0,none⟩)):=st1.at'.cell (i:=2) rfl
 have hcf:=pN (st1.at'.c 2) hm.st.inv.ok
 obtain⟨ep,lS⟩:∃ep,M.st.ep=ep:=⟨_,rfl⟩
 obtain⟨fl,hfl⟩:∃fl,M.st.fl=fl:=⟨_,rfl⟩
 have G9:Calls Tryz.prog 39 #[.pointer (some ⟨X.sb,0,none⟩)] W1 (rG W1 ep fl M.st.ms):=by rw[<-lS,<-hfl];exact hcf
 have afg:dw X (oQ M i x).lg c:=hb
 have Y4:∀q,dX X (oQ M i x) q->dX X M q:=fun q hq=>hq
 have hw1:w.heap.size<W1.heap.size:=hn1.lt
 have gq:Hid (bD (iM M i x) (k+1)):=ah (hm.iM i x hxs hx ⟨by omega,by omega⟩)
 have HB1:Hid ((iM M i x).out.length<=100):=ah (by rw[Y2];exact ho)
 have hend:∀W X1 b2 t2 k2,qF w X M (c+1) w.heap.size 45 (aI x).toArray b2 t2 k2 W X1 (iM M i x)->(x.ep<ep/\Calls Tryz.prog 50 #[.pointer (some ⟨X.mb,0,none⟩),.int .i64 i] W fun e w'=>e=.returned (.tuple #[])/\dF w X M c (.tuple #[]) (kY M i x) 1 (.returned (.tuple #[])) w')\/(¬x.ep<ep/\dF w X M c (.tuple #[]) (kY M i x) 1 (.returned (.tuple #[])) W):=by
  intro W X1 b2 t2 k2 hs
  have hB:kY M i x=if x.ep<ep then jU (iM M i x) i else iM M i x:=by rw[<-lS];rfl
  rw[hB]
  by_cases hlt:x.ep<ep
  ·rw[if_pos hlt]
   refine .inl ⟨hlt,?_⟩
   have hw:=EK hs.s.at' hs.lb (by have:=HB1.out;omega) gq.out.st.inv.ok gq.out.st.su i
   rw[hs.s.mb]at hw
   refine hw.mono ?_
   rintro e w' ⟨rfl,X',h1,h2⟩
   exact⟨rfl,rfl,X',hs.s.trans h1,h2⟩
  ·rw[if_neg hlt]
   exact .inr ⟨hlt,rfl,X1,hs.s,hs.lb⟩
 have jv:=ah hend
 clear hend
 have HLG:=ah (fun W (h:dD W X (jV M i x))=>BX (h.c 2) hm.st.inv.ok)
 have HLN:=ah hm.st.inv.ok
 have Bv:=ah G9
 have HST:=ah st1;have jy:=ah afg;have Dl:=ah hn1;have HB:=ah hb;have HC:=ah hc;have HM:=ah hm;have HK:=ah hk;have HO:=ah ho;have HX:=ah hx;have HXS:=ah hxs;have pR:=ah hoff;have HI:=ah hi;have HEP:=ah lS;have Py:=ah Y4;have HW1:=ah hw1
 have uY:=ah (fun q (hq:dX X M q)=>h.lt hq)
 clear hn0 hsd hcs hs1 hk1 st1 hn1 h hb hc hm hk ho hx hxs hoff hk0 hi hcf G9 lS hfl afg Y4 hw1
 go_enter Tryz.func48,Tryz.ntmps48
 go_wp2_with fail
 refine wp_region_still_tail 7 (by kernel_rfl) (by kernel_rfl) ?_
 simp only[List.take_succ_cons,List.take_zero,List.drop_succ_cons,List.drop_zero]
 change wpStill _ _ (World.drew W0) _ _ _
 repeat still_step
 refine wpStill_nil ?_
 change wpList _ _ _ _ _ (World.drew W0)
 go_wp2_with fail
 clear p0 p1 hW0 hr1
 refine Bv.out.mono ?_
 rintro e w2 ⟨A,d,rfl,hr,hk2⟩
 clear q2
 obtain⟨W3,hW3⟩:∃W3,w2.alloc (.cells #[.int .i64 ep,.slice A M.st.ms.length d,.int .u64 fl] 25)=W3:=⟨_,rfl⟩
 have hk3:Kept aj W1 W3:=by rw[<-hW3];(repeat'(first|(with_reducible first|exact ak|apply au|apply ay|apply aA|apply aB)|(exact hk2)|(right;simp;done)))
 have hc3:Has W3 w2.heap.size 25 #[.int .i64 ep,.slice A M.st.ms.length d,.int .u64 fl]:=by rw[<-hW3];exact Has.new _ _ _
 have hr3:=aF.kept hr (w':=W3) (by rw[<-hW3];(repeat'(first|(with_reducible first|exact ak|apply au|apply ay|apply aA|apply aB)|(right;simp;done))))
 have s3:qF w X M c w.heap.size 45 (aI x).toArray w2.heap.size 25 #[.int .i64 ep,.slice A M.st.ms.length d,.int .u64 fl] W3 X (oQ M i x):=
  ⟨HST.out.quiet hk3,jy.out,Dl.out.kept hk3 (fun z=>z),hc3,pR.out,fun hf=>by have:=uY.out _ (Py.out _ hf);have:=HW1.out;have:=hk2.size;omega⟩
 have b3:W3.cell? ⟨w.heap.size,3,none⟩=some (.int .i64 x.aU):=s3.h1.cell 3
 have hpl:=aO.U8 W3 ep fl A d M.st.ms ((i:Int),x.aU) (Src.bC hr3.1) (by have:=HLN.out.m;omega)
 obtain⟨cb,hcb⟩:∃cb,w2.heap.size=cb:=⟨_,rfl⟩
 rw[hcb]at s3
 have d0:W3.cell? ⟨cb,0,none⟩=some (.int .i64 ep):=s3.h2.cell 0
 have d1:W3.cell? ⟨cb,1,none⟩=some (.slice A M.st.ms.length d):=s3.h2.cell 1
 have d2:W3.cell? ⟨cb,2,none⟩=some (.int .u64 fl):=s3.h2.cell 2
 have Ez:=ah hpl;have jZ:=ah s3;clear hpl s3 hr3 hc3 hk3 hr hk2
 go_wp2_with fail
 clear b3 hW3 d0 d1 d2
 refine Ez.out.mono ?_
 rintro e W4 ⟨⟨n,rfl,hn1,hn2⟩,hk4⟩
 have s4:=jZ.out.quiet hk4
 have qW:=ah s4;clear s4 hk4 jZ hcb Ez
 by_cases hin:((i:Int),x.aU)∈M.st.ms
 ·have hn0:0<=n:=hn1.2 hin
  have hB1:iM M i x=if x.ep≠ep then EO M i x else if x.fl&& !inB M.st.lg i then writeM (jV M i x) (qY i)else jV M i x:=by rw[<-HEP.out];unfold iM;rw[if_pos hin]
  have sD:=ah hB1
  have q4:W4.cell? ⟨X.mb,4,none⟩=some (.pointer (some ⟨X.wb,0,none⟩)):=qW.out.s.at'.cell (i:=4) rfl
  have Y5:=KA (qW.out.s.at'.c 4) HM.out.ug i h4
  have HHE:=ah Y5
  clear hn1 hn2 hin hB1 Y5
  go_wp2_with fail
  clear q4
  refine HHE.out.mono ?_
  rintro e W5 ⟨rfl,hw5,hk5⟩
  have s5:=qW.out.step (dD.O1 qW.out.s.at' hw5 hk5) qW.out.lb
  obtain⟨mx,hmx⟩:∃mx,max M.last x.last=mx:=⟨_,rfl⟩
  have Gl:=s5.quiet (Kept.refl aj W5).drew
  have s6:=Gl.step (Step.setLast (Step.refl Gl.s.at' (Kept.refl _ _)) mx) Gl.lb
  have hH0:({oQ M i x with ns:=M.ns.set i 0,last:=mx}:MR)=EO M i x:=by rw[<-hmx];rfl
  have s6':qF w X M c w.heap.size 45 (aI x).toArray cb 25 #[.int .i64 ep,.slice A M.st.ms.length d,.int .u64 fl] (World.setCell (World.drew W5) ⟨X.mb,7,none⟩ (.int .u64 mx)) X (EO M i x):=by rw[<-hH0];exact s6
  have q5:W5.cell? ⟨X.mb,7,none⟩=some (.int .u64 M.last):=s5.s.at'.cell (i:=7) rfl
  have f5:=(Has.frozen (s5.s.at'.c 0) 7)
  have g5:W5.cell? ⟨w.heap.size,6,none⟩=some (.int .u64 x.last):=s5.h1.cell 6
  have hmf:=fun W ts t=>TL M.last x.last mx hmx W ts t
  obtain⟨W6,KN⟩:∃W6,(World.setCell (World.drew W5) ⟨X.mb,7,none⟩ (.int .u64 mx))=W6:=⟨_,rfl⟩
  rw[KN]at s6'
  have oL:=ah s6'
  clear s5 Gl s6 s6' hH0 hw5 hk5 hmx qW
  go_wp2_with fail
  refine wp_region_still_tail 10 (by kernel_rfl) (by kernel_rfl) ?_
  simp only[List.take_succ_cons,List.take_zero,List.drop_succ_cons,List.drop_zero]
  change wpStill _ _ (World.drew W5) _ _ _
  repeat still_step
  refine wpStill_nil ?_
  change wpList _ _ _ _ _ (World.drew W5)
  have t1:=oL.out.h1.cell 1
  have t6:=oL.out.h2.cell 0
  simp only[aI,List.getElem?_toArray,List.getElem?_cons_zero,List.getElem?_cons_succ]at t1 t6
  by_cases hee:x.ep≠ep
  ·rw[if_pos hee]at sD
   rw[<-sD.out]at oL
   have oL:=ah (oL.out.mono (Nat.le_succ c))
   clear t1 t6
   have t1:=oL.out.h1.cell 1
   have t6:=oL.out.h2.cell 0
   simp only[aI,List.getElem?_toArray,List.getElem?_cons_zero,List.getElem?_cons_succ]at t1 t6
   rcases jv.out _ _ _ _ _ oL.out with⟨hlt,hcall⟩|⟨hlt,hfin⟩
   ·have fO:=ah hcall;clear hcall
    go_wp2_with fail
    clear t1 t6
    refine fO.out.mono ?_
    rintro e w9 ⟨rfl,hq⟩
    have Y6:=ah hq;clear hq
    go_wp2
    go_end0
    exact Y6.out
   ·have bP:=ah hfin;clear hfin
    go_wp2_with fail
    clear t1 t6
    go_end0
    exact bP.out
  ·obtain hee:x.ep=ep:=Classical.byContradiction hee
   rw[if_neg (fun h=>h hee)]at sD
   have hux:(Lit.int .u64 x.at').wf=true:=aff HX.out.t.1
   have Gl:=oL.out.quiet (Kept.refl aj W6).drew
   have hcm:eF .u64 23 W6.drew X.mm (M.cnt+1) M.marks:=Gl.s.at'.c 5
   obtain⟨W7,hr7,hs7,lN⟩:=eF.store hcm Tryz.underlying86 Tryz.underlying23 (by have:=HM.out.cnt;have:=HK.out;unfold maxLen;omega) HI.out hux
   have s7:qF w X M c w.heap.size 45 (aI x).toArray cb 25 #[.int .i64 ep,.slice A M.st.ms.length d,.int .u64 fl] W7 X (jV M i x):=Gl.step (dD.OY Gl.s.at' hs7 (Nat.le_succ _) lN) Gl.lb
   have q6:W6.cell? ⟨X.mb,5,none⟩=some (.map (some X.mm)):=oL.out.s.at'.cell (i:=5) rfl
   have t5:=oL.out.h1.cell 5
   simp only[aI,List.getElem?_toArray,List.getElem?_cons_zero,List.getElem?_cons_succ]at t5
   have u4:W7.cell? ⟨w.heap.size,4,none⟩=some (.bool x.fl):=s7.h1.cell 4
   have qg:=ah s7
   clear Gl hcm hs7 lN hux s7 oL
   obtain⟨b,hbf⟩:∃b,x.fl=b:=⟨_,rfl⟩
   have u4b:W7.cell? ⟨w.heap.size,4,none⟩=some (.bool b):=by rw[<-hbf];exact u4
   clear u4
   have hle:=HLG.out W7 qg.out.s.at'
   have jk:=ah hle
   have q7:W7.cell? ⟨X.mb,2,none⟩=some (.pointer (some ⟨X.sb,0,none⟩)):=qg.out.s.at'.cell (i:=2) rfl
   clear hle
   have hwr:∀W,Kept aj W7 W->Calls Tryz.prog 25 #[.pointer (some ⟨X.mb,0,none⟩),.agg (aJ (qY i)).toArray] W fun e w'=>(∃z,e=.returned (.int .i64 z))/\∃X',Step W X (jV M i x) w' X' (writeM (jV M i x) (qY i))/\dw X' (writeM (jV M i x) (qY i)).lg (c+1):=fun W hW=>by
    refine(write_any (qg.out.s.at'.quiet hW) qg.out.lb HC.out HLN.out (qY i) (Ir _ _ _ _ _ _) (qx _ _ _ (by decide) (by decide)) (Y3 _ _)).mono ?_
    rintro e w' ⟨rfl,h⟩
    exact⟨⟨_,rfl⟩,h⟩
   simp only[qY,nt,aJ,List.length_nil,jD]at hwr
   have qM:=ah hwr;clear hwr
   cases b
   ·go_wp2_with fail
    refine wp_region_still_tail 7 (by kernel_rfl) (by kernel_rfl) ?_
    simp only[List.take_succ_cons,List.take_zero,List.drop_succ_cons,List.drop_zero]
    change wpStill _ _ (World.drew W6) _ _ _
    repeat still_step
    refine wpStill_nil ?_
    change wpList _ _ _ _ _ (World.drew W6)
    rw[hbf,Bool.false_and,if_neg (by decide)]at sD
    rw[<-sD.out]at qg
    have qg:=ah (qg.out.mono (Nat.le_succ c))
    clear qM jk
    have t1:=qg.out.h1.cell 1
    have t6:=qg.out.h2.cell 0
    simp only[aI,List.getElem?_toArray,List.getElem?_cons_zero,List.getElem?_cons_succ]at t1 t6
    rcases jv.out _ _ _ _ _ qg.out with⟨hlt,hcall⟩|⟨hlt,hfin⟩
    ·exact absurd hlt (by omega)
    ·have bP:=ah hfin;clear hfin hlt
     rw[hee]at t1
     have hlt:¬ep<ep:=by omega
     go_wp2_with fail
     clear t1 t6
     go_end0
     exact bP.out
   ·go_wp2_with fail
    refine wp_region_still_tail 7 (by kernel_rfl) (by kernel_rfl) ?_
    simp only[List.take_succ_cons,List.take_zero,List.drop_succ_cons,List.drop_zero]
    change wpStill _ _ (World.drew W6) _ _ _
    repeat still_step
    refine wpStill_nil ?_
    change wpList _ _ _ _ _ (World.drew W6)
    rw[hbf,Bool.true_and]at sD
    go_wp2_with fail
    clear q7 u4b hr7 q6 t5
    refine jk.out.mono ?_
    rintro e W8 ⟨B,db,rfl,DU,hk8⟩
    have hco:=Mst.kP W8 B db M.st.lg i (Src.bC DU.1) (by have:=HLN.out.l;omega)
    obtain⟨bb,hbb⟩:∃bb,inB M.st.lg i=bb:=⟨_,rfl⟩
    rw[hbb]at hco sD
    have qK:=ah hco;have vg:=ah hk8;clear hco hk8 DU hbb
    go_wp2_with fail
    refine qK.out.mono ?_
    rintro e W9 ⟨rfl,hk9⟩
    have nK:=ah (vg.out.then hk9);clear hk9 vg
    cases bb
    ·rw[if_pos (by decide)]at sD
     have abL:=sD.out.symm
     simp only[qY,nt,jD]at abL
     have agp:=ah abL;clear abL
     have hwr:=qM.out _ nK.out
     have ag6:=ah hwr;clear hwr
     go_wp2_with fail
     refine ag6.out.mono ?_
     rintro e qN ⟨⟨z,rfl⟩,X',hst,hlb⟩
     have s10:=(qg.out.quiet nK.out).step hst hlb
     rw[agp.out]at s10
     have abM:=ah s10;clear s10 hst hlb
     have t1:=abM.out.h1.cell 1
     have t6:=abM.out.h2.cell 0
     simp only[aI,List.getElem?_toArray,List.getElem?_cons_zero,List.getElem?_cons_succ]at t1 t6
     rcases jv.out _ _ _ _ _ abM.out with⟨hlt,hcall⟩|⟨hlt,hfin⟩
     ·exact absurd hlt (by omega)
     ·have bP:=ah hfin;clear hfin hlt
      rw[hee]at t1
      have hlt:¬ep<ep:=by omega
      go_wp2_with fail
      clear t1 t6
      go_end0
      exact bP.out
    ·rw[if_neg (by decide)]at sD
     have s9:=(qg.out.quiet nK.out).mono (Nat.le_succ c)
     rw[<-sD.out]at s9
     have Tq:=ah s9;clear s9
     have t1:=Tq.out.h1.cell 1
     have t6:=Tq.out.h2.cell 0
     simp only[aI,List.getElem?_toArray,List.getElem?_cons_zero,List.getElem?_cons_succ]at t1 t6
     rcases jv.out _ _ _ _ _ Tq.out with⟨hlt,hcall⟩|⟨hlt,hfin⟩
     ·exact absurd hlt (by omega)
     ·have bP:=ah hfin;clear hfin hlt
      rw[hee]at t1
      have hlt:¬ep<ep:=by omega
      go_wp2_with fail
      clear t1 t6
      go_end0
      exact bP.out
 ·have hn0:n= -1:=by
   rcases hn2 with h|h
   ·exact h
   ·exact absurd (hn1.1 h) hin
  subst hn0
  have hmem:=nY qW.out.s.at' HLN.out i
  have hB1:iM M i x=if bY M.st.ms i then {oQ M i x with lost:=fun y=>decide (y=(i:Int))||M.lost y,cnt:=M.cnt+2}else oQ M i x:=by unfold iM;rw[if_neg hin]
  have EP:=fun W (hW:Kept aj W4 W)=>bM.store (w:=W) (b:=X.lo) (n:=M.cnt+1) (s:=M.lost) ((qW.out.s.at'.quiet hW).c 9) (by have:=HM.out.cnt;have:=HK.out;unfold maxLen;omega) HI.out
  obtain⟨bb,hbb⟩:∃bb,bY M.st.ms i=bb:=⟨_,rfl⟩
  have acQ:Calls Tryz.prog 72 #[.pointer (some ⟨X.mb,0,none⟩),.int .i64 i] W4 fun e w'=>e=.returned (.bool bb)/\Kept aj W4 w':=by rw[<-hbb];exact hmem
  rw[hbb]at hB1
  have sD:=ah hB1;have PD:=ah EP;have JZ:=ah acQ
  clear hn1 hn2 hin hB1 EP hmem acQ hbb
  go_wp2_with fail
  refine JZ.out.mono ?_
  rintro e W5 ⟨rfl,hk5⟩
  have s5:=qW.out.quiet hk5
  have q5:W5.cell? ⟨X.mb,10,none⟩=some (.map (some X.lo)):=s5.s.at'.cell (i:=10) rfl
  obtain⟨W6,hr6,hs6,hk6⟩:=PD.out W5 hk5
  cases bb
  ·rw[if_neg (by decide)]at sD
   rw[<-sD.out]at s5
   have pI:=ah (s5.mono (Nat.le_succ c));clear s5 hr6 hs6 hk6 hk5 q5
   have t1:=pI.out.h1.cell 1
   have t6:=pI.out.h2.cell 0
   simp only[aI,List.getElem?_toArray,List.getElem?_cons_zero,List.getElem?_cons_succ]at t1 t6
   rcases jv.out _ _ _ _ _ pI.out with⟨hlt,hcall⟩|⟨hlt,hfin⟩
   ·have fO:=ah hcall;clear hcall
    go_wp2_with fail
    clear t1 t6
    refine fO.out.mono ?_
    rintro e w9 ⟨rfl,hq⟩
    have Y6:=ah hq;clear hq
    go_wp2
    go_end0
    exact Y6.out
   ·have bP:=ah hfin;clear hfin
    go_wp2_with fail
    clear t1 t6
    go_end0
    exact bP.out
  ·rw[if_pos rfl]at sD
   have s6:=s5.step (dD.Tc s5.s.at' hs6 (Nat.le_succ _) hk6) s5.lb
   have hB2:iM M i x={oQ M i x with lost:=fun y=>decide (y=(i:Int))||M.lost y,cnt:=M.cnt+1+1}:=sD.out
   have afh:qF w X M c w.heap.size 45 (aI x).toArray cb 25 #[.int .i64 ep,.slice A M.st.ms.length d,.int .u64 fl] W6 X (iM M i x):=by rw[hB2];exact s6
   have oL:=ah (afh.mono (Nat.le_succ c));clear s5 s6 hs6 hk6 hk5 hB2 afh
   have t1:=oL.out.h1.cell 1
   have t6:=oL.out.h2.cell 0
   simp only[aI,List.getElem?_toArray,List.getElem?_cons_zero,List.getElem?_cons_succ]at t1 t6
   rcases jv.out _ _ _ _ _ oL.out with⟨hlt,hcall⟩|⟨hlt,hfin⟩
   ·have fO:=ah hcall;clear hcall
    go_wp2_with fail
    clear t1 t6
    refine fO.out.mono ?_
    rintro e w9 ⟨rfl,hq⟩
    have Y6:=ah hq;clear hq
    go_wp2
    go_end0
    exact Y6.out
   ·have bP:=ah hfin;clear hfin
    go_wp2_with fail
    clear t1 t6
    go_end0
    exact bP.out
end
end dH
end Go.Proofs.YtfjdpbbgfjhnlaaGreat
