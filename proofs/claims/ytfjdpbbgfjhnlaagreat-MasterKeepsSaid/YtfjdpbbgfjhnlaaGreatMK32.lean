/- Part 33 of what the proof needs. -/
import Derived.Test.YtfjdpbbgfjhnlaaGreatMK31
import Derived.Deep.WholeRow
set_option linter.unusedSimpArgs false
set_option linter.unusedVariables false
set_option maxHeartbeats 32000000
set_option maxRecDepth 100000
namespace Go.Proofs.YtfjdpbbgfjhnlaaGreat
open Go.RowKit
set_option maxRecDepth 100000
namespace dH
open aO Vn Mst lV IM mY gZ
def oV(a:jK):aG:=⟨8,0,0,0,none,0,[],0,none,0,[],none,0,⟨0,0,[]⟩,0,⟨0,0,0⟩,a⟩
def Aq(k ep req n e:Int):bF:=⟨k,ep,req,0,false,0,0,n,0,0,e,⟨#[]⟩,⟨#[]⟩,0,none,0,[],0,0,0,none,0,[],none,0,[],none,0,[],none,0,[]⟩
def sF(M:MR)(cl:Int)(x:bF):jK:=if(jE M.st cl).req<x.req then ⟨cl,x.req,(gY M x).2,(gY M x).1⟩else jE M.st cl
def ig(M:MR)(cl:Int)(x:bF):MR:=if(jE M.st cl).req<x.req then writeM (fB M x) (oV (sF M cl x))else M
def yY(s:bQ)(a:jK):bF:=if a.e=0 then Aq 14 0 a.req a.pin 0 else Aq 7 s.ep a.req (nH s.ms+1) a.e
def kH(M:MR)(cl:Int)(x:bF):MR:=if x.req<1\/x.req<(jE M.st cl).req then M else iU (ig M cl x) (5+cl) (yY (ig M cl x).st (sF M cl x))
section
variable{w w':World}{X X0:MX}{M M0:MR}{c k:Nat}
def vV(a:Addr)(v:Value):Sem Unit:=storeVar 45 a v
theorem EU(a:Addr)(v:Value):storeVar 45 a v=vV a v:=rfl
attribute [local go_sem↓] EU
theorem Gn(W:World)(g:Nat)(cs:Array Value):Kept (fun k=>k=g) W (W.setRow g cs):=
 ⟨rfl,rfl,rfl,by unfold World.setRow;simp,fun k hk hF=>by
  unfold World.setRow
  rw[Array.getElem?_modify,if_neg (fun e=>hF e.symm)]⟩
theorem J3(a:jK):NU (oV a):=⟨by unfold oV;dsimp only;unfold aT;decide,by unfold oV;dsimp only;unfold aT;decide,by unfold oV;dsimp only;unfold aT;decide,by unfold oV;dsimp only;unfold aT;decide⟩
theorem abP(w:World)(a:jK):iI w (oV a):=⟨Src.nil _ _ _,Nat.le_refl _,Nat.zero_le _,Src.nil _ _ _,Nat.le_refl _,Nat.zero_le _,Src.nil _ _ _⟩
theorem Zd(F:Nat->Prop)(a:jK):JY F (oV a):=⟨fun h=>absurd h (Nat.lt_irrefl _),fun h=>absurd h (Nat.lt_irrefl _),fun h=>absurd h (Nat.lt_irrefl _)⟩
theorem Tt(w:World)(k ep req n e:Int):iZ w (Aq k ep req n e):=
 ⟨Src.nil _ _ _,Nat.le_refl _,Nat.zero_le _,Src.nil _ _ _,Src.nil _ _ _,fun y hy=>(by cases hy),Nat.zero_le _,Src.nil _ _ _,Nat.zero_le _,fun y hy=>(by cases hy),Src.nil _ _ _,Nat.zero_le _,by unfold Aq;dsimp only;unfold aT;decide⟩
theorem PG{s:bQ}(h:Mst.Inv s): -1<=nH s.ms/\nH s.ms<4:=by
 rcases h.conf with⟨_,h2,_⟩|⟨h2,_⟩
 ·rw[h2];exact⟨by decide,by decide⟩
 ·cases hm:s.ms with
  |nil=>exact⟨by decide,by decide⟩
  |cons m r=>
   rw[hm]at h2
   unfold aO.chk at h2
   have h0:o7 m []=0:=by
    split at h2
    ·cases h2
    ·split at h2
     ·cases h2
     ·split at h2
      ·cases h2
      ·unfold jP at h2
       split at h2
       ·assumption
       ·rename_i h3;exact absurd h2 h3
   unfold o7 at h0
   split at h0
   ·cases h0
   ·show-1<=m.1/\m.1<4
    omega
theorem bD.ig{w:World}(h:bD M k)(cl:Int)(x:bF)(hok:iZ w x):bD (dH.ig M cl x) k:=by
 unfold dH.ig
 split
 ·exact(h.fB x hok).write (J3 _)
 ·exact h
theorem abQ(M:MR)(cl:Int)(x:bF):(ig M cl x).out=M.out:=by
 unfold ig
 split
 ·rw[qw,Vd]
 ·rfl
theorem bD.kH{w:World}(h:bD M k)(cl:Int)(x:bF)(hok:iZ w x):bD (dH.kH M cl x) k:=by
 unfold dH.kH
 split
 ·exact h
 ·exact(h.ig cl x hok).send _ _
theorem Step.side{W W':World}{X1:MX}{M1:MR}{b:Nat}(h:Step w X M W X1 M1)(hk:Kept (fun k=>k=b) W W')(hw:w.heap.size<=b)(ho:¬dX X1 M1 b):Step w X M W' X1 M1:=
 ⟨⟨fun i=>(h.at'.c i).kept hk (fun k hp e=>ho ⟨i,e▸hp⟩),h.at'.ap⟩,h.g,h.k.trans hk (fun k e=> .inr (by rw[e];exact hw)),h.fx⟩
theorem qF.side{W W':World}{X1:MX}{M1:MR}{b1 b2:Nat}{t1 t2:TypeId}{k1 k2 k3:Array Value}(h:qF w X M c b1 t1 k1 b2 t2 k2 W X1 M1)(hk:Kept (fun k=>k=b2) W W')(hb:Has W' b2 t2 k3)(hne:b1≠b2)(hw:w.heap.size<=b2):qF w X M c b1 t1 k1 b2 t2 k3 W' X1 M1:=
 ⟨⟨⟨fun i=>(h.s.at'.c i).kept hk (fun k hp e=>h.o2 ⟨i,e▸hp⟩),h.s.at'.ap⟩,h.s.g,h.s.k.trans hk (fun k e=> .inr (by rw[e];exact hw)),h.s.fx⟩,h.lb,h.h1.kept hk (fun e=>hne e),hb,h.o1,h.o2⟩
theorem Tv(h:dD w X M)(ho:M.out.length<=100)(hm:bD M k)(cl:Int)(hcl:0<=cl/\cl<3)(x:bF)(hx:iZ w x)(DF:kH M cl x=iU (ig M cl x) (5+cl) (yY (ig M cl x).st (sF M cl x)))(a:jK)(hA:sF M cl x=a):
  ∀W X1,Step w X M W X1 (ig M cl x)->dw X1 (ig M cl x).lg (c+2)->Calls Tryz.prog 100 #[.pointer (some ⟨X.mb,0,none⟩),.int .i64 (5+cl),.agg (aI (if a.e=0 then Aq 14 0 a.req a.pin 0 else Aq 7 (ig M cl x).st.ep a.req (nH (ig M cl x).st.ms+1) a.e)).toArray] W fun e w'=>e=.returned (.tuple #[])/\dF w X M c (.tuple #[]) (kH M cl x) 2 (.returned (.tuple #[])) w':=fun W X1 hs hl=>by
 rw[DF,hA]
 have hok:iZ W (yY (ig M cl x).st a):=by
  unfold yY
  split
  ·exact Tt _ _ _ _ _ _
  ·exact Tt _ _ _ _ _ _
 have hw:=Pg hs.at' hl (by rw[abQ];omega) (5+cl) _ hok
 rw[hs.mb]at hw
 refine hw.mono ?_
 rintro e w' ⟨rfl,X',g1,g2⟩
 exact⟨rfl,rfl,X',hs.trans g1,g2⟩
theorem adK(h:dD w X M)(hb:dw X M.lg c)(hc:c<=3000)(hm:bD M k)(ho:M.out.length<=100)(cl:Int)(hcl:0<=cl/\cl<3)(x:bF)(hx:iZ w x)(h0:x.req<1\/x.req<(jE M.st cl).req):
  Calls Tryz.prog 51 #[.pointer (some ⟨X.mb,0,none⟩),.int .i64 cl,gK x] w (dF w X M c (.tuple #[]) (kH M cl x) 2):=by
 obtain⟨W0,hW0⟩:∃W0,w.alloc (.cells (aI x).toArray 45)=W0:=⟨_,rfl⟩
 have hk0:Kept aj w W0:=by rw[<-hW0];(repeat'(first|(with_reducible first|exact ak|apply au|apply ay|apply aA|apply aB)|(right;simp;done)))
 have hn0:Has W0 w.heap.size 45 (aI x).toArray:=by rw[<-hW0];exact Has.new _ _ _
 have hoff:¬dX X M w.heap.size:=fun hf=>absurd (h.lt hf) (Nat.lt_irrefl _)
 have q2:W0.cell? ⟨X.mb,2,none⟩=some (.pointer (some ⟨X.sb,0,none⟩)):=(h.quiet hk0).cell (i:=2) rfl
 have hsa:=AZ ((h.quiet hk0).c 2) cl
 obtain⟨a0,a1,a2,a3,hsd⟩:∃a0 a1 a2 a3,jE M.st cl=⟨a0,a1,a2,a3⟩:=⟨_,_,_,_,rfl⟩
 rw[hsd]at hsa
 have hA:sF M cl x=if a1<x.req then ⟨cl,x.req,(gY M x).2,(gY M x).1⟩else⟨a0,a1,a2,a3⟩:=by unfold sF;rw[hsd]
 have hM1:ig M cl x=if a1<x.req then writeM (fB M x) (oV (sF M cl x))else M:=by unfold ig;rw[hsd]
 have DF:kH M cl x=if x.req<1\/x.req<a1 then M else iU (ig M cl x) (5+cl) (yY (ig M cl x).st (sF M cl x)):=by unfold kH;rw[hsd]
 have hfin:∀W,Kept aj w W->dF w X M c (.tuple #[]) (kH M cl x) 2 (.returned (.tuple #[])) W:=fun W hW=>by
  rw[DF,if_pos (by rw[hsd]at h0;exact h0)]
  exact⟨rfl,X,Step.refl h hW,hb.mono (by omega)⟩
 have hkx:∀W,Kept aj W0 W->Kept aj w W:=fun W hW=>hk0.then hW
 rw[hsd]at h0
 dsimp only at h0
 have HF:=ah hfin;have I9:=ah hsa;have bf:=ah hk0;have dO:=ah hn0;have H:=ah h;have HB:=ah hb;have pR:=ah hoff
 clear hfin hsa hk0 hn0 h hb hoff hc hm ho hx hA hM1 DF hsd hcl hkx
 go_enter Tryz.func51,Tryz.ntmps51
 go_wp2_with fail
 clear q2
 refine I9.out.mono ?_
 rintro e w2 ⟨rfl,hk2⟩
 obtain⟨W3,hW3⟩:∃W3,w2.alloc (.cells #[.int .i64 a0,.int .i64 a1,.int .i64 a2,.int .i64 a3] 56)=W3:=⟨_,rfl⟩
 have hk3:Kept aj W0 W3:=by rw[<-hW3];(repeat'(first|(with_reducible first|exact ak|apply au|apply ay|apply aA|apply aB)|(exact hk2)|(right;simp;done)))
 have hc3:Has W3 w2.heap.size 56 #[.int .i64 a0,.int .i64 a1,.int .i64 a2,.int .i64 a3]:=by rw[<-hW3];exact Has.new _ _ _
 have s3:qF w X M c w.heap.size 45 (aI x).toArray w2.heap.size 56 #[.int .i64 a0,.int .i64 a1,.int .i64 a2,.int .i64 a3] W3 X M:=
  ⟨Step.refl H.out (bf.out.then hk3),HB.out,dO.out.kept hk3 (fun z=>z),hc3,pR.out,fun hf=>by have:=H.out.lt hf;have:=hk2.size;have:=bf.out.size;omega⟩
 obtain⟨ab,hab⟩:∃ab,w2.heap.size=ab:=⟨_,rfl⟩
 rw[hab]at s3
 have r2:W3.cell? ⟨w.heap.size,2,none⟩=some (.int .i64 x.req):=s3.h1.cell 2
 have y1:W3.cell? ⟨ab,1,none⟩=some (.int .i64 a1):=s3.h2.cell 1
 have jZ:=ah s3;have nJ:=ah (bf.out.then hk2);clear s3 hc3 hk3 hk2
 have hkw:Kept aj w W3:=by rw[<-hW3];(repeat'(first|(with_reducible first|exact ak|apply au|apply ay|apply aA|apply aB)|(exact nJ.out)|(right;simp;done)))
 have HF2:=ah (HF.out _ hkw)
 clear hkw nJ
 by_cases h1:x.req<1
 ·go_wp2_with fail
  go_end0
  exact HF2.out
 ·have h2:x.req<a1:=by omega
  go_wp2_with fail
  go_end0
  exact HF2.out
theorem adL(h:dD w X M)(hb:dw X M.lg c)(hc:c<=3000)(hm:bD M k)(ho:M.out.length<=100)(cl:Int)(hcl:0<=cl/\cl<3)(x:bF)(hx:iZ w x)(h1:¬x.req<1)(h2:(jE M.st cl).req<x.req):
  Calls Tryz.prog 51 #[.pointer (some ⟨X.mb,0,none⟩),.int .i64 cl,gK x] w (dF w X M c (.tuple #[]) (kH M cl x) 2):=by
 obtain⟨W0,hW0⟩:∃W0,w.alloc (.cells (aI x).toArray 45)=W0:=⟨_,rfl⟩
 have hk0:Kept aj w W0:=by rw[<-hW0];(repeat'(first|(with_reducible first|exact ak|apply au|apply ay|apply aA|apply aB)|(right;simp;done)))
 have hn0:Has W0 w.heap.size 45 (aI x).toArray:=by rw[<-hW0];exact Has.new _ _ _
 have hoff:¬dX X M w.heap.size:=fun hf=>absurd (h.lt hf) (Nat.lt_irrefl _)
 have q2:W0.cell? ⟨X.mb,2,none⟩=some (.pointer (some ⟨X.sb,0,none⟩)):=(h.quiet hk0).cell (i:=2) rfl
 have hsa:=AZ ((h.quiet hk0).c 2) cl
 obtain⟨a0,a1,a2,a3,hsd⟩:∃a0 a1 a2 a3,jE M.st cl=⟨a0,a1,a2,a3⟩:=⟨_,_,_,_,rfl⟩
 rw[hsd]at hsa
 have hA:sF M cl x=if a1<x.req then ⟨cl,x.req,(gY M x).2,(gY M x).1⟩else⟨a0,a1,a2,a3⟩:=by unfold sF;rw[hsd]
 have hM1:ig M cl x=if a1<x.req then writeM (fB M x) (oV (sF M cl x))else M:=by unfold ig;rw[hsd]
 have DF:kH M cl x=if x.req<1\/x.req<a1 then M else iU (ig M cl x) (5+cl) (yY (ig M cl x).st (sF M cl x)):=by unfold kH;rw[hsd]
 rw[hsd]at h2
 dsimp only at h2
 rw[if_pos h2]at hA hM1
 rw[if_neg (by omega)]at DF
 have hgr:∀W,Kept aj W0 W->∀d0 b2 t2 k2,qF w X M c w.heap.size 45 (aI x).toArray b2 t2 k2 W X M->d0=c->Calls Tryz.prog 101 #[.pointer (some ⟨X.mb,0,none⟩),.agg (aI x).toArray] W fun e w'=>e=.returned (.tuple #[.int .i64 (gY M x).1,.int .i64 (gY M x).2])/\∃X',qF w X M (c+1) w.heap.size 45 (aI x).toArray b2 t2 k2 w' X' (fB M x):=fun W hW d0 b2 t2 k2 hs _=>by
  refine(Vg hs.s.at' hb (by omega) hm x (hx.kept (hk0.then hW))).mono ?_
  rintro e w' ⟨rfl,X',g1,g2⟩
  exact⟨rfl,X',hs.step g1 g2⟩
 have hMG:=hm.fB x hx
 have Jc:Hid (bD (ig M cl x) k):=ah (hm.ig cl x hx)
 obtain⟨v1,hv1⟩:∃v1,(gY M x).1=v1:=⟨_,rfl⟩
 obtain⟨v2,hv2⟩:∃v2,(gY M x).2=v2:=⟨_,rfl⟩
 rw[hv1,hv2]at hgr hA
 rw[hA]at hM1
 obtain⟨G,hG⟩:∃G,fB M x=G:=⟨_,rfl⟩
 rw[hG]at hM1 hgr hMG
 have hwr:∀W X1 b2 t2 k2,qF w X M (c+1) w.heap.size 45 (aI x).toArray b2 t2 k2 W X1 G->Calls Tryz.prog 25 #[.pointer (some ⟨X.mb,0,none⟩),.agg (aJ (oV ⟨cl,x.req,v2,v1⟩)).toArray] W fun e w'=>(∃z,e=.returned (.int .i64 z))/\∃X',qF w X M (c+2) w.heap.size 45 (aI x).toArray b2 t2 k2 w' X' (ig M cl x):=fun W X1 b2 t2 k2 hs=>by
  have hw:=write_any hs.s.at' hs.lb (by omega) hMG.st.inv.ok (oV ⟨cl,x.req,v2,v1⟩) (abP _ _) (J3 _) (Zd _ _)
  rw[hs.s.mb]at hw
  refine hw.mono ?_
  rintro e w' ⟨rfl,X',g1,g2⟩
  rw[hM1]
  exact⟨⟨_,rfl⟩,X',hs.step g1 g2⟩
 simp only[oV,aJ,List.length_nil]at hwr
 have bP:=ah (Tv (c:=c) h ho hm cl hcl x hx DF ⟨cl,x.req,v2,v1⟩ hA)
 have DV:=ah hgr;have qM:=ah hwr
 have I9:=ah hsa;have bf:=ah hk0;have dO:=ah hn0;have H:=ah h;have HB:=ah hb;have pR:=ah hoff;have nX:=ah hcl
 have hwrap:IntKind.i64.wrap (5+cl)=5+cl:=IntWalk.i64_in _ (by omega)
 have hle:¬x.req<a1:=by omega
 clear hsa hk0 hn0 h hb hoff hc hm ho hx hA hM1 DF hsd hcl hgr hwr hMG hv1 hv2 hG
 go_enter Tryz.func51,Tryz.ntmps51
 go_wp2_with fail
 clear q2
 refine I9.out.mono ?_
 rintro e w2 ⟨rfl,hk2⟩
 obtain⟨W3,hW3⟩:∃W3,w2.alloc (.cells #[.int .i64 a0,.int .i64 a1,.int .i64 a2,.int .i64 a3] 56)=W3:=⟨_,rfl⟩
 have hk3:Kept aj W0 W3:=by rw[<-hW3];(repeat'(first|(with_reducible first|exact ak|apply au|apply ay|apply aA|apply aB)|(exact hk2)|(right;simp;done)))
 have hc3:Has W3 w2.heap.size 56 #[.int .i64 a0,.int .i64 a1,.int .i64 a2,.int .i64 a3]:=by rw[<-hW3];exact Has.new _ _ _
 have s3:qF w X M c w.heap.size 45 (aI x).toArray w2.heap.size 56 #[.int .i64 a0,.int .i64 a1,.int .i64 a2,.int .i64 a3] W3 X M:=
  ⟨Step.refl H.out (bf.out.then hk3),HB.out,dO.out.kept hk3 (fun z=>z),hc3,pR.out,fun hf=>by have:=H.out.lt hf;have:=hk2.size;have:=bf.out.size;omega⟩
 obtain⟨ab,hab⟩:∃ab,w2.heap.size=ab:=⟨_,rfl⟩
 rw[hab]at s3
 have r2:W3.cell? ⟨w.heap.size,2,none⟩=some (.int .i64 x.req):=s3.h1.cell 2
 have y1:W3.cell? ⟨ab,1,none⟩=some (.int .i64 a1):=s3.h2.cell 1
 have jZ:=ah s3;have nJ:=ah hk2;have HAB:=ah (show w.heap.size<ab by have:=hk2.size;have:=dO.out.lt;omega);clear s3 hc3 hk3 hk2
 have hgt:a1<x.req:=h2
 have hgg:=DV.out W3 (by rw[<-hW3];(repeat'(first|(with_reducible first|exact ak|apply au|apply ay|apply aA|apply aB)|(exact nJ.out)|(right;simp;done)))) c _ _ _ jZ.out rfl
 have FY:=ah hgg;clear hgg
 go_wp2_with (refine wpList_load_row rfl 45 (.tmp 5) rfl w.heap.size rfl 45 _ (0,0) _ jZ.out.h1 Tryz.underlying45 rfl (by kernel_rfl) ?_)
 clear r2 y1 hW3
 refine FY.out.mono ?_
 rintro e w4 ⟨rfl,X4,s4⟩
 have r2:w4.cell? ⟨w.heap.size,2,none⟩=some (.int .i64 x.req):=s4.h1.cell 2
 have f0:=s4.h2.cell 0
 have f1:=s4.h2.cell 1
 have f2:=s4.h2.cell 2
 have f3:=s4.h2.cell 3
 have g0:=s4.h2.frozen 0
 have g1:=s4.h2.frozen 1
 have g2:=s4.h2.frozen 2
 have g3:=s4.h2.frozen 3
 simp only[List.getElem?_toArray,List.getElem?_cons_zero,List.getElem?_cons_succ]at f0 f1 f2 f3
 obtain⟨Wp,hWp⟩:∃Wp,((((w4.setCell ⟨ab,0,none⟩ (.int .i64 cl)).setCell ⟨ab,1,none⟩ (.int .i64 x.req)).setCell ⟨ab,2,none⟩ (.int .i64 v2)).setCell ⟨ab,3,none⟩ (.int .i64 v1))=Wp:=⟨_,rfl⟩
 have hcp:Has Wp ab 56 #[.int .i64 cl,.int .i64 x.req,.int .i64 v2,.int .i64 v1]:=by rw[<-hWp];exact(((s4.h2.put 0 _).put 1 _).put 2 _).put 3 _
 have hkp:Kept (fun k=>k=ab) w4 Wp:=by rw[<-hWp];exact((((Kept.refl (fun k=>k=ab) w4).put (.inl rfl)).put (.inl rfl)).put (.inl rfl)).put (.inl rfl)
 have s5:=s4.side hkp hcp (fun e=>by have h1:=HAB.out;omega) (by have h1:=HAB.out;omega)
 have hwr:=qM.out Wp X4 _ _ _ s5
 have e0:Wp.cell? ⟨ab,0,none⟩=some (.int .i64 cl):=hcp.cell 0
 have e1:Wp.cell? ⟨ab,1,none⟩=some (.int .i64 x.req):=hcp.cell 1
 have e2:Wp.cell? ⟨ab,2,none⟩=some (.int .i64 v2):=hcp.cell 2
 have e3:Wp.cell? ⟨ab,3,none⟩=some (.int .i64 v1):=hcp.cell 3
 have HWQ:=ah hwr
 have qW:=ah s4;clear s4 s5 hcp hkp hwr
 go_wp2_with fail
 clear r2 f0 f1 f2 f3 g0 g1 g2 g3 e0 e1 e2 e3 hWp
 refine HWQ.out.mono ?_
 rintro e w6 ⟨⟨zw,rfl⟩,X6,s6⟩
 have HST:=ah s6;clear s6 HWQ qW qM DV FY jZ
 have y1:w6.cell? ⟨ab,1,none⟩=some (.int .i64 x.req):=HST.out.h2.cell 1
 have y3:w6.cell? ⟨ab,3,none⟩=some (.int .i64 v1):=HST.out.h2.cell 3
 obtain⟨rb,hrb⟩:∃rb,w6.heap.size=rb:=⟨_,rfl⟩
 obtain⟨Wz,zN⟩:∃Wz,w6.alloc (.cells #[.int .i64 0,.int .i64 0,.int .i64 0,.int .i64 0,.bool false,.int .u64 0,.int .u64 0,.int .i64 0,.int .i64 0,.int .i64 0,.int .i64 0,.string ⟨#[]⟩,.string ⟨#[]⟩,.int .i64 0,.slice none 0 0,.int .u64 0,.int .i64 0,.int .i64 0,.slice none 0 0,.slice none 0 0,.slice none 0 0,.slice none 0 0] 45)=Wz:=⟨_,rfl⟩
 have Ze:Has Wz rb 45 #[.int .i64 0,.int .i64 0,.int .i64 0,.int .i64 0,.bool false,.int .u64 0,.int .u64 0,.int .i64 0,.int .i64 0,.int .i64 0,.int .i64 0,.string ⟨#[]⟩,.string ⟨#[]⟩,.int .i64 0,.slice none 0 0,.int .u64 0,.int .i64 0,.int .i64 0,.slice none 0 0,.slice none 0 0,.slice none 0 0,.slice none 0 0]:=by rw[<-zN,<-hrb];exact Has.new _ _ _
 obtain⟨W8,zO⟩:∃W8,w6.alloc (.cells #[.int .i64 14,.int .i64 0,.int .i64 x.req,.int .i64 0,.bool false,.int .u64 0,.int .u64 0,.int .i64 v1,.int .i64 0,.int .i64 0,.int .i64 0,.string ⟨#[]⟩,.string ⟨#[]⟩,.int .i64 0,.slice none 0 0,.int .u64 0,.int .i64 0,.int .i64 0,.slice none 0 0,.slice none 0 0,.slice none 0 0,.slice none 0 0] 45)=W8:=⟨_,rfl⟩
 have DI:Wz.setRow rb #[.int .i64 14,.int .i64 0,.int .i64 x.req,.int .i64 0,.bool false,.int .u64 0,.int .u64 0,.int .i64 v1,.int .i64 0,.int .i64 0,.int .i64 0,.string ⟨#[]⟩,.string ⟨#[]⟩,.int .i64 0,.slice none 0 0,.int .u64 0,.int .i64 0,.int .i64 0,.slice none 0 0,.slice none 0 0,.slice none 0 0,.slice none 0 0]=W8:=by rw[<-zN,<-hrb,World.setRow_alloc_new,zO]
 have hst:(vV ⟨rb,0,none⟩ (.agg #[.int .i64 14,.int .i64 0,.int .i64 x.req,.int .i64 0,.bool false,.int .u64 0,.int .u64 0,.int .i64 v1,.int .i64 0,.int .i64 0,.int .i64 0,.string ⟨#[]⟩,.string ⟨#[]⟩,.int .i64 0,.slice none 0 0,.int .u64 0,.int .i64 0,.int .i64 0,.slice none 0 0,.slice none 0 0,.slice none 0 0,.slice none 0 0])).run Tryz.prog Wz=.ok () W8:=by
  rw[<-DI]
  exact run_storeVar_row Wz rb _ _ _ _ Ze (show(Tryz.prog.info? 45).map (·.size)=some 22 by kernel_rfl) rfl (by simp[Value.oneCell'])
 have hc8:Has W8 rb 45 #[.int .i64 14,.int .i64 0,.int .i64 x.req,.int .i64 0,.bool false,.int .u64 0,.int .u64 0,.int .i64 v1,.int .i64 0,.int .i64 0,.int .i64 0,.string ⟨#[]⟩,.string ⟨#[]⟩,.int .i64 0,.slice none 0 0,.int .u64 0,.int .i64 0,.int .i64 0,.slice none 0 0,.slice none 0 0,.slice none 0 0,.slice none 0 0]:=by rw[<-zO,<-hrb];exact Has.new _ _ _
 have hk8:Kept aj w6 W8:=by rw[<-zO];(repeat'(first|(with_reducible first|exact ak|apply au|apply ay|apply aA|apply aB)|(right;simp;done)))
 have s8:=HST.out.quiet hk8
 have y2:W8.cell? ⟨ab,2,none⟩=some (.int .i64 v2):=s8.h2.cell 2
 have ru:=ah s8;have PI:=ah hc8;have abR:=ah (show rb≠ab from fun e=>by have:=HST.out.h2.lt;omega)
 have HRW:=ah (show w.heap.size<=rb by have:=HST.out.h1.lt;omega)
 have abS:=ah (show¬dX X6 (ig M cl x) rb from fun hf=>by have:=HST.out.s.at'.lt hf;omega)
 clear s8 hc8 hk8 Ze zO DI
 have hcase:v2=0\/v2≠0:=by omega
 rcases hcase with hu2|hu2
 ·have hfin:=bP.out
  rw[if_pos hu2]at hfin
  have hsend:=hfin W8 _ ru.out.s ru.out.lb
  simp only[Aq,aI,List.length_nil]at hsend
  have xM:=ah hsend
  subst hu2
  clear hfin hsend
  go_wp2_with (refine wpList_load_row rfl 45 (.tmp 9) rfl rb rfl 45 _ (0,0) _ PI.out Tryz.underlying45 rfl (by kernel_rfl) ?_)
  clear y1 y2 y3 zN hst
  refine xM.out.mono ?_
  rintro e w9 ⟨rfl,hq⟩
  have HQ:=ah hq;clear hq
  go_wp2
  go_end0
  exact HQ.out
 ·have hfin:=bP.out
  rw[if_neg hu2]at hfin
  have hcf:=pN (ru.out.s.at'.c 2) Jc.out.st.inv.ok
  rw[ru.out.s.sb]at hcf
  have hin:=PG Jc.out.st.inv
  have hokS:=Jc.out.st.inv.ok.m
  have q8:W8.cell? ⟨X.mb,2,none⟩=some (.pointer (some ⟨X.sb,0,none⟩)):=by
   have:=ru.out.s.at'.cell (i:=2) (v:=.pointer (some ⟨X6.sb,0,none⟩)) rfl
   rw[ru.out.s.mb,ru.out.s.sb]at this;exact this
  obtain⟨ST,hST⟩:∃ST,(ig M cl x).st=ST:=⟨_,rfl⟩
  rw[hST]at hcf hfin hin hokS
  obtain⟨ep,lS⟩:∃ep,ST.ep=ep:=⟨_,rfl⟩
  obtain⟨fl,hfl⟩:∃fl,ST.fl=fl:=⟨_,rfl⟩
  obtain⟨ms,hms⟩:∃ms,ST.ms=ms:=⟨_,rfl⟩
  obtain⟨hd,hhd⟩:∃hd,nH ms=hd:=⟨_,rfl⟩
  rw[lS,hfl,hms]at hcf
  rw[hms]at hokS
  rw[hms,hhd]at hin
  rw[lS,hms,hhd]at hfin
  have hwr2:IntKind.i64.wrap (hd+1)=hd+1:=IntWalk.i64_in _ (by omega)
  have hsend:∀W,Kept aj W8 W->∀pU,Kept (fun k=>k=rb) W pU->∀o,_:=fun W hW pU hK o=>hfin o
  clear hsend
  simp only[Aq,aI,List.length_nil]at hfin
  have pY:=ah hfin;have Bv:=ah hcf;have yC:=ah hokS
  have hhead:=fun W A d (hs:Src W 2 A ms.length (aP ms))=>Ec W ep fl A d ms hs (by omega)
  simp only[hhd]at hhead
  have Ky:=ah hhead
  have ag8:(v2 !=0)=true:=by simpa using hu2
  clear hfin hcf hST lS hfl hms hhd hin hokS hhead
  go_wp2_with fail
  clear hst zN y1 y2 y3 q8
  refine Bv.out.mono ?_
  rintro e w9 ⟨A,d,rfl,Md,hk9⟩
  obtain⟨qN,He⟩:∃qN,w9.alloc (.cells #[.int .i64 ep,.slice A ms.length d,.int .u64 fl] 25)=qN:=⟨_,rfl⟩
  have hk10:Kept aj W8 qN:=by rw[<-He];(repeat'(first|(with_reducible first|exact ak|apply au|apply ay|apply aA|apply aB)|(exact hk9)|(right;simp;done)))
  have CZ:Has qN w9.heap.size 25 #[.int .i64 ep,.slice A ms.length d,.int .u64 fl]:=by rw[<-He];exact Has.new _ _ _
  have EV:=aF.kept Md (w':=qN) (by rw[<-He];(repeat'(first|(with_reducible first|exact ak|apply au|apply ay|apply aA|apply aB)|(right;simp;done))))
  have Hf:w9.heap.size≠rb:=fun e=>by have:=PI.out.lt;have:=hk9.size;omega
  obtain⟨cb,hcb⟩:∃cb,w9.heap.size=cb:=⟨_,rfl⟩
  rw[hcb]at CZ Hf
  have hce:∀W,Kept aj qN W->W.cell? ⟨ab,1,none⟩=some (.int .i64 x.req)/\W.cell? ⟨ab,2,none⟩=some (.int .i64 v2)/\W.cell? ⟨cb,0,none⟩=some (.int .i64 ep)/\W.cell? ⟨cb,1,none⟩=some (.slice A ms.length d)/\W.cell? ⟨cb,2,none⟩=some (.int .u64 fl):=fun W hW=>by
   have g1:=(ru.out.h2.kept (hk10.then hW) (fun z=>z))
   have g2:=CZ.kept hW (fun z=>z)
   exact⟨g1.cell 1,g1.cell 2,g2.cell 0,g2.cell 1,g2.cell 2⟩
  have EP:∀W,Kept aj qN W->∃pU,(vV ⟨rb,0,none⟩ (.agg #[.int .i64 7,.int .i64 ep,.int .i64 x.req,.int .i64 0,.bool false,.int .u64 0,.int .u64 0,.int .i64 (hd+1),.int .i64 0,.int .i64 0,.int .i64 v2,.string ⟨#[]⟩,.string ⟨#[]⟩,.int .i64 0,.slice none 0 0,.int .u64 0,.int .i64 0,.int .i64 0,.slice none 0 0,.slice none 0 0,.slice none 0 0,.slice none 0 0])).run Tryz.prog W=.ok () pU/\Has pU rb 45 #[.int .i64 7,.int .i64 ep,.int .i64 x.req,.int .i64 0,.bool false,.int .u64 0,.int .u64 0,.int .i64 (hd+1),.int .i64 0,.int .i64 0,.int .i64 v2,.string ⟨#[]⟩,.string ⟨#[]⟩,.int .i64 0,.slice none 0 0,.int .u64 0,.int .i64 0,.int .i64 0,.slice none 0 0,.slice none 0 0,.slice none 0 0,.slice none 0 0]/\Kept (fun k=>k=rb) W pU/\(pU.cell? ⟨ab,1,none⟩=some (.int .i64 x.req)/\pU.cell? ⟨ab,2,none⟩=some (.int .i64 v2)/\pU.cell? ⟨cb,0,none⟩=some (.int .i64 ep)/\pU.cell? ⟨cb,1,none⟩=some (.slice A ms.length d)/\pU.cell? ⟨cb,2,none⟩=some (.int .u64 fl)):=fun W hW=>by
   have hw0:=PI.out.kept (hk10.then hW) (fun z=>z)
   have hkr:Kept (fun k=>k=rb) W (W.setRow rb #[.int .i64 7,.int .i64 ep,.int .i64 x.req,.int .i64 0,.bool false,.int .u64 0,.int .u64 0,.int .i64 (hd+1),.int .i64 0,.int .i64 0,.int .i64 v2,.string ⟨#[]⟩,.string ⟨#[]⟩,.int .i64 0,.slice none 0 0,.int .u64 0,.int .i64 0,.int .i64 0,.slice none 0 0,.slice none 0 0,.slice none 0 0,.slice none 0 0]):=Gn _ _ _
   have g1:=(ru.out.h2.kept (hk10.then hW) (fun z=>z)).kept hkr (fun e=>abR.out e.symm)
   have g2:=(CZ.kept hW (fun z=>z)).kept hkr Hf
   exact⟨_,run_storeVar_row W rb _ _ _ _ hw0 (show(Tryz.prog.info? 45).map (·.size)=some 22 by kernel_rfl) rfl (by simp[Value.oneCell']),setRow_heap W rb _ _ _ _ hw0,hkr,g1.cell 1,g1.cell 2,g2.cell 0,g2.cell 1,g2.cell 2⟩
  have PK:∀W,Kept aj qN W->_:=fun W hW=>Ky.out W A d (Src.bC (aF.kept EV hW).1)
  have jg:=ah hce;have PD:=ah EP;have Dn:=ah PK;have C4:=ah hk10
  clear hk9 Md hk10 CZ EV Hf PK
  have HS:=ah (Kept.refl aj qN)
  obtain⟨z1,z2,z3,z4,z5⟩:=hce qN (Kept.refl _ _)
  clear hce EP
  go_wp2_with fail
  go_region_held3 (fun W=>W.cell? ⟨ab,1,none⟩=some (.int .i64 x.req)/\W.cell? ⟨ab,2,none⟩=some (.int .i64 v2)/\W.cell? ⟨cb,0,none⟩=some (.int .i64 ep)/\W.cell? ⟨cb,1,none⟩=some (.slice A ms.length d)/\W.cell? ⟨cb,2,none⟩=some (.int .u64 fl))
   (first|with_reducible exact Hg|with_reducible exact jg.out _ HS.out|exact jg.out _ HS.out.drew|exact Hg)
   (first|(go_at_call 102;((with_reducible refine(Dn.out _ ?_).mono ?_);exact(by(repeat'(first|(with_reducible first|exact ak|apply au|apply ay|apply aA|apply aB)|(exact HS.out)|(right;simp;done))));rintro e w11 ⟨rfl,hk0⟩;have hk:=Kept.then (F:=aj) (a:=qN) (by(repeat'(first|(with_reducible first|exact ak|apply au|apply ay|apply aA|apply aB)|(exact HS.out)|(right;simp;done)))) hk0;clear HS hk0;have HS:=ah hk;clear hk;obtain⟨pU,hst,hh12,hk12,Hg⟩:=PD.out w11 HS.out;have abT:=ah hh12;have J4:=ah hk12;clear hh12 hk12)))
  clear z1 z2 z3 z4 z5
  have s12:=Step.side (ru.out.s.quiet (C4.out.then HS.out)) J4.out HRW.out abS.out
  have hse:=pY.out pU _ s12 ru.out.lb
  have xM:=ah hse
  clear hse s12 hst Hg
  go_wp2_with (refine wpList_load_row rfl 45 (.tmp 9) rfl rb rfl 45 _ (0,0) _ abT.out Tryz.underlying45 rfl (by kernel_rfl) ?_)
  refine xM.out.mono ?_
  rintro e DJ ⟨rfl,hq⟩
  have HQ:=ah hq;clear hq
  go_wp2
  go_end0
  exact HQ.out
theorem abU(h:dD w X M)(hb:dw X M.lg c)(hc:c<=3000)(hm:bD M k)(ho:M.out.length<=100)(cl:Int)(hcl:0<=cl/\cl<3)(x:bF)(hx:iZ w x)(h1:¬x.req<1)(h2:¬(jE M.st cl).req<x.req)(h3:¬x.req<(jE M.st cl).req):
  Calls Tryz.prog 51 #[.pointer (some ⟨X.mb,0,none⟩),.int .i64 cl,gK x] w (dF w X M c (.tuple #[]) (kH M cl x) 2):=by
 obtain⟨W0,hW0⟩:∃W0,w.alloc (.cells (aI x).toArray 45)=W0:=⟨_,rfl⟩
 have hk0:Kept aj w W0:=by rw[<-hW0];(repeat'(first|(with_reducible first|exact ak|apply au|apply ay|apply aA|apply aB)|(right;simp;done)))
 have hn0:Has W0 w.heap.size 45 (aI x).toArray:=by rw[<-hW0];exact Has.new _ _ _
 have hoff:¬dX X M w.heap.size:=fun hf=>absurd (h.lt hf) (Nat.lt_irrefl _)
 have q2:W0.cell? ⟨X.mb,2,none⟩=some (.pointer (some ⟨X.sb,0,none⟩)):=(h.quiet hk0).cell (i:=2) rfl
 have hsa:=AZ ((h.quiet hk0).c 2) cl
 obtain⟨a0,a1,a2,a3,hsd⟩:∃a0 a1 a2 a3,jE M.st cl=⟨a0,a1,a2,a3⟩:=⟨_,_,_,_,rfl⟩
 rw[hsd]at hsa
 have hA:sF M cl x=if a1<x.req then ⟨cl,x.req,(gY M x).2,(gY M x).1⟩else⟨a0,a1,a2,a3⟩:=by unfold sF;rw[hsd]
 have hM1:ig M cl x=if a1<x.req then writeM (fB M x) (oV (sF M cl x))else M:=by unfold ig;rw[hsd]
 have DF:kH M cl x=if x.req<1\/x.req<a1 then M else iU (ig M cl x) (5+cl) (yY (ig M cl x).st (sF M cl x)):=by unfold kH;rw[hsd]
 rw[hsd]at h2 h3
 dsimp only at h2 h3
 rw[if_neg h2]at hA hM1
 rw[if_neg (by omega)]at DF
 have Jc:Hid (bD (ig M cl x) k):=ah (hm.ig cl x hx)
 have bP:=ah (Tv (c:=c) h ho hm cl hcl x hx DF ⟨a0,a1,a2,a3⟩ hA)
 have gq:=ah hM1
 have I9:=ah hsa;have bf:=ah hk0;have dO:=ah hn0;have H:=ah h;have HB:=ah hb;have pR:=ah hoff;have nX:=ah hcl
 have hwrap:IntKind.i64.wrap (5+cl)=5+cl:=IntWalk.i64_in _ (by omega)
 clear hsa hk0 hn0 h hb hoff hc hm ho hx hA hM1 DF hsd hcl
 go_enter Tryz.func51,Tryz.ntmps51
 go_wp2_with fail
 clear q2
 refine I9.out.mono ?_
 rintro e w2 ⟨rfl,hk2⟩
 obtain⟨W3,hW3⟩:∃W3,w2.alloc (.cells #[.int .i64 a0,.int .i64 a1,.int .i64 a2,.int .i64 a3] 56)=W3:=⟨_,rfl⟩
 have hk3:Kept aj W0 W3:=by rw[<-hW3];(repeat'(first|(with_reducible first|exact ak|apply au|apply ay|apply aA|apply aB)|(exact hk2)|(right;simp;done)))
 have hc3:Has W3 w2.heap.size 56 #[.int .i64 a0,.int .i64 a1,.int .i64 a2,.int .i64 a3]:=by rw[<-hW3];exact Has.new _ _ _
 have s3:qF w X M c w.heap.size 45 (aI x).toArray w2.heap.size 56 #[.int .i64 a0,.int .i64 a1,.int .i64 a2,.int .i64 a3] W3 X M:=
  ⟨Step.refl H.out (bf.out.then hk3),HB.out,dO.out.kept hk3 (fun z=>z),hc3,pR.out,fun hf=>by have:=H.out.lt hf;have:=hk2.size;have:=bf.out.size;omega⟩
 obtain⟨ab,hab⟩:∃ab,w2.heap.size=ab:=⟨_,rfl⟩
 rw[hab]at s3
 have r2:W3.cell? ⟨w.heap.size,2,none⟩=some (.int .i64 x.req):=s3.h1.cell 2
 have y1:W3.cell? ⟨ab,1,none⟩=some (.int .i64 a1):=s3.h2.cell 1
 have jZ:=ah s3;clear s3 hc3 hk3 hk2
 have y0:=y1
 clear y0
 have s3:qF w X M (c+2) w.heap.size 45 (aI x).toArray ab 56 #[.int .i64 a0,.int .i64 a1,.int .i64 a2,.int .i64 a3] W3 X (ig M cl x):=by rw[gq.out];exact jZ.out.mono (by omega)
 have HST:=ah s3;clear s3
 clear y1
 have y1:W3.cell? ⟨ab,1,none⟩=some (.int .i64 a1):=HST.out.h2.cell 1
 have y3:W3.cell? ⟨ab,3,none⟩=some (.int .i64 a3):=HST.out.h2.cell 3
 obtain⟨rb,hrb⟩:∃rb,W3.heap.size=rb:=⟨_,rfl⟩
 obtain⟨Wz,zN⟩:∃Wz,W3.alloc (.cells #[.int .i64 0,.int .i64 0,.int .i64 0,.int .i64 0,.bool false,.int .u64 0,.int .u64 0,.int .i64 0,.int .i64 0,.int .i64 0,.int .i64 0,.string ⟨#[]⟩,.string ⟨#[]⟩,.int .i64 0,.slice none 0 0,.int .u64 0,.int .i64 0,.int .i64 0,.slice none 0 0,.slice none 0 0,.slice none 0 0,.slice none 0 0] 45)=Wz:=⟨_,rfl⟩
 have Ze:Has Wz rb 45 #[.int .i64 0,.int .i64 0,.int .i64 0,.int .i64 0,.bool false,.int .u64 0,.int .u64 0,.int .i64 0,.int .i64 0,.int .i64 0,.int .i64 0,.string ⟨#[]⟩,.string ⟨#[]⟩,.int .i64 0,.slice none 0 0,.int .u64 0,.int .i64 0,.int .i64 0,.slice none 0 0,.slice none 0 0,.slice none 0 0,.slice none 0 0]:=by rw[<-zN,<-hrb];exact Has.new _ _ _
 obtain⟨W8,zO⟩:∃W8,W3.alloc (.cells #[.int .i64 14,.int .i64 0,.int .i64 a1,.int .i64 0,.bool false,.int .u64 0,.int .u64 0,.int .i64 a3,.int .i64 0,.int .i64 0,.int .i64 0,.string ⟨#[]⟩,.string ⟨#[]⟩,.int .i64 0,.slice none 0 0,.int .u64 0,.int .i64 0,.int .i64 0,.slice none 0 0,.slice none 0 0,.slice none 0 0,.slice none 0 0] 45)=W8:=⟨_,rfl⟩
 have DI:Wz.setRow rb #[.int .i64 14,.int .i64 0,.int .i64 a1,.int .i64 0,.bool false,.int .u64 0,.int .u64 0,.int .i64 a3,.int .i64 0,.int .i64 0,.int .i64 0,.string ⟨#[]⟩,.string ⟨#[]⟩,.int .i64 0,.slice none 0 0,.int .u64 0,.int .i64 0,.int .i64 0,.slice none 0 0,.slice none 0 0,.slice none 0 0,.slice none 0 0]=W8:=by rw[<-zN,<-hrb,World.setRow_alloc_new,zO]
 have hst:(vV ⟨rb,0,none⟩ (.agg #[.int .i64 14,.int .i64 0,.int .i64 a1,.int .i64 0,.bool false,.int .u64 0,.int .u64 0,.int .i64 a3,.int .i64 0,.int .i64 0,.int .i64 0,.string ⟨#[]⟩,.string ⟨#[]⟩,.int .i64 0,.slice none 0 0,.int .u64 0,.int .i64 0,.int .i64 0,.slice none 0 0,.slice none 0 0,.slice none 0 0,.slice none 0 0])).run Tryz.prog Wz=.ok () W8:=by
  rw[<-DI]
  exact run_storeVar_row Wz rb _ _ _ _ Ze (show(Tryz.prog.info? 45).map (·.size)=some 22 by kernel_rfl) rfl (by simp[Value.oneCell'])
 have hc8:Has W8 rb 45 #[.int .i64 14,.int .i64 0,.int .i64 a1,.int .i64 0,.bool false,.int .u64 0,.int .u64 0,.int .i64 a3,.int .i64 0,.int .i64 0,.int .i64 0,.string ⟨#[]⟩,.string ⟨#[]⟩,.int .i64 0,.slice none 0 0,.int .u64 0,.int .i64 0,.int .i64 0,.slice none 0 0,.slice none 0 0,.slice none 0 0,.slice none 0 0]:=by rw[<-zO,<-hrb];exact Has.new _ _ _
 have hk8:Kept aj W3 W8:=by rw[<-zO];(repeat'(first|(with_reducible first|exact ak|apply au|apply ay|apply aA|apply aB)|(right;simp;done)))
 have s8:=HST.out.quiet hk8
 have y2:W8.cell? ⟨ab,2,none⟩=some (.int .i64 a2):=s8.h2.cell 2
 have ru:=ah s8;have PI:=ah hc8;have abR:=ah (show rb≠ab from fun e=>by have:=HST.out.h2.lt;omega)
 have HRW:=ah (show w.heap.size<=rb by have:=HST.out.h1.lt;omega)
 have abS:=ah (show¬dX X (ig M cl x) rb from fun hf=>by have:=HST.out.s.at'.lt hf;omega)
 clear s8 hc8 hk8 Ze zO DI
 have hcase:a2=0\/a2≠0:=by omega
 rcases hcase with hu2|hu2
 ·have hfin:=bP.out
  rw[if_pos hu2]at hfin
  have hsend:=hfin W8 _ ru.out.s ru.out.lb
  simp only[Aq,aI,List.length_nil]at hsend
  have xM:=ah hsend
  subst hu2
  clear hfin hsend
  go_wp2_with (refine wpList_load_row rfl 45 (.tmp 9) rfl rb rfl 45 _ (0,0) _ PI.out Tryz.underlying45 rfl (by kernel_rfl) ?_)
  clear y1 y2 y3 zN hst r2 hW3
  refine xM.out.mono ?_
  rintro e w9 ⟨rfl,hq⟩
  have HQ:=ah hq;clear hq
  go_wp2
  go_end0
  exact HQ.out
 ·have hfin:=bP.out
  rw[if_neg hu2]at hfin
  have hcf:=pN (ru.out.s.at'.c 2) Jc.out.st.inv.ok
  rw[ru.out.s.sb]at hcf
  have hin:=PG Jc.out.st.inv
  have hokS:=Jc.out.st.inv.ok.m
  have q8:W8.cell? ⟨X.mb,2,none⟩=some (.pointer (some ⟨X.sb,0,none⟩)):=by
   have:=ru.out.s.at'.cell (i:=2) (v:=.pointer (some ⟨X.sb,0,none⟩)) rfl
   rw[ru.out.s.mb,ru.out.s.sb]at this;exact this
  obtain⟨ST,hST⟩:∃ST,(ig M cl x).st=ST:=⟨_,rfl⟩
  rw[hST]at hcf hfin hin hokS
  obtain⟨ep,lS⟩:∃ep,ST.ep=ep:=⟨_,rfl⟩
  obtain⟨fl,hfl⟩:∃fl,ST.fl=fl:=⟨_,rfl⟩
  obtain⟨ms,hms⟩:∃ms,ST.ms=ms:=⟨_,rfl⟩
  obtain⟨hd,hhd⟩:∃hd,nH ms=hd:=⟨_,rfl⟩
  rw[lS,hfl,hms]at hcf
  rw[hms]at hokS
  rw[hms,hhd]at hin
  rw[lS,hms,hhd]at hfin
  have hwr2:IntKind.i64.wrap (hd+1)=hd+1:=IntWalk.i64_in _ (by omega)
  have hsend:∀W,Kept aj W8 W->∀pU,Kept (fun k=>k=rb) W pU->∀o,_:=fun W hW pU hK o=>hfin o
  clear hsend
  simp only[Aq,aI,List.length_nil]at hfin
  have pY:=ah hfin;have Bv:=ah hcf;have yC:=ah hokS
  have hhead:=fun W A d (hs:Src W 2 A ms.length (aP ms))=>Ec W ep fl A d ms hs (by omega)
  simp only[hhd]at hhead
  have Ky:=ah hhead
  have ag8:(a2 !=0)=true:=by simpa using hu2
  clear hfin hcf hST lS hfl hms hhd hin hokS hhead
  go_wp2_with fail
  clear hst zN y1 y2 y3 q8 r2 hW3
  refine Bv.out.mono ?_
  rintro e w9 ⟨A,d,rfl,Md,hk9⟩
  obtain⟨qN,He⟩:∃qN,w9.alloc (.cells #[.int .i64 ep,.slice A ms.length d,.int .u64 fl] 25)=qN:=⟨_,rfl⟩
  have hk10:Kept aj W8 qN:=by rw[<-He];(repeat'(first|(with_reducible first|exact ak|apply au|apply ay|apply aA|apply aB)|(exact hk9)|(right;simp;done)))
  have CZ:Has qN w9.heap.size 25 #[.int .i64 ep,.slice A ms.length d,.int .u64 fl]:=by rw[<-He];exact Has.new _ _ _
  have EV:=aF.kept Md (w':=qN) (by rw[<-He];(repeat'(first|(with_reducible first|exact ak|apply au|apply ay|apply aA|apply aB)|(right;simp;done))))
  have Hf:w9.heap.size≠rb:=fun e=>by have:=PI.out.lt;have:=hk9.size;omega
  obtain⟨cb,hcb⟩:∃cb,w9.heap.size=cb:=⟨_,rfl⟩
  rw[hcb]at CZ Hf
  have hce:∀W,Kept aj qN W->W.cell? ⟨ab,1,none⟩=some (.int .i64 a1)/\W.cell? ⟨ab,2,none⟩=some (.int .i64 a2)/\W.cell? ⟨cb,0,none⟩=some (.int .i64 ep)/\W.cell? ⟨cb,1,none⟩=some (.slice A ms.length d)/\W.cell? ⟨cb,2,none⟩=some (.int .u64 fl):=fun W hW=>by
   have g1:=(ru.out.h2.kept (hk10.then hW) (fun z=>z))
   have g2:=CZ.kept hW (fun z=>z)
   exact⟨g1.cell 1,g1.cell 2,g2.cell 0,g2.cell 1,g2.cell 2⟩
  have EP:∀W,Kept aj qN W->∃pU,(vV ⟨rb,0,none⟩ (.agg #[.int .i64 7,.int .i64 ep,.int .i64 a1,.int .i64 0,.bool false,.int .u64 0,.int .u64 0,.int .i64 (hd+1),.int .i64 0,.int .i64 0,.int .i64 a2,.string ⟨#[]⟩,.string ⟨#[]⟩,.int .i64 0,.slice none 0 0,.int .u64 0,.int .i64 0,.int .i64 0,.slice none 0 0,.slice none 0 0,.slice none 0 0,.slice none 0 0])).run Tryz.prog W=.ok () pU/\Has pU rb 45 #[.int .i64 7,.int .i64 ep,.int .i64 a1,.int .i64 0,.bool false,.int .u64 0,.int .u64 0,.int .i64 (hd+1),.int .i64 0,.int .i64 0,.int .i64 a2,.string ⟨#[]⟩,.string ⟨#[]⟩,.int .i64 0,.slice none 0 0,.int .u64 0,.int .i64 0,.int .i64 0,.slice none 0 0,.slice none 0 0,.slice none 0 0,.slice none 0 0]/\Kept (fun k=>k=rb) W pU/\(pU.cell? ⟨ab,1,none⟩=some (.int .i64 a1)/\pU.cell? ⟨ab,2,none⟩=some (.int .i64 a2)/\pU.cell? ⟨cb,0,none⟩=some (.int .i64 ep)/\pU.cell? ⟨cb,1,none⟩=some (.slice A ms.length d)/\pU.cell? ⟨cb,2,none⟩=some (.int .u64 fl)):=fun W hW=>by
   have hw0:=PI.out.kept (hk10.then hW) (fun z=>z)
   have hkr:Kept (fun k=>k=rb) W (W.setRow rb #[.int .i64 7,.int .i64 ep,.int .i64 a1,.int .i64 0,.bool false,.int .u64 0,.int .u64 0,.int .i64 (hd+1),.int .i64 0,.int .i64 0,.int .i64 a2,.string ⟨#[]⟩,.string ⟨#[]⟩,.int .i64 0,.slice none 0 0,.int .u64 0,.int .i64 0,.int .i64 0,.slice none 0 0,.slice none 0 0,.slice none 0 0,.slice none 0 0]):=Gn _ _ _
   have g1:=(ru.out.h2.kept (hk10.then hW) (fun z=>z)).kept hkr (fun e=>abR.out e.symm)
   have g2:=(CZ.kept hW (fun z=>z)).kept hkr Hf
   exact⟨_,run_storeVar_row W rb _ _ _ _ hw0 (show(Tryz.prog.info? 45).map (·.size)=some 22 by kernel_rfl) rfl (by simp[Value.oneCell']),setRow_heap W rb _ _ _ _ hw0,hkr,g1.cell 1,g1.cell 2,g2.cell 0,g2.cell 1,g2.cell 2⟩
  have PK:∀W,Kept aj qN W->_:=fun W hW=>Ky.out W A d (Src.bC (aF.kept EV hW).1)
  have jg:=ah hce;have PD:=ah EP;have Dn:=ah PK;have C4:=ah hk10
  clear hk9 Md hk10 CZ EV Hf PK
  have HS:=ah (Kept.refl aj qN)
  obtain⟨z1,z2,z3,z4,z5⟩:=hce qN (Kept.refl _ _)
  clear hce EP
  go_wp2_with fail
  go_region_held3 (fun W=>W.cell? ⟨ab,1,none⟩=some (.int .i64 a1)/\W.cell? ⟨ab,2,none⟩=some (.int .i64 a2)/\W.cell? ⟨cb,0,none⟩=some (.int .i64 ep)/\W.cell? ⟨cb,1,none⟩=some (.slice A ms.length d)/\W.cell? ⟨cb,2,none⟩=some (.int .u64 fl))
   (first|with_reducible exact Hg|with_reducible exact jg.out _ HS.out|exact jg.out _ HS.out.drew|exact Hg)
   (first|(go_at_call 102;((with_reducible refine(Dn.out _ ?_).mono ?_);exact(by(repeat'(first|(with_reducible first|exact ak|apply au|apply ay|apply aA|apply aB)|(exact HS.out)|(right;simp;done))));rintro e w11 ⟨rfl,hk0⟩;have hk:=Kept.then (F:=aj) (a:=qN) (by(repeat'(first|(with_reducible first|exact ak|apply au|apply ay|apply aA|apply aB)|(exact HS.out)|(right;simp;done)))) hk0;clear HS hk0;have HS:=ah hk;clear hk;obtain⟨pU,hst,hh12,hk12,Hg⟩:=PD.out w11 HS.out;have abT:=ah hh12;have J4:=ah hk12;clear hh12 hk12)))
  clear z1 z2 z3 z4 z5
  have s12:=Step.side (ru.out.s.quiet (C4.out.then HS.out)) J4.out HRW.out abS.out
  have hse:=pY.out pU _ s12 ru.out.lb
  have xM:=ah hse
  clear hse s12 hst Hg
  go_wp2_with (refine wpList_load_row rfl 45 (.tmp 9) rfl rb rfl 45 _ (0,0) _ abT.out Tryz.underlying45 rfl (by kernel_rfl) ?_)
  refine xM.out.mono ?_
  rintro e DJ ⟨rfl,hq⟩
  have HQ:=ah hq;clear hq
  go_wp2
  go_end0
  exact HQ.out
theorem adM(h:dD w X M)(hb:dw X M.lg c)(hc:c<=3000)(hm:bD M k)(ho:M.out.length<=100)(cl:Int)(hcl:0<=cl/\cl<3)(x:bF)(hx:iZ w x):
  Calls Tryz.prog 51 #[.pointer (some ⟨X.mb,0,none⟩),.int .i64 cl,gK x] w (dF w X M c (.tuple #[]) (kH M cl x) 2):=by
 by_cases h0:x.req<1\/x.req<(jE M.st cl).req
 ·exact adK h hb hc hm ho cl hcl x hx h0
 ·by_cases h2:(jE M.st cl).req<x.req
  ·exact adL h hb hc hm ho cl hcl x hx (by omega) h2
  ·exact abU h hb hc hm ho cl hcl x hx (by omega) h2 (by omega)
end
end dH
end Go.Proofs.YtfjdpbbgfjhnlaaGreat
