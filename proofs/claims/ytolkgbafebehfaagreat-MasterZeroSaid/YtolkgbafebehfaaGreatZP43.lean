/- Part 44 of what the proof needs. -/
import Derived.Test.YtolkgbafebehfaaGreatZP42
import Derived.Deep.WholeRow
set_option linter.unusedSimpArgs false
set_option linter.unusedVariables false
set_option maxHeartbeats 32000000
set_option maxRecDepth 100000
namespace Go.Proofs.YtolkgbafebehfaaGreat
open Go.RowKit
set_option maxRecDepth 100000
namespace dM
open aP Vn Mst lJ IM nG gX
def oQ(a:kJ):aN:=⟨8,0,0,0,none,0,[],0,none,0,[],none,0,⟨0,0,[]⟩,0,⟨0,0,0⟩,a⟩
def yg(k ep req n e:Int):bH:=⟨k,ep,req,0,false,0,0,n,0,0,e,⟨#[]⟩,⟨#[]⟩,0,none,0,[],0,0,0,none,0,[],none,0,[],none,0,[],none,0,[]⟩
def qw(M:MR)(cl:Int)(x:bH):kJ:=if(lq M.st cl).req<x.req then ⟨cl,x.req,(fM M x).2,(fM M x).1⟩else lq M.st cl
def gY(M:MR)(cl:Int)(x:bH):MR:=if(lq M.st cl).req<x.req then writeM (gV M x) (oQ (qw M cl x))else M
def wP(s:bV)(a:kJ):bH:=if a.e=0 then yg 14 0 a.req a.pin 0 else yg 7 s.ep a.req (lV s.ms+1) a.e
def oq(M:MR)(cl:Int)(x:bH):MR:=if x.req<1\/x.req<(lq M.st cl).req then M else jf (gY M cl x) (5+cl) (wP (gY M cl x).st (qw M cl x))
section
variable{w w':World}{X X0:MX}{M M0:MR}{c k:Nat}
def sZ(a:Addr)(v:Value):Sem Unit:=storeVar 46 a v
theorem BG(a:Addr)(v:Value):storeVar 46 a v=sZ a v:=rfl
attribute [local go_sem↓] BG
theorem Dc(W:World)(g:Nat)(cs:Array Value):Kept (fun k=>k=g) W (W.setRow g cs):=
 ⟨rfl,rfl,rfl,by unfold World.setRow;simp,fun k hk hF=>by
  unfold World.setRow
  rw[Array.getElem?_modify,if_neg (fun e=>hF e.symm)]⟩
theorem N7(a:kJ):NU (oQ a):=⟨by unfold oQ;dsimp only;unfold aT;decide,by unfold oQ;dsimp only;unfold aT;decide,by unfold oQ;dsimp only;unfold aT;decide,by unfold oQ;dsimp only;unfold aT;decide⟩
theorem XD(w:World)(a:kJ):gU w (oQ a):=⟨Src.nil _ _ _,Nat.le_refl _,Nat.zero_le _,Src.nil _ _ _,Nat.le_refl _,Nat.zero_le _,Src.nil _ _ _⟩
theorem UG(F:Nat->Prop)(a:kJ):FM F (oQ a):=⟨fun h=>absurd h (Nat.lt_irrefl _),fun h=>absurd h (Nat.lt_irrefl _),fun h=>absurd h (Nat.lt_irrefl _)⟩
theorem N8(w:World)(k ep req n e:Int):iG w (yg k ep req n e):=
 ⟨Src.nil _ _ _,Nat.le_refl _,Nat.zero_le _,Src.nil _ _ _,Src.nil _ _ _,fun y hy=>(by cases hy),Nat.zero_le _,Src.nil _ _ _,Nat.zero_le _,fun y hy=>(by cases hy),Src.nil _ _ _,Nat.zero_le _,by unfold yg;dsimp only;unfold aT;decide⟩
theorem KG{s:bV}(h:Mst.Inv s): -1<=lV s.ms/\lV s.ms<4:=by
 rcases h.conf with⟨_,h2,_⟩|⟨h2,_⟩
 ·rw[h2];exact⟨by decide,by decide⟩
 ·cases hm:s.ms with
  |nil=>exact⟨by decide,by decide⟩
  |cons m r=>
   rw[hm]at h2
   unfold aP.chk at h2
   have h0:mZ m []=0:=by
    split at h2
    ·cases h2
    ·split at h2
     ·cases h2
     ·split at h2
      ·cases h2
      ·unfold jl at h2
       split at h2
       ·assumption
       ·rename_i h3;exact absurd h2 h3
   unfold mZ at h0
   split at h0
   ·cases h0
   ·show-1<=m.1/\m.1<4
    omega
theorem bQ.gY{w:World}(h:bQ M k)(cl:Int)(x:bH)(hok:iG w x):bQ (dM.gY M cl x) k:=by
 unfold dM.gY
 split
 ·exact(h.gV x hok).write (N7 _)
 ·exact h
theorem XE(M:MR)(cl:Int)(x:bH):(gY M cl x).out=M.out:=by
 unfold gY
 split
 ·rw[oh,P9]
 ·rfl
theorem bQ.oq{w:World}(h:bQ M k)(cl:Int)(x:bH)(hok:iG w x):bQ (dM.oq M cl x) k:=by
 unfold dM.oq
 split
 ·exact h
 ·exact(h.gY cl x hok).send _ _
theorem Step.side{W W':World}{X1:MX}{M1:MR}{b:Nat}(h:Step w X M W X1 M1)(hk:Kept (fun k=>k=b) W W')(hw:w.heap.size<=b)(ho:¬dU X1 M1 b):Step w X M W' X1 M1:=
 ⟨⟨fun i=>(h.at'.c i).kept hk (fun k hp e=>ho ⟨i,e▸hp⟩),h.at'.ap⟩,h.g,h.k.trans hk (fun k e=> .inr (by rw[e];exact hw)),h.fx⟩
theorem oH.side{W W':World}{X1:MX}{M1:MR}{b1 b2:Nat}{t1 t2:TypeId}{k1 k2 k3:Array Value}(h:oH w X M c b1 t1 k1 b2 t2 k2 W X1 M1)(hk:Kept (fun k=>k=b2) W W')(hb:Has W' b2 t2 k3)(hne:b1≠b2)(hw:w.heap.size<=b2):oH w X M c b1 t1 k1 b2 t2 k3 W' X1 M1:=
 ⟨⟨⟨fun i=>(h.s.at'.c i).kept hk (fun k hp e=>h.o2 ⟨i,e▸hp⟩),h.s.at'.ap⟩,h.s.g,h.s.k.trans hk (fun k e=> .inr (by rw[e];exact hw)),h.s.fx⟩,h.lb,h.h1.kept hk (fun e=>hne e),hb,h.o1,h.o2⟩
theorem N9(h:dG w X M)(ho:M.out.length<=100)(hm:bQ M k)(cl:Int)(hcl:0<=cl/\cl<3)(x:bH)(hx:iG w x)(zU:oq M cl x=jf (gY M cl x) (5+cl) (wP (gY M cl x).st (qw M cl x)))(a:kJ)(hA:qw M cl x=a):
  ∀W X1,Step w X M W X1 (gY M cl x)->cZ X1 (gY M cl x).lg (c+2)->Calls Tryz.prog 143 #[.pointer (some ⟨X.mb,0,none⟩),.int .i64 (5+cl),.agg (aG (if a.e=0 then yg 14 0 a.req a.pin 0 else yg 7 (gY M cl x).st.ep a.req (lV (gY M cl x).st.ms+1) a.e)).toArray] W fun e w'=>e=.returned (.tuple #[])/\dK w X M c (.tuple #[]) (oq M cl x) 2 (.returned (.tuple #[])) w':=fun W X1 hs hl=>by
 rw[zU,hA]
 have hok:iG W (wP (gY M cl x).st a):=by
  unfold wP
  split
  ·exact N8 _ _ _ _ _ _
  ·exact N8 _ _ _ _ _ _
 have hw:=Ku hs.at' hl (by rw[XE];omega) (5+cl) _ hok
 rw[hs.mb]at hw
 refine hw.mono ?_
 rintro e w' ⟨rfl,X',g1,g2⟩
 exact⟨rfl,rfl,X',hs.trans g1,g2⟩
theorem ZQ(h:dG w X M)(hb:cZ X M.lg c)(hc:c<=3000)(hm:bQ M k)(ho:M.out.length<=100)(cl:Int)(hcl:0<=cl/\cl<3)(x:bH)(hx:iG w x)(h0:x.req<1\/x.req<(lq M.st cl).req):
  Calls Tryz.prog 61 #[.pointer (some ⟨X.mb,0,none⟩),.int .i64 cl,eH x] w (dK w X M c (.tuple #[]) (oq M cl x) 2):=by
 obtain⟨W0,hW0⟩:∃W0,w.alloc (.cells (aG x).toArray 46)=W0:=⟨_,rfl⟩
 have hk0:Kept aj w W0:=by rw[<-hW0];(repeat'(first|(with_reducible first|exact ak|apply au|apply ay|apply aA|apply aB)|(right;simp;done)))
 have hn0:Has W0 w.heap.size 46 (aG x).toArray:=by rw[<-hW0];exact Has.new _ _ _
 have hoff:¬dU X M w.heap.size:=fun hf=>absurd (h.lt hf) (Nat.lt_irrefl _)
 have q2:W0.cell? ⟨X.mb,2,none⟩=some (.pointer (some ⟨X.sb,0,none⟩)):=(h.quiet hk0).cell (i:=2) rfl
 have hsa:=Fq ((h.quiet hk0).c 2) cl
 obtain⟨a0,a1,a2,a3,hsd⟩:∃a0 a1 a2 a3,lq M.st cl=⟨a0,a1,a2,a3⟩:=⟨_,_,_,_,rfl⟩
 rw[hsd]at hsa
 have hA:qw M cl x=if a1<x.req then ⟨cl,x.req,(fM M x).2,(fM M x).1⟩else⟨a0,a1,a2,a3⟩:=by unfold qw;rw[hsd]
 have hM1:gY M cl x=if a1<x.req then writeM (gV M x) (oQ (qw M cl x))else M:=by unfold gY;rw[hsd]
 have zU:oq M cl x=if x.req<1\/x.req<a1 then M else jf (gY M cl x) (5+cl) (wP (gY M cl x).st (qw M cl x)):=by unfold oq;rw[hsd]
 have hfin:∀W,Kept aj w W->dK w X M c (.tuple #[]) (oq M cl x) 2 (.returned (.tuple #[])) W:=fun W hW=>by
  rw[zU,if_pos (by rw[hsd]at h0;exact h0)]
  exact⟨rfl,X,Step.refl h hW,hb.mono (by omega)⟩
 have hkx:∀W,Kept aj W0 W->Kept aj w W:=fun W hW=>hk0.then hW
 rw[hsd]at h0
 dsimp only at h0
 have HF:=ah hfin;have EO:=ah hsa;have aW:=ah hk0;have dw:=ah hn0;have H:=ah h;have HB:=ah hb;have qo:=ah hoff
 clear hfin hsa hk0 hn0 h hb hoff hc hm ho hx hA hM1 zU hsd hcl hkx
 go_enter Tryz.func61,Tryz.ntmps61
 go_wp2_with fail
 clear q2
 refine EO.out.mono ?_
 rintro e w2 ⟨rfl,hk2⟩
 obtain⟨W3,hW3⟩:∃W3,w2.alloc (.cells #[.int .i64 a0,.int .i64 a1,.int .i64 a2,.int .i64 a3] 73)=W3:=⟨_,rfl⟩
 have hk3:Kept aj W0 W3:=by rw[<-hW3];(repeat'(first|(with_reducible first|exact ak|apply au|apply ay|apply aA|apply aB)|(exact hk2)|(right;simp;done)))
 have hc3:Has W3 w2.heap.size 73 #[.int .i64 a0,.int .i64 a1,.int .i64 a2,.int .i64 a3]:=by rw[<-hW3];exact Has.new _ _ _
 have s3:oH w X M c w.heap.size 46 (aG x).toArray w2.heap.size 73 #[.int .i64 a0,.int .i64 a1,.int .i64 a2,.int .i64 a3] W3 X M:=
  ⟨Step.refl H.out (aW.out.then hk3),HB.out,dw.out.kept hk3 (fun z=>z),hc3,qo.out,fun hf=>by have:=H.out.lt hf;have:=hk2.size;have:=aW.out.size;omega⟩
 obtain⟨ab,hab⟩:∃ab,w2.heap.size=ab:=⟨_,rfl⟩
 rw[hab]at s3
 have r2:W3.cell? ⟨w.heap.size,2,none⟩=some (.int .i64 x.req):=s3.h1.cell 2
 have y1:W3.cell? ⟨ab,1,none⟩=some (.int .i64 a1):=s3.h2.cell 1
 have kD:=ah s3;have oC:=ah (aW.out.then hk2);clear s3 hc3 hk3 hk2
 have hkw:Kept aj w W3:=by rw[<-hW3];(repeat'(first|(with_reducible first|exact ak|apply au|apply ay|apply aA|apply aB)|(exact oC.out)|(right;simp;done)))
 have HF2:=ah (HF.out _ hkw)
 clear hkw oC
 by_cases h1:x.req<1
 ·go_wp2_with fail
  go_end0
  exact HF2.out
 ·have h2:x.req<a1:=by omega
  go_wp2_with fail
  go_end0
  exact HF2.out
theorem ZR(h:dG w X M)(hb:cZ X M.lg c)(hc:c<=3000)(hm:bQ M k)(ho:M.out.length<=100)(cl:Int)(hcl:0<=cl/\cl<3)(x:bH)(hx:iG w x)(h1:¬x.req<1)(h2:(lq M.st cl).req<x.req):
  Calls Tryz.prog 61 #[.pointer (some ⟨X.mb,0,none⟩),.int .i64 cl,eH x] w (dK w X M c (.tuple #[]) (oq M cl x) 2):=by
 obtain⟨W0,hW0⟩:∃W0,w.alloc (.cells (aG x).toArray 46)=W0:=⟨_,rfl⟩
 have hk0:Kept aj w W0:=by rw[<-hW0];(repeat'(first|(with_reducible first|exact ak|apply au|apply ay|apply aA|apply aB)|(right;simp;done)))
 have hn0:Has W0 w.heap.size 46 (aG x).toArray:=by rw[<-hW0];exact Has.new _ _ _
 have hoff:¬dU X M w.heap.size:=fun hf=>absurd (h.lt hf) (Nat.lt_irrefl _)
 have q2:W0.cell? ⟨X.mb,2,none⟩=some (.pointer (some ⟨X.sb,0,none⟩)):=(h.quiet hk0).cell (i:=2) rfl
 have hsa:=Fq ((h.quiet hk0).c 2) cl
 obtain⟨a0,a1,a2,a3,hsd⟩:∃a0 a1 a2 a3,lq M.st cl=⟨a0,a1,a2,a3⟩:=⟨_,_,_,_,rfl⟩
 rw[hsd]at hsa
 have hA:qw M cl x=if a1<x.req then ⟨cl,x.req,(fM M x).2,(fM M x).1⟩else⟨a0,a1,a2,a3⟩:=by unfold qw;rw[hsd]
 have hM1:gY M cl x=if a1<x.req then writeM (gV M x) (oQ (qw M cl x))else M:=by unfold gY;rw[hsd]
 have zU:oq M cl x=if x.req<1\/x.req<a1 then M else jf (gY M cl x) (5+cl) (wP (gY M cl x).st (qw M cl x)):=by unfold oq;rw[hsd]
 rw[hsd]at h2
 dsimp only at h2
 rw[if_pos h2]at hA hM1
 rw[if_neg (by omega)]at zU
 have hgr:∀W,Kept aj W0 W->∀d0 b2 t2 k2,oH w X M c w.heap.size 46 (aG x).toArray b2 t2 k2 W X M->d0=c->Calls Tryz.prog 144 #[.pointer (some ⟨X.mb,0,none⟩),.agg (aG x).toArray] W fun e w'=>e=.returned (.tuple #[.int .i64 (fM M x).1,.int .i64 (fM M x).2])/\∃X',oH w X M (c+1) w.heap.size 46 (aG x).toArray b2 t2 k2 w' X' (gV M x):=fun W hW d0 b2 t2 k2 hs _=>by
  refine(Qc hs.s.at' hb (by omega) hm x (hx.kept (hk0.then hW))).mono ?_
  rintro e w' ⟨rfl,X',g1,g2⟩
  exact⟨rfl,X',hs.step g1 g2⟩
 have hMG:=hm.gV x hx
 have ET:Hid (bQ (gY M cl x) k):=ah (hm.gY cl x hx)
 obtain⟨v1,hv1⟩:∃v1,(fM M x).1=v1:=⟨_,rfl⟩
 obtain⟨v2,hv2⟩:∃v2,(fM M x).2=v2:=⟨_,rfl⟩
 rw[hv1,hv2]at hgr hA
 rw[hA]at hM1
 obtain⟨G,hG⟩:∃G,gV M x=G:=⟨_,rfl⟩
 rw[hG]at hM1 hgr hMG
 have hwr:∀W X1 b2 t2 k2,oH w X M (c+1) w.heap.size 46 (aG x).toArray b2 t2 k2 W X1 G->Calls Tryz.prog 44 #[.pointer (some ⟨X.mb,0,none⟩),.agg (aH (oQ ⟨cl,x.req,v2,v1⟩)).toArray] W fun e w'=>(∃z,e=.returned (.int .i64 z))/\∃X',oH w X M (c+2) w.heap.size 46 (aG x).toArray b2 t2 k2 w' X' (gY M cl x):=fun W X1 b2 t2 k2 hs=>by
  have hw:=write_any hs.s.at' hs.lb (by omega) hMG.st.inv.ok (oQ ⟨cl,x.req,v2,v1⟩) (XD _ _) (N7 _) (UG _ _)
  rw[hs.s.mb]at hw
  refine hw.mono ?_
  rintro e w' ⟨rfl,X',g1,g2⟩
  rw[hM1]
  exact⟨⟨_,rfl⟩,X',hs.step g1 g2⟩
 simp only[oQ,aH,List.length_nil]at hwr
 have bI:=ah (N9 (c:=c) h ho hm cl hcl x hx zU ⟨cl,x.req,v2,v1⟩ hA)
 have zX:=ah hgr;have oM:=ah hwr
 have EO:=ah hsa;have aW:=ah hk0;have dw:=ah hn0;have H:=ah h;have HB:=ah hb;have qo:=ah hoff;have o9:=ah hcl
 have hwrap:IntKind.i64.wrap (5+cl)=5+cl:=IntWalk.i64_in _ (by omega)
 have hle:¬x.req<a1:=by omega
 clear hsa hk0 hn0 h hb hoff hc hm ho hx hA hM1 zU hsd hcl hgr hwr hMG hv1 hv2 hG
 go_enter Tryz.func61,Tryz.ntmps61
 go_wp2_with fail
 clear q2
 refine EO.out.mono ?_
 rintro e w2 ⟨rfl,hk2⟩
 obtain⟨W3,hW3⟩:∃W3,w2.alloc (.cells #[.int .i64 a0,.int .i64 a1,.int .i64 a2,.int .i64 a3] 73)=W3:=⟨_,rfl⟩
 have hk3:Kept aj W0 W3:=by rw[<-hW3];(repeat'(first|(with_reducible first|exact ak|apply au|apply ay|apply aA|apply aB)|(exact hk2)|(right;simp;done)))
 have hc3:Has W3 w2.heap.size 73 #[.int .i64 a0,.int .i64 a1,.int .i64 a2,.int .i64 a3]:=by rw[<-hW3];exact Has.new _ _ _
 have s3:oH w X M c w.heap.size 46 (aG x).toArray w2.heap.size 73 #[.int .i64 a0,.int .i64 a1,.int .i64 a2,.int .i64 a3] W3 X M:=
  ⟨Step.refl H.out (aW.out.then hk3),HB.out,dw.out.kept hk3 (fun z=>z),hc3,qo.out,fun hf=>by have:=H.out.lt hf;have:=hk2.size;have:=aW.out.size;omega⟩
 obtain⟨ab,hab⟩:∃ab,w2.heap.size=ab:=⟨_,rfl⟩
 rw[hab]at s3
 have r2:W3.cell? ⟨w.heap.size,2,none⟩=some (.int .i64 x.req):=s3.h1.cell 2
 have y1:W3.cell? ⟨ab,1,none⟩=some (.int .i64 a1):=s3.h2.cell 1
 have kD:=ah s3;have oC:=ah hk2;have HAB:=ah (show w.heap.size<ab by have:=hk2.size;have:=dw.out.lt;omega);clear s3 hc3 hk3 hk2
 have hgt:a1<x.req:=h2
 have hgg:=zX.out W3 (by rw[<-hW3];(repeat'(first|(with_reducible first|exact ak|apply au|apply ay|apply aA|apply aB)|(exact oC.out)|(right;simp;done)))) c _ _ _ kD.out rfl
 have NG:=ah hgg;clear hgg
 go_wp2_with (refine wpList_load_row rfl 46 (.tmp 5) rfl w.heap.size rfl 46 _ (0,0) _ kD.out.h1 Tryz.underlying46 rfl (by kernel_rfl) ?_)
 clear r2 y1 hW3
 refine NG.out.mono ?_
 rintro e w4 ⟨rfl,X4,s4⟩
 have r2:w4.cell? ⟨w.heap.size,2,none⟩=some (.int .i64 x.req):=s4.h1.cell 2
 have f0:=s4.h2.cell 0
 have f1:=s4.h2.cell 1
 have f2:=s4.h2.cell 2
 have f3:=s4.h2.cell 3
 have g0:=s4.h2.frozen 0
 have g1:=s4.h2.frozen 1
 have g2:=s4.h2.frozen 2
 have g3:=s4.h2.frozen 3
 simp only[List.getElem?_toArray,List.getElem?_cons_zero,List.getElem?_cons_succ]at f0 f1 f2 f3
 obtain⟨Wp,hWp⟩:∃Wp,((((w4.setCell ⟨ab,0,none⟩ (.int .i64 cl)).setCell ⟨ab,1,none⟩ (.int .i64 x.req)).setCell ⟨ab,2,none⟩ (.int .i64 v2)).setCell ⟨ab,3,none⟩ (.int .i64 v1))=Wp:=⟨_,rfl⟩
 have hcp:Has Wp ab 73 #[.int .i64 cl,.int .i64 x.req,.int .i64 v2,.int .i64 v1]:=by rw[<-hWp];exact(((s4.h2.put 0 _).put 1 _).put 2 _).put 3 _
 have hkp:Kept (fun k=>k=ab) w4 Wp:=by rw[<-hWp];exact((((Kept.refl (fun k=>k=ab) w4).put (.inl rfl)).put (.inl rfl)).put (.inl rfl)).put (.inl rfl)
 have s5:=s4.side hkp hcp (fun e=>by have h1:=HAB.out;omega) (by have h1:=HAB.out;omega)
 have hwr:=oM.out Wp X4 _ _ _ s5
 have e0:Wp.cell? ⟨ab,0,none⟩=some (.int .i64 cl):=hcp.cell 0
 have e1:Wp.cell? ⟨ab,1,none⟩=some (.int .i64 x.req):=hcp.cell 1
 have e2:Wp.cell? ⟨ab,2,none⟩=some (.int .i64 v2):=hcp.cell 2
 have e3:Wp.cell? ⟨ab,3,none⟩=some (.int .i64 v1):=hcp.cell 3
 have HWQ:=ah hwr
 have uI:=ah s4;clear s4 s5 hcp hkp hwr
 go_wp2_with fail
 clear r2 f0 f1 f2 f3 g0 g1 g2 g3 e0 e1 e2 e3 hWp
 refine HWQ.out.mono ?_
 rintro e w6 ⟨⟨zw,rfl⟩,X6,s6⟩
 have HST:=ah s6;clear s6 HWQ uI oM zX NG kD
 have y1:w6.cell? ⟨ab,1,none⟩=some (.int .i64 x.req):=HST.out.h2.cell 1
 have y3:w6.cell? ⟨ab,3,none⟩=some (.int .i64 v1):=HST.out.h2.cell 3
 obtain⟨rb,hrb⟩:∃rb,w6.heap.size=rb:=⟨_,rfl⟩
 obtain⟨Wz,Df⟩:∃Wz,w6.alloc (.cells #[.int .i64 0,.int .i64 0,.int .i64 0,.int .i64 0,.bool false,.int .u64 0,.int .u64 0,.int .i64 0,.int .i64 0,.int .i64 0,.int .i64 0,.string ⟨#[]⟩,.string ⟨#[]⟩,.int .i64 0,.slice none 0 0,.int .u64 0,.int .i64 0,.int .i64 0,.slice none 0 0,.slice none 0 0,.slice none 0 0,.slice none 0 0] 46)=Wz:=⟨_,rfl⟩
 have UH:Has Wz rb 46 #[.int .i64 0,.int .i64 0,.int .i64 0,.int .i64 0,.bool false,.int .u64 0,.int .u64 0,.int .i64 0,.int .i64 0,.int .i64 0,.int .i64 0,.string ⟨#[]⟩,.string ⟨#[]⟩,.int .i64 0,.slice none 0 0,.int .u64 0,.int .i64 0,.int .i64 0,.slice none 0 0,.slice none 0 0,.slice none 0 0,.slice none 0 0]:=by rw[<-Df,<-hrb];exact Has.new _ _ _
 obtain⟨W8,xI⟩:∃W8,w6.alloc (.cells #[.int .i64 14,.int .i64 0,.int .i64 x.req,.int .i64 0,.bool false,.int .u64 0,.int .u64 0,.int .i64 v1,.int .i64 0,.int .i64 0,.int .i64 0,.string ⟨#[]⟩,.string ⟨#[]⟩,.int .i64 0,.slice none 0 0,.int .u64 0,.int .i64 0,.int .i64 0,.slice none 0 0,.slice none 0 0,.slice none 0 0,.slice none 0 0] 46)=W8:=⟨_,rfl⟩
 have KH:Wz.setRow rb #[.int .i64 14,.int .i64 0,.int .i64 x.req,.int .i64 0,.bool false,.int .u64 0,.int .u64 0,.int .i64 v1,.int .i64 0,.int .i64 0,.int .i64 0,.string ⟨#[]⟩,.string ⟨#[]⟩,.int .i64 0,.slice none 0 0,.int .u64 0,.int .i64 0,.int .i64 0,.slice none 0 0,.slice none 0 0,.slice none 0 0,.slice none 0 0]=W8:=by rw[<-Df,<-hrb,World.setRow_alloc_new,xI]
 have hst:(sZ ⟨rb,0,none⟩ (.agg #[.int .i64 14,.int .i64 0,.int .i64 x.req,.int .i64 0,.bool false,.int .u64 0,.int .u64 0,.int .i64 v1,.int .i64 0,.int .i64 0,.int .i64 0,.string ⟨#[]⟩,.string ⟨#[]⟩,.int .i64 0,.slice none 0 0,.int .u64 0,.int .i64 0,.int .i64 0,.slice none 0 0,.slice none 0 0,.slice none 0 0,.slice none 0 0])).run Tryz.prog Wz=.ok () W8:=by
  rw[<-KH]
  exact run_storeVar_row Wz rb _ _ _ _ UH (show(Tryz.prog.info? 46).map (·.size)=some 22 by kernel_rfl) rfl (by simp[Value.oneCell'])
 have hc8:Has W8 rb 46 #[.int .i64 14,.int .i64 0,.int .i64 x.req,.int .i64 0,.bool false,.int .u64 0,.int .u64 0,.int .i64 v1,.int .i64 0,.int .i64 0,.int .i64 0,.string ⟨#[]⟩,.string ⟨#[]⟩,.int .i64 0,.slice none 0 0,.int .u64 0,.int .i64 0,.int .i64 0,.slice none 0 0,.slice none 0 0,.slice none 0 0,.slice none 0 0]:=by rw[<-xI,<-hrb];exact Has.new _ _ _
 have hk8:Kept aj w6 W8:=by rw[<-xI];(repeat'(first|(with_reducible first|exact ak|apply au|apply ay|apply aA|apply aB)|(right;simp;done)))
 have s8:=HST.out.quiet hk8
 have y2:W8.cell? ⟨ab,2,none⟩=some (.int .i64 v2):=s8.h2.cell 2
 have pM:=ah s8;have KI:=ah hc8;have XF:=ah (show rb≠ab from fun e=>by have:=HST.out.h2.lt;omega)
 have HRW:=ah (show w.heap.size<=rb by have:=HST.out.h1.lt;omega)
 have XG:=ah (show¬dU X6 (gY M cl x) rb from fun hf=>by have:=HST.out.s.at'.lt hf;omega)
 clear s8 hc8 hk8 UH xI KH
 have hcase:v2=0\/v2≠0:=by omega
 rcases hcase with hu2|hu2
 ·have hfin:=bI.out
  rw[if_pos hu2]at hfin
  have hsend:=hfin W8 _ pM.out.s pM.out.lb
  simp only[yg,aG,List.length_nil]at hsend
  have vg:=ah hsend
  subst hu2
  clear hfin hsend
  go_wp2_with (refine wpList_load_row rfl 46 (.tmp 9) rfl rb rfl 46 _ (0,0) _ KI.out Tryz.underlying46 rfl (by kernel_rfl) ?_)
  clear y1 y2 y3 Df hst
  refine vg.out.mono ?_
  rintro e w9 ⟨rfl,hq⟩
  have HQ:=ah hq;clear hq
  go_wp2
  go_end0
  exact HQ.out
 ·have hfin:=bI.out
  rw[if_neg hu2]at hfin
  have hcf:=pV (pM.out.s.at'.c 2) ET.out.st.inv.ok
  rw[pM.out.s.sb]at hcf
  have hin:=KG ET.out.st.inv
  have hokS:=ET.out.st.inv.ok.m
  have q8:W8.cell? ⟨X.mb,2,none⟩=some (.pointer (some ⟨X.sb,0,none⟩)):=by
   have:=pM.out.s.at'.cell (i:=2) (v:=.pointer (some ⟨X6.sb,0,none⟩)) rfl
   rw[pM.out.s.mb,pM.out.s.sb]at this;exact this
  obtain⟨ST,hST⟩:∃ST,(gY M cl x).st=ST:=⟨_,rfl⟩
  rw[hST]at hcf hfin hin hokS
  obtain⟨ep,nK⟩:∃ep,ST.ep=ep:=⟨_,rfl⟩
  obtain⟨fl,hfl⟩:∃fl,ST.fl=fl:=⟨_,rfl⟩
  obtain⟨ms,hms⟩:∃ms,ST.ms=ms:=⟨_,rfl⟩
  obtain⟨hd,hhd⟩:∃hd,lV ms=hd:=⟨_,rfl⟩
  rw[nK,hfl,hms]at hcf
  rw[hms]at hokS
  rw[hms,hhd]at hin
  rw[nK,hms,hhd]at hfin
  have hwr2:IntKind.i64.wrap (hd+1)=hd+1:=IntWalk.i64_in _ (by omega)
  have hsend:∀W,Kept aj W8 W->∀nN,Kept (fun k=>k=rb) W nN->∀o,_:=fun W hW nN hK o=>hfin o
  clear hsend
  simp only[yg,aG,List.length_nil]at hfin
  have qh:=ah hfin;have ER:=ah hcf;have Af:=ah hokS
  have hhead:=fun W A d (hs:Src W 2 A ms.length (aS ms))=>Ar W ep fl A d ms hs (by omega)
  simp only[hhd]at hhead
  have F8:=ah hhead
  have acT:(v2 !=0)=true:=by simpa using hu2
  clear hfin hcf hST nK hfl hms hhd hin hokS hhead
  go_wp2_with fail
  clear hst Df y1 y2 y3 q8
  refine ER.out.mono ?_
  rintro e w9 ⟨A,d,rfl,UI,hk9⟩
  obtain⟨oO,DR⟩:∃oO,w9.alloc (.cells #[.int .i64 ep,.slice A ms.length d,.int .u64 fl] 25)=oO:=⟨_,rfl⟩
  have hk10:Kept aj W8 oO:=by rw[<-DR];(repeat'(first|(with_reducible first|exact ak|apply au|apply ay|apply aA|apply aB)|(exact hk9)|(right;simp;done)))
  have zB:Has oO w9.heap.size 25 #[.int .i64 ep,.slice A ms.length d,.int .u64 fl]:=by rw[<-DR];exact Has.new _ _ _
  have KJ:=aF.kept UI (w':=oO) (by rw[<-DR];(repeat'(first|(with_reducible first|exact ak|apply au|apply ay|apply aA|apply aB)|(right;simp;done))))
  have DT:w9.heap.size≠rb:=fun e=>by have:=KI.out.lt;have:=hk9.size;omega
  obtain⟨cb,hcb⟩:∃cb,w9.heap.size=cb:=⟨_,rfl⟩
  rw[hcb]at zB DT
  have hce:∀W,Kept aj oO W->W.cell? ⟨ab,1,none⟩=some (.int .i64 x.req)/\W.cell? ⟨ab,2,none⟩=some (.int .i64 v2)/\W.cell? ⟨cb,0,none⟩=some (.int .i64 ep)/\W.cell? ⟨cb,1,none⟩=some (.slice A ms.length d)/\W.cell? ⟨cb,2,none⟩=some (.int .u64 fl):=fun W hW=>by
   have g1:=(pM.out.h2.kept (hk10.then hW) (fun z=>z))
   have g2:=zB.kept hW (fun z=>z)
   exact⟨g1.cell 1,g1.cell 2,g2.cell 0,g2.cell 1,g2.cell 2⟩
  have Bz:∀W,Kept aj oO W->∃nN,(sZ ⟨rb,0,none⟩ (.agg #[.int .i64 7,.int .i64 ep,.int .i64 x.req,.int .i64 0,.bool false,.int .u64 0,.int .u64 0,.int .i64 (hd+1),.int .i64 0,.int .i64 0,.int .i64 v2,.string ⟨#[]⟩,.string ⟨#[]⟩,.int .i64 0,.slice none 0 0,.int .u64 0,.int .i64 0,.int .i64 0,.slice none 0 0,.slice none 0 0,.slice none 0 0,.slice none 0 0])).run Tryz.prog W=.ok () nN/\Has nN rb 46 #[.int .i64 7,.int .i64 ep,.int .i64 x.req,.int .i64 0,.bool false,.int .u64 0,.int .u64 0,.int .i64 (hd+1),.int .i64 0,.int .i64 0,.int .i64 v2,.string ⟨#[]⟩,.string ⟨#[]⟩,.int .i64 0,.slice none 0 0,.int .u64 0,.int .i64 0,.int .i64 0,.slice none 0 0,.slice none 0 0,.slice none 0 0,.slice none 0 0]/\Kept (fun k=>k=rb) W nN/\(nN.cell? ⟨ab,1,none⟩=some (.int .i64 x.req)/\nN.cell? ⟨ab,2,none⟩=some (.int .i64 v2)/\nN.cell? ⟨cb,0,none⟩=some (.int .i64 ep)/\nN.cell? ⟨cb,1,none⟩=some (.slice A ms.length d)/\nN.cell? ⟨cb,2,none⟩=some (.int .u64 fl)):=fun W hW=>by
   have hw0:=KI.out.kept (hk10.then hW) (fun z=>z)
   have hkr:Kept (fun k=>k=rb) W (W.setRow rb #[.int .i64 7,.int .i64 ep,.int .i64 x.req,.int .i64 0,.bool false,.int .u64 0,.int .u64 0,.int .i64 (hd+1),.int .i64 0,.int .i64 0,.int .i64 v2,.string ⟨#[]⟩,.string ⟨#[]⟩,.int .i64 0,.slice none 0 0,.int .u64 0,.int .i64 0,.int .i64 0,.slice none 0 0,.slice none 0 0,.slice none 0 0,.slice none 0 0]):=Dc _ _ _
   have g1:=(pM.out.h2.kept (hk10.then hW) (fun z=>z)).kept hkr (fun e=>XF.out e.symm)
   have g2:=(zB.kept hW (fun z=>z)).kept hkr DT
   exact⟨_,run_storeVar_row W rb _ _ _ _ hw0 (show(Tryz.prog.info? 46).map (·.size)=some 22 by kernel_rfl) rfl (by simp[Value.oneCell']),setRow_heap W rb _ _ _ _ hw0,hkr,g1.cell 1,g1.cell 2,g2.cell 0,g2.cell 1,g2.cell 2⟩
  have KL:∀W,Kept aj oO W->_:=fun W hW=>F8.out W A d (Src.bC (aF.kept KJ hW).1)
  have iD:=ah hce;have KE:=ah Bz;have CP:=ah KL;have FO:=ah hk10
  clear hk9 UI hk10 zB KJ DT KL
  have HS:=ah (Kept.refl aj oO)
  obtain⟨z1,z2,z3,z4,z5⟩:=hce oO (Kept.refl _ _)
  clear hce Bz
  go_wp2_with fail
  go_region_held3 (fun W=>W.cell? ⟨ab,1,none⟩=some (.int .i64 x.req)/\W.cell? ⟨ab,2,none⟩=some (.int .i64 v2)/\W.cell? ⟨cb,0,none⟩=some (.int .i64 ep)/\W.cell? ⟨cb,1,none⟩=some (.slice A ms.length d)/\W.cell? ⟨cb,2,none⟩=some (.int .u64 fl))
   (first|with_reducible exact DU|with_reducible exact iD.out _ HS.out|exact iD.out _ HS.out.drew|exact DU)
   (first|(go_at_call 145;((with_reducible refine(CP.out _ ?_).mono ?_);exact(by(repeat'(first|(with_reducible first|exact ak|apply au|apply ay|apply aA|apply aB)|(exact HS.out)|(right;simp;done))));rintro e w11 ⟨rfl,hk0⟩;have hk:=Kept.then (F:=aj) (a:=oO) (by(repeat'(first|(with_reducible first|exact ak|apply au|apply ay|apply aA|apply aB)|(exact HS.out)|(right;simp;done)))) hk0;clear HS hk0;have HS:=ah hk;clear hk;obtain⟨nN,hst,hh12,hk12,DU⟩:=KE.out w11 HS.out;have XH:=ah hh12;have XI:=ah hk12;clear hh12 hk12)))
  clear z1 z2 z3 z4 z5
  have s12:=Step.side (pM.out.s.quiet (FO.out.then HS.out)) XI.out HRW.out XG.out
  have hse:=qh.out nN _ s12 pM.out.lb
  have vg:=ah hse
  clear hse s12 hst DU
  go_wp2_with (refine wpList_load_row rfl 46 (.tmp 9) rfl rb rfl 46 _ (0,0) _ XH.out Tryz.underlying46 rfl (by kernel_rfl) ?_)
  refine vg.out.mono ?_
  rintro e Dh ⟨rfl,hq⟩
  have HQ:=ah hq;clear hq
  go_wp2
  go_end0
  exact HQ.out
theorem XJ(h:dG w X M)(hb:cZ X M.lg c)(hc:c<=3000)(hm:bQ M k)(ho:M.out.length<=100)(cl:Int)(hcl:0<=cl/\cl<3)(x:bH)(hx:iG w x)(h1:¬x.req<1)(h2:¬(lq M.st cl).req<x.req)(h3:¬x.req<(lq M.st cl).req):
  Calls Tryz.prog 61 #[.pointer (some ⟨X.mb,0,none⟩),.int .i64 cl,eH x] w (dK w X M c (.tuple #[]) (oq M cl x) 2):=by
 obtain⟨W0,hW0⟩:∃W0,w.alloc (.cells (aG x).toArray 46)=W0:=⟨_,rfl⟩
 have hk0:Kept aj w W0:=by rw[<-hW0];(repeat'(first|(with_reducible first|exact ak|apply au|apply ay|apply aA|apply aB)|(right;simp;done)))
 have hn0:Has W0 w.heap.size 46 (aG x).toArray:=by rw[<-hW0];exact Has.new _ _ _
 have hoff:¬dU X M w.heap.size:=fun hf=>absurd (h.lt hf) (Nat.lt_irrefl _)
 have q2:W0.cell? ⟨X.mb,2,none⟩=some (.pointer (some ⟨X.sb,0,none⟩)):=(h.quiet hk0).cell (i:=2) rfl
 have hsa:=Fq ((h.quiet hk0).c 2) cl
 obtain⟨a0,a1,a2,a3,hsd⟩:∃a0 a1 a2 a3,lq M.st cl=⟨a0,a1,a2,a3⟩:=⟨_,_,_,_,rfl⟩
 rw[hsd]at hsa
 have hA:qw M cl x=if a1<x.req then ⟨cl,x.req,(fM M x).2,(fM M x).1⟩else⟨a0,a1,a2,a3⟩:=by unfold qw;rw[hsd]
 have hM1:gY M cl x=if a1<x.req then writeM (gV M x) (oQ (qw M cl x))else M:=by unfold gY;rw[hsd]
 have zU:oq M cl x=if x.req<1\/x.req<a1 then M else jf (gY M cl x) (5+cl) (wP (gY M cl x).st (qw M cl x)):=by unfold oq;rw[hsd]
 rw[hsd]at h2 h3
 dsimp only at h2 h3
 rw[if_neg h2]at hA hM1
 rw[if_neg (by omega)]at zU
 have ET:Hid (bQ (gY M cl x) k):=ah (hm.gY cl x hx)
 have bI:=ah (N9 (c:=c) h ho hm cl hcl x hx zU ⟨a0,a1,a2,a3⟩ hA)
 have fQ:=ah hM1
 have EO:=ah hsa;have aW:=ah hk0;have dw:=ah hn0;have H:=ah h;have HB:=ah hb;have qo:=ah hoff;have o9:=ah hcl
 have hwrap:IntKind.i64.wrap (5+cl)=5+cl:=IntWalk.i64_in _ (by omega)
 clear hsa hk0 hn0 h hb hoff hc hm ho hx hA hM1 zU hsd hcl
 go_enter Tryz.func61,Tryz.ntmps61
 go_wp2_with fail
 clear q2
 refine EO.out.mono ?_
 rintro e w2 ⟨rfl,hk2⟩
 obtain⟨W3,hW3⟩:∃W3,w2.alloc (.cells #[.int .i64 a0,.int .i64 a1,.int .i64 a2,.int .i64 a3] 73)=W3:=⟨_,rfl⟩
 have hk3:Kept aj W0 W3:=by rw[<-hW3];(repeat'(first|(with_reducible first|exact ak|apply au|apply ay|apply aA|apply aB)|(exact hk2)|(right;simp;done)))
 have hc3:Has W3 w2.heap.size 73 #[.int .i64 a0,.int .i64 a1,.int .i64 a2,.int .i64 a3]:=by rw[<-hW3];exact Has.new _ _ _
 have s3:oH w X M c w.heap.size 46 (aG x).toArray w2.heap.size 73 #[.int .i64 a0,.int .i64 a1,.int .i64 a2,.int .i64 a3] W3 X M:=
  ⟨Step.refl H.out (aW.out.then hk3),HB.out,dw.out.kept hk3 (fun z=>z),hc3,qo.out,fun hf=>by have:=H.out.lt hf;have:=hk2.size;have:=aW.out.size;omega⟩
 obtain⟨ab,hab⟩:∃ab,w2.heap.size=ab:=⟨_,rfl⟩
 rw[hab]at s3
 have r2:W3.cell? ⟨w.heap.size,2,none⟩=some (.int .i64 x.req):=s3.h1.cell 2
 have y1:W3.cell? ⟨ab,1,none⟩=some (.int .i64 a1):=s3.h2.cell 1
 have kD:=ah s3;clear s3 hc3 hk3 hk2
 have y0:=y1
 clear y0
 have s3:oH w X M (c+2) w.heap.size 46 (aG x).toArray ab 73 #[.int .i64 a0,.int .i64 a1,.int .i64 a2,.int .i64 a3] W3 X (gY M cl x):=by rw[fQ.out];exact kD.out.mono (by omega)
 have HST:=ah s3;clear s3
 clear y1
 have y1:W3.cell? ⟨ab,1,none⟩=some (.int .i64 a1):=HST.out.h2.cell 1
 have y3:W3.cell? ⟨ab,3,none⟩=some (.int .i64 a3):=HST.out.h2.cell 3
 obtain⟨rb,hrb⟩:∃rb,W3.heap.size=rb:=⟨_,rfl⟩
 obtain⟨Wz,Df⟩:∃Wz,W3.alloc (.cells #[.int .i64 0,.int .i64 0,.int .i64 0,.int .i64 0,.bool false,.int .u64 0,.int .u64 0,.int .i64 0,.int .i64 0,.int .i64 0,.int .i64 0,.string ⟨#[]⟩,.string ⟨#[]⟩,.int .i64 0,.slice none 0 0,.int .u64 0,.int .i64 0,.int .i64 0,.slice none 0 0,.slice none 0 0,.slice none 0 0,.slice none 0 0] 46)=Wz:=⟨_,rfl⟩
 have UH:Has Wz rb 46 #[.int .i64 0,.int .i64 0,.int .i64 0,.int .i64 0,.bool false,.int .u64 0,.int .u64 0,.int .i64 0,.int .i64 0,.int .i64 0,.int .i64 0,.string ⟨#[]⟩,.string ⟨#[]⟩,.int .i64 0,.slice none 0 0,.int .u64 0,.int .i64 0,.int .i64 0,.slice none 0 0,.slice none 0 0,.slice none 0 0,.slice none 0 0]:=by rw[<-Df,<-hrb];exact Has.new _ _ _
 obtain⟨W8,xI⟩:∃W8,W3.alloc (.cells #[.int .i64 14,.int .i64 0,.int .i64 a1,.int .i64 0,.bool false,.int .u64 0,.int .u64 0,.int .i64 a3,.int .i64 0,.int .i64 0,.int .i64 0,.string ⟨#[]⟩,.string ⟨#[]⟩,.int .i64 0,.slice none 0 0,.int .u64 0,.int .i64 0,.int .i64 0,.slice none 0 0,.slice none 0 0,.slice none 0 0,.slice none 0 0] 46)=W8:=⟨_,rfl⟩
 have KH:Wz.setRow rb #[.int .i64 14,.int .i64 0,.int .i64 a1,.int .i64 0,.bool false,.int .u64 0,.int .u64 0,.int .i64 a3,.int .i64 0,.int .i64 0,.int .i64 0,.string ⟨#[]⟩,.string ⟨#[]⟩,.int .i64 0,.slice none 0 0,.int .u64 0,.int .i64 0,.int .i64 0,.slice none 0 0,.slice none 0 0,.slice none 0 0,.slice none 0 0]=W8:=by rw[<-Df,<-hrb,World.setRow_alloc_new,xI]
 have hst:(sZ ⟨rb,0,none⟩ (.agg #[.int .i64 14,.int .i64 0,.int .i64 a1,.int .i64 0,.bool false,.int .u64 0,.int .u64 0,.int .i64 a3,.int .i64 0,.int .i64 0,.int .i64 0,.string ⟨#[]⟩,.string ⟨#[]⟩,.int .i64 0,.slice none 0 0,.int .u64 0,.int .i64 0,.int .i64 0,.slice none 0 0,.slice none 0 0,.slice none 0 0,.slice none 0 0])).run Tryz.prog Wz=.ok () W8:=by
  rw[<-KH]
  exact run_storeVar_row Wz rb _ _ _ _ UH (show(Tryz.prog.info? 46).map (·.size)=some 22 by kernel_rfl) rfl (by simp[Value.oneCell'])
 have hc8:Has W8 rb 46 #[.int .i64 14,.int .i64 0,.int .i64 a1,.int .i64 0,.bool false,.int .u64 0,.int .u64 0,.int .i64 a3,.int .i64 0,.int .i64 0,.int .i64 0,.string ⟨#[]⟩,.string ⟨#[]⟩,.int .i64 0,.slice none 0 0,.int .u64 0,.int .i64 0,.int .i64 0,.slice none 0 0,.slice none 0 0,.slice none 0 0,.slice none 0 0]:=by rw[<-xI,<-hrb];exact Has.new _ _ _
 have hk8:Kept aj W3 W8:=by rw[<-xI];(repeat'(first|(with_reducible first|exact ak|apply au|apply ay|apply aA|apply aB)|(right;simp;done)))
 have s8:=HST.out.quiet hk8
 have y2:W8.cell? ⟨ab,2,none⟩=some (.int .i64 a2):=s8.h2.cell 2
 have pM:=ah s8;have KI:=ah hc8;have XF:=ah (show rb≠ab from fun e=>by have:=HST.out.h2.lt;omega)
 have HRW:=ah (show w.heap.size<=rb by have:=HST.out.h1.lt;omega)
 have XG:=ah (show¬dU X (gY M cl x) rb from fun hf=>by have:=HST.out.s.at'.lt hf;omega)
 clear s8 hc8 hk8 UH xI KH
 have hcase:a2=0\/a2≠0:=by omega
 rcases hcase with hu2|hu2
 ·have hfin:=bI.out
  rw[if_pos hu2]at hfin
  have hsend:=hfin W8 _ pM.out.s pM.out.lb
  simp only[yg,aG,List.length_nil]at hsend
  have vg:=ah hsend
  subst hu2
  clear hfin hsend
  go_wp2_with (refine wpList_load_row rfl 46 (.tmp 9) rfl rb rfl 46 _ (0,0) _ KI.out Tryz.underlying46 rfl (by kernel_rfl) ?_)
  clear y1 y2 y3 Df hst r2 hW3
  refine vg.out.mono ?_
  rintro e w9 ⟨rfl,hq⟩
  have HQ:=ah hq;clear hq
  go_wp2
  go_end0
  exact HQ.out
 ·have hfin:=bI.out
  rw[if_neg hu2]at hfin
  have hcf:=pV (pM.out.s.at'.c 2) ET.out.st.inv.ok
  rw[pM.out.s.sb]at hcf
  have hin:=KG ET.out.st.inv
  have hokS:=ET.out.st.inv.ok.m
  have q8:W8.cell? ⟨X.mb,2,none⟩=some (.pointer (some ⟨X.sb,0,none⟩)):=by
   have:=pM.out.s.at'.cell (i:=2) (v:=.pointer (some ⟨X.sb,0,none⟩)) rfl
   rw[pM.out.s.mb,pM.out.s.sb]at this;exact this
  obtain⟨ST,hST⟩:∃ST,(gY M cl x).st=ST:=⟨_,rfl⟩
  rw[hST]at hcf hfin hin hokS
  obtain⟨ep,nK⟩:∃ep,ST.ep=ep:=⟨_,rfl⟩
  obtain⟨fl,hfl⟩:∃fl,ST.fl=fl:=⟨_,rfl⟩
  obtain⟨ms,hms⟩:∃ms,ST.ms=ms:=⟨_,rfl⟩
  obtain⟨hd,hhd⟩:∃hd,lV ms=hd:=⟨_,rfl⟩
  rw[nK,hfl,hms]at hcf
  rw[hms]at hokS
  rw[hms,hhd]at hin
  rw[nK,hms,hhd]at hfin
  have hwr2:IntKind.i64.wrap (hd+1)=hd+1:=IntWalk.i64_in _ (by omega)
  have hsend:∀W,Kept aj W8 W->∀nN,Kept (fun k=>k=rb) W nN->∀o,_:=fun W hW nN hK o=>hfin o
  clear hsend
  simp only[yg,aG,List.length_nil]at hfin
  have qh:=ah hfin;have ER:=ah hcf;have Af:=ah hokS
  have hhead:=fun W A d (hs:Src W 2 A ms.length (aS ms))=>Ar W ep fl A d ms hs (by omega)
  simp only[hhd]at hhead
  have F8:=ah hhead
  have acT:(a2 !=0)=true:=by simpa using hu2
  clear hfin hcf hST nK hfl hms hhd hin hokS hhead
  go_wp2_with fail
  clear hst Df y1 y2 y3 q8 r2 hW3
  refine ER.out.mono ?_
  rintro e w9 ⟨A,d,rfl,UI,hk9⟩
  obtain⟨oO,DR⟩:∃oO,w9.alloc (.cells #[.int .i64 ep,.slice A ms.length d,.int .u64 fl] 25)=oO:=⟨_,rfl⟩
  have hk10:Kept aj W8 oO:=by rw[<-DR];(repeat'(first|(with_reducible first|exact ak|apply au|apply ay|apply aA|apply aB)|(exact hk9)|(right;simp;done)))
  have zB:Has oO w9.heap.size 25 #[.int .i64 ep,.slice A ms.length d,.int .u64 fl]:=by rw[<-DR];exact Has.new _ _ _
  have KJ:=aF.kept UI (w':=oO) (by rw[<-DR];(repeat'(first|(with_reducible first|exact ak|apply au|apply ay|apply aA|apply aB)|(right;simp;done))))
  have DT:w9.heap.size≠rb:=fun e=>by have:=KI.out.lt;have:=hk9.size;omega
  obtain⟨cb,hcb⟩:∃cb,w9.heap.size=cb:=⟨_,rfl⟩
  rw[hcb]at zB DT
  have hce:∀W,Kept aj oO W->W.cell? ⟨ab,1,none⟩=some (.int .i64 a1)/\W.cell? ⟨ab,2,none⟩=some (.int .i64 a2)/\W.cell? ⟨cb,0,none⟩=some (.int .i64 ep)/\W.cell? ⟨cb,1,none⟩=some (.slice A ms.length d)/\W.cell? ⟨cb,2,none⟩=some (.int .u64 fl):=fun W hW=>by
   have g1:=(pM.out.h2.kept (hk10.then hW) (fun z=>z))
   have g2:=zB.kept hW (fun z=>z)
   exact⟨g1.cell 1,g1.cell 2,g2.cell 0,g2.cell 1,g2.cell 2⟩
  have Bz:∀W,Kept aj oO W->∃nN,(sZ ⟨rb,0,none⟩ (.agg #[.int .i64 7,.int .i64 ep,.int .i64 a1,.int .i64 0,.bool false,.int .u64 0,.int .u64 0,.int .i64 (hd+1),.int .i64 0,.int .i64 0,.int .i64 a2,.string ⟨#[]⟩,.string ⟨#[]⟩,.int .i64 0,.slice none 0 0,.int .u64 0,.int .i64 0,.int .i64 0,.slice none 0 0,.slice none 0 0,.slice none 0 0,.slice none 0 0])).run Tryz.prog W=.ok () nN/\Has nN rb 46 #[.int .i64 7,.int .i64 ep,.int .i64 a1,.int .i64 0,.bool false,.int .u64 0,.int .u64 0,.int .i64 (hd+1),.int .i64 0,.int .i64 0,.int .i64 a2,.string ⟨#[]⟩,.string ⟨#[]⟩,.int .i64 0,.slice none 0 0,.int .u64 0,.int .i64 0,.int .i64 0,.slice none 0 0,.slice none 0 0,.slice none 0 0,.slice none 0 0]/\Kept (fun k=>k=rb) W nN/\(nN.cell? ⟨ab,1,none⟩=some (.int .i64 a1)/\nN.cell? ⟨ab,2,none⟩=some (.int .i64 a2)/\nN.cell? ⟨cb,0,none⟩=some (.int .i64 ep)/\nN.cell? ⟨cb,1,none⟩=some (.slice A ms.length d)/\nN.cell? ⟨cb,2,none⟩=some (.int .u64 fl)):=fun W hW=>by
   have hw0:=KI.out.kept (hk10.then hW) (fun z=>z)
   have hkr:Kept (fun k=>k=rb) W (W.setRow rb #[.int .i64 7,.int .i64 ep,.int .i64 a1,.int .i64 0,.bool false,.int .u64 0,.int .u64 0,.int .i64 (hd+1),.int .i64 0,.int .i64 0,.int .i64 a2,.string ⟨#[]⟩,.string ⟨#[]⟩,.int .i64 0,.slice none 0 0,.int .u64 0,.int .i64 0,.int .i64 0,.slice none 0 0,.slice none 0 0,.slice none 0 0,.slice none 0 0]):=Dc _ _ _
   have g1:=(pM.out.h2.kept (hk10.then hW) (fun z=>z)).kept hkr (fun e=>XF.out e.symm)
   have g2:=(zB.kept hW (fun z=>z)).kept hkr DT
   exact⟨_,run_storeVar_row W rb _ _ _ _ hw0 (show(Tryz.prog.info? 46).map (·.size)=some 22 by kernel_rfl) rfl (by simp[Value.oneCell']),setRow_heap W rb _ _ _ _ hw0,hkr,g1.cell 1,g1.cell 2,g2.cell 0,g2.cell 1,g2.cell 2⟩
  have KL:∀W,Kept aj oO W->_:=fun W hW=>F8.out W A d (Src.bC (aF.kept KJ hW).1)
  have iD:=ah hce;have KE:=ah Bz;have CP:=ah KL;have FO:=ah hk10
  clear hk9 UI hk10 zB KJ DT KL
  have HS:=ah (Kept.refl aj oO)
  obtain⟨z1,z2,z3,z4,z5⟩:=hce oO (Kept.refl _ _)
  clear hce Bz
  go_wp2_with fail
  go_region_held3 (fun W=>W.cell? ⟨ab,1,none⟩=some (.int .i64 a1)/\W.cell? ⟨ab,2,none⟩=some (.int .i64 a2)/\W.cell? ⟨cb,0,none⟩=some (.int .i64 ep)/\W.cell? ⟨cb,1,none⟩=some (.slice A ms.length d)/\W.cell? ⟨cb,2,none⟩=some (.int .u64 fl))
   (first|with_reducible exact DU|with_reducible exact iD.out _ HS.out|exact iD.out _ HS.out.drew|exact DU)
   (first|(go_at_call 145;((with_reducible refine(CP.out _ ?_).mono ?_);exact(by(repeat'(first|(with_reducible first|exact ak|apply au|apply ay|apply aA|apply aB)|(exact HS.out)|(right;simp;done))));rintro e w11 ⟨rfl,hk0⟩;have hk:=Kept.then (F:=aj) (a:=oO) (by(repeat'(first|(with_reducible first|exact ak|apply au|apply ay|apply aA|apply aB)|(exact HS.out)|(right;simp;done)))) hk0;clear HS hk0;have HS:=ah hk;clear hk;obtain⟨nN,hst,hh12,hk12,DU⟩:=KE.out w11 HS.out;have XH:=ah hh12;have XI:=ah hk12;clear hh12 hk12)))
  clear z1 z2 z3 z4 z5
  have s12:=Step.side (pM.out.s.quiet (FO.out.then HS.out)) XI.out HRW.out XG.out
  have hse:=qh.out nN _ s12 pM.out.lb
  have vg:=ah hse
  clear hse s12 hst DU
  go_wp2_with (refine wpList_load_row rfl 46 (.tmp 9) rfl rb rfl 46 _ (0,0) _ XH.out Tryz.underlying46 rfl (by kernel_rfl) ?_)
  refine vg.out.mono ?_
  rintro e Dh ⟨rfl,hq⟩
  have HQ:=ah hq;clear hq
  go_wp2
  go_end0
  exact HQ.out
theorem ZS(h:dG w X M)(hb:cZ X M.lg c)(hc:c<=3000)(hm:bQ M k)(ho:M.out.length<=100)(cl:Int)(hcl:0<=cl/\cl<3)(x:bH)(hx:iG w x):
  Calls Tryz.prog 61 #[.pointer (some ⟨X.mb,0,none⟩),.int .i64 cl,eH x] w (dK w X M c (.tuple #[]) (oq M cl x) 2):=by
 by_cases h0:x.req<1\/x.req<(lq M.st cl).req
 ·exact ZQ h hb hc hm ho cl hcl x hx h0
 ·by_cases h2:(lq M.st cl).req<x.req
  ·exact ZR h hb hc hm ho cl hcl x hx (by omega) h2
  ·exact XJ h hb hc hm ho cl hcl x hx (by omega) h2 (by omega)
end
end dM
end Go.Proofs.YtolkgbafebehfaaGreat
