/- Part 54 of what the proof needs. -/
import Derived.Test.YtolkgbafebehfaaGreatZP51
import Derived.Test.YtolkgbafebehfaaGreatZP52
import Derived.Lib.QuietBelow
set_option linter.unusedSimpArgs false
set_option linter.unusedVariables false
set_option maxHeartbeats 32000000
set_option maxRecDepth 100000
namespace Go.Proofs.YtolkgbafebehfaaGreat
open Go.RowKit Go.Sort
set_option maxRecDepth 100000
namespace dM
open aP Vn Mst lJ IM nG gX MO
theorem Lc(x f:Int)(A:Option Addr)(n c:Nat)(W:World):(Instr.field 25 (.agg #[.int .i64 x,.slice A n c,.int .u64 f]) 0).run Tryz.prog W=.ok (.int .i64 x) W:=by kernel_rfl
attribute [local go_sem↓] tX
attribute [local go_sem] Lc
theorem dn{a b:World}(h:Below a.heap.size a b):Kept aj a b:=⟨h.os,h.tape,h.output,h.size,fun k hk _=>h.block k hk⟩
theorem acs:aP.chk 1 [(0,1)]=0:=by decide
theorem QB(w:World)(n:Int)(x:bH)(hx:vK w x):
  Calls Tryz.prog 4 #[.int .i64 n,eH x] w fun e w'=>e=.returned (.bool true)/\Below w.heap.size w w':=by
 have hend:∀w',Kept aj w w'->Below w.heap.size w w':=fun w' hk=>hk.below (Nat.le_refl _) (fun _ z=>z.elim)
 obtain⟨W0,hW0⟩:∃W0,w.alloc (.cells (aG x).toArray 46)=W0:=⟨_,rfl⟩
 have hk0:Kept aj w W0:=by rw[<-hW0];(repeat'(first|(with_reducible first|exact ak|apply au|apply ay|apply aA|apply aB)|(right;simp;done)))
 have hn0:Has W0 w.heap.size 46 (aG x).toArray:=by rw[<-hW0];exact Has.new _ _ _
 have hld:∀W,Kept aj W0 W->(oI ⟨w.heap.size,0,none⟩).run Tryz.prog W=.ok (.agg (aG x).toArray) W:=fun W hW=>xJ W w.heap.size x (hn0.kept hW (fun z=>z))
 obtain⟨W1,hW1⟩:∃W1,W0.alloc (.cells (rW ⟨0,0,x⟩).toArray 48)=W1:=⟨_,rfl⟩
 have hk1:Kept aj W0 W1:=by rw[<-hW1];(repeat'(first|(with_reducible first|exact ak|apply au|apply ay|apply aA|apply aB)|(right;simp;done)))
 have hn1:Has W1 W0.heap.size 48 (rW ⟨0,0,x⟩).toArray:=by rw[<-hW1];exact Has.new _ _ _
 have hsa:Src W1 24 (some ⟨W0.heap.size,0,none⟩) [(⟨0,0,x⟩:pO)].length (wQ [⟨0,0,x⟩]):=by
  have:=Src.bW (m:=1) (size:=24) hn1 rfl
  have e:wQ [(⟨0,0,x⟩:pO)]=rW ⟨0,0,x⟩:=by unfold wQ;simp
  rw[e];exact this
 have hfew:=Z9 W1 (some ⟨W0.heap.size,0,none⟩) 1 [⟨0,0,x⟩] hsa (fun a ha=>by simp at ha;subst ha;exact hx.lens)
 obtain⟨fw,hfw⟩:∃fw,BK [(⟨0,0,x⟩:pO)]=fw:=⟨_,rfl⟩
 rw[hfw]at hfew
 have haw:=fun W=>aaa W
 simp only[aG,rW]at hW0 hW1 hld
 have qm:=ah hend;have ac7:=ah hfew;have HAW:=ah haw;have aW:=ah hk0;have gI:=ah hk1;have YV:=ah hld
 have hl0:=hld W0 (Kept.refl _ _)
 unfold eH aG
 clear hend hfew haw hk0 hk1 hld hn0 hn1 hsa hfw hx
 go_enter Tryz.func4,Tryz.ntmps4
 go_wp2_with fail
 clear hW0 hW1 hl0
 refine ac7.out.mono ?_
 rintro e w2 ⟨rfl,hk2⟩
 have aQ:=ah (gI.out.then hk2);clear hk2
 cases fw
 ·go_wp2_with fail
  refine(HAW.out _).mono ?_
  rintro e w3 ⟨rfl,hk3⟩
  have HE:=ah (qm.out _ (aW.out.then (aQ.out.then hk3)));clear hk3
  go_wp2
  go_ret
  exact⟨rfl,HE.out⟩
 obtain⟨W3,hW3⟩:∃W3,w2.alloc (.cells #[.pointer none,.pointer none,.pointer none,.slice none 0 0,.pointer none,.map none,.map none,.int .u64 0,.map none,.map none,.map none,.slice none 0 0] 65)=W3:=⟨_,rfl⟩
 have hk3:Kept aj w2 W3:=by rw[<-hW3];(repeat'(first|(with_reducible first|exact ak|apply au|apply ay|apply aA|apply aB)|(right;simp;done)))
 have hz3:wT W3 (some ⟨w2.heap.size,0,none⟩):=.inr ⟨_,rfl,by rw[<-hW3];exact Has.new _ _ _⟩
 obtain⟨zb,hzb⟩:∃zb,w2.heap.size=zb:=⟨_,rfl⟩
 rw[hzb]at hz3
 obtain⟨W4,xu⟩:∃W4,W3.alloc (.cells #[.int .i64 0,.int .i64 1] 53)=W4:=⟨_,rfl⟩
 have hk4:Kept aj W3 W4:=by rw[<-xu];(repeat'(first|(with_reducible first|exact ak|apply au|apply ay|apply aA|apply aB)|(right;simp;done)))
 have hn4:Has W4 W3.heap.size 53 #[.int .i64 0,.int .i64 1]:=by rw[<-xu];exact Has.new _ _ _
 have hnew:=acr W4 1 0 (some ⟨W3.heap.size,0,none⟩) 1 [(0,1)] (Src.bW (t:=53) (size:=2) (m:=1) (cs:=#[.int .i64 0,.int .i64 1]) hn4 rfl) (Nat.le_refl _) (by decide) acs
 have fE:=ah hnew;have HZ:=ah (hz3.kept hk4);have dR:=ah (aQ.out.then (hk3.then hk4))
 clear hk3 hz3 hk4 hn4 hnew
 go_wp2_with fail
 clear hW3 xu hzb
 refine fE.out.mono ?_
 rintro e w5 ⟨rfl,hk5⟩
 have cO:=ah (dR.out.then hk5);have HZ5:=ah (HZ.out.kept hk5);clear hk5
 go_wp2_with fail
 refine(abR _).mono ?_
 rintro e w6 ⟨rfl,rfl⟩
 have hl6:=YV.out w5 cO.out
 have hP:∀p:Option Addr,(p=none\/p=some ⟨zb,0,none⟩)->∀W,Kept aj w5 W->wT W p:=fun p h W hW=>by
  rcases h with rfl|rfl
  ·exact .inl rfl
  ·exact HZ5.out.kept hW
 have hsame:∀{Q:Ending->Prop} {W W':World} {e:Ending},(Q e/\W=W')->Q e/\Kept aj W W':=fun h=>⟨h.1,h.2▸Kept.refl _ _⟩
 have Ld:∀W (p:Option Addr) (cs0:Array Value),Kept aj w5 W->(p=none\/p=some ⟨zb,0,none⟩)->Calls Tryz.prog 20 #[.pointer p,.int .i64 n,.agg cs0] W fun e w'=>e=.returned (.slice none 0 0)/\Kept aj W w':=fun W p cs0 hW h=>U7 (hP p h W hW) n cs0
 have Y9:∀W (p:Option Addr),Kept aj w5 W->(p=none\/p=some ⟨zb,0,none⟩)->Calls Tryz.prog 21 #[.pointer p] W fun e w'=>e=.returned (.slice none 0 0)/\Kept aj W w':=fun W p hW h=>abN (hP p h W hW)
 have Za:∀W (p:Option Addr),Kept aj w5 W->(p=none\/p=some ⟨zb,0,none⟩)->Calls Tryz.prog 12 #[.pointer p] W fun e w'=>e=.returned (mP 0 none 0 0 0)/\Kept aj W w':=fun W p hW h=>abO (hP p h W hW)
 have U9:∀W (p:Option Addr),Kept aj w5 W->(p=none\/p=some ⟨zb,0,none⟩)->Calls Tryz.prog 13 #[.pointer p] W fun e w'=>e=.returned (.slice none 0 0)/\Kept aj W w':=fun W p hW h=>(aab (hP p h W hW)).mono fun e w' hh=>hsame (Q:=fun e=>e=.returned (.slice none 0 0)) hh
 have Zb:∀W (p:Option Addr),Kept aj w5 W->(p=none\/p=some ⟨zb,0,none⟩)->Calls Tryz.prog 22 #[.pointer p] W fun e w'=>e=.returned (.slice none 0 0)/\Kept aj W w':=fun W p hW h=>(abL (hP p h W hW)).mono fun e w' hh=>hsame (Q:=fun e=>e=.returned (.slice none 0 0)) hh
 have Zc:∀W (p:Option Addr),Kept aj w5 W->(p=none\/p=some ⟨zb,0,none⟩)->Calls Tryz.prog 23 #[.pointer p,.int .i64 n] W fun e w'=>e=.returned (.bool false)/\Kept aj W w':=fun W p hW h=>(abM (hP p h W hW) n).mono fun e w' hh=>hsame (Q:=fun e=>e=.returned (.bool false)) hh
 have Va:∀W (p:Option Addr),Kept aj w5 W->(p=none\/p=some ⟨zb,0,none⟩)->Calls Tryz.prog 24 #[.pointer p,.int .i64 n] W fun e w'=>e=.returned (.bool false)/\Kept aj W w':=fun W p hW h=>(aac (hP p h W hW) n).mono fun e w' hh=>hsame (Q:=fun e=>e=.returned (.bool false)) hh
 have Le:∀W (p:Option Addr),Kept aj w5 W->(p=none\/p=some ⟨zb,0,none⟩)->Calls Tryz.prog 25 #[.pointer p] W fun e w'=>e=.returned (.int .u64 0)/\Kept aj W w':=fun W p hW h=>(acp (hP p h W hW)).mono fun e w' hh=>hsame (Q:=fun e=>e=.returned (.int .u64 0)) hh
 have Zd:∀W (p:Option Addr),Kept aj w5 W->(p=none\/p=some ⟨zb,0,none⟩)->Calls Tryz.prog 26 #[.pointer p,.int .i64 n] W fun e w'=>e=.returned (.agg #[.int .i64 0,.int .i64 0,.int .i64 0,.int .i64 0])/\Kept aj W w':=fun W p hW h=>abP (hP p h W hW) n
 have Lh:=ah Ld;have Ze:=ah Y9;have vM:=ah Za;have Vb:=ah U9;have Zf:=ah Zb;have Zg:=ah Zc;have Vd:=ah Va;have Lj:=ah Le;have Zh:=ah Zd
 clear hP hsame Ld Y9 Za U9 Zb Zc Va Le Zd
 have hcl0:∀W,Kept aj w5 W->(oI ⟨w.heap.size,0,none⟩).run Tryz.prog W=.ok (.agg (aG x).toArray) W:=fun W hW=>YV.out W (cO.out.then hW)
 obtain⟨cs,hcs⟩:∃cs,cs=(aG x).toArray:=⟨_,rfl⟩
 obtain⟨va,hva⟩:∃va,va=Value.agg (rW ⟨0,0,x⟩).toArray:=⟨_,rfl⟩
 have hcl:∀d os,(oI ⟨w.heap.size,0,none⟩).run Tryz.prog (grow (redrawn w5 d) os)=.ok (.agg cs) (grow (redrawn w5 d) os):=fun d os=>by rw[hcs];exact hcl0 _ (dn (below_regrown w5 d os))
 simp only[rW,aG]at hcs hva
 try rw[<-hva]
 try rw[<-hcs]
 have HVA:=ah (And.intro hcs hva)
 clear hcs hva hcl0
 have Hw:∀d os,Calls Tryz.prog 20 #[.pointer none,.int .i64 n,.agg cs] (grow (redrawn w5 d) os) fun e w'=>e=.returned (.slice none 0 0)/\∃p:Regrown,w'=grow (redrawn w5 p.d) p.os:=fun d os=>Calls.regrown_of ((Lh.out _ none cs (dn (below_regrown w5 d os)) (.inl rfl)).mono fun e w' h=>⟨h.1,h.2.below (Nat.le_refl _) (fun _ z=>z.elim)⟩)
 have Hy:∀d os,Calls Tryz.prog 20 #[.pointer (some ⟨zb,0,none⟩),.int .i64 n,.agg cs] (grow (redrawn w5 d) os) fun e w'=>e=.returned (.slice none 0 0)/\∃p:Regrown,w'=grow (redrawn w5 p.d) p.os:=fun d os=>Calls.regrown_of ((Lh.out _ (some ⟨zb,0,none⟩) cs (dn (below_regrown w5 d os)) (.inr rfl)).mono fun e w' h=>⟨h.1,h.2.below (Nat.le_refl _) (fun _ z=>z.elim)⟩)
 have Ve:∀d os,Calls Tryz.prog 21 #[.pointer none] (grow (redrawn w5 d) os) fun e w'=>e=.returned (.slice none 0 0)/\∃p:Regrown,w'=grow (redrawn w5 p.d) p.os:=fun d os=>Calls.regrown_of ((Ze.out _ none (dn (below_regrown w5 d os)) (.inl rfl)).mono fun e w' h=>⟨h.1,h.2.below (Nat.le_refl _) (fun _ z=>z.elim)⟩)
 have Vf:∀d os,Calls Tryz.prog 21 #[.pointer (some ⟨zb,0,none⟩)] (grow (redrawn w5 d) os) fun e w'=>e=.returned (.slice none 0 0)/\∃p:Regrown,w'=grow (redrawn w5 p.d) p.os:=fun d os=>Calls.regrown_of ((Ze.out _ (some ⟨zb,0,none⟩) (dn (below_regrown w5 d os)) (.inr rfl)).mono fun e w' h=>⟨h.1,h.2.below (Nat.le_refl _) (fun _ z=>z.elim)⟩)
 have Vg:∀d os,Calls Tryz.prog 12 #[.pointer none] (grow (redrawn w5 d) os) fun e w'=>e=.returned (mP 0 none 0 0 0)/\∃p:Regrown,w'=grow (redrawn w5 p.d) p.os:=fun d os=>Calls.regrown_of ((vM.out _ none (dn (below_regrown w5 d os)) (.inl rfl)).mono fun e w' h=>⟨h.1,h.2.below (Nat.le_refl _) (fun _ z=>z.elim)⟩)
 have Vh:∀d os,Calls Tryz.prog 12 #[.pointer (some ⟨zb,0,none⟩)] (grow (redrawn w5 d) os) fun e w'=>e=.returned (mP 0 none 0 0 0)/\∃p:Regrown,w'=grow (redrawn w5 p.d) p.os:=fun d os=>Calls.regrown_of ((vM.out _ (some ⟨zb,0,none⟩) (dn (below_regrown w5 d os)) (.inr rfl)).mono fun e w' h=>⟨h.1,h.2.below (Nat.le_refl _) (fun _ z=>z.elim)⟩)
 have Oh:∀d os,Calls Tryz.prog 13 #[.pointer none] (grow (redrawn w5 d) os) fun e w'=>e=.returned (.slice none 0 0)/\∃p:Regrown,w'=grow (redrawn w5 p.d) p.os:=fun d os=>Calls.regrown_of ((Vb.out _ none (dn (below_regrown w5 d os)) (.inl rfl)).mono fun e w' h=>⟨h.1,h.2.below (Nat.le_refl _) (fun _ z=>z.elim)⟩)
 have Oi:∀d os,Calls Tryz.prog 13 #[.pointer (some ⟨zb,0,none⟩)] (grow (redrawn w5 d) os) fun e w'=>e=.returned (.slice none 0 0)/\∃p:Regrown,w'=grow (redrawn w5 p.d) p.os:=fun d os=>Calls.regrown_of ((Vb.out _ (some ⟨zb,0,none⟩) (dn (below_regrown w5 d os)) (.inr rfl)).mono fun e w' h=>⟨h.1,h.2.below (Nat.le_refl _) (fun _ z=>z.elim)⟩)
 have Vj:∀d os,Calls Tryz.prog 22 #[.pointer none] (grow (redrawn w5 d) os) fun e w'=>e=.returned (.slice none 0 0)/\∃p:Regrown,w'=grow (redrawn w5 p.d) p.os:=fun d os=>Calls.regrown_of ((Zf.out _ none (dn (below_regrown w5 d os)) (.inl rfl)).mono fun e w' h=>⟨h.1,h.2.below (Nat.le_refl _) (fun _ z=>z.elim)⟩)
 have Vk:∀d os,Calls Tryz.prog 22 #[.pointer (some ⟨zb,0,none⟩)] (grow (redrawn w5 d) os) fun e w'=>e=.returned (.slice none 0 0)/\∃p:Regrown,w'=grow (redrawn w5 p.d) p.os:=fun d os=>Calls.regrown_of ((Zf.out _ (some ⟨zb,0,none⟩) (dn (below_regrown w5 d os)) (.inr rfl)).mono fun e w' h=>⟨h.1,h.2.below (Nat.le_refl _) (fun _ z=>z.elim)⟩)
 have Vl:∀d os,Calls Tryz.prog 23 #[.pointer none,.int .i64 n] (grow (redrawn w5 d) os) fun e w'=>e=.returned (.bool false)/\∃p:Regrown,w'=grow (redrawn w5 p.d) p.os:=fun d os=>Calls.regrown_of ((Zg.out _ none (dn (below_regrown w5 d os)) (.inl rfl)).mono fun e w' h=>⟨h.1,h.2.below (Nat.le_refl _) (fun _ z=>z.elim)⟩)
 have Vm:∀d os,Calls Tryz.prog 23 #[.pointer (some ⟨zb,0,none⟩),.int .i64 n] (grow (redrawn w5 d) os) fun e w'=>e=.returned (.bool false)/\∃p:Regrown,w'=grow (redrawn w5 p.d) p.os:=fun d os=>Calls.regrown_of ((Zg.out _ (some ⟨zb,0,none⟩) (dn (below_regrown w5 d os)) (.inr rfl)).mono fun e w' h=>⟨h.1,h.2.below (Nat.le_refl _) (fun _ z=>z.elim)⟩)
 have Oj:∀d os,Calls Tryz.prog 24 #[.pointer none,.int .i64 n] (grow (redrawn w5 d) os) fun e w'=>e=.returned (.bool false)/\∃p:Regrown,w'=grow (redrawn w5 p.d) p.os:=fun d os=>Calls.regrown_of ((Vd.out _ none (dn (below_regrown w5 d os)) (.inl rfl)).mono fun e w' h=>⟨h.1,h.2.below (Nat.le_refl _) (fun _ z=>z.elim)⟩)
 have Ol:∀d os,Calls Tryz.prog 24 #[.pointer (some ⟨zb,0,none⟩),.int .i64 n] (grow (redrawn w5 d) os) fun e w'=>e=.returned (.bool false)/\∃p:Regrown,w'=grow (redrawn w5 p.d) p.os:=fun d os=>Calls.regrown_of ((Vd.out _ (some ⟨zb,0,none⟩) (dn (below_regrown w5 d os)) (.inr rfl)).mono fun e w' h=>⟨h.1,h.2.below (Nat.le_refl _) (fun _ z=>z.elim)⟩)
 have Hz:∀d os,Calls Tryz.prog 25 #[.pointer none] (grow (redrawn w5 d) os) fun e w'=>e=.returned (.int .u64 0)/\∃p:Regrown,w'=grow (redrawn w5 p.d) p.os:=fun d os=>Calls.regrown_of ((Lj.out _ none (dn (below_regrown w5 d os)) (.inl rfl)).mono fun e w' h=>⟨h.1,h.2.below (Nat.le_refl _) (fun _ z=>z.elim)⟩)
 have H7:∀d os,Calls Tryz.prog 25 #[.pointer (some ⟨zb,0,none⟩)] (grow (redrawn w5 d) os) fun e w'=>e=.returned (.int .u64 0)/\∃p:Regrown,w'=grow (redrawn w5 p.d) p.os:=fun d os=>Calls.regrown_of ((Lj.out _ (some ⟨zb,0,none⟩) (dn (below_regrown w5 d os)) (.inr rfl)).mono fun e w' h=>⟨h.1,h.2.below (Nat.le_refl _) (fun _ z=>z.elim)⟩)
 have Vo:∀d os,Calls Tryz.prog 26 #[.pointer none,.int .i64 n] (grow (redrawn w5 d) os) fun e w'=>e=.returned (.agg #[.int .i64 0,.int .i64 0,.int .i64 0,.int .i64 0])/\∃p:Regrown,w'=grow (redrawn w5 p.d) p.os:=fun d os=>Calls.regrown_of ((Zh.out _ none (dn (below_regrown w5 d os)) (.inl rfl)).mono fun e w' h=>⟨h.1,h.2.below (Nat.le_refl _) (fun _ z=>z.elim)⟩)
 have Vp:∀d os,Calls Tryz.prog 26 #[.pointer (some ⟨zb,0,none⟩),.int .i64 n] (grow (redrawn w5 d) os) fun e w'=>e=.returned (.agg #[.int .i64 0,.int .i64 0,.int .i64 0,.int .i64 0])/\∃p:Regrown,w'=grow (redrawn w5 p.d) p.os:=fun d os=>Calls.regrown_of ((Zh.out _ (some ⟨zb,0,none⟩) (dn (below_regrown w5 d os)) (.inr rfl)).mono fun e w' h=>⟨h.1,h.2.below (Nat.le_refl _) (fun _ z=>z.elim)⟩)
 have raw:∀d os,Calls Tryz.prog 9 #[] (grow (redrawn w5 d) os) fun e w'=>e=.returned (.bool true)/\∃p:Regrown,w'=grow (redrawn w5 p.d) p.os:=fun d os=>Calls.regrown_of ((HAW.out _).mono fun e w' h=>⟨h.1,h.2.below (Nat.le_refl _) (fun _ z=>z.elim)⟩)
 have fU:=ah Hw;have fV:=ah Hy;have jI:=ah Ve;have jJ:=ah Vf;have jK:=ah Vg;have jL:=ah Vh;have iR:=ah Oh;have iT:=ah Oi;have jM:=ah Vj;have jO:=ah Vk;have jP:=ah Vl;have jQ:=ah Vm;have iU:=ah Oj;have iV:=ah Ol;have fZ:=ah Hz;have gq:=ah H7;have jR:=ah Vo;have jS:=ah Vp;have qx:=ah raw
 clear Hw Hy Ve Vf Vg Vh Oh Oi Vj Vk Vl Vm Oj Ol Hz H7 Vo Vp raw
 go_wp2_with fail
 try dsimp only[List.append]
 refine wp_region_quiet_below (by kernel_rfl) ((congrArg (fun x=>Region.lexB .any x) (show _=U8 by kernel_rfl)).trans abS) ?_
 iterate 12 (first|go_big_quiet_step (first|with_reducible exact fU.out _ _|with_reducible exact fV.out _ _|with_reducible exact jI.out _ _|with_reducible exact jJ.out _ _|with_reducible exact jK.out _ _|with_reducible exact jL.out _ _|with_reducible exact iR.out _ _|with_reducible exact iT.out _ _|with_reducible exact jM.out _ _|with_reducible exact jO.out _ _|with_reducible exact jP.out _ _|with_reducible exact jQ.out _ _|with_reducible exact iU.out _ _|with_reducible exact iV.out _ _|with_reducible exact fZ.out _ _|with_reducible exact gq.out _ _|with_reducible exact jR.out _ _|with_reducible exact jS.out _ _|with_reducible exact qx.out _ _)|quiet_step (first|with_reducible exact fU.out _ _|with_reducible exact fV.out _ _|with_reducible exact jI.out _ _|with_reducible exact jJ.out _ _|with_reducible exact jK.out _ _|with_reducible exact jL.out _ _|with_reducible exact iR.out _ _|with_reducible exact iT.out _ _|with_reducible exact jM.out _ _|with_reducible exact jO.out _ _|with_reducible exact jP.out _ _|with_reducible exact jQ.out _ _|with_reducible exact iU.out _ _|with_reducible exact iV.out _ _|with_reducible exact fZ.out _ _|with_reducible exact gq.out _ _|with_reducible exact jR.out _ _|with_reducible exact jS.out _ _|with_reducible exact qx.out _ _))
 as_aux_lemma=>
  iterate 12 (first|go_big_quiet_step (first|with_reducible exact fU.out _ _|with_reducible exact fV.out _ _|with_reducible exact jI.out _ _|with_reducible exact jJ.out _ _|with_reducible exact jK.out _ _|with_reducible exact jL.out _ _|with_reducible exact iR.out _ _|with_reducible exact iT.out _ _|with_reducible exact jM.out _ _|with_reducible exact jO.out _ _|with_reducible exact jP.out _ _|with_reducible exact jQ.out _ _|with_reducible exact iU.out _ _|with_reducible exact iV.out _ _|with_reducible exact fZ.out _ _|with_reducible exact gq.out _ _|with_reducible exact jR.out _ _|with_reducible exact jS.out _ _|with_reducible exact qx.out _ _)|quiet_step (first|with_reducible exact fU.out _ _|with_reducible exact fV.out _ _|with_reducible exact jI.out _ _|with_reducible exact jJ.out _ _|with_reducible exact jK.out _ _|with_reducible exact jL.out _ _|with_reducible exact iR.out _ _|with_reducible exact iT.out _ _|with_reducible exact jM.out _ _|with_reducible exact jO.out _ _|with_reducible exact jP.out _ _|with_reducible exact jQ.out _ _|with_reducible exact iU.out _ _|with_reducible exact iV.out _ _|with_reducible exact fZ.out _ _|with_reducible exact gq.out _ _|with_reducible exact jR.out _ _|with_reducible exact jS.out _ _|with_reducible exact qx.out _ _))
  as_aux_lemma=>
   iterate 12 (first|go_big_quiet_step (first|with_reducible exact fU.out _ _|with_reducible exact fV.out _ _|with_reducible exact jI.out _ _|with_reducible exact jJ.out _ _|with_reducible exact jK.out _ _|with_reducible exact jL.out _ _|with_reducible exact iR.out _ _|with_reducible exact iT.out _ _|with_reducible exact jM.out _ _|with_reducible exact jO.out _ _|with_reducible exact jP.out _ _|with_reducible exact jQ.out _ _|with_reducible exact iU.out _ _|with_reducible exact iV.out _ _|with_reducible exact fZ.out _ _|with_reducible exact gq.out _ _|with_reducible exact jR.out _ _|with_reducible exact jS.out _ _|with_reducible exact qx.out _ _)|quiet_step (first|with_reducible exact fU.out _ _|with_reducible exact fV.out _ _|with_reducible exact jI.out _ _|with_reducible exact jJ.out _ _|with_reducible exact jK.out _ _|with_reducible exact jL.out _ _|with_reducible exact iR.out _ _|with_reducible exact iT.out _ _|with_reducible exact jM.out _ _|with_reducible exact jO.out _ _|with_reducible exact jP.out _ _|with_reducible exact jQ.out _ _|with_reducible exact iU.out _ _|with_reducible exact iV.out _ _|with_reducible exact fZ.out _ _|with_reducible exact gq.out _ _|with_reducible exact jR.out _ _|with_reducible exact jS.out _ _|with_reducible exact qx.out _ _))
   as_aux_lemma=>
    iterate 12 (first|go_big_quiet_step (first|with_reducible exact fU.out _ _|with_reducible exact fV.out _ _|with_reducible exact jI.out _ _|with_reducible exact jJ.out _ _|with_reducible exact jK.out _ _|with_reducible exact jL.out _ _|with_reducible exact iR.out _ _|with_reducible exact iT.out _ _|with_reducible exact jM.out _ _|with_reducible exact jO.out _ _|with_reducible exact jP.out _ _|with_reducible exact jQ.out _ _|with_reducible exact iU.out _ _|with_reducible exact iV.out _ _|with_reducible exact fZ.out _ _|with_reducible exact gq.out _ _|with_reducible exact jR.out _ _|with_reducible exact jS.out _ _|with_reducible exact qx.out _ _)|quiet_step (first|with_reducible exact fU.out _ _|with_reducible exact fV.out _ _|with_reducible exact jI.out _ _|with_reducible exact jJ.out _ _|with_reducible exact jK.out _ _|with_reducible exact jL.out _ _|with_reducible exact iR.out _ _|with_reducible exact iT.out _ _|with_reducible exact jM.out _ _|with_reducible exact jO.out _ _|with_reducible exact jP.out _ _|with_reducible exact jQ.out _ _|with_reducible exact iU.out _ _|with_reducible exact iV.out _ _|with_reducible exact fZ.out _ _|with_reducible exact gq.out _ _|with_reducible exact jR.out _ _|with_reducible exact jS.out _ _|with_reducible exact qx.out _ _))
    as_aux_lemma=>
     iterate 12 (first|go_big_quiet_step (first|with_reducible exact fU.out _ _|with_reducible exact fV.out _ _|with_reducible exact jI.out _ _|with_reducible exact jJ.out _ _|with_reducible exact jK.out _ _|with_reducible exact jL.out _ _|with_reducible exact iR.out _ _|with_reducible exact iT.out _ _|with_reducible exact jM.out _ _|with_reducible exact jO.out _ _|with_reducible exact jP.out _ _|with_reducible exact jQ.out _ _|with_reducible exact iU.out _ _|with_reducible exact iV.out _ _|with_reducible exact fZ.out _ _|with_reducible exact gq.out _ _|with_reducible exact jR.out _ _|with_reducible exact jS.out _ _|with_reducible exact qx.out _ _)|quiet_step (first|with_reducible exact fU.out _ _|with_reducible exact fV.out _ _|with_reducible exact jI.out _ _|with_reducible exact jJ.out _ _|with_reducible exact jK.out _ _|with_reducible exact jL.out _ _|with_reducible exact iR.out _ _|with_reducible exact iT.out _ _|with_reducible exact jM.out _ _|with_reducible exact jO.out _ _|with_reducible exact jP.out _ _|with_reducible exact jQ.out _ _|with_reducible exact iU.out _ _|with_reducible exact iV.out _ _|with_reducible exact fZ.out _ _|with_reducible exact gq.out _ _|with_reducible exact jR.out _ _|with_reducible exact jS.out _ _|with_reducible exact qx.out _ _))
     as_aux_lemma=>
      iterate 12 (first|go_big_quiet_step (first|with_reducible exact fU.out _ _|with_reducible exact fV.out _ _|with_reducible exact jI.out _ _|with_reducible exact jJ.out _ _|with_reducible exact jK.out _ _|with_reducible exact jL.out _ _|with_reducible exact iR.out _ _|with_reducible exact iT.out _ _|with_reducible exact jM.out _ _|with_reducible exact jO.out _ _|with_reducible exact jP.out _ _|with_reducible exact jQ.out _ _|with_reducible exact iU.out _ _|with_reducible exact iV.out _ _|with_reducible exact fZ.out _ _|with_reducible exact gq.out _ _|with_reducible exact jR.out _ _|with_reducible exact jS.out _ _|with_reducible exact qx.out _ _)|quiet_step (first|with_reducible exact fU.out _ _|with_reducible exact fV.out _ _|with_reducible exact jI.out _ _|with_reducible exact jJ.out _ _|with_reducible exact jK.out _ _|with_reducible exact jL.out _ _|with_reducible exact iR.out _ _|with_reducible exact iT.out _ _|with_reducible exact jM.out _ _|with_reducible exact jO.out _ _|with_reducible exact jP.out _ _|with_reducible exact jQ.out _ _|with_reducible exact iU.out _ _|with_reducible exact iV.out _ _|with_reducible exact fZ.out _ _|with_reducible exact gq.out _ _|with_reducible exact jR.out _ _|with_reducible exact jS.out _ _|with_reducible exact qx.out _ _))
      as_aux_lemma=>
       iterate 12 (first|go_big_quiet_step (first|with_reducible exact fU.out _ _|with_reducible exact fV.out _ _|with_reducible exact jI.out _ _|with_reducible exact jJ.out _ _|with_reducible exact jK.out _ _|with_reducible exact jL.out _ _|with_reducible exact iR.out _ _|with_reducible exact iT.out _ _|with_reducible exact jM.out _ _|with_reducible exact jO.out _ _|with_reducible exact jP.out _ _|with_reducible exact jQ.out _ _|with_reducible exact iU.out _ _|with_reducible exact iV.out _ _|with_reducible exact fZ.out _ _|with_reducible exact gq.out _ _|with_reducible exact jR.out _ _|with_reducible exact jS.out _ _|with_reducible exact qx.out _ _)|quiet_step (first|with_reducible exact fU.out _ _|with_reducible exact fV.out _ _|with_reducible exact jI.out _ _|with_reducible exact jJ.out _ _|with_reducible exact jK.out _ _|with_reducible exact jL.out _ _|with_reducible exact iR.out _ _|with_reducible exact iT.out _ _|with_reducible exact jM.out _ _|with_reducible exact jO.out _ _|with_reducible exact jP.out _ _|with_reducible exact jQ.out _ _|with_reducible exact iU.out _ _|with_reducible exact iV.out _ _|with_reducible exact fZ.out _ _|with_reducible exact gq.out _ _|with_reducible exact jR.out _ _|with_reducible exact jS.out _ _|with_reducible exact qx.out _ _))
       as_aux_lemma=>
        iterate 9 (first|go_big_quiet_step (first|with_reducible exact fU.out _ _|with_reducible exact fV.out _ _|with_reducible exact jI.out _ _|with_reducible exact jJ.out _ _|with_reducible exact jK.out _ _|with_reducible exact jL.out _ _|with_reducible exact iR.out _ _|with_reducible exact iT.out _ _|with_reducible exact jM.out _ _|with_reducible exact jO.out _ _|with_reducible exact jP.out _ _|with_reducible exact jQ.out _ _|with_reducible exact iU.out _ _|with_reducible exact iV.out _ _|with_reducible exact fZ.out _ _|with_reducible exact gq.out _ _|with_reducible exact jR.out _ _|with_reducible exact jS.out _ _|with_reducible exact qx.out _ _)|quiet_step (first|with_reducible exact fU.out _ _|with_reducible exact fV.out _ _|with_reducible exact jI.out _ _|with_reducible exact jJ.out _ _|with_reducible exact jK.out _ _|with_reducible exact jL.out _ _|with_reducible exact iR.out _ _|with_reducible exact iT.out _ _|with_reducible exact jM.out _ _|with_reducible exact jO.out _ _|with_reducible exact jP.out _ _|with_reducible exact jQ.out _ _|with_reducible exact iU.out _ _|with_reducible exact iV.out _ _|with_reducible exact fZ.out _ _|with_reducible exact gq.out _ _|with_reducible exact jR.out _ _|with_reducible exact jS.out _ _|with_reducible exact qx.out _ _))
        refine wpQuiet_nil ?_
        intro _ hw'
        obtain⟨⟨dq,osq⟩,hw''⟩:=hw'
        subst hw''
        have HE:=ah (qm.out _ (aW.out.then (cO.out.then (dn (below_regrown w5 dq osq)))))
        go_wp2
        go_ret
        exact⟨rfl,HE.out⟩
end dM
end Go.Proofs.YtolkgbafebehfaaGreat
