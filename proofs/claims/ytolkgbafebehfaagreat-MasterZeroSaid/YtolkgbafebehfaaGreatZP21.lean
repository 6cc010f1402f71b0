/- Part 22 of what the proof needs. -/
import Derived.Test.YtolkgbafebehfaaGreatZP20
set_option linter.unusedSimpArgs false
set_option linter.unusedVariables false
set_option maxHeartbeats 32000000
set_option maxRecDepth 100000
namespace Go.Proofs.YtolkgbafebehfaaGreat
open Go.RowKit
set_option maxRecDepth 100000
namespace Mst
open aP Vn Go.Sort
theorem MF(w:World)(b:Nat)(F:Nat->Prop)(s:bV)(x:aN)(hs:dS w b F s)(hok:nR s)(h:gU w x)(h0:aY x=0)(hk:x.k=7)(hc:fG s.pins x.n<0):
  Calls Tryz.prog 54 #[.pointer (some ⟨b,0,none⟩),eY x] w (bK w b F s x):=by
 have h00:aY x=0:=h0
 obtain⟨mA,mc,lA,lc,pA,pc,hF,hb,hm,hl,hp⟩:=hs
 have hck:=fun W (hW:Kept aj w W)=>dO W x (h.kept hW)
 have hnone:=fun W (hW:Kept aj w W)=>dN W b s mA mc lA lc pA pc true (hb.kept hW (fun z=>z))
 rw[h00]at hck
 obtain⟨W0,hW0⟩:∃W0,w.alloc (.cells (aH x).toArray 100)=W0:=⟨_,rfl⟩
 have hk0:Kept aj w W0:=by rw[<-hW0];(repeat'(first|(with_reducible first|exact ak|apply au|apply ay|apply aA|apply aB)|(right;simp;done)))
 have hn0:Has W0 w.heap.size 100 (aH x).toArray:=by rw[<-hW0];exact Has.new _ _ _
 have hE:bF s x=0:=by unfold bF;rw[if_neg (by simpa using h00),if_neg (by omega),if_neg (by omega),if_neg (by omega),if_neg (by omega),if_pos hk]
 have hS0:bG s x={s with pins:=freed s.pins x.n,top:=max s.top x.n}:=by unfold bG;rw[if_neg (by rw[hE];decide),if_neg (by omega),if_neg (by omega),if_neg (by omega),if_neg (by omega),if_pos hk]
 have hfin:∀w',Has w' b 171 (bZ {s with top:=max s.top x.n} mA mc lA lc pA pc true)->Kept (fun k=>k=b) w w'->bK w b F s x (.returned (.int .i64 0)) w':=by
  intro w' hb' hk'
  have hS:bG s x={s with top:=max s.top x.n}:=by rw[hS0,freed,if_pos hc]
  refine⟨F,by rw[hE],?_,iH.refl _ _,hk'.mono (fun k e=>(hF k).2 (.inl e))⟩
  rw[hS]
  exact dS.turned hF hb hm hl hp hb' rfl rfl rfl hk'
 have hcall:=fun W (hW:Kept aj w W)=>(Dw W pA pc s.pins x.n (Src.bC (aC hp hW (fun _ _ z=>z))) (by have:=hok.p;omega)).mono (fun e w' hp=>(show e=.returned (.tuple #[.slice none 0 0,.int .i64 7])/\Kept aj W w' by
  rcases hp with⟨h1,h2,h3⟩|⟨h1,h2⟩
  ·exact⟨h2,h3⟩
  ·omega))
 have bI:=ah hfin
 clear hfin hE h0 h00 h hm hl hp hF
 obtain⟨k,n,at2,ep,uq,uw,ms,fl,lA2,uy,lg,oA,oc,⟨gZ,eG,ops⟩,ts,⟨p1,p2,p3⟩,⟨s1,s2,s3,s4⟩⟩:=x
 simp only[aH]at hn0 hck hcall
 dsimp only at hk
 subst hk
 have lN:=ah hck;have iZ:=ah hnone;have aW:=ah hk0;have dw:=ah hn0;have HB:=ah hb
 have eX:=ah hcall
 have wZ:Hid (b≠w.heap.size):=ah (fun e=>Nat.lt_irrefl _ (e▸hb.lt))
 clear hck hnone hk0 hn0 hb hcall hc
 go_enter Tryz.func54,Tryz.ntmps54
 go_wp2_with fail
 clear hW0
 refine(iZ.out _ aW.out).mono ?_
 rintro e w2 ⟨rfl,hk⟩
 have dA:=ah (dw.out.kept hk (fun z=>z))
 have HK:=ah (aW.out.then hk)
 clear hk
 go_wp2_with (refine wpList_load_row rfl 100 (.tmp 3) rfl w.heap.size rfl 100 _ (0,0) _ dA.out Tryz.underlying100 rfl (by kernel_rfl) ?_)
 refine(lN.out _ HK.out).mono ?_
 rintro e w3 ⟨rfl,hk⟩
 have hn3:=dA.out.kept hk (fun z=>z)
 have q0:w3.cell? ⟨w.heap.size,0,none⟩=some (.int .i64 7):=hn3.cell 0
 have kY:=ah hn3
 have bf:=ah (HK.out.then hk);clear hk HK hn3
 have hce:∀W,Kept aj w3 W->W.cell? ⟨w.heap.size,1,none⟩=some (.int .i64 n)/\W.cell? ⟨b,5,none⟩=some (.slice pA s.pins.length pc)/\W.cell? ⟨b,6,none⟩=some (.int .i64 s.top):=fun W hW=>by
  have g1:=kY.out.kept hW (fun z=>z)
  have g2:=HB.out.kept (bf.out.then hW) (fun z=>z)
  exact⟨g1.cell 1,g2.cell 5,g2.cell 6⟩
 have iD:=ah hce;clear hce
 have HS:=ah (Kept.refl aj w3)
 obtain⟨z1,z5,z6⟩:=iD.out w3 (Kept.refl _ _)
 go_wp2_with fail
 go_region_held3 (fun W=>W.cell? ⟨w.heap.size,1,none⟩=some (.int .i64 n)/\W.cell? ⟨b,5,none⟩=some (.slice pA s.pins.length pc)/\W.cell? ⟨b,6,none⟩=some (.int .i64 s.top))
  (first|with_reducible exact iD.out _ HS.out|exact iD.out _ HS.out.drew|(simp[go_sem,z1,z5,z6];done))
  (first
   |(go_at_call 136;((with_reducible refine(eX.out _ ?_).mono ?_);exact bf.out.then (by(repeat'(first|(with_reducible first|exact ak|apply au|apply ay|apply aA|apply aB)|(exact HS.out)|(right;simp;done))));rintro e w5 ⟨rfl,hk0⟩;have hk:=Kept.then (F:=aj) (a:=w3) (by(repeat'(first|(with_reducible first|exact ak|apply au|apply ay|apply aA|apply aB)|(exact HS.out)|(right;simp;done)))) hk0;clear HS hk0;have HS:=ah hk;clear hk)))
 clear z1 z5 z6
 have hb5:=HB.out.kept (bf.out.then HS.out) (fun z=>z)
 have z6:w5.cell? ⟨b,6,none⟩=some (.int .i64 s.top):=hb5.cell 6
 have f6:=hb5.frozen 6
 have q1:w5.cell? ⟨w.heap.size,1,none⟩=some (.int .i64 n):=(iD.out _ HS.out).1
 have hmax:=fun W ts t=>Yn s.top n _ rfl W ts t
 have iy:=ah hb5;clear hb5
 go_wp2_with fail
 refine wp_region_still_tail 10 (by kernel_rfl) (by kernel_rfl) ?_
 simp only[List.take_succ_cons,List.take_zero,List.drop_succ_cons,List.drop_zero]
 change wpStill _ _ (World.drew w5) _ _ _
 repeat still_step
 refine wpStill_nil ?_
 change wpList _ _ _ _ _ (World.drew w5)
 go_wp2
 go_ret
 refine bI.out _ ?_ ?_
 ·((repeat (first|with_reducible exact iy.out|with_reducible apply Has.dB|with_reducible apply Has.past|with_reducible apply Has.drewN|with_reducible apply Has.drew|with_reducible apply Has.alloc))<;>first|omega|rfl)
 ·exact((Kept.up (bf.out.then HS.out)).drew).put (.inl rfl)
theorem MG(w:World)(b:Nat)(F:Nat->Prop)(s:bV)(x:aN)(hs:dS w b F s)(hok:nR s)(h:gU w x)(h0:aY x=0)(hk:x.k=7)(hc:0<=fG s.pins x.n):
  Calls Tryz.prog 54 #[.pointer (some ⟨b,0,none⟩),eY x] w (bK w b F s x):=by
 have h00:aY x=0:=h0
 obtain⟨mA,mc,lA,lc,pA,pc,hF,hb,hm,hl,hp⟩:=hs
 have hck:=fun W (hW:Kept aj w W)=>dO W x (h.kept hW)
 have hnone:=fun W (hW:Kept aj w W)=>dN W b s mA mc lA lc pA pc true (hb.kept hW (fun z=>z))
 rw[h00]at hck
 obtain⟨W0,hW0⟩:∃W0,w.alloc (.cells (aH x).toArray 100)=W0:=⟨_,rfl⟩
 have hk0:Kept aj w W0:=by rw[<-hW0];(repeat'(first|(with_reducible first|exact ak|apply au|apply ay|apply aA|apply aB)|(right;simp;done)))
 have hn0:Has W0 w.heap.size 100 (aH x).toArray:=by rw[<-hW0];exact Has.new _ _ _
 have hE:bF s x=0:=by unfold bF;rw[if_neg (by simpa using h00),if_neg (by omega),if_neg (by omega),if_neg (by omega),if_neg (by omega),if_pos hk]
 have hS0:bG s x={s with pins:=freed s.pins x.n,top:=max s.top x.n}:=by unfold bG;rw[if_neg (by rw[hE];decide),if_neg (by omega),if_neg (by omega),if_neg (by omega),if_neg (by omega),if_pos hk]
 have hfin:∀w3 w5 w' A c,Kept aj w w3->Kept aj w3 w5->Has w' b 171 (bZ {s with pins:=freed s.pins x.n,top:=max s.top x.n} mA mc lA lc A c true)->aF 79 3 w3.heap.size w5 A (freed s.pins x.n).length c (aK (freed s.pins x.n))->Kept (fun k=>k=b) w5 w'->bK w b F s x (.returned (.int .i64 0)) w':=by
  intro w3 w5 w' A c hk3 hk5 hb' hn hk'
  have h1:=own_ne hm hb (by decide)
  have h2:=own_ne hl hb (by decide)
  have hb5:=hb.kept (hk3.then hk5) (fun z=>z)
  have h3:=own_ne hn.1 hb5 (by decide)
  have iM:=(Kept.up (F:=fun k=>k=b) (hk3.then hk5)).then hk'
  have hsz:=hk3.size
  refine⟨fun k=>k=b\/RowOf (.slice mA s.ms.length mc) k\/RowOf (.slice lA s.lg.length lc) k\/RowOf (.slice A (freed s.pins x.n).length c) k,by rw[hE],?_,?_,iM.mono (fun k e=>(hF k).2 (.inl e))⟩
  ·rw[hS0]
   exact⟨mA,mc,lA,lc,A,c,fun k=>Iff.rfl,hb',aC hm iM (fun g hg e=>h1 (by rw[hg,e])),aC hl iM (fun g hg e=>h2 (by rw[hg,e])),aC hn.1 hk' (fun g hg e=>h3 (by rw[hg,e]))⟩
  ·rintro k (e|e|e|e)
   ·exact .inl ((hF k).2 (.inl e))
   ·exact .inl ((hF k).2 (.inr (.inl e)))
   ·exact .inl ((hF k).2 (.inr (.inr (.inl e))))
   ·exact .inr (Nat.le_trans hsz (hn.2 k e))
 have hcall:=fun W (hW:Kept aj w W)=>(Dw W pA pc s.pins x.n (Src.bC (aC hp hW (fun _ _ z=>z))) (by have:=hok.p;omega)).mono (fun e w' hp=>(show∃A c,e=.returned (.tuple #[.slice A (freed s.pins x.n).length c,.int .i64 0])/\aF 79 3 W.heap.size w' A (freed s.pins x.n).length c (aK (freed s.pins x.n))/\Kept aj W w' by
  rcases hp with⟨h1,h2,h3⟩|⟨h1,h2⟩
  ·omega
  ·exact h2))
 have bI:=ah hfin
 clear hfin hE h0 h00 h hm hl hp hF
 obtain⟨k,n,at2,ep,uq,uw,ms,fl,lA2,uy,lg,oA,oc,⟨gZ,eG,ops⟩,ts,⟨p1,p2,p3⟩,⟨s1,s2,s3,s4⟩⟩:=x
 simp only[aH]at hn0 hck hcall
 dsimp only at hk
 subst hk
 have lN:=ah hck;have iZ:=ah hnone;have aW:=ah hk0;have dw:=ah hn0;have HB:=ah hb
 have eX:=ah hcall
 have wZ:Hid (b≠w.heap.size):=ah (fun e=>Nat.lt_irrefl _ (e▸hb.lt))
 clear hck hnone hk0 hn0 hb hcall hc
 go_enter Tryz.func54,Tryz.ntmps54
 go_wp2_with fail
 clear hW0
 refine(iZ.out _ aW.out).mono ?_
 rintro e w2 ⟨rfl,hk⟩
 have dA:=ah (dw.out.kept hk (fun z=>z))
 have HK:=ah (aW.out.then hk)
 clear hk
 go_wp2_with (refine wpList_load_row rfl 100 (.tmp 3) rfl w.heap.size rfl 100 _ (0,0) _ dA.out Tryz.underlying100 rfl (by kernel_rfl) ?_)
 refine(lN.out _ HK.out).mono ?_
 rintro e w3 ⟨rfl,hk⟩
 have hn3:=dA.out.kept hk (fun z=>z)
 have q0:w3.cell? ⟨w.heap.size,0,none⟩=some (.int .i64 7):=hn3.cell 0
 have kY:=ah hn3
 have bf:=ah (HK.out.then hk);clear hk HK hn3
 have hce:∀W,Kept aj w3 W->W.cell? ⟨w.heap.size,1,none⟩=some (.int .i64 n)/\W.cell? ⟨b,5,none⟩=some (.slice pA s.pins.length pc)/\W.cell? ⟨b,6,none⟩=some (.int .i64 s.top):=fun W hW=>by
  have g1:=kY.out.kept hW (fun z=>z)
  have g2:=HB.out.kept (bf.out.then hW) (fun z=>z)
  exact⟨g1.cell 1,g2.cell 5,g2.cell 6⟩
 have iD:=ah hce;clear hce
 have HS:=ah (Kept.refl aj w3)
 obtain⟨z1,z5,z6⟩:=iD.out w3 (Kept.refl _ _)
 go_wp2_with fail
 go_region_held3 (fun W=>W.cell? ⟨w.heap.size,1,none⟩=some (.int .i64 n)/\W.cell? ⟨b,5,none⟩=some (.slice pA s.pins.length pc)/\W.cell? ⟨b,6,none⟩=some (.int .i64 s.top))
  (first|with_reducible exact iD.out _ HS.out|exact iD.out _ HS.out.drew|(simp[go_sem,z1,z5,z6];done))
  (first
   |(go_at_call 136;((with_reducible refine(eX.out _ ?_).mono ?_);exact bf.out.then (by(repeat'(first|(with_reducible first|exact ak|apply au|apply ay|apply aA|apply aB)|(exact HS.out)|(right;simp;done))));rintro e w5 ⟨A5,c5,rfl,jT,hk0⟩;have hk:=Kept.then (F:=aj) (a:=w3) (by(repeat'(first|(with_reducible first|exact ak|apply au|apply ay|apply aA|apply aB)|(exact HS.out)|(right;simp;done)))) hk0;have uf:=ah (And.intro jT HS.out.size);clear HS hk0 jT;have HS:=ah hk;clear hk)))
 clear z1 z5 z6
 have hb5:=HB.out.kept (bf.out.then HS.out) (fun z=>z)
 have z5:w5.cell? ⟨b,5,none⟩=some (.slice pA s.pins.length pc):=hb5.cell 5
 have f5:=hb5.frozen 5
 have iy:=ah hb5;clear hb5
 obtain⟨w6,hw6⟩:∃w6,w5.setCell ⟨b,5,none⟩ (.slice A5 (freed s.pins n).length c5)=w6:=⟨_,rfl⟩
 have hb6:=iy.out.put 5 (.slice A5 (freed s.pins n).length c5)
 have hk6:Kept (fun k=>k=b) w5 w6:=by rw[<-hw6];exact(Kept.refl (fun k=>k=b) w5).put (.inl rfl)
 rw[hw6]at hb6
 have z6:w6.cell? ⟨b,6,none⟩=some (.int .i64 s.top):=hb6.cell 6
 have f6:=hb6.frozen 6
 have q1:w6.cell? ⟨w.heap.size,1,none⟩=some (.int .i64 n):=((kY.out.kept HS.out (fun z=>z)).kept hk6 (fun e=>wZ.out e.symm)).cell 1
 have hmax:=fun W ts t=>Yn s.top n _ rfl W ts t
 have FY:=ah (And.intro hb6 hk6);clear hb6 hk6
 go_wp2_with fail
 clear hw6 z5 f5
 refine wp_region_still_tail 10 (by kernel_rfl) (by kernel_rfl) ?_
 simp only[List.take_succ_cons,List.take_zero,List.drop_succ_cons,List.drop_zero]
 change wpStill _ _ (World.drew w6) _ _ _
 repeat still_step
 refine wpStill_nil ?_
 change wpList _ _ _ _ _ (World.drew w6)
 go_wp2
 go_ret
 refine bI.out _ _ _ A5 c5 bf.out HS.out ?_ ?_ ?_
 ·((repeat (first|with_reducible exact FY.out.1|with_reducible apply Has.dB|with_reducible apply Has.past|with_reducible apply Has.drewN|with_reducible apply Has.drew|with_reducible apply Has.alloc))<;>first|omega|rfl)
 ·exact⟨uf.out.1.1,fun k hk=>Nat.le_trans uf.out.2 (uf.out.1.2 k hk)⟩
 ·exact(FY.out.2.drew).put (.inl rfl)
theorem RZ(w:World)(b:Nat)(F:Nat->Prop)(s:bV)(x:aN)(hs:dS w b F s)(hok:nR s)(h:gU w x):
  Calls Tryz.prog 54 #[.pointer (some ⟨b,0,none⟩),eY x] w (bK w b F s x):=by
 by_cases h0:aY x=0
 ·by_cases h1:x.k=1
  ·exact OY w b F s x hs hok h h0 h1
  by_cases h2:x.k=2
  ·exact O5 w b F s x hs hok h h0 h2
  by_cases h3:x.k=3
  ·exact O6 w b F s x hs hok h h0 h3
  by_cases h4:x.k=4
  ·exact O4 w b F s x hs hok h h0 h4
  by_cases h5:x.k=5
  ·exact OZ w b F s x hs hok h h0 h5
  by_cases h6:x.k=6
  ·exact O1 w b F s x hs hok h h0 h6
  by_cases h7:x.k=7
  ·by_cases hc:fG s.pins x.n<0
   ·exact MF w b F s x hs hok h h0 h7 hc
   ·exact MG w b F s x hs hok h h0 h7 (by omega)
  by_cases h8:x.k=8
  ·have hs8:saidE x.said=0:=by
    unfold aY at h0
    rw[if_neg h1,if_neg h2,if_neg (by omega),if_neg h6,if_pos h8]at h0
    exact h0
   have hcl:¬(x.said.cl<0\/3<=x.said.cl):=fun hh=>by unfold saidE at hs8;rw[if_pos hh]at hs8;omega
   by_cases c0:x.said.cl=0
   ·exact MB w b F s x hs hok h h0 h8 c0
   by_cases c1:x.said.cl=1
   ·exact MC w b F s x hs hok h h0 h8 c1
   exact ME w b F s x hs hok h h0 h8 (by omega)
  unfold aY at h0
  rw[if_neg h1,if_neg h2,if_neg (by omega),if_neg h6,if_neg h8]at h0
  omega
 ·exact RD w b F s x hs h h0
end Mst
end Go.Proofs.YtolkgbafebehfaaGreat
namespace Go.Proofs.YtolkgbafebehfaaGreat
open Go.RowKit Go.WideShapes Go.ChangeShapes
set_option maxRecDepth 100000
namespace Mst
open aP
def uF(l:List aN):List Value:=l.flatMap aH
structure Ei(w:World)(x:aN):Prop where
 m:Src w 2 x.mA x.ms.length (aS x.ms)
 mc:x.ms.length<=x.mc
 l:Src w 1 x.lA x.lg.length (ints x.lg)
 lc:x.lg.length<=x.lc
 o:Src w 3 x.oA x.b.ops.length (Ops.cells x.b.ops)
 oc:x.b.ops.length<=x.oc
 t:0<=x.at'/\0<=x.pin.at'/\0<=x.fl
theorem Ei.kept{w w':World}{x:aN}(h:Ei w x)(hk:Kept aj w w'):Ei w' x:=⟨h.m.kept hk (fun _ _ z=>z),h.mc,h.l.kept hk (fun _ _ z=>z),h.lc,h.o.kept hk (fun _ _ z=>z),h.oc,h.t⟩
theorem Ei.ok{w:World}{x:aN}(h:Ei w x)(h1:x.ms.length<=1000)(h2:x.lg.length<=1000):gU w x:=⟨h.m,h.mc,h1,h.l,h.lc,h2,h.o⟩
theorem O7{w:World}{A:Option Addr}{m:Nat}{l:List aN}(h:Src w 18 A m (uF l))(hm:0<m)(i:Nat)(x:aN)(hx:l[i]? =some x):
  ∃ad,A=some ad/\ad.block<w.heap.size/\∀j u,(aH x)[j]? =some u->w.cell? ((ad.add (i*18)).add j)=some u:=by
 obtain⟨ad,rfl,had,hcell⟩:=h.2 hm
 refine⟨ad,rfl,had,fun j u hu=> ?_⟩
 have hj:j<18:=(List.getElem?_eq_some_iff.1 hu).1
 rw[add_add]
 refine hcell _ _ ?_
 unfold uF
 rw[flat_get aH 18 (by decide) (fun _=>rfl),show(i*18+j)/18=i by omega,show(i*18+j)%18=j by omega,hx]
 exact hu
end Mst
section
variable{H:Type}{enc:TypeId×Value->H}{W:World}{v:Value}{d:DataW H}{ps:List MemPlace}{r:Reach}{b0:Nat}
end
end Go.Proofs.YtolkgbafebehfaaGreat
namespace Go.Proofs.YtolkgbafebehfaaGreat
open Go.RowKit
set_option maxRecDepth 100000
namespace Mst
open aP Vn Go.Sort
theorem MH(w:World)(b:Nat)(s:bV)(mA:Option Addr)(mc:Nat)(lA:Option Addr)(lc:Nat)(pA:Option Addr)(pc:Nat)(hb:Has w b 171 (bZ s mA mc lA lc pA pc true))(hm:Src w 2 mA s.ms.length (aS s.ms))(hml:s.ms.length<=1000):
  Calls Tryz.prog 48 #[.pointer (some ⟨b,0,none⟩)] w (qU w s.ep s.fl s.ms):=by
 have h:=fun W (hW:Kept aj w W)=>dN W b s mA mc lA lc pA pc true (hb.kept hW (fun z=>z))
 have hown:=fun W (hW:Kept aj w W)=>Fe W s.ep s.fl mA mc s.ms (hm.kept hW (fun _ _ z=>z)) (by omega)
 have hce:∀W,Kept aj w W->W.cell? ⟨b,0,none⟩=some (.int .i64 s.ep)/\W.cell? ⟨b,1,none⟩=some (.slice mA s.ms.length mc)/\W.cell? ⟨b,2,none⟩=some (.int .u64 s.fl):=fun W hW=>by
  have g:=hb.kept hW (fun z=>z)
  exact⟨g.cell 0,g.cell 1,g.cell 2⟩
 have wZ:=ah hb.lt
 have H:=ah h;have qP:=ah hown;have iD:=ah hce;clear h hb hown hm hce
 go_enter Tryz.func48,Tryz.ntmps48
 go_wp2_with fail
 refine(H.out _ (by(repeat'(first|(with_reducible first|exact ak|apply au|apply ay|apply aA|apply aB)|(right;simp;done))))).mono ?_
 rintro e w2 ⟨rfl,hk⟩
 have hb1:=(Has.new w 25 #[.int .i64 0,.slice none 0 0,.int .u64 0]).kept hk (fun z=>z)
 have hk2:=Kept.then (F:=aj) (a:=w) (by(repeat'(first|(with_reducible first|exact ak|apply au|apply ay|apply aA|apply aB)|(right;simp;done)))) hk
 obtain⟨q0,q1,q2⟩:=iD.out _ hk2
 have HB:=ah hb1;have HK:=ah hk2;have HZ:=ah hk.size;clear hk hk2 hb1
 go_wp2_with fail
 refine(qP.out _ HK.out).mono ?_
 rintro e w3 ⟨A1,c1,rfl,hn,hk⟩
 clear q0 q1 q2
 have hb1:=HB.out.kept hk (fun z=>z)
 have c0:=hb1.cell 0
 have f0:=hb1.frozen 0
 have c1':=hb1.cell 1
 have f1:=hb1.frozen 1
 have c2:=hb1.cell 2
 have f2:=hb1.frozen 2
 simp only[List.getElem?_toArray,List.getElem?_cons_zero,List.getElem?_cons_succ]at c0 c1' c2
 have HB1:=ah hb1;have HN:=ah hn;have bf:=ah (HK.out.then hk);clear hb1 hn hk
 go_wp2
 have hfin:=((HB1.out.put 0 (Value.int .i64 s.ep)).put 1 (Value.slice A1 s.ms.length c1)).put 2 (Value.int .u64 s.fl)
 refine bodyPost_ret (results_cell_row rfl _ _ w.heap.size 25 _ (0,0) _ rfl hfin Tryz.underlying25 rfl (by kernel_rfl)) rfl ?_
 have hk9:∀W (i:Nat) u,Kept aj w W->Kept aj w (W.setCell ⟨w.heap.size,i,none⟩ u):=fun W i u hW=>hW.put (.inr (Nat.le_refl _))
 have hz:=HZ.out
 simp only[size_alloc]at hz
 refine⟨A1,c1,rfl,⟨?_,fun g hg=>by have:=HN.out.2 g hg;omega⟩,hk9 _ _ _ (hk9 _ _ _ (hk9 _ _ _ (bf.out)))⟩
 refine aC (F:=fun k=>k=w.heap.size) HN.out.1 ((((Kept.refl (fun k=>k=w.heap.size) w3).put (.inl rfl)).put (.inl rfl)).put (.inl rfl)) (fun g hg hF=> ?_)
 have h1:=HN.out.2 g hg
 omega
def lq(s:bV)(i:Int):kJ:=if i<0\/3<=i then lF else toldOf s i
theorem MI(w:World)(i:Int)(b:Nat)(s:bV)(mA:Option Addr)(mc:Nat)(lA:Option Addr)(lc:Nat)(pA:Option Addr)(pc:Nat)(hb:Has w b 171 (bZ s mA mc lA lc pA pc true))(hi:i<0\/3<=i):
  Calls Tryz.prog 70 #[.pointer (some ⟨b,0,none⟩),.int .i64 i] w fun e w'=>e=.returned (rC lF)/\Kept aj w w':=by
 have h:=fun W (hW:Kept aj w W)=>dN W b s mA mc lA lc pA pc true (hb.kept hW (fun z=>z))
 have H:=ah h;clear h hb
 have hfin:∀(W:World),Has W w.heap.size 73 #[.int .i64 0,.int .i64 0,.int .i64 0,.int .i64 0]->Kept aj w W->∀W2,W2=(((W.setCell ⟨w.heap.size,0,none⟩ (.int .i64 0)).setCell ⟨w.heap.size,1,none⟩ (.int .i64 0)).setCell ⟨w.heap.size,2,none⟩ (.int .i64 0)).setCell ⟨w.heap.size,3,none⟩ (.int .i64 0)->Has W2 w.heap.size 73 #[.int .i64 0,.int .i64 0,.int .i64 0,.int .i64 0]/\Kept aj w W2:=by
  rintro W h1 h2 W2 rfl
  have hk9:∀W (i:Nat) u,Kept aj w W->Kept aj w (W.setCell ⟨w.heap.size,i,none⟩ u):=fun W i u hW=>hW.put (.inr (Nat.le_refl _))
  exact⟨(((h1.put 0 (Value.int .i64 0)).put 1 (Value.int .i64 0)).put 2 (Value.int .i64 0)).put 3 (Value.int .i64 0),hk9 _ _ _ (hk9 _ _ _ (hk9 _ _ _ (hk9 _ _ _ h2)))⟩
 have bI:=ah hfin;clear hfin
 by_cases h0:i<0
 ·go_enter Tryz.func70,Tryz.ntmps70
  go_wp2_with fail
  refine(H.out _ (by(repeat'(first|(with_reducible first|exact ak|apply au|apply ay|apply aA|apply aB)|(right;simp;done))))).mono ?_
  rintro e w2 ⟨rfl,hk⟩
  have hb1:=(Has.new w 73 #[.int .i64 0,.int .i64 0,.int .i64 0,.int .i64 0]).kept hk (fun z=>z)
  have hk2:=Kept.then (F:=aj) (a:=w) (by(repeat'(first|(with_reducible first|exact ak|apply au|apply ay|apply aA|apply aB)|(right;simp;done)))) hk
  have c0:=hb1.cell 0
  have f0:=hb1.frozen 0
  have c1:=hb1.cell 1
  have f1:=hb1.frozen 1
  have c2:=hb1.cell 2
  have f2:=hb1.frozen 2
  have c3:=hb1.cell 3
  have f3:=hb1.frozen 3
  simp only[List.getElem?_toArray,List.getElem?_cons_zero,List.getElem?_cons_succ]at c0 c1 c2 c3
  have HB:=ah hb1;have HK:=ah hk2;clear hk hk2 hb1
  go_wp2
  obtain⟨h1,h2⟩:=bI.out _ HB.out HK.out _ rfl
  exact bodyPost_ret (results_cell_row rfl _ _ w.heap.size 73 _ (0,0) _ rfl h1 Tryz.underlying73 rfl (by kernel_rfl)) rfl ⟨rfl,h2⟩
 ·have h3:3<=i:=by omega
  clear hi
  go_enter Tryz.func70,Tryz.ntmps70
  go_wp2_with fail
  refine(H.out _ (by(repeat'(first|(with_reducible first|exact ak|apply au|apply ay|apply aA|apply aB)|(right;simp;done))))).mono ?_
  rintro e w2 ⟨rfl,hk⟩
  have hb1:=(Has.new w 73 #[.int .i64 0,.int .i64 0,.int .i64 0,.int .i64 0]).kept hk (fun z=>z)
  have hk2:=Kept.then (F:=aj) (a:=w) (by(repeat'(first|(with_reducible first|exact ak|apply au|apply ay|apply aA|apply aB)|(right;simp;done)))) hk
  have c0:=hb1.cell 0
  have f0:=hb1.frozen 0
  have c1:=hb1.cell 1
  have f1:=hb1.frozen 1
  have c2:=hb1.cell 2
  have f2:=hb1.frozen 2
  have c3:=hb1.cell 3
  have f3:=hb1.frozen 3
  simp only[List.getElem?_toArray,List.getElem?_cons_zero,List.getElem?_cons_succ]at c0 c1 c2 c3
  have HB:=ah hb1;have HK:=ah hk2;clear hk hk2 hb1
  go_wp2
  obtain⟨h1,h2⟩:=bI.out _ HB.out HK.out _ rfl
  exact bodyPost_ret (results_cell_row rfl _ _ w.heap.size 73 _ (0,0) _ rfl h1 Tryz.underlying73 rfl (by kernel_rfl)) rfl ⟨rfl,h2⟩
theorem y9(w:World)(i:Nat)(a0 a1 a2 a3:Int)(b:Nat)(s:bV)(mA:Option Addr)(mc:Nat)(lA:Option Addr)(lc:Nat)(pA:Option Addr)(pc:Nat)(hb:Has w b 171 (bZ s mA mc lA lc pA pc true))(hi:i<3)
  (hat:(bZ s mA mc lA lc pA pc true)[7+i*4]? =some (.int .i64 a0)/\(bZ s mA mc lA lc pA pc true)[7+i*4+1]? =some (.int .i64 a1)/\(bZ s mA mc lA lc pA pc true)[7+i*4+2]? =some (.int .i64 a2)/\(bZ s mA mc lA lc pA pc true)[7+i*4+3]? =some (.int .i64 a3)):
  Calls Tryz.prog 70 #[.pointer (some ⟨b,0,none⟩),.int .i64 i] w fun e w'=>e=.returned (rC ⟨a0,a1,a2,a3⟩)/\Kept aj w w':=by
 have h:=fun W (hW:Kept aj w W)=>dN W b s mA mc lA lc pA pc true (hb.kept hW (fun z=>z))
 have hce:∀W,Kept aj w W->W.cell? ⟨b,7+i*4,none⟩=some (.int .i64 a0)/\W.cell? ⟨b,7+i*4+1,none⟩=some (.int .i64 a1)/\W.cell? ⟨b,7+i*4+2,none⟩=some (.int .i64 a2)/\W.cell? ⟨b,7+i*4+3,none⟩=some (.int .i64 a3):=fun W hW=>by
  have g:=hb.kept hW (fun z=>z)
  exact⟨(g.cell _).trans hat.1,(g.cell _).trans hat.2.1,(g.cell _).trans hat.2.2.1,(g.cell _).trans hat.2.2.2⟩
 have H:=ah h;have iD:=ah hce;clear h hb hat hce
 go_enter Tryz.func70,Tryz.ntmps70
 go_wp2_with fail
 refine(H.out _ (by(repeat'(first|(with_reducible first|exact ak|apply au|apply ay|apply aA|apply aB)|(right;simp;done))))).mono ?_
 rintro e w2 ⟨rfl,hk⟩
 have hb1:=(Has.new w 73 #[.int .i64 0,.int .i64 0,.int .i64 0,.int .i64 0]).kept hk (fun z=>z)
 have hk2:=Kept.then (F:=aj) (a:=w) (by(repeat'(first|(with_reducible first|exact ak|apply au|apply ay|apply aA|apply aB)|(right;simp;done)))) hk
 obtain⟨q0,q1,q2,q3⟩:=iD.out _ hk2
 have c0:=hb1.cell 0
 have f0:=hb1.frozen 0
 have c1:=hb1.cell 1
 have f1:=hb1.frozen 1
 have c2:=hb1.cell 2
 have f2:=hb1.frozen 2
 have c3:=hb1.cell 3
 have f3:=hb1.frozen 3
 simp only[List.getElem?_toArray,List.getElem?_cons_zero,List.getElem?_cons_succ]at c0 c1 c2 c3
 have HB:=ah hb1;have HK:=ah hk2;clear hk hk2 hb1
 go_wp2
 have hfin:=(((HB.out.put 0 (Value.int .i64 a0)).put 1 (Value.int .i64 a1)).put 2 (Value.int .i64 a2)).put 3 (Value.int .i64 a3)
 refine bodyPost_ret (results_cell_row rfl _ _ w.heap.size 73 _ (0,0) _ rfl hfin Tryz.underlying73 rfl (by kernel_rfl)) rfl ?_
 have hk9:∀W (i:Nat) u,Kept aj w W->Kept aj w (W.setCell ⟨w.heap.size,i,none⟩ u):=fun W i u hW=>hW.put (.inr (Nat.le_refl _))
 exact⟨rfl,hk9 _ _ _ (hk9 _ _ _ (hk9 _ _ _ (hk9 _ _ _ (HK.out))))⟩
section
variable{w:World}{b:Nat}{F:Nat->Prop}{s:bV}
theorem zf(h:dS w b F s):Calls Tryz.prog 69 #[.pointer (some ⟨b,0,none⟩)] w fun e w'=>e=.returned (.int .u64 s.hz)/\Kept aj w w':=by
 obtain⟨mA,mc,lA,lc,pA,pc,hF,hb,hm,hl,hp⟩:=h
 exact Fg w b s mA mc lA lc pA pc hb
theorem aaE(h:dS w b F s):Calls Tryz.prog 341 #[.pointer (some ⟨b,0,none⟩)] w fun e w'=>e=.returned (.int .i64 s.top)/\Kept aj w w':=by
 obtain⟨mA,mc,lA,lc,pA,pc,hF,hb,hm,hl,hp⟩:=h
 exact OO w b s mA mc lA lc pA pc hb
theorem Jm(h:dS w b F s)(hok:nR s):Calls Tryz.prog 49 #[.pointer (some ⟨b,0,none⟩)] w (Am w s.lg):=by
 obtain⟨mA,mc,lA,lc,pA,pc,hF,hb,hm,hl,hp⟩:=h
 exact Je w b s mA mc lA lc pA pc hb (Src.bC hl) (by have:=hok.l;omega)
theorem Fp(h:dS w b F s)(hok:nR s):Calls Tryz.prog 55 #[.pointer (some ⟨b,0,none⟩)] w (wC w s.pins):=by
 obtain⟨mA,mc,lA,lc,pA,pc,hF,hb,hm,hl,hp⟩:=h
 exact LZ w b s mA mc lA lc pA pc hb (Src.bC hp) (by have:=hok.p;omega)
theorem pV(h:dS w b F s)(hok:nR s):Calls Tryz.prog 48 #[.pointer (some ⟨b,0,none⟩)] w (qU w s.ep s.fl s.ms):=by
 obtain⟨mA,mc,lA,lc,pA,pc,hF,hb,hm,hl,hp⟩:=h
 exact MH w b s mA mc lA lc pA pc hb (Src.bC hm) hok.m
theorem Fq(h:dS w b F s)(i:Int):Calls Tryz.prog 70 #[.pointer (some ⟨b,0,none⟩),.int .i64 i] w fun e w'=>e=.returned (rC (lq s i))/\Kept aj w w':=by
 obtain⟨mA,mc,lA,lc,pA,pc,hF,hb,hm,hl,hp⟩:=h
 by_cases hi:i<0\/3<=i
 ·rw[lq,if_pos hi]
  exact MI w i b s mA mc lA lc pA pc hb hi
 ·rw[lq,if_neg hi]
  have h3:i=0\/i=1\/i=2:=by omega
  rcases h3 with rfl|rfl|rfl
  ·exact y9 w 0 _ _ _ _ b s mA mc lA lc pA pc hb (by decide) ⟨rfl,rfl,rfl,rfl⟩
  ·exact y9 w 1 _ _ _ _ b s mA mc lA lc pA pc hb (by decide) ⟨rfl,rfl,rfl,rfl⟩
  ·exact y9 w 2 _ _ _ _ b s mA mc lA lc pA pc hb (by decide) ⟨rfl,rfl,rfl,rfl⟩
end
theorem bP(w:World):Calls Tryz.prog 106 #[] w fun e w'=>e=.returned (.pointer (some ⟨w.heap.size,0,none⟩))/\dS w' w.heap.size (fun k=>k=w.heap.size) st0/\Kept aj w w':=by
 refine(new_any w).mono ?_
 rintro e w' ⟨rfl,h,hk⟩
 exact⟨rfl,⟨none,0,none,0,none,0,fun k=>by simp[RowOf,Value.ownBlock],h,⟨rfl,.inl ⟨rfl,rfl⟩⟩,⟨rfl,.inl ⟨rfl,rfl⟩⟩,⟨rfl,.inl ⟨rfl,rfl⟩⟩⟩,hk⟩
def nt(k n:Int)(pin:aZ)(b:Ops.Batch):aN:=⟨k,n,0,0,none,0,[],0,none,0,[],none,0,b,0,pin,lF⟩
theorem Ej(w:World)(k n:Int)(pin:aZ)(cl req:Int):gU w (nt k n pin ⟨cl,req,[]⟩):=⟨Src.nil _ _ _,Nat.le_refl _,Nat.zero_le _,Src.nil _ _ _,Nat.le_refl _,Nat.zero_le _,Src.nil _ _ _⟩
end Mst
end Go.Proofs.YtolkgbafebehfaaGreat
