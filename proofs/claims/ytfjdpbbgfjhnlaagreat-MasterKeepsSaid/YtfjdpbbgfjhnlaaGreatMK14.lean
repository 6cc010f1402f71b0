/- Part 15 of what the proof needs. -/
import Derived.Test.YtfjdpbbgfjhnlaaGreatMK13
set_option linter.unusedSimpArgs false
set_option linter.unusedVariables false
set_option maxHeartbeats 32000000
set_option maxRecDepth 100000
namespace Go.Proofs.YtfjdpbbgfjhnlaaGreat
open Go.RowKit
set_option maxRecDepth 100000
namespace Mst
open aO Vn Go.Sort
theorem QW(w:World)(b:Nat)(F:Nat->Prop)(s:bQ)(x:aG)(hs:eH w b F s)(hok:nZ s)(h:iI w x)(h0:aQ x=0)(hk:x.k=7)(hc:dJ s.pins x.n<0):
  Calls Tryz.prog 38 #[.pointer (some ⟨b,0,none⟩),fE x] w (bU w b F s x):=by
 have h00:aQ x=0:=h0
 obtain⟨mA,mc,lA,lc,pA,pc,hF,hb,hm,hl,hp⟩:=hs
 have hck:=fun W (hW:Kept aj w W)=>dZ W x (h.kept hW)
 have hnone:=fun W (hW:Kept aj w W)=>dR W b s mA mc lA lc pA pc true (hb.kept hW (fun z=>z))
 rw[h00]at hck
 obtain⟨W0,hW0⟩:∃W0,w.alloc (.cells (aJ x).toArray 83)=W0:=⟨_,rfl⟩
 have hk0:Kept aj w W0:=by rw[<-hW0];(repeat'(first|(with_reducible first|exact ak|apply au|apply ay|apply aA|apply aB)|(right;simp;done)))
 have hn0:Has W0 w.heap.size 83 (aJ x).toArray:=by rw[<-hW0];exact Has.new _ _ _
 have hE:bu s x=0:=by unfold bu;rw[if_neg (by simpa using h00),if_neg (by omega),if_neg (by omega),if_neg (by omega),if_neg (by omega),if_pos hk]
 have hS0:aZ s x={s with pins:=freed s.pins x.n,top:=max s.top x.n}:=by unfold aZ;rw[if_neg (by rw[hE];decide),if_neg (by omega),if_neg (by omega),if_neg (by omega),if_neg (by omega),if_pos hk]
 have hfin:∀w',Has w' b 124 (dG {s with top:=max s.top x.n} mA mc lA lc pA pc true)->Kept (fun k=>k=b) w w'->bU w b F s x (.returned (.int .i64 0)) w':=by
  intro w' hb' hk'
  have hS:aZ s x={s with top:=max s.top x.n}:=by rw[hS0,freed,if_pos hc]
  refine⟨F,by rw[hE],?_,ji.refl _ _,hk'.mono (fun k e=>(hF k).2 (.inl e))⟩
  rw[hS]
  exact eH.turned hF hb hm hl hp hb' rfl rfl rfl hk'
 have hcall:=fun W (hW:Kept aj w W)=>(GH W pA pc s.pins x.n (Src.bC (aC hp hW (fun _ _ z=>z))) (by have:=hok.p;omega)).mono (fun e w' hp=>(show e=.returned (.tuple #[.slice none 0 0,.int .i64 7])/\Kept aj W w' by
  rcases hp with⟨h1,h2,h3⟩|⟨h1,h2⟩
  ·exact⟨h2,h3⟩
  ·omega))
 have bP:=ah hfin
 clear hfin hE h0 h00 h hm hl hp hF
 obtain⟨k,n,at2,ep,wL,wM,ms,fl,lA2,wO,lg,oA,oc,⟨iY,fM,ops⟩,ts,⟨p1,p2,p3⟩,⟨s1,s2,s3,s4⟩⟩:=x
 simp only[aJ]at hn0 hck hcall
 dsimp only at hk
 subst hk
 have lX:=ah hck;have jl:=ah hnone;have bf:=ah hk0;have dO:=ah hn0;have HB:=ah hb
 have fO:=ah hcall
 have uY:Hid (b≠w.heap.size):=ah (fun e=>Nat.lt_irrefl _ (e▸hb.lt))
 clear hck hnone hk0 hn0 hb hcall hc
 go_enter Tryz.func38,Tryz.ntmps38
 go_wp2_with fail
 clear hW0
 refine(jl.out _ bf.out).mono ?_
 rintro e w2 ⟨rfl,hk⟩
 have dL:=ah (dO.out.kept hk (fun z=>z))
 have HK:=ah (bf.out.then hk)
 clear hk
 go_wp2_with (refine wpList_load_row rfl 83 (.tmp 3) rfl w.heap.size rfl 83 _ (0,0) _ dL.out Tryz.underlying83 rfl (by kernel_rfl) ?_)
 refine(lX.out _ HK.out).mono ?_
 rintro e w3 ⟨rfl,hk⟩
 have hn3:=dL.out.kept hk (fun z=>z)
 have q0:w3.cell? ⟨w.heap.size,0,none⟩=some (.int .i64 7):=hn3.cell 0
 have mF:=ah hn3
 have bn:=ah (HK.out.then hk);clear hk HK hn3
 have hce:∀W,Kept aj w3 W->W.cell? ⟨w.heap.size,1,none⟩=some (.int .i64 n)/\W.cell? ⟨b,5,none⟩=some (.slice pA s.pins.length pc)/\W.cell? ⟨b,6,none⟩=some (.int .i64 s.top):=fun W hW=>by
  have g1:=mF.out.kept hW (fun z=>z)
  have g2:=HB.out.kept (bn.out.then hW) (fun z=>z)
  exact⟨g1.cell 1,g2.cell 5,g2.cell 6⟩
 have jg:=ah hce;clear hce
 have HS:=ah (Kept.refl aj w3)
 obtain⟨z1,z5,z6⟩:=jg.out w3 (Kept.refl _ _)
 go_wp2_with fail
 go_region_held3 (fun W=>W.cell? ⟨w.heap.size,1,none⟩=some (.int .i64 n)/\W.cell? ⟨b,5,none⟩=some (.slice pA s.pins.length pc)/\W.cell? ⟨b,6,none⟩=some (.int .i64 s.top))
  (first|with_reducible exact jg.out _ HS.out|exact jg.out _ HS.out.drew|(simp[go_sem,z1,z5,z6];done))
  (first
   |(go_at_call 90;((with_reducible refine(fO.out _ ?_).mono ?_);exact bn.out.then (by(repeat'(first|(with_reducible first|exact ak|apply au|apply ay|apply aA|apply aB)|(exact HS.out)|(right;simp;done))));rintro e w5 ⟨rfl,hk0⟩;have hk:=Kept.then (F:=aj) (a:=w3) (by(repeat'(first|(with_reducible first|exact ak|apply au|apply ay|apply aA|apply aB)|(exact HS.out)|(right;simp;done)))) hk0;clear HS hk0;have HS:=ah hk;clear hk)))
 clear z1 z5 z6
 have hb5:=HB.out.kept (bn.out.then HS.out) (fun z=>z)
 have z6:w5.cell? ⟨b,6,none⟩=some (.int .i64 s.top):=hb5.cell 6
 have f6:=hb5.frozen 6
 have q1:w5.cell? ⟨w.heap.size,1,none⟩=some (.int .i64 n):=(jg.out _ HS.out).1
 have hmax:=fun W ts t=>acH s.top n _ rfl W ts t
 have jf:=ah hb5;clear hb5
 go_wp2_with fail
 refine wp_region_still_tail 10 (by kernel_rfl) (by kernel_rfl) ?_
 simp only[List.take_succ_cons,List.take_zero,List.drop_succ_cons,List.drop_zero]
 change wpStill _ _ (World.drew w5) _ _ _
 repeat still_step
 refine wpStill_nil ?_
 change wpList _ _ _ _ _ (World.drew w5)
 go_wp2
 go_ret
 refine bP.out _ ?_ ?_
 ·((repeat (first|with_reducible exact jf.out|with_reducible apply Has.dB|with_reducible apply Has.past|with_reducible apply Has.drewN|with_reducible apply Has.drew|with_reducible apply Has.alloc))<;>first|omega|rfl)
 ·exact((Kept.up (bn.out.then HS.out)).drew).put (.inl rfl)
theorem QX(w:World)(b:Nat)(F:Nat->Prop)(s:bQ)(x:aG)(hs:eH w b F s)(hok:nZ s)(h:iI w x)(h0:aQ x=0)(hk:x.k=7)(hc:0<=dJ s.pins x.n):
  Calls Tryz.prog 38 #[.pointer (some ⟨b,0,none⟩),fE x] w (bU w b F s x):=by
 have h00:aQ x=0:=h0
 obtain⟨mA,mc,lA,lc,pA,pc,hF,hb,hm,hl,hp⟩:=hs
 have hck:=fun W (hW:Kept aj w W)=>dZ W x (h.kept hW)
 have hnone:=fun W (hW:Kept aj w W)=>dR W b s mA mc lA lc pA pc true (hb.kept hW (fun z=>z))
 rw[h00]at hck
 obtain⟨W0,hW0⟩:∃W0,w.alloc (.cells (aJ x).toArray 83)=W0:=⟨_,rfl⟩
 have hk0:Kept aj w W0:=by rw[<-hW0];(repeat'(first|(with_reducible first|exact ak|apply au|apply ay|apply aA|apply aB)|(right;simp;done)))
 have hn0:Has W0 w.heap.size 83 (aJ x).toArray:=by rw[<-hW0];exact Has.new _ _ _
 have hE:bu s x=0:=by unfold bu;rw[if_neg (by simpa using h00),if_neg (by omega),if_neg (by omega),if_neg (by omega),if_neg (by omega),if_pos hk]
 have hS0:aZ s x={s with pins:=freed s.pins x.n,top:=max s.top x.n}:=by unfold aZ;rw[if_neg (by rw[hE];decide),if_neg (by omega),if_neg (by omega),if_neg (by omega),if_neg (by omega),if_pos hk]
 have hfin:∀w3 w5 w' A c,Kept aj w w3->Kept aj w3 w5->Has w' b 124 (dG {s with pins:=freed s.pins x.n,top:=max s.top x.n} mA mc lA lc A c true)->aF 53 3 w3.heap.size w5 A (freed s.pins x.n).length c (aS (freed s.pins x.n))->Kept (fun k=>k=b) w5 w'->bU w b F s x (.returned (.int .i64 0)) w':=by
  intro w3 w5 w' A c hk3 hk5 hb' hn hk'
  have h1:=own_ne hm hb (by decide)
  have h2:=own_ne hl hb (by decide)
  have hb5:=hb.kept (hk3.then hk5) (fun z=>z)
  have h3:=own_ne hn.1 hb5 (by decide)
  have iC:=(Kept.up (F:=fun k=>k=b) (hk3.then hk5)).then hk'
  have hsz:=hk3.size
  refine⟨fun k=>k=b\/RowOf (.slice mA s.ms.length mc) k\/RowOf (.slice lA s.lg.length lc) k\/RowOf (.slice A (freed s.pins x.n).length c) k,by rw[hE],?_,?_,iC.mono (fun k e=>(hF k).2 (.inl e))⟩
  ·rw[hS0]
   exact⟨mA,mc,lA,lc,A,c,fun k=>Iff.rfl,hb',aC hm iC (fun g hg e=>h1 (by rw[hg,e])),aC hl iC (fun g hg e=>h2 (by rw[hg,e])),aC hn.1 hk' (fun g hg e=>h3 (by rw[hg,e]))⟩
  ·rintro k (e|e|e|e)
   ·exact .inl ((hF k).2 (.inl e))
   ·exact .inl ((hF k).2 (.inr (.inl e)))
   ·exact .inl ((hF k).2 (.inr (.inr (.inl e))))
   ·exact .inr (Nat.le_trans hsz (hn.2 k e))
 have hcall:=fun W (hW:Kept aj w W)=>(GH W pA pc s.pins x.n (Src.bC (aC hp hW (fun _ _ z=>z))) (by have:=hok.p;omega)).mono (fun e w' hp=>(show∃A c,e=.returned (.tuple #[.slice A (freed s.pins x.n).length c,.int .i64 0])/\aF 53 3 W.heap.size w' A (freed s.pins x.n).length c (aS (freed s.pins x.n))/\Kept aj W w' by
  rcases hp with⟨h1,h2,h3⟩|⟨h1,h2⟩
  ·omega
  ·exact h2))
 have bP:=ah hfin
 clear hfin hE h0 h00 h hm hl hp hF
 obtain⟨k,n,at2,ep,wL,wM,ms,fl,lA2,wO,lg,oA,oc,⟨iY,fM,ops⟩,ts,⟨p1,p2,p3⟩,⟨s1,s2,s3,s4⟩⟩:=x
 simp only[aJ]at hn0 hck hcall
 dsimp only at hk
 subst hk
 have lX:=ah hck;have jl:=ah hnone;have bf:=ah hk0;have dO:=ah hn0;have HB:=ah hb
 have fO:=ah hcall
 have uY:Hid (b≠w.heap.size):=ah (fun e=>Nat.lt_irrefl _ (e▸hb.lt))
 clear hck hnone hk0 hn0 hb hcall hc
 go_enter Tryz.func38,Tryz.ntmps38
 go_wp2_with fail
 clear hW0
 refine(jl.out _ bf.out).mono ?_
 rintro e w2 ⟨rfl,hk⟩
 have dL:=ah (dO.out.kept hk (fun z=>z))
 have HK:=ah (bf.out.then hk)
 clear hk
 go_wp2_with (refine wpList_load_row rfl 83 (.tmp 3) rfl w.heap.size rfl 83 _ (0,0) _ dL.out Tryz.underlying83 rfl (by kernel_rfl) ?_)
 refine(lX.out _ HK.out).mono ?_
 rintro e w3 ⟨rfl,hk⟩
 have hn3:=dL.out.kept hk (fun z=>z)
 have q0:w3.cell? ⟨w.heap.size,0,none⟩=some (.int .i64 7):=hn3.cell 0
 have mF:=ah hn3
 have bn:=ah (HK.out.then hk);clear hk HK hn3
 have hce:∀W,Kept aj w3 W->W.cell? ⟨w.heap.size,1,none⟩=some (.int .i64 n)/\W.cell? ⟨b,5,none⟩=some (.slice pA s.pins.length pc)/\W.cell? ⟨b,6,none⟩=some (.int .i64 s.top):=fun W hW=>by
  have g1:=mF.out.kept hW (fun z=>z)
  have g2:=HB.out.kept (bn.out.then hW) (fun z=>z)
  exact⟨g1.cell 1,g2.cell 5,g2.cell 6⟩
 have jg:=ah hce;clear hce
 have HS:=ah (Kept.refl aj w3)
 obtain⟨z1,z5,z6⟩:=jg.out w3 (Kept.refl _ _)
 go_wp2_with fail
 go_region_held3 (fun W=>W.cell? ⟨w.heap.size,1,none⟩=some (.int .i64 n)/\W.cell? ⟨b,5,none⟩=some (.slice pA s.pins.length pc)/\W.cell? ⟨b,6,none⟩=some (.int .i64 s.top))
  (first|with_reducible exact jg.out _ HS.out|exact jg.out _ HS.out.drew|(simp[go_sem,z1,z5,z6];done))
  (first
   |(go_at_call 90;((with_reducible refine(fO.out _ ?_).mono ?_);exact bn.out.then (by(repeat'(first|(with_reducible first|exact ak|apply au|apply ay|apply aA|apply aB)|(exact HS.out)|(right;simp;done))));rintro e w5 ⟨A5,c5,rfl,jO,hk0⟩;have hk:=Kept.then (F:=aj) (a:=w3) (by(repeat'(first|(with_reducible first|exact ak|apply au|apply ay|apply aA|apply aB)|(exact HS.out)|(right;simp;done)))) hk0;have uo:=ah (And.intro jO HS.out.size);clear HS hk0 jO;have HS:=ah hk;clear hk)))
 clear z1 z5 z6
 have hb5:=HB.out.kept (bn.out.then HS.out) (fun z=>z)
 have z5:w5.cell? ⟨b,5,none⟩=some (.slice pA s.pins.length pc):=hb5.cell 5
 have f5:=hb5.frozen 5
 have jf:=ah hb5;clear hb5
 obtain⟨w6,hw6⟩:∃w6,w5.setCell ⟨b,5,none⟩ (.slice A5 (freed s.pins n).length c5)=w6:=⟨_,rfl⟩
 have hb6:=jf.out.put 5 (.slice A5 (freed s.pins n).length c5)
 have hk6:Kept (fun k=>k=b) w5 w6:=by rw[<-hw6];exact(Kept.refl (fun k=>k=b) w5).put (.inl rfl)
 rw[hw6]at hb6
 have z6:w6.cell? ⟨b,6,none⟩=some (.int .i64 s.top):=hb6.cell 6
 have f6:=hb6.frozen 6
 have q1:w6.cell? ⟨w.heap.size,1,none⟩=some (.int .i64 n):=((mF.out.kept HS.out (fun z=>z)).kept hk6 (fun e=>uY.out e.symm)).cell 1
 have hmax:=fun W ts t=>acH s.top n _ rfl W ts t
 have D7:=ah (And.intro hb6 hk6);clear hb6 hk6
 go_wp2_with fail
 clear hw6 z5 f5
 refine wp_region_still_tail 10 (by kernel_rfl) (by kernel_rfl) ?_
 simp only[List.take_succ_cons,List.take_zero,List.drop_succ_cons,List.drop_zero]
 change wpStill _ _ (World.drew w6) _ _ _
 repeat still_step
 refine wpStill_nil ?_
 change wpList _ _ _ _ _ (World.drew w6)
 go_wp2
 go_ret
 refine bP.out _ _ _ A5 c5 bn.out HS.out ?_ ?_ ?_
 ·((repeat (first|with_reducible exact D7.out.1|with_reducible apply Has.dB|with_reducible apply Has.past|with_reducible apply Has.drewN|with_reducible apply Has.drew|with_reducible apply Has.alloc))<;>first|omega|rfl)
 ·exact⟨uo.out.1.1,fun k hk=>Nat.le_trans uo.out.2 (uo.out.1.2 k hk)⟩
 ·exact(D7.out.2.drew).put (.inl rfl)
theorem KL(w:World)(b:Nat)(F:Nat->Prop)(s:bQ)(x:aG)(hs:eH w b F s)(hok:nZ s)(h:iI w x):
  Calls Tryz.prog 38 #[.pointer (some ⟨b,0,none⟩),fE x] w (bU w b F s x):=by
 by_cases h0:aQ x=0
 ·by_cases h1:x.k=1
  ·exact Un w b F s x hs hok h h0 h1
  by_cases h2:x.k=2
  ·exact Us w b F s x hs hok h h0 h2
  by_cases h3:x.k=3
  ·exact Ut w b F s x hs hok h h0 h3
  by_cases h4:x.k=4
  ·exact Ur w b F s x hs hok h h0 h4
  by_cases h5:x.k=5
  ·exact Uo w b F s x hs hok h h0 h5
  by_cases h6:x.k=6
  ·exact Up w b F s x hs hok h h0 h6
  by_cases h7:x.k=7
  ·by_cases hc:dJ s.pins x.n<0
   ·exact QW w b F s x hs hok h h0 h7 hc
   ·exact QX w b F s x hs hok h h0 h7 (by omega)
  by_cases h8:x.k=8
  ·have hs8:saidE x.said=0:=by
    unfold aQ at h0
    rw[if_neg h1,if_neg h2,if_neg (by omega),if_neg h6,if_pos h8]at h0
    exact h0
   have hcl:¬(x.said.cl<0\/3<=x.said.cl):=fun hh=>by unfold saidE at hs8;rw[if_pos hh]at hs8;omega
   by_cases c0:x.said.cl=0
   ·exact QT w b F s x hs hok h h0 h8 c0
   by_cases c1:x.said.cl=1
   ·exact QU w b F s x hs hok h h0 h8 c1
   exact QV w b F s x hs hok h h0 h8 (by omega)
  unfold aQ at h0
  rw[if_neg h1,if_neg h2,if_neg (by omega),if_neg h6,if_neg h8]at h0
  omega
 ·exact Xe w b F s x hs h h0
end Mst
end Go.Proofs.YtfjdpbbgfjhnlaaGreat
namespace Go.Proofs.YtfjdpbbgfjhnlaaGreat
open Go.RowKit Go.WideShapes Go.ChangeShapes
set_option maxRecDepth 100000
namespace Mst
open aO
def wQ(l:List aG):List Value:=l.flatMap aJ
structure Iq(w:World)(x:aG):Prop where
 m:Src w 2 x.mA x.ms.length (aP x.ms)
 mc:x.ms.length<=x.mc
 l:Src w 1 x.lA x.lg.length (ints x.lg)
 lc:x.lg.length<=x.lc
 o:Src w 3 x.oA x.b.ops.length (Ops.cells x.b.ops)
 oc:x.b.ops.length<=x.oc
 t:0<=x.at'/\0<=x.pin.at'/\0<=x.fl
theorem Iq.kept{w w':World}{x:aG}(h:Iq w x)(hk:Kept aj w w'):Iq w' x:=⟨h.m.kept hk (fun _ _ z=>z),h.mc,h.l.kept hk (fun _ _ z=>z),h.lc,h.o.kept hk (fun _ _ z=>z),h.oc,h.t⟩
theorem Iq.ok{w:World}{x:aG}(h:Iq w x)(h1:x.ms.length<=1000)(h2:x.lg.length<=1000):iI w x:=⟨h.m,h.mc,h1,h.l,h.lc,h2,h.o⟩
theorem Uu{w:World}{A:Option Addr}{m:Nat}{l:List aG}(h:Src w 18 A m (wQ l))(hm:0<m)(i:Nat)(x:aG)(hx:l[i]? =some x):
  ∃ad,A=some ad/\ad.block<w.heap.size/\∀j u,(aJ x)[j]? =some u->w.cell? ((ad.add (i*18)).add j)=some u:=by
 obtain⟨ad,rfl,had,hcell⟩:=h.2 hm
 refine⟨ad,rfl,had,fun j u hu=> ?_⟩
 have hj:j<18:=(List.getElem?_eq_some_iff.1 hu).1
 rw[add_add]
 refine hcell _ _ ?_
 unfold wQ
 rw[flat_get aJ 18 (by decide) (fun _=>rfl),show(i*18+j)/18=i by omega,show(i*18+j)%18=j by omega,hx]
 exact hu
end Mst
section
variable{H:Type}{enc:TypeId×Value->H}{W:World}{v:Value}{d:DataW H}{ps:List MemPlace}{r:Reach}{b0:Nat}
end
end Go.Proofs.YtfjdpbbgfjhnlaaGreat
namespace Go.Proofs.YtfjdpbbgfjhnlaaGreat
open Go.RowKit
set_option maxRecDepth 100000
namespace Mst
open aO Vn Go.Sort
theorem QY(w:World)(b:Nat)(s:bQ)(mA:Option Addr)(mc:Nat)(lA:Option Addr)(lc:Nat)(pA:Option Addr)(pc:Nat)(hb:Has w b 124 (dG s mA mc lA lc pA pc true))(hm:Src w 2 mA s.ms.length (aP s.ms))(hml:s.ms.length<=1000):
  Calls Tryz.prog 39 #[.pointer (some ⟨b,0,none⟩)] w (rG w s.ep s.fl s.ms):=by
 have h:=fun W (hW:Kept aj w W)=>dR W b s mA mc lA lc pA pc true (hb.kept hW (fun z=>z))
 have hown:=fun W (hW:Kept aj w W)=>JH W s.ep s.fl mA mc s.ms (hm.kept hW (fun _ _ z=>z)) (by omega)
 have hce:∀W,Kept aj w W->W.cell? ⟨b,0,none⟩=some (.int .i64 s.ep)/\W.cell? ⟨b,1,none⟩=some (.slice mA s.ms.length mc)/\W.cell? ⟨b,2,none⟩=some (.int .u64 s.fl):=fun W hW=>by
  have g:=hb.kept hW (fun z=>z)
  exact⟨g.cell 0,g.cell 1,g.cell 2⟩
 have uY:=ah hb.lt
 have H:=ah h;have ql:=ah hown;have jg:=ah hce;clear h hb hown hm hce
 go_enter Tryz.func39,Tryz.ntmps39
 go_wp2_with fail
 refine(H.out _ (by(repeat'(first|(with_reducible first|exact ak|apply au|apply ay|apply aA|apply aB)|(right;simp;done))))).mono ?_
 rintro e w2 ⟨rfl,hk⟩
 have hb1:=(Has.new w 25 #[.int .i64 0,.slice none 0 0,.int .u64 0]).kept hk (fun z=>z)
 have hk2:=Kept.then (F:=aj) (a:=w) (by(repeat'(first|(with_reducible first|exact ak|apply au|apply ay|apply aA|apply aB)|(right;simp;done)))) hk
 obtain⟨q0,q1,q2⟩:=jg.out _ hk2
 have HB:=ah hb1;have HK:=ah hk2;have HZ:=ah hk.size;clear hk hk2 hb1
 go_wp2_with fail
 refine(ql.out _ HK.out).mono ?_
 rintro e w3 ⟨A1,c1,rfl,hn,hk⟩
 clear q0 q1 q2
 have hb1:=HB.out.kept hk (fun z=>z)
 have c0:=hb1.cell 0
 have f0:=hb1.frozen 0
 have c1':=hb1.cell 1
 have f1:=hb1.frozen 1
 have c2:=hb1.cell 2
 have f2:=hb1.frozen 2
 simp only[List.getElem?_toArray,List.getElem?_cons_zero,List.getElem?_cons_succ]at c0 c1' c2
 have HB1:=ah hb1;have HN:=ah hn;have bn:=ah (HK.out.then hk);clear hb1 hn hk
 go_wp2
 have hfin:=((HB1.out.put 0 (Value.int .i64 s.ep)).put 1 (Value.slice A1 s.ms.length c1)).put 2 (Value.int .u64 s.fl)
 refine bodyPost_ret (results_cell_row rfl _ _ w.heap.size 25 _ (0,0) _ rfl hfin Tryz.underlying25 rfl (by kernel_rfl)) rfl ?_
 have hk9:∀W (i:Nat) u,Kept aj w W->Kept aj w (W.setCell ⟨w.heap.size,i,none⟩ u):=fun W i u hW=>hW.put (.inr (Nat.le_refl _))
 have hz:=HZ.out
 simp only[size_alloc]at hz
 refine⟨A1,c1,rfl,⟨?_,fun g hg=>by have:=HN.out.2 g hg;omega⟩,hk9 _ _ _ (hk9 _ _ _ (hk9 _ _ _ (bn.out)))⟩
 refine aC (F:=fun k=>k=w.heap.size) HN.out.1 ((((Kept.refl (fun k=>k=w.heap.size) w3).put (.inl rfl)).put (.inl rfl)).put (.inl rfl)) (fun g hg hF=> ?_)
 have h1:=HN.out.2 g hg
 omega
def jE(s:bQ)(i:Int):jK:=if i<0\/3<=i then jD else toldOf s i
theorem QZ(w:World)(i:Int)(b:Nat)(s:bQ)(mA:Option Addr)(mc:Nat)(lA:Option Addr)(lc:Nat)(pA:Option Addr)(pc:Nat)(hb:Has w b 124 (dG s mA mc lA lc pA pc true))(hi:i<0\/3<=i):
  Calls Tryz.prog 44 #[.pointer (some ⟨b,0,none⟩),.int .i64 i] w fun e w'=>e=.returned (pq jD)/\Kept aj w w':=by
 have h:=fun W (hW:Kept aj w W)=>dR W b s mA mc lA lc pA pc true (hb.kept hW (fun z=>z))
 have H:=ah h;clear h hb
 have hfin:∀(W:World),Has W w.heap.size 56 #[.int .i64 0,.int .i64 0,.int .i64 0,.int .i64 0]->Kept aj w W->∀W2,W2=(((W.setCell ⟨w.heap.size,0,none⟩ (.int .i64 0)).setCell ⟨w.heap.size,1,none⟩ (.int .i64 0)).setCell ⟨w.heap.size,2,none⟩ (.int .i64 0)).setCell ⟨w.heap.size,3,none⟩ (.int .i64 0)->Has W2 w.heap.size 56 #[.int .i64 0,.int .i64 0,.int .i64 0,.int .i64 0]/\Kept aj w W2:=by
  rintro W h1 h2 W2 rfl
  have hk9:∀W (i:Nat) u,Kept aj w W->Kept aj w (W.setCell ⟨w.heap.size,i,none⟩ u):=fun W i u hW=>hW.put (.inr (Nat.le_refl _))
  exact⟨(((h1.put 0 (Value.int .i64 0)).put 1 (Value.int .i64 0)).put 2 (Value.int .i64 0)).put 3 (Value.int .i64 0),hk9 _ _ _ (hk9 _ _ _ (hk9 _ _ _ (hk9 _ _ _ h2)))⟩
 have bP:=ah hfin;clear hfin
 by_cases h0:i<0
 ·go_enter Tryz.func44,Tryz.ntmps44
  go_wp2_with fail
  refine(H.out _ (by(repeat'(first|(with_reducible first|exact ak|apply au|apply ay|apply aA|apply aB)|(right;simp;done))))).mono ?_
  rintro e w2 ⟨rfl,hk⟩
  have hb1:=(Has.new w 56 #[.int .i64 0,.int .i64 0,.int .i64 0,.int .i64 0]).kept hk (fun z=>z)
  have hk2:=Kept.then (F:=aj) (a:=w) (by(repeat'(first|(with_reducible first|exact ak|apply au|apply ay|apply aA|apply aB)|(right;simp;done)))) hk
  have c0:=hb1.cell 0
  have f0:=hb1.frozen 0
  have c1:=hb1.cell 1
  have f1:=hb1.frozen 1
  have c2:=hb1.cell 2
  have f2:=hb1.frozen 2
  have c3:=hb1.cell 3
  have f3:=hb1.frozen 3
  simp only[List.getElem?_toArray,List.getElem?_cons_zero,List.getElem?_cons_succ]at c0 c1 c2 c3
  have HB:=ah hb1;have HK:=ah hk2;clear hk hk2 hb1
  go_wp2
  obtain⟨h1,h2⟩:=bP.out _ HB.out HK.out _ rfl
  exact bodyPost_ret (results_cell_row rfl _ _ w.heap.size 56 _ (0,0) _ rfl h1 Tryz.underlying56 rfl (by kernel_rfl)) rfl ⟨rfl,h2⟩
 ·have h3:3<=i:=by omega
  clear hi
  go_enter Tryz.func44,Tryz.ntmps44
  go_wp2_with fail
  refine(H.out _ (by(repeat'(first|(with_reducible first|exact ak|apply au|apply ay|apply aA|apply aB)|(right;simp;done))))).mono ?_
  rintro e w2 ⟨rfl,hk⟩
  have hb1:=(Has.new w 56 #[.int .i64 0,.int .i64 0,.int .i64 0,.int .i64 0]).kept hk (fun z=>z)
  have hk2:=Kept.then (F:=aj) (a:=w) (by(repeat'(first|(with_reducible first|exact ak|apply au|apply ay|apply aA|apply aB)|(right;simp;done)))) hk
  have c0:=hb1.cell 0
  have f0:=hb1.frozen 0
  have c1:=hb1.cell 1
  have f1:=hb1.frozen 1
  have c2:=hb1.cell 2
  have f2:=hb1.frozen 2
  have c3:=hb1.cell 3
  have f3:=hb1.frozen 3
  simp only[List.getElem?_toArray,List.getElem?_cons_zero,List.getElem?_cons_succ]at c0 c1 c2 c3
  have HB:=ah hb1;have HK:=ah hk2;clear hk hk2 hb1
  go_wp2
  obtain⟨h1,h2⟩:=bP.out _ HB.out HK.out _ rfl
  exact bodyPost_ret (results_cell_row rfl _ _ w.heap.size 56 _ (0,0) _ rfl h1 Tryz.underlying56 rfl (by kernel_rfl)) rfl ⟨rfl,h2⟩
theorem BV(w:World)(i:Nat)(a0 a1 a2 a3:Int)(b:Nat)(s:bQ)(mA:Option Addr)(mc:Nat)(lA:Option Addr)(lc:Nat)(pA:Option Addr)(pc:Nat)(hb:Has w b 124 (dG s mA mc lA lc pA pc true))(hi:i<3)
  (hat:(dG s mA mc lA lc pA pc true)[7+i*4]? =some (.int .i64 a0)/\(dG s mA mc lA lc pA pc true)[7+i*4+1]? =some (.int .i64 a1)/\(dG s mA mc lA lc pA pc true)[7+i*4+2]? =some (.int .i64 a2)/\(dG s mA mc lA lc pA pc true)[7+i*4+3]? =some (.int .i64 a3)):
  Calls Tryz.prog 44 #[.pointer (some ⟨b,0,none⟩),.int .i64 i] w fun e w'=>e=.returned (pq ⟨a0,a1,a2,a3⟩)/\Kept aj w w':=by
 have h:=fun W (hW:Kept aj w W)=>dR W b s mA mc lA lc pA pc true (hb.kept hW (fun z=>z))
 have hce:∀W,Kept aj w W->W.cell? ⟨b,7+i*4,none⟩=some (.int .i64 a0)/\W.cell? ⟨b,7+i*4+1,none⟩=some (.int .i64 a1)/\W.cell? ⟨b,7+i*4+2,none⟩=some (.int .i64 a2)/\W.cell? ⟨b,7+i*4+3,none⟩=some (.int .i64 a3):=fun W hW=>by
  have g:=hb.kept hW (fun z=>z)
  exact⟨(g.cell _).trans hat.1,(g.cell _).trans hat.2.1,(g.cell _).trans hat.2.2.1,(g.cell _).trans hat.2.2.2⟩
 have H:=ah h;have jg:=ah hce;clear h hb hat hce
 go_enter Tryz.func44,Tryz.ntmps44
 go_wp2_with fail
 refine(H.out _ (by(repeat'(first|(with_reducible first|exact ak|apply au|apply ay|apply aA|apply aB)|(right;simp;done))))).mono ?_
 rintro e w2 ⟨rfl,hk⟩
 have hb1:=(Has.new w 56 #[.int .i64 0,.int .i64 0,.int .i64 0,.int .i64 0]).kept hk (fun z=>z)
 have hk2:=Kept.then (F:=aj) (a:=w) (by(repeat'(first|(with_reducible first|exact ak|apply au|apply ay|apply aA|apply aB)|(right;simp;done)))) hk
 obtain⟨q0,q1,q2,q3⟩:=jg.out _ hk2
 have c0:=hb1.cell 0
 have f0:=hb1.frozen 0
 have c1:=hb1.cell 1
 have f1:=hb1.frozen 1
 have c2:=hb1.cell 2
 have f2:=hb1.frozen 2
 have c3:=hb1.cell 3
 have f3:=hb1.frozen 3
 simp only[List.getElem?_toArray,List.getElem?_cons_zero,List.getElem?_cons_succ]at c0 c1 c2 c3
 have HB:=ah hb1;have HK:=ah hk2;clear hk hk2 hb1
 go_wp2
 have hfin:=(((HB.out.put 0 (Value.int .i64 a0)).put 1 (Value.int .i64 a1)).put 2 (Value.int .i64 a2)).put 3 (Value.int .i64 a3)
 refine bodyPost_ret (results_cell_row rfl _ _ w.heap.size 56 _ (0,0) _ rfl hfin Tryz.underlying56 rfl (by kernel_rfl)) rfl ?_
 have hk9:∀W (i:Nat) u,Kept aj w W->Kept aj w (W.setCell ⟨w.heap.size,i,none⟩ u):=fun W i u hW=>hW.put (.inr (Nat.le_refl _))
 exact⟨rfl,hk9 _ _ _ (hk9 _ _ _ (hk9 _ _ _ (hk9 _ _ _ (HK.out))))⟩
section
variable{w:World}{b:Nat}{F:Nat->Prop}{s:bQ}
theorem uH(h:eH w b F s):Calls Tryz.prog 29 #[.pointer (some ⟨b,0,none⟩)] w fun e w'=>e=.returned (.int .u64 s.hz)/\Kept aj w w':=by
 obtain⟨mA,mc,lA,lc,pA,pc,hF,hb,hm,hl,hp⟩:=h
 exact JI w b s mA mc lA lc pA pc hb
theorem aez(h:eH w b F s):Calls Tryz.prog 233 #[.pointer (some ⟨b,0,none⟩)] w fun e w'=>e=.returned (.int .i64 s.top)/\Kept aj w w':=by
 obtain⟨mA,mc,lA,lc,pA,pc,hF,hb,hm,hl,hp⟩:=h
 exact Uf w b s mA mc lA lc pA pc hb
theorem BX(h:eH w b F s)(hok:nZ s):Calls Tryz.prog 45 #[.pointer (some ⟨b,0,none⟩)] w (yH w s.lg):=by
 obtain⟨mA,mc,lA,lc,pA,pc,hF,hb,hm,hl,hp⟩:=h
 exact N6 w b s mA mc lA lc pA pc hb (Src.bC hl) (by have:=hok.l;omega)
theorem Fg(h:eH w b F s)(hok:nZ s):Calls Tryz.prog 40 #[.pointer (some ⟨b,0,none⟩)] w (uF w s.pins):=by
 obtain⟨mA,mc,lA,lc,pA,pc,hF,hb,hm,hl,hp⟩:=h
 exact QL w b s mA mc lA lc pA pc hb (Src.bC hp) (by have:=hok.p;omega)
theorem pN(h:eH w b F s)(hok:nZ s):Calls Tryz.prog 39 #[.pointer (some ⟨b,0,none⟩)] w (rG w s.ep s.fl s.ms):=by
 obtain⟨mA,mc,lA,lc,pA,pc,hF,hb,hm,hl,hp⟩:=h
 exact QY w b s mA mc lA lc pA pc hb (Src.bC hm) hok.m
theorem AZ(h:eH w b F s)(i:Int):Calls Tryz.prog 44 #[.pointer (some ⟨b,0,none⟩),.int .i64 i] w fun e w'=>e=.returned (pq (jE s i))/\Kept aj w w':=by
 obtain⟨mA,mc,lA,lc,pA,pc,hF,hb,hm,hl,hp⟩:=h
 by_cases hi:i<0\/3<=i
 ·rw[jE,if_pos hi]
  exact QZ w i b s mA mc lA lc pA pc hb hi
 ·rw[jE,if_neg hi]
  have h3:i=0\/i=1\/i=2:=by omega
  rcases h3 with rfl|rfl|rfl
  ·exact BV w 0 _ _ _ _ b s mA mc lA lc pA pc hb (by decide) ⟨rfl,rfl,rfl,rfl⟩
  ·exact BV w 1 _ _ _ _ b s mA mc lA lc pA pc hb (by decide) ⟨rfl,rfl,rfl,rfl⟩
  ·exact BV w 2 _ _ _ _ b s mA mc lA lc pA pc hb (by decide) ⟨rfl,rfl,rfl,rfl⟩
end
theorem bT(w:World):Calls Tryz.prog 60 #[] w fun e w'=>e=.returned (.pointer (some ⟨w.heap.size,0,none⟩))/\eH w' w.heap.size (fun k=>k=w.heap.size) st0/\Kept aj w w':=by
 refine(new_any w).mono ?_
 rintro e w' ⟨rfl,h,hk⟩
 exact⟨rfl,⟨none,0,none,0,none,0,fun k=>by simp[RowOf,Value.ownBlock],h,⟨rfl,.inl ⟨rfl,rfl⟩⟩,⟨rfl,.inl ⟨rfl,rfl⟩⟩,⟨rfl,.inl ⟨rfl,rfl⟩⟩⟩,hk⟩
def nt(k n:Int)(pin:aY)(b:Ops.Batch):aG:=⟨k,n,0,0,none,0,[],0,none,0,[],none,0,b,0,pin,jD⟩
theorem Ir(w:World)(k n:Int)(pin:aY)(cl req:Int):iI w (nt k n pin ⟨cl,req,[]⟩):=⟨Src.nil _ _ _,Nat.le_refl _,Nat.zero_le _,Src.nil _ _ _,Nat.le_refl _,Nat.zero_le _,Src.nil _ _ _⟩
end Mst
namespace Fr
open Vn
def tab:List Nat:=[0,498536548,997073096,651767980,1994146192,1802195444,1303535960,1342533948,3988292384,4027552580,3604390888,3412177804,2607071920,2262029012,2685067896,3183342108]
def hN(x:Nat):Nat:=tab.getD (x&&&15) 0
theorem MQ(x:Nat):hN x<4294967296:=by
 unfold hN
 have h:x&&&15<16:=Nat.lt_of_le_of_lt Nat.and_le_right (by decide)
 generalize x&&&15=k at h
 have h2:∀k:Fin 16,tab.getD k.val 0<4294967296:=by decide
 exact h2 ⟨k,h⟩
theorem adp(k:Nat)(h:k<16):([Value.int .u32 0,.int .u32 498536548,.int .u32 997073096,.int .u32 651767980,.int .u32 1994146192,.int .u32 1802195444,.int .u32 1303535960,.int .u32 1342533948,.int .u32 3988292384,.int .u32 4027552580,.int .u32 3604390888,.int .u32 3412177804,.int .u32 2607071920,.int .u32 2262029012,.int .u32 2685067896,.int .u32 3183342108][k]'h)=.int .u32 ((tab.getD k 0:Nat):Int):=by
 have h2:∀k:Fin 16,([0,498536548,997073096,651767980,1994146192,1802195444,1303535960,1342533948,3988292384,4027552580,3604390888,3412177804,2607071920,2262029012,2685067896,3183342108]:List Int)[k.val]'k.isLt=((tab.getD k.val 0:Nat):Int):=by decide
 have h3:=h2 ⟨k,h⟩
 rw[<-h3]
 exact(List.getElem_map (Value.int .u32) (l:=[0,498536548,997073096,651767980,1994146192,1802195444,1303535960,1342533948,3988292384,4027552580,3604390888,3412177804,2607071920,2262029012,2685067896,3183342108]) (h:=h))
theorem Iu(w:World)(x:Nat)(hx:x<4294967296):Calls Tryz.prog 249 #[.int .u32 (x:Int)] w fun e w'=>e=.returned (.int .u32 (hN x:Nat))/\Kept aj w w':=by
 have hb:bits .and .u32 (x:Int) 15=((x&&&15:Nat):Int):=u32_and_nat x 15 hx (by decide)
 have hlt:x&&&15<16:=Nat.lt_of_le_of_lt Nat.and_le_right (by decide)
 have hr:hN x=tab.getD (x&&&15) 0:=rfl
 rw[hr]
 obtain⟨k,hk⟩:∃k,x&&&15=k:=⟨_,rfl⟩
 rw[hk]at hb hlt⊢
 have hlt':(k:Int)<16:=by omega
 have hg:=adp k hlt
 have HR:=ah hg
 clear hr hk hx hg
 go_enter Tryz.func249,Tryz.ntmps249
 go_wp2
 go_ret
 exact⟨by rw[<-HR.out];rfl,by(repeat'(first|(with_reducible first|exact ak|apply au|apply ay|apply aA|apply aB)|(right;simp;done)))⟩
def Oc(w b:Nat):Nat:=((w^^^b)/16^^^hN (w^^^b))/16^^^hN ((w^^^b)/16^^^hN (w^^^b))
theorem Ba{a b:Nat}(ha:a<4294967296)(hb:b<4294967296):a^^^b<4294967296:=Nat.xor_lt_two_pow (n:=32) ha hb
def runN(s:List UInt8):Nat:=s.foldl (fun w b=>Oc w b.toNat) 4294967295
theorem aeA{w b:Nat}(hw:w<4294967296)(hb:b<256):Oc w b<4294967296:=by
 unfold Oc
 have h1:w^^^b<4294967296:=Ba hw (by omega)
 have h2:(w^^^b)/16^^^hN (w^^^b)<4294967296:=Ba (by omega) (MQ _)
 exact Ba (by omega) (MQ _)
theorem JL(s:List UInt8):runN s<4294967296:=by
 have h:∀(l:List UInt8) (w:Nat),w<4294967296->l.foldl (fun w b=>Oc w b.toNat) w<4294967296:=by
  intro l
  induction l with
  |nil=>intro w h;exact h
  |cons b l ih=>intro w h;exact ih _ (aeA h (UInt8.toNat_lt b))
 exact h s _ (by decide)
theorem Xr(s:List UInt8)(b:UInt8):runN (s++[b])=Oc (runN s) b.toNat:=by simp[runN]
def tC(s:List UInt8):Nat:=4294967295^^^runN s
theorem Sz(s:List UInt8):tC s<4294967296:=Ba (by decide) (JL s)
theorem sum_any(w:World)(s:ByteArray)(hs:s.size<=1000000000000):Calls Tryz.prog 214 #[.string s] w fun e w'=>e=.returned (.int .u32 (tC s.data.toList:Nat))/\Kept aj w w':=by
 obtain⟨R,hR⟩:∃R,tC s.data.toList=R:=⟨_,rfl⟩
 rw[hR]
 have HR:=ah hR;clear hR
 go_enter Tryz.func214,Tryz.ntmps214
 go_wp2_with fail
 go_loopw [3,4,7] (fun v3 _ v7 wr=>∃i:Nat,i<=s.size/\v7=.int .i64 i/\v3=.int .u32 (runN (s.data.toList.take i):Nat)/\Kept aj w wr) (fun _ _ v7 _=>s.size-(RowKit.intOf v7).toNat)
 case atStart=>exact⟨0,Nat.zero_le _,rfl,rfl,Kept.refl _ _⟩
 case round=>
  obtain⟨i,hi,rfl,rfl,hk⟩:=hrel
  have HK:=ah hk;clear hk
  by_cases hil:i<s.size
  ·have hget:s.data.toList[i]? =some s[i]:=by
    rw[Array.getElem?_toList]
    exact Array.getElem?_eq_getElem (xs:=s.data) hil
   have hst:runN (s.data.toList.take (i+1))=Oc (runN (s.data.toList.take i)) (s[i]).toNat:=by
    rw[List.take_add_one,hget]
    exact Xr _ _
   have hlt:=JL (s.data.toList.take i)
   obtain⟨W,hW⟩:∃W,runN (s.data.toList.take i)=W:=⟨_,rfl⟩
   rw[hW]at hst hlt
   rw[hW]
   obtain⟨b,hb⟩:∃b,(s[i]).toNat=b:=⟨_,rfl⟩
   have hb256:b<256:=by rw[<-hb];exact UInt8.toNat_lt _
   rw[hb]at hst
   have hx1:bits .xor .u32 (W:Int) (b:Int)=((W^^^b:Nat):Int):=u32_xor_nat W b hlt (by omega)
   have hl1:W^^^b<4294967296:=Ba hlt (by omega)
   unfold Oc at hst
   obtain⟨X,hX⟩:∃X,W^^^b=X:=⟨_,rfl⟩
   rw[hX]at hst hx1 hl1
   have hh1:=fun W=>Iu W X hl1
   have hl2:=MQ X
   obtain⟨H,hH⟩:∃H,hN X=H:=⟨_,rfl⟩
   rw[hH]at hst hl2
   simp only[hH]at hh1
   have hx2:bits .xor .u32 ((X:Int)/16) (H:Int)=((X/16^^^H:Nat):Int):=by
    have h:=u32_xor_nat (X/16) H (by omega) hl2
    simpa using h
   have hl3:X/16^^^H<4294967296:=Ba (by omega) hl2
   obtain⟨Y,hY⟩:∃Y,X/16^^^H=Y:=⟨_,rfl⟩
   rw[hY]at hst hx2 hl3
   have hh2:=fun W=>Iu W Y hl3
   have hl4:=MQ Y
   obtain⟨G,hG⟩:∃G,hN Y=G:=⟨_,rfl⟩
   rw[hG]at hst hl4
   simp only[hG]at hh2
   have hx3:bits .xor .u32 ((Y:Int)/16) (G:Int)=((Y/16^^^G:Nat):Int):=by
    have h:=u32_xor_nat (Y/16) G (by omega) hl4
    simpa using h
   obtain⟨Z,hZ⟩:∃Z,Y/16^^^G=Z:=⟨_,rfl⟩
   rw[hZ]at hst hx3
   have HST:=ah hst;have HH1:=ah hh1;have Dn:=ah hh2
   clear hst hW hget hX hH hY hG hZ hh1 hh2 hl1 hl2 hl3 hl4 hlt
   go_wp2_with fail
   refine(HH1.out _).mono ?_
   rintro e w1 ⟨rfl,hk⟩
   have fF:=ah (HK.out.then hk);clear hk
   go_wp2_with fail
   refine(Dn.out _).mono ?_
   rintro e w2 ⟨rfl,hk⟩
   have aW:=ah (fF.out.then hk);clear hk
   go_wp2
   go_roundw
   case rel=>exact⟨i+1,by omega,by go_num,by rw[HST.out],aW.out⟩
   case measure=>simp[RowKit.intOf];omega
  ·obtain rfl:i=s.size:=by omega
   have htk:s.data.toList.take s.size=s.data.toList:=List.take_of_length_le (Nat.le_of_eq Array.length_toList)
   have hx1:bits .xor .u32 IntKind.u32.max ((runN s.data.toList:Nat):Int)=((tC s.data.toList:Nat):Int):=u32_xor_nat 4294967295 (runN s.data.toList) (by decide) (JL _)
   rw[htk]
   rw[HR.out]at hx1
   clear htk
   go_wp2
   go_ret
   exact⟨rfl,HK.out⟩
end Fr
namespace Fr
open Vn Ops
def mb(c i:Nat):Nat:=c/256^(3-i)%256
def qC(c:Nat):List UInt8:=[UInt8.ofNat (mb c 0),UInt8.ofNat (mb c 1),UInt8.ofNat (mb c 2),UInt8.ofNat (mb c 3)]
def aP(c i:Nat):Array Value:=#[.int .u8 (if 0<i then mb c 0 else 0:Nat),.int .u8 (if 1<i then mb c 1 else 0:Nat),.int .u8 (if 2<i then mb c 2 else 0:Nat),.int .u8 (if 3<i then mb c 3 else 0:Nat)]
theorem Oe(w:World)(c:Nat)(hc:c<4294967296):Calls Tryz.prog 213 #[.int .u32 (c:Int)] w fun e w'=>e=.returned (.string (bG (qC c)))/\Kept aj w w':=by
 go_enter Tryz.func213,Tryz.ntmps213
 go_wp2_with fail
 have hn0:=Has.new w 320 #[.int .u8 0,.int .u8 0,.int .u8 0,.int .u8 0]
 have HN:=ah hn0;clear hn0
 go_loopw [4,5] (fun _ v5 wr=>∃i:Nat,i<=4/\v5=.int .i64 i/\Has wr w.heap.size 320 (aP c i)/\Kept aj w wr) (fun _ v5 _=>4-(RowKit.intOf v5).toNat)
 case atStart=>exact⟨0,Nat.zero_le _,rfl,HN.out,by(repeat'(first|(with_reducible first|exact ak|apply au|apply ay|apply aA|apply aB)|(right;simp;done)))⟩
 case round=>
  obtain⟨i,hi,rfl,hh,hk⟩:=hrel
  have HK:=ah hk;have HH:=ah hh;clear hk hh
  by_cases hi4:i<4
  ·have agQ:i=0\/i=1\/i=2\/i=3:=by omega
   rcases agQ with rfl|rfl|rfl|rfl
   ·have h0:=HH.out.cell 0
    have f0:=HH.out.frozen 0
    simp only[aP,List.getElem?_toArray,List.getElem?_cons_zero]at h0
    have e0:(c:Int)/16777216=((mb c 0:Nat):Int):=by show _=((c/16777216%256:Nat):Int);omega
    go_wp2_with fail
    refine⟨⟨1,by omega,rfl,?_,HK.out.put (.inr (Nat.le_refl _))⟩,by simp[RowKit.intOf]⟩
    exact HH.out.dB rfl
   ·have h0:=HH.out.cell 1
    have f0:=HH.out.frozen 1
    simp only[aP,List.getElem?_toArray,List.getElem?_cons_zero,List.getElem?_cons_succ]at h0
    have e0:(c:Int)/65536%256=((mb c 1:Nat):Int):=by show _=((c/65536%256:Nat):Int);omega
    go_wp2_with fail
    refine⟨⟨2,by omega,rfl,?_,HK.out.put (.inr (Nat.le_refl _))⟩,by simp[RowKit.intOf]⟩
    exact HH.out.dB rfl
   ·have h0:=HH.out.cell 2
    have f0:=HH.out.frozen 2
    simp only[aP,List.getElem?_toArray,List.getElem?_cons_zero,List.getElem?_cons_succ]at h0
    have e0:(c:Int)/256%256=((mb c 2:Nat):Int):=by show _=((c/256%256:Nat):Int);omega
    go_wp2_with fail
    refine⟨⟨3,by omega,rfl,?_,HK.out.put (.inr (Nat.le_refl _))⟩,by simp[RowKit.intOf]⟩
    exact HH.out.dB rfl
   ·have h0:=HH.out.cell 3
    have f0:=HH.out.frozen 3
    simp only[aP,List.getElem?_toArray,List.getElem?_cons_zero,List.getElem?_cons_succ]at h0
    have e0:(c:Int)%256=((mb c 3:Nat):Int):=by show _=((c/1%256:Nat):Int);omega
    go_wp2_with fail
    refine⟨⟨4,by omega,rfl,?_,HK.out.put (.inr (Nat.le_refl _))⟩,by simp[RowKit.intOf]⟩
    exact HH.out.dB rfl
  ·obtain rfl:i=4:=by omega
   have hcv:=Ns wr w.heap.size (qC c) 4 (fun j x hx=>by
    have hj:j<4:=(List.getElem?_eq_some_iff.1 hx).1
    have hm:∀j,mb c j<256:=fun j=>Nat.mod_lt _ (by decide)
    have hx':x=UInt8.ofNat (mb c j):=by
     have:j=0\/j=1\/j=2\/j=3:=by omega
     rcases this with rfl|rfl|rfl|rfl<;>(simp[qC]at hx;exact hx.symm)
    have hxn:(x.toNat:Int)=((mb c j:Nat):Int):=by
     rw[hx']
     have:=hm j
     simp only[UInt8.toNat_ofNat']
     rw[Nat.mod_eq_of_lt (by simpa using this)]
    rw[HH.out.cell j,hxn]
    have:j=0\/j=1\/j=2\/j=3:=by omega
    rcases this with rfl|rfl|rfl|rfl<;>rfl)
   rw[show(qC c).length=4 from rfl]at hcv
   go_wp2_with fail
   go_ret
   exact⟨rfl,HK.out⟩
end Fr
namespace Fr
open Vn Ops
theorem lQ(l:List UInt8):(bG l).size=l.length:=by simp[bG,ByteArray.size]
def bI(s:List UInt8):List UInt8:=put s.length++qC (tC (put s.length++s))++s
theorem aaH(w:World)(s:ByteArray)(hs:s.size<=65536):Calls Tryz.prog 192 #[.string s] w fun e w'=>e=.returned (.tuple #[.string (bG (bI (bl s))),.int .i64 0])/\Kept aj w w':=by
 have hn:¬(65536:Int)<(s.size:Int):=by omega
 have hp:=fun W=>yj s.size (by omega) W
 have hl:(bl s).length=s.size:=bJ s
 obtain⟨p,hp2⟩:∃p,put s.size=p:=⟨_,rfl⟩
 have hpl:p.length<=9:=by rw[<-hp2];exact mD (by omega)
 have hpz:(bG p).size=p.length:=lQ p
 have hsum:=fun W=>sum_any W (bG p++s) (by rw[ByteArray.size_append];omega)
 have hd:(bG p++s).data.toList=p++bl s:=by simp[bG]
 rw[hd]at hsum
 have hfr:bI (bl s)=p++qC (tC (p++bl s))++bl s:=by unfold bI;rw[hl,hp2]
 have hmk:=fun W=>Oe W (tC (p++bl s)) (Sz _)
 obtain⟨S,hS⟩:∃S,tC (p++bl s)=S:=⟨_,rfl⟩
 simp only[hS]at hsum hmk hfr
 simp only[hp2]at hp
 have Uw:bG (p++qC S++bl s)=bG p++bG (qC S)++s:=by
  apply ByteArray.ext
  simp[bG]
 rw[hfr,Uw]
 have HP:=ah hp;have HS:=ah hsum;have HM:=ah hmk
 clear hp hsum hmk hS hfr Uw hd hl hp2
 have q1:¬9223372036854775807<(bG p).size+s.size:=by omega
 have q2:¬9223372036854775807<(bG p).size+(bG (qC S)).size:=by rw[lQ (qC S)];show¬_<_+4;omega
 have q3:¬9223372036854775807<(bG p++bG (qC S)).size+s.size:=by rw[ByteArray.size_append,lQ (qC S)];show¬_<_+4+_;omega
 clear hpz
 go_enter Tryz.func192,Tryz.ntmps192
 go_wp2_with fail
 refine(HP.out _).mono ?_
 rintro e w1 ⟨rfl,hk⟩
 have fF:=ah hk;clear hk
 go_wp2_with fail
 refine(HS.out _).mono ?_
 rintro e w2 ⟨rfl,hk⟩
 have aW:=ah (fF.out.then hk);clear hk
 go_wp2_with fail
 refine(HM.out _).mono ?_
 rintro e w3 ⟨rfl,hk⟩
 have bn:=ah (aW.out.then hk);clear hk
 go_wp2
 go_ret2
 exact⟨rfl,bn.out⟩
end Fr
end Go.Proofs.YtfjdpbbgfjhnlaaGreat
