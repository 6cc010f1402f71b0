/- Part 14 of what the proof needs. -/
import Derived.Test.YtfjdpbbgfjhnlaaGreatMK11
set_option linter.unusedSimpArgs false
set_option linter.unusedVariables false
set_option maxHeartbeats 32000000
set_option maxRecDepth 100000
namespace Go.Proofs.YtfjdpbbgfjhnlaaGreat
open Go.RowKit
set_option maxRecDepth 100000
namespace Mst
open aO Vn Go.Sort
theorem acH(a b M:Int)(h:max a b=M)(W:World)(ts:Array TypeId)(t:TypeId):(Builtin.max_ ts t #[.int .i64 a,.int .i64 b]).run Tryz.prog W=.ok (.int .i64 M) W:=by
 rw[run_max_int2]
 split
 ·rw[show M=b by omega]
 ·rw[show M=a by omega]
theorem Un(w:World)(b:Nat)(F:Nat->Prop)(s:bQ)(x:aG)(hs:eH w b F s)(hok:nZ s)(h:iI w x)(h0:aQ x=0)(hk:x.k=1):
  Calls Tryz.prog 38 #[.pointer (some ⟨b,0,none⟩),fE x] w (bU w b F s x):=by
 have h00:aQ x=0:=h0
 obtain⟨mA,mc,lA,lc,pA,pc,hF,hb,hm,hl,hp⟩:=hs
 have hck:=fun W (hW:Kept aj w W)=>dZ W x (h.kept hW)
 have hnone:=fun W (hW:Kept aj w W)=>dR W b s mA mc lA lc pA pc true (hb.kept hW (fun z=>z))
 rw[h00]at hck
 obtain⟨W0,hW0⟩:∃W0,w.alloc (.cells (aJ x).toArray 83)=W0:=⟨_,rfl⟩
 have hk0:Kept aj w W0:=by rw[<-hW0];(repeat'(first|(with_reducible first|exact ak|apply au|apply ay|apply aA|apply aB)|(right;simp;done)))
 have hn0:Has W0 w.heap.size 83 (aJ x).toArray:=by rw[<-hW0];exact Has.new _ _ _
 have hE:bu s x=lW s x:=by unfold bu;rw[if_neg (by simpa using h00),if_pos hk]
 have hfin:∀w3 w',Kept aj w w3->kD w3 b s x pA pc (.returned (.int .i64 (lW s x))) w'->bU w b F s x (.returned (.int .i64 (lW s x))) w':=by
  intro w3 w' hk3 hpost
  have hst:=(show eH w b F s from⟨mA,mc,lA,lc,pA,pc,hF,hb,hm,hl,hp⟩)
  rcases hpost with⟨h1,_,h2⟩|⟨h1,_,A,c,B,d,h2,h3,h4,h5⟩
  ·rw[<-hE]
   exact bU.bad hst (by rw[hE];exact h1) (hk3.then h2)
  ·have hS:aZ s x={s with ep:=x.ep,ms:=x.ms,fl:=x.fl,lg:=x.lg}:=by unfold aZ;rw[if_neg (by rw[hE,h1];simp),if_pos hk]
   have hbF:∀k,k=b->F k:=fun k e=>(hF k).2 (.inl e)
   have hpb:=own_ne hp hb (by decide)
   have hsz:=hk3.size
   refine⟨fun k=>k=b\/RowOf (.slice A x.ms.length c) k\/RowOf (.slice B x.lg.length d) k\/RowOf (.slice pA s.pins.length pc) k,by rw[hE],?_,?_,(Kept.up hk3).then (h5.mono hbF)⟩
   ·rw[hS]
    exact⟨A,c,B,d,pA,pc,fun k=>Iff.rfl,h2,h3.1,h4.1,aC hp ((Kept.up hk3).then h5) (fun g hg e=>hpb (by rw[hg,e]))⟩
   ·rintro k (e|e|e|e)
    ·exact .inl (hbF k e)
    ·exact .inr (Nat.le_trans hsz (h3.2 k e))
    ·exact .inr (Nat.le_trans hsz (h4.2 k e))
    ·exact .inl ((hF k).2 (.inr (.inr (.inr e))))
 have hcall:=fun W (hW:Kept aj w W)=>(next_any W b s mA mc lA lc pA pc x (hb.kept hW (fun z=>z)) (h.kept hW)).mono (fun e w' hp=>(show e=.returned (.int .i64 (lW s x))/\kD W b s x pA pc (.returned (.int .i64 (lW s x))) w' by
  rcases hp with⟨h1,h2,h3⟩|⟨h1,h2,h3⟩
  ·exact⟨h2,.inl ⟨h1,rfl,h3⟩⟩
  ·rw[h1];exact⟨h2,.inr ⟨h1,rfl,h3⟩⟩))
 obtain⟨Z,hZ⟩:∃Z,lW s x=Z:=⟨_,rfl⟩
 rw[hZ]at hfin hcall
 clear hZ
 have bP:=ah hfin
 clear hfin hE h0 h00 h hm hl hp hF
 obtain⟨k,n,at2,ep,wL,wM,ms,fl,lA2,wO,lg,oA,oc,⟨iY,fM,ops⟩,ts,⟨p1,p2,p3⟩,⟨s1,s2,s3,s4⟩⟩:=x
 simp only[aJ]at hn0 hck hcall
 dsimp only at hk
 subst hk
 have lX:=ah hck;have jl:=ah hnone;have bf:=ah hk0;have dO:=ah hn0;have HB:=ah hb
 have fO:=ah hcall
 clear hck hnone hk0 hn0 hb hcall
 go_enter Tryz.func38,Tryz.ntmps38
 go_wp2_with fail
 clear hW0
 refine(jl.out _ bf.out).mono ?_
 rintro e w2 ⟨rfl,hk⟩
 have dL:=ah (dO.out.kept hk (fun z=>z))
 have HK:=ah (bf.out.then hk)
 clear hk
 go_wp2_with (refine wpList_load_row rfl 83 (.tmp 3) rfl w.heap.size rfl 83 _ (0,0) _ dL.out Tryz.underlying83 rfl (by kernel_rfl) ?_)
 refine(lX.out _ HK.out).mono ?_
 rintro e w3 ⟨rfl,hk⟩
 have hn3:=dL.out.kept hk (fun z=>z)
 have q0:w3.cell? ⟨w.heap.size,0,none⟩=some (.int .i64 1):=hn3.cell 0
 have mF:=ah hn3
 have bn:=ah (HK.out.then hk);clear hk HK hn3
 go_wp2_with (refine wpList_load_row rfl 83 (.tmp 3) rfl w.heap.size rfl 83 _ (0,0) _ mF.out Tryz.underlying83 rfl (by kernel_rfl) ?_)
 refine(fO.out _ bn.out).mono ?_
 rintro e w4 ⟨rfl,hpost⟩
 have zy:=ah hpost;clear hpost
 go_wp2
 go_ret
 exact bP.out _ _ bn.out zy.out
theorem Uo(w:World)(b:Nat)(F:Nat->Prop)(s:bQ)(x:aG)(hs:eH w b F s)(hok:nZ s)(h:iI w x)(h0:aQ x=0)(hk:x.k=5):
  Calls Tryz.prog 38 #[.pointer (some ⟨b,0,none⟩),fE x] w (bU w b F s x):=by
 have h00:aQ x=0:=h0
 obtain⟨mA,mc,lA,lc,pA,pc,hF,hb,hm,hl,hp⟩:=hs
 have hck:=fun W (hW:Kept aj w W)=>dZ W x (h.kept hW)
 have hnone:=fun W (hW:Kept aj w W)=>dR W b s mA mc lA lc pA pc true (hb.kept hW (fun z=>z))
 rw[h00]at hck
 obtain⟨W0,hW0⟩:∃W0,w.alloc (.cells (aJ x).toArray 83)=W0:=⟨_,rfl⟩
 have hk0:Kept aj w W0:=by rw[<-hW0];(repeat'(first|(with_reducible first|exact ak|apply au|apply ay|apply aA|apply aB)|(right;simp;done)))
 have hn0:Has W0 w.heap.size 83 (aJ x).toArray:=by rw[<-hW0];exact Has.new _ _ _
 have hE:bu s x=if bY s.ms x.n=true then 0 else 7:=by unfold bu;rw[if_neg (by simpa using h00),if_neg (by omega),if_pos hk]
 have hfin:∀w3 w',Kept aj w w3->wP w3 b s mA mc lA lc pA pc x.n (.returned (.int .i64 (if bY s.ms x.n=true then 0 else 7))) w'->bU w b F s x (.returned (.int .i64 (if bY s.ms x.n=true then 0 else 7))) w':=by
  intro w3 w' hk3 hpost
  have hst:=(show eH w b F s from⟨mA,mc,lA,lc,pA,pc,hF,hb,hm,hl,hp⟩)
  rcases hpost with⟨h1,_,h2⟩|⟨h1,_,B,d,h2,h3,h4,h5⟩
  ·rw[<-hE]
   exact bU.bad hst (by rw[hE,h1];simp) (hk3.then h2)
  ·have hS:aZ s x={s with lg:=kE s.lg x.n}:=by unfold aZ;rw[if_neg (by rw[hE,h1];simp),if_neg (by omega),if_pos hk]
   have hmb:=own_ne hm hb (by decide)
   have hpb:=own_ne hp hb (by decide)
   have hsz:=hk3.size
   have hF2:∀k,(k=b\/RowOf (.slice lA s.lg.length lc) k)->F k:=fun k e=>(hF k).2 (by rcases e with e|e;exact .inl e;exact .inr (.inr (.inl e)))
   have hml:∀k,RowOf (.slice mA s.ms.length mc) k->¬RowOf (.slice lA s.lg.length lc) k:=fun k h1 h2=>by
    obtain⟨cs,h3⟩:=jC hm h1
    exact own_ne hl h3 (by decide) h2
   have hpl:∀k,RowOf (.slice pA s.pins.length pc) k->¬RowOf (.slice lA s.lg.length lc) k:=fun k h1 h2=>by
    obtain⟨cs,h3⟩:=jC hp h1
    exact own_ne hl h3 (by decide) h2
   have iC:=(Kept.up (F:=fun k=>k=b\/RowOf (.slice lA s.lg.length lc) k) hk3).then h5
   refine⟨fun k=>k=b\/RowOf (.slice mA s.ms.length mc) k\/RowOf (.slice B (kE s.lg x.n).length d) k\/RowOf (.slice pA s.pins.length pc) k,by rw[hE],?_,?_,iC.mono hF2⟩
   ·rw[hS]
    exact⟨mA,mc,B,d,pA,pc,fun k=>Iff.rfl,h2,aC hm iC (fun g hg e=>by rcases e with e|e;exact hmb (by rw[hg,e]);exact hml g hg e),h3,aC hp iC (fun g hg e=>by rcases e with e|e;exact hpb (by rw[hg,e]);exact hpl g hg e)⟩
   ·rintro k (e|e|e|e)
    ·exact .inl ((hF k).2 (.inl e))
    ·exact .inl ((hF k).2 (.inr (.inl e)))
    ·rcases h4 k e with h|h
     ·exact .inl ((hF k).2 (.inr (.inr (.inl h))))
     ·exact .inr (Nat.le_trans hsz h)
    ·exact .inl ((hF k).2 (.inr (.inr (.inr e))))
 have hcall:=fun W (hW:Kept aj w W)=>(Xc W b s mA mc lA lc pA pc x.n (hb.kept hW (fun z=>z)) (Src.bC (aC hm hW (fun _ _ z=>z))) hok.m (aC hl hW (fun _ _ z=>z)) hok.l).mono (fun e w' hp=>(show e=.returned (.int .i64 (if bY s.ms x.n=true then 0 else 7))/\wP W b s mA mc lA lc pA pc x.n (.returned (.int .i64 (if bY s.ms x.n=true then 0 else 7))) w' by
  rcases hp with⟨h1,h2,h3⟩|⟨h1,h2,h3⟩
  ·rw[h1,if_neg (by simp)];exact⟨h2,.inl ⟨h1,rfl,h3⟩⟩
  ·rw[h1,if_pos rfl];exact⟨h2,.inr ⟨h1,rfl,h3⟩⟩))
 obtain⟨Z,hZ⟩:∃Z:Int,(if bY s.ms x.n=true then 0 else 7)=Z:=⟨_,rfl⟩
 rw[hZ]at hfin hcall
 clear hZ
 have bP:=ah hfin
 clear hfin hE h0 h00 h hm hl hp hF
 obtain⟨k,n,at2,ep,wL,wM,ms,fl,lA2,wO,lg,oA,oc,⟨iY,fM,ops⟩,ts,⟨p1,p2,p3⟩,⟨s1,s2,s3,s4⟩⟩:=x
 simp only[aJ]at hn0 hck hcall
 dsimp only at hk
 subst hk
 have lX:=ah hck;have jl:=ah hnone;have bf:=ah hk0;have dO:=ah hn0;have HB:=ah hb
 have fO:=ah hcall
 clear hck hnone hk0 hn0 hb hcall
 go_enter Tryz.func38,Tryz.ntmps38
 go_wp2_with fail
 clear hW0
 refine(jl.out _ bf.out).mono ?_
 rintro e w2 ⟨rfl,hk⟩
 have dL:=ah (dO.out.kept hk (fun z=>z))
 have HK:=ah (bf.out.then hk)
 clear hk
 go_wp2_with (refine wpList_load_row rfl 83 (.tmp 3) rfl w.heap.size rfl 83 _ (0,0) _ dL.out Tryz.underlying83 rfl (by kernel_rfl) ?_)
 refine(lX.out _ HK.out).mono ?_
 rintro e w3 ⟨rfl,hk⟩
 have hn3:=dL.out.kept hk (fun z=>z)
 have q0:w3.cell? ⟨w.heap.size,0,none⟩=some (.int .i64 5):=hn3.cell 0
 have q1:w3.cell? ⟨w.heap.size,1,none⟩=some (.int .i64 n):=hn3.cell 1
 have mF:=ah hn3
 have bn:=ah (HK.out.then hk);clear hk HK hn3
 go_wp2_with fail
 refine(fO.out _ bn.out).mono ?_
 rintro e w4 ⟨rfl,hpost⟩
 have zy:=ah hpost;clear hpost
 go_wp2
 go_ret
 exact bP.out _ _ bn.out zy.out
theorem Up(w:World)(b:Nat)(F:Nat->Prop)(s:bQ)(x:aG)(hs:eH w b F s)(hok:nZ s)(h:iI w x)(h0:aQ x=0)(hk:x.k=6):
  Calls Tryz.prog 38 #[.pointer (some ⟨b,0,none⟩),fE x] w (bU w b F s x):=by
 have h00:aQ x=0:=h0
 obtain⟨mA,mc,lA,lc,pA,pc,hF,hb,hm,hl,hp⟩:=hs
 have hck:=fun W (hW:Kept aj w W)=>dZ W x (h.kept hW)
 have hnone:=fun W (hW:Kept aj w W)=>dR W b s mA mc lA lc pA pc true (hb.kept hW (fun z=>z))
 rw[h00]at hck
 obtain⟨W0,hW0⟩:∃W0,w.alloc (.cells (aJ x).toArray 83)=W0:=⟨_,rfl⟩
 have hk0:Kept aj w W0:=by rw[<-hW0];(repeat'(first|(with_reducible first|exact ak|apply au|apply ay|apply aA|apply aB)|(right;simp;done)))
 have hn0:Has W0 w.heap.size 83 (aJ x).toArray:=by rw[<-hW0];exact Has.new _ _ _
 have hE:bu s x=pJ s x.pin:=by unfold bu;rw[if_neg (by simpa using h00),if_neg (by omega),if_neg (by omega),if_neg (by omega),if_pos hk]
 have hfin:∀w3 w',Kept aj w w3->AX w3 b s mA mc lA lc pA pc x.pin (.returned (.int .i64 (pJ s x.pin))) w'->bU w b F s x (.returned (.int .i64 (pJ s x.pin))) w':=by
  intro w3 w' hk3 hpost
  have hst:=(show eH w b F s from⟨mA,mc,lA,lc,pA,pc,hF,hb,hm,hl,hp⟩)
  rcases hpost with⟨h1,_,h2⟩|⟨h1,_,B,d,h2,h3,h4,h5⟩
  ·rw[<-hE]
   exact bU.bad hst (by rw[hE];exact h1) (hk3.then h2)
  ·have hS:aZ s x=jW s x.pin:=by unfold aZ;rw[if_neg (by rw[hE,h1];simp),if_neg (by omega),if_neg (by omega),if_neg (by omega),if_pos hk]
   have hS1:(jW s x.pin).ms=s.ms:=by unfold jW;split<;>rfl
   have hS2:(jW s x.pin).lg=s.lg:=by unfold jW;split<;>rfl
   have hmb:=own_ne hm hb (by decide)
   have hlb:=own_ne hl hb (by decide)
   have hsz:=hk3.size
   have hF2:∀k,(k=b\/RowOf (.slice pA s.pins.length pc) k)->F k:=fun k e=>(hF k).2 (by rcases e with e|e;exact .inl e;exact .inr (.inr (.inr e)))
   have hmp:∀k,RowOf (.slice mA s.ms.length mc) k->¬RowOf (.slice pA s.pins.length pc) k:=fun k h1 h2=>by
    obtain⟨cs,h3⟩:=jC hm h1
    exact own_ne hp h3 (by decide) h2
   have hlp:∀k,RowOf (.slice lA s.lg.length lc) k->¬RowOf (.slice pA s.pins.length pc) k:=fun k h1 h2=>by
    obtain⟨cs,h3⟩:=jC hl h1
    exact own_ne hp h3 (by decide) h2
   have iC:=(Kept.up (F:=fun k=>k=b\/RowOf (.slice pA s.pins.length pc) k) hk3).then h5
   refine⟨fun k=>k=b\/RowOf (.slice mA s.ms.length mc) k\/RowOf (.slice lA s.lg.length lc) k\/RowOf (.slice B (jW s x.pin).pins.length d) k,by rw[hE],?_,?_,iC.mono hF2⟩
   ·rw[hS]
    refine⟨mA,mc,lA,lc,B,d,fun k=>by rw[hS1,hS2],h2,?_,?_,h3⟩
    ·rw[hS1]
     exact aC hm iC (fun g hg e=>by rcases e with e|e;exact hmb (by rw[hg,e]);exact hmp g hg e)
    ·rw[hS2]
     exact aC hl iC (fun g hg e=>by rcases e with e|e;exact hlb (by rw[hg,e]);exact hlp g hg e)
   ·rintro k (e|e|e|e)
    ·exact .inl ((hF k).2 (.inl e))
    ·exact .inl ((hF k).2 (.inr (.inl e)))
    ·exact .inl ((hF k).2 (.inr (.inr (.inl e))))
    ·rcases h4 k e with h|h
     ·exact .inl ((hF k).2 (.inr (.inr (.inr h))))
     ·exact .inr (Nat.le_trans hsz h)
 have hcall:=fun W (hW:Kept aj w W)=>(JK W b s mA mc lA lc pA pc x.pin (hb.kept hW (fun z=>z)) (aC hp hW (fun _ _ z=>z)) hok.p).mono (fun e w' hp=>(show e=.returned (.int .i64 (pJ s x.pin))/\AX W b s mA mc lA lc pA pc x.pin (.returned (.int .i64 (pJ s x.pin))) w' by
  rcases hp with⟨h1,h2,h3⟩|⟨h1,h2,h3⟩
  ·exact⟨h2,.inl ⟨h1,rfl,h3⟩⟩
  ·rw[h1];exact⟨h2,.inr ⟨h1,rfl,h3⟩⟩))
 obtain⟨Z,hZ⟩:∃Z,pJ s x.pin=Z:=⟨_,rfl⟩
 rw[hZ]at hfin hcall
 clear hZ
 have bP:=ah hfin
 clear hfin hE h0 h00 h hm hl hp hF
 obtain⟨k,n,at2,ep,wL,wM,ms,fl,lA2,wO,lg,oA,oc,⟨iY,fM,ops⟩,ts,⟨p1,p2,p3⟩,⟨s1,s2,s3,s4⟩⟩:=x
 simp only[aJ]at hn0 hck hcall
 dsimp only at hk
 subst hk
 have lX:=ah hck;have jl:=ah hnone;have bf:=ah hk0;have dO:=ah hn0;have HB:=ah hb
 have fO:=ah hcall
 clear hck hnone hk0 hn0 hb hcall
 go_enter Tryz.func38,Tryz.ntmps38
 go_wp2_with fail
 clear hW0
 refine(jl.out _ bf.out).mono ?_
 rintro e w2 ⟨rfl,hk⟩
 have dL:=ah (dO.out.kept hk (fun z=>z))
 have HK:=ah (bf.out.then hk)
 clear hk
 go_wp2_with (refine wpList_load_row rfl 83 (.tmp 3) rfl w.heap.size rfl 83 _ (0,0) _ dL.out Tryz.underlying83 rfl (by kernel_rfl) ?_)
 refine(lX.out _ HK.out).mono ?_
 rintro e w3 ⟨rfl,hk⟩
 have hn3:=dL.out.kept hk (fun z=>z)
 have q0:w3.cell? ⟨w.heap.size,0,none⟩=some (.int .i64 6):=hn3.cell 0
 have q11:w3.cell? ⟨w.heap.size,11,none⟩=some (.int .i64 p1):=hn3.cell 11
 have q12:w3.cell? ⟨w.heap.size,12,none⟩=some (.int .u64 p2):=hn3.cell 12
 have q13:w3.cell? ⟨w.heap.size,13,none⟩=some (.int .i64 p3):=hn3.cell 13
 have mF:=ah hn3
 have bn:=ah (HK.out.then hk);clear hk HK hn3
 go_wp2_with fail
 refine(fO.out _ bn.out).mono ?_
 rintro e w4 ⟨rfl,hpost⟩
 have zy:=ah hpost;clear hpost
 go_wp2
 go_ret
 exact bP.out _ _ bn.out zy.out
end Mst
namespace Mst
open aO Vn Go.Sort
theorem eH.turned{w w':World}{b:Nat}{F:Nat->Prop}{s s':bQ}{mA lA pA:Option Addr}{mc lc pc:Nat}(hF:∀k,F k↔(k=b\/RowOf (.slice mA s.ms.length mc) k\/RowOf (.slice lA s.lg.length lc) k\/RowOf (.slice pA s.pins.length pc) k))
  (hb:Has w b 124 (dG s mA mc lA lc pA pc true)) (hm:w.ownsRow 0 65 2 (.slice mA s.ms.length mc) s.ms.length (aP s.ms)) (hl:w.ownsRow 0 3 1 (.slice lA s.lg.length lc) s.lg.length (ints s.lg)) (hp:w.ownsRow 0 53 3 (.slice pA s.pins.length pc) s.pins.length (aS s.pins))
  (hb':Has w' b 124 (dG s' mA mc lA lc pA pc true)) (e1:s'.ms=s.ms) (e2:s'.lg=s.lg) (e3:s'.pins=s.pins) (hk:Kept (fun k=>k=b) w w'):eH w' b F s':=by
 have h1:=own_ne hm hb (by decide)
 have h2:=own_ne hl hb (by decide)
 have h3:=own_ne hp hb (by decide)
 refine⟨mA,mc,lA,lc,pA,pc,by rw[e1,e2,e3];exact hF,hb',?_,?_,?_⟩
 ·rw[e1];exact aC hm hk (fun g hg e=>h1 (by rw[hg,e]))
 ·rw[e2];exact aC hl hk (fun g hg e=>h2 (by rw[hg,e]))
 ·rw[e3];exact aC hp hk (fun g hg e=>h3 (by rw[hg,e]))
theorem Ur(w:World)(b:Nat)(F:Nat->Prop)(s:bQ)(x:aG)(hs:eH w b F s)(hok:nZ s)(h:iI w x)(h0:aQ x=0)(hk:x.k=4):
  Calls Tryz.prog 38 #[.pointer (some ⟨b,0,none⟩),fE x] w (bU w b F s x):=by
 have h00:aQ x=0:=h0
 obtain⟨mA,mc,lA,lc,pA,pc,hF,hb,hm,hl,hp⟩:=hs
 have hck:=fun W (hW:Kept aj w W)=>dZ W x (h.kept hW)
 have hnone:=fun W (hW:Kept aj w W)=>dR W b s mA mc lA lc pA pc true (hb.kept hW (fun z=>z))
 rw[h00]at hck
 obtain⟨W0,hW0⟩:∃W0,w.alloc (.cells (aJ x).toArray 83)=W0:=⟨_,rfl⟩
 have hk0:Kept aj w W0:=by rw[<-hW0];(repeat'(first|(with_reducible first|exact ak|apply au|apply ay|apply aA|apply aB)|(right;simp;done)))
 have hn0:Has W0 w.heap.size 83 (aJ x).toArray:=by rw[<-hW0];exact Has.new _ _ _
 have hE:bu s x=if x.at'<s.hz then 18 else 0:=by unfold bu;rw[if_neg (by simpa using h00),if_neg (by omega),if_neg (by omega),if_pos hk]
 have hfin:(x.at'<s.hz->∀w',Kept aj w w'->bU w b F s x (.returned (.int .i64 18)) w')/\(¬x.at'<s.hz->∀w',Has w' b 124 (dG {s with hz:=x.at'} mA mc lA lc pA pc true)->Kept (fun k=>k=b) w w'->bU w b F s x (.returned (.int .i64 0)) w'):=by
  refine⟨fun h1 w' hk'=> ?_,fun h1 w' hb' hk'=> ?_⟩
  ·have hst:=(show eH w b F s from⟨mA,mc,lA,lc,pA,pc,hF,hb,hm,hl,hp⟩)
   rw[if_pos h1]at hE
   have:=bU.bad hst (by rw[hE];decide) hk'
   rw[hE]at this
   exact this
  ·rw[if_neg h1]at hE
   have hS:aZ s x={s with hz:=x.at'}:=by unfold aZ;rw[if_neg (by rw[hE];decide),if_neg (by omega),if_neg (by omega),if_pos hk]
   refine⟨F,by rw[hE],?_,ji.refl _ _,hk'.mono (fun k e=>(hF k).2 (.inl e))⟩
   rw[hS]
   exact eH.turned hF hb hm hl hp hb' rfl rfl rfl hk'
 have bP:=ah hfin
 clear hfin hE h0 h00 h hm hl hp hF
 obtain⟨k,n,at2,ep,wL,wM,ms,fl,lA2,wO,lg,oA,oc,⟨iY,fM,ops⟩,ts,⟨p1,p2,p3⟩,⟨s1,s2,s3,s4⟩⟩:=x
 simp only[aJ]at hn0 hck
 dsimp only at hk
 subst hk
 have lX:=ah hck;have jl:=ah hnone;have bf:=ah hk0;have dO:=ah hn0;have HB:=ah hb
 clear hck hnone hk0 hn0 hb
 go_enter Tryz.func38,Tryz.ntmps38
 go_wp2_with fail
 clear hW0
 refine(jl.out _ bf.out).mono ?_
 rintro e w2 ⟨rfl,hk⟩
 have dL:=ah (dO.out.kept hk (fun z=>z))
 have HK:=ah (bf.out.then hk)
 clear hk
 go_wp2_with (refine wpList_load_row rfl 83 (.tmp 3) rfl w.heap.size rfl 83 _ (0,0) _ dL.out Tryz.underlying83 rfl (by kernel_rfl) ?_)
 refine(lX.out _ HK.out).mono ?_
 rintro e w3 ⟨rfl,hk⟩
 have hn3:=dL.out.kept hk (fun z=>z)
 have q0:w3.cell? ⟨w.heap.size,0,none⟩=some (.int .i64 4):=hn3.cell 0
 have q2:w3.cell? ⟨w.heap.size,2,none⟩=some (.int .u64 at2):=hn3.cell 2
 have mF:=ah hn3
 have bn:=ah (HK.out.then hk);clear hk HK hn3
 have hb3:=HB.out.kept bn.out (fun z=>z)
 have z4:w3.cell? ⟨b,4,none⟩=some (.int .u64 s.hz):=hb3.cell 4
 have HB3:=ah hb3;clear hb3
 by_cases hh:at2<s.hz
 ·go_wp2_with fail
  go_quiet (fail)
  go_wp2
  go_ret
  exact bP.out.1 hh _ (bn.out.drewN _)
 ·go_wp2_with fail
  go_quiet (fail)
  have y4:∀n,(w3.drewN n).cell? ⟨b,4,none⟩=some (.int .u64 s.hz):=fun n=>z4
  have y2:∀n,(w3.drewN n).cell? ⟨w.heap.size,2,none⟩=some (.int .u64 at2):=fun n=>q2
  have f4:∀n,(w3.drewN n).frozen? ⟨b,4,none⟩=false:=fun n=>HB3.out.frozen 4
  go_wp2
  go_ret
  refine bP.out.2 hh _ ?_ ?_
  ·((repeat (first|with_reducible exact HB3.out|with_reducible apply Has.dB|with_reducible apply Has.past|with_reducible apply Has.drewN|with_reducible apply Has.drew|with_reducible apply Has.alloc))<;>first|omega|rfl)
  ·exact((Kept.up bn.out).drewN _).put (.inl rfl)
theorem QT(w:World)(b:Nat)(F:Nat->Prop)(s:bQ)(x:aG)(hs:eH w b F s)(hok:nZ s)(h:iI w x)(h0:aQ x=0)(hk:x.k=8)(hc:x.said.cl=0):
  Calls Tryz.prog 38 #[.pointer (some ⟨b,0,none⟩),fE x] w (bU w b F s x):=by
 have h00:aQ x=0:=h0
 obtain⟨mA,mc,lA,lc,pA,pc,hF,hb,hm,hl,hp⟩:=hs
 have hck:=fun W (hW:Kept aj w W)=>dZ W x (h.kept hW)
 have hnone:=fun W (hW:Kept aj w W)=>dR W b s mA mc lA lc pA pc true (hb.kept hW (fun z=>z))
 rw[h00]at hck
 obtain⟨W0,hW0⟩:∃W0,w.alloc (.cells (aJ x).toArray 83)=W0:=⟨_,rfl⟩
 have hk0:Kept aj w W0:=by rw[<-hW0];(repeat'(first|(with_reducible first|exact ak|apply au|apply ay|apply aA|apply aB)|(right;simp;done)))
 have hn0:Has W0 w.heap.size 83 (aJ x).toArray:=by rw[<-hW0];exact Has.new _ _ _
 have hE:bu s x=if x.said.req<s.t0.req then 18 else 0:=by unfold bu;rw[if_neg (by simpa using h00),if_neg (by omega),if_neg (by omega),if_neg (by omega),if_neg (by omega),if_neg (by omega),if_pos hk,toldOf,hc];rfl
 have hfin:∀w3 w',Kept aj w w3->rH w3 b s.t0.req x.said.req (dG {s with t0:=⟨0,x.said.req,x.said.e,x.said.pin⟩} mA mc lA lc pA pc true) (.returned (.int .i64 (if x.said.req<s.t0.req then 18 else 0))) w'->bU w b F s x (.returned (.int .i64 (if x.said.req<s.t0.req then 18 else 0))) w':=by
  intro w3 w' hk3 hpost
  have hst:=(show eH w b F s from⟨mA,mc,lA,lc,pA,pc,hF,hb,hm,hl,hp⟩)
  rcases hpost with⟨h1,_,h2⟩|⟨h1,_,h2,h3⟩
  ·rw[<-hE]
   exact bU.bad hst (by rw[hE,if_pos h1];decide) (hk3.then h2)
  ·have hS:aZ s x={s with t0:=⟨0,x.said.req,x.said.e,x.said.pin⟩}:=by
    unfold aZ
    rw[if_neg (by rw[hE,if_neg h1];decide),if_neg (by omega),if_neg (by omega),if_neg (by omega),if_neg (by omega),if_neg (by omega),kF,hc]
    rw[show x.said=⟨0,x.said.req,x.said.e,x.said.pin⟩ by rw[<-hc]]
    rfl
   have iC:=(Kept.up (F:=fun k=>k=b) hk3).then h3
   refine⟨F,by rw[hE],?_,ji.refl _ _,iC.mono (fun k e=>(hF k).2 (.inl e))⟩
   rw[hS]
   exact eH.turned hF hb hm hl hp h2 rfl rfl rfl iC
 have hcall:=fun W (hW:Kept aj w W)=>(aav W b s mA mc lA lc pA pc x.said.req x.said.e x.said.pin (hb.kept hW (fun z=>z))).mono (fun e w' hp=>(show e=.returned (.int .i64 (if x.said.req<s.t0.req then 18 else 0))/\rH W b s.t0.req x.said.req (dG {s with t0:=⟨0,x.said.req,x.said.e,x.said.pin⟩} mA mc lA lc pA pc true) (.returned (.int .i64 (if x.said.req<s.t0.req then 18 else 0))) w' by
  rcases hp with⟨h1,h2,h3⟩|⟨h1,h2,h3⟩
  ·rw[if_pos h1];exact⟨h2,.inl ⟨h1,rfl,h3⟩⟩
  ·rw[if_neg h1];exact⟨h2,.inr ⟨h1,rfl,h3⟩⟩))
 obtain⟨Z,hZ⟩:∃Z:Int,(if x.said.req<s.t0.req then 18 else 0)=Z:=⟨_,rfl⟩
 rw[hZ]at hfin hcall
 clear hZ
 have bP:=ah hfin
 clear hfin hE h0 h00 h hm hl hp hF
 obtain⟨k,n,at2,ep,wL,wM,ms,fl,lA2,wO,lg,oA,oc,⟨iY,fM,ops⟩,ts,⟨p1,p2,p3⟩,⟨s1,s2,s3,s4⟩⟩:=x
 simp only[aJ]at hn0 hck hcall
 dsimp only at hk
 subst hk
 have lX:=ah hck;have jl:=ah hnone;have bf:=ah hk0;have dO:=ah hn0;have HB:=ah hb
 have fO:=ah hcall
 dsimp only at hc
 subst hc
 clear hck hnone hk0 hn0 hb hcall
 go_enter Tryz.func38,Tryz.ntmps38
 go_wp2_with fail
 clear hW0
 refine(jl.out _ bf.out).mono ?_
 rintro e w2 ⟨rfl,hk⟩
 have dL:=ah (dO.out.kept hk (fun z=>z))
 have HK:=ah (bf.out.then hk)
 clear hk
 go_wp2_with (refine wpList_load_row rfl 83 (.tmp 3) rfl w.heap.size rfl 83 _ (0,0) _ dL.out Tryz.underlying83 rfl (by kernel_rfl) ?_)
 refine(lX.out _ HK.out).mono ?_
 rintro e w3 ⟨rfl,hk⟩
 have hn3:=dL.out.kept hk (fun z=>z)
 have q0:w3.cell? ⟨w.heap.size,0,none⟩=some (.int .i64 8):=hn3.cell 0
 have q14:w3.cell? ⟨w.heap.size,14,none⟩=some (.int .i64 0):=hn3.cell 14
 have q15:w3.cell? ⟨w.heap.size,15,none⟩=some (.int .i64 s2):=hn3.cell 15
 have q16:w3.cell? ⟨w.heap.size,16,none⟩=some (.int .i64 s3):=hn3.cell 16
 have q17:w3.cell? ⟨w.heap.size,17,none⟩=some (.int .i64 s4):=hn3.cell 17
 have mF:=ah hn3
 have bn:=ah (HK.out.then hk);clear hk HK hn3
 go_wp2_with fail
 refine(fO.out _ bn.out).mono ?_
 rintro e w4 ⟨rfl,hpost⟩
 have zy:=ah hpost;clear hpost
 go_wp2
 go_ret
 exact bP.out _ _ bn.out zy.out
theorem QU(w:World)(b:Nat)(F:Nat->Prop)(s:bQ)(x:aG)(hs:eH w b F s)(hok:nZ s)(h:iI w x)(h0:aQ x=0)(hk:x.k=8)(hc:x.said.cl=1):
  Calls Tryz.prog 38 #[.pointer (some ⟨b,0,none⟩),fE x] w (bU w b F s x):=by
 have h00:aQ x=0:=h0
 obtain⟨mA,mc,lA,lc,pA,pc,hF,hb,hm,hl,hp⟩:=hs
 have hck:=fun W (hW:Kept aj w W)=>dZ W x (h.kept hW)
 have hnone:=fun W (hW:Kept aj w W)=>dR W b s mA mc lA lc pA pc true (hb.kept hW (fun z=>z))
 rw[h00]at hck
 obtain⟨W0,hW0⟩:∃W0,w.alloc (.cells (aJ x).toArray 83)=W0:=⟨_,rfl⟩
 have hk0:Kept aj w W0:=by rw[<-hW0];(repeat'(first|(with_reducible first|exact ak|apply au|apply ay|apply aA|apply aB)|(right;simp;done)))
 have hn0:Has W0 w.heap.size 83 (aJ x).toArray:=by rw[<-hW0];exact Has.new _ _ _
 have hE:bu s x=if x.said.req<s.t1.req then 18 else 0:=by unfold bu;rw[if_neg (by simpa using h00),if_neg (by omega),if_neg (by omega),if_neg (by omega),if_neg (by omega),if_neg (by omega),if_pos hk,toldOf,hc];rfl
 have hfin:∀w3 w',Kept aj w w3->rH w3 b s.t1.req x.said.req (dG {s with t1:=⟨1,x.said.req,x.said.e,x.said.pin⟩} mA mc lA lc pA pc true) (.returned (.int .i64 (if x.said.req<s.t1.req then 18 else 0))) w'->bU w b F s x (.returned (.int .i64 (if x.said.req<s.t1.req then 18 else 0))) w':=by
  intro w3 w' hk3 hpost
  have hst:=(show eH w b F s from⟨mA,mc,lA,lc,pA,pc,hF,hb,hm,hl,hp⟩)
  rcases hpost with⟨h1,_,h2⟩|⟨h1,_,h2,h3⟩
  ·rw[<-hE]
   exact bU.bad hst (by rw[hE,if_pos h1];decide) (hk3.then h2)
  ·have hS:aZ s x={s with t1:=⟨1,x.said.req,x.said.e,x.said.pin⟩}:=by
    unfold aZ
    rw[if_neg (by rw[hE,if_neg h1];decide),if_neg (by omega),if_neg (by omega),if_neg (by omega),if_neg (by omega),if_neg (by omega),kF,hc]
    rw[show x.said=⟨1,x.said.req,x.said.e,x.said.pin⟩ by rw[<-hc]]
    rfl
   have iC:=(Kept.up (F:=fun k=>k=b) hk3).then h3
   refine⟨F,by rw[hE],?_,ji.refl _ _,iC.mono (fun k e=>(hF k).2 (.inl e))⟩
   rw[hS]
   exact eH.turned hF hb hm hl hp h2 rfl rfl rfl iC
 have hcall:=fun W (hW:Kept aj w W)=>(aaw W b s mA mc lA lc pA pc x.said.req x.said.e x.said.pin (hb.kept hW (fun z=>z))).mono (fun e w' hp=>(show e=.returned (.int .i64 (if x.said.req<s.t1.req then 18 else 0))/\rH W b s.t1.req x.said.req (dG {s with t1:=⟨1,x.said.req,x.said.e,x.said.pin⟩} mA mc lA lc pA pc true) (.returned (.int .i64 (if x.said.req<s.t1.req then 18 else 0))) w' by
  rcases hp with⟨h1,h2,h3⟩|⟨h1,h2,h3⟩
  ·rw[if_pos h1];exact⟨h2,.inl ⟨h1,rfl,h3⟩⟩
  ·rw[if_neg h1];exact⟨h2,.inr ⟨h1,rfl,h3⟩⟩))
 obtain⟨Z,hZ⟩:∃Z:Int,(if x.said.req<s.t1.req then 18 else 0)=Z:=⟨_,rfl⟩
 rw[hZ]at hfin hcall
 clear hZ
 have bP:=ah hfin
 clear hfin hE h0 h00 h hm hl hp hF
 obtain⟨k,n,at2,ep,wL,wM,ms,fl,lA2,wO,lg,oA,oc,⟨iY,fM,ops⟩,ts,⟨p1,p2,p3⟩,⟨s1,s2,s3,s4⟩⟩:=x
 simp only[aJ]at hn0 hck hcall
 dsimp only at hk
 subst hk
 have lX:=ah hck;have jl:=ah hnone;have bf:=ah hk0;have dO:=ah hn0;have HB:=ah hb
 have fO:=ah hcall
 dsimp only at hc
 subst hc
 clear hck hnone hk0 hn0 hb hcall
 go_enter Tryz.func38,Tryz.ntmps38
 go_wp2_with fail
 clear hW0
 refine(jl.out _ bf.out).mono ?_
 rintro e w2 ⟨rfl,hk⟩
 have dL:=ah (dO.out.kept hk (fun z=>z))
 have HK:=ah (bf.out.then hk)
 clear hk
 go_wp2_with (refine wpList_load_row rfl 83 (.tmp 3) rfl w.heap.size rfl 83 _ (0,0) _ dL.out Tryz.underlying83 rfl (by kernel_rfl) ?_)
 refine(lX.out _ HK.out).mono ?_
 rintro e w3 ⟨rfl,hk⟩
 have hn3:=dL.out.kept hk (fun z=>z)
 have q0:w3.cell? ⟨w.heap.size,0,none⟩=some (.int .i64 8):=hn3.cell 0
 have q14:w3.cell? ⟨w.heap.size,14,none⟩=some (.int .i64 1):=hn3.cell 14
 have q15:w3.cell? ⟨w.heap.size,15,none⟩=some (.int .i64 s2):=hn3.cell 15
 have q16:w3.cell? ⟨w.heap.size,16,none⟩=some (.int .i64 s3):=hn3.cell 16
 have q17:w3.cell? ⟨w.heap.size,17,none⟩=some (.int .i64 s4):=hn3.cell 17
 have mF:=ah hn3
 have bn:=ah (HK.out.then hk);clear hk HK hn3
 go_wp2_with fail
 refine(fO.out _ bn.out).mono ?_
 rintro e w4 ⟨rfl,hpost⟩
 have zy:=ah hpost;clear hpost
 go_wp2
 go_ret
 exact bP.out _ _ bn.out zy.out
theorem QV(w:World)(b:Nat)(F:Nat->Prop)(s:bQ)(x:aG)(hs:eH w b F s)(hok:nZ s)(h:iI w x)(h0:aQ x=0)(hk:x.k=8)(hc:x.said.cl=2):
  Calls Tryz.prog 38 #[.pointer (some ⟨b,0,none⟩),fE x] w (bU w b F s x):=by
 have h00:aQ x=0:=h0
 obtain⟨mA,mc,lA,lc,pA,pc,hF,hb,hm,hl,hp⟩:=hs
 have hck:=fun W (hW:Kept aj w W)=>dZ W x (h.kept hW)
 have hnone:=fun W (hW:Kept aj w W)=>dR W b s mA mc lA lc pA pc true (hb.kept hW (fun z=>z))
 rw[h00]at hck
 obtain⟨W0,hW0⟩:∃W0,w.alloc (.cells (aJ x).toArray 83)=W0:=⟨_,rfl⟩
 have hk0:Kept aj w W0:=by rw[<-hW0];(repeat'(first|(with_reducible first|exact ak|apply au|apply ay|apply aA|apply aB)|(right;simp;done)))
 have hn0:Has W0 w.heap.size 83 (aJ x).toArray:=by rw[<-hW0];exact Has.new _ _ _
 have hE:bu s x=if x.said.req<s.t2.req then 18 else 0:=by unfold bu;rw[if_neg (by simpa using h00),if_neg (by omega),if_neg (by omega),if_neg (by omega),if_neg (by omega),if_neg (by omega),if_pos hk,toldOf,hc];rfl
 have hfin:∀w3 w',Kept aj w w3->rH w3 b s.t2.req x.said.req (dG {s with t2:=⟨2,x.said.req,x.said.e,x.said.pin⟩} mA mc lA lc pA pc true) (.returned (.int .i64 (if x.said.req<s.t2.req then 18 else 0))) w'->bU w b F s x (.returned (.int .i64 (if x.said.req<s.t2.req then 18 else 0))) w':=by
  intro w3 w' hk3 hpost
  have hst:=(show eH w b F s from⟨mA,mc,lA,lc,pA,pc,hF,hb,hm,hl,hp⟩)
  rcases hpost with⟨h1,_,h2⟩|⟨h1,_,h2,h3⟩
  ·rw[<-hE]
   exact bU.bad hst (by rw[hE,if_pos h1];decide) (hk3.then h2)
  ·have hS:aZ s x={s with t2:=⟨2,x.said.req,x.said.e,x.said.pin⟩}:=by
    unfold aZ
    rw[if_neg (by rw[hE,if_neg h1];decide),if_neg (by omega),if_neg (by omega),if_neg (by omega),if_neg (by omega),if_neg (by omega),kF,hc]
    rw[show x.said=⟨2,x.said.req,x.said.e,x.said.pin⟩ by rw[<-hc]]
    rfl
   have iC:=(Kept.up (F:=fun k=>k=b) hk3).then h3
   refine⟨F,by rw[hE],?_,ji.refl _ _,iC.mono (fun k e=>(hF k).2 (.inl e))⟩
   rw[hS]
   exact eH.turned hF hb hm hl hp h2 rfl rfl rfl iC
 have hcall:=fun W (hW:Kept aj w W)=>(aax W b s mA mc lA lc pA pc x.said.req x.said.e x.said.pin (hb.kept hW (fun z=>z))).mono (fun e w' hp=>(show e=.returned (.int .i64 (if x.said.req<s.t2.req then 18 else 0))/\rH W b s.t2.req x.said.req (dG {s with t2:=⟨2,x.said.req,x.said.e,x.said.pin⟩} mA mc lA lc pA pc true) (.returned (.int .i64 (if x.said.req<s.t2.req then 18 else 0))) w' by
  rcases hp with⟨h1,h2,h3⟩|⟨h1,h2,h3⟩
  ·rw[if_pos h1];exact⟨h2,.inl ⟨h1,rfl,h3⟩⟩
  ·rw[if_neg h1];exact⟨h2,.inr ⟨h1,rfl,h3⟩⟩))
 obtain⟨Z,hZ⟩:∃Z:Int,(if x.said.req<s.t2.req then 18 else 0)=Z:=⟨_,rfl⟩
 rw[hZ]at hfin hcall
 clear hZ
 have bP:=ah hfin
 clear hfin hE h0 h00 h hm hl hp hF
 obtain⟨k,n,at2,ep,wL,wM,ms,fl,lA2,wO,lg,oA,oc,⟨iY,fM,ops⟩,ts,⟨p1,p2,p3⟩,⟨s1,s2,s3,s4⟩⟩:=x
 simp only[aJ]at hn0 hck hcall
 dsimp only at hk
 subst hk
 have lX:=ah hck;have jl:=ah hnone;have bf:=ah hk0;have dO:=ah hn0;have HB:=ah hb
 have fO:=ah hcall
 dsimp only at hc
 subst hc
 clear hck hnone hk0 hn0 hb hcall
 go_enter Tryz.func38,Tryz.ntmps38
 go_wp2_with fail
 clear hW0
 refine(jl.out _ bf.out).mono ?_
 rintro e w2 ⟨rfl,hk⟩
 have dL:=ah (dO.out.kept hk (fun z=>z))
 have HK:=ah (bf.out.then hk)
 clear hk
 go_wp2_with (refine wpList_load_row rfl 83 (.tmp 3) rfl w.heap.size rfl 83 _ (0,0) _ dL.out Tryz.underlying83 rfl (by kernel_rfl) ?_)
 refine(lX.out _ HK.out).mono ?_
 rintro e w3 ⟨rfl,hk⟩
 have hn3:=dL.out.kept hk (fun z=>z)
 have q0:w3.cell? ⟨w.heap.size,0,none⟩=some (.int .i64 8):=hn3.cell 0
 have q14:w3.cell? ⟨w.heap.size,14,none⟩=some (.int .i64 2):=hn3.cell 14
 have q15:w3.cell? ⟨w.heap.size,15,none⟩=some (.int .i64 s2):=hn3.cell 15
 have q16:w3.cell? ⟨w.heap.size,16,none⟩=some (.int .i64 s3):=hn3.cell 16
 have q17:w3.cell? ⟨w.heap.size,17,none⟩=some (.int .i64 s4):=hn3.cell 17
 have mF:=ah hn3
 have bn:=ah (HK.out.then hk);clear hk HK hn3
 go_wp2_with fail
 refine(fO.out _ bn.out).mono ?_
 rintro e w4 ⟨rfl,hpost⟩
 have zy:=ah hpost;clear hpost
 go_wp2
 go_ret
 exact bP.out _ _ bn.out zy.out
theorem Us(w:World)(b:Nat)(F:Nat->Prop)(s:bQ)(x:aG)(hs:eH w b F s)(hok:nZ s)(h:iI w x)(h0:aQ x=0)(hk:x.k=2):
  Calls Tryz.prog 38 #[.pointer (some ⟨b,0,none⟩),fE x] w (bU w b F s x):=by
 have h00:aQ x=0:=h0
 obtain⟨mA,mc,lA,lc,pA,pc,hF,hb,hm,hl,hp⟩:=hs
 have hck:=fun W (hW:Kept aj w W)=>dZ W x (h.kept hW)
 have hnone:=fun W (hW:Kept aj w W)=>dR W b s mA mc lA lc pA pc true (hb.kept hW (fun z=>z))
 rw[h00]at hck
 obtain⟨W0,hW0⟩:∃W0,w.alloc (.cells (aJ x).toArray 83)=W0:=⟨_,rfl⟩
 have hk0:Kept aj w W0:=by rw[<-hW0];(repeat'(first|(with_reducible first|exact ak|apply au|apply ay|apply aA|apply aB)|(right;simp;done)))
 have hn0:Has W0 w.heap.size 83 (aJ x).toArray:=by rw[<-hW0];exact Has.new _ _ _
 have hE:bu s x=11:=by unfold bu;rw[if_neg (by simpa using h00),if_neg (by omega),if_neg (by omega),if_neg (by omega),if_neg (by omega),if_neg (by omega),if_neg (by omega)]
 have hfin:∀w',Kept aj w w'->bU w b F s x (.returned (.int .i64 11)) w':=by
  intro w' hk'
  have hst:=(show eH w b F s from⟨mA,mc,lA,lc,pA,pc,hF,hb,hm,hl,hp⟩)
  have:=bU.bad hst (by rw[hE];decide) hk'
  rw[hE]at this
  exact this
 have bP:=ah hfin
 clear hfin hE h0 h00 h hm hl hp hF
 obtain⟨k,n,at2,ep,wL,wM,ms,fl,lA2,wO,lg,oA,oc,⟨iY,fM,ops⟩,ts,⟨p1,p2,p3⟩,⟨s1,s2,s3,s4⟩⟩:=x
 simp only[aJ]at hn0 hck
 dsimp only at hk
 subst hk
 have lX:=ah hck;have jl:=ah hnone;have bf:=ah hk0;have dO:=ah hn0;have HB:=ah hb
 clear hck hnone hk0 hn0 hb
 go_enter Tryz.func38,Tryz.ntmps38
 go_wp2_with fail
 clear hW0
 refine(jl.out _ bf.out).mono ?_
 rintro e w2 ⟨rfl,hk⟩
 have dL:=ah (dO.out.kept hk (fun z=>z))
 have HK:=ah (bf.out.then hk)
 clear hk
 go_wp2_with (refine wpList_load_row rfl 83 (.tmp 3) rfl w.heap.size rfl 83 _ (0,0) _ dL.out Tryz.underlying83 rfl (by kernel_rfl) ?_)
 refine(lX.out _ HK.out).mono ?_
 rintro e w3 ⟨rfl,hk⟩
 have hn3:=dL.out.kept hk (fun z=>z)
 have q0:w3.cell? ⟨w.heap.size,0,none⟩=some (.int .i64 2):=hn3.cell 0
 have mF:=ah hn3
 have bn:=ah (HK.out.then hk);clear hk HK hn3
 go_wp2
 go_ret
 exact bP.out _ bn.out
theorem Ut(w:World)(b:Nat)(F:Nat->Prop)(s:bQ)(x:aG)(hs:eH w b F s)(hok:nZ s)(h:iI w x)(h0:aQ x=0)(hk:x.k=3):
  Calls Tryz.prog 38 #[.pointer (some ⟨b,0,none⟩),fE x] w (bU w b F s x):=by
 have h00:aQ x=0:=h0
 obtain⟨mA,mc,lA,lc,pA,pc,hF,hb,hm,hl,hp⟩:=hs
 have hck:=fun W (hW:Kept aj w W)=>dZ W x (h.kept hW)
 have hnone:=fun W (hW:Kept aj w W)=>dR W b s mA mc lA lc pA pc true (hb.kept hW (fun z=>z))
 rw[h00]at hck
 obtain⟨W0,hW0⟩:∃W0,w.alloc (.cells (aJ x).toArray 83)=W0:=⟨_,rfl⟩
 have hk0:Kept aj w W0:=by rw[<-hW0];(repeat'(first|(with_reducible first|exact ak|apply au|apply ay|apply aA|apply aB)|(right;simp;done)))
 have hn0:Has W0 w.heap.size 83 (aJ x).toArray:=by rw[<-hW0];exact Has.new _ _ _
 have hE:bu s x=11:=by unfold bu;rw[if_neg (by simpa using h00),if_neg (by omega),if_neg (by omega),if_neg (by omega),if_neg (by omega),if_neg (by omega),if_neg (by omega)]
 have hfin:∀w',Kept aj w w'->bU w b F s x (.returned (.int .i64 11)) w':=by
  intro w' hk'
  have hst:=(show eH w b F s from⟨mA,mc,lA,lc,pA,pc,hF,hb,hm,hl,hp⟩)
  have:=bU.bad hst (by rw[hE];decide) hk'
  rw[hE]at this
  exact this
 have bP:=ah hfin
 clear hfin hE h0 h00 h hm hl hp hF
 obtain⟨k,n,at2,ep,wL,wM,ms,fl,lA2,wO,lg,oA,oc,⟨iY,fM,ops⟩,ts,⟨p1,p2,p3⟩,⟨s1,s2,s3,s4⟩⟩:=x
 simp only[aJ]at hn0 hck
 dsimp only at hk
 subst hk
 have lX:=ah hck;have jl:=ah hnone;have bf:=ah hk0;have dO:=ah hn0;have HB:=ah hb
 clear hck hnone hk0 hn0 hb
 go_enter Tryz.func38,Tryz.ntmps38
 go_wp2_with fail
 clear hW0
 refine(jl.out _ bf.out).mono ?_
 rintro e w2 ⟨rfl,hk⟩
 have dL:=ah (dO.out.kept hk (fun z=>z))
 have HK:=ah (bf.out.then hk)
 clear hk
 go_wp2_with (refine wpList_load_row rfl 83 (.tmp 3) rfl w.heap.size rfl 83 _ (0,0) _ dL.out Tryz.underlying83 rfl (by kernel_rfl) ?_)
 refine(lX.out _ HK.out).mono ?_
 rintro e w3 ⟨rfl,hk⟩
 have hn3:=dL.out.kept hk (fun z=>z)
 have q0:w3.cell? ⟨w.heap.size,0,none⟩=some (.int .i64 3):=hn3.cell 0
 have mF:=ah hn3
 have bn:=ah (HK.out.then hk);clear hk HK hn3
 go_wp2
 go_ret
 exact bP.out _ bn.out
end Mst
end Go.Proofs.YtfjdpbbgfjhnlaaGreat
