/- Part 11 of what the proof needs. -/
import Derived.Test.YtfjdpbbgfjhnlaaGreatMK09
import Derived.Shelf.Sort.Plain
import Derived.Shelf.Slices.In.SortNone
import Derived.Sort.OwnSortedInts
set_option linter.unusedSimpArgs false
set_option linter.unusedVariables false
set_option maxHeartbeats 32000000
set_option maxRecDepth 100000
namespace Go.Proofs.YtfjdpbbgfjhnlaaGreat
open Go.RowKit
set_option maxRecDepth 100000
theorem Kept.up{F:Nat->Prop}{a b:World}(h:Kept aj a b):Kept F a b:=h.mono (fun _ z=>z.elim)
namespace Mst
open aO Vn
def lW(s:bQ)(x:aG):Int:=if x.ep<=s.ep then 18 else if(x.lg.any fun id=> !bY x.ms id)=true then 7 else if inB x.lg (nH x.ms)=false then 18 else 0
def kD(w:World)(b:Nat)(s:bQ)(x:aG)(pA:Option Addr)(pc:Nat)(e:Ending)(w':World):Prop:=
 (lW s x≠0/\e=.returned (.int .i64 (lW s x))/\Kept aj w w')\/
 (lW s x=0/\e=.returned (.int .i64 0)/\∃A c B d,Has w' b 124 (dG {s with ep:=x.ep,ms:=x.ms,fl:=x.fl,lg:=x.lg} A c B d pA pc true)/\
  aF 65 2 w.heap.size w' A x.ms.length c (aP x.ms)/\aF 3 1 w.heap.size w' B x.lg.length d (ints x.lg)/\Kept (fun k=>k=b) w w')
theorem next_any(w:World)(b:Nat)(s:bQ)(mA:Option Addr)(mc:Nat)(lA:Option Addr)(lc:Nat)(pA:Option Addr)(pc:Nat)(x:aG)(hb:Has w b 124 (dG s mA mc lA lc pA pc true))(h:iI w x):
  Calls Tryz.prog 87 #[.pointer (some ⟨b,0,none⟩),fE x] w (kD w b s x pA pc):=by
 obtain⟨E,hE⟩:∃E,lW s x=E:=⟨_,rfl⟩
 have KF:∀w',E≠0->Kept aj w w'->kD w b s x pA pc (.returned (.int .i64 E)) w':=fun w' h0 hk=> .inl ⟨by rw[hE];exact h0,by rw[hE],hk⟩
 have hP0:∀w' A c B d,E=0->Has w' b 124 (dG {s with ep:=x.ep,ms:=x.ms,fl:=x.fl,lg:=x.lg} A c B d pA pc true)->
   aF 65 2 w.heap.size w' A x.ms.length c (aP x.ms)->aF 3 1 w.heap.size w' B x.lg.length d (ints x.lg)->Kept (fun k=>k=b) w w'->kD w b s x pA pc (.returned (.int .i64 0)) w':=
  fun w' A c B d h0 h1 h2 h3 h4=> .inr ⟨by rw[hE,h0],rfl,A,c,B,d,h1,h2,h3,h4⟩
 unfold lW at hE
 have hbn:b≠w.heap.size:=by have:=hb.lt;omega
 --the world behind the box
 obtain⟨W0,hW0⟩:∃W0,w.alloc (.cells (aJ x).toArray 83)=W0:=⟨_,rfl⟩
 have hk0:Kept aj w W0:=by rw[<-hW0];(repeat'(first|(with_reducible first|exact ak|apply au|apply ay|apply aA|apply aB)|(right;simp;done)))
 have hn0:Has W0 w.heap.size 83 (aJ x).toArray:=by rw[<-hW0];exact Has.new _ _ _
 have hb0:=hb.kept hk0 (fun z=>z)
 have h0:=h.kept hk0
 have hstr:=fun W (hW:Kept aj W0 W)=>TR W x.lA x.lc x.lg 152 (.pointer (some ⟨w.heap.size,0,none⟩)) (fun id=> !bY x.ms id) (fun args W=>enters Tryz.func152 (by kernel_rfl) rfl args W) (h0.kept hW).l (by have:=h.ll;omega)
  (fun W2 y hW2 _=>WX W2 x w.heap.size y ((hn0.kept hW (fun z=>z)).kept hW2 (fun z=>z)) ((h0.kept hW).kept hW2))
 have hhead:=fun W (hW:Kept aj W0 W)=>Ec W x.ep x.fl x.mA x.mc x.ms (h0.kept hW).m (by have:=h.ml;omega)
 have hcon:=fun W (hW:Kept aj W0 W)=>kP W x.lA x.lc x.lg (nH x.ms) (h0.kept hW).l (by have:=h.ll;omega)
 have hown:=fun W (hW:Kept aj W0 W)=>JH W x.ep x.fl x.mA x.mc x.ms (h0.kept hW).m (by have:=h.ml;omega)
 have hcl:=fun W (hW:Kept aj W0 W)=>yI W x.lA x.lc x.lg (h0.kept hW).l (by have:=h.ll;omega)
 obtain⟨S7,hS7⟩:∃S7,(x.lg.any fun id=> !bY x.ms id)=S7:=⟨_,rfl⟩
 obtain⟨S8,hS8⟩:∃S8,inB x.lg (nH x.ms)=S8:=⟨_,rfl⟩
 obtain⟨HI,hHI⟩:∃HI,nH x.ms=HI:=⟨_,rfl⟩
 rw[hS7,hS8]at hE
 rw[hS7]at hstr
 rw[hS8]at hcon
 rw[hHI]at hcon hhead
 clear h h0 hS7 hS8 hHI
 obtain⟨k,n,at2,ep,wL,wM,ms,fl,lA2,wO,lg,oA,oc,⟨iY,fM,ops⟩,ts,⟨p1,p2,p3⟩,⟨s1,s2,s3,s4⟩⟩:=x
 simp only[aJ]at hP0 KF hE hn0 hstr hhead hcon hown hcl
 have hcells:∀W,Kept aj W0 W->W.cell? ⟨w.heap.size,3,none⟩=some (.int .i64 ep)/\W.cell? ⟨w.heap.size,4,none⟩=some (.slice wL ms.length wM)/\W.cell? ⟨w.heap.size,5,none⟩=some (.int .u64 fl)/\W.cell? ⟨w.heap.size,6,none⟩=some (.slice lA2 lg.length wO):=fun W hW=>by
  have g:=hn0.kept hW (fun z=>z)
  exact⟨g.cell 3,g.cell 4,g.cell 5,g.cell 6⟩
 have hfr:∀W,Kept aj W0 W->Has W b 124 (dG s mA mc lA lc pA pc true):=fun W hW=>hb0.kept hW (fun z=>z)
 have Sl:∀W,Kept (fun k=>k=b) W0 W->W.cell? ⟨w.heap.size,3,none⟩=some (.int .i64 ep)/\W.cell? ⟨w.heap.size,4,none⟩=some (.slice wL ms.length wM)/\W.cell? ⟨w.heap.size,5,none⟩=some (.int .u64 fl)/\W.cell? ⟨w.heap.size,6,none⟩=some (.slice lA2 lg.length wO):=fun W hW=>by
  have g:=hn0.kept hW (fun z=>hbn z.symm)
  exact⟨g.cell 3,g.cell 4,g.cell 5,g.cell 6⟩
 have agL:=ah Sl;clear Sl
 obtain⟨c3,c4,c5,c6⟩:=hcells W0 (Kept.refl _ _)
 have cb:=hb0.cell 0
 simp only[List.getElem?_toArray,List.getElem?_cons_zero,List.getElem?_cons_succ]at cb
 have Dt:=ah KF;have WY:=ah hP0;have HE:=ah hE;have HST:=ah hstr;have Ky:=ah hhead;have Uh:=ah hcon;have ql:=ah hown;have nX:=ah hcl;have jg:=ah hcells;have HFR:=ah hfr
 have bf:=ah hk0
 have WZ:=ah (And.intro hbn hb.lt)
 clear KF hP0 hE hstr hhead hcon hown hcl hcells hfr hb hb0 hn0 hk0 hbn
 go_enter Tryz.func87,Tryz.ntmps87
 go_wp2_with fail
 clear hW0
 by_cases h1:ep<=s.ep
 ·have he:=HE.out
  rw[if_pos h1]at he
  subst he
  go_quiet (fail)
  go_wp2
  go_ret
  exact Dt.out _ (by decide) (bf.out.then (by(repeat'(first|(with_reducible first|exact ak|apply au|apply ay|apply aA|apply aB)|(right;simp;done)))))
 ·have he:=HE.out
  rw[if_neg h1]at he
  clear HE
  have HE:=ah he;clear he
  go_quiet (fail)
  have q:=jg.out (W0.drewN nq) (by(repeat'(first|(with_reducible first|exact ak|apply au|apply ay|apply aA|apply aB)|(right;simp;done))))
  obtain⟨q3,q4,q5,q6⟩:=q
  clear c3 c4 c5 c6 cb
  go_wp2_with fail
  refine(HST.out _ (by(repeat'(first|(with_reducible first|exact ak|apply au|apply ay|apply aA|apply aB)|(right;simp;done))))).mono ?_
  rintro e w2 ⟨rfl,hk⟩
  have hk2:=Kept.then (F:=aj) (a:=W0) (by(repeat'(first|(with_reducible first|exact ak|apply au|apply ay|apply aA|apply aB)|(right;simp;done)))) hk
  have aW:=ah hk2;clear hk hk2 q3 q4 q5 q6
  cases S7
  ·have he:=HE.out
   rw[if_neg (by simp)]at he
   clear HE
   have HE:=ah he;clear he
   obtain⟨q3,q4,q5,q6⟩:=jg.out w2 aW.out
   go_wp2_with fail
   have HS:=ah (Kept.refl aj w2)
   go_region_held3 (fun W=>W.cell? ⟨w.heap.size,3,none⟩=some (.int .i64 ep)/\W.cell? ⟨w.heap.size,4,none⟩=some (.slice wL ms.length wM)/\W.cell? ⟨w.heap.size,5,none⟩=some (.int .u64 fl)/\W.cell? ⟨w.heap.size,6,none⟩=some (.slice lA2 lg.length wO))
    (first|with_reducible exact jg.out _ (aW.out.then HS.out)|exact jg.out _ (aW.out.then HS.out.drew)|(simp[go_sem,q3,q4,q5,q6];done))
    (first
     |(go_at_call 102;((with_reducible refine(Ky.out _ ?_).mono ?_);exact aW.out.then (by(repeat'(first|(with_reducible first|exact ak|apply au|apply ay|apply aA|apply aB)|(exact HS.out)|(right;simp;done))));rintro e w5 ⟨rfl,hk0⟩;have hk:=Kept.then (F:=aj) (a:=w2) (by(repeat'(first|(with_reducible first|exact ak|apply au|apply ay|apply aA|apply aB)|(exact HS.out)|(right;simp;done)))) hk0;clear HS hk0;have HS:=ah hk;clear hk))
     |(go_at_call 99;((with_reducible refine(Uh.out _ ?_).mono ?_);exact aW.out.then (by(repeat'(first|(with_reducible first|exact ak|apply au|apply ay|apply aA|apply aB)|(exact HS.out)|(right;simp;done))));rintro e w5 ⟨rfl,hk0⟩;have hk:=Kept.then (F:=aj) (a:=w2) (by(repeat'(first|(with_reducible first|exact ak|apply au|apply ay|apply aA|apply aB)|(exact HS.out)|(right;simp;done)))) hk0;clear HS hk0;have HS:=ah hk;clear hk)))
   have cO:=ah (aW.out.then HS.out);clear HS aW q3 q4 q5 q6
   obtain⟨q3,q4,q5,q6⟩:=jg.out w5 cO.out
   cases S8
   ·have he:=HE.out
    rw[if_pos rfl]at he
    subst he
    go_wp2
    go_ret
    exact Dt.out _ (by decide) (bf.out.then cO.out)
   ·have he:=HE.out
    rw[if_neg (by simp)]at he
    clear HE
    have HE:=ah he;clear he
    have hst:∀W,Kept aj w5 W->W.cell? ⟨b,0,none⟩=some (.int .i64 s.ep)/\W.cell? ⟨b,1,none⟩=some (.slice mA s.ms.length mc)/\W.cell? ⟨b,2,none⟩=some (.int .u64 s.fl)/\W.cell? ⟨b,3,none⟩=some (.slice lA s.lg.length lc)/\W.frozen? ⟨b,0,none⟩=false/\W.frozen? ⟨b,1,none⟩=false/\W.frozen? ⟨b,2,none⟩=false/\W.frozen? ⟨b,3,none⟩=false:=fun W hW=>by
     have g:=HFR.out W (cO.out.then hW)
     exact⟨g.cell 0,g.cell 1,g.cell 2,g.cell 3,g.frozen 0,g.frozen 1,g.frozen 2,g.frozen 3⟩
    have yJ:=ah hst;clear hst
    go_wp2_with fail
    have HS:=ah (Kept.refl aj w5)
    go_region_held3 (fun W=>W.cell? ⟨w.heap.size,3,none⟩=some (.int .i64 ep)/\W.cell? ⟨w.heap.size,4,none⟩=some (.slice wL ms.length wM)/\W.cell? ⟨w.heap.size,5,none⟩=some (.int .u64 fl)/\W.cell? ⟨w.heap.size,6,none⟩=some (.slice lA2 lg.length wO))
     (first|with_reducible exact jg.out _ (cO.out.then HS.out)|(refine agL.out _ ?_;(repeat'(first|(with_reducible first|exact ak|apply au|apply ay|apply aA|apply aB)|(first|exact Or.inl (Or.inl rfl)|exact Or.inl rfl|with_reducible exact Kept.up (cO.out.then HS.out))|(right;simp;done)));done)|exact jg.out _ (cO.out.then HS.out.drew)|(simp[go_sem,q3,q4,q5,q6];done))
     (first
      |(go_at_call 92;((with_reducible refine(ql.out _ ?_).mono ?_);exact cO.out.then (by(repeat'(first|(with_reducible first|exact ak|apply au|apply ay|apply aA|apply aB)|(exact HS.out)|(right;simp;done))));rintro e w6 ⟨A1,c1,rfl,hn1,hk0⟩;have hk:=Kept.then (F:=aj) (a:=w5) (by(repeat'(first|(with_reducible first|exact ak|apply au|apply ay|apply aA|apply aB)|(exact HS.out)|(right;simp;done)))) hk0;have Dl:=ah (And.intro hn1 HS.out.size);obtain⟨k0,k1,k2,k3,f0,f1,f2,f3⟩:=yJ.out _ hk;clear HS hn1;have AV:=ah hk0;clear hk0;have HS:=ah hk;clear hk))
      |(go_at_call 94;((with_reducible refine(nX.out _ ?_).mono ?_);exact cO.out.then (by(repeat'(first|(with_reducible first|exact ak|apply au|apply ay|apply aA|apply aB)|(exact HS.out)|(right;simp;done))));rintro e w7 ⟨A2,c2,rfl,hn2,hk0⟩;have hk:=Kept.then (F:=aj) (a:=w5) (by(repeat'(first|(with_reducible first|exact ak|apply au|apply ay|apply aA|apply aB)|(exact HS.out)|(right;simp;done)))) hk0;have dL:=ah (And.intro hn2 HS.out.size);obtain⟨k0,k1,k2,k3,f0,f1,f2,f3⟩:=yJ.out _ hk;clear HS hn2;have Du:=ah hk0;clear hk0;have HS:=ah hk;clear hk)))
    have hb7:=HFR.out w7 (cO.out.then HS.out)
    have ho1:=aC (F:=aj) Dl.out.1.1 (Kept.then (F:=aj) (by(repeat'(first|(with_reducible first|exact ak|apply au|apply ay|apply aA|apply aB)|(right;simp;done)))) Du.out) (fun _ _ z=>z)
    have ho2:=dL.out.1.1
    have hne1:=own_ne ho1 hb7 (by decide)
    have hne2:=own_ne ho2 hb7 (by decide)
    have hz1:=Dl.out.1.2
    have hz2:=dL.out.1.2
    have hs1:=Dl.out.2
    have hs2:=dL.out.2
    have hs0:=(bf.out.then cO.out).size
    have lN:=bf.out.then (cO.out.then HS.out)
    have HX:=ah (And.intro ho1 (And.intro ho2 (And.intro hne1 (And.intro hne2 (And.intro hz1 hz2)))))
    have HZ:=ah (And.intro hs1 (And.intro hs2 hs0))
    have HB7:=ah hb7;have yE:=ah lN
    have Xa:=ah HE.out
    clear ho1 ho2 hne1 hne2 hz1 hz2 hs1 hs2 hs0 hb7 lN q3 q4 q5 q6 k0 k1 k2 k3 f0 f1 f2 f3 Dl dL AV Du HE
    go_wp2
    go_ret
    obtain⟨ho1,ho2,hne1,hne2,hz1,hz2⟩:=HX.out
    obtain⟨hs1,hs2,hs0⟩:=HZ.out
    have iC:Kept (fun k=>k=b) w7 ((((w7.setCell ⟨b,0,none⟩ (.int .i64 ep)).setCell ⟨b,1,none⟩ (.slice A1 ms.length c1)).setCell ⟨b,2,none⟩ (.int .u64 fl)).setCell ⟨b,3,none⟩ (.slice A2 lg.length c2)):=
     ((((Kept.refl (fun k=>k=b) w7).put (.inl rfl)).put (.inl rfl)).put (.inl rfl)).put (.inl rfl)
    refine WY.out _ A1 c1 A2 c2 Xa.out.symm ?_ ⟨aC ho1 iC (fun g hg hF=>hne1 (by rw[hg,hF])),fun g hg=> ?_⟩ ⟨aC ho2 iC (fun g hg hF=>hne2 (by rw[hg,hF])),fun g hg=> ?_⟩ ((Kept.up yE.out).then iC)
    ·((repeat (first|with_reducible exact HB7.out|with_reducible apply Has.dB|with_reducible apply Has.past|with_reducible apply Has.drewN|with_reducible apply Has.drew|with_reducible apply Has.alloc))<;>first|omega|rfl)
    ·exact Nat.le_trans hs0 (Nat.le_trans hs1 (hz1 g hg))
    ·exact Nat.le_trans hs0 (Nat.le_trans hs2 (hz2 g hg))
  ·have he:=HE.out
   rw[if_pos rfl]at he
   subst he
   go_wp2
   go_ret
   exact Dt.out _ (by decide) (bf.out.then aW.out)
end Mst
end Go.Proofs.YtfjdpbbgfjhnlaaGreat
namespace Go.Proofs.YtfjdpbbgfjhnlaaGreat
open Go.Shelf Go.Sort Go.RowKit
set_option maxRecDepth 100000
namespace Xb
def QO:Go.Shelf.Ren:=⟨fun|189=>64|125=>126|257=>125|128=>208|129=>209|294=>199|295=>200|296=>201|297=>202|298=>203|299=>204|216=>205|300=>206|301=>207|328=>242|329=>243|330=>244|331=>245|332=>246|215=>247|343=>257|n=>n,fun|28=>61|3=>3|46=>193|0=>0|51=>274|53=>23|4=>4|183=>267|182=>266|131=>125|5=>5|9=>9|218=>316|222=>227|228=>326|229=>327|n=>n,fun|n=>n⟩
theorem lays189:Go.Proofs.Lays.n189 Tryz.prog QO:={
 mixed:=by kernel_rfl
 f125:=Tryz.func126.trans (congrArg some (by kernel_rfl))
 f128:=Tryz.func208.trans (congrArg some (by kernel_rfl))
 f129:=Tryz.func209.trans (congrArg some (by kernel_rfl))
 f189:=Tryz.func64.trans (congrArg some (by kernel_rfl))
 f215:=Tryz.func247.trans (congrArg some (by kernel_rfl))
 f216:=Tryz.func205.trans (congrArg some (by kernel_rfl))
 f257:=Tryz.func125.trans (congrArg some (by kernel_rfl))
 f294:=Tryz.func199.trans (congrArg some (by kernel_rfl))
 f295:=Tryz.func200.trans (congrArg some (by kernel_rfl))
 f296:=Tryz.func201.trans (congrArg some (by kernel_rfl))
 f297:=Tryz.func202.trans (congrArg some (by kernel_rfl))
 f298:=Tryz.func203.trans (congrArg some (by kernel_rfl))
 f299:=Tryz.func204.trans (congrArg some (by kernel_rfl))
 f300:=Tryz.func206.trans (congrArg some (by kernel_rfl))
 f301:=Tryz.func207.trans (congrArg some (by kernel_rfl))
 f328:=Tryz.func242.trans (congrArg some (by kernel_rfl))
 f329:=Tryz.func243.trans (congrArg some (by kernel_rfl))
 f330:=Tryz.func244.trans (congrArg some (by kernel_rfl))
 f331:=Tryz.func245.trans (congrArg some (by kernel_rfl))
 f332:=Tryz.func246.trans (congrArg some (by kernel_rfl))
 f343:=Tryz.func257.trans (congrArg some (by kernel_rfl))
 t0:=Tryz.underlying0
 a0:=Tryz.isAgg0
 z0:=Tryz.sizeOf0
 v0:=Tryz.zeroValue0
 t3:=Tryz.underlying3
 a3:=Tryz.isAgg3
 z3:=Tryz.sizeOf3
 v3:=Tryz.zeroValue3
 t4:=Tryz.underlying4
 a4:=Tryz.isAgg4
 z4:=Tryz.sizeOf4
 v4:=Tryz.zeroValue4
 t5:=Tryz.underlying5
 a5:=Tryz.isAgg5
 z5:=Tryz.sizeOf5
 v5:=Tryz.zeroValue5
 t9:=Tryz.underlying9
 a9:=Tryz.isAgg9
 z9:=Tryz.sizeOf9
 v9:=Tryz.zeroValue9
 t28:=Tryz.underlying61
 a28:=Tryz.isAgg61
 z28:=Tryz.sizeOf61
 v28:=Tryz.zeroValue61
 t46:=Tryz.underlying193
 a46:=Tryz.isAgg193
 z46:=Tryz.sizeOf193
 v46:=Tryz.zeroValue193
 t51:=Tryz.underlying274
 a51:=Tryz.isAgg274
 z51:=Tryz.sizeOf274
 v51:=Tryz.zeroValue274
 t53:=Tryz.underlying23
 a53:=Tryz.isAgg23
 z53:=Tryz.sizeOf23
 v53:=Tryz.zeroValue23
 t131:=Tryz.underlying125
 a131:=Tryz.isAgg125
 z131:=Tryz.sizeOf125
 v131:=Tryz.zeroValue125
 t182:=Tryz.underlying266
 a182:=Tryz.isAgg266
 z182:=Tryz.sizeOf266
 v182:=Tryz.zeroValue266
 t183:=Tryz.underlying267
 a183:=Tryz.isAgg267
 z183:=Tryz.sizeOf267
 v183:=Tryz.zeroValue267
 t218:=Tryz.underlying316
 a218:=Tryz.isAgg316
 z218:=Tryz.sizeOf316
 v218:=Tryz.zeroValue316
 t222:=Tryz.underlying227
 a222:=Tryz.isAgg227
 z222:=Tryz.sizeOf227
 v222:=Tryz.zeroValue227
 t228:=Tryz.underlying326
 a228:=Tryz.isAgg326
 z228:=Tryz.sizeOf326
 v228:=Tryz.zeroValue326
 t229:=Tryz.underlying327
 a229:=Tryz.isAgg327
 z229:=Tryz.sizeOf327
 v229:=Tryz.zeroValue327}
theorem slices_Sort_int(blk off cap:Nat)(zs:List Int)(w:World)(hH:Holds (Value.int .i64) w blk off zs.toArray)(hblk:blk<w.heap.size)(hsz:zs.length<4611686018427387904):
  Calls Tryz.prog 64 #[.slice (some ⟨blk,off,none⟩) zs.length cap] w fun e w'=>
   e=.returned (.tuple #[])/\∃n os,w'=grow (putRow (Value.int .i64) (Sort.ahead w n) blk off (zs.mergeSort fun x y=>decide (x<=y)).toArray) os:=Any.slices_Sort_int lays189 blk off cap zs w hH hblk hsz
theorem slices_Sort_int_none(p:Option Addr)(cap:Nat)(w:World):
  Calls Tryz.prog 64 #[.slice p 0 cap] w fun e w'=>e=.returned (.tuple #[])/\w'=w:=Any.slices_Sort_int_none lays189 p cap w
end Xb
end Go.Proofs.YtfjdpbbgfjhnlaaGreat
namespace Go.Proofs.YtfjdpbbgfjhnlaaGreat
open Go.RowKit
set_option maxRecDepth 100000
namespace Mst
open aO Vn Go.Sort
abbrev RowOf(v:Value)(k:Nat):Prop:=v.ownBlock=some k
def sS(l:List Int):List Int:=l.mergeSort fun x y=>decide (x<=y)
theorem Ed(l:List Int):(sS l).length=l.length:=by simp[sS]
theorem KG{w:World}{B:Nat}{A:Option Addr}{n c:Nat}{ss:List Int}(hn:n=ss.length)(h:w.ownsRow B 3 1 (.slice A n c) n (ints ss))(hsz:ss.length<4611686018427387904):
  Calls Tryz.prog 64 #[.slice A n c] w fun e w'=>e=.returned (.tuple #[])/\w'.ownsRow B 3 1 (.slice A n c) n (ints (sS ss))/\Kept (RowOf (.slice A n c)) w w':=by
 subst hn
 have h':=h
 rcases h.2 with⟨hv,h0⟩|⟨g,cap,cur,hv,hb',hg,h1,h2,h3,h4⟩
 ·have hs:ss=[]:=List.eq_nil_of_length_eq_zero h0
  subst hs
  refine(Xb.slices_Sort_int_none A c w).mono ?_
  rintro e w' ⟨rfl,rfl⟩
  exact⟨rfl,by simpa [sS]using h',Kept.refl _ _⟩
 ·injection hv with e1 e2 e3
  subst e1
  subst e3
  refine(Xb.slices_Sort_int g 0 c ss w (holds_of_blockI hg (by simpa using h4)) (Array.getElem?_eq_some_iff.1 hg).1 hsz).mono ?_
  rintro e w' ⟨rfl,n,os,rfl⟩
  exact⟨rfl,ownsRow_sortedI (by simp) hb' hg h1 h2 h3,(Kept.refl _ _).grownBy (grownBy_sortedI _) (fun k hk=> .inl hk)⟩
def kE(l:List Int)(id:Int):List Int:=if inB l id=true then l else sS (l++[id])
def wP(w:World)(b:Nat)(s:bQ)(mA:Option Addr)(mc:Nat)(lA:Option Addr)(lc:Nat)(pA:Option Addr)(pc:Nat)(id:Int)(e:Ending)(w':World):Prop:=
 (bY s.ms id=false/\e=.returned (.int .i64 7)/\Kept aj w w')\/
 (bY s.ms id=true/\e=.returned (.int .i64 0)/\∃B d,Has w' b 124 (dG {s with lg:=kE s.lg id} mA mc B d pA pc true)/\w'.ownsRow 0 3 1 (.slice B (kE s.lg id).length d) (kE s.lg id).length (ints (kE s.lg id))/\
  (∀k,RowOf (.slice B (kE s.lg id).length d) k->RowOf (.slice lA s.lg.length lc) k\/w.heap.size<=k)/\Kept (fun k=>k=b\/RowOf (.slice lA s.lg.length lc) k) w w')
theorem Xc(w:World)(b:Nat)(s:bQ)(mA:Option Addr)(mc:Nat)(lA:Option Addr)(lc:Nat)(pA:Option Addr)(pc:Nat)(id:Int)(hb:Has w b 124 (dG s mA mc lA lc pA pc true))
  (hm:Src w 2 mA s.ms.length (aP s.ms)) (hml:s.ms.length<=1000) (hl:w.ownsRow 0 3 1 (.slice lA s.lg.length lc) s.lg.length (ints s.lg)) (hll:s.lg.length<=1000):
  Calls Tryz.prog 88 #[.pointer (some ⟨b,0,none⟩),.int .i64 id] w (wP w b s mA mc lA lc pA pc id):=by
 have hmem:=fun W (hW:Kept aj w W)=>nY W s.ep s.fl mA mc s.ms id (hm.kept hW (fun _ _ z=>z)) (by omega)
 have hcon:=fun W (hW:Kept aj w W)=>kP W lA lc s.lg id ((Src.bC hl).kept hW (fun _ _ z=>z)) (by omega)
 have hce:∀W,Kept aj w W->W.cell? ⟨b,0,none⟩=some (.int .i64 s.ep)/\W.cell? ⟨b,1,none⟩=some (.slice mA s.ms.length mc)/\W.cell? ⟨b,2,none⟩=some (.int .u64 s.fl)/\W.cell? ⟨b,3,none⟩=some (.slice lA s.lg.length lc)/\W.frozen? ⟨b,3,none⟩=false:=fun W hW=>by
  have g:=hb.kept hW (fun z=>z)
  exact⟨g.cell 0,g.cell 1,g.cell 2,g.cell 3,g.frozen 3⟩
 obtain⟨c0,c1,c2,c3,f3⟩:=hce w (Kept.refl _ _)
 have HM:=ah hmem;have Uh:=ah hcon;have jg:=ah hce;have HB:=ah hb;have HL:=ah hl
 have HP:Hid _:=ah (show∀e w',wP w b s mA mc lA lc pA pc id e w'->wP w b s mA mc lA lc pA pc id e w' from fun _ _ h=>h)
 cases h1:bY s.ms id
 ·have H1:=ah h1
  rw[h1]at hmem
  have HM:=ah hmem
  clear hmem hcon hce hb hl hm h1 c3 f3
  go_enter Tryz.func88,Tryz.ntmps88
  go_wp2_with fail
  refine(HM.out _ (Kept.refl _ _)).mono ?_
  rintro e w2 ⟨rfl,hk⟩
  have HK:=ah hk;clear hk
  go_wp2
  go_ret
  exact .inl ⟨H1.out,rfl,HK.out⟩
 ·have H1:=ah h1
  rw[h1]at hmem
  have HM:=ah hmem
  clear hmem hce hm h1 c3 f3
  cases h2:inB s.lg id
  ·have hT:kE s.lg id=sS (s.lg++[id]):=by unfold kE;rw[h2,if_neg (by simp)]
   rw[h2]at hcon
   have HC:=ah hcon;have HT:=ah hT
   clear hcon hb hl h2 hT
   go_enter Tryz.func88,Tryz.ntmps88
   go_wp2_with fail
   refine(HM.out _ (Kept.refl _ _)).mono ?_
   rintro e w2 ⟨rfl,hk⟩
   have HK:=ah hk;clear hk c0 c1 c2
   obtain⟨c0,c1,c2,c3,f3⟩:=jg.out w2 HK.out
   go_wp2_with fail
   refine(HC.out _ HK.out).mono ?_
   rintro e w3 ⟨rfl,hk⟩
   have hk3:=HK.out.then hk
   clear hk c0 c1 c2 c3 f3
   have bn:=ah hk3;clear hk3
   obtain⟨c0,c1,c2,c3,f3⟩:=jg.out w3 bn.out
   go_wp2_with (at_builtin;refine aN jQ (.tmp 23) (.tmp 25) rfl rfl (Value.slice lA s.lg.length lc) rfl (aC (F:=aj) HL.out (bn.out.alloc _) (fun _ _ z=>z)) 1 rfl (Src.dn (Has.new _ _ _) rfl) (by intro u hu;simp at hu;subst hu;rfl) (by unfold maxLen;omega) (by omega) ?_;intro A1 k1 w4 ho1 hg1 ha1;have hk4:Kept (RowOf (.slice lA s.lg.length lc)) w w4:=Kept.grown (Kept.up (bn.out.alloc _)) hg1 (fun k hk=> .inl hk);have hb4:=HB.out.kept hk4 (own_ne HL.out HB.out (by decide));have c4:w4.cell? ⟨b,3,none⟩=some (.slice lA s.lg.length lc):=hb4.cell 3;have f4:=hb4.frozen 3;have tX:=ah (And.intro ho1 (And.intro ha1 (And.intro hk4 hb4)));clear ho1 hg1 ha1 hk4 hb4)
   have hb5:=tX.out.2.2.2.put 3 (.slice A1 (s.lg.length+1) k1)
   have hk5:Kept (fun k=>k=b) w4 (w4.setCell ⟨b,3,none⟩ (.slice A1 (s.lg.length+1) k1)):=(Kept.refl (fun k=>k=b) w4).put (.inl rfl)
   have um:=aC tX.out.1 hk5 (fun g hg hF=>own_ne tX.out.1 tX.out.2.2.2 (by decide) (by rw[hg,hF]))
   have hsrt:=KG (ss:=s.lg++[id]) (n:=s.lg.length+1) (by simp) (by simpa [ints]using um) (by simp;omega)
   have pI:=ah hsrt;have cO:=ah (And.intro hk5 (And.intro hb5 um))
   clear hsrt hk5 hb5 um
   go_wp2_with fail
   refine pI.out.mono ?_
   rintro e w6 ⟨rfl,Dv,hk6⟩
   have jY:=ah (And.intro hk6 Dv);clear hk6 Dv
   have HRB:=ah HB.out.lt
   go_wp2
   go_ret
   have hne:¬RowOf (.slice A1 (s.lg.length+1) k1) b:=own_ne cO.out.2.2 cO.out.2.1 (by decide)
   have hb6:=cO.out.2.1.kept jY.out.1 hne
   have hlen:(sS (s.lg++[id])).length=s.lg.length+1:=by rw[Ed];simp
   have hnew:∀k,RowOf (.slice A1 (s.lg.length+1) k1) k->RowOf (.slice lA s.lg.length lc) k\/w.heap.size<=k:=by
    intro k hk
    rcases tX.out.2.1 with e|e
    ·exact .inl (e.symm.trans hk)
    ·have h9:=e.symm.trans hk
     injection h9 with h9
     have:=bn.out.size
     simp only[size_alloc]at h9
     exact .inr (by omega)
   refine .inr ⟨H1.out,rfl,A1,k1,?_⟩
   rw[HT.out,hlen]
   refine⟨?_,jY.out.2,hnew,?_⟩
   ·have e9:dG {s with lg:=sS (s.lg++[id])} mA mc A1 k1 pA pc true=(dG s mA mc lA lc pA pc true).setIfInBounds 3 (.slice A1 (s.lg.length+1) k1):=by
     simp[dG,hlen]
    rw[e9]
    exact hb6
   ·refine Kept.trans (F:=fun k=>k=b\/RowOf (.slice lA s.lg.length lc) k) (G:=fun k=>k=b\/RowOf (.slice A1 (s.lg.length+1) k1) k) (tX.out.2.2.1.mono (fun k hk=> .inr hk)) ((cO.out.1.mono (fun k hk=> .inl hk)).then (jY.out.1.mono (fun k hk=> .inr hk))) ?_
    rintro k (hk|hk)
    ·exact .inl (.inl hk)
    ·rcases hnew k hk with h|h
     ·exact .inl (.inr h)
     ·exact .inr h
  ·have hT:kE s.lg id=s.lg:=by unfold kE;rw[h2,if_pos rfl]
   rw[h2]at hcon
   have HC:=ah hcon;have HT:=ah hT
   clear hcon hb hl h2 hT
   go_enter Tryz.func88,Tryz.ntmps88
   go_wp2_with fail
   refine(HM.out _ (Kept.refl _ _)).mono ?_
   rintro e w2 ⟨rfl,hk⟩
   have HK:=ah hk;clear hk c0 c1 c2
   obtain⟨c0,c1,c2,c3,f3⟩:=jg.out w2 HK.out
   go_wp2_with fail
   refine(HC.out _ HK.out).mono ?_
   rintro e w3 ⟨rfl,hk⟩
   have hk3:=HK.out.then hk
   clear hk c0 c1 c2 c3 f3
   have bn:=ah hk3;clear hk3
   go_wp2
   go_ret
   refine .inr ⟨H1.out,rfl,lA,lc,?_⟩
   rw[HT.out]
   exact⟨HB.out.kept bn.out (fun z=>z),aC HL.out bn.out (fun _ _ z=>z),fun k hk=> .inl hk,Kept.up bn.out⟩
end Mst
namespace Mst
open aO Vn Go.Sort
def pJ(s:bQ)(p:aY):Int:=if 0<=dJ s.pins p.id then 0 else if 3<=s.pins.length then 17 else if p.id<=s.top then 18 else if p.at'<s.hz then 13 else 0
def jW(s:bQ)(p:aY):bQ:=if 0<=dJ s.pins p.id then {s with pins:=jB s.pins p.id}else{s with pins:=s.pins++[⟨p.id,p.at',8⟩],top:=p.id}
def AX(w:World)(b:Nat)(s:bQ)(mA:Option Addr)(mc:Nat)(lA:Option Addr)(lc:Nat)(pA:Option Addr)(pc:Nat)(p:aY)(e:Ending)(w':World):Prop:=
 (pJ s p≠0/\e=.returned (.int .i64 (pJ s p))/\Kept aj w w')\/
 (pJ s p=0/\e=.returned (.int .i64 0)/\∃B d,Has w' b 124 (dG (jW s p) mA mc lA lc B d true)/\w'.ownsRow 0 53 3 (.slice B (jW s p).pins.length d) (jW s p).pins.length (aS (jW s p).pins)/\
  (∀k,RowOf (.slice B (jW s p).pins.length d) k->RowOf (.slice pA s.pins.length pc) k\/w.heap.size<=k)/\Kept (fun k=>k=b\/RowOf (.slice pA s.pins.length pc) k) w w')
theorem pK(l:List aY)(id:Int):(jB l id).length=l.length:=by unfold jB;split<;>simp
theorem JK(w:World)(b:Nat)(s:bQ)(mA:Option Addr)(mc:Nat)(lA:Option Addr)(lc:Nat)(pA:Option Addr)(pc:Nat)(p:aY)(hb:Has w b 124 (dG s mA mc lA lc pA pc true))
  (hp:w.ownsRow 0 53 3 (.slice pA s.pins.length pc) s.pins.length (aS s.pins)) (hpl:s.pins.length<=1000):
  Calls Tryz.prog 89 #[.pointer (some ⟨b,0,none⟩),BK p] w (AX w b s mA mc lA lc pA pc p):=by
 have N7:=fun W (hW:Kept aj w W)=>KD W pA pc s.pins p.id ((Src.bC hp).kept hW (fun _ _ z=>z)) (fV hp).1 (by omega)
 have hbn:b≠w.heap.size:=by have:=hb.lt;omega
 obtain⟨E,hE⟩:∃E,pJ s p=E:=⟨_,rfl⟩
 have KF:∀w',E≠0->Kept aj w w'->AX w b s mA mc lA lc pA pc p (.returned (.int .i64 E)) w':=fun w' h0 hk=> .inl ⟨by rw[hE];exact h0,by rw[hE],hk⟩
 have hP0:∀w' B d,E=0->Has w' b 124 (dG (jW s p) mA mc lA lc B d true)->w'.ownsRow 0 53 3 (.slice B (jW s p).pins.length d) (jW s p).pins.length (aS (jW s p).pins)->
   (∀k,RowOf (.slice B (jW s p).pins.length d) k->RowOf (.slice pA s.pins.length pc) k\/w.heap.size<=k)->Kept (fun k=>k=b\/RowOf (.slice pA s.pins.length pc) k) w w'->AX w b s mA mc lA lc pA pc p (.returned (.int .i64 0)) w':=
  fun w' B d h0 h1 h2 h3 h4=> .inr ⟨by rw[hE,h0],rfl,B,d,h1,h2,h3,h4⟩
 unfold pJ at hE
 obtain⟨id,at2,left⟩:=p
 dsimp only at hE hP0 KF N7
 obtain⟨W0,hW0⟩:∃W0,w.alloc (.cells #[.int .i64 id,.int .u64 at2,.int .i64 left] 53)=W0:=⟨_,rfl⟩
 have hk0:Kept aj w W0:=by rw[<-hW0];(repeat'(first|(with_reducible first|exact ak|apply au|apply ay|apply aA|apply aB)|(right;simp;done)))
 have hn0:Has W0 w.heap.size 53 #[.int .i64 id,.int .u64 at2,.int .i64 left]:=by rw[<-hW0];exact Has.new _ _ _
 have hb0:=hb.kept hk0 (fun z=>z)
 have hce:∀W,Kept aj W0 W->W.cell? ⟨w.heap.size,0,none⟩=some (.int .i64 id)/\W.cell? ⟨w.heap.size,1,none⟩=some (.int .u64 at2)/\W.cell? ⟨b,5,none⟩=some (.slice pA s.pins.length pc)/\W.cell? ⟨b,4,none⟩=some (.int .u64 s.hz)/\W.cell? ⟨b,6,none⟩=some (.int .i64 s.top)/\W.frozen? ⟨b,5,none⟩=false:=fun W hW=>by
  have g:=hn0.kept hW (fun z=>z)
  have g2:=hb0.kept hW (fun z=>z)
  exact⟨g.cell 0,g.cell 1,g2.cell 5,g2.cell 4,g2.cell 6,g2.frozen 5⟩
 obtain⟨q0,q1,q5,q4,q6,f5⟩:=hce W0 (Kept.refl _ _)
 have hsep:=own_ne (aC hp hk0 (fun _ _ z=>z)) hb0 (by decide)
 by_cases h0:0<=dJ s.pins id
 ·rw[if_pos h0]at hE
  subst hE
  have Il:∀W,Kept aj w W->Calls Tryz.prog 155 #[.slice pA s.pins.length pc,.int .i64 id] W fun e w'=>∃A c,e=.returned (.tuple #[.slice A s.pins.length c,.int .i64 0])/\aF 53 3 W.heap.size w' A s.pins.length c (aS (jB s.pins id))/\Kept aj W w':=fun W hW=>(N7 W hW).mono fun e w' h=>by
   rcases h with⟨h1,_⟩|⟨_,A,c,h1,h2,h3⟩
   ·omega
   ·rw[pK]at h1 h2;exact⟨A,c,h1,h2,h3⟩
  have hS:jW s ⟨id,at2,left⟩={s with pins:=jB s.pins id}:=by unfold jW;rw[if_pos h0]
  rw[hS]at hP0
  have WY:=ah hP0;have HR:=ah Il;have jg:=ah hce;have HB0:=ah hb0
  have bf:=ah hk0;have agM:=ah hsep;have HBL:=ah hb.lt
  clear KF hP0 N7 Il hce hn0 hb0 hk0 hbn hp hb hS h0 hsep q0 q1 q4 q6
  go_enter Tryz.func89,Tryz.ntmps89
  go_wp2_with fail
  clear hW0
  have q:=jg.out W0 (Kept.refl _ _)
  obtain⟨q0,q1,q5,q4,q6,f5⟩:=q
  have HS:=ah (Kept.refl aj W0)
  go_region_held3 (fun W=>W.cell? ⟨w.heap.size,0,none⟩=some (.int .i64 id)/\W.cell? ⟨w.heap.size,1,none⟩=some (.int .u64 at2)/\W.cell? ⟨b,5,none⟩=some (.slice pA s.pins.length pc)/\W.cell? ⟨b,4,none⟩=some (.int .u64 s.hz)/\W.cell? ⟨b,6,none⟩=some (.int .i64 s.top)/\W.frozen? ⟨b,5,none⟩=false)
   (first|with_reducible exact jg.out _ HS.out|exact jg.out _ HS.out.drew|(simp[go_sem,q0,q1,q5,q4,q6,f5];done))
   (first
    |(go_at_call 155;((with_reducible refine(HR.out _ ?_).mono ?_);exact bf.out.then (by(repeat'(first|(with_reducible first|exact ak|apply au|apply ay|apply aA|apply aB)|(exact HS.out)|(right;simp;done))));rintro e w5 ⟨A5,c5,rfl,jO,hk5⟩;have hk:=Kept.then (F:=aj) (a:=W0) (by(repeat'(first|(with_reducible first|exact ak|apply au|apply ay|apply aA|apply aB)|(exact HS.out)|(right;simp;done)))) hk5;have uo:=ah (And.intro jO HS.out.size);clear HS hk5 jO;have HS:=ah hk;clear hk)))
  clear q0 q1 q5 q4 q6 f5
  obtain⟨q0,q1,q5,q4,q6,f5⟩:=jg.out _ HS.out
  go_wp2
  go_ret
  have hb5:=HB0.out.kept HS.out (fun z=>z)
  have hk6:Kept (fun k=>k=b) w5 (w5.setCell ⟨b,5,none⟩ (.slice A5 s.pins.length c5)):=(Kept.refl (fun k=>k=b) w5).put (.inl rfl)
  have hne:=own_ne uo.out.1.1 hb5 (by decide)
  refine WY.out _ A5 c5 trivial ?_ ?_ ?_ (((Kept.up (bf.out.then HS.out)).then hk6).mono (fun k hk=> .inl hk))
  ·unfold dG
   dsimp only
   rw[pK]
   ((repeat (first|with_reducible exact hb5|with_reducible apply Has.dB|with_reducible apply Has.past|with_reducible apply Has.drewN|with_reducible apply Has.drew|with_reducible apply Has.alloc))<;>first|omega|rfl)
  ·rw[pK]
   exact aC uo.out.1.1 hk6 (fun g hg hF=>hne (by rw[hg,hF]))
  ·rw[pK]
   exact fun k hk=> .inr (Nat.le_trans bf.out.size (Nat.le_trans uo.out.2 (uo.out.1.2 k hk)))
 ·rw[if_neg h0]at hE
  have Il:∀W,Kept aj w W->Calls Tryz.prog 155 #[.slice pA s.pins.length pc,.int .i64 id] W fun e w'=>e=.returned (.tuple #[.slice none 0 0,.int .i64 7])/\Kept aj W w':=fun W hW=>(N7 W hW).mono fun e w' h=>by
   rcases h with⟨_,h1,h2⟩|⟨h1,_⟩
   ·exact⟨h1,h2⟩
   ·omega
  have hS:jW s ⟨id,at2,left⟩={s with pins:=s.pins++[⟨id,at2,8⟩],top:=id}:=by unfold jW;rw[if_neg h0]
  rw[hS]at hP0
  have Dt:=ah KF;have HE:=ah hE
  have WY:=ah hP0;have HR:=ah Il;have jg:=ah hce;have HB0:=ah hb0;have dO:=ah hn0
  have bf:=ah hk0;have agM:=ah hsep;have HBL:=ah hb.lt;have KH:=ah (aC hp hk0 (fun _ _ z=>z));have WZ:=ah hbn;have yK:=ah hp
  clear KF hE hP0 N7 Il hce hn0 hb0 hk0 hbn hp hb hS h0 hsep q0 q1 q4 q6
  go_enter Tryz.func89,Tryz.ntmps89
  go_wp2_with fail
  clear hW0
  have q:=jg.out W0 (Kept.refl _ _)
  obtain⟨q0,q1,q5,q4,q6,f5⟩:=q
  have HS:=ah (Kept.refl aj W0)
  go_region_held3 (fun W=>W.cell? ⟨w.heap.size,0,none⟩=some (.int .i64 id)/\W.cell? ⟨w.heap.size,1,none⟩=some (.int .u64 at2)/\W.cell? ⟨b,5,none⟩=some (.slice pA s.pins.length pc)/\W.cell? ⟨b,4,none⟩=some (.int .u64 s.hz)/\W.cell? ⟨b,6,none⟩=some (.int .i64 s.top)/\W.frozen? ⟨b,5,none⟩=false)
   (first|with_reducible exact jg.out _ HS.out|exact jg.out _ HS.out.drew|(simp[go_sem,q0,q1,q5,q4,q6,f5];done))
   (first
    |(go_at_call 155;((with_reducible refine(HR.out _ ?_).mono ?_);exact bf.out.then (by(repeat'(first|(with_reducible first|exact ak|apply au|apply ay|apply aA|apply aB)|(exact HS.out)|(right;simp;done))));rintro e w5 ⟨rfl,hk5⟩;have hk:=Kept.then (F:=aj) (a:=W0) (by(repeat'(first|(with_reducible first|exact ak|apply au|apply ay|apply aA|apply aB)|(exact HS.out)|(right;simp;done)))) hk5;clear HS hk5;have HS:=ah hk;clear hk)))
  clear q0 q1 q5 q4 q6 f5
  obtain⟨q0,q1,q5,q4,q6,f5⟩:=jg.out _ HS.out
  by_cases h3:3<=s.pins.length
  ·have he:=HE.out
   rw[if_pos h3]at he
   subst he
   have h3':(3:Int)<=(s.pins.length:Int):=by omega
   go_wp2
   go_ret
   exact Dt.out _ (by decide) (bf.out.then HS.out)
  ·have h3':¬(3:Int)<=(s.pins.length:Int):=by omega
   have he:=HE.out
   rw[if_neg h3]at he
   clear HE
   have HE:=ah he;clear he
   by_cases h4:id<=s.top
   ·have he:=HE.out
    rw[if_pos h4]at he
    subst he
    go_wp2_with fail
    go_quiet (fail)
    go_wp2
    go_ret
    exact Dt.out _ (by decide) ((bf.out.then HS.out).drewN _)
   ·have he:=HE.out
    rw[if_neg h4]at he
    clear HE
    have HE:=ah he;clear he
    have aeu:∀n,(w5.drewN n).cell? ⟨w.heap.size,1,none⟩=some (.int .u64 at2)/\(w5.drewN n).cell? ⟨b,4,none⟩=some (.int .u64 s.hz):=fun n=>⟨q1,q4⟩
    have HC2:=ah aeu;clear aeu
    by_cases h5:at2<s.hz
    ·have he:=HE.out
     rw[if_pos h5]at he
     subst he
     go_wp2_with fail
     go_quiet (fail)
     obtain⟨r1,r4⟩:=HC2.out nq
     go_wp2_with fail
     go_quiet (fail)
     go_wp2
     go_ret
     exact Dt.out _ (by decide) (((bf.out.then HS.out).drewN _).drewN _)
    ·have he:=HE.out
     rw[if_neg h5]at he
     clear HE
     have HE:=ah he;clear he
     go_wp2_with fail
     go_quiet (fail)
     obtain⟨r1,r4⟩:=HC2.out nq
     go_wp2_with fail
     go_quiet (fail)
     clear r1 r4 q0 q1 q5 q4 q6 f5 HC2
     generalize hw6:World.drewN (World.drewN w5 _) _=w6
     have hk6:Kept aj W0 w6:=by rw[<-hw6];exact(HS.out.drewN _).drewN _
     have hx6:=dO.out.kept hk6 (fun z=>z)
     have hb6:=HB0.out.kept hk6 (fun z=>z)
     have Dv:=aC KH.out hk6 (fun _ _ z=>z)
     clear hw6
     have x2:w6.cell? ⟨w.heap.size,2,none⟩=some (.int .i64 left):=hx6.cell 2
     have y2:=hx6.frozen 2
     have HX6:=ah (And.intro hx6 (And.intro hb6 Dv));have jY:=ah hk6
     clear hx6 hb6 Dv hk6 HS
     go_wp2_with fail
     clear x2 y2
     obtain⟨w7,hw7⟩:∃w7,w6.setCell ⟨w.heap.size,2,none⟩ (.int .i64 8)=w7:=⟨_,rfl⟩
     rw[hw7]
     have hx7:Has w7 w.heap.size 53 #[.int .i64 id,.int .u64 at2,.int .i64 8]:=by rw[<-hw7];exact HX6.out.1.dB rfl
     have hb7:Has w7 b 124 (dG s mA mc lA lc pA pc true):=by rw[<-hw7];exact HX6.out.2.1.past WZ.out
     have lN:Kept aj w w7:=by rw[<-hw7];exact(bf.out.then jY.out).put (.inr (Nat.le_refl _))
     have sG:=aC yK.out lN (fun _ _ z=>z)
     clear hw7
     have P0:w7.cell? ⟨w.heap.size,0,none⟩=some (.int .i64 id):=hx7.cell 0
     have P1:w7.cell? ⟨w.heap.size,1,none⟩=some (.int .u64 at2):=hx7.cell 1
     have P2:w7.cell? ⟨w.heap.size,2,none⟩=some (.int .i64 8):=hx7.cell 2
     have Q5:w7.cell? ⟨b,5,none⟩=some (.slice pA s.pins.length pc):=hb7.cell 5
     have hm1:s.pins.length+1<=maxLen:=by unfold maxLen;omega
     have hm2:(s.pins.length+1)*24<=140737488355328:=by omega
     have gq:=ah hm1;have iO:=ah hm2;have HX7:=ah hx7;have HB7:=ah hb7;have yE:=ah lN;have HO7:=ah sG
     have hxl:=hx7.lt;have hbl:=hb7.lt
     have nV:Hid (¬RowOf (.slice pA s.pins.length pc) w.heap.size):=ah (fun h=>Nat.lt_irrefl _ (lH yK.out h))
     have Sm:Hid (¬RowOf (.slice pA s.pins.length pc) b):=ah (own_ne sG hb7 (by decide))
     clear hm1 hm2 hx7 hb7 lN sG
     have agN:=WZ.out
     have ah9:w.heap.size≠b:=fun e=>agN e.symm
     go_region_law (first
      |(with_reducible apply uj AU (.tmp 52) (.tmp 54) (n:=s.pins.length) (xs:=aS s.pins) (A:=some ⟨_,0,none⟩) (m:=1) (c:=1) (news:=[.int .i64 id,.int .u64 at2,.int .i64 8])
        rfl
        rfl
        exact(rfl:_=Value.slice pA s.pins.length pc)
        (refine aC HO7.out (F:=aj) ?_ (fun _ _ x=>x);(repeat'(first|(with_reducible first|exact ak|apply au|apply ay|apply aA|apply aB)|(right;simp;done))))
        exact(rfl:_=Value.slice (some ⟨_,0,none⟩) 1 1)
        (refine Src.dn (t:=53) (cs:=#[.int .i64 id,.int .u64 at2,.int .i64 8]) ?_ rfl;(repeat (with_reducible first|exact Has.bT _ _ _ (by simp)|apply Has.drew|apply Has.drewN|apply Has.alloc|(apply Has.past<;>(try omega)))))
        (intro u hu;simp at hu;rcases hu with rfl|rfl|rfl<;>rfl)
        exact gq.out
        exact iO.out
        intro A8 c8 w8 Xd hg8 ha8
        have hk8:Kept (RowOf (.slice pA s.pins.length pc)) w7 w8:=by refine Kept.grown ?_ hg8 (fun k hk=> .inl hk);(repeat'(first|(with_reducible first|exact ak|apply au|apply ay|apply aA|apply aB)|(right;simp;done)))
        have hb8:=HB7.out.kept hk8 Sm.out
        have RZ:=HX7.out.kept hk8 nV.out
        have P0':w8.cell? ⟨w.heap.size,0,none⟩=some (.int .i64 id):=RZ.cell 0
        have R5:w8.cell? ⟨b,5,none⟩=some (.slice pA s.pins.length pc):=hb8.cell 5
        have R6:w8.cell? ⟨b,6,none⟩=some (.int .i64 s.top):=hb8.cell 6
        have F5:w8.frozen? ⟨b,5,none⟩=false:=hb8.frozen 5
        have F6:w8.frozen? ⟨b,6,none⟩=false:=hb8.frozen 6))
     all_goals
      have hnew:∀k,RowOf (.slice A8 (s.pins.length+1) c8) k->RowOf (.slice pA s.pins.length pc) k\/w.heap.size<=k:=by
       intro k hk
       rcases ha8 with e|e
       ·exact .inl (e.symm.trans hk)
       ·have h9:=e.symm.trans hk
        injection h9 with h9
        have:=yE.out.size
        first|(simp at h9;exact .inr (by omega))|exact .inr (by omega)
      have HZ:=ah (And.intro Xd (And.intro hnew (And.intro hk8 hb8)))
      have aev:=own_ne Xd hb8 (by decide)
      have agO:=ah aev
      clear Xd hnew hk8 hb8 hg8 ha8 aev
      go_wp2
      go_ret
      obtain⟨Xd,hnew,hk8,hb8⟩:=HZ.out
      have iC:Kept (fun k=>k=b) w8 ((w8.setCell ⟨b,5,none⟩ (.slice A8 (s.pins.length+1) c8)).setCell ⟨b,6,none⟩ (.int .i64 id)):=((Kept.refl (fun k=>k=b) w8).put (.inl rfl)).put (.inl rfl)
      have e9:(s.pins++[(⟨id,at2,8⟩:aY)]).length=s.pins.length+1:=by simp
      refine WY.out _ A8 c8 (by first|trivial|exact HE.out.symm) ?_ ?_ ?_ ?_
      ·unfold dG
       dsimp only
       rw[e9]
       ((repeat (first|with_reducible exact hb8|with_reducible apply Has.dB|with_reducible apply Has.past|with_reducible apply Has.drewN|with_reducible apply Has.drew|with_reducible apply Has.alloc))<;>first|omega|rfl)
      ·rw[e9,sQ]
       exact aC Xd iC (fun g hg hF=>agO.out (by rw[hg,hF]))
      ·rw[e9]
       exact hnew
      ·exact(Kept.trans (F:=fun k=>k=b\/RowOf (.slice pA s.pins.length pc) k) (Kept.up yE.out) (hk8.mono (fun k hk=> .inr hk)) (fun k hk=> .inl hk)).then (iC.mono (fun k hk=> .inl hk))
end Mst
end Go.Proofs.YtfjdpbbgfjhnlaaGreat
