/- Part 15 of what the proof needs. -/
import Derived.Test.YtolkgbafebehfaaGreatZP13
import Derived.Shelf.Sort.Plain
import Derived.Shelf.Slices.In.SortNone
import Derived.Sort.OwnSortedInts
set_option linter.unusedSimpArgs false
set_option linter.unusedVariables false
set_option maxHeartbeats 32000000
set_option maxRecDepth 100000
namespace Go.Proofs.YtolkgbafebehfaaGreat
open Go.RowKit
set_option maxRecDepth 100000
theorem Kept.up{F:Nat->Prop}{a b:World}(h:Kept aj a b):Kept F a b:=h.mono (fun _ z=>z.elim)
namespace Mst
open aP Vn
def lW(s:bV)(x:aN):Int:=if x.ep<=s.ep then 18 else if(x.lg.any fun id=> !dZ x.ms id)=true then 7 else if inB x.lg (lV x.ms)=false then 18 else 0
def jw(w:World)(b:Nat)(s:bV)(x:aN)(pA:Option Addr)(pc:Nat)(e:Ending)(w':World):Prop:=
 (lW s x≠0/\e=.returned (.int .i64 (lW s x))/\Kept aj w w')\/
 (lW s x=0/\e=.returned (.int .i64 0)/\∃A c B d,Has w' b 171 (bZ {s with ep:=x.ep,ms:=x.ms,fl:=x.fl,lg:=x.lg} A c B d pA pc true)/\
  aF 53 2 w.heap.size w' A x.ms.length c (aS x.ms)/\aF 3 1 w.heap.size w' B x.lg.length d (ints x.lg)/\Kept (fun k=>k=b) w w')
theorem next_any(w:World)(b:Nat)(s:bV)(mA:Option Addr)(mc:Nat)(lA:Option Addr)(lc:Nat)(pA:Option Addr)(pc:Nat)(x:aN)(hb:Has w b 171 (bZ s mA mc lA lc pA pc true))(h:gU w x):
  Calls Tryz.prog 133 #[.pointer (some ⟨b,0,none⟩),eY x] w (jw w b s x pA pc):=by
 obtain⟨E,hE⟩:∃E,lW s x=E:=⟨_,rfl⟩
 have Gi:∀w',E≠0->Kept aj w w'->jw w b s x pA pc (.returned (.int .i64 E)) w':=fun w' h0 hk=> .inl ⟨by rw[hE];exact h0,by rw[hE],hk⟩
 have hP0:∀w' A c B d,E=0->Has w' b 171 (bZ {s with ep:=x.ep,ms:=x.ms,fl:=x.fl,lg:=x.lg} A c B d pA pc true)->
   aF 53 2 w.heap.size w' A x.ms.length c (aS x.ms)->aF 3 1 w.heap.size w' B x.lg.length d (ints x.lg)->Kept (fun k=>k=b) w w'->jw w b s x pA pc (.returned (.int .i64 0)) w':=
  fun w' A c B d h0 h1 h2 h3 h4=> .inr ⟨by rw[hE,h0],rfl,A,c,B,d,h1,h2,h3,h4⟩
 unfold lW at hE
 have hbn:b≠w.heap.size:=by have:=hb.lt;omega
 --the world behind the box
 obtain⟨W0,hW0⟩:∃W0,w.alloc (.cells (aH x).toArray 100)=W0:=⟨_,rfl⟩
 have hk0:Kept aj w W0:=by rw[<-hW0];(repeat'(first|(with_reducible first|exact ak|apply au|apply ay|apply aA|apply aB)|(right;simp;done)))
 have hn0:Has W0 w.heap.size 100 (aH x).toArray:=by rw[<-hW0];exact Has.new _ _ _
 have hb0:=hb.kept hk0 (fun z=>z)
 have h0:=h.kept hk0
 have hstr:=fun W (hW:Kept aj W0 W)=>Oz W x.lA x.lc x.lg 228 (.pointer (some ⟨w.heap.size,0,none⟩)) (fun id=> !dZ x.ms id) (fun args W=>enters Tryz.func228 (by kernel_rfl) rfl args W) (h0.kept hW).l (by have:=h.ll;omega)
  (fun W2 y hW2 _=>Rq W2 x w.heap.size y ((hn0.kept hW (fun z=>z)).kept hW2 (fun z=>z)) ((h0.kept hW).kept hW2))
 have hhead:=fun W (hW:Kept aj W0 W)=>Ar W x.ep x.fl x.mA x.mc x.ms (h0.kept hW).m (by have:=h.ml;omega)
 have hcon:=fun W (hW:Kept aj W0 W)=>kV W x.lA x.lc x.lg (lV x.ms) (h0.kept hW).l (by have:=h.ll;omega)
 have hown:=fun W (hW:Kept aj W0 W)=>Fe W x.ep x.fl x.mA x.mc x.ms (h0.kept hW).m (by have:=h.ml;omega)
 have hcl:=fun W (hW:Kept aj W0 W)=>wB W x.lA x.lc x.lg (h0.kept hW).l (by have:=h.ll;omega)
 obtain⟨S7,hS7⟩:∃S7,(x.lg.any fun id=> !dZ x.ms id)=S7:=⟨_,rfl⟩
 obtain⟨S8,hS8⟩:∃S8,inB x.lg (lV x.ms)=S8:=⟨_,rfl⟩
 obtain⟨HI,hHI⟩:∃HI,lV x.ms=HI:=⟨_,rfl⟩
 rw[hS7,hS8]at hE
 rw[hS7]at hstr
 rw[hS8]at hcon
 rw[hHI]at hcon hhead
 clear h h0 hS7 hS8 hHI
 obtain⟨k,n,at2,ep,uq,uw,ms,fl,lA2,uy,lg,oA,oc,⟨gZ,eG,ops⟩,ts,⟨p1,p2,p3⟩,⟨s1,s2,s3,s4⟩⟩:=x
 simp only[aH]at hP0 Gi hE hn0 hstr hhead hcon hown hcl
 have hcells:∀W,Kept aj W0 W->W.cell? ⟨w.heap.size,3,none⟩=some (.int .i64 ep)/\W.cell? ⟨w.heap.size,4,none⟩=some (.slice uq ms.length uw)/\W.cell? ⟨w.heap.size,5,none⟩=some (.int .u64 fl)/\W.cell? ⟨w.heap.size,6,none⟩=some (.slice lA2 lg.length uy):=fun W hW=>by
  have g:=hn0.kept hW (fun z=>z)
  exact⟨g.cell 3,g.cell 4,g.cell 5,g.cell 6⟩
 have hfr:∀W,Kept aj W0 W->Has W b 171 (bZ s mA mc lA lc pA pc true):=fun W hW=>hb0.kept hW (fun z=>z)
 have Ny:∀W,Kept (fun k=>k=b) W0 W->W.cell? ⟨w.heap.size,3,none⟩=some (.int .i64 ep)/\W.cell? ⟨w.heap.size,4,none⟩=some (.slice uq ms.length uw)/\W.cell? ⟨w.heap.size,5,none⟩=some (.int .u64 fl)/\W.cell? ⟨w.heap.size,6,none⟩=some (.slice lA2 lg.length uy):=fun W hW=>by
  have g:=hn0.kept hW (fun z=>hbn z.symm)
  exact⟨g.cell 3,g.cell 4,g.cell 5,g.cell 6⟩
 have acy:=ah Ny;clear Ny
 obtain⟨c3,c4,c5,c6⟩:=hcells W0 (Kept.refl _ _)
 have cb:=hb0.cell 0
 simp only[List.getElem?_toArray,List.getElem?_cons_zero,List.getElem?_cons_succ]at cb
 have zK:=ah Gi;have Rt:=ah hP0;have HE:=ah hE;have HST:=ah hstr;have F8:=ah hhead;have OQ:=ah hcon;have qP:=ah hown;have o9:=ah hcl;have iD:=ah hcells;have HFR:=ah hfr
 have aW:=ah hk0
 have Ru:=ah (And.intro hbn hb.lt)
 clear Gi hP0 hE hstr hhead hcon hown hcl hcells hfr hb hb0 hn0 hk0 hbn
 go_enter Tryz.func133,Tryz.ntmps133
 go_wp2_with fail
 clear hW0
 by_cases h1:ep<=s.ep
 ·have he:=HE.out
  rw[if_pos h1]at he
  subst he
  go_quiet (fail)
  go_wp2
  go_ret
  exact zK.out _ (by decide) (aW.out.then (by(repeat'(first|(with_reducible first|exact ak|apply au|apply ay|apply aA|apply aB)|(right;simp;done)))))
 ·have he:=HE.out
  rw[if_neg h1]at he
  clear HE
  have HE:=ah he;clear he
  go_quiet (fail)
  have q:=iD.out (W0.drewN nq) (by(repeat'(first|(with_reducible first|exact ak|apply au|apply ay|apply aA|apply aB)|(right;simp;done))))
  obtain⟨q3,q4,q5,q6⟩:=q
  clear c3 c4 c5 c6 cb
  go_wp2_with fail
  refine(HST.out _ (by(repeat'(first|(with_reducible first|exact ak|apply au|apply ay|apply aA|apply aB)|(right;simp;done))))).mono ?_
  rintro e w2 ⟨rfl,hk⟩
  have hk2:=Kept.then (F:=aj) (a:=W0) (by(repeat'(first|(with_reducible first|exact ak|apply au|apply ay|apply aA|apply aB)|(right;simp;done)))) hk
  have aQ:=ah hk2;clear hk hk2 q3 q4 q5 q6
  cases S7
  ·have he:=HE.out
   rw[if_neg (by simp)]at he
   clear HE
   have HE:=ah he;clear he
   obtain⟨q3,q4,q5,q6⟩:=iD.out w2 aQ.out
   go_wp2_with fail
   have HS:=ah (Kept.refl aj w2)
   go_region_held3 (fun W=>W.cell? ⟨w.heap.size,3,none⟩=some (.int .i64 ep)/\W.cell? ⟨w.heap.size,4,none⟩=some (.slice uq ms.length uw)/\W.cell? ⟨w.heap.size,5,none⟩=some (.int .u64 fl)/\W.cell? ⟨w.heap.size,6,none⟩=some (.slice lA2 lg.length uy))
    (first|with_reducible exact iD.out _ (aQ.out.then HS.out)|exact iD.out _ (aQ.out.then HS.out.drew)|(simp[go_sem,q3,q4,q5,q6];done))
    (first
     |(go_at_call 145;((with_reducible refine(F8.out _ ?_).mono ?_);exact aQ.out.then (by(repeat'(first|(with_reducible first|exact ak|apply au|apply ay|apply aA|apply aB)|(exact HS.out)|(right;simp;done))));rintro e w5 ⟨rfl,hk0⟩;have hk:=Kept.then (F:=aj) (a:=w2) (by(repeat'(first|(with_reducible first|exact ak|apply au|apply ay|apply aA|apply aB)|(exact HS.out)|(right;simp;done)))) hk0;clear HS hk0;have HS:=ah hk;clear hk))
     |(go_at_call 142;((with_reducible refine(OQ.out _ ?_).mono ?_);exact aQ.out.then (by(repeat'(first|(with_reducible first|exact ak|apply au|apply ay|apply aA|apply aB)|(exact HS.out)|(right;simp;done))));rintro e w5 ⟨rfl,hk0⟩;have hk:=Kept.then (F:=aj) (a:=w2) (by(repeat'(first|(with_reducible first|exact ak|apply au|apply ay|apply aA|apply aB)|(exact HS.out)|(right;simp;done)))) hk0;clear HS hk0;have HS:=ah hk;clear hk)))
   have cO:=ah (aQ.out.then HS.out);clear HS aQ q3 q4 q5 q6
   obtain⟨q3,q4,q5,q6⟩:=iD.out w5 cO.out
   cases S8
   ·have he:=HE.out
    rw[if_pos rfl]at he
    subst he
    go_wp2
    go_ret
    exact zK.out _ (by decide) (aW.out.then cO.out)
   ·have he:=HE.out
    rw[if_neg (by simp)]at he
    clear HE
    have HE:=ah he;clear he
    have hst:∀W,Kept aj w5 W->W.cell? ⟨b,0,none⟩=some (.int .i64 s.ep)/\W.cell? ⟨b,1,none⟩=some (.slice mA s.ms.length mc)/\W.cell? ⟨b,2,none⟩=some (.int .u64 s.fl)/\W.cell? ⟨b,3,none⟩=some (.slice lA s.lg.length lc)/\W.frozen? ⟨b,0,none⟩=false/\W.frozen? ⟨b,1,none⟩=false/\W.frozen? ⟨b,2,none⟩=false/\W.frozen? ⟨b,3,none⟩=false:=fun W hW=>by
     have g:=HFR.out W (cO.out.then hW)
     exact⟨g.cell 0,g.cell 1,g.cell 2,g.cell 3,g.frozen 0,g.frozen 1,g.frozen 2,g.frozen 3⟩
    have Jf:=ah hst;clear hst
    go_wp2_with fail
    have HS:=ah (Kept.refl aj w5)
    go_region_held3 (fun W=>W.cell? ⟨w.heap.size,3,none⟩=some (.int .i64 ep)/\W.cell? ⟨w.heap.size,4,none⟩=some (.slice uq ms.length uw)/\W.cell? ⟨w.heap.size,5,none⟩=some (.int .u64 fl)/\W.cell? ⟨w.heap.size,6,none⟩=some (.slice lA2 lg.length uy))
     (first|with_reducible exact iD.out _ (cO.out.then HS.out)|(refine acy.out _ ?_;(repeat'(first|(with_reducible first|exact ak|apply au|apply ay|apply aA|apply aB)|(first|exact Or.inl (Or.inl rfl)|exact Or.inl rfl|with_reducible exact Kept.up (cO.out.then HS.out))|(right;simp;done)));done)|exact iD.out _ (cO.out.then HS.out.drew)|(simp[go_sem,q3,q4,q5,q6];done))
     (first
      |(go_at_call 117;((with_reducible refine(qP.out _ ?_).mono ?_);exact cO.out.then (by(repeat'(first|(with_reducible first|exact ak|apply au|apply ay|apply aA|apply aB)|(exact HS.out)|(right;simp;done))));rintro e w6 ⟨A1,c1,rfl,hn1,hk0⟩;have hk:=Kept.then (F:=aj) (a:=w5) (by(repeat'(first|(with_reducible first|exact ak|apply au|apply ay|apply aA|apply aB)|(exact HS.out)|(right;simp;done)))) hk0;have CO:=ah (And.intro hn1 HS.out.size);obtain⟨k0,k1,k2,k3,f0,f1,f2,f3⟩:=Jf.out _ hk;clear HS hn1;have yx:=ah hk0;clear hk0;have HS:=ah hk;clear hk))
      |(go_at_call 118;((with_reducible refine(o9.out _ ?_).mono ?_);exact cO.out.then (by(repeat'(first|(with_reducible first|exact ak|apply au|apply ay|apply aA|apply aB)|(exact HS.out)|(right;simp;done))));rintro e w7 ⟨A2,c2,rfl,hn2,hk0⟩;have hk:=Kept.then (F:=aj) (a:=w5) (by(repeat'(first|(with_reducible first|exact ak|apply au|apply ay|apply aA|apply aB)|(exact HS.out)|(right;simp;done)))) hk0;have dA:=ah (And.intro hn2 HS.out.size);obtain⟨k0,k1,k2,k3,f0,f1,f2,f3⟩:=Jf.out _ hk;clear HS hn2;have zL:=ah hk0;clear hk0;have HS:=ah hk;clear hk)))
    have hb7:=HFR.out w7 (cO.out.then HS.out)
    have ho1:=aC (F:=aj) CO.out.1.1 (Kept.then (F:=aj) (by(repeat'(first|(with_reducible first|exact ak|apply au|apply ay|apply aA|apply aB)|(right;simp;done)))) zL.out) (fun _ _ z=>z)
    have ho2:=dA.out.1.1
    have hne1:=own_ne ho1 hb7 (by decide)
    have hne2:=own_ne ho2 hb7 (by decide)
    have hz1:=CO.out.1.2
    have hz2:=dA.out.1.2
    have hs1:=CO.out.2
    have hs2:=dA.out.2
    have hs0:=(aW.out.then cO.out).size
    have zM:=aW.out.then (cO.out.then HS.out)
    have HX:=ah (And.intro ho1 (And.intro ho2 (And.intro hne1 (And.intro hne2 (And.intro hz1 hz2)))))
    have HZ:=ah (And.intro hs1 (And.intro hs2 hs0))
    have HB7:=ah hb7;have D6:=ah zM
    have Rw:=ah HE.out
    clear ho1 ho2 hne1 hne2 hz1 hz2 hs1 hs2 hs0 hb7 zM q3 q4 q5 q6 k0 k1 k2 k3 f0 f1 f2 f3 CO dA yx zL HE
    go_wp2
    go_ret
    obtain⟨ho1,ho2,hne1,hne2,hz1,hz2⟩:=HX.out
    obtain⟨hs1,hs2,hs0⟩:=HZ.out
    have iM:Kept (fun k=>k=b) w7 ((((w7.setCell ⟨b,0,none⟩ (.int .i64 ep)).setCell ⟨b,1,none⟩ (.slice A1 ms.length c1)).setCell ⟨b,2,none⟩ (.int .u64 fl)).setCell ⟨b,3,none⟩ (.slice A2 lg.length c2)):=
     ((((Kept.refl (fun k=>k=b) w7).put (.inl rfl)).put (.inl rfl)).put (.inl rfl)).put (.inl rfl)
    refine Rt.out _ A1 c1 A2 c2 Rw.out.symm ?_ ⟨aC ho1 iM (fun g hg hF=>hne1 (by rw[hg,hF])),fun g hg=> ?_⟩ ⟨aC ho2 iM (fun g hg hF=>hne2 (by rw[hg,hF])),fun g hg=> ?_⟩ ((Kept.up D6.out).then iM)
    ·((repeat (first|with_reducible exact HB7.out|with_reducible apply Has.dB|with_reducible apply Has.past|with_reducible apply Has.drewN|with_reducible apply Has.drew|with_reducible apply Has.alloc))<;>first|omega|rfl)
    ·exact Nat.le_trans hs0 (Nat.le_trans hs1 (hz1 g hg))
    ·exact Nat.le_trans hs0 (Nat.le_trans hs2 (hz2 g hg))
  ·have he:=HE.out
   rw[if_pos rfl]at he
   subst he
   go_wp2
   go_ret
   exact zK.out _ (by decide) (aW.out.then aQ.out)
end Mst
end Go.Proofs.YtolkgbafebehfaaGreat
namespace Go.Proofs.YtolkgbafebehfaaGreat
open Go.Shelf Go.Sort Go.RowKit
set_option maxRecDepth 100000
namespace Rx
def Md:Go.Shelf.Ren:=⟨fun|189=>110|125=>203|257=>202|128=>317|129=>318|294=>308|295=>309|296=>310|297=>311|298=>312|299=>313|216=>314|300=>315|301=>316|328=>363|329=>364|330=>365|331=>366|332=>367|215=>368|343=>381|n=>n,fun|28=>36|3=>3|46=>269|0=>0|51=>375|53=>23|4=>4|183=>368|182=>367|131=>173|5=>5|9=>9|218=>421|222=>301|228=>433|229=>223|n=>n,fun|n=>n⟩
theorem lays189:Go.Proofs.Lays.n189 Tryz.prog Md:={
 mixed:=by kernel_rfl
 f125:=Tryz.func203.trans (congrArg some (by kernel_rfl))
 f128:=Tryz.func317.trans (congrArg some (by kernel_rfl))
 f129:=Tryz.func318.trans (congrArg some (by kernel_rfl))
 f189:=Tryz.func110.trans (congrArg some (by kernel_rfl))
 f215:=Tryz.func368.trans (congrArg some (by kernel_rfl))
 f216:=Tryz.func314.trans (congrArg some (by kernel_rfl))
 f257:=Tryz.func202.trans (congrArg some (by kernel_rfl))
 f294:=Tryz.func308.trans (congrArg some (by kernel_rfl))
 f295:=Tryz.func309.trans (congrArg some (by kernel_rfl))
 f296:=Tryz.func310.trans (congrArg some (by kernel_rfl))
 f297:=Tryz.func311.trans (congrArg some (by kernel_rfl))
 f298:=Tryz.func312.trans (congrArg some (by kernel_rfl))
 f299:=Tryz.func313.trans (congrArg some (by kernel_rfl))
 f300:=Tryz.func315.trans (congrArg some (by kernel_rfl))
 f301:=Tryz.func316.trans (congrArg some (by kernel_rfl))
 f328:=Tryz.func363.trans (congrArg some (by kernel_rfl))
 f329:=Tryz.func364.trans (congrArg some (by kernel_rfl))
 f330:=Tryz.func365.trans (congrArg some (by kernel_rfl))
 f331:=Tryz.func366.trans (congrArg some (by kernel_rfl))
 f332:=Tryz.func367.trans (congrArg some (by kernel_rfl))
 f343:=Tryz.func381.trans (congrArg some (by kernel_rfl))
 t0:=Tryz.underlying0
 a0:=Tryz.isAgg0
 z0:=Tryz.sizeOf0
 v0:=Tryz.zeroValue0
 t3:=Tryz.underlying3
 a3:=Tryz.isAgg3
 z3:=Tryz.sizeOf3
 v3:=Tryz.zeroValue3
 t4:=Tryz.underlying4
 a4:=Tryz.isAgg4
 z4:=Tryz.sizeOf4
 v4:=Tryz.zeroValue4
 t5:=Tryz.underlying5
 a5:=Tryz.isAgg5
 z5:=Tryz.sizeOf5
 v5:=Tryz.zeroValue5
 t9:=Tryz.underlying9
 a9:=Tryz.isAgg9
 z9:=Tryz.sizeOf9
 v9:=Tryz.zeroValue9
 t28:=Tryz.underlying36
 a28:=Tryz.isAgg36
 z28:=Tryz.sizeOf36
 v28:=Tryz.zeroValue36
 t46:=Tryz.underlying269
 a46:=Tryz.isAgg269
 z46:=Tryz.sizeOf269
 v46:=Tryz.zeroValue269
 t51:=Tryz.underlying375
 a51:=Tryz.isAgg375
 z51:=Tryz.sizeOf375
 v51:=Tryz.zeroValue375
 t53:=Tryz.underlying23
 a53:=Tryz.isAgg23
 z53:=Tryz.sizeOf23
 v53:=Tryz.zeroValue23
 t131:=Tryz.underlying173
 a131:=Tryz.isAgg173
 z131:=Tryz.sizeOf173
 v131:=Tryz.zeroValue173
 t182:=Tryz.underlying367
 a182:=Tryz.isAgg367
 z182:=Tryz.sizeOf367
 v182:=Tryz.zeroValue367
 t183:=Tryz.underlying368
 a183:=Tryz.isAgg368
 z183:=Tryz.sizeOf368
 v183:=Tryz.zeroValue368
 t218:=Tryz.underlying421
 a218:=Tryz.isAgg421
 z218:=Tryz.sizeOf421
 v218:=Tryz.zeroValue421
 t222:=Tryz.underlying301
 a222:=Tryz.isAgg301
 z222:=Tryz.sizeOf301
 v222:=Tryz.zeroValue301
 t228:=Tryz.underlying433
 a228:=Tryz.isAgg433
 z228:=Tryz.sizeOf433
 v228:=Tryz.zeroValue433
 t229:=Tryz.underlying223
 a229:=Tryz.isAgg223
 z229:=Tryz.sizeOf223
 v229:=Tryz.zeroValue223}
theorem slices_Sort_int(blk off cap:Nat)(zs:List Int)(w:World)(hH:Holds (Value.int .i64) w blk off zs.toArray)(hblk:blk<w.heap.size)(hsz:zs.length<4611686018427387904):
  Calls Tryz.prog 110 #[.slice (some ⟨blk,off,none⟩) zs.length cap] w fun e w'=>
   e=.returned (.tuple #[])/\∃n os,w'=grow (putRow (Value.int .i64) (Sort.ahead w n) blk off (zs.mergeSort fun x y=>decide (x<=y)).toArray) os:=Any.slices_Sort_int lays189 blk off cap zs w hH hblk hsz
theorem slices_Sort_int_none(p:Option Addr)(cap:Nat)(w:World):
  Calls Tryz.prog 110 #[.slice p 0 cap] w fun e w'=>e=.returned (.tuple #[])/\w'=w:=Any.slices_Sort_int_none lays189 p cap w
end Rx
end Go.Proofs.YtolkgbafebehfaaGreat
namespace Go.Proofs.YtolkgbafebehfaaGreat
open Go.RowKit
set_option maxRecDepth 100000
namespace Mst
open aP Vn Go.Sort
abbrev RowOf(v:Value)(k:Nat):Prop:=v.ownBlock=some k
def qI(l:List Int):List Int:=l.mergeSort fun x y=>decide (x<=y)
theorem Jg(l:List Int):(qI l).length=l.length:=by simp[qI]
theorem Gj{w:World}{B:Nat}{A:Option Addr}{n c:Nat}{ss:List Int}(hn:n=ss.length)(h:w.ownsRow B 3 1 (.slice A n c) n (ints ss))(hsz:ss.length<4611686018427387904):
  Calls Tryz.prog 110 #[.slice A n c] w fun e w'=>e=.returned (.tuple #[])/\w'.ownsRow B 3 1 (.slice A n c) n (ints (qI ss))/\Kept (RowOf (.slice A n c)) w w':=by
 subst hn
 have h':=h
 rcases h.2 with⟨hv,h0⟩|⟨g,cap,cur,hv,hb',hg,h1,h2,h3,h4⟩
 ·have hs:ss=[]:=List.eq_nil_of_length_eq_zero h0
  subst hs
  refine(Rx.slices_Sort_int_none A c w).mono ?_
  rintro e w' ⟨rfl,rfl⟩
  exact⟨rfl,by simpa [qI]using h',Kept.refl _ _⟩
 ·injection hv with e1 e2 e3
  subst e1
  subst e3
  refine(Rx.slices_Sort_int g 0 c ss w (holds_of_blockI hg (by simpa using h4)) (Array.getElem?_eq_some_iff.1 hg).1 hsz).mono ?_
  rintro e w' ⟨rfl,n,os,rfl⟩
  exact⟨rfl,ownsRow_sortedI (by simp) hb' hg h1 h2 h3,(Kept.refl _ _).grownBy (grownBy_sortedI _) (fun k hk=> .inl hk)⟩
def kS(l:List Int)(id:Int):List Int:=if inB l id=true then l else qI (l++[id])
def uz(w:World)(b:Nat)(s:bV)(mA:Option Addr)(mc:Nat)(lA:Option Addr)(lc:Nat)(pA:Option Addr)(pc:Nat)(id:Int)(e:Ending)(w':World):Prop:=
 (dZ s.ms id=false/\e=.returned (.int .i64 7)/\Kept aj w w')\/
 (dZ s.ms id=true/\e=.returned (.int .i64 0)/\∃B d,Has w' b 171 (bZ {s with lg:=kS s.lg id} mA mc B d pA pc true)/\w'.ownsRow 0 3 1 (.slice B (kS s.lg id).length d) (kS s.lg id).length (ints (kS s.lg id))/\
  (∀k,RowOf (.slice B (kS s.lg id).length d) k->RowOf (.slice lA s.lg.length lc) k\/w.heap.size<=k)/\Kept (fun k=>k=b\/RowOf (.slice lA s.lg.length lc) k) w w')
theorem Ry(w:World)(b:Nat)(s:bV)(mA:Option Addr)(mc:Nat)(lA:Option Addr)(lc:Nat)(pA:Option Addr)(pc:Nat)(id:Int)(hb:Has w b 171 (bZ s mA mc lA lc pA pc true))
  (hm:Src w 2 mA s.ms.length (aS s.ms)) (hml:s.ms.length<=1000) (hl:w.ownsRow 0 3 1 (.slice lA s.lg.length lc) s.lg.length (ints s.lg)) (hll:s.lg.length<=1000):
  Calls Tryz.prog 134 #[.pointer (some ⟨b,0,none⟩),.int .i64 id] w (uz w b s mA mc lA lc pA pc id):=by
 have hmem:=fun W (hW:Kept aj w W)=>pR W s.ep s.fl mA mc s.ms id (hm.kept hW (fun _ _ z=>z)) (by omega)
 have hcon:=fun W (hW:Kept aj w W)=>kV W lA lc s.lg id ((Src.bC hl).kept hW (fun _ _ z=>z)) (by omega)
 have hce:∀W,Kept aj w W->W.cell? ⟨b,0,none⟩=some (.int .i64 s.ep)/\W.cell? ⟨b,1,none⟩=some (.slice mA s.ms.length mc)/\W.cell? ⟨b,2,none⟩=some (.int .u64 s.fl)/\W.cell? ⟨b,3,none⟩=some (.slice lA s.lg.length lc)/\W.frozen? ⟨b,3,none⟩=false:=fun W hW=>by
  have g:=hb.kept hW (fun z=>z)
  exact⟨g.cell 0,g.cell 1,g.cell 2,g.cell 3,g.frozen 3⟩
 obtain⟨c0,c1,c2,c3,f3⟩:=hce w (Kept.refl _ _)
 have HM:=ah hmem;have OQ:=ah hcon;have iD:=ah hce;have HB:=ah hb;have HL:=ah hl
 have HP:Hid _:=ah (show∀e w',uz w b s mA mc lA lc pA pc id e w'->uz w b s mA mc lA lc pA pc id e w' from fun _ _ h=>h)
 cases h1:dZ s.ms id
 ·have H1:=ah h1
  rw[h1]at hmem
  have HM:=ah hmem
  clear hmem hcon hce hb hl hm h1 c3 f3
  go_enter Tryz.func134,Tryz.ntmps134
  go_wp2_with fail
  refine(HM.out _ (Kept.refl _ _)).mono ?_
  rintro e w2 ⟨rfl,hk⟩
  have HK:=ah hk;clear hk
  go_wp2
  go_ret
  exact .inl ⟨H1.out,rfl,HK.out⟩
 ·have H1:=ah h1
  rw[h1]at hmem
  have HM:=ah hmem
  clear hmem hce hm h1 c3 f3
  cases h2:inB s.lg id
  ·have hT:kS s.lg id=qI (s.lg++[id]):=by unfold kS;rw[h2,if_neg (by simp)]
   rw[h2]at hcon
   have HC:=ah hcon;have HT:=ah hT
   clear hcon hb hl h2 hT
   go_enter Tryz.func134,Tryz.ntmps134
   go_wp2_with fail
   refine(HM.out _ (Kept.refl _ _)).mono ?_
   rintro e w2 ⟨rfl,hk⟩
   have HK:=ah hk;clear hk c0 c1 c2
   obtain⟨c0,c1,c2,c3,f3⟩:=iD.out w2 HK.out
   go_wp2_with fail
   refine(HC.out _ HK.out).mono ?_
   rintro e w3 ⟨rfl,hk⟩
   have hk3:=HK.out.then hk
   clear hk c0 c1 c2 c3 f3
   have bf:=ah hk3;clear hk3
   obtain⟨c0,c1,c2,c3,f3⟩:=iD.out w3 bf.out
   go_wp2_with (at_builtin;refine aI jF (.tmp 23) (.tmp 25) rfl rfl (Value.slice lA s.lg.length lc) rfl (aC (F:=aj) HL.out (bf.out.alloc _) (fun _ _ z=>z)) 1 rfl (Src.bW (Has.new _ _ _) rfl) (by intro u hu;simp at hu;subst hu;rfl) (by unfold maxLen;omega) (by omega) ?_;intro A1 k1 w4 ho1 hg1 ha1;have hk4:Kept (RowOf (.slice lA s.lg.length lc)) w w4:=Kept.grown (Kept.up (bf.out.alloc _)) hg1 (fun k hk=> .inl hk);have hb4:=HB.out.kept hk4 (own_ne HL.out HB.out (by decide));have c4:w4.cell? ⟨b,3,none⟩=some (.slice lA s.lg.length lc):=hb4.cell 3;have f4:=hb4.frozen 3;have qT:=ah (And.intro ho1 (And.intro ha1 (And.intro hk4 hb4)));clear ho1 hg1 ha1 hk4 hb4)
   have hb5:=qT.out.2.2.2.put 3 (.slice A1 (s.lg.length+1) k1)
   have hk5:Kept (fun k=>k=b) w4 (w4.setCell ⟨b,3,none⟩ (.slice A1 (s.lg.length+1) k1)):=(Kept.refl (fun k=>k=b) w4).put (.inl rfl)
   have qY:=aC qT.out.1 hk5 (fun g hg hF=>own_ne qT.out.1 qT.out.2.2.2 (by decide) (by rw[hg,hF]))
   have hsrt:=Gj (ss:=s.lg++[id]) (n:=s.lg.length+1) (by simp) (by simpa [ints]using qY) (by simp;omega)
   have nH:=ah hsrt;have cO:=ah (And.intro hk5 (And.intro hb5 qY))
   clear hsrt hk5 hb5 qY
   go_wp2_with fail
   refine nH.out.mono ?_
   rintro e w6 ⟨rfl,Ed,hk6⟩
   have jV:=ah (And.intro hk6 Ed);clear hk6 Ed
   have HRB:=ah HB.out.lt
   go_wp2
   go_ret
   have hne:¬RowOf (.slice A1 (s.lg.length+1) k1) b:=own_ne cO.out.2.2 cO.out.2.1 (by decide)
   have hb6:=cO.out.2.1.kept jV.out.1 hne
   have hlen:(qI (s.lg++[id])).length=s.lg.length+1:=by rw[Jg];simp
   have hnew:∀k,RowOf (.slice A1 (s.lg.length+1) k1) k->RowOf (.slice lA s.lg.length lc) k\/w.heap.size<=k:=by
    intro k hk
    rcases qT.out.2.1 with e|e
    ·exact .inl (e.symm.trans hk)
    ·have h9:=e.symm.trans hk
     injection h9 with h9
     have:=bf.out.size
     simp only[size_alloc]at h9
     exact .inr (by omega)
   refine .inr ⟨H1.out,rfl,A1,k1,?_⟩
   rw[HT.out,hlen]
   refine⟨?_,jV.out.2,hnew,?_⟩
   ·have e9:bZ {s with lg:=qI (s.lg++[id])} mA mc A1 k1 pA pc true=(bZ s mA mc lA lc pA pc true).setIfInBounds 3 (.slice A1 (s.lg.length+1) k1):=by
     simp[bZ,hlen]
    rw[e9]
    exact hb6
   ·refine Kept.trans (F:=fun k=>k=b\/RowOf (.slice lA s.lg.length lc) k) (G:=fun k=>k=b\/RowOf (.slice A1 (s.lg.length+1) k1) k) (qT.out.2.2.1.mono (fun k hk=> .inr hk)) ((cO.out.1.mono (fun k hk=> .inl hk)).then (jV.out.1.mono (fun k hk=> .inr hk))) ?_
    rintro k (hk|hk)
    ·exact .inl (.inl hk)
    ·rcases hnew k hk with h|h
     ·exact .inl (.inr h)
     ·exact .inr h
  ·have hT:kS s.lg id=s.lg:=by unfold kS;rw[h2,if_pos rfl]
   rw[h2]at hcon
   have HC:=ah hcon;have HT:=ah hT
   clear hcon hb hl h2 hT
   go_enter Tryz.func134,Tryz.ntmps134
   go_wp2_with fail
   refine(HM.out _ (Kept.refl _ _)).mono ?_
   rintro e w2 ⟨rfl,hk⟩
   have HK:=ah hk;clear hk c0 c1 c2
   obtain⟨c0,c1,c2,c3,f3⟩:=iD.out w2 HK.out
   go_wp2_with fail
   refine(HC.out _ HK.out).mono ?_
   rintro e w3 ⟨rfl,hk⟩
   have hk3:=HK.out.then hk
   clear hk c0 c1 c2 c3 f3
   have bf:=ah hk3;clear hk3
   go_wp2
   go_ret
   refine .inr ⟨H1.out,rfl,lA,lc,?_⟩
   rw[HT.out]
   exact⟨HB.out.kept bf.out (fun z=>z),aC HL.out bf.out (fun _ _ z=>z),fun k hk=> .inl hk,Kept.up bf.out⟩
end Mst
end Go.Proofs.YtolkgbafebehfaaGreat
