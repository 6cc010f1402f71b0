/- Part 16 of what the proof needs. -/
import Derived.Test.YtolkgbafebehfaaGreatZP14
set_option linter.unusedSimpArgs false
set_option linter.unusedVariables false
set_option maxHeartbeats 32000000
set_option maxRecDepth 100000
namespace Go.Proofs.YtolkgbafebehfaaGreat
open Go.RowKit
set_option maxRecDepth 100000
namespace Mst
open aP Vn Go.Sort
def qQ(s:bV)(p:aZ):Int:=if 0<=fG s.pins p.id then 0 else if 3<=s.pins.length then 17 else if p.id<=s.top then 18 else if p.at'<s.hz then 13 else 0
def kW(s:bV)(p:aZ):bV:=if 0<=fG s.pins p.id then {s with pins:=jG s.pins p.id}else{s with pins:=s.pins++[⟨p.id,p.at',8⟩],top:=p.id}
def yA(w:World)(b:Nat)(s:bV)(mA:Option Addr)(mc:Nat)(lA:Option Addr)(lc:Nat)(pA:Option Addr)(pc:Nat)(p:aZ)(e:Ending)(w':World):Prop:=
 (qQ s p≠0/\e=.returned (.int .i64 (qQ s p))/\Kept aj w w')\/
 (qQ s p=0/\e=.returned (.int .i64 0)/\∃B d,Has w' b 171 (bZ (kW s p) mA mc lA lc B d true)/\w'.ownsRow 0 79 3 (.slice B (kW s p).pins.length d) (kW s p).pins.length (aK (kW s p).pins)/\
  (∀k,RowOf (.slice B (kW s p).pins.length d) k->RowOf (.slice pA s.pins.length pc) k\/w.heap.size<=k)/\Kept (fun k=>k=b\/RowOf (.slice pA s.pins.length pc) k) w w')
theorem nI(l:List aZ)(id:Int):(jG l id).length=l.length:=by unfold jG;split<;>simp
theorem Fj(w:World)(b:Nat)(s:bV)(mA:Option Addr)(mc:Nat)(lA:Option Addr)(lc:Nat)(pA:Option Addr)(pc:Nat)(p:aZ)(hb:Has w b 171 (bZ s mA mc lA lc pA pc true))
  (hp:w.ownsRow 0 79 3 (.slice pA s.pins.length pc) s.pins.length (aK s.pins)) (hpl:s.pins.length<=1000):
  Calls Tryz.prog 135 #[.pointer (some ⟨b,0,none⟩),yQ p] w (yA w b s mA mc lA lc pA pc p):=by
 have Jh:=fun W (hW:Kept aj w W)=>Gh W pA pc s.pins p.id ((Src.bC hp).kept hW (fun _ _ z=>z)) (jk hp).1 (by omega)
 have hbn:b≠w.heap.size:=by have:=hb.lt;omega
 obtain⟨E,hE⟩:∃E,qQ s p=E:=⟨_,rfl⟩
 have Gi:∀w',E≠0->Kept aj w w'->yA w b s mA mc lA lc pA pc p (.returned (.int .i64 E)) w':=fun w' h0 hk=> .inl ⟨by rw[hE];exact h0,by rw[hE],hk⟩
 have hP0:∀w' B d,E=0->Has w' b 171 (bZ (kW s p) mA mc lA lc B d true)->w'.ownsRow 0 79 3 (.slice B (kW s p).pins.length d) (kW s p).pins.length (aK (kW s p).pins)->
   (∀k,RowOf (.slice B (kW s p).pins.length d) k->RowOf (.slice pA s.pins.length pc) k\/w.heap.size<=k)->Kept (fun k=>k=b\/RowOf (.slice pA s.pins.length pc) k) w w'->yA w b s mA mc lA lc pA pc p (.returned (.int .i64 0)) w':=
  fun w' B d h0 h1 h2 h3 h4=> .inr ⟨by rw[hE,h0],rfl,B,d,h1,h2,h3,h4⟩
 unfold qQ at hE
 obtain⟨id,at2,left⟩:=p
 dsimp only at hE hP0 Gi Jh
 obtain⟨W0,hW0⟩:∃W0,w.alloc (.cells #[.int .i64 id,.int .u64 at2,.int .i64 left] 79)=W0:=⟨_,rfl⟩
 have hk0:Kept aj w W0:=by rw[<-hW0];(repeat'(first|(with_reducible first|exact ak|apply au|apply ay|apply aA|apply aB)|(right;simp;done)))
 have hn0:Has W0 w.heap.size 79 #[.int .i64 id,.int .u64 at2,.int .i64 left]:=by rw[<-hW0];exact Has.new _ _ _
 have hb0:=hb.kept hk0 (fun z=>z)
 have hce:∀W,Kept aj W0 W->W.cell? ⟨w.heap.size,0,none⟩=some (.int .i64 id)/\W.cell? ⟨w.heap.size,1,none⟩=some (.int .u64 at2)/\W.cell? ⟨b,5,none⟩=some (.slice pA s.pins.length pc)/\W.cell? ⟨b,4,none⟩=some (.int .u64 s.hz)/\W.cell? ⟨b,6,none⟩=some (.int .i64 s.top)/\W.frozen? ⟨b,5,none⟩=false:=fun W hW=>by
  have g:=hn0.kept hW (fun z=>z)
  have g2:=hb0.kept hW (fun z=>z)
  exact⟨g.cell 0,g.cell 1,g2.cell 5,g2.cell 4,g2.cell 6,g2.frozen 5⟩
 obtain⟨q0,q1,q5,q4,q6,f5⟩:=hce W0 (Kept.refl _ _)
 have hsep:=own_ne (aC hp hk0 (fun _ _ z=>z)) hb0 (by decide)
 by_cases h0:0<=fG s.pins id
 ·rw[if_pos h0]at hE
  subst hE
  have Ee:∀W,Kept aj w W->Calls Tryz.prog 231 #[.slice pA s.pins.length pc,.int .i64 id] W fun e w'=>∃A c,e=.returned (.tuple #[.slice A s.pins.length c,.int .i64 0])/\aF 79 3 W.heap.size w' A s.pins.length c (aK (jG s.pins id))/\Kept aj W w':=fun W hW=>(Jh W hW).mono fun e w' h=>by
   rcases h with⟨h1,_⟩|⟨_,A,c,h1,h2,h3⟩
   ·omega
   ·rw[nI]at h1 h2;exact⟨A,c,h1,h2,h3⟩
  have hS:kW s ⟨id,at2,left⟩={s with pins:=jG s.pins id}:=by unfold kW;rw[if_pos h0]
  rw[hS]at hP0
  have Rt:=ah hP0;have HR:=ah Ee;have iD:=ah hce;have HB0:=ah hb0
  have aW:=ah hk0;have acz:=ah hsep;have HBL:=ah hb.lt
  clear Gi hP0 Jh Ee hce hn0 hb0 hk0 hbn hp hb hS h0 hsep q0 q1 q4 q6
  go_enter Tryz.func135,Tryz.ntmps135
  go_wp2_with fail
  clear hW0
  have q:=iD.out W0 (Kept.refl _ _)
  obtain⟨q0,q1,q5,q4,q6,f5⟩:=q
  have HS:=ah (Kept.refl aj W0)
  go_region_held3 (fun W=>W.cell? ⟨w.heap.size,0,none⟩=some (.int .i64 id)/\W.cell? ⟨w.heap.size,1,none⟩=some (.int .u64 at2)/\W.cell? ⟨b,5,none⟩=some (.slice pA s.pins.length pc)/\W.cell? ⟨b,4,none⟩=some (.int .u64 s.hz)/\W.cell? ⟨b,6,none⟩=some (.int .i64 s.top)/\W.frozen? ⟨b,5,none⟩=false)
   (first|with_reducible exact iD.out _ HS.out|exact iD.out _ HS.out.drew|(simp[go_sem,q0,q1,q5,q4,q6,f5];done))
   (first
    |(go_at_call 231;((with_reducible refine(HR.out _ ?_).mono ?_);exact aW.out.then (by(repeat'(first|(with_reducible first|exact ak|apply au|apply ay|apply aA|apply aB)|(exact HS.out)|(right;simp;done))));rintro e w5 ⟨A5,c5,rfl,jT,hk5⟩;have hk:=Kept.then (F:=aj) (a:=W0) (by(repeat'(first|(with_reducible first|exact ak|apply au|apply ay|apply aA|apply aB)|(exact HS.out)|(right;simp;done)))) hk5;have uf:=ah (And.intro jT HS.out.size);clear HS hk5 jT;have HS:=ah hk;clear hk)))
  clear q0 q1 q5 q4 q6 f5
  obtain⟨q0,q1,q5,q4,q6,f5⟩:=iD.out _ HS.out
  go_wp2
  go_ret
  have hb5:=HB0.out.kept HS.out (fun z=>z)
  have hk6:Kept (fun k=>k=b) w5 (w5.setCell ⟨b,5,none⟩ (.slice A5 s.pins.length c5)):=(Kept.refl (fun k=>k=b) w5).put (.inl rfl)
  have hne:=own_ne uf.out.1.1 hb5 (by decide)
  refine Rt.out _ A5 c5 trivial ?_ ?_ ?_ (((Kept.up (aW.out.then HS.out)).then hk6).mono (fun k hk=> .inl hk))
  ·unfold bZ
   dsimp only
   rw[nI]
   ((repeat (first|with_reducible exact hb5|with_reducible apply Has.dB|with_reducible apply Has.past|with_reducible apply Has.drewN|with_reducible apply Has.drew|with_reducible apply Has.alloc))<;>first|omega|rfl)
  ·rw[nI]
   exact aC uf.out.1.1 hk6 (fun g hg hF=>hne (by rw[hg,hF]))
  ·rw[nI]
   exact fun k hk=> .inr (Nat.le_trans aW.out.size (Nat.le_trans uf.out.2 (uf.out.1.2 k hk)))
 ·rw[if_neg h0]at hE
  have Ee:∀W,Kept aj w W->Calls Tryz.prog 231 #[.slice pA s.pins.length pc,.int .i64 id] W fun e w'=>e=.returned (.tuple #[.slice none 0 0,.int .i64 7])/\Kept aj W w':=fun W hW=>(Jh W hW).mono fun e w' h=>by
   rcases h with⟨_,h1,h2⟩|⟨h1,_⟩
   ·exact⟨h1,h2⟩
   ·omega
  have hS:kW s ⟨id,at2,left⟩={s with pins:=s.pins++[⟨id,at2,8⟩],top:=id}:=by unfold kW;rw[if_neg h0]
  rw[hS]at hP0
  have zK:=ah Gi;have HE:=ah hE
  have Rt:=ah hP0;have HR:=ah Ee;have iD:=ah hce;have HB0:=ah hb0;have dw:=ah hn0
  have aW:=ah hk0;have acz:=ah hsep;have HBL:=ah hb.lt;have HOP:=ah (aC hp hk0 (fun _ _ z=>z));have Ru:=ah hbn;have wE:=ah hp
  clear Gi hE hP0 Jh Ee hce hn0 hb0 hk0 hbn hp hb hS h0 hsep q0 q1 q4 q6
  go_enter Tryz.func135,Tryz.ntmps135
  go_wp2_with fail
  clear hW0
  have q:=iD.out W0 (Kept.refl _ _)
  obtain⟨q0,q1,q5,q4,q6,f5⟩:=q
  have HS:=ah (Kept.refl aj W0)
  go_region_held3 (fun W=>W.cell? ⟨w.heap.size,0,none⟩=some (.int .i64 id)/\W.cell? ⟨w.heap.size,1,none⟩=some (.int .u64 at2)/\W.cell? ⟨b,5,none⟩=some (.slice pA s.pins.length pc)/\W.cell? ⟨b,4,none⟩=some (.int .u64 s.hz)/\W.cell? ⟨b,6,none⟩=some (.int .i64 s.top)/\W.frozen? ⟨b,5,none⟩=false)
   (first|with_reducible exact iD.out _ HS.out|exact iD.out _ HS.out.drew|(simp[go_sem,q0,q1,q5,q4,q6,f5];done))
   (first
    |(go_at_call 231;((with_reducible refine(HR.out _ ?_).mono ?_);exact aW.out.then (by(repeat'(first|(with_reducible first|exact ak|apply au|apply ay|apply aA|apply aB)|(exact HS.out)|(right;simp;done))));rintro e w5 ⟨rfl,hk5⟩;have hk:=Kept.then (F:=aj) (a:=W0) (by(repeat'(first|(with_reducible first|exact ak|apply au|apply ay|apply aA|apply aB)|(exact HS.out)|(right;simp;done)))) hk5;clear HS hk5;have HS:=ah hk;clear hk)))
  clear q0 q1 q5 q4 q6 f5
  obtain⟨q0,q1,q5,q4,q6,f5⟩:=iD.out _ HS.out
  by_cases h3:3<=s.pins.length
  ·have he:=HE.out
   rw[if_pos h3]at he
   subst he
   have h3':(3:Int)<=(s.pins.length:Int):=by omega
   go_wp2
   go_ret
   exact zK.out _ (by decide) (aW.out.then HS.out)
  ·have h3':¬(3:Int)<=(s.pins.length:Int):=by omega
   have he:=HE.out
   rw[if_neg h3]at he
   clear HE
   have HE:=ah he;clear he
   by_cases h4:id<=s.top
   ·have he:=HE.out
    rw[if_pos h4]at he
    subst he
    go_wp2_with fail
    go_quiet (fail)
    go_wp2
    go_ret
    exact zK.out _ (by decide) ((aW.out.then HS.out).drewN _)
   ·have he:=HE.out
    rw[if_neg h4]at he
    clear HE
    have HE:=ah he;clear he
    have aaz:∀n,(w5.drewN n).cell? ⟨w.heap.size,1,none⟩=some (.int .u64 at2)/\(w5.drewN n).cell? ⟨b,4,none⟩=some (.int .u64 s.hz):=fun n=>⟨q1,q4⟩
    have HC2:=ah aaz;clear aaz
    by_cases h5:at2<s.hz
    ·have he:=HE.out
     rw[if_pos h5]at he
     subst he
     go_wp2_with fail
     go_quiet (fail)
     obtain⟨r1,r4⟩:=HC2.out nq
     go_wp2_with fail
     go_quiet (fail)
     go_wp2
     go_ret
     exact zK.out _ (by decide) (((aW.out.then HS.out).drewN _).drewN _)
    ·have he:=HE.out
     rw[if_neg h5]at he
     clear HE
     have HE:=ah he;clear he
     go_wp2_with fail
     go_quiet (fail)
     obtain⟨r1,r4⟩:=HC2.out nq
     go_wp2_with fail
     go_quiet (fail)
     clear r1 r4 q0 q1 q5 q4 q6 f5 HC2
     generalize hw6:World.drewN (World.drewN w5 _) _=w6
     have hk6:Kept aj W0 w6:=by rw[<-hw6];exact(HS.out.drewN _).drewN _
     have hx6:=dw.out.kept hk6 (fun z=>z)
     have hb6:=HB0.out.kept hk6 (fun z=>z)
     have Ed:=aC HOP.out hk6 (fun _ _ z=>z)
     clear hw6
     have x2:w6.cell? ⟨w.heap.size,2,none⟩=some (.int .i64 left):=hx6.cell 2
     have y2:=hx6.frozen 2
     have HX6:=ah (And.intro hx6 (And.intro hb6 Ed));have jV:=ah hk6
     clear hx6 hb6 Ed hk6 HS
     go_wp2_with fail
     clear x2 y2
     obtain⟨w7,hw7⟩:∃w7,w6.setCell ⟨w.heap.size,2,none⟩ (.int .i64 8)=w7:=⟨_,rfl⟩
     rw[hw7]
     have hx7:Has w7 w.heap.size 79 #[.int .i64 id,.int .u64 at2,.int .i64 8]:=by rw[<-hw7];exact HX6.out.1.dB rfl
     have hb7:Has w7 b 171 (bZ s mA mc lA lc pA pc true):=by rw[<-hw7];exact HX6.out.2.1.past Ru.out
     have zM:Kept aj w w7:=by rw[<-hw7];exact(aW.out.then jV.out).put (.inr (Nat.le_refl _))
     have sD:=aC wE.out zM (fun _ _ z=>z)
     clear hw7
     have P0:w7.cell? ⟨w.heap.size,0,none⟩=some (.int .i64 id):=hx7.cell 0
     have P1:w7.cell? ⟨w.heap.size,1,none⟩=some (.int .u64 at2):=hx7.cell 1
     have P2:w7.cell? ⟨w.heap.size,2,none⟩=some (.int .i64 8):=hx7.cell 2
     have Q5:w7.cell? ⟨b,5,none⟩=some (.slice pA s.pins.length pc):=hb7.cell 5
     have hm1:s.pins.length+1<=maxLen:=by unfold maxLen;omega
     have hm2:(s.pins.length+1)*24<=140737488355328:=by omega
     have fQ:=ah hm1;have iC:=ah hm2;have HX7:=ah hx7;have HB7:=ah hb7;have D6:=ah zM;have HO7:=ah sD
     have hxl:=hx7.lt;have hbl:=hb7.lt
     have nD:Hid (¬RowOf (.slice pA s.pins.length pc) w.heap.size):=ah (fun h=>Nat.lt_irrefl _ (ou wE.out h))
     have HNB:Hid (¬RowOf (.slice pA s.pins.length pc) b):=ah (own_ne sD hb7 (by decide))
     clear hm1 hm2 hx7 hb7 zM sD
     have acA:=Ru.out
     have adB:w.heap.size≠b:=fun e=>acA e.symm
     go_region_law (first
      |(with_reducible apply wV yw (.tmp 52) (.tmp 54) (n:=s.pins.length) (xs:=aK s.pins) (A:=some ⟨_,0,none⟩) (m:=1) (c:=1) (news:=[.int .i64 id,.int .u64 at2,.int .i64 8])
        rfl
        rfl
        exact(rfl:_=Value.slice pA s.pins.length pc)
        (refine aC HO7.out (F:=aj) ?_ (fun _ _ x=>x);(repeat'(first|(with_reducible first|exact ak|apply au|apply ay|apply aA|apply aB)|(right;simp;done))))
        exact(rfl:_=Value.slice (some ⟨_,0,none⟩) 1 1)
        (refine Src.bW (t:=79) (cs:=#[.int .i64 id,.int .u64 at2,.int .i64 8]) ?_ rfl;(repeat (with_reducible first|exact Has.bP _ _ _ (by simp)|apply Has.drew|apply Has.drewN|apply Has.alloc|(apply Has.past<;>(try omega)))))
        (intro u hu;simp at hu;rcases hu with rfl|rfl|rfl<;>rfl)
        exact fQ.out
        exact iC.out
        intro A8 c8 w8 Rz hg8 ha8
        have hk8:Kept (RowOf (.slice pA s.pins.length pc)) w7 w8:=by refine Kept.grown ?_ hg8 (fun k hk=> .inl hk);(repeat'(first|(with_reducible first|exact ak|apply au|apply ay|apply aA|apply aB)|(right;simp;done)))
        have hb8:=HB7.out.kept hk8 HNB.out
        have Nr:=HX7.out.kept hk8 nD.out
        have P0':w8.cell? ⟨w.heap.size,0,none⟩=some (.int .i64 id):=Nr.cell 0
        have R5:w8.cell? ⟨b,5,none⟩=some (.slice pA s.pins.length pc):=hb8.cell 5
        have R6:w8.cell? ⟨b,6,none⟩=some (.int .i64 s.top):=hb8.cell 6
        have F5:w8.frozen? ⟨b,5,none⟩=false:=hb8.frozen 5
        have F6:w8.frozen? ⟨b,6,none⟩=false:=hb8.frozen 6))
     all_goals
      have hnew:∀k,RowOf (.slice A8 (s.pins.length+1) c8) k->RowOf (.slice pA s.pins.length pc) k\/w.heap.size<=k:=by
       intro k hk
       rcases ha8 with e|e
       ·exact .inl (e.symm.trans hk)
       ·have h9:=e.symm.trans hk
        injection h9 with h9
        have:=D6.out.size
        first|(simp at h9;exact .inr (by omega))|exact .inr (by omega)
      have HZ:=ah (And.intro Rz (And.intro hnew (And.intro hk8 hb8)))
      have aaA:=own_ne Rz hb8 (by decide)
      have acB:=ah aaA
      clear Rz hnew hk8 hb8 hg8 ha8 aaA
      go_wp2
      go_ret
      obtain⟨Rz,hnew,hk8,hb8⟩:=HZ.out
      have iM:Kept (fun k=>k=b) w8 ((w8.setCell ⟨b,5,none⟩ (.slice A8 (s.pins.length+1) c8)).setCell ⟨b,6,none⟩ (.int .i64 id)):=((Kept.refl (fun k=>k=b) w8).put (.inl rfl)).put (.inl rfl)
      have e9:(s.pins++[(⟨id,at2,8⟩:aZ)]).length=s.pins.length+1:=by simp
      refine Rt.out _ A8 c8 (by first|trivial|exact HE.out.symm) ?_ ?_ ?_ ?_
      ·unfold bZ
       dsimp only
       rw[e9]
       ((repeat (first|with_reducible exact hb8|with_reducible apply Has.dB|with_reducible apply Has.past|with_reducible apply Has.drewN|with_reducible apply Has.drew|with_reducible apply Has.alloc))<;>first|omega|rfl)
      ·rw[e9,qH]
       exact aC Rz iM (fun g hg hF=>acB.out (by rw[hg,hF]))
      ·rw[e9]
       exact hnew
      ·exact(Kept.trans (F:=fun k=>k=b\/RowOf (.slice pA s.pins.length pc) k) (Kept.up D6.out) (hk8.mono (fun k hk=> .inr hk)) (fun k hk=> .inl hk)).then (iM.mono (fun k hk=> .inl hk))
end Mst
namespace Mst
open aP Vn Go.Sort
def dS(w:World)(b:Nat)(F:Nat->Prop)(s:bV):Prop:=∃mA mc lA lc pA pc,(∀k,F k↔(k=b\/RowOf (.slice mA s.ms.length mc) k\/RowOf (.slice lA s.lg.length lc) k\/RowOf (.slice pA s.pins.length pc) k))/\
 Has w b 171 (bZ s mA mc lA lc pA pc true)/\w.ownsRow 0 53 2 (.slice mA s.ms.length mc) s.ms.length (aS s.ms)/\w.ownsRow 0 3 1 (.slice lA s.lg.length lc) s.lg.length (ints s.lg)/\w.ownsRow 0 79 3 (.slice pA s.pins.length pc) s.pins.length (aK s.pins)
theorem dS.kept{w w':World}{b:Nat}{F G:Nat->Prop}{s:bV}(h:dS w b F s)(hk:Kept G w w')(hs:Sep F G):dS w' b F s:=by
 obtain⟨mA,mc,lA,lc,pA,pc,hF,hb,hm,hl,hp⟩:=h
 exact⟨mA,mc,lA,lc,pA,pc,hF,hb.kept hk (hs b ((hF b).2 (.inl rfl))),aC hm hk (fun g hg=>hs g ((hF g).2 (.inr (.inl hg)))),aC hl hk (fun g hg=>hs g ((hF g).2 (.inr (.inr (.inl hg))))),aC hp hk (fun g hg=>hs g ((hF g).2 (.inr (.inr (.inr hg)))))⟩
theorem dS.still{w w':World}{b:Nat}{F:Nat->Prop}{s:bV}(h:dS w b F s)(hk:Kept aj w w'):dS w' b F s:=h.kept hk (fun _ _ z=>z)
theorem dS.lt{w:World}{b:Nat}{F:Nat->Prop}{s:bV}(h:dS w b F s):∀k,F k->k<w.heap.size:=by
 obtain⟨mA,mc,lA,lc,pA,pc,hF,hb,hm,hl,hp⟩:=h
 intro k hk
 rcases(hF k).1 hk with rfl|h|h|h
 ·exact hb.lt
 ·exact ou hm h
 ·exact ou hl h
 ·exact ou hp h
theorem jH{w:World}{base k size n:Nat}{e:TypeId}{v:Value}{xs:List Value}(h:w.ownsRow base e size v n xs)(hk:RowOf v k):∃cs,Has w k e cs:=by
 rcases h.2 with⟨rfl,_⟩|⟨g,cap,cur,rfl,_,hh,_⟩
 ·simp[RowOf,Value.ownBlock]at hk
 ·obtain rfl:g=k:=by simpa [RowOf,Value.ownBlock]using hk
  exact⟨cur,hh⟩
structure nR(s:bV):Prop where
 m:s.ms.length<=1000
 l:s.lg.length<=1000
 p:s.pins.length<=1000
def toldOf(s:bV)(c:Int):kJ:=if c=0 then s.t0 else if c=1 then s.t1 else s.t2
def pz(s:bV)(a:kJ):bV:=if a.cl=0 then {s with t0:=a}else if a.cl=1 then {s with t1:=a}else{s with t2:=a}
def bF(s:bV)(x:aN):Int:=
 if aY x≠0 then aY x else
 if x.k=1 then lW s x else
 if x.k=5 then (if dZ s.ms x.n=true then 0 else 7)else
 if x.k=4 then (if x.at'<s.hz then 18 else 0)else
 if x.k=6 then qQ s x.pin else
 if x.k=7 then 0 else
 if x.k=8 then (if x.said.req<(toldOf s x.said.cl).req then 18 else 0)else 11
def bG(s:bV)(x:aN):bV:=
 if bF s x≠0 then s else
 if x.k=1 then {s with ep:=x.ep,ms:=x.ms,fl:=x.fl,lg:=x.lg}else
 if x.k=5 then {s with lg:=kS s.lg x.n}else
 if x.k=4 then {s with hz:=x.at'}else
 if x.k=6 then kW s x.pin else
 if x.k=7 then {s with pins:=freed s.pins x.n,top:=max s.top x.n}else pz s x.said
def bK(w:World)(b:Nat)(F:Nat->Prop)(s:bV)(x:aN)(e:Ending)(w':World):Prop:=
 ∃F',e=.returned (.int .i64 (bF s x))/\dS w' b F' (bG s x)/\iH w F F'/\Kept F w w'
theorem bK.bad{w w':World}{b:Nat}{F:Nat->Prop}{s:bV}{x:aN}(hs:dS w b F s)(h0:bF s x≠0)(hk:Kept aj w w'):bK w b F s x (.returned (.int .i64 (bF s x))) w':=by
 refine⟨F,rfl,?_,iH.refl _ _,Kept.up hk⟩
 unfold bG
 rw[if_pos h0]
 exact hs.still hk
theorem RD(w:World)(b:Nat)(F:Nat->Prop)(s:bV)(x:aN)(hs:dS w b F s)(h:gU w x)(h0:aY x≠0):
  Calls Tryz.prog 54 #[.pointer (some ⟨b,0,none⟩),eY x] w (bK w b F s x):=by
 have hE:bF s x=aY x:=by unfold bF;rw[if_pos h0]
 have hP:∀w',Kept aj w w'->bK w b F s x (.returned (.int .i64 (aY x))) w':=fun w' hk=>by
  have:=bK.bad hs (by rw[hE];exact h0) hk
  rw[hE]at this
  exact this
 obtain⟨mA,mc,lA,lc,pA,pc,hF,hb,hm,hl,hp⟩:=hs
 have hck:=fun W (hW:Kept aj w W)=>dO W x (h.kept hW)
 have hnone:=fun W (hW:Kept aj w W)=>dN W b s mA mc lA lc pA pc true (hb.kept hW (fun z=>z))
 obtain⟨E,hE0⟩:∃E,aY x=E:=⟨_,rfl⟩
 rw[hE0]at hck hP h0
 obtain⟨W0,hW0⟩:∃W0,w.alloc (.cells (aH x).toArray 100)=W0:=⟨_,rfl⟩
 have hk0:Kept aj w W0:=by rw[<-hW0];(repeat'(first|(with_reducible first|exact ak|apply au|apply ay|apply aA|apply aB)|(right;simp;done)))
 have hn0:Has W0 w.heap.size 100 (aH x).toArray:=by rw[<-hW0];exact Has.new _ _ _
 clear hE hE0 h hm hl hp hb hF
 obtain⟨k,n,at2,ep,uq,uw,ms,fl,lA2,uy,lg,oA,oc,⟨gZ,eG,ops⟩,ts,⟨p1,p2,p3⟩,⟨s1,s2,s3,s4⟩⟩:=x
 simp only[aH]at hP hn0 hck
 have HP:=ah hP;have lN:=ah hck;have iZ:=ah hnone;have aW:=ah hk0;have dw:=ah hn0
 clear hP hck hnone hk0 hn0
 have h0':(E !=0)=true:=by simpa using h0
 go_enter Tryz.func54,Tryz.ntmps54
 go_wp2_with fail
 clear hW0
 refine(iZ.out _ aW.out).mono ?_
 rintro e w2 ⟨rfl,hk⟩
 have hn2:=dw.out.kept hk (fun z=>z)
 have dA:=ah hn2
 have HK:=ah (aW.out.then hk);clear hk hn2
 go_wp2_with (refine wpList_load_row rfl 100 (.tmp 3) rfl w.heap.size rfl 100 _ (0,0) _ dA.out Tryz.underlying100 rfl (by kernel_rfl) ?_)
 refine(lN.out _ HK.out).mono ?_
 rintro e w3 ⟨rfl,hk⟩
 have bf:=ah (HK.out.then hk);clear hk HK
 go_wp2
 go_ret
 exact HP.out _ bf.out
end Mst
end Go.Proofs.YtolkgbafebehfaaGreat
