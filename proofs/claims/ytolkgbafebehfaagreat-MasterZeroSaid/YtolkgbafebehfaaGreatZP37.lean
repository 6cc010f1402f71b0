/- Part 38 of what the proof needs. -/
import Derived.Test.YtolkgbafebehfaaGreatZP36
set_option linter.unusedSimpArgs false
set_option linter.unusedVariables false
set_option maxHeartbeats 32000000
set_option maxRecDepth 100000
namespace Go.Proofs.YtolkgbafebehfaaGreat
open Go.RowKit
set_option maxRecDepth 100000
namespace Mst
open aP Vn Go.Sort
theorem PV(x0 x1 x2 x3 x4 x5 x6 x7 x8 x9 x10 x11:Int)(W:World):(Instr.index 129 (.agg #[.int .i64 x0,.int .i64 x1,.int .i64 x2,.int .i64 x3,.int .i64 x4,.int .i64 x5,.int .i64 x6,.int .i64 x7,.int .i64 x8,.int .i64 x9,.int .i64 x10,.int .i64 x11]) (.int .i64 0)).run Tryz.prog W=.ok (.agg #[.int .i64 x0,.int .i64 x1,.int .i64 x2,.int .i64 x3]) W:=by kernel_rfl
theorem PW(x0 x1 x2 x3 x4 x5 x6 x7 x8 x9 x10 x11:Int)(W:World):(Instr.index 129 (.agg #[.int .i64 x0,.int .i64 x1,.int .i64 x2,.int .i64 x3,.int .i64 x4,.int .i64 x5,.int .i64 x6,.int .i64 x7,.int .i64 x8,.int .i64 x9,.int .i64 x10,.int .i64 x11]) (.int .i64 1)).run Tryz.prog W=.ok (.agg #[.int .i64 x4,.int .i64 x5,.int .i64 x6,.int .i64 x7]) W:=by kernel_rfl
theorem PX(x0 x1 x2 x3 x4 x5 x6 x7 x8 x9 x10 x11:Int)(W:World):(Instr.index 129 (.agg #[.int .i64 x0,.int .i64 x1,.int .i64 x2,.int .i64 x3,.int .i64 x4,.int .i64 x5,.int .i64 x6,.int .i64 x7,.int .i64 x8,.int .i64 x9,.int .i64 x10,.int .i64 x11]) (.int .i64 2)).run Tryz.prog W=.ok (.agg #[.int .i64 x8,.int .i64 x9,.int .i64 x10,.int .i64 x11]) W:=by kernel_rfl
attribute [local go_sem↓] PV PW PX
theorem pZ{W0 w:World}{s:bV}{pre l l':List aN}{A:Option Addr}{c:Nat}(h:jC W0 s w pre l A c)(e:l=l'):jC W0 s w pre l' A c:=e▸h
theorem Uh{pre:List aN}{l:List aZ}{i:Nat}{p:aZ}(h:l[i]? =some p):pre++(l.take (i+1)).map kL=(pre++(l.take i).map kL)++[kL p]:=by
 rw[take_snoc h,List.map_append,List.append_assoc];rfl
theorem yc{l:List kJ}{i:Nat}{a:kJ}(h:l[i]? =some a):fK (l.take (i+1))=if decide (a≠lF)=true then fK (l.take i)++[rQ a]else fK (l.take i):=by
 unfold fK
 rw[take_snoc h,List.filter_append,List.filter_cons]
 split<;>simp
theorem EM(l:List kJ)(i:Nat):(fK (l.take i)).length<=l.length:=by
 unfold fK
 rw[List.length_map]
 refine Nat.le_trans (List.length_filter_le ..) ?_
 rw[List.length_take]
 exact Nat.min_le_right _ _
def Ui(w:World)(s:bV)(e:Ending)(w':World):Prop:=
 ∃A c pre,e=.returned (.slice A (pre++s.pins.map kL++mg s++[fP s.hz]++fK (jg s)).length c)/\jC w s w' pre (pre++s.pins.map kL++mg s++[fP s.hz]++fK (jg s)) A c
theorem wM(p:kJ)(W:World):(binOp .neq 73 (rC p) (.agg #[.int .i64 0,.int .i64 0,.int .i64 0,.int .i64 0])).run Tryz.prog W=.ok (.bool (decide (p≠lF))) W:=by
 obtain⟨p1,p2,p3,p4⟩:=p
 by_cases h1:p1=0<;>by_cases h2:p2=0<;>by_cases h3:p3=0<;>by_cases h4:p4=0<;>simp[go_sem,lF,h1,h2,h3,h4]
theorem G5(w:World)(b:Nat)(F:Nat->Prop)(s:bV)(hs:dS w b F s)(hok:nR s):
  Calls Tryz.prog 115 #[.pointer (some ⟨b,0,none⟩)] w (Ui w s):=by
 obtain⟨mA,mc,lA,lc,pA,pc,hF,hb,hm,hl,hp⟩:=hs
 have hnone:=fun W (hW:Kept aj w W)=>dN W b s mA mc lA lc pA pc true (hb.kept hW (fun z=>z))
 have hown:=fun W (hW:Kept aj w W)=>Fe W s.ep s.fl mA mc s.ms ((Src.bC hm).kept hW (fun _ _ z=>z)) (by have:=hok.m;omega)
 have hcl:=fun W (hW:Kept aj w W)=>wB W lA lc s.lg ((Src.bC hl).kept hW (fun _ _ z=>z)) (by have:=hok.l;omega)
 have hce:∀W,Kept aj w W->W.cell? ⟨b,0,none⟩=some (.int .i64 s.ep)/\W.cell? ⟨b,1,none⟩=some (.slice mA s.ms.length mc)/\W.cell? ⟨b,2,none⟩=some (.int .u64 s.fl)/\W.cell? ⟨b,3,none⟩=some (.slice lA s.lg.length lc)/\W.cell? ⟨b,4,none⟩=some (.int .u64 s.hz)/\W.cell? ⟨b,5,none⟩=some (.slice pA s.pins.length pc)/\W.cell? ⟨b,6,none⟩=some (.int .i64 s.top):=fun W hW=>by
  have g:=hb.kept hW (fun z=>z)
  exact⟨g.cell 0,g.cell 1,g.cell 2,g.cell 3,g.cell 4,g.cell 5,g.cell 6⟩
 have hct:∀W,Kept aj w W->(W.cell? ⟨b,7,none⟩=some (.int .i64 s.t0.cl)/\W.cell? ⟨b,7+1,none⟩=some (.int .i64 s.t0.req)/\W.cell? ⟨b,7+2,none⟩=some (.int .i64 s.t0.e)/\W.cell? ⟨b,7+3,none⟩=some (.int .i64 s.t0.pin))/\(W.cell? ⟨b,7+4,none⟩=some (.int .i64 s.t1.cl)/\W.cell? ⟨b,7+5,none⟩=some (.int .i64 s.t1.req)/\W.cell? ⟨b,7+6,none⟩=some (.int .i64 s.t1.e)/\W.cell? ⟨b,7+7,none⟩=some (.int .i64 s.t1.pin))/\W.cell? ⟨b,7+8,none⟩=some (.int .i64 s.t2.cl)/\W.cell? ⟨b,7+9,none⟩=some (.int .i64 s.t2.req)/\W.cell? ⟨b,7+10,none⟩=some (.int .i64 s.t2.e)/\W.cell? ⟨b,7+11,none⟩=some (.int .i64 s.t2.pin):=fun W hW=>by
  have g:=hb.kept hW (fun z=>z)
  exact⟨⟨g.cell 7,g.cell 8,g.cell 9,g.cell 10⟩,⟨g.cell 11,g.cell 12,g.cell 13,g.cell 14⟩,g.cell 15,g.cell 16,g.cell 17,g.cell 18⟩
 have Ce:=fun W (hW:Kept aj w W)=>(Src.bC hp).kept hW (fun _ _ z=>z)
 obtain⟨W0,hW0⟩:∃W0,w.alloc (.cells #[.pointer (some ⟨b,0,none⟩)] 57)=W0:=⟨_,rfl⟩
 have hk0:Kept aj w W0:=by rw[<-hW0];(repeat'(first|(with_reducible first|exact ak|apply au|apply ay|apply aA|apply aB)|(right;simp;done)))
 have hn0:Has W0 w.heap.size 57 #[.pointer (some ⟨b,0,none⟩)]:=by rw[<-hW0];exact Has.new _ _ _
 have hx:∀W,Kept aj W0 W->W.cell? ⟨w.heap.size,0,none⟩=some (.pointer (some ⟨b,0,none⟩)):=fun W hW=>(hn0.kept hW (fun z=>z)).cell 0
 have hhas:=fun W (hW:Kept aj W0 W)=>OB W pA pc s.pins 206 (.pointer (some ⟨w.heap.size,0,none⟩)) (fun p=>decide (p.id=s.top)) (fun args W=>enters Tryz.func206 (by kernel_rfl) rfl args W) (Ce W (hk0.then hW)) (by have:=hok.p;omega)
  (fun W2 p hW2 _=>PU W2 p w.heap.size b s mA mc lA lc pA pc (hn0.kept (hW.then hW2) (fun z=>z)) (hb.kept (hk0.then (hW.then hW2)) (fun z=>z)))
 obtain⟨un,hun⟩:∃un,(s.pins.any fun p=>decide (p.id=s.top))=un:=⟨_,rfl⟩
 rw[hun]at hhas
 have hup:mg s=if un=true then []else [Cc s.top]:=by unfold mg;rw[hun]
 have hpl:=hok.p
 have iZ:=ah hnone;have qP:=ah hown;have o9:=ah hcl;have iD:=ah hce;have HCT:=ah hct;have uY:=ah Ce;have aW:=ah hk0;have HX:=ah hx;have acO:=ah hhas
 have NW:=ah hup;have wZ:=ah hb.lt
 clear hnone hown hcl hce hct Ce hk0 hx hhas hun hup hn0 hF hb hm hl hp hok
 go_enter Tryz.func115,Tryz.ntmps115
 have x0:=HX.out _ (Kept.refl _ _)
 go_wp2_with fail
 clear hW0
 refine(iZ.out _ aW.out).mono ?_
 rintro e w2 ⟨rfl,hk⟩
 have aQ:=ah hk;clear hk x0
 obtain⟨z0,z1,z2,z3,z4,z5,z6⟩:=iD.out w2 (aW.out.then aQ.out)
 have x0:=HX.out _ aQ.out
 by_cases nK:0<s.ep
 case' neg=>
  have Xo:(0<s.ep)=False:=eq_false nK
  go_wp2_with fail
  clear Xo z0 z1 z2 z3 z4 z5 z6 x0
  obtain⟨w5,hw5⟩:∃w5,w5=w2:=⟨_,rfl⟩
  obtain⟨pre,hpre⟩:∃pre:List aN,pre=[]:=⟨_,rfl⟩
  have hout:jC W0 s w5 pre pre none 0:=by
   subst hpre
   exact⟨⟨rfl,.inl ⟨rfl,rfl⟩⟩,(fun k hk=>by cases hk),.inl ⟨rfl,by omega⟩,hw5▸aQ.out⟩
  obtain⟨V,hV⟩:∃V:Value,V=.slice none 0 0:=⟨_,rfl⟩
  have DJ:Hid (∃A c,Value.slice none 0 0=.slice A pre.length c/\jC W0 s w5 pre pre A c):=ah ⟨none,0,by rw[hpre];rfl,hout⟩
  have GG:Hid (pre.length<=1):=ah (by rw[hpre];decide)
  rw[<-hw5]
  clear hout hV V hpre hw5 aQ
  skip
 case' pos=>
  have Xo:(0<s.ep)=True:=eq_true nK
  have HS:=ah (Kept.refl aj w2)
  have fQ:Hid (0+1<=maxLen):=ah (by decide)
  have iC:Hid ((0+1)*192<=140737488355328):=ah (by decide)
  have uj:Hid (∀W,Kept aj w2 W->W.cell? ⟨w.heap.size,0,none⟩=some (.pointer (some ⟨b,0,none⟩))/\W.cell? ⟨b,0,none⟩=some (.int .i64 s.ep)/\W.cell? ⟨b,1,none⟩=some (.slice mA s.ms.length mc)/\W.cell? ⟨b,2,none⟩=some (.int .u64 s.fl)/\W.cell? ⟨b,3,none⟩=some (.slice lA s.lg.length lc)):=ah fun W hW=>by
   have r:=iD.out _ (aW.out.then (aQ.out.then hW))
   exact⟨HX.out _ (aQ.out.then hW),r.1,r.2.1,r.2.2.1,r.2.2.2.1⟩
  go_wp2_with fail
  (go_region_held3 (fun W=>W.cell? ⟨w.heap.size,0,none⟩=some (.pointer (some ⟨b,0,none⟩))/\W.cell? ⟨b,0,none⟩=some (.int .i64 s.ep)/\W.cell? ⟨b,1,none⟩=some (.slice mA s.ms.length mc)/\W.cell? ⟨b,2,none⟩=some (.int .u64 s.fl)/\W.cell? ⟨b,3,none⟩=some (.slice lA s.lg.length lc))
    (first|with_reducible exact uj.out _ HS.out|(refine uj.out _ ?_;(repeat'(first|(with_reducible first|exact ak|apply au|apply ay|apply aA|apply aB)|(exact HS.out)|(right;simp;done)));done)|(simp[go_sem,x0,z0,z1,z2,z3];done))
    (first
     |(go_at_call 117;((with_reducible refine(qP.out _ ?_).mono ?_);(exact aW.out.then (aQ.out.then (by(repeat'(first|(with_reducible first|exact ak|apply au|apply ay|apply aA|apply aB)|(exact HS.out)|(right;simp;done))))));rintro e w4 ⟨A4,c4,rfl,hn4,hk4⟩;have hk:=Kept.then (F:=aj) (a:=w2) (by(repeat'(first|(with_reducible first|exact ak|apply au|apply ay|apply aA|apply aB)|(exact HS.out)|(right;simp;done)))) hk4;have NY:=ah hn4.1;clear HS hk4 hn4;have HS:=ah hk;clear hk))
     |(go_at_call 118;((with_reducible refine(o9.out _ ?_).mono ?_);(exact aW.out.then (aQ.out.then (by(repeat'(first|(with_reducible first|exact ak|apply au|apply ay|apply aA|apply aB)|(exact HS.out)|(right;simp;done))))));rintro e w3 ⟨A5,c5,rfl,jT,hk5⟩;have hk:=Kept.then (F:=aj) (a:=w2) (by(repeat'(first|(with_reducible first|exact ak|apply au|apply ay|apply aA|apply aB)|(exact HS.out)|(right;simp;done)))) hk5;have uf:=ah (And.intro (aC NY.out (F:=aj) (Kept.then (F:=aj) (a:=w4) (by(repeat'(first|(with_reducible first|exact ak|apply au|apply ay|apply aA|apply aB)|(right;simp;done)))) hk5) (fun _ _ z=>z)) jT.1);have aba:=ah hk.size;clear HS hk5 jT NY;have HS:=ah hk;clear hk))
     |(with_reducible apply wV pJ (.tmp 16) (.tmp 28) (n:=0) (xs:=[]) (m:=1) (c:=1) (news:=[.int .i64 1,.int .i64 0,.int .u64 0,.int .i64 s.ep,.slice A4 s.ms.length c4,.int .u64 s.fl,.slice A5 s.lg.length c5,.int .i64 0,.int .i64 0,.slice none 0 0,.int .u64 0,.int .i64 0,.int .u64 0,.int .i64 0,.int .i64 0,.int .i64 0,.int .i64 0,.int .i64 0])
       rfl
       rfl
       exact(rfl:_=Value.slice none 0 0)
       (exact⟨rfl,.inl ⟨rfl,rfl⟩⟩)
       exact(rfl:_=Value.slice (some ⟨_,0,none⟩) 1 1)
       ((with_reducible apply Src.bW (t:=100) (m:=1) (cs:=#[.int .i64 1,.int .i64 0,.int .u64 0,.int .i64 s.ep,.slice A4 s.ms.length c4,.int .u64 s.fl,.slice A5 s.lg.length c5,.int .i64 0,.int .i64 0,.slice none 0 0,.int .u64 0,.int .i64 0,.int .u64 0,.int .i64 0,.int .i64 0,.int .i64 0,.int .i64 0,.int .i64 0]));(repeat (with_reducible first|exact Has.bP _ _ _ (by simp)|apply Has.drew|apply Has.drewN|apply Has.alloc|(apply Has.past<;>(try omega))));rfl)
       exact nT (rP s A4 c4 A5 c5)
       exact fQ.out
       exact iC.out
       intro A6 c6 w6 Ed Gw ha6
       simp only[Nat.zero_add,List.nil_append]at Ed ha6⊢
       (have hk6:Kept aj w2 w6:=Kept.grown (Kept.then (F:=aj) (a:=w2) HS.out (by(repeat'(first|(with_reducible first|exact ak|apply au|apply ay|apply aA|apply aB)|(right;simp;done))))) Gw (fun k hk=>by cases hk))
       (have Xp:Kept aj w3 w6:=Kept.grown (by(repeat'(first|(with_reducible first|exact ak|apply au|apply ay|apply aA|apply aB)|(right;simp;done)))) Gw (fun k hk=>by cases hk))
       have JZ:Hid (vH w6 s [rP s A4 c4 A5 c5]):=ah (.inr ⟨nK,A4,c4,A5,c5,rfl,aC uf.out.1 Xp (fun _ _ z=>z),aC uf.out.2 Xp (fun _ _ z=>z)⟩)
       have HZ6:=ah (And.intro Ed ha6)
       clear HS
       have HS:=ah hk6
       clear Ed Gw ha6 hk6 Xp)))
  obtain⟨pre,hpre⟩:∃pre:List aN,pre=[rP s A4 c4 A5 c5]:=⟨_,rfl⟩
  have DJ:Hid (∃A c,Value.slice A6 1 c6=.slice A pre.length c/\jC W0 s w6 pre pre A c):=ah ⟨A6,c6,by rw[hpre];rfl,by
   subst hpre
   refine⟨HZ6.out.1,fun k hk=> ?_,JZ.out,aQ.out.then HS.out⟩
   rcases HZ6.out.2 with e|e
   ·have h9:=e.symm.trans hk;cases h9
   ·have h9:=e.symm.trans hk
    injection h9 with h9
    have h8:=aQ.out.size
    have h7:=aba.out
    first|(simp at h9;omega)|omega⟩
  have GG:Hid (pre.length<=1):=ah (by rw[hpre];exact Nat.le_refl _)
  obtain⟨w5,hw5⟩:∃w5,w5=w6:=⟨_,rfl⟩
  rw[<-hw5]at DJ⊢
  clear hpre hw5 HZ6 JZ HS uf uj aQ fQ iC Xo z0 z1 z2 z3 z4 z5 z6 x0 aba
  skip
 all_goals
  have hk5:Kept aj W0 w5:=by obtain⟨A,c,_,ho⟩:=DJ.out;exact ho.kept
  obtain⟨z0,z1,z2,z3,z4,z5,z6⟩:=iD.out w5 (aW.out.then hk5)
  have x0:=HX.out _ hk5
  have cO:=ah hk5
  clear hk5
  go_wp2_with fail
  clear z0 z1 z2 z3 z4 z5 z6 x0
  go_loopw [3,5,35] (fun v3 v5 v35 wr=>∃(i:Nat) (A:Option Addr) (c:Nat),i<=s.pins.length/\v35=.int .i64 i/\v3=.slice A (pre++(s.pins.take i).map kL).length c/\jC W0 s wr pre (pre++(s.pins.take i).map kL) A c) (fun _ _ v35 _=>s.pins.length-(intOf v35).toNat)
  case atStart=>
   obtain⟨A,c,e,ho⟩:=DJ.out
   exact⟨0,A,c,Nat.zero_le _,rfl,by rw[List.take_zero,List.map_nil,List.append_nil];exact e,pZ ho (by simp)⟩
  case round=>
   obtain⟨i,A,c,hi,rfl,rfl,ho⟩:=hrel
   have HO:=ah ho;clear ho DJ cO
   have hlen:(pre++(s.pins.take i).map kL).length<=1+i:=by
    rw[List.length_append,List.length_map,List.length_take]
    have:=GG.out
    omega
   by_cases hil:i<s.pins.length
   ·obtain⟨⟨p1,p2,p3⟩,hp⟩:∃p,s.pins[i]? =some p:=⟨_,List.getElem?_eq_getElem hil⟩
    obtain⟨ad,rfl,had,q0,q1,q2⟩:=jU (uY.out _ (aW.out.then HO.out.kept)) (by omega) i _ hp
    dsimp only at q0 q1 q2
    have hst:=Uh (pre:=pre) hp
    have HST:=ah hst;clear hst hp
    obtain⟨L,hL⟩:∃L,pre++(s.pins.take i).map kL=L:=⟨_,rfl⟩
    rw[hL]at HO HST hlen
    simp only[hL]
    clear hL
    have fQ:Hid (L.length+1<=maxLen):=ah (by unfold maxLen;omega)
    have iC:Hid ((L.length+1)*192<=140737488355328):=ah (by omega)
    clear hlen
    go_wp2_with (at_builtin;refine aI pJ (.tmp 39) (.tmp 42) rfl rfl (Value.slice A (L).length c) rfl (aC HO.out.own (F:=aj) (by(repeat'(first|(with_reducible first|exact ak|apply au|apply ay|apply aA|apply aB)|(right;simp;done)))) (fun _ _ x=>x)) 1 rfl (Src.bW (t:=100) (m:=1) (cs:=#[.int .i64 6,.int .i64 0,.int .u64 0,.int .i64 0,.slice none 0 0,.int .u64 0,.slice none 0 0,.int .i64 0,.int .i64 0,.slice none 0 0,.int .u64 0,.int .i64 p1,.int .u64 p2,.int .i64 p3,.int .i64 0,.int .i64 0,.int .i64 0,.int .i64 0]) (by(repeat (with_reducible first|exact Has.bP _ _ _ (by simp)|apply Has.drew|apply Has.drewN|apply Has.alloc|(apply Has.past<;>(try omega))))) rfl) (nT (kL ⟨p1,p2,p3⟩)) fQ.out iC.out ?_;intro A1 c1 w9 ho1 hg1 ha1;have hpush:=jC.push (kL ⟨p1,p2,p3⟩) HO.out (by(repeat'(first|(with_reducible first|exact ak|apply au|apply ay|apply aA|apply aB)|(right;simp;done)))) ho1 hg1 ha1;have HP:=ah hpush;clear ho1 hg1 ha1 hpush)
    go_roundw
    case rel=>exact⟨i+1,A1,c1,by omega,by go_num,by rw[HST.out];simp,pZ HP.out HST.out.symm⟩
    case measure=>simp[intOf];omega
   ·obtain rfl:i=s.pins.length:=by omega
    rw[List.take_length]at hlen HO
    rw[List.take_length]
    obtain⟨L,hL⟩:∃L,pre++s.pins.map kL=L:=⟨_,rfl⟩
    rw[hL]at HO hlen
    rw[hL]
    have HL:=ah hL;clear hL
    obtain⟨z0,z1,z2,z3,z4,z5,z6⟩:=iD.out _ (aW.out.then HO.out.kept)
    have x0:=HX.out _ HO.out.kept
    go_wp2_with fail
    clear z0 z1 z2 z3 z4 z5 z6 x0
    refine(acO.out _ HO.out.kept).mono ?_
    rintro e w6 ⟨rfl,hk⟩
    have G6:=ah (HO.out.still hk);clear hk
    obtain⟨z0,z1,z2,z3,z4,z5,z6⟩:=iD.out _ (aW.out.then G6.out.kept)
    have x0:=HX.out _ G6.out.kept
    have fQ:Hid (L.length+1<=maxLen):=ah (by unfold maxLen;omega)
    have iC:Hid ((L.length+1)*192<=140737488355328):=ah (by omega)
    cases un
    case' true=>
     rw[if_pos rfl]at NW
     go_wp2_with (at_builtin;refine aI pJ (.tmp 60) (.tmp 66) rfl rfl (Value.slice A (L).length c) rfl (aC G6.out.own (F:=aj) (by(repeat'(first|(with_reducible first|exact ak|apply au|apply ay|apply aA|apply aB)|(right;simp;done)))) (fun _ _ x=>x)) 1 rfl (Src.bW (t:=100) (m:=1) (cs:=#[.int .i64 4,.int .i64 0,.int .u64 s.hz,.int .i64 0,.slice none 0 0,.int .u64 0,.slice none 0 0,.int .i64 0,.int .i64 0,.slice none 0 0,.int .u64 0,.int .i64 0,.int .u64 0,.int .i64 0,.int .i64 0,.int .i64 0,.int .i64 0,.int .i64 0]) (by(repeat (with_reducible first|exact Has.bP _ _ _ (by simp)|apply Has.drew|apply Has.drewN|apply Has.alloc|(apply Has.past<;>(try omega))))) rfl) (nT (fP s.hz)) fQ.out iC.out ?_;intro A1 c1 w9 ho1 hg1 ha1;have hpush:=jC.push (fP s.hz) G6.out (by(repeat'(first|(with_reducible first|exact ak|apply au|apply ay|apply aA|apply aB)|(right;simp;done)))) ho1 hg1 ha1;have xB:=ah hpush;clear ho1 hg1 ha1 hpush;clear z0 z1 z2 z3 z4 z5 z6 x0;have y0:=HX.out _ xB.out.kept;obtain⟨⟨t00,t01,t02,t03⟩,⟨t10,t11,t12,t13⟩,t20,t21,t22,t23⟩:=HCT.out _ (aW.out.then xB.out.kept))
     have G7:Hid (L++[fP s.hz]=pre++s.pins.map kL++mg s++[fP s.hz]):=ah (by rw[NW.out,List.append_nil,HL.out])
     have PY:(L++[fP s.hz]).length<=4+s.pins.length:=by rw[List.length_append];simp;omega
     have e9:L.length+1=(L++[fP s.hz]).length:=by simp
     rw[e9]at⊢
     obtain⟨L9,Uj⟩:∃L9,L9=L++[fP s.hz]:=⟨_,rfl⟩
     rw[<-Uj]at xB G7 PY⊢
     clear G6 Uj hlen fQ iC e9 y0 t00 t01 t02 t03 t10 t11 t12 t13 t20 t21 t22 t23
     skip
    case' false=>
     rw[if_neg (by simp)]at NW
     go_wp2_with (first|(at_builtin;refine aI pJ (.tmp 60) (.tmp 66) rfl rfl (Value.slice A1 (L8).length c1) rfl (aC NZ.out.own (F:=aj) (by(repeat'(first|(with_reducible first|exact ak|apply au|apply ay|apply aA|apply aB)|(right;simp;done)))) (fun _ _ x=>x)) 1 rfl (Src.bW (t:=100) (m:=1) (cs:=#[.int .i64 4,.int .i64 0,.int .u64 s.hz,.int .i64 0,.slice none 0 0,.int .u64 0,.slice none 0 0,.int .i64 0,.int .i64 0,.slice none 0 0,.int .u64 0,.int .i64 0,.int .u64 0,.int .i64 0,.int .i64 0,.int .i64 0,.int .i64 0,.int .i64 0]) (by(repeat (with_reducible first|exact Has.bP _ _ _ (by simp)|apply Has.drew|apply Has.drewN|apply Has.alloc|(apply Has.past<;>(try omega))))) rfl) (nT (fP s.hz)) zO.out yB.out ?_;intro A2 c2 w10 ho1 hg1 ha1;have hpush:=jC.push (fP s.hz) NZ.out (by(repeat'(first|(with_reducible first|exact ak|apply au|apply ay|apply aA|apply aB)|(right;simp;done)))) ho1 hg1 ha1;have xB:=ah hpush;clear ho1 hg1 ha1 hpush;clear y0 y1 y2 y3 y4 y5 y6 y7;have y0:=HX.out _ xB.out.kept;obtain⟨⟨t00,t01,t02,t03⟩,⟨t10,t11,t12,t13⟩,t20,t21,t22,t23⟩:=HCT.out _ (aW.out.then xB.out.kept))|(at_builtin;refine aI pJ (.tmp 52) (.tmp 58) rfl rfl (Value.slice A (L).length c) rfl (aC G6.out.own (F:=aj) (by(repeat'(first|(with_reducible first|exact ak|apply au|apply ay|apply aA|apply aB)|(right;simp;done)))) (fun _ _ x=>x)) 1 rfl (Src.bW (t:=100) (m:=1) (cs:=#[.int .i64 7,.int .i64 s.top,.int .u64 0,.int .i64 0,.slice none 0 0,.int .u64 0,.slice none 0 0,.int .i64 0,.int .i64 0,.slice none 0 0,.int .u64 0,.int .i64 0,.int .u64 0,.int .i64 0,.int .i64 0,.int .i64 0,.int .i64 0,.int .i64 0]) (by(repeat (with_reducible first|exact Has.bP _ _ _ (by simp)|apply Has.drew|apply Has.drewN|apply Has.alloc|(apply Has.past<;>(try omega))))) rfl) (nT (Cc s.top)) fQ.out iC.out ?_;intro A1 c1 w9 ho1 hg1 ha1;have hpush:=jC.push (Cc s.top) G6.out (by(repeat'(first|(with_reducible first|exact ak|apply au|apply ay|apply aA|apply aB)|(right;simp;done)))) ho1 hg1 ha1;have NZ:=ah hpush;clear ho1 hg1 ha1 hpush;have e8:L.length+1=(L++[Cc s.top]).length:=(by simp);obtain⟨L8,hL8⟩:∃L8,L8=L++[Cc s.top]:=⟨_,rfl⟩;rw[<-hL8]at NZ e8;rw[e8];have zO:Hid (L8.length+1<=maxLen):=ah (by unfold maxLen;omega);have yB:Hid ((L8.length+1)*192<=140737488355328):=ah (by omega);have HE8:=ah hL8;clear hL8 e8;have y0:=HX.out _ NZ.out.kept;obtain⟨y1,y2,y3,y4,y5,y6,y7⟩:=iD.out _ (aW.out.then NZ.out.kept)))
     have hl8:L8.length=L.length+1:=by rw[HE8.out];simp
     have G7:Hid (L8++[fP s.hz]=pre++s.pins.map kL++mg s++[fP s.hz]):=ah (by rw[HE8.out,NW.out,HL.out])
     have PY:(L8++[fP s.hz]).length<=4+s.pins.length:=by rw[List.length_append];simp;omega
     have e9:L8.length+1=(L8++[fP s.hz]).length:=by simp
     rw[e9]at⊢
     obtain⟨L9,Uj⟩:∃L9,L9=L8++[fP s.hz]:=⟨_,rfl⟩
     rw[<-Uj]at xB G7 PY⊢
     clear z0 z1 z2 z3 z4 z5 z6 x0 G6 NZ Uj hlen fQ iC zO yB HE8 hl8 e9 y0 t00 t01 t02 t03 t10 t11 t12 t13 t20 t21 t22 t23
     skip
    all_goals
     rename_i A9 c9 w9
     go_loopw [3,7,72] (fun v3 _ v72 wr=>∃(i:Nat) (A:Option Addr) (c:Nat),i<=3/\v72=.int .i64 i/\v3=.slice A (L9++fK ((jg s).take i)).length c/\jC W0 s wr pre (L9++fK ((jg s).take i)) A c) (fun _ _ v72 _=>3-(intOf v72).toNat)
     case atStart=>exact⟨0,_,_,Nat.zero_le _,rfl,by rw[List.take_zero];simp[fK],pZ xB.out (by simp[fK])⟩
     case round=>
      obtain⟨i,A,c,hi,rfl,rfl,ho⟩:=hrel
      have HO:=ah ho;clear ho xB
      have hlen:(L9++fK ((jg s).take i)).length<=7+s.pins.length:=by
       rw[List.length_append]
       have:=EM (jg s) i
       have:(jg s).length=3:=rfl
       omega
      by_cases hi3:i<3
      ·have acP:i=0\/i=1\/i=2:=by omega
       rcases acP with rfl|rfl|rfl
       ·have hst:=yc (show(jg s)[0]? =some s.t0 from rfl)
        have hne:=wM s.t0
        obtain⟨d,hd⟩:∃d,decide (s.t0≠lF)=d:=⟨_,rfl⟩
        rw[hd]at hne hst
        clear hd
        obtain⟨L,hL⟩:∃L,L9++fK ((jg s).take 0)=L:=⟨_,rfl⟩
        have hst2:L9++fK ((jg s).take (0+1))=if d=true then L++[rQ s.t0]else L:=by
         rw[hst,<-hL]
         split
         ·rw[List.append_assoc]
         ·rfl
        rw[hL]at HO hlen
        have fQ:Hid (L.length+1<=maxLen):=ah (by unfold maxLen;omega)
        have iC:Hid ((L.length+1)*192<=140737488355328):=ah (by omega)
        simp only[hL]
        clear hL hlen hst
        dsimp only[rC]at hne
        cases d
        ·rw[if_neg (by simp)]at hst2
         have HST:=ah hst2;clear hst2
         go_wp2
         go_roundw
         case rel=>exact⟨0+1,A,c,by omega,by go_num,by rw[HST.out],pZ (HO.out.still (by(repeat'(first|(with_reducible first|exact ak|apply au|apply ay|apply aA|apply aB)|(right;simp;done))))) HST.out.symm⟩
         case measure=>simp[intOf]
        ·rw[if_pos rfl]at hst2
         have HST:=ah hst2;clear hst2
         go_wp2_with (at_builtin;refine aI pJ (.tmp 78) (.tmp 81) rfl rfl (Value.slice A (L).length c) rfl (aC HO.out.own (F:=aj) (by(repeat'(first|(with_reducible first|exact ak|apply au|apply ay|apply aA|apply aB)|(right;simp;done)))) (fun _ _ x=>x)) 1 rfl (Src.bW (t:=100) (m:=1) (cs:=#[.int .i64 8,.int .i64 0,.int .u64 0,.int .i64 0,.slice none 0 0,.int .u64 0,.slice none 0 0,.int .i64 0,.int .i64 0,.slice none 0 0,.int .u64 0,.int .i64 0,.int .u64 0,.int .i64 0,.int .i64 s.t0.cl,.int .i64 s.t0.req,.int .i64 s.t0.e,.int .i64 s.t0.pin]) (by(repeat (with_reducible first|exact Has.bP _ _ _ (by simp)|apply Has.drew|apply Has.drewN|apply Has.alloc|(apply Has.past<;>(try omega))))) rfl) (nT (rQ s.t0)) fQ.out iC.out ?_;intro A1 c1 w9 ho1 hg1 ha1;have hpush:=jC.push (rQ s.t0) HO.out (by(repeat'(first|(with_reducible first|exact ak|apply au|apply ay|apply aA|apply aB)|(right;simp;done)))) ho1 hg1 ha1;have HP:=ah hpush;clear ho1 hg1 ha1 hpush)
         go_roundw
         case rel=>exact⟨0+1,A1,c1,by omega,by go_num,by rw[HST.out];simp,pZ HP.out HST.out.symm⟩
         case measure=>simp[intOf]
       ·have hst:=yc (show(jg s)[1]? =some s.t1 from rfl)
        have hne:=wM s.t1
        obtain⟨d,hd⟩:∃d,decide (s.t1≠lF)=d:=⟨_,rfl⟩
        rw[hd]at hne hst
        clear hd
        obtain⟨L,hL⟩:∃L,L9++fK ((jg s).take 1)=L:=⟨_,rfl⟩
        have hst2:L9++fK ((jg s).take (1+1))=if d=true then L++[rQ s.t1]else L:=by
         rw[hst,<-hL]
         split
         ·rw[List.append_assoc]
         ·rfl
        rw[hL]at HO hlen
        have fQ:Hid (L.length+1<=maxLen):=ah (by unfold maxLen;omega)
        have iC:Hid ((L.length+1)*192<=140737488355328):=ah (by omega)
        simp only[hL]
        clear hL hlen hst
        dsimp only[rC]at hne
        cases d
        ·rw[if_neg (by simp)]at hst2
         have HST:=ah hst2;clear hst2
         go_wp2
         go_roundw
         case rel=>exact⟨1+1,A,c,by omega,by go_num,by rw[HST.out],pZ (HO.out.still (by(repeat'(first|(with_reducible first|exact ak|apply au|apply ay|apply aA|apply aB)|(right;simp;done))))) HST.out.symm⟩
         case measure=>simp[intOf]
        ·rw[if_pos rfl]at hst2
         have HST:=ah hst2;clear hst2
         go_wp2_with (at_builtin;refine aI pJ (.tmp 78) (.tmp 81) rfl rfl (Value.slice A (L).length c) rfl (aC HO.out.own (F:=aj) (by(repeat'(first|(with_reducible first|exact ak|apply au|apply ay|apply aA|apply aB)|(right;simp;done)))) (fun _ _ x=>x)) 1 rfl (Src.bW (t:=100) (m:=1) (cs:=#[.int .i64 8,.int .i64 0,.int .u64 0,.int .i64 0,.slice none 0 0,.int .u64 0,.slice none 0 0,.int .i64 0,.int .i64 0,.slice none 0 0,.int .u64 0,.int .i64 0,.int .u64 0,.int .i64 0,.int .i64 s.t1.cl,.int .i64 s.t1.req,.int .i64 s.t1.e,.int .i64 s.t1.pin]) (by(repeat (with_reducible first|exact Has.bP _ _ _ (by simp)|apply Has.drew|apply Has.drewN|apply Has.alloc|(apply Has.past<;>(try omega))))) rfl) (nT (rQ s.t1)) fQ.out iC.out ?_;intro A1 c1 w9 ho1 hg1 ha1;have hpush:=jC.push (rQ s.t1) HO.out (by(repeat'(first|(with_reducible first|exact ak|apply au|apply ay|apply aA|apply aB)|(right;simp;done)))) ho1 hg1 ha1;have HP:=ah hpush;clear ho1 hg1 ha1 hpush)
         go_roundw
         case rel=>exact⟨1+1,A1,c1,by omega,by go_num,by rw[HST.out];simp,pZ HP.out HST.out.symm⟩
         case measure=>simp[intOf]
       ·have hst:=yc (show(jg s)[2]? =some s.t2 from rfl)
        have hne:=wM s.t2
        obtain⟨d,hd⟩:∃d,decide (s.t2≠lF)=d:=⟨_,rfl⟩
        rw[hd]at hne hst
        clear hd
        obtain⟨L,hL⟩:∃L,L9++fK ((jg s).take 2)=L:=⟨_,rfl⟩
        have hst2:L9++fK ((jg s).take (2+1))=if d=true then L++[rQ s.t2]else L:=by
         rw[hst,<-hL]
         split
         ·rw[List.append_assoc]
         ·rfl
        rw[hL]at HO hlen
        have fQ:Hid (L.length+1<=maxLen):=ah (by unfold maxLen;omega)
        have iC:Hid ((L.length+1)*192<=140737488355328):=ah (by omega)
        simp only[hL]
        clear hL hlen hst
        dsimp only[rC]at hne
        cases d
        ·rw[if_neg (by simp)]at hst2
         have HST:=ah hst2;clear hst2
         go_wp2
         go_roundw
         case rel=>exact⟨2+1,A,c,by omega,by go_num,by rw[HST.out],pZ (HO.out.still (by(repeat'(first|(with_reducible first|exact ak|apply au|apply ay|apply aA|apply aB)|(right;simp;done))))) HST.out.symm⟩
         case measure=>simp[intOf]
        ·rw[if_pos rfl]at hst2
         have HST:=ah hst2;clear hst2
         go_wp2_with (at_builtin;refine aI pJ (.tmp 78) (.tmp 81) rfl rfl (Value.slice A (L).length c) rfl (aC HO.out.own (F:=aj) (by(repeat'(first|(with_reducible first|exact ak|apply au|apply ay|apply aA|apply aB)|(right;simp;done)))) (fun _ _ x=>x)) 1 rfl (Src.bW (t:=100) (m:=1) (cs:=#[.int .i64 8,.int .i64 0,.int .u64 0,.int .i64 0,.slice none 0 0,.int .u64 0,.slice none 0 0,.int .i64 0,.int .i64 0,.slice none 0 0,.int .u64 0,.int .i64 0,.int .u64 0,.int .i64 0,.int .i64 s.t2.cl,.int .i64 s.t2.req,.int .i64 s.t2.e,.int .i64 s.t2.pin]) (by(repeat (with_reducible first|exact Has.bP _ _ _ (by simp)|apply Has.drew|apply Has.drewN|apply Has.alloc|(apply Has.past<;>(try omega))))) rfl) (nT (rQ s.t2)) fQ.out iC.out ?_;intro A1 c1 w9 ho1 hg1 ha1;have hpush:=jC.push (rQ s.t2) HO.out (by(repeat'(first|(with_reducible first|exact ak|apply au|apply ay|apply aA|apply aB)|(right;simp;done)))) ho1 hg1 ha1;have HP:=ah hpush;clear ho1 hg1 ha1 hpush)
         go_roundw
         case rel=>exact⟨2+1,A1,c1,by omega,by go_num,by rw[HST.out];simp,pZ HP.out HST.out.symm⟩
         case measure=>simp[intOf]
      ·obtain rfl:i=3:=by omega
       go_wp2
       go_ret
       refine⟨A,c,pre,?_,?_⟩
       ·rw[<-G7.out];rfl
       ·rw[<-G7.out]
        have h9:=HO.out
        exact⟨h9.own,fun k hk=>Nat.le_trans aW.out.size (h9.new k hk),h9.pre,aW.out.then h9.kept⟩
end Mst
end Go.Proofs.YtolkgbafebehfaaGreat
