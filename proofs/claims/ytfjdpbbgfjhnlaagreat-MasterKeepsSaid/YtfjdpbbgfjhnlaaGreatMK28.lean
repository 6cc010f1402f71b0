/- Part 29 of what the proof needs. -/
import Derived.Test.YtfjdpbbgfjhnlaaGreatMK27
set_option linter.unusedSimpArgs false
set_option linter.unusedVariables false
set_option maxHeartbeats 32000000
set_option maxRecDepth 100000
namespace Go.Proofs.YtfjdpbbgfjhnlaaGreat
open Go.RowKit
set_option maxRecDepth 100000
namespace Mst
open aO Vn Go.Sort
theorem U1(x0 x1 x2 x3 x4 x5 x6 x7 x8 x9 x10 x11:Int)(W:World):(Instr.index 122 (.agg #[.int .i64 x0,.int .i64 x1,.int .i64 x2,.int .i64 x3,.int .i64 x4,.int .i64 x5,.int .i64 x6,.int .i64 x7,.int .i64 x8,.int .i64 x9,.int .i64 x10,.int .i64 x11]) (.int .i64 0)).run Tryz.prog W=.ok (.agg #[.int .i64 x0,.int .i64 x1,.int .i64 x2,.int .i64 x3]) W:=by kernel_rfl
theorem U2(x0 x1 x2 x3 x4 x5 x6 x7 x8 x9 x10 x11:Int)(W:World):(Instr.index 122 (.agg #[.int .i64 x0,.int .i64 x1,.int .i64 x2,.int .i64 x3,.int .i64 x4,.int .i64 x5,.int .i64 x6,.int .i64 x7,.int .i64 x8,.int .i64 x9,.int .i64 x10,.int .i64 x11]) (.int .i64 1)).run Tryz.prog W=.ok (.agg #[.int .i64 x4,.int .i64 x5,.int .i64 x6,.int .i64 x7]) W:=by kernel_rfl
theorem U3(x0 x1 x2 x3 x4 x5 x6 x7 x8 x9 x10 x11:Int)(W:World):(Instr.index 122 (.agg #[.int .i64 x0,.int .i64 x1,.int .i64 x2,.int .i64 x3,.int .i64 x4,.int .i64 x5,.int .i64 x6,.int .i64 x7,.int .i64 x8,.int .i64 x9,.int .i64 x10,.int .i64 x11]) (.int .i64 2)).run Tryz.prog W=.ok (.agg #[.int .i64 x8,.int .i64 x9,.int .i64 x10,.int .i64 x11]) W:=by kernel_rfl
attribute [local go_sem↓] U1 U2 U3
theorem rQ{W0 w:World}{s:bQ}{pre l l':List aG}{A:Option Addr}{c:Nat}(h:kG W0 s w pre l A c)(e:l=l'):kG W0 s w pre l' A c:=e▸h
theorem YO{pre:List aG}{l:List aY}{i:Nat}{p:aY}(h:l[i]? =some p):pre++(l.take (i+1)).map gI=(pre++(l.take i).map gI)++[gI p]:=by
 rw[take_snoc h,List.map_append,List.append_assoc];rfl
theorem Ap{l:List jK}{i:Nat}{a:jK}(h:l[i]? =some a):dI (l.take (i+1))=if decide (a≠jD)=true then dI (l.take i)++[lZ a]else dI (l.take i):=by
 unfold dI
 rw[take_snoc h,List.filter_append,List.filter_cons]
 split<;>simp
theorem I7(l:List jK)(i:Nat):(dI (l.take i)).length<=l.length:=by
 unfold dI
 rw[List.length_map]
 refine Nat.le_trans (List.length_filter_le ..) ?_
 rw[List.length_take]
 exact Nat.min_le_right _ _
def YP(w:World)(s:bQ)(e:Ending)(w':World):Prop:=
 ∃A c pre,e=.returned (.slice A (pre++s.pins.map gI++jI s++[dV s.hz]++dI (iL s)).length c)/\kG w s w' pre (pre++s.pins.map gI++jI s++[dV s.hz]++dI (iL s)) A c
theorem yX(p:jK)(W:World):(binOp .neq 56 (pq p) (.agg #[.int .i64 0,.int .i64 0,.int .i64 0,.int .i64 0])).run Tryz.prog W=.ok (.bool (decide (p≠jD))) W:=by
 obtain⟨p1,p2,p3,p4⟩:=p
 by_cases h1:p1=0<;>by_cases h2:p2=0<;>by_cases h3:p3=0<;>by_cases h4:p4=0<;>simp[go_sem,jD,h1,h2,h3,h4]
theorem LP(w:World)(b:Nat)(F:Nat->Prop)(s:bQ)(hs:eH w b F s)(hok:nZ s):
  Calls Tryz.prog 70 #[.pointer (some ⟨b,0,none⟩)] w (YP w s):=by
 obtain⟨mA,mc,lA,lc,pA,pc,hF,hb,hm,hl,hp⟩:=hs
 have hnone:=fun W (hW:Kept aj w W)=>dR W b s mA mc lA lc pA pc true (hb.kept hW (fun z=>z))
 have hown:=fun W (hW:Kept aj w W)=>JH W s.ep s.fl mA mc s.ms ((Src.bC hm).kept hW (fun _ _ z=>z)) (by have:=hok.m;omega)
 have hcl:=fun W (hW:Kept aj w W)=>yI W lA lc s.lg ((Src.bC hl).kept hW (fun _ _ z=>z)) (by have:=hok.l;omega)
 have hce:∀W,Kept aj w W->W.cell? ⟨b,0,none⟩=some (.int .i64 s.ep)/\W.cell? ⟨b,1,none⟩=some (.slice mA s.ms.length mc)/\W.cell? ⟨b,2,none⟩=some (.int .u64 s.fl)/\W.cell? ⟨b,3,none⟩=some (.slice lA s.lg.length lc)/\W.cell? ⟨b,4,none⟩=some (.int .u64 s.hz)/\W.cell? ⟨b,5,none⟩=some (.slice pA s.pins.length pc)/\W.cell? ⟨b,6,none⟩=some (.int .i64 s.top):=fun W hW=>by
  have g:=hb.kept hW (fun z=>z)
  exact⟨g.cell 0,g.cell 1,g.cell 2,g.cell 3,g.cell 4,g.cell 5,g.cell 6⟩
 have hct:∀W,Kept aj w W->(W.cell? ⟨b,7,none⟩=some (.int .i64 s.t0.cl)/\W.cell? ⟨b,7+1,none⟩=some (.int .i64 s.t0.req)/\W.cell? ⟨b,7+2,none⟩=some (.int .i64 s.t0.e)/\W.cell? ⟨b,7+3,none⟩=some (.int .i64 s.t0.pin))/\(W.cell? ⟨b,7+4,none⟩=some (.int .i64 s.t1.cl)/\W.cell? ⟨b,7+5,none⟩=some (.int .i64 s.t1.req)/\W.cell? ⟨b,7+6,none⟩=some (.int .i64 s.t1.e)/\W.cell? ⟨b,7+7,none⟩=some (.int .i64 s.t1.pin))/\W.cell? ⟨b,7+8,none⟩=some (.int .i64 s.t2.cl)/\W.cell? ⟨b,7+9,none⟩=some (.int .i64 s.t2.req)/\W.cell? ⟨b,7+10,none⟩=some (.int .i64 s.t2.e)/\W.cell? ⟨b,7+11,none⟩=some (.int .i64 s.t2.pin):=fun W hW=>by
  have g:=hb.kept hW (fun z=>z)
  exact⟨⟨g.cell 7,g.cell 8,g.cell 9,g.cell 10⟩,⟨g.cell 11,g.cell 12,g.cell 13,g.cell 14⟩,g.cell 15,g.cell 16,g.cell 17,g.cell 18⟩
 have Fv:=fun W (hW:Kept aj w W)=>(Src.bC hp).kept hW (fun _ _ z=>z)
 obtain⟨W0,hW0⟩:∃W0,w.alloc (.cells #[.pointer (some ⟨b,0,none⟩)] 84)=W0:=⟨_,rfl⟩
 have hk0:Kept aj w W0:=by rw[<-hW0];(repeat'(first|(with_reducible first|exact ak|apply au|apply ay|apply aA|apply aB)|(right;simp;done)))
 have hn0:Has W0 w.heap.size 84 #[.pointer (some ⟨b,0,none⟩)]:=by rw[<-hW0];exact Has.new _ _ _
 have hx:∀W,Kept aj W0 W->W.cell? ⟨w.heap.size,0,none⟩=some (.pointer (some ⟨b,0,none⟩)):=fun W hW=>(hn0.kept hW (fun z=>z)).cell 0
 have hhas:=fun W (hW:Kept aj W0 W)=>TT W pA pc s.pins 130 (.pointer (some ⟨w.heap.size,0,none⟩)) (fun p=>decide (p.id=s.top)) (fun args W=>enters Tryz.func130 (by kernel_rfl) rfl args W) (Fv W (hk0.then hW)) (by have:=hok.p;omega)
  (fun W2 p hW2 _=>UZ W2 p w.heap.size b s mA mc lA lc pA pc (hn0.kept (hW.then hW2) (fun z=>z)) (hb.kept (hk0.then (hW.then hW2)) (fun z=>z)))
 obtain⟨un,hun⟩:∃un,(s.pins.any fun p=>decide (p.id=s.top))=un:=⟨_,rfl⟩
 rw[hun]at hhas
 have hup:jI s=if un=true then []else [wu s.top]:=by unfold jI;rw[hun]
 have hpl:=hok.p
 have jl:=ah hnone;have ql:=ah hown;have nX:=ah hcl;have jg:=ah hce;have HCT:=ah hct;have uJ:=ah Fv;have bf:=ah hk0;have HX:=ah hx;have ag3:=ah hhas
 have Ti:=ah hup;have uY:=ah hb.lt
 clear hnone hown hcl hce hct Fv hk0 hx hhas hun hup hn0 hF hb hm hl hp hok
 go_enter Tryz.func70,Tryz.ntmps70
 have x0:=HX.out _ (Kept.refl _ _)
 go_wp2_with fail
 clear hW0
 refine(jl.out _ bf.out).mono ?_
 rintro e w2 ⟨rfl,hk⟩
 have aW:=ah hk;clear hk x0
 obtain⟨z0,z1,z2,z3,z4,z5,z6⟩:=jg.out w2 (bf.out.then aW.out)
 have x0:=HX.out _ aW.out
 by_cases lS:0<s.ep
 case' neg=>
  have abA:(0<s.ep)=False:=eq_false lS
  go_wp2_with fail
  clear abA z0 z1 z2 z3 z4 z5 z6 x0
  obtain⟨w5,hw5⟩:∃w5,w5=w2:=⟨_,rfl⟩
  obtain⟨pre,hpre⟩:∃pre:List aG,pre=[]:=⟨_,rfl⟩
  have hout:kG W0 s w5 pre pre none 0:=by
   subst hpre
   exact⟨⟨rfl,.inl ⟨rfl,rfl⟩⟩,(fun k hk=>by cases hk),.inl ⟨rfl,by omega⟩,hw5▸aW.out⟩
  obtain⟨V,hV⟩:∃V:Value,V=.slice none 0 0:=⟨_,rfl⟩
  have vT:Hid (∃A c,Value.slice none 0 0=.slice A pre.length c/\kG W0 s w5 pre pre A c):=ah ⟨none,0,by rw[hpre];rfl,hout⟩
  have Ez:Hid (pre.length<=1):=ah (by rw[hpre];decide)
  rw[<-hw5]
  clear hout hV V hpre hw5 aW
  skip
 case' pos=>
  have abA:(0<s.ep)=True:=eq_true lS
  have HS:=ah (Kept.refl aj w2)
  have gq:Hid (0+1<=maxLen):=ah (by decide)
  have iO:Hid ((0+1)*192<=140737488355328):=ah (by decide)
  have tV:Hid (∀W,Kept aj w2 W->W.cell? ⟨w.heap.size,0,none⟩=some (.pointer (some ⟨b,0,none⟩))/\W.cell? ⟨b,0,none⟩=some (.int .i64 s.ep)/\W.cell? ⟨b,1,none⟩=some (.slice mA s.ms.length mc)/\W.cell? ⟨b,2,none⟩=some (.int .u64 s.fl)/\W.cell? ⟨b,3,none⟩=some (.slice lA s.lg.length lc)):=ah fun W hW=>by
   have r:=jg.out _ (bf.out.then (aW.out.then hW))
   exact⟨HX.out _ (aW.out.then hW),r.1,r.2.1,r.2.2.1,r.2.2.2.1⟩
  go_wp2_with fail
  (go_region_held3 (fun W=>W.cell? ⟨w.heap.size,0,none⟩=some (.pointer (some ⟨b,0,none⟩))/\W.cell? ⟨b,0,none⟩=some (.int .i64 s.ep)/\W.cell? ⟨b,1,none⟩=some (.slice mA s.ms.length mc)/\W.cell? ⟨b,2,none⟩=some (.int .u64 s.fl)/\W.cell? ⟨b,3,none⟩=some (.slice lA s.lg.length lc))
    (first|with_reducible exact tV.out _ HS.out|(refine tV.out _ ?_;(repeat'(first|(with_reducible first|exact ak|apply au|apply ay|apply aA|apply aB)|(exact HS.out)|(right;simp;done)));done)|(simp[go_sem,x0,z0,z1,z2,z3];done))
    (first
     |(go_at_call 92;((with_reducible refine(ql.out _ ?_).mono ?_);(exact bf.out.then (aW.out.then (by(repeat'(first|(with_reducible first|exact ak|apply au|apply ay|apply aA|apply aB)|(exact HS.out)|(right;simp;done))))));rintro e w4 ⟨A4,c4,rfl,hn4,hk4⟩;have hk:=Kept.then (F:=aj) (a:=w2) (by(repeat'(first|(with_reducible first|exact ak|apply au|apply ay|apply aA|apply aB)|(exact HS.out)|(right;simp;done)))) hk4;have Tj:=ah hn4.1;clear HS hk4 hn4;have HS:=ah hk;clear hk))
     |(go_at_call 94;((with_reducible refine(nX.out _ ?_).mono ?_);(exact bf.out.then (aW.out.then (by(repeat'(first|(with_reducible first|exact ak|apply au|apply ay|apply aA|apply aB)|(exact HS.out)|(right;simp;done))))));rintro e w3 ⟨A5,c5,rfl,jO,hk5⟩;have hk:=Kept.then (F:=aj) (a:=w2) (by(repeat'(first|(with_reducible first|exact ak|apply au|apply ay|apply aA|apply aB)|(exact HS.out)|(right;simp;done)))) hk5;have uo:=ah (And.intro (aC Tj.out (F:=aj) (Kept.then (F:=aj) (a:=w4) (by(repeat'(first|(with_reducible first|exact ak|apply au|apply ay|apply aA|apply aB)|(right;simp;done)))) hk5) (fun _ _ z=>z)) jO.1);have afa:=ah hk.size;clear HS hk5 jO Tj;have HS:=ah hk;clear hk))
     |(with_reducible apply uj qX (.tmp 16) (.tmp 28) (n:=0) (xs:=[]) (m:=1) (c:=1) (news:=[.int .i64 1,.int .i64 0,.int .u64 0,.int .i64 s.ep,.slice A4 s.ms.length c4,.int .u64 s.fl,.slice A5 s.lg.length c5,.int .i64 0,.int .i64 0,.slice none 0 0,.int .u64 0,.int .i64 0,.int .u64 0,.int .i64 0,.int .i64 0,.int .i64 0,.int .i64 0,.int .i64 0])
       rfl
       rfl
       exact(rfl:_=Value.slice none 0 0)
       (exact⟨rfl,.inl ⟨rfl,rfl⟩⟩)
       exact(rfl:_=Value.slice (some ⟨_,0,none⟩) 1 1)
       ((with_reducible apply Src.dn (t:=83) (m:=1) (cs:=#[.int .i64 1,.int .i64 0,.int .u64 0,.int .i64 s.ep,.slice A4 s.ms.length c4,.int .u64 s.fl,.slice A5 s.lg.length c5,.int .i64 0,.int .i64 0,.slice none 0 0,.int .u64 0,.int .i64 0,.int .u64 0,.int .i64 0,.int .i64 0,.int .i64 0,.int .i64 0,.int .i64 0]));(repeat (with_reducible first|exact Has.bT _ _ _ (by simp)|apply Has.drew|apply Has.drewN|apply Has.alloc|(apply Has.past<;>(try omega))));rfl)
       exact pZ (lY s A4 c4 A5 c5)
       exact gq.out
       exact iO.out
       intro A6 c6 w6 Dv Eu ha6
       simp only[Nat.zero_add,List.nil_append]at Dv ha6⊢
       (have hk6:Kept aj w2 w6:=Kept.grown (Kept.then (F:=aj) (a:=w2) HS.out (by(repeat'(first|(with_reducible first|exact ak|apply au|apply ay|apply aA|apply aB)|(right;simp;done))))) Eu (fun k hk=>by cases hk))
       (have abB:Kept aj w3 w6:=Kept.grown (by(repeat'(first|(with_reducible first|exact ak|apply au|apply ay|apply aA|apply aB)|(right;simp;done)))) Eu (fun k hk=>by cases hk))
       have IV:Hid (xR w6 s [lY s A4 c4 A5 c5]):=ah (.inr ⟨lS,A4,c4,A5,c5,rfl,aC uo.out.1 abB (fun _ _ z=>z),aC uo.out.2 abB (fun _ _ z=>z)⟩)
       have HZ6:=ah (And.intro Dv ha6)
       clear HS
       have HS:=ah hk6
       clear Dv Eu ha6 hk6 abB)))
  obtain⟨pre,hpre⟩:∃pre:List aG,pre=[lY s A4 c4 A5 c5]:=⟨_,rfl⟩
  have vT:Hid (∃A c,Value.slice A6 1 c6=.slice A pre.length c/\kG W0 s w6 pre pre A c):=ah ⟨A6,c6,by rw[hpre];rfl,by
   subst hpre
   refine⟨HZ6.out.1,fun k hk=> ?_,IV.out,aW.out.then HS.out⟩
   rcases HZ6.out.2 with e|e
   ·have h9:=e.symm.trans hk;cases h9
   ·have h9:=e.symm.trans hk
    injection h9 with h9
    have h8:=aW.out.size
    have h7:=afa.out
    first|(simp at h9;omega)|omega⟩
  have Ez:Hid (pre.length<=1):=ah (by rw[hpre];exact Nat.le_refl _)
  obtain⟨w5,hw5⟩:∃w5,w5=w6:=⟨_,rfl⟩
  rw[<-hw5]at vT⊢
  clear hpre hw5 HZ6 IV HS uo tV aW gq iO abA z0 z1 z2 z3 z4 z5 z6 x0 afa
  skip
 all_goals
  have hk5:Kept aj W0 w5:=by obtain⟨A,c,_,ho⟩:=vT.out;exact ho.kept
  obtain⟨z0,z1,z2,z3,z4,z5,z6⟩:=jg.out w5 (bf.out.then hk5)
  have x0:=HX.out _ hk5
  have cO:=ah hk5
  clear hk5
  go_wp2_with fail
  clear z0 z1 z2 z3 z4 z5 z6 x0
  go_loopw [3,5,35] (fun v3 v5 v35 wr=>∃(i:Nat) (A:Option Addr) (c:Nat),i<=s.pins.length/\v35=.int .i64 i/\v3=.slice A (pre++(s.pins.take i).map gI).length c/\kG W0 s wr pre (pre++(s.pins.take i).map gI) A c) (fun _ _ v35 _=>s.pins.length-(intOf v35).toNat)
  case atStart=>
   obtain⟨A,c,e,ho⟩:=vT.out
   exact⟨0,A,c,Nat.zero_le _,rfl,by rw[List.take_zero,List.map_nil,List.append_nil];exact e,rQ ho (by simp)⟩
  case round=>
   obtain⟨i,A,c,hi,rfl,rfl,ho⟩:=hrel
   have HO:=ah ho;clear ho vT cO
   have hlen:(pre++(s.pins.take i).map gI).length<=1+i:=by
    rw[List.length_append,List.length_map,List.length_take]
    have:=Ez.out
    omega
   by_cases hil:i<s.pins.length
   ·obtain⟨⟨p1,p2,p3⟩,hp⟩:∃p,s.pins[i]? =some p:=⟨_,List.getElem?_eq_getElem hil⟩
    obtain⟨ad,rfl,had,q0,q1,q2⟩:=jw (uJ.out _ (bf.out.then HO.out.kept)) (by omega) i _ hp
    dsimp only at q0 q1 q2
    have hst:=YO (pre:=pre) hp
    have HST:=ah hst;clear hst hp
    obtain⟨L,hL⟩:∃L,pre++(s.pins.take i).map gI=L:=⟨_,rfl⟩
    rw[hL]at HO HST hlen
    simp only[hL]
    clear hL
    have gq:Hid (L.length+1<=maxLen):=ah (by unfold maxLen;omega)
    have iO:Hid ((L.length+1)*192<=140737488355328):=ah (by omega)
    clear hlen
    go_wp2_with (at_builtin;refine aN qX (.tmp 39) (.tmp 42) rfl rfl (Value.slice A (L).length c) rfl (aC HO.out.own (F:=aj) (by(repeat'(first|(with_reducible first|exact ak|apply au|apply ay|apply aA|apply aB)|(right;simp;done)))) (fun _ _ x=>x)) 1 rfl (Src.dn (t:=83) (m:=1) (cs:=#[.int .i64 6,.int .i64 0,.int .u64 0,.int .i64 0,.slice none 0 0,.int .u64 0,.slice none 0 0,.int .i64 0,.int .i64 0,.slice none 0 0,.int .u64 0,.int .i64 p1,.int .u64 p2,.int .i64 p3,.int .i64 0,.int .i64 0,.int .i64 0,.int .i64 0]) (by(repeat (with_reducible first|exact Has.bT _ _ _ (by simp)|apply Has.drew|apply Has.drewN|apply Has.alloc|(apply Has.past<;>(try omega))))) rfl) (pZ (gI ⟨p1,p2,p3⟩)) gq.out iO.out ?_;intro A1 c1 w9 ho1 hg1 ha1;have hpush:=kG.push (gI ⟨p1,p2,p3⟩) HO.out (by(repeat'(first|(with_reducible first|exact ak|apply au|apply ay|apply aA|apply aB)|(right;simp;done)))) ho1 hg1 ha1;have HP:=ah hpush;clear ho1 hg1 ha1 hpush)
    go_roundw
    case rel=>exact⟨i+1,A1,c1,by omega,by go_num,by rw[HST.out];simp,rQ HP.out HST.out.symm⟩
    case measure=>simp[intOf];omega
   ·obtain rfl:i=s.pins.length:=by omega
    rw[List.take_length]at hlen HO
    rw[List.take_length]
    obtain⟨L,hL⟩:∃L,pre++s.pins.map gI=L:=⟨_,rfl⟩
    rw[hL]at HO hlen
    rw[hL]
    have HL:=ah hL;clear hL
    obtain⟨z0,z1,z2,z3,z4,z5,z6⟩:=jg.out _ (bf.out.then HO.out.kept)
    have x0:=HX.out _ HO.out.kept
    go_wp2_with fail
    clear z0 z1 z2 z3 z4 z5 z6 x0
    refine(ag3.out _ HO.out.kept).mono ?_
    rintro e w6 ⟨rfl,hk⟩
    have LQ:=ah (HO.out.still hk);clear hk
    obtain⟨z0,z1,z2,z3,z4,z5,z6⟩:=jg.out _ (bf.out.then LQ.out.kept)
    have x0:=HX.out _ LQ.out.kept
    have gq:Hid (L.length+1<=maxLen):=ah (by unfold maxLen;omega)
    have iO:Hid ((L.length+1)*192<=140737488355328):=ah (by omega)
    cases un
    case' true=>
     rw[if_pos rfl]at Ti
     go_wp2_with (at_builtin;refine aN qX (.tmp 60) (.tmp 66) rfl rfl (Value.slice A (L).length c) rfl (aC LQ.out.own (F:=aj) (by(repeat'(first|(with_reducible first|exact ak|apply au|apply ay|apply aA|apply aB)|(right;simp;done)))) (fun _ _ x=>x)) 1 rfl (Src.dn (t:=83) (m:=1) (cs:=#[.int .i64 4,.int .i64 0,.int .u64 s.hz,.int .i64 0,.slice none 0 0,.int .u64 0,.slice none 0 0,.int .i64 0,.int .i64 0,.slice none 0 0,.int .u64 0,.int .i64 0,.int .u64 0,.int .i64 0,.int .i64 0,.int .i64 0,.int .i64 0,.int .i64 0]) (by(repeat (with_reducible first|exact Has.bT _ _ _ (by simp)|apply Has.drew|apply Has.drewN|apply Has.alloc|(apply Has.past<;>(try omega))))) rfl) (pZ (dV s.hz)) gq.out iO.out ?_;intro A1 c1 w9 ho1 hg1 ha1;have hpush:=kG.push (dV s.hz) LQ.out (by(repeat'(first|(with_reducible first|exact ak|apply au|apply ay|apply aA|apply aB)|(right;simp;done)))) ho1 hg1 ha1;have vw:=ah hpush;clear ho1 hg1 ha1 hpush;clear z0 z1 z2 z3 z4 z5 z6 x0;have y0:=HX.out _ vw.out.kept;obtain⟨⟨t00,t01,t02,t03⟩,⟨t10,t11,t12,t13⟩,t20,t21,t22,t23⟩:=HCT.out _ (bf.out.then vw.out.kept))
     have LU:Hid (L++[dV s.hz]=pre++s.pins.map gI++jI s++[dV s.hz]):=ah (by rw[Ti.out,List.append_nil,HL.out])
     have U4:(L++[dV s.hz]).length<=4+s.pins.length:=by rw[List.length_append];simp;omega
     have e9:L.length+1=(L++[dV s.hz]).length:=by simp
     rw[e9]at⊢
     obtain⟨L9,YQ⟩:∃L9,L9=L++[dV s.hz]:=⟨_,rfl⟩
     rw[<-YQ]at vw LU U4⊢
     clear LQ YQ hlen gq iO e9 y0 t00 t01 t02 t03 t10 t11 t12 t13 t20 t21 t22 t23
     skip
    case' false=>
     rw[if_neg (by simp)]at Ti
     go_wp2_with (first|(at_builtin;refine aN qX (.tmp 60) (.tmp 66) rfl rfl (Value.slice A1 (L8).length c1) rfl (aC Tm.out.own (F:=aj) (by(repeat'(first|(with_reducible first|exact ak|apply au|apply ay|apply aA|apply aB)|(right;simp;done)))) (fun _ _ x=>x)) 1 rfl (Src.dn (t:=83) (m:=1) (cs:=#[.int .i64 4,.int .i64 0,.int .u64 s.hz,.int .i64 0,.slice none 0 0,.int .u64 0,.slice none 0 0,.int .i64 0,.int .i64 0,.slice none 0 0,.int .u64 0,.int .i64 0,.int .u64 0,.int .i64 0,.int .i64 0,.int .i64 0,.int .i64 0,.int .i64 0]) (by(repeat (with_reducible first|exact Has.bT _ _ _ (by simp)|apply Has.drew|apply Has.drewN|apply Has.alloc|(apply Has.past<;>(try omega))))) rfl) (pZ (dV s.hz)) yM.out AY.out ?_;intro A2 c2 w10 ho1 hg1 ha1;have hpush:=kG.push (dV s.hz) Tm.out (by(repeat'(first|(with_reducible first|exact ak|apply au|apply ay|apply aA|apply aB)|(right;simp;done)))) ho1 hg1 ha1;have vw:=ah hpush;clear ho1 hg1 ha1 hpush;clear y0 y1 y2 y3 y4 y5 y6 y7;have y0:=HX.out _ vw.out.kept;obtain⟨⟨t00,t01,t02,t03⟩,⟨t10,t11,t12,t13⟩,t20,t21,t22,t23⟩:=HCT.out _ (bf.out.then vw.out.kept))|(at_builtin;refine aN qX (.tmp 52) (.tmp 58) rfl rfl (Value.slice A (L).length c) rfl (aC LQ.out.own (F:=aj) (by(repeat'(first|(with_reducible first|exact ak|apply au|apply ay|apply aA|apply aB)|(right;simp;done)))) (fun _ _ x=>x)) 1 rfl (Src.dn (t:=83) (m:=1) (cs:=#[.int .i64 7,.int .i64 s.top,.int .u64 0,.int .i64 0,.slice none 0 0,.int .u64 0,.slice none 0 0,.int .i64 0,.int .i64 0,.slice none 0 0,.int .u64 0,.int .i64 0,.int .u64 0,.int .i64 0,.int .i64 0,.int .i64 0,.int .i64 0,.int .i64 0]) (by(repeat (with_reducible first|exact Has.bT _ _ _ (by simp)|apply Has.drew|apply Has.drewN|apply Has.alloc|(apply Has.past<;>(try omega))))) rfl) (pZ (wu s.top)) gq.out iO.out ?_;intro A1 c1 w9 ho1 hg1 ha1;have hpush:=kG.push (wu s.top) LQ.out (by(repeat'(first|(with_reducible first|exact ak|apply au|apply ay|apply aA|apply aB)|(right;simp;done)))) ho1 hg1 ha1;have Tm:=ah hpush;clear ho1 hg1 ha1 hpush;have e8:L.length+1=(L++[wu s.top]).length:=(by simp);obtain⟨L8,hL8⟩:∃L8,L8=L++[wu s.top]:=⟨_,rfl⟩;rw[<-hL8]at Tm e8;rw[e8];have yM:Hid (L8.length+1<=maxLen):=ah (by unfold maxLen;omega);have AY:Hid ((L8.length+1)*192<=140737488355328):=ah (by omega);have HE8:=ah hL8;clear hL8 e8;have y0:=HX.out _ Tm.out.kept;obtain⟨y1,y2,y3,y4,y5,y6,y7⟩:=jg.out _ (bf.out.then Tm.out.kept)))
     have hl8:L8.length=L.length+1:=by rw[HE8.out];simp
     have LU:Hid (L8++[dV s.hz]=pre++s.pins.map gI++jI s++[dV s.hz]):=ah (by rw[HE8.out,Ti.out,HL.out])
     have U4:(L8++[dV s.hz]).length<=4+s.pins.length:=by rw[List.length_append];simp;omega
     have e9:L8.length+1=(L8++[dV s.hz]).length:=by simp
     rw[e9]at⊢
     obtain⟨L9,YQ⟩:∃L9,L9=L8++[dV s.hz]:=⟨_,rfl⟩
     rw[<-YQ]at vw LU U4⊢
     clear z0 z1 z2 z3 z4 z5 z6 x0 LQ Tm YQ hlen gq iO yM AY HE8 hl8 e9 y0 t00 t01 t02 t03 t10 t11 t12 t13 t20 t21 t22 t23
     skip
    all_goals
     rename_i A9 c9 w9
     go_loopw [3,7,72] (fun v3 _ v72 wr=>∃(i:Nat) (A:Option Addr) (c:Nat),i<=3/\v72=.int .i64 i/\v3=.slice A (L9++dI ((iL s).take i)).length c/\kG W0 s wr pre (L9++dI ((iL s).take i)) A c) (fun _ _ v72 _=>3-(intOf v72).toNat)
     case atStart=>exact⟨0,_,_,Nat.zero_le _,rfl,by rw[List.take_zero];simp[dI],rQ vw.out (by simp[dI])⟩
     case round=>
      obtain⟨i,A,c,hi,rfl,rfl,ho⟩:=hrel
      have HO:=ah ho;clear ho vw
      have hlen:(L9++dI ((iL s).take i)).length<=7+s.pins.length:=by
       rw[List.length_append]
       have:=I7 (iL s) i
       have:(iL s).length=3:=rfl
       omega
      by_cases hi3:i<3
      ·have ag4:i=0\/i=1\/i=2:=by omega
       rcases ag4 with rfl|rfl|rfl
       ·have hst:=Ap (show(iL s)[0]? =some s.t0 from rfl)
        have hne:=yX s.t0
        obtain⟨d,hd⟩:∃d,decide (s.t0≠jD)=d:=⟨_,rfl⟩
        rw[hd]at hne hst
        clear hd
        obtain⟨L,hL⟩:∃L,L9++dI ((iL s).take 0)=L:=⟨_,rfl⟩
        have hst2:L9++dI ((iL s).take (0+1))=if d=true then L++[lZ s.t0]else L:=by
         rw[hst,<-hL]
         split
         ·rw[List.append_assoc]
         ·rfl
        rw[hL]at HO hlen
        have gq:Hid (L.length+1<=maxLen):=ah (by unfold maxLen;omega)
        have iO:Hid ((L.length+1)*192<=140737488355328):=ah (by omega)
        simp only[hL]
        clear hL hlen hst
        dsimp only[pq]at hne
        cases d
        ·rw[if_neg (by simp)]at hst2
         have HST:=ah hst2;clear hst2
         go_wp2
         go_roundw
         case rel=>exact⟨0+1,A,c,by omega,by go_num,by rw[HST.out],rQ (HO.out.still (by(repeat'(first|(with_reducible first|exact ak|apply au|apply ay|apply aA|apply aB)|(right;simp;done))))) HST.out.symm⟩
         case measure=>simp[intOf]
        ·rw[if_pos rfl]at hst2
         have HST:=ah hst2;clear hst2
         go_wp2_with (at_builtin;refine aN qX (.tmp 78) (.tmp 81) rfl rfl (Value.slice A (L).length c) rfl (aC HO.out.own (F:=aj) (by(repeat'(first|(with_reducible first|exact ak|apply au|apply ay|apply aA|apply aB)|(right;simp;done)))) (fun _ _ x=>x)) 1 rfl (Src.dn (t:=83) (m:=1) (cs:=#[.int .i64 8,.int .i64 0,.int .u64 0,.int .i64 0,.slice none 0 0,.int .u64 0,.slice none 0 0,.int .i64 0,.int .i64 0,.slice none 0 0,.int .u64 0,.int .i64 0,.int .u64 0,.int .i64 0,.int .i64 s.t0.cl,.int .i64 s.t0.req,.int .i64 s.t0.e,.int .i64 s.t0.pin]) (by(repeat (with_reducible first|exact Has.bT _ _ _ (by simp)|apply Has.drew|apply Has.drewN|apply Has.alloc|(apply Has.past<;>(try omega))))) rfl) (pZ (lZ s.t0)) gq.out iO.out ?_;intro A1 c1 w9 ho1 hg1 ha1;have hpush:=kG.push (lZ s.t0) HO.out (by(repeat'(first|(with_reducible first|exact ak|apply au|apply ay|apply aA|apply aB)|(right;simp;done)))) ho1 hg1 ha1;have HP:=ah hpush;clear ho1 hg1 ha1 hpush)
         go_roundw
         case rel=>exact⟨0+1,A1,c1,by omega,by go_num,by rw[HST.out];simp,rQ HP.out HST.out.symm⟩
         case measure=>simp[intOf]
       ·have hst:=Ap (show(iL s)[1]? =some s.t1 from rfl)
        have hne:=yX s.t1
        obtain⟨d,hd⟩:∃d,decide (s.t1≠jD)=d:=⟨_,rfl⟩
        rw[hd]at hne hst
        clear hd
        obtain⟨L,hL⟩:∃L,L9++dI ((iL s).take 1)=L:=⟨_,rfl⟩
        have hst2:L9++dI ((iL s).take (1+1))=if d=true then L++[lZ s.t1]else L:=by
         rw[hst,<-hL]
         split
         ·rw[List.append_assoc]
         ·rfl
        rw[hL]at HO hlen
        have gq:Hid (L.length+1<=maxLen):=ah (by unfold maxLen;omega)
        have iO:Hid ((L.length+1)*192<=140737488355328):=ah (by omega)
        simp only[hL]
        clear hL hlen hst
        dsimp only[pq]at hne
        cases d
        ·rw[if_neg (by simp)]at hst2
         have HST:=ah hst2;clear hst2
         go_wp2
         go_roundw
         case rel=>exact⟨1+1,A,c,by omega,by go_num,by rw[HST.out],rQ (HO.out.still (by(repeat'(first|(with_reducible first|exact ak|apply au|apply ay|apply aA|apply aB)|(right;simp;done))))) HST.out.symm⟩
         case measure=>simp[intOf]
        ·rw[if_pos rfl]at hst2
         have HST:=ah hst2;clear hst2
         go_wp2_with (at_builtin;refine aN qX (.tmp 78) (.tmp 81) rfl rfl (Value.slice A (L).length c) rfl (aC HO.out.own (F:=aj) (by(repeat'(first|(with_reducible first|exact ak|apply au|apply ay|apply aA|apply aB)|(right;simp;done)))) (fun _ _ x=>x)) 1 rfl (Src.dn (t:=83) (m:=1) (cs:=#[.int .i64 8,.int .i64 0,.int .u64 0,.int .i64 0,.slice none 0 0,.int .u64 0,.slice none 0 0,.int .i64 0,.int .i64 0,.slice none 0 0,.int .u64 0,.int .i64 0,.int .u64 0,.int .i64 0,.int .i64 s.t1.cl,.int .i64 s.t1.req,.int .i64 s.t1.e,.int .i64 s.t1.pin]) (by(repeat (with_reducible first|exact Has.bT _ _ _ (by simp)|apply Has.drew|apply Has.drewN|apply Has.alloc|(apply Has.past<;>(try omega))))) rfl) (pZ (lZ s.t1)) gq.out iO.out ?_;intro A1 c1 w9 ho1 hg1 ha1;have hpush:=kG.push (lZ s.t1) HO.out (by(repeat'(first|(with_reducible first|exact ak|apply au|apply ay|apply aA|apply aB)|(right;simp;done)))) ho1 hg1 ha1;have HP:=ah hpush;clear ho1 hg1 ha1 hpush)
         go_roundw
         case rel=>exact⟨1+1,A1,c1,by omega,by go_num,by rw[HST.out];simp,rQ HP.out HST.out.symm⟩
         case measure=>simp[intOf]
       ·have hst:=Ap (show(iL s)[2]? =some s.t2 from rfl)
        have hne:=yX s.t2
        obtain⟨d,hd⟩:∃d,decide (s.t2≠jD)=d:=⟨_,rfl⟩
        rw[hd]at hne hst
        clear hd
        obtain⟨L,hL⟩:∃L,L9++dI ((iL s).take 2)=L:=⟨_,rfl⟩
        have hst2:L9++dI ((iL s).take (2+1))=if d=true then L++[lZ s.t2]else L:=by
         rw[hst,<-hL]
         split
         ·rw[List.append_assoc]
         ·rfl
        rw[hL]at HO hlen
        have gq:Hid (L.length+1<=maxLen):=ah (by unfold maxLen;omega)
        have iO:Hid ((L.length+1)*192<=140737488355328):=ah (by omega)
        simp only[hL]
        clear hL hlen hst
        dsimp only[pq]at hne
        cases d
        ·rw[if_neg (by simp)]at hst2
         have HST:=ah hst2;clear hst2
         go_wp2
         go_roundw
         case rel=>exact⟨2+1,A,c,by omega,by go_num,by rw[HST.out],rQ (HO.out.still (by(repeat'(first|(with_reducible first|exact ak|apply au|apply ay|apply aA|apply aB)|(right;simp;done))))) HST.out.symm⟩
         case measure=>simp[intOf]
        ·rw[if_pos rfl]at hst2
         have HST:=ah hst2;clear hst2
         go_wp2_with (at_builtin;refine aN qX (.tmp 78) (.tmp 81) rfl rfl (Value.slice A (L).length c) rfl (aC HO.out.own (F:=aj) (by(repeat'(first|(with_reducible first|exact ak|apply au|apply ay|apply aA|apply aB)|(right;simp;done)))) (fun _ _ x=>x)) 1 rfl (Src.dn (t:=83) (m:=1) (cs:=#[.int .i64 8,.int .i64 0,.int .u64 0,.int .i64 0,.slice none 0 0,.int .u64 0,.slice none 0 0,.int .i64 0,.int .i64 0,.slice none 0 0,.int .u64 0,.int .i64 0,.int .u64 0,.int .i64 0,.int .i64 s.t2.cl,.int .i64 s.t2.req,.int .i64 s.t2.e,.int .i64 s.t2.pin]) (by(repeat (with_reducible first|exact Has.bT _ _ _ (by simp)|apply Has.drew|apply Has.drewN|apply Has.alloc|(apply Has.past<;>(try omega))))) rfl) (pZ (lZ s.t2)) gq.out iO.out ?_;intro A1 c1 w9 ho1 hg1 ha1;have hpush:=kG.push (lZ s.t2) HO.out (by(repeat'(first|(with_reducible first|exact ak|apply au|apply ay|apply aA|apply aB)|(right;simp;done)))) ho1 hg1 ha1;have HP:=ah hpush;clear ho1 hg1 ha1 hpush)
         go_roundw
         case rel=>exact⟨2+1,A1,c1,by omega,by go_num,by rw[HST.out];simp,rQ HP.out HST.out.symm⟩
         case measure=>simp[intOf]
      ·obtain rfl:i=3:=by omega
       go_wp2
       go_ret
       refine⟨A,c,pre,?_,?_⟩
       ·rw[<-LU.out];rfl
       ·rw[<-LU.out]
        have h9:=HO.out
        exact⟨h9.own,fun k hk=>Nat.le_trans bf.out.size (h9.new k hk),h9.pre,bf.out.then h9.kept⟩
end Mst
namespace Pt
open aH Fr Vn Ops Wl
def AOk(W:World)(a:abn):Prop:=Src W 1 a.A a.l.length (a.l.map Value.string)/\a.l.length<=maxLen/\I64 a.n
theorem AOk.kept{W W':World}{a:abn}(h:AOk W a)(hk:Kept aj W W'):AOk W' a:=⟨h.1.kept hk (fun _ _ z=>z),h.2⟩
end Pt
section
open Go.WideShapes Go.ChangeShapes
variable{H:Type}{enc:TypeId×Value->H}{W:World}{v:Value}{d:DataW H}{ps:List MemPlace}{r:Reach}{b0:Nat}
end
namespace Pt
open aH Fr Vn Ops Wl
theorem abC(k:Nat)(l:List ByteArray)(M:Nat):(jT k l).take (M+1)=jT k (l.take M):=by
 unfold jT
 rw[List.take_succ_cons,List.map_take]
section
variable{w0 w w':World}{gp gw g n c:Nat}{F:Nat->Prop}{m:aH.Safe}{ps:List aH.Pc}{aK first:Int}{R:St}{T:List (List UInt8)}{A:Option Addr}{l:List ByteArray}
theorem lu.adI{B:Nat}{aU:Int}(h:lu w B gp gw g F n m ps aU aK first R T A c l):ps.length=T.length:=by rw[h.low.low.pcs h.log,wS]
theorem lu.UN{B:Nat}{aU:Int}(h:lu w B gp gw g F n m ps aU aK first R T A c l)(hh:Hd R)(left:Nat):
  ∃R' k M,Log first R' [] (qE m left ps) []/\qo first (qE m left ps) []/\Hd R'/\texts R'=jT k (l.take M)/\M<=l.length/\(texts R).length<=M+1/\R'.length<=R.length+T.length/\k+1<=(texts R).length:=by
 obtain⟨R',j,a,b,e,ct,d⟩:=CV ps left h.log.safe h.log.ok hh h.log.T h.log.rest
 obtain⟨k,h3,h4⟩:=h.tx
 have hpre:texts R'<+:jT k l:=by rw[ct,<-h3];exact(List.prefix_append_right_inj _).2 (List.take_prefix _ _)
 have hge:(texts R).length<=(texts R').length:=by rw[ct];simp
 have hle:=hpre.length_le
 rw[tZ]at hle
 obtain⟨M,hM⟩:∃M,(texts R').length=M+1:=⟨(texts R').length-1,by omega⟩
 refine⟨R',k,M,⟨a,rfl,b,fun t ht=>by cases ht⟩,h.low.UN left,e,?_,by omega,by omega,d,h4⟩
 rw[List.prefix_iff_eq_take.1 hpre,hM,abC]
end
end Pt
namespace dH
open aO Vn Mst lV IM mY gZ
def lT(s:bQ):List aG:=(if 0<s.ep then [lY s none 0 none 0]else [])++s.pins.map gI++jI s++[dV s.hz]++dI (iL s)
theorem oC(a b:List aG):fG (a++b)=fG a++fG b:=by unfold fG;rw[List.filter_append,List.map_append]
theorem YR{w:World}{s:bQ}{pre:List aG}(h:xR w s pre):fG (pre++s.pins.map gI++jI s++[dV s.hz]++dI (iL s))=fG (lT s):=by
 unfold lT
 rw[oC,oC,oC,oC,oC,oC,oC,oC]
 congr 4
 rcases h with⟨h1,h2⟩|⟨h1,A,c,B,d,rfl,_,_⟩
 ·rw[h1,if_neg h2]
 ·rw[if_pos h1]
  have hE:aQ (lY s A c B d)=aQ (lY s none 0 none 0):=rfl
  have hB:kT (lY s A c B d)=kT (lY s none 0 none 0):=rfl
  unfold fG
  by_cases h0:aQ (lY s none 0 none 0)=0
  ·rw[List.filter_cons,if_pos (decide_eq_true (hE.trans h0)),List.filter_cons,if_pos (decide_eq_true h0),List.filter_nil,List.map_cons,List.map_cons,hB]
  ·rw[List.filter_cons,if_neg (by rw[hE];simpa using h0),List.filter_cons,if_neg (by simpa using h0)]
theorem LV(s:bQ)(pre:List aG)(hp:pre.length<=1):(pre++s.pins.map gI++jI s++[dV s.hz]++dI (iL s)).length<=s.pins.length+6:=by
 have h1:(jI s).length<=1:=by unfold jI;split<;>simp
 have h2:(dI (iL s)).length<=3:=I7 (iL s) 3
 simp only[List.length_append,List.length_map,List.length_singleton]
 omega
def l7(M:MR):MR:={M with lg:=if 2048<M.lg.sync.size then M.lg.sync.save (fG (lT M.st))else M.lg.sync,out:=[]}
def G4(w:World)(X:MX)(M:MR)(c:Nat)(e:Ending)(w':World):Prop:=
 ∃A d,e=.returned (.slice A M.out.length d)/\w'.ownsRow 0 240 2 (.slice A M.out.length d) M.out.length (uM M.out)/\(∀k,(Value.slice A M.out.length d).ownBlock=some k->dX X M k\/w.heap.size<=k)/\∃X',Step w X M w' X' (l7 M)/\dw X' (l7 M).lg (c+1)/\(∀k,(Value.slice A M.out.length d).ownBlock=some k->¬dX X' (l7 M) k)
section
variable{w w':World}{X X0:MX}{M M0:MR}{c:Nat}
theorem YS(t:List UInt8):0<(Fr.bI t).length:=by
 unfold Fr.bI
 rw[List.length_append,List.length_append]
 have:=put_pos t.length
 omega
theorem YT(first:Int)(R:Wl.St)(t:List UInt8)(T:List (List UInt8)):0<aH.total (Wl.jc first R (t::T)):=by
 show 0<aH.total ((first+Wl.lastOf R,Ops.bG (Fr.bI t))::Wl.jc first (Wl.app R t) T)
 rw[aH.total_cons]
 dsimp only
 have:=YS t
 have h2:(Ops.bG (Fr.bI t)).size=(Fr.bI t).length:=by rw[<-Ops.bJ,Ops.jd]
 omega
theorem YU(h:dD w X M)(hb:dw X M.lg c)(hc:c<=4500):
  Calls Tryz.prog 66 #[.pointer (some ⟨X.g,0,none⟩)] w fun e w'=>(∃k:Int,e=.returned (.int .i64 k))/\∃X',Step w X M w' X' {M with lg:=M.lg.sync}/\dw X' M.lg.sync c/\X'.n=X.n+X.ps.length/\X'.ps=[]:=by
 have hp:rX w X M.lg:=h.c 1
 refine(Pt.Yx hp (dw.fits hb h (by omega))).mono ?_
 rintro e w' ⟨he,hp',hk⟩
 have hst:=dD.UU (X:=X) (M:=M) (zK:=X.gw) (F':=X.F) (A':=X.A) (c':=X.c) (n':=X.n+X.ps.length) (m':=aH.lG X.m X.ps) (ps':=[]) (L':=M.lg.sync) h (w':=w') hp' (hk.mono fun k hk=> .inl hk) (fun k hk=> .inl hk) (.inl rfl) (fun k hk=> .inl hk)
 have hcur:=dw.cur hb h
 refine⟨he,_,hst,⟨?_,?_,hb.l,?_⟩,rfl,rfl⟩
 ·show X.n+X.ps.length+([]:List aH.Pc).length<=_
  have:=hb.n
  simp
  omega
 ·show M.lg.first+((Wl.cur M.lg.R M.lg.T).length+([]:List (List UInt8)).length:Nat)<=_
  have:=hb.f
  have:=hcur.1
  simp
  omega
 ·exact Pt.O5 hb.hd
theorem YV(h:dD w X M)(hb:dw X M.lg c)(hc:c<=4500)(A0:Option Addr)(c0:Nat)(l':List ByteArray)(hA:Src w 1 A0 l'.length (l'.map Value.string))(Lc:0<l'.length->∀ad,A0=some ad->¬dX X M ad.block)(hs:∀s∈l',s.size<65536)(hl:l'.length<=9):
  Calls Tryz.prog 68 #[.pointer (some ⟨X.gp,0,none⟩),.slice A0 l'.length c0] w fun e w'=>e=.returned (.int .i64 0)/\∃X',Step w X M w' X' {M with lg:=M.lg.save l'}/\dw X' (M.lg.save l') (c+1):=by
 have hp:rX w X M.lg:=h.c 1
 have hcur:=dw.cur hb h
 have h1:=hb.n
 have h2:=hb.f
 have h3:=hp.f1
 refine(Pt.Yk hp (dw.fits hb h (by omega)) (Nat.zero_le _) A0 c0 l' hA (fun h0 ad e=>⟨fun hf=>Lc h0 ad e ⟨1,.inl hf⟩,fun hf=>Lc h0 ad e ⟨1,.inr (.inl hf)⟩⟩) hs (by omega) (by have:=hcur.1;omega) (by omega)).mono ?_
 rintro e w' ⟨he,zK,F',m',A',c',hp',hgw,hF',hk,hrow⟩
 have hst:=dD.UU (X:=X) (M:=M) (zK:=zK) (F':=F') (A':=A') (c':=c') (n':=X.n+X.ps.length+l'.length+1) (m':=m') (ps':=[]) (L':=M.lg.save l') h (w':=w') hp' (hk.mono fun k hk=>by
  rcases hk with hk|hk
  ·exact .inl hk
  ·exact .inr (.inl hk)) hF' (.inr hgw) (fun k hk=> .inr (hrow k hk))
 refine⟨he,_,hst,⟨?_,?_,?_,?_⟩⟩
 ·show X.n+X.ps.length+l'.length+1+([]:List aH.Pc).length<=_
  simp
  omega
 ·show M.lg.first+(Wl.cur M.lg.R M.lg.T).length+((Wl.cur [] (Pt.jT l'.length l')).length+([]:List (List UInt8)).length:Nat)<=_
  have e1:=Wl.CO [] (Pt.jT l'.length l')
  have e2:(Pt.jT l'.length l').length=l'.length+1:=Pt.tZ _ _
  have e3:=hcur.1
  rw[e2]at e1
  simp only[List.length_nil]at e1⊢
  omega
 ·show l'.length<=_
  omega
 ·exact Pt.Yp _ _
end
end dH
end Go.Proofs.YtfjdpbbgfjhnlaaGreat
