/- Part 50 of what the proof needs. -/
import Derived.Test.YtolkgbafebehfaaGreatZP47
set_option linter.unusedSimpArgs false
set_option linter.unusedVariables false
set_option maxHeartbeats 32000000
set_option maxRecDepth 100000
namespace Go.Proofs.YtolkgbafebehfaaGreat
open Go.RowKit
set_option maxRecDepth 100000
namespace dM
open aP Vn Mst lJ IM nG gX
section
variable{w w':World}{X X0:MX}{M M0:MR}{c k:Nat}
theorem U4(l:List Int)(x:Int):uM (l++[x])=uM l++[.int .u64 x]:=by unfold uM;rw[List.map_append];rfl
theorem Nk{M:MR}{i:Nat}{m:Mem}(h:M.st.ms[i]? =some m):jd M (i+1)=jd M i++[(M.marks m.1).getD 0]:=by
 obtain⟨hi,he⟩:=List.getElem?_eq_some_iff.1 h
 unfold jd
 rw[List.take_succ_eq_append_getElem hi,he,List.map_append]
 rfl
theorem Qs{M:MR}{i:Nat}{m:Mem}(h:M.st.ms[i]? =some m):known M (i+1)=(known M i&&(M.marks m.1).isSome):=by
 obtain⟨hi,he⟩:=List.getElem?_eq_some_iff.1 h
 unfold known
 rw[List.take_succ_eq_append_getElem hi,he,List.all_append]
 simp
theorem U5{M:MR}{i n:Nat}(hn:i<=n)(h:known M i=false):known M n=false:=by
 cases hk:known M n with
 |false=>rfl
 |true=>
  unfold known at h hk
  rw[List.all_eq_true]at hk
  rw[List.all_eq_false]at h
  obtain⟨x,hx,h2⟩:=h
  exact absurd (hk x ((List.take_subset_take_left _ hn) hx)) h2
theorem Hu(M:MR)(i:Nat):(jd M i).length<=M.st.ms.length:=by
 rw[Qg,List.length_take];omega
theorem Qu(w:World)(old:Int)(A B:Option Addr)(c d:Nat)(l:List Int)(p:List aZ)(hm:Src w 1 A l.length (uM l))(hlc:l.length<=c)(hlen:l.length<=1000)(hl:Src w 3 B p.length (aK p))(hll:p.length<=1000)(hold:0<=old/\old<=aT)(hmr:∀x∈l,0<=x/\x<=aT):
  Calls Tryz.prog 150 #[.int .u64 old,.slice A l.length c,.slice B p.length d] w fun e w'=>e=.returned (.int .u64 (eF.yZ old l p))/\Kept aj w w':=by
 cases l with
 |nil=>
  refine(eF.Zu w old A B c p.length d).mono ?_
  rintro e w' ⟨rfl,rfl⟩
  exact⟨rfl,Kept.refl _ _⟩
 |cons m r=>exact eF.Zv w old A B c d m r p hm hlc (by simp at hlen;omega) hl (by omega) hold hmr
attribute [local go_sem] wI
theorem KZ(h:dG w X M)(hb:cZ X M.lg c)(hc:c<=4000)(hm:bQ M k):
  Calls Tryz.prog 65 #[.pointer (some ⟨X.mb,0,none⟩)] w (dK w X M c (.tuple #[]) (gB M) 1):=by
 have hcell:∀W,Kept aj w W->W.cell? ⟨X.mb,2,none⟩=some (.pointer (some ⟨X.sb,0,none⟩))/\W.cell? ⟨X.mb,3,none⟩=some (.slice X.pA M.pins.length X.pc):=fun W hW=>⟨(h.quiet hW).cell (i:=2) rfl,(h.quiet hW).cell (i:=3) rfl⟩
 have l7:=pV (h.c 2) hm.st.inv.ok
 have wL:∀W,Kept aj w W->Calls Tryz.prog 69 #[.pointer (some ⟨X.sb,0,none⟩)] W fun e w'=>e=.returned (.int .u64 M.st.hz)/\Kept aj W w':=fun W hW=>zf ((h.quiet hW).c 2)
 have hok:=hm.st.inv.ok
 have hlook:∀W,Kept aj w W->∀id:Int,I64 id->W.cell? ⟨X.mb,5,none⟩=some (.map (some X.mm))/\(Instr.lookup 60 (.map (some X.mm)) (.int .i64 id) true).run Tryz.prog W=.ok (.tuple #[.int .u64 ((M.marks id).getD 0),.bool (M.marks id).isSome]) W:=fun W hW id hi=>
  ⟨(h.quiet hW).cell (i:=5) rfl,dX.look_ok ((h.quiet hW).c 5) Tryz.underlying60 Tryz.underlying23 rfl hi⟩
 have hag:∀W A c1,Kept aj w W->Src W 1 A (jd M M.st.ms.length).length (uM (jd M M.st.ms.length))->(jd M M.st.ms.length).length<=c1->Calls Tryz.prog 150 #[.int .u64 M.st.hz,.slice A (jd M M.st.ms.length).length c1,.slice X.pA M.pins.length X.pc] W fun e w'=>e=.returned (.int .u64 (nO M))/\Kept aj W w':=fun W A c1 hW hs hl=>
  Qu W M.st.hz A X.pA c1 X.pc _ M.pins hs hl (by have:=Hu M M.st.ms.length;have:=hok.m;omega) (Src.bC ((h.quiet hW).c 3)) (by have:=hm.p3;omega) hm.st.su.hz (Ho hm _)
 have hni:=Hq hm
 have hwr:∀W,Kept aj w W->Calls Tryz.prog 44 #[.pointer (some ⟨X.mb,0,none⟩),.agg (aH (fP (nO M))).toArray] W fun e w'=>(∃z:Int,e=.returned (.int .i64 z))/\∃X',Step w X M w' X' (writeM M (fP (nO M)))/\cZ X' (writeM M (fP (nO M))).lg (c+1):=fun W hW=>by
  refine(write_any (h.quiet hW) hb hc hok (fP (nO M)) ⟨Src.nil _ _ _,Nat.le_refl _,Nat.zero_le _,Src.nil _ _ _,Nat.le_refl _,Nat.zero_le _,Src.nil _ _ _⟩ (UM hni) ⟨fun h=>absurd h (Nat.lt_irrefl _),fun h=>absurd h (Nat.lt_irrefl _),fun h=>absurd h (Nat.lt_irrefl _)⟩).mono ?_
  rintro e w' ⟨rfl,X',h1,h2⟩
  exact⟨⟨_,rfl⟩,X',(Step.refl h hW).trans h1,h2⟩
 have hout:∀i,i<=M.st.ms.length->known M i=false->∀W,Kept aj w W->dK w X M c (.tuple #[]) (gB M) 1 (.returned (.tuple #[])) W:=fun i hi hk0 W hW=>by
  have e1:gB M=M:=by unfold gB;rw[U5 hi hk0,if_neg (by decide)]
  rw[e1]
  exact⟨rfl,X,Step.refl h hW,hb.mono (Nat.le_succ _)⟩
 have hlow:known M M.st.ms.length=true->¬M.st.hz<nO M->∀W,Kept aj w W->dK w X M c (.tuple #[]) (gB M) 1 (.returned (.tuple #[])) W:=fun hk0 hlt W hW=>by
  have e1:gB M=M:=by unfold gB;rw[if_pos hk0,if_neg hlt]
  rw[e1]
  exact⟨rfl,X,Step.refl h hW,hb.mono (Nat.le_succ _)⟩
 have hup:known M M.st.ms.length=true->M.st.hz<nO M->gB M=writeM M (fP (nO M)):=fun hk0 hlt=>by unfold gB;rw[if_pos hk0,if_pos hlt]
 have uk:=U0 hm.st
 have hml:=hok.m
 have hms:∀i m,M.st.ms[i]? =some m->jd M (i+1)=jd M i++[(M.marks m.1).getD 0]/\known M (i+1)=(known M i&&(M.marks m.1).isSome):=fun i m h=>⟨Nk h,Qs h⟩
 have hle:=fun i=>Hu M i
 have hN0:known M 0=true:=by unfold known;simp
 have hM0:jd M 0=[]:=by unfold jd;simp
 obtain⟨H9,hH9⟩:∃H9,nO M=H9:=⟨_,rfl⟩
 obtain⟨hz,hhz⟩:∃hz,M.st.hz=hz:=⟨_,rfl⟩
 simp only[hH9]at hag hwr hlow hup
 simp only[hhz]at wL hag hlow hup
 obtain⟨ep,nK⟩:∃ep,M.st.ep=ep:=⟨_,rfl⟩
 obtain⟨fl,hfl⟩:∃fl,M.st.fl=fl:=⟨_,rfl⟩
 obtain⟨ms,Qv⟩:∃ms,M.st.ms=ms:=⟨_,rfl⟩
 rw[nK,hfl,Qv]at l7
 rw[Qv]at uk hml hlow hup
 simp only[Qv]at hag hout hms hle
 obtain⟨M9,E6⟩:∃M9,gB M=M9:=⟨_,rfl⟩
 rw[E6]at hout hlow hup⊢
 simp only[fP,zn,aH,List.length_nil,lF]at hwr
 have tY:=ah hcell;have vM:=ah l7;have Qw:=ah wL;have ach:=ah hlook;have HAG:=ah hag;have oM:=ah hwr;have DJ:=ah hout;have ac2:=ah hlow;have NW:=ah hup;have HMI:=ah uk;have HML:=ah hml;have YH:=ah hms;have iL:=ah hle;have dw:=ah hN0;have Yw:=ah hM0
 obtain⟨z2,z3⟩:=hcell w (Kept.refl _ _)
 clear hcell l7 wL hok hlook hag hni hwr hout hlow hup uk hml hms hle hN0 hM0 hH9 hhz nK hfl Qv E6 h hb hc hm
 go_enter Tryz.func65,Tryz.ntmps65
 go_wp2_with fail
 clear z2 z3
 refine vM.out.mono ?_
 rintro e w1 ⟨A0,c0,rfl,hr0,hk1⟩
 have HR0:=ah hr0;have gI:=ah hk1;clear hr0 hk1
 go_wp2_with fail
 go_loopw [2,5,6,15] (fun v2 v5 v6 v15 wr=>∃(i:Nat) (A:Option Addr) (c:Nat),i<=ms.length/\v15=.int .i64 i/\v2=.slice A (jd M i).length c/\aF 23 1 w1.heap.size wr A (jd M i).length c (uM (jd M i))/\known M i=true/\Kept aj w1 wr) (fun _ _ _ v15 _=>ms.length-(intOf v15).toNat)
 case atStart=>exact⟨0,none,0,Nat.zero_le _,rfl,by rw[Yw.out];rfl,by rw[Yw.out];exact aF.nil _ _ _ _,dw.out,Kept.refl _ _⟩
 case round=>
  obtain⟨i,A,c1,hi,rfl,rfl,hr,hkn,hk⟩:=hrel
  have HKN:=ah hkn;have HK:=ah hk;have HR:=ah hr;clear hkn hk hr
  by_cases hil:i<ms.length
  ·obtain⟨m,hm⟩:∃m,ms[i]? =some m:=⟨_,List.getElem?_eq_getElem hil⟩
   obtain⟨hs1,hs2⟩:=YH.out i m hm
   have uk:=HMI.out m (List.mem_of_getElem? hm)
   obtain⟨ad,rfl,had,d0,d1⟩:=ig ((Src.bC HR0.out.1).kept HK.out (fun _ _ x=>x)) (by omega) i m hm
   have hlk:∀W,Kept aj w1 W->W.cell? ⟨X.mb,5,none⟩=some (.map (some X.mm))/\(Instr.lookup 60 (.map (some X.mm)) (.int .i64 m.1) true).run Tryz.prog W=.ok (.tuple #[.int .u64 ((M.marks m.1).getD 0),.bool (M.marks m.1).isSome]) W:=fun W hW=>ach.out W (gI.out.then hW) m.1 uk
   have hle:=iL.out i
   have hml:=HML.out
   obtain⟨v,hv⟩:∃v,(M.marks m.1).getD 0=v:=⟨_,rfl⟩
   obtain⟨b,hb⟩:∃b,(M.marks m.1).isSome=b:=⟨_,rfl⟩
   rw[hv]at hs1
   rw[HKN.out,hb,Bool.true_and]at hs2
   simp only[hv,hb]at hlk
   obtain⟨L,hL⟩:∃L,jd M i=L:=⟨_,rfl⟩
   rw[hL]at hs1 hle HR⊢
   have Bl:=ah hs1;have HS2:=ah hs2;have HLK:=ah hlk
   have ET:Hid (L.length+1<=maxLen):=ah (by unfold maxLen;omega)
   have Nu:Hid ((L.length+1)*8<=140737488355328):=ah (by omega)
   obtain⟨W1,hW1⟩:∃W1,wr.alloc (.cells #[.int .i64 m.1,.int .i64 m.2] 53)=W1:=⟨_,rfl⟩
   have hkw:Kept aj wr W1:=by rw[<-hW1];(repeat'(first|(with_reducible first|exact ak|apply au|apply ay|apply aA|apply aB)|(right;simp;done)))
   have hnb:Has W1 wr.heap.size 53 #[.int .i64 m.1,.int .i64 m.2]:=by rw[<-hW1];exact Has.new _ _ _
   have q0:W1.cell? ⟨wr.heap.size,0,none⟩=some (.int .i64 m.1):=hnb.cell 0
   have q5:=(hlk W1 (HK.out.then hkw)).1
   have l5:∀n,_:=fun n=>(hlk (W1.drewN n) (HK.out.then (hkw.drewN n))).2
   have oC:=ah hkw
   obtain⟨m1,m2⟩:=m
   dsimp only at d0 d1 hW1 q0 l5
   clear hs1 hs2 hlk hv hb hL hm uk hkw hnb
   cases b
   ·go_wp2_with fail
    go_quiet (fail)
    go_wp2
    refine bodyPost_ret (v:=.tuple #[]) (by simp[results,Tryz.results65,go_sem]) rfl ?_
    exact DJ.out (i+1) (by omega) HS2.out _ (by(repeat'(first|(with_reducible first|exact ak|apply au|apply ay|apply aA|apply aB)|(exact gI.out.then (HK.out.then oC.out))|(right;simp;done))))
   ·go_wp2_with fail
    go_quiet (fail)
    go_wp2_with (at_builtin;refine aI eF.NC (.tmp 31) (.tmp 33) rfl rfl (Value.slice A L.length c1) rfl (aC HR.out.1 (F:=aj) (by(repeat'(first|(with_reducible first|exact ak|apply au|apply ay|apply aA|apply aB)|(exact oC.out)|(right;simp;done)))) (fun _ _ x=>x)) 1 rfl (Src.bW (t:=23) (size:=1) (m:=1) (cs:=#[.int .u64 v]) (by(repeat (with_reducible first|exact Has.bP _ _ _ (by simp)|apply Has.drew|apply Has.drewN|apply Has.alloc|(apply Has.past<;>(try omega))))) rfl) (by simp[Value.oneCell']) ET.out Nu.out ?_;intro A1 c9 w9 ho1 hg1 ha1;have hpush:=aF.pushed HR.out (by(repeat'(first|(with_reducible first|exact ak|apply au|apply ay|apply aA|apply aB)|(exact HK.out.then oC.out)|(right;simp;done)))) ho1 hg1 ha1;have HP:=ah hpush;clear ho1 hg1 ha1 hpush)
    go_roundw
    case rel=>exact⟨i+1,A1,c9,by omega,by go_num,by rw[Bl.out,List.length_append];rfl,by rw[Bl.out,List.length_append,U4];exact HP.out.1,HS2.out,HP.out.2⟩
    case measure=>simp[intOf];omega
  ·obtain rfl:i=ms.length:=by omega
   obtain⟨z2,z3⟩:=tY.out wr (gI.out.then HK.out)
   have ac3:=ah (aF.kept (w':=wr) HR.out (Kept.refl _ _))
   obtain⟨LL,hLL⟩:∃LL,jd M ms.length=LL:=⟨_,rfl⟩
   have hag:=fun W (hW:Kept aj w W)=>HAG.out W A c1 hW
   simp only[hLL]at hag
   rw[hLL]at HR⊢
   have ac4:=ah hag
   clear hag hLL ac3
   go_wp2_with fail
   go_region_held3 (fun W=>W.cell? ⟨X.mb,2,none⟩=some (.pointer (some ⟨X.sb,0,none⟩))/\W.cell? ⟨X.mb,3,none⟩=some (.slice X.pA M.pins.length X.pc))
    (first|with_reducible exact y4|with_reducible exact y3|with_reducible exact⟨z2,z3⟩|(simp[go_sem,z2,z3];done))
    (first
     |(go_at_call 69;refine(Qw.out _ (by(repeat'(first|(with_reducible first|exact ak|apply au|apply ay|apply aA|apply aB)|(exact gI.out.then HK.out)|(right;simp;done))))).mono ?_;rintro e w3 ⟨rfl,hk3⟩;have hk:=Kept.then (F:=aj) (a:=wr) (by(repeat'(first|(with_reducible first|exact ak|apply au|apply ay|apply aA|apply aB)|(right;simp;done)))) hk3;have y3:=tY.out _ (gI.out.then (HK.out.then hk));have bf:=ah hk;clear hk hk3)
     |(go_at_call 150;refine(ac4.out _ (by(repeat'(first|(with_reducible first|exact ak|apply au|apply ay|apply aA|apply aB)|(exact gI.out.then (HK.out.then bf.out))|(right;simp;done)))) (Src.bC (aC HR.out.1 (F:=aj) (by(repeat'(first|(with_reducible first|exact ak|apply au|apply ay|apply aA|apply aB)|(exact bf.out)|(right;simp;done)))) (fun _ _ z=>z))) (jk HR.out.1).1).mono ?_;rintro e w4 ⟨rfl,hk4⟩;have hk:=Kept.then (F:=aj) (a:=wr) (by(repeat'(first|(with_reducible first|exact ak|apply au|apply ay|apply aA|apply aB)|(exact bf.out)|(right;simp;done)))) hk4;have y4:=tY.out _ (gI.out.then (HK.out.then hk));have dR:=ah hk;clear hk hk4))
   clear y3 z2 z3
   obtain⟨z2,z3⟩:=y4
   go_wp2_with fail
   refine(Qw.out _ (by(repeat'(first|(with_reducible first|exact ak|apply au|apply ay|apply aA|apply aB)|(exact gI.out.then (HK.out.then dR.out))|(right;simp;done))))).mono ?_
   rintro e w5 ⟨rfl,hk5⟩
   have cO:=ah (Kept.then (F:=aj) (a:=w) (by(repeat'(first|(with_reducible first|exact ak|apply au|apply ay|apply aA|apply aB)|(exact gI.out.then (HK.out.then dR.out))|(right;simp;done)))) hk5);clear hk5 z2 z3
   by_cases hlt:hz<H9
   ·have HU:=ah (NW.out HKN.out hlt)
    have hw:=oM.out w5 cO.out
    have HW:=ah hw;clear hw
    go_wp2_with fail
    refine HW.out.mono ?_
    rintro e w6 ⟨⟨z,rfl⟩,X',hs,hl⟩
    have HQ:=ah (show dK w X M c (.tuple #[]) M9 1 (.returned (.tuple #[])) w6 from by rw[HU.out];exact⟨rfl,X',hs,hl⟩)
    clear hs hl
    go_wp2
    go_end0
    exact HQ.out
   ·have HQ:=ah (ac2.out HKN.out (by omega) w5 cO.out)
    go_wp2_with fail
    go_end0
    exact HQ.out
end
end dM
end Go.Proofs.YtolkgbafebehfaaGreat
