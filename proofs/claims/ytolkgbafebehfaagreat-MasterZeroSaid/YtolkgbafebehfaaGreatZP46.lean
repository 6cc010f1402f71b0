/- Part 47 of what the proof needs. -/
import Derived.Test.YtolkgbafebehfaaGreatZP45
set_option linter.unusedSimpArgs false
set_option linter.unusedVariables false
set_option maxHeartbeats 32000000
set_option maxRecDepth 100000
namespace Go.Proofs.YtolkgbafebehfaaGreat
open Go.RowKit
set_option maxRecDepth 100000
namespace dM
open aP Vn Mst lJ IM nG gX
theorem qE(l:List Mem)(m:Mem):aS (l++[m])=aS l++[.int .i64 m.1,.int .i64 m.2]:=by
 unfold aS
 rw[List.flatMap_append]
 rfl
theorem mO(l:List Int)(x:Int):ints (l++[x])=ints l++[.int .i64 x]:=by
 unfold ints
 rw[List.map_append]
 rfl
def EY(w:World)(M:MR)(e:Ending)(w':World):Prop:=
 ∃A c B d,e=.returned (.tuple #[.slice A (gW M 4).length c,.slice B (jh M 4).length d])/\aF 3 1 w.heap.size w' A (gW M 4).length c (ints (gW M 4))/\aF 53 2 w.heap.size w' B (jh M 4).length d (aS (jh M 4))/\Kept aj w w'
section
variable{w w':World}{X X0:MX}{M M0:MR}{c k:Nat}
theorem Qo(h:dG w X M)(hm:bQ M k):
  Calls Tryz.prog 148 #[.pointer (some ⟨X.mb,0,none⟩)] w (EY w M):=by
 have hq4:=h.cell (i:=4) rfl
 have Ij:=VU (h.c 4) hm.sF
 have hmem:=fun(W:World) (hW:Kept aj w W) (id:Int)=>pR (h.quiet hW) hm.st.inv.ok id
 have hat:∀W,Kept aj w W->∀id:Int,I64 id->(W.cell? ⟨X.mb,10,none⟩=some (.map (some X.lo))/\(Instr.lookup 62 (.map (some X.lo)) (.int .i64 id) false).run Tryz.prog W=.ok (.bool (M.lost id)) W)/\
   (W.cell? ⟨X.mb,9,none⟩=some (.map (some X.le))/\(Instr.lookup 62 (.map (some X.le)) (.int .i64 id) false).run Tryz.prog W=.ok (.bool (M.leaves id)) W)/\
   (W.cell? ⟨X.mb,8,none⟩=some (.map (some X.jo))/\(Instr.lookup 62 (.map (some X.jo)) (.int .i64 id) false).run Tryz.prog W=.ok (.bool (M.joins id)) W)/\
   (W.cell? ⟨X.mb,6,none⟩=some (.map (some X.se))/\(Instr.lookup 61 (.map (some X.se)) (.int .i64 id) false).run Tryz.prog W=.ok (.int .i64 (Cf M id)) W):=fun W hW id hi=>by
  have hh:=h.quiet hW
  exact⟨⟨hh.cell (i:=10) rfl,bJ.look (hh.c 9) hi⟩,⟨hh.cell (i:=9) rfl,bJ.look (hh.c 8) hi⟩,⟨hh.cell (i:=8) rfl,bJ.look (hh.c 7) hi⟩,⟨hh.cell (i:=6) rfl,dX.look (hh.c 6) Tryz.underlying61 Tryz.underlying3 rfl hi⟩⟩
 have hll:(xq M.ns).length<=4:=D9 _ _
 obtain⟨L,hL⟩:∃L,xq M.ns=L:=⟨_,rfl⟩
 have hGP:∀i:Nat,vJ M i=(dZ M.st.ms i&&(inB L i||M.lost i||M.leaves i)):=fun i=>by unfold vJ;rw[hL]
 have hJP:∀i:Nat,Ci M i=(M.joins i&&decide (0<Cf M i)):=fun i=>rfl
 unfold Jb at Ij
 rw[hL]at Ij hll
 have FN:=ah hmem;have HAT:=ah hat;have acd:=ah Ij;have qy:=ah hll;have HGP:=ah hGP;have HJP:=ah hJP
 clear h hm hmem hat Ij hll hL hGP hJP
 go_enter Tryz.func148,Tryz.ntmps148
 go_wp2_with fail
 clear hq4
 refine acd.out.mono ?_
 rintro e w2 ⟨B0,d0,rfl,hn0,hk0⟩
 have dw:=ah hn0;have aW:=ah hk0;clear hn0 hk0
 go_wp2_with fail
 go_loopw [2,3,5,11] (fun v2 v3 v5 v11 wr=>∃(i:Nat) (A:Option Addr) (c:Nat) (B:Option Addr) (d:Nat),i<=4/\v11=.int .i64 i/\v2=.slice A (gW M i).length c/\v3=.slice B (jh M i).length d/\
  aF 3 1 w2.heap.size wr A (gW M i).length c (ints (gW M i))/\aF 53 2 w2.heap.size wr B (jh M i).length d (aS (jh M i))/\Kept aj w2 wr) (fun _ _ _ v11 _=>4-(intOf v11).toNat)
 case atStart=>exact⟨0,none,0,none,0,Nat.zero_le _,rfl,rfl,rfl,aF.nil _ _ _ _,aF.nil _ _ _ _,Kept.refl _ _⟩
 case round=>
  obtain⟨i,A,c,B,d,hi,rfl,rfl,rfl,hrG,UT,hk⟩:=hrel
  by_cases hil:i<4
  ·have hi64:I64 (i:Int):=jq (by omega) (by omega)
   obtain⟨b1,hb1⟩:∃b,dZ M.st.ms (i:Int)=b:=⟨_,rfl⟩
   obtain⟨b2,hb2⟩:∃b,inB L (i:Int)=b:=⟨_,rfl⟩
   obtain⟨b3,hb3⟩:∃b,M.lost (i:Int)=b:=⟨_,rfl⟩
   obtain⟨b4,hb4⟩:∃b,M.leaves (i:Int)=b:=⟨_,rfl⟩
   obtain⟨j1,hj1⟩:∃b,M.joins (i:Int)=b:=⟨_,rfl⟩
   obtain⟨sv,hsv⟩:∃s,Cf M (i:Int)=s:=⟨_,rfl⟩
   have hg:=Qd M i
   have hj:=Qe M i
   rw[HGP.out,hb1,hb2,hb3,hb4]at hg
   rw[HJP.out,hj1,hsv]at hj
   have hmem:=FN.out wr (aW.out.then hk) i
   rw[hb1]at hmem
   have hat:∀W,Kept aj w2 W->(W.cell? ⟨X.mb,10,none⟩=some (.map (some X.lo))/\(Instr.lookup 62 (.map (some X.lo)) (.int .i64 i) false).run Tryz.prog W=.ok (.bool b3) W)/\
     (W.cell? ⟨X.mb,9,none⟩=some (.map (some X.le))/\(Instr.lookup 62 (.map (some X.le)) (.int .i64 i) false).run Tryz.prog W=.ok (.bool b4) W)/\
     (W.cell? ⟨X.mb,8,none⟩=some (.map (some X.jo))/\(Instr.lookup 62 (.map (some X.jo)) (.int .i64 i) false).run Tryz.prog W=.ok (.bool j1) W)/\
     (W.cell? ⟨X.mb,6,none⟩=some (.map (some X.se))/\(Instr.lookup 61 (.map (some X.se)) (.int .i64 i) false).run Tryz.prog W=.ok (.int .i64 sv) W):=fun W hW=>by
    have:=HAT.out W (aW.out.then hW) i hi64
    rw[hb3,hb4,hj1,hsv]at this
    exact this
   have Ob:=Hg M i
   have hlj:=Hl M i
   have hcon:=fun(W:World) (hW:Kept aj w2 W)=>kV W B0 d0 L i ((Src.bC dw.out.1).kept hW (fun _ _ z=>z)) (by have:=qy.out;omega)
   simp only[hb2]at hcon
   obtain⟨G,hG⟩:∃G,gW M i=G:=⟨_,rfl⟩
   obtain⟨J,hJ⟩:∃J,jh M i=J:=⟨_,rfl⟩
   rw[hG]at hg hrG Ob⊢
   rw[hJ]at hj UT hlj⊢
   have UU:=ah hrG;have Jq:=ah UT;have HK:=ah hk;have HME:=ah hmem;have qF:=ah hat;have OQ:=ah hcon;have HG:=ah hg;have HJ:=ah hj
   have fQ:Hid (G.length+1<=maxLen):=ah (by unfold maxLen;omega)
   have iC:Hid ((G.length+1)*8<=140737488355328):=ah (by omega)
   have zO:Hid (J.length+1<=maxLen):=ah (by unfold maxLen;omega)
   have yB:Hid ((J.length+1)*16<=140737488355328):=ah (by omega)
   clear hg hj hmem hat Ob hlj hcon hrG UT hk hG hJ hb1 hb2 hb3 hb4 hj1 hsv hi64
   cases b1
   ·have hg1:=HG.out
    rw[Bool.false_and,if_neg (by decide)]at hg1
    have gu:=ah hg1;clear hg1
    go_wp2_with fail
    refine HME.out.mono ?_
    rintro e w3 ⟨rfl,hk3⟩
    have aQ:=ah (HK.out.then hk3);have lZ:=ah (aF.kept UU.out hk3);have HJ2:=ah (aF.kept Jq.out hk3);clear hk3
    obtain⟨-,-,⟨q8,l8⟩,⟨q6,l6⟩⟩:=qF.out w3 aQ.out
    cases j1
    ·have hj1:=HJ.out
     rw[Bool.false_and,if_neg (by decide)]at hj1
     have fF:=ah hj1;clear hj1
     clear q6 l6
     go_wp2
     go_roundw
     case rel=>exact⟨i+1,A,c,B,d,by omega,by go_num,by first|(rw[gu.out];done)|(rw[gu.out,List.length_append];rfl),by first|(rw[fF.out];done)|(rw[fF.out,List.length_append];rfl),by rw[gu.out];exact lZ.out,by rw[fF.out];exact HJ2.out,aQ.out⟩
     case measure=>simp[intOf];omega
    ·by_cases hs0:0<sv
     ·have hj1:=HJ.out
      rw[decide_eq_true hs0,Bool.true_and,if_pos rfl]at hj1
      have fF:=ah hj1;clear hj1
      go_wp2_with (at_builtin;refine aI aP.ng (.tmp 57) (.tmp 66) rfl rfl (Value.slice B J.length d) rfl (aC HJ2.out.1 (F:=aj) (by(repeat'(first|(with_reducible first|exact ak|apply au|apply ay|apply aA|apply aB)|(right;simp;done)))) (fun _ _ x=>x)) 1 rfl (Src.bW (t:=53) (size:=2) (m:=1) (cs:=#[.int .i64 i,.int .i64 sv]) (by(repeat (with_reducible first|exact Has.bP _ _ _ (by simp)|apply Has.drew|apply Has.drewN|apply Has.alloc|(apply Has.past<;>(try omega))))) rfl) (by simp[Value.oneCell']) zO.out yB.out ?_;intro A7 c7 w8 sD rX xK;have hpush:=aF.pushed HJ2.out (by(repeat'(first|(with_reducible first|exact ak|apply au|apply ay|apply aA|apply aB)|(exact aQ.out)|(right;simp;done)))) sD rX xK;have xM:=ah hpush;have fA:=eF.aF.beside lZ.out (by(repeat'(first|(with_reducible first|exact ak|apply au|apply ay|apply aA|apply aB)|(right;simp;done)))) HJ2.out (by decide) rX;have yF:=ah fA;clear sD rX xK hpush fA)
      go_roundw
      case rel=>exact⟨i+1,A,c,A7,c7,by omega,by go_num,by first|(rw[gu.out];done)|(rw[gu.out,List.length_append];rfl),by first|(rw[fF.out];done)|(rw[fF.out,List.length_append];rfl),by rw[gu.out];exact yF.out,by rw[fF.out];exact(by rw[qE,List.length_append];exact xM.out.1),xM.out.2⟩
      case measure=>simp[intOf];omega
     ·have hj1:=HJ.out
      rw[decide_eq_false hs0,Bool.and_false,if_neg (by decide)]at hj1
      have fF:=ah hj1;clear hj1
      go_wp2
      go_roundw
      case rel=>exact⟨i+1,A,c,B,d,by omega,by go_num,by first|(rw[gu.out];done)|(rw[gu.out,List.length_append];rfl),by first|(rw[fF.out];done)|(rw[fF.out,List.length_append];rfl),by rw[gu.out];exact lZ.out,by rw[fF.out];exact HJ2.out,aQ.out⟩
      case measure=>simp[intOf];omega
   ·go_wp2_with fail
    refine HME.out.mono ?_
    rintro e w3 ⟨rfl,hk3⟩
    have hcn:=OQ.out w3 (HK.out.then hk3)
    have HCN:=ah hcn;have bf:=ah (HK.out.then hk3);have acX:=ah (aF.kept UU.out hk3);have acY:=ah (aF.kept Jq.out hk3);clear hcn hk3
    go_wp2_with fail
    refine HCN.out.mono ?_
    rintro e w4 ⟨rfl,hk4⟩
    have dR:=ah (bf.out.then hk4);have jX:=ah (aF.kept acX.out hk4);have yh:=ah (aF.kept acY.out hk4);clear hk4
    cases b2
    ·cases b3
     ·cases b4
      ·have hg1:=HG.out
       rw[if_neg (by decide)]at hg1
       have gu:=ah hg1;clear hg1
       obtain⟨⟨q10,l10⟩,⟨q9,l9⟩,-,-⟩:=qF.out w4 dR.out
       have lZ:=jX;have HJ2:=yh;have aQ:=dR
       obtain⟨-,-,⟨q8,l8⟩,⟨q6,l6⟩⟩:=qF.out w4 aQ.out
       cases j1
       ·have hj1:=HJ.out
        rw[Bool.false_and,if_neg (by decide)]at hj1
        have fF:=ah hj1;clear hj1
        clear q6 l6
        go_wp2
        go_roundw
        case rel=>exact⟨i+1,A,c,B,d,by omega,by go_num,by first|(rw[gu.out];done)|(rw[gu.out,List.length_append];rfl),by first|(rw[fF.out];done)|(rw[fF.out,List.length_append];rfl),by rw[gu.out];exact lZ.out,by rw[fF.out];exact HJ2.out,aQ.out⟩
        case measure=>simp[intOf];omega
       ·by_cases hs0:0<sv
        ·have hj1:=HJ.out
         rw[decide_eq_true hs0,Bool.true_and,if_pos rfl]at hj1
         have fF:=ah hj1;clear hj1
         go_wp2_with (at_builtin;refine aI aP.ng (.tmp 57) (.tmp 66) rfl rfl (Value.slice B J.length d) rfl (aC HJ2.out.1 (F:=aj) (by(repeat'(first|(with_reducible first|exact ak|apply au|apply ay|apply aA|apply aB)|(right;simp;done)))) (fun _ _ x=>x)) 1 rfl (Src.bW (t:=53) (size:=2) (m:=1) (cs:=#[.int .i64 i,.int .i64 sv]) (by(repeat (with_reducible first|exact Has.bP _ _ _ (by simp)|apply Has.drew|apply Has.drewN|apply Has.alloc|(apply Has.past<;>(try omega))))) rfl) (by simp[Value.oneCell']) zO.out yB.out ?_;intro A7 c7 w8 sD rX xK;have hpush:=aF.pushed HJ2.out (by(repeat'(first|(with_reducible first|exact ak|apply au|apply ay|apply aA|apply aB)|(exact aQ.out)|(right;simp;done)))) sD rX xK;have xM:=ah hpush;have fA:=eF.aF.beside lZ.out (by(repeat'(first|(with_reducible first|exact ak|apply au|apply ay|apply aA|apply aB)|(right;simp;done)))) HJ2.out (by decide) rX;have yF:=ah fA;clear sD rX xK hpush fA)
         go_roundw
         case rel=>exact⟨i+1,A,c,A7,c7,by omega,by go_num,by first|(rw[gu.out];done)|(rw[gu.out,List.length_append];rfl),by first|(rw[fF.out];done)|(rw[fF.out,List.length_append];rfl),by rw[gu.out];exact yF.out,by rw[fF.out];exact(by rw[qE,List.length_append];exact xM.out.1),xM.out.2⟩
         case measure=>simp[intOf];omega
        ·have hj1:=HJ.out
         rw[decide_eq_false hs0,Bool.and_false,if_neg (by decide)]at hj1
         have fF:=ah hj1;clear hj1
         go_wp2
         go_roundw
         case rel=>exact⟨i+1,A,c,B,d,by omega,by go_num,by first|(rw[gu.out];done)|(rw[gu.out,List.length_append];rfl),by first|(rw[fF.out];done)|(rw[fF.out,List.length_append];rfl),by rw[gu.out];exact lZ.out,by rw[fF.out];exact HJ2.out,aQ.out⟩
         case measure=>simp[intOf];omega
      ·have hg1:=HG.out
       rw[if_pos (by decide)]at hg1
       have gu:=ah hg1;clear hg1
       cases j1
       ·have hj1:=HJ.out
        rw[Bool.false_and,if_neg (by decide)]at hj1
        have fF:=ah hj1;clear hj1
        obtain⟨⟨q10,l10⟩,⟨q9,l9⟩,-,-⟩:=qF.out w4 dR.out
        go_wp2_with (at_builtin;refine aI aP.jF (.tmp 38) (.tmp 40) rfl rfl (Value.slice A G.length c) rfl (aC jX.out.1 (F:=aj) (by(repeat'(first|(with_reducible first|exact ak|apply au|apply ay|apply aA|apply aB)|(right;simp;done)))) (fun _ _ x=>x)) 1 rfl (Src.bW (t:=3) (size:=1) (m:=1) (cs:=#[.int .i64 i]) (by(repeat (with_reducible first|exact Has.bP _ _ _ (by simp)|apply Has.drew|apply Has.drewN|apply Has.alloc|(apply Has.past<;>(try omega))))) rfl) (by simp[Value.oneCell']) fQ.out iC.out ?_;intro A1 c1 w9 ho1 hg1 ha1;have hpush:=aF.pushed jX.out (by(repeat'(first|(with_reducible first|exact ak|apply au|apply ay|apply aA|apply aB)|(exact dR.out)|(right;simp;done)))) ho1 hg1 ha1;have HP:=ah hpush;have fA:=eF.aF.beside yh.out (by(repeat'(first|(with_reducible first|exact ak|apply au|apply ay|apply aA|apply aB)|(right;simp;done)))) jX.out (by decide) hg1;have HJ2:=ah fA;clear ho1 hg1 ha1 hpush fA q10 l10 q9 l9;have lZ:=ah (show aF 3 1 w2.heap.size w9 A1 (G++[(i:Int)]).length c1 (ints (G++[(i:Int)]))from(by rw[mO,List.length_append];exact HP.out.1));have aQ:=ah HP.out.2;obtain⟨-,-,⟨q8,l8⟩,⟨q6,l6⟩⟩:=qF.out w9 aQ.out)
        go_roundw
        case rel=>exact⟨i+1,A1,c1,B,d,by omega,by go_num,by first|(rw[gu.out];done)|(rw[gu.out,List.length_append];rfl),by first|(rw[fF.out];done)|(rw[fF.out,List.length_append];rfl),by rw[gu.out];exact lZ.out,by rw[fF.out];exact HJ2.out,aQ.out⟩
        case measure=>simp[intOf];omega
       ·by_cases hs0:0<sv
        ·have hj1:=HJ.out
         rw[decide_eq_true hs0,Bool.true_and,if_pos rfl]at hj1
         have fF:=ah hj1;clear hj1
         obtain⟨⟨q10,l10⟩,⟨q9,l9⟩,-,-⟩:=qF.out w4 dR.out
         go_wp2_with (first|(at_builtin;refine aI aP.ng (.tmp 57) (.tmp 66) rfl rfl (Value.slice B J.length d) rfl (aC HJ2.out.1 (F:=aj) (by(repeat'(first|(with_reducible first|exact ak|apply au|apply ay|apply aA|apply aB)|(right;simp;done)))) (fun _ _ x=>x)) 1 rfl (Src.bW (t:=53) (size:=2) (m:=1) (cs:=#[.int .i64 i,.int .i64 sv]) (by(repeat (with_reducible first|exact Has.bP _ _ _ (by simp)|apply Has.drew|apply Has.drewN|apply Has.alloc|(apply Has.past<;>(try omega))))) rfl) (by simp[Value.oneCell']) zO.out yB.out ?_;intro A7 c7 w8 sD rX xK;have hpush:=aF.pushed HJ2.out (by(repeat'(first|(with_reducible first|exact ak|apply au|apply ay|apply aA|apply aB)|(exact aQ.out)|(right;simp;done)))) sD rX xK;have xM:=ah hpush;have fA:=eF.aF.beside lZ.out (by(repeat'(first|(with_reducible first|exact ak|apply au|apply ay|apply aA|apply aB)|(right;simp;done)))) HJ2.out (by decide) rX;have yF:=ah fA;clear sD rX xK hpush fA)|(at_builtin;refine aI aP.jF (.tmp 38) (.tmp 40) rfl rfl (Value.slice A G.length c) rfl (aC jX.out.1 (F:=aj) (by(repeat'(first|(with_reducible first|exact ak|apply au|apply ay|apply aA|apply aB)|(right;simp;done)))) (fun _ _ x=>x)) 1 rfl (Src.bW (t:=3) (size:=1) (m:=1) (cs:=#[.int .i64 i]) (by(repeat (with_reducible first|exact Has.bP _ _ _ (by simp)|apply Has.drew|apply Has.drewN|apply Has.alloc|(apply Has.past<;>(try omega))))) rfl) (by simp[Value.oneCell']) fQ.out iC.out ?_;intro A1 c1 w9 ho1 hg1 ha1;have hpush:=aF.pushed jX.out (by(repeat'(first|(with_reducible first|exact ak|apply au|apply ay|apply aA|apply aB)|(exact dR.out)|(right;simp;done)))) ho1 hg1 ha1;have HP:=ah hpush;have fA:=eF.aF.beside yh.out (by(repeat'(first|(with_reducible first|exact ak|apply au|apply ay|apply aA|apply aB)|(right;simp;done)))) jX.out (by decide) hg1;have HJ2:=ah fA;clear ho1 hg1 ha1 hpush fA q10 l10 q9 l9;have lZ:=ah (show aF 3 1 w2.heap.size w9 A1 (G++[(i:Int)]).length c1 (ints (G++[(i:Int)]))from(by rw[mO,List.length_append];exact HP.out.1));have aQ:=ah HP.out.2;obtain⟨-,-,⟨q8,l8⟩,⟨q6,l6⟩⟩:=qF.out w9 aQ.out))
         go_roundw
         case rel=>exact⟨i+1,A1,c1,A7,c7,by omega,by go_num,by first|(rw[gu.out];done)|(rw[gu.out,List.length_append];rfl),by first|(rw[fF.out];done)|(rw[fF.out,List.length_append];rfl),by rw[gu.out];exact yF.out,by rw[fF.out];exact(by rw[qE,List.length_append];exact xM.out.1),xM.out.2⟩
         case measure=>simp[intOf];omega
        ·have hj1:=HJ.out
         rw[decide_eq_false hs0,Bool.and_false,if_neg (by decide)]at hj1
         have fF:=ah hj1;clear hj1
         obtain⟨⟨q10,l10⟩,⟨q9,l9⟩,-,-⟩:=qF.out w4 dR.out
         go_wp2_with (at_builtin;refine aI aP.jF (.tmp 38) (.tmp 40) rfl rfl (Value.slice A G.length c) rfl (aC jX.out.1 (F:=aj) (by(repeat'(first|(with_reducible first|exact ak|apply au|apply ay|apply aA|apply aB)|(right;simp;done)))) (fun _ _ x=>x)) 1 rfl (Src.bW (t:=3) (size:=1) (m:=1) (cs:=#[.int .i64 i]) (by(repeat (with_reducible first|exact Has.bP _ _ _ (by simp)|apply Has.drew|apply Has.drewN|apply Has.alloc|(apply Has.past<;>(try omega))))) rfl) (by simp[Value.oneCell']) fQ.out iC.out ?_;intro A1 c1 w9 ho1 hg1 ha1;have hpush:=aF.pushed jX.out (by(repeat'(first|(with_reducible first|exact ak|apply au|apply ay|apply aA|apply aB)|(exact dR.out)|(right;simp;done)))) ho1 hg1 ha1;have HP:=ah hpush;have fA:=eF.aF.beside yh.out (by(repeat'(first|(with_reducible first|exact ak|apply au|apply ay|apply aA|apply aB)|(right;simp;done)))) jX.out (by decide) hg1;have HJ2:=ah fA;clear ho1 hg1 ha1 hpush fA q10 l10 q9 l9;have lZ:=ah (show aF 3 1 w2.heap.size w9 A1 (G++[(i:Int)]).length c1 (ints (G++[(i:Int)]))from(by rw[mO,List.length_append];exact HP.out.1));have aQ:=ah HP.out.2;obtain⟨-,-,⟨q8,l8⟩,⟨q6,l6⟩⟩:=qF.out w9 aQ.out)
         go_roundw
         case rel=>exact⟨i+1,A1,c1,B,d,by omega,by go_num,by first|(rw[gu.out];done)|(rw[gu.out,List.length_append];rfl),by first|(rw[fF.out];done)|(rw[fF.out,List.length_append];rfl),by rw[gu.out];exact lZ.out,by rw[fF.out];exact HJ2.out,aQ.out⟩
         case measure=>simp[intOf];omega
     ·have hg1:=HG.out
      rw[if_pos (by simp)]at hg1
      have gu:=ah hg1;clear hg1
      cases j1
      ·have hj1:=HJ.out
       rw[Bool.false_and,if_neg (by decide)]at hj1
       have fF:=ah hj1;clear hj1
       obtain⟨⟨q10,l10⟩,⟨q9,l9⟩,-,-⟩:=qF.out w4 dR.out
       go_wp2_with (at_builtin;refine aI aP.jF (.tmp 38) (.tmp 40) rfl rfl (Value.slice A G.length c) rfl (aC jX.out.1 (F:=aj) (by(repeat'(first|(with_reducible first|exact ak|apply au|apply ay|apply aA|apply aB)|(right;simp;done)))) (fun _ _ x=>x)) 1 rfl (Src.bW (t:=3) (size:=1) (m:=1) (cs:=#[.int .i64 i]) (by(repeat (with_reducible first|exact Has.bP _ _ _ (by simp)|apply Has.drew|apply Has.drewN|apply Has.alloc|(apply Has.past<;>(try omega))))) rfl) (by simp[Value.oneCell']) fQ.out iC.out ?_;intro A1 c1 w9 ho1 hg1 ha1;have hpush:=aF.pushed jX.out (by(repeat'(first|(with_reducible first|exact ak|apply au|apply ay|apply aA|apply aB)|(exact dR.out)|(right;simp;done)))) ho1 hg1 ha1;have HP:=ah hpush;have fA:=eF.aF.beside yh.out (by(repeat'(first|(with_reducible first|exact ak|apply au|apply ay|apply aA|apply aB)|(right;simp;done)))) jX.out (by decide) hg1;have HJ2:=ah fA;clear ho1 hg1 ha1 hpush fA q10 l10 q9 l9;have lZ:=ah (show aF 3 1 w2.heap.size w9 A1 (G++[(i:Int)]).length c1 (ints (G++[(i:Int)]))from(by rw[mO,List.length_append];exact HP.out.1));have aQ:=ah HP.out.2;obtain⟨-,-,⟨q8,l8⟩,⟨q6,l6⟩⟩:=qF.out w9 aQ.out)
       go_roundw
       case rel=>exact⟨i+1,A1,c1,B,d,by omega,by go_num,by first|(rw[gu.out];done)|(rw[gu.out,List.length_append];rfl),by first|(rw[fF.out];done)|(rw[fF.out,List.length_append];rfl),by rw[gu.out];exact lZ.out,by rw[fF.out];exact HJ2.out,aQ.out⟩
       case measure=>simp[intOf];omega
      ·by_cases hs0:0<sv
       ·have hj1:=HJ.out
        rw[decide_eq_true hs0,Bool.true_and,if_pos rfl]at hj1
        have fF:=ah hj1;clear hj1
        obtain⟨⟨q10,l10⟩,⟨q9,l9⟩,-,-⟩:=qF.out w4 dR.out
        go_wp2_with (first|(at_builtin;refine aI aP.ng (.tmp 57) (.tmp 66) rfl rfl (Value.slice B J.length d) rfl (aC HJ2.out.1 (F:=aj) (by(repeat'(first|(with_reducible first|exact ak|apply au|apply ay|apply aA|apply aB)|(right;simp;done)))) (fun _ _ x=>x)) 1 rfl (Src.bW (t:=53) (size:=2) (m:=1) (cs:=#[.int .i64 i,.int .i64 sv]) (by(repeat (with_reducible first|exact Has.bP _ _ _ (by simp)|apply Has.drew|apply Has.drewN|apply Has.alloc|(apply Has.past<;>(try omega))))) rfl) (by simp[Value.oneCell']) zO.out yB.out ?_;intro A7 c7 w8 sD rX xK;have hpush:=aF.pushed HJ2.out (by(repeat'(first|(with_reducible first|exact ak|apply au|apply ay|apply aA|apply aB)|(exact aQ.out)|(right;simp;done)))) sD rX xK;have xM:=ah hpush;have fA:=eF.aF.beside lZ.out (by(repeat'(first|(with_reducible first|exact ak|apply au|apply ay|apply aA|apply aB)|(right;simp;done)))) HJ2.out (by decide) rX;have yF:=ah fA;clear sD rX xK hpush fA)|(at_builtin;refine aI aP.jF (.tmp 38) (.tmp 40) rfl rfl (Value.slice A G.length c) rfl (aC jX.out.1 (F:=aj) (by(repeat'(first|(with_reducible first|exact ak|apply au|apply ay|apply aA|apply aB)|(right;simp;done)))) (fun _ _ x=>x)) 1 rfl (Src.bW (t:=3) (size:=1) (m:=1) (cs:=#[.int .i64 i]) (by(repeat (with_reducible first|exact Has.bP _ _ _ (by simp)|apply Has.drew|apply Has.drewN|apply Has.alloc|(apply Has.past<;>(try omega))))) rfl) (by simp[Value.oneCell']) fQ.out iC.out ?_;intro A1 c1 w9 ho1 hg1 ha1;have hpush:=aF.pushed jX.out (by(repeat'(first|(with_reducible first|exact ak|apply au|apply ay|apply aA|apply aB)|(exact dR.out)|(right;simp;done)))) ho1 hg1 ha1;have HP:=ah hpush;have fA:=eF.aF.beside yh.out (by(repeat'(first|(with_reducible first|exact ak|apply au|apply ay|apply aA|apply aB)|(right;simp;done)))) jX.out (by decide) hg1;have HJ2:=ah fA;clear ho1 hg1 ha1 hpush fA q10 l10 q9 l9;have lZ:=ah (show aF 3 1 w2.heap.size w9 A1 (G++[(i:Int)]).length c1 (ints (G++[(i:Int)]))from(by rw[mO,List.length_append];exact HP.out.1));have aQ:=ah HP.out.2;obtain⟨-,-,⟨q8,l8⟩,⟨q6,l6⟩⟩:=qF.out w9 aQ.out))
        go_roundw
        case rel=>exact⟨i+1,A1,c1,A7,c7,by omega,by go_num,by first|(rw[gu.out];done)|(rw[gu.out,List.length_append];rfl),by first|(rw[fF.out];done)|(rw[fF.out,List.length_append];rfl),by rw[gu.out];exact yF.out,by rw[fF.out];exact(by rw[qE,List.length_append];exact xM.out.1),xM.out.2⟩
        case measure=>simp[intOf];omega
       ·have hj1:=HJ.out
        rw[decide_eq_false hs0,Bool.and_false,if_neg (by decide)]at hj1
        have fF:=ah hj1;clear hj1
        obtain⟨⟨q10,l10⟩,⟨q9,l9⟩,-,-⟩:=qF.out w4 dR.out
        go_wp2_with (at_builtin;refine aI aP.jF (.tmp 38) (.tmp 40) rfl rfl (Value.slice A G.length c) rfl (aC jX.out.1 (F:=aj) (by(repeat'(first|(with_reducible first|exact ak|apply au|apply ay|apply aA|apply aB)|(right;simp;done)))) (fun _ _ x=>x)) 1 rfl (Src.bW (t:=3) (size:=1) (m:=1) (cs:=#[.int .i64 i]) (by(repeat (with_reducible first|exact Has.bP _ _ _ (by simp)|apply Has.drew|apply Has.drewN|apply Has.alloc|(apply Has.past<;>(try omega))))) rfl) (by simp[Value.oneCell']) fQ.out iC.out ?_;intro A1 c1 w9 ho1 hg1 ha1;have hpush:=aF.pushed jX.out (by(repeat'(first|(with_reducible first|exact ak|apply au|apply ay|apply aA|apply aB)|(exact dR.out)|(right;simp;done)))) ho1 hg1 ha1;have HP:=ah hpush;have fA:=eF.aF.beside yh.out (by(repeat'(first|(with_reducible first|exact ak|apply au|apply ay|apply aA|apply aB)|(right;simp;done)))) jX.out (by decide) hg1;have HJ2:=ah fA;clear ho1 hg1 ha1 hpush fA q10 l10 q9 l9;have lZ:=ah (show aF 3 1 w2.heap.size w9 A1 (G++[(i:Int)]).length c1 (ints (G++[(i:Int)]))from(by rw[mO,List.length_append];exact HP.out.1));have aQ:=ah HP.out.2;obtain⟨-,-,⟨q8,l8⟩,⟨q6,l6⟩⟩:=qF.out w9 aQ.out)
        go_roundw
        case rel=>exact⟨i+1,A1,c1,B,d,by omega,by go_num,by first|(rw[gu.out];done)|(rw[gu.out,List.length_append];rfl),by first|(rw[fF.out];done)|(rw[fF.out,List.length_append];rfl),by rw[gu.out];exact lZ.out,by rw[fF.out];exact HJ2.out,aQ.out⟩
        case measure=>simp[intOf];omega
    ·have hg1:=HG.out
     rw[if_pos (by simp)]at hg1
     have gu:=ah hg1;clear hg1
     cases j1
     ·have hj1:=HJ.out
      rw[Bool.false_and,if_neg (by decide)]at hj1
      have fF:=ah hj1;clear hj1
      obtain⟨⟨q10,l10⟩,⟨q9,l9⟩,-,-⟩:=qF.out w4 dR.out
      go_wp2_with (at_builtin;refine aI aP.jF (.tmp 38) (.tmp 40) rfl rfl (Value.slice A G.length c) rfl (aC jX.out.1 (F:=aj) (by(repeat'(first|(with_reducible first|exact ak|apply au|apply ay|apply aA|apply aB)|(right;simp;done)))) (fun _ _ x=>x)) 1 rfl (Src.bW (t:=3) (size:=1) (m:=1) (cs:=#[.int .i64 i]) (by(repeat (with_reducible first|exact Has.bP _ _ _ (by simp)|apply Has.drew|apply Has.drewN|apply Has.alloc|(apply Has.past<;>(try omega))))) rfl) (by simp[Value.oneCell']) fQ.out iC.out ?_;intro A1 c1 w9 ho1 hg1 ha1;have hpush:=aF.pushed jX.out (by(repeat'(first|(with_reducible first|exact ak|apply au|apply ay|apply aA|apply aB)|(exact dR.out)|(right;simp;done)))) ho1 hg1 ha1;have HP:=ah hpush;have fA:=eF.aF.beside yh.out (by(repeat'(first|(with_reducible first|exact ak|apply au|apply ay|apply aA|apply aB)|(right;simp;done)))) jX.out (by decide) hg1;have HJ2:=ah fA;clear ho1 hg1 ha1 hpush fA q10 l10 q9 l9;have lZ:=ah (show aF 3 1 w2.heap.size w9 A1 (G++[(i:Int)]).length c1 (ints (G++[(i:Int)]))from(by rw[mO,List.length_append];exact HP.out.1));have aQ:=ah HP.out.2;obtain⟨-,-,⟨q8,l8⟩,⟨q6,l6⟩⟩:=qF.out w9 aQ.out)
      go_roundw
      case rel=>exact⟨i+1,A1,c1,B,d,by omega,by go_num,by first|(rw[gu.out];done)|(rw[gu.out,List.length_append];rfl),by first|(rw[fF.out];done)|(rw[fF.out,List.length_append];rfl),by rw[gu.out];exact lZ.out,by rw[fF.out];exact HJ2.out,aQ.out⟩
      case measure=>simp[intOf];omega
     ·by_cases hs0:0<sv
      ·have hj1:=HJ.out
       rw[decide_eq_true hs0,Bool.true_and,if_pos rfl]at hj1
       have fF:=ah hj1;clear hj1
       obtain⟨⟨q10,l10⟩,⟨q9,l9⟩,-,-⟩:=qF.out w4 dR.out
       go_wp2_with (first|(at_builtin;refine aI aP.ng (.tmp 57) (.tmp 66) rfl rfl (Value.slice B J.length d) rfl (aC HJ2.out.1 (F:=aj) (by(repeat'(first|(with_reducible first|exact ak|apply au|apply ay|apply aA|apply aB)|(right;simp;done)))) (fun _ _ x=>x)) 1 rfl (Src.bW (t:=53) (size:=2) (m:=1) (cs:=#[.int .i64 i,.int .i64 sv]) (by(repeat (with_reducible first|exact Has.bP _ _ _ (by simp)|apply Has.drew|apply Has.drewN|apply Has.alloc|(apply Has.past<;>(try omega))))) rfl) (by simp[Value.oneCell']) zO.out yB.out ?_;intro A7 c7 w8 sD rX xK;have hpush:=aF.pushed HJ2.out (by(repeat'(first|(with_reducible first|exact ak|apply au|apply ay|apply aA|apply aB)|(exact aQ.out)|(right;simp;done)))) sD rX xK;have xM:=ah hpush;have fA:=eF.aF.beside lZ.out (by(repeat'(first|(with_reducible first|exact ak|apply au|apply ay|apply aA|apply aB)|(right;simp;done)))) HJ2.out (by decide) rX;have yF:=ah fA;clear sD rX xK hpush fA)|(at_builtin;refine aI aP.jF (.tmp 38) (.tmp 40) rfl rfl (Value.slice A G.length c) rfl (aC jX.out.1 (F:=aj) (by(repeat'(first|(with_reducible first|exact ak|apply au|apply ay|apply aA|apply aB)|(right;simp;done)))) (fun _ _ x=>x)) 1 rfl (Src.bW (t:=3) (size:=1) (m:=1) (cs:=#[.int .i64 i]) (by(repeat (with_reducible first|exact Has.bP _ _ _ (by simp)|apply Has.drew|apply Has.drewN|apply Has.alloc|(apply Has.past<;>(try omega))))) rfl) (by simp[Value.oneCell']) fQ.out iC.out ?_;intro A1 c1 w9 ho1 hg1 ha1;have hpush:=aF.pushed jX.out (by(repeat'(first|(with_reducible first|exact ak|apply au|apply ay|apply aA|apply aB)|(exact dR.out)|(right;simp;done)))) ho1 hg1 ha1;have HP:=ah hpush;have fA:=eF.aF.beside yh.out (by(repeat'(first|(with_reducible first|exact ak|apply au|apply ay|apply aA|apply aB)|(right;simp;done)))) jX.out (by decide) hg1;have HJ2:=ah fA;clear ho1 hg1 ha1 hpush fA q10 l10 q9 l9;have lZ:=ah (show aF 3 1 w2.heap.size w9 A1 (G++[(i:Int)]).length c1 (ints (G++[(i:Int)]))from(by rw[mO,List.length_append];exact HP.out.1));have aQ:=ah HP.out.2;obtain⟨-,-,⟨q8,l8⟩,⟨q6,l6⟩⟩:=qF.out w9 aQ.out))
       go_roundw
       case rel=>exact⟨i+1,A1,c1,A7,c7,by omega,by go_num,by first|(rw[gu.out];done)|(rw[gu.out,List.length_append];rfl),by first|(rw[fF.out];done)|(rw[fF.out,List.length_append];rfl),by rw[gu.out];exact yF.out,by rw[fF.out];exact(by rw[qE,List.length_append];exact xM.out.1),xM.out.2⟩
       case measure=>simp[intOf];omega
      ·have hj1:=HJ.out
       rw[decide_eq_false hs0,Bool.and_false,if_neg (by decide)]at hj1
       have fF:=ah hj1;clear hj1
       obtain⟨⟨q10,l10⟩,⟨q9,l9⟩,-,-⟩:=qF.out w4 dR.out
       go_wp2_with (at_builtin;refine aI aP.jF (.tmp 38) (.tmp 40) rfl rfl (Value.slice A G.length c) rfl (aC jX.out.1 (F:=aj) (by(repeat'(first|(with_reducible first|exact ak|apply au|apply ay|apply aA|apply aB)|(right;simp;done)))) (fun _ _ x=>x)) 1 rfl (Src.bW (t:=3) (size:=1) (m:=1) (cs:=#[.int .i64 i]) (by(repeat (with_reducible first|exact Has.bP _ _ _ (by simp)|apply Has.drew|apply Has.drewN|apply Has.alloc|(apply Has.past<;>(try omega))))) rfl) (by simp[Value.oneCell']) fQ.out iC.out ?_;intro A1 c1 w9 ho1 hg1 ha1;have hpush:=aF.pushed jX.out (by(repeat'(first|(with_reducible first|exact ak|apply au|apply ay|apply aA|apply aB)|(exact dR.out)|(right;simp;done)))) ho1 hg1 ha1;have HP:=ah hpush;have fA:=eF.aF.beside yh.out (by(repeat'(first|(with_reducible first|exact ak|apply au|apply ay|apply aA|apply aB)|(right;simp;done)))) jX.out (by decide) hg1;have HJ2:=ah fA;clear ho1 hg1 ha1 hpush fA q10 l10 q9 l9;have lZ:=ah (show aF 3 1 w2.heap.size w9 A1 (G++[(i:Int)]).length c1 (ints (G++[(i:Int)]))from(by rw[mO,List.length_append];exact HP.out.1));have aQ:=ah HP.out.2;obtain⟨-,-,⟨q8,l8⟩,⟨q6,l6⟩⟩:=qF.out w9 aQ.out)
       go_roundw
       case rel=>exact⟨i+1,A1,c1,B,d,by omega,by go_num,by first|(rw[gu.out];done)|(rw[gu.out,List.length_append];rfl),by first|(rw[fF.out];done)|(rw[fF.out,List.length_append];rfl),by rw[gu.out];exact lZ.out,by rw[fF.out];exact HJ2.out,aQ.out⟩
       case measure=>simp[intOf];omega
  ·obtain rfl:i=4:=by omega
   have UU:=ah hrG;have Jq:=ah UT;have HK:=ah hk;clear hrG UT hk
   have h2:=aW.out.size
   have HG4:=ah (show aF 3 1 w.heap.size wr A (gW M 4).length c (ints (gW M 4))from⟨UU.out.1,fun g hg=>Nat.le_trans h2 (UU.out.2 g hg)⟩)
   have HJ4:=ah (show aF 53 2 w.heap.size wr B (jh M 4).length d (aS (jh M 4))from⟨Jq.out.1,fun g hg=>Nat.le_trans h2 (Jq.out.2 g hg)⟩)
   clear h2
   go_wp2
   go_ret2
   exact⟨A,c,B,d,rfl,HG4.out,HJ4.out,aW.out.then HK.out⟩
end
end dM
end Go.Proofs.YtolkgbafebehfaaGreat
