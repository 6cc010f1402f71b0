/- Part 36 of what the proof needs. -/
import Derived.Test.YtfjdpbbgfjhnlaaGreatMK34
set_option linter.unusedSimpArgs false
set_option linter.unusedVariables false
set_option maxHeartbeats 32000000
set_option maxRecDepth 100000
namespace Go.Proofs.YtfjdpbbgfjhnlaaGreat
open Go.RowKit
set_option maxRecDepth 100000
namespace dH
open aO Vn Mst lV IM mY gZ
theorem sK(l:List Mem)(m:Mem):aP (l++[m])=aP l++[.int .i64 m.1,.int .i64 m.2]:=by
 unfold aP
 rw[List.flatMap_append]
 rfl
theorem oG(l:List Int)(x:Int):ints (l++[x])=ints l++[.int .i64 x]:=by
 unfold ints
 rw[List.map_append]
 rfl
def Jm(w:World)(M:MR)(e:Ending)(w':World):Prop:=
 ∃A c B d,e=.returned (.tuple #[.slice A (iQ M 4).length c,.slice B (jJ M 4).length d])/\aF 3 1 w.heap.size w' A (iQ M 4).length c (ints (iQ M 4))/\aF 65 2 w.heap.size w' B (jJ M 4).length d (aP (jJ M 4))/\Kept aj w w'
section
variable{w w':World}{X X0:MX}{M M0:MR}{c k:Nat}
theorem Vt(h:dD w X M)(hm:bD M k):
  Calls Tryz.prog 105 #[.pointer (some ⟨X.mb,0,none⟩)] w (Jm w M):=by
 have hq4:=h.cell (i:=4) rfl
 have Na:=aat (h.c 4) hm.ug
 have hmem:=fun(W:World) (hW:Kept aj w W) (id:Int)=>nY (h.quiet hW) hm.st.inv.ok id
 have hat:∀W,Kept aj w W->∀id:Int,I64 id->(W.cell? ⟨X.mb,10,none⟩=some (.map (some X.lo))/\(Instr.lookup 88 (.map (some X.lo)) (.int .i64 id) false).run Tryz.prog W=.ok (.bool (M.lost id)) W)/\
   (W.cell? ⟨X.mb,9,none⟩=some (.map (some X.le))/\(Instr.lookup 88 (.map (some X.le)) (.int .i64 id) false).run Tryz.prog W=.ok (.bool (M.leaves id)) W)/\
   (W.cell? ⟨X.mb,8,none⟩=some (.map (some X.jo))/\(Instr.lookup 88 (.map (some X.jo)) (.int .i64 id) false).run Tryz.prog W=.ok (.bool (M.joins id)) W)/\
   (W.cell? ⟨X.mb,6,none⟩=some (.map (some X.se))/\(Instr.lookup 87 (.map (some X.se)) (.int .i64 id) false).run Tryz.prog W=.ok (.int .i64 (FB M id)) W):=fun W hW id hi=>by
  have hh:=h.quiet hW
  exact⟨⟨hh.cell (i:=10) rfl,bM.look (hh.c 9) hi⟩,⟨hh.cell (i:=9) rfl,bM.look (hh.c 8) hi⟩,⟨hh.cell (i:=8) rfl,bM.look (hh.c 7) hi⟩,⟨hh.cell (i:=6) rfl,eF.look (hh.c 6) Tryz.underlying87 Tryz.underlying3 rfl hi⟩⟩
 have hll:(zq M.ns).length<=4:=Ih _ _
 obtain⟨L,hL⟩:∃L,zq M.ns=L:=⟨_,rfl⟩
 have hGP:∀i:Nat,xU M i=(bY M.st.ms i&&(inB L i||M.lost i||M.leaves i)):=fun i=>by unfold xU;rw[hL]
 have hJP:∀i:Nat,FC M i=(M.joins i&&decide (0<FB M i)):=fun i=>rfl
 unfold NY at Na
 rw[hL]at Na hll
 have JZ:=ah hmem;have HAT:=ah hat;have agu:=ah Na;have lM:=ah hll;have HGP:=ah hGP;have HJP:=ah hJP
 clear h hm hmem hat Na hll hL hGP hJP
 go_enter Tryz.func105,Tryz.ntmps105
 go_wp2_with fail
 clear hq4
 refine agu.out.mono ?_
 rintro e w2 ⟨B0,d0,rfl,hn0,hk0⟩
 have dO:=ah hn0;have bf:=ah hk0;clear hn0 hk0
 go_wp2_with fail
 go_loopw [2,3,5,11] (fun v2 v3 v5 v11 wr=>∃(i:Nat) (A:Option Addr) (c:Nat) (B:Option Addr) (d:Nat),i<=4/\v11=.int .i64 i/\v2=.slice A (iQ M i).length c/\v3=.slice B (jJ M i).length d/\
  aF 3 1 w2.heap.size wr A (iQ M i).length c (ints (iQ M i))/\aF 65 2 w2.heap.size wr B (jJ M i).length d (aP (jJ M i))/\Kept aj w2 wr) (fun _ _ _ v11 _=>4-(intOf v11).toNat)
 case atStart=>exact⟨0,none,0,none,0,Nat.zero_le _,rfl,rfl,rfl,aF.nil _ _ _ _,aF.nil _ _ _ _,Kept.refl _ _⟩
 case round=>
  obtain⟨i,A,c,B,d,hi,rfl,rfl,rfl,hrG,Zv,hk⟩:=hrel
  by_cases hil:i<4
  ·have hi64:I64 (i:Int):=fZ (by omega) (by omega)
   obtain⟨b1,hb1⟩:∃b,bY M.st.ms (i:Int)=b:=⟨_,rfl⟩
   obtain⟨b2,hb2⟩:∃b,inB L (i:Int)=b:=⟨_,rfl⟩
   obtain⟨b3,hb3⟩:∃b,M.lost (i:Int)=b:=⟨_,rfl⟩
   obtain⟨b4,hb4⟩:∃b,M.leaves (i:Int)=b:=⟨_,rfl⟩
   obtain⟨j1,hj1⟩:∃b,M.joins (i:Int)=b:=⟨_,rfl⟩
   obtain⟨sv,hsv⟩:∃s,FB M (i:Int)=s:=⟨_,rfl⟩
   have hg:=Vh M i
   have hj:=Vj M i
   rw[HGP.out,hb1,hb2,hb3,hb4]at hg
   rw[HJP.out,hj1,hsv]at hj
   have hmem:=JZ.out wr (bf.out.then hk) i
   rw[hb1]at hmem
   have hat:∀W,Kept aj w2 W->(W.cell? ⟨X.mb,10,none⟩=some (.map (some X.lo))/\(Instr.lookup 88 (.map (some X.lo)) (.int .i64 i) false).run Tryz.prog W=.ok (.bool b3) W)/\
     (W.cell? ⟨X.mb,9,none⟩=some (.map (some X.le))/\(Instr.lookup 88 (.map (some X.le)) (.int .i64 i) false).run Tryz.prog W=.ok (.bool b4) W)/\
     (W.cell? ⟨X.mb,8,none⟩=some (.map (some X.jo))/\(Instr.lookup 88 (.map (some X.jo)) (.int .i64 i) false).run Tryz.prog W=.ok (.bool j1) W)/\
     (W.cell? ⟨X.mb,6,none⟩=some (.map (some X.se))/\(Instr.lookup 87 (.map (some X.se)) (.int .i64 i) false).run Tryz.prog W=.ok (.int .i64 sv) W):=fun W hW=>by
    have:=HAT.out W (bf.out.then hW) i hi64
    rw[hb3,hb4,hj1,hsv]at this
    exact this
   have Jn:=Me M i
   have hlj:=MB M i
   have hcon:=fun(W:World) (hW:Kept aj w2 W)=>kP W B0 d0 L i ((Src.bC dO.out.1).kept hW (fun _ _ z=>z)) (by have:=lM.out;omega)
   simp only[hb2]at hcon
   obtain⟨G,hG⟩:∃G,iQ M i=G:=⟨_,rfl⟩
   obtain⟨J,hJ⟩:∃J,jJ M i=J:=⟨_,rfl⟩
   rw[hG]at hg hrG Jn⊢
   rw[hJ]at hj Zv hlj⊢
   have Zw:=ah hrG;have Oh:=ah Zv;have HK:=ah hk;have HME:=ah hmem;have sN:=ah hat;have Uh:=ah hcon;have HG:=ah hg;have HJ:=ah hj
   have gq:Hid (G.length+1<=maxLen):=ah (by unfold maxLen;omega)
   have iO:Hid ((G.length+1)*8<=140737488355328):=ah (by omega)
   have yM:Hid (J.length+1<=maxLen):=ah (by unfold maxLen;omega)
   have AY:Hid ((J.length+1)*16<=140737488355328):=ah (by omega)
   clear hg hj hmem hat Jn hlj hcon hrG Zv hk hG hJ hb1 hb2 hb3 hb4 hj1 hsv hi64
   cases b1
   ·have hg1:=HG.out
    rw[Bool.false_and,if_neg (by decide)]at hg1
    have iD:=ah hg1;clear hg1
    go_wp2_with fail
    refine HME.out.mono ?_
    rintro e w3 ⟨rfl,hk3⟩
    have aW:=ah (HK.out.then hk3);have mG:=ah (aF.kept Zw.out hk3);have HJ2:=ah (aF.kept Oh.out hk3);clear hk3
    obtain⟨-,-,⟨q8,l8⟩,⟨q6,l6⟩⟩:=sN.out w3 aW.out
    cases j1
    ·have hj1:=HJ.out
     rw[Bool.false_and,if_neg (by decide)]at hj1
     have gB:=ah hj1;clear hj1
     clear q6 l6
     go_wp2
     go_roundw
     case rel=>exact⟨i+1,A,c,B,d,by omega,by go_num,by first|(rw[iD.out];done)|(rw[iD.out,List.length_append];rfl),by first|(rw[gB.out];done)|(rw[gB.out,List.length_append];rfl),by rw[iD.out];exact mG.out,by rw[gB.out];exact HJ2.out,aW.out⟩
     case measure=>simp[intOf];omega
    ·by_cases hs0:0<sv
     ·have hj1:=HJ.out
      rw[decide_eq_true hs0,Bool.true_and,if_pos rfl]at hj1
      have gB:=ah hj1;clear hj1
      go_wp2_with (at_builtin;refine aN aO.nP (.tmp 57) (.tmp 66) rfl rfl (Value.slice B J.length d) rfl (aC HJ2.out.1 (F:=aj) (by(repeat'(first|(with_reducible first|exact ak|apply au|apply ay|apply aA|apply aB)|(right;simp;done)))) (fun _ _ x=>x)) 1 rfl (Src.dn (t:=65) (size:=2) (m:=1) (cs:=#[.int .i64 i,.int .i64 sv]) (by(repeat (with_reducible first|exact Has.bT _ _ _ (by simp)|apply Has.drew|apply Has.drewN|apply Has.alloc|(apply Has.past<;>(try omega))))) rfl) (by simp[Value.oneCell']) yM.out AY.out ?_;intro A7 c7 w8 sG uT zS;have hpush:=aF.pushed HJ2.out (by(repeat'(first|(with_reducible first|exact ak|apply au|apply ay|apply aA|apply aB)|(exact aW.out)|(right;simp;done)))) sG uT zS;have zT:=ah hpush;have fQ:=dM.aF.beside mG.out (by(repeat'(first|(with_reducible first|exact ak|apply au|apply ay|apply aA|apply aB)|(right;simp;done)))) HJ2.out (by decide) uT;have Bl:=ah fQ;clear sG uT zS hpush fQ)
      go_roundw
      case rel=>exact⟨i+1,A,c,A7,c7,by omega,by go_num,by first|(rw[iD.out];done)|(rw[iD.out,List.length_append];rfl),by first|(rw[gB.out];done)|(rw[gB.out,List.length_append];rfl),by rw[iD.out];exact Bl.out,by rw[gB.out];exact(by rw[sK,List.length_append];exact zT.out.1),zT.out.2⟩
      case measure=>simp[intOf];omega
     ·have hj1:=HJ.out
      rw[decide_eq_false hs0,Bool.and_false,if_neg (by decide)]at hj1
      have gB:=ah hj1;clear hj1
      go_wp2
      go_roundw
      case rel=>exact⟨i+1,A,c,B,d,by omega,by go_num,by first|(rw[iD.out];done)|(rw[iD.out,List.length_append];rfl),by first|(rw[gB.out];done)|(rw[gB.out,List.length_append];rfl),by rw[iD.out];exact mG.out,by rw[gB.out];exact HJ2.out,aW.out⟩
      case measure=>simp[intOf];omega
   ·go_wp2_with fail
    refine HME.out.mono ?_
    rintro e w3 ⟨rfl,hk3⟩
    have hcn:=Uh.out w3 (HK.out.then hk3)
    have HCN:=ah hcn;have bn:=ah (HK.out.then hk3);have ahb:=ah (aF.kept Zw.out hk3);have ahc:=ah (aF.kept Oh.out hk3);clear hcn hk3
    go_wp2_with fail
    refine HCN.out.mono ?_
    rintro e w4 ⟨rfl,hk4⟩
    have dW:=ah (bn.out.then hk4);have kR:=ah (aF.kept ahb.out hk4);have Au:=ah (aF.kept ahc.out hk4);clear hk4
    cases b2
    ·cases b3
     ·cases b4
      ·have hg1:=HG.out
       rw[if_neg (by decide)]at hg1
       have iD:=ah hg1;clear hg1
       obtain⟨⟨q10,l10⟩,⟨q9,l9⟩,-,-⟩:=sN.out w4 dW.out
       have mG:=kR;have HJ2:=Au;have aW:=dW
       obtain⟨-,-,⟨q8,l8⟩,⟨q6,l6⟩⟩:=sN.out w4 aW.out
       cases j1
       ·have hj1:=HJ.out
        rw[Bool.false_and,if_neg (by decide)]at hj1
        have gB:=ah hj1;clear hj1
        clear q6 l6
        go_wp2
        go_roundw
        case rel=>exact⟨i+1,A,c,B,d,by omega,by go_num,by first|(rw[iD.out];done)|(rw[iD.out,List.length_append];rfl),by first|(rw[gB.out];done)|(rw[gB.out,List.length_append];rfl),by rw[iD.out];exact mG.out,by rw[gB.out];exact HJ2.out,aW.out⟩
        case measure=>simp[intOf];omega
       ·by_cases hs0:0<sv
        ·have hj1:=HJ.out
         rw[decide_eq_true hs0,Bool.true_and,if_pos rfl]at hj1
         have gB:=ah hj1;clear hj1
         go_wp2_with (at_builtin;refine aN aO.nP (.tmp 57) (.tmp 66) rfl rfl (Value.slice B J.length d) rfl (aC HJ2.out.1 (F:=aj) (by(repeat'(first|(with_reducible first|exact ak|apply au|apply ay|apply aA|apply aB)|(right;simp;done)))) (fun _ _ x=>x)) 1 rfl (Src.dn (t:=65) (size:=2) (m:=1) (cs:=#[.int .i64 i,.int .i64 sv]) (by(repeat (with_reducible first|exact Has.bT _ _ _ (by simp)|apply Has.drew|apply Has.drewN|apply Has.alloc|(apply Has.past<;>(try omega))))) rfl) (by simp[Value.oneCell']) yM.out AY.out ?_;intro A7 c7 w8 sG uT zS;have hpush:=aF.pushed HJ2.out (by(repeat'(first|(with_reducible first|exact ak|apply au|apply ay|apply aA|apply aB)|(exact aW.out)|(right;simp;done)))) sG uT zS;have zT:=ah hpush;have fQ:=dM.aF.beside mG.out (by(repeat'(first|(with_reducible first|exact ak|apply au|apply ay|apply aA|apply aB)|(right;simp;done)))) HJ2.out (by decide) uT;have Bl:=ah fQ;clear sG uT zS hpush fQ)
         go_roundw
         case rel=>exact⟨i+1,A,c,A7,c7,by omega,by go_num,by first|(rw[iD.out];done)|(rw[iD.out,List.length_append];rfl),by first|(rw[gB.out];done)|(rw[gB.out,List.length_append];rfl),by rw[iD.out];exact Bl.out,by rw[gB.out];exact(by rw[sK,List.length_append];exact zT.out.1),zT.out.2⟩
         case measure=>simp[intOf];omega
        ·have hj1:=HJ.out
         rw[decide_eq_false hs0,Bool.and_false,if_neg (by decide)]at hj1
         have gB:=ah hj1;clear hj1
         go_wp2
         go_roundw
         case rel=>exact⟨i+1,A,c,B,d,by omega,by go_num,by first|(rw[iD.out];done)|(rw[iD.out,List.length_append];rfl),by first|(rw[gB.out];done)|(rw[gB.out,List.length_append];rfl),by rw[iD.out];exact mG.out,by rw[gB.out];exact HJ2.out,aW.out⟩
         case measure=>simp[intOf];omega
      ·have hg1:=HG.out
       rw[if_pos (by decide)]at hg1
       have iD:=ah hg1;clear hg1
       cases j1
       ·have hj1:=HJ.out
        rw[Bool.false_and,if_neg (by decide)]at hj1
        have gB:=ah hj1;clear hj1
        obtain⟨⟨q10,l10⟩,⟨q9,l9⟩,-,-⟩:=sN.out w4 dW.out
        go_wp2_with (at_builtin;refine aN aO.jQ (.tmp 38) (.tmp 40) rfl rfl (Value.slice A G.length c) rfl (aC kR.out.1 (F:=aj) (by(repeat'(first|(with_reducible first|exact ak|apply au|apply ay|apply aA|apply aB)|(right;simp;done)))) (fun _ _ x=>x)) 1 rfl (Src.dn (t:=3) (size:=1) (m:=1) (cs:=#[.int .i64 i]) (by(repeat (with_reducible first|exact Has.bT _ _ _ (by simp)|apply Has.drew|apply Has.drewN|apply Has.alloc|(apply Has.past<;>(try omega))))) rfl) (by simp[Value.oneCell']) gq.out iO.out ?_;intro A1 c1 w9 ho1 hg1 ha1;have hpush:=aF.pushed kR.out (by(repeat'(first|(with_reducible first|exact ak|apply au|apply ay|apply aA|apply aB)|(exact dW.out)|(right;simp;done)))) ho1 hg1 ha1;have HP:=ah hpush;have fQ:=dM.aF.beside Au.out (by(repeat'(first|(with_reducible first|exact ak|apply au|apply ay|apply aA|apply aB)|(right;simp;done)))) kR.out (by decide) hg1;have HJ2:=ah fQ;clear ho1 hg1 ha1 hpush fQ q10 l10 q9 l9;have mG:=ah (show aF 3 1 w2.heap.size w9 A1 (G++[(i:Int)]).length c1 (ints (G++[(i:Int)]))from(by rw[oG,List.length_append];exact HP.out.1));have aW:=ah HP.out.2;obtain⟨-,-,⟨q8,l8⟩,⟨q6,l6⟩⟩:=sN.out w9 aW.out)
        go_roundw
        case rel=>exact⟨i+1,A1,c1,B,d,by omega,by go_num,by first|(rw[iD.out];done)|(rw[iD.out,List.length_append];rfl),by first|(rw[gB.out];done)|(rw[gB.out,List.length_append];rfl),by rw[iD.out];exact mG.out,by rw[gB.out];exact HJ2.out,aW.out⟩
        case measure=>simp[intOf];omega
       ·by_cases hs0:0<sv
        ·have hj1:=HJ.out
         rw[decide_eq_true hs0,Bool.true_and,if_pos rfl]at hj1
         have gB:=ah hj1;clear hj1
         obtain⟨⟨q10,l10⟩,⟨q9,l9⟩,-,-⟩:=sN.out w4 dW.out
         go_wp2_with (first|(at_builtin;refine aN aO.nP (.tmp 57) (.tmp 66) rfl rfl (Value.slice B J.length d) rfl (aC HJ2.out.1 (F:=aj) (by(repeat'(first|(with_reducible first|exact ak|apply au|apply ay|apply aA|apply aB)|(right;simp;done)))) (fun _ _ x=>x)) 1 rfl (Src.dn (t:=65) (size:=2) (m:=1) (cs:=#[.int .i64 i,.int .i64 sv]) (by(repeat (with_reducible first|exact Has.bT _ _ _ (by simp)|apply Has.drew|apply Has.drewN|apply Has.alloc|(apply Has.past<;>(try omega))))) rfl) (by simp[Value.oneCell']) yM.out AY.out ?_;intro A7 c7 w8 sG uT zS;have hpush:=aF.pushed HJ2.out (by(repeat'(first|(with_reducible first|exact ak|apply au|apply ay|apply aA|apply aB)|(exact aW.out)|(right;simp;done)))) sG uT zS;have zT:=ah hpush;have fQ:=dM.aF.beside mG.out (by(repeat'(first|(with_reducible first|exact ak|apply au|apply ay|apply aA|apply aB)|(right;simp;done)))) HJ2.out (by decide) uT;have Bl:=ah fQ;clear sG uT zS hpush fQ)|(at_builtin;refine aN aO.jQ (.tmp 38) (.tmp 40) rfl rfl (Value.slice A G.length c) rfl (aC kR.out.1 (F:=aj) (by(repeat'(first|(with_reducible first|exact ak|apply au|apply ay|apply aA|apply aB)|(right;simp;done)))) (fun _ _ x=>x)) 1 rfl (Src.dn (t:=3) (size:=1) (m:=1) (cs:=#[.int .i64 i]) (by(repeat (with_reducible first|exact Has.bT _ _ _ (by simp)|apply Has.drew|apply Has.drewN|apply Has.alloc|(apply Has.past<;>(try omega))))) rfl) (by simp[Value.oneCell']) gq.out iO.out ?_;intro A1 c1 w9 ho1 hg1 ha1;have hpush:=aF.pushed kR.out (by(repeat'(first|(with_reducible first|exact ak|apply au|apply ay|apply aA|apply aB)|(exact dW.out)|(right;simp;done)))) ho1 hg1 ha1;have HP:=ah hpush;have fQ:=dM.aF.beside Au.out (by(repeat'(first|(with_reducible first|exact ak|apply au|apply ay|apply aA|apply aB)|(right;simp;done)))) kR.out (by decide) hg1;have HJ2:=ah fQ;clear ho1 hg1 ha1 hpush fQ q10 l10 q9 l9;have mG:=ah (show aF 3 1 w2.heap.size w9 A1 (G++[(i:Int)]).length c1 (ints (G++[(i:Int)]))from(by rw[oG,List.length_append];exact HP.out.1));have aW:=ah HP.out.2;obtain⟨-,-,⟨q8,l8⟩,⟨q6,l6⟩⟩:=sN.out w9 aW.out))
         go_roundw
         case rel=>exact⟨i+1,A1,c1,A7,c7,by omega,by go_num,by first|(rw[iD.out];done)|(rw[iD.out,List.length_append];rfl),by first|(rw[gB.out];done)|(rw[gB.out,List.length_append];rfl),by rw[iD.out];exact Bl.out,by rw[gB.out];exact(by rw[sK,List.length_append];exact zT.out.1),zT.out.2⟩
         case measure=>simp[intOf];omega
        ·have hj1:=HJ.out
         rw[decide_eq_false hs0,Bool.and_false,if_neg (by decide)]at hj1
         have gB:=ah hj1;clear hj1
         obtain⟨⟨q10,l10⟩,⟨q9,l9⟩,-,-⟩:=sN.out w4 dW.out
         go_wp2_with (at_builtin;refine aN aO.jQ (.tmp 38) (.tmp 40) rfl rfl (Value.slice A G.length c) rfl (aC kR.out.1 (F:=aj) (by(repeat'(first|(with_reducible first|exact ak|apply au|apply ay|apply aA|apply aB)|(right;simp;done)))) (fun _ _ x=>x)) 1 rfl (Src.dn (t:=3) (size:=1) (m:=1) (cs:=#[.int .i64 i]) (by(repeat (with_reducible first|exact Has.bT _ _ _ (by simp)|apply Has.drew|apply Has.drewN|apply Has.alloc|(apply Has.past<;>(try omega))))) rfl) (by simp[Value.oneCell']) gq.out iO.out ?_;intro A1 c1 w9 ho1 hg1 ha1;have hpush:=aF.pushed kR.out (by(repeat'(first|(with_reducible first|exact ak|apply au|apply ay|apply aA|apply aB)|(exact dW.out)|(right;simp;done)))) ho1 hg1 ha1;have HP:=ah hpush;have fQ:=dM.aF.beside Au.out (by(repeat'(first|(with_reducible first|exact ak|apply au|apply ay|apply aA|apply aB)|(right;simp;done)))) kR.out (by decide) hg1;have HJ2:=ah fQ;clear ho1 hg1 ha1 hpush fQ q10 l10 q9 l9;have mG:=ah (show aF 3 1 w2.heap.size w9 A1 (G++[(i:Int)]).length c1 (ints (G++[(i:Int)]))from(by rw[oG,List.length_append];exact HP.out.1));have aW:=ah HP.out.2;obtain⟨-,-,⟨q8,l8⟩,⟨q6,l6⟩⟩:=sN.out w9 aW.out)
         go_roundw
         case rel=>exact⟨i+1,A1,c1,B,d,by omega,by go_num,by first|(rw[iD.out];done)|(rw[iD.out,List.length_append];rfl),by first|(rw[gB.out];done)|(rw[gB.out,List.length_append];rfl),by rw[iD.out];exact mG.out,by rw[gB.out];exact HJ2.out,aW.out⟩
         case measure=>simp[intOf];omega
     ·have hg1:=HG.out
      rw[if_pos (by simp)]at hg1
      have iD:=ah hg1;clear hg1
      cases j1
      ·have hj1:=HJ.out
       rw[Bool.false_and,if_neg (by decide)]at hj1
       have gB:=ah hj1;clear hj1
       obtain⟨⟨q10,l10⟩,⟨q9,l9⟩,-,-⟩:=sN.out w4 dW.out
       go_wp2_with (at_builtin;refine aN aO.jQ (.tmp 38) (.tmp 40) rfl rfl (Value.slice A G.length c) rfl (aC kR.out.1 (F:=aj) (by(repeat'(first|(with_reducible first|exact ak|apply au|apply ay|apply aA|apply aB)|(right;simp;done)))) (fun _ _ x=>x)) 1 rfl (Src.dn (t:=3) (size:=1) (m:=1) (cs:=#[.int .i64 i]) (by(repeat (with_reducible first|exact Has.bT _ _ _ (by simp)|apply Has.drew|apply Has.drewN|apply Has.alloc|(apply Has.past<;>(try omega))))) rfl) (by simp[Value.oneCell']) gq.out iO.out ?_;intro A1 c1 w9 ho1 hg1 ha1;have hpush:=aF.pushed kR.out (by(repeat'(first|(with_reducible first|exact ak|apply au|apply ay|apply aA|apply aB)|(exact dW.out)|(right;simp;done)))) ho1 hg1 ha1;have HP:=ah hpush;have fQ:=dM.aF.beside Au.out (by(repeat'(first|(with_reducible first|exact ak|apply au|apply ay|apply aA|apply aB)|(right;simp;done)))) kR.out (by decide) hg1;have HJ2:=ah fQ;clear ho1 hg1 ha1 hpush fQ q10 l10 q9 l9;have mG:=ah (show aF 3 1 w2.heap.size w9 A1 (G++[(i:Int)]).length c1 (ints (G++[(i:Int)]))from(by rw[oG,List.length_append];exact HP.out.1));have aW:=ah HP.out.2;obtain⟨-,-,⟨q8,l8⟩,⟨q6,l6⟩⟩:=sN.out w9 aW.out)
       go_roundw
       case rel=>exact⟨i+1,A1,c1,B,d,by omega,by go_num,by first|(rw[iD.out];done)|(rw[iD.out,List.length_append];rfl),by first|(rw[gB.out];done)|(rw[gB.out,List.length_append];rfl),by rw[iD.out];exact mG.out,by rw[gB.out];exact HJ2.out,aW.out⟩
       case measure=>simp[intOf];omega
      ·by_cases hs0:0<sv
       ·have hj1:=HJ.out
        rw[decide_eq_true hs0,Bool.true_and,if_pos rfl]at hj1
        have gB:=ah hj1;clear hj1
        obtain⟨⟨q10,l10⟩,⟨q9,l9⟩,-,-⟩:=sN.out w4 dW.out
        go_wp2_with (first|(at_builtin;refine aN aO.nP (.tmp 57) (.tmp 66) rfl rfl (Value.slice B J.length d) rfl (aC HJ2.out.1 (F:=aj) (by(repeat'(first|(with_reducible first|exact ak|apply au|apply ay|apply aA|apply aB)|(right;simp;done)))) (fun _ _ x=>x)) 1 rfl (Src.dn (t:=65) (size:=2) (m:=1) (cs:=#[.int .i64 i,.int .i64 sv]) (by(repeat (with_reducible first|exact Has.bT _ _ _ (by simp)|apply Has.drew|apply Has.drewN|apply Has.alloc|(apply Has.past<;>(try omega))))) rfl) (by simp[Value.oneCell']) yM.out AY.out ?_;intro A7 c7 w8 sG uT zS;have hpush:=aF.pushed HJ2.out (by(repeat'(first|(with_reducible first|exact ak|apply au|apply ay|apply aA|apply aB)|(exact aW.out)|(right;simp;done)))) sG uT zS;have zT:=ah hpush;have fQ:=dM.aF.beside mG.out (by(repeat'(first|(with_reducible first|exact ak|apply au|apply ay|apply aA|apply aB)|(right;simp;done)))) HJ2.out (by decide) uT;have Bl:=ah fQ;clear sG uT zS hpush fQ)|(at_builtin;refine aN aO.jQ (.tmp 38) (.tmp 40) rfl rfl (Value.slice A G.length c) rfl (aC kR.out.1 (F:=aj) (by(repeat'(first|(with_reducible first|exact ak|apply au|apply ay|apply aA|apply aB)|(right;simp;done)))) (fun _ _ x=>x)) 1 rfl (Src.dn (t:=3) (size:=1) (m:=1) (cs:=#[.int .i64 i]) (by(repeat (with_reducible first|exact Has.bT _ _ _ (by simp)|apply Has.drew|apply Has.drewN|apply Has.alloc|(apply Has.past<;>(try omega))))) rfl) (by simp[Value.oneCell']) gq.out iO.out ?_;intro A1 c1 w9 ho1 hg1 ha1;have hpush:=aF.pushed kR.out (by(repeat'(first|(with_reducible first|exact ak|apply au|apply ay|apply aA|apply aB)|(exact dW.out)|(right;simp;done)))) ho1 hg1 ha1;have HP:=ah hpush;have fQ:=dM.aF.beside Au.out (by(repeat'(first|(with_reducible first|exact ak|apply au|apply ay|apply aA|apply aB)|(right;simp;done)))) kR.out (by decide) hg1;have HJ2:=ah fQ;clear ho1 hg1 ha1 hpush fQ q10 l10 q9 l9;have mG:=ah (show aF 3 1 w2.heap.size w9 A1 (G++[(i:Int)]).length c1 (ints (G++[(i:Int)]))from(by rw[oG,List.length_append];exact HP.out.1));have aW:=ah HP.out.2;obtain⟨-,-,⟨q8,l8⟩,⟨q6,l6⟩⟩:=sN.out w9 aW.out))
        go_roundw
        case rel=>exact⟨i+1,A1,c1,A7,c7,by omega,by go_num,by first|(rw[iD.out];done)|(rw[iD.out,List.length_append];rfl),by first|(rw[gB.out];done)|(rw[gB.out,List.length_append];rfl),by rw[iD.out];exact Bl.out,by rw[gB.out];exact(by rw[sK,List.length_append];exact zT.out.1),zT.out.2⟩
        case measure=>simp[intOf];omega
       ·have hj1:=HJ.out
        rw[decide_eq_false hs0,Bool.and_false,if_neg (by decide)]at hj1
        have gB:=ah hj1;clear hj1
        obtain⟨⟨q10,l10⟩,⟨q9,l9⟩,-,-⟩:=sN.out w4 dW.out
        go_wp2_with (at_builtin;refine aN aO.jQ (.tmp 38) (.tmp 40) rfl rfl (Value.slice A G.length c) rfl (aC kR.out.1 (F:=aj) (by(repeat'(first|(with_reducible first|exact ak|apply au|apply ay|apply aA|apply aB)|(right;simp;done)))) (fun _ _ x=>x)) 1 rfl (Src.dn (t:=3) (size:=1) (m:=1) (cs:=#[.int .i64 i]) (by(repeat (with_reducible first|exact Has.bT _ _ _ (by simp)|apply Has.drew|apply Has.drewN|apply Has.alloc|(apply Has.past<;>(try omega))))) rfl) (by simp[Value.oneCell']) gq.out iO.out ?_;intro A1 c1 w9 ho1 hg1 ha1;have hpush:=aF.pushed kR.out (by(repeat'(first|(with_reducible first|exact ak|apply au|apply ay|apply aA|apply aB)|(exact dW.out)|(right;simp;done)))) ho1 hg1 ha1;have HP:=ah hpush;have fQ:=dM.aF.beside Au.out (by(repeat'(first|(with_reducible first|exact ak|apply au|apply ay|apply aA|apply aB)|(right;simp;done)))) kR.out (by decide) hg1;have HJ2:=ah fQ;clear ho1 hg1 ha1 hpush fQ q10 l10 q9 l9;have mG:=ah (show aF 3 1 w2.heap.size w9 A1 (G++[(i:Int)]).length c1 (ints (G++[(i:Int)]))from(by rw[oG,List.length_append];exact HP.out.1));have aW:=ah HP.out.2;obtain⟨-,-,⟨q8,l8⟩,⟨q6,l6⟩⟩:=sN.out w9 aW.out)
        go_roundw
        case rel=>exact⟨i+1,A1,c1,B,d,by omega,by go_num,by first|(rw[iD.out];done)|(rw[iD.out,List.length_append];rfl),by first|(rw[gB.out];done)|(rw[gB.out,List.length_append];rfl),by rw[iD.out];exact mG.out,by rw[gB.out];exact HJ2.out,aW.out⟩
        case measure=>simp[intOf];omega
    ·have hg1:=HG.out
     rw[if_pos (by simp)]at hg1
     have iD:=ah hg1;clear hg1
     cases j1
     ·have hj1:=HJ.out
      rw[Bool.false_and,if_neg (by decide)]at hj1
      have gB:=ah hj1;clear hj1
      obtain⟨⟨q10,l10⟩,⟨q9,l9⟩,-,-⟩:=sN.out w4 dW.out
      go_wp2_with (at_builtin;refine aN aO.jQ (.tmp 38) (.tmp 40) rfl rfl (Value.slice A G.length c) rfl (aC kR.out.1 (F:=aj) (by(repeat'(first|(with_reducible first|exact ak|apply au|apply ay|apply aA|apply aB)|(right;simp;done)))) (fun _ _ x=>x)) 1 rfl (Src.dn (t:=3) (size:=1) (m:=1) (cs:=#[.int .i64 i]) (by(repeat (with_reducible first|exact Has.bT _ _ _ (by simp)|apply Has.drew|apply Has.drewN|apply Has.alloc|(apply Has.past<;>(try omega))))) rfl) (by simp[Value.oneCell']) gq.out iO.out ?_;intro A1 c1 w9 ho1 hg1 ha1;have hpush:=aF.pushed kR.out (by(repeat'(first|(with_reducible first|exact ak|apply au|apply ay|apply aA|apply aB)|(exact dW.out)|(right;simp;done)))) ho1 hg1 ha1;have HP:=ah hpush;have fQ:=dM.aF.beside Au.out (by(repeat'(first|(with_reducible first|exact ak|apply au|apply ay|apply aA|apply aB)|(right;simp;done)))) kR.out (by decide) hg1;have HJ2:=ah fQ;clear ho1 hg1 ha1 hpush fQ q10 l10 q9 l9;have mG:=ah (show aF 3 1 w2.heap.size w9 A1 (G++[(i:Int)]).length c1 (ints (G++[(i:Int)]))from(by rw[oG,List.length_append];exact HP.out.1));have aW:=ah HP.out.2;obtain⟨-,-,⟨q8,l8⟩,⟨q6,l6⟩⟩:=sN.out w9 aW.out)
      go_roundw
      case rel=>exact⟨i+1,A1,c1,B,d,by omega,by go_num,by first|(rw[iD.out];done)|(rw[iD.out,List.length_append];rfl),by first|(rw[gB.out];done)|(rw[gB.out,List.length_append];rfl),by rw[iD.out];exact mG.out,by rw[gB.out];exact HJ2.out,aW.out⟩
      case measure=>simp[intOf];omega
     ·by_cases hs0:0<sv
      ·have hj1:=HJ.out
       rw[decide_eq_true hs0,Bool.true_and,if_pos rfl]at hj1
       have gB:=ah hj1;clear hj1
       obtain⟨⟨q10,l10⟩,⟨q9,l9⟩,-,-⟩:=sN.out w4 dW.out
       go_wp2_with (first|(at_builtin;refine aN aO.nP (.tmp 57) (.tmp 66) rfl rfl (Value.slice B J.length d) rfl (aC HJ2.out.1 (F:=aj) (by(repeat'(first|(with_reducible first|exact ak|apply au|apply ay|apply aA|apply aB)|(right;simp;done)))) (fun _ _ x=>x)) 1 rfl (Src.dn (t:=65) (size:=2) (m:=1) (cs:=#[.int .i64 i,.int .i64 sv]) (by(repeat (with_reducible first|exact Has.bT _ _ _ (by simp)|apply Has.drew|apply Has.drewN|apply Has.alloc|(apply Has.past<;>(try omega))))) rfl) (by simp[Value.oneCell']) yM.out AY.out ?_;intro A7 c7 w8 sG uT zS;have hpush:=aF.pushed HJ2.out (by(repeat'(first|(with_reducible first|exact ak|apply au|apply ay|apply aA|apply aB)|(exact aW.out)|(right;simp;done)))) sG uT zS;have zT:=ah hpush;have fQ:=dM.aF.beside mG.out (by(repeat'(first|(with_reducible first|exact ak|apply au|apply ay|apply aA|apply aB)|(right;simp;done)))) HJ2.out (by decide) uT;have Bl:=ah fQ;clear sG uT zS hpush fQ)|(at_builtin;refine aN aO.jQ (.tmp 38) (.tmp 40) rfl rfl (Value.slice A G.length c) rfl (aC kR.out.1 (F:=aj) (by(repeat'(first|(with_reducible first|exact ak|apply au|apply ay|apply aA|apply aB)|(right;simp;done)))) (fun _ _ x=>x)) 1 rfl (Src.dn (t:=3) (size:=1) (m:=1) (cs:=#[.int .i64 i]) (by(repeat (with_reducible first|exact Has.bT _ _ _ (by simp)|apply Has.drew|apply Has.drewN|apply Has.alloc|(apply Has.past<;>(try omega))))) rfl) (by simp[Value.oneCell']) gq.out iO.out ?_;intro A1 c1 w9 ho1 hg1 ha1;have hpush:=aF.pushed kR.out (by(repeat'(first|(with_reducible first|exact ak|apply au|apply ay|apply aA|apply aB)|(exact dW.out)|(right;simp;done)))) ho1 hg1 ha1;have HP:=ah hpush;have fQ:=dM.aF.beside Au.out (by(repeat'(first|(with_reducible first|exact ak|apply au|apply ay|apply aA|apply aB)|(right;simp;done)))) kR.out (by decide) hg1;have HJ2:=ah fQ;clear ho1 hg1 ha1 hpush fQ q10 l10 q9 l9;have mG:=ah (show aF 3 1 w2.heap.size w9 A1 (G++[(i:Int)]).length c1 (ints (G++[(i:Int)]))from(by rw[oG,List.length_append];exact HP.out.1));have aW:=ah HP.out.2;obtain⟨-,-,⟨q8,l8⟩,⟨q6,l6⟩⟩:=sN.out w9 aW.out))
       go_roundw
       case rel=>exact⟨i+1,A1,c1,A7,c7,by omega,by go_num,by first|(rw[iD.out];done)|(rw[iD.out,List.length_append];rfl),by first|(rw[gB.out];done)|(rw[gB.out,List.length_append];rfl),by rw[iD.out];exact Bl.out,by rw[gB.out];exact(by rw[sK,List.length_append];exact zT.out.1),zT.out.2⟩
       case measure=>simp[intOf];omega
      ·have hj1:=HJ.out
       rw[decide_eq_false hs0,Bool.and_false,if_neg (by decide)]at hj1
       have gB:=ah hj1;clear hj1
       obtain⟨⟨q10,l10⟩,⟨q9,l9⟩,-,-⟩:=sN.out w4 dW.out
       go_wp2_with (at_builtin;refine aN aO.jQ (.tmp 38) (.tmp 40) rfl rfl (Value.slice A G.length c) rfl (aC kR.out.1 (F:=aj) (by(repeat'(first|(with_reducible first|exact ak|apply au|apply ay|apply aA|apply aB)|(right;simp;done)))) (fun _ _ x=>x)) 1 rfl (Src.dn (t:=3) (size:=1) (m:=1) (cs:=#[.int .i64 i]) (by(repeat (with_reducible first|exact Has.bT _ _ _ (by simp)|apply Has.drew|apply Has.drewN|apply Has.alloc|(apply Has.past<;>(try omega))))) rfl) (by simp[Value.oneCell']) gq.out iO.out ?_;intro A1 c1 w9 ho1 hg1 ha1;have hpush:=aF.pushed kR.out (by(repeat'(first|(with_reducible first|exact ak|apply au|apply ay|apply aA|apply aB)|(exact dW.out)|(right;simp;done)))) ho1 hg1 ha1;have HP:=ah hpush;have fQ:=dM.aF.beside Au.out (by(repeat'(first|(with_reducible first|exact ak|apply au|apply ay|apply aA|apply aB)|(right;simp;done)))) kR.out (by decide) hg1;have HJ2:=ah fQ;clear ho1 hg1 ha1 hpush fQ q10 l10 q9 l9;have mG:=ah (show aF 3 1 w2.heap.size w9 A1 (G++[(i:Int)]).length c1 (ints (G++[(i:Int)]))from(by rw[oG,List.length_append];exact HP.out.1));have aW:=ah HP.out.2;obtain⟨-,-,⟨q8,l8⟩,⟨q6,l6⟩⟩:=sN.out w9 aW.out)
       go_roundw
       case rel=>exact⟨i+1,A1,c1,B,d,by omega,by go_num,by first|(rw[iD.out];done)|(rw[iD.out,List.length_append];rfl),by first|(rw[gB.out];done)|(rw[gB.out,List.length_append];rfl),by rw[iD.out];exact mG.out,by rw[gB.out];exact HJ2.out,aW.out⟩
       case measure=>simp[intOf];omega
  ·obtain rfl:i=4:=by omega
   have Zw:=ah hrG;have Oh:=ah Zv;have HK:=ah hk;clear hrG Zv hk
   have h2:=bf.out.size
   have HG4:=ah (show aF 3 1 w.heap.size wr A (iQ M 4).length c (ints (iQ M 4))from⟨Zw.out.1,fun g hg=>Nat.le_trans h2 (Zw.out.2 g hg)⟩)
   have HJ4:=ah (show aF 65 2 w.heap.size wr B (jJ M 4).length d (aP (jJ M 4))from⟨Oh.out.1,fun g hg=>Nat.le_trans h2 (Oh.out.2 g hg)⟩)
   clear h2
   go_wp2
   go_ret2
   exact⟨A,c,B,d,rfl,HG4.out,HJ4.out,bf.out.then HK.out⟩
end
end dH
end Go.Proofs.YtfjdpbbgfjhnlaaGreat
