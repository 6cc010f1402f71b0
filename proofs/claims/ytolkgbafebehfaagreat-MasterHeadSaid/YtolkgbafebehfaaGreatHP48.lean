/- Part 49 of what the proof needs. -/
import Derived.Test.YtolkgbafebehfaaGreatHP47
set_option linter.unusedSimpArgs false
set_option linter.unusedVariables false
set_option maxHeartbeats 32000000
set_option maxRecDepth 100000
namespace Go.Proofs.YtolkgbafebehfaaGreat
open Go.RowKit
set_option maxRecDepth 100000
namespace Mas
open Plan Vn Mst Wat IM Nte Msg
theorem mcells_snoc (l : List Mem) (m : Mem) : mcells (l ++ [m]) = mcells l ++ [.int .i64 m.1,.int .i64 m.2] := by
 unfold mcells
 rw [List.flatMap_append]
 rfl
theorem ints_snoc (l : List Int) (x : Int) : ints (l ++ [x]) = ints l ++ [.int .i64 x] := by
 unfold ints
 rw [List.map_append]
 rfl
def ChangePost (w : World) (M : MR) (e : Ending) (w' : World) : Prop :=
 ∃ A c B d,e = .returned (.tuple #[.slice A (goneC M 4).length c,.slice B (joinC M 4).length d]) /\ NewSl 3 1 w.heap.size w' A (goneC M 4).length c (ints (goneC M 4)) /\ NewSl 53 2 w.heap.size w' B (joinC M 4).length d (mcells (joinC M 4)) /\ Kept NoF w w'
section
variable {w w' : World} {X X0 : MX} {M M0 : MR} {c k : Nat}
theorem change_any (h : MAt w X M) (hm : MOk M k) :
  Calls Tryz.prog 148 #[.pointer (some ⟨X.mb,0,none⟩)] w (ChangePost w M) := by
 have hq4 := h.cell (i := 4) rfl
 have hlate := late_any (h.c 4) hm.wat
 have hmem := fun (W : World) (hW : Kept NoF w W) (id : Int) => member_any (h.quiet hW) hm.st.inv.ok id
 have hat : ∀ W,Kept NoF w W -> ∀ id : Int,I64 id -> (W.cell? ⟨X.mb,10,none⟩ = some (.map (some X.lo)) /\ (Instr.lookup 62 (.map (some X.lo)) (.int .i64 id) false).run Tryz.prog W = .ok (.bool (M.lost id)) W) /\
   (W.cell? ⟨X.mb,9,none⟩ = some (.map (some X.le)) /\ (Instr.lookup 62 (.map (some X.le)) (.int .i64 id) false).run Tryz.prog W = .ok (.bool (M.leaves id)) W) /\
   (W.cell? ⟨X.mb,8,none⟩ = some (.map (some X.jo)) /\ (Instr.lookup 62 (.map (some X.jo)) (.int .i64 id) false).run Tryz.prog W = .ok (.bool (M.joins id)) W) /\
   (W.cell? ⟨X.mb,6,none⟩ = some (.map (some X.se)) /\ (Instr.lookup 61 (.map (some X.se)) (.int .i64 id) false).run Tryz.prog W = .ok (.int .i64 (serOf M id)) W) := fun W hW id hi => by
  have hh := h.quiet hW
  exact ⟨⟨hh.cell (i := 10) rfl,SetIs.look (hh.c 9) hi⟩,⟨hh.cell (i := 9) rfl,SetIs.look (hh.c 8) hi⟩,⟨hh.cell (i := 8) rfl,SetIs.look (hh.c 7) hi⟩,⟨hh.cell (i := 6) rfl,IMap.look (hh.c 6) Tryz.underlying61 Tryz.underlying3 rfl hi⟩⟩
 have hll : (lateL M.ns).length <= 4 := lateTo_len _ _
 obtain ⟨L,hL⟩ : ∃ L,lateL M.ns = L := ⟨_,rfl⟩
 have hGP : ∀ i : Nat,goneP M i = (anyId M.st.ms i && (inB L i || M.lost i || M.leaves i)) := fun i => by unfold goneP;rw [hL]
 have hJP : ∀ i : Nat,joinP M i = (M.joins i && decide (0 < serOf M i)) := fun i => rfl
 unfold LatePost at hlate
 rw [hL] at hlate hll
 have HMEM := hZ0 hmem;have HAT := hZ0 hat;have HLATE := hZ0 hlate;have HLL := hZ0 hll;have HGP := hZ0 hGP;have HJP := hZ0 hJP
 clear h hm hmem hat hlate hll hL hGP hJP
 go_enter Tryz.func148,Tryz.ntmps148
 go_wp2_with fail
 clear hq4
 refine HLATE.out.mono ?_
 rintro e w2 ⟨B0,d0,rfl,hn0,hk0⟩
 have HN0 := hZ0 hn0;have HK0 := hZ0 hk0;clear hn0 hk0
 go_wp2_with fail
 go_loopw [2,3,5,11] (fun v2 v3 v5 v11 wr => ∃ (i : Nat) (A : Option Addr) (c : Nat) (B : Option Addr) (d : Nat),i <= 4 /\ v11 = .int .i64 i /\ v2 = .slice A (goneC M i).length c /\ v3 = .slice B (joinC M i).length d /\
  NewSl 3 1 w2.heap.size wr A (goneC M i).length c (ints (goneC M i)) /\ NewSl 53 2 w2.heap.size wr B (joinC M i).length d (mcells (joinC M i)) /\ Kept NoF w2 wr) (fun _ _ _ v11 _ => 4 - (intOf v11).toNat)
 case atStart => exact ⟨0,none,0,none,0,Nat.zero_le _,rfl,rfl,rfl,NewSl.nil _ _ _ _,NewSl.nil _ _ _ _,Kept.refl _ _⟩
 case round =>
  obtain ⟨i,A,c,B,d,hi,rfl,rfl,rfl,hrG,hrJ,hk⟩ := hrel
  by_cases hil : i < 4
  ·have hi64 : I64 (i : Int) := i64_small (by omega) (by omega)
   obtain ⟨b1,hb1⟩ : ∃ b,anyId M.st.ms (i : Int) = b := ⟨_,rfl⟩
   obtain ⟨b2,hb2⟩ : ∃ b,inB L (i : Int) = b := ⟨_,rfl⟩
   obtain ⟨b3,hb3⟩ : ∃ b,M.lost (i : Int) = b := ⟨_,rfl⟩
   obtain ⟨b4,hb4⟩ : ∃ b,M.leaves (i : Int) = b := ⟨_,rfl⟩
   obtain ⟨j1,hj1⟩ : ∃ b,M.joins (i : Int) = b := ⟨_,rfl⟩
   obtain ⟨sv,hsv⟩ : ∃ s,serOf M (i : Int) = s := ⟨_,rfl⟩
   have hg := goneC_succ M i
   have hj := joinC_succ M i
   rw [HGP.out,hb1,hb2,hb3,hb4] at hg
   rw [HJP.out,hj1,hsv] at hj
   have hmem := HMEM.out wr (HK0.out.then hk) i
   rw [hb1] at hmem
   have hat : ∀ W,Kept NoF w2 W -> (W.cell? ⟨X.mb,10,none⟩ = some (.map (some X.lo)) /\ (Instr.lookup 62 (.map (some X.lo)) (.int .i64 i) false).run Tryz.prog W = .ok (.bool b3) W) /\
     (W.cell? ⟨X.mb,9,none⟩ = some (.map (some X.le)) /\ (Instr.lookup 62 (.map (some X.le)) (.int .i64 i) false).run Tryz.prog W = .ok (.bool b4) W) /\
     (W.cell? ⟨X.mb,8,none⟩ = some (.map (some X.jo)) /\ (Instr.lookup 62 (.map (some X.jo)) (.int .i64 i) false).run Tryz.prog W = .ok (.bool j1) W) /\
     (W.cell? ⟨X.mb,6,none⟩ = some (.map (some X.se)) /\ (Instr.lookup 61 (.map (some X.se)) (.int .i64 i) false).run Tryz.prog W = .ok (.int .i64 sv) W) := fun W hW => by
    have := HAT.out W (HK0.out.then hW) i hi64
    rw [hb3,hb4,hj1,hsv] at this
    exact this
   have hlg := goneC_len M i
   have hlj := joinC_len M i
   have hcon := fun (W : World) (hW : Kept NoF w2 W) => containsI_any W B0 d0 L i ((Src.of_own HN0.out.1).kept hW (fun _ _ z => z)) (by have := HLL.out;omega)
   simp only [hb2] at hcon
   obtain ⟨G,hG⟩ : ∃ G,goneC M i = G := ⟨_,rfl⟩
   obtain ⟨J,hJ⟩ : ∃ J,joinC M i = J := ⟨_,rfl⟩
   rw [hG] at hg hrG hlg ⊢
   rw [hJ] at hj hrJ hlj ⊢
   have HRG := hZ0 hrG;have HRJ := hZ0 hrJ;have HK := hZ0 hk;have HME := hZ0 hmem;have HAI := hZ0 hat;have HCON := hZ0 hcon;have HG := hZ0 hg;have HJ := hZ0 hj
   have HM1 : Hid (G.length + 1 <= maxLen) := hZ0 (by unfold maxLen;omega)
   have HM2 : Hid ((G.length + 1) * 8 <= 140737488355328) := hZ0 (by omega)
   have HM3 : Hid (J.length + 1 <= maxLen) := hZ0 (by unfold maxLen;omega)
   have HM4 : Hid ((J.length + 1) * 16 <= 140737488355328) := hZ0 (by omega)
   clear hg hj hmem hat hlg hlj hcon hrG hrJ hk hG hJ hb1 hb2 hb3 hb4 hj1 hsv hi64
   cases b1
   ·have hg1 := HG.out
    rw [Bool.false_and,if_neg (by decide)] at hg1
    have HG1 := hZ0 hg1;clear hg1
    go_wp2_with fail
    refine HME.out.mono ?_
    rintro e w3 ⟨rfl,hk3⟩
    have HK2 := hZ0 (HK.out.then hk3);have HG2 := hZ0 (NewSl.kept HRG.out hk3);have HJ2 := hZ0 (NewSl.kept HRJ.out hk3);clear hk3
    obtain ⟨-,-,⟨q8,l8⟩,⟨q6,l6⟩⟩ := HAI.out w3 HK2.out
    cases j1
    ·have hj1 := HJ.out
     rw [Bool.false_and,if_neg (by decide)] at hj1
     have HJ1 := hZ0 hj1;clear hj1
     clear q6 l6
     go_wp2
     go_roundw
     case rel => exact ⟨i + 1,A,c,B,d,by omega,by go_num,by first | (rw [HG1.out];done) | (rw [HG1.out,List.length_append];rfl),by first | (rw [HJ1.out];done) | (rw [HJ1.out,List.length_append];rfl),by rw [HG1.out];exact HG2.out,by rw [HJ1.out];exact HJ2.out,HK2.out⟩
     case measure => simp [intOf];omega
    ·by_cases hs0 : 0 < sv
     ·have hj1 := HJ.out
      rw [decide_eq_true hs0,Bool.true_and,if_pos rfl] at hj1
      have HJ1 := hZ0 hj1;clear hj1
      go_wp2_with (at_builtin;refine list_append_src Plan.elemMem (.tmp 57) (.tmp 66) rfl rfl (Value.slice B J.length d) rfl (own_kept HJ2.out.1 (F := NoF) (by (repeat' (first | (with_reducible first | exact kR0 | apply kP0 | apply kN0 | apply kD0 | apply kA0) | (right;simp;done)))) (fun _ _ x => x)) 1 rfl (Src.of_has (t := 53) (size := 2) (m := 1) (cs := #[.int .i64 i,.int .i64 sv]) (by (repeat (first | with_reducible exact Has.new_at _ _ _ (by simp) | with_reducible apply Has.drew | with_reducible apply Has.drewN | with_reducible apply Has.alloc | (with_reducible apply Has.past <;> (try omega)) ))) rfl) (by simp [Value.oneCell']) HM3.out HM4.out ?_;intro A7 c7 w8 ho7 hg7 ha7;have hpush := NewSl.pushed HJ2.out (by (repeat' (first | (with_reducible first | exact kR0 | apply kP0 | apply kN0 | apply kD0 | apply kA0) | (exact HK2.out) | (right;simp;done)))) ho7 hg7 ha7;have HPJ := hZ0 hpush;have hbes := Lea.NewSl.beside HG2.out (by (repeat' (first | (with_reducible first | exact kR0 | apply kP0 | apply kN0 | apply kD0 | apply kA0) | (right;simp;done)))) HJ2.out (by decide) hg7;have HBG := hZ0 hbes;clear ho7 hg7 ha7 hpush hbes)
      go_roundw
      case rel => exact ⟨i + 1,A,c,A7,c7,by omega,by go_num,by first | (rw [HG1.out];done) | (rw [HG1.out,List.length_append];rfl),by first | (rw [HJ1.out];done) | (rw [HJ1.out,List.length_append];rfl),by rw [HG1.out];exact HBG.out,by rw [HJ1.out];exact (by rw [mcells_snoc,List.length_append];exact HPJ.out.1),HPJ.out.2⟩
      case measure => simp [intOf];omega
     ·have hj1 := HJ.out
      rw [decide_eq_false hs0,Bool.and_false,if_neg (by decide)] at hj1
      have HJ1 := hZ0 hj1;clear hj1
      go_wp2
      go_roundw
      case rel => exact ⟨i + 1,A,c,B,d,by omega,by go_num,by first | (rw [HG1.out];done) | (rw [HG1.out,List.length_append];rfl),by first | (rw [HJ1.out];done) | (rw [HJ1.out,List.length_append];rfl),by rw [HG1.out];exact HG2.out,by rw [HJ1.out];exact HJ2.out,HK2.out⟩
      case measure => simp [intOf];omega
   ·go_wp2_with fail
    refine HME.out.mono ?_
    rintro e w3 ⟨rfl,hk3⟩
    have hcn := HCON.out w3 (HK.out.then hk3)
    have HCN := hZ0 hcn;have HK3 := hZ0 (HK.out.then hk3);have HRG3 := hZ0 (NewSl.kept HRG.out hk3);have HRJ3 := hZ0 (NewSl.kept HRJ.out hk3);clear hcn hk3
    go_wp2_with fail
    refine HCN.out.mono ?_
    rintro e w4 ⟨rfl,hk4⟩
    have HK4 := hZ0 (HK3.out.then hk4);have HRG4 := hZ0 (NewSl.kept HRG3.out hk4);have HRJ4 := hZ0 (NewSl.kept HRJ3.out hk4);clear hk4
    cases b2
    ·cases b3
     ·cases b4
      ·have hg1 := HG.out
       rw [if_neg (by decide)] at hg1
       have HG1 := hZ0 hg1;clear hg1
       obtain ⟨⟨q10,l10⟩,⟨q9,l9⟩,-,-⟩ := HAI.out w4 HK4.out
       have HG2 := HRG4;have HJ2 := HRJ4;have HK2 := HK4
       obtain ⟨-,-,⟨q8,l8⟩,⟨q6,l6⟩⟩ := HAI.out w4 HK2.out
       cases j1
       ·have hj1 := HJ.out
        rw [Bool.false_and,if_neg (by decide)] at hj1
        have HJ1 := hZ0 hj1;clear hj1
        clear q6 l6
        go_wp2
        go_roundw
        case rel => exact ⟨i + 1,A,c,B,d,by omega,by go_num,by first | (rw [HG1.out];done) | (rw [HG1.out,List.length_append];rfl),by first | (rw [HJ1.out];done) | (rw [HJ1.out,List.length_append];rfl),by rw [HG1.out];exact HG2.out,by rw [HJ1.out];exact HJ2.out,HK2.out⟩
        case measure => simp [intOf];omega
       ·by_cases hs0 : 0 < sv
        ·have hj1 := HJ.out
         rw [decide_eq_true hs0,Bool.true_and,if_pos rfl] at hj1
         have HJ1 := hZ0 hj1;clear hj1
         go_wp2_with (at_builtin;refine list_append_src Plan.elemMem (.tmp 57) (.tmp 66) rfl rfl (Value.slice B J.length d) rfl (own_kept HJ2.out.1 (F := NoF) (by (repeat' (first | (with_reducible first | exact kR0 | apply kP0 | apply kN0 | apply kD0 | apply kA0) | (right;simp;done)))) (fun _ _ x => x)) 1 rfl (Src.of_has (t := 53) (size := 2) (m := 1) (cs := #[.int .i64 i,.int .i64 sv]) (by (repeat (first | with_reducible exact Has.new_at _ _ _ (by simp) | with_reducible apply Has.drew | with_reducible apply Has.drewN | with_reducible apply Has.alloc | (with_reducible apply Has.past <;> (try omega)) ))) rfl) (by simp [Value.oneCell']) HM3.out HM4.out ?_;intro A7 c7 w8 ho7 hg7 ha7;have hpush := NewSl.pushed HJ2.out (by (repeat' (first | (with_reducible first | exact kR0 | apply kP0 | apply kN0 | apply kD0 | apply kA0) | (exact HK2.out) | (right;simp;done)))) ho7 hg7 ha7;have HPJ := hZ0 hpush;have hbes := Lea.NewSl.beside HG2.out (by (repeat' (first | (with_reducible first | exact kR0 | apply kP0 | apply kN0 | apply kD0 | apply kA0) | (right;simp;done)))) HJ2.out (by decide) hg7;have HBG := hZ0 hbes;clear ho7 hg7 ha7 hpush hbes)
         go_roundw
         case rel => exact ⟨i + 1,A,c,A7,c7,by omega,by go_num,by first | (rw [HG1.out];done) | (rw [HG1.out,List.length_append];rfl),by first | (rw [HJ1.out];done) | (rw [HJ1.out,List.length_append];rfl),by rw [HG1.out];exact HBG.out,by rw [HJ1.out];exact (by rw [mcells_snoc,List.length_append];exact HPJ.out.1),HPJ.out.2⟩
         case measure => simp [intOf];omega
        ·have hj1 := HJ.out
         rw [decide_eq_false hs0,Bool.and_false,if_neg (by decide)] at hj1
         have HJ1 := hZ0 hj1;clear hj1
         go_wp2
         go_roundw
         case rel => exact ⟨i + 1,A,c,B,d,by omega,by go_num,by first | (rw [HG1.out];done) | (rw [HG1.out,List.length_append];rfl),by first | (rw [HJ1.out];done) | (rw [HJ1.out,List.length_append];rfl),by rw [HG1.out];exact HG2.out,by rw [HJ1.out];exact HJ2.out,HK2.out⟩
         case measure => simp [intOf];omega
      ·have hg1 := HG.out
       rw [if_pos (by decide)] at hg1
       have HG1 := hZ0 hg1;clear hg1
       cases j1
       ·have hj1 := HJ.out
        rw [Bool.false_and,if_neg (by decide)] at hj1
        have HJ1 := hZ0 hj1;clear hj1
        obtain ⟨⟨q10,l10⟩,⟨q9,l9⟩,-,-⟩ := HAI.out w4 HK4.out
        go_wp2_with (at_builtin;refine list_append_src Plan.elemInt (.tmp 38) (.tmp 40) rfl rfl (Value.slice A G.length c) rfl (own_kept HRG4.out.1 (F := NoF) (by (repeat' (first | (with_reducible first | exact kR0 | apply kP0 | apply kN0 | apply kD0 | apply kA0) | (right;simp;done)))) (fun _ _ x => x)) 1 rfl (Src.of_has (t := 3) (size := 1) (m := 1) (cs := #[.int .i64 i]) (by (repeat (first | with_reducible exact Has.new_at _ _ _ (by simp) | with_reducible apply Has.drew | with_reducible apply Has.drewN | with_reducible apply Has.alloc | (with_reducible apply Has.past <;> (try omega)) ))) rfl) (by simp [Value.oneCell']) HM1.out HM2.out ?_;intro A1 c1 w9 ho1 hg1 ha1;have hpush := NewSl.pushed HRG4.out (by (repeat' (first | (with_reducible first | exact kR0 | apply kP0 | apply kN0 | apply kD0 | apply kA0) | (exact HK4.out) | (right;simp;done)))) ho1 hg1 ha1;have HP := hZ0 hpush;have hbes := Lea.NewSl.beside HRJ4.out (by (repeat' (first | (with_reducible first | exact kR0 | apply kP0 | apply kN0 | apply kD0 | apply kA0) | (right;simp;done)))) HRG4.out (by decide) hg1;have HJ2 := hZ0 hbes;clear ho1 hg1 ha1 hpush hbes q10 l10 q9 l9;have HG2 := hZ0 (show NewSl 3 1 w2.heap.size w9 A1 (G ++ [(i : Int)]).length c1 (ints (G ++ [(i : Int)])) from (by rw [ints_snoc,List.length_append];exact HP.out.1));have HK2 := hZ0 HP.out.2;obtain ⟨-,-,⟨q8,l8⟩,⟨q6,l6⟩⟩ := HAI.out w9 HK2.out)
        go_roundw
        case rel => exact ⟨i + 1,A1,c1,B,d,by omega,by go_num,by first | (rw [HG1.out];done) | (rw [HG1.out,List.length_append];rfl),by first | (rw [HJ1.out];done) | (rw [HJ1.out,List.length_append];rfl),by rw [HG1.out];exact HG2.out,by rw [HJ1.out];exact HJ2.out,HK2.out⟩
        case measure => simp [intOf];omega
       ·by_cases hs0 : 0 < sv
        ·have hj1 := HJ.out
         rw [decide_eq_true hs0,Bool.true_and,if_pos rfl] at hj1
         have HJ1 := hZ0 hj1;clear hj1
         obtain ⟨⟨q10,l10⟩,⟨q9,l9⟩,-,-⟩ := HAI.out w4 HK4.out
         go_wp2_with (first | (at_builtin;refine list_append_src Plan.elemMem (.tmp 57) (.tmp 66) rfl rfl (Value.slice B J.length d) rfl (own_kept HJ2.out.1 (F := NoF) (by (repeat' (first | (with_reducible first | exact kR0 | apply kP0 | apply kN0 | apply kD0 | apply kA0) | (right;simp;done)))) (fun _ _ x => x)) 1 rfl (Src.of_has (t := 53) (size := 2) (m := 1) (cs := #[.int .i64 i,.int .i64 sv]) (by (repeat (first | with_reducible exact Has.new_at _ _ _ (by simp) | with_reducible apply Has.drew | with_reducible apply Has.drewN | with_reducible apply Has.alloc | (with_reducible apply Has.past <;> (try omega)) ))) rfl) (by simp [Value.oneCell']) HM3.out HM4.out ?_;intro A7 c7 w8 ho7 hg7 ha7;have hpush := NewSl.pushed HJ2.out (by (repeat' (first | (with_reducible first | exact kR0 | apply kP0 | apply kN0 | apply kD0 | apply kA0) | (exact HK2.out) | (right;simp;done)))) ho7 hg7 ha7;have HPJ := hZ0 hpush;have hbes := Lea.NewSl.beside HG2.out (by (repeat' (first | (with_reducible first | exact kR0 | apply kP0 | apply kN0 | apply kD0 | apply kA0) | (right;simp;done)))) HJ2.out (by decide) hg7;have HBG := hZ0 hbes;clear ho7 hg7 ha7 hpush hbes) | (at_builtin;refine list_append_src Plan.elemInt (.tmp 38) (.tmp 40) rfl rfl (Value.slice A G.length c) rfl (own_kept HRG4.out.1 (F := NoF) (by (repeat' (first | (with_reducible first | exact kR0 | apply kP0 | apply kN0 | apply kD0 | apply kA0) | (right;simp;done)))) (fun _ _ x => x)) 1 rfl (Src.of_has (t := 3) (size := 1) (m := 1) (cs := #[.int .i64 i]) (by (repeat (first | with_reducible exact Has.new_at _ _ _ (by simp) | with_reducible apply Has.drew | with_reducible apply Has.drewN | with_reducible apply Has.alloc | (with_reducible apply Has.past <;> (try omega)) ))) rfl) (by simp [Value.oneCell']) HM1.out HM2.out ?_;intro A1 c1 w9 ho1 hg1 ha1;have hpush := NewSl.pushed HRG4.out (by (repeat' (first | (with_reducible first | exact kR0 | apply kP0 | apply kN0 | apply kD0 | apply kA0) | (exact HK4.out) | (right;simp;done)))) ho1 hg1 ha1;have HP := hZ0 hpush;have hbes := Lea.NewSl.beside HRJ4.out (by (repeat' (first | (with_reducible first | exact kR0 | apply kP0 | apply kN0 | apply kD0 | apply kA0) | (right;simp;done)))) HRG4.out (by decide) hg1;have HJ2 := hZ0 hbes;clear ho1 hg1 ha1 hpush hbes q10 l10 q9 l9;have HG2 := hZ0 (show NewSl 3 1 w2.heap.size w9 A1 (G ++ [(i : Int)]).length c1 (ints (G ++ [(i : Int)])) from (by rw [ints_snoc,List.length_append];exact HP.out.1));have HK2 := hZ0 HP.out.2;obtain ⟨-,-,⟨q8,l8⟩,⟨q6,l6⟩⟩ := HAI.out w9 HK2.out))
         go_roundw
         case rel => exact ⟨i + 1,A1,c1,A7,c7,by omega,by go_num,by first | (rw [HG1.out];done) | (rw [HG1.out,List.length_append];rfl),by first | (rw [HJ1.out];done) | (rw [HJ1.out,List.length_append];rfl),by rw [HG1.out];exact HBG.out,by rw [HJ1.out];exact (by rw [mcells_snoc,List.length_append];exact HPJ.out.1),HPJ.out.2⟩
         case measure => simp [intOf];omega
        ·have hj1 := HJ.out
         rw [decide_eq_false hs0,Bool.and_false,if_neg (by decide)] at hj1
         have HJ1 := hZ0 hj1;clear hj1
         obtain ⟨⟨q10,l10⟩,⟨q9,l9⟩,-,-⟩ := HAI.out w4 HK4.out
         go_wp2_with (at_builtin;refine list_append_src Plan.elemInt (.tmp 38) (.tmp 40) rfl rfl (Value.slice A G.length c) rfl (own_kept HRG4.out.1 (F := NoF) (by (repeat' (first | (with_reducible first | exact kR0 | apply kP0 | apply kN0 | apply kD0 | apply kA0) | (right;simp;done)))) (fun _ _ x => x)) 1 rfl (Src.of_has (t := 3) (size := 1) (m := 1) (cs := #[.int .i64 i]) (by (repeat (first | with_reducible exact Has.new_at _ _ _ (by simp) | with_reducible apply Has.drew | with_reducible apply Has.drewN | with_reducible apply Has.alloc | (with_reducible apply Has.past <;> (try omega)) ))) rfl) (by simp [Value.oneCell']) HM1.out HM2.out ?_;intro A1 c1 w9 ho1 hg1 ha1;have hpush := NewSl.pushed HRG4.out (by (repeat' (first | (with_reducible first | exact kR0 | apply kP0 | apply kN0 | apply kD0 | apply kA0) | (exact HK4.out) | (right;simp;done)))) ho1 hg1 ha1;have HP := hZ0 hpush;have hbes := Lea.NewSl.beside HRJ4.out (by (repeat' (first | (with_reducible first | exact kR0 | apply kP0 | apply kN0 | apply kD0 | apply kA0) | (right;simp;done)))) HRG4.out (by decide) hg1;have HJ2 := hZ0 hbes;clear ho1 hg1 ha1 hpush hbes q10 l10 q9 l9;have HG2 := hZ0 (show NewSl 3 1 w2.heap.size w9 A1 (G ++ [(i : Int)]).length c1 (ints (G ++ [(i : Int)])) from (by rw [ints_snoc,List.length_append];exact HP.out.1));have HK2 := hZ0 HP.out.2;obtain ⟨-,-,⟨q8,l8⟩,⟨q6,l6⟩⟩ := HAI.out w9 HK2.out)
         go_roundw
         case rel => exact ⟨i + 1,A1,c1,B,d,by omega,by go_num,by first | (rw [HG1.out];done) | (rw [HG1.out,List.length_append];rfl),by first | (rw [HJ1.out];done) | (rw [HJ1.out,List.length_append];rfl),by rw [HG1.out];exact HG2.out,by rw [HJ1.out];exact HJ2.out,HK2.out⟩
         case measure => simp [intOf];omega
     ·have hg1 := HG.out
      rw [if_pos (by simp)] at hg1
      have HG1 := hZ0 hg1;clear hg1
      cases j1
      ·have hj1 := HJ.out
       rw [Bool.false_and,if_neg (by decide)] at hj1
       have HJ1 := hZ0 hj1;clear hj1
       obtain ⟨⟨q10,l10⟩,⟨q9,l9⟩,-,-⟩ := HAI.out w4 HK4.out
       go_wp2_with (at_builtin;refine list_append_src Plan.elemInt (.tmp 38) (.tmp 40) rfl rfl (Value.slice A G.length c) rfl (own_kept HRG4.out.1 (F := NoF) (by (repeat' (first | (with_reducible first | exact kR0 | apply kP0 | apply kN0 | apply kD0 | apply kA0) | (right;simp;done)))) (fun _ _ x => x)) 1 rfl (Src.of_has (t := 3) (size := 1) (m := 1) (cs := #[.int .i64 i]) (by (repeat (first | with_reducible exact Has.new_at _ _ _ (by simp) | with_reducible apply Has.drew | with_reducible apply Has.drewN | with_reducible apply Has.alloc | (with_reducible apply Has.past <;> (try omega)) ))) rfl) (by simp [Value.oneCell']) HM1.out HM2.out ?_;intro A1 c1 w9 ho1 hg1 ha1;have hpush := NewSl.pushed HRG4.out (by (repeat' (first | (with_reducible first | exact kR0 | apply kP0 | apply kN0 | apply kD0 | apply kA0) | (exact HK4.out) | (right;simp;done)))) ho1 hg1 ha1;have HP := hZ0 hpush;have hbes := Lea.NewSl.beside HRJ4.out (by (repeat' (first | (with_reducible first | exact kR0 | apply kP0 | apply kN0 | apply kD0 | apply kA0) | (right;simp;done)))) HRG4.out (by decide) hg1;have HJ2 := hZ0 hbes;clear ho1 hg1 ha1 hpush hbes q10 l10 q9 l9;have HG2 := hZ0 (show NewSl 3 1 w2.heap.size w9 A1 (G ++ [(i : Int)]).length c1 (ints (G ++ [(i : Int)])) from (by rw [ints_snoc,List.length_append];exact HP.out.1));have HK2 := hZ0 HP.out.2;obtain ⟨-,-,⟨q8,l8⟩,⟨q6,l6⟩⟩ := HAI.out w9 HK2.out)
       go_roundw
       case rel => exact ⟨i + 1,A1,c1,B,d,by omega,by go_num,by first | (rw [HG1.out];done) | (rw [HG1.out,List.length_append];rfl),by first | (rw [HJ1.out];done) | (rw [HJ1.out,List.length_append];rfl),by rw [HG1.out];exact HG2.out,by rw [HJ1.out];exact HJ2.out,HK2.out⟩
       case measure => simp [intOf];omega
      ·by_cases hs0 : 0 < sv
       ·have hj1 := HJ.out
        rw [decide_eq_true hs0,Bool.true_and,if_pos rfl] at hj1
        have HJ1 := hZ0 hj1;clear hj1
        obtain ⟨⟨q10,l10⟩,⟨q9,l9⟩,-,-⟩ := HAI.out w4 HK4.out
        go_wp2_with (first | (at_builtin;refine list_append_src Plan.elemMem (.tmp 57) (.tmp 66) rfl rfl (Value.slice B J.length d) rfl (own_kept HJ2.out.1 (F := NoF) (by (repeat' (first | (with_reducible first | exact kR0 | apply kP0 | apply kN0 | apply kD0 | apply kA0) | (right;simp;done)))) (fun _ _ x => x)) 1 rfl (Src.of_has (t := 53) (size := 2) (m := 1) (cs := #[.int .i64 i,.int .i64 sv]) (by (repeat (first | with_reducible exact Has.new_at _ _ _ (by simp) | with_reducible apply Has.drew | with_reducible apply Has.drewN | with_reducible apply Has.alloc | (with_reducible apply Has.past <;> (try omega)) ))) rfl) (by simp [Value.oneCell']) HM3.out HM4.out ?_;intro A7 c7 w8 ho7 hg7 ha7;have hpush := NewSl.pushed HJ2.out (by (repeat' (first | (with_reducible first | exact kR0 | apply kP0 | apply kN0 | apply kD0 | apply kA0) | (exact HK2.out) | (right;simp;done)))) ho7 hg7 ha7;have HPJ := hZ0 hpush;have hbes := Lea.NewSl.beside HG2.out (by (repeat' (first | (with_reducible first | exact kR0 | apply kP0 | apply kN0 | apply kD0 | apply kA0) | (right;simp;done)))) HJ2.out (by decide) hg7;have HBG := hZ0 hbes;clear ho7 hg7 ha7 hpush hbes) | (at_builtin;refine list_append_src Plan.elemInt (.tmp 38) (.tmp 40) rfl rfl (Value.slice A G.length c) rfl (own_kept HRG4.out.1 (F := NoF) (by (repeat' (first | (with_reducible first | exact kR0 | apply kP0 | apply kN0 | apply kD0 | apply kA0) | (right;simp;done)))) (fun _ _ x => x)) 1 rfl (Src.of_has (t := 3) (size := 1) (m := 1) (cs := #[.int .i64 i]) (by (repeat (first | with_reducible exact Has.new_at _ _ _ (by simp) | with_reducible apply Has.drew | with_reducible apply Has.drewN | with_reducible apply Has.alloc | (with_reducible apply Has.past <;> (try omega)) ))) rfl) (by simp [Value.oneCell']) HM1.out HM2.out ?_;intro A1 c1 w9 ho1 hg1 ha1;have hpush := NewSl.pushed HRG4.out (by (repeat' (first | (with_reducible first | exact kR0 | apply kP0 | apply kN0 | apply kD0 | apply kA0) | (exact HK4.out) | (right;simp;done)))) ho1 hg1 ha1;have HP := hZ0 hpush;have hbes := Lea.NewSl.beside HRJ4.out (by (repeat' (first | (with_reducible first | exact kR0 | apply kP0 | apply kN0 | apply kD0 | apply kA0) | (right;simp;done)))) HRG4.out (by decide) hg1;have HJ2 := hZ0 hbes;clear ho1 hg1 ha1 hpush hbes q10 l10 q9 l9;have HG2 := hZ0 (show NewSl 3 1 w2.heap.size w9 A1 (G ++ [(i : Int)]).length c1 (ints (G ++ [(i : Int)])) from (by rw [ints_snoc,List.length_append];exact HP.out.1));have HK2 := hZ0 HP.out.2;obtain ⟨-,-,⟨q8,l8⟩,⟨q6,l6⟩⟩ := HAI.out w9 HK2.out))
        go_roundw
        case rel => exact ⟨i + 1,A1,c1,A7,c7,by omega,by go_num,by first | (rw [HG1.out];done) | (rw [HG1.out,List.length_append];rfl),by first | (rw [HJ1.out];done) | (rw [HJ1.out,List.length_append];rfl),by rw [HG1.out];exact HBG.out,by rw [HJ1.out];exact (by rw [mcells_snoc,List.length_append];exact HPJ.out.1),HPJ.out.2⟩
        case measure => simp [intOf];omega
       ·have hj1 := HJ.out
        rw [decide_eq_false hs0,Bool.and_false,if_neg (by decide)] at hj1
        have HJ1 := hZ0 hj1;clear hj1
        obtain ⟨⟨q10,l10⟩,⟨q9,l9⟩,-,-⟩ := HAI.out w4 HK4.out
        go_wp2_with (at_builtin;refine list_append_src Plan.elemInt (.tmp 38) (.tmp 40) rfl rfl (Value.slice A G.length c) rfl (own_kept HRG4.out.1 (F := NoF) (by (repeat' (first | (with_reducible first | exact kR0 | apply kP0 | apply kN0 | apply kD0 | apply kA0) | (right;simp;done)))) (fun _ _ x => x)) 1 rfl (Src.of_has (t := 3) (size := 1) (m := 1) (cs := #[.int .i64 i]) (by (repeat (first | with_reducible exact Has.new_at _ _ _ (by simp) | with_reducible apply Has.drew | with_reducible apply Has.drewN | with_reducible apply Has.alloc | (with_reducible apply Has.past <;> (try omega)) ))) rfl) (by simp [Value.oneCell']) HM1.out HM2.out ?_;intro A1 c1 w9 ho1 hg1 ha1;have hpush := NewSl.pushed HRG4.out (by (repeat' (first | (with_reducible first | exact kR0 | apply kP0 | apply kN0 | apply kD0 | apply kA0) | (exact HK4.out) | (right;simp;done)))) ho1 hg1 ha1;have HP := hZ0 hpush;have hbes := Lea.NewSl.beside HRJ4.out (by (repeat' (first | (with_reducible first | exact kR0 | apply kP0 | apply kN0 | apply kD0 | apply kA0) | (right;simp;done)))) HRG4.out (by decide) hg1;have HJ2 := hZ0 hbes;clear ho1 hg1 ha1 hpush hbes q10 l10 q9 l9;have HG2 := hZ0 (show NewSl 3 1 w2.heap.size w9 A1 (G ++ [(i : Int)]).length c1 (ints (G ++ [(i : Int)])) from (by rw [ints_snoc,List.length_append];exact HP.out.1));have HK2 := hZ0 HP.out.2;obtain ⟨-,-,⟨q8,l8⟩,⟨q6,l6⟩⟩ := HAI.out w9 HK2.out)
        go_roundw
        case rel => exact ⟨i + 1,A1,c1,B,d,by omega,by go_num,by first | (rw [HG1.out];done) | (rw [HG1.out,List.length_append];rfl),by first | (rw [HJ1.out];done) | (rw [HJ1.out,List.length_append];rfl),by rw [HG1.out];exact HG2.out,by rw [HJ1.out];exact HJ2.out,HK2.out⟩
        case measure => simp [intOf];omega
    ·have hg1 := HG.out
     rw [if_pos (by simp)] at hg1
     have HG1 := hZ0 hg1;clear hg1
     cases j1
     ·have hj1 := HJ.out
      rw [Bool.false_and,if_neg (by decide)] at hj1
      have HJ1 := hZ0 hj1;clear hj1
      obtain ⟨⟨q10,l10⟩,⟨q9,l9⟩,-,-⟩ := HAI.out w4 HK4.out
      go_wp2_with (at_builtin;refine list_append_src Plan.elemInt (.tmp 38) (.tmp 40) rfl rfl (Value.slice A G.length c) rfl (own_kept HRG4.out.1 (F := NoF) (by (repeat' (first | (with_reducible first | exact kR0 | apply kP0 | apply kN0 | apply kD0 | apply kA0) | (right;simp;done)))) (fun _ _ x => x)) 1 rfl (Src.of_has (t := 3) (size := 1) (m := 1) (cs := #[.int .i64 i]) (by (repeat (first | with_reducible exact Has.new_at _ _ _ (by simp) | with_reducible apply Has.drew | with_reducible apply Has.drewN | with_reducible apply Has.alloc | (with_reducible apply Has.past <;> (try omega)) ))) rfl) (by simp [Value.oneCell']) HM1.out HM2.out ?_;intro A1 c1 w9 ho1 hg1 ha1;have hpush := NewSl.pushed HRG4.out (by (repeat' (first | (with_reducible first | exact kR0 | apply kP0 | apply kN0 | apply kD0 | apply kA0) | (exact HK4.out) | (right;simp;done)))) ho1 hg1 ha1;have HP := hZ0 hpush;have hbes := Lea.NewSl.beside HRJ4.out (by (repeat' (first | (with_reducible first | exact kR0 | apply kP0 | apply kN0 | apply kD0 | apply kA0) | (right;simp;done)))) HRG4.out (by decide) hg1;have HJ2 := hZ0 hbes;clear ho1 hg1 ha1 hpush hbes q10 l10 q9 l9;have HG2 := hZ0 (show NewSl 3 1 w2.heap.size w9 A1 (G ++ [(i : Int)]).length c1 (ints (G ++ [(i : Int)])) from (by rw [ints_snoc,List.length_append];exact HP.out.1));have HK2 := hZ0 HP.out.2;obtain ⟨-,-,⟨q8,l8⟩,⟨q6,l6⟩⟩ := HAI.out w9 HK2.out)
      go_roundw
      case rel => exact ⟨i + 1,A1,c1,B,d,by omega,by go_num,by first | (rw [HG1.out];done) | (rw [HG1.out,List.length_append];rfl),by first | (rw [HJ1.out];done) | (rw [HJ1.out,List.length_append];rfl),by rw [HG1.out];exact HG2.out,by rw [HJ1.out];exact HJ2.out,HK2.out⟩
      case measure => simp [intOf];omega
     ·by_cases hs0 : 0 < sv
      ·have hj1 := HJ.out
       rw [decide_eq_true hs0,Bool.true_and,if_pos rfl] at hj1
       have HJ1 := hZ0 hj1;clear hj1
       obtain ⟨⟨q10,l10⟩,⟨q9,l9⟩,-,-⟩ := HAI.out w4 HK4.out
       go_wp2_with (first | (at_builtin;refine list_append_src Plan.elemMem (.tmp 57) (.tmp 66) rfl rfl (Value.slice B J.length d) rfl (own_kept HJ2.out.1 (F := NoF) (by (repeat' (first | (with_reducible first | exact kR0 | apply kP0 | apply kN0 | apply kD0 | apply kA0) | (right;simp;done)))) (fun _ _ x => x)) 1 rfl (Src.of_has (t := 53) (size := 2) (m := 1) (cs := #[.int .i64 i,.int .i64 sv]) (by (repeat (first | with_reducible exact Has.new_at _ _ _ (by simp) | with_reducible apply Has.drew | with_reducible apply Has.drewN | with_reducible apply Has.alloc | (with_reducible apply Has.past <;> (try omega)) ))) rfl) (by simp [Value.oneCell']) HM3.out HM4.out ?_;intro A7 c7 w8 ho7 hg7 ha7;have hpush := NewSl.pushed HJ2.out (by (repeat' (first | (with_reducible first | exact kR0 | apply kP0 | apply kN0 | apply kD0 | apply kA0) | (exact HK2.out) | (right;simp;done)))) ho7 hg7 ha7;have HPJ := hZ0 hpush;have hbes := Lea.NewSl.beside HG2.out (by (repeat' (first | (with_reducible first | exact kR0 | apply kP0 | apply kN0 | apply kD0 | apply kA0) | (right;simp;done)))) HJ2.out (by decide) hg7;have HBG := hZ0 hbes;clear ho7 hg7 ha7 hpush hbes) | (at_builtin;refine list_append_src Plan.elemInt (.tmp 38) (.tmp 40) rfl rfl (Value.slice A G.length c) rfl (own_kept HRG4.out.1 (F := NoF) (by (repeat' (first | (with_reducible first | exact kR0 | apply kP0 | apply kN0 | apply kD0 | apply kA0) | (right;simp;done)))) (fun _ _ x => x)) 1 rfl (Src.of_has (t := 3) (size := 1) (m := 1) (cs := #[.int .i64 i]) (by (repeat (first | with_reducible exact Has.new_at _ _ _ (by simp) | with_reducible apply Has.drew | with_reducible apply Has.drewN | with_reducible apply Has.alloc | (with_reducible apply Has.past <;> (try omega)) ))) rfl) (by simp [Value.oneCell']) HM1.out HM2.out ?_;intro A1 c1 w9 ho1 hg1 ha1;have hpush := NewSl.pushed HRG4.out (by (repeat' (first | (with_reducible first | exact kR0 | apply kP0 | apply kN0 | apply kD0 | apply kA0) | (exact HK4.out) | (right;simp;done)))) ho1 hg1 ha1;have HP := hZ0 hpush;have hbes := Lea.NewSl.beside HRJ4.out (by (repeat' (first | (with_reducible first | exact kR0 | apply kP0 | apply kN0 | apply kD0 | apply kA0) | (right;simp;done)))) HRG4.out (by decide) hg1;have HJ2 := hZ0 hbes;clear ho1 hg1 ha1 hpush hbes q10 l10 q9 l9;have HG2 := hZ0 (show NewSl 3 1 w2.heap.size w9 A1 (G ++ [(i : Int)]).length c1 (ints (G ++ [(i : Int)])) from (by rw [ints_snoc,List.length_append];exact HP.out.1));have HK2 := hZ0 HP.out.2;obtain ⟨-,-,⟨q8,l8⟩,⟨q6,l6⟩⟩ := HAI.out w9 HK2.out))
       go_roundw
       case rel => exact ⟨i + 1,A1,c1,A7,c7,by omega,by go_num,by first | (rw [HG1.out];done) | (rw [HG1.out,List.length_append];rfl),by first | (rw [HJ1.out];done) | (rw [HJ1.out,List.length_append];rfl),by rw [HG1.out];exact HBG.out,by rw [HJ1.out];exact (by rw [mcells_snoc,List.length_append];exact HPJ.out.1),HPJ.out.2⟩
       case measure => simp [intOf];omega
      ·have hj1 := HJ.out
       rw [decide_eq_false hs0,Bool.and_false,if_neg (by decide)] at hj1
       have HJ1 := hZ0 hj1;clear hj1
       obtain ⟨⟨q10,l10⟩,⟨q9,l9⟩,-,-⟩ := HAI.out w4 HK4.out
       go_wp2_with (at_builtin;refine list_append_src Plan.elemInt (.tmp 38) (.tmp 40) rfl rfl (Value.slice A G.length c) rfl (own_kept HRG4.out.1 (F := NoF) (by (repeat' (first | (with_reducible first | exact kR0 | apply kP0 | apply kN0 | apply kD0 | apply kA0) | (right;simp;done)))) (fun _ _ x => x)) 1 rfl (Src.of_has (t := 3) (size := 1) (m := 1) (cs := #[.int .i64 i]) (by (repeat (first | with_reducible exact Has.new_at _ _ _ (by simp) | with_reducible apply Has.drew | with_reducible apply Has.drewN | with_reducible apply Has.alloc | (with_reducible apply Has.past <;> (try omega)) ))) rfl) (by simp [Value.oneCell']) HM1.out HM2.out ?_;intro A1 c1 w9 ho1 hg1 ha1;have hpush := NewSl.pushed HRG4.out (by (repeat' (first | (with_reducible first | exact kR0 | apply kP0 | apply kN0 | apply kD0 | apply kA0) | (exact HK4.out) | (right;simp;done)))) ho1 hg1 ha1;have HP := hZ0 hpush;have hbes := Lea.NewSl.beside HRJ4.out (by (repeat' (first | (with_reducible first | exact kR0 | apply kP0 | apply kN0 | apply kD0 | apply kA0) | (right;simp;done)))) HRG4.out (by decide) hg1;have HJ2 := hZ0 hbes;clear ho1 hg1 ha1 hpush hbes q10 l10 q9 l9;have HG2 := hZ0 (show NewSl 3 1 w2.heap.size w9 A1 (G ++ [(i : Int)]).length c1 (ints (G ++ [(i : Int)])) from (by rw [ints_snoc,List.length_append];exact HP.out.1));have HK2 := hZ0 HP.out.2;obtain ⟨-,-,⟨q8,l8⟩,⟨q6,l6⟩⟩ := HAI.out w9 HK2.out)
       go_roundw
       case rel => exact ⟨i + 1,A1,c1,B,d,by omega,by go_num,by first | (rw [HG1.out];done) | (rw [HG1.out,List.length_append];rfl),by first | (rw [HJ1.out];done) | (rw [HJ1.out,List.length_append];rfl),by rw [HG1.out];exact HG2.out,by rw [HJ1.out];exact HJ2.out,HK2.out⟩
       case measure => simp [intOf];omega
  ·obtain rfl : i = 4 := by omega
   have HRG := hZ0 hrG;have HRJ := hZ0 hrJ;have HK := hZ0 hk;clear hrG hrJ hk
   have h2 := HK0.out.size
   have HG4 := hZ0 (show NewSl 3 1 w.heap.size wr A (goneC M 4).length c (ints (goneC M 4)) from ⟨HRG.out.1,fun g hg => Nat.le_trans h2 (HRG.out.2 g hg)⟩)
   have HJ4 := hZ0 (show NewSl 53 2 w.heap.size wr B (joinC M 4).length d (mcells (joinC M 4)) from ⟨HRJ.out.1,fun g hg => Nat.le_trans h2 (HRJ.out.2 g hg)⟩)
   clear h2
   go_wp2
   go_ret2
   exact ⟨A,c,B,d,rfl,HG4.out,HJ4.out,HK0.out.then HK.out⟩
end
end Mas
end Go.Proofs.YtolkgbafebehfaaGreat
