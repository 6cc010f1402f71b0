/- Part 48 of what the proof needs. -/
import Derived.Test.YtolkgbafebehfaaGreatHP45
import Derived.Test.YtolkgbafebehfaaGreatHP46
set_option linter.unusedSimpArgs false
set_option linter.unusedVariables false
set_option maxHeartbeats 32000000
set_option maxRecDepth 100000
namespace Go.Proofs.YtolkgbafebehfaaGreat
open Go.RowKit
set_option maxRecDepth 100000
namespace Mas
open Plan Vn Mst Wat IM Nte Msg
def OutPost (w : World) (X : MX) (M : MR) (c : Nat) (o : List OutR) (M' : MR) (e : Ending) (w' : World) : Prop :=
 ∃ A d,e = .returned (.slice A o.length d) /\ w'.ownsRow 0 143 2 (.slice A o.length d) o.length (ocells o) /\ (∀ k,(Value.slice A o.length d).ownBlock = some k -> foot X M k \/ w.heap.size <= k) /\ ∃ X',Step w X M w' X' M' /\ LgB X' M'.lg c /\ (∀ k,(Value.slice A o.length d).ownBlock = some k -> ¬ foot X' M' k)
section
variable {w w' : World} {X X0 : MX} {M M0 : MR} {c k : Nat}
theorem OutPost.of_done {W : World} {X1 : MX} {M1 : MR} {e : Ending} (hs : Step w X M W X1 M1) (h : DonePost W X1 M1 c e w') : OutPost w X M (c + 1) M1.out (doneM M1) e w' := by
 obtain ⟨A,d,h1,h2,h3,X',h4,h5,h6⟩ := h
 refine ⟨A,d,h1,h2,fun k hk => ?_,X',hs.trans h4,h5,h6⟩
 rcases h3 k hk with y | y
 ·exact hs.g k y
 ·have := hs.k.size;exact .inr (by omega)
theorem OutPost.nil (h : MAt w X M) (hb : LgB X M.lg c) {W : World} (hk : Kept NoF w W) (d : Nat) : OutPost w X M (c + d) [] M (.returned (.slice none 0 0)) W :=
 ⟨none,0,rfl,⟨rfl,.inl ⟨rfl,rfl⟩⟩,(fun k hk => by simp [Value.ownBlock] at hk),X,Step.refl h hk,hb.mono (by omega),(fun k hk => by simp [Value.ownBlock] at hk)⟩
theorem done_out (h : MOk M k) (ho : M.out.length <= 1000) {W : World} {X1 : MX} {M1 : MR} (hs : Step w X M W X1 M1) (hb : LgB X1 M1.lg c) (hc : c <= 4000) (h1 : MOk M1 k) :
  Calls Tryz.prog 46 #[.pointer (some ⟨X.mb,0,none⟩)] W (OutPost w X M (c + 1) M1.out (doneM M1)) := by
 have hd := done_any hs.at' hb hc h1.st.inv.ok h1.st.su h1.st.inv.pl
 rw [hs.mb] at hd
 exact hd.mono fun e w' hp => OutPost.of_done hs hp
theorem MPost.at1 {W W' : World} {X1 : MX} {M1 M2 : MR} {v : Value} {e : Ending} {d : Nat} (hs : Step w X M W X1 M1) (h : MPost W X1 M1 c v M2 d e W') : e = .returned v /\ ∃ X2,Step w X M W' X2 M2 /\ LgB X2 M2.lg (c + d) := by
 obtain ⟨h1,X2,h2,h3⟩ := h
 exact ⟨h1,X2,hs.trans h2,h3⟩
attribute [local go_sem ↓] loadVar_msg
theorem deliver_any (h : MAt w X M) (hb : LgB X M.lg c) (hc : c <= 2900) (hm : MOk M k) (hk : k <= 900) (ho : M.out.length <= 90) (i : Int) (x : MsgR) (hx : XOk w x) (hxs : I64 x.ser) (hi64 : I64 i) :
  Calls Tryz.prog 20 #[.pointer (some ⟨X.mb,0,none⟩),.int .i64 i,xagg x] w (OutPost w X M (c + 3) (deliverO M i x) (deliverM M i x)) := by
 obtain ⟨W0,hW0⟩ : ∃ W0,w.alloc (.cells (xcell x).toArray 46) = W0 := ⟨_,rfl⟩
 have hk0 : Kept NoF w W0 := by rw [<- hW0];(repeat' (first | (with_reducible first | exact kR0 | apply kP0 | apply kN0 | apply kD0 | apply kA0) | (right;simp;done)))
 have hn0 : Has W0 w.heap.size 46 (xcell x).toArray := by rw [<- hW0];exact Has.new _ _ _
 have h1 := mnone_any (h.quiet hk0)
 have hld : ∀ W,Kept NoF W0 W -> (loadMsg ⟨w.heap.size,0,none⟩).run Tryz.prog W = .ok (.agg (xcell x).toArray) W := fun W hW => run_loadMsg_has W w.heap.size x (hn0.kept hW (fun z => z))
 have h2 : Calls Tryz.prog 56 #[.agg (xcell x).toArray] W0 fun e w' => e = .returned (.int .i64 (chkM x)) /\ Kept NoF W0 w' := mcheck_any W0 x (hx.kept hk0)
 have hbad : chkM x ≠ 0 -> ∀ W,Kept NoF w W -> OutPost w X M (c + 3) (deliverO M i x) (deliverM M i x) (.returned (.slice none 0 0)) W := fun h0 W hW => by
  have e1 : deliverO M i x = [] := if_neg h0
  have e2 : deliverM M i x = M := if_neg h0
  rw [e1,e2]
  exact OutPost.nil h hb hW 3
 have hend : chkM x = 0 -> ∀ W X1,Step w X M W X1 (deliver1 M i x) -> LgB X1 (deliver1 M i x).lg (c + 2) -> Calls Tryz.prog 46 #[.pointer (some ⟨X.mb,0,none⟩)] W (OutPost w X M (c + 3) (deliverO M i x) (deliverM M i x)) := fun h0 W X1 hs hl => by
  have e1 : deliverO M i x = (deliver1 M i x).out := if_pos h0
  have e2 : deliverM M i x = doneM (deliver1 M i x) := if_pos h0
  rw [e1,e2]
  exact done_out (k := k + 1) (hm.mono (Nat.le_succ _)) (by omega) hs hl (by omega) (hm.deliver1 i x hxs hx)
 have hbeat : x.k = 2 -> 0 <= i /\ i < 4 -> ∀ W,Kept NoF w W -> Calls Tryz.prog 58 #[.pointer (some ⟨X.mb,0,none⟩),.int .i64 i,.agg (xcell x).toArray] W fun e W' => e = .returned (.tuple #[]) /\ ∃ X1,Step w X M W' X1 (deliver1 M i x) /\ LgB X1 (deliver1 M i x).lg (c + 2) := fun hk2 hi W hW => by
  obtain ⟨n,rfl⟩ := Int.eq_ofNat_of_zero_le hi.1
  have e1 : deliver1 M n x = beatM M n x := by unfold deliver1;rw [if_pos hk2,if_pos hi]
  rw [e1]
  refine (beat_any (h.quiet hW) hb (by omega) hm (by omega) (by omega) n (by omega) x (hx.kept hW) hxs).mono ?_
  intro e W' hp
  obtain ⟨h1,X2,h3,h4⟩ := MPost.at1 (Step.refl h hW) hp
  exact ⟨h1,X2,h3,h4.mono (by omega)⟩
 have hwhere : x.k = 15 -> ((0 <= i /\ i < 4) \/ (5 <= i /\ i < 8)) -> ∀ W,Kept NoF w W -> Calls Tryz.prog 60 #[.pointer (some ⟨X.mb,0,none⟩),.int .i64 i] W fun e W' => e = .returned (.tuple #[]) /\ ∃ X1,Step w X M W' X1 (deliver1 M i x) /\ LgB X1 (deliver1 M i x).lg (c + 2) := fun hk2 hi W hW => by
  have e1 : deliver1 M i x = whereM M i := by unfold deliver1;rw [if_neg (by omega),if_pos hk2,if_pos hi]
  rw [e1]
  refine (where_any (h.quiet hW) hb (by omega) hm.st.inv.ok hm.st.su i).mono ?_
  intro e W' hp
  obtain ⟨h1,X2,h3,h4⟩ := MPost.at1 (Step.refl h hW) hp
  exact ⟨h1,X2,h3,h4.mono (by omega)⟩
 have hask : (x.k = 11 \/ x.k = 12 \/ x.k = 13) -> 5 <= i /\ i < 8 -> ∀ W,Kept NoF w W -> Calls Tryz.prog 61 #[.pointer (some ⟨X.mb,0,none⟩),.int .i64 (i - 5),.agg (xcell x).toArray] W fun e W' => e = .returned (.tuple #[]) /\ ∃ X1,Step w X M W' X1 (deliver1 M i x) /\ LgB X1 (deliver1 M i x).lg (c + 2) := fun hk2 hi W hW => by
  have e1 : deliver1 M i x = askM M (i - 5) x := by unfold deliver1;rw [if_neg (by omega),if_neg (by omega),if_pos hk2,if_pos hi]
  rw [e1]
  refine (ask_any (h.quiet hW) hb (by omega) hm (by omega) (i - 5) (by omega) x (hx.kept hW)).mono ?_
  intro e W' hp
  obtain ⟨h1,X2,h3,h4⟩ := MPost.at1 (Step.refl h hW) hp
  exact ⟨h1,X2,h3,h4⟩
 have hsame : ((x.k = 2 /\ ¬ (0 <= i /\ i < 4)) \/ (x.k = 15 /\ ¬ ((0 <= i /\ i < 4) \/ (5 <= i /\ i < 8))) \/ ((x.k = 11 \/ x.k = 12 \/ x.k = 13) /\ ¬ (5 <= i /\ i < 8)) \/ (x.k ≠ 2 /\ x.k ≠ 15 /\ x.k ≠ 11 /\ x.k ≠ 12 /\ x.k ≠ 13)) -> ∀ W,Kept NoF w W -> Step w X M W X (deliver1 M i x) /\ LgB X (deliver1 M i x).lg (c + 2) := fun hq W hW => by
  have e1 : deliver1 M i x = M := by
   unfold deliver1
   rcases hq with ⟨a,b⟩ | ⟨a,b⟩ | ⟨a,b⟩ | ⟨a,b,d,e,f⟩
   ·rw [if_pos a,if_neg b]
   ·rw [if_neg (by omega),if_pos a,if_neg b]
   ·rw [if_neg (by omega),if_neg (by omega),if_pos a,if_neg b]
   ·rw [if_neg a,if_neg b,if_neg (by omega)]
  rw [e1]
  exact ⟨Step.refl h hW,hb.mono (by omega)⟩
 have hrep := fun W => replica_any W i
 have hcli := fun W => client_any W i
 have hsub : 5 <= i /\ i < 8 -> IntKind.i64.wrap (i - 5) = i - 5 := fun hi => IntWalk.i64_in _ (by omega)
 obtain ⟨o,hO⟩ : ∃ o,deliverO M i x = o := ⟨_,rfl⟩
 obtain ⟨M',hM'⟩ : ∃ M',deliverM M i x = M' := ⟨_,rfl⟩
 obtain ⟨M1,hM1⟩ : ∃ M1,deliver1 M i x = M1 := ⟨_,rfl⟩
 obtain ⟨z,hz⟩ : ∃ z,chkM x = z := ⟨_,rfl⟩
 rw [hO,hM'] at hbad hend ⊢
 simp only [hM1] at hend hbeat hwhere hask hsame
 rw [hz] at hbad hend h2
 obtain ⟨kk,hkk⟩ : ∃ kk,x.k = kk := ⟨_,rfl⟩
 rw [hkk] at hbeat hwhere hask hsame
 have hu0 : (xcell x).toArray[0]? = some (.int .i64 kk) := by rw [<- hkk];rfl
 obtain ⟨cs,hcs⟩ : ∃ cs,(xcell x).toArray = cs := ⟨_,rfl⟩
 rw [hcs] at hn0 h2 hu0
 simp only [hcs] at hld hbeat hask
 have hW0' : w.alloc (.cells cs 46) = W0 := by rw [<- hcs];exact hW0
 have hgoal : (xagg x) = Value.agg cs := by rw [<- hcs]
 rw [hgoal]
 have hld0 := hld W0 (Kept.refl _ _)
 have HLD := hZ0 hld
 clear hW0 hcs hgoal hld
 have hW0 := hW0'
 clear hW0'
 have H1 := hZ0 h1;have HC := hZ0 h2;have HN := hZ0 hn0;have HK0 := hZ0 hk0;have HBAD := hZ0 hbad;have HEND := hZ0 hend;have HBE := hZ0 hbeat;have HWH := hZ0 hwhere;have HASK := hZ0 hask;have HSAME := hZ0 hsame;have HREP := hZ0 hrep;have HCLI := hZ0 hcli;have HSUB := hZ0 hsub;have HU := hZ0 hu0
 clear h1 h2 hn0 hk0 hbad hend hbeat hwhere hask hsame hrep hcli hsub hu0 hO hM' hM1 hz hkk h hb hc hm hk ho hx hxs hi64
 by_cases h0 : z = 0
 rotate_left
 ·have h2 : (z != 0) = true := by simpa using h0
  have HF := hZ0 (HBAD.out h0)
  clear h0
  go_enter Tryz.func20,Tryz.ntmps20
  go_wp2_with fail
  clear hW0
  refine H1.out.mono ?_
  rintro e w1 ⟨rfl,rfl⟩
  go_wp2_with fail
  clear hld0
  refine HC.out.mono ?_
  rintro e w2 ⟨rfl,hk2⟩
  have HQ := hZ0 (HF.out _ (HK0.out.then hk2));clear hk2
  go_wp2
  go_ret
  exact HQ.out
 ·subst h0
  have HE := hZ0 (HEND.out rfl)
  clear HEND HBAD
  go_enter Tryz.func20,Tryz.ntmps20
  go_wp2_with fail
  clear hW0
  refine H1.out.mono ?_
  rintro e w1 ⟨rfl,rfl⟩
  go_wp2_with fail
  clear hld0
  refine HC.out.mono ?_
  rintro e w2 ⟨rfl,hk2⟩
  have hn2 := HN.out.kept hk2 (fun z => z)
  have hld2 := HLD.out w2 hk2
  have u0 : w2.cell? ⟨w.heap.size,0,none⟩ = some (.int .i64 kk) := by rw [Has.cell hn2];exact HU.out
  have HK2 := hZ0 (HK0.out.then hk2)
  have HN2 := hZ0 hn2
  clear hk2 hn2
  by_cases k2 : kk = 2
  ·subst k2
   obtain ⟨r,hr⟩ : ∃ r : Bool,decide (0 <= i /\ i < 4) = r := ⟨_,rfl⟩
   have hcall := HREP.out w2
   rw [hr] at hcall
   have HCALL := hZ0 hcall;clear hcall
   cases r
   ·have hsm := HSAME.out (.inl ⟨rfl,of_decide_eq_false hr⟩) _ HK2.out
    have HD := hZ0 (HE.out _ _ hsm.1 hsm.2);clear hsm hr
    go_wp2_with fail
    refine HCALL.out.mono ?_
    rintro e w3 ⟨rfl,rfl⟩
    go_wp2_with fail
    refine HD.out.mono ?_
    rintro e w4 ⟨A,d,rfl,hp⟩
    have HP := hZ0 hp;clear hp
    go_wp2
    go_ret
    exact ⟨A,d,rfl,HP.out⟩
   ·have hbe := HBE.out rfl (of_decide_eq_true hr) _ HK2.out
    have HB := hZ0 hbe;clear hbe hr
    go_wp2_with fail
    refine HCALL.out.mono ?_
    rintro e w3 ⟨rfl,rfl⟩
    go_wp2_with fail
    refine HB.out.mono ?_
    rintro e w4 ⟨rfl,X1,hs1,hl1⟩
    have HD := hZ0 (HE.out _ _ hs1 hl1);clear hs1 hl1
    clear u0
    go_wp2_with fail
    refine HD.out.mono ?_
    rintro e w5 ⟨A,d,rfl,hp⟩
    have HP := hZ0 hp;clear hp
    go_wp2
    go_ret
    exact ⟨A,d,rfl,HP.out⟩
  by_cases k15 : kk = 15
  ·subst k15
   obtain ⟨r,hr⟩ : ∃ r : Bool,decide (0 <= i /\ i < 4) = r := ⟨_,rfl⟩
   obtain ⟨s,hs⟩ : ∃ s : Bool,decide (5 <= i /\ i < 8) = s := ⟨_,rfl⟩
   have hcall := HREP.out w2
   have hcal2 := HCLI.out w2
   rw [hr] at hcall
   rw [hs] at hcal2
   have HCALL := hZ0 hcall;have HCAL2 := hZ0 hcal2;clear hcall hcal2
   have hwh : (r = true \/ s = true) -> _ := fun hh => HWH.out rfl (by
    rcases hh with hh | hh
    ·rw [hh] at hr;exact .inl (of_decide_eq_true hr)
    ·rw [hh] at hs;exact .inr (of_decide_eq_true hs)) w2 HK2.out
   have HW := hZ0 hwh;clear hwh
   cases r
   ·cases s
    ·have hsm := HSAME.out (.inr (.inl ⟨rfl,fun hh => by
      rcases hh with hh | hh
      ·exact of_decide_eq_false hr hh
      ·exact of_decide_eq_false hs hh⟩)) _ HK2.out
     have HD := hZ0 (HE.out _ _ hsm.1 hsm.2);clear hsm hr hs
     go_wp2_with fail
     refine HCALL.out.mono ?_
     rintro e w3 ⟨rfl,rfl⟩
     go_wp2_with fail
     refine HCAL2.out.mono ?_
     rintro e w3 ⟨rfl,rfl⟩
     go_wp2_with fail
     refine HD.out.mono ?_
     rintro e w4 ⟨A,d,rfl,hp⟩
     have HP := hZ0 hp;clear hp
     go_wp2
     go_ret
     exact ⟨A,d,rfl,HP.out⟩
    ·have HW2 := hZ0 (HW.out (.inr rfl))
     clear hr hs
     go_wp2_with fail
     refine HCALL.out.mono ?_
     rintro e w3 ⟨rfl,rfl⟩
     go_wp2_with fail
     refine HCAL2.out.mono ?_
     rintro e w3 ⟨rfl,rfl⟩
     go_wp2_with fail
     refine HW2.out.mono ?_
     rintro e w4 ⟨rfl,X1,hs1,hl1⟩
     have HD := hZ0 (HE.out _ _ hs1 hl1);clear hs1 hl1
     clear u0
     go_wp2_with fail
     refine HD.out.mono ?_
     rintro e w5 ⟨A,d,rfl,hp⟩
     have HP := hZ0 hp;clear hp
     go_wp2
     go_ret
     exact ⟨A,d,rfl,HP.out⟩
   ·have HW2 := hZ0 (HW.out (.inl rfl))
    clear hr hs
    go_wp2_with fail
    refine HCALL.out.mono ?_
    rintro e w3 ⟨rfl,rfl⟩
    go_wp2_with fail
    refine HW2.out.mono ?_
    rintro e w4 ⟨rfl,X1,hs1,hl1⟩
    have HD := hZ0 (HE.out _ _ hs1 hl1);clear hs1 hl1
    clear u0
    go_wp2_with fail
    refine HD.out.mono ?_
    rintro e w5 ⟨A,d,rfl,hp⟩
    have HP := hZ0 hp;clear hp
    go_wp2
    go_ret
    exact ⟨A,d,rfl,HP.out⟩
  have n2 : (kk == 2) = false := by simpa using k2
  have n15 : (kk == 15) = false := by simpa using k15
  by_cases k11 : kk = 11 \/ kk = 12 \/ kk = 13
  ·obtain ⟨s,hs⟩ : ∃ s : Bool,decide (5 <= i /\ i < 8) = s := ⟨_,rfl⟩
   have hcal2 := HCLI.out w2
   rw [hs] at hcal2
   have HCAL2 := hZ0 hcal2;clear hcal2
   have HASK2 := hZ0 (HASK.out k11)
   have HSM := hZ0 (fun hn => HSAME.out (.inr (.inr (.inl ⟨k11,hn⟩))))
   clear HASK HSAME HBE HWH k2 k15
   rcases k11 with rfl | rfl | rfl
   all_goals (
    clear n2 n15
    cases s
    ·have hsm := HSM.out (of_decide_eq_false hs) _ HK2.out
     have HD := hZ0 (HE.out _ _ hsm.1 hsm.2);clear hsm hs
     go_wp2_with fail
     refine HCAL2.out.mono ?_
     rintro e w3 ⟨rfl,rfl⟩
     go_wp2_with fail
     refine HD.out.mono ?_
     rintro e w4 ⟨A,d,rfl,hp⟩
     have HP := hZ0 hp;clear hp
     go_wp2
     go_ret
     exact ⟨A,d,rfl,HP.out⟩
    ·have hak := HASK2.out (of_decide_eq_true hs) _ HK2.out
     have hsb := HSUB.out (of_decide_eq_true hs)
     have HAK := hZ0 hak;clear hak hs
     go_wp2_with fail
     refine HCAL2.out.mono ?_
     rintro e w3 ⟨rfl,rfl⟩
     go_wp2_with fail
     refine HAK.out.mono ?_
     rintro e w4 ⟨rfl,X1,hs1,hl1⟩
     have HD := hZ0 (HE.out _ _ hs1 hl1);clear hs1 hl1
     clear u0
     go_wp2_with fail
     refine HD.out.mono ?_
     rintro e w5 ⟨A,d,rfl,hp⟩
     have HP := hZ0 hp;clear hp
     go_wp2
     go_ret
     exact ⟨A,d,rfl,HP.out⟩)
  ·have hsm := HSAME.out (.inr (.inr (.inr ⟨k2,k15,by omega,by omega,by omega⟩))) _ HK2.out
   have HD := hZ0 (HE.out _ _ hsm.1 hsm.2)
   have n11 : (kk == 11) = false := by simp;omega
   have n12 : (kk == 12) = false := by simp;omega
   have n13 : (kk == 13) = false := by simp;omega
   clear hsm k2 k15 k11 HASK HSAME HBE HWH
   go_wp2_with fail
   refine HD.out.mono ?_
   rintro e w4 ⟨A,d,rfl,hp⟩
   have HP := hZ0 hp;clear hp
   go_wp2
   go_ret
   exact ⟨A,d,rfl,HP.out⟩
end
end Mas
end Go.Proofs.YtolkgbafebehfaaGreat
