/- Part 19 of what the proof needs. -/
import Derived.Test.YtobfdolhgnoedaaAP02
import Derived.Deep.QuietTactic
set_option linter.unusedSimpArgs false
set_option linter.unusedVariables false
set_option maxHeartbeats 32000000
set_option maxRecDepth 100000
namespace Go.Proofs.Ytobfdolhgnoedaa
open Go.RowKit Go.Shelf
set_option maxRecDepth 100000
namespace Ops
open Vn
theorem one_cases (o : OpR) (a : ByteArray) (f : Bool) :
  (one o a f = 10 /\ (o.key.size < 1 \/ 8 < o.key.size)) \/ (one o a f = 3 /\ ¬ (o.key.size < 1 \/ 8 < o.key.size) /\ 8 < o.val.size) \/
  (one o a f = 4 /\ ¬ (o.key.size < 1 \/ 8 < o.key.size) /\ ¬ 8 < o.val.size /\ o.del = true /\ o.val.toList.isEmpty = false) \/
  (one o a f = 18 /\ ¬ (o.key.size < 1 \/ 8 < o.key.size) /\ ¬ 8 < o.val.size /\ (o.del = false \/ o.del = true /\ o.val.toList.isEmpty = true) /\ f = false /\ Op.bytesLess a.toList o.key.toList = false) \/
  (one o a f = 0 /\ ¬ (o.key.size < 1 \/ 8 < o.key.size) /\ ¬ 8 < o.val.size /\ (o.del = false \/ o.del = true /\ o.val.toList.isEmpty = true) /\ (f = true \/ f = false /\ Op.bytesLess a.toList o.key.toList = true)) := by
 unfold one
 have he := empty_size o.val
 by_cases h1 : o.key.size < 1 \/ 8 < o.key.size
 ·rw [if_pos h1];exact .inl ⟨rfl,h1⟩
 ·rw [if_neg h1]
  right
  by_cases h2 : 8 < o.val.size
  ·rw [if_pos h2];exact .inl ⟨rfl,h1,h2⟩
  ·rw [if_neg h2]
   right
   by_cases h3 : o.del = true /\ o.val.size ≠ 0
   ·rw [if_pos h3];exact .inl ⟨rfl,h1,h2,h3.1,by rw [he];exact decide_eq_false h3.2⟩
   ·rw [if_neg h3]
    right
    have hd : o.del = false \/ o.del = true /\ o.val.toList.isEmpty = true := by
     cases hd : o.del
     ·exact .inl rfl
     ·exact .inr ⟨rfl,by rw [he];exact decide_eq_true (Classical.byContradiction fun x => h3 ⟨hd,x⟩)⟩
    by_cases h4 : f = false /\ Op.bytesLess a.toList o.key.toList = false
    ·rw [if_pos h4];exact .inl ⟨rfl,h1,h2,hd,h4.1,h4.2⟩
    ·rw [if_neg h4]
     refine .inr ⟨rfl,h1,h2,hd,?_⟩
     cases hf : f
     ·right;refine ⟨rfl,?_⟩;cases hb : Op.bytesLess a.toList o.key.toList
      ·exact absurd ⟨hf,hb⟩ h4
      ·rfl
     ·left;rfl
theorem rcheck_any (w : World) (b : Batch) (A : Option Addr) (c : Nat) (hs : Src w 3 A b.ops.length (cells b.ops)) (hcap : b.ops.length <= c) :
  Calls Try.prog 49 #[bagg b A c] w fun e w' => e = .returned (.int .i64 (chk b)) /\ Kept NoF w w' := by
 have hc := chk_cases b
 obtain ⟨cl,req,l⟩ := b
 dsimp only at hc hs
 unfold bagg
 dsimp only
 have HS := hZ0 hs;clear hs
 rcases hc with ⟨hc,h1 | ⟨h1,h2⟩⟩ | ⟨hc,h0,h1,h2 | ⟨h2,h3⟩⟩ | ⟨hc,h0,h1,h2,h3,h4⟩ | ⟨hc,h0,h1,h2,h3,h4⟩
 ·rw [hc];clear hc HS
  go_enter Try.func49,Try.ntmps49
  go_wp2
  go_ret
  exact ⟨rfl,(Kept.refl _ _).alloc _⟩
 ·rw [hc];clear hc HS
  go_enter Try.func49,Try.ntmps49
  go_wp2
  go_ret
  exact ⟨rfl,(Kept.refl _ _).alloc _⟩
 ·rw [hc];clear hc HS
  have g1 : ¬ cl < 0 := by omega
  have g2 : ¬ 3 <= cl := by omega
  go_enter Try.func49,Try.ntmps49
  go_wp2
  go_ret
  exact ⟨rfl,(Kept.refl _ _).alloc _⟩
 ·rw [hc];clear hc HS
  have g1 : ¬ cl < 0 := by omega
  have g2 : ¬ 3 <= cl := by omega
  go_enter Try.func49,Try.ntmps49
  go_wp2
  go_ret
  exact ⟨rfl,(Kept.refl _ _).alloc _⟩
 ·rw [hc];clear hc HS
  have g1 : ¬ cl < 0 := by omega
  have g2 : ¬ 3 <= cl := by omega
  have g3 : ¬ req < 1 := by omega
  have g4 : ¬ 1073741824 < req := by omega
  go_enter Try.func49,Try.ntmps49
  go_wp2
  go_ret
  exact ⟨rfl,(Kept.refl _ _).alloc _⟩
 ·rw [hc];clear hc
  have g1 : ¬ cl < 0 := by omega
  have g2 : ¬ 3 <= cl := by omega
  have g3 : ¬ req < 1 := by omega
  have g4 : ¬ 1073741824 < req := by omega
  go_enter Try.func49,Try.ntmps49
  go_wp2
  have HB0 := hZ0 (Has.new w 29 #[.int .i64 cl,.int .i64 req,.slice A l.length c])
  go_loopw [3] (fun v3 wr => ∃ (i : Nat) (a : ByteArray),i <= l.length /\ v3 = .int .i64 i /\ chkL l emp true = chkL (l.drop i) a (decide (i = 0)) /\ (0 < i -> ∃ o',l[i - 1]? = some o' /\ a = o'.key) /\ Has wr w.heap.size 29 #[.int .i64 cl,.int .i64 req,.slice A l.length c] /\ Kept NoF w wr) (fun v3 _ => l.length - (intOf v3).toNat)
  case atStart => exact ⟨0,emp,Nat.zero_le _,rfl,rfl,fun h => absurd h (by decide),HB0.out,by (repeat' (first | (with_reducible first | exact kR0 | apply kP0 | apply kN0 | apply kD0 | apply kA0) | (right;simp;done)))⟩
  case round =>
   obtain ⟨i,a,hi,rfl,he,hprev,hb,hk⟩ := hrel
   have HE := hZ0 he;clear he
   have HK := hZ0 hk;clear hk
   have b2 : wr.cell? ⟨w.heap.size,2,none⟩ = some (.slice A l.length c) := hb.cell 2
   by_cases hil : i < l.length
   ·obtain ⟨o,ho⟩ : ∃ o,l[i]? = some o := ⟨_,List.getElem?_eq_getElem hil⟩
    have hoi : l[i] = o := by rw [List.getElem?_eq_getElem hil] at ho;exact Option.some.inj ho
    obtain ⟨ad,rfl,had,e0,e1,e2⟩ := op_cells (HS.out.kept HK.out (fun _ _ x => x)) (by omega) i o ho
    have hd := chkL_at l i hil a (decide (i = 0))
    rw [hoi] at hd
    obtain ⟨f,hf⟩ : ∃ f,decide (i = 0) = f := ⟨_,rfl⟩
    rw [hf] at hd HE
    have h1c := one_cases o a f
    have HD := hZ0 hd;clear hd hoi
    have HO0 := hZ0 ho;clear ho
    have HB := hZ0 hb;clear hb
    have hb2 : ∀ obj,Has (wr.alloc obj) w.heap.size 29 #[.int .i64 cl,.int .i64 req,.slice (some ad) l.length c] := fun obj => HB.out.alloc obj
    have y2 : ∀ obj,(wr.alloc obj).cell? ⟨w.heap.size,2,none⟩ = some (.slice (some ad) l.length c) := fun obj => (hb2 obj).cell 2
    have hkey : ∀ W,Calls Try.prog 23 #[.string o.key] W fun e w' => e = .returned (.int .i64 (if o.key.size < 1 \/ 8 < o.key.size then 10 else 0)) /\ W = w' := rkcheck_any o.key
    have HBA := hZ0 hb2;clear hb2
    rcases h1c with ⟨hv,k1⟩ | ⟨hv,k1,k2⟩ | ⟨hv,k1,k2,k3,k4⟩ | ⟨hv,k1,k2,k3,k4,k5⟩ | ⟨hv,k1,k2,k3,k4⟩
    ·rw [if_pos k1] at hkey
     have hr := HE.out.trans HD.out
     rw [hv,if_pos (by decide)] at hr
     have HR := hZ0 hr;clear hr HE HD hv hprev
     have HKEY := hZ0 hkey;clear hkey k1
     go_wp2_with fail
     refine (HKEY.out _).mono ?_
     rintro e w2 ⟨rfl,rfl⟩
     go_wp2
     go_ret
     exact ⟨by rw [HR.out];rfl,HK.out.alloc _⟩
    ·rw [if_neg k1] at hkey
     have hr := HE.out.trans HD.out
     rw [hv,if_pos (by decide)] at hr
     have HR := hZ0 hr;clear hr HE HD hv hprev
     have HKEY := hZ0 hkey;clear hkey k1
     go_wp2_with fail
     refine (HKEY.out _).mono ?_
     rintro e w2 ⟨rfl,rfl⟩
     go_wp2
     go_ret
     exact ⟨by rw [HR.out];rfl,HK.out.alloc _⟩
    ·rw [if_neg k1] at hkey
     have hr := HE.out.trans HD.out
     rw [hv,if_pos (by decide)] at hr
     have HR := hZ0 hr;clear hr HE HD hv hprev
     have HKEY := hZ0 hkey;clear hkey k1
     obtain ⟨ok,ov,od⟩ := o
     dsimp only at *
     subst k3
     go_wp2_with fail
     refine (HKEY.out _).mono ?_
     rintro e w2 ⟨rfl,rfl⟩
     go_wp2
     go_ret
     exact ⟨by rw [HR.out];rfl,HK.out.alloc _⟩
    ·rw [if_neg k1] at hkey
     have hr := HE.out.trans HD.out
     rw [hv,if_pos (by decide)] at hr
     have HR := hZ0 hr;clear hr HE HD hv
     have HKEY := hZ0 hkey;clear hkey k1
     subst k4
     have hi0 : 0 < i := by
      rcases Nat.eq_zero_or_pos i with h0 | h0
      ·subst h0;simp at hf
      ·exact h0
     obtain ⟨o',ho',rfl⟩ := hprev hi0
     obtain ⟨ad',had',_,p0,_,_⟩ := op_cells (HS.out.kept HK.out (fun _ _ x => x)) (by omega) (i - 1) o' ho'
     injection had' with had'
     subst had'
     have p0' : ∀ obj,(wr.alloc obj).cell? (ad.add ((i - 1) * 3)) = some (.string o'.key) := fun obj => (World.cell?_of_block (w := wr) (Below.heap_alloc wr obj _ (by rw [block_add];exact had))).trans p0
     have q1 : ((i : Int) - 1).toNat = i - 1 := by omega
     have q2 : 0 <= (i : Int) - 1 := by omega
     have q3 : (i : Int) - 1 < l.length := by omega
     clear hf hprev
     obtain ⟨ok,ov,od⟩ := o
     dsimp only at *
     rcases k3 with rfl | ⟨rfl,k3⟩
     ·go_wp2_with fail
      refine (HKEY.out _).mono ?_
      rintro e w2 ⟨rfl,rfl⟩
      go_wp2
      go_quiet (fail)
      go_wp2
      go_ret
      exact ⟨by rw [HR.out];rfl,(HK.out.alloc _).drewN _⟩
     ·go_wp2_with fail
      refine (HKEY.out _).mono ?_
      rintro e w2 ⟨rfl,rfl⟩
      go_wp2
      go_quiet (fail)
      go_wp2
      go_ret
      exact ⟨by rw [HR.out];rfl,(HK.out.alloc _).drewN _⟩
    ·rw [if_neg k1] at hkey
     have hr := HE.out.trans HD.out
     rw [hv,if_neg (by simp)] at hr
     have HR := hZ0 hr;clear hr HE HD hv
     have HKEY := hZ0 hkey;clear hkey k1
     by_cases hi0 : i = 0
     ·have hi0' : ¬ 0 < i := by omega
      clear k4 hf hprev hi0
      obtain ⟨ok,ov,od⟩ := o
      dsimp only at *
      rcases k3 with rfl | ⟨rfl,k3⟩
      all_goals
       go_wp2_with fail
       refine (HKEY.out _).mono ?_
       rintro e w2 ⟨rfl,rfl⟩
       go_wp2
       go_quiet (fail)
       go_wp2
       go_roundw
       case rel =>
        refine ⟨i + 1,ok,by omega,by go_num,?_,fun _ => ⟨_,HO0.out,rfl⟩,(HBA.out _).drewN _,(HK.out.alloc _).drewN _⟩
        rw [HR.out]
        have : decide (i + 1 = 0) = false := by simp
        rw [this]
       case measure => simp [intOf];omega
     ·have hi0' : 0 < i := by omega
      have hf2 : f = false := by rw [<- hf];simp;omega
      have k5 : Op.bytesLess a.toList o.key.toList = true := by
       rcases k4 with rfl | ⟨_,h⟩
       ·cases hf2
       ·exact h
      clear k4
      subst hf2
      obtain ⟨o',ho',rfl⟩ := hprev hi0'
      obtain ⟨ad',had',_,p0,_,_⟩ := op_cells (HS.out.kept HK.out (fun _ _ x => x)) (by omega) (i - 1) o' ho'
      injection had' with had'
      subst had'
      have p0' : ∀ obj,(wr.alloc obj).cell? (ad.add ((i - 1) * 3)) = some (.string o'.key) := fun obj => (World.cell?_of_block (w := wr) (Below.heap_alloc wr obj _ (by rw [block_add];exact had))).trans p0
      have q1 : ((i : Int) - 1).toNat = i - 1 := by omega
      have q2 : 0 <= (i : Int) - 1 := by omega
      have q3 : (i : Int) - 1 < l.length := by omega
      clear hf hprev
      obtain ⟨ok,ov,od⟩ := o
      dsimp only at *
      rcases k3 with rfl | ⟨rfl,k3⟩
      all_goals
       go_wp2_with fail
       refine (HKEY.out _).mono ?_
       rintro e w2 ⟨rfl,rfl⟩
       go_wp2
       go_quiet (fail)
       go_wp2
       go_roundw
       case rel =>
        refine ⟨i + 1,ok,by omega,by go_num,?_,fun _ => ⟨_,HO0.out,rfl⟩,(HBA.out _).drewN _,(HK.out.alloc _).drewN _⟩
        rw [HR.out]
        have : decide (i + 1 = 0) = false := by simp
        rw [this]
       case measure => simp [intOf];omega
   ·obtain rfl : i = l.length := by omega
    have hr := HE.out
    rw [List.drop_length,chkL] at hr
    have HR := hZ0 hr;clear HE hr hprev
    go_wp2
    go_ret
    exact ⟨by rw [HR.out];rfl,HK.out⟩
end Ops
end Go.Proofs.Ytobfdolhgnoedaa
