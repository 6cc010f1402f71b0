/- Part 26 of what the proof needs. -/
import Derived.Test.YtgbigpdiacjbgaaGreatKO24
import Derived.StillTailTactics
set_option linter.unusedSimpArgs false
set_option linter.unusedVariables false
set_option maxHeartbeats 32000000
set_option maxRecDepth 100000
namespace Go.Proofs.YtgbigpdiacjbgaaGreat
open Go.RowKit
set_option maxRecDepth 100000
namespace Wire
open Vn Ops
theorem flag_any (w : World) (g : Nat) (s : ByteArray) (r : RS) (h : RdAt w g s r) (hs : s.size <= maxLen) :
  Calls Tryz.prog 139 #[.pointer (some ⟨g,0,none⟩)] w (RRead w g s (.bool (rFlag s r).1) (rFlag s r).2) := by
 have hmf : ∀ (fn : Fn) (first cap : Array Value) (w : World),(Instr.makeFunc fn first cap).run Tryz.prog w = .ok (.func fn first cap) w := fun _ _ _ _ => rfl
 have hgl := h.1.lt
 have H0 := hZ0 (h.alloc (.cells #[.pointer (some ⟨g,0,none⟩)] 118))
 have HK0 := hZ0 ((Kept.refl (fun k => k = g) w).alloc (.cells #[.pointer (some ⟨g,0,none⟩)] 118))
 have HX0 := hZ0 (Has.new w 118 #[.pointer (some ⟨g,0,none⟩)])
 obtain ⟨i,e0⟩ := r
 by_cases he : e0 = 0
 rotate_left
 ·have hr := rFlag_err (s := s) (q := (i,e0)) he
  rw [hr]
  have he2 : (e0 != 0) = true := by simpa using he
  clear he hr hs h
  go_enter_defers Tryz.func139,Tryz.ntmps139
  go_wp2_with fail
  refine (err_any _ _ _ _ H0.out).mono ?_
  rintro e w2 ⟨rfl,rfl⟩
  go_wp2
  exact ⟨_,results_tmp rfl _ _ _,rfl,H0.out,HK0.out⟩
 subst he
 have hi : i <= s.size := h.2
 have hx0 := HX0.out.cell 0
 have c0 := H0.out.1.cell 0
 have c1 := H0.out.1.cell 1
 have f1 := H0.out.1.frozen 1
 simp only [List.getElem?_toArray,List.getElem?_cons_zero,List.getElem?_cons_succ] at hx0 c0 c1
 unfold maxLen at hs
 clear h
 obtain ⟨W0,hW0⟩ : ∃ W0,w.alloc (.cells #[.pointer (some ⟨g,0,none⟩)] 118) = W0 := ⟨_,rfl⟩
 rw [hW0] at H0 HK0 HX0 hx0 c0 c1 f1
 have HW0 := hZ0 hW0;clear hW0
 by_cases hil : i = s.size
 ·have hr : rFlag s (i,0) = (false,(i,2)) := by
   unfold rFlag
   rw [if_neg (by simp)]
   have : (bl s)[i]? = none := List.getElem?_eq_none (by rw [size_bl];omega)
   rw [this]
  rw [hr]
  subst hil
  have hf := fails_no 2 (by decide)
  have HF := hZ0 hf
  clear hf hr
  go_enter_defers Tryz.func139,Tryz.ntmps139
  go_wp2_with fail
  rw [HW0.out]
  refine (err_any _ _ _ _ H0.out).mono ?_
  rintro e w2 ⟨rfl,rfl⟩
  go_wp2_with fail
  refine wp_region_still_tail 10 (by kernel_rfl) (by kernel_rfl) ?_
  simp only [List.take_succ_cons,List.take_zero,List.drop_succ_cons,List.drop_zero]
  change wpStill _ _ (World.drew W0) _ _ _
  repeat still_step
  refine wpStill_nil ?_
  change wpList _ _ _ _ _ (World.drew W0)
  go_wp2_with fail
  refine (HF.out _).mono ?_
  rintro e w3 ⟨rfl,rfl⟩
  go_wp2
  refine leaves_cons (f := 175) (args := #[.pointer (some ⟨w.heap.size,0,none⟩)]) (by simp) (by simp [go_sem]) ?_
  refine (catchFlag _ w.heap.size g s (s.size,0) 2 [] ⟨H0.out.1.drew,H0.out.2⟩ hx0).mono ?_
  rintro e u w3 ⟨rfl,rfl,rfl⟩
  simp [Leaves,settle,results,Tryz.results139,go_sem]
  exact ⟨rfl,⟨Has.put_of H0.out.1 rfl,hi⟩,((HK0.out.drew.drew).put (.inl rfl))⟩
 have hlt : i < s.size := by omega
 have hq : ((i : Int) == (s.size : Int)) = false := by rw [beq_eq_false_iff_ne];omega
 have hf : ∀ W,Calls Tryz.prog 94 #[.bool ((i : Int) == (s.size : Int)),.int .i64 2] W fun e w' => e = .returned (.tuple #[]) /\ W = w' := by rw [hq];exact fails_ok 2
 have HF := hZ0 hf;clear hf hq hil
 have hbl := bl_get s i hlt
 have i0 : (0 : Int) <= (i : Int) := by omega
 have i1 : (i : Int) < s.size := by omega
 obtain ⟨y,hy⟩ : ∃ y,s[i].toNat = y := ⟨_,rfl⟩
 by_cases hbig : 1 < y
 ·have hr : rFlag s (i,0) = (false,(i,4)) := by
   unfold rFlag
   rw [if_neg (by simp),hbl]
   simp only [hy,hbig,if_true]
  rw [hr]
  have hf4 : ∀ W,Calls Tryz.prog 94 #[.bool (decide ((1 : Int) < y)),.int .i64 4] W fun e w' => e = thrown 4 /\ W = w' := by rw [decide_eq_true (by omega)];exact fails_no 4 (by decide)
  have HF4 := hZ0 hf4;clear hf4
  clear hr hbl hbig
  go_enter_defers Tryz.func139,Tryz.ntmps139
  go_wp2_with fail
  rw [HW0.out]
  refine (err_any _ _ _ _ H0.out).mono ?_
  rintro e w2 ⟨rfl,rfl⟩
  go_wp2_with fail
  refine wp_region_still_tail 10 (by kernel_rfl) (by kernel_rfl) ?_
  simp only [List.take_succ_cons,List.take_zero,List.drop_succ_cons,List.drop_zero]
  change wpStill _ _ (World.drew W0) _ _ _
  repeat still_step
  refine wpStill_nil ?_
  change wpList _ _ _ _ _ (World.drew W0)
  go_wp2_with fail
  refine (HF.out _).mono ?_
  rintro e w3 ⟨rfl,rfl⟩
  go_wp2_with fail
  refine wp_region_still_tail 10 (by kernel_rfl) (by kernel_rfl) ?_
  simp only [List.take_succ_cons,List.take_zero,List.drop_succ_cons,List.drop_zero]
  change wpStill _ _ (World.drew W0.drew) _ _ _
  repeat still_step
  refine wpStill_nil ?_
  change wpList _ _ _ _ _ (World.drew W0.drew)
  go_wp2_with fail
  refine (HF4.out _).mono ?_
  rintro e w3 ⟨rfl,rfl⟩
  go_wp2
  refine leaves_cons (f := 175) (args := #[.pointer (some ⟨w.heap.size,0,none⟩)]) (by simp) (by simp [go_sem]) ?_
  refine (catchFlag _ w.heap.size g s (i,0) 4 [] ⟨H0.out.1.drew.drew,H0.out.2⟩ hx0).mono ?_
  rintro e u w3 ⟨rfl,rfl,rfl⟩
  simp [Leaves,settle,results,Tryz.results139,go_sem]
  exact ⟨rfl,⟨Has.put_of H0.out.1 rfl,hi⟩,((HK0.out.drew.drew.drew).put (.inl rfl))⟩
 ·have hr : rFlag s (i,0) = (decide (y = 1),(i + 1,0)) := by
   unfold rFlag
   rw [if_neg (by simp),hbl]
   simp only [hy,hbig,if_false]
  rw [hr]
  have hf4 : ∀ W,Calls Tryz.prog 94 #[.bool (decide ((1 : Int) < y)),.int .i64 4] W fun e w' => e = .returned (.tuple #[]) /\ W = w' := by rw [decide_eq_false (by omega)];exact fails_ok 4
  have HF4 := hZ0 hf4;clear hf4
  obtain ⟨b,hb⟩ : ∃ b,decide (y = 1) = b := ⟨_,rfl⟩
  have hb2 : ((y : Int) == 1) = b := by
   rw [<- hb]
   by_cases h : y = 1
   ·subst h;rfl
   ·rw [decide_eq_false h,beq_eq_false_iff_ne];omega
  rw [hb]
  clear hr hbl hbig hb
  go_enter_defers Tryz.func139,Tryz.ntmps139
  go_wp2_with fail
  rw [HW0.out]
  refine (err_any _ _ _ _ H0.out).mono ?_
  rintro e w2 ⟨rfl,rfl⟩
  go_wp2_with fail
  refine wp_region_still_tail 10 (by kernel_rfl) (by kernel_rfl) ?_
  simp only [List.take_succ_cons,List.take_zero,List.drop_succ_cons,List.drop_zero]
  change wpStill _ _ (World.drew W0) _ _ _
  repeat still_step
  refine wpStill_nil ?_
  change wpList _ _ _ _ _ (World.drew W0)
  go_wp2_with fail
  refine (HF.out _).mono ?_
  rintro e w3 ⟨rfl,rfl⟩
  go_wp2_with fail
  refine wp_region_still_tail 10 (by kernel_rfl) (by kernel_rfl) ?_
  simp only [List.take_succ_cons,List.take_zero,List.drop_succ_cons,List.drop_zero]
  change wpStill _ _ (World.drew W0.drew) _ _ _
  repeat still_step
  refine wpStill_nil ?_
  change wpList _ _ _ _ _ (World.drew W0.drew)
  go_wp2_with fail
  refine (HF4.out _).mono ?_
  rintro e w3 ⟨rfl,rfl⟩
  go_wp2_with fail
  go_quiet (fail)
  go_wp2
  refine leaves_cons (f := 175) (args := #[.pointer (some ⟨w.heap.size,0,none⟩)]) (by simp) (by simp [go_sem]) ?_
  refine (idleFlag _ w.heap.size g ?_).mono ?_
  ·exact (HX0.out.past (by omega)).cell 0
  rintro e u w3 ⟨rfl,rfl,rfl⟩
  simp [Leaves,settle,results,Tryz.results139,go_sem]
  exact ⟨rfl,⟨Has.put_of H0.out.1 rfl,by omega⟩,(((HK0.out.drewN _).put (.inl rfl)).drew)⟩
theorem rbig_any (w : World) (g : Nat) (s : ByteArray) (r : RS) (h : RdAt w g s r) (hs : s.size <= maxLen) :
  Calls Tryz.prog 102 #[.pointer (some ⟨g,0,none⟩)] w (RRead w g s (.int .u64 (rBig s r).1) (rBig s r).2) := by
 have hmf : ∀ (fn : Fn) (first cap : Array Value) (w : World),(Instr.makeFunc fn first cap).run Tryz.prog w = .ok (.func fn first cap) w := fun _ _ _ _ => rfl
 have hgl := h.1.lt
 have H0 := hZ0 (h.alloc (.cells #[.pointer (some ⟨g,0,none⟩)] 118))
 have HK0 := hZ0 ((Kept.refl (fun k => k = g) w).alloc (.cells #[.pointer (some ⟨g,0,none⟩)] 118))
 have HX0 := hZ0 (Has.new w 118 #[.pointer (some ⟨g,0,none⟩)])
 obtain ⟨i,e0⟩ := r
 by_cases he : e0 = 0
 rotate_left
 ·have hr := rBig_err (s := s) (q := (i,e0)) he
  rw [hr]
  have he2 : (e0 != 0) = true := by simpa using he
  clear he hr hs h
  go_enter_defers Tryz.func102,Tryz.ntmps102
  go_wp2_with fail
  refine (err_any _ _ _ _ H0.out).mono ?_
  rintro e w2 ⟨rfl,rfl⟩
  go_wp2
  exact ⟨_,results_tmp rfl _ _ _,rfl,H0.out,HK0.out⟩
 subst he
 have hx0 := HX0.out.cell 0
 simp only [List.getElem?_toArray,List.getElem?_cons_zero] at hx0
 cases hg : get (bl s) i with
 | error c =>
  have hr : rBig s (i,0) = (0,(i,(c : Int))) := by
   unfold rBig
   simp [hg]
  rw [hr]
  have hb := fun W (hW : RdAt W g s (i,0)) => big_no W g s i c hW hs hg
  have HB := hZ0 hb;clear hb hr hs h hg
  go_enter_defers Tryz.func102,Tryz.ntmps102
  go_wp2_with fail
  refine (err_any _ _ _ _ H0.out).mono ?_
  rintro e w2 ⟨rfl,rfl⟩
  go_wp2_with fail
  refine (HB.out _ H0.out).mono ?_
  rintro e w2 ⟨rfl,hr,hk⟩
  have HR := hZ0 (And.intro hr hk);clear hr hk
  go_wp2
  refine leaves_cons (f := 142) (args := #[.pointer (some ⟨w.heap.size,0,none⟩)]) (by simp) (by simp [go_sem]) ?_
  refine (catchBig _ w.heap.size g s (i,0) c [] HR.out.1 ((HX0.out.kept HR.out.2 (fun x => x)).cell 0)).mono ?_
  rintro e u w3 ⟨rfl,rfl,rfl⟩
  simp [Leaves,settle,results,Tryz.results102,go_sem]
  exact ⟨rfl,⟨Has.put_of HR.out.1.1.drew rfl,HR.out.1.2⟩,((HK0.out.then (HR.out.2.mono fun _ x => x.elim)).drew).put (.inl rfl)⟩
 | ok q =>
  obtain ⟨n,j⟩ := q
  obtain ⟨p1,p2,p3,p4⟩ := put_get hg
  rw [size_bl] at p2
  have hb := fun W (hW : RdAt W g s (i,0)) => big_ok W g s i n j hW hs hg p2
  have HB := hZ0 hb;clear hb
  have hr : rBig s (i,0) = (n,(j,0)) := by
   unfold rBig
   simp [hg]
  rw [hr]
  clear hr hs h hg p1 p2 p3 p4
  go_enter_defers Tryz.func102,Tryz.ntmps102
  go_wp2_with fail
  refine (err_any _ _ _ _ H0.out).mono ?_
  rintro e w2 ⟨rfl,rfl⟩
  go_wp2_with fail
  refine (HB.out _ H0.out).mono ?_
  rintro e w2 ⟨rfl,hr,hk⟩
  have HR := hZ0 (And.intro hr hk);clear hr hk
  have hx2 := (HX0.out.kept HR.out.2 (by omega)).cell 0
  simp only [List.getElem?_toArray,List.getElem?_cons_zero] at hx2
  go_wp2
  refine leaves_cons (f := 142) (args := #[.pointer (some ⟨w.heap.size,0,none⟩)]) (by simp) (by simp [go_sem]) ?_
  refine (idleBig _ w.heap.size g hx2).mono ?_
  rintro e u w3 ⟨rfl,rfl,rfl⟩
  simp [Leaves,settle,results,Tryz.results102,go_sem]
  exact ⟨rfl,⟨HR.out.1.1.drew,HR.out.1.2⟩,(HK0.out.then HR.out.2).drew⟩
theorem left_any (w : World) (g : Nat) (s : ByteArray) (i : Nat) (h : RdAt w g s (i,0)) (hs : s.size <= maxLen) :
  Calls Tryz.prog 105 #[.pointer (some ⟨g,0,none⟩)] w fun e w' => e = .returned (.int .i64 ((s.size : Int) - i)) /\ Kept NoF w w' := by
 have hi : i <= s.size := h.2
 have c0 := h.1.cell 0
 have c1 := h.1.cell 1
 simp only [List.getElem?_toArray,List.getElem?_cons_zero,List.getElem?_cons_succ] at c0 c1
 have he := err_any w g s (i,0) h
 have HE := hZ0 he;clear he h
 unfold maxLen at hs
 go_enter Tryz.func105,Tryz.ntmps105
 go_wp2_with fail
 refine HE.out.mono ?_
 rintro e w2 ⟨rfl,rfl⟩
 go_wp2_with fail
 go_quiet (fail)
 go_wp2
 go_ret
 exact ⟨rfl,(Kept.refl _ _).drewN _⟩
theorem end_any (w : World) (g : Nat) (s : ByteArray) (r : RS) (h : RdAt w g s r) (hs : s.size <= maxLen) :
  Calls Tryz.prog 62 #[.pointer (some ⟨g,0,none⟩)] w fun e w' => e = .returned (.int .i64 (rEnd s r)) /\ Kept NoF w w' := by
 obtain ⟨i,e0⟩ := r
 have he := err_any w g s (i,e0) h
 have HE := hZ0 he;clear he
 unfold rEnd
 dsimp only
 by_cases h0 : e0 = 0
 rotate_left
 ·rw [if_pos h0]
  have h2 : (e0 != 0) = true := by simpa using h0
  clear h h0
  go_enter Tryz.func62,Tryz.ntmps62
  go_wp2_with fail
  refine HE.out.mono ?_
  rintro e w2 ⟨rfl,rfl⟩
  go_wp2
  go_ret
  exact ⟨rfl,Kept.refl _ _⟩
 subst h0
 rw [if_neg (by simp)]
 have hl := left_any w g s i h hs
 have HL := hZ0 hl;clear hl
 have hi : i <= s.size := h.2
 clear h
 by_cases hlt : i < s.size
 ·rw [if_pos hlt]
  have hp : (0 : Int) < (s.size : Int) - i := by omega
  go_enter Tryz.func62,Tryz.ntmps62
  go_wp2_with fail
  refine HE.out.mono ?_
  rintro e w2 ⟨rfl,rfl⟩
  go_wp2_with fail
  refine HL.out.mono ?_
  rintro e w2 ⟨rfl,hk⟩
  have HK := hZ0 hk;clear hk
  go_wp2
  go_ret
  exact ⟨rfl,HK.out⟩
 ·rw [if_neg hlt]
  have hp : ¬ (0 : Int) < (s.size : Int) - i := by omega
  go_enter Tryz.func62,Tryz.ntmps62
  go_wp2_with fail
  refine HE.out.mono ?_
  rintro e w2 ⟨rfl,rfl⟩
  go_wp2_with fail
  refine HL.out.mono ?_
  rintro e w2 ⟨rfl,hk⟩
  have HK := hZ0 hk;clear hk
  go_wp2
  go_ret
  exact ⟨rfl,HK.out⟩
theorem open_any (w : World) (s : ByteArray) : Calls Tryz.prog 56 #[.string s] w fun e w' => e = .returned (.pointer (some ⟨w.heap.size,0,none⟩)) /\ RdAt w' w.heap.size s (0,0) /\ Kept NoF w w' := by
 go_enter Tryz.func56,Tryz.ntmps56
 go_wp2
 go_ret
 exact ⟨rfl,⟨Has.new _ _ _,Nat.zero_le _⟩,(Kept.refl _ _).alloc _⟩
end Wire
end Go.Proofs.YtgbigpdiacjbgaaGreat
