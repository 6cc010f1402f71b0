/- Part 40 of what the proof needs. -/
import Derived.Test.YtgbigpdiacjbgaaGreatKO24
import Derived.StillTailTactics
import Derived.Deep.RegionHeld3
set_option linter.unusedSimpArgs false
set_option linter.unusedVariables false
set_option maxHeartbeats 32000000
set_option maxRecDepth 100000
namespace Go.Proofs.YtgbigpdiacjbgaaGreat
open Go.RowKit
set_option maxRecDepth 100000
namespace Wire
open Vn Ops
def DdAt (w : World) (g : Nat) (s : ByteArray) (r : RS) : Prop := Has w g 91 #[.string s,.int .i64 r.1,.int .i64 r.2] /\ r.1 <= s.size
def DRead (w : World) (g : Nat) (s : ByteArray) (v : Value) (r : RS) (e : Ending) (w' : World) : Prop := e = .returned v /\ DdAt w' g s r /\ Kept (fun k => k = g) w w'
theorem rget_n (s : ByteArray) (i : Nat) (hi : i <= s.size) (hs : s.size <= maxLen) (v : Value) (hv : getT (get (bl s) i) = v) (w : World) : Calls Tryz.prog 107 #[.string s,.int .i64 i] w fun e w' => e = .returned v /\ Kept NoF w w' := by
 rw [<- hv];exact rget_any s i hi hs w
theorem dbig_any (w : World) (g : Nat) (s : ByteArray) (r : RS) (h : DdAt w g s r) (hs : s.size <= maxLen) :
  Calls Tryz.prog 68 #[.pointer (some ⟨g,0,none⟩)] w (DRead w g s (.int .u64 (rBig s r).1) (rBig s r).2) := by
 obtain ⟨i,e0⟩ := r
 have hi : i <= s.size := h.2
 have c0 := h.1.cell 0
 have c1 := h.1.cell 1
 have c2 := h.1.cell 2
 have f1 := h.1.frozen 1
 have f2 := h.1.frozen 2
 simp only [List.getElem?_toArray,List.getElem?_cons_zero,List.getElem?_cons_succ] at c0 c1 c2
 have H := hZ0 h;clear h
 by_cases he : e0 = 0
 rotate_left
 ·have hr := rBig_err (s := s) (q := (i,e0)) he
  rw [hr]
  have he2 : (e0 != 0) = true := by simpa using he
  clear he hr hs
  go_enter Tryz.func68,Tryz.ntmps68
  go_wp2
  go_ret
  exact ⟨rfl,H.out,Kept.refl _ _⟩
 subst he
 have hc : ∀ w',Kept NoF w w' -> (w'.cell? ⟨g,0,none⟩ = some (.string s) /\ w'.cell? ⟨g,1,none⟩ = some (.int .i64 i) /\ w'.cell? ⟨g,2,none⟩ = some (.int .i64 0)) /\ w'.frozen? ⟨g,1,none⟩ = false /\ w'.frozen? ⟨g,2,none⟩ = false := fun w' hk => by
  have hx := H.out.1.kept hk (fun x => x)
  exact ⟨⟨hx.cell 0,hx.cell 1,hx.cell 2⟩,hx.frozen 1,hx.frozen 2⟩
 have HC := hZ0 hc;clear hc
 cases hg : get (bl s) i with
 | error c =>
  have hr : rBig s (i,0) = (0,(i,(c : Int))) := by
   unfold rBig
   simp [hg]
  rw [hr]
  have hce := get_err hg
  have hc0 : ((c : Int) != 0) = true := by simp;omega
  have hb := fun W => rget_n s i hi hs _ (congrArg getT hg) W
  simp only [getT] at hb
  have HB := hZ0 hb;clear hb hr hs hg hce
  go_enter Tryz.func68,Tryz.ntmps68
  go_wp2_with fail
  go_region_held3 (fun W => W.cell? ⟨g,0,none⟩ = some (.string s) /\ W.cell? ⟨g,1,none⟩ = some (.int .i64 i)) (first | with_reducible exact ⟨q0,q1⟩ | exact ⟨c0,c1⟩ | (simp [go_sem,c0,c1];done))
   ((go_at_call 107;refine (HB.out _).mono ?_;rintro e w2 ⟨rfl,hk0⟩;have hk : Kept NoF w w2 := Kept.then (a := w) (by (repeat' (first | (with_reducible first | exact kR0 | apply kP0 | apply kN0 | apply kD0 | apply kA0) | (right;simp;done)))) hk0;clear hk0;obtain ⟨⟨q0,q1,q2⟩,g1,g2⟩ := HC.out _ hk;have HK := hZ0 hk;clear hk))
  go_wp2
  go_ret
  exact ⟨rfl,⟨Has.put_of (H.out.1.kept HK.out (fun x => x)) rfl,hi⟩,(HK.out.mono fun _ x => x.elim).put (.inl rfl)⟩
 | ok q =>
  obtain ⟨n,j⟩ := q
  obtain ⟨p1,p2,p3,p4⟩ := put_get hg
  rw [size_bl] at p2
  have hr : rBig s (i,0) = (n,(j,0)) := by
   unfold rBig
   simp [hg]
  rw [hr]
  have hb := fun W => rget_n s i hi hs _ (congrArg getT hg) W
  simp only [getT] at hb
  have HB := hZ0 hb;clear hb hr hs hg p1 p3 p4
  go_enter Tryz.func68,Tryz.ntmps68
  go_wp2_with fail
  go_region_held3 (fun W => W.cell? ⟨g,0,none⟩ = some (.string s) /\ W.cell? ⟨g,1,none⟩ = some (.int .i64 i)) (first | with_reducible exact ⟨q0,q1⟩ | exact ⟨c0,c1⟩ | (simp [go_sem,c0,c1];done))
   ((go_at_call 107;refine (HB.out _).mono ?_;rintro e w2 ⟨rfl,hk0⟩;have hk : Kept NoF w w2 := Kept.then (a := w) (by (repeat' (first | (with_reducible first | exact kR0 | apply kP0 | apply kN0 | apply kD0 | apply kA0) | (right;simp;done)))) hk0;clear hk0;obtain ⟨⟨q0,q1,q2⟩,g1,g2⟩ := HC.out _ hk;have HK := hZ0 hk;clear hk))
  go_wp2
  go_ret
  exact ⟨rfl,⟨Has.put_of (H.out.1.kept HK.out (fun x => x)) rfl,p2⟩,(HK.out.mono fun _ x => x.elim).put (.inl rfl)⟩
theorem rBig_zero {s : ByteArray} {r : RS} (h : (rBig s r).2.2 ≠ 0) : (rBig s r).1 = 0 := by
 unfold rBig at h ⊢
 split
 ·rfl
 ·rename_i h0
  rw [if_neg h0] at h
  split
  ·rename_i n j hg
   rw [hg] at h
   exact absurd rfl h
  ·rfl
theorem dnum_any (w : World) (g : Nat) (s : ByteArray) (r : RS) (most : Nat) (h : DdAt w g s r) (hs : s.size <= maxLen) (hm : most <= 9223372036854775807) :
  Calls Tryz.prog 36 #[.pointer (some ⟨g,0,none⟩),.int .i64 most] w (DRead w g s (.int .i64 (rNum s most r).1) (rNum s most r).2) := by
 have hb := dbig_any w g s r h hs
 have hz := rBig_zero (s := s) (r := r)
 unfold rNum
 obtain ⟨q,hq⟩ : ∃ q,rBig s r = q := ⟨_,rfl⟩
 rw [hq] at hb hz ⊢
 obtain ⟨n,j,e0⟩ := q
 dsimp only at hb hz ⊢
 clear h hq
 have HB := hZ0 hb;clear hb
 have hcv := conv_u64 most (by omega)
 by_cases h0 : e0 = 0
 rotate_left
 ·rw [if_neg (fun x => h0 x.1)]
  obtain rfl := hz h0
  have q1 : (e0 == 0) = false := by rw [beq_eq_false_iff_ne];exact h0
  have q2 : (e0 != 0) = true := by simpa using h0
  clear hz h0 hs
  go_enter Tryz.func36,Tryz.ntmps36
  go_wp2_with fail
  refine HB.out.mono ?_
  rintro e w2 ⟨rfl,h2,hk⟩
  have c2 := h2.1.cell 2
  have f2 := h2.1.frozen 2
  simp only [List.getElem?_toArray,List.getElem?_cons_zero,List.getElem?_cons_succ] at c2
  have H2 := hZ0 (And.intro h2 hk);clear h2 hk
  go_wp2
  go_ret
  exact ⟨rfl,H2.out.1,H2.out.2⟩
 subst h0
 clear hz hs
 by_cases hlt : most < n
 ·rw [if_pos ⟨rfl,hlt⟩]
  go_enter Tryz.func36,Tryz.ntmps36
  go_wp2_with fail
  refine HB.out.mono ?_
  rintro e w2 ⟨rfl,h2,hk⟩
  have c2 := h2.1.cell 2
  have f2 := h2.1.frozen 2
  simp only [List.getElem?_toArray,List.getElem?_cons_zero,List.getElem?_cons_succ] at c2
  have H2 := hZ0 (And.intro h2 hk);clear h2 hk
  go_wp2
  go_ret
  exact ⟨rfl,⟨Has.put_of H2.out.1.1 rfl,H2.out.1.2⟩,H2.out.2.put (.inl rfl)⟩
 ·rw [if_neg (fun x => hlt x.2)]
  have hcv2 := conv_i64 n (by omega)
  go_enter Tryz.func36,Tryz.ntmps36
  go_wp2_with fail
  refine HB.out.mono ?_
  rintro e w2 ⟨rfl,h2,hk⟩
  have c2 := h2.1.cell 2
  have f2 := h2.1.frozen 2
  simp only [List.getElem?_toArray,List.getElem?_cons_zero,List.getElem?_cons_succ] at c2
  have H2 := hZ0 (And.intro h2 hk);clear h2 hk
  go_wp2
  go_ret
  exact ⟨rfl,H2.out.1,H2.out.2⟩
theorem conv_sub2 (a b : Nat) (h : b <= a) (ha : a <= 9223372036854775807) (W : World) : (convert 3 22 (.int .i64 ((a : Int) - b))).run Tryz.prog W = .ok (.int .u64 ((a : Int) - b)) W := by
 have e : (a : Int) - b = ((a - b : Nat) : Int) := by omega
 rw [e]
 exact conv_u64 _ (by omega) W
theorem dtext_any (w : World) (g : Nat) (s : ByteArray) (r : RS) (most : Nat) (h : DdAt w g s r) (hs : s.size <= maxLen) (hm : most <= 9223372036854775807) :
  Calls Tryz.prog 70 #[.pointer (some ⟨g,0,none⟩),.int .i64 most] w (DRead w g s (.string (rText s most r).1) (rText s most r).2) := by
 have hb := dbig_any w g s r h hs
 unfold rText
 obtain ⟨q,hq⟩ : ∃ q,rBig s r = q := ⟨_,rfl⟩
 rw [hq] at hb ⊢
 obtain ⟨n,j,e0⟩ := q
 dsimp only at hb ⊢
 clear h hq
 have HB := hZ0 hb;clear hb
 have hcv := conv_u64 most (by omega)
 unfold maxLen at hs
 by_cases h0 : e0 = 0
 rotate_left
 ·rw [if_pos h0]
  have q1 : (e0 == 0) = false := by rw [beq_eq_false_iff_ne];exact h0
  have q2 : (e0 != 0) = true := by simpa using h0
  clear h0
  go_enter Tryz.func70,Tryz.ntmps70
  go_wp2_with fail
  refine HB.out.mono ?_
  rintro e w2 ⟨rfl,h2,hk⟩
  have c0 := h2.1.cell 0
  have c1 := h2.1.cell 1
  have c2 := h2.1.cell 2
  simp only [List.getElem?_toArray,List.getElem?_cons_zero,List.getElem?_cons_succ] at c0 c1 c2
  have H2 := hZ0 (And.intro h2 hk);clear h2 hk
  go_wp2
  go_quiet (fail)
  go_wp2
  go_ret
  exact ⟨rfl,⟨H2.out.1.1.drewN _,H2.out.1.2⟩,H2.out.2.drewN _⟩
 subst h0
 simp only [ne_eq,not_true_eq_false,if_false]
 by_cases hlt : most < n
 ·rw [if_pos hlt]
  go_enter Tryz.func70,Tryz.ntmps70
  go_wp2_with fail
  refine HB.out.mono ?_
  rintro e w2 ⟨rfl,h2,hk⟩
  have c2 := h2.1.cell 2
  have f2 := h2.1.frozen 2
  simp only [List.getElem?_toArray,List.getElem?_cons_zero,List.getElem?_cons_succ] at c2
  have d2 : (w2.setCell ⟨g,2,none⟩ (.int .i64 3)).cell? ⟨g,2,none⟩ = some (.int .i64 3) := (Has.put_of h2.1 rfl).cell 2
  have H2 := hZ0 (And.intro h2 hk);clear h2 hk
  go_wp2
  go_quiet (fail)
  go_wp2
  go_ret
  exact ⟨rfl,⟨(Has.put_of H2.out.1.1 rfl).drewN _,H2.out.1.2⟩,(H2.out.2.put (.inl rfl)).drewN _⟩
 rw [if_neg hlt]
 by_cases hsh : s.size - j < n
 ·rw [if_pos hsh]
  go_enter Tryz.func70,Tryz.ntmps70
  go_wp2_with fail
  refine HB.out.mono ?_
  rintro e w2 ⟨rfl,h2,hk⟩
  have hj : j <= s.size := h2.2
  have c0 := h2.1.cell 0
  have c1 := h2.1.cell 1
  have c2 := h2.1.cell 2
  have f2 := h2.1.frozen 2
  simp only [List.getElem?_toArray,List.getElem?_cons_zero,List.getElem?_cons_succ] at c0 c1 c2
  have H2 := hZ0 (And.intro h2 hk);clear h2 hk
  have hcv3 := conv_sub2 s.size j hj hs
  have hd : decide ((s.size : Int) - j < n) = true := decide_eq_true (by omega)
  have hd2 : (s.size : Int) - j < n := by omega
  go_wp2
  go_quiet (fail)
  go_wp2
  go_ret
  exact ⟨rfl,⟨Has.put_of (H2.out.1.1.drewN _) rfl,H2.out.1.2⟩,(H2.out.2.drewN _).put (.inl rfl)⟩
 ·rw [if_neg hsh]
  have hcv2 := conv_i64 n (by omega)
  go_enter Tryz.func70,Tryz.ntmps70
  go_wp2_with fail
  refine HB.out.mono ?_
  rintro e w2 ⟨rfl,h2,hk⟩
  have hj : j <= s.size := h2.2
  have c0 := h2.1.cell 0
  have c1 := h2.1.cell 1
  have c2 := h2.1.cell 2
  have f1 := h2.1.frozen 1
  have f2 := h2.1.frozen 2
  simp only [List.getElem?_toArray,List.getElem?_cons_zero,List.getElem?_cons_succ] at c0 c1 c2
  have H2 := hZ0 (And.intro h2 hk);clear h2 hk
  have hcv3 := conv_sub2 s.size j hj hs
  have hd : decide ((s.size : Int) - j < n) = false := decide_eq_false (by omega)
  have hd2 : ¬ (s.size : Int) - j < n := by omega
  have hto : (j : Int) + n <= s.size := by omega
  have hw : IntKind.i64.wrap ((j : Int) + n) = (j : Int) + n := IntWalk.i64_in _ (by omega)
  have htn : ((j : Int) + n).toNat = j + n := by omega
  have ht0 : (0 : Int) <= (j : Int) + n := by omega
  have ht1 : (j : Int) <= (j : Int) + n := by omega
  go_wp2
  go_quiet (fail)
  go_wp2
  go_quiet (fail)
  go_wp2
  go_ret
  exact ⟨rfl,⟨Has.put_of (H2.out.1.1.drewN _) rfl,by omega⟩,(H2.out.2.drewN _).put (.inl rfl)⟩
end Wire
namespace Wire
open Vn Ops
theorem dflag_any (w : World) (g : Nat) (s : ByteArray) (r : RS) (h : DdAt w g s r) (hs : s.size <= maxLen) :
  Calls Tryz.prog 69 #[.pointer (some ⟨g,0,none⟩)] w (DRead w g s (.bool (rFlag s r).1) (rFlag s r).2) := by
 obtain ⟨i,e0⟩ := r
 have hi : i <= s.size := h.2
 have c0 := h.1.cell 0
 have c1 := h.1.cell 1
 have c2 := h.1.cell 2
 have f1 := h.1.frozen 1
 have f2 := h.1.frozen 2
 simp only [List.getElem?_toArray,List.getElem?_cons_zero,List.getElem?_cons_succ] at c0 c1 c2
 have H := hZ0 h;clear h
 unfold maxLen at hs
 by_cases he : e0 = 0
 rotate_left
 ·have hr := rFlag_err (s := s) (q := (i,e0)) he
  rw [hr]
  have q1 : (e0 == 0) = false := by rw [beq_eq_false_iff_ne];exact he
  have q2 : (e0 != 0) = true := by simpa using he
  clear he hr
  go_enter Tryz.func69,Tryz.ntmps69
  go_wp2
  go_quiet (fail)
  go_wp2
  go_quiet (fail)
  go_wp2
  go_ret
  exact ⟨rfl,⟨H.out.1.drewN _,H.out.2⟩,(Kept.refl (fun k => k = g) w).drewN _⟩
 subst he
 by_cases hil : i = s.size
 ·have hr : rFlag s (i,0) = (false,(i,2)) := by
   unfold rFlag
   rw [if_neg (by simp)]
   have : (bl s)[i]? = none := List.getElem?_eq_none (by rw [size_bl];omega)
   rw [this]
  rw [hr]
  subst hil
  clear hr
  go_enter Tryz.func69,Tryz.ntmps69
  go_wp2
  go_quiet (fail)
  go_wp2
  go_quiet (fail)
  go_wp2
  go_ret
  exact ⟨rfl,⟨(Has.put_of (H.out.1.drewN _) rfl).drewN _,hi⟩,((Kept.refl (fun k => k = g) w).drewN _ |>.put (.inl rfl)).drewN _⟩
 have hlt : i < s.size := by omega
 have hq : ((i : Int) == (s.size : Int)) = false := by rw [beq_eq_false_iff_ne];omega
 have hbl := bl_get s i hlt
 have i0 : (0 : Int) <= (i : Int) := by omega
 have i1 : (i : Int) < s.size := by omega
 obtain ⟨y,hy⟩ : ∃ y,s[i].toNat = y := ⟨_,rfl⟩
 clear hil
 by_cases hbig : 1 < y
 ·have hr : rFlag s (i,0) = (false,(i,4)) := by
   unfold rFlag
   rw [if_neg (by simp),hbl]
   simp only [hy,hbig,if_true]
  rw [hr]
  have hd : decide ((1 : Int) < y) = true := decide_eq_true (by omega)
  clear hr hbl hbig
  go_enter Tryz.func69,Tryz.ntmps69
  go_wp2
  go_quiet (fail)
  go_wp2
  go_quiet (fail)
  go_wp2
  go_ret
  exact ⟨rfl,⟨Has.put_of (H.out.1.drewN _) rfl,hi⟩,((Kept.refl (fun k => k = g) w).drewN _ |>.put (.inl rfl))⟩
 ·have hr : rFlag s (i,0) = (decide (y = 1),(i + 1,0)) := by
   unfold rFlag
   rw [if_neg (by simp),hbl]
   simp only [hy,hbig,if_false]
  rw [hr]
  obtain ⟨b,hb⟩ : ∃ b,decide (y = 1) = b := ⟨_,rfl⟩
  have hb2 : ((y : Int) == 1) = b := by
   rw [<- hb]
   by_cases h : y = 1
   ·subst h;rfl
   ·rw [decide_eq_false h,beq_eq_false_iff_ne];omega
  rw [hb]
  have hd : decide ((1 : Int) < y) = false := decide_eq_false (by omega)
  clear hr hbl hbig hb
  go_enter Tryz.func69,Tryz.ntmps69
  go_wp2
  go_quiet (fail)
  go_wp2
  go_quiet (fail)
  go_wp2
  go_quiet (fail)
  go_wp2
  go_ret
  exact ⟨rfl,⟨Has.put_of (H.out.1.drewN _) rfl,by omega⟩,((Kept.refl (fun k => k = g) w).drewN _ |>.put (.inl rfl))⟩
theorem dend_any (w : World) (g : Nat) (s : ByteArray) (r : RS) (h : DdAt w g s r) (hs : s.size <= maxLen) :
  Calls Tryz.prog 39 #[.pointer (some ⟨g,0,none⟩)] w fun e w' => e = .returned (.int .i64 (rEnd s r)) /\ Kept NoF w w' := by
 obtain ⟨i,e0⟩ := r
 have hi : i <= s.size := h.2
 have c0 := h.1.cell 0
 have c1 := h.1.cell 1
 have c2 := h.1.cell 2
 simp only [List.getElem?_toArray,List.getElem?_cons_zero,List.getElem?_cons_succ] at c0 c1 c2
 clear h
 unfold maxLen at hs
 unfold rEnd
 dsimp only
 by_cases h0 : e0 = 0
 rotate_left
 ·rw [if_pos h0]
  have q1 : (e0 == 0) = false := by rw [beq_eq_false_iff_ne];exact h0
  clear h0
  go_enter Tryz.func39,Tryz.ntmps39
  go_wp2_with fail
  go_quiet (fail)
  go_wp2
  go_ret
  exact ⟨rfl,(Kept.refl _ _).drewN _⟩
 subst h0
 rw [if_neg (by simp)]
 by_cases hlt : i < s.size
 ·rw [if_pos hlt]
  go_enter Tryz.func39,Tryz.ntmps39
  go_wp2_with fail
  go_quiet (fail)
  go_wp2
  go_ret
  exact ⟨rfl,(Kept.refl _ _).drewN _⟩
 ·rw [if_neg hlt]
  go_enter Tryz.func39,Tryz.ntmps39
  go_wp2_with fail
  go_quiet (fail)
  go_wp2
  go_ret
  exact ⟨rfl,(Kept.refl _ _).drewN _⟩
end Wire
end Go.Proofs.YtgbigpdiacjbgaaGreat
