/- Part 3 of what the proof needs. -/
import Derived.Test.YtobfdolhgnoedaaAG01
import Derived.Deep.RegionLaw
import Derived.Shelf.Strings.BuilderK
import Derived.Laws.Externs
import Derived.Deep.RegionHeld3
import Derived.Sort.KeysCollected
import Derived.Sort.Walk0
import Derived.Maps.OwnSet
import Derived.Maps.Views
set_option linter.unusedSimpArgs false
set_option linter.unusedVariables false
set_option maxHeartbeats 32000000
set_option maxRecDepth 100000
namespace Go.Proofs.Ytobfdolhgnoedaa
open Go.RowKit Go.Shelf
set_option maxRecDepth 100000
namespace Ops
open Vn
abbrev oagg (o : OpR) : Value := .agg #[.string o.key,.string o.val,.bool o.del]
abbrev bagg (b : Batch) (A : Option Addr) (c : Nat) : Value := .agg #[.int .i64 b.cl,.int .i64 b.req,.slice A b.ops.length c]
theorem op_cells {w : World} {A : Option Addr} {m : Nat} {l : List OpR} (h : Src w 3 A m (cells l)) (hm : 0 < m) (i : Nat) (p : OpR) (hp : l[i]? = some p) :
  ∃ ad,A = some ad /\ ad.block < w.heap.size /\ w.cell? (ad.add (i * 3)) = some (.string p.key) /\ w.cell? ⟨(ad.add (i * 3)).block,(ad.add (i * 3)).off + 1,none⟩ = some (.string p.val) /\ w.cell? ⟨(ad.add (i * 3)).block,(ad.add (i * 3)).off + 2,none⟩ = some (.bool p.del) := by
 obtain ⟨ad,rfl,had,hcell⟩ := h.2 hm
 have k0 : (cells l)[i * 3]? = some (.string p.key) := by
  unfold cells
  rw [flat_get cell 3 (by decide) (fun _ => rfl),show i * 3 / 3 = i by omega,show i * 3 % 3 = 0 by omega,hp];rfl
 have k1 : (cells l)[i * 3 + 1]? = some (.string p.val) := by
  unfold cells
  rw [flat_get cell 3 (by decide) (fun _ => rfl),show (i * 3 + 1) / 3 = i by omega,show (i * 3 + 1) % 3 = 1 by omega,hp];rfl
 have k2 : (cells l)[i * 3 + 2]? = some (.bool p.del) := by
  unfold cells
  rw [flat_get cell 3 (by decide) (fun _ => rfl),show (i * 3 + 2) / 3 = i by omega,show (i * 3 + 2) % 3 = 2 by omega,hp];rfl
 refine ⟨ad,rfl,had,hcell _ _ k0,?_,?_⟩
 ·rw [<- add_lit _ (by omega),add_add];exact hcell _ _ k1
 ·rw [<- add_lit _ (by omega),add_add];exact hcell _ _ k2
theorem empty_size (s : ByteArray) : s.toList.isEmpty = decide (s.size = 0) := by
 rw [ByteArray.toList_eq,<- size_bl]
 cases h : bl s <;> simp [h]
theorem kcheck_any (s : ByteArray) (w : World) : Calls Try.prog 48 #[.string s] w fun e w' => e = .returned (.int .i64 (if s.size < 1 \/ 8 < s.size then 10 else 0)) /\ w = w' := by
 have he := empty_size s
 by_cases h0 : s.size < 1
 ·have h1 : s.toList.isEmpty = true := by rw [he];exact decide_eq_true (by omega)
  rw [if_pos (.inl h0)]
  clear he
  go_enter Try.func48,Try.ntmps48
  go_wp2
  go_ret
  exact ⟨rfl,rfl⟩
 ·have h1 : s.toList.isEmpty = false := by rw [he];exact decide_eq_false (by omega)
  clear he
  by_cases h8 : 8 < s.size
  ·rw [if_pos (.inr h8)]
   go_enter Try.func48,Try.ntmps48
   go_wp2
   go_ret
   exact ⟨rfl,rfl⟩
  ·rw [if_neg (by omega)]
   go_enter Try.func48,Try.ntmps48
   go_wp2
   go_ret
   exact ⟨rfl,rfl⟩
theorem rkcheck_any (s : ByteArray) (w : World) : Calls Try.prog 23 #[.string s] w fun e w' => e = .returned (.int .i64 (if s.size < 1 \/ 8 < s.size then 10 else 0)) /\ w = w' := by
 by_cases h0 : s.size < 1
 ·rw [if_pos (.inl h0)]
  go_enter Try.func23,Try.ntmps23
  go_wp2
  go_ret
  exact ⟨rfl,rfl⟩
 ·by_cases h8 : 8 < s.size
  ·rw [if_pos (.inr h8)]
   go_enter Try.func23,Try.ntmps23
   go_wp2
   go_ret
   exact ⟨rfl,rfl⟩
  ·rw [if_neg (by omega)]
   go_enter Try.func23,Try.ntmps23
   go_wp2
   go_ret
   exact ⟨rfl,rfl⟩
theorem one_any (o : OpR) (a : ByteArray) (f : Bool) (w : World) : Calls Try.prog 60 #[oagg o,.string a,.bool f] w fun e w' => e = .returned (.int .i64 (one o a f)) /\ Kept NoF w w' := by
 obtain ⟨k,v,d⟩ := o
 have hk := kcheck_any k
 unfold one oagg
 dsimp only
 by_cases h1 : k.size < 1 \/ 8 < k.size
 ·rw [if_pos h1] at hk ⊢
  have HK := hZ0 hk;clear hk h1
  go_enter Try.func60,Try.ntmps60
  go_wp2_with fail
  refine (HK.out _).mono ?_
  rintro e w2 ⟨rfl,rfl⟩
  go_wp2
  go_ret
  exact ⟨rfl,(Kept.refl _ _).alloc _⟩
 ·rw [if_neg h1] at hk ⊢
  have HK := hZ0 hk;clear hk h1
  by_cases h2 : 8 < v.size
  ·rw [if_pos h2]
   go_enter Try.func60,Try.ntmps60
   go_wp2_with fail
   refine (HK.out _).mono ?_
   rintro e w2 ⟨rfl,rfl⟩
   go_wp2
   go_ret
   exact ⟨rfl,(Kept.refl _ _).alloc _⟩
  ·rw [if_neg h2]
   have he := empty_size v
   by_cases h3 : d = true /\ v.size ≠ 0
   ·rw [if_pos h3]
    have he2 : v.toList.isEmpty = false := by rw [he];exact decide_eq_false h3.2
    obtain ⟨rfl,h4⟩ := h3
    clear he
    go_enter Try.func60,Try.ntmps60
    go_wp2_with fail
    refine (HK.out _).mono ?_
    rintro e w2 ⟨rfl,rfl⟩
    go_wp2
    go_ret
    exact ⟨rfl,(Kept.refl _ _).alloc _⟩
   ·rw [if_neg h3]
    by_cases h4 : f = false /\ Op.bytesLess a.toList k.toList = false
    ·rw [if_pos h4]
     obtain ⟨rfl,h5⟩ := h4
     cases d
     ·clear he h3
      go_enter Try.func60,Try.ntmps60
      go_wp2_with fail
      refine (HK.out _).mono ?_
      rintro e w2 ⟨rfl,rfl⟩
      go_wp2
      go_ret
      exact ⟨rfl,(Kept.refl _ _).alloc _⟩
     ·have he2 : v.toList.isEmpty = true := by rw [he];exact decide_eq_true (Classical.byContradiction fun x => h3 ⟨rfl,x⟩)
      clear he h3
      go_enter Try.func60,Try.ntmps60
      go_wp2_with fail
      refine (HK.out _).mono ?_
      rintro e w2 ⟨rfl,rfl⟩
      go_wp2
      go_ret
      exact ⟨rfl,(Kept.refl _ _).alloc _⟩
    ·rw [if_neg h4]
     have h5 : f = true \/ (f = false /\ Op.bytesLess a.toList k.toList = true) := by
      cases f
      ·right;refine ⟨rfl,?_⟩;cases hb : Op.bytesLess a.toList k.toList
       ·exact absurd ⟨rfl,hb⟩ h4
       ·rfl
      ·left;rfl
     clear h4
     cases d
     ·clear he h3
      rcases h5 with rfl | ⟨rfl,h5⟩
      all_goals
       go_enter Try.func60,Try.ntmps60
       go_wp2_with fail
       refine (HK.out _).mono ?_
       rintro e w2 ⟨rfl,rfl⟩
       go_wp2
       go_ret
       exact ⟨rfl,(Kept.refl _ _).alloc _⟩
     ·have he2 : v.toList.isEmpty = true := by rw [he];exact decide_eq_true (Classical.byContradiction fun x => h3 ⟨rfl,x⟩)
      clear he h3
      rcases h5 with rfl | ⟨rfl,h5⟩
      all_goals
       go_enter Try.func60,Try.ntmps60
       go_wp2_with fail
       refine (HK.out _).mono ?_
       rintro e w2 ⟨rfl,rfl⟩
       go_wp2
       go_ret
       exact ⟨rfl,(Kept.refl _ _).alloc _⟩
theorem chk_cases (b : Batch) : (chk b = 1 /\ (b.cl < 0 \/ (¬ b.cl < 0 /\ 3 <= b.cl))) \/ (chk b = 5 /\ 0 <= b.cl /\ b.cl < 3 /\ (b.req < 1 \/ (¬ b.req < 1 /\ 1073741824 < b.req))) \/ (chk b = 6 /\ 0 <= b.cl /\ b.cl < 3 /\ 1 <= b.req /\ b.req <= 1073741824 /\ 4 < b.ops.length) \/ (chk b = chkL b.ops emp true /\ 0 <= b.cl /\ b.cl < 3 /\ 1 <= b.req /\ b.req <= 1073741824 /\ b.ops.length <= 4) := by
 unfold chk
 by_cases h1 : b.cl < 0 \/ 3 <= b.cl
 ·rw [if_pos h1];left;exact ⟨rfl,by omega⟩
 ·rw [if_neg h1]
  right
  by_cases h2 : b.req < 1 \/ 1073741824 < b.req
  ·rw [if_pos h2];left;exact ⟨rfl,by omega,by omega,by omega⟩
  ·rw [if_neg h2]
   right
   by_cases h3 : 4 < b.ops.length
   ·rw [if_pos h3];left;exact ⟨rfl,by omega,by omega,by omega,by omega,h3⟩
   ·rw [if_neg h3];right;exact ⟨rfl,by omega,by omega,by omega,by omega,by omega⟩
theorem ocheck_any (w : World) (b : Batch) (A : Option Addr) (c : Nat) (hs : Src w 3 A b.ops.length (cells b.ops)) :
  Calls Try.prog 46 #[bagg b A c] w fun e w' => e = .returned (.int .i64 (chk b)) /\ Kept NoF w w' := by
 have hc := chk_cases b
 obtain ⟨cl,req,l⟩ := b
 dsimp only at hc hs
 unfold bagg
 dsimp only
 have HS := hZ0 hs;clear hs
 rcases hc with ⟨hc,h1 | ⟨h1,h2⟩⟩ | ⟨hc,h0,h1,h2 | ⟨h2,h3⟩⟩ | ⟨hc,h0,h1,h2,h3,h4⟩ | ⟨hc,h0,h1,h2,h3,h4⟩
 ·rw [hc];clear hc HS
  go_enter Try.func46,Try.ntmps46
  go_wp2
  go_ret
  exact ⟨rfl,(Kept.refl _ _).alloc _⟩
 ·rw [hc];clear hc HS
  go_enter Try.func46,Try.ntmps46
  go_wp2
  go_ret
  exact ⟨rfl,(Kept.refl _ _).alloc _⟩
 ·rw [hc];clear hc HS
  have g1 : ¬ cl < 0 := by omega
  have g2 : ¬ 3 <= cl := by omega
  go_enter Try.func46,Try.ntmps46
  go_wp2
  go_ret
  exact ⟨rfl,(Kept.refl _ _).alloc _⟩
 ·rw [hc];clear hc HS
  have g1 : ¬ cl < 0 := by omega
  have g2 : ¬ 3 <= cl := by omega
  go_enter Try.func46,Try.ntmps46
  go_wp2
  go_ret
  exact ⟨rfl,(Kept.refl _ _).alloc _⟩
 ·rw [hc];clear hc HS
  have g1 : ¬ cl < 0 := by omega
  have g2 : ¬ 3 <= cl := by omega
  have g3 : ¬ req < 1 := by omega
  have g4 : ¬ 1073741824 < req := by omega
  go_enter Try.func46,Try.ntmps46
  go_wp2
  go_ret
  exact ⟨rfl,(Kept.refl _ _).alloc _⟩
 ·rw [hc];clear hc
  have g1 : ¬ cl < 0 := by omega
  have g2 : ¬ 3 <= cl := by omega
  have g3 : ¬ req < 1 := by omega
  have g4 : ¬ 1073741824 < req := by omega
  go_enter Try.func46,Try.ntmps46
  go_wp2
  go_loopw [3,33] (fun v3 v33 wr => ∃ (i : Nat) (a : ByteArray),i <= l.length /\ v33 = .int .i64 i /\ v3 = .string a /\ chkL l emp true = chkL (l.drop i) a (decide (i = 0)) /\ Kept NoF w wr) (fun _ v33 _ => l.length - (intOf v33).toNat)
  case atStart => exact ⟨0,emp,Nat.zero_le _,rfl,rfl,rfl,by (repeat' (first | (with_reducible first | exact kR0 | apply kP0 | apply kN0 | apply kD0 | apply kA0) | (right;simp;done)))⟩
  case round =>
   obtain ⟨i,a,hi,rfl,rfl,he,hk⟩ := hrel
   have HE := hZ0 he;clear he
   have HK := hZ0 hk;clear hk
   by_cases hil : i < l.length
   ·obtain ⟨o,ho⟩ : ∃ o,l[i]? = some o := ⟨_,List.getElem?_eq_getElem hil⟩
    have hoi : l[i] = o := by rw [List.getElem?_eq_getElem hil] at ho;exact Option.some.inj ho
    obtain ⟨ad,rfl,had,e0,e1,e2⟩ := op_cells (HS.out.kept HK.out (fun _ _ x => x)) (by omega) i o ho
    have hd := chkL_at l i hil a (decide (i = 0))
    rw [hoi] at hd
    have HD := hZ0 hd;clear hd ho hoi
    obtain ⟨f,hf⟩ : ∃ f,decide (i = 0) = f := ⟨_,rfl⟩
    rw [hf] at HD HE
    have hone : ∀ (g : Bool) (W : World),g = f -> Calls Try.prog 60 #[oagg o,.string a,.bool g] W fun e w' => e = .returned (.int .i64 (one o a f)) /\ Kept NoF W w' := fun g W hg => by rw [hg];exact one_any o a f W
    have HF := hZ0 hf;clear hf
    have HO := hZ0 hone;clear hone
    have HN := hZ0 (Has.new wr 70 #[.string o.key,.string o.val,.bool o.del])
    go_wp2_with fail
    refine (HO.out _ _ (by rw [<- HF.out];by_cases h0 : i = 0 <;> simp [h0])).mono ?_
    rintro e w2 ⟨rfl,hk⟩
    have hh := HN.out.kept hk (fun x => x)
    have c0 : w2.cell? ⟨wr.heap.size,0,none⟩ = some (.string o.key) := hh.cell 0
    have hk2 := (HK.out.alloc _).then hk
    have HK2 := hZ0 hk2;clear hk2 hk hh HN HK HO
    by_cases hz : one o a f = 0
    ·have hz2 : (one o a f == 0) = true := by simp [hz]
     have hd2 := HD.out
     rw [if_neg (by simp [hz])] at hd2
     rw [hz] at hz2 ⊢
     have HD2 := hZ0 hd2;clear hd2 HD
     have HZ := hZ0 hz;clear hz hz2
     go_wp2
     go_roundw
     case rel => exact ⟨i + 1,o.key,by omega,by go_num,rfl,by
      rw [HE.out,HD2.out]
      have : decide (i + 1 = 0) = false := by simp
      rw [this],HK2.out⟩
     case measure => simp [intOf];omega
    ·have hd2 := HD.out
     rw [if_pos hz] at hd2
     have hr := HE.out.trans hd2
     obtain ⟨x,hx⟩ : ∃ x,one o a f = x := ⟨_,rfl⟩
     rw [hx] at hz hr ⊢
     have hz2 : (x != 0) = true := by simpa using hz
     have HR := hZ0 hr
     clear HD HE hd2 hr hx hz
     go_wp2
     go_ret
     exact ⟨by rw [HR.out];rfl,HK2.out⟩
   ·obtain rfl : i = l.length := by omega
    have hr := HE.out
    rw [List.drop_length,chkL] at hr
    have HR := hZ0 hr;clear HE hr
    go_wp2
    go_ret
    exact ⟨by rw [HR.out];rfl,HK.out⟩
end Ops
end Go.Proofs.Ytobfdolhgnoedaa
namespace Go.Proofs.Ytobfdolhgnoedaa.Keys
open Go.Proofs
abbrev BL := List UInt8
def dups : List BL -> List BL
 | [] => []
 | a :: l => if a ∈ l then dups l else a :: dups l
theorem mem_dups (l : List BL) (x : BL) : x ∈ dups l ↔ x ∈ l := by
 induction l with
 | nil => exact Iff.rfl
 | cons a l ih =>
  unfold dups
  split
  ·rename_i h
   rw [ih,List.mem_cons]
   constructor
   ·exact .inr
   ·rintro (rfl | h2)
    ·exact h
    ·exact h2
  ·rw [List.mem_cons,List.mem_cons,ih]
theorem nodup_dups (l : List BL) : (dups l).Nodup := by
 induction l with
 | nil => exact List.nodup_nil
 | cons a l ih =>
  unfold dups
  split
  ·exact ih
  ·rename_i h
   exact List.nodup_cons.2 ⟨fun x => h ((mem_dups l a).1 x),ih⟩
theorem dups_len (l : List BL) : (dups l).length <= l.length := by
 induction l with
 | nil => exact Nat.le_refl _
 | cons a l ih =>
  unfold dups
  split
  ·simp;omega
  ·simp;omega
def setL (l : List BL) : List BL := (dups l).mergeSort leB
theorem lt_irr (x : BL) : ¬ x < x := List.lt_irrefl x
theorem nodup_of_lt {l : List BL} (h : l.Pairwise (· < ·)) : l.Nodup := h.imp fun {a b} hab e => by subst e;exact lt_irr _ hab
theorem le_of_lt' {x y : BL} (h : x < y) : x <= y := List.le_of_lt h
theorem lt_of_le_ne {x y : BL} (h : x <= y) (hne : x ≠ y) : x < y := by
 rcases List.le_iff_lt_or_eq.1 h with h | h
 ·exact h
 ·exact absurd h hne
theorem sort_self {r : List BL} (h : r.Pairwise (· < ·)) : r.mergeSort leB = r :=
 List.mergeSort_of_pairwise (h.imp fun {a b} hab => by simp only [leB,decide_eq_true_eq];exact le_of_lt' hab)
theorem set_perm {ss l : List BL} (hn : ss.Nodup) (hm : ∀ x,x ∈ ss ↔ x ∈ l) : ss.mergeSort leB = setL l :=
 mergeSort_of_perm ((List.perm_ext_iff_of_nodup hn (nodup_dups l)).2 fun x => (hm x).trans (mem_dups l x).symm)
theorem set_unique {r l : List BL} (hp : r.Pairwise (· < ·)) (hm : ∀ x,x ∈ r ↔ x ∈ l) : r = setL l :=
 (sort_self hp).symm.trans (set_perm (nodup_of_lt hp) hm)
theorem mem_set (l : List BL) (x : BL) : x ∈ setL l ↔ x ∈ l := by
 unfold setL
 rw [List.mem_mergeSort,mem_dups]
theorem set_rises (l : List BL) : (setL l).Pairwise (· < ·) := by
 have tr : ∀ a b c : List UInt8,leB a b = true -> leB b c = true -> leB a c = true := fun a b c h1 h2 => by simp only [leB,decide_eq_true_eq] at *;exact List.le_trans h1 h2
 have to : ∀ a b : List UInt8,(leB a b || leB b a) = true := fun a b => by simp only [leB,Bool.or_eq_true,decide_eq_true_eq];exact List.le_total a b
 have h1 := List.pairwise_mergeSort tr to (dups l)
 have h2 : (setL l).Nodup := (List.mergeSort_perm (dups l) leB).nodup_iff.2 (nodup_dups l)
 exact (h1.and h2).imp fun {a b} h => lt_of_le_ne (by simpa [leB] using h.1) h.2
theorem set_len (l : List BL) : (setL l).length <= l.length := by
 unfold setL
 rw [List.length_mergeSort]
 exact dups_len l
theorem ins_rises {r : List BL} {x : BL} {k : Nat} (h : r.Pairwise (· < ·)) (h1 : ∀ (j : Nat) (p : BL),j < k -> r[j]? = some p -> p < x) (h2 : ∀ p,r[k]? = some p -> x < p) : (r.take k ++ x :: r.drop k).Pairwise (· < ·) := by
 rw [List.pairwise_append]
 refine ⟨h.sublist (List.take_sublist _ _),?_,?_⟩
 ·rw [List.pairwise_cons]
  refine ⟨fun b hb => ?_,h.sublist (List.drop_sublist _ _)⟩
  obtain ⟨j,hj⟩ := List.mem_iff_getElem?.1 hb
  rw [List.getElem?_drop] at hj
  cases j with
  | zero => exact h2 b hj
  | succ j =>
   have hlt : k + (j + 1) < r.length := (List.getElem?_eq_some_iff.1 hj).1
   have hk : r[k]? = some r[k] := List.getElem?_eq_getElem (by omega)
   have e := (List.getElem?_eq_some_iff.1 hj).2
   have := List.pairwise_iff_getElem.1 h k (k + (j + 1)) (by omega) hlt (by omega)
   rw [e] at this
   exact List.lt_trans (h2 _ hk) this
 ·intro a ha b hb
  obtain ⟨j,hj⟩ := List.mem_iff_getElem?.1 ha
  rw [List.getElem?_take] at hj
  split at hj
  ·rename_i hjk
   have ha := h1 j a hjk hj
   rcases List.mem_cons.1 hb with rfl | hb
   ·exact ha
   ·obtain ⟨i,hi⟩ := List.mem_iff_getElem?.1 hb
    rw [List.getElem?_drop] at hi
    have e1 := List.getElem?_eq_some_iff.1 hj
    have e2 := List.getElem?_eq_some_iff.1 hi
    obtain ⟨l1,e1⟩ := e1
    obtain ⟨l2,e2⟩ := e2
    have := List.pairwise_iff_getElem.1 h j (k + i) l1 l2 (by omega)
    rw [e1,e2] at this
    exact this
  ·cases hj
theorem ins_mem {r : List BL} {x : BL} {k : Nat} (y : BL) : y ∈ r.take k ++ x :: r.drop k ↔ y = x \/ y ∈ r := by
 conv => rhs;rw [<- List.take_append_drop k r]
 simp only [List.mem_append,List.mem_cons]
 constructor
 ·rintro (h | h | h)
  ·exact .inr (.inl h)
  ·exact .inl h
  ·exact .inr (.inr h)
 ·rintro (h | h | h)
  ·exact .inr (.inl h)
  ·exact .inl h
  ·exact .inr (.inr h)
end Go.Proofs.Ytobfdolhgnoedaa.Keys
namespace Go.Proofs.Ytobfdolhgnoedaa
open Go.RowKit Go.Maps
set_option maxRecDepth 100000
namespace Ops
abbrev BL := List UInt8
abbrev Env := BL -> Option ByteArray
theorem strKeyed : Keyed Try.prog 9 := string_keyed Try.underlying9
theorem strKey {s : ByteArray} (h : s.size <= maxLen) : keyOf Try.prog 9 (.string s) = some (.string (bl s)) := WideMaps.keyOf_string_mk Try.underlying9 h
def SMap (w : World) (b n : Nat) (f : Env) : Prop :=
 ∃ D : DataW Unit,w.ownsMap Try.prog 9 (plainElem Try.prog 9) b n D /\ ∀ x : BL,has D (.string x) = (f x).isSome /\ D.atKey (.string x) (.lit (.string [])) = .lit (.string (bl ((f x).getD emp)))
theorem SMap.lt {w : World} {b n : Nat} {m : Env} (h : SMap w b n m) : b < w.heap.size := by
 obtain ⟨D,h,_⟩ := h
 exact h.lt
theorem SMap.kept {F : Nat -> Prop} {w w' : World} {b n : Nat} {m : Env} (h : SMap w b n m) (hk : Kept F w w') (hf : ¬ F b) : SMap w' b n m := by
 obtain ⟨D,ho,hD⟩ := h
 have hlt := ho.lt
 obtain ⟨es,clock,hb,hF,hs,e⟩ := ho
 exact ⟨D,⟨es,clock,(hk.block b hlt hf).trans hb,hF,hs,e⟩,hD⟩
theorem SMap.mono {w : World} {b n n' : Nat} {m : Env} (h : SMap w b n m) (hn : n <= n') : SMap w b n' m := by
 obtain ⟨D,ho,hD⟩ := h
 exact ⟨D,ho.mono hn,hD⟩
end Ops
end Go.Proofs.Ytobfdolhgnoedaa
namespace Go.Proofs.Ytobfdolhgnoedaa
namespace Ops
structure PairR where
 key : ByteArray
 val : ByteArray
deriving DecidableEq
def pcell (p : PairR) : List Value := [.string p.key,.string p.val]
def pcells (l : List PairR) : List Value := l.flatMap pcell
end Ops
end Go.Proofs.Ytobfdolhgnoedaa
