/- Part 4 of what the proof needs. -/
import Derived.Test.YtgbigpdiacjbgaaGreatKO01
import Derived.Test.YtgbigpdiacjbgaaGreatKO02
import Derived.Sort.KeysCollected
import Derived.Sort.Walk0
import Derived.Maps.OwnSet
import Derived.Maps.Views
import Derived.Deep.QuietTactic
import Derived.Deep.RegionLaw
import Derived.Test.YtgbigpdiacjbgaaGreatRows
import Derived.ProofKit
import Derived.OpenShut
import Derived.Lib.SmallJoins
import Derived.SizedLaws
set_option linter.unusedSimpArgs false
set_option linter.unusedVariables false
set_option maxHeartbeats 32000000
set_option maxRecDepth 100000
namespace Go.Proofs.YtgbigpdiacjbgaaGreat
open Go.RowKit Go.Shelf
set_option maxRecDepth 100000
namespace Ops
open Vn
abbrev oagg (o : OpR) : Value := .agg #[.string o.key,.string o.val,.bool o.del]
abbrev bagg (b : Batch) (A : Option Addr) (c : Nat) : Value := .agg #[.int .i64 b.cl,.int .i64 b.req,.slice A b.ops.length c]
theorem op_cells {w : World} {A : Option Addr} {m : Nat} {l : List OpR} (h : Src w 3 A m (cells l)) (hm : 0 < m) (i : Nat) (p : OpR) (hp : l[i]? = some p) :
  ∃ ad,A = some ad /\ ad.block < w.heap.size /\ w.cell? (ad.add (i * 3)) = some (.string p.key) /\ w.cell? ⟨(ad.add (i * 3)).block,(ad.add (i * 3)).off + 1,none⟩ = some (.string p.val) /\ w.cell? ⟨(ad.add (i * 3)).block,(ad.add (i * 3)).off + 2,none⟩ = some (.bool p.del) := by
 obtain ⟨ad,rfl,had,hcell⟩ := h.2 hm
 have k0 : (cells l)[i * 3]? = some (.string p.key) := by
  unfold cells
  rw [flat_get cell 3 (by decide) (fun _ => rfl),show i * 3 / 3 = i by omega,show i * 3 % 3 = 0 by omega,hp];rfl
 have k1 : (cells l)[i * 3 + 1]? = some (.string p.val) := by
  unfold cells
  rw [flat_get cell 3 (by decide) (fun _ => rfl),show (i * 3 + 1) / 3 = i by omega,show (i * 3 + 1) % 3 = 1 by omega,hp];rfl
 have k2 : (cells l)[i * 3 + 2]? = some (.bool p.del) := by
  unfold cells
  rw [flat_get cell 3 (by decide) (fun _ => rfl),show (i * 3 + 2) / 3 = i by omega,show (i * 3 + 2) % 3 = 2 by omega,hp];rfl
 refine ⟨ad,rfl,had,hcell _ _ k0,?_,?_⟩
 ·rw [<- add_lit _ (by omega),add_add];exact hcell _ _ k1
 ·rw [<- add_lit _ (by omega),add_add];exact hcell _ _ k2
theorem empty_size (s : ByteArray) : s.toList.isEmpty = decide (s.size = 0) := by
 rw [ByteArray.toList_eq,<- size_bl]
 cases h : bl s <;> simp [h]
theorem kcheck_any (s : ByteArray) (w : World) : Calls Tryz.prog 86 #[.string s] w fun e w' => e = .returned (.int .i64 (if s.size < 1 \/ 8 < s.size then 10 else 0)) /\ w = w' := by
 have he := empty_size s
 by_cases h0 : s.size < 1
 ·have h1 : s.toList.isEmpty = true := by rw [he];exact decide_eq_true (by omega)
  rw [if_pos (.inl h0)]
  clear he
  go_enter Tryz.func86,Tryz.ntmps86
  go_wp2
  go_ret
  exact ⟨rfl,rfl⟩
 ·have h1 : s.toList.isEmpty = false := by rw [he];exact decide_eq_false (by omega)
  clear he
  by_cases h8 : 8 < s.size
  ·rw [if_pos (.inr h8)]
   go_enter Tryz.func86,Tryz.ntmps86
   go_wp2
   go_ret
   exact ⟨rfl,rfl⟩
  ·rw [if_neg (by omega)]
   go_enter Tryz.func86,Tryz.ntmps86
   go_wp2
   go_ret
   exact ⟨rfl,rfl⟩
theorem rkcheck_any (s : ByteArray) (w : World) : Calls Tryz.prog 117 #[.string s] w fun e w' => e = .returned (.int .i64 (if s.size < 1 \/ 8 < s.size then 10 else 0)) /\ w = w' := by
 by_cases h0 : s.size < 1
 ·rw [if_pos (.inl h0)]
  go_enter Tryz.func117,Tryz.ntmps117
  go_wp2
  go_ret
  exact ⟨rfl,rfl⟩
 ·by_cases h8 : 8 < s.size
  ·rw [if_pos (.inr h8)]
   go_enter Tryz.func117,Tryz.ntmps117
   go_wp2
   go_ret
   exact ⟨rfl,rfl⟩
  ·rw [if_neg (by omega)]
   go_enter Tryz.func117,Tryz.ntmps117
   go_wp2
   go_ret
   exact ⟨rfl,rfl⟩
theorem one_any (o : OpR) (a : ByteArray) (f : Bool) (w : World) : Calls Tryz.prog 126 #[oagg o,.string a,.bool f] w fun e w' => e = .returned (.int .i64 (one o a f)) /\ Kept NoF w w' := by
 obtain ⟨k,v,d⟩ := o
 have hk := kcheck_any k
 unfold one oagg
 dsimp only
 by_cases h1 : k.size < 1 \/ 8 < k.size
 ·rw [if_pos h1] at hk ⊢
  have HK := hZ0 hk;clear hk h1
  go_enter Tryz.func126,Tryz.ntmps126
  go_wp2_with fail
  refine (HK.out _).mono ?_
  rintro e w2 ⟨rfl,rfl⟩
  go_wp2
  go_ret
  exact ⟨rfl,(Kept.refl _ _).alloc _⟩
 ·rw [if_neg h1] at hk ⊢
  have HK := hZ0 hk;clear hk h1
  by_cases h2 : 8 < v.size
  ·rw [if_pos h2]
   go_enter Tryz.func126,Tryz.ntmps126
   go_wp2_with fail
   refine (HK.out _).mono ?_
   rintro e w2 ⟨rfl,rfl⟩
   go_wp2
   go_ret
   exact ⟨rfl,(Kept.refl _ _).alloc _⟩
  ·rw [if_neg h2]
   have he := empty_size v
   by_cases h3 : d = true /\ v.size ≠ 0
   ·rw [if_pos h3]
    have he2 : v.toList.isEmpty = false := by rw [he];exact decide_eq_false h3.2
    obtain ⟨rfl,h4⟩ := h3
    clear he
    go_enter Tryz.func126,Tryz.ntmps126
    go_wp2_with fail
    refine (HK.out _).mono ?_
    rintro e w2 ⟨rfl,rfl⟩
    go_wp2
    go_ret
    exact ⟨rfl,(Kept.refl _ _).alloc _⟩
   ·rw [if_neg h3]
    by_cases h4 : f = false /\ Op.bytesLess a.toList k.toList = false
    ·rw [if_pos h4]
     obtain ⟨rfl,h5⟩ := h4
     cases d
     ·clear he h3
      go_enter Tryz.func126,Tryz.ntmps126
      go_wp2_with fail
      refine (HK.out _).mono ?_
      rintro e w2 ⟨rfl,rfl⟩
      go_wp2
      go_ret
      exact ⟨rfl,(Kept.refl _ _).alloc _⟩
     ·have he2 : v.toList.isEmpty = true := by rw [he];exact decide_eq_true (Classical.byContradiction fun x => h3 ⟨rfl,x⟩)
      clear he h3
      go_enter Tryz.func126,Tryz.ntmps126
      go_wp2_with fail
      refine (HK.out _).mono ?_
      rintro e w2 ⟨rfl,rfl⟩
      go_wp2
      go_ret
      exact ⟨rfl,(Kept.refl _ _).alloc _⟩
    ·rw [if_neg h4]
     have h5 : f = true \/ (f = false /\ Op.bytesLess a.toList k.toList = true) := by
      cases f
      ·right;refine ⟨rfl,?_⟩;cases hb : Op.bytesLess a.toList k.toList
       ·exact absurd ⟨rfl,hb⟩ h4
       ·rfl
      ·left;rfl
     clear h4
     cases d
     ·clear he h3
      rcases h5 with rfl | ⟨rfl,h5⟩
      all_goals
       go_enter Tryz.func126,Tryz.ntmps126
       go_wp2_with fail
       refine (HK.out _).mono ?_
       rintro e w2 ⟨rfl,rfl⟩
       go_wp2
       go_ret
       exact ⟨rfl,(Kept.refl _ _).alloc _⟩
     ·have he2 : v.toList.isEmpty = true := by rw [he];exact decide_eq_true (Classical.byContradiction fun x => h3 ⟨rfl,x⟩)
      clear he h3
      rcases h5 with rfl | ⟨rfl,h5⟩
      all_goals
       go_enter Tryz.func126,Tryz.ntmps126
       go_wp2_with fail
       refine (HK.out _).mono ?_
       rintro e w2 ⟨rfl,rfl⟩
       go_wp2
       go_ret
       exact ⟨rfl,(Kept.refl _ _).alloc _⟩
theorem chk_cases (b : Batch) : (chk b = 1 /\ (b.cl < 0 \/ (¬ b.cl < 0 /\ 3 <= b.cl))) \/ (chk b = 5 /\ 0 <= b.cl /\ b.cl < 3 /\ (b.req < 1 \/ (¬ b.req < 1 /\ 1073741824 < b.req))) \/ (chk b = 6 /\ 0 <= b.cl /\ b.cl < 3 /\ 1 <= b.req /\ b.req <= 1073741824 /\ 4 < b.ops.length) \/ (chk b = chkL b.ops emp true /\ 0 <= b.cl /\ b.cl < 3 /\ 1 <= b.req /\ b.req <= 1073741824 /\ b.ops.length <= 4) := by
 unfold chk
 by_cases h1 : b.cl < 0 \/ 3 <= b.cl
 ·rw [if_pos h1];left;exact ⟨rfl,by omega⟩
 ·rw [if_neg h1]
  right
  by_cases h2 : b.req < 1 \/ 1073741824 < b.req
  ·rw [if_pos h2];left;exact ⟨rfl,by omega,by omega,by omega⟩
  ·rw [if_neg h2]
   right
   by_cases h3 : 4 < b.ops.length
   ·rw [if_pos h3];left;exact ⟨rfl,by omega,by omega,by omega,by omega,h3⟩
   ·rw [if_neg h3];right;exact ⟨rfl,by omega,by omega,by omega,by omega,by omega⟩
theorem ocheck_any (w : World) (b : Batch) (A : Option Addr) (c : Nat) (hs : Src w 3 A b.ops.length (cells b.ops)) :
  Calls Tryz.prog 84 #[bagg b A c] w fun e w' => e = .returned (.int .i64 (chk b)) /\ Kept NoF w w' := by
 have hc := chk_cases b
 obtain ⟨cl,req,l⟩ := b
 dsimp only at hc hs
 unfold bagg
 dsimp only
 have HS := hZ0 hs;clear hs
 rcases hc with ⟨hc,h1 | ⟨h1,h2⟩⟩ | ⟨hc,h0,h1,h2 | ⟨h2,h3⟩⟩ | ⟨hc,h0,h1,h2,h3,h4⟩ | ⟨hc,h0,h1,h2,h3,h4⟩
 ·rw [hc];clear hc HS
  go_enter Tryz.func84,Tryz.ntmps84
  go_wp2
  go_ret
  exact ⟨rfl,(Kept.refl _ _).alloc _⟩
 ·rw [hc];clear hc HS
  go_enter Tryz.func84,Tryz.ntmps84
  go_wp2
  go_ret
  exact ⟨rfl,(Kept.refl _ _).alloc _⟩
 ·rw [hc];clear hc HS
  have g1 : ¬ cl < 0 := by omega
  have g2 : ¬ 3 <= cl := by omega
  go_enter Tryz.func84,Tryz.ntmps84
  go_wp2
  go_ret
  exact ⟨rfl,(Kept.refl _ _).alloc _⟩
 ·rw [hc];clear hc HS
  have g1 : ¬ cl < 0 := by omega
  have g2 : ¬ 3 <= cl := by omega
  go_enter Tryz.func84,Tryz.ntmps84
  go_wp2
  go_ret
  exact ⟨rfl,(Kept.refl _ _).alloc _⟩
 ·rw [hc];clear hc HS
  have g1 : ¬ cl < 0 := by omega
  have g2 : ¬ 3 <= cl := by omega
  have g3 : ¬ req < 1 := by omega
  have g4 : ¬ 1073741824 < req := by omega
  go_enter Tryz.func84,Tryz.ntmps84
  go_wp2
  go_ret
  exact ⟨rfl,(Kept.refl _ _).alloc _⟩
 ·rw [hc];clear hc
  have g1 : ¬ cl < 0 := by omega
  have g2 : ¬ 3 <= cl := by omega
  have g3 : ¬ req < 1 := by omega
  have g4 : ¬ 1073741824 < req := by omega
  go_enter Tryz.func84,Tryz.ntmps84
  go_wp2
  go_loopw [3,33] (fun v3 v33 wr => ∃ (i : Nat) (a : ByteArray),i <= l.length /\ v33 = .int .i64 i /\ v3 = .string a /\ chkL l emp true = chkL (l.drop i) a (decide (i = 0)) /\ Kept NoF w wr) (fun _ v33 _ => l.length - (intOf v33).toNat)
  case atStart => exact ⟨0,emp,Nat.zero_le _,rfl,rfl,rfl,by (repeat' (first | (with_reducible first | exact kR0 | apply kP0 | apply kN0 | apply kD0 | apply kA0) | (right;simp;done)))⟩
  case round =>
   obtain ⟨i,a,hi,rfl,rfl,he,hk⟩ := hrel
   have HE := hZ0 he;clear he
   have HK := hZ0 hk;clear hk
   by_cases hil : i < l.length
   ·obtain ⟨o,ho⟩ : ∃ o,l[i]? = some o := ⟨_,List.getElem?_eq_getElem hil⟩
    have hoi : l[i] = o := by rw [List.getElem?_eq_getElem hil] at ho;exact Option.some.inj ho
    obtain ⟨ad,rfl,had,e0,e1,e2⟩ := op_cells (HS.out.kept HK.out (fun _ _ x => x)) (by omega) i o ho
    have hd := chkL_at l i hil a (decide (i = 0))
    rw [hoi] at hd
    have HD := hZ0 hd;clear hd ho hoi
    obtain ⟨f,hf⟩ : ∃ f,decide (i = 0) = f := ⟨_,rfl⟩
    rw [hf] at HD HE
    have hone : ∀ (g : Bool) (W : World),g = f -> Calls Tryz.prog 126 #[oagg o,.string a,.bool g] W fun e w' => e = .returned (.int .i64 (one o a f)) /\ Kept NoF W w' := fun g W hg => by rw [hg];exact one_any o a f W
    have HF := hZ0 hf;clear hf
    have HO := hZ0 hone;clear hone
    have HN := hZ0 (Has.new wr 143 #[.string o.key,.string o.val,.bool o.del])
    go_wp2_with fail
    refine (HO.out _ _ (by rw [<- HF.out];by_cases h0 : i = 0 <;> simp [h0])).mono ?_
    rintro e w2 ⟨rfl,hk⟩
    have hh := HN.out.kept hk (fun x => x)
    have c0 : w2.cell? ⟨wr.heap.size,0,none⟩ = some (.string o.key) := hh.cell 0
    have hk2 := (HK.out.alloc _).then hk
    have HK2 := hZ0 hk2;clear hk2 hk hh HN HK HO
    by_cases hz : one o a f = 0
    ·have hz2 : (one o a f == 0) = true := by simp [hz]
     have hd2 := HD.out
     rw [if_neg (by simp [hz])] at hd2
     rw [hz] at hz2 ⊢
     have HD2 := hZ0 hd2;clear hd2 HD
     have HZ := hZ0 hz;clear hz hz2
     go_wp2
     go_roundw
     case rel => exact ⟨i + 1,o.key,by omega,by go_num,rfl,by
      rw [HE.out,HD2.out]
      have : decide (i + 1 = 0) = false := by simp
      rw [this],HK2.out⟩
     case measure => simp [intOf];omega
    ·have hd2 := HD.out
     rw [if_pos hz] at hd2
     have hr := HE.out.trans hd2
     obtain ⟨x,hx⟩ : ∃ x,one o a f = x := ⟨_,rfl⟩
     rw [hx] at hz hr ⊢
     have hz2 : (x != 0) = true := by simpa using hz
     have HR := hZ0 hr
     clear HD HE hd2 hr hx hz
     go_wp2
     go_ret
     exact ⟨by rw [HR.out];rfl,HK2.out⟩
   ·obtain rfl : i = l.length := by omega
    have hr := HE.out
    rw [List.drop_length,chkL] at hr
    have HR := hZ0 hr;clear HE hr
    go_wp2
    go_ret
    exact ⟨by rw [HR.out];rfl,HK.out⟩
end Ops
end Go.Proofs.YtgbigpdiacjbgaaGreat
namespace Go.Proofs.YtgbigpdiacjbgaaGreat.Keys
open Go.Proofs
abbrev BL := List UInt8
def dups : List BL -> List BL
 | [] => []
 | a :: l => if a ∈ l then dups l else a :: dups l
theorem mem_dups (l : List BL) (x : BL) : x ∈ dups l ↔ x ∈ l := by
 induction l with
 | nil => exact Iff.rfl
 | cons a l ih =>
  unfold dups
  split
  ·rename_i h
   rw [ih,List.mem_cons]
   constructor
   ·exact .inr
   ·rintro (rfl | h2)
    ·exact h
    ·exact h2
  ·rw [List.mem_cons,List.mem_cons,ih]
theorem nodup_dups (l : List BL) : (dups l).Nodup := by
 induction l with
 | nil => exact List.nodup_nil
 | cons a l ih =>
  unfold dups
  split
  ·exact ih
  ·rename_i h
   exact List.nodup_cons.2 ⟨fun x => h ((mem_dups l a).1 x),ih⟩
def setL (l : List BL) : List BL := (dups l).mergeSort leB
theorem set_perm {ss l : List BL} (hn : ss.Nodup) (hm : ∀ x,x ∈ ss ↔ x ∈ l) : ss.mergeSort leB = setL l :=
 mergeSort_of_perm ((List.perm_ext_iff_of_nodup hn (nodup_dups l)).2 fun x => (hm x).trans (mem_dups l x).symm)
theorem mem_set (l : List BL) (x : BL) : x ∈ setL l ↔ x ∈ l := by
 unfold setL
 rw [List.mem_mergeSort,mem_dups]
end Go.Proofs.YtgbigpdiacjbgaaGreat.Keys
namespace Go.Proofs.YtgbigpdiacjbgaaGreat
open Go.RowKit Go.Maps
set_option maxRecDepth 100000
namespace Ops
abbrev BL := List UInt8
abbrev Env := BL -> Option ByteArray
theorem strKeyed : Keyed Tryz.prog 9 := string_keyed Tryz.underlying9
theorem strKey {s : ByteArray} (h : s.size <= maxLen) : keyOf Tryz.prog 9 (.string s) = some (.string (bl s)) := WideMaps.keyOf_string_mk Tryz.underlying9 h
def SMap (w : World) (b n : Nat) (f : Env) : Prop :=
 ∃ D : DataW Unit,w.ownsMap Tryz.prog 9 (plainElem Tryz.prog 9) b n D /\ ∀ x : BL,has D (.string x) = (f x).isSome /\ D.atKey (.string x) (.lit (.string [])) = .lit (.string (bl ((f x).getD emp)))
theorem SMap.lt {w : World} {b n : Nat} {m : Env} (h : SMap w b n m) : b < w.heap.size := by
 obtain ⟨D,h,_⟩ := h
 exact h.lt
theorem SMap.kept {F : Nat -> Prop} {w w' : World} {b n : Nat} {m : Env} (h : SMap w b n m) (hk : Kept F w w') (hf : ¬ F b) : SMap w' b n m := by
 obtain ⟨D,ho,hD⟩ := h
 have hlt := ho.lt
 obtain ⟨es,clock,hb,hF,hs,e⟩ := ho
 exact ⟨D,⟨es,clock,(hk.block b hlt hf).trans hb,hF,hs,e⟩,hD⟩
theorem SMap.mono {w : World} {b n n' : Nat} {m : Env} (h : SMap w b n m) (hn : n <= n') : SMap w b n' m := by
 obtain ⟨D,ho,hD⟩ := h
 exact ⟨D,ho.mono hn,hD⟩
end Ops
end Go.Proofs.YtgbigpdiacjbgaaGreat
namespace Go.Proofs.YtgbigpdiacjbgaaGreat
namespace Ops
structure PairR where
 key : ByteArray
 val : ByteArray
deriving DecidableEq
def pcell (p : PairR) : List Value := [.string p.key,.string p.val]
def pcells (l : List PairR) : List Value := l.flatMap pcell
end Ops
end Go.Proofs.YtgbigpdiacjbgaaGreat
namespace Go.Proofs.YtgbigpdiacjbgaaGreat
open Go.RowKit Go.Shelf
set_option maxRecDepth 100000
namespace Ops
open Vn
theorem tl_eq (a b : ByteArray) : (a.toList == b.toList) = decide (a = b) := by
 rw [ByteArray.toList_eq,ByteArray.toList_eq]
 by_cases h : a = b
 ·simp [h]
 ·have : a.data.toList ≠ b.data.toList := fun e => h (ByteArray.ext (Array.toList_inj.1 e))
  rw [decide_eq_false h,beq_eq_false_iff_ne]
  exact this
abbrev pagg (p : PairR) : Value := .agg #[.string p.key,.string p.val]
theorem run_neq_pair (p q : PairR) (W : World) : (binOp .neq 84 (pagg p) (pagg q)).run Tryz.prog W = .ok (.bool (!decide (p = q))) W := by
 obtain ⟨p1,p2⟩ := p
 obtain ⟨q1,q2⟩ := q
 have e1 := tl_eq p1 q1
 have e2 := tl_eq p2 q2
 unfold pagg
 by_cases h1 : p1 = q1 <;> by_cases h2 : p2 = q2 <;> simp [go_sem,h1,h2,e1,e2]
theorem pair_cells {w : World} {A : Option Addr} {m : Nat} {l : List PairR} (h : Src w 2 A m (pcells l)) (hm : 0 < m) (i : Nat) (p : PairR) (hp : l[i]? = some p) :
  ∃ ad,A = some ad /\ ad.block < w.heap.size /\ w.cell? (ad.add (i * 2)) = some (.string p.key) /\ w.cell? ⟨(ad.add (i * 2)).block,(ad.add (i * 2)).off + 1,none⟩ = some (.string p.val) := by
 obtain ⟨ad,rfl,had,hcell⟩ := h.2 hm
 have k0 : (pcells l)[i * 2]? = some (.string p.key) := by
  unfold pcells
  rw [flat_get pcell 2 (by decide) (fun _ => rfl),show i * 2 / 2 = i by omega,show i * 2 % 2 = 0 by omega,hp];rfl
 have k1 : (pcells l)[i * 2 + 1]? = some (.string p.val) := by
  unfold pcells
  rw [flat_get pcell 2 (by decide) (fun _ => rfl),show (i * 2 + 1) / 2 = i by omega,show (i * 2 + 1) % 2 = 1 by omega,hp];rfl
 refine ⟨ad,rfl,had,hcell _ _ k0,?_⟩
 rw [<- add_lit _ (by omega),add_add];exact hcell _ _ k1
theorem eq_take_succ {α : Type} {a b : List α} {i : Nat} {p : α} (h : a.take i = b.take i) (ha : a[i]? = some p) (hb : b[i]? = some p) : a.take (i + 1) = b.take (i + 1) := by
 rw [List.take_add_one,List.take_add_one,h,ha,hb]
theorem rsamePairs_any (w : World) (A B : Option Addr) (c d : Nat) (a b : List PairR) (ha : Src w 2 A a.length (pcells a)) (hb : Src w 2 B b.length (pcells b)) (hlen : a.length <= 1000000) :
  Calls Tryz.prog 35 #[.slice A a.length c,.slice B b.length d] w fun e w' => e = .returned (.bool (decide (a = b))) /\ Kept NoF w w' := by
 have HA := hZ0 ha;clear ha
 have HB := hZ0 hb;clear hb
 by_cases hl : a.length = b.length
 rotate_left
 ·have hd : decide (a = b) = false := decide_eq_false fun e => hl (by rw [e])
  rw [hd]
  have hne : ((a.length : Int) != (b.length : Int)) = true := by simpa using fun e => hl (by omega)
  clear hd HA HB
  go_enter Tryz.func35,Tryz.ntmps35
  go_wp2
  go_ret
  exact ⟨rfl,Kept.refl _ _⟩
 rw [<- hl] at HB ⊢
 have HL := hZ0 hl;clear hl
 obtain ⟨n,hn⟩ : ∃ n,a.length = n := ⟨_,rfl⟩
 rw [hn] at HA HB hlen ⊢
 have HN := hZ0 hn;clear hn
 obtain ⟨r,hr⟩ : ∃ r,decide (a = b) = r := ⟨_,rfl⟩
 rw [hr]
 have HR := hZ0 hr;clear hr
 go_enter Tryz.func35,Tryz.ntmps35
 go_wp2_with fail
 go_loopw [5] (fun v5 wr => ∃ i m : Nat,i <= n /\ v5 = .int .i64 i /\ a.take i = b.take i /\ wr = w.drewN m) (fun v5 _ => n - (intOf v5).toNat)
 case atStart => exact ⟨0,0,Nat.zero_le _,rfl,rfl,rfl⟩
 case round =>
  obtain ⟨i,m,hi,rfl,ht,rfl⟩ := hrel
  have HT := hZ0 ht;clear ht
  by_cases hil : i < n
  ·obtain ⟨p,hp⟩ : ∃ p,a[i]? = some p := ⟨_,List.getElem?_eq_getElem (by have := HN.out;omega)⟩
   obtain ⟨q,hq⟩ : ∃ q,b[i]? = some q := ⟨_,List.getElem?_eq_getElem (by have := HN.out;have := HL.out;omega)⟩
   obtain ⟨a1,rfl,hl1,d0,d1⟩ := pair_cells HA.out (by omega) i p hp
   obtain ⟨a2,rfl,hl2,f0,f1⟩ := pair_cells HB.out (by omega) i q hq
   have heq := run_neq_pair p q
   have HP := hZ0 hp;clear hp
   have HQ := hZ0 hq;clear hq
   by_cases hpq : p = q
   ·subst hpq
    rw [decide_eq_true rfl] at heq
    have hnx := eq_take_succ HT.out HP.out HQ.out
    have HNX := hZ0 hnx;clear hnx HP HQ
    obtain ⟨x0,x1⟩ := p
    unfold pagg at heq
    dsimp only at d0 d1 f0 f1 heq
    go_wp2_with fail
    go_quiet (fail)
    go_wp2
    go_roundw
    case rel => exact ⟨i + 1,_,by omega,by go_num,HNX.out,rfl⟩
    case measure => simp [intOf];omega
   ·have hrf : r = false := by
     rw [<- HR.out]
     refine decide_eq_false fun e => hpq ?_
     have h1 := HP.out
     rw [e,HQ.out] at h1
     injection h1 with h1
     exact h1.symm
    rw [decide_eq_false hpq] at heq
    have HRF := hZ0 hrf;clear hrf hpq HP HQ
    obtain ⟨x0,x1⟩ := p
    obtain ⟨y0,y1⟩ := q
    unfold pagg at heq
    dsimp only at d0 d1 f0 f1 heq
    go_wp2_with fail
    go_quiet (fail)
    go_wp2
    go_ret
    exact ⟨by rw [HRF.out];rfl,(Kept.quiet _ _ _).drewN _⟩
  ·obtain rfl : i = n := by omega
   have hrt : r = true := by
    rw [<- HR.out]
    refine decide_eq_true ?_
    have h1 := HT.out
    rwa [List.take_of_length_le (by rw [HN.out];exact Nat.le_refl _),List.take_of_length_le (by rw [<- HL.out,HN.out];exact Nat.le_refl _)] at h1
   have HRT := hZ0 hrt;clear hrt
   go_wp2
   go_ret
   exact ⟨by rw [HRT.out];rfl,Kept.quiet _ _ _⟩
end Ops
end Go.Proofs.YtgbigpdiacjbgaaGreat
namespace Go.Proofs.YtgbigpdiacjbgaaGreat
open Go.RowKit Go.WideShapes Go.ChangeShapes
set_option maxRecDepth 100000
section
variable {H : Type} {enc : TypeId × Value -> H} {W : World} {v : Value} {d : DataW H} {ps : List MemPlace} {r : Reach} {b0 : Nat}
theorem open_ops0 (hv : ∃ A n c,v = .slice A n c) (h : DataW.Trod enc Tryz.prog W 0 (fun _ => true) true 23 v d ps) :
  ∃ (A : Option Addr) (c : Nat) (l : List Ops.OpR),v = .slice A l.length c /\ l.length <= c /\ c <= maxLen /\ Src W 3 A l.length (Ops.cells l) /\ (∀ o ∈ l,o.key.size <= maxLen /\ o.val.size <= maxLen) := by
 have _ : Inhabited Ops.OpR := ⟨⟨⟨#[]⟩,⟨#[]⟩,false⟩⟩
 obtain ⟨A,c,l,h1,h2,h3,h4,h5,_⟩ := open_rows (α := Ops.OpR) Ops.cell (fun o => o.key.size <= maxLen /\ o.val.size <= maxLen) 3 Tryz.underlying23 (by kernel_rfl) (by decide) (fun _ => rfl)
  (fun fuel cs y hy => by
   obtain ⟨y0,y1,y2,n,_,hl,h0,h1,h2⟩ := Deep.trod_struct3 Tryz.underlying143 hy
   have hC : Tryz.prog.cellsOf 143 = 3 := by kernel_rfl
   rw [hC] at hl
   match cs,hl with
   | [c0,c1,c2],_ =>
    have e9 : Tryz.prog.cellsOf 9 = 1 := by kernel_rfl
    have e4 : Tryz.prog.cellsOf 4 = 1 := by kernel_rfl
    obtain ⟨x0,hx0,_,m0⟩ := DataW.trod_string Tryz.underlying9 h0
    obtain ⟨x1,hx1,_,m1⟩ := DataW.trod_string Tryz.underlying9 h1
    obtain ⟨x2,hx2,_⟩ := DataW.trod_bool Tryz.underlying4 h2
    simp [e9] at hx0 hx1
    simp [e9,e4] at hx2
    subst hx0
    subst hx1
    subst hx2
    exact ⟨⟨x0,x1,x2⟩,rfl,m0,m1⟩) h hv
 exact ⟨A,c,l,h1,h2,h3,h4,h5⟩
end
namespace Ent
open Ops
structure EntR where
 cl : Int
 req : Int
 A : Option Addr
 c : Nat
 ops : List OpR
 ts : Int
def ecell (e : EntR) : List Value := [.int .i64 e.cl,.int .i64 e.req,.slice e.A e.ops.length e.c,.int .u64 e.ts]
def ecells (l : List EntR) : List Value := l.flatMap ecell
abbrev eagg (e : EntR) : Value := .agg #[.int .i64 e.cl,.int .i64 e.req,.slice e.A e.ops.length e.c,.int .u64 e.ts]
def bat (e : EntR) : Batch := ⟨e.cl,e.req,e.ops⟩
def EOk (W : World) (e : EntR) : Prop := Src W 3 e.A e.ops.length (cells e.ops) /\ e.ops.length <= e.c /\ e.c <= maxLen /\ (∀ o ∈ e.ops,o.key.size <= maxLen /\ o.val.size <= maxLen) /\ 0 <= e.ts /\ e.ts <= 18446744073709551615 /\ e.ops.length * 40 <= 140737488351232
def LOk (W : World) (l : List EntR) : Prop := ∀ e ∈ l,EOk W e
theorem EOk.kept {W W' : World} {e : EntR} (h : EOk W e) (hk : Kept NoF W W') : EOk W' e := ⟨h.1.kept hk (fun _ _ x => x),h.2⟩
theorem LOk.kept {W W' : World} {l : List EntR} (h : LOk W l) (hk : Kept NoF W W') : LOk W' l := fun e he => (h e he).kept hk
theorem ecells_snoc (l : List EntR) (e : EntR) : ecells (l ++ [e]) = ecells l ++ ecell e := by
 unfold ecells
 rw [List.flatMap_append]
 simp
theorem ent_cells {w : World} {A : Option Addr} {m : Nat} {l : List EntR} (h : Src w 4 A m (ecells l)) (hm : 0 < m) (i : Nat) (e : EntR) (he : l[i]? = some e) :
  ∃ ad,A = some ad /\ ad.block < w.heap.size /\ w.cell? (ad.add (i * 4)) = some (.int .i64 e.cl) /\ w.cell? ⟨(ad.add (i * 4)).block,(ad.add (i * 4)).off + 1,none⟩ = some (.int .i64 e.req) /\
   w.cell? ⟨(ad.add (i * 4)).block,(ad.add (i * 4)).off + 2,none⟩ = some (.slice e.A e.ops.length e.c) /\ w.cell? ⟨(ad.add (i * 4)).block,(ad.add (i * 4)).off + 3,none⟩ = some (.int .u64 e.ts) := by
 obtain ⟨ad,rfl,had,hcell⟩ := h.2 hm
 have hk : ∀ j,j < 4 -> (ecells l)[i * 4 + j]? = (ecell e)[j]? := by
  intro j hj
  unfold ecells
  rw [flat_get ecell 4 (by decide) (fun _ => rfl),show (i * 4 + j) / 4 = i by omega,show (i * 4 + j) % 4 = j by omega,he]
  rfl
 refine ⟨ad,rfl,had,hcell _ _ (hk 0 (by decide)),?_,?_,?_⟩
 ·rw [<- add_lit _ (by omega),add_add];exact hcell _ _ (hk 1 (by decide))
 ·rw [<- add_lit _ (by omega),add_add];exact hcell _ _ (hk 2 (by decide))
 ·rw [<- add_lit _ (by omega),add_add];exact hcell _ _ (hk 3 (by decide))
end Ent
section
variable {H : Type} {enc : TypeId × Value -> H} {W : World} {v : Value} {d : DataW H} {ps : List MemPlace} {r : Reach} {b0 : Nat}
end
end Go.Proofs.YtgbigpdiacjbgaaGreat
