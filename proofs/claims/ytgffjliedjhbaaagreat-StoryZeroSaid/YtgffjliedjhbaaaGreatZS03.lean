/- Part 4 of what the proof needs. -/
import Derived.Test.YtgffjliedjhbaaaGreatZS00
import Derived.Test.YtgffjliedjhbaaaGreatZS01
import Derived.Test.YtgffjliedjhbaaaGreatZS02
import Derived.Test.YtgffjliedjhbaaaGreatChecked
import Derived.Carry
import Derived.KernelRfl
import Derived.Lib.SmallJoins
import Derived.Deep.Slices
import Derived.Deep.Strs
import Derived.Deep.RegionLaw
import Derived.Sort.KeysCollected
import Derived.Sort.Walk0
import Derived.Maps.OwnSet
import Derived.Maps.Views
import Derived.Deep.QuietTactic
import Derived.Test.YtgffjliedjhbaaaGreatRows
import Derived.ProofKit
import Derived.OpenShut
import Derived.SizedLaws
set_option linter.unusedSimpArgs false
set_option linter.unusedVariables false
set_option maxHeartbeats 32000000
set_option maxRecDepth 100000
namespace Go.Proofs.YtgffjliedjhbaaaGreat
open Go.RowKit Go.WideShapes Go.ChangeShapes
theorem own : ownKnob Tryz.prog.godebug = none := by kernel_rfl
theorem laid : laidOutB Tryz.prog = true := by kernel_rfl
theorem row_lt {t : Nat} (h : Nat.blt t Tryz.prog.types.size = true) : t < Tryz.prog.types.size := Nat.le_of_ble_eq_true h
theorem arg_stays {H : Type} {enc : TypeId × Value -> H} {t : TypeId} {W W' : World} {v : Value} {d : DataW H} {ps before : List MemPlace} {sp : Nat -> Bool}
  (hr : Tryz.prog.readableRec t = true) (ht : Nat.blt t Tryz.prog.types.size = true)
  (h : DataW.Trod enc Tryz.prog W 0 (fun _ => true) true t v d ps) (hb : Below W.heap.size W W') (hlt : ∀ x ∈ before,x.block < W.heap.size)
  (hsp : ∀ x ∈ before,sp x.block = true) (hin : ∀ x ∈ ps,x ∈ before) : DataW.Trod enc Tryz.prog W' 0 sp true t v d ps :=
 WideElems.Trod_stays laid hr (row_lt ht) h (fun x hx => hb.same (hlt x (hin x hx))) fun x hx => hsp x (hin x hx)
theorem add_lit (a : Addr) {j : Nat} (h : 0 < j) : a.add j = ⟨a.block,a.off + j,none⟩ := by unfold Addr.add;rw [if_neg (by omega)]
theorem flat_get {α : Type} (cells : α -> List Value) (C : Nat) (hC : 0 < C) (h1 : ∀ a,(cells a).length = C) : ∀ (l : List α) (j : Nat),(l.flatMap cells)[j]? = (l[j / C]?).bind fun a => (cells a)[j % C]? := by
 intro l
 induction l with
 | nil => intro j;simp
 | cons a l ih =>
  intro j
  rw [List.flatMap_cons]
  rcases Nat.lt_or_ge j C with h | h
  ·rw [List.getElem?_append_left (by rw [h1];exact h),Nat.div_eq_of_lt h,Nat.mod_eq_of_lt h]
   simp
  ·rw [List.getElem?_append_right (by rw [h1];exact h),h1,ih]
   have e1 : j / C = (j - C) / C + 1 := by rw [Nat.div_eq_sub_div hC h]
   have e2 : j % C = (j - C) % C := by rw [Nat.mod_eq_sub_mod h]
   rw [e1,e2,List.getElem?_cons_succ]
end Go.Proofs.YtgffjliedjhbaaaGreat
namespace Go.Proofs.YtgffjliedjhbaaaGreat
open Go.RowKit Go.Shelf
set_option maxRecDepth 100000
namespace Ops
open Vn
abbrev oagg (o : OpR) : Value := .agg #[.string o.key,.string o.val,.bool o.del]
abbrev bagg (b : Batch) (A : Option Addr) (c : Nat) : Value := .agg #[.int .i64 b.cl,.int .i64 b.req,.slice A b.ops.length c]
theorem op_cells {w : World} {A : Option Addr} {m : Nat} {l : List OpR} (h : Src w 3 A m (cells l)) (hm : 0 < m) (i : Nat) (p : OpR) (hp : l[i]? = some p) :
  ∃ ad,A = some ad /\ ad.block < w.heap.size /\ w.cell? (ad.add (i * 3)) = some (.string p.key) /\ w.cell? ⟨(ad.add (i * 3)).block,(ad.add (i * 3)).off + 1,none⟩ = some (.string p.val) /\ w.cell? ⟨(ad.add (i * 3)).block,(ad.add (i * 3)).off + 2,none⟩ = some (.bool p.del) := by
 obtain ⟨ad,rfl,had,hcell⟩ := h.2 hm
 have k0 : (cells l)[i * 3]? = some (.string p.key) := by
  unfold cells
  rw [flat_get cell 3 (by decide) (fun _ => rfl),show i * 3 / 3 = i by omega,show i * 3 % 3 = 0 by omega,hp];rfl
 have k1 : (cells l)[i * 3 + 1]? = some (.string p.val) := by
  unfold cells
  rw [flat_get cell 3 (by decide) (fun _ => rfl),show (i * 3 + 1) / 3 = i by omega,show (i * 3 + 1) % 3 = 1 by omega,hp];rfl
 have k2 : (cells l)[i * 3 + 2]? = some (.bool p.del) := by
  unfold cells
  rw [flat_get cell 3 (by decide) (fun _ => rfl),show (i * 3 + 2) / 3 = i by omega,show (i * 3 + 2) % 3 = 2 by omega,hp];rfl
 refine ⟨ad,rfl,had,hcell _ _ k0,?_,?_⟩
 ·rw [<- add_lit _ (by omega),add_add];exact hcell _ _ k1
 ·rw [<- add_lit _ (by omega),add_add];exact hcell _ _ k2
theorem empty_size (s : ByteArray) : s.toList.isEmpty = decide (s.size = 0) := by
 rw [ByteArray.toList_eq,<- size_bl]
 cases h : bl s <;> simp [h]
theorem kcheck_any (s : ByteArray) (w : World) : Calls Tryz.prog 259 #[.string s] w fun e w' => e = .returned (.int .i64 (if s.size < 1 \/ 8 < s.size then 10 else 0)) /\ w = w' := by
 have he := empty_size s
 by_cases h0 : s.size < 1
 ·have h1 : s.toList.isEmpty = true := by rw [he];exact decide_eq_true (by omega)
  rw [if_pos (.inl h0)]
  clear he
  go_enter Tryz.func259,Tryz.ntmps259
  go_wp2
  go_ret
  exact ⟨rfl,rfl⟩
 ·have h1 : s.toList.isEmpty = false := by rw [he];exact decide_eq_false (by omega)
  clear he
  by_cases h8 : 8 < s.size
  ·rw [if_pos (.inr h8)]
   go_enter Tryz.func259,Tryz.ntmps259
   go_wp2
   go_ret
   exact ⟨rfl,rfl⟩
  ·rw [if_neg (by omega)]
   go_enter Tryz.func259,Tryz.ntmps259
   go_wp2
   go_ret
   exact ⟨rfl,rfl⟩
theorem one_any (o : OpR) (a : ByteArray) (f : Bool) (w : World) : Calls Tryz.prog 240 #[oagg o,.string a,.bool f] w fun e w' => e = .returned (.int .i64 (one o a f)) /\ Kept NoF w w' := by
 obtain ⟨k,v,d⟩ := o
 have hk := kcheck_any k
 unfold one oagg
 dsimp only
 by_cases h1 : k.size < 1 \/ 8 < k.size
 ·rw [if_pos h1] at hk ⊢
  have HK := hZ0 hk;clear hk h1
  go_enter Tryz.func240,Tryz.ntmps240
  go_wp2_with fail
  refine (HK.out _).mono ?_
  rintro e w2 ⟨rfl,rfl⟩
  go_wp2
  go_ret
  exact ⟨rfl,(Kept.refl _ _).alloc _⟩
 ·rw [if_neg h1] at hk ⊢
  have HK := hZ0 hk;clear hk h1
  by_cases h2 : 8 < v.size
  ·rw [if_pos h2]
   go_enter Tryz.func240,Tryz.ntmps240
   go_wp2_with fail
   refine (HK.out _).mono ?_
   rintro e w2 ⟨rfl,rfl⟩
   go_wp2
   go_ret
   exact ⟨rfl,(Kept.refl _ _).alloc _⟩
  ·rw [if_neg h2]
   have he := empty_size v
   by_cases h3 : d = true /\ v.size ≠ 0
   ·rw [if_pos h3]
    have he2 : v.toList.isEmpty = false := by rw [he];exact decide_eq_false h3.2
    obtain ⟨rfl,h4⟩ := h3
    clear he
    go_enter Tryz.func240,Tryz.ntmps240
    go_wp2_with fail
    refine (HK.out _).mono ?_
    rintro e w2 ⟨rfl,rfl⟩
    go_wp2
    go_ret
    exact ⟨rfl,(Kept.refl _ _).alloc _⟩
   ·rw [if_neg h3]
    by_cases h4 : f = false /\ Op.bytesLess a.toList k.toList = false
    ·rw [if_pos h4]
     obtain ⟨rfl,h5⟩ := h4
     cases d
     ·clear he h3
      go_enter Tryz.func240,Tryz.ntmps240
      go_wp2_with fail
      refine (HK.out _).mono ?_
      rintro e w2 ⟨rfl,rfl⟩
      go_wp2
      go_ret
      exact ⟨rfl,(Kept.refl _ _).alloc _⟩
     ·have he2 : v.toList.isEmpty = true := by rw [he];exact decide_eq_true (Classical.byContradiction fun x => h3 ⟨rfl,x⟩)
      clear he h3
      go_enter Tryz.func240,Tryz.ntmps240
      go_wp2_with fail
      refine (HK.out _).mono ?_
      rintro e w2 ⟨rfl,rfl⟩
      go_wp2
      go_ret
      exact ⟨rfl,(Kept.refl _ _).alloc _⟩
    ·rw [if_neg h4]
     have h5 : f = true \/ (f = false /\ Op.bytesLess a.toList k.toList = true) := by
      cases f
      ·right;refine ⟨rfl,?_⟩;cases hb : Op.bytesLess a.toList k.toList
       ·exact absurd ⟨rfl,hb⟩ h4
       ·rfl
      ·left;rfl
     clear h4
     cases d
     ·clear he h3
      rcases h5 with rfl | ⟨rfl,h5⟩
      all_goals
       go_enter Tryz.func240,Tryz.ntmps240
       go_wp2_with fail
       refine (HK.out _).mono ?_
       rintro e w2 ⟨rfl,rfl⟩
       go_wp2
       go_ret
       exact ⟨rfl,(Kept.refl _ _).alloc _⟩
     ·have he2 : v.toList.isEmpty = true := by rw [he];exact decide_eq_true (Classical.byContradiction fun x => h3 ⟨rfl,x⟩)
      clear he h3
      rcases h5 with rfl | ⟨rfl,h5⟩
      all_goals
       go_enter Tryz.func240,Tryz.ntmps240
       go_wp2_with fail
       refine (HK.out _).mono ?_
       rintro e w2 ⟨rfl,rfl⟩
       go_wp2
       go_ret
       exact ⟨rfl,(Kept.refl _ _).alloc _⟩
theorem chk_cases (b : Batch) : (chk b = 1 /\ (b.cl < 0 \/ (¬ b.cl < 0 /\ 3 <= b.cl))) \/ (chk b = 5 /\ 0 <= b.cl /\ b.cl < 3 /\ (b.req < 1 \/ (¬ b.req < 1 /\ 1073741824 < b.req))) \/ (chk b = 6 /\ 0 <= b.cl /\ b.cl < 3 /\ 1 <= b.req /\ b.req <= 1073741824 /\ 4 < b.ops.length) \/ (chk b = chkL b.ops emp true /\ 0 <= b.cl /\ b.cl < 3 /\ 1 <= b.req /\ b.req <= 1073741824 /\ b.ops.length <= 4) := by
 unfold chk
 by_cases h1 : b.cl < 0 \/ 3 <= b.cl
 ·rw [if_pos h1];left;exact ⟨rfl,by omega⟩
 ·rw [if_neg h1]
  right
  by_cases h2 : b.req < 1 \/ 1073741824 < b.req
  ·rw [if_pos h2];left;exact ⟨rfl,by omega,by omega,by omega⟩
  ·rw [if_neg h2]
   right
   by_cases h3 : 4 < b.ops.length
   ·rw [if_pos h3];left;exact ⟨rfl,by omega,by omega,by omega,by omega,h3⟩
   ·rw [if_neg h3];right;exact ⟨rfl,by omega,by omega,by omega,by omega,by omega⟩
theorem ocheck_any (w : World) (b : Batch) (A : Option Addr) (c : Nat) (hs : Src w 3 A b.ops.length (cells b.ops)) :
  Calls Tryz.prog 186 #[bagg b A c] w fun e w' => e = .returned (.int .i64 (chk b)) /\ Kept NoF w w' := by
 have hc := chk_cases b
 obtain ⟨cl,req,l⟩ := b
 dsimp only at hc hs
 unfold bagg
 dsimp only
 have HS := hZ0 hs;clear hs
 rcases hc with ⟨hc,h1 | ⟨h1,h2⟩⟩ | ⟨hc,h0,h1,h2 | ⟨h2,h3⟩⟩ | ⟨hc,h0,h1,h2,h3,h4⟩ | ⟨hc,h0,h1,h2,h3,h4⟩
 ·rw [hc];clear hc HS
  go_enter Tryz.func186,Tryz.ntmps186
  go_wp2
  go_ret
  exact ⟨rfl,(Kept.refl _ _).alloc _⟩
 ·rw [hc];clear hc HS
  go_enter Tryz.func186,Tryz.ntmps186
  go_wp2
  go_ret
  exact ⟨rfl,(Kept.refl _ _).alloc _⟩
 ·rw [hc];clear hc HS
  have g1 : ¬ cl < 0 := by omega
  have g2 : ¬ 3 <= cl := by omega
  go_enter Tryz.func186,Tryz.ntmps186
  go_wp2
  go_ret
  exact ⟨rfl,(Kept.refl _ _).alloc _⟩
 ·rw [hc];clear hc HS
  have g1 : ¬ cl < 0 := by omega
  have g2 : ¬ 3 <= cl := by omega
  go_enter Tryz.func186,Tryz.ntmps186
  go_wp2
  go_ret
  exact ⟨rfl,(Kept.refl _ _).alloc _⟩
 ·rw [hc];clear hc HS
  have g1 : ¬ cl < 0 := by omega
  have g2 : ¬ 3 <= cl := by omega
  have g3 : ¬ req < 1 := by omega
  have g4 : ¬ 1073741824 < req := by omega
  go_enter Tryz.func186,Tryz.ntmps186
  go_wp2
  go_ret
  exact ⟨rfl,(Kept.refl _ _).alloc _⟩
 ·rw [hc];clear hc
  have g1 : ¬ cl < 0 := by omega
  have g2 : ¬ 3 <= cl := by omega
  have g3 : ¬ req < 1 := by omega
  have g4 : ¬ 1073741824 < req := by omega
  go_enter Tryz.func186,Tryz.ntmps186
  go_wp2
  go_loopw [3,33] (fun v3 v33 wr => ∃ (i : Nat) (a : ByteArray),i <= l.length /\ v33 = .int .i64 i /\ v3 = .string a /\ chkL l emp true = chkL (l.drop i) a (decide (i = 0)) /\ Kept NoF w wr) (fun _ v33 _ => l.length - (intOf v33).toNat)
  case atStart => exact ⟨0,emp,Nat.zero_le _,rfl,rfl,rfl,by (repeat' (first | (with_reducible first | exact kR0 | apply kP0 | apply kN0 | apply kD0 | apply kA0) | (right;simp;done)))⟩
  case round =>
   obtain ⟨i,a,hi,rfl,rfl,he,hk⟩ := hrel
   have HE := hZ0 he;clear he
   have HK := hZ0 hk;clear hk
   by_cases hil : i < l.length
   ·obtain ⟨o,ho⟩ : ∃ o,l[i]? = some o := ⟨_,List.getElem?_eq_getElem hil⟩
    have hoi : l[i] = o := by rw [List.getElem?_eq_getElem hil] at ho;exact Option.some.inj ho
    obtain ⟨ad,rfl,had,e0,e1,e2⟩ := op_cells (HS.out.kept HK.out (fun _ _ x => x)) (by omega) i o ho
    have hd := chkL_at l i hil a (decide (i = 0))
    rw [hoi] at hd
    have HD := hZ0 hd;clear hd ho hoi
    obtain ⟨f,hf⟩ : ∃ f,decide (i = 0) = f := ⟨_,rfl⟩
    rw [hf] at HD HE
    have hone : ∀ (g : Bool) (W : World),g = f -> Calls Tryz.prog 240 #[oagg o,.string a,.bool g] W fun e w' => e = .returned (.int .i64 (one o a f)) /\ Kept NoF W w' := fun g W hg => by rw [hg];exact one_any o a f W
    have HF := hZ0 hf;clear hf
    have HO := hZ0 hone;clear hone
    have HN := hZ0 (Has.new wr 196 #[.string o.key,.string o.val,.bool o.del])
    go_wp2_with fail
    refine (HO.out _ _ (by rw [<- HF.out];by_cases h0 : i = 0 <;> simp [h0])).mono ?_
    rintro e w2 ⟨rfl,hk⟩
    have hh := HN.out.kept hk (fun x => x)
    have c0 : w2.cell? ⟨wr.heap.size,0,none⟩ = some (.string o.key) := hh.cell 0
    have hk2 := (HK.out.alloc _).then hk
    have HK2 := hZ0 hk2;clear hk2 hk hh HN HK HO
    by_cases hz : one o a f = 0
    ·have hz2 : (one o a f == 0) = true := by simp [hz]
     have hd2 := HD.out
     rw [if_neg (by simp [hz])] at hd2
     rw [hz] at hz2 ⊢
     have HD2 := hZ0 hd2;clear hd2 HD
     have HZ := hZ0 hz;clear hz hz2
     go_wp2
     go_roundw
     case rel => exact ⟨i + 1,o.key,by omega,by go_num,rfl,by
      rw [HE.out,HD2.out]
      have : decide (i + 1 = 0) = false := by simp
      rw [this],HK2.out⟩
     case measure => simp [intOf];omega
    ·have hd2 := HD.out
     rw [if_pos hz] at hd2
     have hr := HE.out.trans hd2
     obtain ⟨x,hx⟩ : ∃ x,one o a f = x := ⟨_,rfl⟩
     rw [hx] at hz hr ⊢
     have hz2 : (x != 0) = true := by simpa using hz
     have HR := hZ0 hr
     clear HD HE hd2 hr hx hz
     go_wp2
     go_ret
     exact ⟨by rw [HR.out];rfl,HK2.out⟩
   ·obtain rfl : i = l.length := by omega
    have hr := HE.out
    rw [List.drop_length,chkL] at hr
    have HR := hZ0 hr;clear HE hr
    go_wp2
    go_ret
    exact ⟨by rw [HR.out];rfl,HK.out⟩
end Ops
end Go.Proofs.YtgffjliedjhbaaaGreat
namespace Go.Proofs.YtgffjliedjhbaaaGreat.Keys
open Go.Proofs
abbrev BL := List UInt8
def dups : List BL -> List BL
 | [] => []
 | a :: l => if a ∈ l then dups l else a :: dups l
theorem mem_dups (l : List BL) (x : BL) : x ∈ dups l ↔ x ∈ l := by
 induction l with
 | nil => exact Iff.rfl
 | cons a l ih =>
  unfold dups
  split
  ·rename_i h
   rw [ih,List.mem_cons]
   constructor
   ·exact .inr
   ·rintro (rfl | h2)
    ·exact h
    ·exact h2
  ·rw [List.mem_cons,List.mem_cons,ih]
def setL (l : List BL) : List BL := (dups l).mergeSort leB
theorem mem_set (l : List BL) (x : BL) : x ∈ setL l ↔ x ∈ l := by
 unfold setL
 rw [List.mem_mergeSort,mem_dups]
end Go.Proofs.YtgffjliedjhbaaaGreat.Keys
namespace Go.Proofs.YtgffjliedjhbaaaGreat
open Go.RowKit Go.Maps
set_option maxRecDepth 100000
namespace Ops
abbrev BL := List UInt8
abbrev Env := BL -> Option ByteArray
theorem strKeyed : Keyed Tryz.prog 9 := string_keyed Tryz.underlying9
def SMap (w : World) (b n : Nat) (f : Env) : Prop :=
 ∃ D : DataW Unit,w.ownsMap Tryz.prog 9 (plainElem Tryz.prog 9) b n D /\ ∀ x : BL,has D (.string x) = (f x).isSome /\ D.atKey (.string x) (.lit (.string [])) = .lit (.string (bl ((f x).getD emp)))
theorem SMap.lt {w : World} {b n : Nat} {m : Env} (h : SMap w b n m) : b < w.heap.size := by
 obtain ⟨D,h,_⟩ := h
 exact h.lt
theorem SMap.kept {F : Nat -> Prop} {w w' : World} {b n : Nat} {m : Env} (h : SMap w b n m) (hk : Kept F w w') (hf : ¬ F b) : SMap w' b n m := by
 obtain ⟨D,ho,hD⟩ := h
 have hlt := ho.lt
 obtain ⟨es,clock,hb,hF,hs,e⟩ := ho
 exact ⟨D,⟨es,clock,(hk.block b hlt hf).trans hb,hF,hs,e⟩,hD⟩
theorem SMap.made (w : World) : SMap (w.alloc (.map #[] 0)) w.heap.size 0 (fun _ => none) :=
 ⟨_,World.ownsMap_made w _ _ _,fun k => ⟨rfl,rfl⟩⟩
theorem SMap.mono {w : World} {b n n' : Nat} {m : Env} (h : SMap w b n m) (hn : n <= n') : SMap w b n' m := by
 obtain ⟨D,ho,hD⟩ := h
 exact ⟨D,ho.mono hn,hD⟩
end Ops
end Go.Proofs.YtgffjliedjhbaaaGreat
namespace Go.Proofs.YtgffjliedjhbaaaGreat
namespace Ops
structure PairR where
 key : ByteArray
 val : ByteArray
deriving DecidableEq
def pcell (p : PairR) : List Value := [.string p.key,.string p.val]
def pcells (l : List PairR) : List Value := l.flatMap pcell
theorem pcells_length (l : List PairR) : (pcells l).length = l.length * 2 := by
 induction l with
 | nil => rfl
 | cons a l ih => simp [pcells,pcell] at ih ⊢;omega
end Ops
end Go.Proofs.YtgffjliedjhbaaaGreat
namespace Go.Proofs.YtgffjliedjhbaaaGreat
open Go.RowKit Go.Shelf
set_option maxRecDepth 100000
namespace Ops
open Vn
abbrev pagg (p : PairR) : Value := .agg #[.string p.key,.string p.val]
end Ops
end Go.Proofs.YtgffjliedjhbaaaGreat
namespace Go.Proofs.YtgffjliedjhbaaaGreat
open Go.RowKit Go.WideShapes Go.ChangeShapes
set_option maxRecDepth 100000
namespace Ent
open Ops
structure EntR where
 cl : Int
 req : Int
 A : Option Addr
 c : Nat
 ops : List OpR
 ts : Int
def ecell (e : EntR) : List Value := [.int .i64 e.cl,.int .i64 e.req,.slice e.A e.ops.length e.c,.int .u64 e.ts]
def ecells (l : List EntR) : List Value := l.flatMap ecell
abbrev eagg (e : EntR) : Value := .agg #[.int .i64 e.cl,.int .i64 e.req,.slice e.A e.ops.length e.c,.int .u64 e.ts]
def bat (e : EntR) : Batch := ⟨e.cl,e.req,e.ops⟩
def EOk (W : World) (e : EntR) : Prop := Src W 3 e.A e.ops.length (cells e.ops) /\ e.ops.length <= e.c /\ e.c <= maxLen /\ (∀ o ∈ e.ops,o.key.size <= maxLen /\ o.val.size <= maxLen) /\ 0 <= e.ts /\ e.ts <= 18446744073709551615 /\ e.ops.length * 40 <= 140737488351232
def LOk (W : World) (l : List EntR) : Prop := ∀ e ∈ l,EOk W e
theorem EOk.kept {W W' : World} {e : EntR} (h : EOk W e) (hk : Kept NoF W W') : EOk W' e := ⟨h.1.kept hk (fun _ _ x => x),h.2⟩
theorem LOk.kept {W W' : World} {l : List EntR} (h : LOk W l) (hk : Kept NoF W W') : LOk W' l := fun e he => (h e he).kept hk
theorem ecells_snoc (l : List EntR) (e : EntR) : ecells (l ++ [e]) = ecells l ++ ecell e := by
 unfold ecells
 rw [List.flatMap_append]
 simp
theorem ecells_take (l : List EntR) (k : Nat) : (ecells l).take (k * 4) = ecells (l.take k) := by
 induction l generalizing k with
 | nil => simp [ecells]
 | cons a l ih =>
  cases k with
  | zero => simp [ecells]
  | succ k =>
   have e : ecells (a :: l) = ecell a ++ ecells l := by simp [ecells]
   have e2 : ecells (a :: l.take k) = ecell a ++ ecells (l.take k) := by simp [ecells]
   rw [List.take_succ_cons,e,e2,List.take_append,<- ih k]
   have hl : (ecell a).length = 4 := rfl
   rw [List.take_of_length_le (by omega),hl,show (k + 1) * 4 - 4 = k * 4 by omega]
theorem one_ents (l : List EntR) : ∀ u ∈ ecells l,u.oneCell' = true := by
 intro u hu
 unfold ecells at hu
 rw [List.mem_flatMap] at hu
 obtain ⟨e,_,hu⟩ := hu
 simp [ecell] at hu
 rcases hu with rfl | rfl | rfl | rfl <;> rfl
theorem ent_cells {w : World} {A : Option Addr} {m : Nat} {l : List EntR} (h : Src w 4 A m (ecells l)) (hm : 0 < m) (i : Nat) (e : EntR) (he : l[i]? = some e) :
  ∃ ad,A = some ad /\ ad.block < w.heap.size /\ w.cell? (ad.add (i * 4)) = some (.int .i64 e.cl) /\ w.cell? ⟨(ad.add (i * 4)).block,(ad.add (i * 4)).off + 1,none⟩ = some (.int .i64 e.req) /\
   w.cell? ⟨(ad.add (i * 4)).block,(ad.add (i * 4)).off + 2,none⟩ = some (.slice e.A e.ops.length e.c) /\ w.cell? ⟨(ad.add (i * 4)).block,(ad.add (i * 4)).off + 3,none⟩ = some (.int .u64 e.ts) := by
 obtain ⟨ad,rfl,had,hcell⟩ := h.2 hm
 have hk : ∀ j,j < 4 -> (ecells l)[i * 4 + j]? = (ecell e)[j]? := by
  intro j hj
  unfold ecells
  rw [flat_get ecell 4 (by decide) (fun _ => rfl),show (i * 4 + j) / 4 = i by omega,show (i * 4 + j) % 4 = j by omega,he]
  rfl
 refine ⟨ad,rfl,had,hcell _ _ (hk 0 (by decide)),?_,?_,?_⟩
 ·rw [<- add_lit _ (by omega),add_add];exact hcell _ _ (hk 1 (by decide))
 ·rw [<- add_lit _ (by omega),add_add];exact hcell _ _ (hk 2 (by decide))
 ·rw [<- add_lit _ (by omega),add_add];exact hcell _ _ (hk 3 (by decide))
end Ent
section
variable {H : Type} {enc : TypeId × Value -> H} {W : World} {v : Value} {d : DataW H} {ps : List MemPlace} {r : Reach} {b0 : Nat}
end
end Go.Proofs.YtgffjliedjhbaaaGreat
