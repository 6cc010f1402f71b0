/- Part 13 of what the proof needs. -/
import Derived.Test.YtgbigpdiacjbgaaGreatKO03
import Derived.Test.YtgbigpdiacjbgaaGreatKO04
import Derived.Test.YtgbigpdiacjbgaaGreatKO05
import Derived.Deep.RegionHeld3
set_option linter.unusedSimpArgs false
set_option linter.unusedVariables false
set_option maxHeartbeats 32000000
set_option maxRecDepth 100000
namespace Go.Proofs.YtgbigpdiacjbgaaGreat
open Go.RowKit
set_option maxRecDepth 100000
namespace Mst
open Plan
structure PinR where
 id : Int
 at' : Int
 left : Int
deriving DecidableEq
def pcell (p : PinR) : List Value := [.int .i64 p.id,.int .u64 p.at',.int .i64 p.left]
def pcells (l : List PinR) : List Value := l.flatMap pcell
abbrev pagg (p : PinR) : Value := .agg #[.int .i64 p.id,.int .u64 p.at',.int .i64 p.left]
theorem enters {f : FuncId} {fn : Func} {c : Code} (hf : Tryz.prog.funcs[f]? = some fn) (hname : (fn.name == "runtime.NumGoroutine") = false) (hb : fn.body = some c) (args : Array Value) (w : World) :
  (callFunc f args).run Tryz.prog w = .ok (.enter f args) w := by
 have h1 : fn.name ≠ "runtime.NumGoroutine" := by simpa using hname
 simp [callFunc,hf,h1,hb]
def idxW {α : Type} (p : α -> Bool) : List α -> Nat -> Int
 | [],_ => -1
 | x :: l,i => if p x = true then i else idxW p l (i + 1)
theorem idxW_at {α : Type} (p : α -> Bool) {l : List α} {i : Nat} {x : α} (h : l[i]? = some x) : idxW p (l.drop i) i = if p x = true then (i : Int) else idxW p (l.drop (i + 1)) (i + 1) := by
 obtain ⟨hi,rfl⟩ := List.getElem?_eq_some_iff.1 h
 rw [List.drop_eq_getElem_cons hi,idxW]
theorem idxW_any {α : Type} (p : α -> Bool) (l : List α) (i : Nat) : decide (0 <= idxW p l i) = l.any p := by
 induction l generalizing i with
 | nil => simp [idxW]
 | cons x l ih =>
  rw [idxW,List.any_cons]
  cases hx : p x
  ·rw [if_neg (by simp),ih,Bool.false_or]
  ·rw [if_pos rfl,Bool.true_or];simp
theorem idxMem_any (w : World) (A : Option Addr) (c : Nat) (l : List Mem) (g : Nat) (cap : Value) (p : Mem -> Bool) (eg : ∀ args w,(callFunc g args).run Tryz.prog w = .ok (.enter g args) w) (hl : Src w 2 A l.length (mcells l)) (hlen : l.length <= 1000000)
  (hf : ∀ W x,Kept NoF w W -> x ∈ l -> Calls Tryz.prog g #[magg x,cap] W fun e W' => e = .returned (.bool (p x)) /\ Kept NoF W W') :
  Calls Tryz.prog 188 #[.slice A l.length c,.func (.func g) #[] #[cap]] w fun r w' => r = .returned (.int .i64 (idxW p l 0)) /\ Kept NoF w w' := by
 have HL := hZ0 hl;clear hl
 have HCALL := hZ0 hf;clear hf
 obtain ⟨r,hr⟩ : ∃ r,idxW p l 0 = r := ⟨_,rfl⟩
 rw [hr]
 have HR := hZ0 hr;clear hr
 go_enter Tryz.func188,Tryz.ntmps188
 go_wp2_with fail
 go_loopw [5,8] (fun v5 v8 wr => ∃ i : Nat,i <= l.length /\ v8 = .int .i64 i /\ r = idxW p (l.drop i) i /\ Kept NoF w wr) (fun _ v8 _ => l.length - (intOf v8).toNat)
 case atStart => exact ⟨0,Nat.zero_le _,rfl,HR.out.symm,Kept.refl _ _⟩
 case round =>
  obtain ⟨i,hi,rfl,hrr,hk⟩ := hrel
  have HK := hZ0 hk;clear hk
  by_cases hil : i < l.length
  ·obtain ⟨x,hx⟩ : ∃ x,l[i]? = some x := ⟨_,List.getElem?_eq_getElem hil⟩
   have hsa := idxW_at p hx
   obtain ⟨ad,rfl,hl1,x0,x1⟩ := mem_cells (HL.out.kept HK.out (fun _ _ x => x)) (by omega) i x hx
   have hcall := HCALL.out wr x HK.out (List.mem_of_getElem? hx)
   rw [hsa] at hrr
   obtain ⟨t,ht⟩ : ∃ t,p x = t := ⟨_,rfl⟩
   rw [ht] at hcall hrr
   clear hsa ht hx
   have HC := hZ0 hcall;clear hcall
   have HRR := hZ0 hrr;clear hrr
   go_wp2_with fail
   refine HC.out.mono ?_
   rintro e w5 ⟨rfl,hk0⟩
   have HK5 := hZ0 (HK.out.then hk0);clear hk0
   cases t
   ·have hrf := HRR.out
    rw [if_neg (by simp)] at hrf
    have HRF := hZ0 hrf;clear hrf HRR
    go_wp2
    go_roundw
    case rel => exact ⟨i + 1,by omega,by go_num,HRF.out,HK5.out⟩
    case measure => simp [intOf];omega
   ·have hrf := HRR.out
    rw [if_pos rfl] at hrf
    have HRF := hZ0 hrf;clear hrf HRR
    go_wp2
    go_ret
    exact ⟨by rw [HRF.out];rfl,HK5.out⟩
  ·obtain rfl : i = l.length := by omega
   rw [List.drop_length,idxW] at hrr
   have HRR := hZ0 hrr;clear hrr
   go_wp2
   go_ret
   exact ⟨by rw [HRR.out];rfl,HK.out⟩
theorem hasMem_any (w : World) (A : Option Addr) (c : Nat) (l : List Mem) (g : Nat) (cap : Value) (p : Mem -> Bool) (eg : ∀ args w,(callFunc g args).run Tryz.prog w = .ok (.enter g args) w) (hl : Src w 2 A l.length (mcells l)) (hlen : l.length <= 1000000)
  (hf : ∀ W x,Kept NoF w W -> x ∈ l -> Calls Tryz.prog g #[magg x,cap] W fun e W' => e = .returned (.bool (p x)) /\ Kept NoF W W') :
  Calls Tryz.prog 185 #[.slice A l.length c,.func (.func g) #[] #[cap]] w fun r w' => r = .returned (.bool (l.any p)) /\ Kept NoF w w' := by
 have hi := idxMem_any w A c l g cap p eg hl hlen hf
 have ha := idxW_any p l 0
 obtain ⟨k,hk⟩ : ∃ k,idxW p l 0 = k := ⟨_,rfl⟩
 rw [hk] at hi ha
 rw [<- ha]
 have HI := hZ0 hi;clear hi hk hf hl ha eg
 go_enter Tryz.func185,Tryz.ntmps185
 go_wp2_with fail
 refine HI.out.mono ?_
 rintro e w2 ⟨rfl,hk⟩
 have HK := hZ0 hk;clear hk
 go_wp2
 go_ret
 exact ⟨by simp,HK.out⟩
end Mst
namespace Mst
open Plan
structure AnsR where
 cl : Int
 req : Int
 e : Int
 pin : Int
deriving DecidableEq
end Mst
namespace Mst
open Plan
theorem one1_any (w : World) (x m : Mem) (b : Nat) (hb : Has w b 175 #[.int .i64 m.1,.int .i64 m.2]) :
  Calls Tryz.prog 184 #[magg x,.pointer (some ⟨b,0,none⟩)] w fun e w' => e = .returned (.bool (decide (x.1 = m.1))) /\ Kept NoF w w' := by
 have c0 := (hb.alloc (.cells #[.int .i64 x.1,.int .i64 x.2] 175)).cell 0
 simp only [List.getElem?_toArray,List.getElem?_cons_zero,List.getElem?_cons_succ] at c0
 clear hb
 go_enter Tryz.func184,Tryz.ntmps184
 go_wp2
 go_ret
 exact ⟨rfl,by (repeat' (first | (with_reducible first | exact kR0 | apply kP0 | apply kN0 | apply kD0 | apply kA0) | (right;simp;done)))⟩
theorem one_any (w : World) (m : Mem) (A : Option Addr) (c : Nat) (l : List Mem) (hl : Src w 2 A l.length (mcells l)) (hlen : l.length <= 1000000) :
  Calls Tryz.prog 174 #[magg m,.slice A l.length c] w fun e w' => e = .returned (.int .i64 (oneE m l)) /\ Kept NoF w w' := by
 have hk1 : Kept NoF w (w.alloc (.cells #[.int .i64 m.1,.int .i64 m.2] 175)) := by (repeat' (first | (with_reducible first | exact kR0 | apply kP0 | apply kN0 | apply kD0 | apply kA0) | (right;simp;done)))
 have hb := Has.new w 175 #[.int .i64 m.1,.int .i64 m.2]
 have hh := hasMem_any _ A c l 184 (.pointer (some ⟨w.heap.size,0,none⟩)) (fun x => decide (x.1 = m.1)) (fun args W => enters Tryz.func184 (by kernel_rfl) rfl args W) (hl.kept hk1 (fun _ _ z => z)) hlen
  (fun W x hW _ => one1_any W x m w.heap.size (hb.kept hW (fun z => z)))
 obtain ⟨r,hr⟩ : ∃ r,oneE m l = r := ⟨_,rfl⟩
 rw [hr]
 unfold oneE at hr
 obtain ⟨t,ht⟩ : ∃ t,(l.any fun x => decide (x.1 = m.1)) = t := ⟨_,rfl⟩
 rw [ht] at hr hh
 clear ht hl hb hk1
 obtain ⟨m1,m2⟩ := m
 dsimp only at *
 have HH := hZ0 hh;clear hh
 have HR := hZ0 hr;clear hr
 by_cases h1 : m1 < 0
 ·go_enter Tryz.func174,Tryz.ntmps174
  go_wp2
  go_ret
  exact ⟨by rw [<- HR.out,if_pos (.inl h1)];rfl,by (repeat' (first | (with_reducible first | exact kR0 | apply kP0 | apply kN0 | apply kD0 | apply kA0) | (right;simp;done)))⟩
 by_cases h2 : 4 <= m1
 ·go_enter Tryz.func174,Tryz.ntmps174
  go_wp2
  go_ret
  exact ⟨by rw [<- HR.out,if_pos (.inr h2)];rfl,by (repeat' (first | (with_reducible first | exact kR0 | apply kP0 | apply kN0 | apply kD0 | apply kA0) | (right;simp;done)))⟩
 have hr2 := HR.out
 rw [if_neg (by omega)] at hr2
 clear HR
 have HR := hZ0 hr2;clear hr2
 by_cases h3 : m2 < 1
 ·go_enter Tryz.func174,Tryz.ntmps174
  go_wp2
  go_ret
  exact ⟨by rw [<- HR.out,if_pos (.inl h3)];rfl,by (repeat' (first | (with_reducible first | exact kR0 | apply kP0 | apply kN0 | apply kD0 | apply kA0) | (right;simp;done)))⟩
 by_cases h4 : 1073741824 < m2
 ·go_enter Tryz.func174,Tryz.ntmps174
  go_wp2
  go_ret
  exact ⟨by rw [<- HR.out,if_pos (.inr h4)];rfl,by (repeat' (first | (with_reducible first | exact kR0 | apply kP0 | apply kN0 | apply kD0 | apply kA0) | (right;simp;done)))⟩
 have hr2 := HR.out
 rw [if_neg (by omega)] at hr2
 clear HR
 have HR := hZ0 hr2;clear hr2
 go_enter Tryz.func174,Tryz.ntmps174
 go_wp2_with fail
 refine HH.out.mono ?_
 rintro e w2 ⟨rfl,hk⟩
 have hk2 := Kept.then (F := NoF) (a := w) (by (repeat' (first | (with_reducible first | exact kR0 | apply kP0 | apply kN0 | apply kD0 | apply kA0) | (right;simp;done)))) hk
 have HK := hZ0 hk2;clear hk hk2
 cases t
 ·have hr3 := HR.out
  rw [if_neg (by simp)] at hr3
  subst hr3
  clear HR
  go_wp2
  go_ret
  exact ⟨rfl,HK.out⟩
 ·have hr3 := HR.out
  rw [if_pos rfl] at hr3
  subst hr3
  clear HR
  go_wp2
  go_ret
  exact ⟨rfl,HK.out⟩
theorem icheck_any (w : World) (b : Ops.Batch) (A : Option Addr) (c : Nat) (ts : Int) (hs : Src w 3 A b.ops.length (Ops.cells b.ops)) :
  Calls Tryz.prog 176 #[.agg #[.int .i64 b.cl,.int .i64 b.req,.slice A b.ops.length c,.int .u64 ts]] w fun e w' => e = .returned (.int .i64 (Ops.chk b)) /\ Kept NoF w w' := by
 have h := fun W (hW : Kept NoF w W) => Ops.ocheck_any W b A c (hs.kept hW (fun _ _ z => z))
 obtain ⟨cl,req,ops⟩ := b
 dsimp only [Ops.bagg] at *
 obtain ⟨r,hr⟩ : ∃ r,Ops.chk ⟨cl,req,ops⟩ = r := ⟨_,rfl⟩
 rw [hr] at h ⊢
 have H := hZ0 h;clear h hr hs
 go_enter Tryz.func176,Tryz.ntmps176
 go_wp2_with fail
 refine (H.out _ (by (repeat' (first | (with_reducible first | exact kR0 | apply kP0 | apply kN0 | apply kD0 | apply kA0) | (right;simp;done))))).mono ?_
 rintro e w2 ⟨rfl,hk⟩
 have hk2 := Kept.then (F := NoF) (a := w) (by (repeat' (first | (with_reducible first | exact kR0 | apply kP0 | apply kN0 | apply kD0 | apply kA0) | (right;simp;done)))) hk
 have HK := hZ0 hk2;clear hk hk2
 go_wp2
 go_ret
 exact ⟨rfl,HK.out⟩
end Mst
namespace Mst
open Plan
theorem mcells_take (l : List Mem) (k : Nat) : (mcells l).take (k * 2) = mcells (l.take k) := by
 induction l generalizing k with
 | nil => cases k <;> rfl
 | cons m l ih =>
  cases k with
  | zero => rfl
  | succ k =>
   rw [show (k + 1) * 2 = k * 2 + 2 by omega,List.take_succ_cons]
   show List.take (k * 2 + 2) (.int .i64 m.1 :: .int .i64 m.2 :: mcells l) = .int .i64 m.1 :: .int .i64 m.2 :: mcells (l.take k)
   rw [List.take_succ_cons,List.take_succ_cons,ih]
theorem Src.takeM {w : World} {A : Option Addr} {l : List Mem} (h : Src w 2 A l.length (mcells l)) {k : Nat} (hk : k <= l.length) : Src w 2 A (l.take k).length (mcells (l.take k)) := by
 have h1 := h.take hk
 rw [mcells_take] at h1
 rwa [List.length_take,Nat.min_eq_left hk]
theorem ccheck_any (w : World) (ep fl : Int) (A : Option Addr) (c : Nat) (l : List Mem) (hl : Src w 2 A l.length (mcells l)) (hlc : l.length <= c) (hlen : l.length <= 1000000) :
  Calls Tryz.prog 138 #[cagg ep A l.length c fl] w fun e w' => e = .returned (.int .i64 (chk ep l)) /\ Kept NoF w w' := by
 have HL := hZ0 hl;clear hl
 by_cases h1 : ep < 1
 ·have hr : chk ep l = 5 := by unfold chk;rw [if_pos (.inl h1)]
  have HR := hZ0 hr;clear hr
  go_enter Tryz.func138,Tryz.ntmps138
  go_wp2
  go_ret
  exact ⟨by rw [HR.out];rfl,(Kept.refl _ _).alloc _⟩
 by_cases h2 : 1073741824 < ep
 ·have hr : chk ep l = 5 := by unfold chk;rw [if_pos (.inr h2)]
  have HR := hZ0 hr;clear hr
  go_enter Tryz.func138,Tryz.ntmps138
  go_wp2
  go_ret
  exact ⟨by rw [HR.out];rfl,(Kept.refl _ _).alloc _⟩
 by_cases h3 : l.length = 0
 ·have hr : chk ep l = 7 := by unfold chk;rw [if_neg (by omega),if_pos h3]
  have HR := hZ0 hr;clear hr
  rw [h3]
  clear h3
  go_enter Tryz.func138,Tryz.ntmps138
  go_wp2
  go_ret
  exact ⟨by rw [HR.out];rfl,(Kept.refl _ _).alloc _⟩
 have h3' : ((l.length : Int) == 0) = false := by rw [beq_eq_false_iff_ne];omega
 by_cases h4 : 4 < l.length
 ·have hr : chk ep l = 6 := by unfold chk;rw [if_neg (by omega),if_neg h3,if_pos h4]
  have HR := hZ0 hr;clear hr
  have h4' : (4 : Int) < l.length := by omega
  clear h3
  go_enter Tryz.func138,Tryz.ntmps138
  go_wp2
  go_ret
  exact ⟨by rw [HR.out];rfl,(Kept.refl _ _).alloc _⟩
 have hr : chk ep l = chkFrom (l.take 0) (l.drop 0) := by unfold chk;rw [if_neg (by omega),if_neg h3,if_neg h4];rfl
 have HR := hZ0 hr;clear hr
 have h4' : ¬ (4 : Int) < l.length := by omega
 have hnew := Has.new w 57 #[.int .i64 ep,.slice A l.length c,.int .u64 fl]
 have HN := hZ0 hnew;clear hnew
 clear h3 h4
 go_enter Tryz.func138,Tryz.ntmps138
 go_wp2_with fail
 go_loopw [3,4,5,28] (fun _ _ _ v28 wr => ∃ i : Nat,i <= l.length /\ v28 = .int .i64 i /\ Has wr w.heap.size 57 #[.int .i64 ep,.slice A l.length c,.int .u64 fl] /\ Kept NoF w wr /\ chk ep l = chkFrom (l.take i) (l.drop i)) (fun _ _ _ v28 _ => l.length - (intOf v28).toNat)
 case atStart => exact ⟨0,Nat.zero_le _,rfl,HN.out,(Kept.refl _ _).alloc _,HR.out⟩
 case round =>
  obtain ⟨i,hi,rfl,hh,hk,he⟩ := hrel
  have hlt0 := hh.lt
  have hsz := hk.size
  have e0 : wr.cell? ⟨w.heap.size,1,none⟩ = some (.slice A l.length c) := hh.cell 1
  have HH := hZ0 hh;clear hh
  have HK := hZ0 hk;clear hk
  have HE := hZ0 he;clear he
  by_cases hil : i < l.length
  ·obtain ⟨m,hm⟩ : ∃ m,l[i]? = some m := ⟨_,List.getElem?_eq_getElem hil⟩
   obtain ⟨ad,hA,had,d0,d1⟩ := mem_cells (HL.out.kept HK.out (fun _ _ x => x)) (by omega) i m hm
   subst hA
   have hone := fun W (hW : Kept NoF wr W) => one_any W m (some ad) c (l.take i) (Src.takeM (HL.out.kept (HK.out.then hW) (fun _ _ x => x)) hi) (by rw [List.length_take];omega)
   rw [show (l.take i).length = i by rw [List.length_take];omega] at hone
   obtain ⟨t,ht⟩ : ∃ t,oneE m (l.take i) = t := ⟨_,rfl⟩
   rw [ht] at hone
   have HM := hZ0 (And.intro hm ht);clear hm ht
   have HO := hZ0 hone;clear hone
   have b0 : (0 : Int) <= (i : Int) := by omega
   have b1 : (i : Int) <= (c : Int) := by omega
   have b2 : i <= c := by omega
   obtain ⟨m1,m2⟩ := m
   dsimp only [magg] at d0 d1 HO
   have q0 : (wr.alloc (.cells #[.int .i64 m1,.int .i64 m2] 175)).cell? ⟨wr.heap.size,0,none⟩ = some (.int .i64 m1) := (Has.new wr 175 #[.int .i64 m1,.int .i64 m2]).cell 0
   have q1 : (wr.alloc (.cells #[.int .i64 m1,.int .i64 m2] 175)).cell? ⟨wr.heap.size,1,none⟩ = some (.int .i64 m2) := (Has.new wr 175 #[.int .i64 m1,.int .i64 m2]).cell 1
   have q2 : (wr.alloc (.cells #[.int .i64 m1,.int .i64 m2] 175)).cell? ⟨w.heap.size,1,none⟩ = some (.slice (some ad) l.length c) := (HH.out.alloc _).cell 1
   have hq : ∀ W,Kept NoF (wr.alloc (.cells #[.int .i64 m1,.int .i64 m2] 175)) W -> W.cell? ⟨wr.heap.size,0,none⟩ = some (.int .i64 m1) /\ W.cell? ⟨wr.heap.size,1,none⟩ = some (.int .i64 m2) /\ W.cell? ⟨w.heap.size,1,none⟩ = some (.slice (some ad) l.length c) := fun W hW =>
    ⟨((Has.new wr 175 #[.int .i64 m1,.int .i64 m2]).kept hW (fun z => z)).cell 0,((Has.new wr 175 #[.int .i64 m1,.int .i64 m2]).kept hW (fun z => z)).cell 1,((HH.out.alloc _).kept hW (fun z => z)).cell 1⟩
   have HQ := hZ0 hq;clear hq
   go_wp2_with fail
   go_region_held3 (fun W => W.cell? ⟨wr.heap.size,0,none⟩ = some (.int .i64 m1) /\ W.cell? ⟨wr.heap.size,1,none⟩ = some (.int .i64 m2) /\ W.cell? ⟨w.heap.size,1,none⟩ = some (.slice (some ad) l.length c))
    (first | with_reducible exact q3 | (refine HQ.out _ ?_;(repeat' (first | (with_reducible first | exact kR0 | apply kP0 | apply kN0 | apply kD0 | apply kA0) | (right;simp;done)))))
    (first | (go_at_call 174;refine (HO.out _ (by (repeat' (first | (with_reducible first | exact kR0 | apply kP0 | apply kN0 | apply kD0 | apply kA0) | (right;simp;done))))).mono ?_;rintro e w5 ⟨rfl,hk0⟩;have q3 := HQ.out w5 (Kept.then (by (repeat' (first | (with_reducible first | exact kR0 | apply kP0 | apply kN0 | apply kD0 | apply kA0) | (right;simp;done)))) hk0);have hk5 := Kept.then (F := NoF) (a := wr) (by (repeat' (first | (with_reducible first | exact kR0 | apply kP0 | apply kN0 | apply kD0 | apply kA0) | (right;simp;done)))) hk0;clear hk0;have HK5 := hZ0 hk5;clear hk5))
   clear q0 q1 q2 d0 d1 HQ HO had
   by_cases ht0 : t = 0
   ·have ht1 : (t != 0) = false := by simp [ht0]
    have hs := HE.out.trans (chkFrom_step HM.out.1 (HM.out.2.trans ht0))
    have HS := hZ0 hs;clear hs ht0
    go_wp2
    go_roundw
    case rel => exact ⟨i + 1,by omega,by go_num,HH.out.kept HK5.out (fun z => z),HK.out.then HK5.out,HS.out⟩
    case measure => simp [intOf];omega
   ·have ht1 : (t != 0) = true := by simpa using ht0
    have hs := HE.out.trans ((chkFrom_stop HM.out.1 (by rw [HM.out.2];exact ht0)).trans HM.out.2)
    have HS := hZ0 hs;clear hs ht0
    go_wp2
    go_ret
    exact ⟨by rw [HS.out];rfl,HK.out.then HK5.out⟩
  ·obtain rfl : i = l.length := by omega
   have hr : chk ep l = 0 := by rw [HE.out,List.drop_length];rfl
   have HR := hZ0 hr;clear hr
   go_wp2
   go_ret
   exact ⟨by rw [HR.out];rfl,HK.out⟩
end Mst
namespace Mst
open Plan
structure NoteR where
 k : Int
 n : Int
 at' : Int
 ep : Int
 mA : Option Addr
 mc : Nat
 ms : List Mem
 fl : Int
 lA : Option Addr
 lc : Nat
 lg : List Int
 oA : Option Addr
 oc : Nat
 b : Ops.Batch
 ts : Int
 pin : PinR
 said : AnsR
def ncell (x : NoteR) : List Value := [.int .i64 x.k,.int .i64 x.n,.int .u64 x.at',.int .i64 x.ep,.slice x.mA x.ms.length x.mc,.int .u64 x.fl,.slice x.lA x.lg.length x.lc,.int .i64 x.b.cl,.int .i64 x.b.req,.slice x.oA x.b.ops.length x.oc,.int .u64 x.ts,.int .i64 x.pin.id,.int .u64 x.pin.at',.int .i64 x.pin.left,.int .i64 x.said.cl,.int .i64 x.said.req,.int .i64 x.said.e,.int .i64 x.said.pin]
abbrev nagg (x : NoteR) : Value := .agg (ncell x).toArray
structure NOk (w : World) (x : NoteR) : Prop where
 m : Src w 2 x.mA x.ms.length (mcells x.ms)
 mc : x.ms.length <= x.mc
 ml : x.ms.length <= 1000
 l : Src w 1 x.lA x.lg.length (ints x.lg)
 lc : x.lg.length <= x.lc
 ll : x.lg.length <= 1000
 o : Src w 3 x.oA x.b.ops.length (Ops.cells x.b.ops)
theorem NOk.kept {w w' : World} {x : NoteR} (h : NOk w x) (hk : Kept NoF w w') : NOk w' x := ⟨h.m.kept hk (fun _ _ z => z),h.mc,h.ml,h.l.kept hk (fun _ _ z => z),h.lc,h.ll,h.o.kept hk (fun _ _ z => z)⟩
end Mst
namespace Msg
open Plan Ops Ent Vn
theorem num_some (w : World) (b c : Nat) (hc : isNum c = true) :
  Calls Tryz.prog 96 #[.pointer (some ⟨b,0,none⟩),.int .i32 c] w fun e w' => e = .returned (.pointer (some ⟨b,numAt c,none⟩)) /\ w = w' := by
 have h : c = 101 \/ c = 115 \/ c = 114 \/ c = 110 \/ c = 109 \/ c = 112 := of_decide_eq_true hc
 clear hc
 rcases h with rfl | rfl | rfl | rfl | rfl | rfl
 all_goals
  go_enter Tryz.func96,Tryz.ntmps96
  go_wp2
  go_ret
  exact ⟨rfl,rfl⟩
theorem num_none (w : World) (b c : Nat) (hl : c ∈ letters) (hc : isNum c = false) :
  Calls Tryz.prog 96 #[.pointer (some ⟨b,0,none⟩),.int .i32 c] w fun e w' => e = .returned (.pointer none) /\ w = w' := by
 have h : c = 67 \/ c = 97 \/ c = 102 \/ c = 108 \/ c = 69 \/ c = 83 \/ c = 66 \/ c = 120 \/ c = 107 \/ c = 116 \/ c = 82 := by
  unfold letters at hl
  simp only [List.mem_cons,List.not_mem_nil,or_false] at hl
  have h2 : ¬ (c = 101 \/ c = 115 \/ c = 114 \/ c = 110 \/ c = 109 \/ c = 112) := of_decide_eq_false hc
  omega
 clear hc hl
 rcases h with rfl | rfl | rfl | rfl | rfl | rfl | rfl | rfl | rfl | rfl | rfl
 all_goals
  go_enter Tryz.func96,Tryz.ntmps96
  go_wp2
  go_ret
  exact ⟨rfl,rfl⟩
theorem parts_yes (w : World) (k : Int) (h : isKind k = true) :
  Calls Tryz.prog 59 #[.int .i64 k] w fun e w' => e = .returned (.tuple #[.string (lets (partsOf k)),.bool true]) /\ Kept NoF w w' := by
 have h0 : 1 <= k /\ k <= 15 := of_decide_eq_true h
 clear h
 have h1 : k = 1 \/ k = 2 \/ k = 3 \/ k = 4 \/ k = 5 \/ k = 6 \/ k = 7 \/ k = 8 \/ k = 9 \/ k = 10 \/ k = 11 \/ k = 12 \/ k = 13 \/ k = 14 \/ k = 15 := by omega
 clear h0
 rcases h1 with rfl | rfl | rfl | rfl | rfl | rfl | rfl | rfl | rfl | rfl | rfl | rfl | rfl | rfl | rfl
 all_goals
  go_enter Tryz.func59,Tryz.ntmps59
  go_wp2
  go_ret2
  exact ⟨rfl,by (repeat' (first | (with_reducible first | exact kR0 | apply kP0 | apply kN0 | apply kD0 | apply kA0) | (right;simp;done)))⟩
theorem parts_no (w : World) (k : Int) (h : isKind k = false) :
  Calls Tryz.prog 59 #[.int .i64 k] w fun e w' => e = .returned (.tuple #[.string emp,.bool false]) /\ Kept NoF w w' := by
 have h0 : ¬ (1 <= k /\ k <= 15) := of_decide_eq_false h
 clear h
 by_cases h1 : k < 1
 ·go_enter Tryz.func59,Tryz.ntmps59
  go_wp2
  go_ret2
  exact ⟨rfl,by (repeat' (first | (with_reducible first | exact kR0 | apply kP0 | apply kN0 | apply kD0 | apply kA0) | (right;simp;done)))⟩
 ·have h2 : 16 <= k := by omega
  clear h0
  go_enter Tryz.func59,Tryz.ntmps59
  go_wp2
  go_ret2
  exact ⟨rfl,by (repeat' (first | (with_reducible first | exact kR0 | apply kP0 | apply kN0 | apply kD0 | apply kA0) | (right;simp;done)))⟩
theorem long_any (w : World) (s : ByteArray) (n : Int) : Calls Tryz.prog 143 #[.string s,.int .i64 n] w fun e w' => e = .returned (.int .i64 (if n < s.size then 3 else 0)) /\ w = w' := by
 by_cases h : n < s.size
 ·rw [if_pos h]
  go_enter Tryz.func143,Tryz.ntmps143
  go_wp2
  go_ret
  exact ⟨rfl,rfl⟩
 ·rw [if_neg h]
  go_enter Tryz.func143,Tryz.ntmps143
  go_wp2
  go_ret
  exact ⟨rfl,rfl⟩
theorem full_any (w : World) (n m : Int) : Calls Tryz.prog 144 #[.int .i64 n,.int .i64 m] w fun e w' => e = .returned (.int .i64 (if m < n then 6 else 0)) /\ w = w' := by
 by_cases h : m < n
 ·rw [if_pos h]
  go_enter Tryz.func144,Tryz.ntmps144
  go_wp2
  go_ret
  exact ⟨rfl,rfl⟩
 ·rw [if_neg h]
  go_enter Tryz.func144,Tryz.ntmps144
  go_wp2
  go_ret
  exact ⟨rfl,rfl⟩
theorem or_bad (w : World) (n : Int) (v : Value) (h : n ≠ 0) : Calls Tryz.prog 61 #[.int .i64 n,v] w fun e w' => e = .returned (.int .i64 n) /\ w = w' := by
 have h2 : (n != 0) = true := by simpa using h
 clear h
 go_enter Tryz.func61,Tryz.ntmps61
 go_wp2
 go_ret
 exact ⟨rfl,rfl⟩
theorem or_ok (w : World) (g : Nat) (cap : Value) (r : Int) (eg : ∀ args w,(callFunc g args).run Tryz.prog w = .ok (.enter g args) w)
  (hf : Calls Tryz.prog g #[cap] w fun e w' => e = .returned (.int .i64 r) /\ Kept NoF w w') :
  Calls Tryz.prog 61 #[.int .i64 0,.func (.func g) #[] #[cap]] w fun e w' => e = .returned (.int .i64 r) /\ Kept NoF w w' := by
 have HF := hZ0 hf;clear hf
 go_enter Tryz.func61,Tryz.ntmps61
 go_wp2_with fail
 refine HF.out.mono ?_
 rintro e w2 ⟨rfl,hk⟩
 have HK := hZ0 hk;clear hk
 go_wp2
 go_ret
 exact ⟨rfl,HK.out⟩
theorem entries_any (w : World) (A : Option Addr) (c : Nat) (l : List EntR) (hl : Src w 4 A l.length (ecells l)) (hlen : l.length <= 1000000) (ho : ∀ y ∈ l,Src w 3 y.A y.ops.length (cells y.ops)) :
  Calls Tryz.prog 146 #[.slice A l.length c] w fun e w' => e = .returned (.int .i64 (firstOf (fun y => Ops.chk (bat y)) l)) /\ Kept NoF w w' := by
 have HL := hZ0 hl;clear hl
 have hcall := fun W (hW : Kept NoF w W) y (hy : y ∈ l) => Mst.icheck_any W (bat y) y.A y.c y.ts ((ho y hy).kept hW (fun _ _ z => z))
 have HCALL := hZ0 hcall;clear hcall ho
 obtain ⟨r,hr⟩ : ∃ r,firstOf (fun y => Ops.chk (bat y)) l = r := ⟨_,rfl⟩
 rw [hr]
 have HR := hZ0 hr;clear hr
 go_enter Tryz.func146,Tryz.ntmps146
 go_wp2_with fail
 go_loopw [8] (fun v8 wr => ∃ i : Nat,i <= l.length /\ v8 = .int .i64 i /\ r = firstOf (fun y => Ops.chk (bat y)) (l.drop i) /\ Kept NoF w wr) (fun v8 _ => l.length - (intOf v8).toNat)
 case atStart => exact ⟨0,Nat.zero_le _,rfl,HR.out.symm,Kept.refl _ _⟩
 case round =>
  obtain ⟨i,hi,rfl,hrr,hk⟩ := hrel
  have HK := hZ0 hk;clear hk
  by_cases hil : i < l.length
  ·obtain ⟨y,hy⟩ : ∃ y,l[i]? = some y := ⟨_,List.getElem?_eq_getElem hil⟩
   obtain ⟨ad,rfl,hl1,e0,e1,e2,e3⟩ := ent_cells (HL.out.kept HK.out (fun _ _ z => z)) (by omega) i y hy
   have hsa := firstOf_at (fun y => Ops.chk (bat y)) hy
   have hcall := HCALL.out (wr.alloc (.cells #[.int .i64 y.cl,.int .i64 y.req,.slice y.A y.ops.length y.c,.int .u64 y.ts] 183)) (HK.out.alloc _) y (List.mem_of_getElem? hy)
   rw [hsa] at hrr
   obtain ⟨t,ht⟩ : ∃ t,Ops.chk (bat y) = t := ⟨_,rfl⟩
   rw [ht] at hcall hrr
   dsimp only [bat] at hcall
   have HC := hZ0 hcall
   have HRR := hZ0 hrr
   clear hsa ht hy hcall hrr
   go_wp2_with fail
   refine HC.out.mono ?_
   rintro e w5 ⟨rfl,hk0⟩
   have HK5 := hZ0 ((HK.out.alloc _).then hk0);clear hk0
   by_cases h0 : t = 0
   ·subst h0
    have hrf := HRR.out
    rw [if_pos rfl] at hrf
    have HRF := hZ0 hrf;clear hrf HRR
    go_wp2
    go_roundw
    case rel => exact ⟨i + 1,by omega,by go_num,HRF.out,HK5.out⟩
    case measure => simp [intOf];omega
   ·have hrf := HRR.out
    rw [if_neg h0] at hrf
    have HRF := hZ0 hrf;clear hrf HRR
    have h2 : (t != 0) = true := by simpa using h0
    clear h0
    go_wp2
    go_ret
    exact ⟨by rw [HRF.out];rfl,HK5.out⟩
  ·obtain rfl : i = l.length := by omega
   rw [List.drop_length,firstOf] at hrr
   have HRR := hZ0 hrr;clear hrr
   go_wp2
   go_ret
   exact ⟨by rw [HRR.out];rfl,HK.out⟩
theorem pairs_any (w : World) (A : Option Addr) (c : Nat) (l : List PairR) (hl : Src w 2 A l.length (pcells l)) (hlen : l.length <= 1000000) :
  Calls Tryz.prog 148 #[.slice A l.length c] w fun e w' => e = .returned (.int .i64 (firstOf pairE l)) /\ Kept NoF w w' := by
 have HL := hZ0 hl;clear hl
 obtain ⟨r,hr⟩ : ∃ r,firstOf pairE l = r := ⟨_,rfl⟩
 rw [hr]
 have HR := hZ0 hr;clear hr
 go_enter Tryz.func148,Tryz.ntmps148
 go_wp2_with fail
 go_loopw [9] (fun v9 wr => ∃ i : Nat,i <= l.length /\ v9 = .int .i64 i /\ r = firstOf pairE (l.drop i) /\ Kept NoF w wr) (fun v9 _ => l.length - (intOf v9).toNat)
 case atStart => exact ⟨0,Nat.zero_le _,rfl,HR.out.symm,Kept.refl _ _⟩
 case round =>
  obtain ⟨i,hi,rfl,hrr,hk⟩ := hrel
  have HK := hZ0 hk;clear hk
  by_cases hil : i < l.length
  ·obtain ⟨y,hy⟩ : ∃ y,l[i]? = some y := ⟨_,List.getElem?_eq_getElem hil⟩
   obtain ⟨ad,rfl,hl1,e0,e1⟩ := pair_cells (HL.out.kept HK.out (fun _ _ z => z)) (by omega) i y hy
   have hsa := firstOf_at pairE hy
   rw [hsa] at hrr
   have hkc := kcheck_any y.key
   have hlo := fun W => long_any W y.val 8
   unfold pairE at hrr
   change ∀ w : World,Calls Tryz.prog 86 #[.string y.key] w fun e w' => e = .returned (.int .i64 (keyE y.key)) /\ w = w' at hkc
   obtain ⟨t,ht⟩ : ∃ t,keyE y.key = t := ⟨_,rfl⟩
   rw [ht] at hkc hrr
   obtain ⟨u,hu⟩ : ∃ u : Int,(if (8 : Int) < (y.val.size : Int) then (3 : Int) else 0) = u := ⟨_,rfl⟩
   rw [hu] at hlo
   have hu2 : (if 8 < y.val.size then (3 : Int) else 0) = u := by rw [<- hu];by_cases h8 : 8 < y.val.size;rw [if_pos h8,if_pos (by omega)];rw [if_neg h8,if_neg (by omega)]
   rw [hu2] at hrr
   have HC := hZ0 hkc
   have HLO := hZ0 hlo
   have HRR := hZ0 hrr
   clear hsa ht hu hu2 hy hkc hlo hrr
   go_wp2_with fail
   refine (HC.out _).mono ?_
   rintro e w5 ⟨rfl,rfl⟩
   by_cases h0 : t = 0
   ·subst h0
    have hrf := HRR.out
    rw [if_neg (show ¬((0 : Int) ≠ 0) from fun h => h rfl)] at hrf
    have HRF := hZ0 hrf;clear hrf HRR
    go_wp2_with fail
    refine (HLO.out _).mono ?_
    rintro e w5 ⟨rfl,rfl⟩
    by_cases h1 : u = 0
    ·subst h1
     have hrf := HRF.out
     rw [if_pos rfl] at hrf
     have HRF := hZ0 hrf;clear hrf
     go_wp2
     go_roundw
     case rel => exact ⟨i + 1,by omega,by go_num,HRF.out,by (repeat' (first | (with_reducible first | exact kR0 | apply kP0 | apply kN0 | apply kD0 | apply kA0) | (exact HK.out) | (right;simp;done)))⟩
     case measure => simp [intOf];omega
    ·have hrf := HRF.out
     rw [if_neg h1] at hrf
     have HRF := hZ0 hrf;clear hrf
     have h2 : (u != 0) = true := by simpa using h1
     clear h1
     go_wp2
     go_ret
     exact ⟨by rw [HRF.out];rfl,by (repeat' (first | (with_reducible first | exact kR0 | apply kP0 | apply kN0 | apply kD0 | apply kA0) | (exact HK.out) | (right;simp;done)))⟩
   ·have hrf := HRR.out
    rw [if_pos h0,if_neg h0] at hrf
    have HRF := hZ0 hrf;clear hrf HRR
    have h2 : (t != 0) = true := by simpa using h0
    clear h0
    go_wp2
    go_ret
    exact ⟨by rw [HRF.out];rfl,by (repeat' (first | (with_reducible first | exact kR0 | apply kP0 | apply kN0 | apply kD0 | apply kA0) | (exact HK.out) | (right;simp;done)))⟩
  ·obtain rfl : i = l.length := by omega
   rw [List.drop_length,firstOf] at hrr
   have HRR := hZ0 hrr;clear hrr
   go_wp2
   go_ret
   exact ⟨by rw [HRR.out];rfl,HK.out⟩
end Msg
end Go.Proofs.YtgbigpdiacjbgaaGreat
