/- Part 4 of what the proof needs. -/
import Derived.Test.YtobfdolhgnoedaaAP01
import Derived.Test.YtobfdolhgnoedaaAP02
import Derived.Deep.QuietTactic
import Derived.Deep.RegionLaw
import Derived.Test.YtobfdolhgnoedaaRows
import Derived.ProofKit
import Derived.OpenShut
import Derived.Lib.SmallJoins
import Derived.SizedLaws
set_option linter.unusedSimpArgs false
set_option linter.unusedVariables false
set_option maxHeartbeats 32000000
set_option maxRecDepth 100000
namespace Go.Proofs.Ytobfdolhgnoedaa
open Go.RowKit Go.Shelf
set_option maxRecDepth 100000
namespace Ops
open Vn
theorem tl_eq (a b : ByteArray) : (a.toList == b.toList) = decide (a = b) := by
 rw [ByteArray.toList_eq,ByteArray.toList_eq]
 by_cases h : a = b
 ·simp [h]
 ·have : a.data.toList ≠ b.data.toList := fun e => h (ByteArray.ext (Array.toList_inj.1 e))
  rw [decide_eq_false h,beq_eq_false_iff_ne]
  exact this
abbrev pagg (p : PairR) : Value := .agg #[.string p.key,.string p.val]
theorem run_neq_op (p q : OpR) (W : World) : (binOp .neq 70 (oagg p) (oagg q)).run Try.prog W = .ok (.bool (!decide (p = q))) W := by
 obtain ⟨p1,p2,p3⟩ := p
 obtain ⟨q1,q2,q3⟩ := q
 have e1 := tl_eq p1 q1
 have e2 := tl_eq p2 q2
 unfold oagg
 by_cases h1 : p1 = q1 <;> by_cases h2 : p2 = q2 <;> by_cases h3 : p3 = q3 <;> simp [go_sem,h1,h2,h3,e1,e2]
theorem run_neq_pair (p q : PairR) (W : World) : (binOp .neq 68 (pagg p) (pagg q)).run Try.prog W = .ok (.bool (!decide (p = q))) W := by
 obtain ⟨p1,p2⟩ := p
 obtain ⟨q1,q2⟩ := q
 have e1 := tl_eq p1 q1
 have e2 := tl_eq p2 q2
 unfold pagg
 by_cases h1 : p1 = q1 <;> by_cases h2 : p2 = q2 <;> simp [go_sem,h1,h2,e1,e2]
theorem pair_cells {w : World} {A : Option Addr} {m : Nat} {l : List PairR} (h : Src w 2 A m (pcells l)) (hm : 0 < m) (i : Nat) (p : PairR) (hp : l[i]? = some p) :
  ∃ ad,A = some ad /\ ad.block < w.heap.size /\ w.cell? (ad.add (i * 2)) = some (.string p.key) /\ w.cell? ⟨(ad.add (i * 2)).block,(ad.add (i * 2)).off + 1,none⟩ = some (.string p.val) := by
 obtain ⟨ad,rfl,had,hcell⟩ := h.2 hm
 have k0 : (pcells l)[i * 2]? = some (.string p.key) := by
  unfold pcells
  rw [flat_get pcell 2 (by decide) (fun _ => rfl),show i * 2 / 2 = i by omega,show i * 2 % 2 = 0 by omega,hp];rfl
 have k1 : (pcells l)[i * 2 + 1]? = some (.string p.val) := by
  unfold pcells
  rw [flat_get pcell 2 (by decide) (fun _ => rfl),show (i * 2 + 1) / 2 = i by omega,show (i * 2 + 1) % 2 = 1 by omega,hp];rfl
 refine ⟨ad,rfl,had,hcell _ _ k0,?_⟩
 rw [<- add_lit _ (by omega),add_add];exact hcell _ _ k1
theorem eq_take_succ {α : Type} {a b : List α} {i : Nat} {p : α} (h : a.take i = b.take i) (ha : a[i]? = some p) (hb : b[i]? = some p) : a.take (i + 1) = b.take (i + 1) := by
 rw [List.take_add_one,List.take_add_one,h,ha,hb]
theorem rsameOps_any (w : World) (A B : Option Addr) (c d : Nat) (a b : List OpR) (ha : Src w 3 A a.length (cells a)) (hb : Src w 3 B b.length (cells b)) (hlen : a.length <= 1000000) :
  Calls Try.prog 50 #[.slice A a.length c,.slice B b.length d] w fun e w' => e = .returned (.bool (decide (a = b))) /\ Kept NoF w w' := by
 have HA := hZ0 ha;clear ha
 have HB := hZ0 hb;clear hb
 by_cases hl : a.length = b.length
 rotate_left
 ·have hd : decide (a = b) = false := decide_eq_false fun e => hl (by rw [e])
  rw [hd]
  have hne : ((a.length : Int) != (b.length : Int)) = true := by simpa using fun e => hl (by omega)
  clear hd HA HB
  go_enter Try.func50,Try.ntmps50
  go_wp2
  go_ret
  exact ⟨rfl,Kept.refl _ _⟩
 rw [<- hl] at HB ⊢
 have HL := hZ0 hl;clear hl
 obtain ⟨n,hn⟩ : ∃ n,a.length = n := ⟨_,rfl⟩
 rw [hn] at HA HB hlen ⊢
 have HN := hZ0 hn;clear hn
 obtain ⟨r,hr⟩ : ∃ r,decide (a = b) = r := ⟨_,rfl⟩
 rw [hr]
 have HR := hZ0 hr;clear hr
 go_enter Try.func50,Try.ntmps50
 go_wp2_with fail
 go_loopw [5] (fun v5 wr => ∃ i m : Nat,i <= n /\ v5 = .int .i64 i /\ a.take i = b.take i /\ wr = w.drewN m) (fun v5 _ => n - (intOf v5).toNat)
 case atStart => exact ⟨0,0,Nat.zero_le _,rfl,rfl,rfl⟩
 case round =>
  obtain ⟨i,m,hi,rfl,ht,rfl⟩ := hrel
  have HT := hZ0 ht;clear ht
  by_cases hil : i < n
  ·obtain ⟨p,hp⟩ : ∃ p,a[i]? = some p := ⟨_,List.getElem?_eq_getElem (by have := HN.out;omega)⟩
   obtain ⟨q,hq⟩ : ∃ q,b[i]? = some q := ⟨_,List.getElem?_eq_getElem (by have := HN.out;have := HL.out;omega)⟩
   obtain ⟨a1,rfl,hl1,d0,d1,d2⟩ := op_cells HA.out (by omega) i p hp
   obtain ⟨a2,rfl,hl2,f0,f1,f2⟩ := op_cells HB.out (by omega) i q hq
   have heq := run_neq_op p q
   have HP := hZ0 hp;clear hp
   have HQ := hZ0 hq;clear hq
   by_cases hpq : p = q
   ·subst hpq
    rw [decide_eq_true rfl] at heq
    have hnx := eq_take_succ HT.out HP.out HQ.out
    have HNX := hZ0 hnx;clear hnx HP HQ
    obtain ⟨x0,x1,x2⟩ := p
    unfold oagg at heq
    dsimp only at d0 d1 d2 f0 f1 f2 heq
    go_wp2_with fail
    go_quiet (fail)
    go_wp2
    go_roundw
    case rel => exact ⟨i + 1,_,by omega,by go_num,HNX.out,rfl⟩
    case measure => simp [intOf];omega
   ·have hrf : r = false := by
     rw [<- HR.out]
     refine decide_eq_false fun e => hpq ?_
     have h1 := HP.out
     rw [e,HQ.out] at h1
     injection h1 with h1
     exact h1.symm
    rw [decide_eq_false hpq] at heq
    have HRF := hZ0 hrf;clear hrf hpq HP HQ
    obtain ⟨x0,x1,x2⟩ := p
    obtain ⟨y0,y1,y2⟩ := q
    unfold oagg at heq
    dsimp only at d0 d1 d2 f0 f1 f2 heq
    go_wp2_with fail
    go_quiet (fail)
    go_wp2
    go_ret
    exact ⟨by rw [HRF.out];rfl,(Kept.quiet _ _ _).drewN _⟩
  ·obtain rfl : i = n := by omega
   have hrt : r = true := by
    rw [<- HR.out]
    refine decide_eq_true ?_
    have h1 := HT.out
    rwa [List.take_of_length_le (by rw [HN.out];exact Nat.le_refl _),List.take_of_length_le (by rw [<- HL.out,HN.out];exact Nat.le_refl _)] at h1
   have HRT := hZ0 hrt;clear hrt
   go_wp2
   go_ret
   exact ⟨by rw [HRT.out];rfl,Kept.quiet _ _ _⟩
theorem rsamePairs_any (w : World) (A B : Option Addr) (c d : Nat) (a b : List PairR) (ha : Src w 2 A a.length (pcells a)) (hb : Src w 2 B b.length (pcells b)) (hlen : a.length <= 1000000) :
  Calls Try.prog 26 #[.slice A a.length c,.slice B b.length d] w fun e w' => e = .returned (.bool (decide (a = b))) /\ Kept NoF w w' := by
 have HA := hZ0 ha;clear ha
 have HB := hZ0 hb;clear hb
 by_cases hl : a.length = b.length
 rotate_left
 ·have hd : decide (a = b) = false := decide_eq_false fun e => hl (by rw [e])
  rw [hd]
  have hne : ((a.length : Int) != (b.length : Int)) = true := by simpa using fun e => hl (by omega)
  clear hd HA HB
  go_enter Try.func26,Try.ntmps26
  go_wp2
  go_ret
  exact ⟨rfl,Kept.refl _ _⟩
 rw [<- hl] at HB ⊢
 have HL := hZ0 hl;clear hl
 obtain ⟨n,hn⟩ : ∃ n,a.length = n := ⟨_,rfl⟩
 rw [hn] at HA HB hlen ⊢
 have HN := hZ0 hn;clear hn
 obtain ⟨r,hr⟩ : ∃ r,decide (a = b) = r := ⟨_,rfl⟩
 rw [hr]
 have HR := hZ0 hr;clear hr
 go_enter Try.func26,Try.ntmps26
 go_wp2_with fail
 go_loopw [5] (fun v5 wr => ∃ i m : Nat,i <= n /\ v5 = .int .i64 i /\ a.take i = b.take i /\ wr = w.drewN m) (fun v5 _ => n - (intOf v5).toNat)
 case atStart => exact ⟨0,0,Nat.zero_le _,rfl,rfl,rfl⟩
 case round =>
  obtain ⟨i,m,hi,rfl,ht,rfl⟩ := hrel
  have HT := hZ0 ht;clear ht
  by_cases hil : i < n
  ·obtain ⟨p,hp⟩ : ∃ p,a[i]? = some p := ⟨_,List.getElem?_eq_getElem (by have := HN.out;omega)⟩
   obtain ⟨q,hq⟩ : ∃ q,b[i]? = some q := ⟨_,List.getElem?_eq_getElem (by have := HN.out;have := HL.out;omega)⟩
   obtain ⟨a1,rfl,hl1,d0,d1⟩ := pair_cells HA.out (by omega) i p hp
   obtain ⟨a2,rfl,hl2,f0,f1⟩ := pair_cells HB.out (by omega) i q hq
   have heq := run_neq_pair p q
   have HP := hZ0 hp;clear hp
   have HQ := hZ0 hq;clear hq
   by_cases hpq : p = q
   ·subst hpq
    rw [decide_eq_true rfl] at heq
    have hnx := eq_take_succ HT.out HP.out HQ.out
    have HNX := hZ0 hnx;clear hnx HP HQ
    obtain ⟨x0,x1⟩ := p
    unfold pagg at heq
    dsimp only at d0 d1 f0 f1 heq
    go_wp2_with fail
    go_quiet (fail)
    go_wp2
    go_roundw
    case rel => exact ⟨i + 1,_,by omega,by go_num,HNX.out,rfl⟩
    case measure => simp [intOf];omega
   ·have hrf : r = false := by
     rw [<- HR.out]
     refine decide_eq_false fun e => hpq ?_
     have h1 := HP.out
     rw [e,HQ.out] at h1
     injection h1 with h1
     exact h1.symm
    rw [decide_eq_false hpq] at heq
    have HRF := hZ0 hrf;clear hrf hpq HP HQ
    obtain ⟨x0,x1⟩ := p
    obtain ⟨y0,y1⟩ := q
    unfold pagg at heq
    dsimp only at d0 d1 f0 f1 heq
    go_wp2_with fail
    go_quiet (fail)
    go_wp2
    go_ret
    exact ⟨by rw [HRF.out];rfl,(Kept.quiet _ _ _).drewN _⟩
  ·obtain rfl : i = n := by omega
   have hrt : r = true := by
    rw [<- HR.out]
    refine decide_eq_true ?_
    have h1 := HT.out
    rwa [List.take_of_length_le (by rw [HN.out];exact Nat.le_refl _),List.take_of_length_le (by rw [<- HL.out,HN.out];exact Nat.le_refl _)] at h1
   have HRT := hZ0 hrt;clear hrt
   go_wp2
   go_ret
   exact ⟨by rw [HRT.out];rfl,Kept.quiet _ _ _⟩
def sameB (a b : Batch) : Bool := decide (a.cl = b.cl) && decide (a.req = b.req) && decide (a.ops = b.ops)
theorem rsame_any (w : World) (a b : Batch) (A B : Option Addr) (c d : Nat) (ha : Src w 3 A a.ops.length (cells a.ops)) (hb : Src w 3 B b.ops.length (cells b.ops)) (hlen : a.ops.length <= 1000000) :
  Calls Try.prog 35 #[bagg a A c,bagg b B d] w fun e w' => e = .returned (.bool (sameB a b)) /\ Kept NoF w w' := by
 have hs := fun W (hW : Kept NoF w W) => rsameOps_any W A B c d a.ops b.ops (ha.kept hW (fun _ _ x => x)) (hb.kept hW (fun _ _ x => x)) hlen
 have HS := hZ0 hs;clear hs ha hb
 unfold sameB bagg
 obtain ⟨a1,a2,a3⟩ := a
 obtain ⟨b1,b2,b3⟩ := b
 dsimp only at HS hlen ⊢
 by_cases h1 : a1 = b1
 ·subst h1
  by_cases h2 : a2 = b2
  ·subst h2
   simp only [decide_true,Bool.true_and]
   go_enter Try.func35,Try.ntmps35
   go_wp2_with fail
   refine (HS.out _ (by (repeat' (first | (with_reducible first | exact kR0 | apply kP0 | apply kN0 | apply kD0 | apply kA0) | (right;simp;done))))).mono ?_
   rintro e w2 ⟨rfl,hk⟩
   have hk2 : Kept NoF w w2 := Kept.then (by (repeat' (first | (with_reducible first | exact kR0 | apply kP0 | apply kN0 | apply kD0 | apply kA0) | (right;simp;done)))) hk
   have HK := hZ0 hk2;clear hk2 hk
   go_wp2
   go_ret
   exact ⟨rfl,HK.out⟩
  ·have h2' : (a2 == b2) = false := by rw [beq_eq_false_iff_ne];exact h2
   simp only [decide_true,Bool.true_and,decide_eq_false h2,Bool.false_and]
   clear HS h2
   go_enter Try.func35,Try.ntmps35
   go_wp2
   go_ret
   exact ⟨rfl,by (repeat' (first | (with_reducible first | exact kR0 | apply kP0 | apply kN0 | apply kD0 | apply kA0) | (right;simp;done)))⟩
 ·have h1' : (a1 == b1) = false := by rw [beq_eq_false_iff_ne];exact h1
  simp only [decide_eq_false h1,Bool.false_and]
  clear HS h1
  go_enter Try.func35,Try.ntmps35
  go_wp2
  go_ret
  exact ⟨rfl,by (repeat' (first | (with_reducible first | exact kR0 | apply kP0 | apply kN0 | apply kD0 | apply kA0) | (right;simp;done)))⟩
end Ops
end Go.Proofs.Ytobfdolhgnoedaa
namespace Go.Proofs.Ytobfdolhgnoedaa
open Go.RowKit Go.WideShapes Go.ChangeShapes
set_option maxRecDepth 100000
section
variable {H : Type} {enc : TypeId × Value -> H} {W : World} {v : Value} {d : DataW H} {ps : List MemPlace} {r : Reach} {b0 : Nat}
theorem open_ops0 (hv : ∃ A n c,v = .slice A n c) (h : DataW.Trod enc Try.prog W 0 (fun _ => true) true 27 v d ps) :
  ∃ (A : Option Addr) (c : Nat) (l : List Ops.OpR),v = .slice A l.length c /\ l.length <= c /\ c <= maxLen /\ Src W 3 A l.length (Ops.cells l) /\ (∀ o ∈ l,o.key.size <= maxLen /\ o.val.size <= maxLen) := by
 have _ : Inhabited Ops.OpR := ⟨⟨⟨#[]⟩,⟨#[]⟩,false⟩⟩
 obtain ⟨A,c,l,h1,h2,h3,h4,h5,_⟩ := open_rows (α := Ops.OpR) Ops.cell (fun o => o.key.size <= maxLen /\ o.val.size <= maxLen) 3 Try.underlying27 (by kernel_rfl) (by decide) (fun _ => rfl)
  (fun fuel cs y hy => by
   obtain ⟨y0,y1,y2,n,_,hl,h0,h1,h2⟩ := Deep.trod_struct3 Try.underlying70 hy
   have hC : Try.prog.cellsOf 70 = 3 := by kernel_rfl
   rw [hC] at hl
   match cs,hl with
   | [c0,c1,c2],_ =>
    have e9 : Try.prog.cellsOf 9 = 1 := by kernel_rfl
    have e4 : Try.prog.cellsOf 4 = 1 := by kernel_rfl
    obtain ⟨x0,hx0,_,m0⟩ := DataW.trod_string Try.underlying9 h0
    obtain ⟨x1,hx1,_,m1⟩ := DataW.trod_string Try.underlying9 h1
    obtain ⟨x2,hx2,_⟩ := DataW.trod_bool Try.underlying4 h2
    simp [e9] at hx0 hx1
    simp [e9,e4] at hx2
    subst hx0
    subst hx1
    subst hx2
    exact ⟨⟨x0,x1,x2⟩,rfl,m0,m1⟩) h hv
 exact ⟨A,c,l,h1,h2,h3,h4,h5⟩
end
namespace Ent
open Ops
structure EntR where
 cl : Int
 req : Int
 A : Option Addr
 c : Nat
 ops : List OpR
 ts : Int
def ecell (e : EntR) : List Value := [.int .i64 e.cl,.int .i64 e.req,.slice e.A e.ops.length e.c,.int .u64 e.ts]
def ecells (l : List EntR) : List Value := l.flatMap ecell
abbrev eagg (e : EntR) : Value := .agg #[.int .i64 e.cl,.int .i64 e.req,.slice e.A e.ops.length e.c,.int .u64 e.ts]
def bat (e : EntR) : Batch := ⟨e.cl,e.req,e.ops⟩
def EOk (W : World) (e : EntR) : Prop := Src W 3 e.A e.ops.length (cells e.ops) /\ e.ops.length <= e.c /\ e.c <= maxLen /\ (∀ o ∈ e.ops,o.key.size <= maxLen /\ o.val.size <= maxLen) /\ 0 <= e.ts /\ e.ts <= 18446744073709551615 /\ e.ops.length * 40 <= 140737488351232
def LOk (W : World) (l : List EntR) : Prop := ∀ e ∈ l,EOk W e
theorem EOk.kept {W W' : World} {e : EntR} (h : EOk W e) (hk : Kept NoF W W') : EOk W' e := ⟨h.1.kept hk (fun _ _ x => x),h.2⟩
theorem LOk.kept {W W' : World} {l : List EntR} (h : LOk W l) (hk : Kept NoF W W') : LOk W' l := fun e he => (h e he).kept hk
theorem ent_cells {w : World} {A : Option Addr} {m : Nat} {l : List EntR} (h : Src w 4 A m (ecells l)) (hm : 0 < m) (i : Nat) (e : EntR) (he : l[i]? = some e) :
  ∃ ad,A = some ad /\ ad.block < w.heap.size /\ w.cell? (ad.add (i * 4)) = some (.int .i64 e.cl) /\ w.cell? ⟨(ad.add (i * 4)).block,(ad.add (i * 4)).off + 1,none⟩ = some (.int .i64 e.req) /\
   w.cell? ⟨(ad.add (i * 4)).block,(ad.add (i * 4)).off + 2,none⟩ = some (.slice e.A e.ops.length e.c) /\ w.cell? ⟨(ad.add (i * 4)).block,(ad.add (i * 4)).off + 3,none⟩ = some (.int .u64 e.ts) := by
 obtain ⟨ad,rfl,had,hcell⟩ := h.2 hm
 have hk : ∀ j,j < 4 -> (ecells l)[i * 4 + j]? = (ecell e)[j]? := by
  intro j hj
  unfold ecells
  rw [flat_get ecell 4 (by decide) (fun _ => rfl),show (i * 4 + j) / 4 = i by omega,show (i * 4 + j) % 4 = j by omega,he]
  rfl
 refine ⟨ad,rfl,had,hcell _ _ (hk 0 (by decide)),?_,?_,?_⟩
 ·rw [<- add_lit _ (by omega),add_add];exact hcell _ _ (hk 1 (by decide))
 ·rw [<- add_lit _ (by omega),add_add];exact hcell _ _ (hk 2 (by decide))
 ·rw [<- add_lit _ (by omega),add_add];exact hcell _ _ (hk 3 (by decide))
end Ent
section
variable {H : Type} {enc : TypeId × Value -> H} {W : World} {v : Value} {d : DataW H} {ps : List MemPlace} {r : Reach} {b0 : Nat}
end
end Go.Proofs.Ytobfdolhgnoedaa
