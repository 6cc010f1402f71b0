/- Part 4 of what the proof needs. -/
import Derived.Test.YtobfdolhgnoedaaAG01
import Derived.Test.YtobfdolhgnoedaaAG02
import Derived.Deep.QuietTactic
import Derived.Deep.RegionLaw
import Derived.Test.YtobfdolhgnoedaaRows
import Derived.ProofKit
import Derived.OpenShut
import Derived.Lib.SmallJoins
import Derived.SizedLaws
set_option linter.unusedSimpArgs false
set_option linter.unusedVariables false
set_option maxHeartbeats 32000000
set_option maxRecDepth 100000
namespace Go.Proofs.Ytobfdolhgnoedaa
open Go.RowKit Go.Shelf
set_option maxRecDepth 100000
namespace Ops
open Vn
theorem tl_eq (a b : ByteArray) : (a.toList == b.toList) = decide (a = b) := by
 rw [ByteArray.toList_eq,ByteArray.toList_eq]
 by_cases h : a = b
 ·simp [h]
 ·have : a.data.toList ≠ b.data.toList := fun e => h (ByteArray.ext (Array.toList_inj.1 e))
  rw [decide_eq_false h,beq_eq_false_iff_ne]
  exact this
abbrev pagg (p : PairR) : Value := .agg #[.string p.key,.string p.val]
theorem run_neq_op (p q : OpR) (W : World) : (binOp .neq 70 (oagg p) (oagg q)).run Try.prog W = .ok (.bool (!decide (p = q))) W := by
 obtain ⟨p1,p2,p3⟩ := p
 obtain ⟨q1,q2,q3⟩ := q
 have e1 := tl_eq p1 q1
 have e2 := tl_eq p2 q2
 unfold oagg
 by_cases h1 : p1 = q1 <;> by_cases h2 : p2 = q2 <;> by_cases h3 : p3 = q3 <;> simp [go_sem,h1,h2,h3,e1,e2]
theorem run_neq_pair (p q : PairR) (W : World) : (binOp .neq 68 (pagg p) (pagg q)).run Try.prog W = .ok (.bool (!decide (p = q))) W := by
 obtain ⟨p1,p2⟩ := p
 obtain ⟨q1,q2⟩ := q
 have e1 := tl_eq p1 q1
 have e2 := tl_eq p2 q2
 unfold pagg
 by_cases h1 : p1 = q1 <;> by_cases h2 : p2 = q2 <;> simp [go_sem,h1,h2,e1,e2]
theorem pair_cells {w : World} {A : Option Addr} {m : Nat} {l : List PairR} (h : Src w 2 A m (pcells l)) (hm : 0 < m) (i : Nat) (p : PairR) (hp : l[i]? = some p) :
  ∃ ad,A = some ad /\ ad.block < w.heap.size /\ w.cell? (ad.add (i * 2)) = some (.string p.key) /\ w.cell? ⟨(ad.add (i * 2)).block,(ad.add (i * 2)).off + 1,none⟩ = some (.string p.val) := by
 obtain ⟨ad,rfl,had,hcell⟩ := h.2 hm
 have k0 : (pcells l)[i * 2]? = some (.string p.key) := by
  unfold pcells
  rw [flat_get pcell 2 (by decide) (fun _ => rfl),show i * 2 / 2 = i by omega,show i * 2 % 2 = 0 by omega,hp];rfl
 have k1 : (pcells l)[i * 2 + 1]? = some (.string p.val) := by
  unfold pcells
  rw [flat_get pcell 2 (by decide) (fun _ => rfl),show (i * 2 + 1) / 2 = i by omega,show (i * 2 + 1) % 2 = 1 by omega,hp];rfl
 refine ⟨ad,rfl,had,hcell _ _ k0,?_⟩
 rw [<- add_lit _ (by omega),add_add];exact hcell _ _ k1
theorem eq_take_succ {α : Type} {a b : List α} {i : Nat} {p : α} (h : a.take i = b.take i) (ha : a[i]? = some p) (hb : b[i]? = some p) : a.take (i + 1) = b.take (i + 1) := by
 rw [List.take_add_one,List.take_add_one,h,ha,hb]
theorem rsameOps_any (w : World) (A B : Option Addr) (c d : Nat) (a b : List OpR) (ha : Src w 3 A a.length (cells a)) (hb : Src w 3 B b.length (cells b)) (hlen : a.length <= 1000000) :
  Calls Try.prog 50 #[.slice A a.length c,.slice B b.length d] w fun e w' => e = .returned (.bool (decide (a = b))) /\ Kept NoF w w' := by
 have HA := hZ0 ha;clear ha
 have HB := hZ0 hb;clear hb
 by_cases hl : a.length = b.length
 rotate_left
 ·have hd : decide (a = b) = false := decide_eq_false fun e => hl (by rw [e])
  rw [hd]
  have hne : ((a.length : Int) != (b.length : Int)) = true := by simpa using fun e => hl (by omega)
  clear hd HA HB
  go_enter Try.func50,Try.ntmps50
  go_wp2
  go_ret
  exact ⟨rfl,Kept.refl _ _⟩
 rw [<- hl] at HB ⊢
 have HL := hZ0 hl;clear hl
 obtain ⟨n,hn⟩ : ∃ n,a.length = n := ⟨_,rfl⟩
 rw [hn] at HA HB hlen ⊢
 have HN := hZ0 hn;clear hn
 obtain ⟨r,hr⟩ : ∃ r,decide (a = b) = r := ⟨_,rfl⟩
 rw [hr]
 have HR := hZ0 hr;clear hr
 go_enter Try.func50,Try.ntmps50
 go_wp2_with fail
 go_loopw [5] (fun v5 wr => ∃ i m : Nat,i <= n /\ v5 = .int .i64 i /\ a.take i = b.take i /\ wr = w.drewN m) (fun v5 _ => n - (intOf v5).toNat)
 case atStart => exact ⟨0,0,Nat.zero_le _,rfl,rfl,rfl⟩
 case round =>
  obtain ⟨i,m,hi,rfl,ht,rfl⟩ := hrel
  have HT := hZ0 ht;clear ht
  by_cases hil : i < n
  ·obtain ⟨p,hp⟩ : ∃ p,a[i]? = some p := ⟨_,List.getElem?_eq_getElem (by have := HN.out;omega)⟩
   obtain ⟨q,hq⟩ : ∃ q,b[i]? = some q := ⟨_,List.getElem?_eq_getElem (by have := HN.out;have := HL.out;omega)⟩
   obtain ⟨a1,rfl,hl1,d0,d1,d2⟩ := op_cells HA.out (by omega) i p hp
   obtain ⟨a2,rfl,hl2,f0,f1,f2⟩ := op_cells HB.out (by omega) i q hq
   have heq := run_neq_op p q
   have HP := hZ0 hp;clear hp
   have HQ := hZ0 hq;clear hq
   by_cases hpq : p = q
   ·subst hpq
    rw [decide_eq_true rfl] at heq
    have hnx := eq_take_succ HT.out HP.out HQ.out
    have HNX := hZ0 hnx;clear hnx HP HQ
    obtain ⟨x0,x1,x2⟩ := p
    unfold oagg at heq
    dsimp only at d0 d1 d2 f0 f1 f2 heq
    go_wp2_with fail
    go_quiet (fail)
    go_wp2
    go_roundw
    case rel => exact ⟨i + 1,_,by omega,by go_num,HNX.out,rfl⟩
    case measure => simp [intOf];omega
   ·have hrf : r = false := by
     rw [<- HR.out]
     refine decide_eq_false fun e => hpq ?_
     have h1 := HP.out
     rw [e,HQ.out] at h1
     injection h1 with h1
     exact h1.symm
    rw [decide_eq_false hpq] at heq
    have HRF := hZ0 hrf;clear hrf hpq HP HQ
    obtain ⟨x0,x1,x2⟩ := p
    obtain ⟨y0,y1,y2⟩ := q
    unfold oagg at heq
    dsimp only at d0 d1 d2 f0 f1 f2 heq
    go_wp2_with fail
    go_quiet (fail)
    go_wp2
    go_ret
    exact ⟨by rw [HRF.out];rfl,(Kept.quiet _ _ _).drewN _⟩
  ·obtain rfl : i = n := by omega
   have hrt : r = true := by
    rw [<- HR.out]
    refine decide_eq_true ?_
    have h1 := HT.out
    rwa [List.take_of_length_le (by rw [HN.out];exact Nat.le_refl _),List.take_of_length_le (by rw [<- HL.out,HN.out];exact Nat.le_refl _)] at h1
   have HRT := hZ0 hrt;clear hrt
   go_wp2
   go_ret
   exact ⟨by rw [HRT.out];rfl,Kept.quiet _ _ _⟩
theorem rsamePairs_any (w : World) (A B : Option Addr) (c d : Nat) (a b : List PairR) (ha : Src w 2 A a.length (pcells a)) (hb : Src w 2 B b.length (pcells b)) (hlen : a.length <= 1000000) :
  Calls Try.prog 26 #[.slice A a.length c,.slice B b.length d] w fun e w' => e = .returned (.bool (decide (a = b))) /\ Kept NoF w w' := by
 have HA := hZ0 ha;clear ha
 have HB := hZ0 hb;clear hb
 by_cases hl : a.length = b.length
 rotate_left
 ·have hd : decide (a = b) = false := decide_eq_false fun e => hl (by rw [e])
  rw [hd]
  have hne : ((a.length : Int) != (b.length : Int)) = true := by simpa using fun e => hl (by omega)
  clear hd HA HB
  go_enter Try.func26,Try.ntmps26
  go_wp2
  go_ret
  exact ⟨rfl,Kept.refl _ _⟩
 rw [<- hl] at HB ⊢
 have HL := hZ0 hl;clear hl
 obtain ⟨n,hn⟩ : ∃ n,a.length = n := ⟨_,rfl⟩
 rw [hn] at HA HB hlen ⊢
 have HN := hZ0 hn;clear hn
 obtain ⟨r,hr⟩ : ∃ r,decide (a = b) = r := ⟨_,rfl⟩
 rw [hr]
 have HR := hZ0 hr;clear hr
 go_enter Try.func26,Try.ntmps26
 go_wp2_with fail
 go_loopw [5] (fun v5 wr => ∃ i m : Nat,i <= n /\ v5 = .int .i64 i /\ a.take i = b.take i /\ wr = w.drewN m) (fun v5 _ => n - (intOf v5).toNat)
 case atStart => exact ⟨0,0,Nat.zero_le _,rfl,rfl,rfl⟩
 case round =>
  obtain ⟨i,m,hi,rfl,ht,rfl⟩ := hrel
  have HT := hZ0 ht;clear ht
  by_cases hil : i < n
  ·obtain ⟨p,hp⟩ : ∃ p,a[i]? = some p := ⟨_,List.getElem?_eq_getElem (by have := HN.out;omega)⟩
   obtain ⟨q,hq⟩ : ∃ q,b[i]? = some q := ⟨_,List.getElem?_eq_getElem (by have := HN.out;have := HL.out;omega)⟩
   obtain ⟨a1,rfl,hl1,d0,d1⟩ := pair_cells HA.out (by omega) i p hp
   obtain ⟨a2,rfl,hl2,f0,f1⟩ := pair_cells HB.out (by omega) i q hq
   have heq := run_neq_pair p q
   have HP := hZ0 hp;clear hp
   have HQ := hZ0 hq;clear hq
   by_cases hpq : p = q
   ·subst hpq
    rw [decide_eq_true rfl] at heq
    have hnx := eq_take_succ HT.out HP.out HQ.out
    have HNX := hZ0 hnx;clear hnx HP HQ
    obtain ⟨x0,x1⟩ := p
    unfold pagg at heq
    dsimp only at d0 d1 f0 f1 heq
    go_wp2_with fail
    go_quiet (fail)
    go_wp2
    go_roundw
    case rel => exact ⟨i + 1,_,by omega,by go_num,HNX.out,rfl⟩
    case measure => simp [intOf];omega
   ·have hrf : r = false := by
     rw [<- HR.out]
     refine decide_eq_false fun e => hpq ?_
     have h1 := HP.out
     rw [e,HQ.out] at h1
     injection h1 with h1
     exact h1.symm
    rw [decide_eq_false hpq] at heq
    have HRF := hZ0 hrf;clear hrf hpq HP HQ
    obtain ⟨x0,x1⟩ := p
    obtain ⟨y0,y1⟩ := q
    unfold pagg at heq
    dsimp only at d0 d1 f0 f1 heq
    go_wp2_with fail
    go_quiet (fail)
    go_wp2
    go_ret
    exact ⟨by rw [HRF.out];rfl,(Kept.quiet _ _ _).drewN _⟩
  ·obtain rfl : i = n := by omega
   have hrt : r = true := by
    rw [<- HR.out]
    refine decide_eq_true ?_
    have h1 := HT.out
    rwa [List.take_of_length_le (by rw [HN.out];exact Nat.le_refl _),List.take_of_length_le (by rw [<- HL.out,HN.out];exact Nat.le_refl _)] at h1
   have HRT := hZ0 hrt;clear hrt
   go_wp2
   go_ret
   exact ⟨by rw [HRT.out];rfl,Kept.quiet _ _ _⟩
end Ops
end Go.Proofs.Ytobfdolhgnoedaa
namespace Go.Proofs.Ytobfdolhgnoedaa
open Go.RowKit Go.WideShapes Go.ChangeShapes
set_option maxRecDepth 100000
section
variable {H : Type} {enc : TypeId × Value -> H} {W : World} {v : Value} {d : DataW H} {ps : List MemPlace} {r : Reach} {b0 : Nat}
theorem open_pairs0 (hv : ∃ A n c,v = .slice A n c) (h : DataW.Trod enc Try.prog W 0 (fun _ => true) true 32 v d ps) :
  ∃ (A : Option Addr) (c : Nat) (l : List Ops.PairR),v = .slice A l.length c /\ l.length <= c /\ c <= maxLen /\ Src W 2 A l.length (Ops.pcells l) /\ (∀ o ∈ l,o.key.size <= maxLen /\ o.val.size <= maxLen) := by
 have _ : Inhabited Ops.PairR := ⟨⟨⟨#[]⟩,⟨#[]⟩⟩⟩
 obtain ⟨A,c,l,h1,h2,h3,h4,h5,_⟩ := open_rows (α := Ops.PairR) Ops.pcell (fun o => o.key.size <= maxLen /\ o.val.size <= maxLen) 2 Try.underlying32 (by kernel_rfl) (by decide) (fun _ => rfl)
  (fun fuel cs y hy => by
   obtain ⟨y0,y1,n,_,hl,h0,h1⟩ := trod_struct2 Try.underlying68 hy
   have hC : Try.prog.cellsOf 68 = 2 := by kernel_rfl
   rw [hC] at hl
   match cs,hl with
   | [c0,c1],_ =>
    have e9 : Try.prog.cellsOf 9 = 1 := by kernel_rfl
    obtain ⟨x0,hx0,_,m0⟩ := DataW.trod_string Try.underlying9 h0
    obtain ⟨x1,hx1,_,m1⟩ := DataW.trod_string Try.underlying9 h1
    simp [e9] at hx0 hx1
    subst hx0
    subst hx1
    exact ⟨⟨x0,x1⟩,rfl,m0,m1⟩) h hv
 exact ⟨A,c,l,h1,h2,h3,h4,h5⟩
theorem open_pairs (hv : Value.okWide Try.prog W r b0 32 v) (h : DataW.Trod enc Try.prog W 0 (fun _ => true) true 32 v d ps) :
  ∃ (A : Option Addr) (c : Nat) (l : List Ops.PairR),v = .slice A l.length c /\ l.length <= c /\ c <= maxLen /\ Src W 2 A l.length (Ops.pcells l) /\ (∀ o ∈ l,o.key.size <= maxLen /\ o.val.size <= maxLen) :=
 open_pairs0 (okWide_slice Try.underlying32 hv) h
end
namespace Ent
open Ops
structure EntR where
 cl : Int
 req : Int
 A : Option Addr
 c : Nat
 ops : List OpR
 ts : Int
def ecell (e : EntR) : List Value := [.int .i64 e.cl,.int .i64 e.req,.slice e.A e.ops.length e.c,.int .u64 e.ts]
def ecells (l : List EntR) : List Value := l.flatMap ecell
def EOk (W : World) (e : EntR) : Prop := Src W 3 e.A e.ops.length (cells e.ops) /\ e.ops.length <= e.c /\ e.c <= maxLen /\ (∀ o ∈ e.ops,o.key.size <= maxLen /\ o.val.size <= maxLen) /\ 0 <= e.ts /\ e.ts <= 18446744073709551615 /\ e.ops.length * 40 <= 140737488351232
def LOk (W : World) (l : List EntR) : Prop := ∀ e ∈ l,EOk W e
theorem EOk.kept {W W' : World} {e : EntR} (h : EOk W e) (hk : Kept NoF W W') : EOk W' e := ⟨h.1.kept hk (fun _ _ x => x),h.2⟩
theorem LOk.kept {W W' : World} {l : List EntR} (h : LOk W l) (hk : Kept NoF W W') : LOk W' l := fun e he => (h e he).kept hk
end Ent
section
variable {H : Type} {enc : TypeId × Value -> H} {W : World} {v : Value} {d : DataW H} {ps : List MemPlace} {r : Reach} {b0 : Nat}
end
end Go.Proofs.Ytobfdolhgnoedaa
