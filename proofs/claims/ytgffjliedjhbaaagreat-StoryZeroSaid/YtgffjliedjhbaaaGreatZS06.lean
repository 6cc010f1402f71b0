/- Part 7 of what the proof needs. -/
import Derived.Test.YtgffjliedjhbaaaGreatZS05
set_option linter.unusedSimpArgs false
set_option linter.unusedVariables false
set_option maxHeartbeats 32000000
set_option maxRecDepth 100000
namespace Go.Proofs.YtgffjliedjhbaaaGreat
open Go.RowKit
set_option maxRecDepth 100000
namespace Ent
open Ops Vn
abbrev DR := Int × Int
def dcell (x : DR) : List Value := [.int .i64 0,.int .i64 x.1,.int .i64 x.2,.int .i64 0,.string ⟨#[]⟩,.string ⟨#[]⟩,.int .u64 0,.int .i64 0,.slice none 0 0,.int .i64 0,.int .i64 0,.int .i64 0,.int .i64 0,.int .u64 0,.int .i64 0,.slice none 0 0]
def dcells (l : List DR) : List Value := l.flatMap dcell
abbrev dagg (x : DR) : Value := .agg #[.int .i64 0,.int .i64 x.1,.int .i64 x.2,.int .i64 0,.string ⟨#[]⟩,.string ⟨#[]⟩,.int .u64 0,.int .i64 0,.slice none 0 0,.int .i64 0,.int .i64 0,.int .i64 0,.int .i64 0,.int .u64 0,.int .i64 0,.slice none 0 0]
theorem deed_cells {w : World} {A : Option Addr} {m : Nat} {l : List DR} (h : Src w 16 A m (dcells l)) (hm : 0 < m) (i : Nat) (x : DR) (hx : l[i]? = some x) :
  ∃ ad,A = some ad /\ ad.block < w.heap.size /\ w.cell? (ad.add (i * 16)) = some (.int .i64 0) /\ w.cell? ⟨(ad.add (i * 16)).block,(ad.add (i * 16)).off + 1,none⟩ = some (.int .i64 x.1) /\ w.cell? ⟨(ad.add (i * 16)).block,(ad.add (i * 16)).off + 2,none⟩ = some (.int .i64 x.2) /\ w.cell? ⟨(ad.add (i * 16)).block,(ad.add (i * 16)).off + 3,none⟩ = some (.int .i64 0) /\ w.cell? ⟨(ad.add (i * 16)).block,(ad.add (i * 16)).off + 4,none⟩ = some (.string ⟨#[]⟩) /\ w.cell? ⟨(ad.add (i * 16)).block,(ad.add (i * 16)).off + 5,none⟩ = some (.string ⟨#[]⟩) /\ w.cell? ⟨(ad.add (i * 16)).block,(ad.add (i * 16)).off + 6,none⟩ = some (.int .u64 0) /\ w.cell? ⟨(ad.add (i * 16)).block,(ad.add (i * 16)).off + 7,none⟩ = some (.int .i64 0) /\ w.cell? ⟨(ad.add (i * 16)).block,(ad.add (i * 16)).off + 8,none⟩ = some (.slice none 0 0) /\ w.cell? ⟨(ad.add (i * 16)).block,(ad.add (i * 16)).off + 9,none⟩ = some (.int .i64 0) /\ w.cell? ⟨(ad.add (i * 16)).block,(ad.add (i * 16)).off + 10,none⟩ = some (.int .i64 0) /\ w.cell? ⟨(ad.add (i * 16)).block,(ad.add (i * 16)).off + 11,none⟩ = some (.int .i64 0) /\ w.cell? ⟨(ad.add (i * 16)).block,(ad.add (i * 16)).off + 12,none⟩ = some (.int .i64 0) /\ w.cell? ⟨(ad.add (i * 16)).block,(ad.add (i * 16)).off + 13,none⟩ = some (.int .u64 0) /\ w.cell? ⟨(ad.add (i * 16)).block,(ad.add (i * 16)).off + 14,none⟩ = some (.int .i64 0) /\ w.cell? ⟨(ad.add (i * 16)).block,(ad.add (i * 16)).off + 15,none⟩ = some (.slice none 0 0) := by
 obtain ⟨ad,rfl,had,hcell⟩ := h.2 hm
 have hk : ∀ j,j < 16 -> (dcells l)[i * 16 + j]? = (dcell x)[j]? := by
  intro j hj
  unfold dcells
  rw [flat_get dcell 16 (by decide) (fun _ => rfl),show (i * 16 + j) / 16 = i by omega,show (i * 16 + j) % 16 = j by omega,hx]
  rfl
 have h0 := hcell _ _ (hk 0 (by decide))
 have hj : ∀ j v,0 < j -> j < 16 -> (dcell x)[j]? = some v -> w.cell? ⟨(ad.add (i * 16)).block,(ad.add (i * 16)).off + j,none⟩ = some v := by
  intro j v h0 hj hv
  rw [<- add_lit _ h0,add_add]
  exact hcell _ _ ((hk j hj).trans hv)
 exact ⟨ad,rfl,had,h0,hj 1 _ (by decide) (by decide) rfl,hj 2 _ (by decide) (by decide) rfl,hj 3 _ (by decide) (by decide) rfl,hj 4 _ (by decide) (by decide) rfl,hj 5 _ (by decide) (by decide) rfl,hj 6 _ (by decide) (by decide) rfl,hj 7 _ (by decide) (by decide) rfl,hj 8 _ (by decide) (by decide) rfl,hj 9 _ (by decide) (by decide) rfl,hj 10 _ (by decide) (by decide) rfl,hj 11 _ (by decide) (by decide) rfl,hj 12 _ (by decide) (by decide) rfl,hj 13 _ (by decide) (by decide) rfl,hj 14 _ (by decide) (by decide) rfl,hj 15 _ (by decide) (by decide) rfl⟩
def wrD (x : DR) (e : EntR) : Bool := decide (x.1 = e.req) && (decide (x.2 = 0) || decide (x.2 = 3))
theorem writes_any (w : World) (x : DR) (e : EntR) (hcl : e.cl = 0) : Calls Tryz.prog 56 #[dagg x,eagg e] w fun r w' => r = .returned (.bool (wrD x e)) /\ Kept NoF w w' := by
 obtain ⟨rq,k⟩ := x
 obtain ⟨cl,req,A,c,l,ts⟩ := e
 unfold wrD
 dsimp only [dagg,eagg] at *
 subst hcl
 by_cases h1 : rq = req
 ·subst h1
  by_cases h2 : k = 0
  ·subst h2
   simp only [decide_true,Bool.true_and,Bool.true_or]
   go_enter Tryz.func56,Tryz.ntmps56
   go_wp2
   go_ret
   exact ⟨rfl,by (repeat' (first | (with_reducible first | exact kR0 | apply kP0 | apply kN0 | apply kD0 | apply kA0) | (right;simp;done)))⟩
  ·have q2 : (k == 0) = false := by rw [beq_eq_false_iff_ne];exact h2
   obtain ⟨q,hq⟩ : ∃ q,decide (k = 3) = q := ⟨_,rfl⟩
   have q3 : (k == 3) = q := by
    rw [<- hq]
    by_cases h : k = 3
    ·subst h;rfl
    ·rw [decide_eq_false h,beq_eq_false_iff_ne];exact h
   simp only [decide_true,Bool.true_and,decide_eq_false h2,Bool.false_or,hq]
   clear hq h2
   go_enter Tryz.func56,Tryz.ntmps56
   go_wp2
   go_ret
   exact ⟨by simp,by (repeat' (first | (with_reducible first | exact kR0 | apply kP0 | apply kN0 | apply kD0 | apply kA0) | (right;simp;done)))⟩
 ·have q1 : (rq == req) = false := by rw [beq_eq_false_iff_ne];exact h1
  simp only [decide_eq_false h1,Bool.false_and]
  clear h1
  go_enter Tryz.func56,Tryz.ntmps56
  go_wp2
  go_ret
  exact ⟨rfl,by (repeat' (first | (with_reducible first | exact kR0 | apply kP0 | apply kN0 | apply kD0 | apply kA0) | (right;simp;done)))⟩
theorem fill1_any (w : World) (x : DR) (b : Nat) (e : EntR) (hcl : e.cl = 0) (hb : Has w b 72 (earr e)) : Calls Tryz.prog 55 #[dagg x,.pointer (some ⟨b,0,none⟩)] w fun r w' => r = .returned (.bool (wrD x e)) /\ Kept NoF w w' := by
 have hw := fun W => writes_any W x e hcl
 have HW := hZ0 hw;clear hw hcl
 have c0 := (hb.alloc (.cells (dcell x).toArray 81)).cell 0
 have c1 := (hb.alloc (.cells (dcell x).toArray 81)).cell 1
 have c2 := (hb.alloc (.cells (dcell x).toArray 81)).cell 2
 have c3 := (hb.alloc (.cells (dcell x).toArray 81)).cell 3
 clear hb
 obtain ⟨rq,k⟩ := x
 obtain ⟨cl,req,A,c,l,ts⟩ := e
 dsimp only [dagg,eagg,earr,dcell] at *
 simp only [List.getElem?_toArray,List.getElem?_cons_zero,List.getElem?_cons_succ] at c0 c1 c2 c3
 go_enter Tryz.func55,Tryz.ntmps55
 go_wp2_with fail
 refine (HW.out _).mono ?_
 rintro e w2 ⟨rfl,hk⟩
 have hk2 := Kept.then (F := NoF) (a := w) (by (repeat' (first | (with_reducible first | exact kR0 | apply kP0 | apply kN0 | apply kD0 | apply kA0) | (right;simp;done)))) hk
 have HK2 := hZ0 hk2;clear hk2 hk
 go_wp2
 go_ret
 exact ⟨rfl,HK2.out⟩
theorem fill2_any (w : World) (x : EntR) (b : Nat) (e : EntR) (hb : Has w b 72 (earr e)) : Calls Tryz.prog 57 #[eagg x,.pointer (some ⟨b,0,none⟩)] w fun r w' => r = .returned (.bool (twinB x e)) /\ Kept NoF w w' := by
 have hw := fun W => twins_any W x e
 have HW := hZ0 hw;clear hw
 have c0 := (hb.alloc (.cells (earr x) 72)).cell 0
 have c1 := (hb.alloc (.cells (earr x) 72)).cell 1
 have c2 := (hb.alloc (.cells (earr x) 72)).cell 2
 have c3 := (hb.alloc (.cells (earr x) 72)).cell 3
 clear hb
 obtain ⟨cl',req',A',c',l',ts'⟩ := x
 obtain ⟨cl,req,A,c,l,ts⟩ := e
 dsimp only [eagg,earr] at *
 simp only [List.getElem?_toArray,List.getElem?_cons_zero,List.getElem?_cons_succ] at c0 c1 c2 c3
 go_enter Tryz.func57,Tryz.ntmps57
 go_wp2_with fail
 refine (HW.out _).mono ?_
 rintro e w2 ⟨rfl,hk⟩
 have hk2 := Kept.then (F := NoF) (a := w) (by (repeat' (first | (with_reducible first | exact kR0 | apply kP0 | apply kN0 | apply kD0 | apply kA0) | (right;simp;done)))) hk
 have HK2 := hZ0 hk2;clear hk2 hk
 go_wp2
 go_ret
 exact ⟨rfl,HK2.out⟩
def idxW {α : Type} (p : α -> Bool) : List α -> Nat -> Int
 | [],_ => -1
 | x :: l,i => if p x = true then i else idxW p l (i + 1)
theorem idxW_at {α : Type} (p : α -> Bool) {l : List α} {i : Nat} {x : α} (h : l[i]? = some x) : idxW p (l.drop i) i = if p x = true then (i : Int) else idxW p (l.drop (i + 1)) (i + 1) := by
 obtain ⟨hi,rfl⟩ := List.getElem?_eq_some_iff.1 h
 rw [List.drop_eq_getElem_cons hi,idxW]
theorem idxDeed_any (w : World) (A : Option Addr) (c : Nat) (l : List DR) (b : Nat) (e : EntR) (hcl : e.cl = 0) (hb : Has w b 72 (earr e)) (hl : Src w 16 A l.length (dcells l)) (hlen : l.length <= 1000000) :
  Calls Tryz.prog 54 #[.slice A l.length c,.func (.func 55) #[] #[.pointer (some ⟨b,0,none⟩)]] w fun r w' => r = .returned (.int .i64 (idxW (fun x => wrD x e) l 0)) /\ Kept NoF w w' := by
 have HL := hZ0 hl;clear hl
 have hcl2 := fun W x (hW : Kept NoF w W) => fill1_any W x b e hcl (hb.kept hW (fun z => z))
 have HCALL := hZ0 hcl2;clear hcl2 hb
 obtain ⟨r,hr⟩ : ∃ r,idxW (fun x => wrD x e) l 0 = r := ⟨_,rfl⟩
 rw [hr]
 have HR := hZ0 hr;clear hr
 go_enter Tryz.func54,Tryz.ntmps54
 go_wp2_with fail
 go_loopw [5,8] (fun v5 v8 wr => ∃ i : Nat,i <= l.length /\ v8 = .int .i64 i /\ r = idxW (fun x => wrD x e) (l.drop i) i /\ Kept NoF w wr) (fun _ v8 _ => l.length - (intOf v8).toNat)
 case atStart => exact ⟨0,Nat.zero_le _,rfl,HR.out.symm,Kept.refl _ _⟩
 case round =>
  obtain ⟨i,hi,rfl,hrr,hk⟩ := hrel
  have HK := hZ0 hk;clear hk
  by_cases hil : i < l.length
  ·obtain ⟨x,hx⟩ : ∃ x,l[i]? = some x := ⟨_,List.getElem?_eq_getElem hil⟩
   have hsa := idxW_at (fun x => wrD x e) hx
   obtain ⟨ad,rfl,hl1,x0,x1,x2,x3,x4,x5,x6,x7,x8,x9,x10,x11,x12,x13,x14,x15⟩ := deed_cells (HL.out.kept HK.out (fun _ _ x => x)) (by omega) i x hx
   have hcall := HCALL.out wr x HK.out
   rw [hsa] at hrr
   obtain ⟨t,ht⟩ : ∃ t,wrD x e = t := ⟨_,rfl⟩
   rw [ht] at hcall hrr
   clear hsa ht hx
   have HC := hZ0 hcall;clear hcall
   have HRR := hZ0 hrr;clear hrr
   obtain ⟨rq,k⟩ := x
   dsimp only [dagg] at *
   go_wp2_with fail
   refine HC.out.mono ?_
   rintro e w5 ⟨rfl,hk0⟩
   have HK5 := hZ0 (HK.out.then hk0);clear hk0
   cases t
   ·have hrf := HRR.out
    rw [if_neg (by simp)] at hrf
    have HRF := hZ0 hrf;clear hrf HRR
    go_wp2
    go_roundw
    case rel => exact ⟨i + 1,by omega,by go_num,HRF.out,HK5.out⟩
    case measure => simp [intOf];omega
   ·have hrf := HRR.out
    rw [if_pos rfl] at hrf
    have HRF := hZ0 hrf;clear hrf HRR
    go_wp2
    go_ret
    exact ⟨by rw [HRF.out];rfl,HK5.out⟩
  ·obtain rfl : i = l.length := by omega
   rw [List.drop_length,idxW] at hrr
   have HRR := hZ0 hrr;clear hrr
   go_wp2
   go_ret
   exact ⟨by rw [HRR.out];rfl,HK.out⟩
theorem idxEnt_any (w : World) (A : Option Addr) (c : Nat) (l : List EntR) (b : Nat) (e : EntR) (hb : Has w b 72 (earr e)) (hl : Src w 4 A l.length (ecells l)) (hlen : l.length <= 1000000) :
  Calls Tryz.prog 99 #[.slice A l.length c,.func (.func 57) #[] #[.pointer (some ⟨b,0,none⟩)]] w fun r w' => r = .returned (.int .i64 (idxW (fun x => twinB x e) l 0)) /\ Kept NoF w w' := by
 have HL := hZ0 hl;clear hl
 have hcl2 := fun W x (hW : Kept NoF w W) => fill2_any W x b e (hb.kept hW (fun z => z))
 have HCALL := hZ0 hcl2;clear hcl2 hb
 obtain ⟨r,hr⟩ : ∃ r,idxW (fun x => twinB x e) l 0 = r := ⟨_,rfl⟩
 rw [hr]
 have HR := hZ0 hr;clear hr
 go_enter Tryz.func99,Tryz.ntmps99
 go_wp2_with fail
 go_loopw [5,8] (fun v5 v8 wr => ∃ i : Nat,i <= l.length /\ v8 = .int .i64 i /\ r = idxW (fun x => twinB x e) (l.drop i) i /\ Kept NoF w wr) (fun _ v8 _ => l.length - (intOf v8).toNat)
 case atStart => exact ⟨0,Nat.zero_le _,rfl,HR.out.symm,Kept.refl _ _⟩
 case round =>
  obtain ⟨i,hi,rfl,hrr,hk⟩ := hrel
  have HK := hZ0 hk;clear hk
  by_cases hil : i < l.length
  ·obtain ⟨x,hx⟩ : ∃ x,l[i]? = some x := ⟨_,List.getElem?_eq_getElem hil⟩
   have hsa := idxW_at (fun x => twinB x e) hx
   obtain ⟨ad,rfl,hl1,x0,x1,x2,x3⟩ := ent_cells (HL.out.kept HK.out (fun _ _ x => x)) (by omega) i x hx
   have hcall := HCALL.out wr x HK.out
   rw [hsa] at hrr
   obtain ⟨t,ht⟩ : ∃ t,twinB x e = t := ⟨_,rfl⟩
   rw [ht] at hcall hrr
   clear hsa ht hx
   have HC := hZ0 hcall;clear hcall
   have HRR := hZ0 hrr;clear hrr
   obtain ⟨cl,req,eA,ec,el,ts⟩ := x
   dsimp only [eagg] at *
   go_wp2_with fail
   refine HC.out.mono ?_
   rintro e w5 ⟨rfl,hk0⟩
   have HK5 := hZ0 (HK.out.then hk0);clear hk0
   cases t
   ·have hrf := HRR.out
    rw [if_neg (by simp)] at hrf
    have HRF := hZ0 hrf;clear hrf HRR
    go_wp2
    go_roundw
    case rel => exact ⟨i + 1,by omega,by go_num,HRF.out,HK5.out⟩
    case measure => simp [intOf];omega
   ·have hrf := HRR.out
    rw [if_pos rfl] at hrf
    have HRF := hZ0 hrf;clear hrf HRR
    go_wp2
    go_ret
    exact ⟨by rw [HRF.out];rfl,HK5.out⟩
  ·obtain rfl : i = l.length := by omega
   rw [List.drop_length,idxW] at hrr
   have HRR := hZ0 hrr;clear hrr
   go_wp2
   go_ret
   exact ⟨by rw [HRR.out];rfl,HK.out⟩
theorem contains_any (w : World) (A : Option Addr) (c : Nat) (l : List EntR) (b : Nat) (e : EntR) (hb : Has w b 72 (earr e)) (hl : Src w 4 A l.length (ecells l)) (hlen : l.length <= 1000000) (r : Bool) (hr : decide (0 <= idxW (fun x => twinB x e) l 0) = r) :
  Calls Tryz.prog 59 #[.slice A l.length c,.func (.func 57) #[] #[.pointer (some ⟨b,0,none⟩)]] w fun v w' => v = .returned (.bool r) /\ Kept NoF w w' := by
 have hi := idxEnt_any w A c l b e hb hl hlen
 obtain ⟨k,hk⟩ : ∃ k,idxW (fun x => twinB x e) l 0 = k := ⟨_,rfl⟩
 rw [hk] at hi hr
 have HI := hZ0 hi;clear hi hk hb hl
 go_enter Tryz.func59,Tryz.ntmps59
 go_wp2_with fail
 refine HI.out.mono ?_
 rintro e w2 ⟨rfl,hk⟩
 have HK := hZ0 hk;clear hk
 go_wp2
 go_ret
 exact ⟨by simp,HK.out⟩
end Ent
end Go.Proofs.YtgffjliedjhbaaaGreat
