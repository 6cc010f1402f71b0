/- Part 10 of what the proof needs. -/
import Derived.Test.YtgffjliedjhbaaaGreatZS08
set_option linter.unusedSimpArgs false
set_option linter.unusedVariables false
set_option maxHeartbeats 32000000
set_option maxRecDepth 100000
namespace Go.Proofs.YtgffjliedjhbaaaGreat
open Go.RowKit
set_option maxRecDepth 100000
namespace Mst
open Plan
structure PinR where
 id : Int
 at' : Int
 left : Int
deriving DecidableEq
def pcell (p : PinR) : List Value := [.int .i64 p.id,.int .u64 p.at',.int .i64 p.left]
def pcells (l : List PinR) : List Value := l.flatMap pcell
abbrev pagg (p : PinR) : Value := .agg #[.int .i64 p.id,.int .u64 p.at',.int .i64 p.left]
theorem pin_cells {w : World} {A : Option Addr} {m : Nat} {l : List PinR} (h : Src w 3 A m (pcells l)) (hm : 0 < m) (i : Nat) (p : PinR) (hp : l[i]? = some p) :
  ∃ ad,A = some ad /\ ad.block < w.heap.size /\ w.cell? (ad.add (i * 3)) = some (.int .i64 p.id) /\ w.cell? ⟨(ad.add (i * 3)).block,(ad.add (i * 3)).off + 1,none⟩ = some (.int .u64 p.at') /\ w.cell? ⟨(ad.add (i * 3)).block,(ad.add (i * 3)).off + 2,none⟩ = some (.int .i64 p.left) := by
 obtain ⟨ad,rfl,had,hcell⟩ := h.2 hm
 have k0 : (pcells l)[i * 3]? = some (.int .i64 p.id) := by
  unfold pcells
  rw [flat_get pcell 3 (by decide) (fun _ => rfl),show i * 3 / 3 = i by omega,show i * 3 % 3 = 0 by omega,hp];rfl
 have k1 : (pcells l)[i * 3 + 1]? = some (.int .u64 p.at') := by
  unfold pcells
  rw [flat_get pcell 3 (by decide) (fun _ => rfl),show (i * 3 + 1) / 3 = i by omega,show (i * 3 + 1) % 3 = 1 by omega,hp];rfl
 have k2 : (pcells l)[i * 3 + 2]? = some (.int .i64 p.left) := by
  unfold pcells
  rw [flat_get pcell 3 (by decide) (fun _ => rfl),show (i * 3 + 2) / 3 = i by omega,show (i * 3 + 2) % 3 = 2 by omega,hp];rfl
 refine ⟨ad,rfl,had,hcell _ _ k0,?_,?_⟩
 ·rw [<- add_lit _ (by omega),add_add];exact hcell _ _ k1
 ·rw [<- add_lit _ (by omega),add_add];exact hcell _ _ k2
theorem enters {f : FuncId} {fn : Func} {c : Code} (hf : Tryz.prog.funcs[f]? = some fn) (hname : (fn.name == "runtime.NumGoroutine") = false) (hb : fn.body = some c) (args : Array Value) (w : World) :
  (callFunc f args).run Tryz.prog w = .ok (.enter f args) w := by
 have h1 : fn.name ≠ "runtime.NumGoroutine" := by simpa using hname
 simp [callFunc,hf,h1,hb]
def idxW {α : Type} (p : α -> Bool) : List α -> Nat -> Int
 | [],_ => -1
 | x :: l,i => if p x = true then i else idxW p l (i + 1)
theorem idxW_at {α : Type} (p : α -> Bool) {l : List α} {i : Nat} {x : α} (h : l[i]? = some x) : idxW p (l.drop i) i = if p x = true then (i : Int) else idxW p (l.drop (i + 1)) (i + 1) := by
 obtain ⟨hi,rfl⟩ := List.getElem?_eq_some_iff.1 h
 rw [List.drop_eq_getElem_cons hi,idxW]
theorem idxW_any {α : Type} (p : α -> Bool) (l : List α) (i : Nat) : decide (0 <= idxW p l i) = l.any p := by
 induction l generalizing i with
 | nil => simp [idxW]
 | cons x l ih =>
  rw [idxW,List.any_cons]
  cases hx : p x
  ·rw [if_neg (by simp),ih,Bool.false_or]
  ·rw [if_pos rfl,Bool.true_or];simp
theorem idxInt_any (w : World) (A : Option Addr) (c : Nat) (l : List Int) (g : Nat) (cap : Value) (p : Int -> Bool) (eg : ∀ args w,(callFunc g args).run Tryz.prog w = .ok (.enter g args) w) (hl : Src w 1 A l.length (ints l)) (hlen : l.length <= 1000000)
  (hf : ∀ W x,Kept NoF w W -> x ∈ l -> Calls Tryz.prog g #[.int .i64 x,cap] W fun e W' => e = .returned (.bool (p x)) /\ Kept NoF W W') :
  Calls Tryz.prog 242 #[.slice A l.length c,.func (.func g) #[] #[cap]] w fun r w' => r = .returned (.int .i64 (idxW p l 0)) /\ Kept NoF w w' := by
 have HL := hZ0 hl;clear hl
 have HCALL := hZ0 hf;clear hf
 obtain ⟨r,hr⟩ : ∃ r,idxW p l 0 = r := ⟨_,rfl⟩
 rw [hr]
 have HR := hZ0 hr;clear hr
 go_enter Tryz.func242,Tryz.ntmps242
 go_wp2_with fail
 go_loopw [5,8] (fun v5 v8 wr => ∃ i : Nat,i <= l.length /\ v8 = .int .i64 i /\ r = idxW p (l.drop i) i /\ Kept NoF w wr) (fun _ v8 _ => l.length - (intOf v8).toNat)
 case atStart => exact ⟨0,Nat.zero_le _,rfl,HR.out.symm,Kept.refl _ _⟩
 case round =>
  obtain ⟨i,hi,rfl,hrr,hk⟩ := hrel
  have HK := hZ0 hk;clear hk
  by_cases hil : i < l.length
  ·obtain ⟨x,hx⟩ : ∃ x,l[i]? = some x := ⟨_,List.getElem?_eq_getElem hil⟩
   have hsa := idxW_at p hx
   obtain ⟨ad,rfl,hl1,x0⟩ := int_cells (HL.out.kept HK.out (fun _ _ x => x)) (by omega) i x hx
   have hcall := HCALL.out wr x HK.out (List.mem_of_getElem? hx)
   rw [hsa] at hrr
   obtain ⟨t,ht⟩ : ∃ t,p x = t := ⟨_,rfl⟩
   rw [ht] at hcall hrr
   clear hsa ht hx
   have HC := hZ0 hcall;clear hcall
   have HRR := hZ0 hrr;clear hrr
   go_wp2_with fail
   refine HC.out.mono ?_
   rintro e w5 ⟨rfl,hk0⟩
   have HK5 := hZ0 (HK.out.then hk0);clear hk0
   cases t
   ·have hrf := HRR.out
    rw [if_neg (by simp)] at hrf
    have HRF := hZ0 hrf;clear hrf HRR
    go_wp2
    go_roundw
    case rel => exact ⟨i + 1,by omega,by go_num,HRF.out,HK5.out⟩
    case measure => simp [intOf];omega
   ·have hrf := HRR.out
    rw [if_pos rfl] at hrf
    have HRF := hZ0 hrf;clear hrf HRR
    go_wp2
    go_ret
    exact ⟨by rw [HRF.out];rfl,HK5.out⟩
  ·obtain rfl : i = l.length := by omega
   rw [List.drop_length,idxW] at hrr
   have HRR := hZ0 hrr;clear hrr
   go_wp2
   go_ret
   exact ⟨by rw [HRR.out];rfl,HK.out⟩
theorem hasInt_any (w : World) (A : Option Addr) (c : Nat) (l : List Int) (g : Nat) (cap : Value) (p : Int -> Bool) (eg : ∀ args w,(callFunc g args).run Tryz.prog w = .ok (.enter g args) w) (hl : Src w 1 A l.length (ints l)) (hlen : l.length <= 1000000)
  (hf : ∀ W x,Kept NoF w W -> x ∈ l -> Calls Tryz.prog g #[.int .i64 x,cap] W fun e W' => e = .returned (.bool (p x)) /\ Kept NoF W W') :
  Calls Tryz.prog 199 #[.slice A l.length c,.func (.func g) #[] #[cap]] w fun r w' => r = .returned (.bool (l.any p)) /\ Kept NoF w w' := by
 have hi := idxInt_any w A c l g cap p eg hl hlen hf
 have ha := idxW_any p l 0
 obtain ⟨k,hk⟩ : ∃ k,idxW p l 0 = k := ⟨_,rfl⟩
 rw [hk] at hi ha
 rw [<- ha]
 have HI := hZ0 hi;clear hi hk hf hl ha eg
 go_enter Tryz.func199,Tryz.ntmps199
 go_wp2_with fail
 refine HI.out.mono ?_
 rintro e w2 ⟨rfl,hk⟩
 have HK := hZ0 hk;clear hk
 go_wp2
 go_ret
 exact ⟨by simp,HK.out⟩
theorem idxMem_any (w : World) (A : Option Addr) (c : Nat) (l : List Mem) (g : Nat) (cap : Value) (p : Mem -> Bool) (eg : ∀ args w,(callFunc g args).run Tryz.prog w = .ok (.enter g args) w) (hl : Src w 2 A l.length (mcells l)) (hlen : l.length <= 1000000)
  (hf : ∀ W x,Kept NoF w W -> x ∈ l -> Calls Tryz.prog g #[magg x,cap] W fun e W' => e = .returned (.bool (p x)) /\ Kept NoF W W') :
  Calls Tryz.prog 192 #[.slice A l.length c,.func (.func g) #[] #[cap]] w fun r w' => r = .returned (.int .i64 (idxW p l 0)) /\ Kept NoF w w' := by
 have HL := hZ0 hl;clear hl
 have HCALL := hZ0 hf;clear hf
 obtain ⟨r,hr⟩ : ∃ r,idxW p l 0 = r := ⟨_,rfl⟩
 rw [hr]
 have HR := hZ0 hr;clear hr
 go_enter Tryz.func192,Tryz.ntmps192
 go_wp2_with fail
 go_loopw [5,8] (fun v5 v8 wr => ∃ i : Nat,i <= l.length /\ v8 = .int .i64 i /\ r = idxW p (l.drop i) i /\ Kept NoF w wr) (fun _ v8 _ => l.length - (intOf v8).toNat)
 case atStart => exact ⟨0,Nat.zero_le _,rfl,HR.out.symm,Kept.refl _ _⟩
 case round =>
  obtain ⟨i,hi,rfl,hrr,hk⟩ := hrel
  have HK := hZ0 hk;clear hk
  by_cases hil : i < l.length
  ·obtain ⟨x,hx⟩ : ∃ x,l[i]? = some x := ⟨_,List.getElem?_eq_getElem hil⟩
   have hsa := idxW_at p hx
   obtain ⟨ad,rfl,hl1,x0,x1⟩ := mem_cells (HL.out.kept HK.out (fun _ _ x => x)) (by omega) i x hx
   have hcall := HCALL.out wr x HK.out (List.mem_of_getElem? hx)
   rw [hsa] at hrr
   obtain ⟨t,ht⟩ : ∃ t,p x = t := ⟨_,rfl⟩
   rw [ht] at hcall hrr
   clear hsa ht hx
   have HC := hZ0 hcall;clear hcall
   have HRR := hZ0 hrr;clear hrr
   go_wp2_with fail
   refine HC.out.mono ?_
   rintro e w5 ⟨rfl,hk0⟩
   have HK5 := hZ0 (HK.out.then hk0);clear hk0
   cases t
   ·have hrf := HRR.out
    rw [if_neg (by simp)] at hrf
    have HRF := hZ0 hrf;clear hrf HRR
    go_wp2
    go_roundw
    case rel => exact ⟨i + 1,by omega,by go_num,HRF.out,HK5.out⟩
    case measure => simp [intOf];omega
   ·have hrf := HRR.out
    rw [if_pos rfl] at hrf
    have HRF := hZ0 hrf;clear hrf HRR
    go_wp2
    go_ret
    exact ⟨by rw [HRF.out];rfl,HK5.out⟩
  ·obtain rfl : i = l.length := by omega
   rw [List.drop_length,idxW] at hrr
   have HRR := hZ0 hrr;clear hrr
   go_wp2
   go_ret
   exact ⟨by rw [HRR.out];rfl,HK.out⟩
theorem hasMem_any (w : World) (A : Option Addr) (c : Nat) (l : List Mem) (g : Nat) (cap : Value) (p : Mem -> Bool) (eg : ∀ args w,(callFunc g args).run Tryz.prog w = .ok (.enter g args) w) (hl : Src w 2 A l.length (mcells l)) (hlen : l.length <= 1000000)
  (hf : ∀ W x,Kept NoF w W -> x ∈ l -> Calls Tryz.prog g #[magg x,cap] W fun e W' => e = .returned (.bool (p x)) /\ Kept NoF W W') :
  Calls Tryz.prog 139 #[.slice A l.length c,.func (.func g) #[] #[cap]] w fun r w' => r = .returned (.bool (l.any p)) /\ Kept NoF w w' := by
 have hi := idxMem_any w A c l g cap p eg hl hlen hf
 have ha := idxW_any p l 0
 obtain ⟨k,hk⟩ : ∃ k,idxW p l 0 = k := ⟨_,rfl⟩
 rw [hk] at hi ha
 rw [<- ha]
 have HI := hZ0 hi;clear hi hk hf hl ha eg
 go_enter Tryz.func139,Tryz.ntmps139
 go_wp2_with fail
 refine HI.out.mono ?_
 rintro e w2 ⟨rfl,hk⟩
 have HK := hZ0 hk;clear hk
 go_wp2
 go_ret
 exact ⟨by simp,HK.out⟩
theorem idxPin_any (w : World) (A : Option Addr) (c : Nat) (l : List PinR) (g : Nat) (cap : Value) (p : PinR -> Bool) (eg : ∀ args w,(callFunc g args).run Tryz.prog w = .ok (.enter g args) w) (hl : Src w 3 A l.length (pcells l)) (hlen : l.length <= 1000000)
  (hf : ∀ W x,Kept NoF w W -> x ∈ l -> Calls Tryz.prog g #[pagg x,cap] W fun e W' => e = .returned (.bool (p x)) /\ Kept NoF W W') :
  Calls Tryz.prog 223 #[.slice A l.length c,.func (.func g) #[] #[cap]] w fun r w' => r = .returned (.int .i64 (idxW p l 0)) /\ Kept NoF w w' := by
 have HL := hZ0 hl;clear hl
 have HCALL := hZ0 hf;clear hf
 obtain ⟨r,hr⟩ : ∃ r,idxW p l 0 = r := ⟨_,rfl⟩
 rw [hr]
 have HR := hZ0 hr;clear hr
 go_enter Tryz.func223,Tryz.ntmps223
 go_wp2_with fail
 go_loopw [5,8] (fun v5 v8 wr => ∃ i : Nat,i <= l.length /\ v8 = .int .i64 i /\ r = idxW p (l.drop i) i /\ Kept NoF w wr) (fun _ v8 _ => l.length - (intOf v8).toNat)
 case atStart => exact ⟨0,Nat.zero_le _,rfl,HR.out.symm,Kept.refl _ _⟩
 case round =>
  obtain ⟨i,hi,rfl,hrr,hk⟩ := hrel
  have HK := hZ0 hk;clear hk
  by_cases hil : i < l.length
  ·obtain ⟨x,hx⟩ : ∃ x,l[i]? = some x := ⟨_,List.getElem?_eq_getElem hil⟩
   have hsa := idxW_at p hx
   obtain ⟨ad,rfl,hl1,x0,x1,x2⟩ := pin_cells (HL.out.kept HK.out (fun _ _ x => x)) (by omega) i x hx
   have hcall := HCALL.out wr x HK.out (List.mem_of_getElem? hx)
   rw [hsa] at hrr
   obtain ⟨t,ht⟩ : ∃ t,p x = t := ⟨_,rfl⟩
   rw [ht] at hcall hrr
   clear hsa ht hx
   have HC := hZ0 hcall;clear hcall
   have HRR := hZ0 hrr;clear hrr
   go_wp2_with fail
   refine HC.out.mono ?_
   rintro e w5 ⟨rfl,hk0⟩
   have HK5 := hZ0 (HK.out.then hk0);clear hk0
   cases t
   ·have hrf := HRR.out
    rw [if_neg (by simp)] at hrf
    have HRF := hZ0 hrf;clear hrf HRR
    go_wp2
    go_roundw
    case rel => exact ⟨i + 1,by omega,by go_num,HRF.out,HK5.out⟩
    case measure => simp [intOf];omega
   ·have hrf := HRR.out
    rw [if_pos rfl] at hrf
    have HRF := hZ0 hrf;clear hrf HRR
    go_wp2
    go_ret
    exact ⟨by rw [HRF.out];rfl,HK5.out⟩
  ·obtain rfl : i = l.length := by omega
   rw [List.drop_length,idxW] at hrr
   have HRR := hZ0 hrr;clear hrr
   go_wp2
   go_ret
   exact ⟨by rw [HRR.out];rfl,HK.out⟩
theorem hasPin_any (w : World) (A : Option Addr) (c : Nat) (l : List PinR) (g : Nat) (cap : Value) (p : PinR -> Bool) (eg : ∀ args w,(callFunc g args).run Tryz.prog w = .ok (.enter g args) w) (hl : Src w 3 A l.length (pcells l)) (hlen : l.length <= 1000000)
  (hf : ∀ W x,Kept NoF w W -> x ∈ l -> Calls Tryz.prog g #[pagg x,cap] W fun e W' => e = .returned (.bool (p x)) /\ Kept NoF W W') :
  Calls Tryz.prog 165 #[.slice A l.length c,.func (.func g) #[] #[cap]] w fun r w' => r = .returned (.bool (l.any p)) /\ Kept NoF w w' := by
 have hi := idxPin_any w A c l g cap p eg hl hlen hf
 have ha := idxW_any p l 0
 obtain ⟨k,hk⟩ : ∃ k,idxW p l 0 = k := ⟨_,rfl⟩
 rw [hk] at hi ha
 rw [<- ha]
 have HI := hZ0 hi;clear hi hk hf hl ha eg
 go_enter Tryz.func165,Tryz.ntmps165
 go_wp2_with fail
 refine HI.out.mono ?_
 rintro e w2 ⟨rfl,hk⟩
 have HK := hZ0 hk;clear hk
 go_wp2
 go_ret
 exact ⟨by simp,HK.out⟩
def firstE (f : Nat -> Int -> Int) : List Int -> Nat -> Int
 | [],_ => 0
 | x :: l,i => if f i x = 0 then firstE f l (i + 1) else f i x
theorem firstE_at (f : Nat -> Int -> Int) {l : List Int} {i : Nat} {x : Int} (h : l[i]? = some x) : firstE f (l.drop i) i = if f i x = 0 then firstE f (l.drop (i + 1)) (i + 1) else f i x := by
 obtain ⟨hi,rfl⟩ := List.getElem?_eq_some_iff.1 h
 rw [List.drop_eq_getElem_cons hi,firstE]
theorem each_any (w : World) (A : Option Addr) (c : Nat) (l : List Int) (g : Nat) (caps : Array Value) (f : Nat -> Int -> Int) (eg : ∀ args w,(callFunc g args).run Tryz.prog w = .ok (.enter g args) w) (hl : Src w 1 A l.length (ints l)) (hlen : l.length <= 1000000)
  (hf : ∀ W i x,Kept NoF w W -> l[i]? = some x -> Calls Tryz.prog g (#[.int .i64 i,.int .i64 x] ++ caps) W fun e W' => e = .returned (.int .i64 (f i x)) /\ Kept NoF W W') :
  Calls Tryz.prog 183 #[.slice A l.length c,.func (.func g) #[] caps] w fun r w' => r = .returned (.int .i64 (firstE f l 0)) /\ Kept NoF w w' := by
 have HL := hZ0 hl;clear hl
 have HCALL := hZ0 hf;clear hf
 obtain ⟨r,hr⟩ : ∃ r,firstE f l 0 = r := ⟨_,rfl⟩
 rw [hr]
 have HR := hZ0 hr;clear hr
 go_enter Tryz.func183,Tryz.ntmps183
 go_wp2_with fail
 go_loopw [5,6,7,10] (fun v5 v6 v7 v10 wr => ∃ i : Nat,i <= l.length /\ v10 = .int .i64 i /\ r = firstE f (l.drop i) i /\ Kept NoF w wr) (fun _ _ _ v10 _ => l.length - (intOf v10).toNat)
 case atStart => exact ⟨0,Nat.zero_le _,rfl,HR.out.symm,Kept.refl _ _⟩
 case round =>
  obtain ⟨i,hi,rfl,hrr,hk⟩ := hrel
  have HK := hZ0 hk;clear hk
  by_cases hil : i < l.length
  ·obtain ⟨x,hx⟩ : ∃ x,l[i]? = some x := ⟨_,List.getElem?_eq_getElem hil⟩
   have hsa := firstE_at f hx
   obtain ⟨ad,rfl,hl1,x0⟩ := int_cells (HL.out.kept HK.out (fun _ _ x => x)) (by omega) i x hx
   have hcall := HCALL.out wr i x HK.out hx
   rw [hsa] at hrr
   obtain ⟨t,ht⟩ : ∃ t,f i x = t := ⟨_,rfl⟩
   rw [ht] at hcall hrr
   clear hsa ht hx
   have HC := hZ0 hcall;clear hcall
   have HRR := hZ0 hrr;clear hrr
   go_wp2_with fail
   refine HC.out.mono ?_
   rintro e w5 ⟨rfl,hk0⟩
   have HK5 := hZ0 (HK.out.then hk0);clear hk0
   by_cases ht0 : t = 0
   ·have hrf := HRR.out
    rw [if_pos ht0] at hrf
    have HRF := hZ0 hrf;clear hrf HRR
    have ht1 : (t != 0) = false := by simp [ht0]
    clear ht0
    go_wp2
    go_roundw
    case rel => exact ⟨i + 1,by omega,by go_num,HRF.out,HK5.out⟩
    case measure => simp [intOf];omega
   ·have hrf := HRR.out
    rw [if_neg ht0] at hrf
    have HRF := hZ0 hrf;clear hrf HRR
    have ht1 : (t != 0) = true := by simpa using ht0
    clear ht0
    go_wp2
    go_ret
    exact ⟨by rw [HRF.out];rfl,HK5.out⟩
  ·obtain rfl : i = l.length := by omega
   rw [List.drop_length,firstE] at hrr
   have HRR := hZ0 hrr;clear hrr
   go_wp2
   go_ret
   exact ⟨by rw [HRR.out];rfl,HK.out⟩
end Mst
namespace Mst
open Plan
def rngE (x : Int) : Int := if x < 0 \/ 1073741824 < x then 5 else 0
def rngL (l : List Int) : Int := firstE (fun _ x => rngE x) l 0
theorem range01_any (w : World) (i x : Int) : Calls Tryz.prog 185 #[.int .i64 i,.int .i64 x] w fun e w' => e = .returned (.int .i64 (rngE x)) /\ Kept NoF w w' := by
 obtain ⟨r,hr⟩ : ∃ r,rngE x = r := ⟨_,rfl⟩
 rw [hr]
 have HR := hZ0 hr;clear hr
 by_cases h1 : x < 0
 ·go_enter Tryz.func185,Tryz.ntmps185
  go_wp2
  go_ret
  exact ⟨by rw [<- HR.out,rngE,if_pos (.inl h1)];rfl,by (repeat' (first | (with_reducible first | exact kR0 | apply kP0 | apply kN0 | apply kD0 | apply kA0) | (right;simp;done)))⟩
 by_cases h2 : 1073741824 < x
 ·go_enter Tryz.func185,Tryz.ntmps185
  go_wp2
  go_ret
  exact ⟨by rw [<- HR.out,rngE,if_pos (.inr h2)];rfl,by (repeat' (first | (with_reducible first | exact kR0 | apply kP0 | apply kN0 | apply kD0 | apply kA0) | (right;simp;done)))⟩
 go_enter Tryz.func185,Tryz.ntmps185
 go_wp2
 go_ret
 exact ⟨by rw [<- HR.out,rngE,if_neg (by omega)];rfl,by (repeat' (first | (with_reducible first | exact kR0 | apply kP0 | apply kN0 | apply kD0 | apply kA0) | (right;simp;done)))⟩
theorem range0_any (w : World) (A : Option Addr) (c : Nat) (l : List Int) (hl : Src w 1 A l.length (ints l)) (hlen : l.length <= 1000000) :
  Calls Tryz.prog 125 #[.slice A l.length c] w fun e w' => e = .returned (.int .i64 (rngL l)) /\ Kept NoF w w' := by
 have h := each_any w A c l 185 #[] (fun _ x => rngE x) (fun args W => enters Tryz.func185 (by kernel_rfl) rfl args W) hl hlen (fun W i x _ _ => range01_any W i x)
 have hr : firstE (fun _ x => rngE x) l 0 = rngL l := rfl
 rw [hr] at h
 obtain ⟨r,hr⟩ : ∃ r,rngL l = r := ⟨_,rfl⟩
 rw [hr] at h ⊢
 have H := hZ0 h;clear h hr hl
 go_enter Tryz.func125,Tryz.ntmps125
 go_wp2_with fail
 refine H.out.mono ?_
 rintro e w2 ⟨rfl,hk⟩
 have HK := hZ0 hk;clear hk
 go_wp2
 go_ret
 exact ⟨rfl,HK.out⟩
def legF (l : List Int) (i : Nat) (x : Int) : Int := if x < 0 \/ 4 <= x then 1 else if 0 < i /\ x <= l.getD (i - 1) 0 then 18 else 0
def legE (l : List Int) : Int := if 4 < l.length then 6 else firstE (legF l) l 0
theorem legit1_any (w : World) (A : Option Addr) (c : Nat) (l : List Int) (b i : Nat) (x : Int) (hb : Has w b 110 #[.slice A l.length c]) (hl : Src w 1 A l.length (ints l)) (hlen : l.length <= 1000000) (hx : l[i]? = some x) :
  Calls Tryz.prog 184 #[.int .i64 i,.int .i64 x,.pointer (some ⟨b,0,none⟩)] w fun e w' => e = .returned (.int .i64 (legF l i x)) /\ Kept NoF w w' := by
 have c0 := hb.cell 0
 simp only [List.getElem?_toArray,List.getElem?_cons_zero] at c0
 clear hb
 have hi : i < l.length := (List.getElem?_eq_some_iff.1 hx).1
 clear hx
 obtain ⟨r,hr⟩ : ∃ r,legF l i x = r := ⟨_,rfl⟩
 rw [hr]
 have HR := hZ0 hr;clear hr
 by_cases h1 : x < 0
 ·clear hl c0
  go_enter Tryz.func184,Tryz.ntmps184
  go_wp2
  go_ret
  exact ⟨by rw [<- HR.out,legF,if_pos (.inl h1)];rfl,by (repeat' (first | (with_reducible first | exact kR0 | apply kP0 | apply kN0 | apply kD0 | apply kA0) | (right;simp;done)))⟩
 by_cases h2 : 4 <= x
 ·clear hl c0
  go_enter Tryz.func184,Tryz.ntmps184
  go_wp2
  go_ret
  exact ⟨by rw [<- HR.out,legF,if_pos (.inr h2)];rfl,by (repeat' (first | (with_reducible first | exact kR0 | apply kP0 | apply kN0 | apply kD0 | apply kA0) | (right;simp;done)))⟩
 by_cases h3 : i = 0
 ·subst h3
  clear hl
  go_enter Tryz.func184,Tryz.ntmps184
  go_wp2
  go_ret
  exact ⟨by rw [<- HR.out,legF,if_neg (by omega),if_neg (by omega)];rfl,by (repeat' (first | (with_reducible first | exact kR0 | apply kP0 | apply kN0 | apply kD0 | apply kA0) | (right;simp;done)))⟩
 obtain ⟨y,hy⟩ : ∃ y,l[i - 1]? = some y := ⟨_,List.getElem?_eq_getElem (by omega)⟩
 have hg : l.getD (i - 1) 0 = y := by rw [List.getD_eq_getElem?_getD,hy];rfl
 have HG := hZ0 hg;clear hg
 obtain ⟨ad,rfl,had,e0⟩ := int_cells hl (by omega) (i - 1) y hy
 obtain ⟨k,rfl⟩ : ∃ k,i = k + 1 := ⟨i - 1,by omega⟩
 rw [Nat.add_sub_cancel] at e0
 have hw : IntKind.i64.wrap ((k : Int) + 1 - 1) = k := by rw [Int.add_sub_cancel];exact IntWalk.i64_in _ (by omega)
 clear hl hy
 by_cases h4 : x <= y
 ·go_enter Tryz.func184,Tryz.ntmps184
  go_wp2
  go_ret
  exact ⟨by rw [<- HR.out,legF,if_neg (by omega),if_pos (by rw [HG.out];omega)];rfl,by (repeat' (first | (with_reducible first | exact kR0 | apply kP0 | apply kN0 | apply kD0 | apply kA0) | (right;simp;done)))⟩
 ·go_enter Tryz.func184,Tryz.ntmps184
  go_wp2
  go_ret
  exact ⟨by rw [<- HR.out,legF,if_neg (by omega),if_neg (by rw [HG.out];omega)];rfl,by (repeat' (first | (with_reducible first | exact kR0 | apply kP0 | apply kN0 | apply kD0 | apply kA0) | (right;simp;done)))⟩
theorem legit_any (w : World) (A : Option Addr) (c : Nat) (l : List Int) (hl : Src w 1 A l.length (ints l)) (hlen : l.length <= 1000000) :
  Calls Tryz.prog 124 #[.slice A l.length c] w fun e w' => e = .returned (.int .i64 (legE l)) /\ Kept NoF w w' := by
 obtain ⟨r,hr⟩ : ∃ r,legE l = r := ⟨_,rfl⟩
 rw [hr]
 have HR := hZ0 hr;clear hr
 by_cases h1 : 4 < l.length
 ·clear hl
  go_enter Tryz.func124,Tryz.ntmps124
  go_wp2
  go_ret
  exact ⟨by rw [<- HR.out,legE,if_pos h1];rfl,by (repeat' (first | (with_reducible first | exact kR0 | apply kP0 | apply kN0 | apply kD0 | apply kA0) | (right;simp;done)))⟩
 have hb := Has.new w 110 #[.slice A l.length c]
 have hk1 : Kept NoF w (w.alloc (.cells #[.slice A l.length c] 110)) := by (repeat' (first | (with_reducible first | exact kR0 | apply kP0 | apply kN0 | apply kD0 | apply kA0) | (right;simp;done)))
 have h := each_any (w.alloc (.cells #[.slice A l.length c] 110)) A c l 184 #[.pointer (some ⟨w.heap.size,0,none⟩)] (legF l) (fun args W => enters Tryz.func184 (by kernel_rfl) rfl args W) (hl.kept hk1 (fun _ _ z => z)) hlen
  (fun W i x hW hx => legit1_any W A c l w.heap.size i x (hb.kept hW (fun z => z)) (hl.kept (hk1.then hW) (fun _ _ z => z)) hlen hx)
 have hr2 : firstE (legF l) l 0 = r := by rw [<- HR.out,legE,if_neg h1]
 rw [hr2] at h
 have H := hZ0 h;clear h hr2 hb hk1 hl HR
 go_enter Tryz.func124,Tryz.ntmps124
 go_wp2_with fail
 refine H.out.mono ?_
 rintro e w2 ⟨rfl,hk⟩
 have hk2 := Kept.then (F := NoF) (a := w) (by (repeat' (first | (with_reducible first | exact kR0 | apply kP0 | apply kN0 | apply kD0 | apply kA0) | (right;simp;done)))) hk
 have HK := hZ0 hk2;clear hk hk2
 go_wp2
 go_ret
 exact ⟨rfl,HK.out⟩
structure AnsR where
 cl : Int
 req : Int
 e : Int
 pin : Int
deriving DecidableEq
abbrev ansagg (a : AnsR) : Value := .agg #[.int .i64 a.cl,.int .i64 a.req,.int .i64 a.e,.int .i64 a.pin]
def saidE (a : AnsR) : Int := if a.cl < 0 \/ 3 <= a.cl then 1 else if rngL [a.req,a.pin] ≠ 0 then rngL [a.req,a.pin] else if a.e < 0 \/ 21 < a.e then 1 else 0
end Mst
end Go.Proofs.YtgffjliedjhbaaaGreat
