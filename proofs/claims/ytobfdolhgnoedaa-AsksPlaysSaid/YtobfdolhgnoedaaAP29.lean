/- Part 30 of what the proof needs. -/
import Derived.Test.YtobfdolhgnoedaaAP03
import Derived.Test.YtobfdolhgnoedaaAP04
import Derived.Test.YtobfdolhgnoedaaAP05
import Derived.Deep.RegionHeld3
import Derived.ChangeKeysEq
import Derived.WalkKit
import Derived.WalkSpells
import Derived.WalkLawsBesides
import Derived.Lib.Hide
set_option linter.unusedSimpArgs false
set_option linter.unusedVariables false
set_option maxHeartbeats 32000000
set_option maxRecDepth 100000
namespace Go.Proofs.Ytobfdolhgnoedaa
open Go.RowKit
set_option maxRecDepth 100000
namespace Ent
open Ops
def sameE (a b : EntR) : Bool := decide (a.ts = b.ts) && sameB (bat a) (bat b)
end Ent
namespace Ent
open Ops
abbrev earr (e : EntR) : Array Value := #[.int .i64 e.cl,.int .i64 e.req,.slice e.A e.ops.length e.c,.int .u64 e.ts]
theorem rsameE_any (w : World) (a b : EntR) (ha : EOk w a) (hb : EOk w b) (hla : a.ops.length <= 1000000) : Calls Try.prog 51 #[eagg a,eagg b] w fun r w' => r = .returned (.bool (sameE a b)) /\ Kept NoF w w' := by
 have hk0 : Kept NoF w ((w.alloc (.cells (earr a) 115)).alloc (.cells (earr b) 115)) := by (repeat' (first | (with_reducible first | exact kR0 | apply kP0 | apply kN0 | apply kD0 | apply kA0) | (right;simp;done)))
 have hs := rsame_any ((w.alloc (.cells (earr a) 115)).alloc (.cells (earr b) 115)) (bat a) (bat b) a.A b.A a.c b.c (ha.1.kept hk0 (fun _ _ x => x)) (hb.1.kept hk0 (fun _ _ x => x)) hla
 unfold sameE
 obtain ⟨sb,hsb⟩ : ∃ sb,sameB (bat a) (bat b) = sb := ⟨_,rfl⟩
 rw [hsb] at hs ⊢
 clear hsb ha hb hla
 obtain ⟨cl,req,A,c,l,ts⟩ := a
 obtain ⟨cl',req',A',c',l',ts'⟩ := b
 unfold bagg bat at hs
 dsimp only [eagg,earr] at *
 have HK := hZ0 hk0;clear hk0
 have HS := hZ0 hs;clear hs
 by_cases h : ts = ts'
 ·subst h
  simp only [decide_true,Bool.true_and]
  go_enter Try.func51,Try.ntmps51
  go_wp2_with fail
  refine HS.out.mono ?_
  rintro e w2 ⟨rfl,hk⟩
  have hk2 := HK.out.then hk
  have HK2 := hZ0 hk2;clear hk2 hk
  go_wp2
  go_ret
  exact ⟨rfl,HK2.out⟩
 ·have hq2 : (ts == ts') = false := by rw [beq_eq_false_iff_ne];exact h
  rw [decide_eq_false h,Bool.false_and]
  clear h HS
  go_enter Try.func51,Try.ntmps51
  go_wp2
  go_ret
  exact ⟨rfl,HK.out⟩
theorem LOk.at {w : World} {l : List EntR} (h : LOk w l) {i : Nat} {e : EntR} (he : l[i]? = some e) : EOk w e := h e (List.mem_of_getElem? he)
def sameAllB : List EntR -> List EntR -> Bool
 | [],[] => true
 | a :: l,b :: m => sameE a b && sameAllB l m
 | _,_ => false
theorem sameAllB_len {l m : List EntR} (h : l.length ≠ m.length) : sameAllB l m = false := by
 induction l generalizing m with
 | nil => cases m <;> simp_all [sameAllB]
 | cons a l ih =>
  cases m with
  | nil => rfl
  | cons b m => rw [sameAllB,ih (by simpa using h),Bool.and_false]
theorem sameAllB_at {l m : List EntR} {i : Nat} {a b : EntR} (ha : l[i]? = some a) (hb : m[i]? = some b) : sameAllB (l.drop i) (m.drop i) = (sameE a b && sameAllB (l.drop (i + 1)) (m.drop (i + 1))) := by
 obtain ⟨hi,rfl⟩ := List.getElem?_eq_some_iff.1 ha
 obtain ⟨hj,rfl⟩ := List.getElem?_eq_some_iff.1 hb
 rw [List.drop_eq_getElem_cons hi,List.drop_eq_getElem_cons hj,sameAllB]
theorem rsameAll_any (w : World) (A B : Option Addr) (c d : Nat) (l m : List EntR) (hl : Src w 4 A l.length (ecells l)) (hm : Src w 4 B m.length (ecells m)) (hlo : LOk w l) (hmo : LOk w m) (hlen : l.length <= 1000000) (hops : ∀ e ∈ l,e.ops.length <= 1000000) :
  Calls Try.prog 36 #[.slice A l.length c,.slice B m.length d] w fun e w' => e = .returned (.bool (sameAllB l m)) /\ Kept NoF w w' := by
 have HL := hZ0 (And.intro hl hlo);clear hl hlo
 have HM := hZ0 (And.intro hm hmo);clear hm hmo
 have HOPS := hZ0 hops;clear hops
 by_cases hne : l.length = m.length
 rotate_left
 ·rw [sameAllB_len hne]
  have hq : ((l.length : Int) != (m.length : Int)) = true := by simpa using fun e => hne (by omega)
  clear hne
  go_enter Try.func36,Try.ntmps36
  go_wp2
  go_ret
  exact ⟨rfl,Kept.refl _ _⟩
 obtain ⟨n,hn⟩ : ∃ n,l.length = n := ⟨_,rfl⟩
 rw [<- hne]
 rw [<- hne] at HM
 rw [hn] at HL HM hlen ⊢
 have HN := hZ0 (And.intro hn hne);clear hn hne
 obtain ⟨r,hr⟩ : ∃ r,sameAllB l m = r := ⟨_,rfl⟩
 rw [hr]
 have HR := hZ0 hr;clear hr
 go_enter Try.func36,Try.ntmps36
 go_wp2_with fail
 go_loopw [5] (fun v5 wr => ∃ i : Nat,i <= n /\ v5 = .int .i64 i /\ r = sameAllB (l.drop i) (m.drop i) /\ Kept NoF w wr) (fun v5 _ => n - (intOf v5).toNat)
 case atStart => exact ⟨0,Nat.zero_le _,rfl,HR.out.symm,Kept.refl _ _⟩
 case round =>
  obtain ⟨i,hi,rfl,hrr,hk⟩ := hrel
  have HK := hZ0 hk;clear hk
  have HRR := hZ0 hrr;clear hrr
  by_cases hil : i < n
  ·obtain ⟨a,ha⟩ : ∃ a,l[i]? = some a := ⟨_,List.getElem?_eq_getElem (by have := HN.out.1;omega)⟩
   obtain ⟨b,hb⟩ : ∃ b,m[i]? = some b := ⟨_,List.getElem?_eq_getElem (by have := HN.out;omega)⟩
   have hsa := sameAllB_at ha hb
   have hcell : ∀ W,Kept NoF w W -> ∃ ad bd,A = some ad /\ B = some bd /\ (W.cell? (ad.add (i * 4)) = some (.int .i64 a.cl) /\ W.cell? ⟨(ad.add (i * 4)).block,(ad.add (i * 4)).off + 1,none⟩ = some (.int .i64 a.req) /\
     W.cell? ⟨(ad.add (i * 4)).block,(ad.add (i * 4)).off + 2,none⟩ = some (.slice a.A a.ops.length a.c) /\ W.cell? ⟨(ad.add (i * 4)).block,(ad.add (i * 4)).off + 3,none⟩ = some (.int .u64 a.ts) /\
     W.cell? (bd.add (i * 4)) = some (.int .i64 b.cl) /\ W.cell? ⟨(bd.add (i * 4)).block,(bd.add (i * 4)).off + 1,none⟩ = some (.int .i64 b.req) /\
     W.cell? ⟨(bd.add (i * 4)).block,(bd.add (i * 4)).off + 2,none⟩ = some (.slice b.A b.ops.length b.c) /\ W.cell? ⟨(bd.add (i * 4)).block,(bd.add (i * 4)).off + 3,none⟩ = some (.int .u64 b.ts)) := by
    intro W hW
    obtain ⟨ad,e1,_,x0,x1,x2,x3⟩ := ent_cells (HL.out.1.kept hW (fun _ _ x => x)) (by omega) i a ha
    obtain ⟨bd,e2,_,y0,y1,y2,y3⟩ := ent_cells (HM.out.1.kept hW (fun _ _ x => x)) (by omega) i b hb
    exact ⟨ad,bd,e1,e2,x0,x1,x2,x3,y0,y1,y2,y3⟩
   obtain ⟨ad,bd,rfl,rfl,c0⟩ := hcell _ HK.out
   have hcell2 : ∀ W,Kept NoF w W -> (W.cell? (ad.add (i * 4)) = some (.int .i64 a.cl) /\ W.cell? ⟨(ad.add (i * 4)).block,(ad.add (i * 4)).off + 1,none⟩ = some (.int .i64 a.req) /\
     W.cell? ⟨(ad.add (i * 4)).block,(ad.add (i * 4)).off + 2,none⟩ = some (.slice a.A a.ops.length a.c) /\ W.cell? ⟨(ad.add (i * 4)).block,(ad.add (i * 4)).off + 3,none⟩ = some (.int .u64 a.ts) /\
     W.cell? (bd.add (i * 4)) = some (.int .i64 b.cl) /\ W.cell? ⟨(bd.add (i * 4)).block,(bd.add (i * 4)).off + 1,none⟩ = some (.int .i64 b.req) /\
     W.cell? ⟨(bd.add (i * 4)).block,(bd.add (i * 4)).off + 2,none⟩ = some (.slice b.A b.ops.length b.c) /\ W.cell? ⟨(bd.add (i * 4)).block,(bd.add (i * 4)).off + 3,none⟩ = some (.int .u64 b.ts)) := by
    intro W hW
    obtain ⟨ad',bd',e1,e2,h⟩ := hcell W hW
    injection e1 with e1
    injection e2 with e2
    subst e1
    subst e2
    exact h
   have hcall := fun W (hW : Kept NoF w W) => rsameE_any W a b ((HL.out.2.at ha).kept hW) ((HM.out.2.at hb).kept hW) (HOPS.out a (List.mem_of_getElem? ha))
   rw [hsa] at HRR
   obtain ⟨t,ht⟩ : ∃ t,sameE a b = t := ⟨_,rfl⟩
   rw [ht] at hcall HRR
   have i0 : (0 : Int) <= (i : Int) := by omega
   have i1 : (i : Int) < n := by omega
   have HC := hZ0 hcell2;clear hcell2 hcell hsa ht ha hb
   have HCALL := hZ0 hcall;clear hcall
   obtain ⟨cl,req,eA,ec,el,ts⟩ := a
   obtain ⟨cl',req',eA',ec',el',ts'⟩ := b
   dsimp only [eagg] at HC HCALL c0
   cases t
   ·have hrf : r = false := by rw [HRR.out];simp
    have HRF := hZ0 hrf;clear hrf HRR
    go_wp2_with fail
    go_region_held3 (fun W => W.cell? (ad.add (i * 4)) = some (.int .i64 cl) /\ W.cell? ⟨(ad.add (i * 4)).block,(ad.add (i * 4)).off + 1,none⟩ = some (.int .i64 req) /\
     W.cell? ⟨(ad.add (i * 4)).block,(ad.add (i * 4)).off + 2,none⟩ = some (.slice eA el.length ec) /\ W.cell? ⟨(ad.add (i * 4)).block,(ad.add (i * 4)).off + 3,none⟩ = some (.int .u64 ts) /\
     W.cell? (bd.add (i * 4)) = some (.int .i64 cl') /\ W.cell? ⟨(bd.add (i * 4)).block,(bd.add (i * 4)).off + 1,none⟩ = some (.int .i64 req') /\
     W.cell? ⟨(bd.add (i * 4)).block,(bd.add (i * 4)).off + 2,none⟩ = some (.slice eA' el'.length ec') /\ W.cell? ⟨(bd.add (i * 4)).block,(bd.add (i * 4)).off + 3,none⟩ = some (.int .u64 ts'))
     (first | with_reducible exact q | exact c0 | (simp [go_sem,c0];done))
     (first | (go_at_call 51;refine (HCALL.out _ (by (repeat' (first | (with_reducible first | exact kR0 | apply kP0 | apply kN0 | apply kD0 | apply kA0) | (exact HK.out) | (right;simp;done))))).mono ?_;rintro e w5 ⟨rfl,hk0⟩;have hk := Kept.then (F := NoF) (a := w) (by (repeat' (first | (with_reducible first | exact kR0 | apply kP0 | apply kN0 | apply kD0 | apply kA0) | (exact HK.out) | (right;simp;done)))) hk0;clear hk0;have q := HC.out _ hk;have HK5 := hZ0 hk;clear hk))
    go_wp2
    go_ret
    exact ⟨by rw [HRF.out];rfl,HK5.out⟩
   ·have hrf : r = sameAllB (l.drop (i + 1)) (m.drop (i + 1)) := by rw [HRR.out];simp
    have HRF := hZ0 hrf;clear hrf HRR
    go_wp2_with fail
    go_region_held3 (fun W => W.cell? (ad.add (i * 4)) = some (.int .i64 cl) /\ W.cell? ⟨(ad.add (i * 4)).block,(ad.add (i * 4)).off + 1,none⟩ = some (.int .i64 req) /\
     W.cell? ⟨(ad.add (i * 4)).block,(ad.add (i * 4)).off + 2,none⟩ = some (.slice eA el.length ec) /\ W.cell? ⟨(ad.add (i * 4)).block,(ad.add (i * 4)).off + 3,none⟩ = some (.int .u64 ts) /\
     W.cell? (bd.add (i * 4)) = some (.int .i64 cl') /\ W.cell? ⟨(bd.add (i * 4)).block,(bd.add (i * 4)).off + 1,none⟩ = some (.int .i64 req') /\
     W.cell? ⟨(bd.add (i * 4)).block,(bd.add (i * 4)).off + 2,none⟩ = some (.slice eA' el'.length ec') /\ W.cell? ⟨(bd.add (i * 4)).block,(bd.add (i * 4)).off + 3,none⟩ = some (.int .u64 ts'))
     (first | with_reducible exact q | exact c0 | (simp [go_sem,c0];done))
     (first | (go_at_call 51;refine (HCALL.out _ (by (repeat' (first | (with_reducible first | exact kR0 | apply kP0 | apply kN0 | apply kD0 | apply kA0) | (exact HK.out) | (right;simp;done))))).mono ?_;rintro e w5 ⟨rfl,hk0⟩;have hk := Kept.then (F := NoF) (a := w) (by (repeat' (first | (with_reducible first | exact kR0 | apply kP0 | apply kN0 | apply kD0 | apply kA0) | (exact HK.out) | (right;simp;done)))) hk0;clear hk0;have q := HC.out _ hk;have HK5 := hZ0 hk;clear hk))
    go_wp2
    go_roundw
    case rel => exact ⟨i + 1,by omega,by go_num,HRF.out,HK5.out⟩
    case measure => simp [intOf];omega
  ·obtain rfl : i = n := by omega
   have hrt : r = true := by
    rw [HRR.out,List.drop_of_length_le (by rw [HN.out.1];exact Nat.le_refl _),List.drop_of_length_le (by have := HN.out;omega)];rfl
   have HRT := hZ0 hrt;clear hrt
   go_wp2
   go_ret
   exact ⟨by rw [HRT.out];rfl,HK.out⟩
end Ent
namespace Ask
open Plan Ops Ent Msg
def Bare (m : MsgR) : Prop := (m.mA = none /\ m.mc = 0 /\ m.ms = []) /\ (m.eA = none /\ m.ec = 0 /\ m.es = []) /\ (m.sA = none /\ m.sc = 0 /\ m.ss = []) /\ m.pA = none /\ m.pc = 0 /\ m.ps = []
theorem rstamps_nil (w : World) : Calls Try.prog 37 #[.slice none 0 0,.slice none 0 0] w fun e w' => e = .returned (.bool true) /\ Kept NoF w w' := by
 go_enter Try.func37,Try.ntmps37
 go_wp2_with fail
 go_loopw [5] (fun v5 wr => v5 = .int .i64 0 /\ Kept NoF w wr) (fun _ _ => 0)
 case atStart => exact ⟨rfl,Kept.refl _ _⟩
 case round =>
  obtain ⟨rfl,hk⟩ := hrel
  have HK := hZ0 hk
  clear hk
  go_wp2
  go_ret
  exact ⟨rfl,HK.out⟩
theorem rsameM_any (w : World) (m : MsgR) (A B : Option Addr) (c d : Nat) (hm : Bare m) (ha : Src w 3 A m.ops.length (cells m.ops)) (hb : Src w 3 B m.ops.length (cells m.ops)) (hl : m.ops.length <= 1000) :
  Calls Try.prog 17 #[xagg { m with oA := A,oc := c },xagg { m with oA := B,oc := d }] w fun e w' => e = .returned (.bool true) /\ Kept NoF w w' := by
 obtain ⟨k,ep,req,ser,fl,at',last,n,m2,p,e,key,to,cep,mA,mc,ms,cfl,bcl,breq,oA,oc,ops,eA,ec,es,sA,sc,ss,pA,pc,ps⟩ := m
 obtain ⟨⟨rfl,rfl,rfl⟩,⟨rfl,rfl,rfl⟩,⟨rfl,rfl,rfl⟩,rfl,rfl,rfl⟩ := hm
 dsimp only at ha hb hl
 have hc1 := fun W => Plan.rsame_any W cep cfl cep cfl none none 0 0 [] [] (Src.nil _ _ _) (Src.nil _ _ _) (by simp) (by simp)
 have hc2 := fun W (hW : Kept NoF w W) => Ops.rsame_any W ⟨bcl,breq,ops⟩ ⟨bcl,breq,ops⟩ A B c d (ha.kept hW (fun _ _ z => z)) (hb.kept hW (fun _ _ z => z)) (by dsimp only;omega)
 have hc3 := fun W => Ent.rsameAll_any W none none 0 0 [] [] (Src.nil _ _ _) (Src.nil _ _ _) (fun _ h => by cases h) (fun _ h => by cases h) (by simp) (fun _ h => by cases h)
 have hc5 := fun W => Ops.rsamePairs_any W none none 0 0 [] [] (Src.nil _ _ _) (Src.nil _ _ _) (by simp)
 have e1 : (cep == cep && (cfl == cfl && eqL ([] : List Mem) [])) = true := by simp [eqL]
 have e2 : sameB ⟨bcl,breq,ops⟩ ⟨bcl,breq,ops⟩ = true := by unfold sameB;simp
 have e3 : sameAllB ([] : List EntR) [] = true := by unfold sameAllB;rfl
 have e5 : decide (([] : List PairR) = []) = true := by simp
 simp only [e1,e2,e3,e5] at hc1 hc2 hc3 hc5
 unfold cagg at hc1
 unfold bagg at hc2
 dsimp only [List.length_nil] at hc1 hc2 hc3 hc5
 obtain ⟨W0,hW0⟩ : ∃ W0,w.alloc (.cells (xcell ⟨k,ep,req,ser,fl,at',last,n,m2,p,e,key,to,cep,none,0,[],cfl,bcl,breq,A,c,ops,none,0,[],none,0,[],none,0,[]⟩).toArray 34) = W0 := ⟨_,rfl⟩
 have hk0 : Kept NoF w W0 := by rw [<- hW0];(repeat' (first | (with_reducible first | exact kR0 | apply kP0 | apply kN0 | apply kD0 | apply kA0) | (right;simp;done)))
 have hn0 : Has W0 w.heap.size 34 (xcell ⟨k,ep,req,ser,fl,at',last,n,m2,p,e,key,to,cep,none,0,[],cfl,bcl,breq,A,c,ops,none,0,[],none,0,[],none,0,[]⟩).toArray := by rw [<- hW0];exact Has.new _ _ _
 obtain ⟨W1,hW1⟩ : ∃ W1,W0.alloc (.cells (xcell ⟨k,ep,req,ser,fl,at',last,n,m2,p,e,key,to,cep,none,0,[],cfl,bcl,breq,B,d,ops,none,0,[],none,0,[],none,0,[]⟩).toArray 34) = W1 := ⟨_,rfl⟩
 have hk1 : Kept NoF W0 W1 := by rw [<- hW1];(repeat' (first | (with_reducible first | exact kR0 | apply kP0 | apply kN0 | apply kD0 | apply kA0) | (right;simp;done)))
 have hn1 : Has W1 W0.heap.size 34 (xcell ⟨k,ep,req,ser,fl,at',last,n,m2,p,e,key,to,cep,none,0,[],cfl,bcl,breq,B,d,ops,none,0,[],none,0,[],none,0,[]⟩).toArray := by rw [<- hW1];exact Has.new _ _ _
 have hn01 := hn0.kept hk1 (fun z => z)
 have hcs : ∀ W,Kept NoF W1 W -> (W.cell? ⟨w.heap.size,15,none⟩ = some (.int .u64 cfl) /\ W.cell? ⟨w.heap.size,16,none⟩ = some (.int .i64 bcl) /\ W.cell? ⟨w.heap.size,17,none⟩ = some (.int .i64 breq) /\ W.cell? ⟨w.heap.size,18,none⟩ = some (.slice A ops.length c) /\ W.cell? ⟨w.heap.size,19,none⟩ = some (.slice none 0 0) /\ W.cell? ⟨w.heap.size,20,none⟩ = some (.slice none 0 0) /\ W.cell? ⟨w.heap.size,21,none⟩ = some (.slice none 0 0)) /\
   (W.cell? ⟨W0.heap.size,16,none⟩ = some (.int .i64 bcl) /\ W.cell? ⟨W0.heap.size,17,none⟩ = some (.int .i64 breq) /\ W.cell? ⟨W0.heap.size,18,none⟩ = some (.slice B ops.length d) /\ W.cell? ⟨W0.heap.size,19,none⟩ = some (.slice none 0 0) /\ W.cell? ⟨W0.heap.size,20,none⟩ = some (.slice none 0 0) /\ W.cell? ⟨W0.heap.size,21,none⟩ = some (.slice none 0 0)) := fun W hW => by
  have g := hn01.kept hW (fun z => z)
  have f := hn1.kept hW (fun z => z)
  exact ⟨⟨g.cell 15,g.cell 16,g.cell 17,g.cell 18,g.cell 19,g.cell 20,g.cell 21⟩,f.cell 16,f.cell 17,f.cell 18,f.cell 19,f.cell 20,f.cell 21⟩
 have hx0 := hn01.cell 0;have hx1 := hn01.cell 1;have hx2 := hn01.cell 2;have hx3 := hn01.cell 3;have hx4 := hn01.cell 4;have hx5 := hn01.cell 5;have hx6 := hn01.cell 6;have hx7 := hn01.cell 7;have hx8 := hn01.cell 8;have hx9 := hn01.cell 9;have hx10 := hn01.cell 10;have hx11 := hn01.cell 11;have hx12 := hn01.cell 12;have hx13 := hn01.cell 13;have hx14 := hn01.cell 14;have hx15 := hn01.cell 15
 have hy0 := hn1.cell 0;have hy1 := hn1.cell 1;have hy2 := hn1.cell 2;have hy3 := hn1.cell 3;have hy4 := hn1.cell 4;have hy5 := hn1.cell 5;have hy6 := hn1.cell 6;have hy7 := hn1.cell 7;have hy8 := hn1.cell 8;have hy9 := hn1.cell 9;have hy10 := hn1.cell 10;have hy11 := hn1.cell 11;have hy12 := hn1.cell 12;have hy13 := hn1.cell 13;have hy14 := hn1.cell 14;have hy15 := hn1.cell 15
 simp [xcell] at hx0 hx1 hx2 hx3 hx4 hx5 hx6 hx7 hx8 hx9 hx10 hx11 hx12 hx13 hx14 hx15 hy0 hy1 hy2 hy3 hy4 hy5 hy6 hy7 hy8 hy9 hy10 hy11 hy12 hy13 hy14 hy15
 have HC1 := hZ0 hc1;have HC2 := hZ0 hc2;have HC3 := hZ0 hc3;have HC5 := hZ0 hc5;have HCS := hZ0 hcs;have HK1 := hZ0 (hk0.then hk1)
 have ek : (key.toList == key.toList) = true := by simp
 have et : (to.toList == to.toList) = true := by simp
 have i0 : (k == k) = true := by simp
 have i1 : (ep == ep) = true := by simp
 have i2 : (req == req) = true := by simp
 have i3 : (ser == ser) = true := by simp
 have i4 : (fl == fl) = true := by simp
 have i5 : (at' == at') = true := by simp
 have i6 : (last == last) = true := by simp
 have i7 : (n == n) = true := by simp
 have i8 : (m2 == m2) = true := by simp
 have i9 : (p == p) = true := by simp
 have i10 : (e == e) = true := by simp
 unfold xcell at hW0 hW1
 unfold xagg xcell
 dsimp only [List.length_nil] at hW0 hW1 ⊢
 clear hc1 hc2 hc3 hc5 hcs hk0 hk1 hn0 hn1 hn01 ha hb hl e1 e2 e3 e5
 go_enter Try.func17,Try.ntmps17
 go_wp2_with fail
 refine (HC1.out _).mono ?_
 rintro e2 w2 ⟨rfl,hk2⟩
 obtain ⟨⟨g15,g16,g17,g18,g19,g20,g21⟩,f16,f17,f18,f19,f20,f21⟩ := HCS.out _ hk2
 have HK2 := hZ0 hk2
 clear hW0 hW1 hk2 hx0 hx1 hx2 hx3 hx4 hx5 hx6 hx7 hx8 hx9 hx10 hx11 hx12 hx13 hx14 hx15 hy0 hy1 hy2 hy3 hy4 hy5 hy6 hy7 hy8 hy9 hy10 hy11 hy12 hy13 hy14 hy15
 go_wp2_with fail
 refine (HC2.out _ (HK1.out.then HK2.out)).mono ?_
 rintro e3 w3 ⟨rfl,hk3⟩
 have HK3 := hZ0 (HK2.out.then hk3)
 clear hk3 g15 g16 g17 g18 g19 g20 g21 f16 f17 f18 f19 f20 f21
 obtain ⟨⟨g15,g16,g17,g18,g19,g20,g21⟩,f16,f17,f18,f19,f20,f21⟩ := HCS.out _ HK3.out
 go_wp2_with fail
 refine (HC3.out _).mono ?_
 rintro e4 w4 ⟨rfl,hk4⟩
 have HK4 := hZ0 (HK3.out.then hk4)
 clear hk4 g15 g16 g17 g18 g19 g20 g21 f16 f17 f18 f19 f20 f21
 obtain ⟨⟨g15,g16,g17,g18,g19,g20,g21⟩,f16,f17,f18,f19,f20,f21⟩ := HCS.out _ HK4.out
 go_wp2_with fail
 refine (rstamps_nil _).mono ?_
 rintro e5 w5 ⟨rfl,hk5⟩
 have HK5 := hZ0 (HK4.out.then hk5)
 clear hk5 g15 g16 g17 g18 g19 g20 g21 f16 f17 f18 f19 f20 f21
 obtain ⟨⟨g15,g16,g17,g18,g19,g20,g21⟩,f16,f17,f18,f19,f20,f21⟩ := HCS.out _ HK5.out
 go_wp2_with fail
 refine (HC5.out _).mono ?_
 rintro e6 w6 ⟨rfl,hk6⟩
 have HK6 := hZ0 (HK1.out.then (HK5.out.then hk6))
 clear hk6 g15 g16 g17 g18 g19 g20 g21 f16 f17 f18 f19 f20 f21
 go_wp2
 go_ret
 exact ⟨rfl,HK6.out⟩
end Ask
end Go.Proofs.Ytobfdolhgnoedaa
