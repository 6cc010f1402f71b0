/- Part 5 of what the proof needs. -/
import Derived.Test.YtgffjliedjhbaaaGreatZS03
import Derived.Deep.RegionHeld3
import Derived.ChangeKeysEq
import Derived.StillTailTactics
import Derived.WalkSpells
set_option linter.unusedSimpArgs false
set_option linter.unusedVariables false
set_option maxHeartbeats 32000000
set_option maxRecDepth 100000
namespace Go.Proofs.YtgffjliedjhbaaaGreat
open Go.RowKit
set_option maxRecDepth 100000
namespace Ent
open Ops
def stampL : List EntR -> Nat
 | [] => 0
 | e :: l => if e.ts = 0 then 0 else stampL l + 1
theorem stampL_le (l : List EntR) : stampL l <= l.length := by
 induction l with
 | nil => exact Nat.le_refl _
 | cons e l ih =>
  unfold stampL
  split
  ·exact Nat.zero_le _
  ·simp;exact ih
theorem stampL_at {l : List EntR} {i : Nat} {e : EntR} (h : l[i]? = some e) : stampL (l.drop i) = if e.ts = 0 then 0 else stampL (l.drop (i + 1)) + 1 := by
 obtain ⟨hi,rfl⟩ := List.getElem?_eq_some_iff.1 h
 rw [List.drop_eq_getElem_cons hi,stampL]
theorem stamped_any (w : World) (A : Option Addr) (c : Nat) (l : List EntR) (hl : Src w 4 A l.length (ecells l)) (hz : l.length <= 1000000000000) :
  Calls Tryz.prog 47 #[.slice A l.length c] w fun e w' => e = .returned (.int .i64 (stampL l)) /\ Kept NoF w w' := by
 have HL := hZ0 hl;clear hl
 go_enter Tryz.func47,Tryz.ntmps47
 go_wp2_with fail
 go_loopw [7] (fun v7 wr => ∃ i : Nat,i <= l.length /\ v7 = .int .i64 i /\ stampL l = i + stampL (l.drop i) /\ Kept NoF w wr) (fun v7 _ => l.length - (intOf v7).toNat)
 case atStart => exact ⟨0,Nat.zero_le _,rfl,by simp,Kept.refl _ _⟩
 case round =>
  obtain ⟨i,hi,rfl,hs,hk⟩ := hrel
  have HK := hZ0 hk;clear hk
  by_cases hil : i < l.length
  ·obtain ⟨e,he⟩ : ∃ e,l[i]? = some e := ⟨_,List.getElem?_eq_getElem hil⟩
   obtain ⟨ad,rfl,had,e0,e1,e2,e3⟩ := ent_cells (HL.out.kept HK.out (fun _ _ x => x)) (by omega) i e he
   have hd := stampL_at he
   clear he
   by_cases ht : e.ts = 0
   ·rw [if_pos ht] at hd
    rw [hd] at hs
    have HS := hZ0 hs;clear hs hd
    rw [ht] at e3
    clear ht
    go_wp2
    go_ret
    exact ⟨by rw [HS.out];rfl,HK.out.alloc _⟩
   ·rw [if_neg ht] at hd
    rw [hd] at hs
    have HS := hZ0 hs;clear hs hd
    have hq : (e.ts == 0) = false := by rw [beq_eq_false_iff_ne];exact ht
    clear ht
    go_wp2
    go_roundw
    case rel => exact ⟨i + 1,by omega,by go_num,by rw [HS.out];omega,HK.out.alloc _⟩
    case measure => simp [intOf];omega
  ·obtain rfl : i = l.length := by omega
   rw [List.drop_length,stampL] at hs
   have HS := hZ0 hs;clear hs
   go_wp2
   go_ret
   exact ⟨by rw [HS.out];rfl,HK.out⟩
def twinB (a b : EntR) : Bool := decide (a.cl = b.cl) && decide (a.req = b.req)
def alikeB (a b : EntR) : Bool := twinB a b && decide (a.ts = b.ts)
theorem run_eql_who (a b c d : Int) (W : World) : (binOp .eql 191 (.agg #[.int .i64 a,.int .i64 b]) (.agg #[.int .i64 c,.int .i64 d])).run Tryz.prog W = .ok (.bool (decide (a = c) && decide (b = d))) W := by
 obtain ⟨i0,hi,hz0,hz1,hz2⟩ := info_parts (show (Tryz.prog.info? 3).map (fun i => (i.zero,i.size,i.bytes)) = some (some (.int .i64 0),1,8) by kernel_rfl)
 have e1 : Tryz.prog.cellsOf 3 = 1 := by kernel_rfl
 have he := fun xs ys => run_equalIn_array (P := Tryz.prog) (w := W) 9999 xs ys Tryz.underlying191 hi
 rw [e1] at he
 have hr : List.range 2 = [0,1] := rfl
 rw [hr] at he
 have h2 : ∀ xs ys,(Op.equalIn 10000 191 (.agg xs) (.agg ys)).run Tryz.prog W = (Op.eqItems 9999 3 1 xs ys [0,1]).run Tryz.prog W := fun xs ys => he xs ys
 by_cases h1 : a = c <;> by_cases h3 : b = d <;> simp [go_sem,h2,h1,h3,Op.eqItems,part]
theorem of_any (w : World) (e : EntR) : Calls Tryz.prog 98 #[eagg e] w fun r w' => r = .returned (.agg #[.int .i64 e.cl,.int .i64 e.req]) /\ Kept NoF w w' := by
 obtain ⟨cl,req,A,c,l,ts⟩ := e
 unfold eagg
 dsimp only
 go_enter Tryz.func98,Tryz.ntmps98
 go_wp2
 refine bodyPost_ret (v := .agg #[.int .i64 cl,.int .i64 req]) (by simp [results,Tryz.results98,go_sem]) rfl ⟨rfl,by (repeat' (first | (with_reducible first | exact kR0 | apply kP0 | apply kN0 | apply kD0 | apply kA0) | (right;simp;done)))⟩
end Ent
namespace Ent
open Ops
abbrev earr (e : EntR) : Array Value := #[.int .i64 e.cl,.int .i64 e.req,.slice e.A e.ops.length e.c,.int .u64 e.ts]
theorem twins_any (w : World) (a b : EntR) : Calls Tryz.prog 58 #[eagg a,eagg b] w fun r w' => r = .returned (.bool (twinB a b)) /\ Kept NoF w w' := by
 have hb0 : ∀ W,Kept NoF ((w.alloc (.cells (earr a) 72)).alloc (.cells (earr b) 72)) W -> (W.cell? ⟨w.heap.size,0,none⟩ = some (.int .i64 a.cl) /\ W.cell? ⟨w.heap.size,1,none⟩ = some (.int .i64 a.req) /\ W.cell? ⟨w.heap.size,2,none⟩ = some (.slice a.A a.ops.length a.c) /\ W.cell? ⟨w.heap.size,3,none⟩ = some (.int .u64 a.ts) /\
   W.cell? ⟨w.heap.size + 1,0,none⟩ = some (.int .i64 b.cl) /\ W.cell? ⟨w.heap.size + 1,1,none⟩ = some (.int .i64 b.req) /\ W.cell? ⟨w.heap.size + 1,2,none⟩ = some (.slice b.A b.ops.length b.c) /\ W.cell? ⟨w.heap.size + 1,3,none⟩ = some (.int .u64 b.ts)) := by
  intro W hW
  have h1 : Has W w.heap.size 72 (earr a) := ((Has.new w 72 (earr a)).alloc (.cells (earr b) 72)).kept hW (fun x => x)
  have h2 : Has W (w.heap.size + 1) 72 (earr b) := (Has.new_at (w.alloc (.cells (earr a) 72)) 72 (earr b) (by simp)).kept hW (fun x => x)
  exact ⟨h1.cell 0,h1.cell 1,h1.cell 2,h1.cell 3,h2.cell 0,h2.cell 1,h2.cell 2,h2.cell 3⟩
 have hk0 : Kept NoF w ((w.alloc (.cells (earr a) 72)).alloc (.cells (earr b) 72)) := by (repeat' (first | (with_reducible first | exact kR0 | apply kP0 | apply kN0 | apply kD0 | apply kA0) | (right;simp;done)))
 have ho1 := fun W => of_any W a
 have ho2 := fun W => of_any W b
 have hq := run_eql_who a.cl a.req b.cl b.req
 obtain ⟨r,hr⟩ : ∃ r,twinB a b = r := ⟨_,rfl⟩
 have hr2 : (decide (a.cl = b.cl) && decide (a.req = b.req)) = r := hr
 rw [hr]
 rw [hr2] at hq
 clear hr hr2
 obtain ⟨cl,req,A,c,l,ts⟩ := a
 obtain ⟨cl',req',A',c',l',ts'⟩ := b
 dsimp only [eagg,earr] at *
 have HC := hZ0 hb0;clear hb0
 have HK := hZ0 hk0;clear hk0
 have HO1 := hZ0 ho1;clear ho1
 have HO2 := hZ0 ho2;clear ho2
 have c0 := HC.out _ (Kept.refl _ _)
 go_enter Tryz.func58,Tryz.ntmps58
 go_wp2_with fail
 have HST := hZ0 (Kept.refl NoF ((w.alloc (.cells #[.int .i64 cl,.int .i64 req,.slice A l.length c,.int .u64 ts] 72)).alloc (.cells #[.int .i64 cl',.int .i64 req',.slice A' l'.length c',.int .u64 ts'] 72)))
 go_region_held3 (fun W => W.cell? ⟨w.heap.size,0,none⟩ = some (.int .i64 cl) /\ W.cell? ⟨w.heap.size,1,none⟩ = some (.int .i64 req) /\ W.cell? ⟨w.heap.size,2,none⟩ = some (.slice A l.length c) /\ W.cell? ⟨w.heap.size,3,none⟩ = some (.int .u64 ts) /\
   W.cell? ⟨w.heap.size + 1,0,none⟩ = some (.int .i64 cl') /\ W.cell? ⟨w.heap.size + 1,1,none⟩ = some (.int .i64 req') /\ W.cell? ⟨w.heap.size + 1,2,none⟩ = some (.slice A' l'.length c') /\ W.cell? ⟨w.heap.size + 1,3,none⟩ = some (.int .u64 ts'))
  (first | with_reducible exact HC.out _ HST.out | exact HC.out _ HST.out.drew | exact c0 | (simp [go_sem,c0];done))
  (first
   | (go_at_call 98;((with_reducible refine (HO1.out _).mono ?_);rintro e w5 ⟨rfl,hk0⟩;have hk := Kept.then (F := NoF) (a := ((w.alloc (.cells #[.int .i64 cl,.int .i64 req,.slice A l.length c,.int .u64 ts] 72)).alloc (.cells #[.int .i64 cl',.int .i64 req',.slice A' l'.length c',.int .u64 ts'] 72))) (by (repeat' (first | (with_reducible first | exact kR0 | apply kP0 | apply kN0 | apply kD0 | apply kA0) | (exact HST.out) | (right;simp;done)))) hk0;clear HST hk0;have HST := hZ0 hk;clear hk))
   | (go_at_call 98;((with_reducible refine (HO2.out _).mono ?_);rintro e w5 ⟨rfl,hk0⟩;have hk := Kept.then (F := NoF) (a := ((w.alloc (.cells #[.int .i64 cl,.int .i64 req,.slice A l.length c,.int .u64 ts] 72)).alloc (.cells #[.int .i64 cl',.int .i64 req',.slice A' l'.length c',.int .u64 ts'] 72))) (by (repeat' (first | (with_reducible first | exact kR0 | apply kP0 | apply kN0 | apply kD0 | apply kA0) | (exact HST.out) | (right;simp;done)))) hk0;clear HST hk0;have HST := hZ0 hk;clear hk)))
 all_goals
  go_wp2
  go_ret
  exact ⟨rfl,HK.out.then (by (repeat' (first | (with_reducible first | exact kR0 | apply kP0 | apply kN0 | apply kD0 | apply kA0) | (exact HST.out) | (right;simp;done))))⟩
theorem alike_any (w : World) (a b : EntR) : Calls Tryz.prog 49 #[eagg a,eagg b] w fun r w' => r = .returned (.bool (alikeB a b)) /\ Kept NoF w w' := by
 have ht := fun W => twins_any W a b
 unfold alikeB
 obtain ⟨tw,htw⟩ : ∃ tw,twinB a b = tw := ⟨_,rfl⟩
 rw [htw] at ht ⊢
 clear htw
 have hb0 : ∀ W,Kept NoF ((w.alloc (.cells (earr a) 72)).alloc (.cells (earr b) 72)) W -> (W.cell? ⟨w.heap.size,3,none⟩ = some (.int .u64 a.ts) /\ W.cell? ⟨w.heap.size + 1,3,none⟩ = some (.int .u64 b.ts)) := by
  intro W hW
  have h1 : Has W w.heap.size 72 (earr a) := ((Has.new w 72 (earr a)).alloc (.cells (earr b) 72)).kept hW (fun x => x)
  have h2 : Has W (w.heap.size + 1) 72 (earr b) := (Has.new_at (w.alloc (.cells (earr a) 72)) 72 (earr b) (by simp)).kept hW (fun x => x)
  exact ⟨h1.cell 3,h2.cell 3⟩
 have hk0 : Kept NoF w ((w.alloc (.cells (earr a) 72)).alloc (.cells (earr b) 72)) := by (repeat' (first | (with_reducible first | exact kR0 | apply kP0 | apply kN0 | apply kD0 | apply kA0) | (right;simp;done)))
 obtain ⟨cl,req,A,c,l,ts⟩ := a
 obtain ⟨cl',req',A',c',l',ts'⟩ := b
 dsimp only [eagg,earr] at *
 obtain ⟨q,hq⟩ : ∃ q,decide (ts = ts') = q := ⟨_,rfl⟩
 have hq2 : (ts == ts') = q := by
  rw [<- hq]
  by_cases h : ts = ts'
  ·subst h;simp
  ·rw [decide_eq_false h,beq_eq_false_iff_ne];exact h
 rw [hq]
 clear hq
 have HC := hZ0 hb0;clear hb0
 have HK := hZ0 hk0;clear hk0
 have HT := hZ0 ht;clear ht
 cases tw
 ·go_enter Tryz.func49,Tryz.ntmps49
  go_wp2_with fail
  refine (HT.out _).mono ?_
  rintro e w2 ⟨rfl,hk⟩
  have hk2 := HK.out.then hk
  have HK2 := hZ0 hk2;clear hk2 hk
  go_wp2
  go_ret
  exact ⟨rfl,HK2.out⟩
 ·go_enter Tryz.func49,Tryz.ntmps49
  go_wp2_with fail
  refine (HT.out _).mono ?_
  rintro e w2 ⟨rfl,hk⟩
  obtain ⟨c0,c1⟩ := HC.out _ hk
  have hk2 := HK.out.then hk
  have HK2 := hZ0 hk2;clear hk2 hk
  go_wp2
  go_ret
  exact ⟨by simp,HK2.out⟩
def bareE (e : EntR) : EntR := ⟨e.cl,e.req,none,0,[],e.ts⟩
theorem bare_any (w : World) (e : EntR) : Calls Tryz.prog 50 #[eagg e] w fun r w' => r = .returned (eagg (bareE e)) /\ Kept NoF w w' := by
 obtain ⟨cl,req,A,c,l,ts⟩ := e
 dsimp only [eagg,bareE]
 go_enter Tryz.func50,Tryz.ntmps50
 go_wp2
 refine bodyPost_ret (v := .agg #[.int .i64 cl,.int .i64 req,.slice none 0 0,.int .u64 ts]) (by simp [results,Tryz.results50,go_sem]) rfl ⟨rfl,by (repeat' (first | (with_reducible first | exact kR0 | apply kP0 | apply kN0 | apply kD0 | apply kA0) | (right;simp;done)))⟩
theorem LOk.at {w : World} {l : List EntR} (h : LOk w l) {i : Nat} {e : EntR} (he : l[i]? = some e) : EOk w e := h e (List.mem_of_getElem? he)
end Ent
namespace Ent
open Ops Vn
theorem elemEnt : Elem Tryz.prog 23 72 4 48 := by
 obtain ⟨i0,hi,hz0,hz1,hz2⟩ := info_parts (show (Tryz.prog.info? 72).map (fun i => (i.zero,i.size,i.bytes)) = some (some (.agg #[.int .i64 0,.int .i64 0,.slice none 0 0,.int .u64 0]),4,48) by kernel_rfl)
 exact ⟨Tryz.underlying23,⟨i0,_,hi,hz0,hz1,hz2,rfl⟩,by decide⟩
def NewEnts (w : World) (l : List EntR) (e : Ending) (w' : World) : Prop :=
 ∃ A c,e = .returned (.slice A l.length c) /\ NewSl 72 4 w.heap.size w' A l.length c (ecells l) /\ Kept NoF w w'
theorem clone_any (w : World) (A : Option Addr) (c : Nat) (l : List EntR) (hl : Src w 4 A l.length (ecells l)) (hlen : l.length <= 1000000) :
  Calls Tryz.prog 22 #[.slice A l.length c] w (NewEnts w l) := by
 have hnil : ∀ W n' c',(binOp .eql 23 (.slice A l.length c) (.slice none n' c')).run Tryz.prog W = .ok (.bool A.isNone) W := fun W n' c' => Lib.run_eql_slice_nil W _ _ A _ _ _ _ Tryz.underlying23
 cases A with
 | none =>
  have h0 : l.length = 0 := by
   rcases Nat.eq_zero_or_pos l.length with h | h
   ·exact h
   ·obtain ⟨ad,h1,_⟩ := hl.2 h;cases h1
  obtain rfl : l = [] := List.eq_nil_of_length_eq_zero h0
  clear h0 hl
  simp only [Option.isNone_none,List.length_nil] at hnil ⊢
  go_enter Tryz.func22,Tryz.ntmps22
  go_wp2
  go_ret
  exact ⟨none,0,rfl,⟨⟨rfl,.inl ⟨rfl,rfl⟩⟩,fun k hk => by cases hk⟩,Kept.refl _ _⟩
 | some ad =>
  simp only [Option.isNone_some] at hnil
  have hm1 : 0 + l.length <= maxLen := by unfold maxLen;omega
  have hm2 : (0 + l.length) * 48 <= 140737488355328 := by omega
  have HM1 := hZ0 hm1;clear hm1
  have HM2 := hZ0 hm2;clear hm2
  have HL := hZ0 hl;clear hl
  go_enter Tryz.func22,Tryz.ntmps22
  go_wp2_with (at_builtin;refine list_append_src elemEnt (.tmp 5) (.tmp 6) rfl rfl (Value.slice (some ⟨w.heap.size,0,none⟩) 0 0) rfl (own_empty (Has.new w 72 #[]) rfl) c rfl (HL.out.kept ((Kept.refl NoF w).alloc _) (fun _ _ x => x)) (one_ents l) HM1.out HM2.out ?_;intro A1 c1 w1 ho1 hg1 ha1;simp only [Nat.zero_add,List.nil_append] at ho1 ha1;have hk1 : Kept NoF w w1 := ((Kept.refl NoF w).alloc _).grown hg1 (fun k hk => .inr (new_row hk (Nat.le_refl _)));have HO1 := hZ0 (And.intro ho1 (And.intro ha1 hk1));clear ho1 hg1 ha1 hk1)
  go_ret
  refine ⟨A1,c1,by simp,⟨HO1.out.1,fun k hk => ?_⟩,HO1.out.2.2⟩
  rcases HO1.out.2.1 with e | e
  ·exact new_row (e.symm.trans hk) (Nat.le_refl _)
  ·rw [hk] at e
   injection e with e
   simp at e
   omega
def alikeAllB : List EntR -> List EntR -> Bool
 | [],[] => true
 | a :: l,b :: m => alikeB a b && alikeAllB l m
 | _,_ => false
theorem alikeAllB_len {l m : List EntR} (h : l.length ≠ m.length) : alikeAllB l m = false := by
 induction l generalizing m with
 | nil => cases m <;> simp_all [alikeAllB]
 | cons a l ih =>
  cases m with
  | nil => rfl
  | cons b m => rw [alikeAllB,ih (by simpa using h),Bool.and_false]
theorem alikeAllB_at {l m : List EntR} {i : Nat} {a b : EntR} (ha : l[i]? = some a) (hb : m[i]? = some b) : alikeAllB (l.drop i) (m.drop i) = (alikeB a b && alikeAllB (l.drop (i + 1)) (m.drop (i + 1))) := by
 obtain ⟨hi,rfl⟩ := List.getElem?_eq_some_iff.1 ha
 obtain ⟨hj,rfl⟩ := List.getElem?_eq_some_iff.1 hb
 rw [List.drop_eq_getElem_cons hi,List.drop_eq_getElem_cons hj,alikeAllB]
theorem equalFunc_any (w : World) (A B : Option Addr) (c d : Nat) (l m : List EntR) (hl : Src w 4 A l.length (ecells l)) (hm : Src w 4 B m.length (ecells m)) (hlen : l.length <= 1000000) :
  Calls Tryz.prog 95 #[.slice A l.length c,.slice B m.length d,.func (.func 49) #[] #[]] w fun e w' => e = .returned (.bool (alikeAllB l m)) /\ Kept NoF w w' := by
 have HL := hZ0 hl;clear hl
 have HM := hZ0 hm;clear hm
 by_cases hne : l.length = m.length
 rotate_left
 ·rw [alikeAllB_len hne]
  have hq : ((l.length : Int) != (m.length : Int)) = true := by simpa using fun e => hne (by omega)
  clear hne
  go_enter Tryz.func95,Tryz.ntmps95
  go_wp2
  go_ret
  exact ⟨rfl,Kept.refl _ _⟩
 obtain ⟨n,hn⟩ : ∃ n,l.length = n := ⟨_,rfl⟩
 rw [<- hne]
 rw [<- hne] at HM
 rw [hn] at HL HM hlen ⊢
 have HN := hZ0 (And.intro hn hne);clear hn hne
 obtain ⟨r,hr⟩ : ∃ r,alikeAllB l m = r := ⟨_,rfl⟩
 rw [hr]
 have HR := hZ0 hr;clear hr
 go_enter Tryz.func95,Tryz.ntmps95
 go_wp2_with fail
 go_loopw [7,17] (fun v7 v17 wr => ∃ i : Nat,i <= n /\ v17 = .int .i64 i /\ r = alikeAllB (l.drop i) (m.drop i) /\ Kept NoF w wr) (fun _ v17 _ => n - (intOf v17).toNat)
 case atStart => exact ⟨0,Nat.zero_le _,rfl,HR.out.symm,Kept.refl _ _⟩
 case round =>
  obtain ⟨i,hi,rfl,hrr,hk⟩ := hrel
  have HK := hZ0 hk;clear hk
  have HRR := hZ0 hrr;clear hrr
  by_cases hil : i < n
  ·obtain ⟨a,ha⟩ : ∃ a,l[i]? = some a := ⟨_,List.getElem?_eq_getElem (by have := HN.out.1;omega)⟩
   obtain ⟨b,hb⟩ : ∃ b,m[i]? = some b := ⟨_,List.getElem?_eq_getElem (by have := HN.out;omega)⟩
   have hsa := alikeAllB_at ha hb
   obtain ⟨ad,rfl,hl1,x0,x1,x2,x3⟩ := ent_cells (HL.out.kept HK.out (fun _ _ x => x)) (by omega) i a ha
   obtain ⟨bd,rfl,hl2,y0,y1,y2,y3⟩ := ent_cells ((HM.out.kept HK.out (fun _ _ x => x)).kept ((Kept.refl NoF wr).alloc (.cells (earr a) 72)) (fun _ _ x => x)) (by omega) i b hb
   have hcall := fun W => alike_any W a b
   rw [hsa] at HRR
   obtain ⟨t,ht⟩ : ∃ t,alikeB a b = t := ⟨_,rfl⟩
   rw [ht] at hcall HRR
   clear hsa ht ha hb
   have HCALL := hZ0 hcall;clear hcall
   obtain ⟨cl,req,eA,ec,el,ts⟩ := a
   obtain ⟨cl',req',eA',ec',el',ts'⟩ := b
   dsimp only [eagg,earr] at *
   go_wp2_with fail
   refine (HCALL.out _).mono ?_
   rintro e w5 ⟨rfl,hk0⟩
   have hk := Kept.then (F := NoF) (a := w) (by (repeat' (first | (with_reducible first | exact kR0 | apply kP0 | apply kN0 | apply kD0 | apply kA0) | (exact HK.out) | (right;simp;done)))) hk0
   have HK5 := hZ0 hk;clear hk hk0
   cases t
   ·have hrf : r = false := by rw [HRR.out];simp
    have HRF := hZ0 hrf;clear hrf HRR
    go_wp2
    go_ret
    exact ⟨by rw [HRF.out];rfl,HK5.out⟩
   ·have hrf : r = alikeAllB (l.drop (i + 1)) (m.drop (i + 1)) := by rw [HRR.out];simp
    have HRF := hZ0 hrf;clear hrf HRR
    go_wp2
    go_roundw
    case rel => exact ⟨i + 1,by omega,by go_num,HRF.out,HK5.out⟩
    case measure => simp [intOf];omega
  ·obtain rfl : i = n := by omega
   have hrt : r = true := by
    rw [HRR.out,List.drop_of_length_le (by rw [HN.out.1];exact Nat.le_refl _),List.drop_of_length_le (by have := HN.out;omega)];rfl
   have HRT := hZ0 hrt;clear hrt
   go_wp2
   go_ret
   exact ⟨by rw [HRT.out];rfl,HK.out⟩
def agreeB (l m : List EntR) : Bool := alikeAllB (l.take (min l.length m.length)) (m.take (min l.length m.length))
theorem Src.takeE {w : World} {A : Option Addr} {l : List EntR} (h : Src w 4 A l.length (ecells l)) {k : Nat} (hk : k <= l.length) : Src w 4 A (l.take k).length (ecells (l.take k)) := by
 have h1 := h.take hk
 rw [ecells_take] at h1
 rwa [List.length_take,Nat.min_eq_left hk]
theorem agree_any (w : World) (A B : Option Addr) (c d : Nat) (l m : List EntR) (hl : Src w 4 A l.length (ecells l)) (hm : Src w 4 B m.length (ecells m)) (hlen : l.length <= 1000000) (hmlen : m.length <= 1000000000000) (hc : l.length <= c) (hd : m.length <= d) :
  Calls Tryz.prog 48 #[.slice A l.length c,.slice B m.length d,.func (.func 49) #[] #[]] w fun e w' => e = .returned (.bool (agreeB l m)) /\ Kept NoF w w' := by
 unfold agreeB
 obtain ⟨n,hn⟩ : ∃ n,min l.length m.length = n := ⟨_,rfl⟩
 have hmn : ∀ W ts t,(Builtin.min_ ts t #[.int .i64 (l.length : Int),.int .i64 (m.length : Int)]).run Tryz.prog W = .ok (.int .i64 n) W := by
  intro W ts t
  rw [run_min_int2,<- hn]
  split <;> (congr 2;omega)
 have h1 : n <= l.length := by omega
 have h2 : n <= m.length := by omega
 rw [hn]
 have hcl : (n : Int) <= c := by omega
 have hdl : (n : Int) <= d := by omega
 have h0 : (0 : Int) <= n := by omega
 have hcall := fun W (hW : Kept NoF w W) => equalFunc_any W A B c d (l.take n) (m.take n) ((Src.takeE hl h1).kept hW (fun _ _ x => x)) ((Src.takeE hm h2).kept hW (fun _ _ x => x)) (by rw [List.length_take];omega)
 rw [List.length_take,List.length_take,Nat.min_eq_left h1,Nat.min_eq_left h2] at hcall
 obtain ⟨r,hr⟩ : ∃ r,alikeAllB (l.take n) (m.take n) = r := ⟨_,rfl⟩
 rw [hr] at hcall ⊢
 have HCALL := hZ0 hcall;clear hcall hn hr hl hm
 go_enter Tryz.func48,Tryz.ntmps48
 go_wp2_with fail
 refine wp_region_still_tail 7 (by kernel_rfl) (by kernel_rfl) ?_
 simp only [List.take_succ_cons,List.take_zero,List.drop_succ_cons,List.drop_zero]
 change wpStill _ _ (World.drew w) _ _ _
 repeat still_step
 refine wpStill_nil ?_
 change wpList _ _ _ _ _ (World.drew w)
 go_wp2_with fail
 refine (HCALL.out _ (by (repeat' (first | (with_reducible first | exact kR0 | apply kP0 | apply kN0 | apply kD0 | apply kA0) | (right;simp;done))))).mono ?_
 rintro e w2 ⟨rfl,hk⟩
 have hk2 := Kept.then (F := NoF) (a := w) (by (repeat' (first | (with_reducible first | exact kR0 | apply kP0 | apply kN0 | apply kD0 | apply kA0) | (right;simp;done)))) hk
 have HK2 := hZ0 hk2;clear hk2 hk
 go_wp2
 go_ret
 exact ⟨rfl,HK2.out⟩
end Ent
end Go.Proofs.YtgffjliedjhbaaaGreat
