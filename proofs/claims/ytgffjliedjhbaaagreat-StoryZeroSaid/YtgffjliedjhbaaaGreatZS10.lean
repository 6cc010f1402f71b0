/- Part 11 of what the proof needs. -/
import Derived.Test.YtgffjliedjhbaaaGreatZS03
import Derived.Test.YtgffjliedjhbaaaGreatZS09
import Derived.Deep.RegionHeld3
set_option linter.unusedSimpArgs false
set_option linter.unusedVariables false
set_option maxHeartbeats 32000000
set_option maxRecDepth 100000
namespace Go.Proofs.YtgffjliedjhbaaaGreat
open Go.RowKit
set_option maxRecDepth 100000
namespace Mst
open Plan
theorem two_ints {w : World} (a b : Int) : Src (w.alloc (.cells #[.int .i64 a,.int .i64 b] 3)) 1 (some ⟨w.heap.size,0,none⟩) 2 (ints [a,b]) := by
 have h := Has.new w 3 #[.int .i64 a,.int .i64 b]
 exact Src.of_has h rfl
theorem one_int {w : World} (a : Int) : Src (w.alloc (.cells #[.int .i64 a] 3)) 1 (some ⟨w.heap.size,0,none⟩) 1 (ints [a]) := by
 have h := Has.new w 3 #[.int .i64 a]
 exact Src.of_has h rfl
theorem said_any (w : World) (a : AnsR) : Calls Tryz.prog 127 #[ansagg a] w fun e w' => e = .returned (.int .i64 (saidE a)) /\ Kept NoF w w' := by
 obtain ⟨cl,req,e,pin⟩ := a
 have hrg := range0_any (World.alloc (w.alloc (.cells #[.int .i64 cl,.int .i64 req,.int .i64 e,.int .i64 pin] 114)) (.cells #[.int .i64 req,.int .i64 pin] 3)) (some ⟨w.heap.size + 1,0,none⟩) 2 [req,pin] (by have h := two_ints (w := w.alloc (.cells #[.int .i64 cl,.int .i64 req,.int .i64 e,.int .i64 pin] 114)) req pin;rwa [size_alloc] at h) (by simp)
 obtain ⟨r,hr⟩ : ∃ r,saidE ⟨cl,req,e,pin⟩ = r := ⟨_,rfl⟩
 rw [hr]
 unfold saidE at hr
 dsimp only at hr ⊢
 obtain ⟨g,hg⟩ : ∃ g,rngL [req,pin] = g := ⟨_,rfl⟩
 rw [hg] at hr hrg
 simp only [List.length_cons,List.length_nil] at hrg
 have HG := hZ0 hrg;clear hrg hg
 have HR := hZ0 hr;clear hr
 by_cases h1 : cl < 0
 ·go_enter Tryz.func127,Tryz.ntmps127
  go_wp2
  go_ret
  exact ⟨by rw [<- HR.out,if_pos (.inl h1)];rfl,by (repeat' (first | (with_reducible first | exact kR0 | apply kP0 | apply kN0 | apply kD0 | apply kA0) | (right;simp;done)))⟩
 by_cases h2 : 3 <= cl
 ·go_enter Tryz.func127,Tryz.ntmps127
  go_wp2
  go_ret
  exact ⟨by rw [<- HR.out,if_pos (.inr h2)];rfl,by (repeat' (first | (with_reducible first | exact kR0 | apply kP0 | apply kN0 | apply kD0 | apply kA0) | (right;simp;done)))⟩
 have hr2 := HR.out
 rw [if_neg (by omega)] at hr2
 clear HR
 by_cases hg0 : g = 0
 rotate_left
 ·have hg1 : (g != 0) = true := by simpa using hg0
  rw [if_pos hg0] at hr2
  subst hr2
  clear hg0
  go_enter Tryz.func127,Tryz.ntmps127
  go_wp2_with fail
  refine HG.out.mono ?_
  rintro e w2 ⟨rfl,hk⟩
  have hk2 := Kept.then (F := NoF) (a := w) (by (repeat' (first | (with_reducible first | exact kR0 | apply kP0 | apply kN0 | apply kD0 | apply kA0) | (right;simp;done)))) hk
  have HK := hZ0 hk2;clear hk hk2
  go_wp2
  go_ret
  exact ⟨rfl,HK.out⟩
 subst hg0
 rw [if_neg (by simp)] at hr2
 have HR := hZ0 hr2;clear hr2
 by_cases h3 : e < 0
 ·go_enter Tryz.func127,Tryz.ntmps127
  go_wp2_with fail
  refine HG.out.mono ?_
  rintro e w2 ⟨rfl,hk⟩
  have hk2 := Kept.then (F := NoF) (a := w) (by (repeat' (first | (with_reducible first | exact kR0 | apply kP0 | apply kN0 | apply kD0 | apply kA0) | (right;simp;done)))) hk
  have hx := (((Has.new w 114 #[.int .i64 cl,.int .i64 req,.int .i64 e,.int .i64 pin]).alloc (.cells #[.int .i64 req,.int .i64 pin] 3)).kept hk (fun z => z)).cell 2
  simp only [List.getElem?_toArray,List.getElem?_cons_zero,List.getElem?_cons_succ] at hx
  have HK := hZ0 hk2;clear hk hk2
  go_wp2
  go_ret
  exact ⟨by rw [<- HR.out,if_pos (.inl h3)];rfl,HK.out⟩
 by_cases h4 : 21 < e
 ·go_enter Tryz.func127,Tryz.ntmps127
  go_wp2_with fail
  refine HG.out.mono ?_
  rintro e w2 ⟨rfl,hk⟩
  have hk2 := Kept.then (F := NoF) (a := w) (by (repeat' (first | (with_reducible first | exact kR0 | apply kP0 | apply kN0 | apply kD0 | apply kA0) | (right;simp;done)))) hk
  have hx := (((Has.new w 114 #[.int .i64 cl,.int .i64 req,.int .i64 e,.int .i64 pin]).alloc (.cells #[.int .i64 req,.int .i64 pin] 3)).kept hk (fun z => z)).cell 2
  simp only [List.getElem?_toArray,List.getElem?_cons_zero,List.getElem?_cons_succ] at hx
  have HK := hZ0 hk2;clear hk hk2
  go_wp2
  go_ret
  exact ⟨by rw [<- HR.out,if_pos (.inr h4)];rfl,HK.out⟩
 go_enter Tryz.func127,Tryz.ntmps127
 go_wp2_with fail
 refine HG.out.mono ?_
 rintro e w2 ⟨rfl,hk⟩
 have hk2 := Kept.then (F := NoF) (a := w) (by (repeat' (first | (with_reducible first | exact kR0 | apply kP0 | apply kN0 | apply kD0 | apply kA0) | (right;simp;done)))) hk
 have hx := (((Has.new w 114 #[.int .i64 cl,.int .i64 req,.int .i64 e,.int .i64 pin]).alloc (.cells #[.int .i64 req,.int .i64 pin] 3)).kept hk (fun z => z)).cell 2
 simp only [List.getElem?_toArray,List.getElem?_cons_zero,List.getElem?_cons_succ] at hx
 have HK := hZ0 hk2;clear hk hk2
 go_wp2
 go_ret
 exact ⟨by rw [<- HR.out,if_neg (by omega)];rfl,HK.out⟩
theorem one1_any (w : World) (x m : Mem) (b : Nat) (hb : Has w b 57 #[.int .i64 m.1,.int .i64 m.2]) :
  Calls Tryz.prog 138 #[magg x,.pointer (some ⟨b,0,none⟩)] w fun e w' => e = .returned (.bool (decide (x.1 = m.1))) /\ Kept NoF w w' := by
 have c0 := (hb.alloc (.cells #[.int .i64 x.1,.int .i64 x.2] 57)).cell 0
 simp only [List.getElem?_toArray,List.getElem?_cons_zero,List.getElem?_cons_succ] at c0
 clear hb
 go_enter Tryz.func138,Tryz.ntmps138
 go_wp2
 go_ret
 exact ⟨rfl,by (repeat' (first | (with_reducible first | exact kR0 | apply kP0 | apply kN0 | apply kD0 | apply kA0) | (right;simp;done)))⟩
theorem one_any (w : World) (m : Mem) (A : Option Addr) (c : Nat) (l : List Mem) (hl : Src w 2 A l.length (mcells l)) (hlen : l.length <= 1000000) :
  Calls Tryz.prog 83 #[magg m,.slice A l.length c] w fun e w' => e = .returned (.int .i64 (oneE m l)) /\ Kept NoF w w' := by
 have hk1 : Kept NoF w (w.alloc (.cells #[.int .i64 m.1,.int .i64 m.2] 57)) := by (repeat' (first | (with_reducible first | exact kR0 | apply kP0 | apply kN0 | apply kD0 | apply kA0) | (right;simp;done)))
 have hb := Has.new w 57 #[.int .i64 m.1,.int .i64 m.2]
 have hh := hasMem_any _ A c l 138 (.pointer (some ⟨w.heap.size,0,none⟩)) (fun x => decide (x.1 = m.1)) (fun args W => enters Tryz.func138 (by kernel_rfl) rfl args W) (hl.kept hk1 (fun _ _ z => z)) hlen
  (fun W x hW _ => one1_any W x m w.heap.size (hb.kept hW (fun z => z)))
 obtain ⟨r,hr⟩ : ∃ r,oneE m l = r := ⟨_,rfl⟩
 rw [hr]
 unfold oneE at hr
 obtain ⟨t,ht⟩ : ∃ t,(l.any fun x => decide (x.1 = m.1)) = t := ⟨_,rfl⟩
 rw [ht] at hr hh
 clear ht hl hb hk1
 obtain ⟨m1,m2⟩ := m
 dsimp only at *
 have HH := hZ0 hh;clear hh
 have HR := hZ0 hr;clear hr
 by_cases h1 : m1 < 0
 ·go_enter Tryz.func83,Tryz.ntmps83
  go_wp2
  go_ret
  exact ⟨by rw [<- HR.out,if_pos (.inl h1)];rfl,by (repeat' (first | (with_reducible first | exact kR0 | apply kP0 | apply kN0 | apply kD0 | apply kA0) | (right;simp;done)))⟩
 by_cases h2 : 4 <= m1
 ·go_enter Tryz.func83,Tryz.ntmps83
  go_wp2
  go_ret
  exact ⟨by rw [<- HR.out,if_pos (.inr h2)];rfl,by (repeat' (first | (with_reducible first | exact kR0 | apply kP0 | apply kN0 | apply kD0 | apply kA0) | (right;simp;done)))⟩
 have hr2 := HR.out
 rw [if_neg (by omega)] at hr2
 clear HR
 have HR := hZ0 hr2;clear hr2
 by_cases h3 : m2 < 1
 ·go_enter Tryz.func83,Tryz.ntmps83
  go_wp2
  go_ret
  exact ⟨by rw [<- HR.out,if_pos (.inl h3)];rfl,by (repeat' (first | (with_reducible first | exact kR0 | apply kP0 | apply kN0 | apply kD0 | apply kA0) | (right;simp;done)))⟩
 by_cases h4 : 1073741824 < m2
 ·go_enter Tryz.func83,Tryz.ntmps83
  go_wp2
  go_ret
  exact ⟨by rw [<- HR.out,if_pos (.inr h4)];rfl,by (repeat' (first | (with_reducible first | exact kR0 | apply kP0 | apply kN0 | apply kD0 | apply kA0) | (right;simp;done)))⟩
 have hr2 := HR.out
 rw [if_neg (by omega)] at hr2
 clear HR
 have HR := hZ0 hr2;clear hr2
 go_enter Tryz.func83,Tryz.ntmps83
 go_wp2_with fail
 refine HH.out.mono ?_
 rintro e w2 ⟨rfl,hk⟩
 have hk2 := Kept.then (F := NoF) (a := w) (by (repeat' (first | (with_reducible first | exact kR0 | apply kP0 | apply kN0 | apply kD0 | apply kA0) | (right;simp;done)))) hk
 have HK := hZ0 hk2;clear hk hk2
 cases t
 ·have hr3 := HR.out
  rw [if_neg (by simp)] at hr3
  subst hr3
  clear HR
  go_wp2
  go_ret
  exact ⟨rfl,HK.out⟩
 ·have hr3 := HR.out
  rw [if_pos rfl] at hr3
  subst hr3
  clear HR
  go_wp2
  go_ret
  exact ⟨rfl,HK.out⟩
theorem icheck_any (w : World) (b : Ops.Batch) (A : Option Addr) (c : Nat) (ts : Int) (hs : Src w 3 A b.ops.length (Ops.cells b.ops)) :
  Calls Tryz.prog 126 #[.agg #[.int .i64 b.cl,.int .i64 b.req,.slice A b.ops.length c,.int .u64 ts]] w fun e w' => e = .returned (.int .i64 (Ops.chk b)) /\ Kept NoF w w' := by
 have h := fun W (hW : Kept NoF w W) => Ops.ocheck_any W b A c (hs.kept hW (fun _ _ z => z))
 obtain ⟨cl,req,ops⟩ := b
 dsimp only [Ops.bagg] at *
 obtain ⟨r,hr⟩ : ∃ r,Ops.chk ⟨cl,req,ops⟩ = r := ⟨_,rfl⟩
 rw [hr] at h ⊢
 have H := hZ0 h;clear h hr hs
 go_enter Tryz.func126,Tryz.ntmps126
 go_wp2_with fail
 refine (H.out _ (by (repeat' (first | (with_reducible first | exact kR0 | apply kP0 | apply kN0 | apply kD0 | apply kA0) | (right;simp;done))))).mono ?_
 rintro e w2 ⟨rfl,hk⟩
 have hk2 := Kept.then (F := NoF) (a := w) (by (repeat' (first | (with_reducible first | exact kR0 | apply kP0 | apply kN0 | apply kD0 | apply kA0) | (right;simp;done)))) hk
 have HK := hZ0 hk2;clear hk hk2
 go_wp2
 go_ret
 exact ⟨rfl,HK.out⟩
end Mst
namespace Mst
open Plan
theorem mcells_take (l : List Mem) (k : Nat) : (mcells l).take (k * 2) = mcells (l.take k) := by
 induction l generalizing k with
 | nil => cases k <;> rfl
 | cons m l ih =>
  cases k with
  | zero => rfl
  | succ k =>
   rw [show (k + 1) * 2 = k * 2 + 2 by omega,List.take_succ_cons]
   show List.take (k * 2 + 2) (.int .i64 m.1 :: .int .i64 m.2 :: mcells l) = .int .i64 m.1 :: .int .i64 m.2 :: mcells (l.take k)
   rw [List.take_succ_cons,List.take_succ_cons,ih]
theorem Src.takeM {w : World} {A : Option Addr} {l : List Mem} (h : Src w 2 A l.length (mcells l)) {k : Nat} (hk : k <= l.length) : Src w 2 A (l.take k).length (mcells (l.take k)) := by
 have h1 := h.take hk
 rw [mcells_take] at h1
 rwa [List.length_take,Nat.min_eq_left hk]
theorem ccheck_any (w : World) (ep fl : Int) (A : Option Addr) (c : Nat) (l : List Mem) (hl : Src w 2 A l.length (mcells l)) (hlc : l.length <= c) (hlen : l.length <= 1000000) :
  Calls Tryz.prog 38 #[cagg ep A l.length c fl] w fun e w' => e = .returned (.int .i64 (chk ep l)) /\ Kept NoF w w' := by
 have HL := hZ0 hl;clear hl
 by_cases h1 : ep < 1
 ·have hr : chk ep l = 5 := by unfold chk;rw [if_pos (.inl h1)]
  have HR := hZ0 hr;clear hr
  go_enter Tryz.func38,Tryz.ntmps38
  go_wp2
  go_ret
  exact ⟨by rw [HR.out];rfl,(Kept.refl _ _).alloc _⟩
 by_cases h2 : 1073741824 < ep
 ·have hr : chk ep l = 5 := by unfold chk;rw [if_pos (.inr h2)]
  have HR := hZ0 hr;clear hr
  go_enter Tryz.func38,Tryz.ntmps38
  go_wp2
  go_ret
  exact ⟨by rw [HR.out];rfl,(Kept.refl _ _).alloc _⟩
 by_cases h3 : l.length = 0
 ·have hr : chk ep l = 7 := by unfold chk;rw [if_neg (by omega),if_pos h3]
  have HR := hZ0 hr;clear hr
  rw [h3]
  clear h3
  go_enter Tryz.func38,Tryz.ntmps38
  go_wp2
  go_ret
  exact ⟨by rw [HR.out];rfl,(Kept.refl _ _).alloc _⟩
 have h3' : ((l.length : Int) == 0) = false := by rw [beq_eq_false_iff_ne];omega
 by_cases h4 : 4 < l.length
 ·have hr : chk ep l = 6 := by unfold chk;rw [if_neg (by omega),if_neg h3,if_pos h4]
  have HR := hZ0 hr;clear hr
  have h4' : (4 : Int) < l.length := by omega
  clear h3
  go_enter Tryz.func38,Tryz.ntmps38
  go_wp2
  go_ret
  exact ⟨by rw [HR.out];rfl,(Kept.refl _ _).alloc _⟩
 have hr : chk ep l = chkFrom (l.take 0) (l.drop 0) := by unfold chk;rw [if_neg (by omega),if_neg h3,if_neg h4];rfl
 have HR := hZ0 hr;clear hr
 have h4' : ¬ (4 : Int) < l.length := by omega
 have hnew := Has.new w 53 #[.int .i64 ep,.slice A l.length c,.int .u64 fl]
 have HN := hZ0 hnew;clear hnew
 clear h3 h4
 go_enter Tryz.func38,Tryz.ntmps38
 go_wp2_with fail
 go_loopw [3,4,5,28] (fun _ _ _ v28 wr => ∃ i : Nat,i <= l.length /\ v28 = .int .i64 i /\ Has wr w.heap.size 53 #[.int .i64 ep,.slice A l.length c,.int .u64 fl] /\ Kept NoF w wr /\ chk ep l = chkFrom (l.take i) (l.drop i)) (fun _ _ _ v28 _ => l.length - (intOf v28).toNat)
 case atStart => exact ⟨0,Nat.zero_le _,rfl,HN.out,(Kept.refl _ _).alloc _,HR.out⟩
 case round =>
  obtain ⟨i,hi,rfl,hh,hk,he⟩ := hrel
  have hlt0 := hh.lt
  have hsz := hk.size
  have e0 : wr.cell? ⟨w.heap.size,1,none⟩ = some (.slice A l.length c) := hh.cell 1
  have HH := hZ0 hh;clear hh
  have HK := hZ0 hk;clear hk
  have HE := hZ0 he;clear he
  by_cases hil : i < l.length
  ·obtain ⟨m,hm⟩ : ∃ m,l[i]? = some m := ⟨_,List.getElem?_eq_getElem hil⟩
   obtain ⟨ad,hA,had,d0,d1⟩ := mem_cells (HL.out.kept HK.out (fun _ _ x => x)) (by omega) i m hm
   subst hA
   have hone := fun W (hW : Kept NoF wr W) => one_any W m (some ad) c (l.take i) (Src.takeM (HL.out.kept (HK.out.then hW) (fun _ _ x => x)) hi) (by rw [List.length_take];omega)
   rw [show (l.take i).length = i by rw [List.length_take];omega] at hone
   obtain ⟨t,ht⟩ : ∃ t,oneE m (l.take i) = t := ⟨_,rfl⟩
   rw [ht] at hone
   have HM := hZ0 (And.intro hm ht);clear hm ht
   have HO := hZ0 hone;clear hone
   have b0 : (0 : Int) <= (i : Int) := by omega
   have b1 : (i : Int) <= (c : Int) := by omega
   have b2 : i <= c := by omega
   obtain ⟨m1,m2⟩ := m
   dsimp only [magg] at d0 d1 HO
   have q0 : (wr.alloc (.cells #[.int .i64 m1,.int .i64 m2] 57)).cell? ⟨wr.heap.size,0,none⟩ = some (.int .i64 m1) := (Has.new wr 57 #[.int .i64 m1,.int .i64 m2]).cell 0
   have q1 : (wr.alloc (.cells #[.int .i64 m1,.int .i64 m2] 57)).cell? ⟨wr.heap.size,1,none⟩ = some (.int .i64 m2) := (Has.new wr 57 #[.int .i64 m1,.int .i64 m2]).cell 1
   have q2 : (wr.alloc (.cells #[.int .i64 m1,.int .i64 m2] 57)).cell? ⟨w.heap.size,1,none⟩ = some (.slice (some ad) l.length c) := (HH.out.alloc _).cell 1
   have hq : ∀ W,Kept NoF (wr.alloc (.cells #[.int .i64 m1,.int .i64 m2] 57)) W -> W.cell? ⟨wr.heap.size,0,none⟩ = some (.int .i64 m1) /\ W.cell? ⟨wr.heap.size,1,none⟩ = some (.int .i64 m2) /\ W.cell? ⟨w.heap.size,1,none⟩ = some (.slice (some ad) l.length c) := fun W hW =>
    ⟨((Has.new wr 57 #[.int .i64 m1,.int .i64 m2]).kept hW (fun z => z)).cell 0,((Has.new wr 57 #[.int .i64 m1,.int .i64 m2]).kept hW (fun z => z)).cell 1,((HH.out.alloc _).kept hW (fun z => z)).cell 1⟩
   have HQ := hZ0 hq;clear hq
   go_wp2_with fail
   go_region_held3 (fun W => W.cell? ⟨wr.heap.size,0,none⟩ = some (.int .i64 m1) /\ W.cell? ⟨wr.heap.size,1,none⟩ = some (.int .i64 m2) /\ W.cell? ⟨w.heap.size,1,none⟩ = some (.slice (some ad) l.length c))
    (first | with_reducible exact q3 | (refine HQ.out _ ?_;(repeat' (first | (with_reducible first | exact kR0 | apply kP0 | apply kN0 | apply kD0 | apply kA0) | (right;simp;done)))))
    (first | (go_at_call 83;refine (HO.out _ (by (repeat' (first | (with_reducible first | exact kR0 | apply kP0 | apply kN0 | apply kD0 | apply kA0) | (right;simp;done))))).mono ?_;rintro e w5 ⟨rfl,hk0⟩;have q3 := HQ.out w5 (Kept.then (by (repeat' (first | (with_reducible first | exact kR0 | apply kP0 | apply kN0 | apply kD0 | apply kA0) | (right;simp;done)))) hk0);have hk5 := Kept.then (F := NoF) (a := wr) (by (repeat' (first | (with_reducible first | exact kR0 | apply kP0 | apply kN0 | apply kD0 | apply kA0) | (right;simp;done)))) hk0;clear hk0;have HK5 := hZ0 hk5;clear hk5))
   clear q0 q1 q2 d0 d1 HQ HO had
   by_cases ht0 : t = 0
   ·have ht1 : (t != 0) = false := by simp [ht0]
    have hs := HE.out.trans (chkFrom_step HM.out.1 (HM.out.2.trans ht0))
    have HS := hZ0 hs;clear hs ht0
    go_wp2
    go_roundw
    case rel => exact ⟨i + 1,by omega,by go_num,HH.out.kept HK5.out (fun z => z),HK.out.then HK5.out,HS.out⟩
    case measure => simp [intOf];omega
   ·have ht1 : (t != 0) = true := by simpa using ht0
    have hs := HE.out.trans ((chkFrom_stop HM.out.1 (by rw [HM.out.2];exact ht0)).trans HM.out.2)
    have HS := hZ0 hs;clear hs ht0
    go_wp2
    go_ret
    exact ⟨by rw [HS.out];rfl,HK.out.then HK5.out⟩
  ·obtain rfl : i = l.length := by omega
   have hr : chk ep l = 0 := by rw [HE.out,List.drop_length];rfl
   have HR := hZ0 hr;clear hr
   go_wp2
   go_ret
   exact ⟨by rw [HR.out];rfl,HK.out⟩
end Mst
end Go.Proofs.YtgffjliedjhbaaaGreat
