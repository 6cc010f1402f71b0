/- Part 14 of what the proof needs. -/
import Derived.Test.YtgffjliedjhbaaaGreatZS08
import Derived.Test.YtgffjliedjhbaaaGreatZS12
set_option linter.unusedSimpArgs false
set_option linter.unusedVariables false
set_option maxHeartbeats 32000000
set_option maxRecDepth 100000
namespace Go.Proofs.YtgffjliedjhbaaaGreat
open Go.RowKit
set_option maxRecDepth 100000
namespace Mst
open Plan Vn
theorem member1_any (w : World) (x : Mem) (b : Nat) (id : Int) (hb : Has w b 3 #[.int .i64 id]) :
  Calls Tryz.prog 241 #[magg x,.pointer (some ⟨b,0,none⟩)] w fun e w' => e = .returned (.bool (decide (x.1 = id))) /\ Kept NoF w w' := by
 have c0 := (hb.alloc (.cells #[.int .i64 x.1,.int .i64 x.2] 57)).cell 0
 simp only [List.getElem?_toArray,List.getElem?_cons_zero,List.getElem?_cons_succ] at c0
 clear hb
 go_enter Tryz.func241,Tryz.ntmps241
 go_wp2
 go_ret
 exact ⟨rfl,by (repeat' (first | (with_reducible first | exact kR0 | apply kP0 | apply kN0 | apply kD0 | apply kA0) | (right;simp;done)))⟩
theorem member_any (w : World) (ep fl : Int) (A : Option Addr) (c : Nat) (l : List Mem) (id : Int) (hl : Src w 2 A l.length (mcells l)) (hlen : l.length <= 1000000) :
  Calls Tryz.prog 198 #[cagg ep A l.length c fl,.int .i64 id] w fun e w' => e = .returned (.bool (anyId l id)) /\ Kept NoF w w' := by
 have h := fun W b (hW : Kept NoF w W) (hb : Has W b 3 #[.int .i64 id]) => hasMem_any W A c l 241 (.pointer (some ⟨b,0,none⟩)) (fun x => decide (x.1 = id)) (fun args W => enters Tryz.func241 (by kernel_rfl) rfl args W) (hl.kept hW (fun _ _ z => z)) hlen
  (fun W2 x hW2 _ => member1_any W2 x b id (hb.kept hW2 (fun z => z)))
 have hr : (l.any fun x => decide (x.1 = id)) = anyId l id := rfl
 rw [hr] at h
 obtain ⟨r,hr⟩ : ∃ r,anyId l id = r := ⟨_,rfl⟩
 rw [hr] at h ⊢
 have H := hZ0 h;clear h hr hl
 go_enter Tryz.func198,Tryz.ntmps198
 go_wp2_with fail
 refine (H.out _ (w.heap.size + 1) (by (repeat' (first | (with_reducible first | exact kR0 | apply kP0 | apply kN0 | apply kD0 | apply kA0) | (right;simp;done)))) (Has.new_at _ _ _ (by simp))).mono ?_
 rintro e w2 ⟨rfl,hk⟩
 have hk2 := Kept.then (F := NoF) (a := w) (by (repeat' (first | (with_reducible first | exact kR0 | apply kP0 | apply kN0 | apply kD0 | apply kA0) | (right;simp;done)))) hk
 have HK := hZ0 hk2;clear hk hk2
 go_wp2
 go_ret
 exact ⟨rfl,HK.out⟩
def OwnPost (w : World) (ep fl : Int) (l : List Mem) (e : Ending) (w' : World) : Prop :=
 ∃ A c,e = .returned (cagg ep A l.length c fl) /\ NewSl 57 2 w.heap.size w' A l.length c (mcells l) /\ Kept NoF w w'
theorem own_any (w : World) (ep fl : Int) (A : Option Addr) (c : Nat) (l : List Mem) (hl : Src w 2 A l.length (mcells l)) (hlen : l.length <= 1000000) :
  Calls Tryz.prog 163 #[cagg ep A l.length c fl] w (OwnPost w ep fl l) := by
 have h := fun W (hW : Kept NoF w W) => cloneMem_any W A c l (hl.kept hW (fun _ _ z => z)) hlen
 have hP : ∀ w' A c,NewSl 57 2 w.heap.size w' A l.length c (mcells l) -> Kept NoF w w' -> OwnPost w ep fl l (.returned (cagg ep A l.length c fl)) w' := fun w' A c h1 h2 => ⟨A,c,rfl,h1,h2⟩
 have H := hZ0 h;have HP := hZ0 hP;clear h hl hP
 go_enter Tryz.func163,Tryz.ntmps163
 go_wp2_with fail
 refine (H.out _ (by (repeat' (first | (with_reducible first | exact kR0 | apply kP0 | apply kN0 | apply kD0 | apply kA0) | (right;simp;done))))).mono ?_
 rintro e w2 ⟨A1,c1,rfl,hn,hk⟩
 have hb1 := ((Has.new w 53 #[.int .i64 ep,.slice A l.length c,.int .u64 fl]).alloc (.cells #[.int .i64 0,.slice none 0 0,.int .u64 0] 53)).kept hk (fun z => z)
 have hb2 := (Has.new_at (w.alloc (.cells #[.int .i64 ep,.slice A l.length c,.int .u64 fl] 53)) 53 #[.int .i64 0,.slice none 0 0,.int .u64 0] (g := w.heap.size + 1) (by simp)).kept hk (fun z => z)
 have hk2 := Kept.then (F := NoF) (a := w) (by (repeat' (first | (with_reducible first | exact kR0 | apply kP0 | apply kN0 | apply kD0 | apply kA0) | (right;simp;done)))) hk
 have c0 := hb1.cell 0
 have c1' := hb1.cell 1
 have c2 := hb1.cell 2
 have f0 := hb1.frozen 1
 have d0 := hb2.cell 0
 have d1 := hb2.cell 1
 have d2 := hb2.cell 2
 have g0 := hb2.frozen 0
 have g1 := hb2.frozen 1
 have g2 := hb2.frozen 2
 simp only [List.getElem?_toArray,List.getElem?_cons_zero,List.getElem?_cons_succ] at c0 c1' c2 d0 d1 d2
 have HK := hZ0 hk2;have HN := hZ0 hn
 have HB := hZ0 (And.intro hb1 hb2)
 clear hk hk2 hn hb1 hb2
 go_wp2
 have hfin := (((HB.out.2.past (b := w.heap.size) (i := 1) (u := Value.slice A1 l.length c1) (by omega)).put 0 (Value.int .i64 ep)).put 1 (Value.slice A1 l.length c1)).put 2 (Value.int .u64 fl)
 refine bodyPost_ret (results_cell_row rfl _ _ (w.heap.size + 1) 53 _ (0,0) _ rfl hfin Tryz.underlying53 rfl (by kernel_rfl)) rfl ?_
 have hk9 : ∀ W (j i : Nat) u,Kept NoF w W -> Kept NoF w (W.setCell ⟨w.heap.size + j,i,none⟩ u) := fun W j i u hW => hW.put (.inr (by omega))
 refine HP.out _ _ _ ⟨?_,fun g hg => by have h1 := HN.out.2 g hg;have h2 := HK.out.size;simp only [size_alloc] at h1;omega⟩ (hk9 _ 1 _ _ (hk9 _ 1 _ _ (hk9 _ 1 _ _ (hk9 _ 0 _ _ HK.out))))
 refine own_kept (F := fun k => k = w.heap.size \/ k = w.heap.size + 1) HN.out.1 ((((((Kept.refl _ _).put (.inl (.inl rfl))).put (.inl (.inr rfl))).put (.inl (.inr rfl)))).put (.inl (.inr rfl))) (fun g hg hF => ?_)
 have h1 := HN.out.2 g hg
 simp only [size_alloc] at h1
 omega
end Mst
namespace Plan
theorem pplace_any (w : World) (ep fl : Int) (A : Option Addr) (c : Nat) (l : List Mem) (x : Mem) (hl : Src w 2 A l.length (mcells l)) (hlen : l.length <= 1000000) :
  Calls Tryz.prog 190 #[cagg ep A l.length c fl,magg x] w fun e w' => (∃ n : Int,e = .returned (.int .i64 n) /\ (0 <= n ↔ x ∈ l) /\ (n = -1 \/ 0 <= n)) /\ Kept NoF w w' := by
 have HL := hZ0 hl;clear hl
 obtain ⟨x1,x2⟩ := x
 have hn1 := (Has.new w 53 #[.int .i64 ep,.slice A l.length c,.int .u64 fl]).alloc (.cells #[.int .i64 x1,.int .i64 x2] 57)
 have hn2 := Has.new (w.alloc (.cells #[.int .i64 ep,.slice A l.length c,.int .u64 fl] 53)) 57 #[.int .i64 x1,.int .i64 x2]
 rw [size_alloc] at hn2
 have c0 := hn1.cell 1
 simp only [List.getElem?_toArray,List.getElem?_cons_zero,List.getElem?_cons_succ] at c0
 have HN2 := hZ0 hn2;clear hn2 hn1
 unfold magg
 dsimp only
 go_enter Tryz.func190,Tryz.ntmps190
 go_wp2_with fail
 go_loopw [5,10] (fun v5 v10 wr => ∃ i : Nat,i <= l.length /\ v10 = .int .i64 i /\ Has wr (w.heap.size + 1) 57 #[.int .i64 x1,.int .i64 x2] /\ Kept NoF w wr /\ ((x1,x2) ∈ l ↔ (x1,x2) ∈ l.drop i)) (fun _ v10 _ => l.length - (intOf v10).toNat)
 case atStart => exact ⟨0,Nat.zero_le _,rfl,HN2.out,((Kept.refl _ _).alloc _).alloc _,Iff.rfl⟩
 case round =>
  obtain ⟨i,hi,rfl,hh2,hk,he⟩ := hrel
  have e1 : ∀ o,(wr.alloc o).cell? ⟨w.heap.size + 1,0,none⟩ = some (.int .i64 x1) := fun o => (hh2.alloc o).cell 0
  have e2 : ∀ o,(wr.alloc o).cell? ⟨w.heap.size + 1,1,none⟩ = some (.int .i64 x2) := fun o => (hh2.alloc o).cell 1
  have HH2 := hZ0 hh2;clear hh2
  have HK := hZ0 hk;clear hk
  have HE := hZ0 he;clear he
  by_cases hil : i < l.length
  ·obtain ⟨m,hm⟩ : ∃ m,l[i]? = some m := ⟨_,List.getElem?_eq_getElem hil⟩
   obtain ⟨ad,hA,had,d0,d1⟩ := mem_cells (HL.out.kept HK.out (fun _ _ x => x)) (by omega) i m hm
   subst hA
   have hs : (x1,x2) ∈ l.drop i ↔ m = (x1,x2) \/ (x1,x2) ∈ l.drop (i + 1) := by rw [drop_cons hm,List.mem_cons,eq_comm]
   have heql := run_eql_mem m (x1,x2)
   obtain ⟨b,hb⟩ : ∃ b : Bool,b = decide (m = (x1,x2)) := ⟨_,rfl⟩
   rw [<- hb] at heql
   have HB := hZ0 hb;clear hb
   have HS := hZ0 hs;clear hs hm
   obtain ⟨m1,m2⟩ := m
   unfold magg at heql
   dsimp only at d0 d1 heql
   cases b
   ·go_wp2_with fail
    go_roundw
    case rel => exact ⟨i + 1,by omega,by go_num,HH2.out.alloc _,HK.out.alloc _,by rw [HE.out,HS.out];have := HB.out;simp at this;simp;omega⟩
    case measure => simp [intOf];omega
   ·go_wp2_with fail
    go_ret
    exact ⟨⟨_,rfl,⟨fun _ => by rw [HE.out,HS.out];have := HB.out;simp at this;exact .inl (by simp [this]),fun _ => by omega⟩,.inr (by omega)⟩,HK.out.alloc _⟩
  ·obtain rfl : i = l.length := by omega
   go_wp2
   go_ret
   exact ⟨⟨-1,rfl,⟨fun h => by omega,fun h => by rw [HE.out,List.drop_length] at h;cases h⟩,.inl rfl⟩,HK.out⟩
end Plan
namespace Stz
open Plan Vn
theorem lknew_any (w : World) : Calls Tryz.prog 64 #[.int .i64 1] w fun e w' => (∃ p,e = .returned (.tuple #[.pointer p,.int .i64 0])) /\ Kept NoF w w' := by
 go_enter Tryz.func64,Tryz.ntmps64
 go_wp2
 go_ret2
 exact ⟨⟨_,rfl⟩,by (repeat' (first | (with_reducible first | exact kR0 | apply kP0 | apply kN0 | apply kD0 | apply kA0) | (right;simp;done)))⟩
theorem rlnew_any (w : World) : Calls Tryz.prog 65 #[] w fun e w' => (∃ a,e = .returned (.pointer (some a))) /\ Kept NoF w w' := by
 have hmk := @run_makeMap Tryz.prog
 go_enter Tryz.func65,Tryz.ntmps65
 go_wp2
 go_ret
 exact ⟨⟨_,rfl⟩,by (repeat' (first | (with_reducible first | exact kR0 | apply kP0 | apply kN0 | apply kD0 | apply kA0) | (right;simp;done)))⟩
theorem rsnew_any (w : World) : Calls Tryz.prog 29 #[] w fun e w' => ∃ b a,e = .returned (.pointer (some ⟨b,0,none⟩)) /\ Has w' b 149 #[.pointer (some a),.int .i64 0,.slice none 0 0,.int .u64 0,.int .u64 0] /\ w.heap.size <= b /\ Kept NoF w w' := by
 have HRL := hZ0 (rlnew_any w)
 go_enter Tryz.func29,Tryz.ntmps29
 go_wp2_with fail
 refine HRL.out.mono ?_
 rintro e w2 ⟨⟨a,rfl⟩,hk⟩
 have HK := hZ0 hk;clear hk
 go_wp2
 go_ret
 exact ⟨_,a,rfl,(by (repeat (first | with_reducible exact Has.new_at _ _ _ (by simp) | with_reducible apply Has.drew | with_reducible apply Has.drewN | with_reducible apply Has.alloc | (with_reducible apply Has.past <;> (try omega)) ))),HK.out.size,HK.out.then (by (repeat' (first | (with_reducible first | exact kR0 | apply kP0 | apply kN0 | apply kD0 | apply kA0) | (right;simp;done))))⟩
theorem trnew_any (w : World) : Calls Tryz.prog 66 #[] w fun e w' => (∃ a,e = .returned (.pointer a)) /\ Kept NoF w w' := by
 go_enter Tryz.func66,Tryz.ntmps66
 go_wp2
 go_ret
 exact ⟨⟨_,rfl⟩,by (repeat' (first | (with_reducible first | exact kR0 | apply kP0 | apply kN0 | apply kD0 | apply kA0) | (right;simp;done)))⟩
theorem mvnew_any (w : World) : Calls Tryz.prog 30 #[] w fun e w' => (∃ a,e = .returned (.pointer a)) /\ Kept NoF w w' := by
 have HRL := hZ0 (trnew_any w)
 go_enter Tryz.func30,Tryz.ntmps30
 go_wp2_with fail
 refine HRL.out.mono ?_
 rintro e w2 ⟨⟨a,rfl⟩,hk⟩
 have HK := hZ0 hk;clear hk
 go_wp2
 go_ret
 exact ⟨⟨_,rfl⟩,HK.out.then (by (repeat' (first | (with_reducible first | exact kR0 | apply kP0 | apply kN0 | apply kD0 | apply kA0) | (right;simp;done))))⟩
theorem cln_any (w : World) (id : Int) (h0 : 0 <= id) (h1 : id < 3) : Calls Tryz.prog 15 #[.int .i64 id] w fun e w' => (∃ a k,e = .returned (.tuple #[.pointer a,.int .i64 k])) /\ Kept NoF w w' := by
 have h2 : ¬ 3 <= id := by omega
 go_enter Tryz.func15,Tryz.ntmps15
 go_wp2
 go_ret2
 exact ⟨⟨_,_,rfl⟩,by (repeat' (first | (with_reducible first | exact kR0 | apply kP0 | apply kN0 | apply kD0 | apply kA0) | (right;simp;done)))⟩
theorem etn_any (w : World) : Calls Tryz.prog 11 #[] w fun e w' => (∃ a,e = .returned (.pointer a)) /\ Kept NoF w w' := by
 go_enter Tryz.func11,Tryz.ntmps11
 go_wp2
 go_ret
 exact ⟨⟨_,rfl⟩,by (repeat' (first | (with_reducible first | exact kR0 | apply kP0 | apply kN0 | apply kD0 | apply kA0) | (right;simp;done)))⟩
theorem rsown_any (w : World) (ep fl : Int) (A : Option Addr) (c : Nat) (l : List Mem) (hl : Src w 2 A l.length (mcells l)) (hlen : l.length <= 1000000) :
  Calls Tryz.prog 76 #[cagg ep A l.length c fl] w (Mst.OwnPost w ep fl l) := by
 have h := fun W (hW : Kept NoF w W) => Mst.cloneMem_any W A c l (hl.kept hW (fun _ _ z => z)) hlen
 have hP : ∀ w' A c,NewSl 57 2 w.heap.size w' A l.length c (mcells l) -> Kept NoF w w' -> Mst.OwnPost w ep fl l (.returned (cagg ep A l.length c fl)) w' := fun w' A c h1 h2 => ⟨A,c,rfl,h1,h2⟩
 have H := hZ0 h;have HP := hZ0 hP;clear h hl hP
 go_enter Tryz.func76,Tryz.ntmps76
 go_wp2_with fail
 refine (H.out _ (by (repeat' (first | (with_reducible first | exact kR0 | apply kP0 | apply kN0 | apply kD0 | apply kA0) | (right;simp;done))))).mono ?_
 rintro e w2 ⟨A1,c1,rfl,hn,hk⟩
 have hb1 := ((Has.new w 53 #[.int .i64 ep,.slice A l.length c,.int .u64 fl]).alloc (.cells #[.int .i64 0,.slice none 0 0,.int .u64 0] 53)).kept hk (fun z => z)
 have hb2 := (Has.new_at (w.alloc (.cells #[.int .i64 ep,.slice A l.length c,.int .u64 fl] 53)) 53 #[.int .i64 0,.slice none 0 0,.int .u64 0] (g := w.heap.size + 1) (by simp)).kept hk (fun z => z)
 have hk2 := Kept.then (F := NoF) (a := w) (by (repeat' (first | (with_reducible first | exact kR0 | apply kP0 | apply kN0 | apply kD0 | apply kA0) | (right;simp;done)))) hk
 have c0 := hb1.cell 0
 have c1' := hb1.cell 1
 have c2 := hb1.cell 2
 have f0 := hb1.frozen 1
 have d0 := hb2.cell 0
 have d1 := hb2.cell 1
 have d2 := hb2.cell 2
 have g0 := hb2.frozen 0
 have g1 := hb2.frozen 1
 have g2 := hb2.frozen 2
 simp only [List.getElem?_toArray,List.getElem?_cons_zero,List.getElem?_cons_succ] at c0 c1' c2 d0 d1 d2
 have HK := hZ0 hk2;have HN := hZ0 hn
 have HB := hZ0 (And.intro hb1 hb2)
 clear hk hk2 hn hb1 hb2
 go_wp2
 have hfin := (((HB.out.2.past (b := w.heap.size) (i := 1) (u := Value.slice A1 l.length c1) (by omega)).put 0 (Value.int .i64 ep)).put 1 (Value.slice A1 l.length c1)).put 2 (Value.int .u64 fl)
 refine bodyPost_ret (results_cell_row rfl _ _ (w.heap.size + 1) 53 _ (0,0) _ rfl hfin Tryz.underlying53 rfl (by kernel_rfl)) rfl ?_
 have hk9 : ∀ W (j i : Nat) u,Kept NoF w W -> Kept NoF w (W.setCell ⟨w.heap.size + j,i,none⟩ u) := fun W j i u hW => hW.put (.inr (by omega))
 refine HP.out _ _ _ ⟨?_,fun g hg => by have h1 := HN.out.2 g hg;have h2 := HK.out.size;simp only [size_alloc] at h1;omega⟩ (hk9 _ 1 _ _ (hk9 _ 1 _ _ (hk9 _ 1 _ _ (hk9 _ 0 _ _ HK.out))))
 refine own_kept (F := fun k => k = w.heap.size \/ k = w.heap.size + 1) HN.out.1 ((((((Kept.refl _ _).put (.inl (.inl rfl))).put (.inl (.inr rfl))).put (.inl (.inr rfl)))).put (.inl (.inr rfl))) (fun g hg hF => ?_)
 have h1 := HN.out.2 g hg
 simp only [size_alloc] at h1
 omega
section
variable {w : World} {b : Nat} {a : Addr}
theorem rsnone_any (h : Has w b 149 #[.pointer (some a),.int .i64 0,.slice none 0 0,.int .u64 0,.int .u64 0]) : Calls Tryz.prog 75 #[.pointer (some ⟨b,0,none⟩)] w fun e w' => e = .returned (.bool false) /\ w = w' := by
 obtain ⟨ab,ao,af⟩ := a
 have c0 := h.cell 0
 simp only [List.getElem?_toArray,List.getElem?_cons_zero,List.getElem?_cons_succ] at c0
 clear h
 go_enter Tryz.func75,Tryz.ntmps75
 go_wp2
 go_ret
 exact ⟨rfl,rfl⟩
theorem rsconf_any (h : Has w b 149 #[.pointer (some a),.int .i64 0,.slice none 0 0,.int .u64 0,.int .u64 0]) : Calls Tryz.prog 189 #[.pointer (some ⟨b,0,none⟩)] w (Mst.OwnPost w 0 0 []) := by
 have hno := fun W (hW : Kept NoF w W) => rsnone_any (h.kept hW (fun z => z))
 have hown := fun W (hW : Kept NoF w W) => rsown_any W 0 0 none 0 [] (Src.nil _ _ _) (by decide)
 have hce : ∀ W,Kept NoF w W -> W.cell? ⟨b,1,none⟩ = some (.int .i64 0) /\ W.cell? ⟨b,2,none⟩ = some (.slice none 0 0) /\ W.cell? ⟨b,3,none⟩ = some (.int .u64 0) := fun W hW => by
  have g := h.kept hW (fun z => z)
  exact ⟨g.cell 1,g.cell 2,g.cell 3⟩
 have HLT := hZ0 h.lt
 have H := hZ0 hno;have HOWN := hZ0 hown;have HCE := hZ0 hce;clear hno h hown hce
 go_enter Tryz.func189,Tryz.ntmps189
 go_wp2_with fail
 refine (H.out _ (by (repeat' (first | (with_reducible first | exact kR0 | apply kP0 | apply kN0 | apply kD0 | apply kA0) | (right;simp;done))))).mono ?_
 rintro e w2 ⟨rfl,rfl⟩
 obtain ⟨w2,hw2⟩ : ∃ w2,w.alloc (.cells #[.int .i64 0,.slice none 0 0,.int .u64 0] 53) = w2 := ⟨_,rfl⟩
 have hb1 : Has w2 w.heap.size 53 #[.int .i64 0,.slice none 0 0,.int .u64 0] := by rw [<- hw2];exact Has.new _ _ _
 have hk2 : Kept NoF w w2 := by rw [<- hw2];(repeat' (first | (with_reducible first | exact kR0 | apply kP0 | apply kN0 | apply kD0 | apply kA0) | (right;simp;done)))
 have hz : w.heap.size + 1 <= w2.heap.size := by rw [<- hw2,size_alloc];exact Nat.le_refl _
 rw [hw2]
 obtain ⟨q0,q1,q2⟩ := HCE.out _ hk2
 have HB := hZ0 hb1;have HK := hZ0 hk2;have HZ := hZ0 hz;clear hk2 hb1 hz hw2
 go_wp2_with fail
 refine (HOWN.out _ HK.out).mono ?_
 rintro e w3 ⟨A1,c1,rfl,hn,hk⟩
 clear q0 q1 q2
 have hb1 := HB.out.kept hk (fun z => z)
 have c0 := hb1.cell 0
 have f0 := hb1.frozen 0
 have c1' := hb1.cell 1
 have f1 := hb1.frozen 1
 have c2 := hb1.cell 2
 have f2 := hb1.frozen 2
 simp only [List.getElem?_toArray,List.getElem?_cons_zero,List.getElem?_cons_succ] at c0 c1' c2
 have HB1 := hZ0 hb1;have HN := hZ0 hn;have HK3 := hZ0 (HK.out.then hk);clear hb1 hn hk
 go_wp2
 have hfin := ((HB1.out.put 0 (Value.int .i64 0)).put 1 (Value.slice A1 ([] : List Mem).length c1)).put 2 (Value.int .u64 0)
 refine bodyPost_ret (results_cell_row rfl _ _ w.heap.size 53 _ (0,0) _ rfl hfin Tryz.underlying53 rfl (by kernel_rfl)) rfl ?_
 have hk9 : ∀ W (i : Nat) u,Kept NoF w W -> Kept NoF w (W.setCell ⟨w.heap.size,i,none⟩ u) := fun W i u hW => hW.put (.inr (Nat.le_refl _))
 have hz := HZ.out
 refine ⟨A1,c1,rfl,⟨?_,fun g hg => by have := HN.out.2 g hg;omega⟩,hk9 _ _ _ (hk9 _ _ _ (hk9 _ _ _ (HK3.out)))⟩
 refine own_kept (F := fun k => k = w.heap.size) HN.out.1 ((((Kept.refl (fun k => k = w.heap.size) w3).put (.inl rfl)).put (.inl rfl)).put (.inl rfl)) (fun g hg hF => ?_)
 have h1 := HN.out.2 g hg
 omega
end
end Stz
end Go.Proofs.YtgffjliedjhbaaaGreat
