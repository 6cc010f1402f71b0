/- Part 33 of what the proof needs. -/
import Derived.Test.YtgffjliedjhbaaaGreatZS31
import Derived.Deep.RegionHeld3
set_option linter.unusedSimpArgs false
set_option linter.unusedVariables false
set_option maxHeartbeats 32000000
set_option maxRecDepth 100000
namespace Go.Proofs.YtgffjliedjhbaaaGreat
open Go.RowKit
set_option maxRecDepth 100000
namespace Mst
open Plan Vn
def freed (l : List PinR) (id : Int) : List PinR := if pinAt l id < 0 then l else l.eraseIdx (pinAt l id).toNat
def FreePost (w : World) (l : List PinR) (id : Int) (e : Ending) (w' : World) : Prop :=
 (pinAt l id < 0 /\ e = .returned (.tuple #[.slice none 0 0,.int .i64 7]) /\ Kept NoF w w') \/
 (0 <= pinAt l id /\ ∃ A c,e = .returned (.tuple #[.slice A (freed l id).length c,.int .i64 0]) /\ NewSl 112 3 w.heap.size w' A (freed l id).length c (pcells (freed l id)) /\ Kept NoF w w')
theorem free_any (w : World) (A : Option Addr) (c : Nat) (l : List PinR) (id : Int) (hl : Src w 3 A l.length (pcells l)) (hlen : l.length <= 1000000) :
  Calls Tryz.prog 149 #[.slice A l.length c,.int .i64 id] w (FreePost w l id) := by
 have hf := fun W (hW : Kept NoF w W) (b : Nat) (hb : Has W b 3 #[.int .i64 id]) => find_any W A c l b id hb (hl.kept hW (fun _ _ z => z)) hlen
 have hwh := whose_any w id
 rcases pinAt_cases l id with h1 | ⟨k,x,h1,hx,hid⟩
 ·rw [h1] at hf
  have hP : ∀ w',Kept NoF w w' -> FreePost w l id (.returned (.tuple #[.slice none 0 0,.int .i64 7])) w' := fun w' hk => .inl ⟨by omega,rfl,hk⟩
  have HF := hZ0 hf;have HP := hZ0 hP;have HWH := hZ0 hwh
  clear hf hP hwh hl h1
  go_enter Tryz.func149,Tryz.ntmps149
  go_wp2_with fail
  refine HWH.out.mono ?_
  rintro e w1 ⟨rfl,rfl⟩
  go_wp2_with fail
  refine (HF.out _ (by (repeat' (first | (with_reducible first | exact kR0 | apply kP0 | apply kN0 | apply kD0 | apply kA0) | (right;simp;done)))) w.heap.size (Has.new w 3 #[.int .i64 id])).mono ?_
  rintro e w2 ⟨rfl,hk⟩
  have hk2 := Kept.then (F := NoF) (a := w) (by (repeat' (first | (with_reducible first | exact kR0 | apply kP0 | apply kN0 | apply kD0 | apply kA0) | (right;simp;done)))) hk
  have HK := hZ0 hk2;clear hk hk2
  go_wp2
  go_ret2
  exact HP.out _ HK.out
 ·rw [h1] at hf
  have hkl : k < l.length := (List.getElem?_eq_some_iff.1 hx).1
  have hcl := fun W (hW : Kept NoF w W) => clonePin_any W A c l (hl.kept hW (fun _ _ z => z)) hlen
  have hP : ∀ w' A c,NewSl 112 3 w.heap.size w' A (l.length - 1) c (pcells (l.eraseIdx k)) -> Kept NoF w w' -> FreePost w l id (.returned (.tuple #[.slice A ((l.length - 1 : Nat)) c,.int .i64 0])) w' := fun w' A c hn hk => by
   have e1 : freed l id = l.eraseIdx k := by unfold freed;rw [h1,Int.toNat_natCast,if_neg (by omega)]
   have e2 : (freed l id).length = l.length - 1 := by rw [e1,List.length_eraseIdx_of_lt hkl]
   refine .inr ⟨by omega,A,c,?_,?_,hk⟩
   ·rw [e2]
   ·rw [e2,e1];exact hn
  have hj : ∀ W g c,_ -> _ := fun W g c h => delPin_any W g c k (k + 1) rfl l h hkl hlen
  have hcast : ((k + 1 : Nat) : Int) = (k : Int) + 1 := by omega
  rw [hcast] at hj
  have hw1 : IntKind.i64.wrap ((k : Int) + 1) = (k : Int) + 1 := IntWalk.i64_in _ (by omega)
  have HF := hZ0 hf;have HP := hZ0 hP;have HWH := hZ0 hwh;have HC := hZ0 hcl;have HJ := hZ0 hj
  clear hf hP hwh hl h1 hcl hx hid hj hcast
  have b0 : (0 : Int) <= (k : Int) := by omega
  go_enter Tryz.func149,Tryz.ntmps149
  go_wp2_with fail
  refine HWH.out.mono ?_
  rintro e w1 ⟨rfl,rfl⟩
  go_wp2_with fail
  refine (HF.out _ (by (repeat' (first | (with_reducible first | exact kR0 | apply kP0 | apply kN0 | apply kD0 | apply kA0) | (right;simp;done)))) w.heap.size (Has.new w 3 #[.int .i64 id])).mono ?_
  rintro e w2 ⟨rfl,hk⟩
  have hk2 := Kept.then (F := NoF) (a := w) (by (repeat' (first | (with_reducible first | exact kR0 | apply kP0 | apply kN0 | apply kD0 | apply kA0) | (right;simp;done)))) hk
  have HK := hZ0 hk2;clear hk hk2
  go_wp2_with fail
  refine (HC.out _ HK.out).mono ?_
  rintro e w3 ⟨A1,c1,rfl,hn,hk⟩
  have HK3 := hZ0 (And.intro (HK.out.then hk) HK.out.size);clear HK hk
  obtain ⟨rb,cap,hv,_,hrl⟩ := hn.1.form (by omega)
  injection hv with hA _ hC
  subst hA
  subst hC
  have HN := hZ0 hn;clear hn
  go_wp2_with fail
  refine (HJ.out _ _ _ HN.out.1).mono ?_
  rintro e w4 ⟨rfl,ho,hk⟩
  have HO := hZ0 (And.intro ho hk);clear ho hk
  have hrb : w.heap.size <= rb := by have h1 := HN.out.2 rb rfl;have h2 := HK3.out.2;omega
  go_wp2
  go_ret2
  exact HP.out _ _ _ ⟨HO.out.1,fun g hg => by obtain rfl : rb = g := by simpa [Value.ownBlock] using hg
                                              exact hrb⟩ (HK3.out.1.trans HO.out.2 (fun i hi => .inr (by subst hi;exact hrb)))
end Mst
namespace Mst
open Plan Vn
def headI : List Mem -> Int
 | [] => -1
 | m :: _ => m.1
theorem phead_any (w : World) (ep fl : Int) (A : Option Addr) (c : Nat) (l : List Mem) (hl : Src w 2 A l.length (mcells l)) (hlen : l.length <= 1000000) :
  Calls Tryz.prog 200 #[cagg ep A l.length c fl] w fun e w' => e = .returned (.int .i64 (headI l)) /\ Kept NoF w w' := by
 cases l with
 | nil =>
  clear hl
  simp only [List.length_nil]
  go_enter Tryz.func200,Tryz.ntmps200
  go_wp2
  go_ret
  exact ⟨rfl,by (repeat' (first | (with_reducible first | exact kR0 | apply kP0 | apply kN0 | apply kD0 | apply kA0) | (right;simp;done)))⟩
 | cons m r =>
  obtain ⟨ad,rfl,had,d0,d1⟩ := mem_cells hl (by simp) 0 m rfl
  have d0' : w.cell? ad = some (.int .i64 m.1) := d0
  have d0'' : ∀ o,(w.alloc o).cell? ad = some (.int .i64 m.1) := fun o => by rw [World.cell?_of_block (w := w) (((Kept.refl NoF w).alloc o).block _ had (fun x => x))];exact d0'
  have e0 := d0'' (.cells #[.int .i64 ep,.slice (some ad) (m :: r).length c,.int .u64 fl] 53)
  have hpos : 0 < (m :: r).length := by simp
  have HH := hZ0 (rfl : headI (m :: r) = m.1)
  generalize (m :: r).length = N at *
  rw [HH.out]
  have hp1 : ¬ (N : Int) = 0 := by omega
  have hp2 : ¬ (N : Int) <= 0 := by omega
  clear d0 d1 d0' d0'' hl had HH
  have hadd : ad.add 0 = ad := by unfold Addr.add;rw [if_pos rfl]
  go_enter Tryz.func200,Tryz.ntmps200
  go_wp2
  go_ret
  exact ⟨rfl,by (repeat' (first | (with_reducible first | exact kR0 | apply kP0 | apply kN0 | apply kD0 | apply kA0) | (right;simp;done)))⟩
theorem indexI_any (w : World) (A : Option Addr) (c : Nat) (l : List Int) (x : Int) (hl : Src w 1 A l.length (ints l)) (hlen : l.length <= 1000000) :
  Calls Tryz.prog 176 #[.slice A l.length c,.int .i64 x] w fun e w' => e = .returned (.int .i64 (idxW (fun y => decide (y = x)) l 0)) /\ Kept NoF w w' := by
 have HL := hZ0 hl;clear hl
 obtain ⟨r,hr⟩ : ∃ r,idxW (fun y => decide (y = x)) l 0 = r := ⟨_,rfl⟩
 rw [hr]
 have HR := hZ0 hr;clear hr
 go_enter Tryz.func176,Tryz.ntmps176
 go_wp2_with fail
 go_loop [5,8] (fun v5 v8 => ∃ i : Nat,i <= l.length /\ v8 = .int .i64 i /\ r = idxW (fun y => decide (y = x)) (l.drop i) i) (fun _ v8 => l.length - (intOf v8).toNat)
 case atStart => exact ⟨0,Nat.zero_le _,rfl,HR.out.symm⟩
 case round =>
  obtain ⟨i,hi,rfl,hrr⟩ := hrel
  by_cases hil : i < l.length
  ·obtain ⟨y,hy⟩ : ∃ y,l[i]? = some y := ⟨_,List.getElem?_eq_getElem hil⟩
   have hsa := idxW_at (fun y => decide (y = x)) hy
   obtain ⟨ad,rfl,hl1,x0⟩ := int_cells HL.out (by omega) i y hy
   rw [hsa] at hrr
   clear hsa hy
   by_cases hyx : y = x
   ·subst hyx
    rw [if_pos (by simp)] at hrr
    have HRR := hZ0 hrr;clear hrr
    go_wp2
    go_ret
    exact ⟨by rw [HRR.out];rfl,Kept.refl _ _⟩
   ·rw [if_neg (by simpa using hyx)] at hrr
    have HRR := hZ0 hrr;clear hrr
    have hxy : ¬ x = y := fun h => hyx h.symm
    go_wp2
    go_round
    case rel => exact ⟨i + 1,by omega,by go_num,HRR.out⟩
    case measure => simp [intOf];omega
  ·obtain rfl : i = l.length := by omega
   rw [List.drop_length,idxW] at hrr
   have HRR := hZ0 hrr;clear hrr
   go_wp2
   go_ret
   exact ⟨by rw [HRR.out];rfl,Kept.refl _ _⟩
theorem inB_any (l : List Int) (x : Int) : (l.any fun y => decide (y = x)) = inB l x := by
 unfold inB
 induction l with
 | nil => rfl
 | cons a l ih =>
  have e : (x == a) = decide (a = x) := by rw [Bool.eq_iff_iff,beq_iff_eq,decide_eq_true_iff];exact eq_comm
  rw [List.any_cons,List.contains_cons,ih,e]
theorem containsI_any (w : World) (A : Option Addr) (c : Nat) (l : List Int) (x : Int) (hl : Src w 1 A l.length (ints l)) (hlen : l.length <= 1000000) :
  Calls Tryz.prog 110 #[.slice A l.length c,.int .i64 x] w fun e w' => e = .returned (.bool (inB l x)) /\ Kept NoF w w' := by
 have hi := indexI_any w A c l x hl hlen
 have ha := idxW_any (fun y => decide (y = x)) l 0
 rw [inB_any] at ha
 obtain ⟨k,hk⟩ : ∃ k,idxW (fun y => decide (y = x)) l 0 = k := ⟨_,rfl⟩
 rw [hk] at hi ha
 rw [<- ha]
 have HI := hZ0 hi;clear hi hk hl ha
 go_enter Tryz.func110,Tryz.ntmps110
 go_wp2_with fail
 refine HI.out.mono ?_
 rintro e w2 ⟨rfl,hk⟩
 have HK := hZ0 hk;clear hk
 go_wp2
 go_ret
 exact ⟨by simp,HK.out⟩
theorem next1_any (w : World) (x : NoteR) (b : Nat) (id : Int) (hb : Has w b 116 (ncell x).toArray) (h : NOk w x) :
  Calls Tryz.prog 197 #[.int .i64 id,.pointer (some ⟨b,0,none⟩)] w fun e w' => e = .returned (.bool (!anyId x.ms id)) /\ Kept NoF w w' := by
 have hm := fun W (hW : Kept NoF w W) => member_any W x.ep x.fl x.mA x.mc x.ms id (h.kept hW).m (by have := h.ml;omega)
 obtain ⟨r,hr⟩ : ∃ r,anyId x.ms id = r := ⟨_,rfl⟩
 rw [hr] at hm ⊢
 clear hr h
 obtain ⟨k,n,at2,ep,mA,mc,ms,fl,lA,lc,lg,oA,oc,⟨bcl,breq,ops⟩,ts,⟨p1,p2,p3⟩,⟨s1,s2,s3,s4⟩⟩ := x
 have c3 := hb.cell 3
 have c4 := hb.cell 4
 have c5 := hb.cell 5
 simp only [ncell,List.getElem?_toArray,List.getElem?_cons_zero,List.getElem?_cons_succ] at c3 c4 c5 hm
 have HM := hZ0 hm;clear hm hb
 go_enter Tryz.func197,Tryz.ntmps197
 go_wp2_with fail
 refine (HM.out _ (by (repeat' (first | (with_reducible first | exact kR0 | apply kP0 | apply kN0 | apply kD0 | apply kA0) | (right;simp;done))))).mono ?_
 rintro e w2 ⟨rfl,hk⟩
 have HK := hZ0 hk;clear hk
 go_wp2
 go_ret
 exact ⟨rfl,HK.out⟩
end Mst
end Go.Proofs.YtgffjliedjhbaaaGreat
