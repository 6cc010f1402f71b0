/- Part 30 of what the proof needs. -/
import Derived.Test.YtgffjliedjhbaaaGreatZS03
import Derived.Test.YtgffjliedjhbaaaGreatZS11
import Derived.Test.YtgffjliedjhbaaaGreatZS28
import Derived.Laws.RangeString
import Derived.Lib.OthersKept
import Derived.Deep.LoopGhost
set_option linter.unusedSimpArgs false
set_option linter.unusedVariables false
set_option maxHeartbeats 32000000
set_option maxRecDepth 100000
namespace Go.Proofs.YtgffjliedjhbaaaGreat
open Go.RowKit Go.Shelf
set_option maxRecDepth 100000
namespace Msg
open Plan Ops Ent Vn Wire
def memB (m : Mem) : List UInt8 := put m.1.toNat ++ put m.2.toNat
theorem cput_any (w : World) (ep fl : Int) (A : Option Addr) (c : Nat) (l : List Mem) (hs : Src w 2 A l.length (mcells l)) (hlc : l.length <= c) (hlen : l.length <= 1000) (hfl : 0 <= fl /\ fl <= maxTs) :
  Calls Tryz.prog 153 #[cagg ep A l.length c fl] w fun e w' => e = .returned (.tuple #[.string (confR ep l fl),.int .i64 (Plan.chk ep l)]) /\ Kept NoF w w' := by
 have hchk := fun W (hW : Kept NoF w W) => Mst.ccheck_any W ep fl A c l (hs.kept hW (fun _ _ x => x)) hlc (by omega)
 have HCHK := hZ0 hchk;clear hchk
 have HS := hZ0 hs;clear hs
 by_cases hz : Plan.chk ep l = 0
 rotate_left
 ·have hr : confR ep l fl = emp := by unfold confR;rw [if_neg hz]
  rw [hr]
  obtain ⟨x,hx⟩ : ∃ x,Plan.chk ep l = x := ⟨_,rfl⟩
  rw [hx] at hz HCHK ⊢
  have hz2 : (x != 0) = true := by simpa using hz
  clear hx hr hz
  go_enter Tryz.func153,Tryz.ntmps153
  go_wp2_with fail
  refine (HCHK.out _ (by (repeat' (first | (with_reducible first | exact kR0 | apply kP0 | apply kN0 | apply kD0 | apply kA0) | (right;simp;done))))).mono ?_
  rintro e w2 ⟨rfl,hk⟩
  have hk2 := Kept.then (a := w) (by (repeat' (first | (with_reducible first | exact kR0 | apply kP0 | apply kN0 | apply kD0 | apply kA0) | (right;simp;done)))) hk
  have HK2 := hZ0 hk2;clear hk2 hk
  go_wp2
  go_ret2
  exact ⟨rfl,HK2.out⟩
 have hr : confR ep l fl = ofL (put ep.toNat ++ put l.length ++ l.flatMap memB ++ put fl.toNat) := by unfold confR;rw [if_pos hz];rfl
 rw [hr,hz]
 rw [hz] at HCHK
 obtain ⟨⟨k1,k2⟩,_,k3,k4⟩ := chk_zero hz
 have hid := k4.id
 have hser := k4.ser
 obtain ⟨en,rfl⟩ : ∃ en : Nat,ep = en := ⟨ep.toNat,by omega⟩
 obtain ⟨fn,rfl⟩ : ∃ fn : Nat,fl = fn := ⟨fl.toNat,by omega⟩
 rw [Int.toNat_natCast,Int.toNat_natCast]
 have hfn : fn < 18446744073709551616 := by unfold maxTs at hfl;omega
 have HID := hZ0 (And.intro hid hser);clear hid hser k4 hz hr hfl
 have HB0 := hZ0 (Has.new w 53 #[.int .i64 en,.slice A l.length c,.int .u64 fn])
 go_enter Tryz.func153,Tryz.ntmps153
 go_wp2_with fail
 refine (HCHK.out _ (by (repeat' (first | (with_reducible first | exact kR0 | apply kP0 | apply kN0 | apply kD0 | apply kA0) | (right;simp;done))))).mono ?_
 rintro e w2 ⟨rfl,hk⟩
 have hb2 := Has.kept (F := NoF) HB0.out hk (fun x => x)
 have hk2 := Kept.then (a := w) (by (repeat' (first | (with_reducible first | exact kR0 | apply kP0 | apply kN0 | apply kD0 | apply kA0) | (right;simp;done)))) hk
 have c0 : w2.cell? ⟨w.heap.size,0,none⟩ = some (.int .i64 en) := hb2.cell 0
 have c1 : w2.cell? ⟨w.heap.size,1,none⟩ = some (.slice A l.length c) := hb2.cell 1
 have HB2 := hZ0 hb2;clear hb2
 have HK2 := hZ0 hk2;clear hk2 hk
 have hN : ∀ n,(w2.drewN n).heap.size = w2.heap.size := fun n => rfl
 have hnew : ∀ W,Has W w.heap.size 53 #[.int .i64 en,.slice A l.length c,.int .u64 fn] -> Calls Tryz.prog 151 #[] W fun e w' => ∃ g,e = .returned (.pointer (some ⟨g,0,none⟩)) /\ WS W.heap.size w' g [] [(w.heap.size,53,#[.int .i64 en,.slice A l.length c,.int .u64 fn])] /\ Kept NoF W w' :=
  fun W hW => new_s W _ (fun x hx => by simp at hx;subst hx;exact hW)
 have HNEW := hZ0 hnew;clear hnew
 have hss : ∀ W,Has W w.heap.size 53 #[.int .i64 en,.slice A l.length c,.int .u64 fn] -> (W.cell? ⟨w.heap.size,0,none⟩ = some (.int .i64 en) /\ W.cell? ⟨w.heap.size,1,none⟩ = some (.slice A l.length c)) := fun W hW => ⟨hW.cell 0,hW.cell 1⟩
 have HSS := hZ0 hss;clear hss
 have p1 := put_le (n := en) (by omega)
 have p2 := put_le (n := l.length) (by omega)
 have HP := hZ0 (And.intro p1 p2);clear p1 p2
 have HQ := hZ0 (And.intro k1 (And.intro k2 k3));clear k1 k2
 have HFN := hZ0 hfn;clear hfn
 go_wp2_with fail
 go_region_held3 (fun W => W.cell? ⟨w.heap.size,0,none⟩ = some (.int .i64 en) /\ W.cell? ⟨w.heap.size,1,none⟩ = some (.slice A l.length c)) (first | with_reducible exact q5 | with_reducible exact q4 | with_reducible exact q3 | with_reducible exact ⟨c0,c1⟩ | (simp [go_sem,c0,c1];done))
  (first
   | (go_at_call 151;refine (HNEW.out _ (by exact HB2.out)).mono ?_;rintro e w3 ⟨g,rfl,hw3,hkk3⟩;have q3 := HSS.out _ (hw3.has (List.mem_singleton.2 rfl));have HW3 := hZ0 hw3;have HKK3 := hZ0 hkk3;clear hw3 hkk3)
   | (have hx := HW4;clear hx;go_at_call 152;refine (num_s (by exact HW4.out) l.length (by have := HQ.out;omega) (by have := HP.out;simp;omega)).mono ?_;rintro e w5 ⟨rfl,hw5,hb5⟩;have q5 := HSS.out _ (hw5.has (List.mem_singleton.2 rfl));have HW5 := hZ0 hw5;have HB5 := hZ0 hb5;clear hw5 hb5)
   | (have hx := HW3;clear hx;go_at_call 152;refine (num_s (by exact HW3.out) en (by have := HQ.out;omega) (by simp)).mono ?_;rintro e w4 ⟨rfl,hw4,hb4⟩;have q4 := HSS.out _ (hw4.has (List.mem_singleton.2 rfl));have HW4 := hZ0 hw4;have HB4 := hZ0 hb4;clear hw4 hb4))
 have hk3 : Kept NoF w w3 := Kept.then (by (repeat' (first | (with_reducible first | exact kR0 | apply kP0 | apply kN0 | apply kD0 | apply kA0) | (with_reducible exact HK2.out) | (right;simp;done)))) HKK3.out
 have hle : w.heap.size <= w2.heap.size := HK2.out.size
 have hk5 : Kept NoF w w5 := behind (behind hk3 HB4.out hle) HB5.out hle
 have hw5 := HW5.out
 simp only [List.nil_append] at hw5
 clear q3 q4 HW3 HW4 HW5 HB4 HB5 HK2 HKK3 c0 c1 hk3 HNEW HCHK HB0 HB2
 obtain ⟨hdr,hhdr⟩ : ∃ hdr,put en ++ put l.length = hdr := ⟨_,rfl⟩
 rw [hhdr] at hw5
 have hdl : hdr.length <= 18 := by
  rw [<- hhdr]
  have := HP.out
  simp only [List.length_append]
  omega
 have hdp : hdr ≠ [] := by
  rw [<- hhdr]
  have h1 := put_pos en
  intro e
  have := congrArg List.length e
  simp only [List.length_append,List.length_nil] at this
  omega
 have HHDR := hZ0 (And.intro hhdr (And.intro hdl hdp));clear hhdr hdl hdp HP
 have HW5 := hZ0 hw5;clear hw5
 have HK5 := hZ0 hk5;clear hk5
 obtain ⟨u0,u1⟩ := q5
 go_wp2
 go_loopw [24] (fun v24 wr => ∃ i : Nat,i <= l.length /\ v24 = .int .i64 i /\ WS w2.heap.size wr g (hdr ++ (l.take i).flatMap memB) [(w.heap.size,53,#[.int .i64 en,.slice A l.length c,.int .u64 fn])] /\ Kept NoF w wr) (fun v24 _ => l.length - (intOf v24).toNat)
 case atStart => exact ⟨0,Nat.zero_le _,rfl,by simpa using HW5.out,HK5.out⟩
 case round =>
  obtain ⟨i,hi,rfl,hws,hk⟩ := hrel
  have HK := hZ0 hk;clear hk
  by_cases hil : i < l.length
  ·obtain ⟨m,hm⟩ : ∃ m,l[i]? = some m := ⟨_,List.getElem?_eq_getElem hil⟩
   have hmi : l[i] = m := by rw [List.getElem?_eq_getElem hil] at hm;exact Option.some.inj hm
   obtain ⟨ad,rfl,had,e0,e1⟩ := mem_cells (HS.out.kept HK.out (fun _ _ x => x)) (by omega) i m hm
   have hb1 := HID.out.1 m (List.mem_of_getElem? hm)
   have hb2 := HID.out.2 m (List.mem_of_getElem? hm)
   have hflat := flat_succ memB l i hil
   rw [hmi] at hflat
   have hfl := flatLen memB (l.take (i + 1)) 18 (fun y hy => by
    have b1 := HID.out.1 y (List.mem_of_mem_take hy)
    have b2 := HID.out.2 y (List.mem_of_mem_take hy)
    have c1 := putN_len (n := y.1.toNat) (by omega)
    have c2 := putN_len (n := y.2.toNat) (by omega)
    unfold memB
    rw [List.length_append];omega)
   rw [hflat,List.length_append] at hfl
   have hmin : (l.take (i + 1)).length <= 4 := by rw [List.length_take];omega
   have hLB : (hdr ++ (l.take i).flatMap memB).length <= 200 := by rw [List.length_append];have := HHDR.out.2.1;omega
   obtain ⟨m1,m2⟩ := m
   dsimp only at hb1 hb2 e0 e1
   obtain ⟨a,rfl⟩ : ∃ a : Nat,m1 = a := ⟨m1.toNat,by omega⟩
   obtain ⟨b,rfl⟩ : ∃ b : Nat,m2 = b := ⟨m2.toNat,by omega⟩
   obtain ⟨cur,hcur⟩ : ∃ cur,hdr ++ (l.take i).flatMap memB = cur := ⟨_,rfl⟩
   rw [hcur] at hws hLB
   have hnext : hdr ++ (l.take (i + 1)).flatMap memB = (cur ++ put a) ++ put b := by
    rw [hflat,<- List.append_assoc,hcur]
    unfold memB
    simp only [List.append_assoc,Int.toNat_natCast]
   have HNX := hZ0 hnext;clear hnext hflat hfl hcur hmin hm hmi
   have HLB := hZ0 hLB;clear hLB
   have HMB := hZ0 (And.intro hb1 hb2);clear hb1 hb2
   have p1 := putN_len (n := a) (by have := HMB.out;omega)
   have HPT := hZ0 p1;clear p1
   have hw0 := hws.add 57 #[.int .i64 a,.int .i64 b]
   have HW0 := hZ0 hw0;clear hw0 hws
   have hos : ∀ W bs,WS w2.heap.size W g bs [(wr.heap.size,57,#[.int .i64 a,.int .i64 b]),(w.heap.size,53,#[.int .i64 en,.slice (some ad) l.length c,.int .u64 fn])] -> (W.cell? ⟨wr.heap.size,0,none⟩ = some (.int .i64 a) /\ W.cell? ⟨wr.heap.size,1,none⟩ = some (.int .i64 b)) :=
    fun W bs hW => ⟨(hW.has (List.mem_cons_self ..)).cell 0,(hW.has (List.mem_cons_self ..)).cell 1⟩
   have HOS := hZ0 hos;clear hos
   have r0 := HOS.out _ _ HW0.out
   go_wp2_with fail
   go_region_held3 (fun W => W.cell? ⟨wr.heap.size,0,none⟩ = some (.int .i64 a) /\ W.cell? ⟨wr.heap.size,1,none⟩ = some (.int .i64 b)) (first | with_reducible exact r2 | with_reducible exact r1 | with_reducible exact r0 | (simp [go_sem,r0];done))
    (first
     | (have hx := HV1;clear hx;go_at_call 152;refine (num_s (by exact HV1.out) b (by have := HMB.out;omega) (by have := HLB.out;have := HPT.out;simp;omega)).mono ?_;rintro e w4 ⟨rfl,hv2,hd2⟩;have r2 := HOS.out _ _ hv2;have HV2 := hZ0 hv2;have HD2 := hZ0 hd2;clear hv2 hd2)
     | (go_at_call 152;refine (num_s (by exact HW0.out) a (by have := HMB.out;omega) (by have := HLB.out;omega)).mono ?_;rintro e w3 ⟨rfl,hv1,hd1⟩;have r1 := HOS.out _ _ hv1;have HV1 := hZ0 hv1;have HD1 := hZ0 hd1;clear hv1 hd1))
   have hkk := behind (behind (w := w) (by (repeat' (first | (with_reducible first | exact kR0 | apply kP0 | apply kN0 | apply kD0 | apply kA0) | (with_reducible exact HK.out) | (right;simp;done)))) HD1.out hle) HD2.out hle
   have HKK := hZ0 hkk;clear hkk HD1 HD2
   have hv := HV2.out.tail2
   rw [<- HNX.out] at hv
   have HV := hZ0 hv;clear hv
   go_wp2
   go_roundw
   case rel => exact ⟨i + 1,by omega,by go_num,HV.out,HKK.out⟩
   case measure => simp [intOf];omega
  ·obtain rfl : i = l.length := by omega
   rw [List.take_length] at hws
   have hfl := flatLen memB l 18 (fun y hy => by
    have b1 := HID.out.1 y hy
    have b2 := HID.out.2 y hy
    have c1 := putN_len (n := y.1.toNat) (by omega)
    have c2 := putN_len (n := y.2.toNat) (by omega)
    unfold memB
    rw [List.length_append];omega)
   have hLB : (hdr ++ l.flatMap memB).length <= 200 := by rw [List.length_append];have := HHDR.out.2.1;omega
   have z2 : wr.cell? ⟨w.heap.size,2,none⟩ = some (.int .u64 fn) := (hws.has (List.mem_singleton.2 rfl)).cell 2
   have HWF := hZ0 hws;have HLB := hZ0 hLB;clear hws hLB hfl
   go_wp2_with fail
   refine (big_s HWF.out fn HFN.out (by have := HLB.out;omega)).mono ?_
   rintro e w5 ⟨rfl,hw5,hb5⟩
   have HW5 := hZ0 hw5;have HB5 := hZ0 hb5;clear hw5 hb5 z2
   go_wp2_with fail
   refine (done_s HW5.out (by have := HHDR.out.2.2;simp;intro h;exact absurd h this)).mono ?_
   rintro e w6 ⟨rfl,hb⟩
   have hkk := behind (behind HK.out HB5.out hle) hb hle
   have HKK := hZ0 hkk;clear hkk hb
   go_wp2
   go_ret2
   exact ⟨by rw [<- HHDR.out.1];simp only [List.append_assoc];rfl,HKK.out⟩
theorem iput_any (w : World) (y : EntR) (hs : Src w 3 y.A y.ops.length (cells y.ops)) (hts : 0 <= y.ts /\ y.ts <= maxTs) :
  Calls Tryz.prog 155 #[eagg y] w fun e w' => e = .returned (.tuple #[.string (entR y),.int .i64 (Ops.chk (bat y))]) /\ Kept NoF w w' := by
 have hput := fun W (hW : Kept NoF w W) => oput_any W (bat y) y.A y.c (hs.kept hW (fun _ _ x => x))
 have hE : entR y = if Ops.chk (bat y) = 0 then ofL (put y.ts.toNat ++ putT (putR (bat y))) else emp := by
  unfold entR putE putR
  by_cases h : Ops.chk (bat y) = 0
  ·rw [if_pos h,if_pos h,if_pos h]
  ·rw [if_neg h,if_neg h]
 rw [hE]
 have hlen : (putR (bat y)).size <= 103 := by have := batR_len (bat y);unfold batR at this;unfold putR;exact this
 obtain ⟨z,hz⟩ : ∃ z,Ops.chk (bat y) = z := ⟨_,rfl⟩
 obtain ⟨s,hs2⟩ : ∃ s,putR (bat y) = s := ⟨_,rfl⟩
 rw [hz,hs2] at hput ⊢
 rw [hs2] at hlen
 clear hE hz hs2 hs
 obtain ⟨cl,req,A,c,ops,ts⟩ := y
 dsimp only [bat,bagg] at hput hts ⊢
 obtain ⟨tn,rfl⟩ : ∃ tn : Nat,ts = tn := ⟨ts.toNat,by omega⟩
 have htn : tn < 18446744073709551616 := by unfold maxTs at hts;omega
 rw [Int.toNat_natCast]
 have HPUT := hZ0 hput;have HTN := hZ0 htn;have HLEN := hZ0 hlen
 clear hput htn hts hlen
 have HB0 := hZ0 (Has.new w 72 #[.int .i64 cl,.int .i64 req,.slice A ops.length c,.int .u64 tn])
 by_cases h0 : z = 0
 rotate_left
 ·rw [if_neg h0]
  have hz2 : (z != 0) = true := by simpa using h0
  clear h0
  go_enter Tryz.func155,Tryz.ntmps155
  go_wp2_with fail
  refine (HPUT.out _ (by (repeat' (first | (with_reducible first | exact kR0 | apply kP0 | apply kN0 | apply kD0 | apply kA0) | (right;simp;done))))).mono ?_
  rintro e w2 ⟨rfl,hk⟩
  have hk2 := Kept.then (a := w) (by (repeat' (first | (with_reducible first | exact kR0 | apply kP0 | apply kN0 | apply kD0 | apply kA0) | (right;simp;done)))) hk
  have HK2 := hZ0 hk2;clear hk2 hk
  go_wp2
  go_ret2
  exact ⟨rfl,HK2.out⟩
 rw [if_pos h0]
 subst h0
 obtain ⟨R,hR⟩ : ∃ R,put tn ++ putT s = R := ⟨_,rfl⟩
 have hR0 : R ≠ [] := by
  rw [<- hR]
  have h1 := put_pos tn
  intro e
  have := congrArg List.length e
  simp only [List.length_append,List.length_nil] at this
  omega
 rw [hR]
 have HR := hZ0 (And.intro hR hR0);clear hR hR0
 go_enter Tryz.func155,Tryz.ntmps155
 go_wp2_with fail
 refine (HPUT.out _ (by (repeat' (first | (with_reducible first | exact kR0 | apply kP0 | apply kN0 | apply kD0 | apply kA0) | (right;simp;done))))).mono ?_
 rintro e w2 ⟨rfl,hk⟩
 have hb2 := Has.kept (F := NoF) HB0.out hk (fun x => x)
 have hk2 := Kept.then (a := w) (by (repeat' (first | (with_reducible first | exact kR0 | apply kP0 | apply kN0 | apply kD0 | apply kA0) | (right;simp;done)))) hk
 have c0 : w2.cell? ⟨w.heap.size,3,none⟩ = some (.int .u64 tn) := hb2.cell 3
 have HB2 := hZ0 hb2;clear hb2
 have HK2 := hZ0 hk2;clear hk2 hk
 have hnew : ∀ W,Has W w.heap.size 72 #[.int .i64 cl,.int .i64 req,.slice A ops.length c,.int .u64 tn] -> Calls Tryz.prog 151 #[] W fun e w' => ∃ g,e = .returned (.pointer (some ⟨g,0,none⟩)) /\ WS W.heap.size w' g [] [(w.heap.size,72,#[.int .i64 cl,.int .i64 req,.slice A ops.length c,.int .u64 tn])] /\ Kept NoF W w' :=
  fun W hW => new_s W _ (fun x hx => by simp at hx;subst hx;exact hW)
 have HNEW := hZ0 hnew;clear hnew
 have hss : ∀ W,Has W w.heap.size 72 #[.int .i64 cl,.int .i64 req,.slice A ops.length c,.int .u64 tn] -> (W.cell? ⟨w.heap.size,3,none⟩ = some (.int .u64 tn)) := fun W hW => hW.cell 3
 have HSS := hZ0 hss;clear hss
 have HLT := hZ0 HB2.out.lt
 go_wp2_with fail
 go_region_held3 (fun W => W.cell? ⟨w.heap.size,3,none⟩ = some (.int .u64 tn)) (first | with_reducible exact q6 | with_reducible exact q5 | with_reducible exact q4 | with_reducible exact q3 | with_reducible exact c0 | (simp [go_sem,c0];done))
  (first
   | (go_at_call 151;refine (HNEW.out _ (by exact HB2.out)).mono ?_;rintro e w3 ⟨g,rfl,hw3,hkk3⟩;have q3 := HSS.out _ (hw3.has (List.mem_singleton.2 rfl));have HW3 := hZ0 hw3;have HKK3 := hZ0 hkk3;clear hw3 hkk3)
   | (go_at_call 156;refine (big_s (by exact HW3.out) tn HTN.out (by simp)).mono ?_;rintro e w4 ⟨rfl,hw4,hb4⟩;have q4 := HSS.out _ (hw4.has (List.mem_singleton.2 rfl));have HW4 := hZ0 hw4;have HB4 := hZ0 hb4;clear hw4 hb4)
   | (go_at_call 154;refine (text_s (by exact HW4.out) s (by have := putN_len (n := tn) (by have := HTN.out;omega);have := HLEN.out;simp;omega)).mono ?_;rintro e w5 ⟨rfl,hw5,hb5⟩;have q5 := HSS.out _ (hw5.has (List.mem_singleton.2 rfl));have HW5 := hZ0 hw5;have HB5 := hZ0 hb5;clear hw5 hb5)
   | (go_at_call 157;refine (done_s (by exact HW5.out) (by rw [List.nil_append,HR.out.1];exact HR.out.2)).mono ?_;rintro e w6 ⟨rfl,hb6⟩;have q6 : w6.cell? ⟨w.heap.size,3,none⟩ = some (.int .u64 tn) := (hb6.cell (p := ⟨w.heap.size,3,none⟩) (by exact HLT.out)).trans q5;have HB6 := hZ0 hb6;clear hb6))
 have hk3 : Kept NoF w w3 := Kept.then (by (repeat' (first | (with_reducible first | exact kR0 | apply kP0 | apply kN0 | apply kD0 | apply kA0) | (with_reducible exact HK2.out) | (right;simp;done)))) HKK3.out
 have hle : w.heap.size <= w2.heap.size := HK2.out.size
 have hk6 : Kept NoF w w6 := behind (behind (behind hk3 HB4.out hle) HB5.out hle) HB6.out hle
 have HK6 := hZ0 hk6
 clear q3 q4 q5 q6 HW3 HW4 HW5 HB4 HB5 HB6 HK2 HKK3 c0 hk3 HNEW HPUT HB0 HB2 hk6 HLT
 go_wp2
 go_ret2
 exact ⟨by rw [<- HR.out.1];rfl,HK6.out⟩
end Msg
end Go.Proofs.YtgffjliedjhbaaaGreat
