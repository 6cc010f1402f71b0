/- Part 18 of what the proof needs. -/
import Derived.Test.YtgbigpdiacjbgaaGreatKO16
set_option linter.unusedSimpArgs false
set_option linter.unusedVariables false
set_option maxHeartbeats 32000000
set_option maxRecDepth 100000
namespace Go.Proofs.YtgbigpdiacjbgaaGreat
open Go.RowKit Go.Shelf
set_option maxRecDepth 100000
namespace Msg
open Plan Ops Ent Vn WireO
theorem u64_cells {w : World} {A : Option Addr} {m : Nat} {l : List Int} (h : Src w 1 A m (u64s l)) (hm : 0 < m) (i : Nat) (x : Int) (hx : l[i]? = some x) :
  ∃ ad,A = some ad /\ ad.block < w.heap.size /\ w.cell? (ad.add i) = some (.int .u64 x) := by
 obtain ⟨ad,rfl,had,hcell⟩ := h.2 hm
 exact ⟨ad,rfl,had,hcell i _ (by unfold u64s;rw [List.getElem?_map,hx];rfl)⟩
section
variable {N : Nat} {w w0 : World} {g : Nat} {bs : List UInt8} {keep : List KB} {x : MsgR}
theorem write_plain (c : Nat) (hl : c ∈ letters) (hn : c ≠ 69 /\ c ≠ 83 /\ c ≠ 82) (h : WS N w g bs keep) (hr : Room N w0 w bs x) (hw : wrongE x c = 0) : Calls Tryz.prog 89 #[.pointer (some ⟨g,0,none⟩),xagg x,.int .i32 c] w (PPost N w g (bs ++ partB x c) keep) := by
 obtain ⟨W0,hW0⟩ : ∃ W0,w.alloc (.cells (xcell x).toArray 63) = W0 := ⟨_,rfl⟩
 have hs0 : WS N W0 g bs ((w.heap.size,.cells (xcell x).toArray 63) :: keep) := by rw [<- hW0];exact h.add _
 have hb0 : Below N w W0 := by rw [<- hW0];exact below_box h _
 have hk0 : Kept NoF w W0 := by rw [<- hW0];(repeat' (first | (with_reducible first | exact kR0 | apply kP0 | apply kN0 | apply kD0 | apply kA0) | (right;simp;done)))
 have hn0 : Has W0 w.heap.size 63 (xcell x).toArray := hs0.has (List.mem_cons_self ..)
 have hcall := plain_any c hl hn hs0 (w0 := w0) ⟨hr.x,hr.k.then hk0,hr.n,hr.len⟩ hw
 have HC := hZ0 hcall;have HB := hZ0 hb0;have HN0 := hZ0 hn0
 have g1 : ((c : Int) == 69) = false := by simpa using (by omega : (c : Int) ≠ 69)
 have g2 : ((c : Int) == 83) = false := by simpa using (by omega : (c : Int) ≠ 83)
 have g3 : ((c : Int) == 82) = false := by simpa using (by omega : (c : Int) ≠ 82)
 clear hn hl hw h hr hs0 hk0 hn0 hb0 hcall
 obtain ⟨ci,hci⟩ : ∃ ci : Int,(c : Int) = ci := ⟨_,rfl⟩
 rw [hci] at g1 g2 g3 HC ⊢
 clear hci
 go_enter Tryz.func89,Tryz.ntmps89
 go_wp2_with (refine wpList_load_row rfl 63 (.tmp 4) rfl w.heap.size rfl 63 _ (0,0) _ HN0.out Tryz.underlying63 rfl (by kernel_rfl) ?_)
 clear hW0
 refine HC.out.mono ?_
 rintro e w3 ⟨rfl,hs3,hb3⟩
 have HS3 := hZ0 hs3.tail;have HB3 := hZ0 (HB.out.trans hb3);clear hs3 hb3
 go_wp2
 go_end0
 exact ⟨rfl,HS3.out,HB3.out⟩
theorem write_69 (h : WS N w g bs keep) (hr : Room N w0 w bs x) (hw : wrongE x 69 = 0) : Calls Tryz.prog 89 #[.pointer (some ⟨g,0,none⟩),xagg x,.int .i32 ((69 : Nat) : Int)] w (PPost N w g (bs ++ partB x 69) keep) := by
 have hE : partB x 69 = put x.es.length ++ x.es.flatMap fun y : EntR => putT (entR y) := rfl
 rw [hE]
 obtain ⟨W0,hW0⟩ : ∃ W0,w.alloc (.cells (xcell x).toArray 63) = W0 := ⟨_,rfl⟩
 have hs0 : WS N W0 g bs ((w.heap.size,.cells (xcell x).toArray 63) :: keep) := by rw [<- hW0];exact h.add _
 have hb0 : Below N w W0 := by rw [<- hW0];exact below_box h _
 have hsl : ∀ W b,WS N W g b ((w.heap.size,.cells (xcell x).toArray 63) :: keep) -> W.cell? ⟨w.heap.size,19,none⟩ = some (.slice x.eA x.es.length x.ec) := fun W b hW => Has.cell (t := 63) (hW.has (List.mem_cons_self ..)) 19
 have hn : x.es.length <= 4 := by
  by_cases hr : 4 < x.es.length
  ·have hw2 : (if 4 < x.es.length then (6 : Int) else firstOf (fun y => Ops.chk (bat y)) x.es) = 0 := hw
   rw [if_pos hr] at hw2;cases hw2
  ·omega
 have hlen := hr.len
 have HR := hZ0 hr;have HN := hZ0 hn;have HLEN := hZ0 hlen;have HSL := hZ0 hsl;have HW := hZ0 hw
 clear hn hlen hr h hE hsl hw
 obtain ⟨l,hl⟩ : ∃ l,x.es = l := ⟨_,rfl⟩
 rw [hl] at HN HSL ⊢
 obtain ⟨A,hA⟩ : ∃ A,x.eA = A := ⟨_,rfl⟩
 rw [hA] at HSL
 have q := HSL.out _ _ hs0
 have HL := hZ0 hl;have HA := hZ0 hA
 have HS0 := hZ0 hs0;have HB0 := hZ0 hb0
 clear hs0 hb0 hl hA
 go_enter Tryz.func89,Tryz.ntmps89
 go_wp2_with fail
 clear hW0
 refine (num_s HS0.out l.length (by have := HN.out;omega) (by have := HLEN.out;omega)).mono ?_
 rintro e w3 ⟨rfl,hs3,hb3⟩
 have q3 := HSL.out _ _ hs3
 have HS3 := hZ0 hs3;have HB3 := hZ0 (HB0.out.trans hb3);clear hs3 hb3
 go_wp2
 have heo : ∀ y ∈ l,0 <= y.ts /\ y.ts <= maxTs := fun y hy => (HR.out.x.eo y (by rw [HL.out];exact hy)).2
 have HEO := hZ0 heo;clear heo
 go_loopw [29] (fun v wr => ∃ i : Nat,i <= l.length /\ v = .int .i64 i /\ WS N wr g (bs ++ put l.length ++ (l.take i).flatMap (fun y : EntR => putT (entR y))) ((w.heap.size,.cells (xcell x).toArray 63) :: keep) /\ Below N w wr) (fun v _ => l.length - (intOf v).toNat)
 case atStart => exact ⟨0,Nat.zero_le _,rfl,by simpa using HS3.out,HB3.out⟩
 case round =>
  obtain ⟨i,hi,rfl,hws,hbw⟩ := hrel
  have HBW := hZ0 hbw;clear hbw
  have hkw := behind HR.out.k HBW.out HR.out.n
  have HKW := hZ0 hkw;clear hkw
  have hnl := HN.out
  by_cases hil : i < l.length
  ·obtain ⟨y,hy⟩ : ∃ y,l[i]? = some y := ⟨_,List.getElem?_eq_getElem hil⟩
   have hyi : l[i] = y := by rw [List.getElem?_eq_getElem hil] at hy;exact Option.some.inj hy
   have hym := List.mem_of_getElem? hy
   have hflat := flat_succ (fun y : EntR => putT (entR y)) l i hil
   rw [hyi] at hflat
   have hfl := flatLen (fun y : EntR => putT (entR y)) (l.take (i + 1)) 130 (fun y hy2 => by
    have hy := List.mem_of_mem_take hy2
    have := putT_len (s := entR y) (m := 121) (entR_len (HEO.out y hy)) (by omega)
    omega)
   rw [hflat,List.length_append] at hfl
   have hmin : (l.take (i + 1)).length <= 4 := by rw [List.length_take];have := HN.out;omega
   have hp := putN_len (n := l.length) (by have := HN.out;omega)
   have hLB : (bs ++ put l.length ++ (l.take i).flatMap (fun y : EntR => putT (entR y))).length <= 110000 := by rw [List.length_append,List.length_append];have := HLEN.out;omega
   obtain ⟨cur,hcur⟩ : ∃ cur,bs ++ put l.length ++ (l.take i).flatMap (fun y : EntR => putT (entR y)) = cur := ⟨_,rfl⟩
   rw [hcur] at hws hLB
   have hnext : bs ++ put l.length ++ (l.take (i + 1)).flatMap (fun y : EntR => putT (entR y)) = cur ++ putT (entR y) := by
    rw [hflat,<- List.append_assoc,hcur]
   have hx := HR.out.x.kept HKW.out
   have hsrc := hx.e
   rw [HL.out,HA.out] at hsrc
   obtain ⟨ad,rfl,had,e0,e1,e2,e3⟩ := ent_cells hsrc (by omega) i y hy
   have hyo := hx.eo y (by rw [HL.out];exact hym)
   have hsz := entR_len hyo.2
   have hcall := iput_any (wr.alloc (.cells #[.int .i64 y.cl,.int .i64 y.req,.slice y.A y.ops.length y.c,.int .u64 y.ts] 183)) y (hyo.1.kept ((Kept.refl NoF wr).alloc _) (fun _ _ z => z)) hyo.2
   obtain ⟨s,hs⟩ : ∃ s,entR y = s := ⟨_,rfl⟩
   obtain ⟨z,hz⟩ : ∃ z,Ops.chk (bat y) = z := ⟨_,rfl⟩
   rw [hs,hz] at hcall
   rw [hs] at hnext hsz
   have HNX := hZ0 hnext;have HLB := hZ0 hLB;have HC := hZ0 hcall;have HSZ := hZ0 hsz;have HWS := hZ0 hws
   clear hnext hflat hfl hcur hmin hy hyi hym hp hLB hx hsrc hyo hsz hcall hs hz hws
   go_wp2_with fail
   refine HC.out.mono ?_
   rintro e w4 ⟨rfl,hk4⟩
   have hs4 := WS.kept (G := NoF) (WS.alloc HWS.out _) hk4
   have hb4 : Below N w w4 := (HBW.out.trans (below_box HWS.out _)).trans (hk4.below (WS.alloc HWS.out _).1 (fun _ z => z.elim))
   have HS4 := hZ0 hs4;have HB4 := hZ0 hb4;clear hs4 hb4 hk4
   go_wp2_with fail
   refine (text_s HS4.out s (by have := HSZ.out;have := HLB.out;omega)).mono ?_
   rintro e w5 ⟨rfl,hs5,hb5⟩
   rw [<- HNX.out] at hs5
   have HS5 := hZ0 hs5;have HB5 := hZ0 (HB4.out.trans hb5);clear hs5 hb5
   go_wp2
   go_roundw
   case rel => exact ⟨i + 1,by omega,by go_num,HS5.out,HB5.out⟩
   case measure => simp [intOf];omega
  ·obtain rfl : i = l.length := by omega
   rw [List.take_length,List.append_assoc] at hws
   have HWS := hZ0 hws.tail;clear hws
   go_wp2
   go_end0
   exact ⟨rfl,HWS.out,HBW.out⟩
theorem write_83 (h : WS N w g bs keep) (hr : Room N w0 w bs x) (hw : wrongE x 83 = 0) : Calls Tryz.prog 89 #[.pointer (some ⟨g,0,none⟩),xagg x,.int .i32 ((83 : Nat) : Int)] w (PPost N w g (bs ++ partB x 83) keep) := by
 have hE : partB x 83 = put x.ss.length ++ x.ss.flatMap fun y : Int => put y.toNat := rfl
 rw [hE]
 obtain ⟨W0,hW0⟩ : ∃ W0,w.alloc (.cells (xcell x).toArray 63) = W0 := ⟨_,rfl⟩
 have hs0 : WS N W0 g bs ((w.heap.size,.cells (xcell x).toArray 63) :: keep) := by rw [<- hW0];exact h.add _
 have hb0 : Below N w W0 := by rw [<- hW0];exact below_box h _
 have hsl : ∀ W b,WS N W g b ((w.heap.size,.cells (xcell x).toArray 63) :: keep) -> W.cell? ⟨w.heap.size,20,none⟩ = some (.slice x.sA x.ss.length x.sc) := fun W b hW => Has.cell (t := 63) (hW.has (List.mem_cons_self ..)) 20
 have hn : x.ss.length <= 8 := by
  by_cases hr : 8 < x.ss.length
  ·have hw2 : (if 8 < x.ss.length then (6 : Int) else 0) = 0 := hw
   rw [if_pos hr] at hw2;cases hw2
  ·omega
 have hlen := hr.len
 have HR := hZ0 hr;have HN := hZ0 hn;have HLEN := hZ0 hlen;have HSL := hZ0 hsl;have HW := hZ0 hw
 clear hn hlen hr h hE hsl hw
 obtain ⟨l,hl⟩ : ∃ l,x.ss = l := ⟨_,rfl⟩
 rw [hl] at HN HSL ⊢
 obtain ⟨A,hA⟩ : ∃ A,x.sA = A := ⟨_,rfl⟩
 rw [hA] at HSL
 have q := HSL.out _ _ hs0
 have HL := hZ0 hl;have HA := hZ0 hA
 have HS0 := hZ0 hs0;have HB0 := hZ0 hb0
 clear hs0 hb0 hl hA
 go_enter Tryz.func89,Tryz.ntmps89
 go_wp2_with fail
 clear hW0
 refine (num_s HS0.out l.length (by have := HN.out;omega) (by have := HLEN.out;omega)).mono ?_
 rintro e w3 ⟨rfl,hs3,hb3⟩
 have q3 := HSL.out _ _ hs3
 have HS3 := hZ0 hs3;have HB3 := hZ0 (HB0.out.trans hb3);clear hs3 hb3
 go_wp2
 have heo : ∀ y ∈ l,0 <= y /\ y <= 18446744073709551615 := fun y hy => HR.out.x.so y (by rw [HL.out];exact hy)
 have HEO := hZ0 heo;clear heo
 go_loopw [52] (fun v wr => ∃ i : Nat,i <= l.length /\ v = .int .i64 i /\ WS N wr g (bs ++ put l.length ++ (l.take i).flatMap (fun y : Int => put y.toNat)) ((w.heap.size,.cells (xcell x).toArray 63) :: keep) /\ Below N w wr) (fun v _ => l.length - (intOf v).toNat)
 case atStart => exact ⟨0,Nat.zero_le _,rfl,by simpa using HS3.out,HB3.out⟩
 case round =>
  obtain ⟨i,hi,rfl,hws,hbw⟩ := hrel
  have HBW := hZ0 hbw;clear hbw
  have hkw := behind HR.out.k HBW.out HR.out.n
  have HKW := hZ0 hkw;clear hkw
  have hnl := HN.out
  by_cases hil : i < l.length
  ·obtain ⟨y,hy⟩ : ∃ y,l[i]? = some y := ⟨_,List.getElem?_eq_getElem hil⟩
   have hyi : l[i] = y := by rw [List.getElem?_eq_getElem hil] at hy;exact Option.some.inj hy
   have hym := List.mem_of_getElem? hy
   have hflat := flat_succ (fun y : Int => put y.toNat) l i hil
   rw [hyi] at hflat
   have hfl := flatLen (fun y : Int => put y.toNat) (l.take (i + 1)) 9 (fun y hy2 => by
    have hy := List.mem_of_mem_take hy2
    have b := HEO.out y hy
    exact putN_len (by omega))
   rw [hflat,List.length_append] at hfl
   have hmin : (l.take (i + 1)).length <= 8 := by rw [List.length_take];have := HN.out;omega
   have hp := putN_len (n := l.length) (by have := HN.out;omega)
   have hLB : (bs ++ put l.length ++ (l.take i).flatMap (fun y : Int => put y.toNat)).length <= 110000 := by rw [List.length_append,List.length_append];have := HLEN.out;omega
   obtain ⟨cur,hcur⟩ : ∃ cur,bs ++ put l.length ++ (l.take i).flatMap (fun y : Int => put y.toNat) = cur := ⟨_,rfl⟩
   rw [hcur] at hws hLB
   have hnext : bs ++ put l.length ++ (l.take (i + 1)).flatMap (fun y : Int => put y.toNat) = cur ++ put y.toNat := by
    rw [hflat,<- List.append_assoc,hcur]
   have hsrc := (HR.out.x.kept HKW.out).s
   rw [HL.out,HA.out] at hsrc
   obtain ⟨ad,rfl,had,e0⟩ := u64_cells hsrc (by omega) i y hy
   have hyo := HEO.out y hym
   obtain ⟨n,rfl⟩ : ∃ n : Nat,y = n := ⟨y.toNat,by omega⟩
   rw [Int.toNat_natCast] at hnext
   have HNX := hZ0 hnext;have HLB := hZ0 hLB;have HYO := hZ0 hyo;have HWS := hZ0 hws
   clear hnext hflat hfl hcur hmin hy hyi hym hp hLB hsrc hyo hws
   go_wp2_with fail
   refine (big_s HWS.out n (by have := HYO.out;omega) (by have := HLB.out;omega)).mono ?_
   rintro e w5 ⟨rfl,hs5,hb5⟩
   rw [<- HNX.out] at hs5
   have HS5 := hZ0 hs5;have HB5 := hZ0 (HBW.out.trans hb5);clear hs5 hb5
   go_wp2
   go_roundw
   case rel => exact ⟨i + 1,by omega,by go_num,HS5.out,HB5.out⟩
   case measure => simp [intOf];omega
  ·obtain rfl : i = l.length := by omega
   rw [List.take_length,List.append_assoc] at hws
   have HWS := hZ0 hws.tail;clear hws
   go_wp2
   go_end0
   exact ⟨rfl,HWS.out,HBW.out⟩
theorem write_82 (h : WS N w g bs keep) (hr : Room N w0 w bs x) (hw : wrongE x 82 = 0) : Calls Tryz.prog 89 #[.pointer (some ⟨g,0,none⟩),xagg x,.int .i32 ((82 : Nat) : Int)] w (PPost N w g (bs ++ partB x 82) keep) := by
 have hE : partB x 82 = put x.ps.length ++ x.ps.flatMap fun y : PairR => putT y.key ++ putT y.val := rfl
 rw [hE]
 obtain ⟨W0,hW0⟩ : ∃ W0,w.alloc (.cells (xcell x).toArray 63) = W0 := ⟨_,rfl⟩
 have hs0 : WS N W0 g bs ((w.heap.size,.cells (xcell x).toArray 63) :: keep) := by rw [<- hW0];exact h.add _
 have hb0 : Below N w W0 := by rw [<- hW0];exact below_box h _
 have hsl : ∀ W b,WS N W g b ((w.heap.size,.cells (xcell x).toArray 63) :: keep) -> W.cell? ⟨w.heap.size,21,none⟩ = some (.slice x.pA x.ps.length x.pc) := fun W b hW => Has.cell (t := 63) (hW.has (List.mem_cons_self ..)) 21
 have hn : x.ps.length <= 32 := by
  by_cases hr : 32 < x.ps.length
  ·have hw2 : (if 32 < x.ps.length then (6 : Int) else firstOf pairE x.ps) = 0 := hw
   rw [if_pos hr] at hw2;cases hw2
  ·omega
 have hlen := hr.len
 have HR := hZ0 hr;have HN := hZ0 hn;have HLEN := hZ0 hlen;have HSL := hZ0 hsl;have HW := hZ0 hw
 clear hn hlen hr h hE hsl hw
 obtain ⟨l,hl⟩ : ∃ l,x.ps = l := ⟨_,rfl⟩
 rw [hl] at HN HSL ⊢
 obtain ⟨A,hA⟩ : ∃ A,x.pA = A := ⟨_,rfl⟩
 rw [hA] at HSL
 have q := HSL.out _ _ hs0
 have HL := hZ0 hl;have HA := hZ0 hA
 have HS0 := hZ0 hs0;have HB0 := hZ0 hb0
 clear hs0 hb0 hl hA
 go_enter Tryz.func89,Tryz.ntmps89
 go_wp2_with fail
 clear hW0
 refine (num_s HS0.out l.length (by have := HN.out;omega) (by have := HLEN.out;omega)).mono ?_
 rintro e w3 ⟨rfl,hs3,hb3⟩
 have q3 := HSL.out _ _ hs3
 have HS3 := hZ0 hs3;have HB3 := hZ0 (HB0.out.trans hb3);clear hs3 hb3
 go_wp2
 have heo : ∀ y ∈ l,y.key.size <= 8 /\ y.val.size <= 8 := by
  have hw2 : (if 32 < x.ps.length then (6 : Int) else firstOf pairE x.ps) = 0 := HW.out
  rw [if_neg (by rw [HL.out];have := HN.out;omega),HL.out] at hw2
  intro y hy
  have hy0 := firstOf_zero hw2 y hy
  unfold pairE keyE at hy0
  by_cases e1 : y.key.size < 1 \/ 8 < y.key.size
  ·rw [if_pos e1,if_pos (by decide)] at hy0;cases hy0
  ·rw [if_neg e1,if_neg (by decide)] at hy0
   refine ⟨by omega,?_⟩
   by_cases e2 : 8 < y.val.size
   ·rw [if_pos e2] at hy0;cases hy0
   ·omega
 have HEO := hZ0 heo;clear heo
 go_loopw [70] (fun v wr => ∃ i : Nat,i <= l.length /\ v = .int .i64 i /\ WS N wr g (bs ++ put l.length ++ (l.take i).flatMap (fun y : PairR => putT y.key ++ putT y.val)) ((w.heap.size,.cells (xcell x).toArray 63) :: keep) /\ Below N w wr) (fun v _ => l.length - (intOf v).toNat)
 case atStart => exact ⟨0,Nat.zero_le _,rfl,by simpa using HS3.out,HB3.out⟩
 case round =>
  obtain ⟨i,hi,rfl,hws,hbw⟩ := hrel
  have HBW := hZ0 hbw;clear hbw
  have hkw := behind HR.out.k HBW.out HR.out.n
  have HKW := hZ0 hkw;clear hkw
  have hnl := HN.out
  by_cases hil : i < l.length
  ·obtain ⟨y,hy⟩ : ∃ y,l[i]? = some y := ⟨_,List.getElem?_eq_getElem hil⟩
   have hyi : l[i] = y := by rw [List.getElem?_eq_getElem hil] at hy;exact Option.some.inj hy
   have hym := List.mem_of_getElem? hy
   have hflat := flat_succ (fun y : PairR => putT y.key ++ putT y.val) l i hil
   rw [hyi] at hflat
   have hfl := flatLen (fun y : PairR => putT y.key ++ putT y.val) (l.take (i + 1)) 34 (fun y hy2 => by
    have hy := List.mem_of_mem_take hy2
    have b := HEO.out y hy
    have b1 := putT_len (s := y.key) (m := 8) (by omega) (by omega)
    have b2 := putT_len (s := y.val) (m := 8) (by omega) (by omega)
    rw [List.length_append];omega)
   rw [hflat,List.length_append] at hfl
   have hmin : (l.take (i + 1)).length <= 32 := by rw [List.length_take];have := HN.out;omega
   have hp := putN_len (n := l.length) (by have := HN.out;omega)
   have hLB : (bs ++ put l.length ++ (l.take i).flatMap (fun y : PairR => putT y.key ++ putT y.val)).length <= 110000 := by rw [List.length_append,List.length_append];have := HLEN.out;omega
   obtain ⟨cur,hcur⟩ : ∃ cur,bs ++ put l.length ++ (l.take i).flatMap (fun y : PairR => putT y.key ++ putT y.val) = cur := ⟨_,rfl⟩
   rw [hcur] at hws hLB
   have hnext : bs ++ put l.length ++ (l.take (i + 1)).flatMap (fun y : PairR => putT y.key ++ putT y.val) = (cur ++ putT y.key) ++ putT y.val := by
    rw [hflat,<- List.append_assoc,hcur]
    simp only [List.append_assoc]
   have hsrc := (HR.out.x.kept HKW.out).p
   rw [HL.out,HA.out] at hsrc
   obtain ⟨ad,rfl,had,e0,e1⟩ := pair_cells hsrc (by omega) i y hy
   have hyo := HEO.out y hym
   have b1 := putT_len (s := y.key) (m := 8) (by omega) (by omega)
   have hw0 := hws.add (.cells #[.string y.key,.string y.val] 84)
   have hos : ∀ W b,WS N W g b ((wr.heap.size,.cells #[.string y.key,.string y.val] 84) :: (w.heap.size,.cells (xcell x).toArray 63) :: keep) -> (W.cell? ⟨wr.heap.size,0,none⟩ = some (.string y.key) /\ W.cell? ⟨wr.heap.size,1,none⟩ = some (.string y.val)) :=
    fun W b hW => ⟨Has.cell (t := 84) (hW.has (List.mem_cons_self ..)) 0,Has.cell (t := 84) (hW.has (List.mem_cons_self ..)) 1⟩
   have hbx := HBW.out.trans (below_box hws (.cells #[.string y.key,.string y.val] 84))
   have HNX := hZ0 hnext;have HLB := hZ0 hLB;have HYO := hZ0 (And.intro hyo b1);have HW0 := hZ0 hw0;have HOS := hZ0 hos;have HBX := hZ0 hbx
   clear hnext hflat hfl hcur hmin hy hyi hym hp hLB hsrc hyo hws hw0 hos b1 hbx
   have r0 := HOS.out _ _ HW0.out
   go_wp2_with fail
   go_region_held3 (fun W => W.cell? ⟨wr.heap.size,0,none⟩ = some (.string y.key) /\ W.cell? ⟨wr.heap.size,1,none⟩ = some (.string y.val)) (first | with_reducible exact r2 | with_reducible exact r1 | with_reducible exact r0 | (simp [go_sem,r0];done))
    (first
     | (have hx := HV1;clear hx;go_at_call 131;refine (text_s (by exact HV1.out) y.val (by have := HLB.out;have := HYO.out;simp;omega)).mono ?_;rintro e w4 ⟨rfl,hv2,hd2⟩;have r2 := HOS.out _ _ hv2;have HV2 := hZ0 hv2;have HD2 := hZ0 hd2;clear hv2 hd2)
     | (go_at_call 131;refine (text_s (by exact HW0.out) y.key (by have := HLB.out;have := HYO.out;omega)).mono ?_;rintro e w3 ⟨rfl,hv1,hd1⟩;have r1 := HOS.out _ _ hv1;have HV1 := hZ0 hv1;have HD1 := hZ0 hd1;clear hv1 hd1))
   have hb4 : Below N w w4 := (HBX.out.drew.trans HD1.out).trans HD2.out
   have hv := HV2.out.tail
   rw [<- HNX.out] at hv
   have HV := hZ0 hv;have HB4 := hZ0 hb4;clear hv hb4
   go_wp2
   go_roundw
   case rel => exact ⟨i + 1,by omega,by go_num,HV.out,HB4.out⟩
   case measure => simp [intOf];omega
  ·obtain rfl : i = l.length := by omega
   rw [List.take_length,List.append_assoc] at hws
   have HWS := hZ0 hws.tail;clear hws
   go_wp2
   go_end0
   exact ⟨rfl,HWS.out,HBW.out⟩
theorem write_any (c : Nat) (hl : c ∈ letters) (h : WS N w g bs keep) (hr : Room N w0 w bs x) (hw : wrongE x c = 0) : Calls Tryz.prog 89 #[.pointer (some ⟨g,0,none⟩),xagg x,.int .i32 c] w (PPost N w g (bs ++ partB x c) keep) := by
 by_cases h1 : c = 69
 ·subst h1;exact write_69 h hr hw
 by_cases h2 : c = 83
 ·subst h2;exact write_83 h hr hw
 by_cases h3 : c = 82
 ·subst h3;exact write_82 h hr hw
 exact write_plain c hl ⟨h1,h2,h3⟩ h hr hw
end
end Msg
namespace Msg
open Plan Ops Ent Vn WireO
theorem chkM_ok {x : MsgR} (h : chkM x = 0) : isKind x.k = true /\ ∀ c ∈ partsOf x.k,wrongE x c = 0 := by
 unfold chkM at h
 by_cases hk : isKind x.k = true
 ·rw [if_pos hk] at h;exact ⟨hk,firstOf_zero h⟩
 ·rw [if_neg hk] at h;cases h
theorem mput_any (w : World) (x : MsgR) (h : XOk w x) : Calls Tryz.prog 53 #[xagg x] w fun e w' => e = .returned (.tuple #[.string (msgR x),.int .i64 (chkM x)]) /\ Kept NoF w w' := by
 obtain ⟨W0,hW0⟩ : ∃ W0,w.alloc (.cells (xcell x).toArray 63) = W0 := ⟨_,rfl⟩
 have hk0 : Kept NoF w W0 := by rw [<- hW0];(repeat' (first | (with_reducible first | exact kR0 | apply kP0 | apply kN0 | apply kD0 | apply kA0) | (right;simp;done)))
 have hn0 : Has W0 w.heap.size 63 (xcell x).toArray := by rw [<- hW0];exact Has.new _ _ _
 have hchk := mcheck_any W0 x (h.kept hk0)
 have HK0 := hZ0 hk0;have HN0 := hZ0 hn0;have HX := hZ0 h
 have hlt0 : w.heap.size < W0.heap.size := hn0.lt
 clear hk0 hn0 h
 by_cases hz : chkM x = 0
 rotate_left
 ·have hr : msgR x = emp := by unfold msgR;rw [if_neg hz]
  rw [hr]
  obtain ⟨z,hz1⟩ : ∃ z,chkM x = z := ⟨_,rfl⟩
  rw [hz1] at hz hchk ⊢
  have hz2 : (z != 0) = true := by simpa using hz
  have HC := hZ0 hchk
  clear hr hz hz1 hchk hlt0
  go_enter Tryz.func53,Tryz.ntmps53
  go_wp2_with (refine wpList_load_row rfl 63 (.tmp 1) rfl w.heap.size rfl 63 _ (0,0) _ HN0.out Tryz.underlying63 rfl (by kernel_rfl) ?_)
  clear hW0
  refine HC.out.mono ?_
  rintro e w2 ⟨rfl,hk⟩
  have HK := hZ0 (HK0.out.then hk);clear hk
  go_wp2
  go_ret2
  exact ⟨rfl,HK.out⟩
 have hr : msgR x = ofL (putM x) := by unfold msgR;rw [if_pos hz]
 rw [hr]
 obtain ⟨hkk,hwr⟩ := chkM_ok hz
 rw [hz] at hchk ⊢
 have hk15 : 1 <= x.k /\ x.k <= 15 := of_decide_eq_true hkk
 have hp := fun W => parts_yes W x.k hkk
 have hlet := parts_letters x.k
 have hl7 := parts_len x.k
 have hpm : putM x = put x.k.toNat ++ (partsOf x.k).flatMap (partB x) := rfl
 rw [hpm]
 obtain ⟨l,hl⟩ : ∃ l,partsOf x.k = l := ⟨_,rfl⟩
 rw [hl] at hp hlet hl7 hwr ⊢
 obtain ⟨k,hk⟩ : ∃ k : Nat,x.k = k := ⟨x.k.toNat,by omega⟩
 have hq : ∀ W,Has W w.heap.size 63 (xcell x).toArray -> W.cell? ⟨w.heap.size,0,none⟩ = some (.int .i64 (k : Int)) := fun W hW => by
  have h0 : W.cell? ⟨w.heap.size,0,none⟩ = some (.int .i64 x.k) := hW.cell 0
  rw [hk] at h0
  exact h0
 rw [hk] at hp hk15 ⊢
 rw [Int.toNat_natCast]
 have HC := hZ0 hchk;have HP := hZ0 hp;have HLET := hZ0 hlet;have HL7 := hZ0 hl7;have HWR := hZ0 hwr;have HQ := hZ0 hq;have HK15 := hZ0 hk15;have HLT0 := hZ0 hlt0
 clear hchk hp hlet hl7 hwr hq hz hr hkk hk hl hpm hk15 hlt0
 have q0 := HQ.out _ HN0.out
 go_enter Tryz.func53,Tryz.ntmps53
 go_wp2_with (refine wpList_load_row rfl 63 (.tmp 1) rfl w.heap.size rfl 63 _ (0,0) _ HN0.out Tryz.underlying63 rfl (by kernel_rfl) ?_)
 clear hW0 q0
 refine HC.out.mono ?_
 rintro e w2 ⟨rfl,hk2⟩
 have HN2 := hZ0 (HN0.out.kept hk2 (fun z => z));have HK2 := hZ0 (HK0.out.then hk2);clear hk2
 have q0 := HQ.out _ HN2.out
 go_wp2_with fail
 clear q0
 refine (HP.out _).mono ?_
 rintro e w3 ⟨rfl,hk3⟩
 have HN3 := hZ0 (HN2.out.kept hk3 (fun z => z));have HK3 := hZ0 (HK2.out.then hk3);clear hk3
 have c0 := HQ.out _ HN3.out
 have hnew : ∀ W,Has W w.heap.size 63 (xcell x).toArray -> Calls Tryz.prog 87 #[] W fun e w' => ∃ g,e = .returned (.pointer (some ⟨g,0,none⟩)) /\ WS W.heap.size w' g [] [(w.heap.size,.cells (xcell x).toArray 63)] /\ Kept NoF W w' :=
  fun W hW => new_s W _ (fun y hy => by simp at hy;subst hy;exact hW)
 have HNEW := hZ0 hnew;clear hnew
 go_wp2_with fail
 go_region_held3 (fun W => W.cell? ⟨w.heap.size,0,none⟩ = some (.int .i64 (k : Int))) (first | with_reducible exact q5 | with_reducible exact q4 | with_reducible exact c0 | (simp [go_sem,c0];done))
  (first
   | (go_at_call 87;refine (HNEW.out _ (by exact HN3.out)).mono ?_;rintro e w4 ⟨g,rfl,hw4,hkk4⟩;have q4 := HQ.out _ (hw4.has (List.mem_singleton.2 rfl));have HW4 := hZ0 hw4;have HKK4 := hZ0 hkk4;clear hw4 hkk4)
   | (go_at_call 88;refine (num_s (by exact HW4.out) k (by have := HK15.out;omega) (by simp)).mono ?_;rintro e w5 ⟨rfl,hw5,hb5⟩;have q5 := HQ.out _ (hw5.has (List.mem_singleton.2 rfl));have HW5 := hZ0 hw5;have HB5 := hZ0 hb5;clear hw5 hb5))
 have hk4 : Kept NoF w w4 := Kept.then (by (repeat' (first | (with_reducible first | exact kR0 | apply kP0 | apply kN0 | apply kD0 | apply kA0) | (with_reducible exact HK3.out) | (right;simp;done)))) HKK4.out
 have hle : w.heap.size <= w3.heap.size := HK3.out.size
 have hk5 : Kept NoF w w5 := behind hk4 HB5.out hle
 have hw5 := HW5.out
 simp only [List.nil_append] at hw5
 have hN : (w3.drewN 0).heap.size = w3.heap.size := rfl
 clear q4 q5 c0 HW4 HW5 HB5 HKK4 hk4 HNEW HC HP hN
 have HW5 := hZ0 hw5;have HK5 := hZ0 hk5;have HLE := hZ0 hle;clear hw5 hk5 hle
 have hplen := putN_len (n := k) (by have := HK15.out;omega)
 have hne : put k ≠ [] := by
  intro e
  have h1 := put_pos k
  rw [e] at h1
  simp at h1
 have HH := hZ0 (And.intro hplen hne);clear hplen hne
 go_wp2_with fail
 go_loopg [] l.length (fun gf wx => ∃ i : Nat,i <= l.length /\ WS w3.heap.size wx g (put k ++ (l.take i).flatMap (partB x)) [(w5.heap.size,.stringIter (lets l) i),(w.heap.size,.cells (xcell x).toArray 63)] /\ Kept NoF w wx /\ l.length <= i + gf)
 case atStart => exact ⟨0,Nat.zero_le _,(by rw [List.take_zero,List.flatMap_nil,List.append_nil];exact HW5.out.add (.stringIter (lets l) 0)),HK5.out.alloc _,by omega⟩
 case round =>
  obtain ⟨i,hi,hws,hk,hfu⟩ := hrel
  have HK := hZ0 hk;clear hk
  have hit : wr.heap[w5.heap.size]? = some (.stringIter (lets l) i) := hws.has (List.mem_cons_self ..)
  by_cases hil : i < l.length
  ·obtain ⟨g',rfl⟩ : ∃ g',gk = g' + 1 := ⟨gk - 1,by omega⟩
   obtain ⟨c,hc⟩ : ∃ c,l[i]? = some c := ⟨_,List.getElem?_eq_getElem hil⟩
   have hci : l[i] = c := by rw [List.getElem?_eq_getElem hil] at hc;exact Option.some.inj hc
   have hcm := List.mem_of_getElem? hc
   obtain ⟨hps,hb,ha⟩ := lets_at HLET.out hc
   have hnx : ∀ ty,(Instr.next (.pointer (some ⟨w5.heap.size,0,none⟩)) true ty).run Tryz.prog wr = _ := fun ty => Lib.run_next_ascii_at wr w5.heap.size (lets l) i ty hit hps ha
   rw [hb] at hnx
   have h05 := obj_lt (HW5.out.has (List.mem_singleton.2 rfl))
   have hs2 := hws.iterAt (q := i + 1) (fun y hy => by simp at hy;subst hy;dsimp only;dsimp only at h05;omega)
   have hk2 := Kept.iterAt HK.out (k := w5.heap.size) (.inr HK5.out.size) (lets l) (i + 1)
   obtain ⟨W,hWd⟩ : ∃ W,wr.iterAt w5.heap.size (lets l) (i + 1) = W := ⟨_,rfl⟩
   rw [hWd] at hnx hs2 hk2
   have hfl := flatLen (partB x) (l.take i) 1100 (fun y hy => partB_len HX.out (HWR.out y (List.mem_of_mem_take hy)))
   have hmin : (l.take i).length <= 7 := by rw [List.length_take];have := HL7.out;omega
   have hlen : (put k ++ (l.take i).flatMap (partB x)).length <= 100000 := by rw [List.length_append];have := HH.out.1;omega
   have hcall := write_any (w0 := w) c (HLET.out c hcm) hs2 ⟨HX.out,hk2,HLE.out,hlen⟩ (HWR.out c hcm)
   have hflat := flat_succ (partB x) l i hil
   rw [hci] at hflat
   rw [List.append_assoc,<- hflat] at hcall
   have HCC := hZ0 hcall;have HS2 := hZ0 hs2;have HKW := hZ0 hk2
   clear hcall hs2 hk2 hWd hb ha hps hit hc hci hcm hfl hmin hlen hflat hws h05
   go_wp2_with (refine wpList_load_row rfl 63 (.tmp 1) rfl w.heap.size rfl 63 _ (0,0) _ (HS2.out.has (x := (w.heap.size,.cells (xcell x).toArray 63)) (List.mem_cons_of_mem _ (List.mem_singleton.2 rfl))) Tryz.underlying63 rfl (by kernel_rfl) ?_)
   refine HCC.out.mono ?_
   rintro e w6 ⟨rfl,hs6,hb6⟩
   have HS6 := hZ0 hs6;have HK6 := hZ0 (behind HKW.out hb6 HLE.out);clear hs6 hb6
   go_wp2
   go_roundg g'
   case measure => omega
   case rel => exact ⟨i + 1,by omega,HS6.out,HK6.out,by omega⟩
  ·obtain rfl : i = l.length := by omega
   rw [List.take_length] at hws
   have hps : ¬ l.length < (lets l).size := by rw [lets_size];omega
   have hnx : ∀ ty,(Instr.next (.pointer (some ⟨w5.heap.size,0,none⟩)) true ty).run Tryz.prog wr = _ := fun ty => Lib.run_next_end_at wr w5.heap.size (lets l) l.length ty hit hps
   obtain ⟨R,hR⟩ : ∃ R,put k ++ l.flatMap (partB x) = R := ⟨_,rfl⟩
   rw [hR] at hws
   have hne : R ≠ [] := by
    rw [<- hR]
    have := HH.out.2
    simp;intro h;exact absurd h this
   have HWS := hZ0 hws;have HNE := hZ0 hne;have HR := hZ0 hR;clear hit hps hne hws hR
   go_wp2_with fail
   refine (done_s HWS.out HNE.out).mono ?_
   rintro e w6 ⟨rfl,hb6⟩
   have HK6 := hZ0 (behind HK.out hb6 HLE.out);clear hb6
   go_wp2
   go_ret2
   exact ⟨by rw [HR.out];rfl,HK6.out⟩
end Msg
end Go.Proofs.YtgbigpdiacjbgaaGreat
