/- Part 51 of what the proof needs. -/
import Derived.Test.YtgffjliedjhbaaaGreatZS49
set_option linter.unusedSimpArgs false
set_option linter.unusedVariables false
set_option maxHeartbeats 32000000
set_option maxRecDepth 100000
namespace Go.Proofs.YtgffjliedjhbaaaGreat
open Go.RowKit
set_option maxRecDepth 100000
namespace Stz
open Plan Vn
def Rel2 (w : World) (c B n : Nat) (fl : Int) (gs : Nat -> Nat) (Fs : Nat -> Nat -> Prop) (i : Nat) (wr : World) : Prop :=
 ∃ (cs : List Value) (A : Option Addr) (cc : Nat),CR wr c B i 5 gs Fs cs /\ Has wr B 53 #[.int .i64 1,.slice A (memL n i).length cc,.int .u64 fl] /\ NewSl 57 2 (B + 1) wr A (memL n i).length cc (mcells (memL n i)) /\ Kept NoF w wr
theorem Rel2.mk {w wr : World} {c B n : Nat} {fl : Int} {gs : Nat -> Nat} {Fs : Nat -> Nat -> Prop} {i : Nat} (cs : List Value) (A : Option Addr) (cc : Nat) (h2 : CR wr c B i 5 gs Fs cs) (h3 : Has wr B 53 #[.int .i64 1,.slice A (memL n i).length cc,.int .u64 fl]) (h4 : NewSl 57 2 (B + 1) wr A (memL n i).length cc (mcells (memL n i))) (h5 : Kept NoF w wr) : Rel2 w c B n fl gs Fs i wr := ⟨cs,A,cc,h2,h3,h4,h5⟩
def nilC (e : Option Addr) : List Value := [.pointer none,.pointer none,.pointer none,.pointer none,.pointer none,.pointer none,.pointer none,.pointer none,.pointer none,.pointer none,.pointer none,.pointer none,.pointer none,.pointer e,.int .i64 0,.slice none 0 0]
theorem clnew_any (w : World) (n : Nat) (h1 : 1 <= n) (h4 : n <= 4) (fl : Int) (hfl : 0 <= fl /\ fl <= maxTs) : Calls Tryz.prog 4 #[.int .i64 n,.int .u64 fl] w fun e w' => (∃ p,e = .returned (.tuple #[.pointer p,.int .i64 0])) /\ Kept NoF w w' := by
 have g1 : ¬ (n : Int) < 1 := by omega
 have g2 : ¬ (4 : Int) < n := by omega
 have HN := hZ0 (And.intro h1 h4);have HFL := hZ0 hfl
 clear h1 h4 hfl
 go_enter Tryz.func4,Tryz.ntmps4
 go_wp2_with fail
 refine (etn_any _).mono ?_
 rintro e w1 ⟨⟨ea,rfl⟩,hk1⟩
 clear g1 g2
 go_wp2_with fail
 obtain ⟨W0,hW0⟩ : ∃ W0,w1.alloc (.cells (nilC ea).toArray 49) = W0 := ⟨_,rfl⟩
 have hc0 : Has W0 w1.heap.size 49 (nilC ea).toArray := by rw [<- hW0];exact Has.new _ _ _
 have hk0 : Kept NoF w W0 := by rw [<- hW0];(repeat' (first | (with_reducible first | exact kR0 | apply kP0 | apply kN0 | apply kD0 | apply kA0) | (exact hk1) | (right;simp;done)))
 have hcb := hk1.size
 obtain ⟨c,hc⟩ : ∃ c,w1.heap.size = c := ⟨_,rfl⟩
 have hW0' : w1.alloc (.cells #[.pointer none,.pointer none,.pointer none,.pointer none,.pointer none,.pointer none,.pointer none,.pointer none,.pointer none,.pointer none,.pointer none,.pointer none,.pointer none,.pointer ea,.int .i64 0,.slice none 0 0] 49) = W0 := hW0
 rw [hW0',hc]
 rw [hc] at hc0 hcb
 have HC0 := hZ0 (CR.zero (hi := W0.heap.size) hc0 rfl);have HK0 := hZ0 hk0;have HCB := hZ0 hcb
 clear hW0 hW0' hc hc0 hk0 hcb hk1
 go_loopw [7,20] (fun v7 v20 wr => ∃ (i : Nat) (gs : Nat -> Nat) (Fs : Nat -> Nat -> Prop) (cs : List Value),i <= 5 /\ v20 = .int .i64 i /\ CR wr c wr.heap.size 0 i gs Fs cs /\ Kept NoF w wr) (fun _ v20 _ => 5 - (intOf v20).toNat)
 case atStart => exact ⟨0,_,_,_,by decide,rfl,HC0.out,HK0.out⟩
 case round =>
  obtain ⟨i,gs,Fs,cs,hi,rfl,hcr,hk⟩ := hrel
  have HC := hZ0 hcr;have HK := hZ0 hk
  clear hcr hk
  rcases (show i = 0 \/ i = 1 \/ i = 2 \/ i = 3 \/ i = 4 \/ i = 5 by omega) with rfl | rfl | rfl | rfl | rfl | rfl
  ·go_wp2_with fail
   go_region_held3 (fun W => True) (exact trivial)
    (first | (go_at_call 12;refine (Disk.new_any _).mono ?_;rintro e w2 ⟨g,F,rfl,hd,hk2,hF⟩;have hk3 : Kept NoF wr w2 := Kept.then (by (repeat' (first | (with_reducible first | exact kR0 | apply kP0 | apply kN0 | apply kD0 | apply kA0) | (right;simp;done)))) hk2;obtain ⟨qv,q0⟩ := (HC.out.cl.kept hk3 (fun z => z)).someL (i := 0) (by rw [HC.out.len];decide);have f0 := (HC.out.cl.kept hk3 (fun z => z)).frozen 0;have HD := hZ0 (CR.add HC.out (by decide) hd (fun x hx => by have h5 := hF x hx;simpa using h5) hk3);have HKK := hZ0 (HK.out.then hk3);clear hd hk2 hF hk3))
   go_wp2_with fail
   go_roundw
   case rel => exact ⟨1,_,_,_,by decide,by go_num,by rw [size_setCell];exact HD.out,HKK.out.put (.inr HCB.out)⟩
   case measure => simp [intOf]
  ·go_wp2_with fail
   go_region_held3 (fun W => True) (exact trivial)
    (first | (go_at_call 12;refine (Disk.new_any _).mono ?_;rintro e w2 ⟨g,F,rfl,hd,hk2,hF⟩;have hk3 : Kept NoF wr w2 := Kept.then (by (repeat' (first | (with_reducible first | exact kR0 | apply kP0 | apply kN0 | apply kD0 | apply kA0) | (right;simp;done)))) hk2;obtain ⟨qv,q0⟩ := (HC.out.cl.kept hk3 (fun z => z)).someL (i := 1) (by rw [HC.out.len];decide);have f0 := (HC.out.cl.kept hk3 (fun z => z)).frozen 1;have HD := hZ0 (CR.add HC.out (by decide) hd (fun x hx => by have h5 := hF x hx;simpa using h5) hk3);have HKK := hZ0 (HK.out.then hk3);clear hd hk2 hF hk3))
   go_wp2_with fail
   go_roundw
   case rel => exact ⟨2,_,_,_,by decide,by go_num,by rw [size_setCell];exact HD.out,HKK.out.put (.inr HCB.out)⟩
   case measure => simp [intOf]
  ·go_wp2_with fail
   go_region_held3 (fun W => True) (exact trivial)
    (first | (go_at_call 12;refine (Disk.new_any _).mono ?_;rintro e w2 ⟨g,F,rfl,hd,hk2,hF⟩;have hk3 : Kept NoF wr w2 := Kept.then (by (repeat' (first | (with_reducible first | exact kR0 | apply kP0 | apply kN0 | apply kD0 | apply kA0) | (right;simp;done)))) hk2;obtain ⟨qv,q0⟩ := (HC.out.cl.kept hk3 (fun z => z)).someL (i := 2) (by rw [HC.out.len];decide);have f0 := (HC.out.cl.kept hk3 (fun z => z)).frozen 2;have HD := hZ0 (CR.add HC.out (by decide) hd (fun x hx => by have h5 := hF x hx;simpa using h5) hk3);have HKK := hZ0 (HK.out.then hk3);clear hd hk2 hF hk3))
   go_wp2_with fail
   go_roundw
   case rel => exact ⟨3,_,_,_,by decide,by go_num,by rw [size_setCell];exact HD.out,HKK.out.put (.inr HCB.out)⟩
   case measure => simp [intOf]
  ·go_wp2_with fail
   go_region_held3 (fun W => True) (exact trivial)
    (first | (go_at_call 12;refine (Disk.new_any _).mono ?_;rintro e w2 ⟨g,F,rfl,hd,hk2,hF⟩;have hk3 : Kept NoF wr w2 := Kept.then (by (repeat' (first | (with_reducible first | exact kR0 | apply kP0 | apply kN0 | apply kD0 | apply kA0) | (right;simp;done)))) hk2;obtain ⟨qv,q0⟩ := (HC.out.cl.kept hk3 (fun z => z)).someL (i := 3) (by rw [HC.out.len];decide);have f0 := (HC.out.cl.kept hk3 (fun z => z)).frozen 3;have HD := hZ0 (CR.add HC.out (by decide) hd (fun x hx => by have h5 := hF x hx;simpa using h5) hk3);have HKK := hZ0 (HK.out.then hk3);clear hd hk2 hF hk3))
   go_wp2_with fail
   go_roundw
   case rel => exact ⟨4,_,_,_,by decide,by go_num,by rw [size_setCell];exact HD.out,HKK.out.put (.inr HCB.out)⟩
   case measure => simp [intOf]
  ·go_wp2_with fail
   go_region_held3 (fun W => True) (exact trivial)
    (first | (go_at_call 12;refine (Disk.new_any _).mono ?_;rintro e w2 ⟨g,F,rfl,hd,hk2,hF⟩;have hk3 : Kept NoF wr w2 := Kept.then (by (repeat' (first | (with_reducible first | exact kR0 | apply kP0 | apply kN0 | apply kD0 | apply kA0) | (right;simp;done)))) hk2;obtain ⟨qv,q0⟩ := (HC.out.cl.kept hk3 (fun z => z)).someL (i := 4) (by rw [HC.out.len];decide);have f0 := (HC.out.cl.kept hk3 (fun z => z)).frozen 4;have HD := hZ0 (CR.add HC.out (by decide) hd (fun x hx => by have h5 := hF x hx;simpa using h5) hk3);have HKK := hZ0 (HK.out.then hk3);clear hd hk2 hF hk3))
   go_wp2_with fail
   go_roundw
   case rel => exact ⟨5,_,_,_,by decide,by go_num,by rw [size_setCell];exact HD.out,HKK.out.put (.inr HCB.out)⟩
   case measure => simp [intOf]
  ·rw [show ((5 : Nat) : Int) = 5 from rfl]
   obtain ⟨B,hB⟩ : ∃ B,wr.heap.size = B := ⟨_,rfl⟩
   have hcl0 := HC.out.cl.lt
   go_wp2_with fail
   obtain ⟨W1,hW1⟩ : ∃ W1,wr.alloc (.cells #[.int .i64 1,.slice none 0 0,.int .u64 fl] 53) = W1 := ⟨_,rfl⟩
   have hx1 : Has W1 B 53 #[.int .i64 1,.slice none 0 0,.int .u64 fl] := by rw [<- hW1,<- hB];exact Has.new _ _ _
   have hk1 : Kept NoF wr W1 := by rw [<- hW1];(repeat' (first | (with_reducible first | exact kR0 | apply kP0 | apply kN0 | apply kD0 | apply kA0) | (right;simp;done)))
   have hcr1 : CR W1 c B 0 5 gs Fs cs := by rw [<- hB];exact HC.out.kept hk1 (fun _ z => z.elim) hcl0
   have HX1 := hZ0 hx1;have HCR1 := hZ0 hcr1;have HK1 := hZ0 (HK.out.then hk1);have HCLT := hZ0 (show c < B by omega)
   clear hx1 hk1 hcr1 hcl0
   rw [hW1]
   try rw [hB]
   clear hW1 hB HC HK
   go_loopw [9,32] (fun v9 v32 wr => ∃ (i : Nat),i <= 4 /\ v32 = .int .i64 i /\ Rel2 w c B n fl gs Fs i wr) (fun _ v32 _ => 4 - (intOf v32).toNat)
   case atStart => exact ⟨0,by decide,rfl,Rel2.mk cs none 0 HCR1.out (by rw [memL_len,Nat.zero_min];exact HX1.out) (by rw [show memL n 0 = [] by simp [memL]];exact ⟨⟨rfl,.inl ⟨rfl,rfl⟩⟩,fun k hk => by cases hk⟩) HK1.out⟩
   case round =>
    clear HCR1 HX1 HK1
    obtain ⟨i,hi,rfl,cs,A,cc,hcr,hx,hr,hk⟩ := hrel
    have HC := hZ0 hcr;have HX := hZ0 hx;have HR := hZ0 hr;have HK := hZ0 hk
    clear hcr hx hr hk
    rcases (show i = 0 \/ i = 1 \/ i = 2 \/ i = 3 \/ i = 4 by omega) with rfl | rfl | rfl | rfl | rfl
    ·have hq : wr.cell? ⟨c,0,none⟩ = some (.pointer (some ⟨gs 0,0,none⟩)) := by rw [HC.out.cl.cell];simpa using HC.out.ce 0 (by decide) (by decide)
     have hdi := HC.out.ds.at' 0 (by decide) (by decide)
     have hlo := fun x (hx : Fs 0 x) => HC.out.ds.lo 0 x (by decide) (by decide) hx
     have hce := HC.out.ce 0 (by decide) (by decide)
     obtain ⟨g,hg⟩ : ∃ g,gs 0 = g := ⟨_,rfl⟩
     rw [hg] at hq hdi hce
     have HDI := hZ0 hdi;have HLO := hZ0 hlo;have HCE := hZ0 hce;have HZ := hZ0 HC.out.cl.lt
     clear hdi hlo hce
     go_wp2_with fail
     go_region_held3 (fun W => W.cell? ⟨c,0,none⟩ = some (.pointer (some ⟨g,0,none⟩))) (first | with_reducible exact hq3 | with_reducible exact hq | (simp [go_sem,hq3];done) | (simp [go_sem,hq];done))
      (first | (go_at_call 13;refine (start_any (HDI.out.kept (show Kept NoF wr _ by (repeat' (first | (with_reducible first | exact kR0 | apply kP0 | apply kN0 | apply kD0 | apply kA0) | (right;simp;done)))) (fun _ _ z => z)) 0 (by decide) (by decide)).mono ?_;rintro e w3 ⟨⟨v,rfl⟩,⟨F9,n9,m9,hd9,hF9⟩,hk3'⟩;have hk3 : Kept (Fs 0) wr w3 := Kept.then (by (repeat' (first | (with_reducible first | exact kR0 | apply kP0 | apply kN0 | apply kD0 | apply kA0) | (right;simp;done)))) hk3';have hcr3 := HC.out.drop hk3 (by decide);have hq3 : w3.cell? ⟨c,0,none⟩ = some (.pointer (some ⟨g,0,none⟩)) := (by rw [hcr3.cl.cell];simpa using HCE.out);obtain ⟨qv,q5⟩ := hcr3.cl.someL (i := 5) (by rw [hcr3.len];decide);have f5 := hcr3.cl.frozen 5;have HCR3 := hZ0 hcr3;have HD9 := hZ0 hd9;have HF9 := hZ0 hF9;have HK3 := hZ0 hk3;clear hcr3 hd9 hF9 hk3 hk3'))
     obtain ⟨W4,hW4⟩ : ∃ W4,w3.setCell ⟨c,5,none⟩ (.pointer v) = W4 := ⟨_,rfl⟩
     have hcr4 : CR W4 c B 1 5 gs Fs (cs.set 5 (.pointer v)) := by rw [<- hW4];exact HCR3.out.set 5 _ (by decide)
     have hk34 : Kept (fun k => k = c) w3 W4 := by rw [<- hW4];(repeat' (first | (with_reducible first | exact kR0 | apply kP0 | apply kN0 | apply kD0 | apply kA0) | (exact .inl rfl) | (right;simp;done)))
     have hd4 : Disk.DiskAt W4 g F9 n9 m9 [] 1 1 := HD9.out.kept hk34 (fun x hx e => by
      rcases HF9.out x hx with y | y
      ·have := HLO.out x y;omega
      ·have h5 := HZ.out;simp at y;omega)
     have hx4 : Has W4 B 53 #[.int .i64 1,.slice A (memL n 0).length cc,.int .u64 fl] := (HX.out.kept HK3.out (fun e => by have := HLO.out B e;omega)).kept hk34 (fun e => by have := HCLT.out;omega)
     have hr4 : NewSl 57 2 (B + 1) W4 A (memL n 0).length cc (mcells (memL n 0)) := ⟨own_kept (own_kept HR.out.1 HK3.out (fun k hk e => by have := HLO.out k e;have := HR.out.2 k hk;omega)) hk34 (fun k hk e => by have := HR.out.2 k hk;have := HCLT.out;omega),HR.out.2⟩
     have hkw : Kept NoF w W4 := (HK.out.trans HK3.out (fun k hk => .inr (by have := HLO.out k hk;have := HCB.out;omega))).trans hk34 (fun k hk => .inr (by have := HCB.out;omega))
     have h4c : W4.cell? ⟨c,0,none⟩ = some (.pointer (some ⟨g,0,none⟩)) := by rw [hcr4.cl.cell];simpa using HCE.out
     rw [hW4]
     have HC4 := hZ0 hcr4;have HD4 := hZ0 hd4;have HX4 := hZ0 hx4;have HR4 := hZ0 hr4;have HK4 := hZ0 hkw
     clear hcr4 hk34 hd4 hx4 hr4 hkw hW4 hq hq3 q5 f5 HC HX HR HK HDI HLO HCR3 HD9 HF9 HK3 HZ
     by_cases hin : 0 < n
     ·have hin2 : (0 : Int) < (n : Int) := by omega
      obtain ⟨L,hL⟩ : ∃ L,memL n 0 = L := ⟨_,rfl⟩
      have hLn : L.length = 0 := by rw [<- hL,memL_len];omega
      have hsn := memL_snoc hin
      rw [hL] at hsn HX4 HR4
      rw [hLn] at HX4 HR4
      have hse := fun W (hW : Kept NoF W4 W) => Disk.serial_any (HD4.out.kept hW (fun _ _ z => z))
      have z : W4.cell? ⟨B,1,none⟩ = some (.slice A 0 cc) := HX4.out.cell 1
      have za : ∀ o,(W4.alloc o).cell? ⟨B,1,none⟩ = some (.slice A 0 cc) := fun o => (HX4.out.alloc o).cell 1
      have zb : ∀ n o,((W4.drewN n).alloc o).cell? ⟨B,1,none⟩ = some (.slice A 0 cc) := fun n o => ((HX4.out.drewN n).alloc o).cell 1
      have ya : ∀ o,(W4.alloc o).cell? ⟨c,0,none⟩ = some (.pointer (some ⟨g,0,none⟩)) := fun o => by rw [(HC4.out.cl.alloc o).cell];simpa using HCE.out
      have yb : ∀ n o,((W4.drewN n).alloc o).cell? ⟨c,0,none⟩ = some (.pointer (some ⟨g,0,none⟩)) := fun n o => by rw [((HC4.out.cl.drewN n).alloc o).cell];simpa using HCE.out
      have HSE := hZ0 hse;have HSN := hZ0 hsn;have HL := hZ0 hL
      have HM1 : Hid (0 + 1 <= maxLen) := hZ0 (by decide)
      have HM2 : Hid ((0 + 1) * 16 <= 140737488355328) := hZ0 (by decide)
      clear hse hsn hL hin
      go_wp2_with fail
      go_region_law (first
       | (go_simp;go_at_call 14;refine (HSE.out _ (by (repeat' (first | (with_reducible first | exact kR0 | apply kP0 | apply kN0 | apply kD0 | apply kA0) | (right;simp;done))))).mono ?_;rintro e w' ⟨rfl,rfl⟩)
       | (with_reducible apply step_append_src Plan.elemMem (.tmp 55) (.tmp 65) (n := 0) (xs := mcells L) (A := some ⟨_,0,none⟩) (m := 1) (c := 1) (news := [.int .i64 0,.int .i64 1])
          rfl
          rfl
          exact (rfl : _ = Value.slice A 0 cc)
          (refine own_kept HR4.out.1 (F := NoF) ?_ (fun _ _ x => x);(repeat' (first | (with_reducible first | exact kR0 | apply kP0 | apply kN0 | apply kD0 | apply kA0) | (right;simp;done))))
          exact (rfl : _ = Value.slice (some ⟨_,0,none⟩) 1 1)
          (refine Src.of_has (t := 57) (cs := #[.int .i64 0,.int .i64 1]) ?_ rfl;(repeat (first | with_reducible exact Has.new_at _ _ _ (by simp) | with_reducible apply Has.drew | with_reducible apply Has.drewN | with_reducible apply Has.alloc | (with_reducible apply Has.past <;> (try omega)) )))
          (intro u hu;simp at hu;rcases hu with rfl | rfl <;> rfl)
          (try exact HM1.out)
          (try exact HM2.out)
          intro A9 c9 w9 ho9 hg9 ha9
          have hk9 : Kept (fun k => (Value.slice A 0 cc).ownBlock = some k) W4 w9 := by refine Kept.grown ?_ hg9 (fun k hk => .inl hk);(repeat' (first | (with_reducible first | exact kR0 | apply kP0 | apply kN0 | apply kD0 | apply kA0) | (right;simp;done)))
          have hn9 : NewSl 57 2 (B + 1) w9 A9 (0 + 1) c9 (mcells L ++ [.int .i64 0,.int .i64 1]) := HR4.out.snoc (by have h5 := HX4.out.lt;first | (simp;omega) | omega) ho9 ha9
          have hx9 := HX4.out.kept hk9 (fun e => by have := HR4.out.2 _ e;omega)
          have hcr9 := HC4.out.kept hk9 (fun x hx => .inl (by have := HR4.out.2 _ hx;omega)) HCLT.out
          have hkw9 := HK4.out.trans hk9 (fun k hk => .inr (by have := HR4.out.2 _ hk;have := HCB.out;have := HCLT.out;omega))
          have z9 : w9.cell? ⟨B,1,none⟩ = some (.slice A 0 cc) := hx9.cell 1
          have zf9 : w9.frozen? ⟨B,1,none⟩ = false := hx9.frozen 1
          have HN9 := hZ0 hn9;have HX9 := hZ0 hx9;have HC9 := hZ0 hcr9;have HK9 := hZ0 hkw9
          clear ho9 hg9 ha9 hk9 hn9 hx9 hcr9 hkw9))
      all_goals
       go_wp2
       go_roundw
       case rel =>
        have hkf : Kept (fun k => k = B) w9 (w9.setCell ⟨B,1,none⟩ (.slice A9 (0 + 1) c9)) := by (repeat' (first | (with_reducible first | exact kR0 | apply kP0 | apply kN0 | apply kD0 | apply kA0) | (exact .inl rfl) | (right;simp;done)))
        refine ⟨1,by decide,by go_num,Rel2.mk _ A9 c9 (HC9.out.kept hkf (fun x hx => .inl (by omega)) HCLT.out) ?_ ?_ (HK9.out.trans hkf (fun k hk => .inr (by have := HCB.out;have := HCLT.out;omega)))⟩
        ·rw [HSN.out,List.length_append,hLn]
         exact Has.put_of HX9.out rfl
        ·rw [HSN.out,List.length_append,hLn,Plan.mcells_append]
         exact ⟨own_kept HN9.out.1 hkf (fun k hk e => by have := HN9.out.2 k hk;omega),HN9.out.2⟩
       case measure => simp [intOf]
     ·have hin2 : ¬ (0 : Int) < (n : Int) := by omega
      have hsn := memL_same (n := n) (i := 0) (by omega)
      have HSN := hZ0 hsn
      clear hsn hin
      go_wp2_with fail
      go_roundw
      case rel => exact ⟨1,by decide,by go_num,Rel2.mk _ A cc HC4.out (by rw [HSN.out];exact HX4.out) (by rw [HSN.out];exact HR4.out) HK4.out⟩
      case measure => simp [intOf]
    ·have hq : wr.cell? ⟨c,1,none⟩ = some (.pointer (some ⟨gs 1,0,none⟩)) := by rw [HC.out.cl.cell];simpa using HC.out.ce 1 (by decide) (by decide)
     have hdi := HC.out.ds.at' 1 (by decide) (by decide)
     have hlo := fun x (hx : Fs 1 x) => HC.out.ds.lo 1 x (by decide) (by decide) hx
     have hce := HC.out.ce 1 (by decide) (by decide)
     obtain ⟨g,hg⟩ : ∃ g,gs 1 = g := ⟨_,rfl⟩
     rw [hg] at hq hdi hce
     have HDI := hZ0 hdi;have HLO := hZ0 hlo;have HCE := hZ0 hce;have HZ := hZ0 HC.out.cl.lt
     clear hdi hlo hce
     go_wp2_with fail
     go_region_held3 (fun W => W.cell? ⟨c,1,none⟩ = some (.pointer (some ⟨g,0,none⟩))) (first | with_reducible exact hq3 | with_reducible exact hq | (simp [go_sem,hq3];done) | (simp [go_sem,hq];done))
      (first | (go_at_call 13;refine (start_any (HDI.out.kept (show Kept NoF wr _ by (repeat' (first | (with_reducible first | exact kR0 | apply kP0 | apply kN0 | apply kD0 | apply kA0) | (right;simp;done)))) (fun _ _ z => z)) 1 (by decide) (by decide)).mono ?_;rintro e w3 ⟨⟨v,rfl⟩,⟨F9,n9,m9,hd9,hF9⟩,hk3'⟩;have hk3 : Kept (Fs 1) wr w3 := Kept.then (by (repeat' (first | (with_reducible first | exact kR0 | apply kP0 | apply kN0 | apply kD0 | apply kA0) | (right;simp;done)))) hk3';have hcr3 := HC.out.drop hk3 (by decide);have hq3 : w3.cell? ⟨c,1,none⟩ = some (.pointer (some ⟨g,0,none⟩)) := (by rw [hcr3.cl.cell];simpa using HCE.out);obtain ⟨qv,q5⟩ := hcr3.cl.someL (i := 6) (by rw [hcr3.len];decide);have f5 := hcr3.cl.frozen 6;have HCR3 := hZ0 hcr3;have HD9 := hZ0 hd9;have HF9 := hZ0 hF9;have HK3 := hZ0 hk3;clear hcr3 hd9 hF9 hk3 hk3'))
     obtain ⟨W4,hW4⟩ : ∃ W4,w3.setCell ⟨c,6,none⟩ (.pointer v) = W4 := ⟨_,rfl⟩
     have hcr4 : CR W4 c B 2 5 gs Fs (cs.set 6 (.pointer v)) := by rw [<- hW4];exact HCR3.out.set 6 _ (by decide)
     have hk34 : Kept (fun k => k = c) w3 W4 := by rw [<- hW4];(repeat' (first | (with_reducible first | exact kR0 | apply kP0 | apply kN0 | apply kD0 | apply kA0) | (exact .inl rfl) | (right;simp;done)))
     have hd4 : Disk.DiskAt W4 g F9 n9 m9 [] 1 1 := HD9.out.kept hk34 (fun x hx e => by
      rcases HF9.out x hx with y | y
      ·have := HLO.out x y;omega
      ·have h5 := HZ.out;simp at y;omega)
     have hx4 : Has W4 B 53 #[.int .i64 1,.slice A (memL n 1).length cc,.int .u64 fl] := (HX.out.kept HK3.out (fun e => by have := HLO.out B e;omega)).kept hk34 (fun e => by have := HCLT.out;omega)
     have hr4 : NewSl 57 2 (B + 1) W4 A (memL n 1).length cc (mcells (memL n 1)) := ⟨own_kept (own_kept HR.out.1 HK3.out (fun k hk e => by have := HLO.out k e;have := HR.out.2 k hk;omega)) hk34 (fun k hk e => by have := HR.out.2 k hk;have := HCLT.out;omega),HR.out.2⟩
     have hkw : Kept NoF w W4 := (HK.out.trans HK3.out (fun k hk => .inr (by have := HLO.out k hk;have := HCB.out;omega))).trans hk34 (fun k hk => .inr (by have := HCB.out;omega))
     have h4c : W4.cell? ⟨c,1,none⟩ = some (.pointer (some ⟨g,0,none⟩)) := by rw [hcr4.cl.cell];simpa using HCE.out
     rw [hW4]
     have HC4 := hZ0 hcr4;have HD4 := hZ0 hd4;have HX4 := hZ0 hx4;have HR4 := hZ0 hr4;have HK4 := hZ0 hkw
     clear hcr4 hk34 hd4 hx4 hr4 hkw hW4 hq hq3 q5 f5 HC HX HR HK HDI HLO HCR3 HD9 HF9 HK3 HZ
     by_cases hin : 1 < n
     ·have hin2 : (1 : Int) < (n : Int) := by omega
      obtain ⟨L,hL⟩ : ∃ L,memL n 1 = L := ⟨_,rfl⟩
      have hLn : L.length = 1 := by rw [<- hL,memL_len];omega
      have hsn := memL_snoc hin
      rw [hL] at hsn HX4 HR4
      rw [hLn] at HX4 HR4
      have hse := fun W (hW : Kept NoF W4 W) => Disk.serial_any (HD4.out.kept hW (fun _ _ z => z))
      have z : W4.cell? ⟨B,1,none⟩ = some (.slice A 1 cc) := HX4.out.cell 1
      have za : ∀ o,(W4.alloc o).cell? ⟨B,1,none⟩ = some (.slice A 1 cc) := fun o => (HX4.out.alloc o).cell 1
      have zb : ∀ n o,((W4.drewN n).alloc o).cell? ⟨B,1,none⟩ = some (.slice A 1 cc) := fun n o => ((HX4.out.drewN n).alloc o).cell 1
      have ya : ∀ o,(W4.alloc o).cell? ⟨c,1,none⟩ = some (.pointer (some ⟨g,0,none⟩)) := fun o => by rw [(HC4.out.cl.alloc o).cell];simpa using HCE.out
      have yb : ∀ n o,((W4.drewN n).alloc o).cell? ⟨c,1,none⟩ = some (.pointer (some ⟨g,0,none⟩)) := fun n o => by rw [((HC4.out.cl.drewN n).alloc o).cell];simpa using HCE.out
      have HSE := hZ0 hse;have HSN := hZ0 hsn;have HL := hZ0 hL
      have HM1 : Hid (1 + 1 <= maxLen) := hZ0 (by decide)
      have HM2 : Hid ((1 + 1) * 16 <= 140737488355328) := hZ0 (by decide)
      clear hse hsn hL hin
      go_wp2_with fail
      go_region_law (first
       | (go_simp;go_at_call 14;refine (HSE.out _ (by (repeat' (first | (with_reducible first | exact kR0 | apply kP0 | apply kN0 | apply kD0 | apply kA0) | (right;simp;done))))).mono ?_;rintro e w' ⟨rfl,rfl⟩)
       | (with_reducible apply step_append_src Plan.elemMem (.tmp 55) (.tmp 65) (n := 1) (xs := mcells L) (A := some ⟨_,0,none⟩) (m := 1) (c := 1) (news := [.int .i64 1,.int .i64 1])
          rfl
          rfl
          exact (rfl : _ = Value.slice A 1 cc)
          (refine own_kept HR4.out.1 (F := NoF) ?_ (fun _ _ x => x);(repeat' (first | (with_reducible first | exact kR0 | apply kP0 | apply kN0 | apply kD0 | apply kA0) | (right;simp;done))))
          exact (rfl : _ = Value.slice (some ⟨_,0,none⟩) 1 1)
          (refine Src.of_has (t := 57) (cs := #[.int .i64 1,.int .i64 1]) ?_ rfl;(repeat (first | with_reducible exact Has.new_at _ _ _ (by simp) | with_reducible apply Has.drew | with_reducible apply Has.drewN | with_reducible apply Has.alloc | (with_reducible apply Has.past <;> (try omega)) )))
          (intro u hu;simp at hu;rcases hu with rfl | rfl <;> rfl)
          (try exact HM1.out)
          (try exact HM2.out)
          intro A9 c9 w9 ho9 hg9 ha9
          have hk9 : Kept (fun k => (Value.slice A 1 cc).ownBlock = some k) W4 w9 := by refine Kept.grown ?_ hg9 (fun k hk => .inl hk);(repeat' (first | (with_reducible first | exact kR0 | apply kP0 | apply kN0 | apply kD0 | apply kA0) | (right;simp;done)))
          have hn9 : NewSl 57 2 (B + 1) w9 A9 (1 + 1) c9 (mcells L ++ [.int .i64 1,.int .i64 1]) := HR4.out.snoc (by have h5 := HX4.out.lt;first | (simp;omega) | omega) ho9 ha9
          have hx9 := HX4.out.kept hk9 (fun e => by have := HR4.out.2 _ e;omega)
          have hcr9 := HC4.out.kept hk9 (fun x hx => .inl (by have := HR4.out.2 _ hx;omega)) HCLT.out
          have hkw9 := HK4.out.trans hk9 (fun k hk => .inr (by have := HR4.out.2 _ hk;have := HCB.out;have := HCLT.out;omega))
          have z9 : w9.cell? ⟨B,1,none⟩ = some (.slice A 1 cc) := hx9.cell 1
          have zf9 : w9.frozen? ⟨B,1,none⟩ = false := hx9.frozen 1
          have HN9 := hZ0 hn9;have HX9 := hZ0 hx9;have HC9 := hZ0 hcr9;have HK9 := hZ0 hkw9
          clear ho9 hg9 ha9 hk9 hn9 hx9 hcr9 hkw9))
      all_goals
       go_wp2
       go_roundw
       case rel =>
        have hkf : Kept (fun k => k = B) w9 (w9.setCell ⟨B,1,none⟩ (.slice A9 (1 + 1) c9)) := by (repeat' (first | (with_reducible first | exact kR0 | apply kP0 | apply kN0 | apply kD0 | apply kA0) | (exact .inl rfl) | (right;simp;done)))
        refine ⟨2,by decide,by go_num,Rel2.mk _ A9 c9 (HC9.out.kept hkf (fun x hx => .inl (by omega)) HCLT.out) ?_ ?_ (HK9.out.trans hkf (fun k hk => .inr (by have := HCB.out;have := HCLT.out;omega)))⟩
        ·rw [HSN.out,List.length_append,hLn]
         exact Has.put_of HX9.out rfl
        ·rw [HSN.out,List.length_append,hLn,Plan.mcells_append]
         exact ⟨own_kept HN9.out.1 hkf (fun k hk e => by have := HN9.out.2 k hk;omega),HN9.out.2⟩
       case measure => simp [intOf]
     ·have hin2 : ¬ (1 : Int) < (n : Int) := by omega
      have hsn := memL_same (n := n) (i := 1) (by omega)
      have HSN := hZ0 hsn
      clear hsn hin
      go_wp2_with fail
      go_roundw
      case rel => exact ⟨2,by decide,by go_num,Rel2.mk _ A cc HC4.out (by rw [HSN.out];exact HX4.out) (by rw [HSN.out];exact HR4.out) HK4.out⟩
      case measure => simp [intOf]
    ·have hq : wr.cell? ⟨c,2,none⟩ = some (.pointer (some ⟨gs 2,0,none⟩)) := by rw [HC.out.cl.cell];simpa using HC.out.ce 2 (by decide) (by decide)
     have hdi := HC.out.ds.at' 2 (by decide) (by decide)
     have hlo := fun x (hx : Fs 2 x) => HC.out.ds.lo 2 x (by decide) (by decide) hx
     have hce := HC.out.ce 2 (by decide) (by decide)
     obtain ⟨g,hg⟩ : ∃ g,gs 2 = g := ⟨_,rfl⟩
     rw [hg] at hq hdi hce
     have HDI := hZ0 hdi;have HLO := hZ0 hlo;have HCE := hZ0 hce;have HZ := hZ0 HC.out.cl.lt
     clear hdi hlo hce
     go_wp2_with fail
     go_region_held3 (fun W => W.cell? ⟨c,2,none⟩ = some (.pointer (some ⟨g,0,none⟩))) (first | with_reducible exact hq3 | with_reducible exact hq | (simp [go_sem,hq3];done) | (simp [go_sem,hq];done))
      (first | (go_at_call 13;refine (start_any (HDI.out.kept (show Kept NoF wr _ by (repeat' (first | (with_reducible first | exact kR0 | apply kP0 | apply kN0 | apply kD0 | apply kA0) | (right;simp;done)))) (fun _ _ z => z)) 2 (by decide) (by decide)).mono ?_;rintro e w3 ⟨⟨v,rfl⟩,⟨F9,n9,m9,hd9,hF9⟩,hk3'⟩;have hk3 : Kept (Fs 2) wr w3 := Kept.then (by (repeat' (first | (with_reducible first | exact kR0 | apply kP0 | apply kN0 | apply kD0 | apply kA0) | (right;simp;done)))) hk3';have hcr3 := HC.out.drop hk3 (by decide);have hq3 : w3.cell? ⟨c,2,none⟩ = some (.pointer (some ⟨g,0,none⟩)) := (by rw [hcr3.cl.cell];simpa using HCE.out);obtain ⟨qv,q5⟩ := hcr3.cl.someL (i := 7) (by rw [hcr3.len];decide);have f5 := hcr3.cl.frozen 7;have HCR3 := hZ0 hcr3;have HD9 := hZ0 hd9;have HF9 := hZ0 hF9;have HK3 := hZ0 hk3;clear hcr3 hd9 hF9 hk3 hk3'))
     obtain ⟨W4,hW4⟩ : ∃ W4,w3.setCell ⟨c,7,none⟩ (.pointer v) = W4 := ⟨_,rfl⟩
     have hcr4 : CR W4 c B 3 5 gs Fs (cs.set 7 (.pointer v)) := by rw [<- hW4];exact HCR3.out.set 7 _ (by decide)
     have hk34 : Kept (fun k => k = c) w3 W4 := by rw [<- hW4];(repeat' (first | (with_reducible first | exact kR0 | apply kP0 | apply kN0 | apply kD0 | apply kA0) | (exact .inl rfl) | (right;simp;done)))
     have hd4 : Disk.DiskAt W4 g F9 n9 m9 [] 1 1 := HD9.out.kept hk34 (fun x hx e => by
      rcases HF9.out x hx with y | y
      ·have := HLO.out x y;omega
      ·have h5 := HZ.out;simp at y;omega)
     have hx4 : Has W4 B 53 #[.int .i64 1,.slice A (memL n 2).length cc,.int .u64 fl] := (HX.out.kept HK3.out (fun e => by have := HLO.out B e;omega)).kept hk34 (fun e => by have := HCLT.out;omega)
     have hr4 : NewSl 57 2 (B + 1) W4 A (memL n 2).length cc (mcells (memL n 2)) := ⟨own_kept (own_kept HR.out.1 HK3.out (fun k hk e => by have := HLO.out k e;have := HR.out.2 k hk;omega)) hk34 (fun k hk e => by have := HR.out.2 k hk;have := HCLT.out;omega),HR.out.2⟩
     have hkw : Kept NoF w W4 := (HK.out.trans HK3.out (fun k hk => .inr (by have := HLO.out k hk;have := HCB.out;omega))).trans hk34 (fun k hk => .inr (by have := HCB.out;omega))
     have h4c : W4.cell? ⟨c,2,none⟩ = some (.pointer (some ⟨g,0,none⟩)) := by rw [hcr4.cl.cell];simpa using HCE.out
     rw [hW4]
     have HC4 := hZ0 hcr4;have HD4 := hZ0 hd4;have HX4 := hZ0 hx4;have HR4 := hZ0 hr4;have HK4 := hZ0 hkw
     clear hcr4 hk34 hd4 hx4 hr4 hkw hW4 hq hq3 q5 f5 HC HX HR HK HDI HLO HCR3 HD9 HF9 HK3 HZ
     by_cases hin : 2 < n
     ·have hin2 : (2 : Int) < (n : Int) := by omega
      obtain ⟨L,hL⟩ : ∃ L,memL n 2 = L := ⟨_,rfl⟩
      have hLn : L.length = 2 := by rw [<- hL,memL_len];omega
      have hsn := memL_snoc hin
      rw [hL] at hsn HX4 HR4
      rw [hLn] at HX4 HR4
      have hse := fun W (hW : Kept NoF W4 W) => Disk.serial_any (HD4.out.kept hW (fun _ _ z => z))
      have z : W4.cell? ⟨B,1,none⟩ = some (.slice A 2 cc) := HX4.out.cell 1
      have za : ∀ o,(W4.alloc o).cell? ⟨B,1,none⟩ = some (.slice A 2 cc) := fun o => (HX4.out.alloc o).cell 1
      have zb : ∀ n o,((W4.drewN n).alloc o).cell? ⟨B,1,none⟩ = some (.slice A 2 cc) := fun n o => ((HX4.out.drewN n).alloc o).cell 1
      have ya : ∀ o,(W4.alloc o).cell? ⟨c,2,none⟩ = some (.pointer (some ⟨g,0,none⟩)) := fun o => by rw [(HC4.out.cl.alloc o).cell];simpa using HCE.out
      have yb : ∀ n o,((W4.drewN n).alloc o).cell? ⟨c,2,none⟩ = some (.pointer (some ⟨g,0,none⟩)) := fun n o => by rw [((HC4.out.cl.drewN n).alloc o).cell];simpa using HCE.out
      have HSE := hZ0 hse;have HSN := hZ0 hsn;have HL := hZ0 hL
      have HM1 : Hid (2 + 1 <= maxLen) := hZ0 (by decide)
      have HM2 : Hid ((2 + 1) * 16 <= 140737488355328) := hZ0 (by decide)
      clear hse hsn hL hin
      go_wp2_with fail
      go_region_law (first
       | (go_simp;go_at_call 14;refine (HSE.out _ (by (repeat' (first | (with_reducible first | exact kR0 | apply kP0 | apply kN0 | apply kD0 | apply kA0) | (right;simp;done))))).mono ?_;rintro e w' ⟨rfl,rfl⟩)
       | (with_reducible apply step_append_src Plan.elemMem (.tmp 55) (.tmp 65) (n := 2) (xs := mcells L) (A := some ⟨_,0,none⟩) (m := 1) (c := 1) (news := [.int .i64 2,.int .i64 1])
          rfl
          rfl
          exact (rfl : _ = Value.slice A 2 cc)
          (refine own_kept HR4.out.1 (F := NoF) ?_ (fun _ _ x => x);(repeat' (first | (with_reducible first | exact kR0 | apply kP0 | apply kN0 | apply kD0 | apply kA0) | (right;simp;done))))
          exact (rfl : _ = Value.slice (some ⟨_,0,none⟩) 1 1)
          (refine Src.of_has (t := 57) (cs := #[.int .i64 2,.int .i64 1]) ?_ rfl;(repeat (first | with_reducible exact Has.new_at _ _ _ (by simp) | with_reducible apply Has.drew | with_reducible apply Has.drewN | with_reducible apply Has.alloc | (with_reducible apply Has.past <;> (try omega)) )))
          (intro u hu;simp at hu;rcases hu with rfl | rfl <;> rfl)
          (try exact HM1.out)
          (try exact HM2.out)
          intro A9 c9 w9 ho9 hg9 ha9
          have hk9 : Kept (fun k => (Value.slice A 2 cc).ownBlock = some k) W4 w9 := by refine Kept.grown ?_ hg9 (fun k hk => .inl hk);(repeat' (first | (with_reducible first | exact kR0 | apply kP0 | apply kN0 | apply kD0 | apply kA0) | (right;simp;done)))
          have hn9 : NewSl 57 2 (B + 1) w9 A9 (2 + 1) c9 (mcells L ++ [.int .i64 2,.int .i64 1]) := HR4.out.snoc (by have h5 := HX4.out.lt;first | (simp;omega) | omega) ho9 ha9
          have hx9 := HX4.out.kept hk9 (fun e => by have := HR4.out.2 _ e;omega)
          have hcr9 := HC4.out.kept hk9 (fun x hx => .inl (by have := HR4.out.2 _ hx;omega)) HCLT.out
          have hkw9 := HK4.out.trans hk9 (fun k hk => .inr (by have := HR4.out.2 _ hk;have := HCB.out;have := HCLT.out;omega))
          have z9 : w9.cell? ⟨B,1,none⟩ = some (.slice A 2 cc) := hx9.cell 1
          have zf9 : w9.frozen? ⟨B,1,none⟩ = false := hx9.frozen 1
          have HN9 := hZ0 hn9;have HX9 := hZ0 hx9;have HC9 := hZ0 hcr9;have HK9 := hZ0 hkw9
          clear ho9 hg9 ha9 hk9 hn9 hx9 hcr9 hkw9))
      all_goals
       go_wp2
       go_roundw
       case rel =>
        have hkf : Kept (fun k => k = B) w9 (w9.setCell ⟨B,1,none⟩ (.slice A9 (2 + 1) c9)) := by (repeat' (first | (with_reducible first | exact kR0 | apply kP0 | apply kN0 | apply kD0 | apply kA0) | (exact .inl rfl) | (right;simp;done)))
        refine ⟨3,by decide,by go_num,Rel2.mk _ A9 c9 (HC9.out.kept hkf (fun x hx => .inl (by omega)) HCLT.out) ?_ ?_ (HK9.out.trans hkf (fun k hk => .inr (by have := HCB.out;have := HCLT.out;omega)))⟩
        ·rw [HSN.out,List.length_append,hLn]
         exact Has.put_of HX9.out rfl
        ·rw [HSN.out,List.length_append,hLn,Plan.mcells_append]
         exact ⟨own_kept HN9.out.1 hkf (fun k hk e => by have := HN9.out.2 k hk;omega),HN9.out.2⟩
       case measure => simp [intOf]
     ·have hin2 : ¬ (2 : Int) < (n : Int) := by omega
      have hsn := memL_same (n := n) (i := 2) (by omega)
      have HSN := hZ0 hsn
      clear hsn hin
      go_wp2_with fail
      go_roundw
      case rel => exact ⟨3,by decide,by go_num,Rel2.mk _ A cc HC4.out (by rw [HSN.out];exact HX4.out) (by rw [HSN.out];exact HR4.out) HK4.out⟩
      case measure => simp [intOf]
    ·have hq : wr.cell? ⟨c,3,none⟩ = some (.pointer (some ⟨gs 3,0,none⟩)) := by rw [HC.out.cl.cell];simpa using HC.out.ce 3 (by decide) (by decide)
     have hdi := HC.out.ds.at' 3 (by decide) (by decide)
     have hlo := fun x (hx : Fs 3 x) => HC.out.ds.lo 3 x (by decide) (by decide) hx
     have hce := HC.out.ce 3 (by decide) (by decide)
     obtain ⟨g,hg⟩ : ∃ g,gs 3 = g := ⟨_,rfl⟩
     rw [hg] at hq hdi hce
     have HDI := hZ0 hdi;have HLO := hZ0 hlo;have HCE := hZ0 hce;have HZ := hZ0 HC.out.cl.lt
     clear hdi hlo hce
     go_wp2_with fail
     go_region_held3 (fun W => W.cell? ⟨c,3,none⟩ = some (.pointer (some ⟨g,0,none⟩))) (first | with_reducible exact hq3 | with_reducible exact hq | (simp [go_sem,hq3];done) | (simp [go_sem,hq];done))
      (first | (go_at_call 13;refine (start_any (HDI.out.kept (show Kept NoF wr _ by (repeat' (first | (with_reducible first | exact kR0 | apply kP0 | apply kN0 | apply kD0 | apply kA0) | (right;simp;done)))) (fun _ _ z => z)) 3 (by decide) (by decide)).mono ?_;rintro e w3 ⟨⟨v,rfl⟩,⟨F9,n9,m9,hd9,hF9⟩,hk3'⟩;have hk3 : Kept (Fs 3) wr w3 := Kept.then (by (repeat' (first | (with_reducible first | exact kR0 | apply kP0 | apply kN0 | apply kD0 | apply kA0) | (right;simp;done)))) hk3';have hcr3 := HC.out.drop hk3 (by decide);have hq3 : w3.cell? ⟨c,3,none⟩ = some (.pointer (some ⟨g,0,none⟩)) := (by rw [hcr3.cl.cell];simpa using HCE.out);obtain ⟨qv,q5⟩ := hcr3.cl.someL (i := 8) (by rw [hcr3.len];decide);have f5 := hcr3.cl.frozen 8;have HCR3 := hZ0 hcr3;have HD9 := hZ0 hd9;have HF9 := hZ0 hF9;have HK3 := hZ0 hk3;clear hcr3 hd9 hF9 hk3 hk3'))
     obtain ⟨W4,hW4⟩ : ∃ W4,w3.setCell ⟨c,8,none⟩ (.pointer v) = W4 := ⟨_,rfl⟩
     have hcr4 : CR W4 c B 4 5 gs Fs (cs.set 8 (.pointer v)) := by rw [<- hW4];exact HCR3.out.set 8 _ (by decide)
     have hk34 : Kept (fun k => k = c) w3 W4 := by rw [<- hW4];(repeat' (first | (with_reducible first | exact kR0 | apply kP0 | apply kN0 | apply kD0 | apply kA0) | (exact .inl rfl) | (right;simp;done)))
     have hd4 : Disk.DiskAt W4 g F9 n9 m9 [] 1 1 := HD9.out.kept hk34 (fun x hx e => by
      rcases HF9.out x hx with y | y
      ·have := HLO.out x y;omega
      ·have h5 := HZ.out;simp at y;omega)
     have hx4 : Has W4 B 53 #[.int .i64 1,.slice A (memL n 3).length cc,.int .u64 fl] := (HX.out.kept HK3.out (fun e => by have := HLO.out B e;omega)).kept hk34 (fun e => by have := HCLT.out;omega)
     have hr4 : NewSl 57 2 (B + 1) W4 A (memL n 3).length cc (mcells (memL n 3)) := ⟨own_kept (own_kept HR.out.1 HK3.out (fun k hk e => by have := HLO.out k e;have := HR.out.2 k hk;omega)) hk34 (fun k hk e => by have := HR.out.2 k hk;have := HCLT.out;omega),HR.out.2⟩
     have hkw : Kept NoF w W4 := (HK.out.trans HK3.out (fun k hk => .inr (by have := HLO.out k hk;have := HCB.out;omega))).trans hk34 (fun k hk => .inr (by have := HCB.out;omega))
     have h4c : W4.cell? ⟨c,3,none⟩ = some (.pointer (some ⟨g,0,none⟩)) := by rw [hcr4.cl.cell];simpa using HCE.out
     rw [hW4]
     have HC4 := hZ0 hcr4;have HD4 := hZ0 hd4;have HX4 := hZ0 hx4;have HR4 := hZ0 hr4;have HK4 := hZ0 hkw
     clear hcr4 hk34 hd4 hx4 hr4 hkw hW4 hq hq3 q5 f5 HC HX HR HK HDI HLO HCR3 HD9 HF9 HK3 HZ
     by_cases hin : 3 < n
     ·have hin2 : (3 : Int) < (n : Int) := by omega
      obtain ⟨L,hL⟩ : ∃ L,memL n 3 = L := ⟨_,rfl⟩
      have hLn : L.length = 3 := by rw [<- hL,memL_len];omega
      have hsn := memL_snoc hin
      rw [hL] at hsn HX4 HR4
      rw [hLn] at HX4 HR4
      have hse := fun W (hW : Kept NoF W4 W) => Disk.serial_any (HD4.out.kept hW (fun _ _ z => z))
      have z : W4.cell? ⟨B,1,none⟩ = some (.slice A 3 cc) := HX4.out.cell 1
      have za : ∀ o,(W4.alloc o).cell? ⟨B,1,none⟩ = some (.slice A 3 cc) := fun o => (HX4.out.alloc o).cell 1
      have zb : ∀ n o,((W4.drewN n).alloc o).cell? ⟨B,1,none⟩ = some (.slice A 3 cc) := fun n o => ((HX4.out.drewN n).alloc o).cell 1
      have ya : ∀ o,(W4.alloc o).cell? ⟨c,3,none⟩ = some (.pointer (some ⟨g,0,none⟩)) := fun o => by rw [(HC4.out.cl.alloc o).cell];simpa using HCE.out
      have yb : ∀ n o,((W4.drewN n).alloc o).cell? ⟨c,3,none⟩ = some (.pointer (some ⟨g,0,none⟩)) := fun n o => by rw [((HC4.out.cl.drewN n).alloc o).cell];simpa using HCE.out
      have HSE := hZ0 hse;have HSN := hZ0 hsn;have HL := hZ0 hL
      have HM1 : Hid (3 + 1 <= maxLen) := hZ0 (by decide)
      have HM2 : Hid ((3 + 1) * 16 <= 140737488355328) := hZ0 (by decide)
      clear hse hsn hL hin
      go_wp2_with fail
      go_region_law (first
       | (go_simp;go_at_call 14;refine (HSE.out _ (by (repeat' (first | (with_reducible first | exact kR0 | apply kP0 | apply kN0 | apply kD0 | apply kA0) | (right;simp;done))))).mono ?_;rintro e w' ⟨rfl,rfl⟩)
       | (with_reducible apply step_append_src Plan.elemMem (.tmp 55) (.tmp 65) (n := 3) (xs := mcells L) (A := some ⟨_,0,none⟩) (m := 1) (c := 1) (news := [.int .i64 3,.int .i64 1])
          rfl
          rfl
          exact (rfl : _ = Value.slice A 3 cc)
          (refine own_kept HR4.out.1 (F := NoF) ?_ (fun _ _ x => x);(repeat' (first | (with_reducible first | exact kR0 | apply kP0 | apply kN0 | apply kD0 | apply kA0) | (right;simp;done))))
          exact (rfl : _ = Value.slice (some ⟨_,0,none⟩) 1 1)
          (refine Src.of_has (t := 57) (cs := #[.int .i64 3,.int .i64 1]) ?_ rfl;(repeat (first | with_reducible exact Has.new_at _ _ _ (by simp) | with_reducible apply Has.drew | with_reducible apply Has.drewN | with_reducible apply Has.alloc | (with_reducible apply Has.past <;> (try omega)) )))
          (intro u hu;simp at hu;rcases hu with rfl | rfl <;> rfl)
          (try exact HM1.out)
          (try exact HM2.out)
          intro A9 c9 w9 ho9 hg9 ha9
          have hk9 : Kept (fun k => (Value.slice A 3 cc).ownBlock = some k) W4 w9 := by refine Kept.grown ?_ hg9 (fun k hk => .inl hk);(repeat' (first | (with_reducible first | exact kR0 | apply kP0 | apply kN0 | apply kD0 | apply kA0) | (right;simp;done)))
          have hn9 : NewSl 57 2 (B + 1) w9 A9 (3 + 1) c9 (mcells L ++ [.int .i64 3,.int .i64 1]) := HR4.out.snoc (by have h5 := HX4.out.lt;first | (simp;omega) | omega) ho9 ha9
          have hx9 := HX4.out.kept hk9 (fun e => by have := HR4.out.2 _ e;omega)
          have hcr9 := HC4.out.kept hk9 (fun x hx => .inl (by have := HR4.out.2 _ hx;omega)) HCLT.out
          have hkw9 := HK4.out.trans hk9 (fun k hk => .inr (by have := HR4.out.2 _ hk;have := HCB.out;have := HCLT.out;omega))
          have z9 : w9.cell? ⟨B,1,none⟩ = some (.slice A 3 cc) := hx9.cell 1
          have zf9 : w9.frozen? ⟨B,1,none⟩ = false := hx9.frozen 1
          have HN9 := hZ0 hn9;have HX9 := hZ0 hx9;have HC9 := hZ0 hcr9;have HK9 := hZ0 hkw9
          clear ho9 hg9 ha9 hk9 hn9 hx9 hcr9 hkw9))
      all_goals
       go_wp2
       go_roundw
       case rel =>
        have hkf : Kept (fun k => k = B) w9 (w9.setCell ⟨B,1,none⟩ (.slice A9 (3 + 1) c9)) := by (repeat' (first | (with_reducible first | exact kR0 | apply kP0 | apply kN0 | apply kD0 | apply kA0) | (exact .inl rfl) | (right;simp;done)))
        refine ⟨4,by decide,by go_num,Rel2.mk _ A9 c9 (HC9.out.kept hkf (fun x hx => .inl (by omega)) HCLT.out) ?_ ?_ (HK9.out.trans hkf (fun k hk => .inr (by have := HCB.out;have := HCLT.out;omega)))⟩
        ·rw [HSN.out,List.length_append,hLn]
         exact Has.put_of HX9.out rfl
        ·rw [HSN.out,List.length_append,hLn,Plan.mcells_append]
         exact ⟨own_kept HN9.out.1 hkf (fun k hk e => by have := HN9.out.2 k hk;omega),HN9.out.2⟩
       case measure => simp [intOf]
     ·have hin2 : ¬ (3 : Int) < (n : Int) := by omega
      have hsn := memL_same (n := n) (i := 3) (by omega)
      have HSN := hZ0 hsn
      clear hsn hin
      go_wp2_with fail
      go_roundw
      case rel => exact ⟨4,by decide,by go_num,Rel2.mk _ A cc HC4.out (by rw [HSN.out];exact HX4.out) (by rw [HSN.out];exact HR4.out) HK4.out⟩
      case measure => simp [intOf]
    ·rw [show ((4 : Nat) : Int) = 4 from rfl]
     have HR0 := hZ0 (Rel2.mk cs A cc HC.out HX.out HR.out HK.out)
     clear HC HX HR HK
     go_wp2_with fail
     go_loopw [10,69] (fun v10 v69 wr => ∃ (i : Nat),i <= 3 /\ v69 = .int .i64 i /\ Rel2 w c B n fl gs Fs 4 wr) (fun _ v69 _ => 3 - (intOf v69).toNat)
     case atStart => exact ⟨0,by decide,rfl,HR0.out⟩
     case round =>
      obtain ⟨i,hi,rfl,cs,A,cc,hcr,hx,hr,hk⟩ := hrel
      have HC := hZ0 hcr;have HX := hZ0 hx;have HR := hZ0 hr;have HK := hZ0 hk
      clear hcr hx hr hk HR0
      rcases (show i = 0 \/ i = 1 \/ i = 2 \/ i = 3 by omega) with rfl | rfl | rfl | rfl
      ·go_wp2_with fail
       go_region_held3 (fun W => True) (exact trivial)
        (first | (go_at_call 15;refine (cln_any _ 0 (by decide) (by decide)).mono ?_;rintro e w5 ⟨⟨a,k,rfl⟩,hk5'⟩;have hk5 : Kept NoF wr w5 := Kept.then (by (repeat' (first | (with_reducible first | exact kR0 | apply kP0 | apply kN0 | apply kD0 | apply kA0) | (right;simp;done)))) hk5';have hcr5 := HC.out.kept hk5 (fun _ z => z.elim) HCLT.out;obtain ⟨qv,q5⟩ := hcr5.cl.someL (i := 10) (by rw [hcr5.len];decide);have f5 := hcr5.cl.frozen 10;have HC5 := hZ0 hcr5;have HK5 := hZ0 hk5;clear hcr5 hk5 hk5'))
       go_wp2_with fail
       go_roundw
       case rel =>
        have hkf : Kept (fun k => k = c) w5 (w5.setCell ⟨c,10,none⟩ (.pointer a)) := by (repeat' (first | (with_reducible first | exact kR0 | apply kP0 | apply kN0 | apply kD0 | apply kA0) | (exact .inl rfl) | (right;simp;done)))
        refine ⟨1,by decide,by go_num,Rel2.mk _ A cc (HC5.out.set 10 _ (by decide)) ((HX.out.kept HK5.out (fun z => z)).kept hkf (fun e => by have := HCLT.out;omega)) ⟨own_kept (HR.out.kept HK5.out).1 hkf (fun k hk e => by have := HR.out.2 k hk;have := HCLT.out;omega),HR.out.2⟩ ((HK.out.then HK5.out).trans hkf (fun k hk => .inr (by have := HCB.out;omega)))⟩
       case measure => simp [intOf]
      ·go_wp2_with fail
       go_region_held3 (fun W => True) (exact trivial)
        (first | (go_at_call 15;refine (cln_any _ 1 (by decide) (by decide)).mono ?_;rintro e w5 ⟨⟨a,k,rfl⟩,hk5'⟩;have hk5 : Kept NoF wr w5 := Kept.then (by (repeat' (first | (with_reducible first | exact kR0 | apply kP0 | apply kN0 | apply kD0 | apply kA0) | (right;simp;done)))) hk5';have hcr5 := HC.out.kept hk5 (fun _ z => z.elim) HCLT.out;obtain ⟨qv,q5⟩ := hcr5.cl.someL (i := 11) (by rw [hcr5.len];decide);have f5 := hcr5.cl.frozen 11;have HC5 := hZ0 hcr5;have HK5 := hZ0 hk5;clear hcr5 hk5 hk5'))
       go_wp2_with fail
       go_roundw
       case rel =>
        have hkf : Kept (fun k => k = c) w5 (w5.setCell ⟨c,11,none⟩ (.pointer a)) := by (repeat' (first | (with_reducible first | exact kR0 | apply kP0 | apply kN0 | apply kD0 | apply kA0) | (exact .inl rfl) | (right;simp;done)))
        refine ⟨2,by decide,by go_num,Rel2.mk _ A cc (HC5.out.set 11 _ (by decide)) ((HX.out.kept HK5.out (fun z => z)).kept hkf (fun e => by have := HCLT.out;omega)) ⟨own_kept (HR.out.kept HK5.out).1 hkf (fun k hk e => by have := HR.out.2 k hk;have := HCLT.out;omega),HR.out.2⟩ ((HK.out.then HK5.out).trans hkf (fun k hk => .inr (by have := HCB.out;omega)))⟩
       case measure => simp [intOf]
      ·go_wp2_with fail
       go_region_held3 (fun W => True) (exact trivial)
        (first | (go_at_call 15;refine (cln_any _ 2 (by decide) (by decide)).mono ?_;rintro e w5 ⟨⟨a,k,rfl⟩,hk5'⟩;have hk5 : Kept NoF wr w5 := Kept.then (by (repeat' (first | (with_reducible first | exact kR0 | apply kP0 | apply kN0 | apply kD0 | apply kA0) | (right;simp;done)))) hk5';have hcr5 := HC.out.kept hk5 (fun _ z => z.elim) HCLT.out;obtain ⟨qv,q5⟩ := hcr5.cl.someL (i := 12) (by rw [hcr5.len];decide);have f5 := hcr5.cl.frozen 12;have HC5 := hZ0 hcr5;have HK5 := hZ0 hk5;clear hcr5 hk5 hk5'))
       go_wp2_with fail
       go_roundw
       case rel =>
        have hkf : Kept (fun k => k = c) w5 (w5.setCell ⟨c,12,none⟩ (.pointer a)) := by (repeat' (first | (with_reducible first | exact kR0 | apply kP0 | apply kN0 | apply kD0 | apply kA0) | (exact .inl rfl) | (right;simp;done)))
        refine ⟨3,by decide,by go_num,Rel2.mk _ A cc (HC5.out.set 12 _ (by decide)) ((HX.out.kept HK5.out (fun z => z)).kept hkf (fun e => by have := HCLT.out;omega)) ⟨own_kept (HR.out.kept HK5.out).1 hkf (fun k hk e => by have := HR.out.2 k hk;have := HCLT.out;omega),HR.out.2⟩ ((HK.out.then HK5.out).trans hkf (fun k hk => .inr (by have := HCB.out;omega)))⟩
       case measure => simp [intOf]
      ·have hq : wr.cell? ⟨c,4,none⟩ = some (.pointer (some ⟨gs 4,0,none⟩)) := by rw [HC.out.cl.cell];simpa using HC.out.ce 4 (by decide) (by decide)
       have hdi := HC.out.ds.at' 4 (by decide) (by decide)
       have hlo := fun x (hx : Fs 4 x) => HC.out.ds.lo 4 x (by decide) (by decide) hx
       have hce := HC.out.ce 4 (by decide) (by decide)
       obtain ⟨g,hg⟩ : ∃ g,gs 4 = g := ⟨_,rfl⟩
       rw [hg] at hq hdi hce
       have hchk := memL_chk HN.out.1 HN.out.2
       have hlen := memL_len n 4
       obtain ⟨L,hL⟩ : ∃ L,memL n 4 = L := ⟨_,rfl⟩
       rw [hL] at HX HR hchk hlen
       have b0 : wr.cell? ⟨B,0,none⟩ = some (.int .i64 1) := HX.out.cell 0
       have b1 : wr.cell? ⟨B,1,none⟩ = some (.slice A L.length cc) := HX.out.cell 1
       have b2 : wr.cell? ⟨B,2,none⟩ = some (.int .u64 fl) := HX.out.cell 2
       have hmn := fun W (hW : Kept NoF wr W) => Mas.mnew_any W g (Fs 4) 1 1 1 fl A cc L (hdi.kept hW (fun _ _ z => z)) ((Src.of_own HR.out.1).kept hW (fun _ _ z => z)) (fun h0 ad e hF => by
        have h2 := HR.out.2 ad.block (by subst e;simp [Value.ownBlock])
        have h3 := hlo _ hF
        omega) (own_cap HR.out.1).1 (by omega) HFL.out hchk
       have HMN := hZ0 hmn;have HLO := hZ0 hlo;have HCE := hZ0 hce;have HLEN := hZ0 hlen
       clear hmn hlo hce hdi hg hL hchk hlen
       go_wp2_with fail
       go_region_held3 (fun W => W.cell? ⟨c,4,none⟩ = some (.pointer (some ⟨g,0,none⟩)) /\ W.cell? ⟨B,0,none⟩ = some (.int .i64 1) /\ W.cell? ⟨B,1,none⟩ = some (.slice A L.length cc) /\ W.cell? ⟨B,2,none⟩ = some (.int .u64 fl)) (first | with_reducible exact z6 | with_reducible exact ⟨hq,b0,b1,b2⟩ | (simp [go_sem,z6];done) | (simp [go_sem,hq,b0,b1,b2];done))
        (first | (go_at_call 16;refine (HMN.out _ (by (repeat' (first | (with_reducible first | exact kR0 | apply kP0 | apply kN0 | apply kD0 | apply kA0) | (right;simp;done))))).mono ?_;rintro e w6 ⟨X,rfl,-,-,-,-,hk6'⟩;have hk6 : Kept (Fs 4) wr w6 := Kept.then (by (repeat' (first | (with_reducible first | exact kR0 | apply kP0 | apply kN0 | apply kD0 | apply kA0) | (right;simp;done)))) hk6';have hcr6 := HC.out.drop hk6 (by decide);have hx6 := HX.out.kept hk6 (fun e => by have := HLO.out B e;omega);have z6 : w6.cell? ⟨c,4,none⟩ = some (.pointer (some ⟨g,0,none⟩)) /\ w6.cell? ⟨B,0,none⟩ = some (.int .i64 1) /\ w6.cell? ⟨B,1,none⟩ = some (.slice A L.length cc) /\ w6.cell? ⟨B,2,none⟩ = some (.int .u64 fl) := ⟨by rw [hcr6.cl.cell];simpa using HCE.out,hx6.cell 0,hx6.cell 1,hx6.cell 2⟩;obtain ⟨qv,q9⟩ := hcr6.cl.someL (i := 9) (by rw [hcr6.len];decide);have f9 := hcr6.cl.frozen 9;have HK6 := hZ0 hk6;clear hcr6 hx6 hk6 hk6'))
       have HFI := hZ0 ((HK.out.trans HK6.out (fun k hk => .inr (by have := HLO.out k hk;have := HCB.out;omega))).put (g := c) (i := 9) (u := .pointer (some ⟨X.mb,0,none⟩)) (.inr HCB.out))
       clear hq b0 b1 b2 z6 q9 f9
       go_wp2
       go_ret2
       exact ⟨⟨_,rfl⟩,HFI.out⟩
end Stz
end Go.Proofs.YtgffjliedjhbaaaGreat
