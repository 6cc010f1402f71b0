/- Part 28 of what the proof needs. -/
import Derived.Test.YtgffjliedjhbaaaGreatZS13
import Derived.Test.YtgffjliedjhbaaaGreatZS26
set_option linter.unusedSimpArgs false
set_option linter.unusedVariables false
set_option maxHeartbeats 32000000
set_option maxRecDepth 100000
namespace Go.Proofs.YtgffjliedjhbaaaGreat
open Go.RowKit
set_option maxRecDepth 100000
namespace Stz
open Plan Vn
theorem hubnew_any (w : World) (id : Int) (h0 : 0 <= id) (h1 : id < 4) : Calls Tryz.prog 27 #[.int .i64 id,.int .i64 1] w fun e w' => (∃ p,e = .returned (.tuple #[.pointer p,.int .i64 0])) /\ Kept NoF w w' := by
 have g1 : ¬ id < 0 := by omega
 have g2 : ¬ 4 <= id := by omega
 have hl := fun W => lknew_any W
 have HL := hZ0 hl
 clear hl h0 h1
 go_enter Tryz.func27,Tryz.ntmps27
 go_wp2_with fail
 clear g1 g2
 go_loopw [7,8,9,18] (fun v7 v8 v9 v18 wr => ∃ (i : Nat) (a b c d : Option Addr),i <= 4 /\ v18 = .int .i64 i /\ Has wr w.heap.size 143 #[.pointer a,.pointer b,.pointer c,.pointer d,.bool true] /\ Kept NoF w wr) (fun _ _ _ v18 _ => 4 - (intOf v18).toNat)
 case atStart => exact ⟨0,none,none,none,none,by decide,rfl,Has.new _ _ _,by (repeat' (first | (with_reducible first | exact kR0 | apply kP0 | apply kN0 | apply kD0 | apply kA0) | (right;simp;done)))⟩
 case round =>
  obtain ⟨i,a,b,c,d,hi,rfl,hh,hk⟩ := hrel
  have HH := hZ0 hh;have HK := hZ0 hk
  clear hh hk
  rcases (show i = 0 \/ i = 1 \/ i = 2 \/ i = 3 \/ i = 4 by omega) with rfl | rfl | rfl | rfl | rfl
  ·obtain ⟨q,hq⟩ : ∃ q,((0 : Int) == id) = q := ⟨_,rfl⟩
   cases q
   ·go_wp2_with fail
    refine (HL.out _).mono ?_
    rintro e w2 ⟨⟨p,rfl⟩,hk2⟩
    have HH2 := hZ0 (HH.out.kept hk2 (fun z => z));have HK2 := hZ0 (HK.out.then hk2)
    clear hk2
    have f0 := HH2.out.frozen 0
    have q0 := HH2.out.cell 0
    simp only [List.getElem?_toArray,List.getElem?_cons_zero,List.getElem?_cons_succ] at q0
    go_wp2_with fail
    go_roundw
    case rel => exact ⟨1,p,b,c,d,by decide,by go_num,(by ((repeat (first | with_reducible exact HH2.out | with_reducible apply Has.put_of | with_reducible apply Has.past | with_reducible apply Has.drewN | with_reducible apply Has.drew | with_reducible apply Has.alloc)) <;> first | omega | rfl)),HK2.out.put (.inr (Nat.le_refl _))⟩
    case measure => simp [intOf]
   ·go_wp2_with fail
    go_roundw
    case rel => exact ⟨1,a,b,c,d,by decide,by go_num,HH.out,HK.out⟩
    case measure => simp [intOf]
  ·obtain ⟨q,hq⟩ : ∃ q,((1 : Int) == id) = q := ⟨_,rfl⟩
   cases q
   ·go_wp2_with fail
    refine (HL.out _).mono ?_
    rintro e w2 ⟨⟨p,rfl⟩,hk2⟩
    have HH2 := hZ0 (HH.out.kept hk2 (fun z => z));have HK2 := hZ0 (HK.out.then hk2)
    clear hk2
    have f0 := HH2.out.frozen 1
    have q0 := HH2.out.cell 1
    simp only [List.getElem?_toArray,List.getElem?_cons_zero,List.getElem?_cons_succ] at q0
    go_wp2_with fail
    go_roundw
    case rel => exact ⟨2,a,p,c,d,by decide,by go_num,(by ((repeat (first | with_reducible exact HH2.out | with_reducible apply Has.put_of | with_reducible apply Has.past | with_reducible apply Has.drewN | with_reducible apply Has.drew | with_reducible apply Has.alloc)) <;> first | omega | rfl)),HK2.out.put (.inr (Nat.le_refl _))⟩
    case measure => simp [intOf]
   ·go_wp2_with fail
    go_roundw
    case rel => exact ⟨2,a,b,c,d,by decide,by go_num,HH.out,HK.out⟩
    case measure => simp [intOf]
  ·obtain ⟨q,hq⟩ : ∃ q,((2 : Int) == id) = q := ⟨_,rfl⟩
   cases q
   ·go_wp2_with fail
    refine (HL.out _).mono ?_
    rintro e w2 ⟨⟨p,rfl⟩,hk2⟩
    have HH2 := hZ0 (HH.out.kept hk2 (fun z => z));have HK2 := hZ0 (HK.out.then hk2)
    clear hk2
    have f0 := HH2.out.frozen 2
    have q0 := HH2.out.cell 2
    simp only [List.getElem?_toArray,List.getElem?_cons_zero,List.getElem?_cons_succ] at q0
    go_wp2_with fail
    go_roundw
    case rel => exact ⟨3,a,b,p,d,by decide,by go_num,(by ((repeat (first | with_reducible exact HH2.out | with_reducible apply Has.put_of | with_reducible apply Has.past | with_reducible apply Has.drewN | with_reducible apply Has.drew | with_reducible apply Has.alloc)) <;> first | omega | rfl)),HK2.out.put (.inr (Nat.le_refl _))⟩
    case measure => simp [intOf]
   ·go_wp2_with fail
    go_roundw
    case rel => exact ⟨3,a,b,c,d,by decide,by go_num,HH.out,HK.out⟩
    case measure => simp [intOf]
  ·obtain ⟨q,hq⟩ : ∃ q,((3 : Int) == id) = q := ⟨_,rfl⟩
   cases q
   ·go_wp2_with fail
    refine (HL.out _).mono ?_
    rintro e w2 ⟨⟨p,rfl⟩,hk2⟩
    have HH2 := hZ0 (HH.out.kept hk2 (fun z => z));have HK2 := hZ0 (HK.out.then hk2)
    clear hk2
    have f0 := HH2.out.frozen 3
    have q0 := HH2.out.cell 3
    simp only [List.getElem?_toArray,List.getElem?_cons_zero,List.getElem?_cons_succ] at q0
    go_wp2_with fail
    go_roundw
    case rel => exact ⟨4,a,b,c,p,by decide,by go_num,(by ((repeat (first | with_reducible exact HH2.out | with_reducible apply Has.put_of | with_reducible apply Has.past | with_reducible apply Has.drewN | with_reducible apply Has.drew | with_reducible apply Has.alloc)) <;> first | omega | rfl)),HK2.out.put (.inr (Nat.le_refl _))⟩
    case measure => simp [intOf]
   ·go_wp2_with fail
    go_roundw
    case rel => exact ⟨4,a,b,c,d,by decide,by go_num,HH.out,HK.out⟩
    case measure => simp [intOf]
  ·go_wp2_with fail
   go_ret2
   exact ⟨⟨_,rfl⟩,HK.out⟩
abbrev rcells (b0 id : Int) (g : Nat) (p : Option Addr) (sb : Nat) (h m : Option Addr) (good : Int) : Array Value := #[.int .i64 b0,.int .i64 0,.int .i64 0,.int .i64 0,.int .i64 id,.pointer (some ⟨g,0,none⟩),.pointer p,.pointer (some ⟨sb,0,none⟩),.pointer h,.pointer m,.int .i64 0,.int .i64 good,.int .i64 0,.slice none 0 0]
section
variable {w : World} {rb g sb n : Nat} {b0 id good : Int} {p h m : Option Addr} {F : Nat -> Prop} {ms : Disk.Safe} {ps : List Disk.Pc} {ser boot : Int} {a : Addr}
theorem me_any (hr : Has w rb 107 (rcells b0 id g p sb h m good)) (hd : Disk.DiskAt w g F n ms ps ser boot) :
  Calls Tryz.prog 191 #[.pointer (some ⟨rb,0,none⟩)] w fun e w' => e = .returned (magg (id,ser)) /\ Kept NoF w w' := by
 have hse := fun W (hW : Kept NoF w W) => Disk.serial_any (hd.kept hW (fun _ _ z => z))
 have hce : ∀ W,Kept NoF w W -> W.cell? ⟨rb,4,none⟩ = some (.int .i64 id) /\ W.cell? ⟨rb,5,none⟩ = some (.pointer (some ⟨g,0,none⟩)) := fun W hW => ⟨(hr.kept hW (fun z => z)).cell 4,(hr.kept hW (fun z => z)).cell 5⟩
 obtain ⟨c4,c5⟩ := hce (w.alloc (.cells #[.int .i64 0,.int .i64 0] 57)) (by (repeat' (first | (with_reducible first | exact kR0 | apply kP0 | apply kN0 | apply kD0 | apply kA0) | (right;simp;done))))
 have hcd : ∀ cs,((w.alloc (.cells cs 57)).drew).cell? ⟨rb,4,none⟩ = some (.int .i64 id) /\ ((w.alloc (.cells cs 57)).drew).cell? ⟨rb,5,none⟩ = some (.pointer (some ⟨g,0,none⟩)) := fun cs => hce _ (by (repeat' (first | (with_reducible first | exact kR0 | apply kP0 | apply kN0 | apply kD0 | apply kA0) | (right;simp;done))))
 have HSE := hZ0 hse
 clear hse hce hr hd
 go_enter Tryz.func191,Tryz.ntmps191
 go_wp2_with fail
 go_region_held3 (fun W => W.cell? ⟨rb,4,none⟩ = some (.int .i64 id) /\ W.cell? ⟨rb,5,none⟩ = some (.pointer (some ⟨g,0,none⟩))) (first | with_reducible exact ⟨c4,c5⟩ | exact hcd _ | (simp [go_sem,c4,c5];done))
  (first | (go_at_call 14;refine (HSE.out _ (by (repeat' (first | (with_reducible first | exact kR0 | apply kP0 | apply kN0 | apply kD0 | apply kA0) | (right;simp;done))))).mono ?_;rintro e w' ⟨rfl,rfl⟩))
 go_wp2
 refine bodyPost_ret (v := .agg #[.int .i64 id,.int .i64 ser]) (by simp [results,Tryz.results191,go_sem]) rfl ⟨rfl,by (repeat' (first | (with_reducible first | exact kR0 | apply kP0 | apply kN0 | apply kD0 | apply kA0) | (right;simp;done)))⟩
theorem place_any (hr : Has w rb 107 (rcells b0 id g p sb h m good)) (hd : Disk.DiskAt w g F n ms ps ser boot) (hs : Has w sb 149 #[.pointer (some a),.int .i64 0,.slice none 0 0,.int .u64 0,.int .u64 0]) :
  Calls Tryz.prog 136 #[.pointer (some ⟨rb,0,none⟩)] w fun e w' => e = .returned (.tuple #[.int .i64 (-1),.int .i64 0]) /\ Kept NoF w w' := by
 have hme := fun W (hW : Kept NoF w W) => me_any (hr.kept hW (fun z => z)) (hd.kept hW (fun _ _ z => z))
 have hco := rsconf_any hs
 have hpl := fun W (A : Option Addr) (c : Nat) => pplace_any W 0 0 A c [] (id,ser) (Src.nil _ _ _) (by decide)
 have c7 : w.cell? ⟨rb,7,none⟩ = some (.pointer (some ⟨sb,0,none⟩)) := hr.cell 7
 have HME := hZ0 hme;have HCO := hZ0 hco;have HPL := hZ0 hpl
 clear hme hco hpl hr hd hs
 go_enter Tryz.func136,Tryz.ntmps136
 go_wp2_with fail
 refine HCO.out.mono ?_
 rintro e w2 ⟨A1,c1,rfl,hn,hk⟩
 have HK := hZ0 hk;clear hk hn c7
 go_wp2_with fail
 obtain ⟨W3,hW3⟩ : ∃ W3,w2.alloc (.cells #[.int .i64 0,.slice A1 ([] : List Mem).length c1,.int .u64 0] 53) = W3 := ⟨_,rfl⟩
 have hn3 : Has W3 w2.heap.size 53 #[.int .i64 0,.slice A1 ([] : List Mem).length c1,.int .u64 0] := by rw [<- hW3];exact Has.new _ _ _
 have hk3 : Kept NoF w W3 := by rw [<- hW3];(repeat' (first | (with_reducible first | exact kR0 | apply kP0 | apply kN0 | apply kD0 | apply kA0) | (exact HK.out) | (right;simp;done)))
 simp only [List.length_nil] at hW3 hn3
 rw [hW3]
 have q0 := hn3.cell 0
 have q1 := hn3.cell 1
 have q2 := hn3.cell 2
 simp only [List.getElem?_toArray,List.getElem?_cons_zero,List.getElem?_cons_succ] at q0 q1 q2
 have HN3 := hZ0 hn3;have HK3 := hZ0 hk3
 clear hn3 hk3 hW3
 go_region_held3 (fun W => W.cell? ⟨w2.heap.size,0,none⟩ = some (.int .i64 0) /\ W.cell? ⟨w2.heap.size,1,none⟩ = some (.slice A1 0 c1) /\ W.cell? ⟨w2.heap.size,2,none⟩ = some (.int .u64 0)) (first | with_reducible exact y5 | with_reducible exact y4 | with_reducible exact ⟨q0,q1,q2⟩ | (simp [go_sem,q0,q1,q2];done))
  (first
   | (go_at_call 191;refine (HME.out _ (HK3.out.then (by (repeat' (first | (with_reducible first | exact kR0 | apply kP0 | apply kN0 | apply kD0 | apply kA0) | (right;simp;done)))))).mono ?_;rintro e w4 ⟨rfl,hk4⟩;have hk := Kept.then (F := NoF) (a := W3) (by (repeat' (first | (with_reducible first | exact kR0 | apply kP0 | apply kN0 | apply kD0 | apply kA0) | (right;simp;done)))) hk4;have y4 : w4.cell? ⟨w2.heap.size,0,none⟩ = some (.int .i64 0) /\ w4.cell? ⟨w2.heap.size,1,none⟩ = some (.slice A1 0 c1) /\ w4.cell? ⟨w2.heap.size,2,none⟩ = some (.int .u64 0) := ⟨(HN3.out.kept hk (fun z => z)).cell 0,(HN3.out.kept hk (fun z => z)).cell 1,(HN3.out.kept hk (fun z => z)).cell 2⟩;have HK4 := hZ0 hk;clear hk hk4)
   | (go_at_call 190;refine (HPL.out _ A1 c1).mono ?_;rintro e w5 ⟨⟨n,rfl,hn1,hn2⟩,hk5⟩;have hk := Kept.then (F := NoF) (a := W3) (by (repeat' (first | (with_reducible first | exact kR0 | apply kP0 | apply kN0 | apply kD0 | apply kA0) | (exact HK4.out) | (right;simp;done)))) hk5;have y5 : w5.cell? ⟨w2.heap.size,0,none⟩ = some (.int .i64 0) /\ w5.cell? ⟨w2.heap.size,1,none⟩ = some (.slice A1 0 c1) /\ w5.cell? ⟨w2.heap.size,2,none⟩ = some (.int .u64 0) := ⟨(HN3.out.kept hk (fun z => z)).cell 0,(HN3.out.kept hk (fun z => z)).cell 1,(HN3.out.kept hk (fun z => z)).cell 2⟩;have HK5 := hZ0 hk;clear hk hk5))
 have hn : n = -1 := by
  rcases hn2 with h | h
  ·exact h
  ·exact absurd (hn1.1 h) List.not_mem_nil
 subst hn
 clear q0 q1 q2 y4 y5 hn1 hn2
 go_wp2
 go_ret2
 exact ⟨rfl,HK3.out.then HK5.out⟩
theorem head_any (hr : Has w rb 107 (rcells b0 id g p sb h m good)) (hd : Disk.DiskAt w g F n ms ps ser boot) (hs : Has w sb 149 #[.pointer (some a),.int .i64 0,.slice none 0 0,.int .u64 0,.int .u64 0]) :
  Calls Tryz.prog 80 #[.pointer (some ⟨rb,0,none⟩)] w fun e w' => e = .returned (.bool false) /\ Kept NoF w w' := by
 have HPL := hZ0 (place_any hr hd hs)
 clear hr hd hs
 go_enter Tryz.func80,Tryz.ntmps80
 go_wp2_with fail
 refine HPL.out.mono ?_
 rintro e w2 ⟨rfl,hk⟩
 go_wp2
 go_ret
 exact ⟨rfl,hk⟩
theorem begin_any (hr : Has w rb 107 (rcells b0 id g p sb h m good)) (hd : Disk.DiskAt w g F n ms ps ser boot) (hs : Has w sb 149 #[.pointer (some a),.int .i64 0,.slice none 0 0,.int .u64 0,.int .u64 0]) :
  Calls Tryz.prog 34 #[.pointer (some ⟨rb,0,none⟩)] w fun e w' => e = .returned (.tuple #[]) /\ Kept (fun k => k = rb) w w' := by
 have hsr : sb ≠ rb := hs.ne hr (by decide)
 have hnf : ¬ F rb := Pt.DiskAt.not hd hr (by decide) (by decide)
 have hhe := fun W (hW : Kept (fun k => k = rb) w W) (h1 : Has W rb 107 (rcells (-1) id g p sb h m 0)) => head_any h1 (hd.kept hW (fun k hf e => hnf (by rw [<- e];exact hf))) (hs.kept hW hsr)
 have f0 := hr.frozen 0
 have f1 := hr.frozen 1
 have f2 := hr.frozen 2
 have f3 := hr.frozen 3
 have f11 := hr.frozen 11
 have q0 := hr.cell 0
 have q1 := hr.cell 1
 have q2 := hr.cell 2
 have q3 := hr.cell 3
 have q11 := hr.cell 11
 simp only [List.getElem?_toArray,List.getElem?_cons_zero,List.getElem?_cons_succ] at q0 q1 q2 q3 q11
 have HHE := hZ0 hhe;have HR := hZ0 hr
 clear hhe hr hd hs hsr hnf
 go_enter Tryz.func34,Tryz.ntmps34
 go_wp2_with fail
 refine (HHE.out _ ?_ ?_).mono ?_
 ·(repeat' (first | (with_reducible first | exact kR0 | apply kP0 | apply kN0 | apply kD0 | apply kA0) | (exact .inl rfl) | (right;simp;done)))
 ·((repeat (first | with_reducible exact HR.out | with_reducible apply Has.put_of | with_reducible apply Has.past | with_reducible apply Has.drewN | with_reducible apply Has.drew | with_reducible apply Has.alloc)) <;> first | omega | rfl)
 rintro e w2 ⟨rfl,hk⟩
 go_wp2
 go_end0
 exact ⟨rfl,Kept.then (F := fun k => k = rb) (by (repeat' (first | (with_reducible first | exact kR0 | apply kP0 | apply kN0 | apply kD0 | apply kA0) | (exact .inl rfl) | (right;simp;done)))) (hk.mono (fun _ z => z.elim))⟩
def StoredPost (w : World) (g : Nat) (F : Nat -> Prop) (e : Ending) (w' : World) : Prop :=
 ∃ gp gw F' m' A c B,e = .returned (.tuple #[.pointer (some ⟨gp,0,none⟩),.int .i64 0]) /\ Pt.PtAt w' B gp gw g F' 1 m' [] 1 1 1 (Wl.cur [] (Pt.ptx 0 [])) [] A c [] /\ (∀ k,F' k -> F k \/ w.heap.size <= k) /\ Kept F w w'
theorem stored_any (hd : Disk.DiskAt w g F 0 (fun _ => none) [] 1 1) : Calls Tryz.prog 26 #[.pointer (some ⟨g,0,none⟩)] w (StoredPost w g F) := by
 have hfi := Disk.files_any hd (fun p hp => by cases hp) (by decide) (by decide)
 have HFI := hZ0 hfi;have HD := hZ0 hd
 clear hfi hd
 go_enter Tryz.func26,Tryz.ntmps26
 go_wp2_with fail
 refine HFI.out.mono ?_
 rintro e w1 ⟨fl,A,c,rfl,hfa,hown,hnew,hk1⟩
 have hfl : fl = [] := by
  rcases fl with _ | ⟨x,fl⟩
  ·rfl
  ·have := ((hfa.mem x).1 (by simp)).2
   simp [Disk.isFile] at this
 subst hfl
 have hp := Pt.new_any' (HD.out.kept hk1 (fun _ _ z => z)) (by decide)
 have HP := hZ0 hp;have HK := hZ0 hk1
 clear hfa hown hnew hk1 hp
 go_wp2_with fail
 refine HP.out.mono ?_
 rintro e w2 ⟨gp,gw,F',m',A',c',rfl,hpt,hgp,hgw,hF',hk2⟩
 have hfin : StoredPost w g F (.returned (.tuple #[.pointer (some ⟨gp,0,none⟩),.int .i64 0])) w2 :=
  ⟨gp,gw,F',m',A',c',w1.heap.size,rfl,hpt,fun k hk => by
   rcases hF' k hk with y | y
   ·exact .inl y
   ·have := HK.out.size;exact .inr (by omega),(HK.out.mono (fun _ z => z.elim)).then hk2⟩
 have HF := hZ0 hfin
 clear hfin hpt hgp hgw hF' hk2
 go_wp2
 go_ret2
 exact HF.out
def StartPost (w : World) (g : Nat) (F : Nat -> Prop) (e : Ending) (w' : World) : Prop :=
 (∃ v,e = .returned (.tuple #[.pointer v,.int .i64 0])) /\ (∃ F' n m,Disk.DiskAt w' g F' n m [] 1 1 /\ ∀ k,F' k -> F k \/ w.heap.size <= k) /\ Kept F w w'
theorem start_any (hd : Disk.DiskAt w g F 0 (fun _ => none) [] 1 1) (id : Int) (h0 : 0 <= id) (h1 : id < 4) : Calls Tryz.prog 13 #[.int .i64 id,.pointer (some ⟨g,0,none⟩)] w (StartPost w g F) := by
 have g1 : ¬ id < 0 := by omega
 have g2 : ¬ 4 <= id := by omega
 have hst := stored_any hd
 have hhub := fun W => hubnew_any W id h0 h1
 have HST := hZ0 hst;have HHU := hZ0 hhub
 clear hst hhub hd h0 h1
 go_enter Tryz.func13,Tryz.ntmps13
 go_wp2_with fail
 clear g1 g2
 refine HST.out.mono ?_
 rintro e w1 ⟨gp,gw,F',m',A,c,B,rfl,hpt,hF',hk1⟩
 have HP := hZ0 hpt;have HF' := hZ0 hF';have HK1 := hZ0 hk1
 clear hpt hF' hk1
 have hbo := Disk.boots_any HP.out.d
 have HBO := hZ0 hbo;clear hbo
 go_wp2_with fail
 refine HBO.out.mono ?_
 rintro e w' ⟨rfl,rfl⟩
 go_wp2_with fail
 refine (HHU.out _).mono ?_
 rintro e w2 ⟨⟨hp,rfl⟩,hk2⟩
 have HK2 := hZ0 hk2;clear hk2
 go_wp2_with fail
 refine (rsnew_any _).mono ?_
 rintro e w3 ⟨sb,a,rfl,hs,hsb,hk3⟩
 have HS3 := hZ0 hs;have HK3 := hZ0 (HK2.out.then hk3);clear hs hk3 hsb
 go_wp2_with fail
 refine (mvnew_any _).mono ?_
 rintro e w4 ⟨⟨mv,rfl⟩,hk4⟩
 have HS4 := hZ0 (HS3.out.kept hk4 (fun z => z));have HK4 := hZ0 (HK3.out.then hk4);clear hk4
 go_wp2_with fail
 obtain ⟨W5,hW5⟩ : ∃ W5,w4.alloc (.cells (rcells 0 id g (some ⟨gp,0,none⟩) sb hp mv 0) 107) = W5 := ⟨_,rfl⟩
 have hr5 : Has W5 w4.heap.size 107 (rcells 0 id g (some ⟨gp,0,none⟩) sb hp mv 0) := by rw [<- hW5];exact Has.new _ _ _
 have hk45 : Kept NoF w4 W5 := by rw [<- hW5];(repeat' (first | (with_reducible first | exact kR0 | apply kP0 | apply kN0 | apply kD0 | apply kA0) | (right;simp;done)))
 rw [hW5]
 have HR5 := hZ0 hr5;have HS5 := hZ0 (HS4.out.kept hk45 (fun z => z));have HK5 := hZ0 (HK4.out.then hk45);have HRB := hZ0 (Nat.le_trans HK1.out.size HK4.out.size)
 clear hr5 hk45 hW5
 refine (Pt.texts_any (HP.out.kept HK5.out) (by decide)).mono ?_
 rintro e w6 ⟨A6,c6,rfl,-,hb6⟩
 have hk6 : Kept NoF W5 w6 := Kept.of_below hb6 (fun k hk _ => hk)
 have HR6 := hZ0 (HR5.out.kept hk6 (fun z => z));have HS6 := hZ0 (HS5.out.kept hk6 (fun z => z));have HK6 := hZ0 (HK5.out.then hk6)
 clear hb6 hk6
 obtain ⟨rb,hrb⟩ : ∃ rb,w4.heap.size = rb := ⟨_,rfl⟩
 rw [hrb] at HR6 HRB
 rw [hrb]
 clear hrb HR5 HS5 HK5 HS4 HS3 HK4 HK3 HK2
 simp only [List.length_nil]
 go_wp2_with fail
 go_loopw [11,12,13,53] (fun v11 v12 v13 v53 wr => v53 = .int .i64 0 /\ wr = w6) (fun _ _ _ _ _ => 0)
 case atStart => exact ⟨rfl,rfl⟩
 case round =>
  obtain ⟨rfl,rfl⟩ := hrel
  have hd6 := HP.out.d.kept HK6.out (fun _ _ z => z)
  have hbg := begin_any HR6.out hd6 HS6.out
  have hnr : ¬ F' rb := Pt.DiskAt.not hd6 HR6.out (by decide) (by decide)
  have HBG := hZ0 hbg;have HNR := hZ0 hnr;have HD6 := hZ0 hd6
  clear hbg hnr hd6
  go_wp2_with fail
  refine HBG.out.mono ?_
  rintro e w7 ⟨rfl,hk7⟩
  have hd7 := HD6.out.kept hk7 (fun k hf e => HNR.out (by rw [<- e];exact hf))
  have hpe := Disk.pending_any hd7 (by decide) (by decide)
  have HD7 := hZ0 hd7;have HPE := hZ0 hpe;have HK7 := hZ0 hk7
  clear hd7 hpe hk7
  go_wp2_with fail
  refine HPE.out.mono ?_
  rintro e w8 ⟨rfl,hk8⟩
  have hfin : StartPost w g F (.returned (.tuple #[.pointer (some ⟨rb,0,none⟩),.int .i64 0])) w8 := by
   refine ⟨⟨_,rfl⟩,⟨F',1,m',HD7.out.kept hk8 (fun _ _ z => z),HF'.out⟩,?_⟩
   have h16 : Kept F w wr := HK1.out.then (HK6.out.mono (fun _ z => z.elim))
   have h17 : Kept F w w7 := h16.trans HK7.out (fun k hk => by rw [hk];exact .inr HRB.out)
   exact h17.then (hk8.mono (fun _ z => z.elim))
  have HFI := hZ0 hfin
  clear hfin hk8
  go_wp2
  go_ret2
  exact HFI.out
end
end Stz
end Go.Proofs.YtgffjliedjhbaaaGreat
