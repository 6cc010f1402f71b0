/- Part 8 of what the proof needs. -/
import Derived.Test.YtgffjliedjhbaaaGreatZS06
import Derived.Deep.RegionLaw
set_option linter.unusedSimpArgs false
set_option linter.unusedVariables false
set_option maxHeartbeats 32000000
set_option maxRecDepth 100000
namespace Go.Proofs.YtgffjliedjhbaaaGreat
open Go.RowKit
set_option maxRecDepth 100000
namespace Ent
open Ops Vn
def E0 : EntR := ⟨0,1,none,0,[],3⟩
def E1 : EntR := ⟨0,2,none,0,[],5⟩
def EL : List EntR := [E0,E1]
def DL : List DR := [(1,0),(2,3)]
def lst : Nat -> Int
 | 0 => 0
 | 1 => 3
 | _ => 5
theorem fill_facts (i : Nat) (hi : i < 2) : ∃ (rq ts : Int) (k : Int),EL[i]? = some ⟨0,rq,none,0,[],ts⟩ /\ DL[i]? = some (rq,k) /\ idxW (fun x => wrD x ⟨0,rq,none,0,[],ts⟩) DL 0 = i /\
  decide (0 <= idxW (fun x => twinB x ⟨0,rq,none,0,[],ts⟩) (EL.take i) 0) = false /\ ¬ ts <= lst i /\ lst (i + 1) = ts /\ (k = 0 \/ (k == 0) = false) /\ 0 <= lst i /\ 0 <= ts := by
 rcases (show i = 0 \/ i = 1 by omega) with rfl | rfl
 ·exact ⟨1,3,0,rfl,rfl,rfl,rfl,by decide,rfl,.inl rfl,by decide,by decide⟩
 ·exact ⟨2,5,3,rfl,rfl,rfl,rfl,by decide,rfl,.inr rfl,by decide,by decide⟩
theorem take_succ_at {α : Type} {l : List α} {i : Nat} {x : α} (h : l[i]? = some x) : l.take (i + 1) = l.take i ++ [x] := by rw [List.take_add_one,h];rfl
theorem fill_A (w : World) (A B : Option Addr) (c d : Nat) (hl : Src w 4 A 2 (ecells EL)) (hd : Src w 16 B 2 (dcells DL)) :
  Calls Tryz.prog 24 #[.slice A 2 c,.slice B 2 d] w fun e w' => ∃ A' c',e = .returned (.tuple #[.slice A' 2 c',.int .i64 0]) /\ Kept NoF w w' := by
 have hmf : ∀ (fn : Fn) (first cap : Array Value) (w : World),(Instr.makeFunc fn first cap).run Tryz.prog w = .ok (.func fn first cap) w := fun _ _ _ _ => rfl
 have HL := hZ0 hl;clear hl
 have HD := hZ0 hd;clear hd
 go_enter Tryz.func24,Tryz.ntmps24
 go_wp2_with fail
 go_loopw [6,7,14] (fun v6 v7 v14 wr => ∃ (i : Nat) (A' : Option Addr) (c' : Nat),i <= 2 /\ v14 = .int .i64 i /\ v7 = .int .u64 (lst i) /\ v6 = .slice A' i c' /\ NewSl 72 4 w.heap.size wr A' i c' (ecells (EL.take i)) /\ Kept NoF w wr) (fun _ _ v14 _ => 2 - (intOf v14).toNat)
 case atStart => exact ⟨0,none,0,by decide,rfl,rfl,rfl,⟨⟨rfl,.inl ⟨rfl,rfl⟩⟩,fun k hk => by cases hk⟩,Kept.refl _ _⟩
 case round =>
  obtain ⟨i,A',c',hi,rfl,rfl,rfl,hrow,hk⟩ := hrel
  have HKS := hZ0 hk.size
  have hn00 : ∀ k,(Value.slice A' i c').ownBlock = some k -> k ≠ wr.heap.size := fun k hk e => by have := own_lt hrow.1 hk;omega
  have HNE00 := hZ0 hn00;clear hn00
  have HROW := hZ0 hrow;clear hrow
  have HK := hZ0 hk;clear hk
  by_cases hil : i < 2
  ·obtain ⟨rq,ts,k,hE,hX,hidx,htw,hts,hln,hk0,hlp,htp⟩ := fill_facts i hil
   obtain ⟨ls,hls⟩ : ∃ ls,lst i = ls := ⟨_,rfl⟩
   rw [hls] at hts hlp
   rw [hls]
   clear hls
   have hsn := ecells_snoc (EL.take i) ⟨0,rq,none,0,[],ts⟩
   rw [<- take_succ_at hE] at hsn
   obtain ⟨ad,rfl,hl1,x0,x1,x2,x3⟩ := ent_cells (HL.out.kept HK.out (fun _ _ x => x)) (by omega) i _ hE
   dsimp only at x0 x1 x2 x3
   have HX := hZ0 hX;clear hX
   have HSN := hZ0 hsn;clear hsn
   have HLN := hZ0 hln;clear hln
   have hbx := Has.new wr 72 #[.int .i64 0,.int .i64 rq,.slice none 0 0,.int .u64 ts]
   have hkb : Kept NoF w (wr.alloc (.cells #[.int .i64 0,.int .i64 rq,.slice none 0 0,.int .u64 ts] 72)) := HK.out.alloc _
   have hid := idxDeed_any (wr.alloc (.cells #[.int .i64 0,.int .i64 rq,.slice none 0 0,.int .u64 ts] 72)) B d DL wr.heap.size ⟨0,rq,none,0,[],ts⟩ rfl hbx (HD.out.kept hkb (fun _ _ x => x)) (by decide)
   rw [hidx] at hid
   have HID := hZ0 hid;clear hid hidx hE
   have HTW := hZ0 htw;clear htw
   have HBX := hZ0 (And.intro hbx hkb);clear hbx hkb
   go_wp2_with fail
   refine HID.out.mono ?_
   rintro e w2 ⟨rfl,hk⟩
   have hrow2 := (HROW.out.kept ((Kept.refl NoF wr).alloc (.cells #[.int .i64 0,.int .i64 rq,.slice none 0 0,.int .u64 ts] 72))).kept hk
   have hb2 := HBX.out.1.kept hk (fun x => x)
   have hk2 := HBX.out.2.then hk
   have hco := contains_any w2 A' c' (EL.take i) wr.heap.size ⟨0,rq,none,0,[],ts⟩ hb2 (by have := Src.of_own hrow2.1;rwa [List.length_take,show min i EL.length = i by show min i 2 = i;omega]) (by rw [List.length_take];show min i 2 <= _;omega) false HTW.out
   rw [List.length_take,show min i EL.length = i by show min i 2 = i;omega] at hco
   have HCO := hZ0 hco;clear hco
   have H2 := hZ0 (And.intro hrow2 (And.intro hb2 hk2));clear hrow2 hb2 hk2 hk HBX HROW HK
   have hbw : w.heap.size <= wr.heap.size := HKS.out
   have hne0 : ∀ k,(Value.slice A' i c').ownBlock = some k -> k ≠ wr.heap.size := HNE00.out
   obtain ⟨b,hb⟩ : ∃ b,wr.heap.size = b := ⟨_,rfl⟩
   rw [hb] at HCO H2 hbw hne0
   rw [hb]
   clear hb
   have HBW := hZ0 hbw;clear hbw
   have HNE0 := hZ0 hne0;clear hne0
   go_wp2_with fail
   refine HCO.out.mono ?_
   rintro e w3 ⟨rfl,hk⟩
   have hb3 := H2.out.2.1.kept hk (fun x => x)
   have b0 := hb3.cell 0
   have b1 := hb3.cell 1
   have b2 := hb3.cell 2
   have b3 := hb3.cell 3
   simp only [List.getElem?_toArray,List.getElem?_cons_zero,List.getElem?_cons_succ] at b0 b1 b2 b3
   have H3 := hZ0 (And.intro (H2.out.1.kept hk) (And.intro hb3 (H2.out.2.2.then hk)));clear hb3 hk H2
   have hbare := fun W => bare_any W ⟨0,rq,none,0,[],ts⟩
   dsimp only [eagg,bareE] at hbare
   have HBA := hZ0 hbare;clear hbare
   go_wp2_with fail
   refine (HBA.out _).mono ?_
   rintro e w4 ⟨rfl,hk⟩
   have hb4 := H3.out.2.1.kept hk (fun x => x)
   clear b0 b1 b2 b3
   have b0 := hb4.cell 0
   have b1 := hb4.cell 1
   have b2 := hb4.cell 2
   have b3 := hb4.cell 3
   have g0 := hb4.frozen 0
   have g1 := hb4.frozen 1
   have g2 := hb4.frozen 2
   have g3 := hb4.frozen 3
   simp only [List.getElem?_toArray,List.getElem?_cons_zero,List.getElem?_cons_succ] at b0 b1 b2 b3
   have hb5 : Has ((((w4.setCell ⟨b,0,none⟩ (.int .i64 0)).setCell ⟨b,1,none⟩ (.int .i64 rq)).setCell ⟨b,2,none⟩ (.slice none 0 0)).setCell ⟨b,3,none⟩ (.int .u64 ts)) b 72 #[.int .i64 0,.int .i64 rq,.slice none 0 0,.int .u64 ts] := Has.put_of (Has.put_of (Has.put_of (Has.put_of hb4 rfl) rfl) rfl) rfl
   have hne : ∀ k,(Value.slice A' i c').ownBlock = some k -> k ≠ b := HNE0.out
   have hk45 : Kept (fun k => k = b) w4 ((((w4.setCell ⟨b,0,none⟩ (.int .i64 0)).setCell ⟨b,1,none⟩ (.int .i64 rq)).setCell ⟨b,2,none⟩ (.slice none 0 0)).setCell ⟨b,3,none⟩ (.int .u64 ts)) := (((Kept.refl (fun k => k = b) w4).put (.inl rfl)).put (.inl rfl)).put (.inl rfl) |>.put (.inl rfl)
   have hr5 : NewSl 72 4 w.heap.size ((((w4.setCell ⟨b,0,none⟩ (.int .i64 0)).setCell ⟨b,1,none⟩ (.int .i64 rq)).setCell ⟨b,2,none⟩ (.slice none 0 0)).setCell ⟨b,3,none⟩ (.int .u64 ts)) A' i c' (ecells (EL.take i)) := ⟨own_kept ((H3.out.1.kept hk).1) hk45 (fun k hk e => hne k hk e),H3.out.1.2⟩
   have hk5 : Kept NoF w ((((w4.setCell ⟨b,0,none⟩ (.int .i64 0)).setCell ⟨b,1,none⟩ (.int .i64 rq)).setCell ⟨b,2,none⟩ (.slice none 0 0)).setCell ⟨b,3,none⟩ (.int .u64 ts)) := (H3.out.2.2.then hk).trans hk45 (fun j hj => .inr (by rw [hj];exact HBW.out))
   obtain ⟨dd,hB,hd1,d0,d1,d2,d3,d4,d5,d6,d7,d8,d9,d10,d11,d12,d13,d14,d15⟩ := deed_cells (HD.out.kept hk5 (fun _ _ x => x)) (by decide) i _ HX.out
   subst hB
   dsimp only at d2
   clear d0 d1 d3 d4 d5 d6 d7 d9 d10 d11 d12 d13 d14 d15
   have H5 := hZ0 (And.intro hr5 (And.intro hb5 hk5));clear hr5 hk5 hk45 hb4 hk
   have HNE := hZ0 hne;clear hne
   clear H3
   rcases hk0 with rfl | hkz
   ·go_wp2_with fail
    refine (Nrm.norm_nil _ none 0).mono ?_
    rintro e w6 ⟨rfl,hk⟩
    have hb6 := H5.out.2.1.kept hk (fun x => x)
    clear b0 b1 b2 b3 g0 g1 g2 g3 d2 d8
    have b2 := hb6.cell 2
    have g2 := hb6.frozen 2
    simp only [List.getElem?_toArray,List.getElem?_cons_zero,List.getElem?_cons_succ] at b2
    have hb6' : Has (w6.setCell ⟨b,2,none⟩ (.slice none 0 0)) b 72 #[.int .i64 0,.int .i64 rq,.slice none 0 0,.int .u64 ts] := Has.put_of hb6 rfl
    have hk66 : Kept (fun k => k = b) w6 (w6.setCell ⟨b,2,none⟩ (.slice none 0 0)) := (Kept.refl (fun k => k = b) w6).put (.inl rfl)
    have hr6 : NewSl 72 4 w.heap.size (w6.setCell ⟨b,2,none⟩ (.slice none 0 0)) A' i c' (ecells (EL.take i)) := ⟨own_kept ((H5.out.1.kept hk).1) hk66 (fun k hk e => HNE.out k hk e),H5.out.1.2⟩
    have hk6 : Kept NoF w (w6.setCell ⟨b,2,none⟩ (.slice none 0 0)) := (H5.out.2.2.then hk).trans hk66 (fun j hj => .inr (by rw [hj];exact HBW.out))
    have H6 := hZ0 (And.intro hr6 (And.intro hb6' hk6));clear hr6 hk6 hk66 hk hb6 hb5
    go_wp2_with fail
    clear b2 g2
    have b0 := hb6'.cell 0
    have b1 := hb6'.cell 1
    have b2 := hb6'.cell 2
    have b3 := hb6'.cell 3
    simp only [List.getElem?_toArray,List.getElem?_cons_zero,List.getElem?_cons_succ] at b0 b1 b2 b3
    obtain ⟨W7,hW7⟩ : ∃ W7,(w6.setCell ⟨b,2,none⟩ (.slice none 0 0)) = W7 := ⟨_,rfl⟩
    rw [hW7] at b0 b1 b2 b3 H6
    have HW7 := hZ0 hW7;clear hW7
    have HM1 : Hid (i + 1 <= maxLen) := hZ0 (by unfold maxLen;omega)
    have HM2 : Hid ((i + 1) * 48 <= 140737488355328) := hZ0 (by omega)
    have hbl := H6.out.2.1.lt
    rw [HW7.out]
    go_region_law (first
      | (with_reducible apply step_append_src elemEnt (.tmp 53) (.tmp 55) (n := i) (xs := ecells (EL.take i)) (A := some ⟨_,0,none⟩) (m := 1) (c := 1) (news := [.int .i64 0,.int .i64 rq,.slice none 0 0,.int .u64 ts])
         rfl
         rfl
         exact (rfl : _ = Value.slice A' i c')
         (refine own_kept H6.out.1.1 (F := NoF) ?_ (fun _ _ x => x);(repeat' (first | (with_reducible first | exact kR0 | apply kP0 | apply kN0 | apply kD0 | apply kA0) | (right;simp;done))))
         exact (rfl : _ = Value.slice (some ⟨_,0,none⟩) 1 1)
         (refine Src.of_has (t := 72) (cs := #[.int .i64 0,.int .i64 rq,.slice none 0 0,.int .u64 ts]) ?_ rfl;(repeat (first | with_reducible exact Has.new_at _ _ _ (by simp) | with_reducible apply Has.drew | with_reducible apply Has.drewN | with_reducible apply Has.alloc | (with_reducible apply Has.past <;> (try omega)) )))
         (intro u hu;simp at hu;rcases hu with rfl | rfl | rfl | rfl <;> rfl)
         exact HM1.out
         exact HM2.out
         intro A1 c1 w8 ho1 hg1 ha1
         have hk8 : Kept NoF w w8 := by refine Kept.grown (Kept.then (F := NoF) H6.out.2.2 ?_) hg1 ?_;(repeat' (first | (with_reducible first | exact kR0 | apply kP0 | apply kN0 | apply kD0 | apply kA0) | (right;simp;done)));exact fun k hk => .inr (H6.out.1.2 k hk)
         have hb8 : w8.cell? ⟨b,3,none⟩ = some (.int .u64 ts) := by
           have hne : ∀ k,(Value.slice A' i c').ownBlock = some k -> k ≠ b := HNE.out
           refine (Has.cell (t := 72) (cs := #[.int .i64 0,.int .i64 rq,.slice none 0 0,.int .u64 ts]) (Has.grown ?_ hg1 (fun e => hne b e rfl)) 3)
           ((repeat (first | with_reducible exact H6.out.2.1 | with_reducible apply Has.put_of | with_reducible apply Has.past | with_reducible apply Has.drewN | with_reducible apply Has.drew | with_reducible apply Has.alloc)) <;> first | omega | rfl)))
    all_goals
     have hn8 : NewSl 72 4 w.heap.size w8 A1 (i + 1) c1 (ecells (EL.take (i + 1))) := by
      rw [HSN.out]
      exact H6.out.1.snoc (by have := H6.out.2.2.size;first | (simp;omega) | omega) ho1 ha1
     have HN8 := hZ0 (And.intro hn8 hk8);clear hn8 hk8 ho1 hg1 ha1
     go_wp2
     go_roundw
     case rel => exact ⟨i + 1,A1,c1,by omega,by go_num,by rw [HLN.out],rfl,HN8.out.1,HN8.out.2⟩
     case measure => simp [intOf];omega
   ·go_wp2_with fail
    clear b0 b1 b2 b3 g0 g1 g2 g3 d2 d8
    have b0 := hb5.cell 0
    have b1 := hb5.cell 1
    have b2 := hb5.cell 2
    have b3 := hb5.cell 3
    simp only [List.getElem?_toArray,List.getElem?_cons_zero,List.getElem?_cons_succ] at b0 b1 b2 b3
    obtain ⟨W7,hW7⟩ : ∃ W7,((((w4.setCell ⟨b,0,none⟩ (.int .i64 0)).setCell ⟨b,1,none⟩ (.int .i64 rq)).setCell ⟨b,2,none⟩ (.slice none 0 0)).setCell ⟨b,3,none⟩ (.int .u64 ts)) = W7 := ⟨_,rfl⟩
    rw [hW7] at b0 b1 b2 b3 H5
    have HW7 := hZ0 hW7;clear hW7
    have HM1 : Hid (i + 1 <= maxLen) := hZ0 (by unfold maxLen;omega)
    have HM2 : Hid ((i + 1) * 48 <= 140737488355328) := hZ0 (by omega)
    have hbl := H5.out.2.1.lt
    rw [HW7.out]
    go_region_law (first
      | (with_reducible apply step_append_src elemEnt (.tmp 53) (.tmp 55) (n := i) (xs := ecells (EL.take i)) (A := some ⟨_,0,none⟩) (m := 1) (c := 1) (news := [.int .i64 0,.int .i64 rq,.slice none 0 0,.int .u64 ts])
         rfl
         rfl
         exact (rfl : _ = Value.slice A' i c')
         (refine own_kept H5.out.1.1 (F := NoF) ?_ (fun _ _ x => x);(repeat' (first | (with_reducible first | exact kR0 | apply kP0 | apply kN0 | apply kD0 | apply kA0) | (right;simp;done))))
         exact (rfl : _ = Value.slice (some ⟨_,0,none⟩) 1 1)
         (refine Src.of_has (t := 72) (cs := #[.int .i64 0,.int .i64 rq,.slice none 0 0,.int .u64 ts]) ?_ rfl;(repeat (first | with_reducible exact Has.new_at _ _ _ (by simp) | with_reducible apply Has.drew | with_reducible apply Has.drewN | with_reducible apply Has.alloc | (with_reducible apply Has.past <;> (try omega)) )))
         (intro u hu;simp at hu;rcases hu with rfl | rfl | rfl | rfl <;> rfl)
         exact HM1.out
         exact HM2.out
         intro A1 c1 w8 ho1 hg1 ha1
         have hk8 : Kept NoF w w8 := by refine Kept.grown (Kept.then (F := NoF) H5.out.2.2 ?_) hg1 ?_;(repeat' (first | (with_reducible first | exact kR0 | apply kP0 | apply kN0 | apply kD0 | apply kA0) | (right;simp;done)));exact fun k hk => .inr (H5.out.1.2 k hk)
         have hb8 : w8.cell? ⟨b,3,none⟩ = some (.int .u64 ts) := by
           have hne : ∀ k,(Value.slice A' i c').ownBlock = some k -> k ≠ b := HNE.out
           refine (Has.cell (t := 72) (cs := #[.int .i64 0,.int .i64 rq,.slice none 0 0,.int .u64 ts]) (Has.grown ?_ hg1 (fun e => hne b e rfl)) 3)
           ((repeat (first | with_reducible exact H5.out.2.1 | with_reducible apply Has.put_of | with_reducible apply Has.past | with_reducible apply Has.drewN | with_reducible apply Has.drew | with_reducible apply Has.alloc)) <;> first | omega | rfl)))
    all_goals
     have hn8 : NewSl 72 4 w.heap.size w8 A1 (i + 1) c1 (ecells (EL.take (i + 1))) := by
      rw [HSN.out]
      exact H5.out.1.snoc (by have := H5.out.2.2.size;first | (simp;omega) | omega) ho1 ha1
     have HN8 := hZ0 (And.intro hn8 hk8);clear hn8 hk8 ho1 hg1 ha1
     go_wp2
     go_roundw
     case rel => exact ⟨i + 1,A1,c1,by omega,by go_num,by rw [HLN.out],rfl,HN8.out.1,HN8.out.2⟩
     case measure => simp [intOf];omega
  ·obtain rfl : i = 2 := by omega
   go_wp2
   go_ret2
   exact ⟨A',c',rfl,HK.out⟩
def E2 : EntR := ⟨0,3,none,0,[],0⟩
theorem addL_A : addL [] [E0,E1,E2] 9 = (EL,0) := rfl
theorem holds_A : holdsL EL (EL.take 1) = 7 := rfl
theorem awake37_any (w : World) : Calls Tryz.prog 10 #[] w fun e w' => e = .returned (.bool true) /\ Kept NoF w w' := by
 have hadd : ∀ x W,Has W x 72 #[.int .i64 0,.int .i64 1,.slice none 0 0,.int .u64 3,.int .i64 0,.int .i64 2,.slice none 0 0,.int .u64 5,.int .i64 0,.int .i64 3,.slice none 0 0,.int .u64 0] ->
   Calls Tryz.prog 19 #[.slice none 0 0,.slice (some ⟨x,0,none⟩) 3 3,.int .i64 9] W fun e w' => ∃ A c,e = .returned (.tuple #[.slice A 2 c,.int .i64 0]) /\ NewSl 72 4 W.heap.size w' A 2 c (ecells EL) /\ Kept NoF W w' := by
  intro x W hW
  have h := add_any W none (some ⟨x,0,none⟩) 0 3 [] [E0,E1,E2] 9 (Src.nil _ _ _) (Src.of_has (m := 3) hW rfl) (by decide) (by decide) (by decide) (by decide)
  rw [addL_A] at h
  exact h
 have hho : ∀ W A c,Src W 4 A 2 (ecells EL) -> 2 <= c -> Calls Tryz.prog 25 #[.slice A 2 c,.slice A 1 c] W fun e w' => e = .returned (.int .i64 7) /\ Kept NoF W w' := by
  intro W A c hs hc
  have h := holds_any W A A c c EL (EL.take 1) hs (Src.takeE (l := EL) hs (by decide)) (by decide) (by decide) hc (by show 1 <= c;omega)
  rw [holds_A] at h
  exact h
 have HADD := hZ0 hadd;clear hadd
 have HHO := hZ0 hho;clear hho
 go_enter Tryz.func10,Tryz.ntmps10
 go_wp2_with fail
 refine (HADD.out _ _ (Has.new _ _ _)).mono ?_
 rintro e w2 ⟨A,c,rfl,hrow,hk⟩
 have hk2 := Kept.then (F := NoF) (a := w) (by (repeat' (first | (with_reducible first | exact kR0 | apply kP0 | apply kN0 | apply kD0 | apply kA0) | (right;simp;done)))) hk
 have hcap := own_cap hrow.1
 have H2 := hZ0 (And.intro hrow (And.intro hk2 hcap));clear hrow hk2 hk hcap
 go_wp2_with fail
 refine (fill_A _ _ _ _ _ ((Src.of_own H2.out.1.1).kept (F := NoF) (by (repeat' (first | (with_reducible first | exact kR0 | apply kP0 | apply kN0 | apply kD0 | apply kA0) | (right;simp;done)))) (fun _ _ x => x)) (Src.of_has (m := 2) (Has.new _ 81 _) rfl)).mono ?_
 rintro e w3 ⟨A',c',rfl,hk⟩
 have hk3 := Kept.then (F := NoF) (a := w2) (by (repeat' (first | (with_reducible first | exact kR0 | apply kP0 | apply kN0 | apply kD0 | apply kA0) | (right;simp;done)))) hk
 have hs3 := (Src.of_own H2.out.1.1).kept hk3 (fun _ _ x => x)
 have HS3 := hZ0 (And.intro hs3 (H2.out.2.1.then hk3));clear hs3 hk3 hk
 have hc2 : (1 : Int) <= c := by have := H2.out.2.2.1;omega
 go_wp2_with fail
 refine (HHO.out _ _ _ HS3.out.1 H2.out.2.2.1).mono ?_
 rintro e w4 ⟨rfl,hk⟩
 have HK4 := hZ0 (HS3.out.2.then hk);clear hk
 go_wp2
 go_ret
 exact ⟨rfl,HK4.out⟩
end Ent
namespace Stz
theorem snone_nil (w : World) : Calls Tryz.prog 17 #[.pointer none] w fun e w' => e = .returned (.bool true) /\ w = w' := by
 go_enter Tryz.func17,Tryz.ntmps17
 go_wp2
 go_ret
 exact ⟨rfl,rfl⟩
section
variable {w : World} {b : Nat} {m : Bool}
theorem snone_any (h : Has w b 25 #[.slice none 0 0,.bool false,.bool m]) : Calls Tryz.prog 17 #[.pointer (some ⟨b,0,none⟩)] w fun e w' => e = .returned (.bool (!m)) /\ w = w' := by
 have c2 : w.cell? ⟨b,2,none⟩ = some (.bool m) := h.cell 2
 clear h
 go_enter Tryz.func17,Tryz.ntmps17
 go_wp2
 go_ret
 exact ⟨by simp,rfl⟩
theorem see_nil (w : World) (v : Value) : Calls Tryz.prog 5 #[.pointer none,v] w fun e w' => e = .returned (.int .i64 8) /\ w = w' := by
 have H := hZ0 (snone_nil w)
 go_enter Tryz.func5,Tryz.ntmps5
 go_wp2_with fail
 refine H.out.mono ?_
 rintro e w' ⟨rfl,rfl⟩
 go_wp2
 go_ret
 exact ⟨rfl,rfl⟩
theorem see_zero (h : Has w b 25 #[.slice none 0 0,.bool false,.bool false]) (v : Value) : Calls Tryz.prog 5 #[.pointer (some ⟨b,0,none⟩),v] w fun e w' => e = .returned (.int .i64 8) /\ w = w' := by
 have H := hZ0 (snone_any h);clear h
 go_enter Tryz.func5,Tryz.ntmps5
 go_wp2_with fail
 refine H.out.mono ?_
 rintro e w' ⟨rfl,rfl⟩
 go_wp2
 go_ret
 exact ⟨rfl,rfl⟩
theorem list_nil (w : World) : Calls Tryz.prog 6 #[.pointer none] w fun e w' => e = .returned (.slice none 0 0) /\ w = w' := by
 have H := hZ0 (snone_nil w)
 go_enter Tryz.func6,Tryz.ntmps6
 go_wp2_with fail
 refine H.out.mono ?_
 rintro e w' ⟨rfl,rfl⟩
 go_wp2
 go_ret
 exact ⟨rfl,rfl⟩
theorem list_zero (h : Has w b 25 #[.slice none 0 0,.bool false,.bool false]) : Calls Tryz.prog 6 #[.pointer (some ⟨b,0,none⟩)] w fun e w' => e = .returned (.slice none 0 0) /\ w = w' := by
 have H := hZ0 (snone_any h);clear h
 go_enter Tryz.func6,Tryz.ntmps6
 go_wp2_with fail
 refine H.out.mono ?_
 rintro e w' ⟨rfl,rfl⟩
 go_wp2
 go_ret
 exact ⟨rfl,rfl⟩
theorem len_nil (w : World) : Calls Tryz.prog 7 #[.pointer none] w fun e w' => e = .returned (.int .i64 0) /\ w = w' := by
 have H := hZ0 (snone_nil w)
 go_enter Tryz.func7,Tryz.ntmps7
 go_wp2_with fail
 refine H.out.mono ?_
 rintro e w' ⟨rfl,rfl⟩
 go_wp2
 go_ret
 exact ⟨rfl,rfl⟩
theorem len_zero (h : Has w b 25 #[.slice none 0 0,.bool false,.bool false]) : Calls Tryz.prog 7 #[.pointer (some ⟨b,0,none⟩)] w fun e w' => e = .returned (.int .i64 0) /\ w = w' := by
 have H := hZ0 (snone_any h);clear h
 go_enter Tryz.func7,Tryz.ntmps7
 go_wp2_with fail
 refine H.out.mono ?_
 rintro e w' ⟨rfl,rfl⟩
 go_wp2
 go_ret
 exact ⟨rfl,rfl⟩
theorem last_nil (w : World) : Calls Tryz.prog 8 #[.pointer none] w fun e w' => e = .returned (.int .u64 0) /\ w = w' := by
 have H := hZ0 (snone_nil w)
 go_enter Tryz.func8,Tryz.ntmps8
 go_wp2_with fail
 refine H.out.mono ?_
 rintro e w' ⟨rfl,rfl⟩
 go_wp2
 go_ret
 exact ⟨rfl,rfl⟩
theorem last_zero (h : Has w b 25 #[.slice none 0 0,.bool false,.bool false]) : Calls Tryz.prog 8 #[.pointer (some ⟨b,0,none⟩)] w fun e w' => e = .returned (.int .u64 0) /\ w = w' := by
 have H := hZ0 (snone_any h);clear h
 go_enter Tryz.func8,Tryz.ntmps8
 go_wp2_with fail
 refine H.out.mono ?_
 rintro e w' ⟨rfl,rfl⟩
 go_wp2
 go_ret
 exact ⟨rfl,rfl⟩
theorem stnew_any (w : World) : Calls Tryz.prog 9 #[] w fun e w' => e = .returned (.pointer (some ⟨w.heap.size,0,none⟩)) /\ Has w' w.heap.size 25 #[.slice none 0 0,.bool false,.bool true] /\ Kept NoF w w' := by
 go_enter Tryz.func9,Tryz.ntmps9
 go_wp2
 go_ret
 exact ⟨rfl,Has.new _ _ _,by (repeat' (first | (with_reducible first | exact kR0 | apply kP0 | apply kN0 | apply kD0 | apply kA0) | (right;simp;done)))⟩
theorem up_nil (w : World) (i : Int) : Calls Tryz.prog 18 #[.pointer none,.int .i64 i] w fun e w' => e = .returned (.bool false) /\ w = w' := by
 have hno : ∀ W,Calls Tryz.prog 44 #[.pointer none] W fun e w' => e = .returned (.bool true) /\ W = w' := fun W => by
  go_enter Tryz.func44,Tryz.ntmps44
  go_wp2
  go_ret
  exact ⟨rfl,rfl⟩
 have H := hZ0 hno;clear hno
 go_enter Tryz.func18,Tryz.ntmps18
 go_wp2_with fail
 refine (H.out _).mono ?_
 rintro e w' ⟨rfl,rfl⟩
 go_wp2
 go_ret
 exact ⟨rfl,rfl⟩
end
end Stz
end Go.Proofs.YtgffjliedjhbaaaGreat
