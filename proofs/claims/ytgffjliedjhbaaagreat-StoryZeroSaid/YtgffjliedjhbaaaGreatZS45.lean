/- Part 46 of what the proof needs. -/
import Derived.Test.YtgffjliedjhbaaaGreatZS44
set_option linter.unusedSimpArgs false
set_option linter.unusedVariables false
set_option maxHeartbeats 32000000
set_option maxRecDepth 100000
namespace Go.Proofs.YtgffjliedjhbaaaGreat
open Go.RowKit
set_option maxRecDepth 100000
namespace Mst
open Plan Vn Go.Sort
theorem run_index0 (x0 x1 x2 x3 x4 x5 x6 x7 x8 x9 x10 x11 : Int) (W : World) : (Instr.index 259 (.agg #[.int .i64 x0,.int .i64 x1,.int .i64 x2,.int .i64 x3,.int .i64 x4,.int .i64 x5,.int .i64 x6,.int .i64 x7,.int .i64 x8,.int .i64 x9,.int .i64 x10,.int .i64 x11]) (.int .i64 0)).run Tryz.prog W = .ok (.agg #[.int .i64 x0,.int .i64 x1,.int .i64 x2,.int .i64 x3]) W := by kernel_rfl
theorem run_index1 (x0 x1 x2 x3 x4 x5 x6 x7 x8 x9 x10 x11 : Int) (W : World) : (Instr.index 259 (.agg #[.int .i64 x0,.int .i64 x1,.int .i64 x2,.int .i64 x3,.int .i64 x4,.int .i64 x5,.int .i64 x6,.int .i64 x7,.int .i64 x8,.int .i64 x9,.int .i64 x10,.int .i64 x11]) (.int .i64 1)).run Tryz.prog W = .ok (.agg #[.int .i64 x4,.int .i64 x5,.int .i64 x6,.int .i64 x7]) W := by kernel_rfl
theorem run_index2 (x0 x1 x2 x3 x4 x5 x6 x7 x8 x9 x10 x11 : Int) (W : World) : (Instr.index 259 (.agg #[.int .i64 x0,.int .i64 x1,.int .i64 x2,.int .i64 x3,.int .i64 x4,.int .i64 x5,.int .i64 x6,.int .i64 x7,.int .i64 x8,.int .i64 x9,.int .i64 x10,.int .i64 x11]) (.int .i64 2)).run Tryz.prog W = .ok (.agg #[.int .i64 x8,.int .i64 x9,.int .i64 x10,.int .i64 x11]) W := by kernel_rfl
attribute [local go_sem ↓] run_index0 run_index1 run_index2
theorem out_nil {W0 w : World} {s : StR} {pre l l' : List NoteR} {A : Option Addr} {c : Nat} (h : OutAt W0 s w pre l A c) (e : l = l') : OutAt W0 s w pre l' A c := e ▸ h
theorem pins_step {pre : List NoteR} {l : List PinR} {i : Nat} {p : PinR} (h : l[i]? = some p) : pre ++ (l.take (i + 1)).map pnote = (pre ++ (l.take i).map pnote) ++ [pnote p] := by
 rw [take_snoc h,List.map_append,List.append_assoc];rfl
theorem sparts_step {l : List AnsR} {i : Nat} {a : AnsR} (h : l[i]? = some a) : sparts (l.take (i + 1)) = if decide (a ≠ ans0) = true then sparts (l.take i) ++ [snote a] else sparts (l.take i) := by
 unfold sparts
 rw [take_snoc h,List.filter_append,List.filter_cons]
 split <;> simp
theorem sparts_len (l : List AnsR) (i : Nat) : (sparts (l.take i)).length <= l.length := by
 unfold sparts
 rw [List.length_map]
 refine Nat.le_trans (List.length_filter_le ..) ?_
 rw [List.length_take]
 exact Nat.min_le_right _ _
def NotesPost (w : World) (s : StR) (e : Ending) (w' : World) : Prop :=
 ∃ A c pre,e = .returned (.slice A (pre ++ s.pins.map pnote ++ upart s ++ [hnote s.hz] ++ sparts (told3 s)).length c) /\ OutAt w s w' pre (pre ++ s.pins.map pnote ++ upart s ++ [hnote s.hz] ++ sparts (told3 s)) A c
theorem run_neq_ans0 (p : AnsR) (W : World) : (binOp .neq 114 (ansagg p) (.agg #[.int .i64 0,.int .i64 0,.int .i64 0,.int .i64 0])).run Tryz.prog W = .ok (.bool (decide (p ≠ ans0))) W := by
 obtain ⟨p1,p2,p3,p4⟩ := p
 by_cases h1 : p1 = 0 <;> by_cases h2 : p2 = 0 <;> by_cases h3 : p3 = 0 <;> by_cases h4 : p4 = 0 <;> simp [go_sem,ans0,h1,h2,h3,h4]
theorem notes_any (w : World) (b : Nat) (F : Nat -> Prop) (s : StR) (hs : StAt w b F s) (hok : SOk s) :
  Calls Tryz.prog 94 #[.pointer (some ⟨b,0,none⟩)] w (NotesPost w s) := by
 obtain ⟨mA,mc,lA,lc,pA,pc,hF,hb,hm,hl,hp⟩ := hs
 have hnone := fun W (hW : Kept NoF w W) => none_any W b s mA mc lA lc pA pc true (hb.kept hW (fun z => z))
 have hown := fun W (hW : Kept NoF w W) => own_any W s.ep s.fl mA mc s.ms ((Src.of_own hm).kept hW (fun _ _ z => z)) (by have := hok.m;omega)
 have hcl := fun W (hW : Kept NoF w W) => cloneInt_any W lA lc s.lg ((Src.of_own hl).kept hW (fun _ _ z => z)) (by have := hok.l;omega)
 have hce : ∀ W,Kept NoF w W -> W.cell? ⟨b,0,none⟩ = some (.int .i64 s.ep) /\ W.cell? ⟨b,1,none⟩ = some (.slice mA s.ms.length mc) /\ W.cell? ⟨b,2,none⟩ = some (.int .u64 s.fl) /\ W.cell? ⟨b,3,none⟩ = some (.slice lA s.lg.length lc) /\ W.cell? ⟨b,4,none⟩ = some (.int .u64 s.hz) /\ W.cell? ⟨b,5,none⟩ = some (.slice pA s.pins.length pc) /\ W.cell? ⟨b,6,none⟩ = some (.int .i64 s.top) := fun W hW => by
  have g := hb.kept hW (fun z => z)
  exact ⟨g.cell 0,g.cell 1,g.cell 2,g.cell 3,g.cell 4,g.cell 5,g.cell 6⟩
 have hct : ∀ W,Kept NoF w W -> (W.cell? ⟨b,7,none⟩ = some (.int .i64 s.t0.cl) /\ W.cell? ⟨b,7 + 1,none⟩ = some (.int .i64 s.t0.req) /\ W.cell? ⟨b,7 + 2,none⟩ = some (.int .i64 s.t0.e) /\ W.cell? ⟨b,7 + 3,none⟩ = some (.int .i64 s.t0.pin)) /\ (W.cell? ⟨b,7 + 4,none⟩ = some (.int .i64 s.t1.cl) /\ W.cell? ⟨b,7 + 5,none⟩ = some (.int .i64 s.t1.req) /\ W.cell? ⟨b,7 + 6,none⟩ = some (.int .i64 s.t1.e) /\ W.cell? ⟨b,7 + 7,none⟩ = some (.int .i64 s.t1.pin)) /\ W.cell? ⟨b,7 + 8,none⟩ = some (.int .i64 s.t2.cl) /\ W.cell? ⟨b,7 + 9,none⟩ = some (.int .i64 s.t2.req) /\ W.cell? ⟨b,7 + 10,none⟩ = some (.int .i64 s.t2.e) /\ W.cell? ⟨b,7 + 11,none⟩ = some (.int .i64 s.t2.pin) := fun W hW => by
  have g := hb.kept hW (fun z => z)
  exact ⟨⟨g.cell 7,g.cell 8,g.cell 9,g.cell 10⟩,⟨g.cell 11,g.cell 12,g.cell 13,g.cell 14⟩,g.cell 15,g.cell 16,g.cell 17,g.cell 18⟩
 have hpins := fun W (hW : Kept NoF w W) => (Src.of_own hp).kept hW (fun _ _ z => z)
 obtain ⟨W0,hW0⟩ : ∃ W0,w.alloc (.cells #[.pointer (some ⟨b,0,none⟩)] 172) = W0 := ⟨_,rfl⟩
 have hk0 : Kept NoF w W0 := by rw [<- hW0];(repeat' (first | (with_reducible first | exact kR0 | apply kP0 | apply kN0 | apply kD0 | apply kA0) | (right;simp;done)))
 have hn0 : Has W0 w.heap.size 172 #[.pointer (some ⟨b,0,none⟩)] := by rw [<- hW0];exact Has.new _ _ _
 have hx : ∀ W,Kept NoF W0 W -> W.cell? ⟨w.heap.size,0,none⟩ = some (.pointer (some ⟨b,0,none⟩)) := fun W hW => (hn0.kept hW (fun z => z)).cell 0
 have hhas := fun W (hW : Kept NoF W0 W) => hasPin_any W pA pc s.pins 166 (.pointer (some ⟨w.heap.size,0,none⟩)) (fun p => decide (p.id = s.top)) (fun args W => enters Tryz.func166 (by kernel_rfl) rfl args W) (hpins W (hk0.then hW)) (by have := hok.p;omega)
  (fun W2 p hW2 _ => notes1_any W2 p w.heap.size b s mA mc lA lc pA pc (hn0.kept (hW.then hW2) (fun z => z)) (hb.kept (hk0.then (hW.then hW2)) (fun z => z)))
 obtain ⟨un,hun⟩ : ∃ un,(s.pins.any fun p => decide (p.id = s.top)) = un := ⟨_,rfl⟩
 rw [hun] at hhas
 have hup : upart s = if un = true then [] else [unote s.top] := by unfold upart;rw [hun]
 have hpl := hok.p
 have HNO := hZ0 hnone;have HOWN := hZ0 hown;have HCL := hZ0 hcl;have HCE := hZ0 hce;have HCT := hZ0 hct;have HPI := hZ0 hpins;have HK0 := hZ0 hk0;have HX := hZ0 hx;have HHAS := hZ0 hhas
 have HUP := hZ0 hup;have HLT := hZ0 hb.lt
 clear hnone hown hcl hce hct hpins hk0 hx hhas hun hup hn0 hF hb hm hl hp hok
 go_enter Tryz.func94,Tryz.ntmps94
 have x0 := HX.out _ (Kept.refl _ _)
 go_wp2_with fail
 clear hW0
 refine (HNO.out _ HK0.out).mono ?_
 rintro e w2 ⟨rfl,hk⟩
 have HK2 := hZ0 hk;clear hk x0
 obtain ⟨z0,z1,z2,z3,z4,z5,z6⟩ := HCE.out w2 (HK0.out.then HK2.out)
 have x0 := HX.out _ HK2.out
 by_cases hep : 0 < s.ep
 case' neg =>
  have hep' : (0 < s.ep) = False := eq_false hep
  go_wp2_with fail
  clear hep' z0 z1 z2 z3 z4 z5 z6 x0
  obtain ⟨w5,hw5⟩ : ∃ w5,w5 = w2 := ⟨_,rfl⟩
  obtain ⟨pre,hpre⟩ : ∃ pre : List NoteR,pre = [] := ⟨_,rfl⟩
  have hout : OutAt W0 s w5 pre pre none 0 := by
   subst hpre
   exact ⟨⟨rfl,.inl ⟨rfl,rfl⟩⟩,(fun k hk => by cases hk),.inl ⟨rfl,by omega⟩,hw5 ▸ HK2.out⟩
  obtain ⟨V,hV⟩ : ∃ V : Value,V = .slice none 0 0 := ⟨_,rfl⟩
  have HOUT : Hid (∃ A c,Value.slice none 0 0 = .slice A pre.length c /\ OutAt W0 s w5 pre pre A c) := hZ0 ⟨none,0,by rw [hpre];rfl,hout⟩
  have HPL : Hid (pre.length <= 1) := hZ0 (by rw [hpre];decide)
  rw [<- hw5]
  clear hout hV V hpre hw5 HK2
  skip
 case' pos =>
  have hep' : (0 < s.ep) = True := eq_true hep
  have HS := hZ0 (Kept.refl NoF w2)
  have HM1 : Hid (0 + 1 <= maxLen) := hZ0 (by decide)
  have HM2 : Hid ((0 + 1) * 192 <= 140737488355328) := hZ0 (by decide)
  have HSS : Hid (∀ W,Kept NoF w2 W -> W.cell? ⟨w.heap.size,0,none⟩ = some (.pointer (some ⟨b,0,none⟩)) /\ W.cell? ⟨b,0,none⟩ = some (.int .i64 s.ep) /\ W.cell? ⟨b,1,none⟩ = some (.slice mA s.ms.length mc) /\ W.cell? ⟨b,2,none⟩ = some (.int .u64 s.fl) /\ W.cell? ⟨b,3,none⟩ = some (.slice lA s.lg.length lc)) := hZ0 fun W hW => by
   have r := HCE.out _ (HK0.out.then (HK2.out.then hW))
   exact ⟨HX.out _ (HK2.out.then hW),r.1,r.2.1,r.2.2.1,r.2.2.2.1⟩
  go_wp2_with fail
  (go_region_held3 (fun W => W.cell? ⟨w.heap.size,0,none⟩ = some (.pointer (some ⟨b,0,none⟩)) /\ W.cell? ⟨b,0,none⟩ = some (.int .i64 s.ep) /\ W.cell? ⟨b,1,none⟩ = some (.slice mA s.ms.length mc) /\ W.cell? ⟨b,2,none⟩ = some (.int .u64 s.fl) /\ W.cell? ⟨b,3,none⟩ = some (.slice lA s.lg.length lc))
    (first | with_reducible exact HSS.out _ HS.out | (refine HSS.out _ ?_;(repeat' (first | (with_reducible first | exact kR0 | apply kP0 | apply kN0 | apply kD0 | apply kA0) | (exact HS.out) | (right;simp;done)));done) | (simp [go_sem,x0,z0,z1,z2,z3];done))
    (first
     | (go_at_call 163;((with_reducible refine (HOWN.out _ ?_).mono ?_);(exact HK0.out.then (HK2.out.then (by (repeat' (first | (with_reducible first | exact kR0 | apply kP0 | apply kN0 | apply kD0 | apply kA0) | (exact HS.out) | (right;simp;done))))));rintro e w4 ⟨A4,c4,rfl,hn4,hk4⟩;have hk := Kept.then (F := NoF) (a := w2) (by (repeat' (first | (with_reducible first | exact kR0 | apply kP0 | apply kN0 | apply kD0 | apply kA0) | (exact HS.out) | (right;simp;done)))) hk4;have HN4 := hZ0 hn4.1;clear HS hk4 hn4;have HS := hZ0 hk;clear hk))
     | (go_at_call 164;((with_reducible refine (HCL.out _ ?_).mono ?_);(exact HK0.out.then (HK2.out.then (by (repeat' (first | (with_reducible first | exact kR0 | apply kP0 | apply kN0 | apply kD0 | apply kA0) | (exact HS.out) | (right;simp;done))))));rintro e w3 ⟨A5,c5,rfl,hn5,hk5⟩;have hk := Kept.then (F := NoF) (a := w2) (by (repeat' (first | (with_reducible first | exact kR0 | apply kP0 | apply kN0 | apply kD0 | apply kA0) | (exact HS.out) | (right;simp;done)))) hk5;have HN5 := hZ0 (And.intro (own_kept HN4.out (F := NoF) (Kept.then (F := NoF) (a := w4) (by (repeat' (first | (with_reducible first | exact kR0 | apply kP0 | apply kN0 | apply kD0 | apply kA0) | (right;simp;done)))) hk5) (fun _ _ z => z)) hn5.1);have HSZ3 := hZ0 hk.size;clear HS hk5 hn5 HN4;have HS := hZ0 hk;clear hk))
     | (with_reducible apply step_append_src elemNote (.tmp 16) (.tmp 28) (n := 0) (xs := []) (m := 1) (c := 1) (news := [.int .i64 1,.int .i64 0,.int .u64 0,.int .i64 s.ep,.slice A4 s.ms.length c4,.int .u64 s.fl,.slice A5 s.lg.length c5,.int .i64 0,.int .i64 0,.slice none 0 0,.int .u64 0,.int .i64 0,.int .u64 0,.int .i64 0,.int .i64 0,.int .i64 0,.int .i64 0,.int .i64 0])
        rfl
        rfl
        exact (rfl : _ = Value.slice none 0 0)
        (exact ⟨rfl,.inl ⟨rfl,rfl⟩⟩)
        exact (rfl : _ = Value.slice (some ⟨_,0,none⟩) 1 1)
        ((with_reducible apply Src.of_has (t := 116) (m := 1) (cs := #[.int .i64 1,.int .i64 0,.int .u64 0,.int .i64 s.ep,.slice A4 s.ms.length c4,.int .u64 s.fl,.slice A5 s.lg.length c5,.int .i64 0,.int .i64 0,.slice none 0 0,.int .u64 0,.int .i64 0,.int .u64 0,.int .i64 0,.int .i64 0,.int .i64 0,.int .i64 0,.int .i64 0]));(repeat (first | with_reducible exact Has.new_at _ _ _ (by simp) | with_reducible apply Has.drew | with_reducible apply Has.drewN | with_reducible apply Has.alloc | (with_reducible apply Has.past <;> (try omega)) ));rfl)
        exact one_ncell (cnote s A4 c4 A5 c5)
        exact HM1.out
        exact HM2.out
        intro A6 c6 w6 ho6 hg6 ha6
        simp only [Nat.zero_add,List.nil_append] at ho6 ha6 ⊢
        (have hk6 : Kept NoF w2 w6 := Kept.grown (Kept.then (F := NoF) (a := w2) HS.out (by (repeat' (first | (with_reducible first | exact kR0 | apply kP0 | apply kN0 | apply kD0 | apply kA0) | (right;simp;done))))) hg6 (fun k hk => by cases hk))
        (have hk36 : Kept NoF w3 w6 := Kept.grown (by (repeat' (first | (with_reducible first | exact kR0 | apply kP0 | apply kN0 | apply kD0 | apply kA0) | (right;simp;done)))) hg6 (fun k hk => by cases hk))
        have HP6 : Hid (PreAt w6 s [cnote s A4 c4 A5 c5]) := hZ0 (.inr ⟨hep,A4,c4,A5,c5,rfl,own_kept HN5.out.1 hk36 (fun _ _ z => z),own_kept HN5.out.2 hk36 (fun _ _ z => z)⟩)
        have HZ6 := hZ0 (And.intro ho6 ha6)
        clear HS
        have HS := hZ0 hk6
        clear ho6 hg6 ha6 hk6 hk36)))
  obtain ⟨pre,hpre⟩ : ∃ pre : List NoteR,pre = [cnote s A4 c4 A5 c5] := ⟨_,rfl⟩
  have HOUT : Hid (∃ A c,Value.slice A6 1 c6 = .slice A pre.length c /\ OutAt W0 s w6 pre pre A c) := hZ0 ⟨A6,c6,by rw [hpre];rfl,by
   subst hpre
   refine ⟨HZ6.out.1,fun k hk => ?_,HP6.out,HK2.out.then HS.out⟩
   rcases HZ6.out.2 with e | e
   ·have h9 := e.symm.trans hk;cases h9
   ·have h9 := e.symm.trans hk
    injection h9 with h9
    have h8 := HK2.out.size
    have h7 := HSZ3.out
    first | (simp at h9;omega) | omega⟩
  have HPL : Hid (pre.length <= 1) := hZ0 (by rw [hpre];exact Nat.le_refl _)
  obtain ⟨w5,hw5⟩ : ∃ w5,w5 = w6 := ⟨_,rfl⟩
  rw [<- hw5] at HOUT ⊢
  clear hpre hw5 HZ6 HP6 HS HN5 HSS HK2 HM1 HM2 hep' z0 z1 z2 z3 z4 z5 z6 x0 HSZ3
  skip
 all_goals
  have hk5 : Kept NoF W0 w5 := by obtain ⟨A,c,_,ho⟩ := HOUT.out;exact ho.kept
  obtain ⟨z0,z1,z2,z3,z4,z5,z6⟩ := HCE.out w5 (HK0.out.then hk5)
  have x0 := HX.out _ hk5
  have HK5 := hZ0 hk5
  clear hk5
  go_wp2_with fail
  clear z0 z1 z2 z3 z4 z5 z6 x0
  go_loopw [3,5,35] (fun v3 v5 v35 wr => ∃ (i : Nat) (A : Option Addr) (c : Nat),i <= s.pins.length /\ v35 = .int .i64 i /\ v3 = .slice A (pre ++ (s.pins.take i).map pnote).length c /\ OutAt W0 s wr pre (pre ++ (s.pins.take i).map pnote) A c) (fun _ _ v35 _ => s.pins.length - (intOf v35).toNat)
  case atStart =>
   obtain ⟨A,c,e,ho⟩ := HOUT.out
   exact ⟨0,A,c,Nat.zero_le _,rfl,by rw [List.take_zero,List.map_nil,List.append_nil];exact e,out_nil ho (by simp)⟩
  case round =>
   obtain ⟨i,A,c,hi,rfl,rfl,ho⟩ := hrel
   have HO := hZ0 ho;clear ho HOUT HK5
   have hlen : (pre ++ (s.pins.take i).map pnote).length <= 1 + i := by
    rw [List.length_append,List.length_map,List.length_take]
    have := HPL.out
    omega
   by_cases hil : i < s.pins.length
   ·obtain ⟨⟨p1,p2,p3⟩,hp⟩ : ∃ p,s.pins[i]? = some p := ⟨_,List.getElem?_eq_getElem hil⟩
    obtain ⟨ad,rfl,had,q0,q1,q2⟩ := pin_cells (HPI.out _ (HK0.out.then HO.out.kept)) (by omega) i _ hp
    dsimp only at q0 q1 q2
    have hst := pins_step (pre := pre) hp
    have HST := hZ0 hst;clear hst hp
    obtain ⟨L,hL⟩ : ∃ L,pre ++ (s.pins.take i).map pnote = L := ⟨_,rfl⟩
    rw [hL] at HO HST hlen
    simp only [hL]
    clear hL
    have HM1 : Hid (L.length + 1 <= maxLen) := hZ0 (by unfold maxLen;omega)
    have HM2 : Hid ((L.length + 1) * 192 <= 140737488355328) := hZ0 (by omega)
    clear hlen
    go_wp2_with (at_builtin;refine list_append_src elemNote (.tmp 39) (.tmp 42) rfl rfl (Value.slice A (L).length c) rfl (own_kept HO.out.own (F := NoF) (by (repeat' (first | (with_reducible first | exact kR0 | apply kP0 | apply kN0 | apply kD0 | apply kA0) | (right;simp;done)))) (fun _ _ x => x)) 1 rfl (Src.of_has (t := 116) (m := 1) (cs := #[.int .i64 6,.int .i64 0,.int .u64 0,.int .i64 0,.slice none 0 0,.int .u64 0,.slice none 0 0,.int .i64 0,.int .i64 0,.slice none 0 0,.int .u64 0,.int .i64 p1,.int .u64 p2,.int .i64 p3,.int .i64 0,.int .i64 0,.int .i64 0,.int .i64 0]) (by (repeat (first | with_reducible exact Has.new_at _ _ _ (by simp) | with_reducible apply Has.drew | with_reducible apply Has.drewN | with_reducible apply Has.alloc | (with_reducible apply Has.past <;> (try omega)) ))) rfl) (one_ncell (pnote ⟨p1,p2,p3⟩)) HM1.out HM2.out ?_;intro A1 c1 w9 ho1 hg1 ha1;have hpush := OutAt.push (pnote ⟨p1,p2,p3⟩) HO.out (by (repeat' (first | (with_reducible first | exact kR0 | apply kP0 | apply kN0 | apply kD0 | apply kA0) | (right;simp;done)))) ho1 hg1 ha1;have HP := hZ0 hpush;clear ho1 hg1 ha1 hpush)
    go_roundw
    case rel => exact ⟨i + 1,A1,c1,by omega,by go_num,by rw [HST.out];simp,out_nil HP.out HST.out.symm⟩
    case measure => simp [intOf];omega
   ·obtain rfl : i = s.pins.length := by omega
    rw [List.take_length] at hlen HO
    rw [List.take_length]
    obtain ⟨L,hL⟩ : ∃ L,pre ++ s.pins.map pnote = L := ⟨_,rfl⟩
    rw [hL] at HO hlen
    rw [hL]
    have HL := hZ0 hL;clear hL
    obtain ⟨z0,z1,z2,z3,z4,z5,z6⟩ := HCE.out _ (HK0.out.then HO.out.kept)
    have x0 := HX.out _ HO.out.kept
    go_wp2_with fail
    clear z0 z1 z2 z3 z4 z5 z6 x0
    refine (HHAS.out _ HO.out.kept).mono ?_
    rintro e w6 ⟨rfl,hk⟩
    have HO6 := hZ0 (HO.out.still hk);clear hk
    obtain ⟨z0,z1,z2,z3,z4,z5,z6⟩ := HCE.out _ (HK0.out.then HO6.out.kept)
    have x0 := HX.out _ HO6.out.kept
    have HM1 : Hid (L.length + 1 <= maxLen) := hZ0 (by unfold maxLen;omega)
    have HM2 : Hid ((L.length + 1) * 192 <= 140737488355328) := hZ0 (by omega)
    cases un
    case' true =>
     rw [if_pos rfl] at HUP
     go_wp2_with (at_builtin;refine list_append_src elemNote (.tmp 60) (.tmp 66) rfl rfl (Value.slice A (L).length c) rfl (own_kept HO6.out.own (F := NoF) (by (repeat' (first | (with_reducible first | exact kR0 | apply kP0 | apply kN0 | apply kD0 | apply kA0) | (right;simp;done)))) (fun _ _ x => x)) 1 rfl (Src.of_has (t := 116) (m := 1) (cs := #[.int .i64 4,.int .i64 0,.int .u64 s.hz,.int .i64 0,.slice none 0 0,.int .u64 0,.slice none 0 0,.int .i64 0,.int .i64 0,.slice none 0 0,.int .u64 0,.int .i64 0,.int .u64 0,.int .i64 0,.int .i64 0,.int .i64 0,.int .i64 0,.int .i64 0]) (by (repeat (first | with_reducible exact Has.new_at _ _ _ (by simp) | with_reducible apply Has.drew | with_reducible apply Has.drewN | with_reducible apply Has.alloc | (with_reducible apply Has.past <;> (try omega)) ))) rfl) (one_ncell (hnote s.hz)) HM1.out HM2.out ?_;intro A1 c1 w9 ho1 hg1 ha1;have hpush := OutAt.push (hnote s.hz) HO6.out (by (repeat' (first | (with_reducible first | exact kR0 | apply kP0 | apply kN0 | apply kD0 | apply kA0) | (right;simp;done)))) ho1 hg1 ha1;have HO9 := hZ0 hpush;clear ho1 hg1 ha1 hpush;clear z0 z1 z2 z3 z4 z5 z6 x0;have y0 := HX.out _ HO9.out.kept;obtain ⟨⟨t00,t01,t02,t03⟩,⟨t10,t11,t12,t13⟩,t20,t21,t22,t23⟩ := HCT.out _ (HK0.out.then HO9.out.kept))
     have HL9 : Hid (L ++ [hnote s.hz] = pre ++ s.pins.map pnote ++ upart s ++ [hnote s.hz]) := hZ0 (by rw [HUP.out,List.append_nil,HL.out])
     have hlen9 : (L ++ [hnote s.hz]).length <= 4 + s.pins.length := by rw [List.length_append];simp;omega
     have e9 : L.length + 1 = (L ++ [hnote s.hz]).length := by simp
     rw [e9] at ⊢
     obtain ⟨L9,hL9⟩ : ∃ L9,L9 = L ++ [hnote s.hz] := ⟨_,rfl⟩
     rw [<- hL9] at HO9 HL9 hlen9 ⊢
     clear HO6 hL9 hlen HM1 HM2 e9 y0 t00 t01 t02 t03 t10 t11 t12 t13 t20 t21 t22 t23
     skip
    case' false =>
     rw [if_neg (by simp)] at HUP
     go_wp2_with (first | (at_builtin;refine list_append_src elemNote (.tmp 60) (.tmp 66) rfl rfl (Value.slice A1 (L8).length c1) rfl (own_kept HO8.out.own (F := NoF) (by (repeat' (first | (with_reducible first | exact kR0 | apply kP0 | apply kN0 | apply kD0 | apply kA0) | (right;simp;done)))) (fun _ _ x => x)) 1 rfl (Src.of_has (t := 116) (m := 1) (cs := #[.int .i64 4,.int .i64 0,.int .u64 s.hz,.int .i64 0,.slice none 0 0,.int .u64 0,.slice none 0 0,.int .i64 0,.int .i64 0,.slice none 0 0,.int .u64 0,.int .i64 0,.int .u64 0,.int .i64 0,.int .i64 0,.int .i64 0,.int .i64 0,.int .i64 0]) (by (repeat (first | with_reducible exact Has.new_at _ _ _ (by simp) | with_reducible apply Has.drew | with_reducible apply Has.drewN | with_reducible apply Has.alloc | (with_reducible apply Has.past <;> (try omega)) ))) rfl) (one_ncell (hnote s.hz)) HM3.out HM4.out ?_;intro A2 c2 w10 ho1 hg1 ha1;have hpush := OutAt.push (hnote s.hz) HO8.out (by (repeat' (first | (with_reducible first | exact kR0 | apply kP0 | apply kN0 | apply kD0 | apply kA0) | (right;simp;done)))) ho1 hg1 ha1;have HO9 := hZ0 hpush;clear ho1 hg1 ha1 hpush;clear y0 y1 y2 y3 y4 y5 y6 y7;have y0 := HX.out _ HO9.out.kept;obtain ⟨⟨t00,t01,t02,t03⟩,⟨t10,t11,t12,t13⟩,t20,t21,t22,t23⟩ := HCT.out _ (HK0.out.then HO9.out.kept)) | (at_builtin;refine list_append_src elemNote (.tmp 52) (.tmp 58) rfl rfl (Value.slice A (L).length c) rfl (own_kept HO6.out.own (F := NoF) (by (repeat' (first | (with_reducible first | exact kR0 | apply kP0 | apply kN0 | apply kD0 | apply kA0) | (right;simp;done)))) (fun _ _ x => x)) 1 rfl (Src.of_has (t := 116) (m := 1) (cs := #[.int .i64 7,.int .i64 s.top,.int .u64 0,.int .i64 0,.slice none 0 0,.int .u64 0,.slice none 0 0,.int .i64 0,.int .i64 0,.slice none 0 0,.int .u64 0,.int .i64 0,.int .u64 0,.int .i64 0,.int .i64 0,.int .i64 0,.int .i64 0,.int .i64 0]) (by (repeat (first | with_reducible exact Has.new_at _ _ _ (by simp) | with_reducible apply Has.drew | with_reducible apply Has.drewN | with_reducible apply Has.alloc | (with_reducible apply Has.past <;> (try omega)) ))) rfl) (one_ncell (unote s.top)) HM1.out HM2.out ?_;intro A1 c1 w9 ho1 hg1 ha1;have hpush := OutAt.push (unote s.top) HO6.out (by (repeat' (first | (with_reducible first | exact kR0 | apply kP0 | apply kN0 | apply kD0 | apply kA0) | (right;simp;done)))) ho1 hg1 ha1;have HO8 := hZ0 hpush;clear ho1 hg1 ha1 hpush;have e8 : L.length + 1 = (L ++ [unote s.top]).length := (by simp);obtain ⟨L8,hL8⟩ : ∃ L8,L8 = L ++ [unote s.top] := ⟨_,rfl⟩;rw [<- hL8] at HO8 e8;rw [e8];have HM3 : Hid (L8.length + 1 <= maxLen) := hZ0 (by unfold maxLen;omega);have HM4 : Hid ((L8.length + 1) * 192 <= 140737488355328) := hZ0 (by omega);have HE8 := hZ0 hL8;clear hL8 e8;have y0 := HX.out _ HO8.out.kept;obtain ⟨y1,y2,y3,y4,y5,y6,y7⟩ := HCE.out _ (HK0.out.then HO8.out.kept)))
     have hl8 : L8.length = L.length + 1 := by rw [HE8.out];simp
     have HL9 : Hid (L8 ++ [hnote s.hz] = pre ++ s.pins.map pnote ++ upart s ++ [hnote s.hz]) := hZ0 (by rw [HE8.out,HUP.out,HL.out])
     have hlen9 : (L8 ++ [hnote s.hz]).length <= 4 + s.pins.length := by rw [List.length_append];simp;omega
     have e9 : L8.length + 1 = (L8 ++ [hnote s.hz]).length := by simp
     rw [e9] at ⊢
     obtain ⟨L9,hL9⟩ : ∃ L9,L9 = L8 ++ [hnote s.hz] := ⟨_,rfl⟩
     rw [<- hL9] at HO9 HL9 hlen9 ⊢
     clear z0 z1 z2 z3 z4 z5 z6 x0 HO6 HO8 hL9 hlen HM1 HM2 HM3 HM4 HE8 hl8 e9 y0 t00 t01 t02 t03 t10 t11 t12 t13 t20 t21 t22 t23
     skip
    all_goals
     rename_i A9 c9 w9
     go_loopw [3,7,72] (fun v3 _ v72 wr => ∃ (i : Nat) (A : Option Addr) (c : Nat),i <= 3 /\ v72 = .int .i64 i /\ v3 = .slice A (L9 ++ sparts ((told3 s).take i)).length c /\ OutAt W0 s wr pre (L9 ++ sparts ((told3 s).take i)) A c) (fun _ _ v72 _ => 3 - (intOf v72).toNat)
     case atStart => exact ⟨0,_,_,Nat.zero_le _,rfl,by rw [List.take_zero];simp [sparts],out_nil HO9.out (by simp [sparts])⟩
     case round =>
      obtain ⟨i,A,c,hi,rfl,rfl,ho⟩ := hrel
      have HO := hZ0 ho;clear ho HO9
      have hlen : (L9 ++ sparts ((told3 s).take i)).length <= 7 + s.pins.length := by
       rw [List.length_append]
       have := sparts_len (told3 s) i
       have : (told3 s).length = 3 := rfl
       omega
      by_cases hi3 : i < 3
      ·have hi3' : i = 0 \/ i = 1 \/ i = 2 := by omega
       rcases hi3' with rfl | rfl | rfl
       ·have hst := sparts_step (show (told3 s)[0]? = some s.t0 from rfl)
        have hne := run_neq_ans0 s.t0
        obtain ⟨d,hd⟩ : ∃ d,decide (s.t0 ≠ ans0) = d := ⟨_,rfl⟩
        rw [hd] at hne hst
        clear hd
        obtain ⟨L,hL⟩ : ∃ L,L9 ++ sparts ((told3 s).take 0) = L := ⟨_,rfl⟩
        have hst2 : L9 ++ sparts ((told3 s).take (0 + 1)) = if d = true then L ++ [snote s.t0] else L := by
         rw [hst,<- hL]
         split
         ·rw [List.append_assoc]
         ·rfl
        rw [hL] at HO hlen
        have HM1 : Hid (L.length + 1 <= maxLen) := hZ0 (by unfold maxLen;omega)
        have HM2 : Hid ((L.length + 1) * 192 <= 140737488355328) := hZ0 (by omega)
        simp only [hL]
        clear hL hlen hst
        dsimp only [ansagg] at hne
        cases d
        ·rw [if_neg (by simp)] at hst2
         have HST := hZ0 hst2;clear hst2
         go_wp2
         go_roundw
         case rel => exact ⟨0 + 1,A,c,by omega,by go_num,by rw [HST.out],out_nil (HO.out.still (by (repeat' (first | (with_reducible first | exact kR0 | apply kP0 | apply kN0 | apply kD0 | apply kA0) | (right;simp;done))))) HST.out.symm⟩
         case measure => simp [intOf]
        ·rw [if_pos rfl] at hst2
         have HST := hZ0 hst2;clear hst2
         go_wp2_with (at_builtin;refine list_append_src elemNote (.tmp 78) (.tmp 81) rfl rfl (Value.slice A (L).length c) rfl (own_kept HO.out.own (F := NoF) (by (repeat' (first | (with_reducible first | exact kR0 | apply kP0 | apply kN0 | apply kD0 | apply kA0) | (right;simp;done)))) (fun _ _ x => x)) 1 rfl (Src.of_has (t := 116) (m := 1) (cs := #[.int .i64 8,.int .i64 0,.int .u64 0,.int .i64 0,.slice none 0 0,.int .u64 0,.slice none 0 0,.int .i64 0,.int .i64 0,.slice none 0 0,.int .u64 0,.int .i64 0,.int .u64 0,.int .i64 0,.int .i64 s.t0.cl,.int .i64 s.t0.req,.int .i64 s.t0.e,.int .i64 s.t0.pin]) (by (repeat (first | with_reducible exact Has.new_at _ _ _ (by simp) | with_reducible apply Has.drew | with_reducible apply Has.drewN | with_reducible apply Has.alloc | (with_reducible apply Has.past <;> (try omega)) ))) rfl) (one_ncell (snote s.t0)) HM1.out HM2.out ?_;intro A1 c1 w9 ho1 hg1 ha1;have hpush := OutAt.push (snote s.t0) HO.out (by (repeat' (first | (with_reducible first | exact kR0 | apply kP0 | apply kN0 | apply kD0 | apply kA0) | (right;simp;done)))) ho1 hg1 ha1;have HP := hZ0 hpush;clear ho1 hg1 ha1 hpush)
         go_roundw
         case rel => exact ⟨0 + 1,A1,c1,by omega,by go_num,by rw [HST.out];simp,out_nil HP.out HST.out.symm⟩
         case measure => simp [intOf]
       ·have hst := sparts_step (show (told3 s)[1]? = some s.t1 from rfl)
        have hne := run_neq_ans0 s.t1
        obtain ⟨d,hd⟩ : ∃ d,decide (s.t1 ≠ ans0) = d := ⟨_,rfl⟩
        rw [hd] at hne hst
        clear hd
        obtain ⟨L,hL⟩ : ∃ L,L9 ++ sparts ((told3 s).take 1) = L := ⟨_,rfl⟩
        have hst2 : L9 ++ sparts ((told3 s).take (1 + 1)) = if d = true then L ++ [snote s.t1] else L := by
         rw [hst,<- hL]
         split
         ·rw [List.append_assoc]
         ·rfl
        rw [hL] at HO hlen
        have HM1 : Hid (L.length + 1 <= maxLen) := hZ0 (by unfold maxLen;omega)
        have HM2 : Hid ((L.length + 1) * 192 <= 140737488355328) := hZ0 (by omega)
        simp only [hL]
        clear hL hlen hst
        dsimp only [ansagg] at hne
        cases d
        ·rw [if_neg (by simp)] at hst2
         have HST := hZ0 hst2;clear hst2
         go_wp2
         go_roundw
         case rel => exact ⟨1 + 1,A,c,by omega,by go_num,by rw [HST.out],out_nil (HO.out.still (by (repeat' (first | (with_reducible first | exact kR0 | apply kP0 | apply kN0 | apply kD0 | apply kA0) | (right;simp;done))))) HST.out.symm⟩
         case measure => simp [intOf]
        ·rw [if_pos rfl] at hst2
         have HST := hZ0 hst2;clear hst2
         go_wp2_with (at_builtin;refine list_append_src elemNote (.tmp 78) (.tmp 81) rfl rfl (Value.slice A (L).length c) rfl (own_kept HO.out.own (F := NoF) (by (repeat' (first | (with_reducible first | exact kR0 | apply kP0 | apply kN0 | apply kD0 | apply kA0) | (right;simp;done)))) (fun _ _ x => x)) 1 rfl (Src.of_has (t := 116) (m := 1) (cs := #[.int .i64 8,.int .i64 0,.int .u64 0,.int .i64 0,.slice none 0 0,.int .u64 0,.slice none 0 0,.int .i64 0,.int .i64 0,.slice none 0 0,.int .u64 0,.int .i64 0,.int .u64 0,.int .i64 0,.int .i64 s.t1.cl,.int .i64 s.t1.req,.int .i64 s.t1.e,.int .i64 s.t1.pin]) (by (repeat (first | with_reducible exact Has.new_at _ _ _ (by simp) | with_reducible apply Has.drew | with_reducible apply Has.drewN | with_reducible apply Has.alloc | (with_reducible apply Has.past <;> (try omega)) ))) rfl) (one_ncell (snote s.t1)) HM1.out HM2.out ?_;intro A1 c1 w9 ho1 hg1 ha1;have hpush := OutAt.push (snote s.t1) HO.out (by (repeat' (first | (with_reducible first | exact kR0 | apply kP0 | apply kN0 | apply kD0 | apply kA0) | (right;simp;done)))) ho1 hg1 ha1;have HP := hZ0 hpush;clear ho1 hg1 ha1 hpush)
         go_roundw
         case rel => exact ⟨1 + 1,A1,c1,by omega,by go_num,by rw [HST.out];simp,out_nil HP.out HST.out.symm⟩
         case measure => simp [intOf]
       ·have hst := sparts_step (show (told3 s)[2]? = some s.t2 from rfl)
        have hne := run_neq_ans0 s.t2
        obtain ⟨d,hd⟩ : ∃ d,decide (s.t2 ≠ ans0) = d := ⟨_,rfl⟩
        rw [hd] at hne hst
        clear hd
        obtain ⟨L,hL⟩ : ∃ L,L9 ++ sparts ((told3 s).take 2) = L := ⟨_,rfl⟩
        have hst2 : L9 ++ sparts ((told3 s).take (2 + 1)) = if d = true then L ++ [snote s.t2] else L := by
         rw [hst,<- hL]
         split
         ·rw [List.append_assoc]
         ·rfl
        rw [hL] at HO hlen
        have HM1 : Hid (L.length + 1 <= maxLen) := hZ0 (by unfold maxLen;omega)
        have HM2 : Hid ((L.length + 1) * 192 <= 140737488355328) := hZ0 (by omega)
        simp only [hL]
        clear hL hlen hst
        dsimp only [ansagg] at hne
        cases d
        ·rw [if_neg (by simp)] at hst2
         have HST := hZ0 hst2;clear hst2
         go_wp2
         go_roundw
         case rel => exact ⟨2 + 1,A,c,by omega,by go_num,by rw [HST.out],out_nil (HO.out.still (by (repeat' (first | (with_reducible first | exact kR0 | apply kP0 | apply kN0 | apply kD0 | apply kA0) | (right;simp;done))))) HST.out.symm⟩
         case measure => simp [intOf]
        ·rw [if_pos rfl] at hst2
         have HST := hZ0 hst2;clear hst2
         go_wp2_with (at_builtin;refine list_append_src elemNote (.tmp 78) (.tmp 81) rfl rfl (Value.slice A (L).length c) rfl (own_kept HO.out.own (F := NoF) (by (repeat' (first | (with_reducible first | exact kR0 | apply kP0 | apply kN0 | apply kD0 | apply kA0) | (right;simp;done)))) (fun _ _ x => x)) 1 rfl (Src.of_has (t := 116) (m := 1) (cs := #[.int .i64 8,.int .i64 0,.int .u64 0,.int .i64 0,.slice none 0 0,.int .u64 0,.slice none 0 0,.int .i64 0,.int .i64 0,.slice none 0 0,.int .u64 0,.int .i64 0,.int .u64 0,.int .i64 0,.int .i64 s.t2.cl,.int .i64 s.t2.req,.int .i64 s.t2.e,.int .i64 s.t2.pin]) (by (repeat (first | with_reducible exact Has.new_at _ _ _ (by simp) | with_reducible apply Has.drew | with_reducible apply Has.drewN | with_reducible apply Has.alloc | (with_reducible apply Has.past <;> (try omega)) ))) rfl) (one_ncell (snote s.t2)) HM1.out HM2.out ?_;intro A1 c1 w9 ho1 hg1 ha1;have hpush := OutAt.push (snote s.t2) HO.out (by (repeat' (first | (with_reducible first | exact kR0 | apply kP0 | apply kN0 | apply kD0 | apply kA0) | (right;simp;done)))) ho1 hg1 ha1;have HP := hZ0 hpush;clear ho1 hg1 ha1 hpush)
         go_roundw
         case rel => exact ⟨2 + 1,A1,c1,by omega,by go_num,by rw [HST.out];simp,out_nil HP.out HST.out.symm⟩
         case measure => simp [intOf]
      ·obtain rfl : i = 3 := by omega
       go_wp2
       go_ret
       refine ⟨A,c,pre,?_,?_⟩
       ·rw [<- HL9.out];rfl
       ·rw [<- HL9.out]
        have h9 := HO.out
        exact ⟨h9.own,fun k hk => Nat.le_trans HK0.out.size (h9.new k hk),h9.pre,HK0.out.then h9.kept⟩
end Mst
end Go.Proofs.YtgffjliedjhbaaaGreat
