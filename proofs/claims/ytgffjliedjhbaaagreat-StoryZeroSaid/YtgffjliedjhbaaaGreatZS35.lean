/- Part 36 of what the proof needs. -/
import Derived.Test.YtgffjliedjhbaaaGreatZS34
set_option linter.unusedSimpArgs false
set_option linter.unusedVariables false
set_option maxHeartbeats 32000000
set_option maxRecDepth 100000
namespace Go.Proofs.YtgffjliedjhbaaaGreat
open Go.RowKit
set_option maxRecDepth 100000
namespace Mst
open Plan Vn Go.Sort
def pinE (s : StR) (p : PinR) : Int := if 0 <= pinAt s.pins p.id then 0 else if 3 <= s.pins.length then 17 else if p.id <= s.top then 18 else if p.at' < s.hz then 13 else 0
def pinS (s : StR) (p : PinR) : StR := if 0 <= pinAt s.pins p.id then { s with pins := renewed s.pins p.id } else { s with pins := s.pins ++ [⟨p.id,p.at',8⟩],top := p.id }
def PinPost (w : World) (b : Nat) (s : StR) (mA : Option Addr) (mc : Nat) (lA : Option Addr) (lc : Nat) (pA : Option Addr) (pc : Nat) (p : PinR) (e : Ending) (w' : World) : Prop :=
 (pinE s p ≠ 0 /\ e = .returned (.int .i64 (pinE s p)) /\ Kept NoF w w') \/
 (pinE s p = 0 /\ e = .returned (.int .i64 0) /\ ∃ B d,Has w' b 261 (scells (pinS s p) mA mc lA lc B d true) /\ w'.ownsRow 0 112 3 (.slice B (pinS s p).pins.length d) (pinS s p).pins.length (pcells (pinS s p).pins) /\
  (∀ k,RowOf (.slice B (pinS s p).pins.length d) k -> RowOf (.slice pA s.pins.length pc) k \/ w.heap.size <= k) /\ Kept (fun k => k = b \/ RowOf (.slice pA s.pins.length pc) k) w w')
theorem renewed_length (l : List PinR) (id : Int) : (renewed l id).length = l.length := by unfold renewed;split <;> simp
theorem pin_any (w : World) (b : Nat) (s : StR) (mA : Option Addr) (mc : Nat) (lA : Option Addr) (lc : Nat) (pA : Option Addr) (pc : Nat) (p : PinR) (hb : Has w b 261 (scells s mA mc lA lc pA pc true))
  (hp : w.ownsRow 0 112 3 (.slice pA s.pins.length pc) s.pins.length (pcells s.pins)) (hpl : s.pins.length <= 1000) :
  Calls Tryz.prog 148 #[.pointer (some ⟨b,0,none⟩),pagg p] w (PinPost w b s mA mc lA lc pA pc p) := by
 have hren := fun W (hW : Kept NoF w W) => renew_any W pA pc s.pins p.id ((Src.of_own hp).kept hW (fun _ _ z => z)) (own_cap hp).1 (by omega)
 have hbn : b ≠ w.heap.size := by have := hb.lt;omega
 obtain ⟨E,hE⟩ : ∃ E,pinE s p = E := ⟨_,rfl⟩
 have hPE : ∀ w',E ≠ 0 -> Kept NoF w w' -> PinPost w b s mA mc lA lc pA pc p (.returned (.int .i64 E)) w' := fun w' h0 hk => .inl ⟨by rw [hE];exact h0,by rw [hE],hk⟩
 have hP0 : ∀ w' B d,E = 0 -> Has w' b 261 (scells (pinS s p) mA mc lA lc B d true) -> w'.ownsRow 0 112 3 (.slice B (pinS s p).pins.length d) (pinS s p).pins.length (pcells (pinS s p).pins) ->
   (∀ k,RowOf (.slice B (pinS s p).pins.length d) k -> RowOf (.slice pA s.pins.length pc) k \/ w.heap.size <= k) -> Kept (fun k => k = b \/ RowOf (.slice pA s.pins.length pc) k) w w' -> PinPost w b s mA mc lA lc pA pc p (.returned (.int .i64 0)) w' :=
  fun w' B d h0 h1 h2 h3 h4 => .inr ⟨by rw [hE,h0],rfl,B,d,h1,h2,h3,h4⟩
 unfold pinE at hE
 obtain ⟨id,at2,left⟩ := p
 dsimp only at hE hP0 hPE hren
 obtain ⟨W0,hW0⟩ : ∃ W0,w.alloc (.cells #[.int .i64 id,.int .u64 at2,.int .i64 left] 112) = W0 := ⟨_,rfl⟩
 have hk0 : Kept NoF w W0 := by rw [<- hW0];(repeat' (first | (with_reducible first | exact kR0 | apply kP0 | apply kN0 | apply kD0 | apply kA0) | (right;simp;done)))
 have hn0 : Has W0 w.heap.size 112 #[.int .i64 id,.int .u64 at2,.int .i64 left] := by rw [<- hW0];exact Has.new _ _ _
 have hb0 := hb.kept hk0 (fun z => z)
 have hce : ∀ W,Kept NoF W0 W -> W.cell? ⟨w.heap.size,0,none⟩ = some (.int .i64 id) /\ W.cell? ⟨w.heap.size,1,none⟩ = some (.int .u64 at2) /\ W.cell? ⟨b,5,none⟩ = some (.slice pA s.pins.length pc) /\ W.cell? ⟨b,4,none⟩ = some (.int .u64 s.hz) /\ W.cell? ⟨b,6,none⟩ = some (.int .i64 s.top) /\ W.frozen? ⟨b,5,none⟩ = false := fun W hW => by
  have g := hn0.kept hW (fun z => z)
  have g2 := hb0.kept hW (fun z => z)
  exact ⟨g.cell 0,g.cell 1,g2.cell 5,g2.cell 4,g2.cell 6,g2.frozen 5⟩
 obtain ⟨q0,q1,q5,q4,q6,f5⟩ := hce W0 (Kept.refl _ _)
 have hsep := own_ne (own_kept hp hk0 (fun _ _ z => z)) hb0 (by decide)
 by_cases h0 : 0 <= pinAt s.pins id
 ·rw [if_pos h0] at hE
  subst hE
  have hren1 : ∀ W,Kept NoF w W -> Calls Tryz.prog 201 #[.slice pA s.pins.length pc,.int .i64 id] W fun e w' => ∃ A c,e = .returned (.tuple #[.slice A s.pins.length c,.int .i64 0]) /\ NewSl 112 3 W.heap.size w' A s.pins.length c (pcells (renewed s.pins id)) /\ Kept NoF W w' := fun W hW => (hren W hW).mono fun e w' h => by
   rcases h with ⟨h1,_⟩ | ⟨_,A,c,h1,h2,h3⟩
   ·omega
   ·rw [renewed_length] at h1 h2;exact ⟨A,c,h1,h2,h3⟩
  have hS : pinS s ⟨id,at2,left⟩ = { s with pins := renewed s.pins id } := by unfold pinS;rw [if_pos h0]
  rw [hS] at hP0
  have HP0 := hZ0 hP0;have HR := hZ0 hren1;have HCE := hZ0 hce;have HB0 := hZ0 hb0
  have HK0 := hZ0 hk0;have HSEP := hZ0 hsep;have HBL := hZ0 hb.lt
  clear hPE hP0 hren hren1 hce hn0 hb0 hk0 hbn hp hb hS h0 hsep q0 q1 q4 q6
  go_enter Tryz.func148,Tryz.ntmps148
  go_wp2_with fail
  clear hW0
  have q := HCE.out W0 (Kept.refl _ _)
  obtain ⟨q0,q1,q5,q4,q6,f5⟩ := q
  have HS := hZ0 (Kept.refl NoF W0)
  go_region_held3 (fun W => W.cell? ⟨w.heap.size,0,none⟩ = some (.int .i64 id) /\ W.cell? ⟨w.heap.size,1,none⟩ = some (.int .u64 at2) /\ W.cell? ⟨b,5,none⟩ = some (.slice pA s.pins.length pc) /\ W.cell? ⟨b,4,none⟩ = some (.int .u64 s.hz) /\ W.cell? ⟨b,6,none⟩ = some (.int .i64 s.top) /\ W.frozen? ⟨b,5,none⟩ = false)
   (first | with_reducible exact HCE.out _ HS.out | exact HCE.out _ HS.out.drew | (simp [go_sem,q0,q1,q5,q4,q6,f5];done))
   (first
    | (go_at_call 201;((with_reducible refine (HR.out _ ?_).mono ?_);exact HK0.out.then (by (repeat' (first | (with_reducible first | exact kR0 | apply kP0 | apply kN0 | apply kD0 | apply kA0) | (exact HS.out) | (right;simp;done))));rintro e w5 ⟨A5,c5,rfl,hn5,hk5⟩;have hk := Kept.then (F := NoF) (a := W0) (by (repeat' (first | (with_reducible first | exact kR0 | apply kP0 | apply kN0 | apply kD0 | apply kA0) | (exact HS.out) | (right;simp;done)))) hk5;have HN5 := hZ0 (And.intro hn5 HS.out.size);clear HS hk5 hn5;have HS := hZ0 hk;clear hk)))
  clear q0 q1 q5 q4 q6 f5
  obtain ⟨q0,q1,q5,q4,q6,f5⟩ := HCE.out _ HS.out
  go_wp2
  go_ret
  have hb5 := HB0.out.kept HS.out (fun z => z)
  have hk6 : Kept (fun k => k = b) w5 (w5.setCell ⟨b,5,none⟩ (.slice A5 s.pins.length c5)) := (Kept.refl (fun k => k = b) w5).put (.inl rfl)
  have hne := own_ne HN5.out.1.1 hb5 (by decide)
  refine HP0.out _ A5 c5 trivial ?_ ?_ ?_ (((Kept.up (HK0.out.then HS.out)).then hk6).mono (fun k hk => .inl hk))
  ·unfold scells
   dsimp only
   rw [renewed_length]
   ((repeat (first | with_reducible exact hb5 | with_reducible apply Has.put_of | with_reducible apply Has.past | with_reducible apply Has.drewN | with_reducible apply Has.drew | with_reducible apply Has.alloc)) <;> first | omega | rfl)
  ·rw [renewed_length]
   exact own_kept HN5.out.1.1 hk6 (fun g hg hF => hne (by rw [hg,hF]))
  ·rw [renewed_length]
   exact fun k hk => .inr (Nat.le_trans HK0.out.size (Nat.le_trans HN5.out.2 (HN5.out.1.2 k hk)))
 ·rw [if_neg h0] at hE
  have hren1 : ∀ W,Kept NoF w W -> Calls Tryz.prog 201 #[.slice pA s.pins.length pc,.int .i64 id] W fun e w' => e = .returned (.tuple #[.slice none 0 0,.int .i64 7]) /\ Kept NoF W w' := fun W hW => (hren W hW).mono fun e w' h => by
   rcases h with ⟨_,h1,h2⟩ | ⟨h1,_⟩
   ·exact ⟨h1,h2⟩
   ·omega
  have hS : pinS s ⟨id,at2,left⟩ = { s with pins := s.pins ++ [⟨id,at2,8⟩],top := id } := by unfold pinS;rw [if_neg h0]
  rw [hS] at hP0
  have HPE := hZ0 hPE;have HE := hZ0 hE
  have HP0 := hZ0 hP0;have HR := hZ0 hren1;have HCE := hZ0 hce;have HB0 := hZ0 hb0;have HN0 := hZ0 hn0
  have HK0 := hZ0 hk0;have HSEP := hZ0 hsep;have HBL := hZ0 hb.lt;have HOP := hZ0 (own_kept hp hk0 (fun _ _ z => z));have HBN := hZ0 hbn;have HBR := hZ0 hp
  clear hPE hE hP0 hren hren1 hce hn0 hb0 hk0 hbn hp hb hS h0 hsep q0 q1 q4 q6
  go_enter Tryz.func148,Tryz.ntmps148
  go_wp2_with fail
  clear hW0
  have q := HCE.out W0 (Kept.refl _ _)
  obtain ⟨q0,q1,q5,q4,q6,f5⟩ := q
  have HS := hZ0 (Kept.refl NoF W0)
  go_region_held3 (fun W => W.cell? ⟨w.heap.size,0,none⟩ = some (.int .i64 id) /\ W.cell? ⟨w.heap.size,1,none⟩ = some (.int .u64 at2) /\ W.cell? ⟨b,5,none⟩ = some (.slice pA s.pins.length pc) /\ W.cell? ⟨b,4,none⟩ = some (.int .u64 s.hz) /\ W.cell? ⟨b,6,none⟩ = some (.int .i64 s.top) /\ W.frozen? ⟨b,5,none⟩ = false)
   (first | with_reducible exact HCE.out _ HS.out | exact HCE.out _ HS.out.drew | (simp [go_sem,q0,q1,q5,q4,q6,f5];done))
   (first
    | (go_at_call 201;((with_reducible refine (HR.out _ ?_).mono ?_);exact HK0.out.then (by (repeat' (first | (with_reducible first | exact kR0 | apply kP0 | apply kN0 | apply kD0 | apply kA0) | (exact HS.out) | (right;simp;done))));rintro e w5 ⟨rfl,hk5⟩;have hk := Kept.then (F := NoF) (a := W0) (by (repeat' (first | (with_reducible first | exact kR0 | apply kP0 | apply kN0 | apply kD0 | apply kA0) | (exact HS.out) | (right;simp;done)))) hk5;clear HS hk5;have HS := hZ0 hk;clear hk)))
  clear q0 q1 q5 q4 q6 f5
  obtain ⟨q0,q1,q5,q4,q6,f5⟩ := HCE.out _ HS.out
  by_cases h3 : 3 <= s.pins.length
  ·have he := HE.out
   rw [if_pos h3] at he
   subst he
   have h3' : (3 : Int) <= (s.pins.length : Int) := by omega
   go_wp2
   go_ret
   exact HPE.out _ (by decide) (HK0.out.then HS.out)
  ·have h3' : ¬ (3 : Int) <= (s.pins.length : Int) := by omega
   have he := HE.out
   rw [if_neg h3] at he
   clear HE
   have HE := hZ0 he;clear he
   by_cases h4 : id <= s.top
   ·have he := HE.out
    rw [if_pos h4] at he
    subst he
    go_wp2_with fail
    go_quiet (fail)
    go_wp2
    go_ret
    exact HPE.out _ (by decide) ((HK0.out.then HS.out).drewN _)
   ·have he := HE.out
    rw [if_neg h4] at he
    clear HE
    have HE := hZ0 he;clear he
    have hce2 : ∀ n,(w5.drewN n).cell? ⟨w.heap.size,1,none⟩ = some (.int .u64 at2) /\ (w5.drewN n).cell? ⟨b,4,none⟩ = some (.int .u64 s.hz) := fun n => ⟨q1,q4⟩
    have HC2 := hZ0 hce2;clear hce2
    by_cases h5 : at2 < s.hz
    ·have he := HE.out
     rw [if_pos h5] at he
     subst he
     go_wp2_with fail
     go_quiet (fail)
     obtain ⟨r1,r4⟩ := HC2.out nq
     go_wp2_with fail
     go_quiet (fail)
     go_wp2
     go_ret
     exact HPE.out _ (by decide) (((HK0.out.then HS.out).drewN _).drewN _)
    ·have he := HE.out
     rw [if_neg h5] at he
     clear HE
     have HE := hZ0 he;clear he
     go_wp2_with fail
     go_quiet (fail)
     obtain ⟨r1,r4⟩ := HC2.out nq
     go_wp2_with fail
     go_quiet (fail)
     clear r1 r4 q0 q1 q5 q4 q6 f5 HC2
     generalize hw6 : World.drewN (World.drewN w5 _) _ = w6
     have hk6 : Kept NoF W0 w6 := by rw [<- hw6];exact (HS.out.drewN _).drewN _
     have hx6 := HN0.out.kept hk6 (fun z => z)
     have hb6 := HB0.out.kept hk6 (fun z => z)
     have ho6 := own_kept HOP.out hk6 (fun _ _ z => z)
     clear hw6
     have x2 : w6.cell? ⟨w.heap.size,2,none⟩ = some (.int .i64 left) := hx6.cell 2
     have y2 := hx6.frozen 2
     have HX6 := hZ0 (And.intro hx6 (And.intro hb6 ho6));have HK6 := hZ0 hk6
     clear hx6 hb6 ho6 hk6 HS
     go_wp2_with fail
     clear x2 y2
     obtain ⟨w7,hw7⟩ : ∃ w7,w6.setCell ⟨w.heap.size,2,none⟩ (.int .i64 8) = w7 := ⟨_,rfl⟩
     rw [hw7]
     have hx7 : Has w7 w.heap.size 112 #[.int .i64 id,.int .u64 at2,.int .i64 8] := by rw [<- hw7];exact HX6.out.1.put_of rfl
     have hb7 : Has w7 b 261 (scells s mA mc lA lc pA pc true) := by rw [<- hw7];exact HX6.out.2.1.past HBN.out
     have hk7 : Kept NoF w w7 := by rw [<- hw7];exact (HK0.out.then HK6.out).put (.inr (Nat.le_refl _))
     have ho7 := own_kept HBR.out hk7 (fun _ _ z => z)
     clear hw7
     have P0 : w7.cell? ⟨w.heap.size,0,none⟩ = some (.int .i64 id) := hx7.cell 0
     have P1 : w7.cell? ⟨w.heap.size,1,none⟩ = some (.int .u64 at2) := hx7.cell 1
     have P2 : w7.cell? ⟨w.heap.size,2,none⟩ = some (.int .i64 8) := hx7.cell 2
     have Q5 : w7.cell? ⟨b,5,none⟩ = some (.slice pA s.pins.length pc) := hb7.cell 5
     have hm1 : s.pins.length + 1 <= maxLen := by unfold maxLen;omega
     have hm2 : (s.pins.length + 1) * 24 <= 140737488355328 := by omega
     have HM1 := hZ0 hm1;have HM2 := hZ0 hm2;have HX7 := hZ0 hx7;have HB7 := hZ0 hb7;have HK7 := hZ0 hk7;have HO7 := hZ0 ho7
     have hxl := hx7.lt;have hbl := hb7.lt
     have HNX : Hid (¬ RowOf (.slice pA s.pins.length pc) w.heap.size) := hZ0 (fun h => Nat.lt_irrefl _ (own_lt HBR.out h))
     have HNB : Hid (¬ RowOf (.slice pA s.pins.length pc) b) := hZ0 (own_ne ho7 hb7 (by decide))
     clear hm1 hm2 hx7 hb7 hk7 ho7
     have hbn2 := HBN.out
     have hbn3 : w.heap.size ≠ b := fun e => hbn2 e.symm
     go_region_law (first
      | (with_reducible apply step_append_src elemPin (.tmp 52) (.tmp 54) (n := s.pins.length) (xs := pcells s.pins) (A := some ⟨_,0,none⟩) (m := 1) (c := 1) (news := [.int .i64 id,.int .u64 at2,.int .i64 8])
         rfl
         rfl
         exact (rfl : _ = Value.slice pA s.pins.length pc)
         (refine own_kept HO7.out (F := NoF) ?_ (fun _ _ x => x);(repeat' (first | (with_reducible first | exact kR0 | apply kP0 | apply kN0 | apply kD0 | apply kA0) | (right;simp;done))))
         exact (rfl : _ = Value.slice (some ⟨_,0,none⟩) 1 1)
         (refine Src.of_has (t := 112) (cs := #[.int .i64 id,.int .u64 at2,.int .i64 8]) ?_ rfl;(repeat (first | with_reducible exact Has.new_at _ _ _ (by simp) | with_reducible apply Has.drew | with_reducible apply Has.drewN | with_reducible apply Has.alloc | (with_reducible apply Has.past <;> (try omega)) )))
         (intro u hu;simp at hu;rcases hu with rfl | rfl | rfl <;> rfl)
         exact HM1.out
         exact HM2.out
         intro A8 c8 w8 ho8 hg8 ha8
         have hk8 : Kept (RowOf (.slice pA s.pins.length pc)) w7 w8 := by refine Kept.grown ?_ hg8 (fun k hk => .inl hk);(repeat' (first | (with_reducible first | exact kR0 | apply kP0 | apply kN0 | apply kD0 | apply kA0) | (right;simp;done)))
         have hb8 := HB7.out.kept hk8 HNB.out
         have hx8 := HX7.out.kept hk8 HNX.out
         have P0' : w8.cell? ⟨w.heap.size,0,none⟩ = some (.int .i64 id) := hx8.cell 0
         have R5 : w8.cell? ⟨b,5,none⟩ = some (.slice pA s.pins.length pc) := hb8.cell 5
         have R6 : w8.cell? ⟨b,6,none⟩ = some (.int .i64 s.top) := hb8.cell 6
         have F5 : w8.frozen? ⟨b,5,none⟩ = false := hb8.frozen 5
         have F6 : w8.frozen? ⟨b,6,none⟩ = false := hb8.frozen 6))
     all_goals
      have hnew : ∀ k,RowOf (.slice A8 (s.pins.length + 1) c8) k -> RowOf (.slice pA s.pins.length pc) k \/ w.heap.size <= k := by
       intro k hk
       rcases ha8 with e | e
       ·exact .inl (e.symm.trans hk)
       ·have h9 := e.symm.trans hk
        injection h9 with h9
        have := HK7.out.size
        first | (simp at h9;exact .inr (by omega)) | exact .inr (by omega)
      have HZ := hZ0 (And.intro ho8 (And.intro hnew (And.intro hk8 hb8)))
      have hne8 := own_ne ho8 hb8 (by decide)
      have HNE8 := hZ0 hne8
      clear ho8 hnew hk8 hb8 hg8 ha8 hne8
      go_wp2
      go_ret
      obtain ⟨ho8,hnew,hk8,hb8⟩ := HZ.out
      have hkf : Kept (fun k => k = b) w8 ((w8.setCell ⟨b,5,none⟩ (.slice A8 (s.pins.length + 1) c8)).setCell ⟨b,6,none⟩ (.int .i64 id)) := ((Kept.refl (fun k => k = b) w8).put (.inl rfl)).put (.inl rfl)
      have e9 : (s.pins ++ [(⟨id,at2,8⟩ : PinR)]).length = s.pins.length + 1 := by simp
      refine HP0.out _ A8 c8 (by first | trivial | exact HE.out.symm) ?_ ?_ ?_ ?_
      ·unfold scells
       dsimp only
       rw [e9]
       ((repeat (first | with_reducible exact hb8 | with_reducible apply Has.put_of | with_reducible apply Has.past | with_reducible apply Has.drewN | with_reducible apply Has.drew | with_reducible apply Has.alloc)) <;> first | omega | rfl)
      ·rw [e9,pcells_append]
       exact own_kept ho8 hkf (fun g hg hF => HNE8.out (by rw [hg,hF]))
      ·rw [e9]
       exact hnew
      ·exact (Kept.trans (F := fun k => k = b \/ RowOf (.slice pA s.pins.length pc) k) (Kept.up HK7.out) (hk8.mono (fun k hk => .inr hk)) (fun k hk => .inl hk)).then (hkf.mono (fun k hk => .inl hk))
end Mst
namespace Mst
open Plan Vn Go.Sort
def StAt (w : World) (b : Nat) (F : Nat -> Prop) (s : StR) : Prop := ∃ mA mc lA lc pA pc,(∀ k,F k ↔ (k = b \/ RowOf (.slice mA s.ms.length mc) k \/ RowOf (.slice lA s.lg.length lc) k \/ RowOf (.slice pA s.pins.length pc) k)) /\
 Has w b 261 (scells s mA mc lA lc pA pc true) /\ w.ownsRow 0 57 2 (.slice mA s.ms.length mc) s.ms.length (mcells s.ms) /\ w.ownsRow 0 3 1 (.slice lA s.lg.length lc) s.lg.length (ints s.lg) /\ w.ownsRow 0 112 3 (.slice pA s.pins.length pc) s.pins.length (pcells s.pins)
theorem StAt.kept {w w' : World} {b : Nat} {F G : Nat -> Prop} {s : StR} (h : StAt w b F s) (hk : Kept G w w') (hs : Sep F G) : StAt w' b F s := by
 obtain ⟨mA,mc,lA,lc,pA,pc,hF,hb,hm,hl,hp⟩ := h
 exact ⟨mA,mc,lA,lc,pA,pc,hF,hb.kept hk (hs b ((hF b).2 (.inl rfl))),own_kept hm hk (fun g hg => hs g ((hF g).2 (.inr (.inl hg)))),own_kept hl hk (fun g hg => hs g ((hF g).2 (.inr (.inr (.inl hg))))),own_kept hp hk (fun g hg => hs g ((hF g).2 (.inr (.inr (.inr hg)))))⟩
theorem StAt.still {w w' : World} {b : Nat} {F : Nat -> Prop} {s : StR} (h : StAt w b F s) (hk : Kept NoF w w') : StAt w' b F s := h.kept hk (fun _ _ z => z)
theorem StAt.lt {w : World} {b : Nat} {F : Nat -> Prop} {s : StR} (h : StAt w b F s) : ∀ k,F k -> k < w.heap.size := by
 obtain ⟨mA,mc,lA,lc,pA,pc,hF,hb,hm,hl,hp⟩ := h
 intro k hk
 rcases (hF k).1 hk with rfl | h | h | h
 ·exact hb.lt
 ·exact own_lt hm h
 ·exact own_lt hl h
 ·exact own_lt hp h
theorem own_has {w : World} {base k size n : Nat} {e : TypeId} {v : Value} {xs : List Value} (h : w.ownsRow base e size v n xs) (hk : RowOf v k) : ∃ cs,Has w k e cs := by
 rcases h.2 with ⟨rfl,_⟩ | ⟨g,cap,cur,rfl,_,hh,_⟩
 ·simp [RowOf,Value.ownBlock] at hk
 ·obtain rfl : g = k := by simpa [RowOf,Value.ownBlock] using hk
  exact ⟨cur,hh⟩
structure SOk (s : StR) : Prop where
 m : s.ms.length <= 1000
 l : s.lg.length <= 1000
 p : s.pins.length <= 1000
def toldOf (s : StR) (c : Int) : AnsR := if c = 0 then s.t0 else if c = 1 then s.t1 else s.t2
def withTold (s : StR) (a : AnsR) : StR := if a.cl = 0 then { s with t0 := a } else if a.cl = 1 then { s with t1 := a } else { s with t2 := a }
def applyE (s : StR) (x : NoteR) : Int :=
 if noteE x ≠ 0 then noteE x else
 if x.k = 1 then nextE s x else
 if x.k = 5 then (if anyId s.ms x.n = true then 0 else 7) else
 if x.k = 4 then (if x.at' < s.hz then 18 else 0) else
 if x.k = 6 then pinE s x.pin else
 if x.k = 7 then 0 else
 if x.k = 8 then (if x.said.req < (toldOf s x.said.cl).req then 18 else 0) else 11
def applyS (s : StR) (x : NoteR) : StR :=
 if applyE s x ≠ 0 then s else
 if x.k = 1 then { s with ep := x.ep,ms := x.ms,fl := x.fl,lg := x.lg } else
 if x.k = 5 then { s with lg := trustL s.lg x.n } else
 if x.k = 4 then { s with hz := x.at' } else
 if x.k = 6 then pinS s x.pin else
 if x.k = 7 then { s with pins := freed s.pins x.n,top := max s.top x.n } else withTold s x.said
def ApplyPost (w : World) (b : Nat) (F : Nat -> Prop) (s : StR) (x : NoteR) (e : Ending) (w' : World) : Prop :=
 ∃ F',e = .returned (.int .i64 (applyE s x)) /\ StAt w' b F' (applyS s x) /\ Grows w F F' /\ Kept F w w'
theorem ApplyPost.bad {w w' : World} {b : Nat} {F : Nat -> Prop} {s : StR} {x : NoteR} (hs : StAt w b F s) (h0 : applyE s x ≠ 0) (hk : Kept NoF w w') : ApplyPost w b F s x (.returned (.int .i64 (applyE s x))) w' := by
 refine ⟨F,rfl,?_,Grows.refl _ _,Kept.up hk⟩
 unfold applyS
 rw [if_pos h0]
 exact hs.still hk
theorem apply_bad (w : World) (b : Nat) (F : Nat -> Prop) (s : StR) (x : NoteR) (hs : StAt w b F s) (h : NOk w x) (h0 : noteE x ≠ 0) :
  Calls Tryz.prog 87 #[.pointer (some ⟨b,0,none⟩),nagg x] w (ApplyPost w b F s x) := by
 have hE : applyE s x = noteE x := by unfold applyE;rw [if_pos h0]
 have hP : ∀ w',Kept NoF w w' -> ApplyPost w b F s x (.returned (.int .i64 (noteE x))) w' := fun w' hk => by
  have := ApplyPost.bad hs (by rw [hE];exact h0) hk
  rw [hE] at this
  exact this
 obtain ⟨mA,mc,lA,lc,pA,pc,hF,hb,hm,hl,hp⟩ := hs
 have hck := fun W (hW : Kept NoF w W) => ncheck_any W x (h.kept hW)
 have hnone := fun W (hW : Kept NoF w W) => none_any W b s mA mc lA lc pA pc true (hb.kept hW (fun z => z))
 obtain ⟨E,hE0⟩ : ∃ E,noteE x = E := ⟨_,rfl⟩
 rw [hE0] at hck hP h0
 obtain ⟨W0,hW0⟩ : ∃ W0,w.alloc (.cells (ncell x).toArray 116) = W0 := ⟨_,rfl⟩
 have hk0 : Kept NoF w W0 := by rw [<- hW0];(repeat' (first | (with_reducible first | exact kR0 | apply kP0 | apply kN0 | apply kD0 | apply kA0) | (right;simp;done)))
 have hn0 : Has W0 w.heap.size 116 (ncell x).toArray := by rw [<- hW0];exact Has.new _ _ _
 clear hE hE0 h hm hl hp hb hF
 obtain ⟨k,n,at2,ep,mA2,mc2,ms,fl,lA2,lc2,lg,oA,oc,⟨bcl,breq,ops⟩,ts,⟨p1,p2,p3⟩,⟨s1,s2,s3,s4⟩⟩ := x
 simp only [ncell] at hP hn0 hck
 have HP := hZ0 hP;have HCK := hZ0 hck;have HNO := hZ0 hnone;have HK0 := hZ0 hk0;have HN0 := hZ0 hn0
 clear hP hck hnone hk0 hn0
 have h0' : (E != 0) = true := by simpa using h0
 go_enter Tryz.func87,Tryz.ntmps87
 go_wp2_with fail
 clear hW0
 refine (HNO.out _ HK0.out).mono ?_
 rintro e w2 ⟨rfl,hk⟩
 have hn2 := HN0.out.kept hk (fun z => z)
 have HN2 := hZ0 hn2
 have HK := hZ0 (HK0.out.then hk);clear hk hn2
 go_wp2_with (refine wpList_load_row rfl 116 (.tmp 3) rfl w.heap.size rfl 116 _ (0,0) _ HN2.out Tryz.underlying116 rfl (by kernel_rfl) ?_)
 refine (HCK.out _ HK.out).mono ?_
 rintro e w3 ⟨rfl,hk⟩
 have HK3 := hZ0 (HK.out.then hk);clear hk HK
 go_wp2
 go_ret
 exact HP.out _ HK3.out
end Mst
end Go.Proofs.YtgffjliedjhbaaaGreat
