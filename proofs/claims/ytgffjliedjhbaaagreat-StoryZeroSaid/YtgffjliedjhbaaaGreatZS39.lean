/- Part 40 of what the proof needs. -/
import Derived.Test.YtgffjliedjhbaaaGreatZS03
import Derived.Test.YtgffjliedjhbaaaGreatZS11
import Derived.Test.YtgffjliedjhbaaaGreatZS38
import Derived.Test.YtgffjliedjhbaaaGreatRows
import Derived.ProofKit
import Derived.OpenShut
import Derived.Lib.SmallJoins
set_option linter.unusedSimpArgs false
set_option linter.unusedVariables false
set_option maxHeartbeats 32000000
set_option maxRecDepth 100000
namespace Go.Proofs.YtgffjliedjhbaaaGreat
open Go.RowKit
set_option maxRecDepth 100000
namespace Mst
open Plan Vn Go.Sort
theorem apply7a_any (w : World) (b : Nat) (F : Nat -> Prop) (s : StR) (x : NoteR) (hs : StAt w b F s) (hok : SOk s) (h : NOk w x) (h0 : noteE x = 0) (hk : x.k = 7) (hc : pinAt s.pins x.n < 0) :
  Calls Tryz.prog 87 #[.pointer (some ⟨b,0,none⟩),nagg x] w (ApplyPost w b F s x) := by
 have h00 : noteE x = 0 := h0
 obtain ⟨mA,mc,lA,lc,pA,pc,hF,hb,hm,hl,hp⟩ := hs
 have hck := fun W (hW : Kept NoF w W) => ncheck_any W x (h.kept hW)
 have hnone := fun W (hW : Kept NoF w W) => none_any W b s mA mc lA lc pA pc true (hb.kept hW (fun z => z))
 rw [h00] at hck
 obtain ⟨W0,hW0⟩ : ∃ W0,w.alloc (.cells (ncell x).toArray 116) = W0 := ⟨_,rfl⟩
 have hk0 : Kept NoF w W0 := by rw [<- hW0];(repeat' (first | (with_reducible first | exact kR0 | apply kP0 | apply kN0 | apply kD0 | apply kA0) | (right;simp;done)))
 have hn0 : Has W0 w.heap.size 116 (ncell x).toArray := by rw [<- hW0];exact Has.new _ _ _
 have hE : applyE s x = 0 := by unfold applyE;rw [if_neg (by simpa using h00),if_neg (by omega),if_neg (by omega),if_neg (by omega),if_neg (by omega),if_pos hk]
 have hS0 : applyS s x = { s with pins := freed s.pins x.n,top := max s.top x.n } := by unfold applyS;rw [if_neg (by rw [hE];decide),if_neg (by omega),if_neg (by omega),if_neg (by omega),if_neg (by omega),if_pos hk]
 have hfin : ∀ w',Has w' b 261 (scells { s with top := max s.top x.n } mA mc lA lc pA pc true) -> Kept (fun k => k = b) w w' -> ApplyPost w b F s x (.returned (.int .i64 0)) w' := by
  intro w' hb' hk'
  have hS : applyS s x = { s with top := max s.top x.n } := by rw [hS0,freed,if_pos hc]
  refine ⟨F,by rw [hE],?_,Grows.refl _ _,hk'.mono (fun k e => (hF k).2 (.inl e))⟩
  rw [hS]
  exact StAt.turned hF hb hm hl hp hb' rfl rfl rfl hk'
 have hcall := fun W (hW : Kept NoF w W) => (free_any W pA pc s.pins x.n (Src.of_own (own_kept hp hW (fun _ _ z => z))) (by have := hok.p;omega)).mono (fun e w' hp => (show e = .returned (.tuple #[.slice none 0 0,.int .i64 7]) /\ Kept NoF W w' by
  rcases hp with ⟨h1,h2,h3⟩ | ⟨h1,h2⟩
  ·exact ⟨h2,h3⟩
  ·omega))
 have HFIN := hZ0 hfin
 clear hfin hE h0 h00 h hm hl hp hF
 obtain ⟨k,n,at2,ep,mA2,mc2,ms,fl,lA2,lc2,lg,oA,oc,⟨bcl,breq,ops⟩,ts,⟨p1,p2,p3⟩,⟨s1,s2,s3,s4⟩⟩ := x
 simp only [ncell] at hn0 hck hcall
 dsimp only at hk
 subst hk
 have HCK := hZ0 hck;have HNO := hZ0 hnone;have HK0 := hZ0 hk0;have HN0 := hZ0 hn0;have HB := hZ0 hb
 have HCALL := hZ0 hcall
 have HLT : Hid (b ≠ w.heap.size) := hZ0 (fun e => Nat.lt_irrefl _ (e ▸ hb.lt))
 clear hck hnone hk0 hn0 hb hcall hc
 go_enter Tryz.func87,Tryz.ntmps87
 go_wp2_with fail
 clear hW0
 refine (HNO.out _ HK0.out).mono ?_
 rintro e w2 ⟨rfl,hk⟩
 have HN2 := hZ0 (HN0.out.kept hk (fun z => z))
 have HK := hZ0 (HK0.out.then hk)
 clear hk
 go_wp2_with (refine wpList_load_row rfl 116 (.tmp 3) rfl w.heap.size rfl 116 _ (0,0) _ HN2.out Tryz.underlying116 rfl (by kernel_rfl) ?_)
 refine (HCK.out _ HK.out).mono ?_
 rintro e w3 ⟨rfl,hk⟩
 have hn3 := HN2.out.kept hk (fun z => z)
 have q0 : w3.cell? ⟨w.heap.size,0,none⟩ = some (.int .i64 7) := hn3.cell 0
 have HN3 := hZ0 hn3
 have HK3 := hZ0 (HK.out.then hk);clear hk HK hn3
 have hce : ∀ W,Kept NoF w3 W -> W.cell? ⟨w.heap.size,1,none⟩ = some (.int .i64 n) /\ W.cell? ⟨b,5,none⟩ = some (.slice pA s.pins.length pc) /\ W.cell? ⟨b,6,none⟩ = some (.int .i64 s.top) := fun W hW => by
  have g1 := HN3.out.kept hW (fun z => z)
  have g2 := HB.out.kept (HK3.out.then hW) (fun z => z)
  exact ⟨g1.cell 1,g2.cell 5,g2.cell 6⟩
 have HCE := hZ0 hce;clear hce
 have HS := hZ0 (Kept.refl NoF w3)
 obtain ⟨z1,z5,z6⟩ := HCE.out w3 (Kept.refl _ _)
 go_wp2_with fail
 go_region_held3 (fun W => W.cell? ⟨w.heap.size,1,none⟩ = some (.int .i64 n) /\ W.cell? ⟨b,5,none⟩ = some (.slice pA s.pins.length pc) /\ W.cell? ⟨b,6,none⟩ = some (.int .i64 s.top))
  (first | with_reducible exact HCE.out _ HS.out | exact HCE.out _ HS.out.drew | (simp [go_sem,z1,z5,z6];done))
  (first
   | (go_at_call 149;((with_reducible refine (HCALL.out _ ?_).mono ?_);exact HK3.out.then (by (repeat' (first | (with_reducible first | exact kR0 | apply kP0 | apply kN0 | apply kD0 | apply kA0) | (exact HS.out) | (right;simp;done))));rintro e w5 ⟨rfl,hk0⟩;have hk := Kept.then (F := NoF) (a := w3) (by (repeat' (first | (with_reducible first | exact kR0 | apply kP0 | apply kN0 | apply kD0 | apply kA0) | (exact HS.out) | (right;simp;done)))) hk0;clear HS hk0;have HS := hZ0 hk;clear hk)))
 clear z1 z5 z6
 have hb5 := HB.out.kept (HK3.out.then HS.out) (fun z => z)
 have z6 : w5.cell? ⟨b,6,none⟩ = some (.int .i64 s.top) := hb5.cell 6
 have f6 := hb5.frozen 6
 have q1 : w5.cell? ⟨w.heap.size,1,none⟩ = some (.int .i64 n) := (HCE.out _ HS.out).1
 have hmax := fun W ts t => max_i s.top n _ rfl W ts t
 have HB5 := hZ0 hb5;clear hb5
 go_wp2_with fail
 refine wp_region_still_tail 10 (by kernel_rfl) (by kernel_rfl) ?_
 simp only [List.take_succ_cons,List.take_zero,List.drop_succ_cons,List.drop_zero]
 change wpStill _ _ (World.drew w5) _ _ _
 repeat still_step
 refine wpStill_nil ?_
 change wpList _ _ _ _ _ (World.drew w5)
 go_wp2
 go_ret
 refine HFIN.out _ ?_ ?_
 ·((repeat (first | with_reducible exact HB5.out | with_reducible apply Has.put_of | with_reducible apply Has.past | with_reducible apply Has.drewN | with_reducible apply Has.drew | with_reducible apply Has.alloc)) <;> first | omega | rfl)
 ·exact ((Kept.up (HK3.out.then HS.out)).drew).put (.inl rfl)
theorem apply7b_any (w : World) (b : Nat) (F : Nat -> Prop) (s : StR) (x : NoteR) (hs : StAt w b F s) (hok : SOk s) (h : NOk w x) (h0 : noteE x = 0) (hk : x.k = 7) (hc : 0 <= pinAt s.pins x.n) :
  Calls Tryz.prog 87 #[.pointer (some ⟨b,0,none⟩),nagg x] w (ApplyPost w b F s x) := by
 have h00 : noteE x = 0 := h0
 obtain ⟨mA,mc,lA,lc,pA,pc,hF,hb,hm,hl,hp⟩ := hs
 have hck := fun W (hW : Kept NoF w W) => ncheck_any W x (h.kept hW)
 have hnone := fun W (hW : Kept NoF w W) => none_any W b s mA mc lA lc pA pc true (hb.kept hW (fun z => z))
 rw [h00] at hck
 obtain ⟨W0,hW0⟩ : ∃ W0,w.alloc (.cells (ncell x).toArray 116) = W0 := ⟨_,rfl⟩
 have hk0 : Kept NoF w W0 := by rw [<- hW0];(repeat' (first | (with_reducible first | exact kR0 | apply kP0 | apply kN0 | apply kD0 | apply kA0) | (right;simp;done)))
 have hn0 : Has W0 w.heap.size 116 (ncell x).toArray := by rw [<- hW0];exact Has.new _ _ _
 have hE : applyE s x = 0 := by unfold applyE;rw [if_neg (by simpa using h00),if_neg (by omega),if_neg (by omega),if_neg (by omega),if_neg (by omega),if_pos hk]
 have hS0 : applyS s x = { s with pins := freed s.pins x.n,top := max s.top x.n } := by unfold applyS;rw [if_neg (by rw [hE];decide),if_neg (by omega),if_neg (by omega),if_neg (by omega),if_neg (by omega),if_pos hk]
 have hfin : ∀ w3 w5 w' A c,Kept NoF w w3 -> Kept NoF w3 w5 -> Has w' b 261 (scells { s with pins := freed s.pins x.n,top := max s.top x.n } mA mc lA lc A c true) -> NewSl 112 3 w3.heap.size w5 A (freed s.pins x.n).length c (pcells (freed s.pins x.n)) -> Kept (fun k => k = b) w5 w' -> ApplyPost w b F s x (.returned (.int .i64 0)) w' := by
  intro w3 w5 w' A c hk3 hk5 hb' hn hk'
  have h1 := own_ne hm hb (by decide)
  have h2 := own_ne hl hb (by decide)
  have hb5 := hb.kept (hk3.then hk5) (fun z => z)
  have h3 := own_ne hn.1 hb5 (by decide)
  have hkf := (Kept.up (F := fun k => k = b) (hk3.then hk5)).then hk'
  have hsz := hk3.size
  refine ⟨fun k => k = b \/ RowOf (.slice mA s.ms.length mc) k \/ RowOf (.slice lA s.lg.length lc) k \/ RowOf (.slice A (freed s.pins x.n).length c) k,by rw [hE],?_,?_,hkf.mono (fun k e => (hF k).2 (.inl e))⟩
  ·rw [hS0]
   exact ⟨mA,mc,lA,lc,A,c,fun k => Iff.rfl,hb',own_kept hm hkf (fun g hg e => h1 (by rw [hg,e])),own_kept hl hkf (fun g hg e => h2 (by rw [hg,e])),own_kept hn.1 hk' (fun g hg e => h3 (by rw [hg,e]))⟩
  ·rintro k (e | e | e | e)
   ·exact .inl ((hF k).2 (.inl e))
   ·exact .inl ((hF k).2 (.inr (.inl e)))
   ·exact .inl ((hF k).2 (.inr (.inr (.inl e))))
   ·exact .inr (Nat.le_trans hsz (hn.2 k e))
 have hcall := fun W (hW : Kept NoF w W) => (free_any W pA pc s.pins x.n (Src.of_own (own_kept hp hW (fun _ _ z => z))) (by have := hok.p;omega)).mono (fun e w' hp => (show ∃ A c,e = .returned (.tuple #[.slice A (freed s.pins x.n).length c,.int .i64 0]) /\ NewSl 112 3 W.heap.size w' A (freed s.pins x.n).length c (pcells (freed s.pins x.n)) /\ Kept NoF W w' by
  rcases hp with ⟨h1,h2,h3⟩ | ⟨h1,h2⟩
  ·omega
  ·exact h2))
 have HFIN := hZ0 hfin
 clear hfin hE h0 h00 h hm hl hp hF
 obtain ⟨k,n,at2,ep,mA2,mc2,ms,fl,lA2,lc2,lg,oA,oc,⟨bcl,breq,ops⟩,ts,⟨p1,p2,p3⟩,⟨s1,s2,s3,s4⟩⟩ := x
 simp only [ncell] at hn0 hck hcall
 dsimp only at hk
 subst hk
 have HCK := hZ0 hck;have HNO := hZ0 hnone;have HK0 := hZ0 hk0;have HN0 := hZ0 hn0;have HB := hZ0 hb
 have HCALL := hZ0 hcall
 have HLT : Hid (b ≠ w.heap.size) := hZ0 (fun e => Nat.lt_irrefl _ (e ▸ hb.lt))
 clear hck hnone hk0 hn0 hb hcall hc
 go_enter Tryz.func87,Tryz.ntmps87
 go_wp2_with fail
 clear hW0
 refine (HNO.out _ HK0.out).mono ?_
 rintro e w2 ⟨rfl,hk⟩
 have HN2 := hZ0 (HN0.out.kept hk (fun z => z))
 have HK := hZ0 (HK0.out.then hk)
 clear hk
 go_wp2_with (refine wpList_load_row rfl 116 (.tmp 3) rfl w.heap.size rfl 116 _ (0,0) _ HN2.out Tryz.underlying116 rfl (by kernel_rfl) ?_)
 refine (HCK.out _ HK.out).mono ?_
 rintro e w3 ⟨rfl,hk⟩
 have hn3 := HN2.out.kept hk (fun z => z)
 have q0 : w3.cell? ⟨w.heap.size,0,none⟩ = some (.int .i64 7) := hn3.cell 0
 have HN3 := hZ0 hn3
 have HK3 := hZ0 (HK.out.then hk);clear hk HK hn3
 have hce : ∀ W,Kept NoF w3 W -> W.cell? ⟨w.heap.size,1,none⟩ = some (.int .i64 n) /\ W.cell? ⟨b,5,none⟩ = some (.slice pA s.pins.length pc) /\ W.cell? ⟨b,6,none⟩ = some (.int .i64 s.top) := fun W hW => by
  have g1 := HN3.out.kept hW (fun z => z)
  have g2 := HB.out.kept (HK3.out.then hW) (fun z => z)
  exact ⟨g1.cell 1,g2.cell 5,g2.cell 6⟩
 have HCE := hZ0 hce;clear hce
 have HS := hZ0 (Kept.refl NoF w3)
 obtain ⟨z1,z5,z6⟩ := HCE.out w3 (Kept.refl _ _)
 go_wp2_with fail
 go_region_held3 (fun W => W.cell? ⟨w.heap.size,1,none⟩ = some (.int .i64 n) /\ W.cell? ⟨b,5,none⟩ = some (.slice pA s.pins.length pc) /\ W.cell? ⟨b,6,none⟩ = some (.int .i64 s.top))
  (first | with_reducible exact HCE.out _ HS.out | exact HCE.out _ HS.out.drew | (simp [go_sem,z1,z5,z6];done))
  (first
   | (go_at_call 149;((with_reducible refine (HCALL.out _ ?_).mono ?_);exact HK3.out.then (by (repeat' (first | (with_reducible first | exact kR0 | apply kP0 | apply kN0 | apply kD0 | apply kA0) | (exact HS.out) | (right;simp;done))));rintro e w5 ⟨A5,c5,rfl,hn5,hk0⟩;have hk := Kept.then (F := NoF) (a := w3) (by (repeat' (first | (with_reducible first | exact kR0 | apply kP0 | apply kN0 | apply kD0 | apply kA0) | (exact HS.out) | (right;simp;done)))) hk0;have HN5 := hZ0 (And.intro hn5 HS.out.size);clear HS hk0 hn5;have HS := hZ0 hk;clear hk)))
 clear z1 z5 z6
 have hb5 := HB.out.kept (HK3.out.then HS.out) (fun z => z)
 have z5 : w5.cell? ⟨b,5,none⟩ = some (.slice pA s.pins.length pc) := hb5.cell 5
 have f5 := hb5.frozen 5
 have HB5 := hZ0 hb5;clear hb5
 obtain ⟨w6,hw6⟩ : ∃ w6,w5.setCell ⟨b,5,none⟩ (.slice A5 (freed s.pins n).length c5) = w6 := ⟨_,rfl⟩
 have hb6 := HB5.out.put 5 (.slice A5 (freed s.pins n).length c5)
 have hk6 : Kept (fun k => k = b) w5 w6 := by rw [<- hw6];exact (Kept.refl (fun k => k = b) w5).put (.inl rfl)
 rw [hw6] at hb6
 have z6 : w6.cell? ⟨b,6,none⟩ = some (.int .i64 s.top) := hb6.cell 6
 have f6 := hb6.frozen 6
 have q1 : w6.cell? ⟨w.heap.size,1,none⟩ = some (.int .i64 n) := ((HN3.out.kept HS.out (fun z => z)).kept hk6 (fun e => HLT.out e.symm)).cell 1
 have hmax := fun W ts t => max_i s.top n _ rfl W ts t
 have HB6 := hZ0 (And.intro hb6 hk6);clear hb6 hk6
 go_wp2_with fail
 clear hw6 z5 f5
 refine wp_region_still_tail 10 (by kernel_rfl) (by kernel_rfl) ?_
 simp only [List.take_succ_cons,List.take_zero,List.drop_succ_cons,List.drop_zero]
 change wpStill _ _ (World.drew w6) _ _ _
 repeat still_step
 refine wpStill_nil ?_
 change wpList _ _ _ _ _ (World.drew w6)
 go_wp2
 go_ret
 refine HFIN.out _ _ _ A5 c5 HK3.out HS.out ?_ ?_ ?_
 ·((repeat (first | with_reducible exact HB6.out.1 | with_reducible apply Has.put_of | with_reducible apply Has.past | with_reducible apply Has.drewN | with_reducible apply Has.drew | with_reducible apply Has.alloc)) <;> first | omega | rfl)
 ·exact ⟨HN5.out.1.1,fun k hk => Nat.le_trans HN5.out.2 (HN5.out.1.2 k hk)⟩
 ·exact (HB6.out.2.drew).put (.inl rfl)
theorem apply_any (w : World) (b : Nat) (F : Nat -> Prop) (s : StR) (x : NoteR) (hs : StAt w b F s) (hok : SOk s) (h : NOk w x) :
  Calls Tryz.prog 87 #[.pointer (some ⟨b,0,none⟩),nagg x] w (ApplyPost w b F s x) := by
 by_cases h0 : noteE x = 0
 ·by_cases h1 : x.k = 1
  ·exact apply1_any w b F s x hs hok h h0 h1
  by_cases h2 : x.k = 2
  ·exact apply2_any w b F s x hs hok h h0 h2
  by_cases h3 : x.k = 3
  ·exact apply3_any w b F s x hs hok h h0 h3
  by_cases h4 : x.k = 4
  ·exact apply4_any w b F s x hs hok h h0 h4
  by_cases h5 : x.k = 5
  ·exact apply5_any w b F s x hs hok h h0 h5
  by_cases h6 : x.k = 6
  ·exact apply6_any w b F s x hs hok h h0 h6
  by_cases h7 : x.k = 7
  ·by_cases hc : pinAt s.pins x.n < 0
   ·exact apply7a_any w b F s x hs hok h h0 h7 hc
   ·exact apply7b_any w b F s x hs hok h h0 h7 (by omega)
  by_cases h8 : x.k = 8
  ·have hs8 : saidE x.said = 0 := by
    unfold noteE at h0
    rw [if_neg h1,if_neg h2,if_neg (by omega),if_neg h6,if_pos h8] at h0
    exact h0
   have hcl : ¬ (x.said.cl < 0 \/ 3 <= x.said.cl) := fun hh => by unfold saidE at hs8;rw [if_pos hh] at hs8;omega
   by_cases c0 : x.said.cl = 0
   ·exact apply80_any w b F s x hs hok h h0 h8 c0
   by_cases c1 : x.said.cl = 1
   ·exact apply81_any w b F s x hs hok h h0 h8 c1
   exact apply82_any w b F s x hs hok h h0 h8 (by omega)
  unfold noteE at h0
  rw [if_neg h1,if_neg h2,if_neg (by omega),if_neg h6,if_neg h8] at h0
  omega
 ·exact apply_bad w b F s x hs h h0
end Mst
end Go.Proofs.YtgffjliedjhbaaaGreat
namespace Go.Proofs.YtgffjliedjhbaaaGreat
open Go.RowKit Go.WideShapes Go.ChangeShapes
set_option maxRecDepth 100000
namespace Mst
open Plan
def ncells (l : List NoteR) : List Value := l.flatMap ncell
structure NGood (w : World) (x : NoteR) : Prop where
 m : Src w 2 x.mA x.ms.length (mcells x.ms)
 mc : x.ms.length <= x.mc
 l : Src w 1 x.lA x.lg.length (ints x.lg)
 lc : x.lg.length <= x.lc
 o : Src w 3 x.oA x.b.ops.length (Ops.cells x.b.ops)
 oc : x.b.ops.length <= x.oc
 t : 0 <= x.at' /\ 0 <= x.pin.at' /\ 0 <= x.fl
theorem NGood.kept {w w' : World} {x : NoteR} (h : NGood w x) (hk : Kept NoF w w') : NGood w' x := ⟨h.m.kept hk (fun _ _ z => z),h.mc,h.l.kept hk (fun _ _ z => z),h.lc,h.o.kept hk (fun _ _ z => z),h.oc,h.t⟩
theorem NGood.below {w w' : World} {x : NoteR} (h : NGood w x) (hb : Below w.heap.size w w') : NGood w' x := ⟨h.m.below hb,h.mc,h.l.below hb,h.lc,h.o.below hb,h.oc,h.t⟩
theorem NGood.ok {w : World} {x : NoteR} (h : NGood w x) (h1 : x.ms.length <= 1000) (h2 : x.lg.length <= 1000) : NOk w x := ⟨h.m,h.mc,h1,h.l,h.lc,h2,h.o⟩
theorem note_cells {w : World} {A : Option Addr} {m : Nat} {l : List NoteR} (h : Src w 18 A m (ncells l)) (hm : 0 < m) (i : Nat) (x : NoteR) (hx : l[i]? = some x) :
  ∃ ad,A = some ad /\ ad.block < w.heap.size /\ ∀ j u,(ncell x)[j]? = some u -> w.cell? ((ad.add (i * 18)).add j) = some u := by
 obtain ⟨ad,rfl,had,hcell⟩ := h.2 hm
 refine ⟨ad,rfl,had,fun j u hu => ?_⟩
 have hj : j < 18 := (List.getElem?_eq_some_iff.1 hu).1
 rw [add_add]
 refine hcell _ _ ?_
 unfold ncells
 rw [flat_get ncell 18 (by decide) (fun _ => rfl),show (i * 18 + j) / 18 = i by omega,show (i * 18 + j) % 18 = j by omega,hx]
 exact hu
end Mst
section
variable {H : Type} {enc : TypeId × Value -> H} {W : World} {v : Value} {d : DataW H} {ps : List MemPlace} {r : Reach} {b0 : Nat}
end
end Go.Proofs.YtgffjliedjhbaaaGreat
namespace Go.Proofs.YtgffjliedjhbaaaGreat
open Go.RowKit
set_option maxRecDepth 100000
namespace Mst
open Plan Vn Go.Sort
def max4 (x y z u : Int) : Int := (if u > (if z > (if y > x then y else x) then z else (if y > x then y else x)) then u else (if z > (if y > x then y else x) then z else (if y > x then y else x)))
theorem max4_le {x y z u m : Int} (h : max4 x y z u <= m) : x <= m /\ y <= m /\ z <= m /\ u <= m := by
 unfold max4 at h
 split at h <;> split at h <;> split at h <;> (try split at *) <;> omega
def SmallTo (l : List NoteR) (i : Nat) (m : Int) : Prop := ∀ x ∈ l.take i,(x.ms.length : Int) <= m /\ (x.lg.length : Int) <= m /\ (x.b.ops.length : Int) <= m
theorem SmallTo.step {l : List NoteR} {i : Nat} {m : Int} {x : NoteR} (h : SmallTo l i m) (hx : l[i]? = some x) : SmallTo l (i + 1) (max4 m x.ms.length x.lg.length x.b.ops.length) := by
 intro y hy
 obtain ⟨h1,h2,h3,h4⟩ := max4_le (Int.le_refl (max4 m x.ms.length x.lg.length x.b.ops.length))
 rw [List.take_add_one,hx] at hy
 rcases List.mem_append.1 hy with hy | hy
 ·obtain ⟨a,b,c⟩ := h y hy
  exact ⟨by omega,by omega,by omega⟩
 ·obtain rfl : y = x := by simpa using hy
  exact ⟨h2,h3,h4⟩
end Mst
namespace Mst
open Plan Vn Go.Sort
section
variable {w : World} {b : Nat} {F : Nat -> Prop} {s : StR}
end
theorem new_at (w : World) : Calls Tryz.prog 85 #[] w fun e w' => e = .returned (.pointer (some ⟨w.heap.size,0,none⟩)) /\ StAt w' w.heap.size (fun k => k = w.heap.size) st0 /\ Kept NoF w w' := by
 refine (new_any w).mono ?_
 rintro e w' ⟨rfl,h,hk⟩
 exact ⟨rfl,⟨none,0,none,0,none,0,fun k => by simp [RowOf,Value.ownBlock],h,⟨rfl,.inl ⟨rfl,rfl⟩⟩,⟨rfl,.inl ⟨rfl,rfl⟩⟩,⟨rfl,.inl ⟨rfl,rfl⟩⟩⟩,hk⟩
end Mst
end Go.Proofs.YtgffjliedjhbaaaGreat
