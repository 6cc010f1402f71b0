/- Part 39 of what the proof needs. -/
import Derived.Test.YtgffjliedjhbaaaGreatZS37
set_option linter.unusedSimpArgs false
set_option linter.unusedVariables false
set_option maxHeartbeats 32000000
set_option maxRecDepth 100000
namespace Go.Proofs.YtgffjliedjhbaaaGreat
open Go.RowKit
set_option maxRecDepth 100000
namespace Mst
open Plan Vn Go.Sort
theorem StAt.turned {w w' : World} {b : Nat} {F : Nat -> Prop} {s s' : StR} {mA lA pA : Option Addr} {mc lc pc : Nat} (hF : ∀ k,F k ↔ (k = b \/ RowOf (.slice mA s.ms.length mc) k \/ RowOf (.slice lA s.lg.length lc) k \/ RowOf (.slice pA s.pins.length pc) k))
  (hb : Has w b 261 (scells s mA mc lA lc pA pc true)) (hm : w.ownsRow 0 57 2 (.slice mA s.ms.length mc) s.ms.length (mcells s.ms)) (hl : w.ownsRow 0 3 1 (.slice lA s.lg.length lc) s.lg.length (ints s.lg)) (hp : w.ownsRow 0 112 3 (.slice pA s.pins.length pc) s.pins.length (pcells s.pins))
  (hb' : Has w' b 261 (scells s' mA mc lA lc pA pc true)) (e1 : s'.ms = s.ms) (e2 : s'.lg = s.lg) (e3 : s'.pins = s.pins) (hk : Kept (fun k => k = b) w w') : StAt w' b F s' := by
 have h1 := own_ne hm hb (by decide)
 have h2 := own_ne hl hb (by decide)
 have h3 := own_ne hp hb (by decide)
 refine ⟨mA,mc,lA,lc,pA,pc,by rw [e1,e2,e3];exact hF,hb',?_,?_,?_⟩
 ·rw [e1];exact own_kept hm hk (fun g hg e => h1 (by rw [hg,e]))
 ·rw [e2];exact own_kept hl hk (fun g hg e => h2 (by rw [hg,e]))
 ·rw [e3];exact own_kept hp hk (fun g hg e => h3 (by rw [hg,e]))
theorem apply4_any (w : World) (b : Nat) (F : Nat -> Prop) (s : StR) (x : NoteR) (hs : StAt w b F s) (hok : SOk s) (h : NOk w x) (h0 : noteE x = 0) (hk : x.k = 4) :
  Calls Tryz.prog 87 #[.pointer (some ⟨b,0,none⟩),nagg x] w (ApplyPost w b F s x) := by
 have h00 : noteE x = 0 := h0
 obtain ⟨mA,mc,lA,lc,pA,pc,hF,hb,hm,hl,hp⟩ := hs
 have hck := fun W (hW : Kept NoF w W) => ncheck_any W x (h.kept hW)
 have hnone := fun W (hW : Kept NoF w W) => none_any W b s mA mc lA lc pA pc true (hb.kept hW (fun z => z))
 rw [h00] at hck
 obtain ⟨W0,hW0⟩ : ∃ W0,w.alloc (.cells (ncell x).toArray 116) = W0 := ⟨_,rfl⟩
 have hk0 : Kept NoF w W0 := by rw [<- hW0];(repeat' (first | (with_reducible first | exact kR0 | apply kP0 | apply kN0 | apply kD0 | apply kA0) | (right;simp;done)))
 have hn0 : Has W0 w.heap.size 116 (ncell x).toArray := by rw [<- hW0];exact Has.new _ _ _
 have hE : applyE s x = if x.at' < s.hz then 18 else 0 := by unfold applyE;rw [if_neg (by simpa using h00),if_neg (by omega),if_neg (by omega),if_pos hk]
 have hfin : (x.at' < s.hz -> ∀ w',Kept NoF w w' -> ApplyPost w b F s x (.returned (.int .i64 18)) w') /\ (¬ x.at' < s.hz -> ∀ w',Has w' b 261 (scells { s with hz := x.at' } mA mc lA lc pA pc true) -> Kept (fun k => k = b) w w' -> ApplyPost w b F s x (.returned (.int .i64 0)) w') := by
  refine ⟨fun h1 w' hk' => ?_,fun h1 w' hb' hk' => ?_⟩
  ·have hst := (show StAt w b F s from ⟨mA,mc,lA,lc,pA,pc,hF,hb,hm,hl,hp⟩)
   rw [if_pos h1] at hE
   have := ApplyPost.bad hst (by rw [hE];decide) hk'
   rw [hE] at this
   exact this
  ·rw [if_neg h1] at hE
   have hS : applyS s x = { s with hz := x.at' } := by unfold applyS;rw [if_neg (by rw [hE];decide),if_neg (by omega),if_neg (by omega),if_pos hk]
   refine ⟨F,by rw [hE],?_,Grows.refl _ _,hk'.mono (fun k e => (hF k).2 (.inl e))⟩
   rw [hS]
   exact StAt.turned hF hb hm hl hp hb' rfl rfl rfl hk'
 have HFIN := hZ0 hfin
 clear hfin hE h0 h00 h hm hl hp hF
 obtain ⟨k,n,at2,ep,mA2,mc2,ms,fl,lA2,lc2,lg,oA,oc,⟨bcl,breq,ops⟩,ts,⟨p1,p2,p3⟩,⟨s1,s2,s3,s4⟩⟩ := x
 simp only [ncell] at hn0 hck
 dsimp only at hk
 subst hk
 have HCK := hZ0 hck;have HNO := hZ0 hnone;have HK0 := hZ0 hk0;have HN0 := hZ0 hn0;have HB := hZ0 hb
 clear hck hnone hk0 hn0 hb
 go_enter Tryz.func87,Tryz.ntmps87
 go_wp2_with fail
 clear hW0
 refine (HNO.out _ HK0.out).mono ?_
 rintro e w2 ⟨rfl,hk⟩
 have HN2 := hZ0 (HN0.out.kept hk (fun z => z))
 have HK := hZ0 (HK0.out.then hk)
 clear hk
 go_wp2_with (refine wpList_load_row rfl 116 (.tmp 3) rfl w.heap.size rfl 116 _ (0,0) _ HN2.out Tryz.underlying116 rfl (by kernel_rfl) ?_)
 refine (HCK.out _ HK.out).mono ?_
 rintro e w3 ⟨rfl,hk⟩
 have hn3 := HN2.out.kept hk (fun z => z)
 have q0 : w3.cell? ⟨w.heap.size,0,none⟩ = some (.int .i64 4) := hn3.cell 0
 have q2 : w3.cell? ⟨w.heap.size,2,none⟩ = some (.int .u64 at2) := hn3.cell 2
 have HN3 := hZ0 hn3
 have HK3 := hZ0 (HK.out.then hk);clear hk HK hn3
 have hb3 := HB.out.kept HK3.out (fun z => z)
 have z4 : w3.cell? ⟨b,4,none⟩ = some (.int .u64 s.hz) := hb3.cell 4
 have HB3 := hZ0 hb3;clear hb3
 by_cases hh : at2 < s.hz
 ·go_wp2_with fail
  go_quiet (fail)
  go_wp2
  go_ret
  exact HFIN.out.1 hh _ (HK3.out.drewN _)
 ·go_wp2_with fail
  go_quiet (fail)
  have y4 : ∀ n,(w3.drewN n).cell? ⟨b,4,none⟩ = some (.int .u64 s.hz) := fun n => z4
  have y2 : ∀ n,(w3.drewN n).cell? ⟨w.heap.size,2,none⟩ = some (.int .u64 at2) := fun n => q2
  have f4 : ∀ n,(w3.drewN n).frozen? ⟨b,4,none⟩ = false := fun n => HB3.out.frozen 4
  go_wp2
  go_ret
  refine HFIN.out.2 hh _ ?_ ?_
  ·((repeat (first | with_reducible exact HB3.out | with_reducible apply Has.put_of | with_reducible apply Has.past | with_reducible apply Has.drewN | with_reducible apply Has.drew | with_reducible apply Has.alloc)) <;> first | omega | rfl)
  ·exact ((Kept.up HK3.out).drewN _).put (.inl rfl)
theorem apply80_any (w : World) (b : Nat) (F : Nat -> Prop) (s : StR) (x : NoteR) (hs : StAt w b F s) (hok : SOk s) (h : NOk w x) (h0 : noteE x = 0) (hk : x.k = 8) (hc : x.said.cl = 0) :
  Calls Tryz.prog 87 #[.pointer (some ⟨b,0,none⟩),nagg x] w (ApplyPost w b F s x) := by
 have h00 : noteE x = 0 := h0
 obtain ⟨mA,mc,lA,lc,pA,pc,hF,hb,hm,hl,hp⟩ := hs
 have hck := fun W (hW : Kept NoF w W) => ncheck_any W x (h.kept hW)
 have hnone := fun W (hW : Kept NoF w W) => none_any W b s mA mc lA lc pA pc true (hb.kept hW (fun z => z))
 rw [h00] at hck
 obtain ⟨W0,hW0⟩ : ∃ W0,w.alloc (.cells (ncell x).toArray 116) = W0 := ⟨_,rfl⟩
 have hk0 : Kept NoF w W0 := by rw [<- hW0];(repeat' (first | (with_reducible first | exact kR0 | apply kP0 | apply kN0 | apply kD0 | apply kA0) | (right;simp;done)))
 have hn0 : Has W0 w.heap.size 116 (ncell x).toArray := by rw [<- hW0];exact Has.new _ _ _
 have hE : applyE s x = if x.said.req < s.t0.req then 18 else 0 := by unfold applyE;rw [if_neg (by simpa using h00),if_neg (by omega),if_neg (by omega),if_neg (by omega),if_neg (by omega),if_neg (by omega),if_pos hk,toldOf,hc];rfl
 have hfin : ∀ w3 w',Kept NoF w w3 -> SayPost w3 b s.t0.req x.said.req (scells { s with t0 := ⟨0,x.said.req,x.said.e,x.said.pin⟩ } mA mc lA lc pA pc true) (.returned (.int .i64 (if x.said.req < s.t0.req then 18 else 0))) w' -> ApplyPost w b F s x (.returned (.int .i64 (if x.said.req < s.t0.req then 18 else 0))) w' := by
  intro w3 w' hk3 hpost
  have hst := (show StAt w b F s from ⟨mA,mc,lA,lc,pA,pc,hF,hb,hm,hl,hp⟩)
  rcases hpost with ⟨h1,_,h2⟩ | ⟨h1,_,h2,h3⟩
  ·rw [<- hE]
   exact ApplyPost.bad hst (by rw [hE,if_pos h1];decide) (hk3.then h2)
  ·have hS : applyS s x = { s with t0 := ⟨0,x.said.req,x.said.e,x.said.pin⟩ } := by
    unfold applyS
    rw [if_neg (by rw [hE,if_neg h1];decide),if_neg (by omega),if_neg (by omega),if_neg (by omega),if_neg (by omega),if_neg (by omega),withTold,hc]
    rw [show x.said = ⟨0,x.said.req,x.said.e,x.said.pin⟩ by rw [<- hc]]
    rfl
   have hkf := (Kept.up (F := fun k => k = b) hk3).then h3
   refine ⟨F,by rw [hE],?_,Grows.refl _ _,hkf.mono (fun k e => (hF k).2 (.inl e))⟩
   rw [hS]
   exact StAt.turned hF hb hm hl hp h2 rfl rfl rfl hkf
 have hcall := fun W (hW : Kept NoF w W) => (say0_any W b s mA mc lA lc pA pc x.said.req x.said.e x.said.pin (hb.kept hW (fun z => z))).mono (fun e w' hp => (show e = .returned (.int .i64 (if x.said.req < s.t0.req then 18 else 0)) /\ SayPost W b s.t0.req x.said.req (scells { s with t0 := ⟨0,x.said.req,x.said.e,x.said.pin⟩ } mA mc lA lc pA pc true) (.returned (.int .i64 (if x.said.req < s.t0.req then 18 else 0))) w' by
  rcases hp with ⟨h1,h2,h3⟩ | ⟨h1,h2,h3⟩
  ·rw [if_pos h1];exact ⟨h2,.inl ⟨h1,rfl,h3⟩⟩
  ·rw [if_neg h1];exact ⟨h2,.inr ⟨h1,rfl,h3⟩⟩))
 obtain ⟨Z,hZ⟩ : ∃ Z : Int,(if x.said.req < s.t0.req then 18 else 0) = Z := ⟨_,rfl⟩
 rw [hZ] at hfin hcall
 clear hZ
 have HFIN := hZ0 hfin
 clear hfin hE h0 h00 h hm hl hp hF
 obtain ⟨k,n,at2,ep,mA2,mc2,ms,fl,lA2,lc2,lg,oA,oc,⟨bcl,breq,ops⟩,ts,⟨p1,p2,p3⟩,⟨s1,s2,s3,s4⟩⟩ := x
 simp only [ncell] at hn0 hck hcall
 dsimp only at hk
 subst hk
 have HCK := hZ0 hck;have HNO := hZ0 hnone;have HK0 := hZ0 hk0;have HN0 := hZ0 hn0;have HB := hZ0 hb
 have HCALL := hZ0 hcall
 dsimp only at hc
 subst hc
 clear hck hnone hk0 hn0 hb hcall
 go_enter Tryz.func87,Tryz.ntmps87
 go_wp2_with fail
 clear hW0
 refine (HNO.out _ HK0.out).mono ?_
 rintro e w2 ⟨rfl,hk⟩
 have HN2 := hZ0 (HN0.out.kept hk (fun z => z))
 have HK := hZ0 (HK0.out.then hk)
 clear hk
 go_wp2_with (refine wpList_load_row rfl 116 (.tmp 3) rfl w.heap.size rfl 116 _ (0,0) _ HN2.out Tryz.underlying116 rfl (by kernel_rfl) ?_)
 refine (HCK.out _ HK.out).mono ?_
 rintro e w3 ⟨rfl,hk⟩
 have hn3 := HN2.out.kept hk (fun z => z)
 have q0 : w3.cell? ⟨w.heap.size,0,none⟩ = some (.int .i64 8) := hn3.cell 0
 have q14 : w3.cell? ⟨w.heap.size,14,none⟩ = some (.int .i64 0) := hn3.cell 14
 have q15 : w3.cell? ⟨w.heap.size,15,none⟩ = some (.int .i64 s2) := hn3.cell 15
 have q16 : w3.cell? ⟨w.heap.size,16,none⟩ = some (.int .i64 s3) := hn3.cell 16
 have q17 : w3.cell? ⟨w.heap.size,17,none⟩ = some (.int .i64 s4) := hn3.cell 17
 have HN3 := hZ0 hn3
 have HK3 := hZ0 (HK.out.then hk);clear hk HK hn3
 go_wp2_with fail
 refine (HCALL.out _ HK3.out).mono ?_
 rintro e w4 ⟨rfl,hpost⟩
 have HPO := hZ0 hpost;clear hpost
 go_wp2
 go_ret
 exact HFIN.out _ _ HK3.out HPO.out
theorem apply81_any (w : World) (b : Nat) (F : Nat -> Prop) (s : StR) (x : NoteR) (hs : StAt w b F s) (hok : SOk s) (h : NOk w x) (h0 : noteE x = 0) (hk : x.k = 8) (hc : x.said.cl = 1) :
  Calls Tryz.prog 87 #[.pointer (some ⟨b,0,none⟩),nagg x] w (ApplyPost w b F s x) := by
 have h00 : noteE x = 0 := h0
 obtain ⟨mA,mc,lA,lc,pA,pc,hF,hb,hm,hl,hp⟩ := hs
 have hck := fun W (hW : Kept NoF w W) => ncheck_any W x (h.kept hW)
 have hnone := fun W (hW : Kept NoF w W) => none_any W b s mA mc lA lc pA pc true (hb.kept hW (fun z => z))
 rw [h00] at hck
 obtain ⟨W0,hW0⟩ : ∃ W0,w.alloc (.cells (ncell x).toArray 116) = W0 := ⟨_,rfl⟩
 have hk0 : Kept NoF w W0 := by rw [<- hW0];(repeat' (first | (with_reducible first | exact kR0 | apply kP0 | apply kN0 | apply kD0 | apply kA0) | (right;simp;done)))
 have hn0 : Has W0 w.heap.size 116 (ncell x).toArray := by rw [<- hW0];exact Has.new _ _ _
 have hE : applyE s x = if x.said.req < s.t1.req then 18 else 0 := by unfold applyE;rw [if_neg (by simpa using h00),if_neg (by omega),if_neg (by omega),if_neg (by omega),if_neg (by omega),if_neg (by omega),if_pos hk,toldOf,hc];rfl
 have hfin : ∀ w3 w',Kept NoF w w3 -> SayPost w3 b s.t1.req x.said.req (scells { s with t1 := ⟨1,x.said.req,x.said.e,x.said.pin⟩ } mA mc lA lc pA pc true) (.returned (.int .i64 (if x.said.req < s.t1.req then 18 else 0))) w' -> ApplyPost w b F s x (.returned (.int .i64 (if x.said.req < s.t1.req then 18 else 0))) w' := by
  intro w3 w' hk3 hpost
  have hst := (show StAt w b F s from ⟨mA,mc,lA,lc,pA,pc,hF,hb,hm,hl,hp⟩)
  rcases hpost with ⟨h1,_,h2⟩ | ⟨h1,_,h2,h3⟩
  ·rw [<- hE]
   exact ApplyPost.bad hst (by rw [hE,if_pos h1];decide) (hk3.then h2)
  ·have hS : applyS s x = { s with t1 := ⟨1,x.said.req,x.said.e,x.said.pin⟩ } := by
    unfold applyS
    rw [if_neg (by rw [hE,if_neg h1];decide),if_neg (by omega),if_neg (by omega),if_neg (by omega),if_neg (by omega),if_neg (by omega),withTold,hc]
    rw [show x.said = ⟨1,x.said.req,x.said.e,x.said.pin⟩ by rw [<- hc]]
    rfl
   have hkf := (Kept.up (F := fun k => k = b) hk3).then h3
   refine ⟨F,by rw [hE],?_,Grows.refl _ _,hkf.mono (fun k e => (hF k).2 (.inl e))⟩
   rw [hS]
   exact StAt.turned hF hb hm hl hp h2 rfl rfl rfl hkf
 have hcall := fun W (hW : Kept NoF w W) => (say1_any W b s mA mc lA lc pA pc x.said.req x.said.e x.said.pin (hb.kept hW (fun z => z))).mono (fun e w' hp => (show e = .returned (.int .i64 (if x.said.req < s.t1.req then 18 else 0)) /\ SayPost W b s.t1.req x.said.req (scells { s with t1 := ⟨1,x.said.req,x.said.e,x.said.pin⟩ } mA mc lA lc pA pc true) (.returned (.int .i64 (if x.said.req < s.t1.req then 18 else 0))) w' by
  rcases hp with ⟨h1,h2,h3⟩ | ⟨h1,h2,h3⟩
  ·rw [if_pos h1];exact ⟨h2,.inl ⟨h1,rfl,h3⟩⟩
  ·rw [if_neg h1];exact ⟨h2,.inr ⟨h1,rfl,h3⟩⟩))
 obtain ⟨Z,hZ⟩ : ∃ Z : Int,(if x.said.req < s.t1.req then 18 else 0) = Z := ⟨_,rfl⟩
 rw [hZ] at hfin hcall
 clear hZ
 have HFIN := hZ0 hfin
 clear hfin hE h0 h00 h hm hl hp hF
 obtain ⟨k,n,at2,ep,mA2,mc2,ms,fl,lA2,lc2,lg,oA,oc,⟨bcl,breq,ops⟩,ts,⟨p1,p2,p3⟩,⟨s1,s2,s3,s4⟩⟩ := x
 simp only [ncell] at hn0 hck hcall
 dsimp only at hk
 subst hk
 have HCK := hZ0 hck;have HNO := hZ0 hnone;have HK0 := hZ0 hk0;have HN0 := hZ0 hn0;have HB := hZ0 hb
 have HCALL := hZ0 hcall
 dsimp only at hc
 subst hc
 clear hck hnone hk0 hn0 hb hcall
 go_enter Tryz.func87,Tryz.ntmps87
 go_wp2_with fail
 clear hW0
 refine (HNO.out _ HK0.out).mono ?_
 rintro e w2 ⟨rfl,hk⟩
 have HN2 := hZ0 (HN0.out.kept hk (fun z => z))
 have HK := hZ0 (HK0.out.then hk)
 clear hk
 go_wp2_with (refine wpList_load_row rfl 116 (.tmp 3) rfl w.heap.size rfl 116 _ (0,0) _ HN2.out Tryz.underlying116 rfl (by kernel_rfl) ?_)
 refine (HCK.out _ HK.out).mono ?_
 rintro e w3 ⟨rfl,hk⟩
 have hn3 := HN2.out.kept hk (fun z => z)
 have q0 : w3.cell? ⟨w.heap.size,0,none⟩ = some (.int .i64 8) := hn3.cell 0
 have q14 : w3.cell? ⟨w.heap.size,14,none⟩ = some (.int .i64 1) := hn3.cell 14
 have q15 : w3.cell? ⟨w.heap.size,15,none⟩ = some (.int .i64 s2) := hn3.cell 15
 have q16 : w3.cell? ⟨w.heap.size,16,none⟩ = some (.int .i64 s3) := hn3.cell 16
 have q17 : w3.cell? ⟨w.heap.size,17,none⟩ = some (.int .i64 s4) := hn3.cell 17
 have HN3 := hZ0 hn3
 have HK3 := hZ0 (HK.out.then hk);clear hk HK hn3
 go_wp2_with fail
 refine (HCALL.out _ HK3.out).mono ?_
 rintro e w4 ⟨rfl,hpost⟩
 have HPO := hZ0 hpost;clear hpost
 go_wp2
 go_ret
 exact HFIN.out _ _ HK3.out HPO.out
theorem apply82_any (w : World) (b : Nat) (F : Nat -> Prop) (s : StR) (x : NoteR) (hs : StAt w b F s) (hok : SOk s) (h : NOk w x) (h0 : noteE x = 0) (hk : x.k = 8) (hc : x.said.cl = 2) :
  Calls Tryz.prog 87 #[.pointer (some ⟨b,0,none⟩),nagg x] w (ApplyPost w b F s x) := by
 have h00 : noteE x = 0 := h0
 obtain ⟨mA,mc,lA,lc,pA,pc,hF,hb,hm,hl,hp⟩ := hs
 have hck := fun W (hW : Kept NoF w W) => ncheck_any W x (h.kept hW)
 have hnone := fun W (hW : Kept NoF w W) => none_any W b s mA mc lA lc pA pc true (hb.kept hW (fun z => z))
 rw [h00] at hck
 obtain ⟨W0,hW0⟩ : ∃ W0,w.alloc (.cells (ncell x).toArray 116) = W0 := ⟨_,rfl⟩
 have hk0 : Kept NoF w W0 := by rw [<- hW0];(repeat' (first | (with_reducible first | exact kR0 | apply kP0 | apply kN0 | apply kD0 | apply kA0) | (right;simp;done)))
 have hn0 : Has W0 w.heap.size 116 (ncell x).toArray := by rw [<- hW0];exact Has.new _ _ _
 have hE : applyE s x = if x.said.req < s.t2.req then 18 else 0 := by unfold applyE;rw [if_neg (by simpa using h00),if_neg (by omega),if_neg (by omega),if_neg (by omega),if_neg (by omega),if_neg (by omega),if_pos hk,toldOf,hc];rfl
 have hfin : ∀ w3 w',Kept NoF w w3 -> SayPost w3 b s.t2.req x.said.req (scells { s with t2 := ⟨2,x.said.req,x.said.e,x.said.pin⟩ } mA mc lA lc pA pc true) (.returned (.int .i64 (if x.said.req < s.t2.req then 18 else 0))) w' -> ApplyPost w b F s x (.returned (.int .i64 (if x.said.req < s.t2.req then 18 else 0))) w' := by
  intro w3 w' hk3 hpost
  have hst := (show StAt w b F s from ⟨mA,mc,lA,lc,pA,pc,hF,hb,hm,hl,hp⟩)
  rcases hpost with ⟨h1,_,h2⟩ | ⟨h1,_,h2,h3⟩
  ·rw [<- hE]
   exact ApplyPost.bad hst (by rw [hE,if_pos h1];decide) (hk3.then h2)
  ·have hS : applyS s x = { s with t2 := ⟨2,x.said.req,x.said.e,x.said.pin⟩ } := by
    unfold applyS
    rw [if_neg (by rw [hE,if_neg h1];decide),if_neg (by omega),if_neg (by omega),if_neg (by omega),if_neg (by omega),if_neg (by omega),withTold,hc]
    rw [show x.said = ⟨2,x.said.req,x.said.e,x.said.pin⟩ by rw [<- hc]]
    rfl
   have hkf := (Kept.up (F := fun k => k = b) hk3).then h3
   refine ⟨F,by rw [hE],?_,Grows.refl _ _,hkf.mono (fun k e => (hF k).2 (.inl e))⟩
   rw [hS]
   exact StAt.turned hF hb hm hl hp h2 rfl rfl rfl hkf
 have hcall := fun W (hW : Kept NoF w W) => (say2_any W b s mA mc lA lc pA pc x.said.req x.said.e x.said.pin (hb.kept hW (fun z => z))).mono (fun e w' hp => (show e = .returned (.int .i64 (if x.said.req < s.t2.req then 18 else 0)) /\ SayPost W b s.t2.req x.said.req (scells { s with t2 := ⟨2,x.said.req,x.said.e,x.said.pin⟩ } mA mc lA lc pA pc true) (.returned (.int .i64 (if x.said.req < s.t2.req then 18 else 0))) w' by
  rcases hp with ⟨h1,h2,h3⟩ | ⟨h1,h2,h3⟩
  ·rw [if_pos h1];exact ⟨h2,.inl ⟨h1,rfl,h3⟩⟩
  ·rw [if_neg h1];exact ⟨h2,.inr ⟨h1,rfl,h3⟩⟩))
 obtain ⟨Z,hZ⟩ : ∃ Z : Int,(if x.said.req < s.t2.req then 18 else 0) = Z := ⟨_,rfl⟩
 rw [hZ] at hfin hcall
 clear hZ
 have HFIN := hZ0 hfin
 clear hfin hE h0 h00 h hm hl hp hF
 obtain ⟨k,n,at2,ep,mA2,mc2,ms,fl,lA2,lc2,lg,oA,oc,⟨bcl,breq,ops⟩,ts,⟨p1,p2,p3⟩,⟨s1,s2,s3,s4⟩⟩ := x
 simp only [ncell] at hn0 hck hcall
 dsimp only at hk
 subst hk
 have HCK := hZ0 hck;have HNO := hZ0 hnone;have HK0 := hZ0 hk0;have HN0 := hZ0 hn0;have HB := hZ0 hb
 have HCALL := hZ0 hcall
 dsimp only at hc
 subst hc
 clear hck hnone hk0 hn0 hb hcall
 go_enter Tryz.func87,Tryz.ntmps87
 go_wp2_with fail
 clear hW0
 refine (HNO.out _ HK0.out).mono ?_
 rintro e w2 ⟨rfl,hk⟩
 have HN2 := hZ0 (HN0.out.kept hk (fun z => z))
 have HK := hZ0 (HK0.out.then hk)
 clear hk
 go_wp2_with (refine wpList_load_row rfl 116 (.tmp 3) rfl w.heap.size rfl 116 _ (0,0) _ HN2.out Tryz.underlying116 rfl (by kernel_rfl) ?_)
 refine (HCK.out _ HK.out).mono ?_
 rintro e w3 ⟨rfl,hk⟩
 have hn3 := HN2.out.kept hk (fun z => z)
 have q0 : w3.cell? ⟨w.heap.size,0,none⟩ = some (.int .i64 8) := hn3.cell 0
 have q14 : w3.cell? ⟨w.heap.size,14,none⟩ = some (.int .i64 2) := hn3.cell 14
 have q15 : w3.cell? ⟨w.heap.size,15,none⟩ = some (.int .i64 s2) := hn3.cell 15
 have q16 : w3.cell? ⟨w.heap.size,16,none⟩ = some (.int .i64 s3) := hn3.cell 16
 have q17 : w3.cell? ⟨w.heap.size,17,none⟩ = some (.int .i64 s4) := hn3.cell 17
 have HN3 := hZ0 hn3
 have HK3 := hZ0 (HK.out.then hk);clear hk HK hn3
 go_wp2_with fail
 refine (HCALL.out _ HK3.out).mono ?_
 rintro e w4 ⟨rfl,hpost⟩
 have HPO := hZ0 hpost;clear hpost
 go_wp2
 go_ret
 exact HFIN.out _ _ HK3.out HPO.out
theorem apply2_any (w : World) (b : Nat) (F : Nat -> Prop) (s : StR) (x : NoteR) (hs : StAt w b F s) (hok : SOk s) (h : NOk w x) (h0 : noteE x = 0) (hk : x.k = 2) :
  Calls Tryz.prog 87 #[.pointer (some ⟨b,0,none⟩),nagg x] w (ApplyPost w b F s x) := by
 have h00 : noteE x = 0 := h0
 obtain ⟨mA,mc,lA,lc,pA,pc,hF,hb,hm,hl,hp⟩ := hs
 have hck := fun W (hW : Kept NoF w W) => ncheck_any W x (h.kept hW)
 have hnone := fun W (hW : Kept NoF w W) => none_any W b s mA mc lA lc pA pc true (hb.kept hW (fun z => z))
 rw [h00] at hck
 obtain ⟨W0,hW0⟩ : ∃ W0,w.alloc (.cells (ncell x).toArray 116) = W0 := ⟨_,rfl⟩
 have hk0 : Kept NoF w W0 := by rw [<- hW0];(repeat' (first | (with_reducible first | exact kR0 | apply kP0 | apply kN0 | apply kD0 | apply kA0) | (right;simp;done)))
 have hn0 : Has W0 w.heap.size 116 (ncell x).toArray := by rw [<- hW0];exact Has.new _ _ _
 have hE : applyE s x = 11 := by unfold applyE;rw [if_neg (by simpa using h00),if_neg (by omega),if_neg (by omega),if_neg (by omega),if_neg (by omega),if_neg (by omega),if_neg (by omega)]
 have hfin : ∀ w',Kept NoF w w' -> ApplyPost w b F s x (.returned (.int .i64 11)) w' := by
  intro w' hk'
  have hst := (show StAt w b F s from ⟨mA,mc,lA,lc,pA,pc,hF,hb,hm,hl,hp⟩)
  have := ApplyPost.bad hst (by rw [hE];decide) hk'
  rw [hE] at this
  exact this
 have HFIN := hZ0 hfin
 clear hfin hE h0 h00 h hm hl hp hF
 obtain ⟨k,n,at2,ep,mA2,mc2,ms,fl,lA2,lc2,lg,oA,oc,⟨bcl,breq,ops⟩,ts,⟨p1,p2,p3⟩,⟨s1,s2,s3,s4⟩⟩ := x
 simp only [ncell] at hn0 hck
 dsimp only at hk
 subst hk
 have HCK := hZ0 hck;have HNO := hZ0 hnone;have HK0 := hZ0 hk0;have HN0 := hZ0 hn0;have HB := hZ0 hb
 clear hck hnone hk0 hn0 hb
 go_enter Tryz.func87,Tryz.ntmps87
 go_wp2_with fail
 clear hW0
 refine (HNO.out _ HK0.out).mono ?_
 rintro e w2 ⟨rfl,hk⟩
 have HN2 := hZ0 (HN0.out.kept hk (fun z => z))
 have HK := hZ0 (HK0.out.then hk)
 clear hk
 go_wp2_with (refine wpList_load_row rfl 116 (.tmp 3) rfl w.heap.size rfl 116 _ (0,0) _ HN2.out Tryz.underlying116 rfl (by kernel_rfl) ?_)
 refine (HCK.out _ HK.out).mono ?_
 rintro e w3 ⟨rfl,hk⟩
 have hn3 := HN2.out.kept hk (fun z => z)
 have q0 : w3.cell? ⟨w.heap.size,0,none⟩ = some (.int .i64 2) := hn3.cell 0
 have HN3 := hZ0 hn3
 have HK3 := hZ0 (HK.out.then hk);clear hk HK hn3
 go_wp2
 go_ret
 exact HFIN.out _ HK3.out
theorem apply3_any (w : World) (b : Nat) (F : Nat -> Prop) (s : StR) (x : NoteR) (hs : StAt w b F s) (hok : SOk s) (h : NOk w x) (h0 : noteE x = 0) (hk : x.k = 3) :
  Calls Tryz.prog 87 #[.pointer (some ⟨b,0,none⟩),nagg x] w (ApplyPost w b F s x) := by
 have h00 : noteE x = 0 := h0
 obtain ⟨mA,mc,lA,lc,pA,pc,hF,hb,hm,hl,hp⟩ := hs
 have hck := fun W (hW : Kept NoF w W) => ncheck_any W x (h.kept hW)
 have hnone := fun W (hW : Kept NoF w W) => none_any W b s mA mc lA lc pA pc true (hb.kept hW (fun z => z))
 rw [h00] at hck
 obtain ⟨W0,hW0⟩ : ∃ W0,w.alloc (.cells (ncell x).toArray 116) = W0 := ⟨_,rfl⟩
 have hk0 : Kept NoF w W0 := by rw [<- hW0];(repeat' (first | (with_reducible first | exact kR0 | apply kP0 | apply kN0 | apply kD0 | apply kA0) | (right;simp;done)))
 have hn0 : Has W0 w.heap.size 116 (ncell x).toArray := by rw [<- hW0];exact Has.new _ _ _
 have hE : applyE s x = 11 := by unfold applyE;rw [if_neg (by simpa using h00),if_neg (by omega),if_neg (by omega),if_neg (by omega),if_neg (by omega),if_neg (by omega),if_neg (by omega)]
 have hfin : ∀ w',Kept NoF w w' -> ApplyPost w b F s x (.returned (.int .i64 11)) w' := by
  intro w' hk'
  have hst := (show StAt w b F s from ⟨mA,mc,lA,lc,pA,pc,hF,hb,hm,hl,hp⟩)
  have := ApplyPost.bad hst (by rw [hE];decide) hk'
  rw [hE] at this
  exact this
 have HFIN := hZ0 hfin
 clear hfin hE h0 h00 h hm hl hp hF
 obtain ⟨k,n,at2,ep,mA2,mc2,ms,fl,lA2,lc2,lg,oA,oc,⟨bcl,breq,ops⟩,ts,⟨p1,p2,p3⟩,⟨s1,s2,s3,s4⟩⟩ := x
 simp only [ncell] at hn0 hck
 dsimp only at hk
 subst hk
 have HCK := hZ0 hck;have HNO := hZ0 hnone;have HK0 := hZ0 hk0;have HN0 := hZ0 hn0;have HB := hZ0 hb
 clear hck hnone hk0 hn0 hb
 go_enter Tryz.func87,Tryz.ntmps87
 go_wp2_with fail
 clear hW0
 refine (HNO.out _ HK0.out).mono ?_
 rintro e w2 ⟨rfl,hk⟩
 have HN2 := hZ0 (HN0.out.kept hk (fun z => z))
 have HK := hZ0 (HK0.out.then hk)
 clear hk
 go_wp2_with (refine wpList_load_row rfl 116 (.tmp 3) rfl w.heap.size rfl 116 _ (0,0) _ HN2.out Tryz.underlying116 rfl (by kernel_rfl) ?_)
 refine (HCK.out _ HK.out).mono ?_
 rintro e w3 ⟨rfl,hk⟩
 have hn3 := HN2.out.kept hk (fun z => z)
 have q0 : w3.cell? ⟨w.heap.size,0,none⟩ = some (.int .i64 3) := hn3.cell 0
 have HN3 := hZ0 hn3
 have HK3 := hZ0 (HK.out.then hk);clear hk HK hn3
 go_wp2
 go_ret
 exact HFIN.out _ HK3.out
end Mst
end Go.Proofs.YtgffjliedjhbaaaGreat
