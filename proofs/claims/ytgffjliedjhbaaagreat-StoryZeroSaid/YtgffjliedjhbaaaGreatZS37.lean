/- Part 38 of what the proof needs. -/
import Derived.Test.YtgffjliedjhbaaaGreatZS35
set_option linter.unusedSimpArgs false
set_option linter.unusedVariables false
set_option maxHeartbeats 32000000
set_option maxRecDepth 100000
namespace Go.Proofs.YtgffjliedjhbaaaGreat
open Go.RowKit
set_option maxRecDepth 100000
namespace Mst
open Plan Vn Go.Sort
theorem max_i (a b M : Int) (h : max a b = M) (W : World) (ts : Array TypeId) (t : TypeId) : (Builtin.max_ ts t #[.int .i64 a,.int .i64 b]).run Tryz.prog W = .ok (.int .i64 M) W := by
 rw [run_max_int2]
 split
 ·rw [show M = b by omega]
 ·rw [show M = a by omega]
theorem apply1_any (w : World) (b : Nat) (F : Nat -> Prop) (s : StR) (x : NoteR) (hs : StAt w b F s) (hok : SOk s) (h : NOk w x) (h0 : noteE x = 0) (hk : x.k = 1) :
  Calls Tryz.prog 87 #[.pointer (some ⟨b,0,none⟩),nagg x] w (ApplyPost w b F s x) := by
 have h00 : noteE x = 0 := h0
 obtain ⟨mA,mc,lA,lc,pA,pc,hF,hb,hm,hl,hp⟩ := hs
 have hck := fun W (hW : Kept NoF w W) => ncheck_any W x (h.kept hW)
 have hnone := fun W (hW : Kept NoF w W) => none_any W b s mA mc lA lc pA pc true (hb.kept hW (fun z => z))
 rw [h00] at hck
 obtain ⟨W0,hW0⟩ : ∃ W0,w.alloc (.cells (ncell x).toArray 116) = W0 := ⟨_,rfl⟩
 have hk0 : Kept NoF w W0 := by rw [<- hW0];(repeat' (first | (with_reducible first | exact kR0 | apply kP0 | apply kN0 | apply kD0 | apply kA0) | (right;simp;done)))
 have hn0 : Has W0 w.heap.size 116 (ncell x).toArray := by rw [<- hW0];exact Has.new _ _ _
 have hE : applyE s x = nextE s x := by unfold applyE;rw [if_neg (by simpa using h00),if_pos hk]
 have hfin : ∀ w3 w',Kept NoF w w3 -> NextPost w3 b s x pA pc (.returned (.int .i64 (nextE s x))) w' -> ApplyPost w b F s x (.returned (.int .i64 (nextE s x))) w' := by
  intro w3 w' hk3 hpost
  have hst := (show StAt w b F s from ⟨mA,mc,lA,lc,pA,pc,hF,hb,hm,hl,hp⟩)
  rcases hpost with ⟨h1,_,h2⟩ | ⟨h1,_,A,c,B,d,h2,h3,h4,h5⟩
  ·rw [<- hE]
   exact ApplyPost.bad hst (by rw [hE];exact h1) (hk3.then h2)
  ·have hS : applyS s x = { s with ep := x.ep,ms := x.ms,fl := x.fl,lg := x.lg } := by unfold applyS;rw [if_neg (by rw [hE,h1];simp),if_pos hk]
   have hbF : ∀ k,k = b -> F k := fun k e => (hF k).2 (.inl e)
   have hpb := own_ne hp hb (by decide)
   have hsz := hk3.size
   refine ⟨fun k => k = b \/ RowOf (.slice A x.ms.length c) k \/ RowOf (.slice B x.lg.length d) k \/ RowOf (.slice pA s.pins.length pc) k,by rw [hE],?_,?_,(Kept.up hk3).then (h5.mono hbF)⟩
   ·rw [hS]
    exact ⟨A,c,B,d,pA,pc,fun k => Iff.rfl,h2,h3.1,h4.1,own_kept hp ((Kept.up hk3).then h5) (fun g hg e => hpb (by rw [hg,e]))⟩
   ·rintro k (e | e | e | e)
    ·exact .inl (hbF k e)
    ·exact .inr (Nat.le_trans hsz (h3.2 k e))
    ·exact .inr (Nat.le_trans hsz (h4.2 k e))
    ·exact .inl ((hF k).2 (.inr (.inr (.inr e))))
 have hcall := fun W (hW : Kept NoF w W) => (next_any W b s mA mc lA lc pA pc x (hb.kept hW (fun z => z)) (h.kept hW)).mono (fun e w' hp => (show e = .returned (.int .i64 (nextE s x)) /\ NextPost W b s x pA pc (.returned (.int .i64 (nextE s x))) w' by
  rcases hp with ⟨h1,h2,h3⟩ | ⟨h1,h2,h3⟩
  ·exact ⟨h2,.inl ⟨h1,rfl,h3⟩⟩
  ·rw [h1];exact ⟨h2,.inr ⟨h1,rfl,h3⟩⟩))
 obtain ⟨Z,hZ⟩ : ∃ Z,nextE s x = Z := ⟨_,rfl⟩
 rw [hZ] at hfin hcall
 clear hZ
 have HFIN := hZ0 hfin
 clear hfin hE h0 h00 h hm hl hp hF
 obtain ⟨k,n,at2,ep,mA2,mc2,ms,fl,lA2,lc2,lg,oA,oc,⟨bcl,breq,ops⟩,ts,⟨p1,p2,p3⟩,⟨s1,s2,s3,s4⟩⟩ := x
 simp only [ncell] at hn0 hck hcall
 dsimp only at hk
 subst hk
 have HCK := hZ0 hck;have HNO := hZ0 hnone;have HK0 := hZ0 hk0;have HN0 := hZ0 hn0;have HB := hZ0 hb
 have HCALL := hZ0 hcall
 clear hck hnone hk0 hn0 hb hcall
 go_enter Tryz.func87,Tryz.ntmps87
 go_wp2_with fail
 clear hW0
 refine (HNO.out _ HK0.out).mono ?_
 rintro e w2 ⟨rfl,hk⟩
 have HN2 := hZ0 (HN0.out.kept hk (fun z => z))
 have HK := hZ0 (HK0.out.then hk)
 clear hk
 go_wp2_with (refine wpList_load_row rfl 116 (.tmp 3) rfl w.heap.size rfl 116 _ (0,0) _ HN2.out Tryz.underlying116 rfl (by kernel_rfl) ?_)
 refine (HCK.out _ HK.out).mono ?_
 rintro e w3 ⟨rfl,hk⟩
 have hn3 := HN2.out.kept hk (fun z => z)
 have q0 : w3.cell? ⟨w.heap.size,0,none⟩ = some (.int .i64 1) := hn3.cell 0
 have HN3 := hZ0 hn3
 have HK3 := hZ0 (HK.out.then hk);clear hk HK hn3
 go_wp2_with (refine wpList_load_row rfl 116 (.tmp 3) rfl w.heap.size rfl 116 _ (0,0) _ HN3.out Tryz.underlying116 rfl (by kernel_rfl) ?_)
 refine (HCALL.out _ HK3.out).mono ?_
 rintro e w4 ⟨rfl,hpost⟩
 have HPO := hZ0 hpost;clear hpost
 go_wp2
 go_ret
 exact HFIN.out _ _ HK3.out HPO.out
theorem apply5_any (w : World) (b : Nat) (F : Nat -> Prop) (s : StR) (x : NoteR) (hs : StAt w b F s) (hok : SOk s) (h : NOk w x) (h0 : noteE x = 0) (hk : x.k = 5) :
  Calls Tryz.prog 87 #[.pointer (some ⟨b,0,none⟩),nagg x] w (ApplyPost w b F s x) := by
 have h00 : noteE x = 0 := h0
 obtain ⟨mA,mc,lA,lc,pA,pc,hF,hb,hm,hl,hp⟩ := hs
 have hck := fun W (hW : Kept NoF w W) => ncheck_any W x (h.kept hW)
 have hnone := fun W (hW : Kept NoF w W) => none_any W b s mA mc lA lc pA pc true (hb.kept hW (fun z => z))
 rw [h00] at hck
 obtain ⟨W0,hW0⟩ : ∃ W0,w.alloc (.cells (ncell x).toArray 116) = W0 := ⟨_,rfl⟩
 have hk0 : Kept NoF w W0 := by rw [<- hW0];(repeat' (first | (with_reducible first | exact kR0 | apply kP0 | apply kN0 | apply kD0 | apply kA0) | (right;simp;done)))
 have hn0 : Has W0 w.heap.size 116 (ncell x).toArray := by rw [<- hW0];exact Has.new _ _ _
 have hE : applyE s x = if anyId s.ms x.n = true then 0 else 7 := by unfold applyE;rw [if_neg (by simpa using h00),if_neg (by omega),if_pos hk]
 have hfin : ∀ w3 w',Kept NoF w w3 -> TrustPost w3 b s mA mc lA lc pA pc x.n (.returned (.int .i64 (if anyId s.ms x.n = true then 0 else 7))) w' -> ApplyPost w b F s x (.returned (.int .i64 (if anyId s.ms x.n = true then 0 else 7))) w' := by
  intro w3 w' hk3 hpost
  have hst := (show StAt w b F s from ⟨mA,mc,lA,lc,pA,pc,hF,hb,hm,hl,hp⟩)
  rcases hpost with ⟨h1,_,h2⟩ | ⟨h1,_,B,d,h2,h3,h4,h5⟩
  ·rw [<- hE]
   exact ApplyPost.bad hst (by rw [hE,h1];simp) (hk3.then h2)
  ·have hS : applyS s x = { s with lg := trustL s.lg x.n } := by unfold applyS;rw [if_neg (by rw [hE,h1];simp),if_neg (by omega),if_pos hk]
   have hmb := own_ne hm hb (by decide)
   have hpb := own_ne hp hb (by decide)
   have hsz := hk3.size
   have hF2 : ∀ k,(k = b \/ RowOf (.slice lA s.lg.length lc) k) -> F k := fun k e => (hF k).2 (by rcases e with e | e;exact .inl e;exact .inr (.inr (.inl e)))
   have hml : ∀ k,RowOf (.slice mA s.ms.length mc) k -> ¬ RowOf (.slice lA s.lg.length lc) k := fun k h1 h2 => by
    obtain ⟨cs,h3⟩ := own_has hm h1
    exact own_ne hl h3 (by decide) h2
   have hpl : ∀ k,RowOf (.slice pA s.pins.length pc) k -> ¬ RowOf (.slice lA s.lg.length lc) k := fun k h1 h2 => by
    obtain ⟨cs,h3⟩ := own_has hp h1
    exact own_ne hl h3 (by decide) h2
   have hkf := (Kept.up (F := fun k => k = b \/ RowOf (.slice lA s.lg.length lc) k) hk3).then h5
   refine ⟨fun k => k = b \/ RowOf (.slice mA s.ms.length mc) k \/ RowOf (.slice B (trustL s.lg x.n).length d) k \/ RowOf (.slice pA s.pins.length pc) k,by rw [hE],?_,?_,hkf.mono hF2⟩
   ·rw [hS]
    exact ⟨mA,mc,B,d,pA,pc,fun k => Iff.rfl,h2,own_kept hm hkf (fun g hg e => by rcases e with e | e;exact hmb (by rw [hg,e]);exact hml g hg e),h3,own_kept hp hkf (fun g hg e => by rcases e with e | e;exact hpb (by rw [hg,e]);exact hpl g hg e)⟩
   ·rintro k (e | e | e | e)
    ·exact .inl ((hF k).2 (.inl e))
    ·exact .inl ((hF k).2 (.inr (.inl e)))
    ·rcases h4 k e with h | h
     ·exact .inl ((hF k).2 (.inr (.inr (.inl h))))
     ·exact .inr (Nat.le_trans hsz h)
    ·exact .inl ((hF k).2 (.inr (.inr (.inr e))))
 have hcall := fun W (hW : Kept NoF w W) => (trust_any W b s mA mc lA lc pA pc x.n (hb.kept hW (fun z => z)) (Src.of_own (own_kept hm hW (fun _ _ z => z))) hok.m (own_kept hl hW (fun _ _ z => z)) hok.l).mono (fun e w' hp => (show e = .returned (.int .i64 (if anyId s.ms x.n = true then 0 else 7)) /\ TrustPost W b s mA mc lA lc pA pc x.n (.returned (.int .i64 (if anyId s.ms x.n = true then 0 else 7))) w' by
  rcases hp with ⟨h1,h2,h3⟩ | ⟨h1,h2,h3⟩
  ·rw [h1,if_neg (by simp)];exact ⟨h2,.inl ⟨h1,rfl,h3⟩⟩
  ·rw [h1,if_pos rfl];exact ⟨h2,.inr ⟨h1,rfl,h3⟩⟩))
 obtain ⟨Z,hZ⟩ : ∃ Z : Int,(if anyId s.ms x.n = true then 0 else 7) = Z := ⟨_,rfl⟩
 rw [hZ] at hfin hcall
 clear hZ
 have HFIN := hZ0 hfin
 clear hfin hE h0 h00 h hm hl hp hF
 obtain ⟨k,n,at2,ep,mA2,mc2,ms,fl,lA2,lc2,lg,oA,oc,⟨bcl,breq,ops⟩,ts,⟨p1,p2,p3⟩,⟨s1,s2,s3,s4⟩⟩ := x
 simp only [ncell] at hn0 hck hcall
 dsimp only at hk
 subst hk
 have HCK := hZ0 hck;have HNO := hZ0 hnone;have HK0 := hZ0 hk0;have HN0 := hZ0 hn0;have HB := hZ0 hb
 have HCALL := hZ0 hcall
 clear hck hnone hk0 hn0 hb hcall
 go_enter Tryz.func87,Tryz.ntmps87
 go_wp2_with fail
 clear hW0
 refine (HNO.out _ HK0.out).mono ?_
 rintro e w2 ⟨rfl,hk⟩
 have HN2 := hZ0 (HN0.out.kept hk (fun z => z))
 have HK := hZ0 (HK0.out.then hk)
 clear hk
 go_wp2_with (refine wpList_load_row rfl 116 (.tmp 3) rfl w.heap.size rfl 116 _ (0,0) _ HN2.out Tryz.underlying116 rfl (by kernel_rfl) ?_)
 refine (HCK.out _ HK.out).mono ?_
 rintro e w3 ⟨rfl,hk⟩
 have hn3 := HN2.out.kept hk (fun z => z)
 have q0 : w3.cell? ⟨w.heap.size,0,none⟩ = some (.int .i64 5) := hn3.cell 0
 have q1 : w3.cell? ⟨w.heap.size,1,none⟩ = some (.int .i64 n) := hn3.cell 1
 have HN3 := hZ0 hn3
 have HK3 := hZ0 (HK.out.then hk);clear hk HK hn3
 go_wp2_with fail
 refine (HCALL.out _ HK3.out).mono ?_
 rintro e w4 ⟨rfl,hpost⟩
 have HPO := hZ0 hpost;clear hpost
 go_wp2
 go_ret
 exact HFIN.out _ _ HK3.out HPO.out
theorem apply6_any (w : World) (b : Nat) (F : Nat -> Prop) (s : StR) (x : NoteR) (hs : StAt w b F s) (hok : SOk s) (h : NOk w x) (h0 : noteE x = 0) (hk : x.k = 6) :
  Calls Tryz.prog 87 #[.pointer (some ⟨b,0,none⟩),nagg x] w (ApplyPost w b F s x) := by
 have h00 : noteE x = 0 := h0
 obtain ⟨mA,mc,lA,lc,pA,pc,hF,hb,hm,hl,hp⟩ := hs
 have hck := fun W (hW : Kept NoF w W) => ncheck_any W x (h.kept hW)
 have hnone := fun W (hW : Kept NoF w W) => none_any W b s mA mc lA lc pA pc true (hb.kept hW (fun z => z))
 rw [h00] at hck
 obtain ⟨W0,hW0⟩ : ∃ W0,w.alloc (.cells (ncell x).toArray 116) = W0 := ⟨_,rfl⟩
 have hk0 : Kept NoF w W0 := by rw [<- hW0];(repeat' (first | (with_reducible first | exact kR0 | apply kP0 | apply kN0 | apply kD0 | apply kA0) | (right;simp;done)))
 have hn0 : Has W0 w.heap.size 116 (ncell x).toArray := by rw [<- hW0];exact Has.new _ _ _
 have hE : applyE s x = pinE s x.pin := by unfold applyE;rw [if_neg (by simpa using h00),if_neg (by omega),if_neg (by omega),if_neg (by omega),if_pos hk]
 have hfin : ∀ w3 w',Kept NoF w w3 -> PinPost w3 b s mA mc lA lc pA pc x.pin (.returned (.int .i64 (pinE s x.pin))) w' -> ApplyPost w b F s x (.returned (.int .i64 (pinE s x.pin))) w' := by
  intro w3 w' hk3 hpost
  have hst := (show StAt w b F s from ⟨mA,mc,lA,lc,pA,pc,hF,hb,hm,hl,hp⟩)
  rcases hpost with ⟨h1,_,h2⟩ | ⟨h1,_,B,d,h2,h3,h4,h5⟩
  ·rw [<- hE]
   exact ApplyPost.bad hst (by rw [hE];exact h1) (hk3.then h2)
  ·have hS : applyS s x = pinS s x.pin := by unfold applyS;rw [if_neg (by rw [hE,h1];simp),if_neg (by omega),if_neg (by omega),if_neg (by omega),if_pos hk]
   have hS1 : (pinS s x.pin).ms = s.ms := by unfold pinS;split <;> rfl
   have hS2 : (pinS s x.pin).lg = s.lg := by unfold pinS;split <;> rfl
   have hmb := own_ne hm hb (by decide)
   have hlb := own_ne hl hb (by decide)
   have hsz := hk3.size
   have hF2 : ∀ k,(k = b \/ RowOf (.slice pA s.pins.length pc) k) -> F k := fun k e => (hF k).2 (by rcases e with e | e;exact .inl e;exact .inr (.inr (.inr e)))
   have hmp : ∀ k,RowOf (.slice mA s.ms.length mc) k -> ¬ RowOf (.slice pA s.pins.length pc) k := fun k h1 h2 => by
    obtain ⟨cs,h3⟩ := own_has hm h1
    exact own_ne hp h3 (by decide) h2
   have hlp : ∀ k,RowOf (.slice lA s.lg.length lc) k -> ¬ RowOf (.slice pA s.pins.length pc) k := fun k h1 h2 => by
    obtain ⟨cs,h3⟩ := own_has hl h1
    exact own_ne hp h3 (by decide) h2
   have hkf := (Kept.up (F := fun k => k = b \/ RowOf (.slice pA s.pins.length pc) k) hk3).then h5
   refine ⟨fun k => k = b \/ RowOf (.slice mA s.ms.length mc) k \/ RowOf (.slice lA s.lg.length lc) k \/ RowOf (.slice B (pinS s x.pin).pins.length d) k,by rw [hE],?_,?_,hkf.mono hF2⟩
   ·rw [hS]
    refine ⟨mA,mc,lA,lc,B,d,fun k => by rw [hS1,hS2],h2,?_,?_,h3⟩
    ·rw [hS1]
     exact own_kept hm hkf (fun g hg e => by rcases e with e | e;exact hmb (by rw [hg,e]);exact hmp g hg e)
    ·rw [hS2]
     exact own_kept hl hkf (fun g hg e => by rcases e with e | e;exact hlb (by rw [hg,e]);exact hlp g hg e)
   ·rintro k (e | e | e | e)
    ·exact .inl ((hF k).2 (.inl e))
    ·exact .inl ((hF k).2 (.inr (.inl e)))
    ·exact .inl ((hF k).2 (.inr (.inr (.inl e))))
    ·rcases h4 k e with h | h
     ·exact .inl ((hF k).2 (.inr (.inr (.inr h))))
     ·exact .inr (Nat.le_trans hsz h)
 have hcall := fun W (hW : Kept NoF w W) => (pin_any W b s mA mc lA lc pA pc x.pin (hb.kept hW (fun z => z)) (own_kept hp hW (fun _ _ z => z)) hok.p).mono (fun e w' hp => (show e = .returned (.int .i64 (pinE s x.pin)) /\ PinPost W b s mA mc lA lc pA pc x.pin (.returned (.int .i64 (pinE s x.pin))) w' by
  rcases hp with ⟨h1,h2,h3⟩ | ⟨h1,h2,h3⟩
  ·exact ⟨h2,.inl ⟨h1,rfl,h3⟩⟩
  ·rw [h1];exact ⟨h2,.inr ⟨h1,rfl,h3⟩⟩))
 obtain ⟨Z,hZ⟩ : ∃ Z,pinE s x.pin = Z := ⟨_,rfl⟩
 rw [hZ] at hfin hcall
 clear hZ
 have HFIN := hZ0 hfin
 clear hfin hE h0 h00 h hm hl hp hF
 obtain ⟨k,n,at2,ep,mA2,mc2,ms,fl,lA2,lc2,lg,oA,oc,⟨bcl,breq,ops⟩,ts,⟨p1,p2,p3⟩,⟨s1,s2,s3,s4⟩⟩ := x
 simp only [ncell] at hn0 hck hcall
 dsimp only at hk
 subst hk
 have HCK := hZ0 hck;have HNO := hZ0 hnone;have HK0 := hZ0 hk0;have HN0 := hZ0 hn0;have HB := hZ0 hb
 have HCALL := hZ0 hcall
 clear hck hnone hk0 hn0 hb hcall
 go_enter Tryz.func87,Tryz.ntmps87
 go_wp2_with fail
 clear hW0
 refine (HNO.out _ HK0.out).mono ?_
 rintro e w2 ⟨rfl,hk⟩
 have HN2 := hZ0 (HN0.out.kept hk (fun z => z))
 have HK := hZ0 (HK0.out.then hk)
 clear hk
 go_wp2_with (refine wpList_load_row rfl 116 (.tmp 3) rfl w.heap.size rfl 116 _ (0,0) _ HN2.out Tryz.underlying116 rfl (by kernel_rfl) ?_)
 refine (HCK.out _ HK.out).mono ?_
 rintro e w3 ⟨rfl,hk⟩
 have hn3 := HN2.out.kept hk (fun z => z)
 have q0 : w3.cell? ⟨w.heap.size,0,none⟩ = some (.int .i64 6) := hn3.cell 0
 have q11 : w3.cell? ⟨w.heap.size,11,none⟩ = some (.int .i64 p1) := hn3.cell 11
 have q12 : w3.cell? ⟨w.heap.size,12,none⟩ = some (.int .u64 p2) := hn3.cell 12
 have q13 : w3.cell? ⟨w.heap.size,13,none⟩ = some (.int .i64 p3) := hn3.cell 13
 have HN3 := hZ0 hn3
 have HK3 := hZ0 (HK.out.then hk);clear hk HK hn3
 go_wp2_with fail
 refine (HCALL.out _ HK3.out).mono ?_
 rintro e w4 ⟨rfl,hpost⟩
 have HPO := hZ0 hpost;clear hpost
 go_wp2
 go_ret
 exact HFIN.out _ _ HK3.out HPO.out
end Mst
end Go.Proofs.YtgffjliedjhbaaaGreat
