/- Part 8 of what the proof needs. -/
import Derived.Test.YtolkgbafebehfaaGreatHP02
import Derived.Test.YtolkgbafebehfaaGreatHP04
import Derived.Test.YtolkgbafebehfaaGreatHP06
set_option linter.unusedSimpArgs false
set_option linter.unusedVariables false
set_option maxHeartbeats 32000000
set_option maxRecDepth 100000
namespace Go.Proofs.YtolkgbafebehfaaGreat
open Go.RowKit
set_option maxRecDepth 100000
namespace Mst
open Plan
structure NoteR where
 k : Int
 n : Int
 at' : Int
 ep : Int
 mA : Option Addr
 mc : Nat
 ms : List Mem
 fl : Int
 lA : Option Addr
 lc : Nat
 lg : List Int
 oA : Option Addr
 oc : Nat
 b : Ops.Batch
 ts : Int
 pin : PinR
 said : AnsR
def ncell (x : NoteR) : List Value := [.int .i64 x.k,.int .i64 x.n,.int .u64 x.at',.int .i64 x.ep,.slice x.mA x.ms.length x.mc,.int .u64 x.fl,.slice x.lA x.lg.length x.lc,.int .i64 x.b.cl,.int .i64 x.b.req,.slice x.oA x.b.ops.length x.oc,.int .u64 x.ts,.int .i64 x.pin.id,.int .u64 x.pin.at',.int .i64 x.pin.left,.int .i64 x.said.cl,.int .i64 x.said.req,.int .i64 x.said.e,.int .i64 x.said.pin]
abbrev nagg (x : NoteR) : Value := .agg (ncell x).toArray
structure NOk (w : World) (x : NoteR) : Prop where
 m : Src w 2 x.mA x.ms.length (mcells x.ms)
 mc : x.ms.length <= x.mc
 ml : x.ms.length <= 1000
 l : Src w 1 x.lA x.lg.length (ints x.lg)
 lc : x.lg.length <= x.lc
 ll : x.lg.length <= 1000
 o : Src w 3 x.oA x.b.ops.length (Ops.cells x.b.ops)
theorem NOk.kept {w w' : World} {x : NoteR} (h : NOk w x) (hk : Kept NoF w w') : NOk w' x := ⟨h.m.kept hk (fun _ _ z => z),h.mc,h.ml,h.l.kept hk (fun _ _ z => z),h.lc,h.ll,h.o.kept hk (fun _ _ z => z)⟩
def noteE (x : NoteR) : Int :=
 if x.k = 1 then (if chk x.ep x.ms = 0 then legE x.lg else chk x.ep x.ms)
 else if x.k = 2 then (if rngL [x.n] = 0 then Ops.chk x.b else rngL [x.n])
 else if x.k = 3 \/ x.k = 4 \/ x.k = 5 \/ x.k = 7 then rngL [x.n]
 else if x.k = 6 then rngL [x.pin.id,x.pin.left]
 else if x.k = 8 then saidE x.said
 else 11
theorem ncheck1_any (w : World) (x : NoteR) (h : NOk w x) (hk : x.k = 1) : Calls Tryz.prog 132 #[nagg x] w fun e w' => e = .returned (.int .i64 (noteE x)) /\ Kept NoF w w' := by
 obtain ⟨k,n,at2,ep,mA,mc,ms,fl,lA,lc,lg,oA,oc,⟨bcl,breq,ops⟩,ts,⟨p1,p2,p3⟩,⟨s1,s2,s3,s4⟩⟩ := x
 obtain ⟨h1,h2,h3,h4,h5,h6,h7⟩ := h
 unfold noteE nagg ncell
 dsimp only at *
 subst hk
 rw [if_pos rfl]
 have hc := fun W (hW : Kept NoF w W) => ccheck_any W ep fl mA mc ms (h1.kept hW (fun _ _ z => z)) h2 (by omega)
 have hg := fun W (hW : Kept NoF w W) => legit_any W lA lc lg (h4.kept hW (fun _ _ z => z)) (by omega)
 obtain ⟨t,ht⟩ : ∃ t,chk ep ms = t := ⟨_,rfl⟩
 obtain ⟨g,hg2⟩ : ∃ g,legE lg = g := ⟨_,rfl⟩
 simp only [ht] at hc
 simp only [hg2] at hg
 rw [ht,hg2]
 have HC := hZ0 hc;have HG := hZ0 hg
 clear hc hg ht hg2 h1 h2 h3 h4 h5 h6 h7
 by_cases ht0 : t = 0
 ·have ht1 : (t != 0) = false := by simp [ht0]
  rw [if_pos ht0]
  clear ht0
  go_enter Tryz.func132,Tryz.ntmps132
  go_wp2_with fail
  refine (HC.out _ (by (repeat' (first | (with_reducible first | exact kR0 | apply kP0 | apply kN0 | apply kD0 | apply kA0) | (right;simp;done))))).mono ?_
  rintro e w2 ⟨rfl,hk0⟩
  have hx := ((Has.new w 100 #[.int .i64 1,.int .i64 n,.int .u64 at2,.int .i64 ep,.slice mA ms.length mc,.int .u64 fl,.slice lA lg.length lc,.int .i64 bcl,.int .i64 breq,.slice oA ops.length oc,.int .u64 ts,.int .i64 p1,.int .u64 p2,.int .i64 p3,.int .i64 s1,.int .i64 s2,.int .i64 s3,.int .i64 s4]).kept hk0 (fun z => z)).cell 6
  simp only [List.getElem?_toArray,List.getElem?_cons_zero,List.getElem?_cons_succ] at hx
  have hk2 := Kept.then (F := NoF) (a := w) (by (repeat' (first | (with_reducible first | exact kR0 | apply kP0 | apply kN0 | apply kD0 | apply kA0) | (right;simp;done)))) hk0
  have HK := hZ0 hk2;clear hk0 hk2
  go_wp2_with fail
  refine (HG.out _ HK.out).mono ?_
  rintro e w3 ⟨rfl,hk0⟩
  have HK3 := hZ0 (HK.out.then hk0);clear hk0
  go_wp2
  go_ret
  exact ⟨rfl,HK3.out⟩
 ·have ht1 : (t != 0) = true := by simpa using ht0
  rw [if_neg ht0]
  clear ht0
  go_enter Tryz.func132,Tryz.ntmps132
  go_wp2_with fail
  refine (HC.out _ (by (repeat' (first | (with_reducible first | exact kR0 | apply kP0 | apply kN0 | apply kD0 | apply kA0) | (right;simp;done))))).mono ?_
  rintro e w2 ⟨rfl,hk0⟩
  have hk2 := Kept.then (F := NoF) (a := w) (by (repeat' (first | (with_reducible first | exact kR0 | apply kP0 | apply kN0 | apply kD0 | apply kA0) | (right;simp;done)))) hk0
  have HK := hZ0 hk2;clear hk0 hk2
  go_wp2
  go_ret
  exact ⟨rfl,HK.out⟩
theorem ncheck2_any (w : World) (x : NoteR) (h : NOk w x) (hk : x.k = 2) : Calls Tryz.prog 132 #[nagg x] w fun e w' => e = .returned (.int .i64 (noteE x)) /\ Kept NoF w w' := by
 obtain ⟨k,n,at2,ep,mA,mc,ms,fl,lA,lc,lg,oA,oc,⟨bcl,breq,ops⟩,ts,⟨p1,p2,p3⟩,⟨s1,s2,s3,s4⟩⟩ := x
 obtain ⟨h1,h2,h3,h4,h5,h6,h7⟩ := h
 unfold noteE nagg ncell
 dsimp only at *
 subst hk
 rw [if_neg (by decide),if_pos rfl]
 have hc := fun W (hW : Kept NoF w W) => icheck_any W ⟨bcl,breq,ops⟩ oA oc ts (h7.kept hW (fun _ _ z => z))
 have hr := range0_any (World.alloc (w.alloc (.cells #[.int .i64 2,.int .i64 n,.int .u64 at2,.int .i64 ep,.slice mA ms.length mc,.int .u64 fl,.slice lA lg.length lc,.int .i64 bcl,.int .i64 breq,.slice oA ops.length oc,.int .u64 ts,.int .i64 p1,.int .u64 p2,.int .i64 p3,.int .i64 s1,.int .i64 s2,.int .i64 s3,.int .i64 s4] 100)) (.cells #[.int .i64 n] 3)) (some ⟨w.heap.size + 1,0,none⟩) 1 [n] (by have h := one_int (w := w.alloc (.cells #[.int .i64 2,.int .i64 n,.int .u64 at2,.int .i64 ep,.slice mA ms.length mc,.int .u64 fl,.slice lA lg.length lc,.int .i64 bcl,.int .i64 breq,.slice oA ops.length oc,.int .u64 ts,.int .i64 p1,.int .u64 p2,.int .i64 p3,.int .i64 s1,.int .i64 s2,.int .i64 s3,.int .i64 s4] 100)) n;rwa [size_alloc] at h) (by simp)
 simp only [List.length_cons,List.length_nil] at hr
 obtain ⟨t,ht⟩ : ∃ t,rngL [n] = t := ⟨_,rfl⟩
 rw [ht] at hr
 obtain ⟨g,hg2⟩ : ∃ g,Ops.chk ⟨bcl,breq,ops⟩ = g := ⟨_,rfl⟩
 rw [hg2,ht]
 simp only [hg2] at hc
 have HR := hZ0 hr;have HC := hZ0 hc
 clear hr hc ht hg2 h1 h2 h3 h4 h5 h6 h7
 by_cases ht0 : t = 0
 ·have ht1 : (t != 0) = false := by simp [ht0]
  rw [if_pos ht0]
  clear ht0
  go_enter Tryz.func132,Tryz.ntmps132
  go_wp2_with fail
  refine HR.out.mono ?_
  rintro e w2 ⟨rfl,hk0⟩
  have hx7 := (((Has.new w 100 #[.int .i64 2,.int .i64 n,.int .u64 at2,.int .i64 ep,.slice mA ms.length mc,.int .u64 fl,.slice lA lg.length lc,.int .i64 bcl,.int .i64 breq,.slice oA ops.length oc,.int .u64 ts,.int .i64 p1,.int .u64 p2,.int .i64 p3,.int .i64 s1,.int .i64 s2,.int .i64 s3,.int .i64 s4]).alloc (.cells #[.int .i64 n] 3)).kept hk0 (fun z => z)).cell 7
  simp only [List.getElem?_toArray,List.getElem?_cons_zero,List.getElem?_cons_succ] at hx7
  have hx8 := (((Has.new w 100 #[.int .i64 2,.int .i64 n,.int .u64 at2,.int .i64 ep,.slice mA ms.length mc,.int .u64 fl,.slice lA lg.length lc,.int .i64 bcl,.int .i64 breq,.slice oA ops.length oc,.int .u64 ts,.int .i64 p1,.int .u64 p2,.int .i64 p3,.int .i64 s1,.int .i64 s2,.int .i64 s3,.int .i64 s4]).alloc (.cells #[.int .i64 n] 3)).kept hk0 (fun z => z)).cell 8
  simp only [List.getElem?_toArray,List.getElem?_cons_zero,List.getElem?_cons_succ] at hx8
  have hx9 := (((Has.new w 100 #[.int .i64 2,.int .i64 n,.int .u64 at2,.int .i64 ep,.slice mA ms.length mc,.int .u64 fl,.slice lA lg.length lc,.int .i64 bcl,.int .i64 breq,.slice oA ops.length oc,.int .u64 ts,.int .i64 p1,.int .u64 p2,.int .i64 p3,.int .i64 s1,.int .i64 s2,.int .i64 s3,.int .i64 s4]).alloc (.cells #[.int .i64 n] 3)).kept hk0 (fun z => z)).cell 9
  simp only [List.getElem?_toArray,List.getElem?_cons_zero,List.getElem?_cons_succ] at hx9
  have hx10 := (((Has.new w 100 #[.int .i64 2,.int .i64 n,.int .u64 at2,.int .i64 ep,.slice mA ms.length mc,.int .u64 fl,.slice lA lg.length lc,.int .i64 bcl,.int .i64 breq,.slice oA ops.length oc,.int .u64 ts,.int .i64 p1,.int .u64 p2,.int .i64 p3,.int .i64 s1,.int .i64 s2,.int .i64 s3,.int .i64 s4]).alloc (.cells #[.int .i64 n] 3)).kept hk0 (fun z => z)).cell 10
  simp only [List.getElem?_toArray,List.getElem?_cons_zero,List.getElem?_cons_succ] at hx10
  have hk2 := Kept.then (F := NoF) (a := w) (by (repeat' (first | (with_reducible first | exact kR0 | apply kP0 | apply kN0 | apply kD0 | apply kA0) | (right;simp;done)))) hk0
  have HK := hZ0 hk2;clear hk0 hk2
  go_wp2_with fail
  refine (HC.out _ HK.out).mono ?_
  rintro e w3 ⟨rfl,hk0⟩
  have HK3 := hZ0 (HK.out.then hk0);clear hk0
  go_wp2
  go_ret
  exact ⟨rfl,HK3.out⟩
 ·have ht1 : (t != 0) = true := by simpa using ht0
  rw [if_neg ht0]
  clear ht0
  go_enter Tryz.func132,Tryz.ntmps132
  go_wp2_with fail
  refine HR.out.mono ?_
  rintro e w2 ⟨rfl,hk0⟩
  have hk2 := Kept.then (F := NoF) (a := w) (by (repeat' (first | (with_reducible first | exact kR0 | apply kP0 | apply kN0 | apply kD0 | apply kA0) | (right;simp;done)))) hk0
  have HK := hZ0 hk2;clear hk0 hk2
  go_wp2
  go_ret
  exact ⟨rfl,HK.out⟩
theorem ncheck3_any (w : World) (x : NoteR) (h : NOk w x) (hk : x.k = 3) : Calls Tryz.prog 132 #[nagg x] w fun e w' => e = .returned (.int .i64 (noteE x)) /\ Kept NoF w w' := by
 obtain ⟨k,n,at2,ep,mA,mc,ms,fl,lA,lc,lg,oA,oc,⟨bcl,breq,ops⟩,ts,⟨p1,p2,p3⟩,⟨s1,s2,s3,s4⟩⟩ := x
 obtain ⟨h1,h2,h3,h4,h5,h6,h7⟩ := h
 unfold noteE nagg ncell
 dsimp only at *
 subst hk
 rw [if_neg (by decide),if_neg (by decide),if_pos (by decide)]
 have hr := range0_any (World.alloc (w.alloc (.cells #[.int .i64 3,.int .i64 n,.int .u64 at2,.int .i64 ep,.slice mA ms.length mc,.int .u64 fl,.slice lA lg.length lc,.int .i64 bcl,.int .i64 breq,.slice oA ops.length oc,.int .u64 ts,.int .i64 p1,.int .u64 p2,.int .i64 p3,.int .i64 s1,.int .i64 s2,.int .i64 s3,.int .i64 s4] 100)) (.cells #[.int .i64 n] 3)) (some ⟨w.heap.size + 1,0,none⟩) 1 [n] (by have h := one_int (w := w.alloc (.cells #[.int .i64 3,.int .i64 n,.int .u64 at2,.int .i64 ep,.slice mA ms.length mc,.int .u64 fl,.slice lA lg.length lc,.int .i64 bcl,.int .i64 breq,.slice oA ops.length oc,.int .u64 ts,.int .i64 p1,.int .u64 p2,.int .i64 p3,.int .i64 s1,.int .i64 s2,.int .i64 s3,.int .i64 s4] 100)) n;rwa [size_alloc] at h) (by simp)
 simp only [List.length_cons,List.length_nil] at hr
 obtain ⟨t,ht⟩ : ∃ t,rngL [n] = t := ⟨_,rfl⟩
 rw [ht] at hr
 rw [ht]
 have HR := hZ0 hr
 clear hr ht h1 h2 h3 h4 h5 h6 h7
 go_enter Tryz.func132,Tryz.ntmps132
 go_wp2_with fail
 refine HR.out.mono ?_
 rintro e w2 ⟨rfl,hk0⟩
 have hk2 := Kept.then (F := NoF) (a := w) (by (repeat' (first | (with_reducible first | exact kR0 | apply kP0 | apply kN0 | apply kD0 | apply kA0) | (right;simp;done)))) hk0
 have HK := hZ0 hk2;clear hk0 hk2
 go_wp2
 go_ret
 exact ⟨rfl,HK.out⟩
theorem ncheck4_any (w : World) (x : NoteR) (h : NOk w x) (hk : x.k = 4) : Calls Tryz.prog 132 #[nagg x] w fun e w' => e = .returned (.int .i64 (noteE x)) /\ Kept NoF w w' := by
 obtain ⟨k,n,at2,ep,mA,mc,ms,fl,lA,lc,lg,oA,oc,⟨bcl,breq,ops⟩,ts,⟨p1,p2,p3⟩,⟨s1,s2,s3,s4⟩⟩ := x
 obtain ⟨h1,h2,h3,h4,h5,h6,h7⟩ := h
 unfold noteE nagg ncell
 dsimp only at *
 subst hk
 rw [if_neg (by decide),if_neg (by decide),if_pos (by decide)]
 have hr := range0_any (World.alloc (w.alloc (.cells #[.int .i64 4,.int .i64 n,.int .u64 at2,.int .i64 ep,.slice mA ms.length mc,.int .u64 fl,.slice lA lg.length lc,.int .i64 bcl,.int .i64 breq,.slice oA ops.length oc,.int .u64 ts,.int .i64 p1,.int .u64 p2,.int .i64 p3,.int .i64 s1,.int .i64 s2,.int .i64 s3,.int .i64 s4] 100)) (.cells #[.int .i64 n] 3)) (some ⟨w.heap.size + 1,0,none⟩) 1 [n] (by have h := one_int (w := w.alloc (.cells #[.int .i64 4,.int .i64 n,.int .u64 at2,.int .i64 ep,.slice mA ms.length mc,.int .u64 fl,.slice lA lg.length lc,.int .i64 bcl,.int .i64 breq,.slice oA ops.length oc,.int .u64 ts,.int .i64 p1,.int .u64 p2,.int .i64 p3,.int .i64 s1,.int .i64 s2,.int .i64 s3,.int .i64 s4] 100)) n;rwa [size_alloc] at h) (by simp)
 simp only [List.length_cons,List.length_nil] at hr
 obtain ⟨t,ht⟩ : ∃ t,rngL [n] = t := ⟨_,rfl⟩
 rw [ht] at hr
 rw [ht]
 have HR := hZ0 hr
 clear hr ht h1 h2 h3 h4 h5 h6 h7
 go_enter Tryz.func132,Tryz.ntmps132
 go_wp2_with fail
 refine HR.out.mono ?_
 rintro e w2 ⟨rfl,hk0⟩
 have hk2 := Kept.then (F := NoF) (a := w) (by (repeat' (first | (with_reducible first | exact kR0 | apply kP0 | apply kN0 | apply kD0 | apply kA0) | (right;simp;done)))) hk0
 have HK := hZ0 hk2;clear hk0 hk2
 go_wp2
 go_ret
 exact ⟨rfl,HK.out⟩
theorem ncheck5_any (w : World) (x : NoteR) (h : NOk w x) (hk : x.k = 5) : Calls Tryz.prog 132 #[nagg x] w fun e w' => e = .returned (.int .i64 (noteE x)) /\ Kept NoF w w' := by
 obtain ⟨k,n,at2,ep,mA,mc,ms,fl,lA,lc,lg,oA,oc,⟨bcl,breq,ops⟩,ts,⟨p1,p2,p3⟩,⟨s1,s2,s3,s4⟩⟩ := x
 obtain ⟨h1,h2,h3,h4,h5,h6,h7⟩ := h
 unfold noteE nagg ncell
 dsimp only at *
 subst hk
 rw [if_neg (by decide),if_neg (by decide),if_pos (by decide)]
 have hr := range0_any (World.alloc (w.alloc (.cells #[.int .i64 5,.int .i64 n,.int .u64 at2,.int .i64 ep,.slice mA ms.length mc,.int .u64 fl,.slice lA lg.length lc,.int .i64 bcl,.int .i64 breq,.slice oA ops.length oc,.int .u64 ts,.int .i64 p1,.int .u64 p2,.int .i64 p3,.int .i64 s1,.int .i64 s2,.int .i64 s3,.int .i64 s4] 100)) (.cells #[.int .i64 n] 3)) (some ⟨w.heap.size + 1,0,none⟩) 1 [n] (by have h := one_int (w := w.alloc (.cells #[.int .i64 5,.int .i64 n,.int .u64 at2,.int .i64 ep,.slice mA ms.length mc,.int .u64 fl,.slice lA lg.length lc,.int .i64 bcl,.int .i64 breq,.slice oA ops.length oc,.int .u64 ts,.int .i64 p1,.int .u64 p2,.int .i64 p3,.int .i64 s1,.int .i64 s2,.int .i64 s3,.int .i64 s4] 100)) n;rwa [size_alloc] at h) (by simp)
 simp only [List.length_cons,List.length_nil] at hr
 obtain ⟨t,ht⟩ : ∃ t,rngL [n] = t := ⟨_,rfl⟩
 rw [ht] at hr
 rw [ht]
 have HR := hZ0 hr
 clear hr ht h1 h2 h3 h4 h5 h6 h7
 go_enter Tryz.func132,Tryz.ntmps132
 go_wp2_with fail
 refine HR.out.mono ?_
 rintro e w2 ⟨rfl,hk0⟩
 have hk2 := Kept.then (F := NoF) (a := w) (by (repeat' (first | (with_reducible first | exact kR0 | apply kP0 | apply kN0 | apply kD0 | apply kA0) | (right;simp;done)))) hk0
 have HK := hZ0 hk2;clear hk0 hk2
 go_wp2
 go_ret
 exact ⟨rfl,HK.out⟩
theorem ncheck7_any (w : World) (x : NoteR) (h : NOk w x) (hk : x.k = 7) : Calls Tryz.prog 132 #[nagg x] w fun e w' => e = .returned (.int .i64 (noteE x)) /\ Kept NoF w w' := by
 obtain ⟨k,n,at2,ep,mA,mc,ms,fl,lA,lc,lg,oA,oc,⟨bcl,breq,ops⟩,ts,⟨p1,p2,p3⟩,⟨s1,s2,s3,s4⟩⟩ := x
 obtain ⟨h1,h2,h3,h4,h5,h6,h7⟩ := h
 unfold noteE nagg ncell
 dsimp only at *
 subst hk
 rw [if_neg (by decide),if_neg (by decide),if_pos (by decide)]
 have hr := range0_any (World.alloc (w.alloc (.cells #[.int .i64 7,.int .i64 n,.int .u64 at2,.int .i64 ep,.slice mA ms.length mc,.int .u64 fl,.slice lA lg.length lc,.int .i64 bcl,.int .i64 breq,.slice oA ops.length oc,.int .u64 ts,.int .i64 p1,.int .u64 p2,.int .i64 p3,.int .i64 s1,.int .i64 s2,.int .i64 s3,.int .i64 s4] 100)) (.cells #[.int .i64 n] 3)) (some ⟨w.heap.size + 1,0,none⟩) 1 [n] (by have h := one_int (w := w.alloc (.cells #[.int .i64 7,.int .i64 n,.int .u64 at2,.int .i64 ep,.slice mA ms.length mc,.int .u64 fl,.slice lA lg.length lc,.int .i64 bcl,.int .i64 breq,.slice oA ops.length oc,.int .u64 ts,.int .i64 p1,.int .u64 p2,.int .i64 p3,.int .i64 s1,.int .i64 s2,.int .i64 s3,.int .i64 s4] 100)) n;rwa [size_alloc] at h) (by simp)
 simp only [List.length_cons,List.length_nil] at hr
 obtain ⟨t,ht⟩ : ∃ t,rngL [n] = t := ⟨_,rfl⟩
 rw [ht] at hr
 rw [ht]
 have HR := hZ0 hr
 clear hr ht h1 h2 h3 h4 h5 h6 h7
 go_enter Tryz.func132,Tryz.ntmps132
 go_wp2_with fail
 refine HR.out.mono ?_
 rintro e w2 ⟨rfl,hk0⟩
 have hk2 := Kept.then (F := NoF) (a := w) (by (repeat' (first | (with_reducible first | exact kR0 | apply kP0 | apply kN0 | apply kD0 | apply kA0) | (right;simp;done)))) hk0
 have HK := hZ0 hk2;clear hk0 hk2
 go_wp2
 go_ret
 exact ⟨rfl,HK.out⟩
theorem ncheck6_any (w : World) (x : NoteR) (h : NOk w x) (hk : x.k = 6) : Calls Tryz.prog 132 #[nagg x] w fun e w' => e = .returned (.int .i64 (noteE x)) /\ Kept NoF w w' := by
 obtain ⟨k,n,at2,ep,mA,mc,ms,fl,lA,lc,lg,oA,oc,⟨bcl,breq,ops⟩,ts,⟨p1,p2,p3⟩,⟨s1,s2,s3,s4⟩⟩ := x
 obtain ⟨h1,h2,h3,h4,h5,h6,h7⟩ := h
 unfold noteE nagg ncell
 dsimp only at *
 subst hk
 rw [if_neg (by decide),if_neg (by decide),if_neg (by decide),if_pos rfl]
 have hr := range0_any (World.alloc (w.alloc (.cells #[.int .i64 6,.int .i64 n,.int .u64 at2,.int .i64 ep,.slice mA ms.length mc,.int .u64 fl,.slice lA lg.length lc,.int .i64 bcl,.int .i64 breq,.slice oA ops.length oc,.int .u64 ts,.int .i64 p1,.int .u64 p2,.int .i64 p3,.int .i64 s1,.int .i64 s2,.int .i64 s3,.int .i64 s4] 100)) (.cells #[.int .i64 p1,.int .i64 p3] 3)) (some ⟨w.heap.size + 1,0,none⟩) 2 [p1,p3] (by have h := two_ints (w := w.alloc (.cells #[.int .i64 6,.int .i64 n,.int .u64 at2,.int .i64 ep,.slice mA ms.length mc,.int .u64 fl,.slice lA lg.length lc,.int .i64 bcl,.int .i64 breq,.slice oA ops.length oc,.int .u64 ts,.int .i64 p1,.int .u64 p2,.int .i64 p3,.int .i64 s1,.int .i64 s2,.int .i64 s3,.int .i64 s4] 100)) p1 p3;rwa [size_alloc] at h) (by simp)
 simp only [List.length_cons,List.length_nil] at hr
 obtain ⟨t,ht⟩ : ∃ t,rngL [p1,p3] = t := ⟨_,rfl⟩
 rw [ht] at hr
 rw [ht]
 have HR := hZ0 hr
 clear hr ht h1 h2 h3 h4 h5 h6 h7
 go_enter Tryz.func132,Tryz.ntmps132
 go_wp2_with fail
 refine HR.out.mono ?_
 rintro e w2 ⟨rfl,hk0⟩
 have hk2 := Kept.then (F := NoF) (a := w) (by (repeat' (first | (with_reducible first | exact kR0 | apply kP0 | apply kN0 | apply kD0 | apply kA0) | (right;simp;done)))) hk0
 have HK := hZ0 hk2;clear hk0 hk2
 go_wp2
 go_ret
 exact ⟨rfl,HK.out⟩
theorem ncheck8_any (w : World) (x : NoteR) (h : NOk w x) (hk : x.k = 8) : Calls Tryz.prog 132 #[nagg x] w fun e w' => e = .returned (.int .i64 (noteE x)) /\ Kept NoF w w' := by
 obtain ⟨k,n,at2,ep,mA,mc,ms,fl,lA,lc,lg,oA,oc,⟨bcl,breq,ops⟩,ts,⟨p1,p2,p3⟩,⟨s1,s2,s3,s4⟩⟩ := x
 obtain ⟨h1,h2,h3,h4,h5,h6,h7⟩ := h
 unfold noteE nagg ncell
 dsimp only at *
 subst hk
 rw [if_neg (by decide),if_neg (by decide),if_neg (by decide),if_neg (by decide),if_pos rfl]
 have hr := said_any (w.alloc (.cells #[.int .i64 8,.int .i64 n,.int .u64 at2,.int .i64 ep,.slice mA ms.length mc,.int .u64 fl,.slice lA lg.length lc,.int .i64 bcl,.int .i64 breq,.slice oA ops.length oc,.int .u64 ts,.int .i64 p1,.int .u64 p2,.int .i64 p3,.int .i64 s1,.int .i64 s2,.int .i64 s3,.int .i64 s4] 100)) ⟨s1,s2,s3,s4⟩
 obtain ⟨t,ht⟩ : ∃ t,saidE ⟨s1,s2,s3,s4⟩ = t := ⟨_,rfl⟩
 rw [ht] at hr ⊢
 dsimp only [ansagg] at hr
 have HR := hZ0 hr
 clear hr ht h1 h2 h3 h4 h5 h6 h7
 go_enter Tryz.func132,Tryz.ntmps132
 go_wp2_with fail
 refine HR.out.mono ?_
 rintro e w2 ⟨rfl,hk0⟩
 have hk2 := Kept.then (F := NoF) (a := w) (by (repeat' (first | (with_reducible first | exact kR0 | apply kP0 | apply kN0 | apply kD0 | apply kA0) | (right;simp;done)))) hk0
 have HK := hZ0 hk2;clear hk0 hk2
 go_wp2
 go_ret
 exact ⟨rfl,HK.out⟩
theorem ncheck0_any (w : World) (x : NoteR) (h : NOk w x) (hk : x.k < 1 \/ 8 < x.k) : Calls Tryz.prog 132 #[nagg x] w fun e w' => e = .returned (.int .i64 (noteE x)) /\ Kept NoF w w' := by
 obtain ⟨k,n,at2,ep,mA,mc,ms,fl,lA,lc,lg,oA,oc,⟨bcl,breq,ops⟩,ts,⟨p1,p2,p3⟩,⟨s1,s2,s3,s4⟩⟩ := x
 obtain ⟨h1,h2,h3,h4,h5,h6,h7⟩ := h
 unfold noteE nagg ncell
 dsimp only at *
 have e1 : (k == 1) = false := by simp;omega
 have e2 : (k == 2) = false := by simp;omega
 have e3 : (k == 3) = false := by simp;omega
 have e4 : (k == 4) = false := by simp;omega
 have e5 : (k == 5) = false := by simp;omega
 have e6 : (k == 6) = false := by simp;omega
 have e7 : (k == 7) = false := by simp;omega
 have e8 : (k == 8) = false := by simp;omega
 rw [if_neg (by omega),if_neg (by omega),if_neg (by omega),if_neg (by omega),if_neg (by omega)]
 clear h1 h2 h3 h4 h5 h6 h7 hk
 go_enter Tryz.func132,Tryz.ntmps132
 go_wp2
 go_ret
 exact ⟨rfl,by (repeat' (first | (with_reducible first | exact kR0 | apply kP0 | apply kN0 | apply kD0 | apply kA0) | (right;simp;done)))⟩
theorem ncheck_any (w : World) (x : NoteR) (h : NOk w x) : Calls Tryz.prog 132 #[nagg x] w fun e w' => e = .returned (.int .i64 (noteE x)) /\ Kept NoF w w' := by
 by_cases h0 : x.k < 1 \/ 8 < x.k
 ·exact ncheck0_any w x h h0
 by_cases h1 : x.k = 1
 ·exact ncheck1_any w x h h1
 by_cases h2 : x.k = 2
 ·exact ncheck2_any w x h h2
 by_cases h3 : x.k = 3
 ·exact ncheck3_any w x h h3
 by_cases h4 : x.k = 4
 ·exact ncheck4_any w x h h4
 by_cases h5 : x.k = 5
 ·exact ncheck5_any w x h h5
 by_cases h6 : x.k = 6
 ·exact ncheck6_any w x h h6
 by_cases h7 : x.k = 7
 ·exact ncheck7_any w x h h7
 exact ncheck8_any w x h (by omega)
end Mst
namespace Msg
open Plan Ops Ent Vn
theorem num_some (w : World) (b c : Nat) (hc : isNum c = true) :
  Calls Tryz.prog 235 #[.pointer (some ⟨b,0,none⟩),.int .i32 c] w fun e w' => e = .returned (.pointer (some ⟨b,numAt c,none⟩)) /\ w = w' := by
 have h : c = 101 \/ c = 115 \/ c = 114 \/ c = 110 \/ c = 109 \/ c = 112 := of_decide_eq_true hc
 clear hc
 rcases h with rfl | rfl | rfl | rfl | rfl | rfl
 all_goals
  go_enter Tryz.func235,Tryz.ntmps235
  go_wp2
  go_ret
  exact ⟨rfl,rfl⟩
theorem num_none (w : World) (b c : Nat) (hl : c ∈ letters) (hc : isNum c = false) :
  Calls Tryz.prog 235 #[.pointer (some ⟨b,0,none⟩),.int .i32 c] w fun e w' => e = .returned (.pointer none) /\ w = w' := by
 have h : c = 67 \/ c = 97 \/ c = 102 \/ c = 108 \/ c = 69 \/ c = 83 \/ c = 66 \/ c = 120 \/ c = 107 \/ c = 116 \/ c = 82 := by
  unfold letters at hl
  simp only [List.mem_cons,List.not_mem_nil,or_false] at hl
  have h2 : ¬ (c = 101 \/ c = 115 \/ c = 114 \/ c = 110 \/ c = 109 \/ c = 112) := of_decide_eq_false hc
  omega
 clear hc hl
 rcases h with rfl | rfl | rfl | rfl | rfl | rfl | rfl | rfl | rfl | rfl | rfl
 all_goals
  go_enter Tryz.func235,Tryz.ntmps235
  go_wp2
  go_ret
  exact ⟨rfl,rfl⟩
theorem parts_yes (w : World) (k : Int) (h : isKind k = true) :
  Calls Tryz.prog 138 #[.int .i64 k] w fun e w' => e = .returned (.tuple #[.string (lets (partsOf k)),.bool true]) /\ Kept NoF w w' := by
 have h0 : 1 <= k /\ k <= 15 := of_decide_eq_true h
 clear h
 have h1 : k = 1 \/ k = 2 \/ k = 3 \/ k = 4 \/ k = 5 \/ k = 6 \/ k = 7 \/ k = 8 \/ k = 9 \/ k = 10 \/ k = 11 \/ k = 12 \/ k = 13 \/ k = 14 \/ k = 15 := by omega
 clear h0
 rcases h1 with rfl | rfl | rfl | rfl | rfl | rfl | rfl | rfl | rfl | rfl | rfl | rfl | rfl | rfl | rfl
 all_goals
  go_enter Tryz.func138,Tryz.ntmps138
  go_wp2
  go_ret2
  exact ⟨rfl,by (repeat' (first | (with_reducible first | exact kR0 | apply kP0 | apply kN0 | apply kD0 | apply kA0) | (right;simp;done)))⟩
theorem parts_no (w : World) (k : Int) (h : isKind k = false) :
  Calls Tryz.prog 138 #[.int .i64 k] w fun e w' => e = .returned (.tuple #[.string emp,.bool false]) /\ Kept NoF w w' := by
 have h0 : ¬ (1 <= k /\ k <= 15) := of_decide_eq_false h
 clear h
 by_cases h1 : k < 1
 ·go_enter Tryz.func138,Tryz.ntmps138
  go_wp2
  go_ret2
  exact ⟨rfl,by (repeat' (first | (with_reducible first | exact kR0 | apply kP0 | apply kN0 | apply kD0 | apply kA0) | (right;simp;done)))⟩
 ·have h2 : 16 <= k := by omega
  clear h0
  go_enter Tryz.func138,Tryz.ntmps138
  go_wp2
  go_ret2
  exact ⟨rfl,by (repeat' (first | (with_reducible first | exact kR0 | apply kP0 | apply kN0 | apply kD0 | apply kA0) | (right;simp;done)))⟩
theorem long_any (w : World) (s : ByteArray) (n : Int) : Calls Tryz.prog 236 #[.string s,.int .i64 n] w fun e w' => e = .returned (.int .i64 (if n < s.size then 3 else 0)) /\ w = w' := by
 by_cases h : n < s.size
 ·rw [if_pos h]
  go_enter Tryz.func236,Tryz.ntmps236
  go_wp2
  go_ret
  exact ⟨rfl,rfl⟩
 ·rw [if_neg h]
  go_enter Tryz.func236,Tryz.ntmps236
  go_wp2
  go_ret
  exact ⟨rfl,rfl⟩
theorem full_any (w : World) (n m : Int) : Calls Tryz.prog 239 #[.int .i64 n,.int .i64 m] w fun e w' => e = .returned (.int .i64 (if m < n then 6 else 0)) /\ w = w' := by
 by_cases h : m < n
 ·rw [if_pos h]
  go_enter Tryz.func239,Tryz.ntmps239
  go_wp2
  go_ret
  exact ⟨rfl,rfl⟩
 ·rw [if_neg h]
  go_enter Tryz.func239,Tryz.ntmps239
  go_wp2
  go_ret
  exact ⟨rfl,rfl⟩
theorem or_bad (w : World) (n : Int) (v : Value) (h : n ≠ 0) : Calls Tryz.prog 238 #[.int .i64 n,v] w fun e w' => e = .returned (.int .i64 n) /\ w = w' := by
 have h2 : (n != 0) = true := by simpa using h
 clear h
 go_enter Tryz.func238,Tryz.ntmps238
 go_wp2
 go_ret
 exact ⟨rfl,rfl⟩
theorem or_ok (w : World) (g : Nat) (cap : Value) (r : Int) (eg : ∀ args w,(callFunc g args).run Tryz.prog w = .ok (.enter g args) w)
  (hf : Calls Tryz.prog g #[cap] w fun e w' => e = .returned (.int .i64 r) /\ Kept NoF w w') :
  Calls Tryz.prog 238 #[.int .i64 0,.func (.func g) #[] #[cap]] w fun e w' => e = .returned (.int .i64 r) /\ Kept NoF w w' := by
 have HF := hZ0 hf;clear hf
 go_enter Tryz.func238,Tryz.ntmps238
 go_wp2_with fail
 refine HF.out.mono ?_
 rintro e w2 ⟨rfl,hk⟩
 have HK := hZ0 hk;clear hk
 go_wp2
 go_ret
 exact ⟨rfl,HK.out⟩
theorem entries_any (w : World) (A : Option Addr) (c : Nat) (l : List EntR) (hl : Src w 4 A l.length (ecells l)) (hlen : l.length <= 1000000) (ho : ∀ y ∈ l,Src w 3 y.A y.ops.length (cells y.ops)) :
  Calls Tryz.prog 241 #[.slice A l.length c] w fun e w' => e = .returned (.int .i64 (firstOf (fun y => Ops.chk (bat y)) l)) /\ Kept NoF w w' := by
 have HL := hZ0 hl;clear hl
 have hcall := fun W (hW : Kept NoF w W) y (hy : y ∈ l) => Mst.icheck_any W (bat y) y.A y.c y.ts ((ho y hy).kept hW (fun _ _ z => z))
 have HCALL := hZ0 hcall;clear hcall ho
 obtain ⟨r,hr⟩ : ∃ r,firstOf (fun y => Ops.chk (bat y)) l = r := ⟨_,rfl⟩
 rw [hr]
 have HR := hZ0 hr;clear hr
 go_enter Tryz.func241,Tryz.ntmps241
 go_wp2_with fail
 go_loopw [8] (fun v8 wr => ∃ i : Nat,i <= l.length /\ v8 = .int .i64 i /\ r = firstOf (fun y => Ops.chk (bat y)) (l.drop i) /\ Kept NoF w wr) (fun v8 _ => l.length - (intOf v8).toNat)
 case atStart => exact ⟨0,Nat.zero_le _,rfl,HR.out.symm,Kept.refl _ _⟩
 case round =>
  obtain ⟨i,hi,rfl,hrr,hk⟩ := hrel
  have HK := hZ0 hk;clear hk
  by_cases hil : i < l.length
  ·obtain ⟨y,hy⟩ : ∃ y,l[i]? = some y := ⟨_,List.getElem?_eq_getElem hil⟩
   obtain ⟨ad,rfl,hl1,e0,e1,e2,e3⟩ := ent_cells (HL.out.kept HK.out (fun _ _ z => z)) (by omega) i y hy
   have hsa := firstOf_at (fun y => Ops.chk (bat y)) hy
   have hcall := HCALL.out (wr.alloc (.cells #[.int .i64 y.cl,.int .i64 y.req,.slice y.A y.ops.length y.c,.int .u64 y.ts] 98)) (HK.out.alloc _) y (List.mem_of_getElem? hy)
   rw [hsa] at hrr
   obtain ⟨t,ht⟩ : ∃ t,Ops.chk (bat y) = t := ⟨_,rfl⟩
   rw [ht] at hcall hrr
   dsimp only [bat] at hcall
   have HC := hZ0 hcall
   have HRR := hZ0 hrr
   clear hsa ht hy hcall hrr
   go_wp2_with fail
   refine HC.out.mono ?_
   rintro e w5 ⟨rfl,hk0⟩
   have HK5 := hZ0 ((HK.out.alloc _).then hk0);clear hk0
   by_cases h0 : t = 0
   ·subst h0
    have hrf := HRR.out
    rw [if_pos rfl] at hrf
    have HRF := hZ0 hrf;clear hrf HRR
    go_wp2
    go_roundw
    case rel => exact ⟨i + 1,by omega,by go_num,HRF.out,HK5.out⟩
    case measure => simp [intOf];omega
   ·have hrf := HRR.out
    rw [if_neg h0] at hrf
    have HRF := hZ0 hrf;clear hrf HRR
    have h2 : (t != 0) = true := by simpa using h0
    clear h0
    go_wp2
    go_ret
    exact ⟨by rw [HRF.out];rfl,HK5.out⟩
  ·obtain rfl : i = l.length := by omega
   rw [List.drop_length,firstOf] at hrr
   have HRR := hZ0 hrr;clear hrr
   go_wp2
   go_ret
   exact ⟨by rw [HRR.out];rfl,HK.out⟩
theorem pairs_any (w : World) (A : Option Addr) (c : Nat) (l : List PairR) (hl : Src w 2 A l.length (pcells l)) (hlen : l.length <= 1000000) :
  Calls Tryz.prog 243 #[.slice A l.length c] w fun e w' => e = .returned (.int .i64 (firstOf pairE l)) /\ Kept NoF w w' := by
 have HL := hZ0 hl;clear hl
 obtain ⟨r,hr⟩ : ∃ r,firstOf pairE l = r := ⟨_,rfl⟩
 rw [hr]
 have HR := hZ0 hr;clear hr
 go_enter Tryz.func243,Tryz.ntmps243
 go_wp2_with fail
 go_loopw [9] (fun v9 wr => ∃ i : Nat,i <= l.length /\ v9 = .int .i64 i /\ r = firstOf pairE (l.drop i) /\ Kept NoF w wr) (fun v9 _ => l.length - (intOf v9).toNat)
 case atStart => exact ⟨0,Nat.zero_le _,rfl,HR.out.symm,Kept.refl _ _⟩
 case round =>
  obtain ⟨i,hi,rfl,hrr,hk⟩ := hrel
  have HK := hZ0 hk;clear hk
  by_cases hil : i < l.length
  ·obtain ⟨y,hy⟩ : ∃ y,l[i]? = some y := ⟨_,List.getElem?_eq_getElem hil⟩
   obtain ⟨ad,rfl,hl1,e0,e1⟩ := pair_cells (HL.out.kept HK.out (fun _ _ z => z)) (by omega) i y hy
   have hsa := firstOf_at pairE hy
   rw [hsa] at hrr
   have hkc := kcheck_any y.key
   have hlo := fun W => long_any W y.val 8
   unfold pairE at hrr
   change ∀ w : World,Calls Tryz.prog 338 #[.string y.key] w fun e w' => e = .returned (.int .i64 (keyE y.key)) /\ w = w' at hkc
   obtain ⟨t,ht⟩ : ∃ t,keyE y.key = t := ⟨_,rfl⟩
   rw [ht] at hkc hrr
   obtain ⟨u,hu⟩ : ∃ u : Int,(if (8 : Int) < (y.val.size : Int) then (3 : Int) else 0) = u := ⟨_,rfl⟩
   rw [hu] at hlo
   have hu2 : (if 8 < y.val.size then (3 : Int) else 0) = u := by rw [<- hu];by_cases h8 : 8 < y.val.size;rw [if_pos h8,if_pos (by omega)];rw [if_neg h8,if_neg (by omega)]
   rw [hu2] at hrr
   have HC := hZ0 hkc
   have HLO := hZ0 hlo
   have HRR := hZ0 hrr
   clear hsa ht hu hu2 hy hkc hlo hrr
   go_wp2_with fail
   refine (HC.out _).mono ?_
   rintro e w5 ⟨rfl,rfl⟩
   by_cases h0 : t = 0
   ·subst h0
    have hrf := HRR.out
    rw [if_neg (show ¬((0 : Int) ≠ 0) from fun h => h rfl)] at hrf
    have HRF := hZ0 hrf;clear hrf HRR
    go_wp2_with fail
    refine (HLO.out _).mono ?_
    rintro e w5 ⟨rfl,rfl⟩
    by_cases h1 : u = 0
    ·subst h1
     have hrf := HRF.out
     rw [if_pos rfl] at hrf
     have HRF := hZ0 hrf;clear hrf
     go_wp2
     go_roundw
     case rel => exact ⟨i + 1,by omega,by go_num,HRF.out,by (repeat' (first | (with_reducible first | exact kR0 | apply kP0 | apply kN0 | apply kD0 | apply kA0) | (exact HK.out) | (right;simp;done)))⟩
     case measure => simp [intOf];omega
    ·have hrf := HRF.out
     rw [if_neg h1] at hrf
     have HRF := hZ0 hrf;clear hrf
     have h2 : (u != 0) = true := by simpa using h1
     clear h1
     go_wp2
     go_ret
     exact ⟨by rw [HRF.out];rfl,by (repeat' (first | (with_reducible first | exact kR0 | apply kP0 | apply kN0 | apply kD0 | apply kA0) | (exact HK.out) | (right;simp;done)))⟩
   ·have hrf := HRR.out
    rw [if_pos h0,if_neg h0] at hrf
    have HRF := hZ0 hrf;clear hrf HRR
    have h2 : (t != 0) = true := by simpa using h0
    clear h0
    go_wp2
    go_ret
    exact ⟨by rw [HRF.out];rfl,by (repeat' (first | (with_reducible first | exact kR0 | apply kP0 | apply kN0 | apply kD0 | apply kA0) | (exact HK.out) | (right;simp;done)))⟩
  ·obtain rfl : i = l.length := by omega
   rw [List.drop_length,firstOf] at hrr
   have HRR := hZ0 hrr;clear hrr
   go_wp2
   go_ret
   exact ⟨by rw [HRR.out];rfl,HK.out⟩
end Msg
end Go.Proofs.YtolkgbafebehfaaGreat
