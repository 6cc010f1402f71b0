/- Part 12 of what the proof needs. -/
import Derived.Test.YtgffjliedjhbaaaGreatZS10
set_option linter.unusedSimpArgs false
set_option linter.unusedVariables false
set_option maxHeartbeats 32000000
set_option maxRecDepth 100000
namespace Go.Proofs.YtgffjliedjhbaaaGreat
open Go.RowKit
set_option maxRecDepth 100000
namespace Mst
open Plan
structure NoteR where
 k : Int
 n : Int
 at' : Int
 ep : Int
 mA : Option Addr
 mc : Nat
 ms : List Mem
 fl : Int
 lA : Option Addr
 lc : Nat
 lg : List Int
 oA : Option Addr
 oc : Nat
 b : Ops.Batch
 ts : Int
 pin : PinR
 said : AnsR
def ncell (x : NoteR) : List Value := [.int .i64 x.k,.int .i64 x.n,.int .u64 x.at',.int .i64 x.ep,.slice x.mA x.ms.length x.mc,.int .u64 x.fl,.slice x.lA x.lg.length x.lc,.int .i64 x.b.cl,.int .i64 x.b.req,.slice x.oA x.b.ops.length x.oc,.int .u64 x.ts,.int .i64 x.pin.id,.int .u64 x.pin.at',.int .i64 x.pin.left,.int .i64 x.said.cl,.int .i64 x.said.req,.int .i64 x.said.e,.int .i64 x.said.pin]
abbrev nagg (x : NoteR) : Value := .agg (ncell x).toArray
structure NOk (w : World) (x : NoteR) : Prop where
 m : Src w 2 x.mA x.ms.length (mcells x.ms)
 mc : x.ms.length <= x.mc
 ml : x.ms.length <= 1000
 l : Src w 1 x.lA x.lg.length (ints x.lg)
 lc : x.lg.length <= x.lc
 ll : x.lg.length <= 1000
 o : Src w 3 x.oA x.b.ops.length (Ops.cells x.b.ops)
theorem NOk.kept {w w' : World} {x : NoteR} (h : NOk w x) (hk : Kept NoF w w') : NOk w' x := ⟨h.m.kept hk (fun _ _ z => z),h.mc,h.ml,h.l.kept hk (fun _ _ z => z),h.lc,h.ll,h.o.kept hk (fun _ _ z => z)⟩
def noteE (x : NoteR) : Int :=
 if x.k = 1 then (if chk x.ep x.ms = 0 then legE x.lg else chk x.ep x.ms)
 else if x.k = 2 then (if rngL [x.n] = 0 then Ops.chk x.b else rngL [x.n])
 else if x.k = 3 \/ x.k = 4 \/ x.k = 5 \/ x.k = 7 then rngL [x.n]
 else if x.k = 6 then rngL [x.pin.id,x.pin.left]
 else if x.k = 8 then saidE x.said
 else 11
theorem ncheck1_any (w : World) (x : NoteR) (h : NOk w x) (hk : x.k = 1) : Calls Tryz.prog 74 #[nagg x] w fun e w' => e = .returned (.int .i64 (noteE x)) /\ Kept NoF w w' := by
 obtain ⟨k,n,at2,ep,mA,mc,ms,fl,lA,lc,lg,oA,oc,⟨bcl,breq,ops⟩,ts,⟨p1,p2,p3⟩,⟨s1,s2,s3,s4⟩⟩ := x
 obtain ⟨h1,h2,h3,h4,h5,h6,h7⟩ := h
 unfold noteE nagg ncell
 dsimp only at *
 subst hk
 rw [if_pos rfl]
 have hc := fun W (hW : Kept NoF w W) => ccheck_any W ep fl mA mc ms (h1.kept hW (fun _ _ z => z)) h2 (by omega)
 have hg := fun W (hW : Kept NoF w W) => legit_any W lA lc lg (h4.kept hW (fun _ _ z => z)) (by omega)
 obtain ⟨t,ht⟩ : ∃ t,chk ep ms = t := ⟨_,rfl⟩
 obtain ⟨g,hg2⟩ : ∃ g,legE lg = g := ⟨_,rfl⟩
 simp only [ht] at hc
 simp only [hg2] at hg
 rw [ht,hg2]
 have HC := hZ0 hc;have HG := hZ0 hg
 clear hc hg ht hg2 h1 h2 h3 h4 h5 h6 h7
 by_cases ht0 : t = 0
 ·have ht1 : (t != 0) = false := by simp [ht0]
  rw [if_pos ht0]
  clear ht0
  go_enter Tryz.func74,Tryz.ntmps74
  go_wp2_with fail
  refine (HC.out _ (by (repeat' (first | (with_reducible first | exact kR0 | apply kP0 | apply kN0 | apply kD0 | apply kA0) | (right;simp;done))))).mono ?_
  rintro e w2 ⟨rfl,hk0⟩
  have hx := ((Has.new w 116 #[.int .i64 1,.int .i64 n,.int .u64 at2,.int .i64 ep,.slice mA ms.length mc,.int .u64 fl,.slice lA lg.length lc,.int .i64 bcl,.int .i64 breq,.slice oA ops.length oc,.int .u64 ts,.int .i64 p1,.int .u64 p2,.int .i64 p3,.int .i64 s1,.int .i64 s2,.int .i64 s3,.int .i64 s4]).kept hk0 (fun z => z)).cell 6
  simp only [List.getElem?_toArray,List.getElem?_cons_zero,List.getElem?_cons_succ] at hx
  have hk2 := Kept.then (F := NoF) (a := w) (by (repeat' (first | (with_reducible first | exact kR0 | apply kP0 | apply kN0 | apply kD0 | apply kA0) | (right;simp;done)))) hk0
  have HK := hZ0 hk2;clear hk0 hk2
  go_wp2_with fail
  refine (HG.out _ HK.out).mono ?_
  rintro e w3 ⟨rfl,hk0⟩
  have HK3 := hZ0 (HK.out.then hk0);clear hk0
  go_wp2
  go_ret
  exact ⟨rfl,HK3.out⟩
 ·have ht1 : (t != 0) = true := by simpa using ht0
  rw [if_neg ht0]
  clear ht0
  go_enter Tryz.func74,Tryz.ntmps74
  go_wp2_with fail
  refine (HC.out _ (by (repeat' (first | (with_reducible first | exact kR0 | apply kP0 | apply kN0 | apply kD0 | apply kA0) | (right;simp;done))))).mono ?_
  rintro e w2 ⟨rfl,hk0⟩
  have hk2 := Kept.then (F := NoF) (a := w) (by (repeat' (first | (with_reducible first | exact kR0 | apply kP0 | apply kN0 | apply kD0 | apply kA0) | (right;simp;done)))) hk0
  have HK := hZ0 hk2;clear hk0 hk2
  go_wp2
  go_ret
  exact ⟨rfl,HK.out⟩
theorem ncheck2_any (w : World) (x : NoteR) (h : NOk w x) (hk : x.k = 2) : Calls Tryz.prog 74 #[nagg x] w fun e w' => e = .returned (.int .i64 (noteE x)) /\ Kept NoF w w' := by
 obtain ⟨k,n,at2,ep,mA,mc,ms,fl,lA,lc,lg,oA,oc,⟨bcl,breq,ops⟩,ts,⟨p1,p2,p3⟩,⟨s1,s2,s3,s4⟩⟩ := x
 obtain ⟨h1,h2,h3,h4,h5,h6,h7⟩ := h
 unfold noteE nagg ncell
 dsimp only at *
 subst hk
 rw [if_neg (by decide),if_pos rfl]
 have hc := fun W (hW : Kept NoF w W) => icheck_any W ⟨bcl,breq,ops⟩ oA oc ts (h7.kept hW (fun _ _ z => z))
 have hr := range0_any (World.alloc (w.alloc (.cells #[.int .i64 2,.int .i64 n,.int .u64 at2,.int .i64 ep,.slice mA ms.length mc,.int .u64 fl,.slice lA lg.length lc,.int .i64 bcl,.int .i64 breq,.slice oA ops.length oc,.int .u64 ts,.int .i64 p1,.int .u64 p2,.int .i64 p3,.int .i64 s1,.int .i64 s2,.int .i64 s3,.int .i64 s4] 116)) (.cells #[.int .i64 n] 3)) (some ⟨w.heap.size + 1,0,none⟩) 1 [n] (by have h := one_int (w := w.alloc (.cells #[.int .i64 2,.int .i64 n,.int .u64 at2,.int .i64 ep,.slice mA ms.length mc,.int .u64 fl,.slice lA lg.length lc,.int .i64 bcl,.int .i64 breq,.slice oA ops.length oc,.int .u64 ts,.int .i64 p1,.int .u64 p2,.int .i64 p3,.int .i64 s1,.int .i64 s2,.int .i64 s3,.int .i64 s4] 116)) n;rwa [size_alloc] at h) (by simp)
 simp only [List.length_cons,List.length_nil] at hr
 obtain ⟨t,ht⟩ : ∃ t,rngL [n] = t := ⟨_,rfl⟩
 rw [ht] at hr
 obtain ⟨g,hg2⟩ : ∃ g,Ops.chk ⟨bcl,breq,ops⟩ = g := ⟨_,rfl⟩
 rw [hg2,ht]
 simp only [hg2] at hc
 have HR := hZ0 hr;have HC := hZ0 hc
 clear hr hc ht hg2 h1 h2 h3 h4 h5 h6 h7
 by_cases ht0 : t = 0
 ·have ht1 : (t != 0) = false := by simp [ht0]
  rw [if_pos ht0]
  clear ht0
  go_enter Tryz.func74,Tryz.ntmps74
  go_wp2_with fail
  refine HR.out.mono ?_
  rintro e w2 ⟨rfl,hk0⟩
  have hx7 := (((Has.new w 116 #[.int .i64 2,.int .i64 n,.int .u64 at2,.int .i64 ep,.slice mA ms.length mc,.int .u64 fl,.slice lA lg.length lc,.int .i64 bcl,.int .i64 breq,.slice oA ops.length oc,.int .u64 ts,.int .i64 p1,.int .u64 p2,.int .i64 p3,.int .i64 s1,.int .i64 s2,.int .i64 s3,.int .i64 s4]).alloc (.cells #[.int .i64 n] 3)).kept hk0 (fun z => z)).cell 7
  simp only [List.getElem?_toArray,List.getElem?_cons_zero,List.getElem?_cons_succ] at hx7
  have hx8 := (((Has.new w 116 #[.int .i64 2,.int .i64 n,.int .u64 at2,.int .i64 ep,.slice mA ms.length mc,.int .u64 fl,.slice lA lg.length lc,.int .i64 bcl,.int .i64 breq,.slice oA ops.length oc,.int .u64 ts,.int .i64 p1,.int .u64 p2,.int .i64 p3,.int .i64 s1,.int .i64 s2,.int .i64 s3,.int .i64 s4]).alloc (.cells #[.int .i64 n] 3)).kept hk0 (fun z => z)).cell 8
  simp only [List.getElem?_toArray,List.getElem?_cons_zero,List.getElem?_cons_succ] at hx8
  have hx9 := (((Has.new w 116 #[.int .i64 2,.int .i64 n,.int .u64 at2,.int .i64 ep,.slice mA ms.length mc,.int .u64 fl,.slice lA lg.length lc,.int .i64 bcl,.int .i64 breq,.slice oA ops.length oc,.int .u64 ts,.int .i64 p1,.int .u64 p2,.int .i64 p3,.int .i64 s1,.int .i64 s2,.int .i64 s3,.int .i64 s4]).alloc (.cells #[.int .i64 n] 3)).kept hk0 (fun z => z)).cell 9
  simp only [List.getElem?_toArray,List.getElem?_cons_zero,List.getElem?_cons_succ] at hx9
  have hx10 := (((Has.new w 116 #[.int .i64 2,.int .i64 n,.int .u64 at2,.int .i64 ep,.slice mA ms.length mc,.int .u64 fl,.slice lA lg.length lc,.int .i64 bcl,.int .i64 breq,.slice oA ops.length oc,.int .u64 ts,.int .i64 p1,.int .u64 p2,.int .i64 p3,.int .i64 s1,.int .i64 s2,.int .i64 s3,.int .i64 s4]).alloc (.cells #[.int .i64 n] 3)).kept hk0 (fun z => z)).cell 10
  simp only [List.getElem?_toArray,List.getElem?_cons_zero,List.getElem?_cons_succ] at hx10
  have hk2 := Kept.then (F := NoF) (a := w) (by (repeat' (first | (with_reducible first | exact kR0 | apply kP0 | apply kN0 | apply kD0 | apply kA0) | (right;simp;done)))) hk0
  have HK := hZ0 hk2;clear hk0 hk2
  go_wp2_with fail
  refine (HC.out _ HK.out).mono ?_
  rintro e w3 ⟨rfl,hk0⟩
  have HK3 := hZ0 (HK.out.then hk0);clear hk0
  go_wp2
  go_ret
  exact ⟨rfl,HK3.out⟩
 ·have ht1 : (t != 0) = true := by simpa using ht0
  rw [if_neg ht0]
  clear ht0
  go_enter Tryz.func74,Tryz.ntmps74
  go_wp2_with fail
  refine HR.out.mono ?_
  rintro e w2 ⟨rfl,hk0⟩
  have hk2 := Kept.then (F := NoF) (a := w) (by (repeat' (first | (with_reducible first | exact kR0 | apply kP0 | apply kN0 | apply kD0 | apply kA0) | (right;simp;done)))) hk0
  have HK := hZ0 hk2;clear hk0 hk2
  go_wp2
  go_ret
  exact ⟨rfl,HK.out⟩
theorem ncheck3_any (w : World) (x : NoteR) (h : NOk w x) (hk : x.k = 3) : Calls Tryz.prog 74 #[nagg x] w fun e w' => e = .returned (.int .i64 (noteE x)) /\ Kept NoF w w' := by
 obtain ⟨k,n,at2,ep,mA,mc,ms,fl,lA,lc,lg,oA,oc,⟨bcl,breq,ops⟩,ts,⟨p1,p2,p3⟩,⟨s1,s2,s3,s4⟩⟩ := x
 obtain ⟨h1,h2,h3,h4,h5,h6,h7⟩ := h
 unfold noteE nagg ncell
 dsimp only at *
 subst hk
 rw [if_neg (by decide),if_neg (by decide),if_pos (by decide)]
 have hr := range0_any (World.alloc (w.alloc (.cells #[.int .i64 3,.int .i64 n,.int .u64 at2,.int .i64 ep,.slice mA ms.length mc,.int .u64 fl,.slice lA lg.length lc,.int .i64 bcl,.int .i64 breq,.slice oA ops.length oc,.int .u64 ts,.int .i64 p1,.int .u64 p2,.int .i64 p3,.int .i64 s1,.int .i64 s2,.int .i64 s3,.int .i64 s4] 116)) (.cells #[.int .i64 n] 3)) (some ⟨w.heap.size + 1,0,none⟩) 1 [n] (by have h := one_int (w := w.alloc (.cells #[.int .i64 3,.int .i64 n,.int .u64 at2,.int .i64 ep,.slice mA ms.length mc,.int .u64 fl,.slice lA lg.length lc,.int .i64 bcl,.int .i64 breq,.slice oA ops.length oc,.int .u64 ts,.int .i64 p1,.int .u64 p2,.int .i64 p3,.int .i64 s1,.int .i64 s2,.int .i64 s3,.int .i64 s4] 116)) n;rwa [size_alloc] at h) (by simp)
 simp only [List.length_cons,List.length_nil] at hr
 obtain ⟨t,ht⟩ : ∃ t,rngL [n] = t := ⟨_,rfl⟩
 rw [ht] at hr
 rw [ht]
 have HR := hZ0 hr
 clear hr ht h1 h2 h3 h4 h5 h6 h7
 go_enter Tryz.func74,Tryz.ntmps74
 go_wp2_with fail
 refine HR.out.mono ?_
 rintro e w2 ⟨rfl,hk0⟩
 have hk2 := Kept.then (F := NoF) (a := w) (by (repeat' (first | (with_reducible first | exact kR0 | apply kP0 | apply kN0 | apply kD0 | apply kA0) | (right;simp;done)))) hk0
 have HK := hZ0 hk2;clear hk0 hk2
 go_wp2
 go_ret
 exact ⟨rfl,HK.out⟩
theorem ncheck4_any (w : World) (x : NoteR) (h : NOk w x) (hk : x.k = 4) : Calls Tryz.prog 74 #[nagg x] w fun e w' => e = .returned (.int .i64 (noteE x)) /\ Kept NoF w w' := by
 obtain ⟨k,n,at2,ep,mA,mc,ms,fl,lA,lc,lg,oA,oc,⟨bcl,breq,ops⟩,ts,⟨p1,p2,p3⟩,⟨s1,s2,s3,s4⟩⟩ := x
 obtain ⟨h1,h2,h3,h4,h5,h6,h7⟩ := h
 unfold noteE nagg ncell
 dsimp only at *
 subst hk
 rw [if_neg (by decide),if_neg (by decide),if_pos (by decide)]
 have hr := range0_any (World.alloc (w.alloc (.cells #[.int .i64 4,.int .i64 n,.int .u64 at2,.int .i64 ep,.slice mA ms.length mc,.int .u64 fl,.slice lA lg.length lc,.int .i64 bcl,.int .i64 breq,.slice oA ops.length oc,.int .u64 ts,.int .i64 p1,.int .u64 p2,.int .i64 p3,.int .i64 s1,.int .i64 s2,.int .i64 s3,.int .i64 s4] 116)) (.cells #[.int .i64 n] 3)) (some ⟨w.heap.size + 1,0,none⟩) 1 [n] (by have h := one_int (w := w.alloc (.cells #[.int .i64 4,.int .i64 n,.int .u64 at2,.int .i64 ep,.slice mA ms.length mc,.int .u64 fl,.slice lA lg.length lc,.int .i64 bcl,.int .i64 breq,.slice oA ops.length oc,.int .u64 ts,.int .i64 p1,.int .u64 p2,.int .i64 p3,.int .i64 s1,.int .i64 s2,.int .i64 s3,.int .i64 s4] 116)) n;rwa [size_alloc] at h) (by simp)
 simp only [List.length_cons,List.length_nil] at hr
 obtain ⟨t,ht⟩ : ∃ t,rngL [n] = t := ⟨_,rfl⟩
 rw [ht] at hr
 rw [ht]
 have HR := hZ0 hr
 clear hr ht h1 h2 h3 h4 h5 h6 h7
 go_enter Tryz.func74,Tryz.ntmps74
 go_wp2_with fail
 refine HR.out.mono ?_
 rintro e w2 ⟨rfl,hk0⟩
 have hk2 := Kept.then (F := NoF) (a := w) (by (repeat' (first | (with_reducible first | exact kR0 | apply kP0 | apply kN0 | apply kD0 | apply kA0) | (right;simp;done)))) hk0
 have HK := hZ0 hk2;clear hk0 hk2
 go_wp2
 go_ret
 exact ⟨rfl,HK.out⟩
theorem ncheck5_any (w : World) (x : NoteR) (h : NOk w x) (hk : x.k = 5) : Calls Tryz.prog 74 #[nagg x] w fun e w' => e = .returned (.int .i64 (noteE x)) /\ Kept NoF w w' := by
 obtain ⟨k,n,at2,ep,mA,mc,ms,fl,lA,lc,lg,oA,oc,⟨bcl,breq,ops⟩,ts,⟨p1,p2,p3⟩,⟨s1,s2,s3,s4⟩⟩ := x
 obtain ⟨h1,h2,h3,h4,h5,h6,h7⟩ := h
 unfold noteE nagg ncell
 dsimp only at *
 subst hk
 rw [if_neg (by decide),if_neg (by decide),if_pos (by decide)]
 have hr := range0_any (World.alloc (w.alloc (.cells #[.int .i64 5,.int .i64 n,.int .u64 at2,.int .i64 ep,.slice mA ms.length mc,.int .u64 fl,.slice lA lg.length lc,.int .i64 bcl,.int .i64 breq,.slice oA ops.length oc,.int .u64 ts,.int .i64 p1,.int .u64 p2,.int .i64 p3,.int .i64 s1,.int .i64 s2,.int .i64 s3,.int .i64 s4] 116)) (.cells #[.int .i64 n] 3)) (some ⟨w.heap.size + 1,0,none⟩) 1 [n] (by have h := one_int (w := w.alloc (.cells #[.int .i64 5,.int .i64 n,.int .u64 at2,.int .i64 ep,.slice mA ms.length mc,.int .u64 fl,.slice lA lg.length lc,.int .i64 bcl,.int .i64 breq,.slice oA ops.length oc,.int .u64 ts,.int .i64 p1,.int .u64 p2,.int .i64 p3,.int .i64 s1,.int .i64 s2,.int .i64 s3,.int .i64 s4] 116)) n;rwa [size_alloc] at h) (by simp)
 simp only [List.length_cons,List.length_nil] at hr
 obtain ⟨t,ht⟩ : ∃ t,rngL [n] = t := ⟨_,rfl⟩
 rw [ht] at hr
 rw [ht]
 have HR := hZ0 hr
 clear hr ht h1 h2 h3 h4 h5 h6 h7
 go_enter Tryz.func74,Tryz.ntmps74
 go_wp2_with fail
 refine HR.out.mono ?_
 rintro e w2 ⟨rfl,hk0⟩
 have hk2 := Kept.then (F := NoF) (a := w) (by (repeat' (first | (with_reducible first | exact kR0 | apply kP0 | apply kN0 | apply kD0 | apply kA0) | (right;simp;done)))) hk0
 have HK := hZ0 hk2;clear hk0 hk2
 go_wp2
 go_ret
 exact ⟨rfl,HK.out⟩
theorem ncheck7_any (w : World) (x : NoteR) (h : NOk w x) (hk : x.k = 7) : Calls Tryz.prog 74 #[nagg x] w fun e w' => e = .returned (.int .i64 (noteE x)) /\ Kept NoF w w' := by
 obtain ⟨k,n,at2,ep,mA,mc,ms,fl,lA,lc,lg,oA,oc,⟨bcl,breq,ops⟩,ts,⟨p1,p2,p3⟩,⟨s1,s2,s3,s4⟩⟩ := x
 obtain ⟨h1,h2,h3,h4,h5,h6,h7⟩ := h
 unfold noteE nagg ncell
 dsimp only at *
 subst hk
 rw [if_neg (by decide),if_neg (by decide),if_pos (by decide)]
 have hr := range0_any (World.alloc (w.alloc (.cells #[.int .i64 7,.int .i64 n,.int .u64 at2,.int .i64 ep,.slice mA ms.length mc,.int .u64 fl,.slice lA lg.length lc,.int .i64 bcl,.int .i64 breq,.slice oA ops.length oc,.int .u64 ts,.int .i64 p1,.int .u64 p2,.int .i64 p3,.int .i64 s1,.int .i64 s2,.int .i64 s3,.int .i64 s4] 116)) (.cells #[.int .i64 n] 3)) (some ⟨w.heap.size + 1,0,none⟩) 1 [n] (by have h := one_int (w := w.alloc (.cells #[.int .i64 7,.int .i64 n,.int .u64 at2,.int .i64 ep,.slice mA ms.length mc,.int .u64 fl,.slice lA lg.length lc,.int .i64 bcl,.int .i64 breq,.slice oA ops.length oc,.int .u64 ts,.int .i64 p1,.int .u64 p2,.int .i64 p3,.int .i64 s1,.int .i64 s2,.int .i64 s3,.int .i64 s4] 116)) n;rwa [size_alloc] at h) (by simp)
 simp only [List.length_cons,List.length_nil] at hr
 obtain ⟨t,ht⟩ : ∃ t,rngL [n] = t := ⟨_,rfl⟩
 rw [ht] at hr
 rw [ht]
 have HR := hZ0 hr
 clear hr ht h1 h2 h3 h4 h5 h6 h7
 go_enter Tryz.func74,Tryz.ntmps74
 go_wp2_with fail
 refine HR.out.mono ?_
 rintro e w2 ⟨rfl,hk0⟩
 have hk2 := Kept.then (F := NoF) (a := w) (by (repeat' (first | (with_reducible first | exact kR0 | apply kP0 | apply kN0 | apply kD0 | apply kA0) | (right;simp;done)))) hk0
 have HK := hZ0 hk2;clear hk0 hk2
 go_wp2
 go_ret
 exact ⟨rfl,HK.out⟩
theorem ncheck6_any (w : World) (x : NoteR) (h : NOk w x) (hk : x.k = 6) : Calls Tryz.prog 74 #[nagg x] w fun e w' => e = .returned (.int .i64 (noteE x)) /\ Kept NoF w w' := by
 obtain ⟨k,n,at2,ep,mA,mc,ms,fl,lA,lc,lg,oA,oc,⟨bcl,breq,ops⟩,ts,⟨p1,p2,p3⟩,⟨s1,s2,s3,s4⟩⟩ := x
 obtain ⟨h1,h2,h3,h4,h5,h6,h7⟩ := h
 unfold noteE nagg ncell
 dsimp only at *
 subst hk
 rw [if_neg (by decide),if_neg (by decide),if_neg (by decide),if_pos rfl]
 have hr := range0_any (World.alloc (w.alloc (.cells #[.int .i64 6,.int .i64 n,.int .u64 at2,.int .i64 ep,.slice mA ms.length mc,.int .u64 fl,.slice lA lg.length lc,.int .i64 bcl,.int .i64 breq,.slice oA ops.length oc,.int .u64 ts,.int .i64 p1,.int .u64 p2,.int .i64 p3,.int .i64 s1,.int .i64 s2,.int .i64 s3,.int .i64 s4] 116)) (.cells #[.int .i64 p1,.int .i64 p3] 3)) (some ⟨w.heap.size + 1,0,none⟩) 2 [p1,p3] (by have h := two_ints (w := w.alloc (.cells #[.int .i64 6,.int .i64 n,.int .u64 at2,.int .i64 ep,.slice mA ms.length mc,.int .u64 fl,.slice lA lg.length lc,.int .i64 bcl,.int .i64 breq,.slice oA ops.length oc,.int .u64 ts,.int .i64 p1,.int .u64 p2,.int .i64 p3,.int .i64 s1,.int .i64 s2,.int .i64 s3,.int .i64 s4] 116)) p1 p3;rwa [size_alloc] at h) (by simp)
 simp only [List.length_cons,List.length_nil] at hr
 obtain ⟨t,ht⟩ : ∃ t,rngL [p1,p3] = t := ⟨_,rfl⟩
 rw [ht] at hr
 rw [ht]
 have HR := hZ0 hr
 clear hr ht h1 h2 h3 h4 h5 h6 h7
 go_enter Tryz.func74,Tryz.ntmps74
 go_wp2_with fail
 refine HR.out.mono ?_
 rintro e w2 ⟨rfl,hk0⟩
 have hk2 := Kept.then (F := NoF) (a := w) (by (repeat' (first | (with_reducible first | exact kR0 | apply kP0 | apply kN0 | apply kD0 | apply kA0) | (right;simp;done)))) hk0
 have HK := hZ0 hk2;clear hk0 hk2
 go_wp2
 go_ret
 exact ⟨rfl,HK.out⟩
theorem ncheck8_any (w : World) (x : NoteR) (h : NOk w x) (hk : x.k = 8) : Calls Tryz.prog 74 #[nagg x] w fun e w' => e = .returned (.int .i64 (noteE x)) /\ Kept NoF w w' := by
 obtain ⟨k,n,at2,ep,mA,mc,ms,fl,lA,lc,lg,oA,oc,⟨bcl,breq,ops⟩,ts,⟨p1,p2,p3⟩,⟨s1,s2,s3,s4⟩⟩ := x
 obtain ⟨h1,h2,h3,h4,h5,h6,h7⟩ := h
 unfold noteE nagg ncell
 dsimp only at *
 subst hk
 rw [if_neg (by decide),if_neg (by decide),if_neg (by decide),if_neg (by decide),if_pos rfl]
 have hr := said_any (w.alloc (.cells #[.int .i64 8,.int .i64 n,.int .u64 at2,.int .i64 ep,.slice mA ms.length mc,.int .u64 fl,.slice lA lg.length lc,.int .i64 bcl,.int .i64 breq,.slice oA ops.length oc,.int .u64 ts,.int .i64 p1,.int .u64 p2,.int .i64 p3,.int .i64 s1,.int .i64 s2,.int .i64 s3,.int .i64 s4] 116)) ⟨s1,s2,s3,s4⟩
 obtain ⟨t,ht⟩ : ∃ t,saidE ⟨s1,s2,s3,s4⟩ = t := ⟨_,rfl⟩
 rw [ht] at hr ⊢
 dsimp only [ansagg] at hr
 have HR := hZ0 hr
 clear hr ht h1 h2 h3 h4 h5 h6 h7
 go_enter Tryz.func74,Tryz.ntmps74
 go_wp2_with fail
 refine HR.out.mono ?_
 rintro e w2 ⟨rfl,hk0⟩
 have hk2 := Kept.then (F := NoF) (a := w) (by (repeat' (first | (with_reducible first | exact kR0 | apply kP0 | apply kN0 | apply kD0 | apply kA0) | (right;simp;done)))) hk0
 have HK := hZ0 hk2;clear hk0 hk2
 go_wp2
 go_ret
 exact ⟨rfl,HK.out⟩
theorem ncheck0_any (w : World) (x : NoteR) (h : NOk w x) (hk : x.k < 1 \/ 8 < x.k) : Calls Tryz.prog 74 #[nagg x] w fun e w' => e = .returned (.int .i64 (noteE x)) /\ Kept NoF w w' := by
 obtain ⟨k,n,at2,ep,mA,mc,ms,fl,lA,lc,lg,oA,oc,⟨bcl,breq,ops⟩,ts,⟨p1,p2,p3⟩,⟨s1,s2,s3,s4⟩⟩ := x
 obtain ⟨h1,h2,h3,h4,h5,h6,h7⟩ := h
 unfold noteE nagg ncell
 dsimp only at *
 have e1 : (k == 1) = false := by simp;omega
 have e2 : (k == 2) = false := by simp;omega
 have e3 : (k == 3) = false := by simp;omega
 have e4 : (k == 4) = false := by simp;omega
 have e5 : (k == 5) = false := by simp;omega
 have e6 : (k == 6) = false := by simp;omega
 have e7 : (k == 7) = false := by simp;omega
 have e8 : (k == 8) = false := by simp;omega
 rw [if_neg (by omega),if_neg (by omega),if_neg (by omega),if_neg (by omega),if_neg (by omega)]
 clear h1 h2 h3 h4 h5 h6 h7 hk
 go_enter Tryz.func74,Tryz.ntmps74
 go_wp2
 go_ret
 exact ⟨rfl,by (repeat' (first | (with_reducible first | exact kR0 | apply kP0 | apply kN0 | apply kD0 | apply kA0) | (right;simp;done)))⟩
theorem ncheck_any (w : World) (x : NoteR) (h : NOk w x) : Calls Tryz.prog 74 #[nagg x] w fun e w' => e = .returned (.int .i64 (noteE x)) /\ Kept NoF w w' := by
 by_cases h0 : x.k < 1 \/ 8 < x.k
 ·exact ncheck0_any w x h h0
 by_cases h1 : x.k = 1
 ·exact ncheck1_any w x h h1
 by_cases h2 : x.k = 2
 ·exact ncheck2_any w x h h2
 by_cases h3 : x.k = 3
 ·exact ncheck3_any w x h h3
 by_cases h4 : x.k = 4
 ·exact ncheck4_any w x h h4
 by_cases h5 : x.k = 5
 ·exact ncheck5_any w x h h5
 by_cases h6 : x.k = 6
 ·exact ncheck6_any w x h h6
 by_cases h7 : x.k = 7
 ·exact ncheck7_any w x h h7
 exact ncheck8_any w x h (by omega)
end Mst
end Go.Proofs.YtgffjliedjhbaaaGreat
