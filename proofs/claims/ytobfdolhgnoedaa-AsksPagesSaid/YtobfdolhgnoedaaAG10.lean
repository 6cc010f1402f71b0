/- Part 11 of what the proof needs. -/
import Derived.Test.YtobfdolhgnoedaaAG09
set_option linter.unusedSimpArgs false
set_option linter.unusedVariables false
set_option maxHeartbeats 32000000
set_option maxRecDepth 100000
namespace Go.Proofs.Ytobfdolhgnoedaa
open Go.RowKit
set_option maxRecDepth 100000
namespace Ask
open Plan Ops Ent Msg MO Vn
section
variable {w w' : World} {X : PX} {t : TS} {G : Nat -> Prop}
theorem wfrom_any (w : World) (X : PX) (t : TS) (f : Int) : Calls Try.prog 101 #[.agg (ccell X t).toArray,.int .i64 f] w fun e w' => e = .returned (.bool (decide (0 <= f /\ f < 4))) /\ Kept NoF w w' := by
 have hr := fun W => replica_any W f
 obtain ⟨v,hv⟩ : ∃ v,decide (0 <= f /\ f < 4) = v := ⟨_,rfl⟩
 simp only [hv] at hr
 rw [hv]
 unfold ccell qcell
 simp only [List.cons_append,List.nil_append]
 have HR := hZ0 hr
 clear hr hv
 go_enter Try.func101,Try.ntmps101
 go_wp2_with fail
 refine (HR.out _).mono ?_
 rintro e w2 ⟨rfl,rfl⟩
 go_wp2
 go_ret
 exact ⟨rfl,by (repeat' (first | (with_reducible first | exact kR0 | apply kP0 | apply kN0 | apply kD0 | apply kA0) | (right;simp;done)))⟩
theorem afrom_any (w : World) (X : PX) (t : TS) (f : Int) : Calls Try.prog 105 #[.agg (ccell X t).toArray,.int .i64 f] w fun e w' => e = .returned (.bool (decide (f = 4))) /\ Kept NoF w w' := by
 have hb : (f == 4) = decide (f = 4) := by rw [Bool.eq_iff_iff];simp
 obtain ⟨v,hv⟩ : ∃ v,decide (f = 4) = v := ⟨_,rfl⟩
 rw [hv] at hb ⊢
 unfold ccell qcell
 simp only [List.cons_append,List.nil_append]
 clear hv
 go_enter Try.func105,Try.ntmps105
 go_wp2
 go_ret
 exact ⟨rfl,by (repeat' (first | (with_reducible first | exact kR0 | apply kP0 | apply kN0 | apply kD0 | apply kA0) | (right;simp;done)))⟩
theorem rfrom_any (h : PAt w X t) (h1 : t.ph = 1) (f : Int) : Calls Try.prog 95 #[.pointer (some ⟨X.g,0,none⟩),.int .i64 f] w fun e w' => e = .returned (.bool (decide (f = t.a.nd))) /\ Kept NoF w w' := by
 have hg := h.g h1
 have q : w.cell? ⟨X.g,4,none⟩ = some (.int .i64 t.a.nd) := hg.cell 4
 obtain ⟨nd,hnd⟩ : ∃ nd,t.a.nd = nd := ⟨_,rfl⟩
 rw [hnd] at q ⊢
 have hb : (f == nd) = decide (f = nd) := by rw [Bool.eq_iff_iff];simp
 obtain ⟨v,hv⟩ : ∃ v,decide (f = nd) = v := ⟨_,rfl⟩
 rw [hv] at hb ⊢
 clear hg hv hnd h
 go_enter Try.func95,Try.ntmps95
 go_wp2
 try go_quiet (fail)
 try go_wp2
 go_ret
 exact ⟨rfl,by (repeat' (first | (with_reducible first | exact kR0 | apply kP0 | apply kN0 | apply kD0 | apply kA0) | (right;simp;done)))⟩
theorem foot_endr {r : RepR} {A : Option Addr} {c : Nat} (hr : ∀ k,(Value.slice A r.ps.length c).ownBlock = some k -> foot X t k \/ w.heap.size <= k) {k : Nat} (hk : foot { X with rA := A,rc := c } (endT t r) k) : foot X t k \/ w.heap.size <= k := by
 rcases hk with e | e | e | e | e
 ·exact .inl (.inl e)
 ·exact .inl (.inr (.inl e))
 ·exact .inl (.inr (.inr (.inl e)))
 ·exact .inl (.inr (.inr (.inr (.inl e))))
 ·exact hr k e
theorem PPost.same {v : Value} (h : PAt w X t) {w2 : World} (hk : Kept NoF w w2) : PPost w X t v t (.returned v) w2 := ⟨rfl,X,h.quiet hk,rfl,fun k hk => .inl hk,hk.mono (fun _ z => z.elim)⟩
theorem atake_any (h : PAt w X t) (x : MsgR) : Calls Try.prog 107 #[.agg (ccell X t).toArray,.pointer (some ⟨X.b,0,none⟩),xagg x] w (PPost w X t (.bool (takeA t x).2) (takeA t x).1) := by
 obtain ⟨W0,hW0⟩ : ∃ W0,(w.alloc (.cells (ccell X t).toArray 89)).alloc (.cells (xcell x).toArray 34) = W0 := ⟨_,rfl⟩
 have hk0 : Kept NoF w W0 := by rw [<- hW0];(repeat' (first | (with_reducible first | exact kR0 | apply kP0 | apply kN0 | apply kD0 | apply kA0) | (right;simp;done)))
 have hc0 : Has W0 w.heap.size 89 (ccell X t).toArray := by rw [<- hW0];exact (Has.new _ _ _).alloc _
 have hn0 : Has W0 (w.heap.size + 1) 34 (xcell x).toArray := by rw [<- hW0];exact Has.new_at _ _ _ (by simp)
 have h0 := h.quiet hk0
 have HH := hZ0 h;have HK0 := hZ0 hk0;have HH0 := hZ0 h0
 have m0 : W0.cell? ⟨w.heap.size + 1,0,none⟩ = some (.int .i64 x.k) := hn0.cell 0
 have m5 : W0.cell? ⟨w.heap.size + 1,5,none⟩ = some (.int .u64 x.at') := hn0.cell 5
 have m7 : W0.cell? ⟨w.heap.size + 1,7,none⟩ = some (.int .i64 x.n) := hn0.cell 7
 have m10 : W0.cell? ⟨w.heap.size + 1,10,none⟩ = some (.int .i64 x.e) := hn0.cell 10
 have q3 : W0.cell? ⟨w.heap.size,3,none⟩ = some (.int .i64 t.a.k) := hc0.cell 3
 have q5 : W0.cell? ⟨w.heap.size,5,none⟩ = some (.string t.a.key) := hc0.cell 5
 have hend := fun r => end_any h0 r none 0
 have HEND := hZ0 hend
 unfold ccell qcell xcell at hW0
 simp only [List.cons_append,List.nil_append] at hW0
 unfold xagg ccell qcell xcell
 simp only [List.cons_append,List.nil_append]
 have HC0 := hZ0 hc0
 clear h hk0 hc0 hn0 h0 hend
 by_cases h14 : x.k = 14
 ·have hb : (x.k == 14) = true := by simpa using h14
  have hx : takeA t x = (endT t ⟨0,0,0,x.n,[]⟩,false) := by unfold takeA;rw [if_pos h14]
  rw [hx]
  clear h14 hx
  have hend := HEND.out (⟨0,0,0,x.n,[]⟩) ⟨rfl,.inl ⟨rfl,rfl⟩⟩
  have HE := hZ0 hend
  clear hend
  go_enter Try.func107,Try.ntmps107
  go_wp2_with fail
  clear hW0 m0 m5 m7 m10 q3 q5
  refine HE.out.mono ?_
  rintro e w2 ⟨rfl,hp2,hk2⟩
  have HP2 := hZ0 hp2;have HK2 := hZ0 hk2
  clear hp2 hk2
  go_wp2
  go_ret
  exact PPost.of_end (w1 := W0) (HK0.out.mono (fun _ z => z.elim)) HP2.out HK2.out (fun k hk => foot_endr (fun k hk => by cases hk) hk)
 have hb : (x.k == 14) = false := by simpa using h14
 by_cases h7 : x.k = 7
 ·have hb7 : (x.k == 7) = true := by simpa using h7
  have hx : takeA t x = (endT t ⟨0,x.e,0,0,[]⟩,false) := by unfold takeA;rw [if_neg h14,if_pos h7]
  rw [hx]
  clear h14 h7 hx
  have hend := HEND.out (⟨0,x.e,0,0,[]⟩) ⟨rfl,.inl ⟨rfl,rfl⟩⟩
  have HE := hZ0 hend
  clear hend
  go_enter Try.func107,Try.ntmps107
  go_wp2_with fail
  clear hW0 m0 m5 m7 m10 q3 q5
  refine HE.out.mono ?_
  rintro e w2 ⟨rfl,hp2,hk2⟩
  have HP2 := hZ0 hp2;have HK2 := hZ0 hk2
  clear hp2 hk2
  go_wp2
  go_ret
  exact PPost.of_end (w1 := W0) (HK0.out.mono (fun _ z => z.elim)) HP2.out HK2.out (fun k hk => foot_endr (fun k hk => by cases hk) hk)
 ·have hb7 : (x.k == 7) = false := by simpa using h7
  have hx : takeA t x = (t,false) := by unfold takeA;rw [if_neg h14,if_neg h7]
  rw [hx]
  clear h14 h7 hx
  go_enter Try.func107,Try.ntmps107
  go_wp2
  go_ret
  exact PPost.same HH.out (by (repeat' (first | (with_reducible first | exact kR0 | apply kP0 | apply kN0 | apply kD0 | apply kA0) | (exact HK0.out) | (right;simp;done))))
theorem wtake_any (h : PAt w X t) (h0p : t.ph = 0) (hnd : t.dn = false) (x : MsgR) : Calls Try.prog 103 #[.agg (ccell X t).toArray,.pointer (some ⟨X.b,0,none⟩),xagg x] w (PPost w X t (.bool (takeW t x).2) (takeW t x).1) := by
 obtain ⟨W0,hW0⟩ : ∃ W0,(w.alloc (.cells (ccell X t).toArray 84)).alloc (.cells (xcell x).toArray 34) = W0 := ⟨_,rfl⟩
 have hk0 : Kept NoF w W0 := by rw [<- hW0];(repeat' (first | (with_reducible first | exact kR0 | apply kP0 | apply kN0 | apply kD0 | apply kA0) | (right;simp;done)))
 have hc0 : Has W0 w.heap.size 84 (ccell X t).toArray := by rw [<- hW0];exact (Has.new _ _ _).alloc _
 have hn0 : Has W0 (w.heap.size + 1) 34 (xcell x).toArray := by rw [<- hW0];exact Has.new_at _ _ _ (by simp)
 have h0 := h.quiet hk0
 have HH := hZ0 h;have HK0 := hZ0 hk0;have HH0 := hZ0 h0
 have m0 : W0.cell? ⟨w.heap.size + 1,0,none⟩ = some (.int .i64 x.k) := hn0.cell 0
 have m5 : W0.cell? ⟨w.heap.size + 1,5,none⟩ = some (.int .u64 x.at') := hn0.cell 5
 have m7 : W0.cell? ⟨w.heap.size + 1,7,none⟩ = some (.int .i64 x.n) := hn0.cell 7
 have m10 : W0.cell? ⟨w.heap.size + 1,10,none⟩ = some (.int .i64 x.e) := hn0.cell 10
 have q3 : W0.cell? ⟨w.heap.size,3,none⟩ = some (.int .i64 t.a.k) := hc0.cell 3
 have q5 : W0.cell? ⟨w.heap.size,5,none⟩ = some (.string t.a.key) := hc0.cell 5
 have hend := fun r => end_any h0 r none 0
 have HEND := hZ0 hend
 unfold ccell qcell xcell at hW0
 simp only [List.cons_append,List.nil_append] at hW0
 unfold xagg ccell qcell xcell
 simp only [List.cons_append,List.nil_append]
 have HC0 := hZ0 hc0
 clear h hk0 hc0 hn0 h0 hend
 have HPH := hZ0 (And.intro h0p hnd)
 clear h0p hnd
 by_cases h7 : x.k = 7
 ·have hb7 : (x.k == 7) = true := by simpa using h7
  have hb6 : (x.k != 6) = true := by simp [h7]
  by_cases h16 : x.e = 16
  ·have hb16 : (x.e == 16) = true := by simpa using h16
   have hx : takeW t x = (endT t ⟨0,x.e,0,0,[]⟩,false) := by unfold takeW;rw [if_pos ⟨h7,h16⟩]
   rw [hx]
   clear h7 h16 hx
   have hend := HEND.out (⟨0,x.e,0,0,[]⟩) ⟨rfl,.inl ⟨rfl,rfl⟩⟩
   have HE := hZ0 hend
   clear hend
   go_enter Try.func103,Try.ntmps103
   go_wp2_with fail
   clear hW0 m0 m5 m7 m10 q3 q5
   refine HE.out.mono ?_
   rintro e w2 ⟨rfl,hp2,hk2⟩
   have HP2 := hZ0 hp2;have HK2 := hZ0 hk2
   clear hp2 hk2
   go_wp2
   go_ret
   exact PPost.of_end (w1 := W0) (HK0.out.mono (fun _ z => z.elim)) HP2.out HK2.out (fun k hk => foot_endr (fun k hk => by cases hk) hk)
  ·have hb16 : (x.e == 16) = false := by simpa using h16
   have hx : takeW t x = (t,false) := by unfold takeW;rw [if_neg (fun e => h16 e.2),if_pos (by omega)]
   rw [hx]
   clear h7 h16 hx
   go_enter Try.func103,Try.ntmps103
   go_wp2
   go_ret
   exact PPost.same HH.out (by (repeat' (first | (with_reducible first | exact kR0 | apply kP0 | apply kN0 | apply kD0 | apply kA0) | (exact HK0.out) | (right;simp;done))))
 have hb7 : (x.k == 7) = false := by simpa using h7
 by_cases h6 : x.k = 6
 rotate_left
 ·have hb6 : (x.k != 6) = true := by simpa using h6
  have hx : takeW t x = (t,false) := by unfold takeW;rw [if_neg (fun e => h7 e.1),if_pos h6]
  rw [hx]
  clear h7 h6 hx
  go_enter Try.func103,Try.ntmps103
  go_wp2
  go_ret
  exact PPost.same HH.out (by (repeat' (first | (with_reducible first | exact kR0 | apply kP0 | apply kN0 | apply kD0 | apply kA0) | (exact HK0.out) | (right;simp;done))))
 have hb6 : (x.k != 6) = false := by simpa using h6
 by_cases ha : t.a.k = 0
 ·have hba : (t.a.k == 0) = true := by simpa using ha
  have hx : takeW t x = (endT t ⟨0,0,x.at',0,[]⟩,false) := by unfold takeW;rw [if_neg (fun e => h7 e.1),if_neg (fun e => e h6),if_pos ha]
  rw [hx]
  clear h7 h6 ha hx
  have hend := HEND.out (⟨0,0,x.at',0,[]⟩) ⟨rfl,.inl ⟨rfl,rfl⟩⟩
  have HE := hZ0 hend
  clear hend
  go_enter Try.func103,Try.ntmps103
  go_wp2_with fail
  clear hW0 m0 m5 m7 m10 q3 q5
  refine HE.out.mono ?_
  rintro e w2 ⟨rfl,hp2,hk2⟩
  have HP2 := hZ0 hp2;have HK2 := hZ0 hk2
  clear hp2 hk2
  go_wp2
  go_ret
  exact PPost.of_end (w1 := W0) (HK0.out.mono (fun _ z => z.elim)) HP2.out HK2.out (fun k hk => foot_endr (fun k hk => by cases hk) hk)
 have hba : (t.a.k == 0) = false := by simpa using ha
 have hx : takeW t x = ({ t with ph := 1,at' := x.at',key := t.a.key,ps := [],waits := 0 },true) := by unfold takeW;rw [if_neg (fun e => h7 e.1),if_neg (fun e => e h6),if_neg ha]
 rw [hx]
 obtain ⟨bb,hbb⟩ : ∃ bb,X.b = bb := ⟨_,rfl⟩
 have q0 : W0.cell? ⟨w.heap.size,0,none⟩ = some (.int .i64 t.cl) := HC0.out.cell 0
 have q1 : W0.cell? ⟨w.heap.size,1,none⟩ = some (.int .i64 t.rq) := HC0.out.cell 1
 have q2 : W0.cell? ⟨w.heap.size,2,none⟩ = some (.slice X.bA t.bo.length X.bc) := HC0.out.cell 2
 have q4 : W0.cell? ⟨w.heap.size,4,none⟩ = some (.int .i64 t.a.nd) := HC0.out.cell 4
 have q6 : W0.cell? ⟨w.heap.size,6,none⟩ = some (.string t.a.to) := HC0.out.cell 6
 have q7 : W0.cell? ⟨w.heap.size,7,none⟩ = some (.int .u64 t.a.at') := HC0.out.cell 7
 have q8 : W0.cell? ⟨w.heap.size,8,none⟩ = some (.int .i64 t.a.n) := HC0.out.cell 8
 have q9 : W0.cell? ⟨w.heap.size,9,none⟩ = some (.slice t.a.A t.a.ops.length t.a.c) := HC0.out.cell 9
 obtain ⟨W1,hW1⟩ : ∃ W1,W0.alloc (.cells #[.int .i64 t.cl,.int .i64 t.rq,.slice X.bA t.bo.length X.bc,.int .i64 t.a.k,.int .i64 t.a.nd,.string t.a.key,.string t.a.to,.int .u64 t.a.at',.int .i64 t.a.n,.slice t.a.A t.a.ops.length t.a.c,.int .u64 x.at',.string t.a.key,.slice none 0 0] 88) = W1 := ⟨_,rfl⟩
 have hk1 : Kept NoF W0 W1 := by rw [<- hW1];(repeat' (first | (with_reducible first | exact kR0 | apply kP0 | apply kN0 | apply kD0 | apply kA0) | (right;simp;done)))
 have hg1 : Has W1 W0.heap.size 88 #[.int .i64 t.cl,.int .i64 t.rq,.slice X.bA t.bo.length X.bc,.int .i64 t.a.k,.int .i64 t.a.nd,.string t.a.key,.string t.a.to,.int .u64 t.a.at',.int .i64 t.a.n,.slice t.a.A t.a.ops.length t.a.c,.int .u64 x.at',.string t.a.key,.slice none 0 0] := by rw [<- hW1];exact Has.new _ _ _
 have hz1 := (HH0.out.quiet hk1).b
 have HK1 := hZ0 hk1;have HG1 := hZ0 hg1
 have hb0 := HH0.out.b
 rw [hbb] at hb0 hz1 ⊢
 have f0 := hz1.frozen 0;have f2 := hz1.frozen 2
 have z0 := hz1.cell 0;have z2 := hz1.cell 2
 simp [tcell] at z0 z2
 have hltb := hb0.lt
 clear h7 h6 ha hx hb0 hz1 hk1 hg1
 have HBB := hZ0 hbb
 have HLT := hZ0 hltb
 clear hbb
 go_enter Try.func103,Try.ntmps103
 go_wp2
 go_ret
 have e9 := HBB.out
 subst e9
 have hk1 := HK1.out;have hg1 := HG1.out
 have h1 := HH0.out.quiet hk1
 have hk2 : Kept (fun k => k = X.b) W1 ((W1.setCell ⟨X.b,0,none⟩ (.iface 78 (.pointer (some ⟨W0.heap.size,0,none⟩)))).setCell ⟨X.b,2,none⟩ (.int .i64 0)) := by (repeat' (first | (with_reducible first | exact kR0 | apply kP0 | apply kN0 | apply kD0 | apply kA0) | (exact .inl rfl) | (right;simp;done)))
 have hb2 := ((h1.b.put 0 (.iface 78 (.pointer (some ⟨W0.heap.size,0,none⟩)))).put 2 (.int .i64 0))
 have hnd := HPH.out.2
 have hg0 := h1.g0 (by rw [HPH.out.1];decide)
 have hne : ∀ {e : TypeId} {size n : Nat} {v : Value} {xs : List Value},W1.ownsRow 0 e size v n xs -> e ≠ 48 -> ((W1.setCell ⟨X.b,0,none⟩ (.iface 78 (.pointer (some ⟨W0.heap.size,0,none⟩)))).setCell ⟨X.b,2,none⟩ (.int .i64 0)).ownsRow 0 e size v n xs := fun ho he => own_kept ho hk2 (fun k hk3 e2 => own_ne ho h1.b he (e2 ▸ hk3))
 refine ⟨rfl,{ X with g := W0.heap.size },⟨?_,fun _ => ?_,fun e => absurd rfl e,hne h1.bo (by decide),?_,hne h1.r (by decide),h1.nd⟩,rfl,fun k hk => ?_,?_⟩
 ·exact hb2
 ·have hgx : gcell { X with g := W0.heap.size } { t with ph := 1,at' := x.at',key := t.a.key,ps := [],waits := 0 } = #[.int .i64 t.cl,.int .i64 t.rq,.slice X.bA t.bo.length X.bc,.int .i64 t.a.k,.int .i64 t.a.nd,.string t.a.key,.string t.a.to,.int .u64 t.a.at',.int .i64 t.a.n,.slice t.a.A t.a.ops.length t.a.c,.int .u64 x.at',.string t.a.key,.slice none 0 0] := by
   unfold gcell ccell
   dsimp only
   rw [hg0.2.1,hg0.2.2.1]
   rfl
  rw [hgx]
  exact hg1.kept hk2 (fun e => by have := HLT.out;omega)
 ·show World.ownsRow _ 0 68 2 (.slice X.pA 0 X.pc) 0 []
  rw [hg0.2.1,hg0.2.2.1]
  exact ⟨rfl,.inl ⟨rfl,rfl⟩⟩
 ·rcases hk with e | e | e | e | e
  ·exact .inl (.inl e)
  ·exact .inr (by rw [e];exact HK0.out.size)
  ·have e2 : (Value.slice X.pA 0 X.pc).ownBlock = some k := e
   rw [hg0.2.1] at e2
   cases e2
  ·exact .inl (.inr (.inr (.inr (.inl e))))
  ·exact .inl (.inr (.inr (.inr (.inr e))))
 ·exact ((HK0.out.then hk1).mono (fun _ z => z.elim)).then (hk2.mono (fun k e => .inl e))
end
end Ask
end Go.Proofs.Ytobfdolhgnoedaa
