/- Part 23 of what the proof needs. -/
import Derived.Test.YtobfdolhgnoedaaAM21
set_option linter.unusedSimpArgs false
set_option linter.unusedVariables false
set_option maxHeartbeats 32000000
set_option maxRecDepth 100000
namespace Go.Proofs.Ytobfdolhgnoedaa
open Go.RowKit
set_option maxRecDepth 100000
namespace Ask
open Plan Ops Ent Msg MO Vn
structure JOk (t : TS) : Prop where
 ok : TOk t
 b : Ops.chk ⟨t.cl,t.rq,t.bo⟩ = 0
 key : t.a.k = 1 \/ t.a.k = 2 \/ t.a.k = 3 -> t.key.size <= 8 /\ t.a.key.size <= 8
 to : t.a.k = 2 -> t.a.to.size <= 8
 nd : t.a.k = 1 \/ t.a.k = 2 \/ t.a.k = 3 -> 0 <= t.a.nd /\ t.a.nd < 4
 n : t.a.k = 5 \/ t.a.k = 6 -> 0 <= t.a.n /\ t.a.n <= 1073741824
 p0 : t.ph = 0 -> t.a.k = 0 \/ t.a.k = 3
 p1 : t.ph = 1 -> t.a.k = 1 \/ t.a.k = 2 \/ t.a.k = 3
 p2 : t.ph = 2 -> t.a.k = 4 \/ t.a.k = 5 \/ t.a.k = 6
 e : t.r.e ≠ 0 -> t.r.ps = []
 rq : t.dn = true -> t.r.req = t.rq
 rl : t.r.ps.length <= 1000
theorem nextAt_len (l : List UInt8) (k : Nat) : (Keys.nextAt l k).length <= k := by
 induction k with
 | zero => exact Nat.le_refl _
 | succ k ih =>
  unfold Keys.nextAt
  split
  ·rw [List.length_append,List.length_take];show min k l.length + 1 <= k + 1;omega
  ·omega
theorem nextL_len (l : List UInt8) : (Keys.nextL l).length <= 8 := by
 unfold Keys.nextL
 split
 ·rw [List.length_append];show l.length + 1 <= 8;omega
 ·exact nextAt_len l 8
theorem nextKey_size (l : List PairR) : (nextKey l).size <= 8 := by
 unfold nextKey
 split
 ·decide
 ·rw [<- size_bl,bl_ofL];exact nextL_len _
theorem JOk.new {cl rq : Int} {a : AskR} (hn : I64 a.n) (h : newE cl rq a = 0) : JOk (newT cl rq a) := by
 have hok := TOk.new hn h
 have hm : (0 <= cl /\ cl < 3) /\ (1 <= rq /\ rq <= 1073741824) /\ mayB cl rq (boOf a) a = true := by
  unfold newE at h
  split at h
  ·cases h
  split at h
  ·cases h
  split at h
  ·exact ⟨by omega,by omega,by assumption⟩
  ·cases h
 obtain ⟨h1,h2,hm⟩ := hm
 have hb0 : Ops.chk ⟨cl,rq,[]⟩ = 0 := by
  unfold Ops.chk
  dsimp only [List.length_nil]
  rw [if_neg (by omega),if_neg (by omega),if_neg (by omega)]
  rfl
 unfold mayB at hm
 by_cases k0 : a.k = 0
 ·rw [if_pos k0] at hm
  refine ⟨hok,of_decide_eq_true hm,fun e => ?_,fun e => ?_,fun e => ?_,fun e => ?_,fun _ => .inl k0,fun e => ?_,fun e => ?_,fun e => absurd rfl e,fun e => ?_,by show (0 : Nat) <= 1000;decide⟩
  ·have e' : a.k = 1 \/ a.k = 2 \/ a.k = 3 := e;omega
  ·have e' : a.k = 2 := e;omega
  ·have e' : a.k = 1 \/ a.k = 2 \/ a.k = 3 := e;omega
  ·have e' : a.k = 5 \/ a.k = 6 := e;omega
  ·have e' : phOf a = 1 := e
   unfold phOf at e';rw [if_pos (.inl k0)] at e';cases e'
  ·have e' : phOf a = 2 := e
   unfold phOf at e';rw [if_pos (.inl k0)] at e';cases e'
  ·cases e
 rw [if_neg k0] at hm
 have hbo : boOf a = [] := by unfold boOf;rw [if_neg k0]
 have hb : Ops.chk ⟨cl,rq,boOf a⟩ = 0 := by rw [hbo];exact hb0
 by_cases k1 : a.k = 1 \/ a.k = 3
 ·rw [if_pos k1] at hm
  simp only [Bool.and_eq_true,decide_eq_true_eq] at hm
  have hs : a.key.size <= 8 := by
   have := hm.2
   unfold keyE at this
   split at this
   ·cases this
   ·omega
  refine ⟨hok,hb,fun _ => ⟨hs,hs⟩,fun e => ?_,fun _ => hm.1,fun e => ?_,fun e => ?_,fun e => ?_,fun e => ?_,fun e => absurd rfl e,fun e => ?_,by show (0 : Nat) <= 1000;decide⟩
  ·have e' : a.k = 2 := e;omega
  ·have e' : a.k = 5 \/ a.k = 6 := e;omega
  ·have e' : phOf a = 0 := e
   unfold phOf at e'
   by_cases k3 : a.k = 3
   ·exact .inr k3
   ·rw [if_neg (by omega),if_pos (by omega)] at e';cases e'
  ·show a.k = 1 \/ a.k = 2 \/ a.k = 3;omega
  ·have e' : phOf a = 2 := e
   unfold phOf at e'
   split at e'
   ·cases e'
   ·rw [if_pos (by omega)] at e';cases e'
  ·cases e
 rw [if_neg k1] at hm
 by_cases k2 : a.k = 2
 ·rw [if_pos k2] at hm
  simp only [Bool.and_eq_true,decide_eq_true_eq] at hm
  have hp : phOf a = 1 := by unfold phOf;rw [if_neg (by omega),if_pos (by omega)]
  refine ⟨hok,hb,fun _ => ⟨hm.2.1,hm.2.1⟩,fun _ => hm.2.2.1,fun _ => hm.1,fun e => ?_,fun e => ?_,fun e => .inr (.inl k2),fun e => ?_,fun e => absurd rfl e,fun e => ?_,by show (0 : Nat) <= 1000;decide⟩
  ·have e' : a.k = 5 \/ a.k = 6 := e;omega
  ·have e' : phOf a = 0 := e;omega
  ·have e' : phOf a = 2 := e;omega
  ·cases e
 rw [if_neg k2] at hm
 have hp : phOf a = 2 := by unfold phOf;rw [if_neg (by omega),if_neg (by omega)]
 by_cases k5 : a.k = 5 \/ a.k = 6
 ·rw [if_pos k5] at hm
  simp only [Bool.and_eq_true,decide_eq_true_eq] at hm
  refine ⟨hok,hb,fun e => ?_,fun e => absurd e k2,fun e => ?_,fun _ => hm,fun e => ?_,fun e => ?_,fun e => .inr k5,fun e => absurd rfl e,fun e => ?_,by show (0 : Nat) <= 1000;decide⟩
  ·have e' : a.k = 1 \/ a.k = 2 \/ a.k = 3 := e;omega
  ·have e' : a.k = 1 \/ a.k = 2 \/ a.k = 3 := e;omega
  ·have e' : phOf a = 0 := e;omega
  ·have e' : phOf a = 1 := e;omega
  ·cases e
 ·rw [if_neg k5] at hm
  have k4 : a.k = 4 := of_decide_eq_true hm
  refine ⟨hok,hb,fun e => ?_,fun e => absurd e k2,fun e => ?_,fun e => absurd e k5,fun e => ?_,fun e => ?_,fun e => .inl k4,fun e => absurd rfl e,fun e => ?_,by show (0 : Nat) <= 1000;decide⟩
  ·have e' : a.k = 1 \/ a.k = 2 \/ a.k = 3 := e;omega
  ·have e' : a.k = 1 \/ a.k = 2 \/ a.k = 3 := e;omega
  ·have e' : phOf a = 0 := e;omega
  ·have e' : phOf a = 1 := e;omega
  ·cases e
theorem JOk.end {t : TS} (h : JOk t) {r : RepR} (he : r.e ≠ 0 -> r.ps = []) (hl : r.ps.length <= 1000) : JOk (endT t r) :=
 ⟨h.ok.end r,h.b,h.key,h.to,h.nd,h.n,h.p0,h.p1,h.p2,he,fun _ => rfl,hl⟩
theorem JOk.tick {t : TS} (h : JOk t) : JOk (tickT t).1 := by
 have hok := h.ok.tick
 unfold tickT at hok ⊢
 split
 ·exact h
 rename_i hd
 rw [if_neg hd] at hok
 have hj : ∀ n,TOk { t with waits := n } -> JOk { t with waits := n } := fun n ho => ⟨ho,h.b,h.key,h.to,h.nd,h.n,h.p0,h.p1,h.p2,h.e,h.rq,h.rl⟩
 have hw := h.ok.wt
 have h1 : TOk { t with waits := min (t.waits + 1) 1073741824 } := ⟨h.ok.n,h.ok.ps,by show 0 <= min (t.waits + 1) 1073741824 /\ min (t.waits + 1) 1073741824 <= 1073741824;omega,h.ok.ph,h.ok.n1,h.ok.np⟩
 split
 ·exact (hj _ h1).end (fun _ => rfl) (by show (0 : Nat) <= 1000;decide)
 ·exact hj _ h1
theorem JOk.take {t : TS} (h : JOk t) (f : Int) (x : MsgR) : JOk (takeT t f x).1 := by
 have hok := h.ok.take f x
 unfold takeT at hok ⊢
 split
 ·exact h
 rename_i hg
 rw [if_neg hg] at hok
 split
 ·rename_i hp
  rw [if_pos hp] at hok
  have hkk := h.p0 hp
  unfold takeW at hok ⊢
  split
  ·exact h.end (fun _ => rfl) (by show (0 : Nat) <= 1000;decide)
  rename_i g1
  rw [if_neg g1] at hok
  split
  ·exact h
  rename_i g2
  rw [if_neg g2] at hok
  split
  ·exact h.end (fun e => absurd rfl e) (by show (0 : Nat) <= 1000;decide)
  ·rename_i g3
   rw [if_neg g3] at hok
   have hk3 : t.a.k = 3 := by omega
   refine ⟨hok,h.b,fun e => ⟨(h.key e).2,(h.key e).2⟩,h.to,h.nd,h.n,fun e => ?_,fun _ => .inr (.inr hk3),fun e => ?_,h.e,h.rq,h.rl⟩
   ·cases e
   ·cases e
 rename_i hp0
 rw [if_neg hp0] at hok
 split
 ·rename_i hp
  rw [if_pos hp] at hok
  unfold takeR at hok ⊢
  split
  ·exact h.end (fun _ => rfl) (by show (0 : Nat) <= 1000;decide)
  rename_i g1
  rw [if_neg g1] at hok
  split
  ·exact h
  rename_i g2
  rw [if_neg g2] at hok
  split
  ·exact h.end (fun e => absurd rfl e) (by show (x.ps.take 1).length <= 1000;rw [List.length_take];omega)
  ·rename_i g3
   rw [if_neg g3] at hok
   have hk2 : t.a.k = 2 := by omega
   unfold pageT at hok ⊢
   split
   ·rename_i g4
    rw [if_pos g4] at hok
    exact ⟨hok,h.b,fun e => ⟨nextKey_size _,(h.key e).2⟩,h.to,h.nd,h.n,h.p0,h.p1,h.p2,h.e,h.rq,h.rl⟩
   ·rename_i g4
    rw [if_neg g4] at hok
    have hl := hok.ps.1
    exact ⟨hok,h.b,h.key,h.to,h.nd,h.n,h.p0,h.p1,h.p2,fun e => absurd rfl e,fun _ => rfl,by show (t.ps ++ pageL t x).length <= 1000;exact Nat.le_trans hl (by decide)⟩
 ·unfold takeA
  split
  ·exact h.end (fun e => absurd rfl e) (by show (0 : Nat) <= 1000;decide)
  split
  ·exact h.end (fun _ => rfl) (by show (0 : Nat) <= 1000;decide)
  ·exact h
theorem tick_done {t : TS} (h : t.dn = true) : (tickT t).1 = t := by unfold tickT;rw [if_pos h]
theorem take_done {t : TS} (h : t.dn = true) (f : Int) (x : MsgR) : (takeT t f x).1 = t := by unfold takeT;rw [if_pos (.inl h)]
theorem next_done {t : TS} (h : t.dn = true) (ep hd : Int) : (nextT t ep hd).1 = -1 := by unfold nextT;rw [if_pos h]
theorem next_sends {w : World} {t : TS} (h : JOk t) (hd : t.dn = false) {A : Option Addr} {c : Nat} (hs : Src w 3 A (nextT t 3 2).2.ops.length (cells (nextT t 3 2).2.ops)) (hc : (nextT t 3 2).2.ops.length <= c) :
  (0 <= (nextT t 3 2).1 /\ (nextT t 3 2).1 <= 4) /\ Sends w { (nextT t 3 2).2 with oA := A,oc := c } := by
 obtain ⟨hb1,hb2,hb3,hb4,_,_⟩ := Ops.chk_ok h.b
 dsimp only at hb1 hb2 hb3 hb4
 have hph := h.ok.ph
 unfold nextT at hs hc ⊢
 rw [if_neg (by rw [hd];decide)] at hs hc ⊢
 have hz : (zmsg.key).size <= 8 := by decide
 have z0 : (0 : Int) <= 0 /\ (0 : Int) <= 1073741824 := by decide
 have z2 : (0 : Int) <= 2 /\ (2 : Int) <= 4 := by decide
 have z4 : (0 : Int) <= 4 /\ (4 : Int) <= 4 := by decide
 have z3 : (0 : Int) <= max (3 : Int) 0 /\ max (3 : Int) 0 <= 1073741824 := by decide
 have zr : 0 <= t.rq /\ t.rq <= 1073741824 := by omega
 by_cases p0 : t.ph = 0
 ·rw [if_pos p0,if_neg (by decide)] at hs hc ⊢
  exact ⟨z2,.inl rfl,z3,z0,z0,hz,hz,hs,hc,fun _ => h.b⟩
 rw [if_neg p0] at hs hc ⊢
 by_cases p1 : t.ph = 1
 ·rw [if_pos p1] at hs hc ⊢
  have hk := h.p1 p1
  have hnd := h.nd hk
  by_cases k2 : t.a.k = 2
  ·rw [if_pos k2] at hs hc ⊢
   have hsz : 0 <= sizeT t /\ sizeT t <= 1073741824 := by
    have := (h.ok.ps.2 k2)
    unfold sizeT;omega
   exact ⟨⟨hnd.1,by show t.a.nd <= 4;omega⟩,.inr (.inr (.inl rfl)),z0,zr,hsz,(h.key hk).1,h.to k2,hs,hc,fun e => by cases e⟩
  ·rw [if_neg k2] at hs hc ⊢
   exact ⟨⟨hnd.1,by show t.a.nd <= 4;omega⟩,.inr (.inl rfl),z0,zr,z0,(h.key hk).1,hz,hs,hc,fun e => by cases e⟩
 rw [if_neg p1] at hs hc ⊢
 have hk := h.p2 (by omega)
 clear hb1 hb2 hb3 hb4
 by_cases k4 : t.a.k = 4
 ·rw [if_pos k4] at hs hc ⊢
  exact ⟨z4,.inr (.inr (.inr (.inl rfl))),z0,zr,z0,hz,hz,hs,hc,fun e => by cases e⟩
 rw [if_neg k4] at hs hc ⊢
 have hn := h.n (by omega)
 by_cases k5 : t.a.k = 5
 ·rw [if_pos k5] at hs hc ⊢
  exact ⟨z4,.inr (.inr (.inr (.inr (.inl rfl)))),z0,zr,hn,hz,hz,hs,hc,fun e => by cases e⟩
 ·rw [if_neg k5] at hs hc ⊢
  exact ⟨z4,.inr (.inr (.inr (.inr (.inr (.inl rfl))))),z0,zr,hn,hz,hz,hs,hc,fun e => by cases e⟩
end Ask
end Go.Proofs.Ytobfdolhgnoedaa
