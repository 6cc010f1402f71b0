/- Part 10 of what the proof needs. -/
import Derived.Test.YtobfdolhgnoedaaAG08
set_option linter.unusedSimpArgs false
set_option linter.unusedVariables false
set_option maxHeartbeats 32000000
set_option maxRecDepth 100000
namespace Go.Proofs.Ytobfdolhgnoedaa
open Go.RowKit
set_option maxRecDepth 100000
namespace Ask
open Plan Ops Ent Msg MO Vn
attribute [local go_sem ↓] storeVar_msg loadVar_msg
theorem src_off {F : Nat -> Prop} {a b : World} {size m : Nat} {A : Option Addr} {news : List Value} (h : Src a size A m news) (hk : Kept F a b) (hf : 0 < m -> ∀ ad,A = some ad -> ¬ F ad.block) : Src b size A m news := by
 rcases Nat.eq_zero_or_pos m with h0 | h0
 ·refine ⟨h.1,fun h1 => by omega⟩
 ·exact h.kept hk (hf h0)
section
variable {w w' : World} {X : PX} {t : TS} {G : Nat -> Prop}
theorem phV0 (h : t.ph = 0) : phV X t = .iface 84 (.agg (ccell X t).toArray) := by unfold phV;rw [if_pos h]
theorem phV1 (h : t.ph = 1) : phV X t = .iface 78 (.pointer (some ⟨X.g,0,none⟩)) := by unfold phV;rw [if_neg (by omega),if_pos h]
theorem phV2 (h : t.ph = 2) : phV X t = .iface 89 (.agg (ccell X t).toArray) := by unfold phV;rw [if_neg (by omega),if_neg (by omega)]
theorem pnext_any (h : PAt w X t) (hok : TOk t) (hbl : t.bo.length <= 1000) (ep hd : Int) : Calls Try.prog 9 #[.pointer (some ⟨X.b,0,none⟩),.int .i64 ep,.int .i64 hd] w (NextPost w t ep hd) := by
 obtain ⟨W0,hW0⟩ : ∃ W0,w.alloc (.cells zcells 34) = W0 := ⟨_,rfl⟩
 have hk0 : Kept NoF w W0 := by rw [<- hW0];(repeat' (first | (with_reducible first | exact kR0 | apply kP0 | apply kN0 | apply kD0 | apply kA0) | (right;simp;done)))
 have hn0 : Has W0 w.heap.size 34 zcells := by rw [<- hW0];exact Has.new _ _ _
 have h0 := h.quiet hk0
 have hnone := none_any h0
 have hb := h0.b
 unfold tcell at hb
 have hphs := hok.ph
 have hw := fun (e0 : t.ph = 0) (ed : t.dn = false) => wnext_any h0 e0 ed hbl ep hd
 have hr := fun (e0 : t.ph = 1) (ed : t.dn = false) => rnext_any h0 e0 ed hok ep hd
 have ha := fun (e0 : t.ph = 2) (ed : t.dn = false) => anext_any (w := W0) (X := X) e0 ed ep hd
 obtain ⟨bb,hbb⟩ : ∃ bb,X.b = bb := ⟨_,rfl⟩
 rw [hbb] at hb hnone ⊢
 obtain ⟨rb,hrb⟩ : ∃ rb,w.heap.size = rb := ⟨_,rfl⟩
 rw [hrb] at hn0
 have b0 : W0.cell? ⟨bb,0,none⟩ = some (phV X t) := hb.cell 0
 have b3 : W0.cell? ⟨bb,3,none⟩ = some (.bool t.dn) := hb.cell 3
 have HN := hZ0 hnone;have HK0 := hZ0 hk0;have HN0 := hZ0 hn0;have HW := hZ0 hw;have HR := hZ0 hr;have HA := hZ0 ha;have HRB := hZ0 (show w.heap.size <= rb by omega)
 clear hnone hk0 hn0 hw hr ha h0 h hok hbl hb hbb
 unfold zcells at hW0
 cases hdn : t.dn with
 | true =>
  have hx : nextT t ep hd = (-1,zmsg) := by unfold nextT;rw [if_pos hdn]
  obtain ⟨W6,hst,hb6,hk6⟩ := put_msg HN0.out rfl zmsg
  unfold xcell zmsg at hst
  dsimp only [List.length_nil] at hst
  have HX := hZ0 hx;have HB6 := hZ0 hb6;have HK6 := hZ0 hk6
  rw [hdn] at b3
  clear hx hb6 hk6 hdn
  go_enter Try.func9,Try.ntmps9
  go_wp2_with fail
  clear hW0
  refine HN.out.mono ?_
  rintro e w1 ⟨rfl,rfl⟩
  go_wp2
  refine bodyPost_ret (results_tmp_row rfl _ _ rb _ rfl (load_msg HB6.out)) rfl ?_
  refine ⟨none,0,?_,?_,?_,(fun _ h => by cases h),?_⟩
  ·rw [HX.out];rfl
  ·rw [HX.out];exact Src.nil _ _ _
  ·rw [HX.out];exact Nat.le_refl _
  ·exact HK0.out.trans HK6.out (fun i hi => .inr (by rw [hi];exact HRB.out))
 | false =>
  rw [hdn] at b3
  have HDN := hZ0 hdn
  have hpost : ∀ (e : Ending) w2,NextPost W0 t ep hd e w2 -> ∃ (to : Int) (x : MsgR) (W6 : World),e = .returned (.tuple #[.int .i64 to,xagg x]) /\ (storeMsg ⟨rb,0,none⟩ (.agg (xcell x).toArray)).run Try.prog w2 = .ok () W6 /\ Has W6 rb 34 (xcell x).toArray /\ NextPost w t ep hd (.returned (.tuple #[.int .i64 to,xagg x])) W6 := fun e w2 hp => by
   obtain ⟨A,c,rfl,hs,hl,hnw,hk⟩ := hp
   obtain ⟨W6,g1,g2,g3⟩ := put_msg (HN0.out.kept hk (fun z => z)) rfl { (nextT t ep hd).2 with oA := A,oc := c }
   refine ⟨_,_,W6,rfl,g1,g2,A,c,rfl,src_off hs g3 (fun _ ad e1 e2 => ?_),hl,(fun ad e1 => Nat.le_trans HK0.out.size (hnw ad e1)),(HK0.out.then hk).trans g3 (fun i hi => .inr (by rw [hi];exact HRB.out))⟩
   have := hnw ad e1;have := HN0.out.lt;omega
  have HP := hZ0 hpost
  clear hdn hpost
  rcases (show t.ph = 0 \/ t.ph = 1 \/ t.ph = 2 by omega) with e | e | e
  ·have hc := HW.out e HDN.out
   rw [phV0 e] at b0
   obtain ⟨cs,hcs⟩ : ∃ cs,(ccell X t).toArray = cs := ⟨_,rfl⟩
   rw [hcs] at hc b0
   clear hcs
   have hm : ∀ w : World,(method 263 84 (.agg cs) "catena/asks.next").run Try.prog w = .ok (102,.agg cs) w := fun _ => by kernel_rfl
   have HC := hZ0 hc
   clear hc e hphs
   go_enter Try.func9,Try.ntmps9
   go_wp2_with fail
   clear hW0
   refine HN.out.mono ?_
   rintro e w1 ⟨rfl,rfl⟩
   go_wp2_with fail
   refine HC.out.mono ?_
   intro e w2 hp
   obtain ⟨to,x,W6,rfl,hst,hb6,hpost⟩ := HP.out _ _ hp
   have HB6 := hZ0 hb6;have HPO := hZ0 hpost
   unfold xagg
   obtain ⟨xs,hxs⟩ : ∃ xs,(xcell x).toArray = xs := ⟨_,rfl⟩
   rw [hxs] at hst ⊢
   have HXS := hZ0 hxs
   clear hp hb6 hpost hxs
   go_wp2
   refine bodyPost_ret (results_tmp_row rfl _ _ rb _ rfl (load_msg HB6.out)) rfl ?_
   exact HPO.out
  ·have hc := HR.out e HDN.out
   rw [phV1 e] at b0
   have hm : ∀ w : World,(method 263 78 (.pointer (some ⟨X.g,0,none⟩)) "catena/asks.next").run Try.prog w = .ok (96,.pointer (some ⟨X.g,0,none⟩)) w := fun _ => by kernel_rfl
   have HC := hZ0 hc
   clear hc e hphs
   go_enter Try.func9,Try.ntmps9
   go_wp2_with fail
   clear hW0
   refine HN.out.mono ?_
   rintro e w1 ⟨rfl,rfl⟩
   go_wp2_with fail
   refine HC.out.mono ?_
   intro e w2 hp
   obtain ⟨to,x,W6,rfl,hst,hb6,hpost⟩ := HP.out _ _ hp
   have HB6 := hZ0 hb6;have HPO := hZ0 hpost
   unfold xagg
   obtain ⟨xs,hxs⟩ : ∃ xs,(xcell x).toArray = xs := ⟨_,rfl⟩
   rw [hxs] at hst ⊢
   have HXS := hZ0 hxs
   clear hp hb6 hpost hxs
   go_wp2
   refine bodyPost_ret (results_tmp_row rfl _ _ rb _ rfl (load_msg HB6.out)) rfl ?_
   exact HPO.out
  ·have hc := HA.out e HDN.out
   rw [phV2 e] at b0
   obtain ⟨cs,hcs⟩ : ∃ cs,(ccell X t).toArray = cs := ⟨_,rfl⟩
   rw [hcs] at hc b0
   clear hcs
   have hm : ∀ w : World,(method 263 89 (.agg cs) "catena/asks.next").run Try.prog w = .ok (106,.agg cs) w := fun _ => by kernel_rfl
   have HC := hZ0 hc
   clear hc e hphs
   go_enter Try.func9,Try.ntmps9
   go_wp2_with fail
   clear hW0
   refine HN.out.mono ?_
   rintro e w1 ⟨rfl,rfl⟩
   go_wp2_with fail
   refine HC.out.mono ?_
   intro e w2 hp
   obtain ⟨to,x,W6,rfl,hst,hb6,hpost⟩ := HP.out _ _ hp
   have HB6 := hZ0 hb6;have HPO := hZ0 hpost
   unfold xagg
   obtain ⟨xs,hxs⟩ : ∃ xs,(xcell x).toArray = xs := ⟨_,rfl⟩
   rw [hxs] at hst ⊢
   have HXS := hZ0 hxs
   clear hp hb6 hpost hxs
   go_wp2
   refine bodyPost_ret (results_tmp_row rfl _ _ rb _ rfl (load_msg HB6.out)) rfl ?_
   exact HPO.out
end
end Ask
namespace Ask
open Plan Ops Ent Msg MO Vn
section
variable {w w' : World} {X : PX} {t : TS} {G : Nat -> Prop}
theorem PPost.of_end {t' : TS} {r : RepR} {A : Option Addr} {c : Nat} {w1 w2 : World} {v : Value} (hk : Kept (foot X t) w w1) (h2 : PAt w2 { X with rA := A,rc := c } (endT t' r)) (hk2 : Kept (fun k => k = X.b) w1 w2)
  (hf : ∀ k,foot { X with rA := A,rc := c } (endT t' r) k -> foot X t k \/ w.heap.size <= k) : PPost w X t v (endT t' r) (.returned v) w2 :=
 ⟨rfl,_,h2,rfl,hf,hk.then (hk2.mono (fun k e => .inl e))⟩
end
end Ask
end Go.Proofs.Ytobfdolhgnoedaa
