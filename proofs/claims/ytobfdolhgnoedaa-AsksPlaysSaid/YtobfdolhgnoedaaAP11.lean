/- Part 12 of what the proof needs. -/
import Derived.Test.YtobfdolhgnoedaaAP10
set_option linter.unusedSimpArgs false
set_option linter.unusedVariables false
set_option maxHeartbeats 32000000
set_option maxRecDepth 100000
namespace Go.Proofs.Ytobfdolhgnoedaa
open Go.RowKit
set_option maxRecDepth 100000
namespace Ask
open Plan Ops Ent Msg MO Vn
attribute [local go_sem ↓] storeVar_msg loadVar_msg
theorem src_off {F : Nat -> Prop} {a b : World} {size m : Nat} {A : Option Addr} {news : List Value} (h : Src a size A m news) (hk : Kept F a b) (hf : 0 < m -> ∀ ad,A = some ad -> ¬ F ad.block) : Src b size A m news := by
 rcases Nat.eq_zero_or_pos m with h0 | h0
 ·refine ⟨h.1,fun h1 => by omega⟩
 ·exact h.kept hk (hf h0)
section
variable {w w' : World} {X : PX} {t : TS} {G : Nat -> Prop}
theorem phV0 (h : t.ph = 0) : phV X t = .iface 84 (.agg (ccell X t).toArray) := by unfold phV;rw [if_pos h]
theorem phV1 (h : t.ph = 1) : phV X t = .iface 78 (.pointer (some ⟨X.g,0,none⟩)) := by unfold phV;rw [if_neg (by omega),if_pos h]
theorem phV2 (h : t.ph = 2) : phV X t = .iface 89 (.agg (ccell X t).toArray) := by unfold phV;rw [if_neg (by omega),if_neg (by omega)]
theorem pnext_any (h : PAt w X t) (hok : TOk t) (hbl : t.bo.length <= 1000) (ep hd : Int) : Calls Try.prog 9 #[.pointer (some ⟨X.b,0,none⟩),.int .i64 ep,.int .i64 hd] w (NextPost w t ep hd) := by
 obtain ⟨W0,hW0⟩ : ∃ W0,w.alloc (.cells zcells 34) = W0 := ⟨_,rfl⟩
 have hk0 : Kept NoF w W0 := by rw [<- hW0];(repeat' (first | (with_reducible first | exact kR0 | apply kP0 | apply kN0 | apply kD0 | apply kA0) | (right;simp;done)))
 have hn0 : Has W0 w.heap.size 34 zcells := by rw [<- hW0];exact Has.new _ _ _
 have h0 := h.quiet hk0
 have hnone := none_any h0
 have hb := h0.b
 unfold tcell at hb
 have hphs := hok.ph
 have hw := fun (e0 : t.ph = 0) (ed : t.dn = false) => wnext_any h0 e0 ed hbl ep hd
 have hr := fun (e0 : t.ph = 1) (ed : t.dn = false) => rnext_any h0 e0 ed hok ep hd
 have ha := fun (e0 : t.ph = 2) (ed : t.dn = false) => anext_any (w := W0) (X := X) e0 ed ep hd
 obtain ⟨bb,hbb⟩ : ∃ bb,X.b = bb := ⟨_,rfl⟩
 rw [hbb] at hb hnone ⊢
 obtain ⟨rb,hrb⟩ : ∃ rb,w.heap.size = rb := ⟨_,rfl⟩
 rw [hrb] at hn0
 have b0 : W0.cell? ⟨bb,0,none⟩ = some (phV X t) := hb.cell 0
 have b3 : W0.cell? ⟨bb,3,none⟩ = some (.bool t.dn) := hb.cell 3
 have HN := hZ0 hnone;have HK0 := hZ0 hk0;have HN0 := hZ0 hn0;have HW := hZ0 hw;have HR := hZ0 hr;have HA := hZ0 ha;have HRB := hZ0 (show w.heap.size <= rb by omega)
 clear hnone hk0 hn0 hw hr ha h0 h hok hbl hb hbb
 unfold zcells at hW0
 cases hdn : t.dn with
 | true =>
  have hx : nextT t ep hd = (-1,zmsg) := by unfold nextT;rw [if_pos hdn]
  obtain ⟨W6,hst,hb6,hk6⟩ := put_msg HN0.out rfl zmsg
  unfold xcell zmsg at hst
  dsimp only [List.length_nil] at hst
  have HX := hZ0 hx;have HB6 := hZ0 hb6;have HK6 := hZ0 hk6
  rw [hdn] at b3
  clear hx hb6 hk6 hdn
  go_enter Try.func9,Try.ntmps9
  go_wp2_with fail
  clear hW0
  refine HN.out.mono ?_
  rintro e w1 ⟨rfl,rfl⟩
  go_wp2
  refine bodyPost_ret (results_tmp_row rfl _ _ rb _ rfl (load_msg HB6.out)) rfl ?_
  refine ⟨none,0,?_,?_,?_,(fun _ h => by cases h),?_⟩
  ·rw [HX.out];rfl
  ·rw [HX.out];exact Src.nil _ _ _
  ·rw [HX.out];exact Nat.le_refl _
  ·exact HK0.out.trans HK6.out (fun i hi => .inr (by rw [hi];exact HRB.out))
 | false =>
  rw [hdn] at b3
  have HDN := hZ0 hdn
  have hpost : ∀ (e : Ending) w2,NextPost W0 t ep hd e w2 -> ∃ (to : Int) (x : MsgR) (W6 : World),e = .returned (.tuple #[.int .i64 to,xagg x]) /\ (storeMsg ⟨rb,0,none⟩ (.agg (xcell x).toArray)).run Try.prog w2 = .ok () W6 /\ Has W6 rb 34 (xcell x).toArray /\ NextPost w t ep hd (.returned (.tuple #[.int .i64 to,xagg x])) W6 := fun e w2 hp => by
   obtain ⟨A,c,rfl,hs,hl,hnw,hk⟩ := hp
   obtain ⟨W6,g1,g2,g3⟩ := put_msg (HN0.out.kept hk (fun z => z)) rfl { (nextT t ep hd).2 with oA := A,oc := c }
   refine ⟨_,_,W6,rfl,g1,g2,A,c,rfl,src_off hs g3 (fun _ ad e1 e2 => ?_),hl,(fun ad e1 => Nat.le_trans HK0.out.size (hnw ad e1)),(HK0.out.then hk).trans g3 (fun i hi => .inr (by rw [hi];exact HRB.out))⟩
   have := hnw ad e1;have := HN0.out.lt;omega
  have HP := hZ0 hpost
  clear hdn hpost
  rcases (show t.ph = 0 \/ t.ph = 1 \/ t.ph = 2 by omega) with e | e | e
  ·have hc := HW.out e HDN.out
   rw [phV0 e] at b0
   obtain ⟨cs,hcs⟩ : ∃ cs,(ccell X t).toArray = cs := ⟨_,rfl⟩
   rw [hcs] at hc b0
   clear hcs
   have hm : ∀ w : World,(method 263 84 (.agg cs) "catena/asks.next").run Try.prog w = .ok (102,.agg cs) w := fun _ => by kernel_rfl
   have HC := hZ0 hc
   clear hc e hphs
   go_enter Try.func9,Try.ntmps9
   go_wp2_with fail
   clear hW0
   refine HN.out.mono ?_
   rintro e w1 ⟨rfl,rfl⟩
   go_wp2_with fail
   refine HC.out.mono ?_
   intro e w2 hp
   obtain ⟨to,x,W6,rfl,hst,hb6,hpost⟩ := HP.out _ _ hp
   have HB6 := hZ0 hb6;have HPO := hZ0 hpost
   unfold xagg
   obtain ⟨xs,hxs⟩ : ∃ xs,(xcell x).toArray = xs := ⟨_,rfl⟩
   rw [hxs] at hst ⊢
   have HXS := hZ0 hxs
   clear hp hb6 hpost hxs
   go_wp2
   refine bodyPost_ret (results_tmp_row rfl _ _ rb _ rfl (load_msg HB6.out)) rfl ?_
   exact HPO.out
  ·have hc := HR.out e HDN.out
   rw [phV1 e] at b0
   have hm : ∀ w : World,(method 263 78 (.pointer (some ⟨X.g,0,none⟩)) "catena/asks.next").run Try.prog w = .ok (96,.pointer (some ⟨X.g,0,none⟩)) w := fun _ => by kernel_rfl
   have HC := hZ0 hc
   clear hc e hphs
   go_enter Try.func9,Try.ntmps9
   go_wp2_with fail
   clear hW0
   refine HN.out.mono ?_
   rintro e w1 ⟨rfl,rfl⟩
   go_wp2_with fail
   refine HC.out.mono ?_
   intro e w2 hp
   obtain ⟨to,x,W6,rfl,hst,hb6,hpost⟩ := HP.out _ _ hp
   have HB6 := hZ0 hb6;have HPO := hZ0 hpost
   unfold xagg
   obtain ⟨xs,hxs⟩ : ∃ xs,(xcell x).toArray = xs := ⟨_,rfl⟩
   rw [hxs] at hst ⊢
   have HXS := hZ0 hxs
   clear hp hb6 hpost hxs
   go_wp2
   refine bodyPost_ret (results_tmp_row rfl _ _ rb _ rfl (load_msg HB6.out)) rfl ?_
   exact HPO.out
  ·have hc := HA.out e HDN.out
   rw [phV2 e] at b0
   obtain ⟨cs,hcs⟩ : ∃ cs,(ccell X t).toArray = cs := ⟨_,rfl⟩
   rw [hcs] at hc b0
   clear hcs
   have hm : ∀ w : World,(method 263 89 (.agg cs) "catena/asks.next").run Try.prog w = .ok (106,.agg cs) w := fun _ => by kernel_rfl
   have HC := hZ0 hc
   clear hc e hphs
   go_enter Try.func9,Try.ntmps9
   go_wp2_with fail
   clear hW0
   refine HN.out.mono ?_
   rintro e w1 ⟨rfl,rfl⟩
   go_wp2_with fail
   refine HC.out.mono ?_
   intro e w2 hp
   obtain ⟨to,x,W6,rfl,hst,hb6,hpost⟩ := HP.out _ _ hp
   have HB6 := hZ0 hb6;have HPO := hZ0 hpost
   unfold xagg
   obtain ⟨xs,hxs⟩ : ∃ xs,(xcell x).toArray = xs := ⟨_,rfl⟩
   rw [hxs] at hst ⊢
   have HXS := hZ0 hxs
   clear hp hb6 hpost hxs
   go_wp2
   refine bodyPost_ret (results_tmp_row rfl _ _ rb _ rfl (load_msg HB6.out)) rfl ?_
   exact HPO.out
end
end Ask
namespace Ask
open Plan Ops Ent Msg MO Vn
section
variable {w w' : World} {X : PX} {t : TS} {G : Nat -> Prop}
theorem ta_rd (X : PX) (t : TS) (W : World) : (Instr.typeAssert (phV X t) 44 78 true).run Try.prog W = .ok (.tuple #[.pointer (if t.ph = 1 then some ⟨X.g,0,none⟩ else none),.bool (decide (t.ph = 1))]) W := by
 unfold phV
 by_cases h0 : t.ph = 0
 ·rw [if_pos h0,if_neg (by omega),decide_eq_false (by omega)]
  obtain ⟨cs,hcs⟩ : ∃ cs,(ccell X t).toArray = cs := ⟨_,rfl⟩
  rw [hcs]
  kernel_rfl
 ·by_cases h1 : t.ph = 1
  ·rw [if_neg h0,if_pos h1,if_pos h1,decide_eq_true h1]
   kernel_rfl
  ·rw [if_neg h0,if_neg h1,if_neg h1,decide_eq_false h1]
   obtain ⟨cs,hcs⟩ : ∃ cs,(ccell X t).toArray = cs := ⟨_,rfl⟩
   rw [hcs]
   kernel_rfl
def zcc : Array Value := #[.int .i64 0,.int .i64 0,.slice none 0 0,.int .i64 0,.int .i64 0,.string ⟨#[]⟩,.string ⟨#[]⟩,.int .u64 0,.int .i64 0,.slice none 0 0]
theorem ta_wr (X : PX) (t : TS) (W : World) : (Instr.typeAssert (phV X t) 44 84 true).run Try.prog W = .ok (.tuple #[.agg (if t.ph = 0 then (ccell X t).toArray else zcc),.bool (decide (t.ph = 0))]) W := by
 unfold phV
 obtain ⟨cs,hcs⟩ : ∃ cs,(ccell X t).toArray = cs := ⟨_,rfl⟩
 rw [hcs]
 by_cases h0 : t.ph = 0
 ·rw [if_pos h0,if_pos h0,decide_eq_true h0]
  kernel_rfl
 ·rw [if_neg h0,if_neg h0,decide_eq_false h0]
  by_cases h1 : t.ph = 1
  ·rw [if_pos h1]
   kernel_rfl
  ·rw [if_neg h1]
   kernel_rfl
theorem pwrites_any (h : PAt w X t) : Calls Try.prog 13 #[.pointer (some ⟨X.b,0,none⟩)] w fun e w' => e = .returned (.bool (!t.dn && decide (t.ph = 0))) /\ Kept NoF w w' := by
 have hnone := none_any h
 have hb := h.b
 unfold tcell at hb
 obtain ⟨bb,hbb⟩ : ∃ bb,X.b = bb := ⟨_,rfl⟩
 rw [hbb] at hb hnone ⊢
 have b0 : w.cell? ⟨bb,0,none⟩ = some (phV X t) := hb.cell 0
 have b3 : w.cell? ⟨bb,3,none⟩ = some (.bool t.dn) := hb.cell 3
 have hta := ta_wr X t
 obtain ⟨v0,hv0⟩ : ∃ v0,decide (t.ph = 0) = v0 := ⟨_,rfl⟩
 rw [hv0] at hta ⊢
 have hcs : ∃ x0 x1 A1 n1 c1 x3 x4 s5 s6 x7 x8 A9 n9 c9,(if t.ph = 0 then (ccell X t).toArray else zcc) = #[.int .i64 x0,.int .i64 x1,.slice A1 n1 c1,.int .i64 x3,.int .i64 x4,.string s5,.string s6,.int .u64 x7,.int .i64 x8,.slice A9 n9 c9] := by
  by_cases h0 : t.ph = 0
  ·rw [if_pos h0]
   exact ⟨_,_,_,_,_,_,_,_,_,_,_,_,_,_,rfl⟩
  ·rw [if_neg h0]
   exact ⟨_,_,_,_,_,_,_,_,_,_,_,_,_,_,rfl⟩
 obtain ⟨cs,hcse⟩ : ∃ cs,(if t.ph = 0 then (ccell X t).toArray else zcc) = cs := ⟨_,rfl⟩
 rw [hcse] at hta hcs
 obtain ⟨x0,x1,A1,n1,c1,x3,x4,s5,s6,x7,x8,A9,n9,c9,rfl⟩ := hcs
 obtain ⟨pv,hpv⟩ : ∃ pv,phV X t = pv := ⟨_,rfl⟩
 rw [hpv] at b0 hta
 have HN := hZ0 hnone
 clear hnone hb h hbb hpv hcse
 cases hdn : t.dn with
 | true =>
  rw [hdn] at b3
  clear hdn
  go_enter Try.func13,Try.ntmps13
  go_wp2_with fail
  refine HN.out.mono ?_
  rintro e w1 ⟨rfl,rfl⟩
  go_wp2
  go_ret
  exact ⟨rfl,Kept.refl _ _⟩
 | false =>
  rw [hdn] at b3
  clear hdn hv0
  go_enter Try.func13,Try.ntmps13
  go_wp2_with fail
  refine HN.out.mono ?_
  rintro e w1 ⟨rfl,rfl⟩
  go_wp2
  go_ret
  exact ⟨by simp,by (repeat' (first | (with_reducible first | exact kR0 | apply kP0 | apply kN0 | apply kD0 | apply kA0) | (right;simp;done)))⟩
theorem PAt.upd {t' : TS} (h : PAt w X t) (hk : Kept (fun k => k = X.b) w w') (hb : Has w' X.b 48 (tcell X t')) (hg : gcell X t' = gcell X t) (hbo : t'.bo = t.bo) (hph : t'.ph = t.ph) (hps : t'.ps = t.ps) (hr : t'.r = t.r) (hd : t'.dn = t.dn) : PAt w' X t' := by
 have hne : ∀ {e : TypeId} {size n : Nat} {v : Value} {xs : List Value},w.ownsRow 0 e size v n xs -> e ≠ 48 -> w'.ownsRow 0 e size v n xs := fun ho he => own_kept ho hk (fun k hk2 e2 => own_ne ho h.b he (e2 ▸ hk2))
 refine ⟨hb,fun e => ?_,?_,?_,?_,?_,?_⟩
 ·rw [hph] at e
  have g := h.g e
  rw [hg]
  exact g.kept hk (fun e2 => Has.ne g h.b (by decide) e2)
 ·rw [hph,hps];exact h.g0
 ·rw [hbo];exact hne h.bo (by decide)
 ·rw [hps];exact hne h.p (by decide)
 ·rw [hr];exact hne h.r (by decide)
 ·rw [hd,hr];exact h.nd
theorem PPost.of_end {t' : TS} {r : RepR} {A : Option Addr} {c : Nat} {w1 w2 : World} {v : Value} (hk : Kept (foot X t) w w1) (h2 : PAt w2 { X with rA := A,rc := c } (endT t' r)) (hk2 : Kept (fun k => k = X.b) w1 w2)
  (hf : ∀ k,foot { X with rA := A,rc := c } (endT t' r) k -> foot X t k \/ w.heap.size <= k) : PPost w X t v (endT t' r) (.returned v) w2 :=
 ⟨rfl,_,h2,rfl,hf,hk.then (hk2.mono (fun k e => .inl e))⟩
theorem foot_end {e : Int} {k : Nat} {n : Int} (hk : foot { X with rA := none,rc := 0 } (endT { t with waits := n } ⟨0,e,0,0,[]⟩) k) : foot X t k \/ w.heap.size <= k := by
 rcases hk with e | e | e | e | e
 ·exact .inl (.inl e)
 ·exact .inl (.inr (.inl e))
 ·exact .inl (.inr (.inr (.inl e)))
 ·exact .inl (.inr (.inr (.inr (.inl e))))
 ·exact absurd e (by simp [Value.ownBlock])
theorem ptick_any (h : PAt w X t) (hok : TOk t) : Calls Try.prog 12 #[.pointer (some ⟨X.b,0,none⟩)] w (PPost w X t (.bool (tickT t).2) (tickT t).1) := by
 have hnone := none_any h
 have hb := h.b
 have hta := ta_rd X t
 have HH := hZ0 h;have HWT := hZ0 hok.wt
 unfold tcell at hb
 have HB := hZ0 hb
 have hwt := hok.wt
 cases hdn : t.dn with
 | true =>
  have hx : tickT t = (t,false) := by unfold tickT;rw [if_pos hdn]
  rw [hx]
  have b3 : w.cell? ⟨X.b,3,none⟩ = some (.bool true) := by rw [<- hdn];exact hb.cell 3
  have HN := hZ0 hnone
  clear hnone hb h hx hok hwt hta hdn
  go_enter Try.func12,Try.ntmps12
  go_wp2_with fail
  refine HN.out.mono ?_
  rintro e w1 ⟨rfl,rfl⟩
  go_wp2
  go_ret
  exact ⟨rfl,X,HH.out,rfl,fun k hk => .inl hk,Kept.refl _ _⟩
 | false =>
  obtain ⟨n,hn⟩ : ∃ n,min (t.waits + 1) 1073741824 = n := ⟨_,rfl⟩
  have hwr : IntKind.i64.wrap (t.waits + 1) = t.waits + 1 := IntWalk.i64_in _ (by omega)
  have hmn := run_min (t.waits + 1) 1073741824 n hn
  obtain ⟨bb,hbb⟩ : ∃ bb,X.b = bb := ⟨_,rfl⟩
  rw [hbb] at hb hnone HB ⊢
  have b0 : w.cell? ⟨bb,0,none⟩ = some (phV X t) := hb.cell 0
  have b2 : w.cell? ⟨bb,2,none⟩ = some (.int .i64 t.waits) := hb.cell 2
  have f2 := hb.frozen 2
  have b3 : w.cell? ⟨bb,3,none⟩ = some (.bool false) := by rw [<- hdn];exact hb.cell 3
  obtain ⟨W1,hW1⟩ : ∃ W1,w.setCell ⟨bb,2,none⟩ (.int .i64 n) = W1 := ⟨_,rfl⟩
  have hb1 : Has W1 bb 48 (tcell X { t with waits := n }) := by rw [<- hW1];exact HB.out.put_of rfl
  have hk1 : Kept (fun k => k = bb) w W1 := by rw [<- hW1];(repeat' (first | (with_reducible first | exact kR0 | apply kP0 | apply kN0 | apply kD0 | apply kA0) | (exact .inl rfl) | (right;simp;done)))
  have h1 : PAt W1 X { t with waits := n } := h.upd (by rw [hbb];exact hk1) (by rw [hbb];exact hb1) rfl rfl rfl rfl rfl rfl
  have d0 : W1.cell? ⟨bb,0,none⟩ = some (phV X t) := hb1.cell 0
  have d2 : W1.cell? ⟨bb,2,none⟩ = some (.int .i64 n) := hb1.cell 2
  have d3 : W1.cell? ⟨bb,3,none⟩ = some (.bool false) := by rw [<- hdn];exact hb1.cell 3
  have hend := end_any h1 ⟨0,21,0,0,[]⟩ none 0 ⟨rfl,.inl ⟨rfl,rfl⟩⟩
  rw [hbb] at hend
  have hx : tickT t = if t.ph = 1 /\ 16 < n then (endT { t with waits := n } ⟨0,21,0,0,[]⟩,false) else ({ t with waits := n },true) := by unfold tickT;rw [if_neg (by rw [hdn];decide),hn]
  have HX := hZ0 hx;have HEND := hZ0 hend;have HH1 := hZ0 h1;have HK1 := hZ0 hk1;have HBB := hZ0 hbb;have HN := hZ0 hnone
  obtain ⟨pv,hpv⟩ : ∃ pv,phV X t = pv := ⟨_,rfl⟩
  rw [hpv] at b0 d0 hta
  by_cases h16 : t.ph = 1 /\ 16 < n
  ·rw [hx,if_pos h16]
   rw [if_pos h16.1,decide_eq_true h16.1] at hta
   have hgt := h16.2
   clear hnone hb h hx hok hwt hdn hb1 hk1 h1 hend hbb hpv h16 HB hn
   go_enter Try.func12,Try.ntmps12
   go_wp2_with fail
   refine HN.out.mono ?_
   rintro e w1 ⟨rfl,rfl⟩
   go_wp2_with fail
   clear hW1 b0 b2 b3 d0 d2 d3 f2
   refine HEND.out.mono ?_
   rintro e w2 ⟨rfl,hp2,hk2⟩
   have y3 : w2.cell? ⟨bb,3,none⟩ = some (.bool true) := by have e9 := HBB.out;subst e9;exact hp2.b.cell 3
   have HP2 := hZ0 hp2;have HK2 := hZ0 hk2
   clear hp2 hk2
   go_wp2
   go_ret
   have e9 := HBB.out
   subst e9
   exact PPost.of_end (w1 := W1) (HK1.out.mono (fun k e => .inl e)) HP2.out HK2.out (fun k hk => foot_end hk)
  ·rw [hx,if_neg h16]
   have hcond : (decide (t.ph = 1) && decide (16 < n)) = false := by
    rw [Bool.and_eq_false_iff]
    rcases (show ¬ t.ph = 1 \/ ¬ 16 < n by omega) with e | e
    ·exact .inl (decide_eq_false e)
    ·exact .inr (decide_eq_false e)
   by_cases h1p : t.ph = 1
   ·have hle : ¬ 16 < n := fun e => h16 ⟨h1p,e⟩
    rw [if_pos h1p,decide_eq_true h1p] at hta
    clear hnone hb h hx hok hwt hdn hb1 hk1 h1 hend hbb hpv h16 HB hn h1p hcond
    go_enter Try.func12,Try.ntmps12
    go_wp2_with fail
    refine HN.out.mono ?_
    rintro e w1 ⟨rfl,rfl⟩
    go_wp2
    go_ret
    have e9 := HBB.out
    subst e9
    exact ⟨rfl,X,HH1.out,rfl,fun k hk => .inl hk,HK1.out.mono (fun k e => .inl e)⟩
   ·rw [if_neg h1p,decide_eq_false h1p] at hta
    clear hnone hb h hx hok hwt hdn hb1 hk1 h1 hend hbb hpv h16 HB hn h1p hcond
    go_enter Try.func12,Try.ntmps12
    go_wp2_with fail
    refine HN.out.mono ?_
    rintro e w1 ⟨rfl,rfl⟩
    go_wp2
    go_ret
    have e9 := HBB.out
    subst e9
    exact ⟨rfl,X,HH1.out,rfl,fun k hk => .inl hk,HK1.out.mono (fun k e => .inl e)⟩
end
end Ask
end Go.Proofs.Ytobfdolhgnoedaa
