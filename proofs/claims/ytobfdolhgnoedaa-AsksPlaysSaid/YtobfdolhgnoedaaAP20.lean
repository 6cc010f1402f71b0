/- Part 21 of what the proof needs. -/
import Derived.Test.YtobfdolhgnoedaaAP15
set_option linter.unusedSimpArgs false
set_option linter.unusedVariables false
set_option maxHeartbeats 32000000
set_option maxRecDepth 100000
namespace Go.Proofs.Ytobfdolhgnoedaa
open Go.RowKit
set_option maxRecDepth 100000
namespace Ask
open Plan Ops Ent Msg MO Vn
attribute [local go_sem ↓] storeVar_msg loadVar_msg
def NextPostD (w : World) (X : DX) (t : TS) (ep hd : Int) (e : Ending) (w' : World) : Prop :=
 ∃ A c,e = .returned (.tuple #[.int .i64 (nextT t ep hd).1,xagg { (nextT t ep hd).2 with oA := A,oc := c }]) /\ Src w' 3 A (nextT t ep hd).2.ops.length (cells (nextT t ep hd).2.ops) /\ (nextT t ep hd).2.ops.length <= c /\ (∀ ad,A = some ad -> footD X t ad.block) /\ Kept NoF w w'
section
variable {w w' : World} {X : DX} {t : TS} {G : Nat -> Prop}
theorem dnext_any (h : DAt w X t) (hok : TOk t) (ep hd : Int) : Calls Try.prog 16 #[.pointer (some ⟨X.b,0,none⟩),.int .i64 ep,.int .i64 hd] w (NextPostD w X t ep hd) := by
 obtain ⟨W0,hW0⟩ : ∃ W0,w.alloc (.cells zcells 34) = W0 := ⟨_,rfl⟩
 have hk0 : Kept NoF w W0 := by rw [<- hW0];(repeat' (first | (with_reducible first | exact kR0 | apply kP0 | apply kN0 | apply kD0 | apply kA0) | (right;simp;done)))
 have hn0 : Has W0 w.heap.size 34 zcells := by rw [<- hW0];exact Has.new _ _ _
 have h0 := h.quiet hk0
 have hb := h0.b
 have hsz := fun W (hW : Kept NoF W0 W) => dsize_any (h0.quiet hW) hok
 have hphs := hok.ph
 obtain ⟨bb,hbb⟩ : ∃ bb,X.b = bb := ⟨_,rfl⟩
 rw [hbb] at hb ⊢
 simp only [hbb] at hsz
 obtain ⟨z,hz⟩ : ∃ z,sizeT t = z := ⟨_,rfl⟩
 simp only [hz] at hsz
 obtain ⟨rb,hrb⟩ : ∃ rb,w.heap.size = rb := ⟨_,rfl⟩
 rw [hrb] at hn0
 have hne : bb ≠ rb := fun e => Has.ne hb hn0 (by decide) e
 obtain ⟨n,hn⟩ : ∃ n,t.bo.length = n := ⟨_,rfl⟩
 obtain ⟨pz,hpz⟩ : ∃ pz : Int,(t.ph : Int) = pz := ⟨_,rfl⟩
 have hcs : ∀ W,Kept (fun k => k = rb) W0 W -> W.cell? ⟨bb,0,none⟩ = some (.int .i64 t.cl) /\ W.cell? ⟨bb,1,none⟩ = some (.int .i64 t.rq) /\ W.cell? ⟨bb,2,none⟩ = some (.slice X.bA n X.bc) /\ W.cell? ⟨bb,4,none⟩ = some (.int .i64 t.a.nd) /\ W.cell? ⟨bb,6,none⟩ = some (.string t.a.to) /\ W.cell? ⟨bb,7,none⟩ = some (.int .u64 t.a.at') /\ W.cell? ⟨bb,8,none⟩ = some (.int .i64 t.a.n) /\ W.cell? ⟨bb,11,none⟩ = some (.int .u64 t.at') /\ W.cell? ⟨bb,12,none⟩ = some (.string t.key) := fun W hW => by
  have hb2 := hb.kept hW hne
  exact ⟨hb2.cell 0,hb2.cell 1,by rw [<- hn];exact hb2.cell 2,hb2.cell 4,hb2.cell 6,hb2.cell 7,hb2.cell 8,hb2.cell 11,hb2.cell 12⟩
 have b1 : W0.cell? ⟨bb,1,none⟩ = some (.int .i64 t.rq) := hb.cell 1
 have b3 : W0.cell? ⟨bb,3,none⟩ = some (.int .i64 t.a.k) := hb.cell 3
 have b10 : W0.cell? ⟨bb,10,none⟩ = some (.int .i64 pz) := by rw [<- hpz];exact hb.cell 10
 have b15 : W0.cell? ⟨bb,15,none⟩ = some (.bool t.dn) := hb.cell 15
 have hsrc : ∀ W,Kept (fun k => k = rb) W0 W -> Src W 3 X.bA n (cells t.bo) := fun W hW => by
  have h1 := own_kept h0.bo hW (fun k hk e => own_ne h0.bo hn0 (by decide) (e ▸ hk))
  rw [hn] at h1
  exact Src.of_own h1
 have hcap := (own_cap h.bo).1
 rw [hn] at hcap
 have hpost : ∀ (to : Int) (m : MsgR) W6,nextT t ep hd = (to,m) -> m.ops = [] -> m.oA = none -> m.oc = 0 -> Kept (fun k => k = rb) W0 W6 -> NextPostD w X t ep hd (.returned (.tuple #[.int .i64 to,xagg m])) W6 := fun to m W6 e1 e2 e3 e4 hk => by
  refine ⟨none,0,?_,?_,?_,(fun ad e => by cases e),hk0.trans hk (fun i hi => .inr (by rw [hi,<- hrb];exact Nat.le_refl _))⟩
  ·rw [e1]
   have e5 : { m with oA := none,oc := 0 } = m := by rw [<- e3,<- e4]
   show Ending.returned (.tuple #[.int .i64 to,xagg m]) = .returned (.tuple #[.int .i64 to,xagg { m with oA := none,oc := 0 }])
   rw [e5]
  ·rw [e1];show Src W6 3 none m.ops.length (cells m.ops);rw [e2];exact Src.nil _ _ _
  ·rw [e1];show m.ops.length <= 0;rw [e2];exact Nat.le_refl _
 have HOB := hZ0 (show ∀ ad,X.bA = some ad -> footD X t ad.block from fun ad e => by
  rcases h.bo.2 with ⟨h1,_⟩ | ⟨g,cap,cur,h1,_⟩
  ·rw [e] at h1;injection h1 with h1;cases h1
  ·rw [e] at h1
   injection h1 with h1
   injection h1 with h1
   refine .inr (.inr (.inl ?_))
   rw [e,h1]
   simp [Value.ownBlock])
 have HPOST := hZ0 hpost;have HCS := hZ0 hcs;have HSZ := hZ0 hsz;have HSRC := hZ0 hsrc;have HN0 := hZ0 hn0;have HK0 := hZ0 hk0;have HPZ := hZ0 hpz;have HZ := hZ0 hz;have HNE := hZ0 hn;have HRB := hZ0 hrb
 have y0 := hcs W0 (Kept.refl _ _)
 unfold zcells at hW0
 clear hpost hcs hsz hsrc hn0 hk0 h0 hb h hok hbb hz hn
 cases hdn : t.dn with
 | true =>
  rw [hdn] at b15
  have hx : nextT t ep hd = (-1,zmsg) := by unfold nextT;rw [if_pos hdn]
  obtain ⟨W6,hst,hb6,hk6⟩ := put_msg (show Has W0 rb 34 zcells from HN0.out) rfl zmsg
  have hk06 : Kept (fun k => k = rb) W0 W6 := hk6
  have y6 := HCS.out W6 hk06
  unfold xcell zmsg at hst
  dsimp only [List.length_nil] at hst
  have HX := hZ0 hx;have HB6 := hZ0 hb6;have HK6 := hZ0 hk06
  clear hx hb6 hk6 hk06 hdn hphs
  go_enter Try.func16,Try.ntmps16
  go_wp2
  refine bodyPost_ret (results_tmp_row rfl _ _ rb _ rfl (load_msg (x := zmsg) HB6.out)) rfl ?_
  exact HPOST.out _ _ _ HX.out rfl rfl rfl HK6.out
 | false =>
  have HDN := hZ0 hdn
  rw [hdn] at b15
  have hd0 : ¬ t.dn = true := by rw [hdn];decide
  clear hdn
  have HD0 := hZ0 hd0
  clear hd0
  rcases (show t.ph = 0 \/ t.ph = 1 \/ t.ph = 2 by omega) with e | e | e
  ·have p0 : (pz == 0) = true := by rw [<- HPZ.out,e];rfl
   by_cases hh : hd < 0
   ·have hx : nextT t ep hd = (4,{ zmsg with k := 15 }) := by unfold nextT;rw [if_neg HD0.out,if_pos e,if_pos hh]
    obtain ⟨W6,hst,hb6,hk6⟩ := put_msg (show Has W0 rb 34 zcells from HN0.out) rfl { zmsg with k := 15 }
    have hk06 : Kept (fun k => k = rb) W0 W6 := hk6
    have y6 := HCS.out W6 hk06
    unfold xcell zmsg at hst
    dsimp only [List.length_nil] at hst
    have HX := hZ0 hx;have HB6 := hZ0 hb6;have HK6 := hZ0 hk06
    clear hx hb6 hk6 hk06 e hphs hpz
    go_enter Try.func16,Try.ntmps16
    go_wp2
    refine bodyPost_ret (results_tmp_row rfl _ _ rb _ rfl (load_msg (x := { zmsg with k := 15 }) HB6.out)) rfl ?_
    exact HPOST.out _ _ _ HX.out rfl rfl rfl HK6.out
   ·obtain ⟨M,hM⟩ : ∃ M,max ep 0 = M := ⟨_,rfl⟩
    have hmx := run_max ep 0 M hM
    have HMX := hZ0 hM
    clear hM
    have hx : nextT t ep hd = (hd,{ zmsg with k := 5,ep := max ep 0,bcl := t.cl,breq := t.rq,ops := t.bo }) := by unfold nextT;rw [if_neg HD0.out,if_pos e,if_neg hh]
    obtain ⟨W6,hst,hb6,hk6⟩ := put_msg (show Has W0.drew rb 34 zcells from HN0.out) rfl { zmsg with k := 5,ep := M,bcl := t.cl,breq := t.rq,oA := X.bA,oc := X.bc,ops := t.bo }
    have hk06 : Kept (fun k => k = rb) W0 W6 := ((Kept.refl _ W0).drew).then hk6
    have y6 := HCS.out W6 hk06
    unfold xcell zmsg at hst
    dsimp only [List.length_nil] at hst
    rw [HNE.out] at hst
    have HX := hZ0 hx;have HB6 := hZ0 hb6;have HK6 := hZ0 hk06
    clear hx hb6 hk6 hk06 e hphs hpz
    go_enter Try.func16,Try.ntmps16
    go_wp2
    go_region_held3 (fun W => W.cell? ⟨bb,0,none⟩ = some (.int .i64 t.cl) /\ W.cell? ⟨bb,1,none⟩ = some (.int .i64 t.rq) /\ W.cell? ⟨bb,2,none⟩ = some (.slice X.bA n X.bc) /\ W.cell? ⟨bb,4,none⟩ = some (.int .i64 t.a.nd) /\ W.cell? ⟨bb,6,none⟩ = some (.string t.a.to) /\ W.cell? ⟨bb,7,none⟩ = some (.int .u64 t.a.at') /\ W.cell? ⟨bb,8,none⟩ = some (.int .i64 t.a.n) /\ W.cell? ⟨bb,11,none⟩ = some (.int .u64 t.at') /\ W.cell? ⟨bb,12,none⟩ = some (.string t.key))
     (first | with_reducible exact y6 | with_reducible exact y4 | with_reducible exact y0 | exact y0)
     (fail)
    all_goals
     go_wp2
     refine bodyPost_ret (results_tmp_row rfl _ _ rb _ rfl (load_msg (x := { zmsg with k := 5,ep := M,bcl := t.cl,breq := t.rq,oA := X.bA,oc := X.bc,ops := t.bo }) HB6.out)) rfl ?_
     refine ⟨X.bA,X.bc,?_,?_,?_,HOB.out,HK0.out.trans HK6.out (fun i hi => .inr (by rw [hi,<- HRB.out];exact Nat.le_refl _))⟩
     ·rw [HX.out,HMX.out];rfl
     ·rw [HX.out];show Src W6 3 X.bA t.bo.length (cells t.bo);rw [HNE.out];exact HSRC.out _ HK6.out
     ·rw [HX.out];show t.bo.length <= X.bc;rw [HNE.out];exact hcap
  ·have p0 : (pz == 0) = false := by rw [<- HPZ.out,e];rfl
   have p1 : (pz == 1) = true := by rw [<- HPZ.out,e];rfl
   by_cases h2 : t.a.k = 2
   ·have k2 : (t.a.k == 2) = true := by simpa using h2
    have hx : nextT t ep hd = (t.a.nd,{ zmsg with k := 9,req := t.rq,key := t.key,to := t.a.to,at' := t.at',n := z }) := by unfold nextT;rw [if_neg HD0.out,if_neg (by omega),if_pos e,if_pos h2,HZ.out]
    have hm := fun W (hW : Kept NoF W0 W) => put_msg (HN0.out.kept hW (fun z => z)) rfl { zmsg with k := 9,req := t.rq,key := t.key,to := t.a.to,at' := t.at',n := z }
    unfold xcell zmsg at hm
    dsimp only [List.length_nil] at hm
    have HX := hZ0 hx;have HM := hZ0 hm
    clear hx hm e hphs h2 hpz
    go_enter Try.func16,Try.ntmps16
    go_wp2
    go_region_held3 (fun W => W.cell? ⟨bb,0,none⟩ = some (.int .i64 t.cl) /\ W.cell? ⟨bb,1,none⟩ = some (.int .i64 t.rq) /\ W.cell? ⟨bb,2,none⟩ = some (.slice X.bA n X.bc) /\ W.cell? ⟨bb,4,none⟩ = some (.int .i64 t.a.nd) /\ W.cell? ⟨bb,6,none⟩ = some (.string t.a.to) /\ W.cell? ⟨bb,7,none⟩ = some (.int .u64 t.a.at') /\ W.cell? ⟨bb,8,none⟩ = some (.int .i64 t.a.n) /\ W.cell? ⟨bb,11,none⟩ = some (.int .u64 t.at') /\ W.cell? ⟨bb,12,none⟩ = some (.string t.key))
     (first | with_reducible exact y6 | with_reducible exact y4 | with_reducible exact y0 | exact y0)
     (first | (go_at_call 33;refine (HSZ.out _ (by (repeat' (first | (with_reducible first | exact kR0 | apply kP0 | apply kN0 | apply kD0 | apply kA0) | (right;simp;done))))).mono ?_;rintro e w4 ⟨rfl,hk4⟩;have hk := Kept.then (F := NoF) (a := W0) (by (repeat' (first | (with_reducible first | exact kR0 | apply kP0 | apply kN0 | apply kD0 | apply kA0) | (right;simp;done)))) hk4;have y4 := HCS.out w4 (hk.mono (fun _ z => z.elim));obtain ⟨W6,hst,hb6,hk6⟩ := HM.out w4 hk;have y6 := HCS.out W6 (Kept.then (hk.mono (fun _ z => z.elim)) hk6);have HB6 := hZ0 hb6;have HK6 := hZ0 (Kept.then (hk.mono (G := fun k => k = rb) (fun _ z => z.elim)) hk6);clear hb6 hk6 hk hk4))
    all_goals
     go_wp2
     refine bodyPost_ret (results_tmp_row rfl _ _ rb _ rfl (load_msg (x := { zmsg with k := 9,req := t.rq,key := t.key,to := t.a.to,at' := t.at',n := z }) HB6.out)) rfl ?_
     exact HPOST.out _ _ _ HX.out rfl rfl rfl HK6.out
   ·have k2 : (t.a.k == 2) = false := by simpa using h2
    have hx : nextT t ep hd = (t.a.nd,{ zmsg with k := 8,req := t.rq,key := t.key,at' := t.at' }) := by unfold nextT;rw [if_neg HD0.out,if_neg (by omega),if_pos e,if_neg h2]
    obtain ⟨W6,hst,hb6,hk6⟩ := put_msg (show Has W0.drew rb 34 zcells from HN0.out) rfl { zmsg with k := 8,req := t.rq,key := t.key,at' := t.at' }
    have hk06 : Kept (fun k => k = rb) W0 W6 := ((Kept.refl _ W0).drew).then hk6
    have y6 := HCS.out W6 hk06
    unfold xcell zmsg at hst
    dsimp only [List.length_nil] at hst
    have HX := hZ0 hx;have HB6 := hZ0 hb6;have HK6 := hZ0 hk06
    clear hx hb6 hk6 hk06 e hphs h2 hpz
    go_enter Try.func16,Try.ntmps16
    go_wp2
    go_region_held3 (fun W => W.cell? ⟨bb,0,none⟩ = some (.int .i64 t.cl) /\ W.cell? ⟨bb,1,none⟩ = some (.int .i64 t.rq) /\ W.cell? ⟨bb,2,none⟩ = some (.slice X.bA n X.bc) /\ W.cell? ⟨bb,4,none⟩ = some (.int .i64 t.a.nd) /\ W.cell? ⟨bb,6,none⟩ = some (.string t.a.to) /\ W.cell? ⟨bb,7,none⟩ = some (.int .u64 t.a.at') /\ W.cell? ⟨bb,8,none⟩ = some (.int .i64 t.a.n) /\ W.cell? ⟨bb,11,none⟩ = some (.int .u64 t.at') /\ W.cell? ⟨bb,12,none⟩ = some (.string t.key))
     (first | with_reducible exact y6 | with_reducible exact y4 | with_reducible exact y0 | exact y0)
     (fail)
    all_goals
     go_wp2
     refine bodyPost_ret (results_tmp_row rfl _ _ rb _ rfl (load_msg (x := { zmsg with k := 8,req := t.rq,key := t.key,at' := t.at' }) HB6.out)) rfl ?_
     exact HPOST.out _ _ _ HX.out rfl rfl rfl HK6.out
  ·have p0 : (pz == 0) = false := by rw [<- HPZ.out,e];rfl
   have p1 : (pz == 1) = false := by rw [<- HPZ.out,e];rfl
   by_cases h4 : t.a.k = 4
   ·have k4 : (t.a.k == 4) = true := by simpa using h4
    have hx : nextT t ep hd = (4,{ zmsg with k := 11,req := t.rq,at' := t.a.at' }) := by unfold nextT;rw [if_neg HD0.out,if_neg (by omega),if_neg (by omega),if_pos h4]
    obtain ⟨W6,hst,hb6,hk6⟩ := put_msg (show Has W0.drew rb 34 zcells from HN0.out) rfl { zmsg with k := 11,req := t.rq,at' := t.a.at' }
    have hk06 : Kept (fun k => k = rb) W0 W6 := ((Kept.refl _ W0).drew).then hk6
    have y6 := HCS.out W6 hk06
    unfold xcell zmsg at hst
    dsimp only [List.length_nil] at hst
    have HX := hZ0 hx;have HB6 := hZ0 hb6;have HK6 := hZ0 hk06
    clear hx hb6 hk6 hk06 e hphs h4 hpz
    go_enter Try.func16,Try.ntmps16
    go_wp2
    go_region_held3 (fun W => W.cell? ⟨bb,0,none⟩ = some (.int .i64 t.cl) /\ W.cell? ⟨bb,1,none⟩ = some (.int .i64 t.rq) /\ W.cell? ⟨bb,2,none⟩ = some (.slice X.bA n X.bc) /\ W.cell? ⟨bb,4,none⟩ = some (.int .i64 t.a.nd) /\ W.cell? ⟨bb,6,none⟩ = some (.string t.a.to) /\ W.cell? ⟨bb,7,none⟩ = some (.int .u64 t.a.at') /\ W.cell? ⟨bb,8,none⟩ = some (.int .i64 t.a.n) /\ W.cell? ⟨bb,11,none⟩ = some (.int .u64 t.at') /\ W.cell? ⟨bb,12,none⟩ = some (.string t.key))
     (first | with_reducible exact y6 | with_reducible exact y4 | with_reducible exact y0 | exact y0)
     (fail)
    all_goals
     go_wp2
     refine bodyPost_ret (results_tmp_row rfl _ _ rb _ rfl (load_msg (x := { zmsg with k := 11,req := t.rq,at' := t.a.at' }) HB6.out)) rfl ?_
     exact HPOST.out _ _ _ HX.out rfl rfl rfl HK6.out
   have k4 : (t.a.k == 4) = false := by simpa using h4
   by_cases h5 : t.a.k = 5
   ·have k5 : (t.a.k == 5) = true := by simpa using h5
    have hx : nextT t ep hd = (4,{ zmsg with k := 12,req := t.rq,n := t.a.n }) := by unfold nextT;rw [if_neg HD0.out,if_neg (by omega),if_neg (by omega),if_neg h4,if_pos h5]
    obtain ⟨W6,hst,hb6,hk6⟩ := put_msg (show Has W0.drew rb 34 zcells from HN0.out) rfl { zmsg with k := 12,req := t.rq,n := t.a.n }
    have hk06 : Kept (fun k => k = rb) W0 W6 := ((Kept.refl _ W0).drew).then hk6
    have y6 := HCS.out W6 hk06
    unfold xcell zmsg at hst
    dsimp only [List.length_nil] at hst
    have HX := hZ0 hx;have HB6 := hZ0 hb6;have HK6 := hZ0 hk06
    clear hx hb6 hk6 hk06 e hphs h4 h5 hpz
    go_enter Try.func16,Try.ntmps16
    go_wp2
    go_region_held3 (fun W => W.cell? ⟨bb,0,none⟩ = some (.int .i64 t.cl) /\ W.cell? ⟨bb,1,none⟩ = some (.int .i64 t.rq) /\ W.cell? ⟨bb,2,none⟩ = some (.slice X.bA n X.bc) /\ W.cell? ⟨bb,4,none⟩ = some (.int .i64 t.a.nd) /\ W.cell? ⟨bb,6,none⟩ = some (.string t.a.to) /\ W.cell? ⟨bb,7,none⟩ = some (.int .u64 t.a.at') /\ W.cell? ⟨bb,8,none⟩ = some (.int .i64 t.a.n) /\ W.cell? ⟨bb,11,none⟩ = some (.int .u64 t.at') /\ W.cell? ⟨bb,12,none⟩ = some (.string t.key))
     (first | with_reducible exact y6 | with_reducible exact y4 | with_reducible exact y0 | exact y0)
     (fail)
    all_goals
     go_wp2
     refine bodyPost_ret (results_tmp_row rfl _ _ rb _ rfl (load_msg (x := { zmsg with k := 12,req := t.rq,n := t.a.n }) HB6.out)) rfl ?_
     exact HPOST.out _ _ _ HX.out rfl rfl rfl HK6.out
   ·have k5 : (t.a.k == 5) = false := by simpa using h5
    have hx : nextT t ep hd = (4,{ zmsg with k := 13,req := t.rq,n := t.a.n }) := by unfold nextT;rw [if_neg HD0.out,if_neg (by omega),if_neg (by omega),if_neg h4,if_neg h5]
    obtain ⟨W6,hst,hb6,hk6⟩ := put_msg (show Has W0.drew rb 34 zcells from HN0.out) rfl { zmsg with k := 13,req := t.rq,n := t.a.n }
    have hk06 : Kept (fun k => k = rb) W0 W6 := ((Kept.refl _ W0).drew).then hk6
    have y6 := HCS.out W6 hk06
    unfold xcell zmsg at hst
    dsimp only [List.length_nil] at hst
    have HX := hZ0 hx;have HB6 := hZ0 hb6;have HK6 := hZ0 hk06
    clear hx hb6 hk6 hk06 e hphs h4 h5 hpz
    go_enter Try.func16,Try.ntmps16
    go_wp2
    go_region_held3 (fun W => W.cell? ⟨bb,0,none⟩ = some (.int .i64 t.cl) /\ W.cell? ⟨bb,1,none⟩ = some (.int .i64 t.rq) /\ W.cell? ⟨bb,2,none⟩ = some (.slice X.bA n X.bc) /\ W.cell? ⟨bb,4,none⟩ = some (.int .i64 t.a.nd) /\ W.cell? ⟨bb,6,none⟩ = some (.string t.a.to) /\ W.cell? ⟨bb,7,none⟩ = some (.int .u64 t.a.at') /\ W.cell? ⟨bb,8,none⟩ = some (.int .i64 t.a.n) /\ W.cell? ⟨bb,11,none⟩ = some (.int .u64 t.at') /\ W.cell? ⟨bb,12,none⟩ = some (.string t.key))
     (first | with_reducible exact y6 | with_reducible exact y4 | with_reducible exact y0 | exact y0)
     (fail)
    all_goals
     go_wp2
     refine bodyPost_ret (results_tmp_row rfl _ _ rb _ rfl (load_msg (x := { zmsg with k := 13,req := t.rq,n := t.a.n }) HB6.out)) rfl ?_
     exact HPOST.out _ _ _ HX.out rfl rfl rfl HK6.out
end
end Ask
end Go.Proofs.Ytobfdolhgnoedaa
