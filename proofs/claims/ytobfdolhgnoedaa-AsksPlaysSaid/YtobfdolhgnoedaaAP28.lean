/- Part 29 of what the proof needs. -/
import Derived.Test.YtobfdolhgnoedaaAP22
import Derived.Test.YtobfdolhgnoedaaAP27
set_option linter.unusedSimpArgs false
set_option linter.unusedVariables false
set_option maxHeartbeats 32000000
set_option maxRecDepth 100000
namespace Go.Proofs.Ytobfdolhgnoedaa
open Go.RowKit
set_option maxRecDepth 100000
namespace Ask
open Plan Ops Ent Msg MO Vn
attribute [local go_sem ↓] storeVar_msg loadVar_msg
section
variable {w w' : World} {X : DX} {t : TS} {G : Nat -> Prop}
theorem dtake_any (h : DAt w X t) (hj : JOk t) (hi : DI t) (f : Int) (x : MsgR) (hx : PGood w (footD X t) x) :
  Calls Try.prog 19 #[.pointer (some ⟨X.b,0,none⟩),.int .i64 f,xagg x] w (DPost w X t (.bool (takeT t f x).2) (takeT t f x).1) := by
 obtain ⟨W0,hW0⟩ : ∃ W0,w.alloc (.cells (xcell x).toArray 34) = W0 := ⟨_,rfl⟩
 have hk0 : Kept NoF w W0 := by rw [<- hW0];(repeat' (first | (with_reducible first | exact kR0 | apply kP0 | apply kN0 | apply kD0 | apply kA0) | (right;simp;done)))
 have hn0 : Has W0 w.heap.size 34 (xcell x).toArray := by rw [<- hW0];exact Has.new _ _ _
 have h0 := h.quiet hk0
 have hb0 := h0.b
 obtain ⟨bb,hbb⟩ : ∃ bb,X.b = bb := ⟨_,rfl⟩
 have hwb : bb < w.heap.size := by rw [<- hbb];exact h.b.lt
 have hcell : ∀ W,Kept (fun k => k = X.b) W0 W -> W.cell? ⟨w.heap.size,0,none⟩ = some (.int .i64 x.k) /\ W.cell? ⟨w.heap.size,5,none⟩ = some (.int .u64 x.at') /\ W.cell? ⟨w.heap.size,7,none⟩ = some (.int .i64 x.n) /\ W.cell? ⟨w.heap.size,10,none⟩ = some (.int .i64 x.e) := fun W hW => by
  have g := hn0.kept hW (fun e => by omega)
  exact ⟨g.cell 0,g.cell 5,g.cell 7,g.cell 10⟩
 have m2 : W0.cell? ⟨w.heap.size,2,none⟩ = some (.int .i64 x.req) := hn0.cell 2
 obtain ⟨pz,hpz⟩ : ∃ pz : Int,(t.ph : Int) = pz := ⟨_,rfl⟩
 have b1 : W0.cell? ⟨bb,1,none⟩ = some (.int .i64 t.rq) := by rw [<- hbb];exact hb0.cell 1
 have b3 : W0.cell? ⟨bb,3,none⟩ = some (.int .i64 t.a.k) := by rw [<- hbb];exact hb0.cell 3
 have b4 : W0.cell? ⟨bb,4,none⟩ = some (.int .i64 t.a.nd) := by rw [<- hbb];exact hb0.cell 4
 have b10 : W0.cell? ⟨bb,10,none⟩ = some (.int .i64 pz) := by rw [<- hbb,<- hpz];exact hb0.cell 10
 have b11 : W0.cell? ⟨bb,11,none⟩ = some (.int .u64 t.at') := by rw [<- hbb];exact hb0.cell 11
 have b14 : W0.cell? ⟨bb,14,none⟩ = some (.int .i64 t.waits) := by rw [<- hbb];exact hb0.cell 14
 have b15 : W0.cell? ⟨bb,15,none⟩ = some (.bool t.dn) := by rw [<- hbb];exact hb0.cell 15
 have f10 := hb0.frozen 10;have f11 := hb0.frozen 11;have f14 := hb0.frozen 14
 rw [hbb] at f10 f11 f14
 have hend : ∀ W,Kept NoF W0 W -> ∀ (r : RepR),r.ps = [] -> Calls Try.prog 38 #[.pointer (some ⟨bb,0,none⟩),.agg #[.int .i64 r.req,.int .i64 r.e,.int .u64 r.at',.int .i64 r.pin,.slice none 0 0]] W fun e w' => e = .returned (.tuple #[]) /\ DAt w' { X with rA := none,rc := 0 } (endT t r) /\ Kept (fun k => k = X.b) W w' := fun W hW r hr => by
  have g := dend_any (h0.quiet hW) r none 0 (by rw [hr];exact ⟨rfl,.inl ⟨rfl,rfl⟩⟩)
  unfold ragg rcell at g
  rw [hr] at g
  rw [<- hbb]
  exact g
 have hfin : ∀ (r : RepR) W w7,r.ps = [] -> Kept NoF W0 W -> DAt w7 { X with rA := none,rc := 0 } (endT t r) -> Kept (fun k => k = X.b) W w7 -> ∀ w8,Kept NoF w7 w8 -> takeT t f x = (endT t r,false) -> DPost w X t (.bool (takeT t f x).2) (takeT t f x).1 (.returned (.bool false)) w8 := fun r W w7 hr hW hp hk w8 hk8 he => by
  rw [he]
  exact ⟨rfl,_,hp.quiet hk8,rfl,fun k hk => footD_endr (w := w) (fun k hk => by rw [hr] at hk;cases hk) hk,(((hk0.then hW).mono (fun _ z => z.elim)).then (hk.mono (fun k e => .inl e))).then (hk8.mono (fun _ z => z.elim))⟩
 have hsame : ∀ w8,Kept NoF W0 w8 -> takeT t f x = (t,false) -> DPost w X t (.bool (takeT t f x).2) (takeT t f x).1 (.returned (.bool false)) w8 := fun w8 hk8 he => by
  rw [he]
  exact DPost.same h (hk0.then hk8)
 have hrows : t.dn = false -> ∀ W,Kept NoF W0 W -> Calls Try.prog 40 #[.pointer (some ⟨bb,0,none⟩),xagg x] W (DPost W X t (.bool (rowsT t x).2) (rowsT t x).1) := fun hd W hW => by
  rw [<- hbb]
  exact drows_any (h0.quiet hW) hd hj.ok x ⟨hx.s.kept (hk0.then hW) (fun _ _ z => z),hx.l,hx.off,hx.k⟩
 have hlm : ∀ n,(loadMsg ⟨w.heap.size,0,none⟩).run Try.prog (W0.drewN n) = .ok (xagg x) (W0.drewN n) := fun n => run_loadMsg_has _ _ _ (hn0.drewN n)
 have hrep := fun W => dreplica_any W f
 have HLM := hZ0 hlm;have HEND := hZ0 hend;have HCELL := hZ0 hcell;have HFIN := hZ0 hfin;have HSAME := hZ0 hsame;have HROWS := hZ0 hrows;have HH := hZ0 h;have HK0 := hZ0 hk0;have HH0 := hZ0 h0;have HBB := hZ0 hbb;have HJ := hZ0 hj;have HI := hZ0 hi;have HREP := hZ0 hrep;have HPZ := hZ0 hpz
 have hbm : w.heap.size ≠ bb := by omega
 have hph := hj.ok.ph
 have hp0 := hj.p0
 rw [hbb]
 obtain ⟨m0,m5,m7,m10⟩ := hcell W0 (Kept.refl _ _)
 have hxa : xagg x = .agg (xcell x).toArray := rfl
 obtain ⟨cs,hcs⟩ : ∃ cs,(xcell x).toArray = cs := ⟨_,rfl⟩
 unfold xcell at hW0
 unfold xagg at HLM HROWS ⊢
 rw [hcs] at HLM HROWS
 unfold xcell
 clear hlm hend hcell hfin hsame hrows h hk0 hx hn0 h0 hb0 hbb hj hi hrep hxa hcs hpz hwb
 cases hdn : t.dn with
 | true =>
  rw [hdn] at b15
  have hr : takeT t f x = (t,false) := by unfold takeT;rw [if_pos (.inl hdn)]
  have HR := hZ0 hr
  clear hr
  clear hdn
  go_enter Try.func19,Try.ntmps19
  go_wp2
  go_quiet (fail)
  go_wp2
  go_ret
  exact HSAME.out _ (by (repeat' (first | (with_reducible first | exact kR0 | apply kP0 | apply kN0 | apply kD0 | apply kA0) | (right;simp;done)))) HR.out
 | false =>
  rw [hdn] at b15
  have HDN := hZ0 hdn
  have hnd : ¬ t.dn = true := by rw [hdn];decide
  have HNN := hZ0 hnd
  clear hdn hnd
  by_cases hq : x.req = t.rq
  rotate_left
  ·have bq : (x.req != t.rq) = true := by simpa using hq
   have hr : takeT t f x = (t,false) := by unfold takeT;rw [if_pos (.inr (.inl hq))]
   have HR := hZ0 hr
   clear hr
   clear hq
   go_enter Try.func19,Try.ntmps19
   go_wp2
   go_quiet (fail)
   go_wp2
   go_ret
   exact HSAME.out _ (by (repeat' (first | (with_reducible first | exact kR0 | apply kP0 | apply kN0 | apply kD0 | apply kA0) | (right;simp;done)))) HR.out
  have bq : (x.req != t.rq) = false := by simpa using hq
  have HQ := hZ0 hq
  clear hq
  rcases (show t.ph = 0 \/ t.ph = 1 \/ t.ph = 2 by omega) with e | e | e
  ·have p0 : (pz == 0) = true := by rw [<- HPZ.out,e];rfl
   have p1 : (pz == 1) = false := by rw [<- HPZ.out,e];rfl
   have p2 : (pz == 2) = false := by rw [<- HPZ.out,e];rfl
   have hft : fromT t f = decide (0 <= f /\ f < 4) := by unfold fromT;rw [if_pos e]
   obtain ⟨v,hv⟩ : ∃ v,decide (0 <= f /\ f < 4) = v := ⟨_,rfl⟩
   rw [hv] at hft
   simp only [hv] at HREP
   clear hv
   cases v
   ·have hr : takeT t f x = (t,false) := by unfold takeT;rw [if_pos (.inr (.inr hft))]
    have HR := hZ0 hr
    clear hr e hph hp0 hft
    go_enter Try.func19,Try.ntmps19
    go_wp2
    go_quiet (fail)
    go_wp2_with fail
    refine (HREP.out _).mono ?_
    rintro e w3 ⟨rfl,rfl⟩
    go_wp2
    go_ret
    exact HSAME.out _ (by (repeat' (first | (with_reducible first | exact kR0 | apply kP0 | apply kN0 | apply kD0 | apply kA0) | (right;simp;done)))) HR.out
   ·have hw : takeT t f x = takeW t x := by unfold takeT;rw [if_neg (by rintro (z | z | z);exact HNN.out z;exact z HQ.out;(rw [hft] at z;cases z)),if_pos e]
    rw [takeW_doc HI.out e] at hw
    have HW := hZ0 hw
    have hk03 := hp0 e
    clear hw e hph hp0 hft
    by_cases h7 : x.k = 7 /\ x.e = 16
    ·have k7 : (x.k == 7) = true := by simp [h7.1]
     have k16 : (x.e == 16) = true := by simp [h7.2]
     have k6 : (x.k == 6) = false := by simp [h7.1]
     have hr : takeT t f x = (endT t ⟨0,x.e,0,0,[]⟩,false) := by rw [HW.out,if_pos h7]
     have HR := hZ0 hr
     clear hr h7 hk03
     go_enter Try.func19,Try.ntmps19
     go_wp2
     go_quiet (fail)
     go_wp2_with fail
     refine (HREP.out _).mono ?_
     rintro e w3 ⟨rfl,rfl⟩
     go_wp2_with fail
     clear hW0 m0 m2 m5 m7 m10 b1 b3 b4 b10 b11 b14 b15 f10 f11 f14
     refine (HEND.out _ (by (repeat' (first | (with_reducible first | exact kR0 | apply kP0 | apply kN0 | apply kD0 | apply kA0) | (right;simp;done)))) ⟨0,x.e,0,0,[]⟩ rfl).mono ?_
     rintro e w7 ⟨rfl,hp7,hk7⟩
     obtain ⟨n0,n5,n7,n10⟩ := HCELL.out _ (Kept.then (F := fun k => k = X.b) (b := W0.drewN nq) (by (repeat' (first | (with_reducible first | exact kR0 | apply kP0 | apply kN0 | apply kD0 | apply kA0) | (right;simp;done)))) hk7)
     have y3 : w7.cell? ⟨bb,3,none⟩ = some (.int .i64 t.a.k) := by rw [<- HBB.out];exact hp7.b.cell 3
     have HP7 := hZ0 hp7;have HK7 := hZ0 hk7
     clear hp7 hk7
     go_wp2
     go_ret
     exact HFIN.out ⟨0,x.e,0,0,[]⟩ _ _ rfl (by (repeat' (first | (with_reducible first | exact kR0 | apply kP0 | apply kN0 | apply kD0 | apply kA0) | (right;simp;done)))) HP7.out HK7.out _ (Kept.refl _ _) HR.out
    have H7 := hZ0 h7
    by_cases h6 : x.k = 6
    rotate_left
    ·have k6 : (x.k == 6) = false := by simpa using h6
     have hr : takeT t f x = (t,false) := by rw [HW.out,if_neg H7.out,if_pos h6]
     have HR := hZ0 hr
     clear hr hk03
     by_cases h77 : x.k = 7
     ·have k7 : (x.k == 7) = true := by simpa using h77
      have k16 : (x.e == 16) = false := by simpa using (fun z => h7 ⟨h77,z⟩)
      clear h77 h6 h7
      go_enter Try.func19,Try.ntmps19
      go_wp2
      go_quiet (fail)
      go_wp2_with fail
      refine (HREP.out _).mono ?_
      rintro e w3 ⟨rfl,rfl⟩
      go_wp2
      go_ret
      exact HSAME.out _ (by (repeat' (first | (with_reducible first | exact kR0 | apply kP0 | apply kN0 | apply kD0 | apply kA0) | (right;simp;done)))) HR.out
     ·have k7 : (x.k == 7) = false := by simpa using h77
      clear h77 h6 h7
      go_enter Try.func19,Try.ntmps19
      go_wp2
      go_quiet (fail)
      go_wp2_with fail
      refine (HREP.out _).mono ?_
      rintro e w3 ⟨rfl,rfl⟩
      go_wp2
      go_ret
      exact HSAME.out _ (by (repeat' (first | (with_reducible first | exact kR0 | apply kP0 | apply kN0 | apply kD0 | apply kA0) | (right;simp;done)))) HR.out
    have k6 : (x.k == 6) = true := by simpa using h6
    have k7 : (x.k == 7) = false := by simp [h6]
    rcases hk03 with ha | ha
    ·have k0 : (t.a.k == 0) = true := by simpa using ha
     have k3 : (t.a.k == 3) = false := by simp [ha]
     have hr : takeT t f x = (endT t ⟨0,0,x.at',0,[]⟩,false) := by rw [HW.out,if_neg H7.out,if_neg (fun z => z h6),if_pos ha]
     have HR := hZ0 hr
     clear hr ha h6 h7
     go_enter Try.func19,Try.ntmps19
     go_wp2
     go_quiet (fail)
     go_wp2_with fail
     refine (HREP.out _).mono ?_
     rintro e w3 ⟨rfl,rfl⟩
     go_wp2_with fail
     clear hW0 m0 m2 m5 m7 m10 b1 b3 b4 b10 b11 b14 b15 f10 f11 f14
     refine (HEND.out _ (by (repeat' (first | (with_reducible first | exact kR0 | apply kP0 | apply kN0 | apply kD0 | apply kA0) | (right;simp;done)))) ⟨0,0,x.at',0,[]⟩ rfl).mono ?_
     rintro e w7 ⟨rfl,hp7,hk7⟩
     obtain ⟨n0,n5,n7,n10⟩ := HCELL.out _ (Kept.then (F := fun k => k = X.b) (b := W0.drewN nq) (by (repeat' (first | (with_reducible first | exact kR0 | apply kP0 | apply kN0 | apply kD0 | apply kA0) | (right;simp;done)))) hk7)
     have y3 : w7.cell? ⟨bb,3,none⟩ = some (.int .i64 t.a.k) := by rw [<- HBB.out];exact hp7.b.cell 3
     have HP7 := hZ0 hp7;have HK7 := hZ0 hk7
     clear hp7 hk7
     go_wp2
     go_ret
     exact HFIN.out ⟨0,0,x.at',0,[]⟩ _ _ rfl (by (repeat' (first | (with_reducible first | exact kR0 | apply kP0 | apply kN0 | apply kD0 | apply kA0) | (right;simp;done)))) HP7.out HK7.out _ (Kept.refl _ _) HR.out
    ·have k0 : (t.a.k == 0) = false := by simp [ha]
     have k3 : (t.a.k == 3) = true := by simpa using ha
     have hr : takeT t f x = ({ t with ph := 1,at' := x.at',waits := 0 },true) := by rw [HW.out,if_neg H7.out,if_neg (fun z => z h6),if_neg (by omega)]
     have HR := hZ0 hr
     clear hr ha h6 h7
     go_enter Try.func19,Try.ntmps19
     go_wp2
     go_quiet (fail)
     go_wp2_with fail
     refine (HREP.out _).mono ?_
     rintro e w3 ⟨rfl,rfl⟩
     go_wp2
     go_ret
     rw [HR.out]
     have h9 := HH0.out
     obtain ⟨W9,hW9⟩ : ∃ W9,W0.drewN nq = W9 := ⟨_,rfl⟩
     have hk9 : Kept NoF W0 W9 := by rw [<- hW9];(repeat' (first | (with_reducible first | exact kR0 | apply kP0 | apply kN0 | apply kD0 | apply kA0) | (right;simp;done)))
     rw [hW9]
     have h8 := HH0.out.quiet hk9
     have hk8 : Kept (fun k => k = X.b) W9 (((W9.setCell ⟨bb,10,none⟩ (.int .i64 1)).setCell ⟨bb,11,none⟩ (.int .u64 x.at')).setCell ⟨bb,14,none⟩ (.int .i64 0)) := by rw [HBB.out];(repeat' (first | (with_reducible first | exact kR0 | apply kP0 | apply kN0 | apply kD0 | apply kA0) | (exact .inl rfl) | (right;simp;done)))
     have hg8 := ((h8.b.put 10 (.int .i64 1)).put 11 (.int .u64 x.at')).put 14 (.int .i64 0)
     rw [HBB.out] at hg8
     refine ⟨rfl,X,h8.upd hk8 (by rw [HBB.out];exact hg8) rfl rfl rfl rfl,rfl,fun k hk => .inl hk,?_⟩
     exact ((HK0.out.then hk9).mono (fun _ z => z.elim)).then (hk8.mono (fun k e => .inl e))
  ·have p0 : (pz == 0) = false := by rw [<- HPZ.out,e];rfl
   have p1 : (pz == 1) = true := by rw [<- HPZ.out,e];rfl
   have p2 : (pz == 2) = false := by rw [<- HPZ.out,e];rfl
   have hft : fromT t f = decide (f = t.a.nd) := by unfold fromT;rw [if_neg (by omega),if_pos e]
   by_cases hf : f = t.a.nd
   rotate_left
   ·have bf : (f == t.a.nd) = false := by simpa using hf
    have hr : takeT t f x = (t,false) := by unfold takeT;rw [if_pos (.inr (.inr (by rw [hft,decide_eq_false hf])))]
    have HR := hZ0 hr
    clear hr e hph hp0 hft hf
    go_enter Try.func19,Try.ntmps19
    go_wp2
    go_quiet (fail)
    go_wp2
    go_ret
    exact HSAME.out _ (by (repeat' (first | (with_reducible first | exact kR0 | apply kP0 | apply kN0 | apply kD0 | apply kA0) | (right;simp;done)))) HR.out
   have bf : (f == t.a.nd) = true := by simpa using hf
   have hw : takeT t f x = takeR t x := by unfold takeT;rw [if_neg (by rintro (z | z | z);exact HNN.out z;exact z HQ.out;(rw [hft,decide_eq_true hf] at z;cases z)),if_neg (by omega),if_pos e]
   have HW := hZ0 hw
   clear hw e hph hp0 hft hf
   by_cases h10 : x.k = 10
   ·have k10 : (x.k == 10) = true := by simpa using h10
    have hr : takeT t f x = rowsT t x := by rw [HW.out,takeR_rows h10]
    have HR := hZ0 hr
    clear hr h10
    go_enter Try.func19,Try.ntmps19
    go_wp2
    go_quiet (fail)
    have hl := HLM.out nq
    have hrw := HROWS.out HDN.out (W0.drewN nq) (by (repeat' (first | (with_reducible first | exact kR0 | apply kP0 | apply kN0 | apply kD0 | apply kA0) | (right;simp;done))))
    have HRW := hZ0 hrw
    clear hrw
    go_wp2_with fail
    refine HRW.out.mono ?_
    rintro e w7 ⟨rfl,X7,hp7,hb7,hf7,hk7⟩
    have HP7 := hZ0 (And.intro hp7 (And.intro hb7 (And.intro hf7 hk7)))
    clear hp7 hb7 hf7 hk7 hl
    go_wp2
    go_ret
    rw [HR.out]
    exact ⟨rfl,X7,HP7.out.1,HP7.out.2.1,fun k hk => by
     rcases HP7.out.2.2.1 k hk with e | e
     ·exact .inl e
     ·exact .inr (Nat.le_trans HK0.out.size e),(HK0.out.drewN nq |>.mono (fun _ z => z.elim)).then HP7.out.2.2.2⟩
   have k10 : (x.k == 10) = false := by simpa using h10
   by_cases h7 : x.k = 7
   rotate_left
   ·have k7 : (x.k == 7) = false := by simpa using h7
    have hr : takeT t f x = (t,false) := by rw [HW.out];unfold takeR;rw [if_neg (fun z => h7 z.1),if_pos (.inl h10)]
    have HR := hZ0 hr
    clear hr h7 h10
    go_enter Try.func19,Try.ntmps19
    go_wp2
    go_quiet (fail)
    go_wp2
    go_ret
    exact HSAME.out _ (by (repeat' (first | (with_reducible first | exact kR0 | apply kP0 | apply kN0 | apply kD0 | apply kA0) | (right;simp;done)))) HR.out
   have k7 : (x.k == 7) = true := by simpa using h7
   by_cases h3 : t.a.k = 3
   ·have k3 : (t.a.k != 3) = false := by simpa using h3
    by_cases h12 : x.e = 12
    ·have k12 : (x.e != 12) = false := by simpa using h12
     have hr : takeT t f x = (t,false) := by rw [HW.out];unfold takeR;rw [if_neg (fun z => by rcases z.2 with z | z;exact z h3;exact z h12),if_pos (.inl h10)]
     have HR := hZ0 hr
     clear hr h7 h10 h3 h12
     go_enter Try.func19,Try.ntmps19
     go_wp2
     go_quiet (fail)
     go_wp2
     go_ret
     exact HSAME.out _ (by (repeat' (first | (with_reducible first | exact kR0 | apply kP0 | apply kN0 | apply kD0 | apply kA0) | (right;simp;done)))) HR.out
    ·have k12 : (x.e != 12) = true := by simpa using h12
     have hr : takeT t f x = (endT t ⟨0,x.e,0,0,[]⟩,false) := by rw [HW.out];unfold takeR;rw [if_pos ⟨h7,.inr h12⟩]
     have HR := hZ0 hr
     clear hr h7 h10 h3 h12
     go_enter Try.func19,Try.ntmps19
     go_wp2
     go_quiet (fail)
     go_wp2_with fail
     clear hW0 m0 m2 m5 m7 m10 b1 b3 b4 b10 b11 b14 b15 f10 f11 f14
     refine (HEND.out _ (by (repeat' (first | (with_reducible first | exact kR0 | apply kP0 | apply kN0 | apply kD0 | apply kA0) | (right;simp;done)))) ⟨0,x.e,0,0,[]⟩ rfl).mono ?_
     rintro e w7 ⟨rfl,hp7,hk7⟩
     obtain ⟨n0,n5,n7,n10⟩ := HCELL.out _ (Kept.then (F := fun k => k = X.b) (b := W0.drewN nq) (by (repeat' (first | (with_reducible first | exact kR0 | apply kP0 | apply kN0 | apply kD0 | apply kA0) | (right;simp;done)))) hk7)
     have y3 : w7.cell? ⟨bb,3,none⟩ = some (.int .i64 t.a.k) := by rw [<- HBB.out];exact hp7.b.cell 3
     have HP7 := hZ0 hp7;have HK7 := hZ0 hk7
     clear hp7 hk7
     go_wp2
     go_ret
     exact HFIN.out ⟨0,x.e,0,0,[]⟩ _ _ rfl (by (repeat' (first | (with_reducible first | exact kR0 | apply kP0 | apply kN0 | apply kD0 | apply kA0) | (right;simp;done)))) HP7.out HK7.out _ (Kept.refl _ _) HR.out
   ·have k3 : (t.a.k != 3) = true := by simpa using h3
    have hr : takeT t f x = (endT t ⟨0,x.e,0,0,[]⟩,false) := by rw [HW.out];unfold takeR;rw [if_pos ⟨h7,.inl h3⟩]
    have HR := hZ0 hr
    clear hr h7 h10 h3
    go_enter Try.func19,Try.ntmps19
    go_wp2
    go_quiet (fail)
    go_wp2_with fail
    clear hW0 m0 m2 m5 m7 m10 b1 b3 b4 b10 b11 b14 b15 f10 f11 f14
    refine (HEND.out _ (by (repeat' (first | (with_reducible first | exact kR0 | apply kP0 | apply kN0 | apply kD0 | apply kA0) | (right;simp;done)))) ⟨0,x.e,0,0,[]⟩ rfl).mono ?_
    rintro e w7 ⟨rfl,hp7,hk7⟩
    obtain ⟨n0,n5,n7,n10⟩ := HCELL.out _ (Kept.then (F := fun k => k = X.b) (b := W0.drewN nq) (by (repeat' (first | (with_reducible first | exact kR0 | apply kP0 | apply kN0 | apply kD0 | apply kA0) | (right;simp;done)))) hk7)
    have y3 : w7.cell? ⟨bb,3,none⟩ = some (.int .i64 t.a.k) := by rw [<- HBB.out];exact hp7.b.cell 3
    have HP7 := hZ0 hp7;have HK7 := hZ0 hk7
    clear hp7 hk7
    go_wp2
    go_ret
    exact HFIN.out ⟨0,x.e,0,0,[]⟩ _ _ rfl (by (repeat' (first | (with_reducible first | exact kR0 | apply kP0 | apply kN0 | apply kD0 | apply kA0) | (right;simp;done)))) HP7.out HK7.out _ (Kept.refl _ _) HR.out
  ·have p0 : (pz == 0) = false := by rw [<- HPZ.out,e];rfl
   have p1 : (pz == 1) = false := by rw [<- HPZ.out,e];rfl
   have p2 : (pz == 2) = true := by rw [<- HPZ.out,e];rfl
   have hft : fromT t f = decide (f = 4) := by unfold fromT;rw [if_neg (by omega),if_neg (by omega)]
   by_cases hf : f = 4
   rotate_left
   ·have bf : (f == 4) = false := by simpa using hf
    have hr : takeT t f x = (t,false) := by unfold takeT;rw [if_pos (.inr (.inr (by rw [hft,decide_eq_false hf])))]
    have HR := hZ0 hr
    clear hr e hph hp0 hft hf
    go_enter Try.func19,Try.ntmps19
    go_wp2
    go_quiet (fail)
    go_wp2
    go_ret
    exact HSAME.out _ (by (repeat' (first | (with_reducible first | exact kR0 | apply kP0 | apply kN0 | apply kD0 | apply kA0) | (right;simp;done)))) HR.out
   have bf : (f == 4) = true := by simpa using hf
   have hw : takeT t f x = takeA t x := by unfold takeT;rw [if_neg (by rintro (z | z | z);exact HNN.out z;exact z HQ.out;(rw [hft,decide_eq_true hf] at z;cases z)),if_neg (by omega),if_neg (by omega)]
   have HW := hZ0 hw
   clear hw e hph hp0 hft hf
   by_cases h14 : x.k = 14
   ·have k14 : (x.k == 14) = true := by simpa using h14
    have k7 : (x.k == 7) = false := by simp [h14]
    have hr : takeT t f x = (endT t ⟨0,0,0,x.n,[]⟩,false) := by rw [HW.out];unfold takeA;rw [if_pos h14]
    have HR := hZ0 hr
    clear hr h14
    go_enter Try.func19,Try.ntmps19
    go_wp2
    go_quiet (fail)
    go_wp2_with fail
    clear hW0 m0 m2 m5 m7 m10 b1 b3 b4 b10 b11 b14 b15 f10 f11 f14
    refine (HEND.out _ (by (repeat' (first | (with_reducible first | exact kR0 | apply kP0 | apply kN0 | apply kD0 | apply kA0) | (right;simp;done)))) ⟨0,0,0,x.n,[]⟩ rfl).mono ?_
    rintro e w7 ⟨rfl,hp7,hk7⟩
    obtain ⟨n0,n5,n7,n10⟩ := HCELL.out _ (Kept.then (F := fun k => k = X.b) (b := W0.drewN nq) (by (repeat' (first | (with_reducible first | exact kR0 | apply kP0 | apply kN0 | apply kD0 | apply kA0) | (right;simp;done)))) hk7)
    have y3 : w7.cell? ⟨bb,3,none⟩ = some (.int .i64 t.a.k) := by rw [<- HBB.out];exact hp7.b.cell 3
    have HP7 := hZ0 hp7;have HK7 := hZ0 hk7
    clear hp7 hk7
    go_wp2
    go_ret
    exact HFIN.out ⟨0,0,0,x.n,[]⟩ _ _ rfl (by (repeat' (first | (with_reducible first | exact kR0 | apply kP0 | apply kN0 | apply kD0 | apply kA0) | (right;simp;done)))) HP7.out HK7.out _ (Kept.refl _ _) HR.out
   have k14 : (x.k == 14) = false := by simpa using h14
   by_cases h7 : x.k = 7
   ·have k7 : (x.k == 7) = true := by simpa using h7
    have hr : takeT t f x = (endT t ⟨0,x.e,0,0,[]⟩,false) := by rw [HW.out];unfold takeA;rw [if_neg h14,if_pos h7]
    have HR := hZ0 hr
    clear hr h14 h7
    go_enter Try.func19,Try.ntmps19
    go_wp2
    go_quiet (fail)
    go_wp2_with fail
    clear hW0 m0 m2 m5 m7 m10 b1 b3 b4 b10 b11 b14 b15 f10 f11 f14
    refine (HEND.out _ (by (repeat' (first | (with_reducible first | exact kR0 | apply kP0 | apply kN0 | apply kD0 | apply kA0) | (right;simp;done)))) ⟨0,x.e,0,0,[]⟩ rfl).mono ?_
    rintro e w7 ⟨rfl,hp7,hk7⟩
    obtain ⟨n0,n5,n7,n10⟩ := HCELL.out _ (Kept.then (F := fun k => k = X.b) (b := W0.drewN nq) (by (repeat' (first | (with_reducible first | exact kR0 | apply kP0 | apply kN0 | apply kD0 | apply kA0) | (right;simp;done)))) hk7)
    have y3 : w7.cell? ⟨bb,3,none⟩ = some (.int .i64 t.a.k) := by rw [<- HBB.out];exact hp7.b.cell 3
    have HP7 := hZ0 hp7;have HK7 := hZ0 hk7
    clear hp7 hk7
    go_wp2
    go_ret
    exact HFIN.out ⟨0,x.e,0,0,[]⟩ _ _ rfl (by (repeat' (first | (with_reducible first | exact kR0 | apply kP0 | apply kN0 | apply kD0 | apply kA0) | (right;simp;done)))) HP7.out HK7.out _ (Kept.refl _ _) HR.out
   ·have k7 : (x.k == 7) = false := by simpa using h7
    have hr : takeT t f x = (t,false) := by rw [HW.out];unfold takeA;rw [if_neg h14,if_neg h7]
    have HR := hZ0 hr
    clear hr h14 h7
    go_enter Try.func19,Try.ntmps19
    go_wp2
    go_quiet (fail)
    go_wp2
    go_ret
    exact HSAME.out _ (by (repeat' (first | (with_reducible first | exact kR0 | apply kP0 | apply kN0 | apply kD0 | apply kA0) | (right;simp;done)))) HR.out
end
end Ask
end Go.Proofs.Ytobfdolhgnoedaa
