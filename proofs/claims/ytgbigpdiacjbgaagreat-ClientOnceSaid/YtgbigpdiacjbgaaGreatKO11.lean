/- Part 12 of what the proof needs. -/
import Derived.Test.YtgbigpdiacjbgaaGreatKO10
import Derived.Lib.QuietBelow
set_option linter.unusedSimpArgs false
set_option linter.unusedVariables false
set_option maxHeartbeats 32000000
set_option maxRecDepth 100000
namespace Go.Proofs.YtgbigpdiacjbgaaGreat
open Go.RowKit Go.Sort
set_option maxRecDepth 100000
namespace Ask
open Plan Ops Ent Msg MO Vn
attribute [local go_sem ↓] storeVar_msg loadVar_msg
section
variable {w w' : World} {X : PX} {t : TS} {G : Nat -> Prop}
theorem rtake_any (h : PAt w X t) (h1 : t.ph = 1) (hnd : t.dn = false) (hok : TOk t) (x : MsgR) (hx : PGood w (foot X t) x) : Calls Tryz.prog 212 #[.pointer (some ⟨X.g,0,none⟩),.pointer (some ⟨X.b,0,none⟩),xagg x] w (PPost w X t (.bool (takeR t x).2) (takeR t x).1) := by
 obtain ⟨W0,hW0⟩ : ∃ W0,w.alloc (.cells (xcell x).toArray 63) = W0 := ⟨_,rfl⟩
 have hk0 : Kept NoF w W0 := by rw [<- hW0];(repeat' (first | (with_reducible first | exact kR0 | apply kP0 | apply kN0 | apply kD0 | apply kA0) | (right;simp;done)))
 have hn0 : Has W0 w.heap.size 63 (xcell x).toArray := by rw [<- hW0];exact Has.new _ _ _
 have h0 := h.quiet hk0
 have hg0 := h0.g h1
 have hpg : t.a.k = 2 -> ∀ W,Kept NoF W0 W -> Calls Tryz.prog 213 #[.pointer (some ⟨X.g,0,none⟩),.pointer (some ⟨X.b,0,none⟩),xagg x] W (PPost W X t (.bool (pageT t x).2) (pageT t x).1) := fun e W hW =>
  page_any (h0.quiet hW) h1 hnd hok e x ⟨hx.s.kept (hk0.then hW) (fun _ _ z => z),hx.l,hx.off,hx.k⟩
 have hend := fun r => end_any h0 r none 0
 have hendA := fun W (hW : Kept NoF W0 W) => end_any (h0.quiet hW)
 have hsrc := fun W (hW : Kept NoF W0 W) => (hx.s.kept (hk0.then hW) (fun _ _ z => z)).take (k := min x.ps.length 1) (Nat.min_le_left _ _)
 have m0 : W0.cell? ⟨w.heap.size,0,none⟩ = some (.int .i64 x.k) := hn0.cell 0
 have m5 : W0.cell? ⟨w.heap.size,5,none⟩ = some (.int .u64 x.at') := hn0.cell 5
 have m10 : W0.cell? ⟨w.heap.size,10,none⟩ = some (.int .i64 x.e) := hn0.cell 10
 have m11 : W0.cell? ⟨w.heap.size,11,none⟩ = some (.string x.key) := hn0.cell 11
 have m21 : W0.cell? ⟨w.heap.size,21,none⟩ = some (.slice x.pA x.ps.length x.pc) := hn0.cell 21
 have v3 : W0.cell? ⟨X.g,3,none⟩ = some (.int .i64 t.a.k) := hg0.cell 3
 have v10 : W0.cell? ⟨X.g,10,none⟩ = some (.int .u64 t.at') := hg0.cell 10
 have v11 : W0.cell? ⟨X.g,11,none⟩ = some (.string t.key) := hg0.cell 11
 have hcell : ∀ W,Kept (fun k => k = X.b) W0 W -> W.cell? ⟨X.g,10,none⟩ = some (.int .u64 t.at') /\ W.cell? ⟨w.heap.size,21,none⟩ = some (.slice x.pA x.ps.length x.pc) := fun W hW => ⟨(hg0.kept hW (fun e => Has.ne hg0 h0.b (by decide) e)).cell 10,(hn0.kept hW (fun e => by have := h.b.lt;omega)).cell 21⟩
 have hfin : ∀ (r : RepR) A c W w7,Kept NoF W0 W -> PAt w7 { X with rA := A,rc := c } (endT t r) -> Kept (fun k => k = X.b) W w7 -> (∀ k,(Value.slice A r.ps.length c).ownBlock = some k -> w.heap.size <= k) -> ∀ w8,Kept NoF w7 w8 -> PPost w X t (.bool false) (endT t r) (.returned (.bool false)) w8 := fun r A c W w7 hW hp hk hA w8 hk8 =>
  ⟨rfl,_,hp.quiet hk8,rfl,fun k hk => foot_endr (w := w) (fun k hk => .inr (hA k hk)) hk,(((hk0.then hW).mono (fun _ z => z.elim)).then (hk.mono (fun k e => .inl e))).then (hk8.mono (fun _ z => z.elim))⟩
 have hlm : ∀ n,(loadMsg ⟨w.heap.size,0,none⟩).run Tryz.prog (W0.drewN n) = .ok (xagg x) (W0.drewN n) := fun n => run_loadMsg_has _ _ _ (hn0.drewN n)
 have HLM := hZ0 hlm;have HPG := hZ0 hpg;have HEND := hZ0 hend;have HENDA := hZ0 hendA;have HSRC := hZ0 hsrc;have HCELL := hZ0 hcell;have HFIN := hZ0 hfin;have HH := hZ0 h;have HK0 := hZ0 hk0;have HX := hZ0 hx;have HN0 := hZ0 hn0;have HH0 := hZ0 h0;have H1 := hZ0 h1
 have hxl := hx.l
 unfold maxLen at hxl
 obtain ⟨gb,hgb⟩ : ∃ gb,X.g = gb := ⟨_,rfl⟩
 rw [hgb] at v3 v10 v11
 simp only [hgb] at HCELL HPG
 rw [hgb]
 obtain ⟨n,hn⟩ : ∃ n,x.ps.length = n := ⟨_,rfl⟩
 rw [hn] at m21 hxl
 simp only [hn] at HCELL HSRC
 have HNE := hZ0 hn
 have hxa : xagg x = .agg (xcell x).toArray := rfl
 obtain ⟨cs,hcs⟩ : ∃ cs,(xcell x).toArray = cs := ⟨_,rfl⟩
 unfold xcell at hW0
 rw [hn] at hW0
 unfold xagg at HLM HPG ⊢
 rw [hcs] at HLM HPG
 unfold xcell
 rw [hn]
 have HGB := hZ0 hgb
 have HCS := hZ0 hcs
 clear hlm hpg hend hendA hsrc hcell hfin h hk0 hx hn0 h0 h1 hg0 hn hxa hcs hnd hok
 have hgo : #[Value.int .i64 x.k] = #[Value.int .i64 x.k] := rfl
 clear hgo
 by_cases h7 : x.k = 7
 ·have b7 : (x.k == 7) = true := by simpa using h7
  have b10 : (x.k != 10) = true := by simp [h7]
  by_cases h3 : t.a.k = 3
  ·have b3 : (t.a.k != 3) = false := by simpa using h3
   by_cases h12 : x.e = 12
   ·have b12 : (x.e != 12) = false := by simpa using h12
    have hr : takeR t x = (t,false) := by unfold takeR;rw [if_neg (fun e => by rcases e.2 with e | e;exact e h3;exact e h12),if_pos (.inl (by omega))]
    rw [hr]
    clear h7 h3 h12 hr
    go_enter Tryz.func212,Tryz.ntmps212
    go_wp2
    go_quiet (fail)
    go_wp2
    go_ret
    exact PPost.same HH.out (by (repeat' (first | (with_reducible first | exact kR0 | apply kP0 | apply kN0 | apply kD0 | apply kA0) | (exact HK0.out) | (right;simp;done))))
   ·have b12 : (x.e != 12) = true := by simpa using h12
    have hr : takeR t x = (endT t ⟨0,x.e,0,0,[]⟩,false) := by unfold takeR;rw [if_pos ⟨h7,.inr h12⟩]
    rw [hr]
    clear h7 h3 h12 hr
    go_enter Tryz.func212,Tryz.ntmps212
    go_wp2_with fail
    clear hW0 m0 m5 m10 m11 m21 v3 v10 v11
    refine (HEND.out ⟨0,x.e,0,0,[]⟩ ⟨rfl,.inl ⟨rfl,rfl⟩⟩).mono ?_
    rintro e w7 ⟨rfl,hp7,hk7⟩
    have HP7 := hZ0 hp7;have HK7 := hZ0 hk7
    clear hp7 hk7
    go_wp2
    go_ret
    exact HFIN.out _ none 0 _ _ (Kept.refl _ _) HP7.out HK7.out (fun k hk => by cases hk) _ (Kept.refl _ _)
  ·have b3 : (t.a.k != 3) = true := by simpa using h3
   have hr : takeR t x = (endT t ⟨0,x.e,0,0,[]⟩,false) := by unfold takeR;rw [if_pos ⟨h7,.inl h3⟩]
   rw [hr]
   clear h7 h3 hr
   go_enter Tryz.func212,Tryz.ntmps212
   go_wp2_with fail
   clear hW0 m0 m5 m10 m11 m21 v3 v10 v11
   refine (HEND.out ⟨0,x.e,0,0,[]⟩ ⟨rfl,.inl ⟨rfl,rfl⟩⟩).mono ?_
   rintro e w7 ⟨rfl,hp7,hk7⟩
   have HP7 := hZ0 hp7;have HK7 := hZ0 hk7
   clear hp7 hk7
   go_wp2
   go_ret
   exact HFIN.out _ none 0 _ _ (Kept.refl _ _) HP7.out HK7.out (fun k hk => by cases hk) _ (Kept.refl _ _)
 have b7 : (x.k == 7) = false := by simpa using h7
 by_cases h10 : x.k = 10
 rotate_left
 ·have b10 : (x.k != 10) = true := by simpa using h10
  have hr : takeR t x = (t,false) := by unfold takeR;rw [if_neg (fun e => h7 e.1),if_pos (.inl h10)]
  rw [hr]
  clear h7 h10 hr
  go_enter Tryz.func212,Tryz.ntmps212
  go_wp2
  go_quiet (fail)
  go_wp2
  go_ret
  exact PPost.same HH.out (by (repeat' (first | (with_reducible first | exact kR0 | apply kP0 | apply kN0 | apply kD0 | apply kA0) | (exact HK0.out) | (right;simp;done))))
 have b10 : (x.k != 10) = false := by simpa using h10
 by_cases ha : x.at' = t.at'
 rotate_left
 ·have ba : (x.at' != t.at') = true := by simpa using ha
  have hr : takeR t x = (t,false) := by unfold takeR;rw [if_neg (fun e => h7 e.1),if_pos (.inr (.inl ha))]
  rw [hr]
  clear h7 h10 ha hr
  go_enter Tryz.func212,Tryz.ntmps212
  go_wp2
  go_quiet (fail)
  go_wp2
  go_ret
  exact PPost.same HH.out (by (repeat' (first | (with_reducible first | exact kR0 | apply kP0 | apply kN0 | apply kD0 | apply kA0) | (exact HK0.out) | (right;simp;done))))
 have ba : (x.at' != t.at') = false := by simpa using ha
 by_cases hk : x.key = t.key
 rotate_left
 ·have bk : (x.key.toList == t.key.toList) = false := by rw [tl_eq];exact decide_eq_false hk
  have hr : takeR t x = (t,false) := by unfold takeR;rw [if_neg (fun e => h7 e.1),if_pos (.inr (.inr hk))]
  rw [hr]
  clear h7 h10 ha hk hr
  go_enter Tryz.func212,Tryz.ntmps212
  go_wp2
  go_quiet (fail)
  go_wp2
  go_ret
  exact PPost.same HH.out (by (repeat' (first | (with_reducible first | exact kR0 | apply kP0 | apply kN0 | apply kD0 | apply kA0) | (exact HK0.out) | (right;simp;done))))
 have bk : (x.key.toList == t.key.toList) = true := by rw [tl_eq];exact decide_eq_true hk
 by_cases h2 : t.a.k = 2
 ·have b2 : (t.a.k != 2) = false := by simpa using h2
  have hr : takeR t x = pageT t x := by unfold takeR;rw [if_neg (fun e => h7 e.1),if_neg (by rintro (e | e | e);exact e h10;exact e ha;exact e hk),if_neg (fun e => e h2)]
  rw [hr]
  have hpg := HPG.out h2
  have HP := hZ0 hpg
  clear h7 h10 ha hk h2 hr hpg
  go_enter Tryz.func212,Tryz.ntmps212
  go_wp2
  go_quiet (fail)
  have hl := HLM.out nq
  have hpg := HP.out (W0.drewN nq) (by (repeat' (first | (with_reducible first | exact kR0 | apply kP0 | apply kN0 | apply kD0 | apply kA0) | (right;simp;done))))
  have HPN := hZ0 hpg
  clear hpg
  go_wp2_with fail
  refine HPN.out.mono ?_
  rintro e w7 ⟨rfl,X7,hp7,hb7,hf7,hk7⟩
  have HP7 := hZ0 (And.intro hp7 (And.intro hb7 (And.intro hf7 hk7)))
  clear hp7 hb7 hf7 hk7 hl
  go_wp2
  go_ret
  exact ⟨rfl,X7,HP7.out.1,HP7.out.2.1,fun k hk => by
   rcases HP7.out.2.2.1 k hk with e | e
   ·exact .inl e
   ·exact .inr (Nat.le_trans HK0.out.size e),(HK0.out.drewN nq |>.mono (fun _ z => z.elim)).then HP7.out.2.2.2⟩
 ·have b2 : (t.a.k != 2) = true := by simpa using h2
  have hr : takeR t x = (endT t ⟨0,0,t.at',0,x.ps.take 1⟩,false) := by unfold takeR;rw [if_neg (fun e => h7 e.1),if_neg (by rintro (e | e | e);exact e h10;exact e ha;exact e hk),if_pos h2]
  rw [hr]
  clear h7 h10 ha hk h2 hr
  obtain ⟨m,hm⟩ : ∃ m,min n 1 = m := ⟨_,rfl⟩
  simp only [hm] at HSRC
  have hmn := run_min (n : Int) 1 (m : Int) (by omega)
  have hmle : m <= n := by omega
  have hmc : m <= x.pc := by omega
  have hml : (x.ps.take 1).length = m := by rw [List.length_take,HNE.out];omega
  have hcl := fun W (hW : Kept NoF W0 W) => clonePr_any W x.pA x.pc (x.ps.take 1) (by
   have s1 := HSRC.out W hW
   rw [pcells_take,show x.ps.take m = x.ps.take 1 by
    rcases Nat.eq_zero_or_pos n with e | e
    ·rw [List.eq_nil_of_length_eq_zero (HNE.out.trans e)];simp
    ·rw [show m = 1 by omega],<- hml] at s1
   exact s1) (by omega)
  have henda := fun W (hW : Kept NoF W0 W) A c => HENDA.out W hW ⟨0,0,t.at',0,x.ps.take 1⟩ A c
  have hfin := fun A c => HFIN.out ⟨0,0,t.at',0,x.ps.take 1⟩ A c
  obtain ⟨L1,hL1⟩ : ∃ L1,x.ps.take 1 = L1 := ⟨_,rfl⟩
  rw [hL1] at hml ⊢
  simp only [hL1] at hcl henda hfin
  unfold NewPr NewSl at hcl
  unfold ragg rcell at henda
  dsimp only at henda
  simp only [hml] at hcl henda hfin
  have HENDB := hZ0 henda;have HFINB := hZ0 hfin
  clear henda hfin hL1
  have y0 := HCELL.out W0 (Kept.refl _ _)
  have HCL := hZ0 hcl;have HML := hZ0 hml
  clear hcl hml hm
  have HB0 := hZ0 (show W0.heap.size <= W0.heap.size from Nat.le_refl _)
  go_enter Tryz.func212,Tryz.ntmps212
  go_wp2
  go_quiet (fail)
  go_wp2
  go_region_held3 (fun W => W.cell? ⟨gb,10,none⟩ = some (.int .u64 t.at') /\ W.cell? ⟨w.heap.size,21,none⟩ = some (.slice x.pA n x.pc))
   (first | with_reducible exact y7 | with_reducible exact y5 | with_reducible exact y0 | exact y0)
   (first
    | (go_at_call 28;refine (HCL.out _ (by (repeat' (first | (with_reducible first | exact kR0 | apply kP0 | apply kN0 | apply kD0 | apply kA0) | (right;simp;done))))).mono ?_;rintro e w5 ⟨A,c,rfl,⟨hnp,hnp2⟩,hk5⟩;have hk := Kept.then (F := NoF) (a := W0) (by (repeat' (first | (with_reducible first | exact kR0 | apply kP0 | apply kN0 | apply kD0 | apply kA0) | (right;simp;done)))) hk5;have y5 := HCELL.out w5 (hk.mono (fun _ z => z.elim));have HNP := hZ0 hnp;have HNP2 := hZ0 hnp2;have HK5 := hZ0 hk;have HB5 := hZ0 hk5.size;clear hnp hnp2 hk hk5)
    | (go_at_call 67;refine (HENDB.out w5 HK5.out A c HNP.out).mono ?_;rintro e w7 ⟨rfl,hp7,hk7⟩;have y7 := HCELL.out w7 (Kept.then (HK5.out.mono (fun _ z => z.elim)) hk7);have HP7 := hZ0 hp7;have HK7 := hZ0 hk7;clear hp7 hk7))
  all_goals
   go_wp2
   go_ret
   exact HFINB.out A c _ _ HK5.out HP7.out HK7.out (fun k hk => Nat.le_trans (Nat.le_trans HK0.out.size (HB0.out)) (HNP2.out k hk)) _ (Kept.refl _ _)
attribute [local go_sem] run_loadMsg
theorem kept_of_below {a b : World} (h : Below a.heap.size a b) : Kept NoF a b := ⟨h.os,h.tape,h.output,h.size,fun k hk _ => h.block k hk⟩
theorem msgIn_hasA {W : World} {g : Nat} {x : MsgR} (h : Has W g 63 (xcell x).toArray) : MsgIn W ⟨g,0,none⟩ /\ msgAt W ⟨g,0,none⟩ = (xcell x).toArray :=
 msgIn_of rfl fun j u hu => by
  have e1 : ((⟨g,0,none⟩ : Addr).add j) = ⟨g,j,none⟩ := by unfold Addr.add;split <;> simp_all
  rw [e1,h.cell]
  simpa using hu
theorem ptake_any (h : PAt w X t) (hok : TOk t) (f : Int) (x : MsgR) (hx : PGood w (foot X t) x) : Calls Tryz.prog 32 #[.pointer (some ⟨X.b,0,none⟩),.int .i64 f,xagg x] w (PPost w X t (.bool (takeT t f x).2) (takeT t f x).1) := by
 obtain ⟨W0,hW0⟩ : ∃ W0,w.alloc (.cells (xcell x).toArray 63) = W0 := ⟨_,rfl⟩
 have hk0 : Kept NoF w W0 := by rw [<- hW0];(repeat' (first | (with_reducible first | exact kR0 | apply kP0 | apply kN0 | apply kD0 | apply kA0) | (right;simp;done)))
 have hn0 : Has W0 w.heap.size 63 (xcell x).toArray := by rw [<- hW0];exact Has.new _ _ _
 have h0 := h.quiet hk0
 have hnone := fun W (hW : Kept NoF W0 W) => none_any (h0.quiet hW)
 have hcell : ∀ W,Kept NoF W0 W -> W.cell? ⟨X.b,0,none⟩ = some (phV X t) /\ W.cell? ⟨X.b,1,none⟩ = some (.int .i64 t.rq) /\ W.cell? ⟨X.b,3,none⟩ = some (.bool t.dn) /\ W.cell? ⟨w.heap.size,2,none⟩ = some (.int .i64 x.req) := fun W hW =>
  ⟨(h0.b.kept hW (fun z => z)).cell 0,(h0.b.kept hW (fun z => z)).cell 1,(h0.b.kept hW (fun z => z)).cell 3,(hn0.kept hW (fun z => z)).cell 2⟩
 have hfin : ∀ W (b : Bool) t' e w7,Kept NoF W0 W -> PPost W X t (.bool b) t' e w7 -> PPost w X t (.bool b) t' e w7 := fun W b t' e w7 hW hp => by
  obtain ⟨e1,X',a1,a2,a3,a4⟩ := hp
  exact ⟨e1,X',a1,a2,fun k hk => by
   rcases a3 k hk with e | e
   ·exact .inl e
   ·exact .inr (Nat.le_trans (hk0.then hW).size e),((hk0.then hW).mono (fun _ z => z.elim)).then a4⟩
 have hsame : ∀ W,Kept NoF W0 W -> PPost w X t (.bool false) t (.returned (.bool false)) W := fun W hW => PPost.same h (hk0.then hW)
 have hlm : ∀ W,Kept NoF W0 W -> (W.cell? ⟨X.b,0,none⟩ = some (phV X t) /\ MsgIn W ⟨w.heap.size,0,none⟩ /\ msgAt W ⟨w.heap.size,0,none⟩ = (xcell x).toArray) := fun W hW => ⟨(hcell W hW).1,msgIn_hasA (hn0.kept hW (fun z => z))⟩
 have hphs := hok.ph
 have hfw := fun W => wfrom_any W X t f
 have hfr := fun (e : t.ph = 1) W (hW : Kept NoF W0 W) => rfrom_any (h0.quiet hW) e f
 have hfa := fun W => afrom_any W X t f
 have htw := fun (e : t.ph = 0) (ed : t.dn = false) W (hW : Kept NoF W0 W) => wtake_any (h0.quiet hW) e ed x
 have htr := fun (e : t.ph = 1) (ed : t.dn = false) W (hW : Kept NoF W0 W) => rtake_any (h0.quiet hW) e ed hok x ⟨hx.s.kept (hk0.then hW) (fun _ _ z => z),hx.l,hx.off,hx.k⟩
 have hta := fun W (hW : Kept NoF W0 W) => atake_any (h0.quiet hW) x
 obtain ⟨bb,hbb⟩ : ∃ bb,X.b = bb := ⟨_,rfl⟩
 simp only [hbb] at hnone hcell hlm htw htr hta
 rw [hbb]
 obtain ⟨pv,hpv⟩ : ∃ pv,phV X t = pv := ⟨_,rfl⟩
 simp only [hpv] at hcell hlm
 obtain ⟨cs,hcs⟩ : ∃ cs,(xcell x).toArray = cs := ⟨_,rfl⟩
 unfold xcell at hW0
 unfold xagg at htw htr hta ⊢
 rw [hcs] at htw htr hta
 simp only [hcs] at hlm
 unfold xcell
 have HNONE := hZ0 hnone;have HCELL := hZ0 hcell;have HFIN := hZ0 hfin;have HSAME := hZ0 hsame;have HLM := hZ0 hlm;have HFW := hZ0 hfw;have HFR := hZ0 hfr;have HFA := hZ0 hfa;have HTW := hZ0 htw;have HTR := hZ0 htr;have HTA := hZ0 hta;have HPV := hZ0 hpv;have HCS := hZ0 hcs;have HK0 := hZ0 hk0;have HBB := hZ0 hbb
 have y0 := hcell W0 (Kept.refl _ _)
 clear hnone hcell hfin hsame hlm hfw hfr hfa htw htr hta hpv hcs hk0 hbb h hok hx h0 hn0
 cases hdn : t.dn with
 | true =>
  have hr : takeT t f x = (t,false) := by unfold takeT;rw [if_pos (.inl hdn)]
  rw [hr]
  rw [hdn] at y0
  clear hdn hr
  go_enter Tryz.func32,Tryz.ntmps32
  go_wp2_with fail
  go_quiet (exact Calls.quiet_of_same ((HNONE.out _ (by (repeat' (first | (with_reducible first | exact kR0 | apply kP0 | apply kN0 | apply kD0 | apply kA0) | (right;simp;done))))).mono fun e w' h => ⟨h.1,h.2.symm⟩))
  go_wp2
  go_ret
  exact HSAME.out _ (by (repeat' (first | (with_reducible first | exact kR0 | apply kP0 | apply kN0 | apply kD0 | apply kA0) | (right;simp;done))))
 | false =>
  have HDN := hZ0 hdn
  rw [hdn] at y0 HCELL
  clear hdn
  by_cases hq : x.req = t.rq
  rotate_left
  ·have bq : (x.req != t.rq) = true := by simpa using hq
   have hr : takeT t f x = (t,false) := by unfold takeT;rw [if_pos (.inr (.inl hq))]
   rw [hr]
   clear hq hr
   go_enter Tryz.func32,Tryz.ntmps32
   go_wp2_with fail
   go_quiet (exact Calls.quiet_of_same ((HNONE.out _ (by (repeat' (first | (with_reducible first | exact kR0 | apply kP0 | apply kN0 | apply kD0 | apply kA0) | (right;simp;done))))).mono fun e w' h => ⟨h.1,h.2.symm⟩))
   go_wp2
   go_ret
   exact HSAME.out _ (by (repeat' (first | (with_reducible first | exact kR0 | apply kP0 | apply kN0 | apply kD0 | apply kA0) | (right;simp;done))))
  have bq : (x.req != t.rq) = false := by simpa using hq
  have HQ := hZ0 hq
  clear hq
  rcases (show t.ph = 0 \/ t.ph = 1 \/ t.ph = 2 by omega) with e | e | e
  ·have hpv := HPV.out
   rw [phV0 e] at hpv
   obtain ⟨ccs,hccs⟩ : ∃ ccs,(ccell X t).toArray = ccs := ⟨_,rfl⟩
   rw [hccs] at hpv
   subst hpv
   have hft : fromT t f = decide (0 <= f /\ f < 4) := by unfold fromT;rw [if_pos e]
   have hfc := fun W (hW : Kept NoF W0 W) => HFW.out W
   have htc := fun W (hW : Kept NoF W0 W) => HTW.out e HDN.out W hW
   simp only [hccs] at hfc htc
   have hm1 : ∀ w : World,(method 379 111 (.agg ccs) "catena/asks.from").run Tryz.prog w = .ok (205,.agg ccs) w := fun _ => by kernel_rfl
   have hm2 : ∀ w : World,(method 379 111 (.agg ccs) "catena/asks.take").run Tryz.prog w = .ok (207,.agg ccs) w := fun _ => by kernel_rfl
   have htk : fromT t f = true -> takeT t f x = takeW t x := fun e1 => by unfold takeT;rw [if_neg (by rintro (z | z | z);(rw [HDN.out] at z;cases z);exact z HQ.out;(rw [e1] at z;cases z)),if_pos e]
   have htn : fromT t f = false -> takeT t f x = (t,false) := fun e1 => by unfold takeT;rw [if_pos (.inr (.inr e1))]
   obtain ⟨v,hv⟩ : ∃ v,decide (0 <= f /\ f < 4) = v := ⟨_,rfl⟩
   rw [hv] at hft
   simp only [hv] at hfc
   have HFC := hZ0 hfc;have HTC := hZ0 htc;have HTK := hZ0 htk;have HTN := hZ0 htn
   clear hfc htc htk htn hv hccs e hphs
   have hrn : ∀ d os,Calls Tryz.prog 55 #[.pointer (some ⟨bb,0,none⟩)] (grow (redrawn W0 d) os) fun e w' => e = .returned (.bool false) /\ ∃ p : Regrown,w' = grow (redrawn W0 p.d) p.os := fun d os => Calls.regrown_of ((HNONE.out _ (kept_of_below (below_regrown W0 d os))).mono fun e w' h => ⟨h.1,h.2 ▸ Below.refl _ _⟩)
   have hrf : ∀ d os,Calls Tryz.prog 205 #[.agg ccs,.int .i64 f] (grow (redrawn W0 d) os) fun e w' => e = .returned (.bool v) /\ ∃ p : Regrown,w' = grow (redrawn W0 p.d) p.os := fun d os => Calls.regrown_of ((HFC.out _ (kept_of_below (below_regrown W0 d os))).mono fun e w' h => ⟨h.1,h.2.below (Nat.le_refl _) (fun _ z => z.elim)⟩)
   have c0 := fun d os => cell_regrown y0.1 d os;have c1 := fun d os => cell_regrown y0.2.1 d os;have c3 := fun d os => cell_regrown y0.2.2.1 d os;have c2 := fun d os => cell_regrown y0.2.2.2 d os
   have HRN := hZ0 hrn;have HRF := hZ0 hrf
   clear hrn hrf
   cases v
   ·rw [HTN.out hft]
    clear hft
    go_enter Tryz.func32,Tryz.ntmps32
    go_wp2_with fail
    refine wp_region_quiet_below (by kernel_rfl) (by kernel_rfl) ?_
    repeat (first | go_big_quiet_step (first | with_reducible exact HRN.out _ _ | with_reducible exact HRF.out _ _) | quiet_step (first | with_reducible exact HRN.out _ _ | with_reducible exact HRF.out _ _))
    refine wpQuiet_nil ?_
    intro _ hw9
    obtain ⟨⟨dq,osq⟩,hw9⟩ := hw9
    subst hw9
    have hk9 := kept_of_below (below_regrown W0 dq osq)
    obtain ⟨W9,hW9⟩ : ∃ W9,grow (redrawn W0 dq) osq = W9 := ⟨_,rfl⟩
    rw [hW9] at hk9 ⊢
    go_wp2
    go_ret
    exact HSAME.out _ hk9
   ·rw [HTK.out hft]
    clear hft
    go_enter Tryz.func32,Tryz.ntmps32
    go_wp2_with fail
    refine wp_region_quiet_below (by kernel_rfl) (by kernel_rfl) ?_
    repeat (first | go_big_quiet_step (first | with_reducible exact HRN.out _ _ | with_reducible exact HRF.out _ _) | quiet_step (first | with_reducible exact HRN.out _ _ | with_reducible exact HRF.out _ _))
    refine wpQuiet_nil ?_
    intro _ hw9
    obtain ⟨⟨dq,osq⟩,hw9⟩ := hw9
    subst hw9
    have hk9 := kept_of_below (below_regrown W0 dq osq)
    obtain ⟨W9,hW9⟩ : ∃ W9,grow (redrawn W0 dq) osq = W9 := ⟨_,rfl⟩
    rw [hW9] at hk9 ⊢
    have HK9 := hZ0 hk9
    obtain ⟨y6,y7,y8⟩ := HLM.out W9.drew hk9.drew
    clear hk9 hW9
    go_wp2
    refine wp_region_still_tail 6 (by kernel_rfl) (by kernel_rfl) ?_
    simp only [List.take_succ_cons,List.take_zero,List.drop_succ_cons,List.drop_zero]
    change wpStill _ _ (World.drew W9) _ _ _
    repeat still_step
    refine wpStill_nil ?_
    change wpList _ _ _ _ _ (World.drew W9)
    go_wp2_with fail
    refine (HTC.out _ (by (repeat' (first | (with_reducible first | exact kR0 | apply kP0 | apply kN0 | apply kD0 | apply kA0) | (exact HK9.out) | (right;simp;done))))).mono ?_
    rintro e w7 hp7
    have hp := HFIN.out _ _ _ _ _ (by (repeat' (first | (with_reducible first | exact kR0 | apply kP0 | apply kN0 | apply kD0 | apply kA0) | (exact HK9.out) | (right;simp;done)))) hp7
    have HP := hZ0 hp
    obtain ⟨rfl,-⟩ := hp7
    clear hp
    go_wp2
    go_ret
    exact HP.out
  ·have hpv := HPV.out
   rw [phV1 e] at hpv
   subst hpv
   have hft : fromT t f = decide (f = t.a.nd) := by unfold fromT;rw [if_neg (by omega),if_pos e]
   have hfc := fun W (hW : Kept NoF W0 W) => HFR.out e W hW
   have htc := fun W (hW : Kept NoF W0 W) => HTR.out e HDN.out W hW
   have hm1 : ∀ w : World,(method 379 112 (.pointer (some ⟨X.g,0,none⟩)) "catena/asks.from").run Tryz.prog w = .ok (209,.pointer (some ⟨X.g,0,none⟩)) w := fun _ => by kernel_rfl
   have hm2 : ∀ w : World,(method 379 112 (.pointer (some ⟨X.g,0,none⟩)) "catena/asks.take").run Tryz.prog w = .ok (212,.pointer (some ⟨X.g,0,none⟩)) w := fun _ => by kernel_rfl
   have htk : fromT t f = true -> takeT t f x = takeR t x := fun e1 => by unfold takeT;rw [if_neg (by rintro (z | z | z);(rw [HDN.out] at z;cases z);exact z HQ.out;(rw [e1] at z;cases z)),if_neg (by omega),if_pos e]
   have htn : fromT t f = false -> takeT t f x = (t,false) := fun e1 => by unfold takeT;rw [if_pos (.inr (.inr e1))]
   obtain ⟨v,hv⟩ : ∃ v,decide (f = t.a.nd) = v := ⟨_,rfl⟩
   rw [hv] at hft
   simp only [hv] at hfc
   have HFC := hZ0 hfc;have HTC := hZ0 htc;have HTK := hZ0 htk;have HTN := hZ0 htn
   clear hfc htc htk htn hv e hphs
   have hrn : ∀ d os,Calls Tryz.prog 55 #[.pointer (some ⟨bb,0,none⟩)] (grow (redrawn W0 d) os) fun e w' => e = .returned (.bool false) /\ ∃ p : Regrown,w' = grow (redrawn W0 p.d) p.os := fun d os => Calls.regrown_of ((HNONE.out _ (kept_of_below (below_regrown W0 d os))).mono fun e w' h => ⟨h.1,h.2 ▸ Below.refl _ _⟩)
   have hrf : ∀ d os,Calls Tryz.prog 209 #[.pointer (some ⟨X.g,0,none⟩),.int .i64 f] (grow (redrawn W0 d) os) fun e w' => e = .returned (.bool v) /\ ∃ p : Regrown,w' = grow (redrawn W0 p.d) p.os := fun d os => Calls.regrown_of ((HFC.out _ (kept_of_below (below_regrown W0 d os))).mono fun e w' h => ⟨h.1,h.2.below (Nat.le_refl _) (fun _ z => z.elim)⟩)
   have c0 := fun d os => cell_regrown y0.1 d os;have c1 := fun d os => cell_regrown y0.2.1 d os;have c3 := fun d os => cell_regrown y0.2.2.1 d os;have c2 := fun d os => cell_regrown y0.2.2.2 d os
   have HRN := hZ0 hrn;have HRF := hZ0 hrf
   clear hrn hrf
   cases v
   ·rw [HTN.out hft]
    clear hft
    go_enter Tryz.func32,Tryz.ntmps32
    go_wp2_with fail
    refine wp_region_quiet_below (by kernel_rfl) (by kernel_rfl) ?_
    repeat (first | go_big_quiet_step (first | with_reducible exact HRN.out _ _ | with_reducible exact HRF.out _ _) | quiet_step (first | with_reducible exact HRN.out _ _ | with_reducible exact HRF.out _ _))
    refine wpQuiet_nil ?_
    intro _ hw9
    obtain ⟨⟨dq,osq⟩,hw9⟩ := hw9
    subst hw9
    have hk9 := kept_of_below (below_regrown W0 dq osq)
    obtain ⟨W9,hW9⟩ : ∃ W9,grow (redrawn W0 dq) osq = W9 := ⟨_,rfl⟩
    rw [hW9] at hk9 ⊢
    go_wp2
    go_ret
    exact HSAME.out _ hk9
   ·rw [HTK.out hft]
    clear hft
    go_enter Tryz.func32,Tryz.ntmps32
    go_wp2_with fail
    refine wp_region_quiet_below (by kernel_rfl) (by kernel_rfl) ?_
    repeat (first | go_big_quiet_step (first | with_reducible exact HRN.out _ _ | with_reducible exact HRF.out _ _) | quiet_step (first | with_reducible exact HRN.out _ _ | with_reducible exact HRF.out _ _))
    refine wpQuiet_nil ?_
    intro _ hw9
    obtain ⟨⟨dq,osq⟩,hw9⟩ := hw9
    subst hw9
    have hk9 := kept_of_below (below_regrown W0 dq osq)
    obtain ⟨W9,hW9⟩ : ∃ W9,grow (redrawn W0 dq) osq = W9 := ⟨_,rfl⟩
    rw [hW9] at hk9 ⊢
    have HK9 := hZ0 hk9
    obtain ⟨y6,y7,y8⟩ := HLM.out W9.drew hk9.drew
    clear hk9 hW9
    go_wp2
    refine wp_region_still_tail 6 (by kernel_rfl) (by kernel_rfl) ?_
    simp only [List.take_succ_cons,List.take_zero,List.drop_succ_cons,List.drop_zero]
    change wpStill _ _ (World.drew W9) _ _ _
    repeat still_step
    refine wpStill_nil ?_
    change wpList _ _ _ _ _ (World.drew W9)
    go_wp2_with fail
    refine (HTC.out _ (by (repeat' (first | (with_reducible first | exact kR0 | apply kP0 | apply kN0 | apply kD0 | apply kA0) | (exact HK9.out) | (right;simp;done))))).mono ?_
    rintro e w7 hp7
    have hp := HFIN.out _ _ _ _ _ (by (repeat' (first | (with_reducible first | exact kR0 | apply kP0 | apply kN0 | apply kD0 | apply kA0) | (exact HK9.out) | (right;simp;done)))) hp7
    have HP := hZ0 hp
    obtain ⟨rfl,-⟩ := hp7
    clear hp
    go_wp2
    go_ret
    exact HP.out
  ·have hpv := HPV.out
   rw [phV2 e] at hpv
   obtain ⟨ccs,hccs⟩ : ∃ ccs,(ccell X t).toArray = ccs := ⟨_,rfl⟩
   rw [hccs] at hpv
   subst hpv
   have hft : fromT t f = decide (f = 4) := by unfold fromT;rw [if_neg (by omega),if_neg (by omega)]
   have hfc := fun W (hW : Kept NoF W0 W) => HFA.out W
   have htc := fun W (hW : Kept NoF W0 W) => HTA.out W hW
   simp only [hccs] at hfc htc
   have hm1 : ∀ w : World,(method 379 115 (.agg ccs) "catena/asks.from").run Tryz.prog w = .ok (215,.agg ccs) w := fun _ => by kernel_rfl
   have hm2 : ∀ w : World,(method 379 115 (.agg ccs) "catena/asks.take").run Tryz.prog w = .ok (217,.agg ccs) w := fun _ => by kernel_rfl
   have htk : fromT t f = true -> takeT t f x = takeA t x := fun e1 => by unfold takeT;rw [if_neg (by rintro (z | z | z);(rw [HDN.out] at z;cases z);exact z HQ.out;(rw [e1] at z;cases z)),if_neg (by omega),if_neg (by omega)]
   have htn : fromT t f = false -> takeT t f x = (t,false) := fun e1 => by unfold takeT;rw [if_pos (.inr (.inr e1))]
   obtain ⟨v,hv⟩ : ∃ v,decide (f = 4) = v := ⟨_,rfl⟩
   rw [hv] at hft
   simp only [hv] at hfc
   have HFC := hZ0 hfc;have HTC := hZ0 htc;have HTK := hZ0 htk;have HTN := hZ0 htn
   clear hfc htc htk htn hv hccs e hphs
   have hrn : ∀ d os,Calls Tryz.prog 55 #[.pointer (some ⟨bb,0,none⟩)] (grow (redrawn W0 d) os) fun e w' => e = .returned (.bool false) /\ ∃ p : Regrown,w' = grow (redrawn W0 p.d) p.os := fun d os => Calls.regrown_of ((HNONE.out _ (kept_of_below (below_regrown W0 d os))).mono fun e w' h => ⟨h.1,h.2 ▸ Below.refl _ _⟩)
   have hrf : ∀ d os,Calls Tryz.prog 215 #[.agg ccs,.int .i64 f] (grow (redrawn W0 d) os) fun e w' => e = .returned (.bool v) /\ ∃ p : Regrown,w' = grow (redrawn W0 p.d) p.os := fun d os => Calls.regrown_of ((HFC.out _ (kept_of_below (below_regrown W0 d os))).mono fun e w' h => ⟨h.1,h.2.below (Nat.le_refl _) (fun _ z => z.elim)⟩)
   have c0 := fun d os => cell_regrown y0.1 d os;have c1 := fun d os => cell_regrown y0.2.1 d os;have c3 := fun d os => cell_regrown y0.2.2.1 d os;have c2 := fun d os => cell_regrown y0.2.2.2 d os
   have HRN := hZ0 hrn;have HRF := hZ0 hrf
   clear hrn hrf
   cases v
   ·rw [HTN.out hft]
    clear hft
    go_enter Tryz.func32,Tryz.ntmps32
    go_wp2_with fail
    refine wp_region_quiet_below (by kernel_rfl) (by kernel_rfl) ?_
    repeat (first | go_big_quiet_step (first | with_reducible exact HRN.out _ _ | with_reducible exact HRF.out _ _) | quiet_step (first | with_reducible exact HRN.out _ _ | with_reducible exact HRF.out _ _))
    refine wpQuiet_nil ?_
    intro _ hw9
    obtain ⟨⟨dq,osq⟩,hw9⟩ := hw9
    subst hw9
    have hk9 := kept_of_below (below_regrown W0 dq osq)
    obtain ⟨W9,hW9⟩ : ∃ W9,grow (redrawn W0 dq) osq = W9 := ⟨_,rfl⟩
    rw [hW9] at hk9 ⊢
    go_wp2
    go_ret
    exact HSAME.out _ hk9
   ·rw [HTK.out hft]
    clear hft
    go_enter Tryz.func32,Tryz.ntmps32
    go_wp2_with fail
    refine wp_region_quiet_below (by kernel_rfl) (by kernel_rfl) ?_
    repeat (first | go_big_quiet_step (first | with_reducible exact HRN.out _ _ | with_reducible exact HRF.out _ _) | quiet_step (first | with_reducible exact HRN.out _ _ | with_reducible exact HRF.out _ _))
    refine wpQuiet_nil ?_
    intro _ hw9
    obtain ⟨⟨dq,osq⟩,hw9⟩ := hw9
    subst hw9
    have hk9 := kept_of_below (below_regrown W0 dq osq)
    obtain ⟨W9,hW9⟩ : ∃ W9,grow (redrawn W0 dq) osq = W9 := ⟨_,rfl⟩
    rw [hW9] at hk9 ⊢
    have HK9 := hZ0 hk9
    obtain ⟨y6,y7,y8⟩ := HLM.out W9.drew hk9.drew
    clear hk9 hW9
    go_wp2
    refine wp_region_still_tail 6 (by kernel_rfl) (by kernel_rfl) ?_
    simp only [List.take_succ_cons,List.take_zero,List.drop_succ_cons,List.drop_zero]
    change wpStill _ _ (World.drew W9) _ _ _
    repeat still_step
    refine wpStill_nil ?_
    change wpList _ _ _ _ _ (World.drew W9)
    go_wp2_with fail
    refine (HTC.out _ (by (repeat' (first | (with_reducible first | exact kR0 | apply kP0 | apply kN0 | apply kD0 | apply kA0) | (exact HK9.out) | (right;simp;done))))).mono ?_
    rintro e w7 hp7
    have hp := HFIN.out _ _ _ _ _ (by (repeat' (first | (with_reducible first | exact kR0 | apply kP0 | apply kN0 | apply kD0 | apply kA0) | (exact HK9.out) | (right;simp;done)))) hp7
    have HP := hZ0 hp
    obtain ⟨rfl,-⟩ := hp7
    clear hp
    go_wp2
    go_ret
    exact HP.out
end
end Ask
end Go.Proofs.YtgbigpdiacjbgaaGreat
