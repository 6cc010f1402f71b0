/- Part 34 of what the proof needs. -/
import Derived.Test.YtgbigpdiacjbgaaGreatKO22
import Derived.Test.YtgbigpdiacjbgaaGreatKO32
set_option linter.unusedSimpArgs false
set_option linter.unusedVariables false
set_option maxHeartbeats 32000000
set_option maxRecDepth 100000
namespace Go.Proofs.YtgbigpdiacjbgaaGreat
open Go.RowKit
set_option maxRecDepth 100000
namespace Cli
open Plan Ops Ent Msg Vn Go.Proofs.YtgbigpdiacjbgaaGreat.Ask
def headC : List Mem -> Int
 | [] => -1
 | m :: _ => m.1
theorem chead_any (w : World) (ep fl : Int) (A : Option Addr) (c : Nat) (l : List Mem) (hl : Src w 2 A l.length (mcells l)) (hlen : l.length <= 1000000) :
  Calls Tryz.prog 65 #[cagg ep A l.length c fl] w fun e w' => e = .returned (.int .i64 (headC l)) /\ Kept NoF w w' := by
 cases l with
 | nil =>
  clear hl
  simp only [List.length_nil]
  go_enter Tryz.func65,Tryz.ntmps65
  go_wp2
  go_ret
  exact ⟨rfl,by (repeat' (first | (with_reducible first | exact kR0 | apply kP0 | apply kN0 | apply kD0 | apply kA0) | (right;simp;done)))⟩
 | cons m r =>
  obtain ⟨ad,rfl,had,d0,d1⟩ := mem_cells hl (by simp) 0 m rfl
  have d0' : w.cell? ad = some (.int .i64 m.1) := d0
  have d0'' : ∀ o,(w.alloc o).cell? ad = some (.int .i64 m.1) := fun o => by rw [World.cell?_of_block (w := w) (((Kept.refl NoF w).alloc o).block _ had (fun x => x))];exact d0'
  have e0 := d0'' (.cells #[.int .i64 ep,.slice (some ad) (m :: r).length c,.int .u64 fl] 57)
  have hpos : 0 < (m :: r).length := by simp
  have HH := hZ0 (rfl : headC (m :: r) = m.1)
  generalize (m :: r).length = N at *
  rw [HH.out]
  have hp1 : ¬ (N : Int) = 0 := by omega
  have hp2 : ¬ (N : Int) <= 0 := by omega
  clear d0 d1 d0' d0'' hl had HH
  have hadd : ad.add 0 = ad := by unfold Addr.add;rw [if_pos rfl]
  go_enter Tryz.func65,Tryz.ntmps65
  go_wp2
  go_ret
  exact ⟨rfl,by (repeat' (first | (with_reducible first | exact kR0 | apply kP0 | apply kN0 | apply kD0 | apply kA0) | (right;simp;done)))⟩
def learnC (C : CLR) (f : Int) (x : MsgR) : CLR × Bool :=
 if f = 4 /\ x.k = 1 /\ C.ep < x.cep then ({ C with ep := x.cep,hd := headC x.ms },true)
 else if x.k = 7 /\ C.ep < x.ep then ({ C with as' := true },false)
 else (C,false)
section
variable {w w' : World} {X X' : CX} {C C' : CLR}
theorem ClAt.nums (h : ClAt w X C) (hk : Kept (fun k => k = X.cb) w w') (hb : Has w' X.cb 38 (ccells X C')) (ht : C'.t = C.t) (hr : C'.r = C.r) : CStep w X C w' X C' := by
 refine ⟨⟨hb,fun t e => ?_,?_,?_⟩,rfl,fun k hk => ?_,hk.mono fun k e => .inl e⟩
 ·rw [ht] at e
  have h1 := h.t t e
  exact ⟨h1.1.keptG hk (fun k hf e => h1.2 (e ▸ hf)),h1.2⟩
 ·rw [hr];exact own_kept h.r hk (fun k hk e => (h.ar k hk).1 e)
 ·rw [hr];intro k hk
  refine ⟨(h.ar k hk).1,fun t e => ?_⟩
  rw [ht] at e
  exact (h.ar k hk).2 t e
 ·unfold cfoot at hk ⊢
  rw [ht,hr] at hk
  exact .inl hk
theorem learn_any (h : ClAt w X C) (f : Int) (x : MsgR) (hx : Mof.XAt w 0 x) : Calls Tryz.prog 30 #[.pointer (some ⟨X.cb,0,none⟩),.int .i64 f,xagg x] w fun e w' => e = .returned (.bool (learnC C f x).2) /\ CStep w X C w' X (learnC C f x).1 := by
 obtain ⟨W0,hW0⟩ : ∃ W0,w.alloc (.cells (xcell x).toArray 63) = W0 := ⟨_,rfl⟩
 have hk0 : Kept NoF w W0 := by rw [<- hW0];(repeat' (first | (with_reducible first | exact kR0 | apply kP0 | apply kN0 | apply kD0 | apply kA0) | (right;simp;done)))
 have hn0 : Has W0 w.heap.size 63 (xcell x).toArray := by rw [<- hW0];exact Has.new _ _ _
 have h0 := h.quiet hk0
 have q2 : W0.cell? ⟨X.cb,2,none⟩ = some (.int .i64 C.ep) := h0.b.cell 2
 have m0 : W0.cell? ⟨w.heap.size,0,none⟩ = some (.int .i64 x.k) := hn0.cell 0
 have m1 : W0.cell? ⟨w.heap.size,1,none⟩ = some (.int .i64 x.ep) := hn0.cell 1
 have m13 : W0.cell? ⟨w.heap.size,13,none⟩ = some (.int .i64 x.cep) := hn0.cell 13
 have hlt : X.cb < w.heap.size := h.b.lt
 obtain ⟨mb,hmb⟩ : ∃ mb,w.heap.size = mb := ⟨_,rfl⟩
 rw [hmb] at m0 m1 m13 hn0
 have hne : X.cb ≠ mb := by omega
 by_cases hc : f = 4 /\ x.k = 1 /\ C.ep < x.cep
 ·have hl : learnC C f x = ({ C with ep := x.cep,hd := headC x.ms },true) := if_pos hc
  rw [hl]
  obtain ⟨rfl,hk1,hep⟩ := hc
  rw [hk1] at m0
  have hhd := fun W (hW : Kept NoF W0 W) => chead_any W x.cep x.cfl x.mA x.mc x.ms (hx.m.kept (hk0.then hW) (fun _ _ z => z)) (by have := hx.ml;omega)
  have hS : ∀ W,Kept (fun k => k = X.cb) W0 W -> W.cell? ⟨mb,13,none⟩ = some (.int .i64 x.cep) /\ W.cell? ⟨mb,14,none⟩ = some (.slice x.mA x.ms.length x.mc) /\ W.cell? ⟨mb,15,none⟩ = some (.int .u64 x.cfl) := fun W hW => ⟨(hn0.kept hW (fun e => hne e.symm)).cell 13,(hn0.kept hW (fun e => hne e.symm)).cell 14,(hn0.kept hW (fun e => hne e.symm)).cell 15⟩
  obtain ⟨hh,hhh⟩ : ∃ hh,headC x.ms = hh := ⟨_,rfl⟩
  simp only [hhh] at hhd
  rw [hhh]
  obtain ⟨nm,hnm⟩ : ∃ nm,x.ms.length = nm := ⟨_,rfl⟩
  simp only [hnm] at hhd hS
  obtain ⟨cs,hcs⟩ : ∃ cs,(xcell x).toArray = cs := ⟨_,rfl⟩
  unfold xagg
  rw [hcs] at hW0 ⊢
  have HHD := hZ0 hhd;have HS := hZ0 hS;have H0 := hZ0 h0;have HK0 := hZ0 hk0;have HH := hZ0 h;have HNE := hZ0 hne
  clear hhd hS h0 hk0 h hne hn0 hx hl hhh hnm hcs hk1 hlt
  go_enter Tryz.func30,Tryz.ntmps30
  go_wp2_with fail
  clear hW0 hmb
  go_quiet (fail)
  clear q2 m0 m1 m13
  obtain ⟨s13,s14,s15⟩ := HS.out W0 (Kept.refl _ _)
  have y2 : W0.cell? ⟨X.cb,2,none⟩ = some (.int .i64 C.ep) := H0.out.b.cell 2
  go_wp2_with fail
  go_region_held3 (fun W => W.cell? ⟨mb,13,none⟩ = some (.int .i64 x.cep) /\ W.cell? ⟨mb,14,none⟩ = some (.slice x.mA nm x.mc) /\ W.cell? ⟨mb,15,none⟩ = some (.int .u64 x.cfl)) (first | with_reducible exact s5 | with_reducible exact ⟨s13,s14,s15⟩ | (refine HS.out _ ?_;(repeat' (first | (with_reducible first | exact kR0 | apply kP0 | apply kN0 | apply kD0 | apply kA0) | (first | exact Or.inl rfl | with_reducible exact HKF.out) | (right;simp;done)));done))
   (first | (go_at_call 65;refine (HHD.out _ (by (repeat' (first | (with_reducible first | exact kR0 | apply kP0 | apply kN0 | apply kD0 | apply kA0) | (right;simp;done))))).mono ?_;rintro e w5 ⟨rfl,hk5⟩;have hkk := Kept.then (F := NoF) (a := W0) (by (repeat' (first | (with_reducible first | exact kR0 | apply kP0 | apply kN0 | apply kD0 | apply kA0) | (right;simp;done)))) hk5;have hb5 := H0.out.b.kept hkk (fun z => z);have z2 : w5.cell? ⟨X.cb,2,none⟩ = some (.int .i64 C.ep) := hb5.cell 2;have z3 : w5.cell? ⟨X.cb,3,none⟩ = some (.int .i64 C.hd) := hb5.cell 3;have f2 := hb5.frozen 2;have f3 := hb5.frozen 3;have HKF := hZ0 (Kept.up' (F := fun k => k = X.cb) hkk);have s5 := HS.out w5 HKF.out;have HKK := hZ0 hkk;have HB5 := hZ0 hb5;clear hk5 hkk hb5))
  go_wp2
  go_ret
  have hc5 := H0.out.quiet HKK.out
  exact ⟨rfl,(CStep.refl HH.out (HK0.out.then HKK.out)).trans (ClAt.nums hc5 (by (repeat' (first | (with_reducible first | exact kR0 | apply kP0 | apply kN0 | apply kD0 | apply kA0) | (exact Or.inl rfl) | (right;simp;done)))) (Has.put_of (Has.put_of HB5.out rfl) rfl) rfl rfl)⟩
 ·have hl : learnC C f x = if x.k = 7 /\ C.ep < x.ep then ({ C with as' := true },false) else (C,false) := if_neg hc
  have h11 : W0.cell? ⟨X.cb,11,none⟩ = some (.bool C.as') := h0.b.cell 11
  have f11 := h0.b.frozen 11
  have hset : ∀ W,Kept NoF W0 W -> CStep w X C (W.setCell ⟨X.cb,11,none⟩ (.bool true)) X { C with as' := true } := fun W hW => by
   have hcW := h0.quiet hW
   exact (CStep.refl h (hk0.then hW)).trans (ClAt.nums hcW (by (repeat' (first | (with_reducible first | exact kR0 | apply kP0 | apply kN0 | apply kD0 | apply kA0) | (exact Or.inl rfl) | (right;simp;done)))) (Has.put_of hcW.b rfl) rfl rfl)
  have hno : ∀ W,Kept NoF W0 W -> CStep w X C W X C := fun W hW => CStep.refl h (hk0.then hW)
  rw [hl]
  obtain ⟨kk,hkk⟩ : ∃ kk,x.k = kk := ⟨_,rfl⟩
  rw [hkk] at m0 hc ⊢
  obtain ⟨cs,hcs⟩ : ∃ cs,(xcell x).toArray = cs := ⟨_,rfl⟩
  unfold xagg
  rw [hcs] at hW0 ⊢
  have HSET := hZ0 hset;have HNO := hZ0 hno
  clear hset hno h0 hk0 h hne hn0 hx hl hkk hcs hlt
  have hcase : (f ≠ 4 /\ kk ≠ 7) \/ (f ≠ 4 /\ kk = 7 /\ C.ep < x.ep) \/ (f ≠ 4 /\ kk = 7 /\ ¬ C.ep < x.ep) \/ (f = 4 /\ kk = 1 /\ ¬ C.ep < x.cep) \/ (f = 4 /\ kk ≠ 1 /\ kk ≠ 7) \/ (f = 4 /\ kk = 7 /\ C.ep < x.ep) \/ (f = 4 /\ kk = 7 /\ ¬ C.ep < x.ep) := by omega
  clear hc
  have hbf : ∀ a b : Int,a ≠ b -> (a == b) = false := fun a b h => by simpa using h
  rcases hcase with ⟨hf,hk⟩ | ⟨hf,rfl,hlt⟩ | ⟨hf,rfl,hlt⟩ | ⟨rfl,rfl,hlt⟩ | ⟨rfl,hk1,hk⟩ | ⟨rfl,rfl,hlt⟩ | ⟨rfl,rfl,hlt⟩
  ·rw [if_neg (fun h => hk h.1)]
   have hf' := hbf _ _ hf;have hk' := hbf _ _ hk
   clear hf hk hbf
   go_enter Tryz.func30,Tryz.ntmps30
   go_wp2_with fail
   clear hW0 hmb
   go_quiet (fail)
   go_wp2_with fail
   go_quiet (fail)
   go_wp2
   go_ret
   exact ⟨rfl,HNO.out _ (by (repeat' (first | (with_reducible first | exact kR0 | apply kP0 | apply kN0 | apply kD0 | apply kA0) | (right;simp;done))))⟩
  ·rw [if_pos ⟨rfl,hlt⟩]
   have hf' := hbf _ _ hf
   clear hf hbf
   go_enter Tryz.func30,Tryz.ntmps30
   go_wp2_with fail
   clear hW0 hmb
   go_quiet (fail)
   go_wp2_with fail
   go_quiet (fail)
   go_wp2
   go_ret
   exact ⟨rfl,HSET.out _ (by (repeat' (first | (with_reducible first | exact kR0 | apply kP0 | apply kN0 | apply kD0 | apply kA0) | (right;simp;done))))⟩
  ·rw [if_neg (fun h => hlt h.2)]
   have hf' := hbf _ _ hf
   clear hf hbf
   go_enter Tryz.func30,Tryz.ntmps30
   go_wp2_with fail
   clear hW0 hmb
   go_quiet (fail)
   go_wp2_with fail
   go_quiet (fail)
   go_wp2
   go_ret
   exact ⟨rfl,HNO.out _ (by (repeat' (first | (with_reducible first | exact kR0 | apply kP0 | apply kN0 | apply kD0 | apply kA0) | (right;simp;done))))⟩
  ·rw [if_neg (fun h => by have := h.1;omega)]
   clear hbf
   go_enter Tryz.func30,Tryz.ntmps30
   go_wp2_with fail
   clear hW0 hmb
   go_quiet (fail)
   go_wp2_with fail
   go_quiet (fail)
   go_wp2
   go_ret
   exact ⟨rfl,HNO.out _ (by (repeat' (first | (with_reducible first | exact kR0 | apply kP0 | apply kN0 | apply kD0 | apply kA0) | (right;simp;done))))⟩
  ·rw [if_neg (fun h => hk h.1)]
   have hk' := hbf _ _ hk;have hk1' := hbf _ _ hk1
   clear hk hk1 hbf
   go_enter Tryz.func30,Tryz.ntmps30
   go_wp2_with fail
   clear hW0 hmb
   go_quiet (fail)
   go_wp2_with fail
   go_quiet (fail)
   go_wp2
   go_ret
   exact ⟨rfl,HNO.out _ (by (repeat' (first | (with_reducible first | exact kR0 | apply kP0 | apply kN0 | apply kD0 | apply kA0) | (right;simp;done))))⟩
  ·rw [if_pos ⟨rfl,hlt⟩]
   clear hbf
   go_enter Tryz.func30,Tryz.ntmps30
   go_wp2_with fail
   clear hW0 hmb
   go_quiet (fail)
   go_wp2_with fail
   go_quiet (fail)
   go_wp2
   go_ret
   exact ⟨rfl,HSET.out _ (by (repeat' (first | (with_reducible first | exact kR0 | apply kP0 | apply kN0 | apply kD0 | apply kA0) | (right;simp;done))))⟩
  ·rw [if_neg (fun h => hlt h.2)]
   clear hbf
   go_enter Tryz.func30,Tryz.ntmps30
   go_wp2_with fail
   clear hW0 hmb
   go_quiet (fail)
   go_wp2_with fail
   go_quiet (fail)
   go_wp2
   go_ret
   exact ⟨rfl,HNO.out _ (by (repeat' (first | (with_reducible first | exact kR0 | apply kP0 | apply kN0 | apply kD0 | apply kA0) | (right;simp;done))))⟩
end
end Cli
namespace Cli
open Plan Ops Ent Msg Vn Go.Proofs.YtgbigpdiacjbgaaGreat.Ask
def seeC (C : CLR) : CLR := match C.t with
 | none => C
 | some t => if t.dn = true then { C with r := repT t,has := true,t := none } else C
section
variable {w w' : World} {X X' : CX} {C C' : CLR}
theorem see_any (h : ClAt w X C) {t : TS} (ht : C.t = some t) (hl : t.r.ps.length <= 1000) : Calls Tryz.prog 33 #[.pointer (some ⟨X.cb,0,none⟩)] w fun e w' => e = .returned (.tuple #[]) /\ ∃ X',CStep w X C w' X' (seeC C) := by
 have hdn := pdone_any (h.t t ht).1 hl
 unfold DonePost at hdn
 have q4 : w.cell? ⟨X.cb,4,none⟩ = some (tptr X C) := h.b.cell 4
 rw [tptr_some ht] at q4
 have hs : seeC C = if t.dn = true then { C with r := repT t,has := true,t := none } else C := by unfold seeC;rw [ht]
 obtain ⟨cb,hcb⟩ : ∃ cb,X.cb = cb := ⟨_,rfl⟩
 obtain ⟨tb,htb⟩ : ∃ tb,X.px.b = tb := ⟨_,rfl⟩
 rw [hcb] at q4 ⊢
 rw [htb] at hdn q4
 obtain ⟨rp,hrp⟩ : ∃ rp,repT t = rp := ⟨_,rfl⟩
 rw [hrp] at hdn hs
 obtain ⟨dn,hdd⟩ : ∃ dn,t.dn = dn := ⟨_,rfl⟩
 rw [hdd] at hdn hs
 obtain ⟨r1,r2,r3,r4,r5⟩ := rp
 unfold ragg rcell at hdn
 dsimp only at hdn
 obtain ⟨np,hnp⟩ : ∃ np,r5.length = np := ⟨_,rfl⟩
 rw [hnp] at hdn
 have HDN := hZ0 hdn;have H := hZ0 h;have HS := hZ0 hs;have HCB := hZ0 hcb;have HNP := hZ0 hnp
 clear hdn h hs hcb htb hrp hdd hnp ht hl
 go_enter Tryz.func33,Tryz.ntmps33
 go_wp2_with fail
 clear q4
 refine HDN.out.mono ?_
 rintro e w3 ⟨A,c,rfl,hrow,hk3⟩
 obtain ⟨W4,hW4⟩ : ∃ W4,w3.alloc (.cells #[.int .i64 r1,.int .i64 r2,.int .u64 r3,.int .i64 r4,.slice A np c] 36) = W4 := ⟨_,rfl⟩
 have hk4 : Kept NoF w3 W4 := by rw [<- hW4];(repeat' (first | (with_reducible first | exact kR0 | apply kP0 | apply kN0 | apply kD0 | apply kA0) | (right;simp;done)))
 have hb4 : Has W4 w3.heap.size 36 #[.int .i64 r1,.int .i64 r2,.int .u64 r3,.int .i64 r4,.slice A np c] := by rw [<- hW4];exact Has.new _ _ _
 have hc4 := H.out.quiet (hk3.then hk4)
 have hrow4 := hrow.kept hk4
 have HROW := hZ0 hrow4;have HC4 := hZ0 hc4;have HK4 := hZ0 (hk3.then hk4)
 cases dn
 ·have hs := HS.out
  rw [if_neg (by decide)] at hs
  have HS2 := hZ0 hs
  clear hs hrow hk3 hk4 hb4 hc4 hrow4
  go_wp2
  clear hW4
  go_end0
  exact ⟨rfl,X,by rw [HS2.out];exact CStep.refl H.out HK4.out⟩
 ·have hs := HS.out
  rw [if_pos rfl] at hs
  have HS2 := hZ0 hs
  have b0 := hb4.cell 0;have b1 := hb4.cell 1;have b2 := hb4.cell 2;have b3 := hb4.cell 3;have b4 := hb4.cell 4
  simp at b0 b1 b2 b3 b4
  have hcb := hc4.b
  rw [HCB.out] at hcb
  have y4 : W4.cell? ⟨cb,4,none⟩ = some (tptr X C) := hcb.cell 4
  have y5 : W4.cell? ⟨cb,5,none⟩ = some (.int .i64 C.r.req) := hcb.cell 5
  have y6 : W4.cell? ⟨cb,6,none⟩ = some (.int .i64 C.r.e) := hcb.cell 6
  have y7 : W4.cell? ⟨cb,7,none⟩ = some (.int .u64 C.r.at') := hcb.cell 7
  have y8 : W4.cell? ⟨cb,8,none⟩ = some (.int .i64 C.r.pin) := hcb.cell 8
  have y9 : W4.cell? ⟨cb,9,none⟩ = some (.slice X.rA C.r.ps.length X.rc) := hcb.cell 9
  have y10 : W4.cell? ⟨cb,10,none⟩ = some (.bool C.has) := hcb.cell 10
  have f4 := hcb.frozen 4;have f5 := hcb.frozen 5;have f6 := hcb.frozen 6;have f7 := hcb.frozen 7;have f8 := hcb.frozen 8;have f9 := hcb.frozen 9;have f10 := hcb.frozen 10
  have HB := hZ0 hcb;have HWS := hZ0 hk3.size
  clear hs hrow hk3 hk4 hb4 hc4 hrow4 hcb
  go_wp2
  clear hW4
  go_end0
  have hnp := HNP.out
  subst hnp
  have hcw : cb < w.heap.size := by have := H.out.b.lt;rw [HCB.out] at this;exact this
  have hnb : ∀ k,(Value.slice A r5.length c).ownBlock = some k -> w.heap.size <= k := fun k hk => HROW.out.2 k hk
  refine ⟨rfl,{ X with rA := A,rc := c },?_⟩
  rw [HS2.out]
  refine ⟨⟨?_,(fun t e => by cases e),?_,fun k hk => ⟨?_,fun t e => by cases e⟩⟩,rfl,fun k hk => ?_,?_⟩
  ·show Has _ X.cb _ _
   rw [HCB.out]
   exact Has.put_of (Has.put_of (Has.put_of (Has.put_of (Has.put_of (Has.put_of (Has.put_of HB.out rfl) rfl) rfl) rfl) rfl) rfl) rfl
  ·exact own_kept (F := fun k => k = cb) HROW.out.1 (by (repeat' (first | (with_reducible first | exact kR0 | apply kP0 | apply kN0 | apply kD0 | apply kA0) | (exact Or.inl rfl) | (right;simp;done)))) (fun g hg e => by have := hnb g hg;omega)
  ·have h1 := hnb k hk
   show k ≠ X.cb
   rw [HCB.out]
   omega
  ·rcases hk with rfl | ⟨t,e,-⟩ | hk
   ·exact .inl (.inl rfl)
   ·cases e
   ·exact .inr (hnb k hk)
  ·have hkk : Kept (cfoot X C) w W4 := Kept.up' HK4.out
   exact hkk.trans (G := fun k => k = cb) (by (repeat' (first | (with_reducible first | exact kR0 | apply kP0 | apply kN0 | apply kD0 | apply kA0) | (exact Or.inl rfl) | (right;simp;done)))) (fun k hk => .inl (.inl (hk.trans HCB.out.symm)))
end
end Cli
namespace Cli
open Plan Ops Ent Msg Vn Go.Proofs.YtgbigpdiacjbgaaGreat.Ask
def writesT (t : TS) : Bool := !t.dn && decide (t.ph = 0)
def tickC (C : CLR) : CLR × List OutR := match C.t with
 | none => (C,[])
 | some t =>
  if (tickT t).2 = false then (seeC { C with t := some (tickT t).1 },[])
  else if writesT (tickT t).1 = false then ({ C with t := some (tickT t).1 },putO [] (nextT (tickT t).1 C.ep C.hd).1 (nextT (tickT t).1 C.ep C.hd).2)
  else if 0 <= C.hd /\ (C.as' = true \/ (min (C.tk + 1) 1073741824) % 4 = 0) then ({ C with t := some (tickT t).1,tk := min (C.tk + 1) 1073741824,as' := false },putO (putO [] (nextT (tickT t).1 C.ep C.hd).1 (nextT (tickT t).1 C.ep C.hd).2) 4 { zmsg with k := 15 })
  else ({ C with t := some (tickT t).1,tk := min (C.tk + 1) 1073741824 },putO [] (nextT (tickT t).1 C.ep C.hd).1 (nextT (tickT t).1 C.ep C.hd).2)
section
variable {w w' : World} {X X' : CX} {C C' : CLR}
theorem ClAt.go (h : ClAt w X C) {t t' : TS} (ht : C.t = some t) {Xp : PX} (hp : PAt w' Xp t') (hb : Xp.b = X.px.b) (hf : ∀ k,foot Xp t' k -> foot X.px t k \/ w.heap.size <= k) (hk : Kept (foot X.px t) w w') : CStep w X C w' { X with px := Xp } { C with t := some t' } := by
 have h1 := h.t t ht
 have e1 : ccells { X with px := Xp } { C with t := some t' } = ccells X C := by
  unfold ccells
  rw [tptr_some (X := { X with px := Xp }) (C := { C with t := some t' }) rfl,tptr_some ht]
  dsimp only
  rw [hb]
 have hlt := h.b.lt
 refine ⟨⟨?_,fun u e => ?_,own_kept h.r hk (fun k hk => (h.ar k hk).2 t ht),fun k hk => ⟨(h.ar k hk).1,fun u e hu => ?_⟩⟩,rfl,fun k hk => ?_,hk.mono fun k hk => .inr (.inl ⟨t,ht,hk⟩)⟩
 ·rw [e1];exact h.b.kept hk h1.2
 ·injection e with e
  subst e
  refine ⟨hp,fun hu => ?_⟩
  rcases hf _ hu with y | y
  ·exact h1.2 y
  ·have y' : w.heap.size <= X.cb := y
   omega
 ·injection e with e
  subst e
  rcases hf _ hu with y | y
  ·exact (h.ar k hk).2 t ht y
  ·have := own_lt h.r hk;omega
 ·rcases hk with rfl | ⟨u,e,hu⟩ | hk
  ·exact .inl (.inl rfl)
  ·have e' : some t' = some u := e
   injection e' with e'
   subst e'
   rcases hf k hu with y | y
   ·exact .inl (.inr (.inl ⟨t,ht,y⟩))
   ·exact .inr y
  ·exact .inl (.inr (.inr hk))
theorem tick_none (h : ClAt w X C) (ht : C.t = none) : Calls Tryz.prog 12 #[.pointer (some ⟨X.cb,0,none⟩)] w fun e w' => e = .returned (.slice none 0 0) /\ w = w' := by
 have hn := cnone_any h
 have q : w.cell? ⟨X.cb,4,none⟩ = some (tptr X C) := h.b.cell 4
 rw [tptr_none ht] at q
 obtain ⟨cb,hcb⟩ : ∃ cb,X.cb = cb := ⟨_,rfl⟩
 rw [hcb] at hn q ⊢
 have HN := hZ0 hn
 clear hn h hcb ht
 go_enter Tryz.func12,Tryz.ntmps12
 go_wp2_with fail
 refine HN.out.mono ?_
 rintro e w2 ⟨rfl,rfl⟩
 go_wp2
 go_ret
 exact ⟨rfl,rfl⟩
theorem tick_done (h : ClAt w X C) (hok : COk C) {t : TS} (ht : C.t = some t) (hl : (tickT t).1.r.ps.length <= 1000) (hz : (tickT t).2 = false) : Calls Tryz.prog 12 #[.pointer (some ⟨X.cb,0,none⟩)] w fun e w' => e = .returned (.slice none 0 0) /\ ∃ X',CStep w X C w' X' (seeC { C with t := some (tickT t).1 }) := by
 have hn := cnone_any h
 have hpt := ptick_any (h.t t ht).1 (hok.t t ht).1
 rw [hz] at hpt
 have q : w.cell? ⟨X.cb,4,none⟩ = some (tptr X C) := h.b.cell 4
 rw [tptr_some ht] at q
 have hst : ∀ W,PPost w X.px t (.bool false) (tickT t).1 (.returned (.bool false)) W -> ∃ X1,X1.cb = X.cb /\ CStep w X C W X1 { C with t := some (tickT t).1 } /\ Calls Tryz.prog 33 #[.pointer (some ⟨X.cb,0,none⟩)] W fun e w' => e = .returned (.tuple #[]) /\ ∃ X',CStep w X C w' X' (seeC { C with t := some (tickT t).1 }) := fun W hp => by
  obtain ⟨-,Xp,p1,p2,p3,p4⟩ := hp
  have hs := h.go ht p1 p2 p3 p4
  have hsee := see_any hs.at' (t := (tickT t).1) rfl hl
  refine ⟨{ X with px := Xp },rfl,hs,?_⟩
  exact hsee.mono fun e w' hq => ⟨hq.1,by obtain ⟨X',hx⟩ := hq.2;exact ⟨X',hs.trans hx⟩⟩
 obtain ⟨cb,hcb⟩ : ∃ cb,X.cb = cb := ⟨_,rfl⟩
 obtain ⟨tb,htb⟩ : ∃ tb,X.px.b = tb := ⟨_,rfl⟩
 rw [hcb] at hn q ⊢
 simp only [hcb] at hst
 rw [htb] at hpt q
 have HN := hZ0 hn;have HPT := hZ0 hpt;have HST := hZ0 hst
 clear hn hpt hst h hcb htb ht hok hl hz
 go_enter Tryz.func12,Tryz.ntmps12
 go_wp2_with fail
 refine HN.out.mono ?_
 rintro e w2 ⟨rfl,rfl⟩
 go_wp2_with fail
 clear q
 refine HPT.out.mono ?_
 intro e w3 hp
 obtain ⟨rfl,-⟩ := id hp
 obtain ⟨X1,-,-,hsee⟩ := HST.out w3 hp
 have HSEE := hZ0 hsee
 clear hp hsee
 go_wp2_with fail
 refine HSEE.out.mono ?_
 rintro e w4 ⟨rfl,X',hx⟩
 have HX := hZ0 hx
 clear hx
 go_wp2
 go_ret
 exact ⟨rfl,X',HX.out⟩
end
end Cli
end Go.Proofs.YtgbigpdiacjbgaaGreat
