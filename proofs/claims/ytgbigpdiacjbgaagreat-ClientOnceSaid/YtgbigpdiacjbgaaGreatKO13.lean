/- Part 14 of what the proof needs. -/
import Derived.Test.YtgbigpdiacjbgaaGreatKO12
import Derived.Laws.RangeString
import Derived.Lib.OthersKept
import Derived.Deep.LoopGhost
set_option linter.unusedSimpArgs false
set_option linter.unusedVariables false
set_option maxHeartbeats 32000000
set_option maxRecDepth 100000
namespace Go.Proofs.YtgbigpdiacjbgaaGreat
open Go.RowKit
set_option maxRecDepth 100000
namespace Msg
open Plan Ops Ent Vn
theorem Kept.iterAt {F : Nat -> Prop} {a w : World} (h : Kept F a w) {k : Nat} (hk : F k \/ a.heap.size <= k) (s : ByteArray) (pos : Nat) : Kept F a (w.iterAt k s pos) :=
 h.trans (G := fun j => j = k) ⟨rfl,rfl,rfl,by rw [Lib.iterAt_size];exact Nat.le_refl _,fun i _ hi => Lib.iterAt_other w k i s pos hi⟩ fun i hi => by subst hi;exact hk
theorem Kept.iter {F : Nat -> Prop} {a w : World} (h : Kept F a w) (s : ByteArray) (pos : Nat) : Kept F a (w.iter s pos) := h.alloc _
theorem wrong1_any (W : World) (B : Nat) (x : MsgR) (hB : Has W B 63 (xcell x).toArray) (h : XOk W x) :
  Calls Tryz.prog 145 #[.pointer (some ⟨B,0,none⟩)] W fun e w' => e = .returned (.int .i64 (firstOf (fun y => Ops.chk (bat y)) x.es)) /\ Kept NoF W w' := by
 have q : W.cell? ⟨B,19,none⟩ = some (.slice x.eA x.es.length x.ec) := hB.cell 19
 have hc := entries_any W x.eA x.ec x.es h.e (by have := h.el;omega) (fun y hy => (h.eo y hy).1)
 obtain ⟨r,hr⟩ : ∃ r,firstOf (fun y => Ops.chk (bat y)) x.es = r := ⟨_,rfl⟩
 rw [hr] at hc ⊢
 have HC := hZ0 hc;clear hc hr h hB
 go_enter Tryz.func145,Tryz.ntmps145
 go_wp2_with fail
 refine HC.out.mono ?_
 rintro e w2 ⟨rfl,hk⟩
 have HK := hZ0 hk;clear hk
 go_wp2
 go_ret
 exact ⟨rfl,HK.out⟩
theorem wrong2_any (W : World) (B : Nat) (x : MsgR) (hB : Has W B 63 (xcell x).toArray) (h : XOk W x) :
  Calls Tryz.prog 147 #[.pointer (some ⟨B,0,none⟩)] W fun e w' => e = .returned (.int .i64 (firstOf pairE x.ps)) /\ Kept NoF W w' := by
 have q : W.cell? ⟨B,21,none⟩ = some (.slice x.pA x.ps.length x.pc) := hB.cell 21
 have hc := pairs_any W x.pA x.pc x.ps h.p (by have := h.pl;omega)
 obtain ⟨r,hr⟩ : ∃ r,firstOf pairE x.ps = r := ⟨_,rfl⟩
 rw [hr] at hc ⊢
 have HC := hZ0 hc;clear hc hr h hB
 go_enter Tryz.func147,Tryz.ntmps147
 go_wp2_with fail
 refine HC.out.mono ?_
 rintro e w2 ⟨rfl,hk⟩
 have HK := hZ0 hk;clear hk
 go_wp2
 go_ret
 exact ⟨rfl,HK.out⟩
theorem wrong_num (w : World) (x : MsgR) (c : Nat) (hc : isNum c = true) : Calls Tryz.prog 106 #[xagg x,.int .i32 c] w fun e w' => e = .returned (.int .i64 (wrongE x c)) /\ Kept NoF w w' := by
 have hE : wrongE x c = rngM (numI x c) := by unfold wrongE;rw [if_pos hc]
 rw [hE]
 clear hE
 obtain ⟨W0,hW0⟩ : ∃ W0,w.alloc (.cells (xcell x).toArray 63) = W0 := ⟨_,rfl⟩
 have hk0 : Kept NoF w W0 := by rw [<- hW0];(repeat' (first | (with_reducible first | exact kR0 | apply kP0 | apply kN0 | apply kD0 | apply kA0) | (right;simp;done)))
 have hn0 : Has W0 w.heap.size 63 (xcell x).toArray := by rw [<- hW0];exact Has.new _ _ _
 have hnum := num_some W0 w.heap.size c hc
 have q : W0.cell? ⟨w.heap.size,numAt c,none⟩ = some (.int .i64 (numI x c)) := by
  have h : c = 101 \/ c = 115 \/ c = 114 \/ c = 110 \/ c = 109 \/ c = 112 := of_decide_eq_true hc
  rcases h with rfl | rfl | rfl | rfl | rfl | rfl <;> exact hn0.cell _
 obtain ⟨n,hn⟩ : ∃ n,numI x c = n := ⟨_,rfl⟩
 obtain ⟨a,ha⟩ : ∃ a,numAt c = a := ⟨_,rfl⟩
 rw [hn,ha] at q
 rw [ha] at hnum
 rw [hn]
 have HN := hZ0 hnum;have HK0 := hZ0 hk0
 clear hn ha hn0 hc hk0 hnum
 unfold rngM
 by_cases h1 : n < 0
 ·rw [if_pos (.inl h1)]
  go_enter Tryz.func106,Tryz.ntmps106
  go_wp2_with fail
  refine HN.out.mono ?_
  rintro e w2 ⟨rfl,rfl⟩
  go_wp2
  go_ret
  exact ⟨rfl,HK0.out⟩
 by_cases h2 : 1073741824 < n
 ·rw [if_pos (.inr h2)]
  go_enter Tryz.func106,Tryz.ntmps106
  go_wp2_with fail
  refine HN.out.mono ?_
  rintro e w2 ⟨rfl,rfl⟩
  go_wp2
  go_ret
  exact ⟨rfl,HK0.out⟩
 ·rw [if_neg (by omega)]
  go_enter Tryz.func106,Tryz.ntmps106
  go_wp2_with fail
  refine HN.out.mono ?_
  rintro e w2 ⟨rfl,rfl⟩
  go_wp2
  go_ret
  exact ⟨rfl,HK0.out⟩
theorem wrong_97 (w : World) (x : MsgR) (h : XOk w x) : Calls Tryz.prog 106 #[xagg x,.int .i32 ((97 : Nat) : Int)] w fun e w' => e = .returned (.int .i64 (wrongE x 97)) /\ Kept NoF w w' := by
 obtain ⟨W0,hW0⟩ : ∃ W0,w.alloc (.cells (xcell x).toArray 63) = W0 := ⟨_,rfl⟩
 have hk0 : Kept NoF w W0 := by rw [<- hW0];(repeat' (first | (with_reducible first | exact kR0 | apply kP0 | apply kN0 | apply kD0 | apply kA0) | (right;simp;done)))
 have hn0 : Has W0 w.heap.size 63 (xcell x).toArray := by rw [<- hW0];exact Has.new _ _ _
 have hE : wrongE x 97 = 0 := rfl
 rw [hE]
 have hnum := num_none W0 w.heap.size 97 (by decide) (by decide)
 have HN := hZ0 hnum;have HK0 := hZ0 hk0
 clear hk0 hnum hE
 clear hn0 h
 go_enter Tryz.func106,Tryz.ntmps106
 go_wp2_with fail
 refine HN.out.mono ?_
 rintro e w2 ⟨rfl,rfl⟩
 go_wp2
 go_ret
 exact ⟨rfl,HK0.out⟩
theorem wrong_108 (w : World) (x : MsgR) (h : XOk w x) : Calls Tryz.prog 106 #[xagg x,.int .i32 ((108 : Nat) : Int)] w fun e w' => e = .returned (.int .i64 (wrongE x 108)) /\ Kept NoF w w' := by
 obtain ⟨W0,hW0⟩ : ∃ W0,w.alloc (.cells (xcell x).toArray 63) = W0 := ⟨_,rfl⟩
 have hk0 : Kept NoF w W0 := by rw [<- hW0];(repeat' (first | (with_reducible first | exact kR0 | apply kP0 | apply kN0 | apply kD0 | apply kA0) | (right;simp;done)))
 have hn0 : Has W0 w.heap.size 63 (xcell x).toArray := by rw [<- hW0];exact Has.new _ _ _
 have hE : wrongE x 108 = 0 := rfl
 rw [hE]
 have hnum := num_none W0 w.heap.size 108 (by decide) (by decide)
 have HN := hZ0 hnum;have HK0 := hZ0 hk0
 clear hk0 hnum hE
 clear hn0 h
 go_enter Tryz.func106,Tryz.ntmps106
 go_wp2_with fail
 refine HN.out.mono ?_
 rintro e w2 ⟨rfl,rfl⟩
 go_wp2
 go_ret
 exact ⟨rfl,HK0.out⟩
theorem wrong_102 (w : World) (x : MsgR) (h : XOk w x) : Calls Tryz.prog 106 #[xagg x,.int .i32 ((102 : Nat) : Int)] w fun e w' => e = .returned (.int .i64 (wrongE x 102)) /\ Kept NoF w w' := by
 obtain ⟨W0,hW0⟩ : ∃ W0,w.alloc (.cells (xcell x).toArray 63) = W0 := ⟨_,rfl⟩
 have hk0 : Kept NoF w W0 := by rw [<- hW0];(repeat' (first | (with_reducible first | exact kR0 | apply kP0 | apply kN0 | apply kD0 | apply kA0) | (right;simp;done)))
 have hn0 : Has W0 w.heap.size 63 (xcell x).toArray := by rw [<- hW0];exact Has.new _ _ _
 have hE : wrongE x 102 = 0 := rfl
 rw [hE]
 have hnum := num_none W0 w.heap.size 102 (by decide) (by decide)
 have HN := hZ0 hnum;have HK0 := hZ0 hk0
 clear hk0 hnum hE
 clear hn0 h
 go_enter Tryz.func106,Tryz.ntmps106
 go_wp2_with fail
 refine HN.out.mono ?_
 rintro e w2 ⟨rfl,rfl⟩
 go_wp2
 go_ret
 exact ⟨rfl,HK0.out⟩
theorem wrong_120 (w : World) (x : MsgR) (h : XOk w x) : Calls Tryz.prog 106 #[xagg x,.int .i32 ((120 : Nat) : Int)] w fun e w' => e = .returned (.int .i64 (wrongE x 120)) /\ Kept NoF w w' := by
 obtain ⟨W0,hW0⟩ : ∃ W0,w.alloc (.cells (xcell x).toArray 63) = W0 := ⟨_,rfl⟩
 have hk0 : Kept NoF w W0 := by rw [<- hW0];(repeat' (first | (with_reducible first | exact kR0 | apply kP0 | apply kN0 | apply kD0 | apply kA0) | (right;simp;done)))
 have hn0 : Has W0 w.heap.size 63 (xcell x).toArray := by rw [<- hW0];exact Has.new _ _ _
 have hE : wrongE x 120 = if x.e < 0 \/ 21 < x.e then 1 else 0 := rfl
 rw [hE]
 have hnum := num_none W0 w.heap.size 120 (by decide) (by decide)
 have HN := hZ0 hnum;have HK0 := hZ0 hk0
 clear hk0 hnum hE
 have q : W0.cell? ⟨w.heap.size,10,none⟩ = some (.int .i64 x.e) := hn0.cell 10
 obtain ⟨n,hn⟩ : ∃ n,x.e = n := ⟨_,rfl⟩
 rw [hn] at q ⊢
 clear hn0 h hn
 by_cases h1 : n < 0
 ·rw [if_pos (.inl h1)]
  go_enter Tryz.func106,Tryz.ntmps106
  go_wp2_with fail
  refine HN.out.mono ?_
  rintro e w2 ⟨rfl,rfl⟩
  go_wp2
  go_ret
  exact ⟨rfl,HK0.out⟩
 by_cases h2 : 21 < n
 ·rw [if_pos (.inr h2)]
  go_enter Tryz.func106,Tryz.ntmps106
  go_wp2_with fail
  refine HN.out.mono ?_
  rintro e w2 ⟨rfl,rfl⟩
  go_wp2
  go_ret
  exact ⟨rfl,HK0.out⟩
 ·rw [if_neg (by omega)]
  go_enter Tryz.func106,Tryz.ntmps106
  go_wp2_with fail
  refine HN.out.mono ?_
  rintro e w2 ⟨rfl,rfl⟩
  go_wp2
  go_ret
  exact ⟨rfl,HK0.out⟩
theorem wrong_107 (w : World) (x : MsgR) (h : XOk w x) : Calls Tryz.prog 106 #[xagg x,.int .i32 ((107 : Nat) : Int)] w fun e w' => e = .returned (.int .i64 (wrongE x 107)) /\ Kept NoF w w' := by
 obtain ⟨W0,hW0⟩ : ∃ W0,w.alloc (.cells (xcell x).toArray 63) = W0 := ⟨_,rfl⟩
 have hk0 : Kept NoF w W0 := by rw [<- hW0];(repeat' (first | (with_reducible first | exact kR0 | apply kP0 | apply kN0 | apply kD0 | apply kA0) | (right;simp;done)))
 have hn0 : Has W0 w.heap.size 63 (xcell x).toArray := by rw [<- hW0];exact Has.new _ _ _
 have hE : wrongE x 107 = if 8 < x.key.size then 3 else 0 := rfl
 rw [hE]
 have hnum := num_none W0 w.heap.size 107 (by decide) (by decide)
 have HN := hZ0 hnum;have HK0 := hZ0 hk0
 clear hk0 hnum hE
 have q : W0.cell? ⟨w.heap.size,11,none⟩ = some (.string x.key) := hn0.cell 11
 obtain ⟨s,hs⟩ : ∃ s,x.key = s := ⟨_,rfl⟩
 rw [hs] at q ⊢
 have hl := long_any W0 s 8
 obtain ⟨u,hu⟩ : ∃ u : Int,(if (8 : Int) < (s.size : Int) then (3 : Int) else 0) = u := ⟨_,rfl⟩
 rw [hu] at hl
 have hu2 : (if 8 < s.size then (3 : Int) else 0) = u := by rw [<- hu];by_cases h8 : 8 < s.size;rw [if_pos h8,if_pos (by omega)];rw [if_neg h8,if_neg (by omega)]
 rw [hu2]
 have HL := hZ0 hl
 clear hn0 h hs hl hu hu2
 go_enter Tryz.func106,Tryz.ntmps106
 go_wp2_with fail
 refine HN.out.mono ?_
 rintro e w2 ⟨rfl,rfl⟩
 go_wp2_with fail
 refine HL.out.mono ?_
 rintro e w3 ⟨rfl,rfl⟩
 go_wp2
 go_ret
 exact ⟨rfl,HK0.out⟩
theorem wrong_116 (w : World) (x : MsgR) (h : XOk w x) : Calls Tryz.prog 106 #[xagg x,.int .i32 ((116 : Nat) : Int)] w fun e w' => e = .returned (.int .i64 (wrongE x 116)) /\ Kept NoF w w' := by
 obtain ⟨W0,hW0⟩ : ∃ W0,w.alloc (.cells (xcell x).toArray 63) = W0 := ⟨_,rfl⟩
 have hk0 : Kept NoF w W0 := by rw [<- hW0];(repeat' (first | (with_reducible first | exact kR0 | apply kP0 | apply kN0 | apply kD0 | apply kA0) | (right;simp;done)))
 have hn0 : Has W0 w.heap.size 63 (xcell x).toArray := by rw [<- hW0];exact Has.new _ _ _
 have hE : wrongE x 116 = if 8 < x.to.size then 3 else 0 := rfl
 rw [hE]
 have hnum := num_none W0 w.heap.size 116 (by decide) (by decide)
 have HN := hZ0 hnum;have HK0 := hZ0 hk0
 clear hk0 hnum hE
 have q : W0.cell? ⟨w.heap.size,12,none⟩ = some (.string x.to) := hn0.cell 12
 obtain ⟨s,hs⟩ : ∃ s,x.to = s := ⟨_,rfl⟩
 rw [hs] at q ⊢
 have hl := long_any W0 s 8
 obtain ⟨u,hu⟩ : ∃ u : Int,(if (8 : Int) < (s.size : Int) then (3 : Int) else 0) = u := ⟨_,rfl⟩
 rw [hu] at hl
 have hu2 : (if 8 < s.size then (3 : Int) else 0) = u := by rw [<- hu];by_cases h8 : 8 < s.size;rw [if_pos h8,if_pos (by omega)];rw [if_neg h8,if_neg (by omega)]
 rw [hu2]
 have HL := hZ0 hl
 clear hn0 h hs hl hu hu2
 go_enter Tryz.func106,Tryz.ntmps106
 go_wp2_with fail
 refine HN.out.mono ?_
 rintro e w2 ⟨rfl,rfl⟩
 go_wp2_with fail
 refine HL.out.mono ?_
 rintro e w3 ⟨rfl,rfl⟩
 go_wp2
 go_ret
 exact ⟨rfl,HK0.out⟩
theorem wrong_67 (w : World) (x : MsgR) (h : XOk w x) : Calls Tryz.prog 106 #[xagg x,.int .i32 ((67 : Nat) : Int)] w fun e w' => e = .returned (.int .i64 (wrongE x 67)) /\ Kept NoF w w' := by
 obtain ⟨W0,hW0⟩ : ∃ W0,w.alloc (.cells (xcell x).toArray 63) = W0 := ⟨_,rfl⟩
 have hk0 : Kept NoF w W0 := by rw [<- hW0];(repeat' (first | (with_reducible first | exact kR0 | apply kP0 | apply kN0 | apply kD0 | apply kA0) | (right;simp;done)))
 have hn0 : Has W0 w.heap.size 63 (xcell x).toArray := by rw [<- hW0];exact Has.new _ _ _
 have hE : wrongE x 67 = Plan.chk x.cep x.ms := rfl
 rw [hE]
 have hnum := num_none W0 w.heap.size 67 (by decide) (by decide)
 have HN := hZ0 hnum;have HK0 := hZ0 hk0
 clear hk0 hnum hE
 have q1 : W0.cell? ⟨w.heap.size,13,none⟩ = some (.int .i64 x.cep) := hn0.cell 13
 have q2 : W0.cell? ⟨w.heap.size,14,none⟩ = some (.slice x.mA x.ms.length x.mc) := hn0.cell 14
 have q3 : W0.cell? ⟨w.heap.size,15,none⟩ = some (.int .u64 x.cfl) := hn0.cell 15
 have hx := h.kept HK0.out
 have hc := Mst.ccheck_any W0 x.cep x.cfl x.mA x.mc x.ms hx.m hx.mc (by have := hx.ml;omega)
 obtain ⟨u,hu⟩ : ∃ u : Int,Plan.chk x.cep x.ms = u := ⟨_,rfl⟩
 rw [hu] at hc ⊢
 have HC := hZ0 hc
 clear hn0 h hx hc hu
 go_enter Tryz.func106,Tryz.ntmps106
 go_wp2_with fail
 refine HN.out.mono ?_
 rintro e w2 ⟨rfl,rfl⟩
 go_wp2_with fail
 refine HC.out.mono ?_
 rintro e w3 ⟨rfl,hk⟩
 have HK := hZ0 (HK0.out.then hk);clear hk
 go_wp2
 go_ret
 exact ⟨rfl,HK.out⟩
theorem wrong_66 (w : World) (x : MsgR) (h : XOk w x) : Calls Tryz.prog 106 #[xagg x,.int .i32 ((66 : Nat) : Int)] w fun e w' => e = .returned (.int .i64 (wrongE x 66)) /\ Kept NoF w w' := by
 obtain ⟨W0,hW0⟩ : ∃ W0,w.alloc (.cells (xcell x).toArray 63) = W0 := ⟨_,rfl⟩
 have hk0 : Kept NoF w W0 := by rw [<- hW0];(repeat' (first | (with_reducible first | exact kR0 | apply kP0 | apply kN0 | apply kD0 | apply kA0) | (right;simp;done)))
 have hn0 : Has W0 w.heap.size 63 (xcell x).toArray := by rw [<- hW0];exact Has.new _ _ _
 have hE : wrongE x 66 = Ops.chk (xbat x) := rfl
 rw [hE]
 have hnum := num_none W0 w.heap.size 66 (by decide) (by decide)
 have HN := hZ0 hnum;have HK0 := hZ0 hk0
 clear hk0 hnum hE
 have q1 : W0.cell? ⟨w.heap.size,16,none⟩ = some (.int .i64 x.bcl) := hn0.cell 16
 have q2 : W0.cell? ⟨w.heap.size,17,none⟩ = some (.int .i64 x.breq) := hn0.cell 17
 have q3 : W0.cell? ⟨w.heap.size,18,none⟩ = some (.slice x.oA x.ops.length x.oc) := hn0.cell 18
 have hx := h.kept HK0.out
 have hc := Ops.ocheck_any W0 (xbat x) x.oA x.oc hx.o
 obtain ⟨u,hu⟩ : ∃ u : Int,Ops.chk (xbat x) = u := ⟨_,rfl⟩
 rw [hu] at hc ⊢
 dsimp only [bagg,xbat] at hc
 have HC := hZ0 hc
 clear hn0 h hx hc hu
 go_enter Tryz.func106,Tryz.ntmps106
 go_wp2_with fail
 refine HN.out.mono ?_
 rintro e w2 ⟨rfl,rfl⟩
 go_wp2_with fail
 refine HC.out.mono ?_
 rintro e w3 ⟨rfl,hk⟩
 have HK := hZ0 (HK0.out.then hk);clear hk
 go_wp2
 go_ret
 exact ⟨rfl,HK.out⟩
theorem wrong_83 (w : World) (x : MsgR) (h : XOk w x) : Calls Tryz.prog 106 #[xagg x,.int .i32 ((83 : Nat) : Int)] w fun e w' => e = .returned (.int .i64 (wrongE x 83)) /\ Kept NoF w w' := by
 obtain ⟨W0,hW0⟩ : ∃ W0,w.alloc (.cells (xcell x).toArray 63) = W0 := ⟨_,rfl⟩
 have hk0 : Kept NoF w W0 := by rw [<- hW0];(repeat' (first | (with_reducible first | exact kR0 | apply kP0 | apply kN0 | apply kD0 | apply kA0) | (right;simp;done)))
 have hn0 : Has W0 w.heap.size 63 (xcell x).toArray := by rw [<- hW0];exact Has.new _ _ _
 have hE : wrongE x 83 = if 8 < x.ss.length then 6 else 0 := rfl
 rw [hE]
 have hnum := num_none W0 w.heap.size 83 (by decide) (by decide)
 have HN := hZ0 hnum;have HK0 := hZ0 hk0
 clear hk0 hnum hE
 have q : W0.cell? ⟨w.heap.size,20,none⟩ = some (.slice x.sA x.ss.length x.sc) := hn0.cell 20
 obtain ⟨n,hn⟩ : ∃ n,x.ss.length = n := ⟨_,rfl⟩
 rw [hn] at q ⊢
 have hl := full_any W0 (n : Int) 8
 obtain ⟨u,hu⟩ : ∃ u : Int,(if (8 : Int) < (n : Int) then (6 : Int) else 0) = u := ⟨_,rfl⟩
 rw [hu] at hl
 have hu2 : (if 8 < n then (6 : Int) else 0) = u := by rw [<- hu];by_cases h8 : 8 < n;rw [if_pos h8,if_pos (by omega)];rw [if_neg h8,if_neg (by omega)]
 rw [hu2]
 have HL := hZ0 hl
 clear hn0 h hn hl hu hu2
 go_enter Tryz.func106,Tryz.ntmps106
 go_wp2_with fail
 refine HN.out.mono ?_
 rintro e w2 ⟨rfl,rfl⟩
 go_wp2_with fail
 refine HL.out.mono ?_
 rintro e w3 ⟨rfl,rfl⟩
 go_wp2
 go_ret
 exact ⟨rfl,HK0.out⟩
theorem wrong_69 (w : World) (x : MsgR) (h : XOk w x) : Calls Tryz.prog 106 #[xagg x,.int .i32 ((69 : Nat) : Int)] w fun e w' => e = .returned (.int .i64 (wrongE x 69)) /\ Kept NoF w w' := by
 obtain ⟨W0,hW0⟩ : ∃ W0,w.alloc (.cells (xcell x).toArray 63) = W0 := ⟨_,rfl⟩
 have hk0 : Kept NoF w W0 := by rw [<- hW0];(repeat' (first | (with_reducible first | exact kR0 | apply kP0 | apply kN0 | apply kD0 | apply kA0) | (right;simp;done)))
 have hn0 : Has W0 w.heap.size 63 (xcell x).toArray := by rw [<- hW0];exact Has.new _ _ _
 have hE : wrongE x 69 = if 4 < x.es.length then 6 else firstOf (fun y => Ops.chk (bat y)) x.es := rfl
 rw [hE]
 have hnum := num_none W0 w.heap.size 69 (by decide) (by decide)
 have HN := hZ0 hnum;have HK0 := hZ0 hk0
 clear hk0 hnum hE
 have q : W0.cell? ⟨w.heap.size,19,none⟩ = some (.slice x.eA x.es.length x.ec) := hn0.cell 19
 have hcl := wrong1_any W0 w.heap.size x hn0 (h.kept HK0.out)
 obtain ⟨n,hn⟩ : ∃ n,x.es.length = n := ⟨_,rfl⟩
 obtain ⟨r,hr⟩ : ∃ r,firstOf (fun y => Ops.chk (bat y)) x.es = r := ⟨_,rfl⟩
 rw [hr] at hcl ⊢
 rw [hn] at q ⊢
 have hl := full_any W0 (n : Int) 4
 have HC := hZ0 hcl
 clear hn0 h hn hr hcl
 by_cases h8 : 4 < n
 ·rw [if_pos (by omega)] at hl
  rw [if_pos h8]
  have HL := hZ0 hl
  clear hl h8
  go_enter Tryz.func106,Tryz.ntmps106
  go_wp2_with fail
  refine HN.out.mono ?_
  rintro e w2 ⟨rfl,rfl⟩
  go_wp2_with fail
  refine HL.out.mono ?_
  rintro e w3 ⟨rfl,rfl⟩
  go_wp2_with fail
  refine (or_bad _ _ _ (by decide)).mono ?_
  rintro e w3 ⟨rfl,rfl⟩
  go_wp2
  go_ret
  exact ⟨rfl,HK0.out⟩
 ·rw [if_neg (by omega)] at hl
  rw [if_neg h8]
  have HL := hZ0 hl
  clear hl h8
  go_enter Tryz.func106,Tryz.ntmps106
  go_wp2_with fail
  refine HN.out.mono ?_
  rintro e w2 ⟨rfl,rfl⟩
  go_wp2_with fail
  refine HL.out.mono ?_
  rintro e w3 ⟨rfl,rfl⟩
  go_wp2_with fail
  refine (or_ok _ 145 _ r (fun args W => Mst.enters Tryz.func145 (by kernel_rfl) rfl args W) HC.out).mono ?_
  rintro e w4 ⟨rfl,hk⟩
  have HK := hZ0 (HK0.out.then hk);clear hk
  go_wp2
  go_ret
  exact ⟨rfl,HK.out⟩
theorem wrong_82 (w : World) (x : MsgR) (h : XOk w x) : Calls Tryz.prog 106 #[xagg x,.int .i32 ((82 : Nat) : Int)] w fun e w' => e = .returned (.int .i64 (wrongE x 82)) /\ Kept NoF w w' := by
 obtain ⟨W0,hW0⟩ : ∃ W0,w.alloc (.cells (xcell x).toArray 63) = W0 := ⟨_,rfl⟩
 have hk0 : Kept NoF w W0 := by rw [<- hW0];(repeat' (first | (with_reducible first | exact kR0 | apply kP0 | apply kN0 | apply kD0 | apply kA0) | (right;simp;done)))
 have hn0 : Has W0 w.heap.size 63 (xcell x).toArray := by rw [<- hW0];exact Has.new _ _ _
 have hE : wrongE x 82 = if 32 < x.ps.length then 6 else firstOf pairE x.ps := rfl
 rw [hE]
 have hnum := num_none W0 w.heap.size 82 (by decide) (by decide)
 have HN := hZ0 hnum;have HK0 := hZ0 hk0
 clear hk0 hnum hE
 have q : W0.cell? ⟨w.heap.size,21,none⟩ = some (.slice x.pA x.ps.length x.pc) := hn0.cell 21
 have hcl := wrong2_any W0 w.heap.size x hn0 (h.kept HK0.out)
 obtain ⟨n,hn⟩ : ∃ n,x.ps.length = n := ⟨_,rfl⟩
 obtain ⟨r,hr⟩ : ∃ r,firstOf pairE x.ps = r := ⟨_,rfl⟩
 rw [hr] at hcl ⊢
 rw [hn] at q ⊢
 have hl := full_any W0 (n : Int) 32
 have HC := hZ0 hcl
 clear hn0 h hn hr hcl
 by_cases h8 : 32 < n
 ·rw [if_pos (by omega)] at hl
  rw [if_pos h8]
  have HL := hZ0 hl
  clear hl h8
  go_enter Tryz.func106,Tryz.ntmps106
  go_wp2_with fail
  refine HN.out.mono ?_
  rintro e w2 ⟨rfl,rfl⟩
  go_wp2_with fail
  refine HL.out.mono ?_
  rintro e w3 ⟨rfl,rfl⟩
  go_wp2_with fail
  refine (or_bad _ _ _ (by decide)).mono ?_
  rintro e w3 ⟨rfl,rfl⟩
  go_wp2
  go_ret
  exact ⟨rfl,HK0.out⟩
 ·rw [if_neg (by omega)] at hl
  rw [if_neg h8]
  have HL := hZ0 hl
  clear hl h8
  go_enter Tryz.func106,Tryz.ntmps106
  go_wp2_with fail
  refine HN.out.mono ?_
  rintro e w2 ⟨rfl,rfl⟩
  go_wp2_with fail
  refine HL.out.mono ?_
  rintro e w3 ⟨rfl,rfl⟩
  go_wp2_with fail
  refine (or_ok _ 147 _ r (fun args W => Mst.enters Tryz.func147 (by kernel_rfl) rfl args W) HC.out).mono ?_
  rintro e w4 ⟨rfl,hk⟩
  have HK := hZ0 (HK0.out.then hk);clear hk
  go_wp2
  go_ret
  exact ⟨rfl,HK.out⟩
theorem wrong_any (w : World) (x : MsgR) (c : Nat) (h : XOk w x) (hl : c ∈ letters) : Calls Tryz.prog 106 #[xagg x,.int .i32 c] w fun e w' => e = .returned (.int .i64 (wrongE x c)) /\ Kept NoF w w' := by
 by_cases hc : isNum c = true
 ·exact wrong_num w x c hc
 ·have h2 : ¬ (c = 101 \/ c = 115 \/ c = 114 \/ c = 110 \/ c = 109 \/ c = 112) := fun z => hc (decide_eq_true z)
  have h1 : c = 67 \/ c = 97 \/ c = 102 \/ c = 108 \/ c = 69 \/ c = 83 \/ c = 66 \/ c = 120 \/ c = 107 \/ c = 116 \/ c = 82 := by
   unfold letters at hl
   simp only [List.mem_cons,List.not_mem_nil,or_false] at hl
   omega
  rcases h1 with rfl | rfl | rfl | rfl | rfl | rfl | rfl | rfl | rfl | rfl | rfl
  ·exact wrong_67 w x h
  ·exact wrong_97 w x h
  ·exact wrong_102 w x h
  ·exact wrong_108 w x h
  ·exact wrong_69 w x h
  ·exact wrong_83 w x h
  ·exact wrong_66 w x h
  ·exact wrong_120 w x h
  ·exact wrong_107 w x h
  ·exact wrong_116 w x h
  ·exact wrong_82 w x h
theorem lets_size (l : List Nat) : (lets l).size = l.length := by unfold lets byt;rw [<- size_bl,bl_ofL,List.length_map]
theorem lets_at {l : List Nat} (hl : ∀ c ∈ l,c ∈ letters) {i c : Nat} (h : l[i]? = some c) : ∃ hi : i < (lets l).size,((lets l)[i]'hi).toNat = c /\ ((lets l)[i]'hi).toNat < 128 := by
 obtain ⟨hi,he⟩ := List.getElem?_eq_some_iff.1 h
 have hi2 : i < (lets l).size := by rw [lets_size];exact hi
 have hc : c < 128 := by
  have := hl c (he ▸ List.getElem_mem hi)
  unfold letters at this
  simp only [List.mem_cons,List.not_mem_nil,or_false] at this
  omega
 have e : ((lets l)[i]'hi2).toNat = c := by
  have e1 : (lets l)[i]'hi2 = UInt8.ofNat c := by
   show (lets l).data[i]'_ = _
   have : (lets l).data = (byt l).toArray := rfl
   simp only [this,List.getElem_toArray,byt,List.getElem_map,he]
  rw [e1]
  show c % 256 = c
  omega
 exact ⟨hi2,e,by rw [e];exact hc⟩
theorem mcheck_any (w : World) (x : MsgR) (h : XOk w x) : Calls Tryz.prog 64 #[xagg x] w fun e w' => e = .returned (.int .i64 (chkM x)) /\ Kept NoF w w' := by
 obtain ⟨W0,hW0⟩ : ∃ W0,w.alloc (.cells (xcell x).toArray 63) = W0 := ⟨_,rfl⟩
 have hk0 : Kept NoF w W0 := by rw [<- hW0];(repeat' (first | (with_reducible first | exact kR0 | apply kP0 | apply kN0 | apply kD0 | apply kA0) | (right;simp;done)))
 have hn0 : Has W0 w.heap.size 63 (xcell x).toArray := by rw [<- hW0];exact Has.new _ _ _
 have q : W0.cell? ⟨w.heap.size,0,none⟩ = some (.int .i64 x.k) := hn0.cell 0
 obtain ⟨k,hk⟩ : ∃ k,x.k = k := ⟨_,rfl⟩
 rw [hk] at q
 have hM : chkM x = if isKind k = true then firstOf (wrongE x) (partsOf k) else 11 := by unfold chkM;rw [hk]
 rw [hM]
 clear hM hk
 have HK0 := hZ0 hk0;have HN0 := hZ0 hn0
 clear hk0 hn0
 by_cases hkk : isKind k = true
 rotate_left
 ·rw [if_neg hkk]
  have hp := parts_no W0 k (by simpa using hkk)
  have HP := hZ0 hp
  clear hp hkk h
  go_enter Tryz.func64,Tryz.ntmps64
  go_wp2_with fail
  refine HP.out.mono ?_
  rintro e w2 ⟨rfl,hk⟩
  have HK := hZ0 (HK0.out.then hk);clear hk
  go_wp2
  go_ret
  exact ⟨rfl,HK.out⟩
 rw [if_pos hkk]
 have hp := parts_yes W0 k hkk
 have hlet := parts_letters k
 obtain ⟨l,hl⟩ : ∃ l,partsOf k = l := ⟨_,rfl⟩
 rw [hl] at hp hlet ⊢
 have hcall := fun W (hW : Kept NoF w W) c (hc : c ∈ l) => wrong_any W x c (h.kept hW) (hlet c hc)
 obtain ⟨r,hr⟩ : ∃ r,firstOf (wrongE x) l = r := ⟨_,rfl⟩
 rw [hr]
 have HP := hZ0 hp;have HLET := hZ0 hlet;have HC := hZ0 hcall;have HR := hZ0 hr
 clear hp hlet hcall hr hkk hl h
 go_enter Tryz.func64,Tryz.ntmps64
 go_wp2_with fail
 clear hW0
 refine HP.out.mono ?_
 rintro e w2 ⟨rfl,hk⟩
 have HN2 := hZ0 (HN0.out.kept hk (fun z => z));have HK2 := hZ0 (HK0.out.then hk);clear hk q
 go_wp2_with fail
 go_loopg [] l.length (fun gf wx => ∃ i : Nat,i <= l.length /\ wx.heap[w2.heap.size]? = some (.stringIter (lets l) i) /\ r = firstOf (wrongE x) (l.drop i) /\ Kept NoF w2 wx /\ l.length <= i + gf)
 case atStart => exact ⟨0,Nat.zero_le _,World.iter_heap w2 (lets l) 0,HR.out.symm,Kept.iter (Kept.refl _ _) _ _,by omega⟩
 case round =>
  obtain ⟨i,hi,hit,hrr,hk,hfu⟩ := hrel
  have HK := hZ0 hk;clear hk
  by_cases hil : i < l.length
  ·obtain ⟨g',rfl⟩ : ∃ g',gk = g' + 1 := ⟨gk - 1,by omega⟩
   obtain ⟨c,hc⟩ : ∃ c,l[i]? = some c := ⟨_,List.getElem?_eq_getElem hil⟩
   obtain ⟨hps,hb,ha⟩ := lets_at HLET.out hc
   have hnx : ∀ ty,(Instr.next (.pointer (some ⟨w2.heap.size,0,none⟩)) true ty).run Tryz.prog wr = _ := fun ty => Lib.run_next_ascii_at wr w2.heap.size (lets l) i ty hit hps ha
   rw [hb] at hnx
   have hit2 := Lib.iterAt_heap wr w2.heap.size (lets l) i (i + 1) hit
   have hk2 := Kept.iterAt HK.out (k := w2.heap.size) (.inr (Nat.le_refl _)) (lets l) (i + 1)
   obtain ⟨W,hWd⟩ : ∃ W,wr.iterAt w2.heap.size (lets l) (i + 1) = W := ⟨_,rfl⟩
   rw [hWd] at hnx hit2 hk2
   have hsa := firstOf_at (wrongE x) hc
   rw [hsa] at hrr
   have hcall := HC.out W (HK2.out.then hk2) c (List.mem_of_getElem? hc)
   obtain ⟨t,ht⟩ : ∃ t,wrongE x c = t := ⟨_,rfl⟩
   rw [ht] at hcall hrr
   have HCC := hZ0 hcall;have HRR := hZ0 hrr;have HIT := hZ0 hit2;have HKW := hZ0 hk2
   clear hsa ht hcall hrr hit2 hk2 hWd hb ha hps hit hc
   go_wp2_with (refine wpList_load_row rfl 63 (.tmp 1) rfl w.heap.size rfl 63 _ (0,0) _ (HN2.out.kept HKW.out (fun z => z)) Tryz.underlying63 rfl (by kernel_rfl) ?_)
   refine HCC.out.mono ?_
   rintro e w5 ⟨rfl,hk0⟩
   have HK5 := hZ0 (HKW.out.then hk0)
   have HIT5 := hZ0 ((hk0.block w2.heap.size (Array.getElem?_eq_some_iff.1 HIT.out).1 (fun z => z)).trans HIT.out);clear hk0
   by_cases h0 : t = 0
   ·subst h0
    have hrf := HRR.out
    rw [if_pos rfl] at hrf
    have HRF := hZ0 hrf;clear hrf HRR
    go_wp2
    go_roundg g'
    case measure => omega
    case rel => exact ⟨i + 1,by omega,HIT5.out,HRF.out,HK5.out,by omega⟩
   ·have hrf := HRR.out
    rw [if_neg h0] at hrf
    have HRF := hZ0 hrf;clear hrf HRR
    have h2 : (t != 0) = true := by simpa using h0
    clear h0
    go_wp2
    go_ret
    exact ⟨by rw [HRF.out];rfl,HK2.out.then HK5.out⟩
  ·obtain rfl : i = l.length := by omega
   have hps : ¬ l.length < (lets l).size := by rw [lets_size];omega
   have hnx : ∀ ty,(Instr.next (.pointer (some ⟨w2.heap.size,0,none⟩)) true ty).run Tryz.prog wr = _ := fun ty => Lib.run_next_end_at wr w2.heap.size (lets l) l.length ty hit hps
   rw [List.drop_length,firstOf] at hrr
   have HRR := hZ0 hrr;clear hrr hit hps
   go_wp2
   go_ret
   exact ⟨by rw [HRR.out];rfl,HK2.out.then HK.out⟩
end Msg
end Go.Proofs.YtgbigpdiacjbgaaGreat
