/- Part 20 of what the proof needs. -/
import Derived.Test.YtobfdolhgnoedaaAP15
import Derived.Test.YtobfdolhgnoedaaAP17
import Derived.Test.YtobfdolhgnoedaaAP18
import Derived.Deep.RegionLaw
set_option linter.unusedSimpArgs false
set_option linter.unusedVariables false
set_option maxHeartbeats 32000000
set_option maxRecDepth 100000
namespace Go.Proofs.Ytobfdolhgnoedaa
open Go.RowKit
set_option maxRecDepth 100000
namespace Ask
open Plan Ops Ent Msg MO Vn
section
variable {w w' : World}
theorem rkcheckA (w : World) (s : ByteArray) : Calls Try.prog 23 #[.string s] w fun e w' => e = .returned (.int .i64 (keyE s)) /\ w = w' := rkcheck_any s w
theorem dwrong_any (w : World) (cl rq : Int) (B : Option Addr) (bc : Nat) (bo : List OpR) (a : AskR) (hb : Src w 3 B bo.length (cells bo)) (hcap : bo.length <= bc) (hka : a.key.size <= maxLen /\ a.to.size <= maxLen) :
  Calls Try.prog 32 #[.agg #[.int .i64 cl,.int .i64 rq,.slice B bo.length bc],qagg a] w fun e w' => e = .returned (.bool (!mayB cl rq bo a)) /\ Kept NoF w w' := by
 obtain ⟨W0,hW0⟩ : ∃ W0,w.alloc (.cells #[.int .i64 cl,.int .i64 rq,.slice B bo.length bc] 29) = W0 := ⟨_,rfl⟩
 have hk0 : Kept NoF w W0 := by rw [<- hW0];(repeat' (first | (with_reducible first | exact kR0 | apply kP0 | apply kN0 | apply kD0 | apply kA0) | (right;simp;done)))
 have hn0 : Has W0 w.heap.size 29 #[.int .i64 cl,.int .i64 rq,.slice B bo.length bc] := by rw [<- hW0];exact Has.new _ _ _
 obtain ⟨W1,hW1⟩ : ∃ W1,W0.alloc (.cells (qcell a).toArray 37) = W1 := ⟨_,rfl⟩
 have hk1 : Kept NoF W0 W1 := by rw [<- hW1];(repeat' (first | (with_reducible first | exact kR0 | apply kP0 | apply kN0 | apply kD0 | apply kA0) | (right;simp;done)))
 have hn1 : Has W1 W0.heap.size 37 (qcell a).toArray := by rw [<- hW1];exact Has.new _ _ _
 have hn01 := hn0.kept hk1 (fun z => z)
 have q0 : W1.cell? ⟨W0.heap.size,0,none⟩ = some (.int .i64 a.k) := hn1.cell 0
 have q1 : W1.cell? ⟨W0.heap.size,1,none⟩ = some (.int .i64 a.nd) := hn1.cell 1
 have q2 : W1.cell? ⟨W0.heap.size,2,none⟩ = some (.string a.key) := hn1.cell 2
 have q3 : W1.cell? ⟨W0.heap.size,3,none⟩ = some (.string a.to) := hn1.cell 3
 have q5 : W1.cell? ⟨W0.heap.size,5,none⟩ = some (.int .i64 a.n) := hn1.cell 5
 have d0 : W1.cell? ⟨w.heap.size,0,none⟩ = some (.int .i64 cl) := hn01.cell 0
 have d1 : W1.cell? ⟨w.heap.size,1,none⟩ = some (.int .i64 rq) := hn01.cell 1
 have d2 : W1.cell? ⟨w.heap.size,2,none⟩ = some (.slice B bo.length bc) := hn01.cell 2
 have hchk := Ops.rcheck_any W1 ⟨cl,rq,bo⟩ B bc (hb.kept (hk0.then hk1) (fun _ _ z => z)) hcap
 have hrep := fun W => dreplica_any W a.nd
 have hkey := fun W => rkcheckA W a.key
 obtain ⟨vr,hvr⟩ : ∃ vr,decide (0 <= a.nd /\ a.nd < 4) = vr := ⟨_,rfl⟩
 simp only [hvr] at hrep
 obtain ⟨vk,hvk⟩ : ∃ vk,keyE a.key = vk := ⟨_,rfl⟩
 simp only [hvk] at hkey
 have hl5 : a.key.size <= 9223372036854775807 := by have := hka.1;unfold maxLen at this;omega
 have hl6 : a.to.size <= 9223372036854775807 := by have := hka.2;unfold maxLen at this;omega
 have HK := hZ0 (hk0.then hk1);have HCHK := hZ0 hchk;have HREP := hZ0 hrep;have HKEY := hZ0 hkey
 have hmay : mayB cl rq bo a = if a.k = 0 then decide (Ops.chk ⟨cl,rq,bo⟩ = 0) else if a.k = 1 \/ a.k = 3 then vr && decide (vk = 0) else if a.k = 2 then vr && (decide (a.key.size <= 8) && (decide (a.to.size <= 8) && (decide (1 <= a.n) && decide (a.n <= 32)))) else if a.k = 5 \/ a.k = 6 then decide (0 <= a.n) && decide (a.n <= 1073741824) else decide (a.k = 4) := by unfold mayB;rw [hvr,hvk]
 obtain ⟨v,hv⟩ : ∃ v,mayB cl rq bo a = v := ⟨_,rfl⟩
 rw [hv] at hmay ⊢
 obtain ⟨nv,hnv⟩ : ∃ nv,(!v) = nv := ⟨_,rfl⟩
 rw [hnv]
 have HMAY := hZ0 hmay;have HNV := hZ0 hnv
 unfold qcell at hW1
 unfold qagg qcell
 unfold bagg at HCHK
 dsimp only at HCHK
 clear hk0 hn0 hk1 hn1 hn01 hchk hrep hkey hvr hvk hb hka hmay hv hcap hnv
 by_cases hk : a.k = 0
 ·have b0 : (a.k == 0) = true := by simpa using hk
  have hv : v = decide (Ops.chk ⟨cl,rq,bo⟩ = 0) := by rw [HMAY.out,hk];simp
  have HV := hZ0 hv
  clear hv hk
  obtain ⟨z,hz⟩ : ∃ z,Ops.chk ⟨cl,rq,bo⟩ = z := ⟨_,rfl⟩
  rw [hz] at HCHK HV
  clear hz
  have bz : (z != 0) = !decide (z = 0) := by rw [Bool.eq_iff_iff];simp
  obtain ⟨y,hy⟩ : ∃ y,decide (z = 0) = y := ⟨_,rfl⟩
  rw [hy] at bz HV
  clear hy
  obtain ⟨ny,hny⟩ : ∃ ny,(!y) = ny := ⟨_,rfl⟩
  rw [hny] at bz
  have HNY := hZ0 hny
  clear hny
  go_enter Try.func32,Try.ntmps32
  go_wp2_with fail
  refine HCHK.out.mono ?_
  rintro e w3 ⟨rfl,hk3⟩
  have HK3 := hZ0 hk3
  clear hk3
  go_wp2
  go_ret
  exact ⟨by rw [<- HNV.out,HV.out,HNY.out];rfl,HK.out.then HK3.out⟩
 have H0 := hZ0 hk
 clear hk
 by_cases hk : a.k = 1
 ·have b0 : (a.k == 0) = false := by simp [hk]
  have b1 : (a.k == 1) = true := by simpa using hk
  have hv : v = (vr && decide (vk = 0)) := by rw [HMAY.out,hk];simp
  have HV := hZ0 hv
  clear hv hk
  have bz : (vk != 0) = !decide (vk = 0) := by rw [Bool.eq_iff_iff];simp
  obtain ⟨y,hy⟩ : ∃ y,decide (vk = 0) = y := ⟨_,rfl⟩
  rw [hy] at bz HV
  clear hy
  obtain ⟨ny,hny⟩ : ∃ ny,(!y) = ny := ⟨_,rfl⟩
  rw [hny] at bz
  have HNY := hZ0 hny
  clear hny
  cases vr
  ·go_enter Try.func32,Try.ntmps32
   go_wp2_with fail
   refine (HREP.out _).mono ?_
   rintro e w3 ⟨rfl,rfl⟩
   go_wp2
   go_ret
   exact ⟨by rw [<- HNV.out,HV.out];rfl,HK.out⟩
  ·go_enter Try.func32,Try.ntmps32
   go_wp2_with fail
   refine (HREP.out _).mono ?_
   rintro e w3 ⟨rfl,rfl⟩
   go_wp2_with fail
   refine (HKEY.out _).mono ?_
   rintro e w4 ⟨rfl,rfl⟩
   go_wp2
   go_ret
   exact ⟨by rw [<- HNV.out,HV.out,<- HNY.out];simp,HK.out⟩
 have H1 := hZ0 hk
 clear hk
 by_cases hk : a.k = 3
 ·have b0 : (a.k == 0) = false := by simp [hk]
  have b1 : (a.k == 1) = false := by simp [hk]
  have b3 : (a.k == 3) = true := by simpa using hk
  have hv : v = (vr && decide (vk = 0)) := by rw [HMAY.out,hk];simp
  have HV := hZ0 hv
  clear hv hk
  have bz : (vk != 0) = !decide (vk = 0) := by rw [Bool.eq_iff_iff];simp
  obtain ⟨y,hy⟩ : ∃ y,decide (vk = 0) = y := ⟨_,rfl⟩
  rw [hy] at bz HV
  clear hy
  obtain ⟨ny,hny⟩ : ∃ ny,(!y) = ny := ⟨_,rfl⟩
  rw [hny] at bz
  have HNY := hZ0 hny
  clear hny
  cases vr
  ·go_enter Try.func32,Try.ntmps32
   go_wp2_with fail
   refine (HREP.out _).mono ?_
   rintro e w3 ⟨rfl,rfl⟩
   go_wp2
   go_ret
   exact ⟨by rw [<- HNV.out,HV.out];rfl,HK.out⟩
  ·go_enter Try.func32,Try.ntmps32
   go_wp2_with fail
   refine (HREP.out _).mono ?_
   rintro e w3 ⟨rfl,rfl⟩
   go_wp2_with fail
   refine (HKEY.out _).mono ?_
   rintro e w4 ⟨rfl,rfl⟩
   go_wp2
   go_ret
   exact ⟨by rw [<- HNV.out,HV.out,<- HNY.out];simp,HK.out⟩
 have H3 := hZ0 hk
 clear hk
 by_cases hk : a.k = 2
 ·have b0 : (a.k == 0) = false := by simp [hk]
  have b1 : (a.k == 1) = false := by simp [hk]
  have b3 : (a.k == 3) = false := by simp [hk]
  have b2 : (a.k == 2) = true := by simpa using hk
  have hv : v = (vr && (decide (a.key.size <= 8) && (decide (a.to.size <= 8) && (decide (1 <= a.n) && decide (a.n <= 32))))) := by rw [HMAY.out,hk];simp
  have HV := hZ0 hv
  clear hv hk
  cases vr
  ·go_enter Try.func32,Try.ntmps32
   go_wp2_with fail
   refine (HREP.out _).mono ?_
   rintro e w3 ⟨rfl,rfl⟩
   go_wp2
   go_ret
   exact ⟨by rw [<- HNV.out,HV.out];rfl,HK.out⟩
  by_cases g0 : a.key.size <= 8
  rotate_left
  ·have G := hZ0 g0
   have G2 : (8 : Int) < ((a.key.size : Nat) : Int) := by omega
   clear g0
   go_enter Try.func32,Try.ntmps32
   go_wp2_with fail
   refine (HREP.out _).mono ?_
   rintro e w3 ⟨rfl,rfl⟩
   go_wp2
   go_ret
   exact ⟨by rw [<- HNV.out,HV.out];rw [decide_eq_false (show ¬ (a.key.size <= 8) by have := G.out;omega)];simp,HK.out⟩
  have Gg0 := hZ0 g0
  have N0 : ¬ (8 : Int) < ((a.key.size : Nat) : Int) := by omega
  clear g0
  by_cases g1 : a.to.size <= 8
  rotate_left
  ·have G := hZ0 g1
   have G2 : (8 : Int) < ((a.to.size : Nat) : Int) := by omega
   clear g1
   go_enter Try.func32,Try.ntmps32
   go_wp2_with fail
   refine (HREP.out _).mono ?_
   rintro e w3 ⟨rfl,rfl⟩
   go_wp2
   go_ret
   exact ⟨by rw [<- HNV.out,HV.out];rw [decide_eq_false (show ¬ (a.to.size <= 8) by have := G.out;omega)];simp,HK.out⟩
  have Gg1 := hZ0 g1
  have N1 : ¬ (8 : Int) < ((a.to.size : Nat) : Int) := by omega
  clear g1
  by_cases g2 : 1 <= a.n
  rotate_left
  ·have G := hZ0 g2
   have G2 : a.n < 1 := by omega
   clear g2
   go_enter Try.func32,Try.ntmps32
   go_wp2_with fail
   refine (HREP.out _).mono ?_
   rintro e w3 ⟨rfl,rfl⟩
   go_wp2
   go_ret
   exact ⟨by rw [<- HNV.out,HV.out];rw [decide_eq_false (show ¬ (1 <= a.n) by have := G.out;omega)];simp,HK.out⟩
  have Gg2 := hZ0 g2
  have N2 : ¬ a.n < 1 := by omega
  clear g2
  by_cases g3 : a.n <= 32
  rotate_left
  ·have G := hZ0 g3
   have G2 : 32 < a.n := by omega
   clear g3
   go_enter Try.func32,Try.ntmps32
   go_wp2_with fail
   refine (HREP.out _).mono ?_
   rintro e w3 ⟨rfl,rfl⟩
   go_wp2
   go_ret
   exact ⟨by rw [<- HNV.out,HV.out];rw [decide_eq_false (show ¬ (a.n <= 32) by have := G.out;omega)];simp,HK.out⟩
  have Gg3 := hZ0 g3
  have N3 : ¬ 32 < a.n := by omega
  clear g3
  go_enter Try.func32,Try.ntmps32
  go_wp2_with fail
  refine (HREP.out _).mono ?_
  rintro e w3 ⟨rfl,rfl⟩
  go_wp2
  go_ret
  exact ⟨by rw [<- HNV.out,HV.out];rw [decide_eq_true Gg0.out,decide_eq_true Gg1.out,decide_eq_true Gg2.out,decide_eq_true Gg3.out];simp [N0,N1,N2,N3],HK.out⟩
 have H2 := hZ0 hk
 clear hk
 by_cases hk : a.k = 5
 ·have b0 : (a.k == 0) = false := by simp [hk]
  have b1 : (a.k == 1) = false := by simp [hk]
  have b3 : (a.k == 3) = false := by simp [hk]
  have b2 : (a.k == 2) = false := by simp [hk]
  have b5 : (a.k == 5) = true := by simpa using hk
  have hv : v = (decide (0 <= a.n) && decide (a.n <= 1073741824)) := by rw [HMAY.out,hk];simp
  have HV := hZ0 hv
  clear hv hk
  by_cases g0 : 0 <= a.n
  rotate_left
  ·have G := hZ0 g0
   have G2 : a.n < 0 := by omega
   clear g0
   go_enter Try.func32,Try.ntmps32
   go_wp2
   go_ret
   exact ⟨by rw [<- HNV.out,HV.out];rw [decide_eq_false (show ¬ (0 <= a.n) by have := G.out;omega)];simp,HK.out⟩
  have Gg0 := hZ0 g0
  have N0 : ¬ a.n < 0 := by omega
  clear g0
  by_cases g1 : a.n <= 1073741824
  rotate_left
  ·have G := hZ0 g1
   have G2 : 1073741824 < a.n := by omega
   clear g1
   go_enter Try.func32,Try.ntmps32
   go_wp2
   go_ret
   exact ⟨by rw [<- HNV.out,HV.out];rw [decide_eq_false (show ¬ (a.n <= 1073741824) by have := G.out;omega)];simp,HK.out⟩
  have Gg1 := hZ0 g1
  have N1 : ¬ 1073741824 < a.n := by omega
  clear g1
  go_enter Try.func32,Try.ntmps32
  go_wp2
  go_ret
  exact ⟨by rw [<- HNV.out,HV.out];rw [decide_eq_true Gg0.out,decide_eq_true Gg1.out];rfl,HK.out⟩
 have H5 := hZ0 hk
 clear hk
 by_cases hk : a.k = 6
 ·have b0 : (a.k == 0) = false := by simp [hk]
  have b1 : (a.k == 1) = false := by simp [hk]
  have b3 : (a.k == 3) = false := by simp [hk]
  have b2 : (a.k == 2) = false := by simp [hk]
  have b5 : (a.k == 5) = false := by simp [hk]
  have b6 : (a.k == 6) = true := by simpa using hk
  have hv : v = (decide (0 <= a.n) && decide (a.n <= 1073741824)) := by rw [HMAY.out,hk];simp
  have HV := hZ0 hv
  clear hv hk
  by_cases g0 : 0 <= a.n
  rotate_left
  ·have G := hZ0 g0
   have G2 : a.n < 0 := by omega
   clear g0
   go_enter Try.func32,Try.ntmps32
   go_wp2
   go_ret
   exact ⟨by rw [<- HNV.out,HV.out];rw [decide_eq_false (show ¬ (0 <= a.n) by have := G.out;omega)];simp,HK.out⟩
  have Gg0 := hZ0 g0
  have N0 : ¬ a.n < 0 := by omega
  clear g0
  by_cases g1 : a.n <= 1073741824
  rotate_left
  ·have G := hZ0 g1
   have G2 : 1073741824 < a.n := by omega
   clear g1
   go_enter Try.func32,Try.ntmps32
   go_wp2
   go_ret
   exact ⟨by rw [<- HNV.out,HV.out];rw [decide_eq_false (show ¬ (a.n <= 1073741824) by have := G.out;omega)];simp,HK.out⟩
  have Gg1 := hZ0 g1
  have N1 : ¬ 1073741824 < a.n := by omega
  clear g1
  go_enter Try.func32,Try.ntmps32
  go_wp2
  go_ret
  exact ⟨by rw [<- HNV.out,HV.out];rw [decide_eq_true Gg0.out,decide_eq_true Gg1.out];rfl,HK.out⟩
 have H6 := hZ0 hk
 clear hk
 by_cases hk : a.k = 4
 ·have b0 : (a.k == 0) = false := by simp [hk]
  have b1 : (a.k == 1) = false := by simp [hk]
  have b3 : (a.k == 3) = false := by simp [hk]
  have b2 : (a.k == 2) = false := by simp [hk]
  have b5 : (a.k == 5) = false := by simp [hk]
  have b6 : (a.k == 6) = false := by simp [hk]
  have b4 : (a.k == 4) = true := by simpa using hk
  have hv : v = true := by rw [HMAY.out,hk];simp
  have HV := hZ0 hv
  clear hv hk
  go_enter Try.func32,Try.ntmps32
  go_wp2
  go_ret
  exact ⟨by rw [<- HNV.out,HV.out];rfl,HK.out⟩
 have H4 := hZ0 hk
 clear hk
 have b0 : (a.k == 0) = false := by simpa using H0.out
 have b1 : (a.k == 1) = false := by simpa using H1.out
 have b3 : (a.k == 3) = false := by simpa using H3.out
 have b2 : (a.k == 2) = false := by simpa using H2.out
 have b5 : (a.k == 5) = false := by simpa using H5.out
 have b6 : (a.k == 6) = false := by simpa using H6.out
 have b4 : (a.k == 4) = false := by simpa using H4.out
 have hv : v = false := by
  rw [HMAY.out,if_neg H0.out,if_neg (fun e => e.elim H1.out H3.out),if_neg H2.out,if_neg (fun e => e.elim H5.out H6.out),decide_eq_false H4.out]
 have HV := hZ0 hv
 clear hv
 go_enter Try.func32,Try.ntmps32
 go_wp2
 go_ret
 exact ⟨by rw [<- HNV.out,HV.out];rfl,HK.out⟩
def NewPostD (w : World) (cl rq : Int) (a : AskR) (e : Ending) (w' : World) : Prop :=
 (newE cl rq a ≠ 0 -> e = .returned (.tuple #[.pointer none,.int .i64 (newE cl rq a)]) /\ Kept NoF w w') /\
 (newE cl rq a = 0 -> ∃ X : DX,e = .returned (.tuple #[.pointer (some ⟨X.b,0,none⟩),.int .i64 0]) /\ DAt w' X (newT cl rq a) /\ (∀ k,footD X (newT cl rq a) k -> w.heap.size <= k) /\ Kept NoF w w')
theorem NewPostD.bad {cl rq : Int} {a : AskR} {z : Int} (hz : newE cl rq a = z) (h0 : z ≠ 0) (hk : Kept NoF w w') : NewPostD w cl rq a (.returned (.tuple #[.pointer none,.int .i64 z])) w' :=
 ⟨fun _ => ⟨by rw [hz],hk⟩,fun e => absurd (hz.symm.trans e) h0⟩
theorem newD_at {W : World} {cl rq : Int} {a : AskR} {tb : Nat} {A : Option Addr} {c : Nat} (hb : Has W tb 62 (dcell ⟨tb,A,c,none,0,none,0⟩ (newT cl rq a)).toArray)
  (ho : W.ownsRow 0 70 3 (.slice A (boOf a).length c) (boOf a).length (cells (boOf a))) : DAt W ⟨tb,A,c,none,0,none,0⟩ (newT cl rq a) :=
 ⟨hb,ho,⟨rfl,.inl ⟨rfl,rfl⟩⟩,⟨rfl,.inl ⟨rfl,rfl⟩⟩,fun _ => ⟨rfl,rfl,rfl⟩⟩
theorem dnew_any (w : World) (cl rq : Int) (a : AskR) (ha : QGood w a) (hl : a.ops.length <= 1000) : Calls Try.prog 15 #[.int .i64 cl,.int .i64 rq,qagg a] w (NewPostD w cl rq a) := by
 obtain ⟨W0,hW0⟩ : ∃ W0,w.alloc (.cells (qcell a).toArray 37) = W0 := ⟨_,rfl⟩
 have hk0 : Kept NoF w W0 := by rw [<- hW0];(repeat' (first | (with_reducible first | exact kR0 | apply kP0 | apply kN0 | apply kD0 | apply kA0) | (right;simp;done)))
 have hn0 : Has W0 w.heap.size 37 (qcell a).toArray := by rw [<- hW0];exact Has.new _ _ _
 have u0 : W0.cell? ⟨w.heap.size,0,none⟩ = some (.int .i64 a.k) := hn0.cell 0
 have u1 : W0.cell? ⟨w.heap.size,1,none⟩ = some (.int .i64 a.nd) := hn0.cell 1
 have u2 : W0.cell? ⟨w.heap.size,2,none⟩ = some (.string a.key) := hn0.cell 2
 have u3 : W0.cell? ⟨w.heap.size,3,none⟩ = some (.string a.to) := hn0.cell 3
 have u4 : W0.cell? ⟨w.heap.size,4,none⟩ = some (.int .u64 a.at') := hn0.cell 4
 have u5 : W0.cell? ⟨w.heap.size,5,none⟩ = some (.int .i64 a.n) := hn0.cell 5
 have u6 : W0.cell? ⟨w.heap.size,6,none⟩ = some (.slice a.A a.ops.length a.c) := hn0.cell 6
 obtain ⟨hs,hac,hac2,hos,hik,hind,hin,hat,hkl,htl⟩ := ha
 have HK0 := hZ0 hk0;have HN0 := hZ0 hn0;have HSRC := hZ0 hs;have HOS := hZ0 hos;have HKL := hZ0 (And.intro hkl htl);have HL := hZ0 hl
 have hne : newE cl rq a = if cl < 0 \/ 3 <= cl then 1 else if rq < 1 \/ 1073741824 < rq then 5 else if mayB cl rq (boOf a) a = true then 0 else 1 := rfl
 have HNE := hZ0 hne
 unfold qcell at hW0
 unfold qagg qcell
 clear hk0 hn0 hs hac hac2 hos hik hind hin hat hkl htl hl hne
 by_cases g1 : cl < 0
 ·have hz : newE cl rq a = 1 := by rw [HNE.out];rw [if_pos (.inl g1)]
  have HZ := hZ0 hz
  clear hz
  go_enter Try.func15,Try.ntmps15
  go_wp2
  go_ret2
  exact NewPostD.bad HZ.out (by decide) (by (repeat' (first | (with_reducible first | exact kR0 | apply kP0 | apply kN0 | apply kD0 | apply kA0) | (exact HK0.out) | (right;simp;done))))
 by_cases g2 : 3 <= cl
 ·have hz : newE cl rq a = 1 := by rw [HNE.out];rw [if_pos (.inr g2)]
  have HZ := hZ0 hz
  clear hz
  go_enter Try.func15,Try.ntmps15
  go_wp2
  go_ret2
  exact NewPostD.bad HZ.out (by decide) (by (repeat' (first | (with_reducible first | exact kR0 | apply kP0 | apply kN0 | apply kD0 | apply kA0) | (exact HK0.out) | (right;simp;done))))
 by_cases g3 : rq < 1
 ·have hz : newE cl rq a = 5 := by rw [HNE.out];rw [if_neg (by omega),if_pos (.inl g3)]
  have HZ := hZ0 hz
  clear hz
  go_enter Try.func15,Try.ntmps15
  go_wp2
  go_ret2
  exact NewPostD.bad HZ.out (by decide) (by (repeat' (first | (with_reducible first | exact kR0 | apply kP0 | apply kN0 | apply kD0 | apply kA0) | (exact HK0.out) | (right;simp;done))))
 by_cases g4 : 1073741824 < rq
 ·have hz : newE cl rq a = 5 := by rw [HNE.out];rw [if_neg (by omega),if_pos (.inr g4)]
  have HZ := hZ0 hz
  clear hz
  go_enter Try.func15,Try.ntmps15
  go_wp2
  go_ret2
  exact NewPostD.bad HZ.out (by decide) (by (repeat' (first | (with_reducible first | exact kR0 | apply kP0 | apply kN0 | apply kD0 | apply kA0) | (exact HK0.out) | (right;simp;done))))
 have hne2 : newE cl rq a = if mayB cl rq (boOf a) a = true then 0 else 1 := by rw [HNE.out,if_neg (by omega),if_neg (by omega)]
 have HNE2 := hZ0 hne2
 clear hne2
 obtain ⟨W1,hW1⟩ : ∃ W1,W0.alloc (.cells #[.int .i64 cl,.int .i64 rq,.slice none 0 0] 29) = W1 := ⟨_,rfl⟩
 have hk1 : Kept NoF W0 W1 := by rw [<- hW1];(repeat' (first | (with_reducible first | exact kR0 | apply kP0 | apply kN0 | apply kD0 | apply kA0) | (right;simp;done)))
 have hn1 : Has W1 W0.heap.size 29 #[.int .i64 cl,.int .i64 rq,.slice none 0 0] := by rw [<- hW1];exact Has.new _ _ _
 have hb1 := HN0.out.kept hk1 (fun z => z)
 have w0 : W1.cell? ⟨w.heap.size,0,none⟩ = some (.int .i64 a.k) := hb1.cell 0
 have w6 : W1.cell? ⟨w.heap.size,6,none⟩ = some (.slice a.A a.ops.length a.c) := hb1.cell 6
 have HW1 := hZ0 hW1;have HK1 := hZ0 hk1;have HN1 := hZ0 hn1;have HB1 := hZ0 hb1
 have hcb : ∀ W,Kept NoF W1 W -> W.cell? ⟨W0.heap.size,2,none⟩ = some (.slice none 0 0) /\ W.frozen? ⟨W0.heap.size,2,none⟩ = false := fun W hW => ⟨(hn1.kept hW (fun z => z)).cell 2,(hn1.kept hW (fun z => z)).frozen 2⟩
 have HCB := hZ0 hcb
 clear hk1 hn1 hb1 hcb hW1
 have hlt0 : w.heap.size < W0.heap.size := HN0.out.lt
 by_cases h0 : a.k = 0
 rotate_left
 ·have b0 : (a.k == 0) = false := by simpa using h0
  have hn : (boOf a) = [] := by unfold boOf;rw [if_neg h0]
  have hm := dwrong_any W1 cl rq none 0 [] a (Src.nil _ _ _) (Nat.le_refl _) HKL.out
  obtain ⟨v,hv⟩ : ∃ v,mayB cl rq [] a = v := ⟨_,rfl⟩
  have hz : newE cl rq a = if v = true then 0 else 1 := by rw [HNE2.out,hn,hv]
  have hkk : v = true -> a.k = 1 \/ a.k = 2 \/ a.k = 3 \/ a.k = 4 \/ a.k = 5 \/ a.k = 6 := fun e => by
   rw [e] at hv;unfold mayB at hv;rw [if_neg h0] at hv
   by_cases h1 : a.k = 1 \/ a.k = 3
   ·omega
   rw [if_neg h1] at hv
   by_cases h2 : a.k = 2
   ·omega
   rw [if_neg h2] at hv
   by_cases h5 : a.k = 5 \/ a.k = 6
   ·omega
   rw [if_neg h5] at hv
   have := of_decide_eq_true hv
   omega
  rw [hv] at hm
  have HM := hZ0 hm
  unfold qagg qcell at HM
  dsimp only [List.length_nil] at HM
  have HN := hZ0 hn;have HZ := hZ0 hz
  have HBM := hZ0 HB1.out;have HCM := hZ0 HN1.out;have HKM := hZ0 (HK0.out.then HK1.out)
  clear hm hv hn hz
  cases v
  ·have HZ := hZ0 (show newE cl rq a = 1 from HZ.out)
   clear h0 hkk
   go_enter Try.func15,Try.ntmps15
   go_wp2_with fail
   rw [HW1.out]
   refine HM.out.mono ?_
   rintro e w3 ⟨rfl,hk3⟩
   go_wp2
   go_ret2
   exact NewPostD.bad HZ.out (by decide) (HKM.out.then hk3)
  have HZ := hZ0 (show newE cl rq a = 0 from HZ.out)
  by_cases k1 : a.k = 1
  ·have b1 : (a.k == 1) = true := by simp [k1]
   have b2 : (a.k == 2) = false := by simp [k1]
   have b4 : (a.k == 4) = false := by simp [k1]
   have b5 : (a.k == 5) = false := by simp [k1]
   have b6 : (a.k == 6) = false := by simp [k1]
   have hph : phOf a = 1 := by unfold phOf;rw [if_neg (by omega),if_pos (by omega)]
   have HPH := hZ0 hph
   clear hph h0 hkk k1
   go_enter Try.func15,Try.ntmps15
   go_wp2_with fail
   rw [HW1.out]
   refine HM.out.mono ?_
   rintro e w3 ⟨rfl,hk3⟩
   have hb3 := HBM.out.kept hk3 (fun z => z)
   have hc3 := HCM.out.kept hk3 (fun z => z)
   have HK3 := hZ0 hk3
   have z0 := hb3.cell 0;have z1 := hb3.cell 1;have z2 := hb3.cell 2;have z3 := hb3.cell 3;have z4 := hb3.cell 4;have z5 := hb3.cell 5;have z6 := hb3.cell 6
   simp [qcell] at z0 z1 z2 z3 z4 z5 z6
   have c0 := hc3.cell 0;have c1 := hc3.cell 1;have c2 := hc3.cell 2
   simp at c0 c1 c2
   have l1 : w.heap.size < w3.heap.size := hb3.lt
   have l2 : W0.heap.size < w3.heap.size := hc3.lt
   clear hb3 hc3 hk3
   go_wp2
   go_ret2
   refine ⟨fun e => absurd HZ.out e,fun _ => ⟨⟨w3.heap.size,none,0,none,0,none,0⟩,rfl,newD_at ?_ ?_,(fun k hk => ?_),?_⟩⟩
   ·have e9 : (dcell ⟨w3.heap.size,none,0,none,0,none,0⟩ (newT cl rq a)).toArray = #[.int .i64 cl,.int .i64 rq,.slice none 0 0,.int .i64 a.k,.int .i64 a.nd,.string a.key,.string a.to,.int .u64 a.at',.int .i64 a.n,.slice none 0 0,.int .i64 1,.int .u64 a.at',.string a.key,.slice none 0 0,.int .i64 0,.bool false,.int .i64 0,.int .i64 0,.int .u64 0,.int .i64 0,.slice none 0 0] := by
     unfold dcell newT
     dsimp only
     rw [HN.out,HPH.out]
     rfl
    rw [e9]
    first | exact Has.new _ _ _ | exact Has.drew (Has.new _ _ _) | (repeat (first | with_reducible exact Has.new_at _ _ _ (by simp) | with_reducible apply Has.drew | with_reducible apply Has.drewN | with_reducible apply Has.alloc | (with_reducible apply Has.past <;> (try omega)) ))
   ·rw [HN.out];exact ⟨rfl,.inl ⟨rfl,rfl⟩⟩
   ·rcases hk with e | e | e | e
    ·rw [e];exact Nat.le_of_lt l1
    ·cases e
    ·rw [show (newT cl rq a).bo = [] from HN.out] at e;cases e
    ·cases e
   ·exact (HKM.out.then HK3.out).trans (F := NoF) (G := NoF) (by (repeat' (first | (with_reducible first | exact kR0 | apply kP0 | apply kN0 | apply kD0 | apply kA0) | (right;simp;done)))) (fun _ z => z.elim)
  by_cases k2 : a.k = 2
  ·have b1 : (a.k == 1) = false := by simp [k2]
   have b2 : (a.k == 2) = true := by simp [k2]
   have b4 : (a.k == 4) = false := by simp [k2]
   have b5 : (a.k == 5) = false := by simp [k2]
   have b6 : (a.k == 6) = false := by simp [k2]
   have hph : phOf a = 1 := by unfold phOf;rw [if_neg (by omega),if_pos (by omega)]
   have HPH := hZ0 hph
   clear hph h0 hkk k1 k2
   go_enter Try.func15,Try.ntmps15
   go_wp2_with fail
   rw [HW1.out]
   refine HM.out.mono ?_
   rintro e w3 ⟨rfl,hk3⟩
   have hb3 := HBM.out.kept hk3 (fun z => z)
   have hc3 := HCM.out.kept hk3 (fun z => z)
   have HK3 := hZ0 hk3
   have z0 := hb3.cell 0;have z1 := hb3.cell 1;have z2 := hb3.cell 2;have z3 := hb3.cell 3;have z4 := hb3.cell 4;have z5 := hb3.cell 5;have z6 := hb3.cell 6
   simp [qcell] at z0 z1 z2 z3 z4 z5 z6
   have c0 := hc3.cell 0;have c1 := hc3.cell 1;have c2 := hc3.cell 2
   simp at c0 c1 c2
   have l1 : w.heap.size < w3.heap.size := hb3.lt
   have l2 : W0.heap.size < w3.heap.size := hc3.lt
   clear hb3 hc3 hk3
   go_wp2
   go_ret2
   refine ⟨fun e => absurd HZ.out e,fun _ => ⟨⟨w3.heap.size,none,0,none,0,none,0⟩,rfl,newD_at ?_ ?_,(fun k hk => ?_),?_⟩⟩
   ·have e9 : (dcell ⟨w3.heap.size,none,0,none,0,none,0⟩ (newT cl rq a)).toArray = #[.int .i64 cl,.int .i64 rq,.slice none 0 0,.int .i64 a.k,.int .i64 a.nd,.string a.key,.string a.to,.int .u64 a.at',.int .i64 a.n,.slice none 0 0,.int .i64 1,.int .u64 a.at',.string a.key,.slice none 0 0,.int .i64 0,.bool false,.int .i64 0,.int .i64 0,.int .u64 0,.int .i64 0,.slice none 0 0] := by
     unfold dcell newT
     dsimp only
     rw [HN.out,HPH.out]
     rfl
    rw [e9]
    first | exact Has.new _ _ _ | exact Has.drew (Has.new _ _ _) | (repeat (first | with_reducible exact Has.new_at _ _ _ (by simp) | with_reducible apply Has.drew | with_reducible apply Has.drewN | with_reducible apply Has.alloc | (with_reducible apply Has.past <;> (try omega)) ))
   ·rw [HN.out];exact ⟨rfl,.inl ⟨rfl,rfl⟩⟩
   ·rcases hk with e | e | e | e
    ·rw [e];exact Nat.le_of_lt l1
    ·cases e
    ·rw [show (newT cl rq a).bo = [] from HN.out] at e;cases e
    ·cases e
   ·exact (HKM.out.then HK3.out).trans (F := NoF) (G := NoF) (by (repeat' (first | (with_reducible first | exact kR0 | apply kP0 | apply kN0 | apply kD0 | apply kA0) | (right;simp;done)))) (fun _ z => z.elim)
  by_cases k3 : a.k = 3
  ·have b1 : (a.k == 1) = false := by simp [k3]
   have b2 : (a.k == 2) = false := by simp [k3]
   have b4 : (a.k == 4) = false := by simp [k3]
   have b5 : (a.k == 5) = false := by simp [k3]
   have b6 : (a.k == 6) = false := by simp [k3]
   have hph : phOf a = 0 := by unfold phOf;rw [if_pos (.inr k3)]
   have HPH := hZ0 hph
   clear hph h0 hkk k1 k2 k3
   go_enter Try.func15,Try.ntmps15
   go_wp2_with fail
   rw [HW1.out]
   refine HM.out.mono ?_
   rintro e w3 ⟨rfl,hk3⟩
   have hb3 := HBM.out.kept hk3 (fun z => z)
   have hc3 := HCM.out.kept hk3 (fun z => z)
   have HK3 := hZ0 hk3
   have z0 := hb3.cell 0;have z1 := hb3.cell 1;have z2 := hb3.cell 2;have z3 := hb3.cell 3;have z4 := hb3.cell 4;have z5 := hb3.cell 5;have z6 := hb3.cell 6
   simp [qcell] at z0 z1 z2 z3 z4 z5 z6
   have c0 := hc3.cell 0;have c1 := hc3.cell 1;have c2 := hc3.cell 2
   simp at c0 c1 c2
   have l1 : w.heap.size < w3.heap.size := hb3.lt
   have l2 : W0.heap.size < w3.heap.size := hc3.lt
   clear hb3 hc3 hk3
   go_wp2
   go_ret2
   refine ⟨fun e => absurd HZ.out e,fun _ => ⟨⟨w3.heap.size,none,0,none,0,none,0⟩,rfl,newD_at ?_ ?_,(fun k hk => ?_),?_⟩⟩
   ·have e9 : (dcell ⟨w3.heap.size,none,0,none,0,none,0⟩ (newT cl rq a)).toArray = #[.int .i64 cl,.int .i64 rq,.slice none 0 0,.int .i64 a.k,.int .i64 a.nd,.string a.key,.string a.to,.int .u64 a.at',.int .i64 a.n,.slice none 0 0,.int .i64 0,.int .u64 a.at',.string a.key,.slice none 0 0,.int .i64 0,.bool false,.int .i64 0,.int .i64 0,.int .u64 0,.int .i64 0,.slice none 0 0] := by
     unfold dcell newT
     dsimp only
     rw [HN.out,HPH.out]
     rfl
    rw [e9]
    first | exact Has.new _ _ _ | exact Has.drew (Has.new _ _ _) | (repeat (first | with_reducible exact Has.new_at _ _ _ (by simp) | with_reducible apply Has.drew | with_reducible apply Has.drewN | with_reducible apply Has.alloc | (with_reducible apply Has.past <;> (try omega)) ))
   ·rw [HN.out];exact ⟨rfl,.inl ⟨rfl,rfl⟩⟩
   ·rcases hk with e | e | e | e
    ·rw [e];exact Nat.le_of_lt l1
    ·cases e
    ·rw [show (newT cl rq a).bo = [] from HN.out] at e;cases e
    ·cases e
   ·exact (HKM.out.then HK3.out).trans (F := NoF) (G := NoF) (by (repeat' (first | (with_reducible first | exact kR0 | apply kP0 | apply kN0 | apply kD0 | apply kA0) | (right;simp;done)))) (fun _ z => z.elim)
  by_cases k4 : a.k = 4
  ·have b1 : (a.k == 1) = false := by simp [k4]
   have b2 : (a.k == 2) = false := by simp [k4]
   have b4 : (a.k == 4) = true := by simp [k4]
   have b5 : (a.k == 5) = false := by simp [k4]
   have b6 : (a.k == 6) = false := by simp [k4]
   have hph : phOf a = 2 := by unfold phOf;rw [if_neg (by omega),if_neg (by omega)]
   have HPH := hZ0 hph
   clear hph h0 hkk k1 k2 k3 k4
   go_enter Try.func15,Try.ntmps15
   go_wp2_with fail
   rw [HW1.out]
   refine HM.out.mono ?_
   rintro e w3 ⟨rfl,hk3⟩
   have hb3 := HBM.out.kept hk3 (fun z => z)
   have hc3 := HCM.out.kept hk3 (fun z => z)
   have HK3 := hZ0 hk3
   have z0 := hb3.cell 0;have z1 := hb3.cell 1;have z2 := hb3.cell 2;have z3 := hb3.cell 3;have z4 := hb3.cell 4;have z5 := hb3.cell 5;have z6 := hb3.cell 6
   simp [qcell] at z0 z1 z2 z3 z4 z5 z6
   have c0 := hc3.cell 0;have c1 := hc3.cell 1;have c2 := hc3.cell 2
   simp at c0 c1 c2
   have l1 : w.heap.size < w3.heap.size := hb3.lt
   have l2 : W0.heap.size < w3.heap.size := hc3.lt
   clear hb3 hc3 hk3
   go_wp2
   go_ret2
   refine ⟨fun e => absurd HZ.out e,fun _ => ⟨⟨w3.heap.size,none,0,none,0,none,0⟩,rfl,newD_at ?_ ?_,(fun k hk => ?_),?_⟩⟩
   ·have e9 : (dcell ⟨w3.heap.size,none,0,none,0,none,0⟩ (newT cl rq a)).toArray = #[.int .i64 cl,.int .i64 rq,.slice none 0 0,.int .i64 a.k,.int .i64 a.nd,.string a.key,.string a.to,.int .u64 a.at',.int .i64 a.n,.slice none 0 0,.int .i64 2,.int .u64 a.at',.string a.key,.slice none 0 0,.int .i64 0,.bool false,.int .i64 0,.int .i64 0,.int .u64 0,.int .i64 0,.slice none 0 0] := by
     unfold dcell newT
     dsimp only
     rw [HN.out,HPH.out]
     rfl
    rw [e9]
    first | exact Has.new _ _ _ | exact Has.drew (Has.new _ _ _) | (repeat (first | with_reducible exact Has.new_at _ _ _ (by simp) | with_reducible apply Has.drew | with_reducible apply Has.drewN | with_reducible apply Has.alloc | (with_reducible apply Has.past <;> (try omega)) ))
   ·rw [HN.out];exact ⟨rfl,.inl ⟨rfl,rfl⟩⟩
   ·rcases hk with e | e | e | e
    ·rw [e];exact Nat.le_of_lt l1
    ·cases e
    ·rw [show (newT cl rq a).bo = [] from HN.out] at e;cases e
    ·cases e
   ·exact (HKM.out.then HK3.out).trans (F := NoF) (G := NoF) (by (repeat' (first | (with_reducible first | exact kR0 | apply kP0 | apply kN0 | apply kD0 | apply kA0) | (right;simp;done)))) (fun _ z => z.elim)
  by_cases k5 : a.k = 5
  ·have b1 : (a.k == 1) = false := by simp [k5]
   have b2 : (a.k == 2) = false := by simp [k5]
   have b4 : (a.k == 4) = false := by simp [k5]
   have b5 : (a.k == 5) = true := by simp [k5]
   have b6 : (a.k == 6) = false := by simp [k5]
   have hph : phOf a = 2 := by unfold phOf;rw [if_neg (by omega),if_neg (by omega)]
   have HPH := hZ0 hph
   clear hph h0 hkk k1 k2 k3 k4 k5
   go_enter Try.func15,Try.ntmps15
   go_wp2_with fail
   rw [HW1.out]
   refine HM.out.mono ?_
   rintro e w3 ⟨rfl,hk3⟩
   have hb3 := HBM.out.kept hk3 (fun z => z)
   have hc3 := HCM.out.kept hk3 (fun z => z)
   have HK3 := hZ0 hk3
   have z0 := hb3.cell 0;have z1 := hb3.cell 1;have z2 := hb3.cell 2;have z3 := hb3.cell 3;have z4 := hb3.cell 4;have z5 := hb3.cell 5;have z6 := hb3.cell 6
   simp [qcell] at z0 z1 z2 z3 z4 z5 z6
   have c0 := hc3.cell 0;have c1 := hc3.cell 1;have c2 := hc3.cell 2
   simp at c0 c1 c2
   have l1 : w.heap.size < w3.heap.size := hb3.lt
   have l2 : W0.heap.size < w3.heap.size := hc3.lt
   clear hb3 hc3 hk3
   go_wp2
   go_ret2
   refine ⟨fun e => absurd HZ.out e,fun _ => ⟨⟨w3.heap.size,none,0,none,0,none,0⟩,rfl,newD_at ?_ ?_,(fun k hk => ?_),?_⟩⟩
   ·have e9 : (dcell ⟨w3.heap.size,none,0,none,0,none,0⟩ (newT cl rq a)).toArray = #[.int .i64 cl,.int .i64 rq,.slice none 0 0,.int .i64 a.k,.int .i64 a.nd,.string a.key,.string a.to,.int .u64 a.at',.int .i64 a.n,.slice none 0 0,.int .i64 2,.int .u64 a.at',.string a.key,.slice none 0 0,.int .i64 0,.bool false,.int .i64 0,.int .i64 0,.int .u64 0,.int .i64 0,.slice none 0 0] := by
     unfold dcell newT
     dsimp only
     rw [HN.out,HPH.out]
     rfl
    rw [e9]
    first | exact Has.new _ _ _ | exact Has.drew (Has.new _ _ _) | (repeat (first | with_reducible exact Has.new_at _ _ _ (by simp) | with_reducible apply Has.drew | with_reducible apply Has.drewN | with_reducible apply Has.alloc | (with_reducible apply Has.past <;> (try omega)) ))
   ·rw [HN.out];exact ⟨rfl,.inl ⟨rfl,rfl⟩⟩
   ·rcases hk with e | e | e | e
    ·rw [e];exact Nat.le_of_lt l1
    ·cases e
    ·rw [show (newT cl rq a).bo = [] from HN.out] at e;cases e
    ·cases e
   ·exact (HKM.out.then HK3.out).trans (F := NoF) (G := NoF) (by (repeat' (first | (with_reducible first | exact kR0 | apply kP0 | apply kN0 | apply kD0 | apply kA0) | (right;simp;done)))) (fun _ z => z.elim)
  by_cases k6 : a.k = 6
  ·have b1 : (a.k == 1) = false := by simp [k6]
   have b2 : (a.k == 2) = false := by simp [k6]
   have b4 : (a.k == 4) = false := by simp [k6]
   have b5 : (a.k == 5) = false := by simp [k6]
   have b6 : (a.k == 6) = true := by simp [k6]
   have hph : phOf a = 2 := by unfold phOf;rw [if_neg (by omega),if_neg (by omega)]
   have HPH := hZ0 hph
   clear hph h0 hkk k1 k2 k3 k4 k5 k6
   go_enter Try.func15,Try.ntmps15
   go_wp2_with fail
   rw [HW1.out]
   refine HM.out.mono ?_
   rintro e w3 ⟨rfl,hk3⟩
   have hb3 := HBM.out.kept hk3 (fun z => z)
   have hc3 := HCM.out.kept hk3 (fun z => z)
   have HK3 := hZ0 hk3
   have z0 := hb3.cell 0;have z1 := hb3.cell 1;have z2 := hb3.cell 2;have z3 := hb3.cell 3;have z4 := hb3.cell 4;have z5 := hb3.cell 5;have z6 := hb3.cell 6
   simp [qcell] at z0 z1 z2 z3 z4 z5 z6
   have c0 := hc3.cell 0;have c1 := hc3.cell 1;have c2 := hc3.cell 2
   simp at c0 c1 c2
   have l1 : w.heap.size < w3.heap.size := hb3.lt
   have l2 : W0.heap.size < w3.heap.size := hc3.lt
   clear hb3 hc3 hk3
   go_wp2
   go_ret2
   refine ⟨fun e => absurd HZ.out e,fun _ => ⟨⟨w3.heap.size,none,0,none,0,none,0⟩,rfl,newD_at ?_ ?_,(fun k hk => ?_),?_⟩⟩
   ·have e9 : (dcell ⟨w3.heap.size,none,0,none,0,none,0⟩ (newT cl rq a)).toArray = #[.int .i64 cl,.int .i64 rq,.slice none 0 0,.int .i64 a.k,.int .i64 a.nd,.string a.key,.string a.to,.int .u64 a.at',.int .i64 a.n,.slice none 0 0,.int .i64 2,.int .u64 a.at',.string a.key,.slice none 0 0,.int .i64 0,.bool false,.int .i64 0,.int .i64 0,.int .u64 0,.int .i64 0,.slice none 0 0] := by
     unfold dcell newT
     dsimp only
     rw [HN.out,HPH.out]
     rfl
    rw [e9]
    first | exact Has.new _ _ _ | exact Has.drew (Has.new _ _ _) | (repeat (first | with_reducible exact Has.new_at _ _ _ (by simp) | with_reducible apply Has.drew | with_reducible apply Has.drewN | with_reducible apply Has.alloc | (with_reducible apply Has.past <;> (try omega)) ))
   ·rw [HN.out];exact ⟨rfl,.inl ⟨rfl,rfl⟩⟩
   ·rcases hk with e | e | e | e
    ·rw [e];exact Nat.le_of_lt l1
    ·cases e
    ·rw [show (newT cl rq a).bo = [] from HN.out] at e;cases e
    ·cases e
   ·exact (HKM.out.then HK3.out).trans (F := NoF) (G := NoF) (by (repeat' (first | (with_reducible first | exact kR0 | apply kP0 | apply kN0 | apply kD0 | apply kA0) | (right;simp;done)))) (fun _ z => z.elim)
  have := hkk rfl
  omega
 ·have b0 : (a.k == 0) = true := by simpa using h0
  have b1 : (a.k == 1) = false := by simp [h0]
  have b2 : (a.k == 2) = false := by simp [h0]
  have b4 : (a.k == 4) = false := by simp [h0]
  have b5 : (a.k == 5) = false := by simp [h0]
  have b6 : (a.k == 6) = false := by simp [h0]
  have hno := rnorm_any W1 a.A a.c a.ops (HSRC.out.kept (HK0.out.then HK1.out) (fun _ _ z => z)) HL.out
  have hbo : boOf a = normL a.ops := by unfold boOf;rw [if_pos h0]
  obtain ⟨n,hn⟩ : ∃ n,(boOf a).length = n := ⟨_,rfl⟩
  unfold NewOps NewSl at hno
  rw [<- hbo,hn] at hno
  have hph : phOf a = 0 := by unfold phOf;rw [if_pos (.inl h0)]
  have HPH := hZ0 hph
  have HNO := hZ0 hno
  have HNM := hZ0 hn
  clear hno hn hbo h0 hph
  go_enter Try.func15,Try.ntmps15
  go_wp2_with fail
  rw [HW1.out]
  refine HNO.out.mono ?_
  rintro e w2 ⟨B,bc,rfl,⟨hob,hnb⟩,hk2⟩
  have hc2 := HN1.out.kept hk2 (fun z => z)
  obtain ⟨Wm,hWm⟩ : ∃ Wm,w2.setCell ⟨W0.heap.size,2,none⟩ (.slice B n bc) = Wm := ⟨_,rfl⟩
  obtain ⟨cc2,cf2⟩ := HCB.out w2 hk2
  have hkm : Kept (fun k => k = W0.heap.size) w2 Wm := by rw [<- hWm];(repeat' (first | (with_reducible first | exact kR0 | apply kP0 | apply kN0 | apply kD0 | apply kA0) | (exact .inl rfl) | (right;simp;done)))
  have HCM := hZ0 (show Has Wm W0.heap.size 29 #[.int .i64 cl,.int .i64 rq,.slice B n bc] by rw [<- hWm];exact hc2.put_of rfl)
  have HBM := hZ0 ((HB1.out.kept hk2 (fun z => z)).kept hkm (fun e => by have := HN0.out.lt;omega))
  have HOM := hZ0 (show Wm.ownsRow 0 70 3 (.slice B (boOf a).length bc) (boOf a).length (cells (boOf a)) from by rw [HNM.out];exact own_kept hob hkm (fun k hk e => own_ne hob hc2 (by decide) (e ▸ hk)))
  have HRN := hZ0 (show ∀ k,(Value.slice B n bc).ownBlock = some k -> w.heap.size <= k from fun k hk => Nat.le_trans (HK0.out.then HK1.out).size (hnb k hk))
  have HKM := hZ0 (show Kept NoF w Wm from ((HK0.out.then HK1.out).then hk2).trans hkm (fun i hi => .inr (by rw [hi];exact HK0.out.size)))
  have d0 : Wm.cell? ⟨w.heap.size,0,none⟩ = some (.int .i64 a.k) := HBM.out.cell 0
  have d1 : Wm.cell? ⟨w.heap.size,1,none⟩ = some (.int .i64 a.nd) := HBM.out.cell 1
  have d2 : Wm.cell? ⟨w.heap.size,2,none⟩ = some (.string a.key) := HBM.out.cell 2
  have d3 : Wm.cell? ⟨w.heap.size,3,none⟩ = some (.string a.to) := HBM.out.cell 3
  have d4 : Wm.cell? ⟨w.heap.size,4,none⟩ = some (.int .u64 a.at') := HBM.out.cell 4
  have d5 : Wm.cell? ⟨w.heap.size,5,none⟩ = some (.int .i64 a.n) := HBM.out.cell 5
  have d6 : Wm.cell? ⟨w.heap.size,6,none⟩ = some (.slice a.A a.ops.length a.c) := HBM.out.cell 6
  have x0 : Wm.cell? ⟨W0.heap.size,0,none⟩ = some (.int .i64 cl) := HCM.out.cell 0
  have x1 : Wm.cell? ⟨W0.heap.size,1,none⟩ = some (.int .i64 rq) := HCM.out.cell 1
  have x2 : Wm.cell? ⟨W0.heap.size,2,none⟩ = some (.slice B n bc) := HCM.out.cell 2
  have hm := dwrong_any Wm cl rq B bc (boOf a) a (Src.of_own HOM.out) (own_cap HOM.out).1 HKL.out
  obtain ⟨v,hv⟩ : ∃ v,mayB cl rq (boOf a) a = v := ⟨_,rfl⟩
  rw [hv,HNM.out] at hm
  have HM := hZ0 hm
  unfold qagg qcell at HM
  have hz : newE cl rq a = if v = true then 0 else 1 := by rw [HNE2.out,hv]
  have HZ := hZ0 hz
  clear hm hv hz hob hnb hk2 hc2 hkm u0 u1 u2 u3 u4 u5 u6 w0 w6
  cases v
  ·go_wp2_with fail
   clear hWm cc2 cf2 d0 d1 d2 d3 d4 d5 d6 x0 x1 x2
   refine HM.out.mono ?_
   rintro e w3 ⟨rfl,hk3⟩
   have HZ := hZ0 (show newE cl rq a = 1 from HZ.out)
   go_wp2
   go_ret2
   exact NewPostD.bad HZ.out (by decide) (HKM.out.then hk3)
  have HZ := hZ0 (show newE cl rq a = 0 from HZ.out)
  go_wp2_with fail
  clear hWm cc2 cf2 d0 d1 d2 d3 d4 d5 d6 x0 x1 x2
  refine HM.out.mono ?_
  rintro e w3 ⟨rfl,hk3⟩
  have hb3 := HBM.out.kept hk3 (fun z => z)
  have hc3 := HCM.out.kept hk3 (fun z => z)
  have HK3 := hZ0 hk3
  have z0 := hb3.cell 0;have z1 := hb3.cell 1;have z2 := hb3.cell 2;have z3 := hb3.cell 3;have z4 := hb3.cell 4;have z5 := hb3.cell 5;have z6 := hb3.cell 6
  simp [qcell] at z0 z1 z2 z3 z4 z5 z6
  have c0 := hc3.cell 0;have c1 := hc3.cell 1;have c2 := hc3.cell 2
  simp at c0 c1 c2
  have l1 : w.heap.size < w3.heap.size := hb3.lt
  have l2 : W0.heap.size < w3.heap.size := hc3.lt
  clear hb3 hc3 hk3
  go_wp2
  go_ret2
  refine ⟨fun e => absurd HZ.out e,fun _ => ⟨⟨w3.heap.size,B,bc,none,0,none,0⟩,rfl,newD_at ?_ ?_,(fun k hk => ?_),?_⟩⟩
  ·have e9 : (dcell ⟨w3.heap.size,B,bc,none,0,none,0⟩ (newT cl rq a)).toArray = #[.int .i64 cl,.int .i64 rq,.slice B n bc,.int .i64 a.k,.int .i64 a.nd,.string a.key,.string a.to,.int .u64 a.at',.int .i64 a.n,.slice none 0 0,.int .i64 0,.int .u64 a.at',.string a.key,.slice none 0 0,.int .i64 0,.bool false,.int .i64 0,.int .i64 0,.int .u64 0,.int .i64 0,.slice none 0 0] := by
    unfold dcell newT
    dsimp only
    rw [HNM.out,HPH.out]
    rfl
   rw [e9]
   first | exact Has.new _ _ _ | exact Has.drew (Has.new _ _ _) | (repeat (first | with_reducible exact Has.new_at _ _ _ (by simp) | with_reducible apply Has.drew | with_reducible apply Has.drewN | with_reducible apply Has.alloc | (with_reducible apply Has.past <;> (try omega)) ))
  ·exact own_kept (HOM.out) (F := NoF) (Kept.then HK3.out (by (repeat' (first | (with_reducible first | exact kR0 | apply kP0 | apply kN0 | apply kD0 | apply kA0) | (right;simp;done))))) (fun _ _ z => z)
  ·rcases hk with e | e | e | e
   ·rw [e];exact Nat.le_of_lt l1
   ·cases e
   ·exact HRN.out k (by have e2 : (Value.slice B (boOf a).length bc).ownBlock = some k := e;rwa [HNM.out] at e2)
   ·cases e
  ·exact (HKM.out.then HK3.out).trans (F := NoF) (G := NoF) (by (repeat' (first | (with_reducible first | exact kR0 | apply kP0 | apply kN0 | apply kD0 | apply kA0) | (right;simp;done)))) (fun _ z => z.elim)
end
end Ask
end Go.Proofs.Ytobfdolhgnoedaa
