/- Part 21 of what the proof needs. -/
import Derived.Test.YtgbigpdiacjbgaaGreatKO11
import Derived.Test.YtgbigpdiacjbgaaGreatKO19
set_option linter.unusedSimpArgs false
set_option linter.unusedVariables false
set_option maxHeartbeats 32000000
set_option maxRecDepth 100000
namespace Go.Proofs.YtgbigpdiacjbgaaGreat
open Go.RowKit
set_option maxRecDepth 100000
namespace Ask
open Plan Ops Ent Msg MO Vn
def cgcell (cl rq : Int) (B : Option Addr) (bc : Nat) (bo : List OpR) (a : AskR) : List Value := [.int .i64 cl,.int .i64 rq,.slice B bo.length bc] ++ qcell a
section
variable {w w' : World}
theorem kcheckA (w : World) (s : ByteArray) : Calls Tryz.prog 86 #[.string s] w fun e w' => e = .returned (.int .i64 (keyE s)) /\ w = w' := kcheck_any s w
theorem may_any (w : World) (cl rq : Int) (B : Option Addr) (bc : Nat) (bo : List OpR) (a : AskR) (hb : Src w 3 B bo.length (cells bo)) (hka : a.key.size <= maxLen /\ a.to.size <= maxLen) :
  Calls Tryz.prog 51 #[.agg (cgcell cl rq B bc bo a).toArray] w fun e w' => e = .returned (.bool (mayB cl rq bo a)) /\ Kept NoF w w' := by
 obtain ⟨W0,hW0⟩ : ∃ W0,w.alloc (.cells (cgcell cl rq B bc bo a).toArray 103) = W0 := ⟨_,rfl⟩
 have hk0 : Kept NoF w W0 := by rw [<- hW0];(repeat' (first | (with_reducible first | exact kR0 | apply kP0 | apply kN0 | apply kD0 | apply kA0) | (right;simp;done)))
 have hn0 : Has W0 w.heap.size 103 (cgcell cl rq B bc bo a).toArray := by rw [<- hW0];exact Has.new _ _ _
 obtain ⟨W1,hW1⟩ : ∃ W1,W0.alloc (.cells (qcell a).toArray 25) = W1 := ⟨_,rfl⟩
 have hk1 : Kept NoF W0 W1 := by rw [<- hW1];(repeat' (first | (with_reducible first | exact kR0 | apply kP0 | apply kN0 | apply kD0 | apply kA0) | (right;simp;done)))
 have hn1 : Has W1 W0.heap.size 25 (qcell a).toArray := by rw [<- hW1];exact Has.new _ _ _
 have hn01 := hn0.kept hk1 (fun z => z)
 have c3 : W0.cell? ⟨w.heap.size,3,none⟩ = some (.int .i64 a.k) := hn0.cell 3
 have c4 : W0.cell? ⟨w.heap.size,4,none⟩ = some (.int .i64 a.nd) := hn0.cell 4
 have c5 : W0.cell? ⟨w.heap.size,5,none⟩ = some (.string a.key) := hn0.cell 5
 have c6 : W0.cell? ⟨w.heap.size,6,none⟩ = some (.string a.to) := hn0.cell 6
 have c7 : W0.cell? ⟨w.heap.size,7,none⟩ = some (.int .u64 a.at') := hn0.cell 7
 have c8 : W0.cell? ⟨w.heap.size,8,none⟩ = some (.int .i64 a.n) := hn0.cell 8
 have c9 : W0.cell? ⟨w.heap.size,9,none⟩ = some (.slice a.A a.ops.length a.c) := hn0.cell 9
 have q0 : W1.cell? ⟨W0.heap.size,0,none⟩ = some (.int .i64 a.k) := hn1.cell 0
 have q1 : W1.cell? ⟨W0.heap.size,1,none⟩ = some (.int .i64 a.nd) := hn1.cell 1
 have q2 : W1.cell? ⟨W0.heap.size,2,none⟩ = some (.string a.key) := hn1.cell 2
 have q3 : W1.cell? ⟨W0.heap.size,3,none⟩ = some (.string a.to) := hn1.cell 3
 have q5 : W1.cell? ⟨W0.heap.size,5,none⟩ = some (.int .i64 a.n) := hn1.cell 5
 have d0 : W1.cell? ⟨w.heap.size,0,none⟩ = some (.int .i64 cl) := hn01.cell 0
 have d1 : W1.cell? ⟨w.heap.size,1,none⟩ = some (.int .i64 rq) := hn01.cell 1
 have d2 : W1.cell? ⟨w.heap.size,2,none⟩ = some (.slice B bo.length bc) := hn01.cell 2
 have hchk := ocheck_any W1 ⟨cl,rq,bo⟩ B bc (hb.kept (hk0.then hk1) (fun _ _ z => z))
 have hrep := fun W => replica_any W a.nd
 have hkey := fun W => kcheckA W a.key
 obtain ⟨vr,hvr⟩ : ∃ vr,decide (0 <= a.nd /\ a.nd < 4) = vr := ⟨_,rfl⟩
 simp only [hvr] at hrep
 obtain ⟨vk,hvk⟩ : ∃ vk,keyE a.key = vk := ⟨_,rfl⟩
 simp only [hvk] at hkey
 have hl5 : a.key.size <= 9223372036854775807 := by have := hka.1;unfold maxLen at this;omega
 have hl6 : a.to.size <= 9223372036854775807 := by have := hka.2;unfold maxLen at this;omega
 have HK := hZ0 (hk0.then hk1);have HCHK := hZ0 hchk;have HREP := hZ0 hrep;have HKEY := hZ0 hkey
 have hmay : mayB cl rq bo a = if a.k = 0 then decide (Ops.chk ⟨cl,rq,bo⟩ = 0) else if a.k = 1 \/ a.k = 3 then vr && decide (vk = 0) else if a.k = 2 then vr && (decide (a.key.size <= 8) && (decide (a.to.size <= 8) && (decide (1 <= a.n) && decide (a.n <= 32)))) else if a.k = 5 \/ a.k = 6 then decide (0 <= a.n) && decide (a.n <= 1073741824) else decide (a.k = 4) := by unfold mayB;rw [hvr,hvk]
 obtain ⟨v,hv⟩ : ∃ v,mayB cl rq bo a = v := ⟨_,rfl⟩
 rw [hv] at hmay ⊢
 have HMAY := hZ0 hmay
 unfold cgcell qcell at hW0
 unfold qcell at hW1
 simp only [List.cons_append,List.nil_append] at hW0
 unfold cgcell qcell
 simp only [List.cons_append,List.nil_append]
 clear hk0 hn0 hk1 hn1 hn01 hchk hrep hkey hvr hvk hb hka hmay hv
 by_cases hk : a.k = 0
 ·have b0 : (a.k == 0) = true := by simpa using hk
  have hv : v = decide (Ops.chk ⟨cl,rq,bo⟩ = 0) := by rw [HMAY.out,hk];simp
  have HV := hZ0 hv
  clear hv hk
  obtain ⟨z,hz⟩ : ∃ z,Ops.chk ⟨cl,rq,bo⟩ = z := ⟨_,rfl⟩
  rw [hz] at HCHK HV
  clear hz
  have bz : (z == 0) = decide (z = 0) := by rw [Bool.eq_iff_iff];simp
  obtain ⟨y,hy⟩ : ∃ y,decide (z = 0) = y := ⟨_,rfl⟩
  rw [hy] at bz HV
  clear hy
  go_enter Tryz.func51,Tryz.ntmps51
  go_wp2_with fail
  refine HCHK.out.mono ?_
  rintro e w3 ⟨rfl,hk3⟩
  have HK3 := hZ0 hk3
  clear hk3
  go_wp2
  go_ret
  exact ⟨by rw [HV.out];rfl,HK.out.then HK3.out⟩
 have H0 := hZ0 hk
 clear hk
 by_cases hk : a.k = 1
 ·have b0 : (a.k == 0) = false := by simp [hk]
  have b1 : (a.k == 1) = true := by simpa using hk
  have hv : v = (vr && decide (vk = 0)) := by rw [HMAY.out,hk];simp
  have HV := hZ0 hv
  clear hv hk
  have bz : (vk == 0) = decide (vk = 0) := by rw [Bool.eq_iff_iff];simp
  obtain ⟨y,hy⟩ : ∃ y,decide (vk = 0) = y := ⟨_,rfl⟩
  rw [hy] at bz HV
  clear hy
  cases vr
  ·go_enter Tryz.func51,Tryz.ntmps51
   go_wp2_with fail
   refine (HREP.out _).mono ?_
   rintro e w3 ⟨rfl,rfl⟩
   go_wp2
   go_ret
   exact ⟨by rw [HV.out];rfl,HK.out⟩
  ·go_enter Tryz.func51,Tryz.ntmps51
   go_wp2_with fail
   refine (HREP.out _).mono ?_
   rintro e w3 ⟨rfl,rfl⟩
   go_wp2_with fail
   refine (HKEY.out _).mono ?_
   rintro e w4 ⟨rfl,rfl⟩
   go_wp2
   go_ret
   exact ⟨by rw [HV.out];simp,HK.out⟩
 have H1 := hZ0 hk
 clear hk
 by_cases hk : a.k = 3
 ·have b0 : (a.k == 0) = false := by simp [hk]
  have b1 : (a.k == 1) = false := by simp [hk]
  have b3 : (a.k == 3) = true := by simpa using hk
  have hv : v = (vr && decide (vk = 0)) := by rw [HMAY.out,hk];simp
  have HV := hZ0 hv
  clear hv hk
  have bz : (vk == 0) = decide (vk = 0) := by rw [Bool.eq_iff_iff];simp
  obtain ⟨y,hy⟩ : ∃ y,decide (vk = 0) = y := ⟨_,rfl⟩
  rw [hy] at bz HV
  clear hy
  cases vr
  ·go_enter Tryz.func51,Tryz.ntmps51
   go_wp2_with fail
   refine (HREP.out _).mono ?_
   rintro e w3 ⟨rfl,rfl⟩
   go_wp2
   go_ret
   exact ⟨by rw [HV.out];rfl,HK.out⟩
  ·go_enter Tryz.func51,Tryz.ntmps51
   go_wp2_with fail
   refine (HREP.out _).mono ?_
   rintro e w3 ⟨rfl,rfl⟩
   go_wp2_with fail
   refine (HKEY.out _).mono ?_
   rintro e w4 ⟨rfl,rfl⟩
   go_wp2
   go_ret
   exact ⟨by rw [HV.out];simp,HK.out⟩
 have H3 := hZ0 hk
 clear hk
 by_cases hk : a.k = 2
 ·have b0 : (a.k == 0) = false := by simp [hk]
  have b1 : (a.k == 1) = false := by simp [hk]
  have b3 : (a.k == 3) = false := by simp [hk]
  have b2 : (a.k == 2) = true := by simpa using hk
  have hv : v = (vr && (decide (a.key.size <= 8) && (decide (a.to.size <= 8) && (decide (1 <= a.n) && decide (a.n <= 32))))) := by rw [HMAY.out,hk];simp
  have HV := hZ0 hv
  clear hv hk
  cases vr
  ·go_enter Tryz.func51,Tryz.ntmps51
   go_wp2_with fail
   refine (HREP.out _).mono ?_
   rintro e w3 ⟨rfl,rfl⟩
   go_wp2
   go_ret
   exact ⟨by rw [HV.out];rfl,HK.out⟩
  by_cases g1 : a.key.size <= 8
  rotate_left
  ·have G := hZ0 g1
   have G2 : ¬ ((a.key.size : Nat) : Int) <= 8 := by omega
   go_enter Tryz.func51,Tryz.ntmps51
   go_wp2_with fail
   refine (HREP.out _).mono ?_
   rintro e w3 ⟨rfl,rfl⟩
   go_wp2
   go_ret
   exact ⟨by rw [HV.out];rw [decide_eq_false (show ¬ (a.key.size <= 8) by have := G.out;omega)];simp,HK.out⟩
  have Gg1 := hZ0 g1
  have Ng1 : ((a.key.size : Nat) : Int) <= 8 := by omega
  by_cases g2 : a.to.size <= 8
  rotate_left
  ·have G := hZ0 g2
   have G2 : ¬ ((a.to.size : Nat) : Int) <= 8 := by omega
   go_enter Tryz.func51,Tryz.ntmps51
   go_wp2_with fail
   refine (HREP.out _).mono ?_
   rintro e w3 ⟨rfl,rfl⟩
   go_wp2
   go_ret
   exact ⟨by rw [HV.out];rw [decide_eq_false (show ¬ (a.to.size <= 8) by have := G.out;omega)];simp,HK.out⟩
  have Gg2 := hZ0 g2
  have Ng2 : ((a.to.size : Nat) : Int) <= 8 := by omega
  by_cases g3 : 1 <= a.n
  rotate_left
  ·have G := hZ0 g3
   go_enter Tryz.func51,Tryz.ntmps51
   go_wp2_with fail
   refine (HREP.out _).mono ?_
   rintro e w3 ⟨rfl,rfl⟩
   go_wp2
   go_ret
   exact ⟨by rw [HV.out];rw [decide_eq_false (show ¬ (1 <= a.n) by have := G.out;omega)];simp,HK.out⟩
  have Gg3 := hZ0 g3
  by_cases g4 : a.n <= 32
  rotate_left
  ·have G := hZ0 g4
   go_enter Tryz.func51,Tryz.ntmps51
   go_wp2_with fail
   refine (HREP.out _).mono ?_
   rintro e w3 ⟨rfl,rfl⟩
   go_wp2
   go_ret
   exact ⟨by rw [HV.out];rw [decide_eq_false (show ¬ (a.n <= 32) by have := G.out;omega)];simp,HK.out⟩
  have Gg4 := hZ0 g4
  go_enter Tryz.func51,Tryz.ntmps51
  go_wp2_with fail
  refine (HREP.out _).mono ?_
  rintro e w3 ⟨rfl,rfl⟩
  go_wp2
  go_ret
  exact ⟨by rw [HV.out];rw [decide_eq_true Gg1.out,decide_eq_true Gg2.out,decide_eq_true Gg3.out,decide_eq_true Gg4.out];rfl,HK.out⟩
 have H2 := hZ0 hk
 clear hk
 by_cases hk : a.k = 5
 ·have b0 : (a.k == 0) = false := by simp [hk]
  have b1 : (a.k == 1) = false := by simp [hk]
  have b3 : (a.k == 3) = false := by simp [hk]
  have b2 : (a.k == 2) = false := by simp [hk]
  have b5 : (a.k == 5) = true := by simpa using hk
  have hv : v = (decide (0 <= a.n) && decide (a.n <= 1073741824)) := by rw [HMAY.out,hk];simp
  have HV := hZ0 hv
  clear hv hk
  by_cases g1 : 0 <= a.n
  rotate_left
  ·have G := hZ0 g1
   go_enter Tryz.func51,Tryz.ntmps51
   go_wp2
   go_ret
   exact ⟨by rw [HV.out];rw [decide_eq_false (show ¬ (0 <= a.n) by have := G.out;omega)];rfl,HK.out⟩
  have Gg1 := hZ0 g1
  by_cases g2 : a.n <= 1073741824
  rotate_left
  ·have G := hZ0 g2
   go_enter Tryz.func51,Tryz.ntmps51
   go_wp2
   go_ret
   exact ⟨by rw [HV.out];rw [decide_eq_false (show ¬ (a.n <= 1073741824) by have := G.out;omega)];simp,HK.out⟩
  have Gg2 := hZ0 g2
  go_enter Tryz.func51,Tryz.ntmps51
  go_wp2
  go_ret
  exact ⟨by rw [HV.out];rw [decide_eq_true Gg1.out,decide_eq_true Gg2.out];rfl,HK.out⟩
 have H5 := hZ0 hk
 clear hk
 by_cases hk : a.k = 6
 ·have b0 : (a.k == 0) = false := by simp [hk]
  have b1 : (a.k == 1) = false := by simp [hk]
  have b3 : (a.k == 3) = false := by simp [hk]
  have b2 : (a.k == 2) = false := by simp [hk]
  have b5 : (a.k == 5) = false := by simp [hk]
  have b6 : (a.k == 6) = true := by simpa using hk
  have hv : v = (decide (0 <= a.n) && decide (a.n <= 1073741824)) := by rw [HMAY.out,hk];simp
  have HV := hZ0 hv
  clear hv hk
  by_cases g1 : 0 <= a.n
  rotate_left
  ·have G := hZ0 g1
   go_enter Tryz.func51,Tryz.ntmps51
   go_wp2
   go_ret
   exact ⟨by rw [HV.out];rw [decide_eq_false (show ¬ (0 <= a.n) by have := G.out;omega)];rfl,HK.out⟩
  have Gg1 := hZ0 g1
  by_cases g2 : a.n <= 1073741824
  rotate_left
  ·have G := hZ0 g2
   go_enter Tryz.func51,Tryz.ntmps51
   go_wp2
   go_ret
   exact ⟨by rw [HV.out];rw [decide_eq_false (show ¬ (a.n <= 1073741824) by have := G.out;omega)];simp,HK.out⟩
  have Gg2 := hZ0 g2
  go_enter Tryz.func51,Tryz.ntmps51
  go_wp2
  go_ret
  exact ⟨by rw [HV.out];rw [decide_eq_true Gg1.out,decide_eq_true Gg2.out];rfl,HK.out⟩
 have H6 := hZ0 hk
 clear hk
 by_cases hk : a.k = 4
 ·have b0 : (a.k == 0) = false := by simp [hk]
  have b1 : (a.k == 1) = false := by simp [hk]
  have b3 : (a.k == 3) = false := by simp [hk]
  have b2 : (a.k == 2) = false := by simp [hk]
  have b5 : (a.k == 5) = false := by simp [hk]
  have b6 : (a.k == 6) = false := by simp [hk]
  have b4 : (a.k == 4) = true := by simpa using hk
  have hv : v = true := by rw [HMAY.out,hk];simp
  have HV := hZ0 hv
  clear hv hk
  go_enter Tryz.func51,Tryz.ntmps51
  go_wp2
  go_ret
  exact ⟨by rw [HV.out];rfl,HK.out⟩
 have H4 := hZ0 hk
 clear hk
 have b0 : (a.k == 0) = false := by simpa using H0.out
 have b1 : (a.k == 1) = false := by simpa using H1.out
 have b3 : (a.k == 3) = false := by simpa using H3.out
 have b2 : (a.k == 2) = false := by simpa using H2.out
 have b5 : (a.k == 5) = false := by simpa using H5.out
 have b6 : (a.k == 6) = false := by simpa using H6.out
 have b4 : (a.k == 4) = false := by simpa using H4.out
 have hv : v = false := by
  rw [HMAY.out,if_neg H0.out,if_neg (fun e => e.elim H1.out H3.out),if_neg H2.out,if_neg (fun e => e.elim H5.out H6.out),decide_eq_false H4.out]
 have HV := hZ0 hv
 clear hv
 go_enter Tryz.func51,Tryz.ntmps51
 go_wp2
 go_ret
 exact ⟨by rw [HV.out];rfl,HK.out⟩
def NewPostT (w : World) (cl rq : Int) (a : AskR) (e : Ending) (w' : World) : Prop :=
 (newE cl rq a ≠ 0 -> e = .returned (.tuple #[.pointer none,.int .i64 (newE cl rq a)]) /\ Kept NoF w w') /\
 (newE cl rq a = 0 -> ∃ X,e = .returned (.tuple #[.pointer (some ⟨X.b,0,none⟩),.int .i64 0]) /\ PAt w' X (newT cl rq a) /\ (∀ k,foot X (newT cl rq a) k -> w.heap.size <= k) /\ Kept NoF w w')
theorem NewPostT.bad {cl rq : Int} {a : AskR} {z : Int} (hz : newE cl rq a = z) (h0 : z ≠ 0) (hk : Kept NoF w w') : NewPostT w cl rq a (.returned (.tuple #[.pointer none,.int .i64 z])) w' :=
 ⟨fun _ => ⟨by rw [hz],hk⟩,fun e => absurd (hz.symm.trans e) h0⟩
theorem newT_at {W : World} {cl rq : Int} {a : AskR} {tb : Nat} {A : Option Addr} {c : Nat} (hph : phOf a ≠ 1) (hb : Has W tb 109 #[phV ⟨tb,tb,A,c,none,0,none,0⟩ (newT cl rq a),.int .i64 rq,.int .i64 0,.bool false,.int .i64 0,.int .i64 0,.int .u64 0,.int .i64 0,.slice none 0 0])
  (ho : W.ownsRow 0 143 3 (.slice A (boOf a).length c) (boOf a).length (cells (boOf a))) : PAt W ⟨tb,tb,A,c,none,0,none,0⟩ (newT cl rq a) :=
 ⟨hb,fun e => absurd e hph,fun _ => ⟨rfl,rfl,rfl,rfl⟩,ho,⟨rfl,.inl ⟨rfl,rfl⟩⟩,⟨rfl,.inl ⟨rfl,rfl⟩⟩,fun _ => ⟨rfl,rfl,rfl⟩⟩
theorem newT_at1 {W : World} {cl rq : Int} {a : AskR} {tb gb : Nat} {A : Option Addr} {c : Nat} (hph : phOf a = 1) (hb : Has W tb 109 #[.iface 112 (.pointer (some ⟨gb,0,none⟩)),.int .i64 rq,.int .i64 0,.bool false,.int .i64 0,.int .i64 0,.int .u64 0,.int .i64 0,.slice none 0 0])
  (hg : Has W gb 114 (gcell ⟨tb,gb,A,c,none,0,none,0⟩ (newT cl rq a))) (ho : W.ownsRow 0 143 3 (.slice A (boOf a).length c) (boOf a).length (cells (boOf a))) : PAt W ⟨tb,gb,A,c,none,0,none,0⟩ (newT cl rq a) :=
 ⟨by unfold tcell;rw [phV1 hph];exact hb,fun _ => hg,fun e => absurd hph e,ho,⟨rfl,.inl ⟨rfl,rfl⟩⟩,⟨rfl,.inl ⟨rfl,rfl⟩⟩,fun _ => ⟨rfl,rfl,rfl⟩⟩
theorem pnew_any (w : World) (cl rq : Int) (a : AskR) (ha : QGood w a) (hl : a.ops.length <= 1000) : Calls Tryz.prog 25 #[.int .i64 cl,.int .i64 rq,qagg a] w (NewPostT w cl rq a) := by
 obtain ⟨W0,hW0⟩ : ∃ W0,w.alloc (.cells (qcell a).toArray 25) = W0 := ⟨_,rfl⟩
 have hk0 : Kept NoF w W0 := by rw [<- hW0];(repeat' (first | (with_reducible first | exact kR0 | apply kP0 | apply kN0 | apply kD0 | apply kA0) | (right;simp;done)))
 have hn0 : Has W0 w.heap.size 25 (qcell a).toArray := by rw [<- hW0];exact Has.new _ _ _
 have u0 : W0.cell? ⟨w.heap.size,0,none⟩ = some (.int .i64 a.k) := hn0.cell 0
 have u1 : W0.cell? ⟨w.heap.size,1,none⟩ = some (.int .i64 a.nd) := hn0.cell 1
 have u2 : W0.cell? ⟨w.heap.size,2,none⟩ = some (.string a.key) := hn0.cell 2
 have u3 : W0.cell? ⟨w.heap.size,3,none⟩ = some (.string a.to) := hn0.cell 3
 have u4 : W0.cell? ⟨w.heap.size,4,none⟩ = some (.int .u64 a.at') := hn0.cell 4
 have u5 : W0.cell? ⟨w.heap.size,5,none⟩ = some (.int .i64 a.n) := hn0.cell 5
 have u6 : W0.cell? ⟨w.heap.size,6,none⟩ = some (.slice a.A a.ops.length a.c) := hn0.cell 6
 obtain ⟨hs,hac,hac2,hos,hik,hind,hin,hat,hkl,htl⟩ := ha
 have HK0 := hZ0 hk0;have HN0 := hZ0 hn0;have HSRC := hZ0 hs;have HOS := hZ0 hos;have HKL := hZ0 (And.intro hkl htl);have HL := hZ0 hl
 have hne : newE cl rq a = if cl < 0 \/ 3 <= cl then 1 else if rq < 1 \/ 1073741824 < rq then 5 else if mayB cl rq (boOf a) a = true then 0 else 1 := rfl
 have HNE := hZ0 hne
 obtain ⟨k,hk⟩ : ∃ k,a.k = k := ⟨_,rfl⟩
 unfold qcell at hW0
 unfold qagg qcell
 clear hk0 hn0 hs hac hac2 hos hik hind hin hat hkl htl hl hne
 by_cases g1 : cl < 0
 ·clear hk
  have hz : newE cl rq a = 1 := by rw [HNE.out];rw [if_pos (.inl g1)]
  have HZ := hZ0 hz
  clear hz
  go_enter Tryz.func25,Tryz.ntmps25
  go_wp2
  go_ret2
  exact NewPostT.bad HZ.out (by decide) (by (repeat' (first | (with_reducible first | exact kR0 | apply kP0 | apply kN0 | apply kD0 | apply kA0) | (exact HK0.out) | (right;simp;done))))
 by_cases g2 : 3 <= cl
 ·clear hk
  have hz : newE cl rq a = 1 := by rw [HNE.out];rw [if_pos (.inr g2)]
  have HZ := hZ0 hz
  clear hz
  go_enter Tryz.func25,Tryz.ntmps25
  go_wp2
  go_ret2
  exact NewPostT.bad HZ.out (by decide) (by (repeat' (first | (with_reducible first | exact kR0 | apply kP0 | apply kN0 | apply kD0 | apply kA0) | (exact HK0.out) | (right;simp;done))))
 by_cases g3 : rq < 1
 ·clear hk
  have hz : newE cl rq a = 5 := by rw [HNE.out];rw [if_neg (by omega),if_pos (.inl g3)]
  have HZ := hZ0 hz
  clear hz
  go_enter Tryz.func25,Tryz.ntmps25
  go_wp2
  go_ret2
  exact NewPostT.bad HZ.out (by decide) (by (repeat' (first | (with_reducible first | exact kR0 | apply kP0 | apply kN0 | apply kD0 | apply kA0) | (exact HK0.out) | (right;simp;done))))
 by_cases g4 : 1073741824 < rq
 ·clear hk
  have hz : newE cl rq a = 5 := by rw [HNE.out];rw [if_neg (by omega),if_pos (.inr g4)]
  have HZ := hZ0 hz
  clear hz
  go_enter Tryz.func25,Tryz.ntmps25
  go_wp2
  go_ret2
  exact NewPostT.bad HZ.out (by decide) (by (repeat' (first | (with_reducible first | exact kR0 | apply kP0 | apply kN0 | apply kD0 | apply kA0) | (exact HK0.out) | (right;simp;done))))
 have hne2 : newE cl rq a = if mayB cl rq (boOf a) a = true then 0 else 1 := by rw [HNE.out,if_neg (by omega),if_neg (by omega)]
 have HNE2 := hZ0 hne2
 have HG := hZ0 (And.intro g1 (And.intro g2 (And.intro g3 g4)))
 obtain ⟨W1,hW1⟩ : ∃ W1,W0.alloc (.cells #[.int .i64 cl,.int .i64 rq,.slice none 0 0,.int .i64 a.k,.int .i64 a.nd,.string a.key,.string a.to,.int .u64 a.at',.int .i64 a.n,.slice a.A a.ops.length a.c] 103) = W1 := ⟨_,rfl⟩
 have hk1 : Kept NoF W0 W1 := by rw [<- hW1];(repeat' (first | (with_reducible first | exact kR0 | apply kP0 | apply kN0 | apply kD0 | apply kA0) | (right;simp;done)))
 have hn1 : Has W1 W0.heap.size 103 #[.int .i64 cl,.int .i64 rq,.slice none 0 0,.int .i64 a.k,.int .i64 a.nd,.string a.key,.string a.to,.int .u64 a.at',.int .i64 a.n,.slice a.A a.ops.length a.c] := by rw [<- hW1];exact Has.new _ _ _
 have hb1 := HN0.out.kept hk1 (fun z => z)
 have HK1 := hZ0 hk1;have HN1 := hZ0 hn1;have HB1 := hZ0 hb1
 have w0 : W1.cell? ⟨w.heap.size,0,none⟩ = some (.int .i64 a.k) := hb1.cell 0
 have w6 : W1.cell? ⟨w.heap.size,6,none⟩ = some (.slice a.A a.ops.length a.c) := hb1.cell 6
 have hcb : ∀ W,Kept NoF W1 W -> W.cell? ⟨W0.heap.size,2,none⟩ = some (.slice none 0 0) /\ W.frozen? ⟨W0.heap.size,2,none⟩ = false := fun W hW => ⟨(hn1.kept hW (fun z => z)).cell 2,(hn1.kept hW (fun z => z)).frozen 2⟩
 have HCB := hZ0 hcb
 clear hne2 hk1 hn1 hb1 hcb
 clear g1 g2 g3 g4
 have g1 := HG.out.1;have g2 := HG.out.2.1;have g3 := HG.out.2.2.1;have g4 := HG.out.2.2.2
 clear hk k
 by_cases h0 : a.k = 0
 rotate_left
 ·obtain ⟨n,hn⟩ : ∃ n,(boOf a).length = n := ⟨_,rfl⟩
  have hbo : boOf a = [] := by unfold boOf;rw [if_neg h0]
  have hn0 : n = 0 := by rw [<- hn,hbo];rfl
  subst hn0
  obtain ⟨B,hB⟩ : ∃ B : Option Addr,B = none := ⟨_,rfl⟩
  obtain ⟨bc,hbc⟩ : ∃ bc : Nat,bc = 0 := ⟨_,rfl⟩
  have HBB := hZ0 (And.intro hB hbc)
  have HNM := hZ0 hn
  have HOM := hZ0 (show W1.ownsRow 0 143 3 (.slice none (boOf a).length 0) (boOf a).length (cells (boOf a)) from by rw [hbo];exact ⟨rfl,.inl ⟨rfl,rfl⟩⟩)
  have HRN := hZ0 (show ∀ k,(Value.slice none 0 0).ownBlock = some k -> w.heap.size <= k from fun k hk => by cases hk)
  have HCM := HN1;have HBM := HB1
  have HKM := hZ0 (HK0.out.then HK1.out)
  clear hn hbo hB hbc B bc HBB
  have b0 : (a.k == 0) = false := by simpa using h0
  have u01 := u0
  clear u01
  by_cases hk : a.k = 3
  ·have b3 : (a.k == 3) = true := by simpa using hk
   have hmay := may_any W1 cl rq none 0 (boOf a) a (Src.of_own HOM.out) HKL.out
   unfold cgcell qcell at hmay
   simp only [List.cons_append,List.nil_append,HNM.out] at hmay
   have e0 := HCM.out.cell 0;have e1 := HCM.out.cell 1;have e2 := HCM.out.cell 2;have e3 := HCM.out.cell 3;have e4 := HCM.out.cell 4;have e5 := HCM.out.cell 5;have e6 := HCM.out.cell 6;have e7 := HCM.out.cell 7;have e8 := HCM.out.cell 8;have e9 := HCM.out.cell 9
   simp at e0 e1 e2 e3 e4 e5 e6 e7 e8 e9
   obtain ⟨mv,hmv⟩ : ∃ mv,mayB cl rq (boOf a) a = mv := ⟨_,rfl⟩
   rw [hmv] at hmay
   have hz : newE cl rq a = if mv = true then 0 else 1 := by rw [HNE2.out,hmv]
   have HMV := hZ0 hmay;have HZ := hZ0 hz
   clear hmay hmv hz
   have hph : phOf a = 0 := by unfold phOf;rw [if_pos (.inr hk)]
   have HPH := hZ0 hph
   clear hph hk
   cases mv
   ·clear h0
    go_enter Tryz.func25,Tryz.ntmps25
    go_wp2_with fail
    clear hW0 hW1 u0 u1 u2 u3 u4 u5 u6 w0 w6
    refine HMV.out.mono ?_
    rintro e w3 ⟨rfl,hk3⟩
    have HK3 := hZ0 hk3
    clear hk3
    go_wp2
    go_ret2
    exact NewPostT.bad HZ.out (by decide) (HKM.out.then HK3.out)
   ·clear h0
    go_enter Tryz.func25,Tryz.ntmps25
    go_wp2_with fail
    clear hW0 hW1 u0 u1 u2 u3 u4 u5 u6 w0 w6
    refine HMV.out.mono ?_
    rintro e w3 ⟨rfl,hk3⟩
    have HK3 := hZ0 hk3
    have hcm3 := HCM.out.kept hk3 (fun z => z)
    have hbm3 := HBM.out.kept hk3 (fun z => z)
    obtain ⟨W4,hW4⟩ : ∃ W4,w3.alloc (.cells #[.nilIface,.int .i64 rq,.int .i64 0,.bool false,.int .i64 0,.int .i64 0,.int .u64 0,.int .i64 0,.slice none 0 0] 109) = W4 := ⟨_,rfl⟩
    have hk4 : Kept NoF w3 W4 := by rw [<- hW4];(repeat' (first | (with_reducible first | exact kR0 | apply kP0 | apply kN0 | apply kD0 | apply kA0) | (right;simp;done)))
    have ht4 : Has W4 w3.heap.size 109 #[.nilIface,.int .i64 rq,.int .i64 0,.bool false,.int .i64 0,.int .i64 0,.int .u64 0,.int .i64 0,.slice none 0 0] := by rw [<- hW4];exact Has.new _ _ _
    have hc4 := hcm3.kept hk4 (fun z => z)
    have hb4 := hbm3.kept hk4 (fun z => z)
    have z0 := hc4.cell 0;have z1 := hc4.cell 1;have z2 := hc4.cell 2;have z3 := hc4.cell 3;have z4 := hc4.cell 4;have z5 := hc4.cell 5;have z6 := hc4.cell 6;have z7 := hc4.cell 7;have z8 := hc4.cell 8;have z9 := hc4.cell 9
    simp at z0 z1 z2 z3 z4 z5 z6 z7 z8 z9
    have x0 : W4.cell? ⟨w.heap.size,0,none⟩ = some (.int .i64 a.k) := hb4.cell 0
    have x2 : W4.cell? ⟨w.heap.size,2,none⟩ = some (.string a.key) := hb4.cell 2
    have x4 : W4.cell? ⟨w.heap.size,4,none⟩ = some (.int .u64 a.at') := hb4.cell 4
    have t0 : W4.cell? ⟨w3.heap.size,0,none⟩ = some .nilIface := ht4.cell 0
    have tf0 := ht4.frozen 0
    have HT4 := hZ0 ht4;have HK4 := hZ0 hk4
    have HWT := hZ0 (show w.heap.size <= w3.heap.size from Nat.le_trans HKM.out.size hk3.size)
    have hne1 : w3.heap.size ≠ w.heap.size := by have := HBM.out.lt;have := hk3.size;omega
    have hne2 : w3.heap.size ≠ W0.heap.size := by have := HCM.out.lt;have := hk3.size;omega
    clear hcm3 hbm3 hk3 hc4 hb4 hk4 ht4 e0 e1 e2 e3 e4 e5 e6 e7 e8 e9
    go_wp2
    clear hW4 z0 z1 z2 z3 z4 z5 z6 z7 z8 z9 x0 x2 x4 t0 tf0
    go_ret2
    have hkf : Kept (fun k => k = w3.heap.size) W4 (W4.setCell ⟨w3.heap.size,0,none⟩ (.iface 111 (.agg #[.int .i64 cl,.int .i64 rq,.slice none 0 0,.int .i64 a.k,.int .i64 a.nd,.string a.key,.string a.to,.int .u64 a.at',.int .i64 a.n,.slice a.A a.ops.length a.c]))) := by (repeat' (first | (with_reducible first | exact kR0 | apply kP0 | apply kN0 | apply kD0 | apply kA0) | (exact .inl rfl) | (right;simp;done)))
    refine ⟨fun e => absurd HZ.out e,fun _ => ⟨⟨w3.heap.size,w3.heap.size,none,0,none,0,none,0⟩,rfl,newT_at (by rw [HPH.out];decide) ?_ (own_kept HOM.out (((HK3.out.then HK4.out).mono (fun _ z => z.elim)).then hkf) (fun k hk e => ?_)),(fun k hk => by
     rcases hk with e | e | e | e | e
     ·rw [e];exact HWT.out
     ·rw [e];exact HWT.out
     ·cases e
     ·exact HRN.out k (by have e2 : (Value.slice none (boOf a).length 0).ownBlock = some k := e;rwa [HNM.out] at e2)
     ·cases e),?_⟩⟩
    ·have e9 : phV ⟨w3.heap.size,w3.heap.size,none,0,none,0,none,0⟩ (newT cl rq a) = .iface 111 (.agg #[.int .i64 cl,.int .i64 rq,.slice none 0 0,.int .i64 a.k,.int .i64 a.nd,.string a.key,.string a.to,.int .u64 a.at',.int .i64 a.n,.slice a.A a.ops.length a.c]) := by
      rw [phV0 (t := newT cl rq a) HPH.out]
      unfold ccell qcell newT
      dsimp only
      rw [HNM.out]
      rfl
     rw [e9]
     exact HT4.out.put_of rfl
    ·have := own_lt HOM.out hk;have := HK3.out.size;omega
    ·exact ((HKM.out.then HK3.out).then HK4.out).trans hkf (fun i hi => .inr (by rw [hi];exact HWT.out))
  have b3 : (a.k == 3) = false := by simpa using hk
  have H3 := hZ0 hk
  clear hk
  by_cases hk : a.k = 1
  ·have b1 : (a.k == 1) = true := by simpa using hk
   have hmay := may_any W1 cl rq none 0 (boOf a) a (Src.of_own HOM.out) HKL.out
   unfold cgcell qcell at hmay
   simp only [List.cons_append,List.nil_append,HNM.out] at hmay
   have e0 := HCM.out.cell 0;have e1 := HCM.out.cell 1;have e2 := HCM.out.cell 2;have e3 := HCM.out.cell 3;have e4 := HCM.out.cell 4;have e5 := HCM.out.cell 5;have e6 := HCM.out.cell 6;have e7 := HCM.out.cell 7;have e8 := HCM.out.cell 8;have e9 := HCM.out.cell 9
   simp at e0 e1 e2 e3 e4 e5 e6 e7 e8 e9
   obtain ⟨mv,hmv⟩ : ∃ mv,mayB cl rq (boOf a) a = mv := ⟨_,rfl⟩
   rw [hmv] at hmay
   have hz : newE cl rq a = if mv = true then 0 else 1 := by rw [HNE2.out,hmv]
   have HMV := hZ0 hmay;have HZ := hZ0 hz
   clear hmay hmv hz
   have hph : phOf a = 1 := by unfold phOf;rw [if_neg (by omega),if_pos (.inl hk)]
   have HPH := hZ0 hph
   clear hph hk
   cases mv
   ·clear h0
    go_enter Tryz.func25,Tryz.ntmps25
    go_wp2_with fail
    clear hW0 hW1 u0 u1 u2 u3 u4 u5 u6 w0 w6
    refine HMV.out.mono ?_
    rintro e w3 ⟨rfl,hk3⟩
    have HK3 := hZ0 hk3
    clear hk3
    go_wp2
    go_ret2
    exact NewPostT.bad HZ.out (by decide) (HKM.out.then HK3.out)
   ·clear h0
    go_enter Tryz.func25,Tryz.ntmps25
    go_wp2_with fail
    clear hW0 hW1 u0 u1 u2 u3 u4 u5 u6 w0 w6
    refine HMV.out.mono ?_
    rintro e w3 ⟨rfl,hk3⟩
    have HK3 := hZ0 hk3
    have hcm3 := HCM.out.kept hk3 (fun z => z)
    have hbm3 := HBM.out.kept hk3 (fun z => z)
    obtain ⟨W4,hW4⟩ : ∃ W4,w3.alloc (.cells #[.nilIface,.int .i64 rq,.int .i64 0,.bool false,.int .i64 0,.int .i64 0,.int .u64 0,.int .i64 0,.slice none 0 0] 109) = W4 := ⟨_,rfl⟩
    have hk4 : Kept NoF w3 W4 := by rw [<- hW4];(repeat' (first | (with_reducible first | exact kR0 | apply kP0 | apply kN0 | apply kD0 | apply kA0) | (right;simp;done)))
    have ht4 : Has W4 w3.heap.size 109 #[.nilIface,.int .i64 rq,.int .i64 0,.bool false,.int .i64 0,.int .i64 0,.int .u64 0,.int .i64 0,.slice none 0 0] := by rw [<- hW4];exact Has.new _ _ _
    have hc4 := hcm3.kept hk4 (fun z => z)
    have hb4 := hbm3.kept hk4 (fun z => z)
    have z0 := hc4.cell 0;have z1 := hc4.cell 1;have z2 := hc4.cell 2;have z3 := hc4.cell 3;have z4 := hc4.cell 4;have z5 := hc4.cell 5;have z6 := hc4.cell 6;have z7 := hc4.cell 7;have z8 := hc4.cell 8;have z9 := hc4.cell 9
    simp at z0 z1 z2 z3 z4 z5 z6 z7 z8 z9
    have x0 : W4.cell? ⟨w.heap.size,0,none⟩ = some (.int .i64 a.k) := hb4.cell 0
    have x2 : W4.cell? ⟨w.heap.size,2,none⟩ = some (.string a.key) := hb4.cell 2
    have x4 : W4.cell? ⟨w.heap.size,4,none⟩ = some (.int .u64 a.at') := hb4.cell 4
    have t0 : W4.cell? ⟨w3.heap.size,0,none⟩ = some .nilIface := ht4.cell 0
    have tf0 := ht4.frozen 0
    have HT4 := hZ0 ht4;have HK4 := hZ0 hk4
    have HWT := hZ0 (show w.heap.size <= w3.heap.size from Nat.le_trans HKM.out.size hk3.size)
    have hne1 : w3.heap.size ≠ w.heap.size := by have := HBM.out.lt;have := hk3.size;omega
    have hne2 : w3.heap.size ≠ W0.heap.size := by have := HCM.out.lt;have := hk3.size;omega
    clear hcm3 hbm3 hk3 hc4 hb4 hk4 ht4 e0 e1 e2 e3 e4 e5 e6 e7 e8 e9
    obtain ⟨W5,hW5⟩ : ∃ W5,W4.alloc (.cells #[.int .i64 cl,.int .i64 rq,.slice none 0 0,.int .i64 a.k,.int .i64 a.nd,.string a.key,.string a.to,.int .u64 a.at',.int .i64 a.n,.slice a.A a.ops.length a.c,.int .u64 a.at',.string a.key,.slice none 0 0] 114) = W5 := ⟨_,rfl⟩
    have hk5 : Kept NoF W4 W5 := by rw [<- hW5];(repeat' (first | (with_reducible first | exact kR0 | apply kP0 | apply kN0 | apply kD0 | apply kA0) | (right;simp;done)))
    have hg5 : Has W5 W4.heap.size 114 #[.int .i64 cl,.int .i64 rq,.slice none 0 0,.int .i64 a.k,.int .i64 a.nd,.string a.key,.string a.to,.int .u64 a.at',.int .i64 a.n,.slice a.A a.ops.length a.c,.int .u64 a.at',.string a.key,.slice none 0 0] := by rw [<- hW5];exact Has.new _ _ _
    have ht5 := HT4.out.kept hk5 (fun z => z)
    have s0 := ht5.cell 0;have sf0 := ht5.frozen 0
    simp at s0
    have HG5 := hZ0 hg5;have HK5 := hZ0 hk5
    clear hg5 hk5 ht5
    go_wp2
    clear hW5 s0 sf0
    clear hW4 z0 z1 z2 z3 z4 z5 z6 z7 z8 z9 x0 x2 x4 t0 tf0
    go_ret2
    have hg5 : Has W5 W4.heap.size 114 (gcell ⟨w3.heap.size,W4.heap.size,none,0,none,0,none,0⟩ (newT cl rq a)) := by
     have e9 : gcell ⟨w3.heap.size,W4.heap.size,none,0,none,0,none,0⟩ (newT cl rq a) = #[.int .i64 cl,.int .i64 rq,.slice none 0 0,.int .i64 a.k,.int .i64 a.nd,.string a.key,.string a.to,.int .u64 a.at',.int .i64 a.n,.slice a.A a.ops.length a.c,.int .u64 a.at',.string a.key,.slice none 0 0] := by
      unfold gcell ccell qcell newT
      dsimp only
      rw [HNM.out]
      rfl
     rw [e9];exact HG5.out
    have hkf : Kept (fun k => k = w3.heap.size) W5 (W5.setCell ⟨w3.heap.size,0,none⟩ (.iface 112 (.pointer (some ⟨W4.heap.size,0,none⟩)))) := by (repeat' (first | (with_reducible first | exact kR0 | apply kP0 | apply kN0 | apply kD0 | apply kA0) | (exact .inl rfl) | (right;simp;done)))
    have hne3 : W4.heap.size ≠ w3.heap.size := by have := HT4.out.lt;omega
    refine ⟨fun e => absurd HZ.out e,fun _ => ⟨⟨w3.heap.size,W4.heap.size,none,0,none,0,none,0⟩,rfl,newT_at1 HPH.out ?_ (hg5.kept hkf hne3) (own_kept HOM.out ((((HK3.out.then HK4.out).then HK5.out).mono (fun _ z => z.elim)).then hkf) (fun k hk e => ?_)),(fun k hk => by
     rcases hk with e | e | e | e | e
     ·rw [e];exact HWT.out
     ·rw [e];exact Nat.le_trans HWT.out HK4.out.size
     ·cases e
     ·exact HRN.out k (by have e2 : (Value.slice none (boOf a).length 0).ownBlock = some k := e;rwa [HNM.out] at e2)
     ·cases e),?_⟩⟩
    ·exact (HT4.out.kept HK5.out (fun z => z)).put_of rfl
    ·have := own_lt HOM.out hk;have := HK3.out.size;omega
    ·exact (((HKM.out.then HK3.out).then HK4.out).then HK5.out).trans hkf (fun i hi => .inr (by rw [hi];exact HWT.out))
  have b1 : (a.k == 1) = false := by simpa using hk
  have H1 := hZ0 hk
  clear hk
  by_cases hk : a.k = 2
  ·have b2 : (a.k == 2) = true := by simpa using hk
   have hmay := may_any W1 cl rq none 0 (boOf a) a (Src.of_own HOM.out) HKL.out
   unfold cgcell qcell at hmay
   simp only [List.cons_append,List.nil_append,HNM.out] at hmay
   have e0 := HCM.out.cell 0;have e1 := HCM.out.cell 1;have e2 := HCM.out.cell 2;have e3 := HCM.out.cell 3;have e4 := HCM.out.cell 4;have e5 := HCM.out.cell 5;have e6 := HCM.out.cell 6;have e7 := HCM.out.cell 7;have e8 := HCM.out.cell 8;have e9 := HCM.out.cell 9
   simp at e0 e1 e2 e3 e4 e5 e6 e7 e8 e9
   obtain ⟨mv,hmv⟩ : ∃ mv,mayB cl rq (boOf a) a = mv := ⟨_,rfl⟩
   rw [hmv] at hmay
   have hz : newE cl rq a = if mv = true then 0 else 1 := by rw [HNE2.out,hmv]
   have HMV := hZ0 hmay;have HZ := hZ0 hz
   clear hmay hmv hz
   have hph : phOf a = 1 := by unfold phOf;rw [if_neg (by omega),if_pos (.inr hk)]
   have HPH := hZ0 hph
   clear hph hk
   cases mv
   ·clear h0
    go_enter Tryz.func25,Tryz.ntmps25
    go_wp2_with fail
    clear hW0 hW1 u0 u1 u2 u3 u4 u5 u6 w0 w6
    refine HMV.out.mono ?_
    rintro e w3 ⟨rfl,hk3⟩
    have HK3 := hZ0 hk3
    clear hk3
    go_wp2
    go_ret2
    exact NewPostT.bad HZ.out (by decide) (HKM.out.then HK3.out)
   ·clear h0
    go_enter Tryz.func25,Tryz.ntmps25
    go_wp2_with fail
    clear hW0 hW1 u0 u1 u2 u3 u4 u5 u6 w0 w6
    refine HMV.out.mono ?_
    rintro e w3 ⟨rfl,hk3⟩
    have HK3 := hZ0 hk3
    have hcm3 := HCM.out.kept hk3 (fun z => z)
    have hbm3 := HBM.out.kept hk3 (fun z => z)
    obtain ⟨W4,hW4⟩ : ∃ W4,w3.alloc (.cells #[.nilIface,.int .i64 rq,.int .i64 0,.bool false,.int .i64 0,.int .i64 0,.int .u64 0,.int .i64 0,.slice none 0 0] 109) = W4 := ⟨_,rfl⟩
    have hk4 : Kept NoF w3 W4 := by rw [<- hW4];(repeat' (first | (with_reducible first | exact kR0 | apply kP0 | apply kN0 | apply kD0 | apply kA0) | (right;simp;done)))
    have ht4 : Has W4 w3.heap.size 109 #[.nilIface,.int .i64 rq,.int .i64 0,.bool false,.int .i64 0,.int .i64 0,.int .u64 0,.int .i64 0,.slice none 0 0] := by rw [<- hW4];exact Has.new _ _ _
    have hc4 := hcm3.kept hk4 (fun z => z)
    have hb4 := hbm3.kept hk4 (fun z => z)
    have z0 := hc4.cell 0;have z1 := hc4.cell 1;have z2 := hc4.cell 2;have z3 := hc4.cell 3;have z4 := hc4.cell 4;have z5 := hc4.cell 5;have z6 := hc4.cell 6;have z7 := hc4.cell 7;have z8 := hc4.cell 8;have z9 := hc4.cell 9
    simp at z0 z1 z2 z3 z4 z5 z6 z7 z8 z9
    have x0 : W4.cell? ⟨w.heap.size,0,none⟩ = some (.int .i64 a.k) := hb4.cell 0
    have x2 : W4.cell? ⟨w.heap.size,2,none⟩ = some (.string a.key) := hb4.cell 2
    have x4 : W4.cell? ⟨w.heap.size,4,none⟩ = some (.int .u64 a.at') := hb4.cell 4
    have t0 : W4.cell? ⟨w3.heap.size,0,none⟩ = some .nilIface := ht4.cell 0
    have tf0 := ht4.frozen 0
    have HT4 := hZ0 ht4;have HK4 := hZ0 hk4
    have HWT := hZ0 (show w.heap.size <= w3.heap.size from Nat.le_trans HKM.out.size hk3.size)
    have hne1 : w3.heap.size ≠ w.heap.size := by have := HBM.out.lt;have := hk3.size;omega
    have hne2 : w3.heap.size ≠ W0.heap.size := by have := HCM.out.lt;have := hk3.size;omega
    clear hcm3 hbm3 hk3 hc4 hb4 hk4 ht4 e0 e1 e2 e3 e4 e5 e6 e7 e8 e9
    obtain ⟨W5,hW5⟩ : ∃ W5,W4.alloc (.cells #[.int .i64 cl,.int .i64 rq,.slice none 0 0,.int .i64 a.k,.int .i64 a.nd,.string a.key,.string a.to,.int .u64 a.at',.int .i64 a.n,.slice a.A a.ops.length a.c,.int .u64 a.at',.string a.key,.slice none 0 0] 114) = W5 := ⟨_,rfl⟩
    have hk5 : Kept NoF W4 W5 := by rw [<- hW5];(repeat' (first | (with_reducible first | exact kR0 | apply kP0 | apply kN0 | apply kD0 | apply kA0) | (right;simp;done)))
    have hg5 : Has W5 W4.heap.size 114 #[.int .i64 cl,.int .i64 rq,.slice none 0 0,.int .i64 a.k,.int .i64 a.nd,.string a.key,.string a.to,.int .u64 a.at',.int .i64 a.n,.slice a.A a.ops.length a.c,.int .u64 a.at',.string a.key,.slice none 0 0] := by rw [<- hW5];exact Has.new _ _ _
    have ht5 := HT4.out.kept hk5 (fun z => z)
    have s0 := ht5.cell 0;have sf0 := ht5.frozen 0
    simp at s0
    have HG5 := hZ0 hg5;have HK5 := hZ0 hk5
    clear hg5 hk5 ht5
    go_wp2
    clear hW5 s0 sf0
    clear hW4 z0 z1 z2 z3 z4 z5 z6 z7 z8 z9 x0 x2 x4 t0 tf0
    go_ret2
    have hg5 : Has W5 W4.heap.size 114 (gcell ⟨w3.heap.size,W4.heap.size,none,0,none,0,none,0⟩ (newT cl rq a)) := by
     have e9 : gcell ⟨w3.heap.size,W4.heap.size,none,0,none,0,none,0⟩ (newT cl rq a) = #[.int .i64 cl,.int .i64 rq,.slice none 0 0,.int .i64 a.k,.int .i64 a.nd,.string a.key,.string a.to,.int .u64 a.at',.int .i64 a.n,.slice a.A a.ops.length a.c,.int .u64 a.at',.string a.key,.slice none 0 0] := by
      unfold gcell ccell qcell newT
      dsimp only
      rw [HNM.out]
      rfl
     rw [e9];exact HG5.out
    have hkf : Kept (fun k => k = w3.heap.size) W5 (W5.setCell ⟨w3.heap.size,0,none⟩ (.iface 112 (.pointer (some ⟨W4.heap.size,0,none⟩)))) := by (repeat' (first | (with_reducible first | exact kR0 | apply kP0 | apply kN0 | apply kD0 | apply kA0) | (exact .inl rfl) | (right;simp;done)))
    have hne3 : W4.heap.size ≠ w3.heap.size := by have := HT4.out.lt;omega
    refine ⟨fun e => absurd HZ.out e,fun _ => ⟨⟨w3.heap.size,W4.heap.size,none,0,none,0,none,0⟩,rfl,newT_at1 HPH.out ?_ (hg5.kept hkf hne3) (own_kept HOM.out ((((HK3.out.then HK4.out).then HK5.out).mono (fun _ z => z.elim)).then hkf) (fun k hk e => ?_)),(fun k hk => by
     rcases hk with e | e | e | e | e
     ·rw [e];exact HWT.out
     ·rw [e];exact Nat.le_trans HWT.out HK4.out.size
     ·cases e
     ·exact HRN.out k (by have e2 : (Value.slice none (boOf a).length 0).ownBlock = some k := e;rwa [HNM.out] at e2)
     ·cases e),?_⟩⟩
    ·exact (HT4.out.kept HK5.out (fun z => z)).put_of rfl
    ·have := own_lt HOM.out hk;have := HK3.out.size;omega
    ·exact (((HKM.out.then HK3.out).then HK4.out).then HK5.out).trans hkf (fun i hi => .inr (by rw [hi];exact HWT.out))
  have b2 : (a.k == 2) = false := by simpa using hk
  have h3x := H3.out;have h1x := H1.out
  have hmay := may_any W1 cl rq none 0 (boOf a) a (Src.of_own HOM.out) HKL.out
  unfold cgcell qcell at hmay
  simp only [List.cons_append,List.nil_append,HNM.out] at hmay
  have e0 := HCM.out.cell 0;have e1 := HCM.out.cell 1;have e2 := HCM.out.cell 2;have e3 := HCM.out.cell 3;have e4 := HCM.out.cell 4;have e5 := HCM.out.cell 5;have e6 := HCM.out.cell 6;have e7 := HCM.out.cell 7;have e8 := HCM.out.cell 8;have e9 := HCM.out.cell 9
  simp at e0 e1 e2 e3 e4 e5 e6 e7 e8 e9
  obtain ⟨mv,hmv⟩ : ∃ mv,mayB cl rq (boOf a) a = mv := ⟨_,rfl⟩
  rw [hmv] at hmay
  have hz : newE cl rq a = if mv = true then 0 else 1 := by rw [HNE2.out,hmv]
  have HMV := hZ0 hmay;have HZ := hZ0 hz
  clear hmay hmv hz
  have hph : phOf a = 2 := by unfold phOf;rw [if_neg (by omega),if_neg (by omega)]
  have HPH := hZ0 hph
  clear hph hk
  cases mv
  ·clear h0 h3x h1x
   go_enter Tryz.func25,Tryz.ntmps25
   go_wp2_with fail
   clear hW0 hW1 u0 u1 u2 u3 u4 u5 u6 w0 w6
   refine HMV.out.mono ?_
   rintro e w3 ⟨rfl,hk3⟩
   have HK3 := hZ0 hk3
   clear hk3
   go_wp2
   go_ret2
   exact NewPostT.bad HZ.out (by decide) (HKM.out.then HK3.out)
  ·clear h0 h3x h1x
   go_enter Tryz.func25,Tryz.ntmps25
   go_wp2_with fail
   clear hW0 hW1 u0 u1 u2 u3 u4 u5 u6 w0 w6
   refine HMV.out.mono ?_
   rintro e w3 ⟨rfl,hk3⟩
   have HK3 := hZ0 hk3
   have hcm3 := HCM.out.kept hk3 (fun z => z)
   have hbm3 := HBM.out.kept hk3 (fun z => z)
   obtain ⟨W4,hW4⟩ : ∃ W4,w3.alloc (.cells #[.nilIface,.int .i64 rq,.int .i64 0,.bool false,.int .i64 0,.int .i64 0,.int .u64 0,.int .i64 0,.slice none 0 0] 109) = W4 := ⟨_,rfl⟩
   have hk4 : Kept NoF w3 W4 := by rw [<- hW4];(repeat' (first | (with_reducible first | exact kR0 | apply kP0 | apply kN0 | apply kD0 | apply kA0) | (right;simp;done)))
   have ht4 : Has W4 w3.heap.size 109 #[.nilIface,.int .i64 rq,.int .i64 0,.bool false,.int .i64 0,.int .i64 0,.int .u64 0,.int .i64 0,.slice none 0 0] := by rw [<- hW4];exact Has.new _ _ _
   have hc4 := hcm3.kept hk4 (fun z => z)
   have hb4 := hbm3.kept hk4 (fun z => z)
   have z0 := hc4.cell 0;have z1 := hc4.cell 1;have z2 := hc4.cell 2;have z3 := hc4.cell 3;have z4 := hc4.cell 4;have z5 := hc4.cell 5;have z6 := hc4.cell 6;have z7 := hc4.cell 7;have z8 := hc4.cell 8;have z9 := hc4.cell 9
   simp at z0 z1 z2 z3 z4 z5 z6 z7 z8 z9
   have x0 : W4.cell? ⟨w.heap.size,0,none⟩ = some (.int .i64 a.k) := hb4.cell 0
   have x2 : W4.cell? ⟨w.heap.size,2,none⟩ = some (.string a.key) := hb4.cell 2
   have x4 : W4.cell? ⟨w.heap.size,4,none⟩ = some (.int .u64 a.at') := hb4.cell 4
   have t0 : W4.cell? ⟨w3.heap.size,0,none⟩ = some .nilIface := ht4.cell 0
   have tf0 := ht4.frozen 0
   have HT4 := hZ0 ht4;have HK4 := hZ0 hk4
   have HWT := hZ0 (show w.heap.size <= w3.heap.size from Nat.le_trans HKM.out.size hk3.size)
   have hne1 : w3.heap.size ≠ w.heap.size := by have := HBM.out.lt;have := hk3.size;omega
   have hne2 : w3.heap.size ≠ W0.heap.size := by have := HCM.out.lt;have := hk3.size;omega
   clear hcm3 hbm3 hk3 hc4 hb4 hk4 ht4 e0 e1 e2 e3 e4 e5 e6 e7 e8 e9
   go_wp2
   clear hW4 z0 z1 z2 z3 z4 z5 z6 z7 z8 z9 x0 x2 x4 t0 tf0
   go_ret2
   have hkf : Kept (fun k => k = w3.heap.size) W4 (W4.setCell ⟨w3.heap.size,0,none⟩ (.iface 115 (.agg #[.int .i64 cl,.int .i64 rq,.slice none 0 0,.int .i64 a.k,.int .i64 a.nd,.string a.key,.string a.to,.int .u64 a.at',.int .i64 a.n,.slice a.A a.ops.length a.c]))) := by (repeat' (first | (with_reducible first | exact kR0 | apply kP0 | apply kN0 | apply kD0 | apply kA0) | (exact .inl rfl) | (right;simp;done)))
   refine ⟨fun e => absurd HZ.out e,fun _ => ⟨⟨w3.heap.size,w3.heap.size,none,0,none,0,none,0⟩,rfl,newT_at (by rw [HPH.out];decide) ?_ (own_kept HOM.out (((HK3.out.then HK4.out).mono (fun _ z => z.elim)).then hkf) (fun k hk e => ?_)),(fun k hk => by
    rcases hk with e | e | e | e | e
    ·rw [e];exact HWT.out
    ·rw [e];exact HWT.out
    ·cases e
    ·exact HRN.out k (by have e2 : (Value.slice none (boOf a).length 0).ownBlock = some k := e;rwa [HNM.out] at e2)
    ·cases e),?_⟩⟩
   ·have e9 : phV ⟨w3.heap.size,w3.heap.size,none,0,none,0,none,0⟩ (newT cl rq a) = .iface 115 (.agg #[.int .i64 cl,.int .i64 rq,.slice none 0 0,.int .i64 a.k,.int .i64 a.nd,.string a.key,.string a.to,.int .u64 a.at',.int .i64 a.n,.slice a.A a.ops.length a.c]) := by
     rw [phV2 (t := newT cl rq a) HPH.out]
     unfold ccell qcell newT
     dsimp only
     rw [HNM.out]
     rfl
    rw [e9]
    exact HT4.out.put_of rfl
   ·have := own_lt HOM.out hk;have := HK3.out.size;omega
   ·exact ((HKM.out.then HK3.out).then HK4.out).trans hkf (fun i hi => .inr (by rw [hi];exact HWT.out))
 ·have b0 : (a.k == 0) = true := by simpa using h0
  have hbo : boOf a = normL a.ops := by unfold boOf;rw [if_pos h0]
  obtain ⟨n,hn⟩ : ∃ n,(boOf a).length = n := ⟨_,rfl⟩
  have hno := Nrm.norm_any W1 a.A a.c a.ops (HSRC.out.kept (HK0.out.then HK1.out) (fun _ _ z => z)) HL.out (fun o ho => (HOS.out o ho).1)
  unfold NewOps NewSl at hno
  rw [<- hbo,hn] at hno
  have HNO := hZ0 hno
  have HNM := hZ0 hn
  have HKZ := hZ0 h0
  clear hno hn hbo h0
  go_enter Tryz.func25,Tryz.ntmps25
  go_wp2_with fail
  clear hW0 hW1 u0 u1 u2 u3 u4 u5 u6 w0 w6
  refine HNO.out.mono ?_
  rintro e w2 ⟨B,bc,rfl,⟨hob,hnb⟩,hk2⟩
  have hc2 := HN1.out.kept hk2 (fun z => z)
  obtain ⟨Wm,hWm⟩ : ∃ Wm,w2.setCell ⟨W0.heap.size,2,none⟩ (.slice B n bc) = Wm := ⟨_,rfl⟩
  obtain ⟨cc2,cf2⟩ := HCB.out w2 hk2
  have hkm : Kept (fun k => k = W0.heap.size) w2 Wm := by rw [<- hWm];(repeat' (first | (with_reducible first | exact kR0 | apply kP0 | apply kN0 | apply kD0 | apply kA0) | (exact .inl rfl) | (right;simp;done)))
  have HCM := hZ0 (show Has Wm W0.heap.size 103 #[.int .i64 cl,.int .i64 rq,.slice B n bc,.int .i64 a.k,.int .i64 a.nd,.string a.key,.string a.to,.int .u64 a.at',.int .i64 a.n,.slice a.A a.ops.length a.c] by rw [<- hWm];exact hc2.put_of rfl)
  have HBM := hZ0 ((HB1.out.kept hk2 (fun z => z)).kept hkm (fun e => by have := HN0.out.lt;omega))
  have HOM := hZ0 (show Wm.ownsRow 0 143 3 (.slice B (boOf a).length bc) (boOf a).length (cells (boOf a)) from by rw [HNM.out];exact own_kept hob hkm (fun k hk e => own_ne hob hc2 (by decide) (e ▸ hk)))
  have HRN := hZ0 (show ∀ k,(Value.slice B n bc).ownBlock = some k -> w.heap.size <= k from fun k hk => Nat.le_trans (HK0.out.then HK1.out).size (hnb k hk))
  have HKM := hZ0 (show Kept NoF w Wm from ((HK0.out.then HK1.out).then hk2).trans hkm (fun i hi => .inr (by rw [hi];exact HK0.out.size)))
  have u0 : Wm.cell? ⟨w.heap.size,0,none⟩ = some (.int .i64 a.k) := HBM.out.cell 0
  clear hob hnb hk2 hc2 hkm
  have hk := HKZ.out
  have hmay := may_any Wm cl rq B bc (boOf a) a (Src.of_own HOM.out) HKL.out
  unfold cgcell qcell at hmay
  simp only [List.cons_append,List.nil_append,HNM.out] at hmay
  have e0 := HCM.out.cell 0;have e1 := HCM.out.cell 1;have e2 := HCM.out.cell 2;have e3 := HCM.out.cell 3;have e4 := HCM.out.cell 4;have e5 := HCM.out.cell 5;have e6 := HCM.out.cell 6;have e7 := HCM.out.cell 7;have e8 := HCM.out.cell 8;have e9 := HCM.out.cell 9
  simp at e0 e1 e2 e3 e4 e5 e6 e7 e8 e9
  obtain ⟨mv,hmv⟩ : ∃ mv,mayB cl rq (boOf a) a = mv := ⟨_,rfl⟩
  rw [hmv] at hmay
  have hz : newE cl rq a = if mv = true then 0 else 1 := by rw [HNE2.out,hmv]
  have HMV := hZ0 hmay;have HZ := hZ0 hz
  clear hmay hmv hz
  have hph : phOf a = 0 := by unfold phOf;rw [if_pos (.inl hk)]
  have HPH := hZ0 hph
  clear hph hk
  cases mv
  ·go_wp2_with fail
   clear hWm cc2 cf2 u0
   refine HMV.out.mono ?_
   rintro e w3 ⟨rfl,hk3⟩
   have HK3 := hZ0 hk3
   clear hk3
   go_wp2
   go_ret2
   exact NewPostT.bad HZ.out (by decide) (HKM.out.then HK3.out)
  ·go_wp2_with fail
   clear hWm cc2 cf2 u0
   refine HMV.out.mono ?_
   rintro e w3 ⟨rfl,hk3⟩
   have HK3 := hZ0 hk3
   have hcm3 := HCM.out.kept hk3 (fun z => z)
   have hbm3 := HBM.out.kept hk3 (fun z => z)
   obtain ⟨W4,hW4⟩ : ∃ W4,w3.alloc (.cells #[.nilIface,.int .i64 rq,.int .i64 0,.bool false,.int .i64 0,.int .i64 0,.int .u64 0,.int .i64 0,.slice none 0 0] 109) = W4 := ⟨_,rfl⟩
   have hk4 : Kept NoF w3 W4 := by rw [<- hW4];(repeat' (first | (with_reducible first | exact kR0 | apply kP0 | apply kN0 | apply kD0 | apply kA0) | (right;simp;done)))
   have ht4 : Has W4 w3.heap.size 109 #[.nilIface,.int .i64 rq,.int .i64 0,.bool false,.int .i64 0,.int .i64 0,.int .u64 0,.int .i64 0,.slice none 0 0] := by rw [<- hW4];exact Has.new _ _ _
   have hc4 := hcm3.kept hk4 (fun z => z)
   have hb4 := hbm3.kept hk4 (fun z => z)
   have z0 := hc4.cell 0;have z1 := hc4.cell 1;have z2 := hc4.cell 2;have z3 := hc4.cell 3;have z4 := hc4.cell 4;have z5 := hc4.cell 5;have z6 := hc4.cell 6;have z7 := hc4.cell 7;have z8 := hc4.cell 8;have z9 := hc4.cell 9
   simp at z0 z1 z2 z3 z4 z5 z6 z7 z8 z9
   have x0 : W4.cell? ⟨w.heap.size,0,none⟩ = some (.int .i64 a.k) := hb4.cell 0
   have x2 : W4.cell? ⟨w.heap.size,2,none⟩ = some (.string a.key) := hb4.cell 2
   have x4 : W4.cell? ⟨w.heap.size,4,none⟩ = some (.int .u64 a.at') := hb4.cell 4
   have t0 : W4.cell? ⟨w3.heap.size,0,none⟩ = some .nilIface := ht4.cell 0
   have tf0 := ht4.frozen 0
   have HT4 := hZ0 ht4;have HK4 := hZ0 hk4
   have HWT := hZ0 (show w.heap.size <= w3.heap.size from Nat.le_trans HKM.out.size hk3.size)
   have hne1 : w3.heap.size ≠ w.heap.size := by have := HBM.out.lt;have := hk3.size;omega
   have hne2 : w3.heap.size ≠ W0.heap.size := by have := HCM.out.lt;have := hk3.size;omega
   clear hcm3 hbm3 hk3 hc4 hb4 hk4 ht4 e0 e1 e2 e3 e4 e5 e6 e7 e8 e9
   go_wp2
   clear hW4 z0 z1 z2 z3 z4 z5 z6 z7 z8 z9 x0 x2 x4 t0 tf0
   go_ret2
   have hkf : Kept (fun k => k = w3.heap.size) W4 (W4.setCell ⟨w3.heap.size,0,none⟩ (.iface 111 (.agg #[.int .i64 cl,.int .i64 rq,.slice B n bc,.int .i64 a.k,.int .i64 a.nd,.string a.key,.string a.to,.int .u64 a.at',.int .i64 a.n,.slice a.A a.ops.length a.c]))) := by (repeat' (first | (with_reducible first | exact kR0 | apply kP0 | apply kN0 | apply kD0 | apply kA0) | (exact .inl rfl) | (right;simp;done)))
   refine ⟨fun e => absurd HZ.out e,fun _ => ⟨⟨w3.heap.size,w3.heap.size,B,bc,none,0,none,0⟩,rfl,newT_at (by rw [HPH.out];decide) ?_ (own_kept HOM.out (((HK3.out.then HK4.out).mono (fun _ z => z.elim)).then hkf) (fun k hk e => ?_)),(fun k hk => by
    rcases hk with e | e | e | e | e
    ·rw [e];exact HWT.out
    ·rw [e];exact HWT.out
    ·cases e
    ·exact HRN.out k (by have e2 : (Value.slice B (boOf a).length bc).ownBlock = some k := e;rwa [HNM.out] at e2)
    ·cases e),?_⟩⟩
   ·have e9 : phV ⟨w3.heap.size,w3.heap.size,B,bc,none,0,none,0⟩ (newT cl rq a) = .iface 111 (.agg #[.int .i64 cl,.int .i64 rq,.slice B n bc,.int .i64 a.k,.int .i64 a.nd,.string a.key,.string a.to,.int .u64 a.at',.int .i64 a.n,.slice a.A a.ops.length a.c]) := by
     rw [phV0 (t := newT cl rq a) HPH.out]
     unfold ccell qcell newT
     dsimp only
     rw [HNM.out]
     rfl
    rw [e9]
    exact HT4.out.put_of rfl
   ·have := own_lt HOM.out hk;have := HK3.out.size;omega
   ·exact ((HKM.out.then HK3.out).then HK4.out).trans hkf (fun i hi => .inr (by rw [hi];exact HWT.out))
end
end Ask
end Go.Proofs.YtgbigpdiacjbgaaGreat
