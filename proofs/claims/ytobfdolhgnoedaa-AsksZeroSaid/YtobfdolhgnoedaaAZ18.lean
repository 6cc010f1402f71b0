/- Part 19 of what the proof needs. -/
import Derived.Test.YtobfdolhgnoedaaAZ13
set_option linter.unusedSimpArgs false
set_option linter.unusedVariables false
set_option maxHeartbeats 32000000
set_option maxRecDepth 100000
namespace Go.Proofs.Ytobfdolhgnoedaa
open Go.RowKit
set_option maxRecDepth 100000
namespace Ask
open Plan Ops Ent Msg MO Vn
attribute [local go_sem ↓] storeVar_msg loadVar_msg
def fewA (a : ActR) : Bool := decide (a.x.ms.length <= 20) && decide (a.x.ops.length <= 20) && decide (a.x.es.length <= 20) && decide (a.x.ss.length <= 20) && decide (a.x.ps.length <= 40)
def fewP (l : List ActR) : Bool := (l.take 60).all fewA
theorem fewA_get {a : ActR} (h : fewA a = true) : a.x.ms.length <= 20 /\ a.x.ops.length <= 20 /\ a.x.es.length <= 20 /\ a.x.ss.length <= 20 /\ a.x.ps.length <= 40 := by
 unfold fewA at h
 simp only [Bool.and_eq_true,decide_eq_true_eq] at h
 exact ⟨h.1.1.1.1,h.1.1.1.2,h.1.1.2,h.1.2,h.2⟩
theorem fewA_not {a : ActR} (h : 20 < a.x.ms.length \/ 20 < a.x.ops.length \/ 20 < a.x.es.length \/ 20 < a.x.ss.length \/ 40 < a.x.ps.length) : fewA a = false := by
 cases hf : fewA a with
 | false => rfl
 | true => have := fewA_get hf;omega
theorem fewA_ok {a : ActR} (h1 : ¬ 20 < a.x.ms.length) (h2 : ¬ 20 < a.x.ops.length) (h3 : ¬ 20 < a.x.es.length) (h4 : ¬ 20 < a.x.ss.length) (h5 : ¬ 40 < a.x.ps.length) : fewA a = true := by
 unfold fewA
 simp only [Bool.and_eq_true,decide_eq_true_eq]
 omega
def fewQ (a : AskR) : Bool := decide (a.ops.length <= 20) && (decide (a.key.size <= 100) && decide (a.to.size <= 100))
theorem fewQ_get {a : AskR} (h : fewQ a = true) : a.ops.length <= 20 /\ a.key.size <= 100 /\ a.to.size <= 100 := by
 unfold fewQ at h
 simp only [Bool.and_eq_true,decide_eq_true_eq] at h
 exact ⟨h.1,h.2.1,h.2.2⟩
theorem fewQ_not {a : AskR} (h : 20 < a.ops.length \/ 100 < a.key.size \/ 100 < a.to.size) : fewQ a = false := by
 cases hf : fewQ a with
 | false => rfl
 | true => have := fewQ_get hf;omega
theorem fewQ_ok {a : AskR} (h1 : ¬ 20 < a.ops.length) (h2 : ¬ 100 < a.key.size) (h3 : ¬ 100 < a.to.size) : fewQ a = true := by
 unfold fewQ
 simp only [Bool.and_eq_true,decide_eq_true_eq]
 omega
theorem few_any (w : World) (a0 : AskR) (hq : a0.key.size <= maxLen /\ a0.to.size <= maxLen /\ a0.ops.length <= maxLen) (A : Option Addr) (c : Nat) (l : List ActR) (hl : Src w 25 A l.length (acells l)) (hls : ∀ a ∈ l,a.x.ms.length <= maxLen /\ a.x.ops.length <= maxLen /\ a.x.es.length <= maxLen /\ a.x.ss.length <= maxLen /\ a.x.ps.length <= maxLen) :
  Calls Try.prog 7 #[qagg a0,.slice A l.length c] w fun e w' => e = .returned (.bool (fewQ a0 && fewP l)) /\ Kept NoF w w' := by
 obtain ⟨W0,hW0⟩ : ∃ W0,w.alloc (.cells (qcell a0).toArray 37) = W0 := ⟨_,rfl⟩
 have hk0 : Kept NoF w W0 := by rw [<- hW0];(repeat' (first | (with_reducible first | exact kR0 | apply kP0 | apply kN0 | apply kD0 | apply kA0) | (right;simp;done)))
 have hn0 : Has W0 w.heap.size 37 (qcell a0).toArray := by rw [<- hW0];exact Has.new _ _ _
 have u2 : W0.cell? ⟨w.heap.size,2,none⟩ = some (.string a0.key) := hn0.cell 2
 have u3 : W0.cell? ⟨w.heap.size,3,none⟩ = some (.string a0.to) := hn0.cell 3
 have u6 : W0.cell? ⟨w.heap.size,6,none⟩ = some (.slice a0.A a0.ops.length a0.c) := hn0.cell 6
 unfold maxLen at hq
 obtain ⟨hq1,hq2,hq3⟩ := hq
 obtain ⟨k2,e2⟩ : ∃ n,a0.key.size = n := ⟨_,rfl⟩
 obtain ⟨k3,e3⟩ : ∃ n,a0.to.size = n := ⟨_,rfl⟩
 obtain ⟨k6,e6⟩ : ∃ n,a0.ops.length = n := ⟨_,rfl⟩
 have hqn := fewQ_not (a := a0);have hqo := fewQ_ok (a := a0)
 rw [e2] at hq1 hqn hqo
 rw [e3] at hq2 hqn hqo
 rw [e6] at hq3 hqn hqo u6
 have HK0 := hZ0 hk0;have HL := hZ0 hl;have HLS := hZ0 hls;have HE2 := hZ0 (And.intro e2 (And.intro e3 e6))
 unfold qcell at hW0
 rw [e6] at hW0
 unfold qagg qcell
 rw [e6]
 clear hn0 hk0 hl hls e6
 by_cases g6 : 20 < k6
 ·have HF := hZ0 (hqn (.inl g6))
  clear hqn hqo
  have g6' : (20 : Int) < (k6 : Int) := by omega
  clear g6
  go_enter Try.func7,Try.ntmps7
  go_wp2
  go_ret
  exact ⟨by rw [HF.out];rfl,by (repeat' (first | (with_reducible first | exact kR0 | apply kP0 | apply kN0 | apply kD0 | apply kA0) | (exact HK0.out) | (right;simp;done)))⟩
 have g6' : ¬ (20 : Int) < (k6 : Int) := by omega
 by_cases g2 : 100 < k2
 ·have HF := hZ0 (hqn (.inr (.inl g2)))
  clear hqn hqo
  have g2' : (100 : Int) < (k2 : Int) := by omega
  rw [<- HE2.out.1] at g2'
  clear g2 g6
  go_enter Try.func7,Try.ntmps7
  go_wp2
  go_ret
  exact ⟨by rw [HF.out];rfl,by (repeat' (first | (with_reducible first | exact kR0 | apply kP0 | apply kN0 | apply kD0 | apply kA0) | (exact HK0.out) | (right;simp;done)))⟩
 have g2' : ¬ (100 : Int) < (k2 : Int) := by omega
 by_cases g3 : 100 < k3
 ·have HF := hZ0 (hqn (.inr (.inr g3)))
  clear hqn hqo
  have g3' : (100 : Int) < (k3 : Int) := by omega
  rw [<- HE2.out.1] at g2'
  rw [<- HE2.out.2.1] at g3'
  clear g2 g3 g6
  go_enter Try.func7,Try.ntmps7
  go_wp2
  go_ret
  exact ⟨by rw [HF.out];rfl,by (repeat' (first | (with_reducible first | exact kR0 | apply kP0 | apply kN0 | apply kD0 | apply kA0) | (exact HK0.out) | (right;simp;done)))⟩
 have g3' : ¬ (100 : Int) < (k3 : Int) := by omega
 rw [hqo g6 g2 g3,Bool.true_and]
 rw [<- HE2.out.1] at g2'
 rw [<- HE2.out.2.1] at g3'
 clear hqn hqo g2 g3 g6
 have hsh : fewP l = ((l.take 60).drop 0).all fewA := by rw [List.drop_zero];rfl
 have HSH := hZ0 hsh
 clear hsh
 go_enter Try.func7,Try.ntmps7
 go_wp2_with fail
 go_loopw [5,6] (fun v3 v4 wr => ∃ i : Nat,i <= 60 /\ i <= l.length /\ v3 = .int .i64 i /\ fewP l = ((l.take 60).drop i).all fewA /\ Kept NoF W0 wr) (fun v3 _ _ => l.length - (intOf v3).toNat)
 case atStart => exact ⟨0,by omega,Nat.zero_le _,rfl,HSH.out,Kept.refl _ _⟩
 case round =>
  obtain ⟨i,hi,hi2,rfl,he,hk⟩ := hrel
  have HE := hZ0 he;have HK := hZ0 hk;clear he hk
  by_cases hil : i < l.length
  ·by_cases hi6 : i < 60
   ·obtain ⟨a,ha⟩ : ∃ a,l[i]? = some a := ⟨_,List.getElem?_eq_getElem hil⟩
    obtain ⟨ad,rfl,had,hld,-,-⟩ := run_loadMsg_row wr A l (HL.out.kept (HK0.out.then HK.out) (fun _ _ z => z)) i a ha
    have hd : (l.take 60).drop i = a :: (l.take 60).drop (i + 1) := Plan.drop_cons (by rw [List.getElem?_take,if_pos hi6];exact ha)
    rw [hd,List.all_cons] at HE
    obtain ⟨k1,k2,k3,k4,k5⟩ := HLS.out a (List.mem_of_getElem? ha)
    unfold maxLen at k1 k2 k3 k4 k5
    obtain ⟨Wz,W8,hWz,hst,hh8,hk8⟩ := lay_msg wr a.x
    have p1 : W8.cell? ⟨wr.heap.size,14,none⟩ = some (.slice a.x.mA a.x.ms.length a.x.mc) := hh8.cell 14
    have p2 : W8.cell? ⟨wr.heap.size,18,none⟩ = some (.slice a.x.oA a.x.ops.length a.x.oc) := hh8.cell 18
    have p3 : W8.cell? ⟨wr.heap.size,19,none⟩ = some (.slice a.x.eA a.x.es.length a.x.ec) := hh8.cell 19
    have p4 : W8.cell? ⟨wr.heap.size,20,none⟩ = some (.slice a.x.sA a.x.ss.length a.x.sc) := hh8.cell 20
    have p5 : W8.cell? ⟨wr.heap.size,21,none⟩ = some (.slice a.x.pA a.x.ps.length a.x.pc) := hh8.cell 21
    have HK8 := hZ0 (HK.out.then hk8)
    have HNOT := hZ0 (fewA_not (a := a));have HOKA := hZ0 (fewA_ok (a := a))
    obtain ⟨cs,hcs⟩ : ∃ cs,(xcell a.x).toArray = cs := ⟨_,rfl⟩
    rw [hcs] at hld hst
    obtain ⟨n1,e1⟩ : ∃ n,a.x.ms.length = n := ⟨_,rfl⟩
    obtain ⟨n2,e2⟩ : ∃ n,a.x.ops.length = n := ⟨_,rfl⟩
    obtain ⟨n3,e3⟩ : ∃ n,a.x.es.length = n := ⟨_,rfl⟩
    obtain ⟨n4,e4⟩ : ∃ n,a.x.ss.length = n := ⟨_,rfl⟩
    obtain ⟨n5,e5⟩ : ∃ n,a.x.ps.length = n := ⟨_,rfl⟩
    rw [e1] at k1 p1
    rw [e2] at k2 p2
    rw [e3] at k3 p3
    rw [e4] at k4 p4
    rw [e5] at k5 p5
    rw [e1,e2,e3,e4,e5] at HNOT HOKA
    clear hd ha hh8 hk8 hcs e1 e2 e3 e4 e5
    have hbad : fewA a = false -> fewP l = false := fun h => by rw [HE.out,h,Bool.false_and]
    have HBAD := hZ0 hbad;clear hbad
    by_cases g1 : 20 < n1
    ·have g1' : (20 : Int) < (n1 : Int) := by omega
     have HF := hZ0 (HBAD.out (HNOT.out (by omega)))
     clear g1 k2 k3 k4 k5 p2 p3 p4 p5
     go_wp2
     go_ret
     exact ⟨by rw [HF.out];rfl,HK0.out.then HK8.out⟩
    have g1' : ¬ (20 : Int) < (n1 : Int) := by omega
    by_cases g2 : 20 < n2
    ·have g2' : (20 : Int) < (n2 : Int) := by omega
     have HF := hZ0 (HBAD.out (HNOT.out (by omega)))
     clear g1 g2 k3 k4 k5 p3 p4 p5
     go_wp2
     go_ret
     exact ⟨by rw [HF.out];rfl,HK0.out.then HK8.out⟩
    have g2' : ¬ (20 : Int) < (n2 : Int) := by omega
    by_cases g3 : 20 < n3
    ·have g3' : (20 : Int) < (n3 : Int) := by omega
     have HF := hZ0 (HBAD.out (HNOT.out (by omega)))
     clear g1 g2 g3 k4 k5 p4 p5
     go_wp2
     go_ret
     exact ⟨by rw [HF.out];rfl,HK0.out.then HK8.out⟩
    have g3' : ¬ (20 : Int) < (n3 : Int) := by omega
    by_cases g4 : 20 < n4
    ·have g4' : (20 : Int) < (n4 : Int) := by omega
     have HF := hZ0 (HBAD.out (HNOT.out (by omega)))
     clear g1 g2 g3 g4 k5 p5
     go_wp2
     go_ret
     exact ⟨by rw [HF.out];rfl,HK0.out.then HK8.out⟩
    have g4' : ¬ (20 : Int) < (n4 : Int) := by omega
    by_cases g5 : 40 < n5
    ·have g5' : (40 : Int) < (n5 : Int) := by omega
     have HF := hZ0 (HBAD.out (HNOT.out (by omega)))
     clear g1 g2 g3 g4 g5
     go_wp2
     go_ret
     exact ⟨by rw [HF.out];rfl,HK0.out.then HK8.out⟩
    have g5' : ¬ (40 : Int) < (n5 : Int) := by omega
    have HGO := hZ0 (show fewP l = ((l.take 60).drop (i + 1)).all fewA by rw [HE.out,HOKA.out g1 g2 g3 g4 g5,Bool.true_and])
    clear g1 g2 g3 g4 g5
    go_wp2
    go_roundw
    case rel => exact ⟨i + 1,by omega,by omega,by go_num,HGO.out,HK8.out⟩
    case measure => simp [intOf];omega
   ·obtain rfl : i = 60 := by omega
    have HF := hZ0 (show fewP l = true by rw [HE.out,List.drop_eq_nil_of_le (by rw [List.length_take];omega)];rfl)
    go_wp2
    go_ret
    exact ⟨by rw [HF.out];rfl,HK0.out.then HK.out⟩
  ·obtain rfl : i = l.length := by omega
   have HF := hZ0 (show fewP l = true by rw [HE.out,List.drop_eq_nil_of_le (by rw [List.length_take];omega)];rfl)
   go_wp2
   go_ret
   exact ⟨by rw [HF.out];rfl,HK0.out.then HK.out⟩
section
variable {w : World} {p : Option Addr}
def NoT (w : World) (p : Option Addr) : Prop := p = none \/ ∃ b,p = some ⟨b,0,none⟩ /\ Has w b 48 #[.nilIface,.int .i64 0,.int .i64 0,.bool false,.int .i64 0,.int .i64 0,.int .u64 0,.int .i64 0,.slice none 0 0]
theorem NoT.kept {w w' : World} {p : Option Addr} (h : NoT w p) (hk : Kept NoF w w') : NoT w' p := by
 rcases h with h | ⟨b,h,hh⟩
 ·exact .inl h
 ·exact .inr ⟨b,h,hh.kept hk (fun z => z)⟩
theorem ztnone (h : NoT w p) : Calls Try.prog 27 #[.pointer p] w fun e w' => e = .returned (.bool true) /\ w = w' := by
 rcases h with rfl | ⟨b,rfl,hh⟩
 ·go_enter Try.func27,Try.ntmps27
  go_wp2
  go_ret
  exact ⟨rfl,rfl⟩
 ·have q : w.cell? ⟨b,0,none⟩ = some .nilIface := hh.cell 0
  clear hh
  go_enter Try.func27,Try.ntmps27
  go_wp2
  go_ret
  exact ⟨rfl,rfl⟩
theorem ztick (h : NoT w p) : Calls Try.prog 12 #[.pointer p] w fun e w' => e = .returned (.bool false) /\ w = w' := by
 have HN := hZ0 (ztnone h);clear h
 go_enter Try.func12,Try.ntmps12
 go_wp2_with fail
 refine HN.out.mono ?_
 rintro e w' ⟨rfl,rfl⟩
 go_wp2
 go_ret
 exact ⟨rfl,rfl⟩
theorem ztwrites (h : NoT w p) : Calls Try.prog 13 #[.pointer p] w fun e w' => e = .returned (.bool false) /\ w = w' := by
 have HN := hZ0 (ztnone h);clear h
 go_enter Try.func13,Try.ntmps13
 go_wp2_with fail
 refine HN.out.mono ?_
 rintro e w' ⟨rfl,rfl⟩
 go_wp2
 go_ret
 exact ⟨rfl,rfl⟩
theorem zttake (h : NoT w p) (f : Int) (cs : Array Value) : Calls Try.prog 11 #[.pointer p,.int .i64 f,.agg cs] w fun e w' => e = .returned (.bool false) /\ Kept NoF w w' := by
 obtain ⟨W0,hW0⟩ : ∃ W0,w.alloc (.cells cs 34) = W0 := ⟨_,rfl⟩
 have hk0 : Kept NoF w W0 := by rw [<- hW0];(repeat' (first | (with_reducible first | exact kR0 | apply kP0 | apply kN0 | apply kD0 | apply kA0) | (right;simp;done)))
 have hn := fun W (hW : Kept NoF W0 W) => ztnone (h.kept (hk0.then hW))
 have HN := hZ0 hn;have HK := hZ0 hk0;clear h hk0 hn
 go_enter Try.func11,Try.ntmps11
 go_wp2
 go_quiet (exact Calls.quiet_of_same ((HN.out _ (by (repeat' (first | (with_reducible first | exact kR0 | apply kP0 | apply kN0 | apply kD0 | apply kA0) | (right;simp;done))))).mono fun e w' h => ⟨h.1,h.2.symm⟩))
 go_wp2
 go_ret
 exact ⟨rfl,by (repeat' (first | (with_reducible first | exact kR0 | apply kP0 | apply kN0 | apply kD0 | apply kA0) | (exact HK.out) | (right;simp;done)))⟩
theorem ztdone (h : NoT w p) : Calls Try.prog 10 #[.pointer p] w fun e w' => e = .returned (.tuple #[ragg rep0 none 0,.bool false]) /\ Kept NoF w w' := by
 obtain ⟨W0,hW0⟩ : ∃ W0,w.alloc (.cells #[.int .i64 0,.int .i64 0,.int .u64 0,.int .i64 0,.slice none 0 0] 46) = W0 := ⟨_,rfl⟩
 have hk0 : Kept NoF w W0 := by rw [<- hW0];(repeat' (first | (with_reducible first | exact kR0 | apply kP0 | apply kN0 | apply kD0 | apply kA0) | (right;simp;done)))
 have hn0 : Has W0 w.heap.size 46 (rcell rep0 none 0).toArray := by rw [<- hW0];exact Has.new _ _ _
 have HN := hZ0 (ztnone (h.kept hk0));have HK := hZ0 hk0;have HN0 := hZ0 hn0
 have f0 := hn0.frozen 0;have f1 := hn0.frozen 1;have f2 := hn0.frozen 2;have f3 := hn0.frozen 3;have f4 := hn0.frozen 4
 have y0 := hn0.cell 0;have y1 := hn0.cell 1;have y2 := hn0.cell 2;have y3 := hn0.cell 3;have y4 := hn0.cell 4
 simp [rcell,rep0] at y0 y1 y2 y3 y4
 clear h hk0 hn0
 go_enter Try.func10,Try.ntmps10
 go_wp2_with fail
 clear hW0
 refine HN.out.mono ?_
 rintro e w' ⟨rfl,rfl⟩
 go_wp2
 refine bodyPost_ret (results_row_tmp rfl _ _ w.heap.size _ rfl (load_rep (r := rep0) (A := none) (c := 0) (by ((repeat (first | with_reducible exact HN0.out | with_reducible apply Has.put_of | with_reducible apply Has.past | with_reducible apply Has.drewN | with_reducible apply Has.drew | with_reducible apply Has.alloc)) <;> first | omega | rfl)))) rfl ?_
 exact ⟨rfl,by (repeat' (first | (with_reducible first | exact kR0 | apply kP0 | apply kN0 | apply kD0 | apply kA0) | (exact HK.out) | (right;simp;done)))⟩
theorem ztnext (h : NoT w p) (n m : Int) : Calls Try.prog 9 #[.pointer p,.int .i64 n,.int .i64 m] w fun e w' => e = .returned (.tuple #[.int .i64 (-1),xagg zmsg]) /\ Kept NoF w w' := by
 obtain ⟨W0,hW0⟩ : ∃ W0,w.alloc (.cells zcells 34) = W0 := ⟨_,rfl⟩
 have hk0 : Kept NoF w W0 := by rw [<- hW0];(repeat' (first | (with_reducible first | exact kR0 | apply kP0 | apply kN0 | apply kD0 | apply kA0) | (right;simp;done)))
 have hn0 : Has W0 w.heap.size 34 zcells := by rw [<- hW0];exact Has.new _ _ _
 obtain ⟨W6,hst,hb6,hk6⟩ := put_msg hn0 rfl zmsg
 unfold xcell zmsg at hst
 dsimp only [List.length_nil] at hst
 have HN := hZ0 (ztnone (h.kept hk0));have HK := hZ0 hk0;have HB6 := hZ0 hb6;have HK6 := hZ0 hk6
 unfold zcells at hW0
 clear h hk0 hn0 hb6 hk6
 go_enter Try.func9,Try.ntmps9
 go_wp2_with fail
 clear hW0
 refine HN.out.mono ?_
 rintro e w' ⟨rfl,rfl⟩
 go_wp2
 refine bodyPost_ret (results_tmp_row rfl _ _ w.heap.size _ rfl (load_msg HB6.out)) rfl ?_
 exact ⟨rfl,HK.out.trans HK6.out (fun i hi => .inr (by rw [hi];exact Nat.le_refl _))⟩
end
end Ask
end Go.Proofs.Ytobfdolhgnoedaa
