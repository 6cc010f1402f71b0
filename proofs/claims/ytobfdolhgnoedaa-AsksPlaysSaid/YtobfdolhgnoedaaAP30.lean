/- Part 31 of what the proof needs. -/
import Derived.Test.YtobfdolhgnoedaaAP23
import Derived.Test.YtobfdolhgnoedaaAP27
set_option linter.unusedSimpArgs false
set_option linter.unusedVariables false
set_option maxHeartbeats 32000000
set_option maxRecDepth 100000
namespace Go.Proofs.Ytobfdolhgnoedaa
open Go.RowKit
set_option maxRecDepth 100000
namespace Ask
open Plan Ops Ent Msg MO Vn
attribute [local go_sem ↓] storeVar_msg loadVar_msg
def fewA (a : ActR) : Bool := decide (a.x.ms.length <= 20) && decide (a.x.ops.length <= 20) && decide (a.x.es.length <= 20) && decide (a.x.ss.length <= 20) && decide (a.x.ps.length <= 40)
def fewP (l : List ActR) : Bool := (l.take 60).all fewA
theorem fewA_get {a : ActR} (h : fewA a = true) : a.x.ms.length <= 20 /\ a.x.ops.length <= 20 /\ a.x.es.length <= 20 /\ a.x.ss.length <= 20 /\ a.x.ps.length <= 40 := by
 unfold fewA at h
 simp only [Bool.and_eq_true,decide_eq_true_eq] at h
 exact ⟨h.1.1.1.1,h.1.1.1.2,h.1.1.2,h.1.2,h.2⟩
theorem fewA_not {a : ActR} (h : 20 < a.x.ms.length \/ 20 < a.x.ops.length \/ 20 < a.x.es.length \/ 20 < a.x.ss.length \/ 40 < a.x.ps.length) : fewA a = false := by
 cases hf : fewA a with
 | false => rfl
 | true => have := fewA_get hf;omega
theorem fewA_ok {a : ActR} (h1 : ¬ 20 < a.x.ms.length) (h2 : ¬ 20 < a.x.ops.length) (h3 : ¬ 20 < a.x.es.length) (h4 : ¬ 20 < a.x.ss.length) (h5 : ¬ 40 < a.x.ps.length) : fewA a = true := by
 unfold fewA
 simp only [Bool.and_eq_true,decide_eq_true_eq]
 omega
def fewQ (a : AskR) : Bool := decide (a.ops.length <= 20) && (decide (a.key.size <= 100) && decide (a.to.size <= 100))
theorem fewQ_get {a : AskR} (h : fewQ a = true) : a.ops.length <= 20 /\ a.key.size <= 100 /\ a.to.size <= 100 := by
 unfold fewQ at h
 simp only [Bool.and_eq_true,decide_eq_true_eq] at h
 exact ⟨h.1,h.2.1,h.2.2⟩
theorem fewQ_not {a : AskR} (h : 20 < a.ops.length \/ 100 < a.key.size \/ 100 < a.to.size) : fewQ a = false := by
 cases hf : fewQ a with
 | false => rfl
 | true => have := fewQ_get hf;omega
theorem fewQ_ok {a : AskR} (h1 : ¬ 20 < a.ops.length) (h2 : ¬ 100 < a.key.size) (h3 : ¬ 100 < a.to.size) : fewQ a = true := by
 unfold fewQ
 simp only [Bool.and_eq_true,decide_eq_true_eq]
 omega
theorem few_any (w : World) (a0 : AskR) (hq : a0.key.size <= maxLen /\ a0.to.size <= maxLen /\ a0.ops.length <= maxLen) (A : Option Addr) (c : Nat) (l : List ActR) (hl : Src w 25 A l.length (acells l)) (hls : ∀ a ∈ l,a.x.ms.length <= maxLen /\ a.x.ops.length <= maxLen /\ a.x.es.length <= maxLen /\ a.x.ss.length <= maxLen /\ a.x.ps.length <= maxLen) :
  Calls Try.prog 7 #[qagg a0,.slice A l.length c] w fun e w' => e = .returned (.bool (fewQ a0 && fewP l)) /\ Kept NoF w w' := by
 obtain ⟨W0,hW0⟩ : ∃ W0,w.alloc (.cells (qcell a0).toArray 37) = W0 := ⟨_,rfl⟩
 have hk0 : Kept NoF w W0 := by rw [<- hW0];(repeat' (first | (with_reducible first | exact kR0 | apply kP0 | apply kN0 | apply kD0 | apply kA0) | (right;simp;done)))
 have hn0 : Has W0 w.heap.size 37 (qcell a0).toArray := by rw [<- hW0];exact Has.new _ _ _
 have u2 : W0.cell? ⟨w.heap.size,2,none⟩ = some (.string a0.key) := hn0.cell 2
 have u3 : W0.cell? ⟨w.heap.size,3,none⟩ = some (.string a0.to) := hn0.cell 3
 have u6 : W0.cell? ⟨w.heap.size,6,none⟩ = some (.slice a0.A a0.ops.length a0.c) := hn0.cell 6
 unfold maxLen at hq
 obtain ⟨hq1,hq2,hq3⟩ := hq
 obtain ⟨k2,e2⟩ : ∃ n,a0.key.size = n := ⟨_,rfl⟩
 obtain ⟨k3,e3⟩ : ∃ n,a0.to.size = n := ⟨_,rfl⟩
 obtain ⟨k6,e6⟩ : ∃ n,a0.ops.length = n := ⟨_,rfl⟩
 have hqn := fewQ_not (a := a0);have hqo := fewQ_ok (a := a0)
 rw [e2] at hq1 hqn hqo
 rw [e3] at hq2 hqn hqo
 rw [e6] at hq3 hqn hqo u6
 have HK0 := hZ0 hk0;have HL := hZ0 hl;have HLS := hZ0 hls;have HE2 := hZ0 (And.intro e2 (And.intro e3 e6))
 unfold qcell at hW0
 rw [e6] at hW0
 unfold qagg qcell
 rw [e6]
 clear hn0 hk0 hl hls e6
 by_cases g6 : 20 < k6
 ·have HF := hZ0 (hqn (.inl g6))
  clear hqn hqo
  have g6' : (20 : Int) < (k6 : Int) := by omega
  clear g6
  go_enter Try.func7,Try.ntmps7
  go_wp2
  go_ret
  exact ⟨by rw [HF.out];rfl,by (repeat' (first | (with_reducible first | exact kR0 | apply kP0 | apply kN0 | apply kD0 | apply kA0) | (exact HK0.out) | (right;simp;done)))⟩
 have g6' : ¬ (20 : Int) < (k6 : Int) := by omega
 by_cases g2 : 100 < k2
 ·have HF := hZ0 (hqn (.inr (.inl g2)))
  clear hqn hqo
  have g2' : (100 : Int) < (k2 : Int) := by omega
  rw [<- HE2.out.1] at g2'
  clear g2 g6
  go_enter Try.func7,Try.ntmps7
  go_wp2
  go_ret
  exact ⟨by rw [HF.out];rfl,by (repeat' (first | (with_reducible first | exact kR0 | apply kP0 | apply kN0 | apply kD0 | apply kA0) | (exact HK0.out) | (right;simp;done)))⟩
 have g2' : ¬ (100 : Int) < (k2 : Int) := by omega
 by_cases g3 : 100 < k3
 ·have HF := hZ0 (hqn (.inr (.inr g3)))
  clear hqn hqo
  have g3' : (100 : Int) < (k3 : Int) := by omega
  rw [<- HE2.out.1] at g2'
  rw [<- HE2.out.2.1] at g3'
  clear g2 g3 g6
  go_enter Try.func7,Try.ntmps7
  go_wp2
  go_ret
  exact ⟨by rw [HF.out];rfl,by (repeat' (first | (with_reducible first | exact kR0 | apply kP0 | apply kN0 | apply kD0 | apply kA0) | (exact HK0.out) | (right;simp;done)))⟩
 have g3' : ¬ (100 : Int) < (k3 : Int) := by omega
 rw [hqo g6 g2 g3,Bool.true_and]
 rw [<- HE2.out.1] at g2'
 rw [<- HE2.out.2.1] at g3'
 clear hqn hqo g2 g3 g6
 have hsh : fewP l = ((l.take 60).drop 0).all fewA := by rw [List.drop_zero];rfl
 have HSH := hZ0 hsh
 clear hsh
 go_enter Try.func7,Try.ntmps7
 go_wp2_with fail
 go_loopw [5,6] (fun v3 v4 wr => ∃ i : Nat,i <= 60 /\ i <= l.length /\ v3 = .int .i64 i /\ fewP l = ((l.take 60).drop i).all fewA /\ Kept NoF W0 wr) (fun v3 _ _ => l.length - (intOf v3).toNat)
 case atStart => exact ⟨0,by omega,Nat.zero_le _,rfl,HSH.out,Kept.refl _ _⟩
 case round =>
  obtain ⟨i,hi,hi2,rfl,he,hk⟩ := hrel
  have HE := hZ0 he;have HK := hZ0 hk;clear he hk
  by_cases hil : i < l.length
  ·by_cases hi6 : i < 60
   ·obtain ⟨a,ha⟩ : ∃ a,l[i]? = some a := ⟨_,List.getElem?_eq_getElem hil⟩
    obtain ⟨ad,rfl,had,hld,-,-⟩ := run_loadMsg_row wr A l (HL.out.kept (HK0.out.then HK.out) (fun _ _ z => z)) i a ha
    have hd : (l.take 60).drop i = a :: (l.take 60).drop (i + 1) := Plan.drop_cons (by rw [List.getElem?_take,if_pos hi6];exact ha)
    rw [hd,List.all_cons] at HE
    obtain ⟨k1,k2,k3,k4,k5⟩ := HLS.out a (List.mem_of_getElem? ha)
    unfold maxLen at k1 k2 k3 k4 k5
    obtain ⟨Wz,W8,hWz,hst,hh8,hk8⟩ := lay_msg wr a.x
    have p1 : W8.cell? ⟨wr.heap.size,14,none⟩ = some (.slice a.x.mA a.x.ms.length a.x.mc) := hh8.cell 14
    have p2 : W8.cell? ⟨wr.heap.size,18,none⟩ = some (.slice a.x.oA a.x.ops.length a.x.oc) := hh8.cell 18
    have p3 : W8.cell? ⟨wr.heap.size,19,none⟩ = some (.slice a.x.eA a.x.es.length a.x.ec) := hh8.cell 19
    have p4 : W8.cell? ⟨wr.heap.size,20,none⟩ = some (.slice a.x.sA a.x.ss.length a.x.sc) := hh8.cell 20
    have p5 : W8.cell? ⟨wr.heap.size,21,none⟩ = some (.slice a.x.pA a.x.ps.length a.x.pc) := hh8.cell 21
    have HK8 := hZ0 (HK.out.then hk8)
    have HNOT := hZ0 (fewA_not (a := a));have HOKA := hZ0 (fewA_ok (a := a))
    obtain ⟨cs,hcs⟩ : ∃ cs,(xcell a.x).toArray = cs := ⟨_,rfl⟩
    rw [hcs] at hld hst
    obtain ⟨n1,e1⟩ : ∃ n,a.x.ms.length = n := ⟨_,rfl⟩
    obtain ⟨n2,e2⟩ : ∃ n,a.x.ops.length = n := ⟨_,rfl⟩
    obtain ⟨n3,e3⟩ : ∃ n,a.x.es.length = n := ⟨_,rfl⟩
    obtain ⟨n4,e4⟩ : ∃ n,a.x.ss.length = n := ⟨_,rfl⟩
    obtain ⟨n5,e5⟩ : ∃ n,a.x.ps.length = n := ⟨_,rfl⟩
    rw [e1] at k1 p1
    rw [e2] at k2 p2
    rw [e3] at k3 p3
    rw [e4] at k4 p4
    rw [e5] at k5 p5
    rw [e1,e2,e3,e4,e5] at HNOT HOKA
    clear hd ha hh8 hk8 hcs e1 e2 e3 e4 e5
    have hbad : fewA a = false -> fewP l = false := fun h => by rw [HE.out,h,Bool.false_and]
    have HBAD := hZ0 hbad;clear hbad
    by_cases g1 : 20 < n1
    ·have g1' : (20 : Int) < (n1 : Int) := by omega
     have HF := hZ0 (HBAD.out (HNOT.out (by omega)))
     clear g1 k2 k3 k4 k5 p2 p3 p4 p5
     go_wp2
     go_ret
     exact ⟨by rw [HF.out];rfl,HK0.out.then HK8.out⟩
    have g1' : ¬ (20 : Int) < (n1 : Int) := by omega
    by_cases g2 : 20 < n2
    ·have g2' : (20 : Int) < (n2 : Int) := by omega
     have HF := hZ0 (HBAD.out (HNOT.out (by omega)))
     clear g1 g2 k3 k4 k5 p3 p4 p5
     go_wp2
     go_ret
     exact ⟨by rw [HF.out];rfl,HK0.out.then HK8.out⟩
    have g2' : ¬ (20 : Int) < (n2 : Int) := by omega
    by_cases g3 : 20 < n3
    ·have g3' : (20 : Int) < (n3 : Int) := by omega
     have HF := hZ0 (HBAD.out (HNOT.out (by omega)))
     clear g1 g2 g3 k4 k5 p4 p5
     go_wp2
     go_ret
     exact ⟨by rw [HF.out];rfl,HK0.out.then HK8.out⟩
    have g3' : ¬ (20 : Int) < (n3 : Int) := by omega
    by_cases g4 : 20 < n4
    ·have g4' : (20 : Int) < (n4 : Int) := by omega
     have HF := hZ0 (HBAD.out (HNOT.out (by omega)))
     clear g1 g2 g3 g4 k5 p5
     go_wp2
     go_ret
     exact ⟨by rw [HF.out];rfl,HK0.out.then HK8.out⟩
    have g4' : ¬ (20 : Int) < (n4 : Int) := by omega
    by_cases g5 : 40 < n5
    ·have g5' : (40 : Int) < (n5 : Int) := by omega
     have HF := hZ0 (HBAD.out (HNOT.out (by omega)))
     clear g1 g2 g3 g4 g5
     go_wp2
     go_ret
     exact ⟨by rw [HF.out];rfl,HK0.out.then HK8.out⟩
    have g5' : ¬ (40 : Int) < (n5 : Int) := by omega
    have HGO := hZ0 (show fewP l = ((l.take 60).drop (i + 1)).all fewA by rw [HE.out,HOKA.out g1 g2 g3 g4 g5,Bool.true_and])
    clear g1 g2 g3 g4 g5
    go_wp2
    go_roundw
    case rel => exact ⟨i + 1,by omega,by omega,by go_num,HGO.out,HK8.out⟩
    case measure => simp [intOf];omega
   ·obtain rfl : i = 60 := by omega
    have HF := hZ0 (show fewP l = true by rw [HE.out,List.drop_eq_nil_of_le (by rw [List.length_take];omega)];rfl)
    go_wp2
    go_ret
    exact ⟨by rw [HF.out];rfl,HK0.out.then HK.out⟩
  ·obtain rfl : i = l.length := by omega
   have HF := hZ0 (show fewP l = true by rw [HE.out,List.drop_eq_nil_of_le (by rw [List.length_take];omega)];rfl)
   go_wp2
   go_ret
   exact ⟨by rw [HF.out];rfl,HK0.out.then HK.out⟩
section
variable {w : World} {p : Option Addr}
def NoT (w : World) (p : Option Addr) : Prop := p = none \/ ∃ b,p = some ⟨b,0,none⟩ /\ Has w b 48 #[.nilIface,.int .i64 0,.int .i64 0,.bool false,.int .i64 0,.int .i64 0,.int .u64 0,.int .i64 0,.slice none 0 0]
theorem NoT.kept {w w' : World} {p : Option Addr} (h : NoT w p) (hk : Kept NoF w w') : NoT w' p := by
 rcases h with h | ⟨b,h,hh⟩
 ·exact .inl h
 ·exact .inr ⟨b,h,hh.kept hk (fun z => z)⟩
end
end Ask
namespace Ask
open Plan Ops Ent Msg MO Vn
attribute [local go_sem ↓] storeVar_msg loadVar_msg
theorem askA_good (w : World) : QGood w askA := ⟨Src.nil _ _ _,Nat.le_refl _,by show (0 : Nat) <= maxLen;unfold maxLen;decide,fun o ho => (by cases ho),by unfold I64;decide,by unfold I64;decide,by unfold I64;decide,by unfold maxTs;decide,by show (0 : Nat) <= maxLen;unfold maxLen;decide,by show (0 : Nat) <= maxLen;unfold maxLen;decide⟩
theorem awake_a (w : World) : Calls Try.prog 8 #[] w fun e w' => e = .returned (.bool true) /\ Kept NoF w w' := by
 have hnew := pnew_any w 0 3 askA (askA_good w) (by decide)
 have HNEW := hZ0 hnew
 clear hnew
 unfold askA qagg qcell at HNEW
 dsimp only [List.length_nil] at HNEW
 go_enter Try.func8,Try.ntmps8
 go_wp2_with fail
 refine HNEW.out.mono ?_
 rintro e w1 ⟨-,hp⟩
 obtain ⟨X,rfl,hp,hft,hk1⟩ := hp askA_ok
 have hok := TOk.new (cl := 0) (rq := 3) (a := askA) (by unfold I64;decide) askA_ok
 have hp' : PAt w1 X (newT 0 3 askA) := hp
 have hnx := pnext_any hp' hok (by decide) 0 (-1)
 unfold NextPost at hnx
 rw [askA_next] at hnx
 have HNX := hZ0 hnx;have HP := hZ0 hp';have HK1 := hZ0 hk1;have HFT := hZ0 (show ∀ k,foot X (newT 0 3 askA) k -> w.heap.size <= k from hft);have HOK := hZ0 hok
 clear hnx hp hp' hk1 hft hok HNEW
 go_wp2_with fail
 refine HNX.out.mono ?_
 rintro e w2 ⟨A2,c2,rfl,-,-,-,hk2⟩
 obtain ⟨Wz,W3,hWz,hst,hb3,hk3⟩ := lay_msg w2 { zmsg with k := 9,req := 3,at' := 5,n := 2,oA := A2,oc := c2 }
 have HK3 := hZ0 (hk2.then hk3);have HB3 := hZ0 hb3
 have HK13 := hZ0 (HK1.out.then (hk2.then hk3))
 unfold xcell zmsg at hst
 dsimp only [List.length_nil] at hst
 unfold xagg xcell zmsg
 dsimp only [List.length_nil]
 obtain ⟨x2,hx2⟩ : ∃ x2,w2.heap.size = x2 := ⟨_,rfl⟩
 rw [hx2] at hst HB3
 have HX2 := hZ0 (And.intro hx2 hk2.size)
 -- the pairs,the message
 obtain ⟨W4,hW4⟩ : ∃ W4,W3.alloc (.cells (pcells prsA).toArray 68) = W4 := ⟨_,rfl⟩
 have hk4 : Kept NoF W3 W4 := by rw [<- hW4];(repeat' (first | (with_reducible first | exact kR0 | apply kP0 | apply kN0 | apply kD0 | apply kA0) | (right;simp;done)))
 have hn4 : Has W4 W3.heap.size 68 (pcells prsA).toArray := by rw [<- hW4];exact Has.new _ _ _
 have hp4 := HP.out.quiet (HK3.out.then hk4)
 have htk : ∀ c,2 <= c -> c <= maxLen -> Calls Try.prog 11 #[.pointer (some ⟨X.b,0,none⟩),.int .i64 1,xagg (msgA W3.heap.size c)] W4 (PPost W4 X (newT 0 3 askA) (.bool true) tsA) := fun c h1 h2 => by
  have := ptake_any hp4 HOK.out 1 (msgA W3.heap.size c) ⟨Src.of_has (m := 2) (size := 2) hn4 rfl,⟨h1,h2⟩,fun _ ad e hf => by
   have e2 : ad = ⟨W3.heap.size,0,none⟩ := by have e3 : some (⟨W3.heap.size,0,none⟩ : Addr) = some ad := e;injection e3 with e3;exact e3.symm
   subst e2
   have h9 : W3.heap.size < w1.heap.size := HP.out.lt hf
   have := HK3.out.size;omega,fun y hy => by
   unfold maxLen
   rcases List.mem_cons.1 hy with rfl | hy
   ·decide
   ·rcases List.mem_cons.1 hy with rfl | hy
    ·decide
    ·cases hy⟩
  rw [askA_take] at this
  exact this
 have HTK := hZ0 htk;have HK4 := hZ0 hk4
 unfold msgA prsA xagg xcell zmsg at HTK
 dsimp only [List.length_cons,List.length_nil] at HTK
 simp only [pcells,pcell,prsA,List.flatMap_cons,List.flatMap_nil,List.cons_append,List.nil_append] at hW4
 clear hk2 hk3 hb3 hk4 hn4 hp4 htk
 go_wp2_with fail
 clear hW4 hWz hst hx2
 refine (HTK.out 2 (by decide) (by unfold maxLen;decide)).mono ?_
 rintro e w5 ⟨rfl,X',hp5,hb5,hft5,hk5⟩
 have hok5 : TOk tsA := by
  have := HOK.out.take 1 (msgA 0 0)
  rw [askA_take] at this
  exact this
 have hnx := pnext_any hp5 hok5 (by decide) 0 (-1)
 unfold NextPost at hnx
 rw [askA_next2,hb5] at hnx
 have hbx := (HB3.out.kept HK4.out (fun z => z)).kept hk5 (fun hf => by have h9 := HP.out.lt hf;have := HX2.out;omega)
 have HNX2 := hZ0 hnx;have HBX := hZ0 hbx;have HK5 := hZ0 hk5
 clear hnx hbx hp5 hb5 hft5 hk5 hok5
 go_wp2_with fail
 refine HNX2.out.mono ?_
 rintro e w6 ⟨A6,c6,rfl,-,-,-,hk6⟩
 obtain ⟨Wy,W7,hWy,hst,hb7,hk7⟩ := lay_msg w6 { zmsg with k := 9,req := 3,key := ⟨#[98,0]⟩,at' := 5,n := 1,oA := A6,oc := c6 }
 have hbx := (HBX.out.kept hk6 (fun z => z)).kept hk7 (fun z => z)
 have g0 : W7.cell? ⟨x2,0,none⟩ = some (.int .i64 9) := hbx.cell 0
 have g7 : W7.cell? ⟨x2,7,none⟩ = some (.int .i64 2) := hbx.cell 7
 unfold xcell zmsg at hst hb7
 dsimp only [List.length_nil] at hst hb7
 unfold xagg xcell zmsg
 dsimp only [List.length_nil]
 obtain ⟨x6,hx6⟩ : ∃ x6,w6.heap.size = x6 := ⟨_,rfl⟩
 rw [hx6] at hst hb7
 have f7 : W7.cell? ⟨x6,7,none⟩ = some (.int .i64 1) := hb7.cell 7
 have f11 : W7.cell? ⟨x6,11,none⟩ = some (.string ⟨#[98,0]⟩) := hb7.cell 11
 have HE := hZ0 (show Kept NoF w W7 from (((HK13.out.then HK4.out).mono (G := foot X (newT 0 3 askA)) (fun _ z => z.elim)).then HK5.out).trans (hk6.then hk7) (fun _ z => z.elim) |>.trans (Kept.refl NoF W7) (fun _ z => z.elim) |> fun h => ⟨h.os,h.tape,h.output,h.size,fun k hk _ => h.block k hk (fun hf => by have := HFT.out k hf;omega)⟩)
 clear hbx hb7 hk6 hk7
 go_wp2
 go_ret
 exact ⟨rfl,HE.out⟩
end Ask
end Go.Proofs.Ytobfdolhgnoedaa
