/- Part 54 of what the proof needs. -/
import Derived.Test.YtolkgbafebehfaaGreatHP46
import Derived.Test.YtolkgbafebehfaaGreatHP52
set_option linter.unusedSimpArgs false
set_option linter.unusedVariables false
set_option maxHeartbeats 32000000
set_option maxRecDepth 100000
namespace Go.Proofs.YtolkgbafebehfaaGreat
open Go.RowKit
set_option maxRecDepth 100000
namespace Mas
open Plan Vn Mst Wat IM Nte Msg MO
def fewA (a : ActR) : Bool := decide (a.x.ms.length <= 20) && decide (a.x.ops.length <= 20) && decide (a.x.es.length <= 20) && decide (a.x.ss.length <= 20) && decide (a.x.ps.length <= 40)
def fewP (l : List ActR) : Bool := (l.take 60).all fewA
theorem fewA_get {a : ActR} (h : fewA a = true) : a.x.ms.length <= 20 /\ a.x.ops.length <= 20 /\ a.x.es.length <= 20 /\ a.x.ss.length <= 20 /\ a.x.ps.length <= 40 := by
 unfold fewA at h
 simp only [Bool.and_eq_true,decide_eq_true_eq] at h
 exact ⟨h.1.1.1.1,h.1.1.1.2,h.1.1.2,h.1.2,h.2⟩
theorem fewA_not {a : ActR} (h : 20 < a.x.ms.length \/ 20 < a.x.ops.length \/ 20 < a.x.es.length \/ 20 < a.x.ss.length \/ 40 < a.x.ps.length) : fewA a = false := by
 cases hf : fewA a with
 | false => rfl
 | true => have := fewA_get hf;omega
theorem fewA_ok {a : ActR} (h1 : ¬ 20 < a.x.ms.length) (h2 : ¬ 20 < a.x.ops.length) (h3 : ¬ 20 < a.x.es.length) (h4 : ¬ 20 < a.x.ss.length) (h5 : ¬ 40 < a.x.ps.length) : fewA a = true := by
 unfold fewA
 simp only [Bool.and_eq_true,decide_eq_true_eq]
 omega
theorem fewP_get {l : List ActR} (h : fewP l = true) {i : Nat} {a : ActR} (hi : i < 60) (ha : l[i]? = some a) : fewA a = true := by
 unfold fewP at h
 rw [List.all_eq_true] at h
 exact h a (List.mem_of_getElem? (i := i) (by rw [List.getElem?_take,if_pos hi];exact ha))
theorem one_x (x : MsgR) : (xcell x).toArray.all (·.oneCell') = true := by simp [xcell,Value.oneCell']
abbrev zmsg : Array Value := #[.int .i64 0,.int .i64 0,.int .i64 0,.int .i64 0,.bool false,.int .u64 0,.int .u64 0,.int .i64 0,.int .i64 0,.int .i64 0,.int .i64 0,.string ⟨#[]⟩,.string ⟨#[]⟩,.int .i64 0,.slice none 0 0,.int .u64 0,.int .i64 0,.int .i64 0,.slice none 0 0,.slice none 0 0,.slice none 0 0,.slice none 0 0]
theorem lay_msg (w : World) (x : MsgR) : ∃ Wz W8,w.alloc (.cells zmsg 46) = Wz /\ (storeMsg ⟨w.heap.size,0,none⟩ (.agg (xcell x).toArray)).run Tryz.prog Wz = .ok () W8 /\ Has W8 w.heap.size 46 (xcell x).toArray /\ Kept NoF w W8 := by
 have hz : Has (w.alloc (.cells zmsg 46)) w.heap.size 46 zmsg := Has.new _ _ _
 have e1 : (w.alloc (.cells zmsg 46)).setRow w.heap.size (xcell x).toArray = w.alloc (.cells (xcell x).toArray 46) := World.setRow_alloc_new ..
 refine ⟨_,w.alloc (.cells (xcell x).toArray 46),rfl,?_,Has.new _ _ _,by (repeat' (first | (with_reducible first | exact kR0 | apply kP0 | apply kN0 | apply kD0 | apply kA0) | (right;simp;done)))⟩
 rw [<- e1]
 exact run_storeVar_row _ w.heap.size _ _ _ _ hz (show (Tryz.prog.info? 46).map (·.size) = some 22 by kernel_rfl) rfl (one_x x)
attribute [local go_sem ↓] storeVar_msg loadVar_msg
theorem few_any (w : World) (A : Option Addr) (c : Nat) (l : List ActR) (hl : Src w 24 A l.length (acells l)) (hls : ∀ a ∈ l,a.x.ms.length <= maxLen /\ a.x.ops.length <= maxLen /\ a.x.es.length <= maxLen /\ a.x.ss.length <= maxLen /\ a.x.ps.length <= maxLen) :
  Calls Tryz.prog 8 #[.slice A l.length c] w fun e w' => e = .returned (.bool (fewP l)) /\ Kept NoF w w' := by
 have hsh : fewP l = ((l.take 60).drop 0).all fewA := by rw [List.drop_zero];rfl
 have HL := hZ0 hl;have HLS := hZ0 hls;have HSH := hZ0 hsh
 clear hl hls hsh
 go_enter Tryz.func8,Tryz.ntmps8
 go_wp2_with fail
 go_loopw [3,4] (fun v3 v4 wr => ∃ i : Nat,i <= 60 /\ i <= l.length /\ v3 = .int .i64 i /\ fewP l = ((l.take 60).drop i).all fewA /\ Kept NoF w wr) (fun v3 _ _ => l.length - (intOf v3).toNat)
 case atStart => exact ⟨0,by omega,Nat.zero_le _,rfl,HSH.out,Kept.refl _ _⟩
 case round =>
  obtain ⟨i,hi,hi2,rfl,he,hk⟩ := hrel
  have HE := hZ0 he;have HK := hZ0 hk;clear he hk
  by_cases hil : i < l.length
  ·by_cases hi6 : i < 60
   ·obtain ⟨a,ha⟩ : ∃ a,l[i]? = some a := ⟨_,List.getElem?_eq_getElem hil⟩
    obtain ⟨ad,rfl,had,hld,-,-⟩ := run_loadMsg_row wr A l (HL.out.kept HK.out (fun _ _ z => z)) i a ha
    have hd : (l.take 60).drop i = a :: (l.take 60).drop (i + 1) := Plan.drop_cons (by rw [List.getElem?_take,if_pos hi6];exact ha)
    rw [hd,List.all_cons] at HE
    obtain ⟨k1,k2,k3,k4,k5⟩ := HLS.out a (List.mem_of_getElem? ha)
    unfold maxLen at k1 k2 k3 k4 k5
    obtain ⟨Wz,W8,hWz,hst,hh8,hk8⟩ := lay_msg wr a.x
    have p1 : W8.cell? ⟨wr.heap.size,14,none⟩ = some (.slice a.x.mA a.x.ms.length a.x.mc) := hh8.cell 14
    have p2 : W8.cell? ⟨wr.heap.size,18,none⟩ = some (.slice a.x.oA a.x.ops.length a.x.oc) := hh8.cell 18
    have p3 : W8.cell? ⟨wr.heap.size,19,none⟩ = some (.slice a.x.eA a.x.es.length a.x.ec) := hh8.cell 19
    have p4 : W8.cell? ⟨wr.heap.size,20,none⟩ = some (.slice a.x.sA a.x.ss.length a.x.sc) := hh8.cell 20
    have p5 : W8.cell? ⟨wr.heap.size,21,none⟩ = some (.slice a.x.pA a.x.ps.length a.x.pc) := hh8.cell 21
    have HK8 := hZ0 (HK.out.then hk8)
    have HNOT := hZ0 (fewA_not (a := a));have HOKA := hZ0 (fewA_ok (a := a))
    obtain ⟨cs,hcs⟩ : ∃ cs,(xcell a.x).toArray = cs := ⟨_,rfl⟩
    rw [hcs] at hld hst
    obtain ⟨n1,e1⟩ : ∃ n,a.x.ms.length = n := ⟨_,rfl⟩
    obtain ⟨n2,e2⟩ : ∃ n,a.x.ops.length = n := ⟨_,rfl⟩
    obtain ⟨n3,e3⟩ : ∃ n,a.x.es.length = n := ⟨_,rfl⟩
    obtain ⟨n4,e4⟩ : ∃ n,a.x.ss.length = n := ⟨_,rfl⟩
    obtain ⟨n5,e5⟩ : ∃ n,a.x.ps.length = n := ⟨_,rfl⟩
    rw [e1] at k1 p1
    rw [e2] at k2 p2
    rw [e3] at k3 p3
    rw [e4] at k4 p4
    rw [e5] at k5 p5
    rw [e1,e2,e3,e4,e5] at HNOT HOKA
    clear hd ha hh8 hk8 hcs e1 e2 e3 e4 e5
    have hbad : fewA a = false -> fewP l = false := fun h => by rw [HE.out,h,Bool.false_and]
    have HBAD := hZ0 hbad;clear hbad
    by_cases g1 : 20 < n1
    ·have g1' : (20 : Int) < (n1 : Int) := by omega
     have HF := hZ0 (HBAD.out (HNOT.out (by omega)))
     clear g1 k2 k3 k4 k5 p2 p3 p4 p5
     go_wp2
     go_ret
     exact ⟨by rw [HF.out];rfl,HK8.out⟩
    have g1' : ¬ (20 : Int) < (n1 : Int) := by omega
    by_cases g2 : 20 < n2
    ·have g2' : (20 : Int) < (n2 : Int) := by omega
     have HF := hZ0 (HBAD.out (HNOT.out (by omega)))
     clear g1 g2 k3 k4 k5 p3 p4 p5
     go_wp2
     go_ret
     exact ⟨by rw [HF.out];rfl,HK8.out⟩
    have g2' : ¬ (20 : Int) < (n2 : Int) := by omega
    by_cases g3 : 20 < n3
    ·have g3' : (20 : Int) < (n3 : Int) := by omega
     have HF := hZ0 (HBAD.out (HNOT.out (by omega)))
     clear g1 g2 g3 k4 k5 p4 p5
     go_wp2
     go_ret
     exact ⟨by rw [HF.out];rfl,HK8.out⟩
    have g3' : ¬ (20 : Int) < (n3 : Int) := by omega
    by_cases g4 : 20 < n4
    ·have g4' : (20 : Int) < (n4 : Int) := by omega
     have HF := hZ0 (HBAD.out (HNOT.out (by omega)))
     clear g1 g2 g3 g4 k5 p5
     go_wp2
     go_ret
     exact ⟨by rw [HF.out];rfl,HK8.out⟩
    have g4' : ¬ (20 : Int) < (n4 : Int) := by omega
    by_cases g5 : 40 < n5
    ·have g5' : (40 : Int) < (n5 : Int) := by omega
     have HF := hZ0 (HBAD.out (HNOT.out (by omega)))
     clear g1 g2 g3 g4 g5
     go_wp2
     go_ret
     exact ⟨by rw [HF.out];rfl,HK8.out⟩
    have g5' : ¬ (40 : Int) < (n5 : Int) := by omega
    have HGO := hZ0 (show fewP l = ((l.take 60).drop (i + 1)).all fewA by rw [HE.out,HOKA.out g1 g2 g3 g4 g5,Bool.true_and])
    clear g1 g2 g3 g4 g5
    go_wp2
    go_roundw
    case rel => exact ⟨i + 1,by omega,by omega,by go_num,HGO.out,HK8.out⟩
    case measure => simp [intOf];omega
   ·obtain rfl : i = 60 := by omega
    have HF := hZ0 (show fewP l = true by rw [HE.out,List.drop_eq_nil_of_le (by rw [List.length_take];omega)];rfl)
    go_wp2
    go_ret
    exact ⟨by rw [HF.out];rfl,HK.out⟩
  ·obtain rfl : i = l.length := by omega
   have HF := hZ0 (show fewP l = true by rw [HE.out,List.drop_eq_nil_of_le (by rw [List.length_take];omega)];rfl)
   go_wp2
   go_ret
   exact ⟨by rw [HF.out];rfl,HK.out⟩
def actM (M : MR) (a : ActR) : MR := if 0 <= a.k /\ a.k <= 3 then deliverM M a.n a.x else if a.k = 4 \/ a.k = 5 then tickM M else if a.k = 6 then joinM M a.n else if a.k = 7 then leaveM M a.n else M
section
variable {w w' : World} {X X0 : MX} {M M0 : MR} {c k : Nat}
def DoPost (w : World) (X : MX) (M : MR) (c : Nat) (a : ActR) (e : Ending) (w' : World) : Prop := e = .returned (.bool (decide (0 <= a.k /\ a.k <= 7))) /\ ∃ X',Step w X M w' X' (actM M a) /\ LgB X' (actM M a).lg (c + 6)
theorem MOk.act {w : World} (h : MOk M k) (a : ActR) (hi : I64 a.x.ser) (hok : XOk w a.x) : MOk (actM M a) (k + 1) := by
 unfold actM
 split
 ·exact h.deliver a.n a.x hi hok
 split
 ·exact h.tick.mono (Nat.le_succ _)
 split
 ·exact h.join a.n
 split
 ·exact h.leave a.n
 ·exact h.mono (Nat.le_succ _)
theorem joinM_out (M : MR) (i : Int) : (joinM M i).out = M.out := by unfold joinM;split <;> rfl
theorem leaveM_out (M : MR) (i : Int) : (leaveM M i).out = M.out := by unfold leaveM;split <;> rfl
theorem actM_out (M : MR) (a : ActR) (h : M.out = []) : (actM M a).out = [] := by
 unfold actM
 split
 ·unfold deliverM
  split
  ·rfl
  ·exact h
 split
 ·rfl
 split
 ·rw [joinM_out];exact h
 split
 ·rw [leaveM_out];exact h
 ·exact h
theorem Step.of_out {o : List OutR} {e : Ending} (h : OutPost w X M c o M0 e w') : (∃ v : Value,e = .returned v) /\ ∃ X',Step w X M w' X' M0 /\ LgB X' M0.lg c := by
 obtain ⟨A,d,rfl,_,_,X',h4,h5,_⟩ := h
 exact ⟨⟨_,rfl⟩,X',h4,h5⟩
attribute [local go_sem ↓] loadVar_msg
theorem do_any (h : MAt w X M) (hb : LgB X M.lg c) (hc : c <= 2900) (hm : MOk M k) (hk : k <= 900) (ho : M.out = []) (a : ActR) (hx : XOk w a.x) (hxs : I64 a.x.ser) (hi64 : I64 a.n) :
  Calls Tryz.prog 14 #[.pointer (some ⟨X.mb,0,none⟩),.agg (acell a).toArray] w (DoPost w X M c a) := by
 obtain ⟨W0,hW0⟩ : ∃ W0,w.alloc (.cells (acell a).toArray 48) = W0 := ⟨_,rfl⟩
 have hk0 : Kept NoF w W0 := by rw [<- hW0];(repeat' (first | (with_reducible first | exact kR0 | apply kP0 | apply kN0 | apply kD0 | apply kA0) | (right;simp;done)))
 have hn0 : Has W0 w.heap.size 48 (acell a).toArray := by rw [<- hW0];exact Has.new _ _ _
 have hld := run_loadMsg_act W0 w.heap.size a hn0
 have hol : M.out.length <= 90 := by rw [ho];decide
 have q0 : W0.cell? ⟨w.heap.size,0,none⟩ = some (.int .i64 a.k) := hn0.cell 0
 have q1 : W0.cell? ⟨w.heap.size,1,none⟩ = some (.int .i64 a.n) := hn0.cell 1
 have hq := h.quiet hk0
 have hA : ∀ W' M9 X9 d,d <= 6 -> actM M a = M9 -> Step W0 X M W' X9 M9 -> LgB X9 M9.lg (c + d) -> 0 <= a.k /\ a.k <= 7 -> DoPost w X M c a (.returned (.bool true)) W' := fun W' M9 X9 d hd e1 hs hl hk => by
  refine ⟨by rw [decide_eq_true hk],X9,?_⟩
  rw [e1]
  exact ⟨(Step.refl h hk0).trans hs,hl.mono (by omega)⟩
 have hdel := fun hk3 : 0 <= a.k /\ a.k <= 3 => (deliver_any hq hb hc hm hk hol a.n a.x (hx.kept hk0) hxs hi64).mono fun e W' hp => show (∃ v : Value,e = .returned v) /\ DoPost w X M c a (.returned (.bool true)) W' from by
  obtain ⟨h1,X9,h2,h3⟩ := Step.of_out hp
  exact ⟨h1,hA W' _ X9 3 (by omega) (by unfold actM;rw [if_pos hk3]) h2 h3 (by omega)⟩
 have htick := fun hk3 : a.k = 4 \/ a.k = 5 => (tick_any hq hb hc hm (by omega) hol).mono fun e W' hp => show (∃ v : Value,e = .returned v) /\ DoPost w X M c a (.returned (.bool true)) W' from by
  obtain ⟨h1,X9,h2,h3⟩ := Step.of_out hp
  exact ⟨h1,hA W' _ X9 6 (by omega) (by unfold actM;rw [if_neg (by omega),if_pos hk3]) h2 h3 (by omega)⟩
 have hjoin := fun hk3 : a.k = 6 => (mjoin_any hq hb hm (by omega) a.n).mono fun e W' hp => show (∃ v : Value,e = .returned v) /\ DoPost w X M c a (.returned (.bool true)) W' from by
  obtain ⟨h1,X9,h2,h3⟩ := hp
  exact ⟨⟨_,h1⟩,hA W' _ X9 0 (by omega) (by unfold actM;rw [if_neg (by omega),if_neg (by omega),if_pos hk3]) h2 h3 (by omega)⟩
 have hleave := fun hk3 : a.k = 7 => (mleave_any hq hb hm (by omega) a.n).mono fun e W' hp => show (∃ v : Value,e = .returned v) /\ DoPost w X M c a (.returned (.bool true)) W' from by
  obtain ⟨h1,X9,h2,h3⟩ := hp
  exact ⟨⟨_,h1⟩,hA W' _ X9 0 (by omega) (by unfold actM;rw [if_neg (by omega),if_neg (by omega),if_neg (by omega),if_pos hk3]) h2 h3 (by omega)⟩
 have hnone : ¬ (0 <= a.k /\ a.k <= 7) -> DoPost w X M c a (.returned (.bool false)) W0 := fun hn => by
  refine ⟨by rw [decide_eq_false hn],X,?_⟩
  have e1 : actM M a = M := by unfold actM;rw [if_neg (by omega),if_neg (by omega),if_neg (by omega),if_neg (by omega)]
  rw [e1]
  exact ⟨Step.refl h hk0,hb.mono (by omega)⟩
 obtain ⟨Q,hQ⟩ : ∃ Q,DoPost w X M c a = Q := ⟨_,rfl⟩
 simp only [hQ] at hdel htick hjoin hleave hnone ⊢
 obtain ⟨kk,hkk⟩ : ∃ kk,a.k = kk := ⟨_,rfl⟩
 obtain ⟨nn,hnn⟩ : ∃ nn,a.n = nn := ⟨_,rfl⟩
 obtain ⟨cs,hcs⟩ : ∃ cs,(xcell a.x).toArray = cs := ⟨_,rfl⟩
 have hdel' : 0 <= kk /\ kk <= 3 -> Calls Tryz.prog 20 #[.pointer (some ⟨X.mb,0,none⟩),.int .i64 nn,.agg cs] W0 fun e W' => (∃ v : Value,e = .returned v) /\ Q (.returned (.bool true)) W' := by rw [<- hkk,<- hnn,<- hcs];exact hdel
 rw [hkk] at htick hjoin hleave hnone q0
 rw [hnn] at hjoin hleave q1
 rw [hcs] at hld
 have HDEL := hZ0 hdel';have HTICK := hZ0 htick;have HJOIN := hZ0 hjoin;have HLEAVE := hZ0 hleave;have HNONE := hZ0 hnone
 clear hdel' hdel htick hjoin hleave hnone hA hq hn0 hk0 hol hQ hkk hnn hcs h hb hc hm hk ho hx hxs hi64
 by_cases hr : 0 <= kk /\ kk <= 7
 ·have hcase : kk = 0 \/ kk = 1 \/ kk = 2 \/ kk = 3 \/ kk = 4 \/ kk = 5 \/ kk = 6 \/ kk = 7 := by omega
  clear hr
  rcases hcase with rfl | rfl | rfl | rfl | rfl | rfl | rfl | rfl
  case' inl => have HX := hZ0 (HDEL.out (by decide))
  case' inr.inl => have HX := hZ0 (HDEL.out (by decide))
  case' inr.inr.inl => have HX := hZ0 (HDEL.out (by decide))
  case' inr.inr.inr.inl => have HX := hZ0 (HDEL.out (by decide))
  case' inr.inr.inr.inr.inl => have HX := hZ0 (HTICK.out (by decide))
  case' inr.inr.inr.inr.inr.inl => have HX := hZ0 (HTICK.out (by decide))
  case' inr.inr.inr.inr.inr.inr.inl => have HX := hZ0 (HJOIN.out rfl)
  case' inr.inr.inr.inr.inr.inr.inr => have HX := hZ0 (HLEAVE.out rfl)
  all_goals (
   clear HDEL HTICK HJOIN HLEAVE HNONE
   go_enter Tryz.func14,Tryz.ntmps14
   go_wp2_with fail
   clear hW0 q0 q1 hld
   refine HX.out.mono ?_
   rintro e w2 ⟨⟨v,rfl⟩,hq⟩
   have HQ := hZ0 hq;clear hq
   go_wp2
   exact HQ.out)
 ·have HX := hZ0 (HNONE.out hr)
  have n0 : (kk == 0) = false := by simp;omega
  have n1 : (kk == 1) = false := by simp;omega
  have n2 : (kk == 2) = false := by simp;omega
  have n3 : (kk == 3) = false := by simp;omega
  have n4 : (kk == 4) = false := by simp;omega
  have n5 : (kk == 5) = false := by simp;omega
  have n6 : (kk == 6) = false := by simp;omega
  have n7 : (kk == 7) = false := by simp;omega
  clear HDEL HTICK HJOIN HLEAVE HNONE hr hld q1
  go_enter Tryz.func14,Tryz.ntmps14
  go_wp2
  exact HX.out
end
end Mas
namespace Mas
open Plan Vn Mst Wat IM Nte Msg MO
theorem beatA_ok (w : World) : XOk w beatA :=
 ⟨Src.nil _ _ _,Nat.le_refl _,Nat.zero_le _,Src.nil _ _ _,Src.nil _ _ _,(fun y hy => by cases hy),Nat.zero_le _,Src.nil _ _ _,Nat.zero_le _,(fun y hy => by cases hy),Src.nil _ _ _,Nat.zero_le _,by unfold beatA;dsimp only;unfold maxTs;decide⟩
structure Own (w : World) (mb : Nat) (c k : Nat) (W : World) (X : MX) (M : MR) : Prop where
 mb : X.mb = mb
 at' : MAt W X M
 lb : LgB X M.lg c
 ok : MOk M k
 nw : ∀ q,foot X M q -> w.heap.size <= q
 kp : Kept NoF w W
theorem Own.step {w W W' : World} {mb c k c' k' : Nat} {X X' : MX} {M M' : MR} (h : Own w mb c k W X M) (hs : Step W X M W' X' M') (hl : LgB X' M'.lg c') (hk : MOk M' k') : Own w mb c' k' W' X' M' := by
 refine ⟨hs.mb.trans h.mb,hs.at',hl,hk,fun q hq => ?_,h.kp.trans hs.k (fun q hq => .inr (h.nw q hq))⟩
 rcases hs.g q hq with y | y
 ·exact h.nw q y
 ·have := h.kp.size;omega
theorem Own.quiet {w W W' : World} {mb c k : Nat} {X : MX} {M : MR} (h : Own w mb c k W X M) (hk : Kept NoF W W') : Own w mb c k W' X M := ⟨h.mb,h.at'.quiet hk,h.lb,h.ok,h.nw,h.kp.then hk⟩
theorem Own.new {w w1 w2 : World} {F : Nat -> Prop} {ep fl : Int} {l : List Mem} {X : MX} (hk1 : Kept NoF w w1) (hF : ∀ k,F k -> w.heap.size <= k) (hfl : 0 <= fl /\ fl <= maxTs) (hm : MAt w2 X (newM ep l fl)) (hlb : LgB X (newM ep l fl).lg 2) (hft : ∀ k,foot X (newM ep l fl) k -> F k \/ w1.heap.size <= k) (hk2 : Kept F w1 w2) : Own w X.mb 2 0 w2 X (newM ep l fl) :=
 ⟨rfl,hm,hlb,newM_ok hfl,(fun q hq => by
  rcases hft q hq with y | y
  ·exact hF q y
  ·have := hk1.size;omega),hk1.trans hk2 (fun q hq => .inr (hF q hq))⟩
theorem i64_1 : I64 1 := i64_small (by decide) (by decide)
theorem chkAA : Plan.chk 1 [(0,1),(1,1)] = 0 := by decide
theorem awake_m (w : World) : Calls Tryz.prog 9 #[] w fun e w' => e = .returned (.bool true) /\ Kept NoF w w' := by
 go_enter Tryz.func9,Tryz.ntmps9
 go_wp2_with fail
 refine (Disk.new_any w).mono ?_
 rintro e w1 ⟨g,F,rfl,hd,hk1,hF⟩
 obtain ⟨W1,hW1⟩ : ∃ W1,w1.alloc (.cells #[.int .i64 0,.int .i64 1,.int .i64 1,.int .i64 1] 53) = W1 := ⟨_,rfl⟩
 have hkw : Kept NoF w1 W1 := by rw [<- hW1];(repeat' (first | (with_reducible first | exact kR0 | apply kP0 | apply kN0 | apply kD0 | apply kA0) | (right;simp;done)))
 have hnb : Has W1 w1.heap.size 53 #[.int .i64 0,.int .i64 1,.int .i64 1,.int .i64 1] := by rw [<- hW1];exact Has.new _ _ _
 have hnew := mnew_any W1 g F 1 1 1 0 (some ⟨w1.heap.size,0,none⟩) 2 [(0,1),(1,1)] (hd.kept hkw (fun _ _ z => z)) (Src.of_has (t := 53) (size := 2) (m := 2) (cs := #[.int .i64 0,.int .i64 1,.int .i64 1,.int .i64 1]) hnb rfl) (fun _ ad e hf => by injection e with e;subst e;exact absurd (hd.lt _ hf) (Nat.lt_irrefl _)) (by decide) (by decide) ⟨by decide,by decide⟩ chkAA
 have HNEW := hZ0 hnew;have HK1 := hZ0 (hk1.then hkw);have HF := hZ0 hF
 clear hnew hkw hnb hd hk1 hF
 go_wp2_with fail
 clear hW1
 refine HNEW.out.mono ?_
 rintro e w2 ⟨X,rfl,hm,hlb,-,hft,hk2⟩
 have ho := Own.new HK1.out HF.out ⟨by decide,by decide⟩ hm hlb hft hk2
 obtain ⟨mb,hmb⟩ : ∃ mb,X.mb = mb := ⟨_,rfl⟩
 rw [hmb] at ho ⊢
 have HO := hZ0 ho;clear ho hm hlb hft hk2 hmb HK1 HF HNEW
 go_wp2_with fail
 go_loopw [3] (fun v3 wr => ∃ (i : Nat) (M : MR) (X1 : MX),i <= 6 /\ v3 = .int .i64 i /\ Own w mb (2 + 9 * i) i wr X1 M /\ (i <= 5 -> AwR M i) /\ (i = 6 -> M.st.ep = 2 /\ M.st.ms = [(1,1)])) (fun v3 _ => 6 - (intOf v3).toNat)
 case atStart => exact ⟨0,_,X,by omega,rfl,HO.out,fun _ => awA,fun h => by omega⟩
 case round =>
  obtain ⟨i,M,X1,hi,rfl,ho,ha,hz⟩ := hrel
  by_cases hil : i < 6
  ·have haw := ha (by omega)
   have hol : M.out.length <= 90 := by rw [haw.out];decide
   have hdel := deliver_any ho.at' ho.lb (by omega) ho.ok (by omega) hol 1 beatA (beatA_ok wr) i64_1 i64_1
   rw [ho.mb] at hdel
   have hd1 := ho.ok.deliver 1 beatA i64_1 (beatA_ok wr)
   have hout : (deliverM M 1 beatA).out.length <= 90 := by rw [haw.d.out];decide
   have htick : ∀ W X2,Step wr X1 M W X2 (deliverM M 1 beatA) -> LgB X2 (deliverM M 1 beatA).lg (2 + 9 * i + 3) -> Calls Tryz.prog 21 #[.pointer (some ⟨mb,0,none⟩)] W fun e W' => (∃ v : Value,e = .returned v) /\ ∃ X3,Own w mb (2 + 9 * (i + 1)) (i + 1) W' X3 (tickM (deliverM M 1 beatA)) := fun W X2 hs hl => by
    have h2 := ho.step hs hl hd1
    have ht := tick_any h2.at' h2.lb (by omega) h2.ok (by omega) hout
    rw [h2.mb] at ht
    refine ht.mono fun e W' hp => ?_
    obtain ⟨h3,X3,h4,h5⟩ := Step.of_out hp
    exact ⟨h3,X3,h2.step h4 (h5.mono (by omega)) hd1.tick⟩
   have hfin : (i + 1 <= 5 -> AwR (tickM (deliverM M 1 beatA)) (i + 1)) /\ (i + 1 = 6 -> (tickM (deliverM M 1 beatA)).st.ep = 2 /\ (tickM (deliverM M 1 beatA)).st.ms = [(1,1)]) := by
    refine ⟨fun h => haw.d.tick (by omega),fun h => ?_⟩
    obtain rfl : i = 5 := by omega
    exact haw.d.last5
   have hdel2 := hdel.mono fun e W' hp => show (∃ v : Value,e = .returned v) /\ ∃ X',Step wr X1 M W' X' (deliverM M 1 beatA) /\ LgB X' (deliverM M 1 beatA).lg (2 + 9 * i + 3) from Step.of_out hp
   obtain ⟨M2,hM2⟩ : ∃ M2,deliverM M 1 beatA = M2 := ⟨_,rfl⟩
   simp only [hM2] at hdel2 htick hfin
   simp only [beatA,xagg,xcell,List.length_nil] at hdel2
   have HD := hZ0 hdel2;have HT := hZ0 htick;have HFI := hZ0 hfin
   clear hdel hdel2 hd1 hout htick hfin haw hol ho ha hz hM2
   go_wp2_with fail
   refine HD.out.mono ?_
   rintro e w4 ⟨⟨v,rfl⟩,X2,hs,hl⟩
   have HTT := hZ0 (HT.out w4 X2 hs hl);clear hs hl
   go_wp2_with fail
   refine HTT.out.mono ?_
   rintro e w5 ⟨⟨v5,rfl⟩,X3,ho3⟩
   have HO3 := hZ0 ho3;clear ho3
   go_wp2_with fail
   go_roundw
   case rel => exact ⟨i + 1,_,X3,by omega,by go_num,HO3.out,HFI.out.1,HFI.out.2⟩
   case measure => simp [intOf];omega
  ·obtain rfl : i = 6 := by omega
   obtain ⟨hz1,hz2⟩ := hz rfl
   have hcf := mconf_any ho.at' ho.ok.st.inv.ok
   rw [ho.mb,hz1,hz2] at hcf
   obtain ⟨fl,hfl⟩ : ∃ fl,M.st.fl = fl := ⟨_,rfl⟩
   rw [hfl] at hcf
   have HCF := hZ0 hcf;have HKP := hZ0 ho.kp
   clear hcf ho ha hz hz1 hz2 hfl
   go_wp2_with fail
   refine HCF.out.mono ?_
   rintro e w4 ⟨A,c4,rfl,hn,hk4⟩
   obtain ⟨g',cap,hv,_,_⟩ := hn.1.form (by decide)
   have hc := (Src.of_own hn.1).2 (by decide)
   obtain ⟨ad,had,hlt,hcell⟩ := hc
   have e1 : A = some ⟨g',0,none⟩ := by injection hv
   subst e1
   have e2 : ad = ⟨g',0,none⟩ := by injection had with had;exact had.symm
   subst e2
   have d0 : ∀ o,(w4.alloc o).cell? ⟨g',0,none⟩ = some (.int .i64 1) := fun o => by
    have h5 : Kept NoF w4 (w4.alloc o) := by (repeat' (first | (with_reducible first | exact kR0 | apply kP0 | apply kN0 | apply kD0 | apply kA0) | (right;simp;done)))
    obtain ⟨ad,had,_,hcell⟩ := ((Src.of_own hn.1).kept h5 (fun _ _ z => z)).2 (by decide)
    injection had with had
    subst had
    exact hcell 0 _ rfl
   have HK4 := hZ0 (HKP.out.then hk4)
   clear hn hk4 hv hcell hlt had
   go_wp2_with fail
   go_ret
   exact ⟨rfl,by (repeat' (first | (with_reducible first | exact kR0 | apply kP0 | apply kN0 | apply kD0 | apply kA0) | (exact HK4.out) | (right;simp;done)))⟩
end Mas
end Go.Proofs.YtolkgbafebehfaaGreat
