/- Part 37 of what the proof needs. -/
import Derived.Test.YtgbigpdiacjbgaaGreatKO18
import Derived.Test.YtgbigpdiacjbgaaGreatKO21
import Derived.Test.YtgbigpdiacjbgaaGreatKO22
import Derived.Test.YtgbigpdiacjbgaaGreatKO32
set_option linter.unusedSimpArgs false
set_option linter.unusedVariables false
set_option maxHeartbeats 32000000
set_option maxRecDepth 100000
namespace Go.Proofs.YtgbigpdiacjbgaaGreat
open Go.RowKit
set_option maxRecDepth 100000
namespace Cli
open Plan Ops Ent Msg Vn Go.Proofs.YtgbigpdiacjbgaaGreat.Ask
def NoneV (w : World) (v : Value) : Prop := ∀ W,Kept NoF w W -> Calls Tryz.prog 24 #[v] W fun e w' => e = .returned (.bool true) /\ W = w'
theorem NoneV.kept {w w' : World} {v : Value} (h : NoneV w v) (hk : Kept NoF w w') : NoneV w' v := fun W hW => h W (hk.then hW)
section
variable {w : World} {v : Value}
end
end Cli
namespace Cli
open Plan Ops Ent Msg Vn Go.Proofs.YtgbigpdiacjbgaaGreat.Ask
structure ActC where
 k : Int
 a : AskR
 fr : Int
 body : ByteArray
def acellC (x : ActC) : List Value := .int .i64 x.k :: (qcell x.a ++ [.int .i64 x.fr,.string x.body])
def acellsC (l : List ActC) : List Value := l.flatMap acellC
theorem act_cellsC {w : World} {A : Option Addr} {m : Nat} {l : List ActC} (h : Src w 10 A m (acellsC l)) (hm : 0 < m) (i : Nat) (x : ActC) (hx : l[i]? = some x) :
  ∃ ad,A = some ad /\ ad.block < w.heap.size /\ ∀ j u,(acellC x)[j]? = some u -> w.cell? ((ad.add (i * 10)).add j) = some u := by
 obtain ⟨ad,rfl,had,hcell⟩ := h.2 hm
 refine ⟨ad,rfl,had,fun j u hu => ?_⟩
 have hj : j < 10 := (List.getElem?_eq_some_iff.1 hu).1
 rw [add_add]
 refine hcell _ _ ?_
 unfold acellsC
 rw [flat_get acellC 10 (by decide) (fun _ => rfl),show (i * 10 + j) / 10 = i by omega,show (i * 10 + j) % 10 = j by omega,hx]
 exact hu
def fewC (x : ActC) : Bool := decide (x.a.ops.length <= 20) && (decide (x.a.key.size <= 100) && (decide (x.a.to.size <= 100) && decide (x.body.size <= 3000)))
def fewL (l : List ActC) : Bool := (l.take 60).all fewC
theorem fewC_get {x : ActC} (h : fewC x = true) : x.a.ops.length <= 20 /\ x.a.key.size <= 100 /\ x.a.to.size <= 100 /\ x.body.size <= 3000 := by
 unfold fewC at h
 simp only [Bool.and_eq_true,decide_eq_true_eq] at h
 exact h
theorem fewC_not {x : ActC} (h : 20 < x.a.ops.length \/ 100 < x.a.key.size \/ 100 < x.a.to.size \/ 3000 < x.body.size) : fewC x = false := by
 cases hf : fewC x with
 | false => rfl
 | true => have := fewC_get hf;omega
theorem fewC_ok {x : ActC} (h1 : ¬ 20 < x.a.ops.length) (h2 : ¬ 100 < x.a.key.size) (h3 : ¬ 100 < x.a.to.size) (h4 : ¬ 3000 < x.body.size) : fewC x = true := by
 unfold fewC
 simp only [Bool.and_eq_true,decide_eq_true_eq]
 omega
theorem fewL_get {l : List ActC} (h : fewL l = true) {i : Nat} {x : ActC} (hi : i < 60) (hx : l[i]? = some x) : fewC x = true := by
 unfold fewL at h
 rw [List.all_eq_true] at h
 exact h x (List.mem_of_getElem? (i := i) (by rw [List.getElem?_take,if_pos hi];exact hx))
theorem few_any (w : World) (A : Option Addr) (c : Nat) (l : List ActC) (hl : Src w 10 A l.length (acellsC l)) (hls : ∀ x ∈ l,x.a.ops.length <= maxLen /\ x.a.key.size <= maxLen /\ x.a.to.size <= maxLen /\ x.body.size <= maxLen) :
  Calls Tryz.prog 6 #[.slice A l.length c] w fun e w' => e = .returned (.bool (fewL l)) /\ Kept NoF w w' := by
 have hsh : fewL l = ((l.take 60).drop 0).all fewC := by rw [List.drop_zero];rfl
 have HL := hZ0 hl;have HLS := hZ0 hls;have HSH := hZ0 hsh
 clear hl hls hsh
 go_enter Tryz.func6,Tryz.ntmps6
 go_wp2_with fail
 go_loopw [3] (fun v3 wr => ∃ i : Nat,i <= 60 /\ i <= l.length /\ v3 = .int .i64 i /\ fewL l = ((l.take 60).drop i).all fewC /\ Kept NoF w wr) (fun v3 _ => l.length - (intOf v3).toNat)
 case atStart => exact ⟨0,by omega,Nat.zero_le _,rfl,HSH.out,Kept.refl _ _⟩
 case round =>
  obtain ⟨i,hi,hi2,rfl,he,hk⟩ := hrel
  have HE := hZ0 he;have HK := hZ0 hk;clear he hk
  by_cases hil : i < l.length
  ·by_cases hi6 : i < 60
   ·obtain ⟨x,hx⟩ : ∃ x,l[i]? = some x := ⟨_,List.getElem?_eq_getElem hil⟩
    obtain ⟨ad,rfl,had,hc⟩ := act_cellsC (HL.out.kept HK.out (fun _ _ z => z)) (by omega) i x hx
    have p7 := hc 7 _ rfl
    have p3 := hc 3 _ rfl
    have p4 := hc 4 _ rfl
    have p9 := hc 9 _ rfl
    rw [add_lit _ (by decide)] at p7 p3 p4 p9
    have hd : (l.take 60).drop i = x :: (l.take 60).drop (i + 1) := Plan.drop_cons (by rw [List.getElem?_take,if_pos hi6];exact hx)
    rw [hd,List.all_cons] at HE
    obtain ⟨k1,k2,k3,k4⟩ := HLS.out x (List.mem_of_getElem? hx)
    unfold maxLen at k1 k2 k3 k4
    have HNOT := hZ0 (fewC_not (x := x));have HOKA := hZ0 (fewC_ok (x := x))
    have hbad : fewC x = false -> fewL l = false := fun h => by rw [HE.out,h,Bool.false_and]
    have HBAD := hZ0 hbad;clear hbad
    obtain ⟨xk,⟨ak,and',key,to,at',an,oA,oc,ops⟩,fr,body⟩ := x
    dsimp only at p7 p3 p4 p9 k1 k2 k3 k4
    obtain ⟨n1,e1⟩ : ∃ n,ops.length = n := ⟨_,rfl⟩
    rw [e1] at k1 p7
    have HOKB := hZ0 (show ¬ 20 < n1 -> ¬ 100 < key.size -> ¬ 100 < to.size -> ¬ 3000 < body.size -> fewC ⟨xk,⟨ak,and',key,to,at',an,oA,oc,ops⟩,fr,body⟩ = true by rw [<- e1];exact HOKA.out)
    have HNOB := hZ0 (show 20 < n1 \/ 100 < key.size \/ 100 < to.size \/ 3000 < body.size -> fewC ⟨xk,⟨ak,and',key,to,at',an,oA,oc,ops⟩,fr,body⟩ = false by rw [<- e1];exact HNOT.out)
    clear hd hx hc e1 HOKA HNOT
    by_cases g1 : 20 < n1
    ·have g1' : (20 : Int) < (n1 : Int) := by omega
     have HF := hZ0 (HBAD.out (HNOB.out (.inl g1)))
     clear g1 k2 k3 k4 p3 p4 p9
     go_wp2
     go_ret
     exact ⟨by rw [HF.out];rfl,HK.out⟩
    have g1' : ¬ (20 : Int) < (n1 : Int) := by omega
    by_cases g2 : 100 < key.size
    ·have g2' : (100 : Int) < (key.size : Int) := by omega
     have HF := hZ0 (HBAD.out (HNOB.out (.inr (.inl g2))))
     clear g1 g2 k3 k4 p4 p9
     go_wp2
     go_ret
     exact ⟨by rw [HF.out];rfl,HK.out⟩
    have g2' : ¬ (100 : Int) < (key.size : Int) := by omega
    by_cases g3 : 100 < to.size
    ·have g3' : (100 : Int) < (to.size : Int) := by omega
     have HF := hZ0 (HBAD.out (HNOB.out (.inr (.inr (.inl g3)))))
     clear g1 g2 g3 k4 p9
     go_wp2
     go_ret
     exact ⟨by rw [HF.out];rfl,HK.out⟩
    have g3' : ¬ (100 : Int) < (to.size : Int) := by omega
    by_cases g4 : 3000 < body.size
    ·have g4' : (3000 : Int) < (body.size : Int) := by omega
     have HF := hZ0 (HBAD.out (HNOB.out (.inr (.inr (.inr g4)))))
     clear g1 g2 g3 g4
     go_wp2
     go_ret
     exact ⟨by rw [HF.out];rfl,HK.out⟩
    have g4' : ¬ (3000 : Int) < (body.size : Int) := by omega
    have HGO := hZ0 (show fewL l = ((l.take 60).drop (i + 1)).all fewC by rw [HE.out,HOKB.out g1 g2 g3 g4,Bool.true_and])
    clear g1 g2 g3 g4
    go_wp2
    go_roundw
    case rel => exact ⟨i + 1,by omega,by omega,by go_num,HGO.out,HK.out⟩
    case measure => simp [intOf];omega
   ·obtain rfl : i = 60 := by omega
    have HF := hZ0 (show fewL l = true by rw [HE.out,List.drop_eq_nil_of_le (by rw [List.length_take];omega)];rfl)
    go_wp2
    go_ret
    exact ⟨by rw [HF.out];rfl,HK.out⟩
  ·obtain rfl : i = l.length := by omega
   have HF := hZ0 (show fewL l = true by rw [HE.out,List.drop_eq_nil_of_le (by rw [List.length_take];omega)];rfl)
   go_wp2
   go_ret
   exact ⟨by rw [HF.out];rfl,HK.out⟩
end Cli
namespace Cli
open Plan Ops Ent Msg Vn Go.Proofs.YtgbigpdiacjbgaaGreat.Ask
def askW : AskR := ⟨4,0,emp,emp,3,0,none,0,[]⟩
theorem askW_ok : newE 1 1 askW = 0 := by decide
theorem askW_good (w : World) : QGood w askW := ⟨Src.nil _ _ _,Nat.le_refl _,by show (0 : Nat) <= maxLen;exact Nat.zero_le _,(fun o ho => by cases ho),by unfold I64;decide,by unfold I64;decide,by unfold I64;decide,by show (0 : Int) <= 3 /\ (3 : Int) <= maxTs;unfold maxTs;decide,Nat.zero_le _,Nat.zero_le _⟩
theorem cl0_ok {id : Int} (h : 0 <= id /\ id < 3) : COk (cl0 id) := ⟨h,by show (0 : Int) <= 0 /\ (0 : Int) <= 1073741824;decide,by show (0 : Int) <= 0 /\ (0 : Int) <= 1073741824;decide,by show (-1 : Int) <= -1 /\ (-1 : Int) <= 4;decide,(fun t e => by cases e),Nat.zero_le _,by show (0 : Int) <= 0 /\ (0 : Int) <= 1073741824;decide⟩
theorem chkW : chkM { zmsg with k := 11,req := 1,at' := 3 } = 0 := by decide
theorem startW : startO (cl0 1) askW = [⟨4,mB (msgR { zmsg with k := 11,req := 1,at' := 3 })⟩] := by
 have e : nextT (newT 1 1 askW) 0 (-1) = (4,{ zmsg with k := 11,req := 1,at' := 3 }) := rfl
 show putO [] (nextT (newT 1 1 askW) 0 (-1)).1 (nextT (newT 1 1 askW) 0 (-1)).2 = _
 rw [e]
 unfold putO
 rw [if_pos ⟨chkW,by decide⟩]
 rfl
theorem awake_c (w : World) : Calls Tryz.prog 7 #[] w fun e w' => e = .returned (.bool true) /\ Kept NoF w w' := by
 have hnew := (cnew_any w 1).mono fun e w' hp => hp.2 (by decide)
 have HNEW := hZ0 hnew
 clear hnew
 go_enter Tryz.func7,Tryz.ntmps7
 go_wp2_with fail
 refine HNEW.out.mono ?_
 rintro e w1 ⟨X,rfl,hc,hf,hk1⟩
 have hst := start_ok hc (cl0_ok (by decide)) askW (askW_good w1) (by decide) rfl askW_ok
 unfold StartPost at hst
 rw [startW] at hst
 unfold qagg qcell askW at hst
 dsimp only [List.length_nil] at hst
 obtain ⟨cb,hcb⟩ : ∃ cb,X.cb = cb := ⟨_,rfl⟩
 rw [hcb] at hst ⊢
 have HST := hZ0 hst;have HF := hZ0 hf;have HK1 := hZ0 hk1;have HCB := hZ0 hcb
 clear hst hc hf hk1 hcb HNEW
 go_wp2_with fail
 refine HST.out.mono ?_
 rintro e w2 ⟨X',A,c,rfl,hs,ho⟩
 have hbz := busy_any hs.at'
 have hrq := req_any hs.at'
 rw [hs.cb,HCB.out] at hbz hrq
 have hbz : Calls Tryz.prog 14 #[.pointer (some ⟨cb,0,none⟩)] w2 fun e w' => e = .returned (.bool true) /\ w2 = w' := hbz
 have hrq : Calls Tryz.prog 13 #[.pointer (some ⟨cb,0,none⟩)] w2 fun e w' => e = .returned (.int .i64 1) /\ w2 = w' := hrq
 obtain ⟨ad,rfl,had,hcell⟩ := (Src.of_own ho.1).2 (by decide)
 have d0 : w2.cell? ad = some (.int .i64 4) := by
  have := hcell 0 _ rfl
  have e1 : ad.add 0 = ad := by unfold Addr.add;simp
  rwa [e1] at this
 have hbk : Kept NoF w w2 := HK1.out.trans hs.k (fun k hk => .inr (HF.out k hk))
 have HBZ := hZ0 hbz;have HRQ := hZ0 hrq;have HBK := hZ0 hbk
 clear hbz hrq hbk hs ho hcell had HF HK1 HCB HST
 go_wp2_with fail
 refine HBZ.out.mono ?_
 rintro e w3 ⟨rfl,rfl⟩
 go_wp2_with fail
 refine HRQ.out.mono ?_
 rintro e w3 ⟨rfl,rfl⟩
 go_wp2
 go_ret
 exact ⟨rfl,HBK.out⟩
attribute [local go_sem ↓] loadVar_ask
end Cli
namespace Ask
open Plan Ops Ent Msg MO Vn
def DI (t : TS) : Prop := t.ph = 0 -> t.key = t.a.key /\ t.ps = []
theorem DI.new (cl rq : Int) (a : AskR) : DI (newT cl rq a) := fun _ => ⟨rfl,rfl⟩
theorem DI.tick {t : TS} (h : DI t) : DI (tickT t).1 := by
 unfold tickT
 split
 ·exact h
 split
 ·exact h
 ·exact h
theorem DI.take {t : TS} (h : DI t) (f : Int) (x : MsgR) : DI (takeT t f x).1 := by
 unfold takeT
 split
 ·exact h
 split
 ·unfold takeW
  split
  ·exact h
  split
  ·exact h
  split
  ·exact h
  ·intro e;cases e
 split
 ·rename_i h1
  unfold takeR
  split
  ·exact h
  split
  ·exact h
  split
  ·exact h
  ·unfold pageT
   split
   ·intro e
    have e' : t.ph = 0 := e
    omega
   ·intro e
    have e' : t.ph = 0 := e
    omega
 ·unfold takeA
  split
  ·exact h
  split
  ·exact h
  ·exact h
end Ask
namespace Snd
open Plan Ops Ent Msg Vn Go.Proofs.YtgbigpdiacjbgaaGreat.Ask Mof Cof
def layP (x y : MsgR) (c : Nat) : MsgR :=
 if isNum c = true then setNum y c (numI x c)
 else if c = 66 then { y with bcl := x.bcl,breq := x.breq,ops := x.ops }
 else if c = 97 then { y with at' := x.at' }
 else if c = 107 then { y with key := x.key }
 else if c = 116 then { y with to := x.to }
 else y
theorem partB_66 (x : MsgR) : partB x 66 = putT (batR (xbat x)) := rfl
theorem readP_put {s : ByteArray} {i : Nat} {l : List UInt8} {x : MsgR} (y : MsgR) {c : Nat} (hc : c ∈ letS) (hw : wrongE x c = 0) (ht : 0 <= x.at' /\ x.at' <= maxTs) (hR : Ops.Rest s i (partB x c ++ l)) : readP s c y (i,0) = (layP x y c,(i + (partB x c).length,0),0) := by
 unfold letS at hc
 simp only [List.mem_cons,List.not_mem_nil,or_false] at hc
 have hnum : isNum c = true -> readP s c y (i,0) = (layP x y c,(i + (partB x c).length,0),0) := fun hn => by
  have hp : partB x c = put (numI x c).toNat := by unfold partB;rw [if_pos hn]
  have hr : ¬ (numI x c < 0 \/ 1073741824 < numI x c) := by
   intro h
   unfold wrongE rngM at hw
   rw [if_pos hn,if_pos h] at hw
   cases hw
  rw [hp] at hR
  have g := rNum_at (most := 1073741824) hR (by omega) (by decide)
  unfold readP layP
  rw [if_pos hn,if_pos hn,g,hp]
  dsimp only
  rw [Int.toNat_of_nonneg (by omega)]
 rcases hc with rfl | rfl | rfl | rfl | rfl | rfl | rfl
 ·exact hnum rfl
 ·exact hnum rfl
 ·exact hnum rfl
 ·have g := rText_at (t := x.key) (most := 8) hR (by
   have h1 : ¬ 8 < x.key.size := fun h => by
    have h2 : wrongE x 107 = 3 := by unfold wrongE;rw [if_neg (by decide),if_neg (by decide),if_pos rfl,if_pos h]
    rw [h2] at hw;cases hw
   omega) (by decide)
  have e : readP s 107 y (i,0) = ({ y with key := (rText s 8 (i,0)).1 },(rText s 8 (i,0)).2,(rText s 8 (i,0)).2.2) := rfl
  rw [e,g]
  rfl
 ·have g := rText_at (t := x.to) (most := 8) hR (by
   have h1 : ¬ 8 < x.to.size := fun h => by
    have h2 : wrongE x 116 = 3 := by unfold wrongE;rw [if_neg (by decide),if_neg (by decide),if_neg (by decide),if_pos rfl,if_pos h]
    rw [h2] at hw;cases hw
   omega) (by decide)
  have e : readP s 116 y (i,0) = ({ y with to := (rText s 8 (i,0)).1 },(rText s 8 (i,0)).2,(rText s 8 (i,0)).2.2) := rfl
  rw [e,g]
  rfl
 ·have g := rBig_at (n := x.at'.toNat) hR (by unfold maxTs at ht;omega)
  have e : readP s 97 y (i,0) = ({ y with at' := (rBig s (i,0)).1 },(rBig s (i,0)).2,(rBig s (i,0)).2.2) := rfl
  rw [e,g]
  dsimp only
  rw [Int.toNat_of_nonneg ht.1]
  rfl
 ·have hb : Ops.chk (xbat x) = 0 := hw
  have hbr : batR (xbat x) = ofL (putB (xbat x)) := by unfold batR;rw [if_pos hb]
  have hlen := batR_len (xbat x)
  rw [partB_66] at hR
  have g := rText_at (most := 65536) hR (by omega) (by decide)
  have e : readP s 66 y (i,0) = ({ y with bcl := (inB' s (i,0)).1.cl,breq := (inB' s (i,0)).1.req,ops := (inB' s (i,0)).1.ops },(rText s 65536 (i,0)).2,(inB' s (i,0)).2) := rfl
  have hi : inB' s (i,0) = (xbat x,0) := by
   unfold inB'
   rw [g,if_neg (by simp)]
   show ofB (batR (xbat x)) = _
   rw [hbr]
   exact ofB_putB _ hb
  rw [e,g,hi,partB_66]
  rfl
theorem readL_put {s : ByteArray} {x : MsgR} (ht : 0 <= x.at' /\ x.at' <= maxTs) (l : List Nat) (hl : ∀ c ∈ l,c ∈ letS /\ wrongE x c = 0) : ∀ (i : Nat) (y : MsgR),Ops.Rest s i (l.flatMap (partB x)) -> readL s l y (i,0) = (l.foldl (layP x) y,(i + (l.flatMap (partB x)).length,0),0) := by
 induction l with
 | nil => intro i y _;rfl
 | cons c l ih =>
  intro i y hR
  rw [List.flatMap_cons] at hR
  have h1 := readP_put y (hl c (List.mem_cons_self ..)).1 (hl c (List.mem_cons_self ..)).2 ht hR
  rw [readL,h1,if_neg (by simp)]
  dsimp only
  rw [ih (fun c hc => hl c (List.mem_cons_of_mem _ hc)) _ _ hR.step,List.foldl_cons,List.flatMap_cons,List.length_append,Nat.add_assoc]
theorem kind_of {x : MsgR} (hk : x.k = 5 \/ x.k = 8 \/ x.k = 9 \/ x.k = 11 \/ x.k = 12 \/ x.k = 13 \/ x.k = 15) : isKind x.k = true := by
 unfold isKind;apply decide_eq_true;omega
theorem chk_lay {x : MsgR} (hk : x.k = 5 \/ x.k = 8 \/ x.k = 9 \/ x.k = 11 \/ x.k = 12 \/ x.k = 13 \/ x.k = 15) : chkM ((partsOf x.k).foldl (layP x) { zM with k := x.k }) = chkM x := by
 have hx : ∃ k,x.k = k := ⟨_,rfl⟩
 obtain ⟨k,e⟩ := hx
 rw [e] at hk ⊢
 have hkn : chkM x = if isKind k = true then firstOf (wrongE x) (partsOf k) else 11 := by unfold chkM;rw [e]
 rw [hkn]
 rcases hk with rfl | rfl | rfl | rfl | rfl | rfl | rfl
 all_goals rfl
theorem of_sent {x : MsgR} (hk : x.k = 5 \/ x.k = 8 \/ x.k = 9 \/ x.k = 11 \/ x.k = 12 \/ x.k = 13 \/ x.k = 15) (ht : 0 <= x.at' /\ x.at' <= maxTs) (hc : chkM x = 0) : (ofM (msgR x)).2 = 0 := by
 have hmr : msgR x = ofL (putM x) := by unfold msgR;rw [if_pos hc]
 obtain ⟨_,hwr⟩ := chkM_ok hc
 have hin : ∀ c ∈ partsOf x.k,c ∈ letS /\ wrongE x c = 0 := fun c h => ⟨(rparts_in hk c h).1,hwr c h⟩
 have hR : Ops.Rest (msgR x) 0 (put x.k.toNat ++ (partsOf x.k).flatMap (partB x)) := ⟨[],by rw [hmr,bl_ofL];rfl,rfl⟩
 have g0 := rNum_at (most := 15) hR (by omega) (by decide)
 have hR1 := hR.step
 rw [Nat.zero_add] at g0 hR1
 have hend := hR1.le
 have ek : ((x.k.toNat : Nat) : Int) = x.k := Int.toNat_of_nonneg (by omega)
 have g1 := readL_put ht (partsOf x.k) hin _ { zM with k := x.k } hR1
 unfold ofM
 rw [g0]
 dsimp only
 rw [if_neg (by simp),ek,kind_of hk,if_neg (by decide),g1]
 dsimp only
 rw [if_neg (by simp)]
 have ge : rEnd (msgR x) ((put x.k.toNat).length + ((partsOf x.k).flatMap (partB x)).length,0) = 0 := by
  unfold rEnd
  rw [if_neg (by simp),if_neg (by dsimp only;omega)]
 rw [ge,if_neg (by simp),chk_lay hk,hc,if_neg (by simp)]
end Snd
end Go.Proofs.YtgbigpdiacjbgaaGreat
