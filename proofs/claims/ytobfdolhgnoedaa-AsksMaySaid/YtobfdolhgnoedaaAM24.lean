/- Part 25 of what the proof needs. -/
import Derived.Test.YtobfdolhgnoedaaAM22
import Derived.Test.YtobfdolhgnoedaaAM23
set_option linter.unusedSimpArgs false
set_option linter.unusedVariables false
set_option maxHeartbeats 32000000
set_option maxRecDepth 100000
namespace Go.Proofs.Ytobfdolhgnoedaa
open Go.RowKit
set_option maxRecDepth 100000
namespace Ask
open Plan Ops Ent Msg MO Vn
attribute [local go_sem ↓] storeVar_msg loadVar_msg
theorem same_reply (w : World) (r : RepR) (A B : Option Addr) (c d : Nat) (ha : Src w 2 A r.ps.length (pcells r.ps)) (hb : Src w 2 B r.ps.length (pcells r.ps)) (hl : r.ps.length <= 1000) :
  Calls Try.prog 21 #[ragg r A c,ragg r B d] w fun e w' => e = .returned (.bool true) /\ Kept NoF w w' := by
 obtain ⟨W9,hW9⟩ : ∃ W9,w.alloc (.cells (rcell r A c).toArray 46) = W9 := ⟨_,rfl⟩
 have hk9 : Kept NoF w W9 := by rw [<- hW9];(repeat' (first | (with_reducible first | exact kR0 | apply kP0 | apply kN0 | apply kD0 | apply kA0) | (right;simp;done)))
 have hn9 : Has W9 w.heap.size 46 (rcell r A c).toArray := by rw [<- hW9];exact Has.new _ _ _
 have hz9 : W9.heap.size = w.heap.size + 1 := by rw [<- hW9];simp
 obtain ⟨W0,hW0⟩ : ∃ W0,W9.alloc (.cells (rcell r B d).toArray 46) = W0 := ⟨_,rfl⟩
 have hk1 : Kept NoF W9 W0 := by rw [<- hW0];(repeat' (first | (with_reducible first | exact kR0 | apply kP0 | apply kN0 | apply kD0 | apply kA0) | (right;simp;done)))
 have hk0 := hk9.then hk1
 have hm0 : Has W0 W9.heap.size 46 (rcell r B d).toArray := by rw [<- hW0];exact Has.new _ _ _
 have hn0 := hn9.kept hk1 (fun z => z)
 obtain ⟨b1,hb1⟩ : ∃ b1,w.heap.size = b1 := ⟨_,rfl⟩
 obtain ⟨b2,hb2⟩ : ∃ b2,W9.heap.size = b2 := ⟨_,rfl⟩
 rw [hb1] at hn0
 rw [hb2] at hm0
 have g0 := hn0.cell 0;have g1 := hn0.cell 1;have g2 := hn0.cell 2;have g3 := hn0.cell 3;have g4 := hn0.cell 4
 have f0 := hm0.cell 0;have f1 := hm0.cell 1;have f2 := hm0.cell 2;have f3 := hm0.cell 3;have f4 := hm0.cell 4
 simp [rcell] at g0 g1 g2 g3 g4 f0 f1 f2 f3 f4
 have hs := rsamePairs_any W0 A B c d r.ps r.ps (ha.kept hk0 (fun _ _ z => z)) (hb.kept hk0 (fun _ _ z => z)) (by omega)
 rw [decide_eq_true rfl] at hs
 have HS := hZ0 hs;have HK0 := hZ0 hk0
 have e1 : (r.req == r.req) = true := by simp
 have e2 : (r.e == r.e) = true := by simp
 have e3 : (r.at' == r.at') = true := by simp
 have e4 : (r.pin == r.pin) = true := by simp
 unfold rcell at hW0 hW9
 unfold ragg rcell
 clear hs hk0 ha hb hl hk9 hk1 hn9 hn0 hm0 hz9
 go_enter Try.func21,Try.ntmps21
 go_wp2_with fail
 refine HS.out.mono ?_
 rintro e w2 ⟨rfl,hk⟩
 have HK := hZ0 (HK0.out.then hk);clear hk
 go_wp2
 go_ret
 exact ⟨rfl,HK.out⟩
structure Mid (w w5 : World) (tb b4 : Nat) (t t5 : TS) (X5 : PX) (A1 : Option Addr) (c1 : Nat) : Prop where
 p : PAt w5 X5 t5
 b : X5.b = tb
 f : ∀ k,foot X5 t5 k -> w.heap.size <= k
 k : Kept NoF w w5
 r : Has w5 b4 46 (rcell (repT t) A1 c1).toArray
 s : Src w5 2 A1 (repT t).ps.length (pcells (repT t).ps)
 j : JOk t5
 q : t5.rq = 7
 d : t.dn = true -> t5 = t
theorem Mid.quiet {w w5 w6 : World} {tb b4 : Nat} {t t5 : TS} {X5 : PX} {A1 : Option Addr} {c1 : Nat} (h : Mid w w5 tb b4 t t5 X5 A1 c1) (hk : Kept NoF w5 w6) : Mid w w6 tb b4 t t5 X5 A1 c1 :=
 ⟨h.p.quiet hk,h.b,h.f,h.k.then hk,h.r.kept hk (fun z => z),h.s.kept hk (fun _ _ z => z),h.j,h.q,h.d⟩
theorem Mid.step {w W4 w5 : World} {tb b4 : Nat} {t t5 : TS} {X : PX} {A1 : Option Addr} {c1 B : Nat} (hp : PAt W4 X t) (hb : X.b = tb) (hf : ∀ k,foot X t k -> w.heap.size <= k) (hk : Kept NoF w W4)
  (hr : Has W4 b4 46 (rcell (repT t) A1 c1).toArray) (hs : W4.ownsRow 0 68 2 (.slice A1 (repT t).ps.length c1) (repT t).ps.length (pcells (repT t).ps))
  (hn : ∀ k,(Value.slice A1 (repT t).ps.length c1).ownBlock = some k -> B <= k) (hfb : ∀ k,foot X t k -> k < B) (hfb4 : ∀ k,foot X t k -> k < b4)
  (hj : JOk t5) (hq : t5.rq = 7) (hd : t.dn = true -> t5 = t) {v : Value} {e : Ending} (h : PPost W4 X t v t5 e w5) : e = .returned v /\ ∃ X5,Mid w w5 tb b4 t t5 X5 A1 c1 := by
 obtain ⟨he,X5,h1,h2,h3,h4⟩ := h
 refine ⟨he,X5,h1,h2.trans hb,fun k hk2 => ?_,hk.trans h4 (fun i hi => .inr (hf i hi)),hr.kept h4 (fun hf4 => by have := hfb4 _ hf4;omega),?_,hj,hq,hd⟩
 ·rcases h3 k hk2 with h | h
  ·exact hf k h
  ·exact Nat.le_trans hk.size h
 ·exact Src.of_own (own_kept hs h4 (fun k hk2 hf2 => by have := hn k hk2;have := hfb k hf2;omega))
theorem tick_rq {t : TS} (h : t.rq = 7) : (tickT t).1.rq = 7 := by
 unfold tickT
 split
 ·exact h
 split <;> exact h
theorem take_rq {t : TS} (h : t.rq = 7) (f : Int) (x : MsgR) : (takeT t f x).1.rq = 7 := by
 unfold takeT
 split
 ·exact h
 split
 ·unfold takeW
  split
  ·exact h
  split
  ·exact h
  split <;> exact h
 split
 ·unfold takeR
  split
  ·exact h
  split
  ·exact h
  split
  ·exact h
  ·unfold pageT
   split <;> exact h
 ·unfold takeA
  split
  ·exact h
  split <;> exact h
theorem msgIn_row (w : World) (A : Option Addr) (l : List ActR) (hl : Src w 25 A l.length (acells l)) (i : Nat) (x : ActR) (hx : l[i]? = some x) :
  ∃ ad,A = some ad /\ MsgIn w ⟨(ad.add (i * 25)).block,(ad.add (i * 25)).off + 3,none⟩ /\ msgAt w ⟨(ad.add (i * 25)).block,(ad.add (i * 25)).off + 3,none⟩ = (xcell x.x).toArray := by
 obtain ⟨hi,_⟩ := List.getElem?_eq_some_iff.1 hx
 obtain ⟨ad,rfl,had,hc⟩ := act_cells hl (by omega) i x hx
 refine ⟨ad,rfl,msgIn_of rfl fun j u hu => ?_⟩
 have hj : (acell x)[3 + j]? = some u := by
  unfold acell
  rw [show 3 + j = j + 1 + 1 + 1 by omega,List.getElem?_cons_succ,List.getElem?_cons_succ,List.getElem?_cons_succ]
  exact hu
 have h1 := hc (3 + j) u hj
 have e1 : ((⟨(ad.add (i * 25)).block,(ad.add (i * 25)).off + 3,none⟩ : Addr).add j) = (ad.add (i * 25)).add (3 + j) := by
  rw [add_lit _ (by omega : 0 < 3 + j)]
  unfold Addr.add
  split <;> simp_all <;> omega
 rw [e1];exact h1
theorem act_off {w : World} {A : Option Addr} {l : List ActR} (hl : Src w 25 A l.length (acells l)) {i : Nat} {x : ActR} (hx : l[i]? = some x) (hg : MGood w x.x) {F : Nat -> Prop} (hf : ∀ k,F k -> w.heap.size <= k) {W : World} (hk : Kept NoF w W) : PGood W F x.x :=
 ⟨hg.p.kept hk (fun _ _ z => z),hg.pcap,fun h0 ad e hF => by
  obtain ⟨ad2,e2,h2,-⟩ := hg.p.2 h0
  rw [e] at e2;injection e2 with e2
  have := hf _ hF
  rw [e2] at this;omega,fun y hy => (hg.pk y hy).1⟩
attribute [local go_sem] run_loadMsg
theorem law_mayA (w : World) (a0 : Int) (a : AskR) (ha : QGood w a) (A : Option Addr) (c : Nat) (l : List ActR) (hl : Src w 25 A l.length (acells l)) (hg : ∀ x ∈ l,AGood w x) (hlc : l.length <= c) (hcm : c <= maxLen) :
  Calls Try.prog 5 #[.int .u8 a0,qagg a,.slice A l.length c] w fun e w' => e = .returned (.bool true) /\ Below w.heap.size w w' := by
 have hend : ∀ w',Kept NoF w w' -> Below w.heap.size w w' := fun w' hk => hk.below (Nat.le_refl _) (fun _ z => z.elim)
 obtain ⟨W0,hW0⟩ : ∃ W0,w.alloc (.cells (qcell a).toArray 37) = W0 := ⟨_,rfl⟩
 have hk0 : Kept NoF w W0 := by rw [<- hW0];(repeat' (first | (with_reducible first | exact kR0 | apply kP0 | apply kN0 | apply kD0 | apply kA0) | (right;simp;done)))
 have hn0 : Has W0 w.heap.size 37 (qcell a).toArray := by rw [<- hW0];exact Has.new _ _ _
 have hq := ha.kept hk0
 have hfew := few_any W0 a ⟨hq.2.2.2.2.2.2.2.2.1,hq.2.2.2.2.2.2.2.2.2,Nat.le_trans hq.2.1 hq.2.2.1⟩ A c l (hl.kept hk0 (fun _ _ z => z)) (fun x hx => (hg x hx).1.lens)
 obtain ⟨fv,hfv⟩ : ∃ fv,(fewQ a && fewP l) = fv := ⟨_,rfl⟩
 rw [hfv] at hfew
 have haw := fun W => awake_a W
 have HEND := hZ0 hend;have HFEW := hZ0 hfew;have HAW := hZ0 haw;have HK0 := hZ0 hk0;have HN0 := hZ0 hn0;have HL := hZ0 hl;have HG := hZ0 hg;have HQ := hZ0 hq;have HFV := hZ0 hfv;have HLC := hZ0 (And.intro hlc hcm)
 have g0 := hn0.cell 0;have g1 := hn0.cell 1;have g2 := hn0.cell 2;have g3 := hn0.cell 3;have g4 := hn0.cell 4;have g5 := hn0.cell 5;have g6 := hn0.cell 6
 simp [qcell] at g0 g1 g2 g3 g4 g5 g6
 obtain ⟨ab,hab⟩ : ∃ ab,w.heap.size = ab := ⟨_,rfl⟩
 rw [hab] at g0 g1 g2 g3 g4 g5 g6 HN0
 unfold qcell at hW0
 unfold qagg qcell at HFEW
 unfold qagg qcell
 clear hend hfew haw hk0 hn0 hq hfv hl hg ha hlc hcm
 go_enter Try.func5,Try.ntmps5
 go_wp2_with fail
 clear hW0 hab g0 g1 g2 g3 g4 g5 g6
 refine HFEW.out.mono ?_
 rintro e w1 ⟨rfl,hk1⟩
 have HK1 := hZ0 (HK0.out.then hk1)
 have hn1 := HN0.out.kept hk1 (fun z => z)
 have HQ1 := hZ0 (HQ.out.kept hk1)
 cases fv
 ·clear hk1 hn1
  go_wp2_with fail
  refine (HAW.out _).mono ?_
  rintro e w3 ⟨rfl,hk3⟩
  have HE := hZ0 (HEND.out _ (HK1.out.then hk3));clear hk3
  go_wp2
  go_ret
  exact ⟨rfl,HE.out⟩
 have g0 := hn1.cell 0;have g1 := hn1.cell 1;have g2 := hn1.cell 2;have g3 := hn1.cell 3;have g4 := hn1.cell 4;have g5 := hn1.cell 5;have g6 := hn1.cell 6
 simp [qcell] at g0 g1 g2 g3 g4 g5 g6
 obtain ⟨cl,hcl⟩ : ∃ cl,IntKind.i64.wrap a0 = cl := ⟨_,rfl⟩
 clear hk1 hn1
 go_wp2_with fail
 have hfq := (Bool.and_eq_true _ _).mp HFV.out
 obtain ⟨cm,hcm⟩ : ∃ cm,cl.tmod 3 = cm := ⟨_,rfl⟩
 have hnew := pnew_any w1 cm 7 a HQ1.out (by have := (fewQ_get hfq.1).1;omega)
 have HNEW := hZ0 hnew
 have HFP := hZ0 hfq.2
 clear hnew hfq
 unfold qagg qcell at HNEW
 rw [hcm]
 clear hcm hcl g0 g1 g2 g3 g4 g5 g6
 by_cases hnz : newE cm 7 a = 0
 rotate_left
 ·refine HNEW.out.mono ?_
  rintro e w2 ⟨hp,-⟩
  obtain ⟨rfl,hk2⟩ := hp hnz
  obtain ⟨z,hz⟩ : ∃ z,newE cm 7 a = z := ⟨_,rfl⟩
  rw [hz] at hnz ⊢
  have hz1 : (z != 0) = true := by simpa using hnz
  have HK2 := hZ0 (HK1.out.then hk2)
  clear hz hnz hk2
  go_wp2_with fail
  refine (HAW.out _).mono ?_
  rintro e w3 ⟨rfl,hk3⟩
  have HE := hZ0 (HEND.out _ (HK2.out.then hk3));clear hk3
  go_wp2
  go_ret
  exact ⟨rfl,HE.out⟩
 refine HNEW.out.mono ?_
 rintro e w2 ⟨-,hp⟩
 obtain ⟨X,rfl,hp,hft,hk2⟩ := hp hnz
 obtain ⟨tb,htb⟩ : ∃ tb,X.b = tb := ⟨_,rfl⟩
 have hj := JOk.new HQ1.out.2.2.2.2.2.2.1 hnz
 have HJ := hZ0 hj;have HP := hZ0 (show PAt w2 X (newT cm 7 a) from hp);have HK2 := hZ0 (HK1.out.then hk2);have HTB := hZ0 htb
 have HFT := hZ0 (show ∀ k,foot X (newT cm 7 a) k -> w.heap.size <= k from fun k hk => Nat.le_trans HK1.out.size (hft k hk))
 rw [htb]
 clear hj hp hk2 hft htb hnz HNEW
 go_wp2_with fail
 go_loopw [9,10,11,12,13,14,15] (fun v9 _ _ _ _ _ _ wr => ∃ (i : Nat) (X' : PX) (t : TS),i <= 40 /\ i <= l.length /\ v9 = .int .i64 i /\ PAt wr X' t /\ X'.b = tb /\ JOk t /\ t.rq = 7 /\ (∀ k,foot X' t k -> w.heap.size <= k) /\ Kept NoF w wr) (fun v9 _ _ _ _ _ _ _ => l.length - (intOf v9).toNat)
 case atStart => exact ⟨0,X,newT cm 7 a,by omega,Nat.zero_le _,rfl,HP.out,HTB.out,HJ.out,rfl,HFT.out,HK2.out⟩
 case round =>
  obtain ⟨i,X',t,hi,hi2,rfl,hp,hb,hj,hrq,hft,hk⟩ := hrel
  have HP' := hZ0 hp;have HB' := hZ0 hb;have HJ' := hZ0 hj;have HRQ := hZ0 hrq;have HFT' := hZ0 hft;have HK' := hZ0 hk
  clear hp hb hj hrq hft hk
  by_cases hil : i < l.length
  rotate_left
  ·obtain rfl : i = l.length := by omega
   go_wp2_with fail
   refine (HAW.out _).mono ?_
   rintro e w3 ⟨rfl,hk3⟩
   have HE := hZ0 (HEND.out _ (HK'.out.then hk3));clear hk3
   go_wp2
   go_ret
   exact ⟨rfl,HE.out⟩
  by_cases hi4 : i < 40
  rotate_left
  ·obtain rfl : i = 40 := by omega
   go_wp2_with fail
   refine (HAW.out _).mono ?_
   rintro e w3 ⟨rfl,hk3⟩
   have HE := hZ0 (HEND.out _ (HK'.out.then hk3));clear hk3
   go_wp2
   go_ret
   exact ⟨rfl,HE.out⟩
  obtain ⟨x,hx⟩ : ∃ x,l[i]? = some x := ⟨_,List.getElem?_eq_getElem hil⟩
  have hgx := HG.out x (List.mem_of_getElem? hx)
  have hdn := pdone_any HP'.out HJ'.out.rl
  rw [HB'.out] at hdn
  have HDN := hZ0 hdn;have HX := hZ0 hx;have HGX := hZ0 hgx
  clear hdn hx hgx
  go_wp2_with fail
  refine HDN.out.mono ?_
  rintro e w3 ⟨A1,c1,rfl,hn1,hk3⟩
  have HN1 := hZ0 hn1
  obtain ⟨W4,hW4⟩ : ∃ W4,w3.alloc (.cells (rcell (repT t) A1 c1).toArray 46) = W4 := ⟨_,rfl⟩
  have hk4 : Kept NoF w3 W4 := by rw [<- hW4];(repeat' (first | (with_reducible first | exact kR0 | apply kP0 | apply kN0 | apply kD0 | apply kA0) | (right;simp;done)))
  have hr4 : Has W4 w3.heap.size 46 (rcell (repT t) A1 c1).toArray := by rw [<- hW4];exact Has.new _ _ _
  obtain ⟨b4,hb4⟩ : ∃ b4,w3.heap.size = b4 := ⟨_,rfl⟩
  have hb4w : w.heap.size <= b4 := by have := (HK'.out.then hk3).size;omega
  have hb4f : ∀ k,foot X' t k -> k < b4 := fun k hf => by have := HP'.out.lt hf;have := hk3.size;omega
  rw [hb4] at hr4
  have HR4 := hZ0 hr4;have HK34 := hZ0 (hk3.then hk4);have HK4 := hZ0 (HK'.out.then (hk3.then hk4));have HS4 := hZ0 (Src.of_own (hn1.1) |>.kept hk4 (fun _ _ z => z))
  have HP4 := hZ0 (HP'.out.quiet (hk3.then hk4));have HBF := hZ0 hb4f;have HBW := hZ0 hb4w
  obtain ⟨ad,rfl,had,hld,m0,m1,m2⟩ := run_loadMsg_row W4 A l (HL.out.kept HK4.out (fun _ _ z => z)) i x HX.out
  have HOWN := hZ0 (own_kept hn1.1 hk4 (fun _ _ z => z));have HOB := hZ0 hn1.2
  have HFB := hZ0 (show ∀ k,foot X' t k -> k < wr.heap.size from fun k hf => HP'.out.lt hf)
  have hdd := fun (t5 : TS) (X5 : PX) => Mid.mk (w := w) (w5 := W4) (tb := tb) (b4 := b4) (t := t) (t5 := t5) (X5 := X5) (A1 := A1) (c1 := c1)
  clear hdd
  obtain ⟨d1,hd1⟩ : ∃ d,t.dn = d := ⟨_,rfl⟩
  rw [hd1]
  have HD1 := hZ0 hd1
  unfold rcell at hW4
  unfold ragg rcell
  have hkk : x.k = 1 \/ x.k = 0 \/ (x.k ≠ 1 /\ x.k ≠ 0) := by omega
  have hA0 : A1 = A1 := rfl
  clear hk3 hn1 hk4 hr4 hb4w hb4f hi hd1 hA0
  obtain ⟨rr4,hrr4⟩ : ∃ r,repT t = r := ⟨_,rfl⟩
  have HRR4 := hZ0 hrr4
  clear hrr4
  rcases hkk with hk1 | hk1 | ⟨hk1,hk0⟩
  ·have e1 : (x.k == 1) = true := by simpa using hk1
   have htk := ptick_any HP4.out HJ'.out.ok
   obtain ⟨t5,ht5⟩ : ∃ t5,(tickT t).1 = t5 := ⟨_,rfl⟩
   obtain ⟨v5,hv5⟩ : ∃ v5,(tickT t).2 = v5 := ⟨_,rfl⟩
   have hj5 := HJ'.out.tick
   have hq5 := tick_rq HRQ.out
   have hd5 := fun h => tick_done (t := t) h
   rw [ht5] at htk hj5 hq5 hd5
   rw [HB'.out,hv5] at htk
   have HTK := hZ0 htk
   have HST := hZ0 (And.intro hj5 (And.intro hq5 hd5))
   clear hk1 htk hj5 hq5 hd5 ht5 hv5 hld m1 m2
   go_wp2_with fail
   clear hW4 m0 e1
   refine HTK.out.mono ?_
   intro e w5 hpp
   obtain ⟨rfl,X5,hmid⟩ := Mid.step HP4.out HB'.out HFT'.out HK4.out HR4.out HOWN.out HOB.out HFB.out HBF.out HST.out.1 HST.out.2.1 HST.out.2.2 hpp
   have HM := hZ0 hmid
   clear hmid hpp
   have hdn := pdone_any HM.out.p HM.out.j.rl
   rw [HM.out.b] at hdn
   have HDN5 := hZ0 hdn
   clear hdn
   go_wp2_with fail
   refine HDN5.out.mono ?_
   rintro e w6 ⟨A2,c2,rfl,hn2,hk6⟩
   obtain ⟨b7,hb7⟩ : ∃ b7,w6.heap.size = b7 := ⟨_,rfl⟩
   obtain ⟨d5,hd5⟩ : ∃ d,t5.dn = d := ⟨_,rfl⟩
   rw [hd5]
   have HRP := hZ0 (show t5.dn = true -> (repT t5).req = 7 /\ ((repT t5).e ≠ 0 -> (repT t5).ps.length = 0) from fun h => by
    have e : repT t5 = t5.r := by unfold repT;rw [h];rfl
    rw [e];exact ⟨(HM.out.j.rq h).trans HM.out.q,fun he => by rw [HM.out.j.e he];rfl⟩)
   have HLN := hZ0 (show (repT t5).ps.length <= 1000 from by
    unfold repT
    split
    ·exact HM.out.j.rl
    ·decide)
   have HSR := hZ0 (show t.dn = true -> repT t = repT t5 from fun h => by rw [HM.out.d h])
   obtain ⟨rr5,hrr5⟩ : ∃ r,repT t5 = r := ⟨_,rfl⟩
   have HRR5 := hZ0 hrr5
   rw [hrr5] at hn2 HRP HLN HSR
   rw [hrr5]
   rw [hd5] at HRP
   obtain ⟨W7,hW7⟩ : ∃ W7,w6.alloc (.cells (rcell rr5 A2 c2).toArray 46) = W7 := ⟨_,rfl⟩
   have hk7 : Kept NoF w6 W7 := by rw [<- hW7];(repeat' (first | (with_reducible first | exact kR0 | apply kP0 | apply kN0 | apply kD0 | apply kA0) | (right;simp;done)))
   have hr7 : Has W7 w6.heap.size 46 (rcell rr5 A2 c2).toArray := by rw [<- hW7];exact Has.new _ _ _
   rw [hb7] at hr7
   have HR7 := hZ0 hr7
   have HS7 := hZ0 ((Src.of_own hn2.1).kept hk7 (fun _ _ z => z))
   have HM7 := hZ0 (HM.out.quiet (hk6.then hk7))
   have q0 := hr7.cell 0;have q1 := hr7.cell 1;have q2 := hr7.cell 2;have q3 := hr7.cell 3;have q4 := hr7.cell 4
   have hr4 := HM7.out.r
   have p0 := hr4.cell 0;have p1 := hr4.cell 1;have p2 := hr4.cell 2;have p3 := hr4.cell 3;have p4 := hr4.cell 4
   have hsr := fun (hd : t.dn = true) => same_reply W7 rr5 A2 A1 c2 c1 HS7.out (by have := HM7.out.s;rw [HSR.out hd] at this;exact this) HLN.out
   have HSM := hZ0 hsr
   have HDD := hZ0 (show t.dn = true -> d5 = true from fun h => by rw [<- hd5,HM.out.d h];exact h)
   have HD5 := hZ0 hd5
   simp only [rcell,List.getElem?_toArray] at q0 q1 q2 q3 q4 p0 p1 p2 p3 p4
   simp at q0 q1 q2 q3 q4 p0 p1 p2 p3 p4
   unfold rcell at hW7
   unfold ragg rcell
   unfold ragg rcell at HSM
   clear hn2 hk6 hk7 hr7 hr4 hsr hd5 hrr5
   cases d5 with
   | false =>
    cases d1 with
    | true => exact absurd (HDD.out HD1.out) (by decide)
    | false =>
     clear HDN5
     go_wp2_with fail
     clear hW7 q0 q1 q2 q3 q4 p0 p1 p2 p3 p4 hb7
     have hnx := pnext_any HM7.out.p HM7.out.j.ok (by have := (Ops.chk_ok HM7.out.j.b).2.2.2.2.1;dsimp only at this;omega) 3 2
     rw [HM7.out.b] at hnx
     have HNX := hZ0 hnx
     clear hnx
     refine HNX.out.mono ?_
     rintro e w9 ⟨A3,c3,rfl,hs3,hc3,-,hk9⟩
     have hsn := next_sends (w := w9) HM7.out.j HD5.out hs3 hc3
     obtain ⟨to,hto⟩ : ∃ to,(nextT t5 3 2).1 = to := ⟨_,rfl⟩
     obtain ⟨mm,hmm⟩ : ∃ mm,{ (nextT t5 3 2).2 with oA := A3,oc := c3 } = mm := ⟨_,rfl⟩
     rw [hto,hmm] at hsn
     rw [hto,hmm]
     obtain ⟨⟨t0,t4⟩,hsd⟩ := hsn
     obtain ⟨Wz,W10,hWz,hst,hb10,hk10⟩ := lay_msg w9 mm
     obtain ⟨bz,hbz⟩ : ∃ bz,w9.heap.size = bz := ⟨_,rfl⟩
     rw [hbz] at hst hb10
     have hck := rcheckM_any W10 mm (hsd.kept hk10)
     have hlm := run_loadMsg_has W10 bz mm hb10
     unfold xagg at hck
     obtain ⟨cs9,hcs9⟩ : ∃ cs9,(xcell mm).toArray = cs9 := ⟨_,rfl⟩
     unfold xagg
     rw [hcs9] at hst hck hlm ⊢
     have HCK := hZ0 hck
     clear hck hsd
     have HM10 := hZ0 (HM7.out.quiet (hk9.then hk10))
     clear hcs9 hmm hto hs3 hc3 hk9 hk10 hb10
     go_wp2_with fail
     refine HCK.out.mono ?_
     rintro e w11 ⟨rfl,hk11⟩
     have HM11 := hZ0 (HM10.out.quiet hk11)
     clear hk11 hlm hst hWz
     go_wp2
     go_roundw
     case rel => exact ⟨i + 1,X5,t5,by omega,by omega,by go_num,HM11.out.p,HM11.out.b,HM11.out.j,HM11.out.q,HM11.out.f,HM11.out.k⟩
     case measure => simp [intOf];omega
   | true =>
    obtain ⟨hq7,he7⟩ := HRP.out rfl
    have e7 : (rr5.req != 7) = false := by simp [hq7]
    clear hq7
    by_cases he : rr5.e = 0
    ·have e8 : (rr5.e != 0) = false := by simp [he]
     clear he he7
     cases d1 with
     | true =>
      rw [HSR.out HD1.out] at p0 p1 p2 p3 p4
      have HSMM := hZ0 (HSM.out HD1.out)
      go_wp2_with fail
      clear hW7 q0 q1 q2 q3 q4 p0 p1 p2 p3 p4
      refine HSMM.out.mono ?_
      rintro e w8 ⟨rfl,hk8⟩
      have HM8 := hZ0 (HM7.out.quiet hk8)
      have hr8 := HR7.out.kept hk8 (fun z => z)
      have q0 := hr8.cell 0;have q1 := hr8.cell 1;have q4 := hr8.cell 4
      simp [rcell] at q0 q1 q4
      clear hk8 hr8
      go_wp2_with fail
      clear q0 q1 q4 hb7
      have hnx := pnext_any HM8.out.p HM8.out.j.ok (by have := (Ops.chk_ok HM8.out.j.b).2.2.2.2.1;dsimp only at this;omega) 3 2
      rw [HM8.out.b] at hnx
      have HNX := hZ0 hnx
      clear hnx
      refine HNX.out.mono ?_
      rintro e w9 ⟨A3,c3,rfl,hs3,hc3,-,hk9⟩
      have hto := next_done HD5.out 3 2
      rw [hto]
      obtain ⟨mm,hmm⟩ : ∃ mm,{ (nextT t5 3 2).2 with oA := A3,oc := c3 } = mm := ⟨_,rfl⟩
      rw [hmm]
      obtain ⟨Wz,W10,hWz,hst,hb10,hk10⟩ := lay_msg w9 mm
      obtain ⟨bz,hbz⟩ : ∃ bz,w9.heap.size = bz := ⟨_,rfl⟩
      rw [hbz] at hst hb10
      obtain ⟨cs9,hcs9⟩ : ∃ cs9,(xcell mm).toArray = cs9 := ⟨_,rfl⟩
      unfold xagg
      rw [hcs9] at hst ⊢
      have HM10 := hZ0 (HM8.out.quiet (hk9.then hk10))
      clear hcs9 hmm hto hs3 hc3 hk9 hk10 hb10
      go_wp2
      go_roundw
      case rel => exact ⟨i + 1,X5,t5,by omega,by omega,by go_num,HM10.out.p,HM10.out.b,HM10.out.j,HM10.out.q,HM10.out.f,HM10.out.k⟩
      case measure => simp [intOf];omega
     | false =>
      clear HSM
      go_wp2_with fail
      clear hW7 q0 q1 q2 q3 q4 p0 p1 p2 p3 p4 hb7
      have hnx := pnext_any HM7.out.p HM7.out.j.ok (by have := (Ops.chk_ok HM7.out.j.b).2.2.2.2.1;dsimp only at this;omega) 3 2
      rw [HM7.out.b] at hnx
      have HNX := hZ0 hnx
      clear hnx
      refine HNX.out.mono ?_
      rintro e w9 ⟨A3,c3,rfl,hs3,hc3,-,hk9⟩
      have hto := next_done HD5.out 3 2
      rw [hto]
      obtain ⟨mm,hmm⟩ : ∃ mm,{ (nextT t5 3 2).2 with oA := A3,oc := c3 } = mm := ⟨_,rfl⟩
      rw [hmm]
      obtain ⟨Wz,W10,hWz,hst,hb10,hk10⟩ := lay_msg w9 mm
      obtain ⟨bz,hbz⟩ : ∃ bz,w9.heap.size = bz := ⟨_,rfl⟩
      rw [hbz] at hst hb10
      obtain ⟨cs9,hcs9⟩ : ∃ cs9,(xcell mm).toArray = cs9 := ⟨_,rfl⟩
      unfold xagg
      rw [hcs9] at hst ⊢
      have HM10 := hZ0 (HM7.out.quiet (hk9.then hk10))
      clear hcs9 hmm hto hs3 hc3 hk9 hk10 hb10
      go_wp2
      go_roundw
      case rel => exact ⟨i + 1,X5,t5,by omega,by omega,by go_num,HM10.out.p,HM10.out.b,HM10.out.j,HM10.out.q,HM10.out.f,HM10.out.k⟩
      case measure => simp [intOf];omega
    ·have e8 : (rr5.e != 0) = true := by simpa using he
     have e9 : ¬ (0 : Int) < (rr5.ps.length : Int) := by have := he7 he;omega
     clear he he7
     cases d1 with
     | true =>
      rw [HSR.out HD1.out] at p0 p1 p2 p3 p4
      have HSMM := hZ0 (HSM.out HD1.out)
      go_wp2_with fail
      clear hW7 q0 q1 q2 q3 q4 p0 p1 p2 p3 p4
      refine HSMM.out.mono ?_
      rintro e w8 ⟨rfl,hk8⟩
      have HM8 := hZ0 (HM7.out.quiet hk8)
      have hr8 := HR7.out.kept hk8 (fun z => z)
      have q0 := hr8.cell 0;have q1 := hr8.cell 1;have q4 := hr8.cell 4
      simp [rcell] at q0 q1 q4
      clear hk8 hr8
      go_wp2_with fail
      clear q0 q1 q4 hb7
      have hnx := pnext_any HM8.out.p HM8.out.j.ok (by have := (Ops.chk_ok HM8.out.j.b).2.2.2.2.1;dsimp only at this;omega) 3 2
      rw [HM8.out.b] at hnx
      have HNX := hZ0 hnx
      clear hnx
      refine HNX.out.mono ?_
      rintro e w9 ⟨A3,c3,rfl,hs3,hc3,-,hk9⟩
      have hto := next_done HD5.out 3 2
      rw [hto]
      obtain ⟨mm,hmm⟩ : ∃ mm,{ (nextT t5 3 2).2 with oA := A3,oc := c3 } = mm := ⟨_,rfl⟩
      rw [hmm]
      obtain ⟨Wz,W10,hWz,hst,hb10,hk10⟩ := lay_msg w9 mm
      obtain ⟨bz,hbz⟩ : ∃ bz,w9.heap.size = bz := ⟨_,rfl⟩
      rw [hbz] at hst hb10
      obtain ⟨cs9,hcs9⟩ : ∃ cs9,(xcell mm).toArray = cs9 := ⟨_,rfl⟩
      unfold xagg
      rw [hcs9] at hst ⊢
      have HM10 := hZ0 (HM8.out.quiet (hk9.then hk10))
      clear hcs9 hmm hto hs3 hc3 hk9 hk10 hb10
      go_wp2
      go_roundw
      case rel => exact ⟨i + 1,X5,t5,by omega,by omega,by go_num,HM10.out.p,HM10.out.b,HM10.out.j,HM10.out.q,HM10.out.f,HM10.out.k⟩
      case measure => simp [intOf];omega
     | false =>
      clear HSM
      go_wp2_with fail
      clear hW7 q0 q1 q2 q3 q4 p0 p1 p2 p3 p4 hb7
      have hnx := pnext_any HM7.out.p HM7.out.j.ok (by have := (Ops.chk_ok HM7.out.j.b).2.2.2.2.1;dsimp only at this;omega) 3 2
      rw [HM7.out.b] at hnx
      have HNX := hZ0 hnx
      clear hnx
      refine HNX.out.mono ?_
      rintro e w9 ⟨A3,c3,rfl,hs3,hc3,-,hk9⟩
      have hto := next_done HD5.out 3 2
      rw [hto]
      obtain ⟨mm,hmm⟩ : ∃ mm,{ (nextT t5 3 2).2 with oA := A3,oc := c3 } = mm := ⟨_,rfl⟩
      rw [hmm]
      obtain ⟨Wz,W10,hWz,hst,hb10,hk10⟩ := lay_msg w9 mm
      obtain ⟨bz,hbz⟩ : ∃ bz,w9.heap.size = bz := ⟨_,rfl⟩
      rw [hbz] at hst hb10
      obtain ⟨cs9,hcs9⟩ : ∃ cs9,(xcell mm).toArray = cs9 := ⟨_,rfl⟩
      unfold xagg
      rw [hcs9] at hst ⊢
      have HM10 := hZ0 (HM7.out.quiet (hk9.then hk10))
      clear hcs9 hmm hto hs3 hc3 hk9 hk10 hb10
      go_wp2
      go_roundw
      case rel => exact ⟨i + 1,X5,t5,by omega,by omega,by go_num,HM10.out.p,HM10.out.b,HM10.out.j,HM10.out.q,HM10.out.f,HM10.out.k⟩
      case measure => simp [intOf];omega
  ·have e1 : (x.k == 1) = false := by simp [hk1]
   have e0 : (x.k != 0) = false := by simp [hk1]
   obtain ⟨t5,ht5⟩ : ∃ t5,t = t5 := ⟨_,rfl⟩
   obtain ⟨X5,w5,hmid,hw5⟩ : ∃ X5 w5,Mid w w5 tb b4 t t5 X5 A1 c1 /\ W4 = w5 := ⟨X',W4,by rw [<- ht5];exact ⟨HP4.out,HB'.out,HFT'.out,HK4.out,HR4.out,Src.of_own HOWN.out,HJ'.out,HRQ.out,fun _ => rfl⟩,rfl⟩
   have HM := hZ0 hmid
   rw [hw5] at hW4 m0
   clear hmid hk1 ht5 hw5 hld m1 m2
   have hdn := pdone_any HM.out.p HM.out.j.rl
   rw [HM.out.b] at hdn
   have HDN5 := hZ0 hdn
   clear hdn
   go_wp2_with fail
   refine HDN5.out.mono ?_
   rintro e w6 ⟨A2,c2,rfl,hn2,hk6⟩
   obtain ⟨b7,hb7⟩ : ∃ b7,w6.heap.size = b7 := ⟨_,rfl⟩
   obtain ⟨d5,hd5⟩ : ∃ d,t5.dn = d := ⟨_,rfl⟩
   rw [hd5]
   have HRP := hZ0 (show t5.dn = true -> (repT t5).req = 7 /\ ((repT t5).e ≠ 0 -> (repT t5).ps.length = 0) from fun h => by
    have e : repT t5 = t5.r := by unfold repT;rw [h];rfl
    rw [e];exact ⟨(HM.out.j.rq h).trans HM.out.q,fun he => by rw [HM.out.j.e he];rfl⟩)
   have HLN := hZ0 (show (repT t5).ps.length <= 1000 from by
    unfold repT
    split
    ·exact HM.out.j.rl
    ·decide)
   have HSR := hZ0 (show t.dn = true -> repT t = repT t5 from fun h => by rw [HM.out.d h])
   obtain ⟨rr5,hrr5⟩ : ∃ r,repT t5 = r := ⟨_,rfl⟩
   have HRR5 := hZ0 hrr5
   rw [hrr5] at hn2 HRP HLN HSR
   rw [hrr5]
   rw [hd5] at HRP
   obtain ⟨W7,hW7⟩ : ∃ W7,w6.alloc (.cells (rcell rr5 A2 c2).toArray 46) = W7 := ⟨_,rfl⟩
   have hk7 : Kept NoF w6 W7 := by rw [<- hW7];(repeat' (first | (with_reducible first | exact kR0 | apply kP0 | apply kN0 | apply kD0 | apply kA0) | (right;simp;done)))
   have hr7 : Has W7 w6.heap.size 46 (rcell rr5 A2 c2).toArray := by rw [<- hW7];exact Has.new _ _ _
   rw [hb7] at hr7
   have HR7 := hZ0 hr7
   have HS7 := hZ0 ((Src.of_own hn2.1).kept hk7 (fun _ _ z => z))
   have HM7 := hZ0 (HM.out.quiet (hk6.then hk7))
   have q0 := hr7.cell 0;have q1 := hr7.cell 1;have q2 := hr7.cell 2;have q3 := hr7.cell 3;have q4 := hr7.cell 4
   have hr4 := HM7.out.r
   have p0 := hr4.cell 0;have p1 := hr4.cell 1;have p2 := hr4.cell 2;have p3 := hr4.cell 3;have p4 := hr4.cell 4
   have hsr := fun (hd : t.dn = true) => same_reply W7 rr5 A2 A1 c2 c1 HS7.out (by have := HM7.out.s;rw [HSR.out hd] at this;exact this) HLN.out
   have HSM := hZ0 hsr
   have HDD := hZ0 (show t.dn = true -> d5 = true from fun h => by rw [<- hd5,HM.out.d h];exact h)
   have HD5 := hZ0 hd5
   simp only [rcell,List.getElem?_toArray] at q0 q1 q2 q3 q4 p0 p1 p2 p3 p4
   simp at q0 q1 q2 q3 q4 p0 p1 p2 p3 p4
   unfold rcell at hW7
   unfold ragg rcell
   unfold ragg rcell at HSM
   clear hn2 hk6 hk7 hr7 hr4 hsr hd5 hrr5
   cases d5 with
   | false =>
    cases d1 with
    | true => exact absurd (HDD.out HD1.out) (by decide)
    | false =>
     clear HDN5
     go_wp2_with fail
     clear hW7 q0 q1 q2 q3 q4 p0 p1 p2 p3 p4 hb7
     have hnx := pnext_any HM7.out.p HM7.out.j.ok (by have := (Ops.chk_ok HM7.out.j.b).2.2.2.2.1;dsimp only at this;omega) 3 2
     rw [HM7.out.b] at hnx
     have HNX := hZ0 hnx
     clear hnx
     refine HNX.out.mono ?_
     rintro e w9 ⟨A3,c3,rfl,hs3,hc3,-,hk9⟩
     have hsn := next_sends (w := w9) HM7.out.j HD5.out hs3 hc3
     obtain ⟨to,hto⟩ : ∃ to,(nextT t5 3 2).1 = to := ⟨_,rfl⟩
     obtain ⟨mm,hmm⟩ : ∃ mm,{ (nextT t5 3 2).2 with oA := A3,oc := c3 } = mm := ⟨_,rfl⟩
     rw [hto,hmm] at hsn
     rw [hto,hmm]
     obtain ⟨⟨t0,t4⟩,hsd⟩ := hsn
     obtain ⟨Wz,W10,hWz,hst,hb10,hk10⟩ := lay_msg w9 mm
     obtain ⟨bz,hbz⟩ : ∃ bz,w9.heap.size = bz := ⟨_,rfl⟩
     rw [hbz] at hst hb10
     have hck := rcheckM_any W10 mm (hsd.kept hk10)
     have hlm := run_loadMsg_has W10 bz mm hb10
     unfold xagg at hck
     obtain ⟨cs9,hcs9⟩ : ∃ cs9,(xcell mm).toArray = cs9 := ⟨_,rfl⟩
     unfold xagg
     rw [hcs9] at hst hck hlm ⊢
     have HCK := hZ0 hck
     clear hck hsd
     have HM10 := hZ0 (HM7.out.quiet (hk9.then hk10))
     clear hcs9 hmm hto hs3 hc3 hk9 hk10 hb10
     go_wp2_with fail
     refine HCK.out.mono ?_
     rintro e w11 ⟨rfl,hk11⟩
     have HM11 := hZ0 (HM10.out.quiet hk11)
     clear hk11 hlm hst hWz
     go_wp2
     go_roundw
     case rel => exact ⟨i + 1,X5,t5,by omega,by omega,by go_num,HM11.out.p,HM11.out.b,HM11.out.j,HM11.out.q,HM11.out.f,HM11.out.k⟩
     case measure => simp [intOf];omega
   | true =>
    obtain ⟨hq7,he7⟩ := HRP.out rfl
    have e7 : (rr5.req != 7) = false := by simp [hq7]
    clear hq7
    by_cases he : rr5.e = 0
    ·have e8 : (rr5.e != 0) = false := by simp [he]
     clear he he7
     cases d1 with
     | true =>
      rw [HSR.out HD1.out] at p0 p1 p2 p3 p4
      have HSMM := hZ0 (HSM.out HD1.out)
      go_wp2_with fail
      clear hW7 q0 q1 q2 q3 q4 p0 p1 p2 p3 p4
      refine HSMM.out.mono ?_
      rintro e w8 ⟨rfl,hk8⟩
      have HM8 := hZ0 (HM7.out.quiet hk8)
      have hr8 := HR7.out.kept hk8 (fun z => z)
      have q0 := hr8.cell 0;have q1 := hr8.cell 1;have q4 := hr8.cell 4
      simp [rcell] at q0 q1 q4
      clear hk8 hr8
      go_wp2_with fail
      clear q0 q1 q4 hb7
      have hnx := pnext_any HM8.out.p HM8.out.j.ok (by have := (Ops.chk_ok HM8.out.j.b).2.2.2.2.1;dsimp only at this;omega) 3 2
      rw [HM8.out.b] at hnx
      have HNX := hZ0 hnx
      clear hnx
      refine HNX.out.mono ?_
      rintro e w9 ⟨A3,c3,rfl,hs3,hc3,-,hk9⟩
      have hto := next_done HD5.out 3 2
      rw [hto]
      obtain ⟨mm,hmm⟩ : ∃ mm,{ (nextT t5 3 2).2 with oA := A3,oc := c3 } = mm := ⟨_,rfl⟩
      rw [hmm]
      obtain ⟨Wz,W10,hWz,hst,hb10,hk10⟩ := lay_msg w9 mm
      obtain ⟨bz,hbz⟩ : ∃ bz,w9.heap.size = bz := ⟨_,rfl⟩
      rw [hbz] at hst hb10
      obtain ⟨cs9,hcs9⟩ : ∃ cs9,(xcell mm).toArray = cs9 := ⟨_,rfl⟩
      unfold xagg
      rw [hcs9] at hst ⊢
      have HM10 := hZ0 (HM8.out.quiet (hk9.then hk10))
      clear hcs9 hmm hto hs3 hc3 hk9 hk10 hb10
      go_wp2
      go_roundw
      case rel => exact ⟨i + 1,X5,t5,by omega,by omega,by go_num,HM10.out.p,HM10.out.b,HM10.out.j,HM10.out.q,HM10.out.f,HM10.out.k⟩
      case measure => simp [intOf];omega
     | false =>
      clear HSM
      go_wp2_with fail
      clear hW7 q0 q1 q2 q3 q4 p0 p1 p2 p3 p4 hb7
      have hnx := pnext_any HM7.out.p HM7.out.j.ok (by have := (Ops.chk_ok HM7.out.j.b).2.2.2.2.1;dsimp only at this;omega) 3 2
      rw [HM7.out.b] at hnx
      have HNX := hZ0 hnx
      clear hnx
      refine HNX.out.mono ?_
      rintro e w9 ⟨A3,c3,rfl,hs3,hc3,-,hk9⟩
      have hto := next_done HD5.out 3 2
      rw [hto]
      obtain ⟨mm,hmm⟩ : ∃ mm,{ (nextT t5 3 2).2 with oA := A3,oc := c3 } = mm := ⟨_,rfl⟩
      rw [hmm]
      obtain ⟨Wz,W10,hWz,hst,hb10,hk10⟩ := lay_msg w9 mm
      obtain ⟨bz,hbz⟩ : ∃ bz,w9.heap.size = bz := ⟨_,rfl⟩
      rw [hbz] at hst hb10
      obtain ⟨cs9,hcs9⟩ : ∃ cs9,(xcell mm).toArray = cs9 := ⟨_,rfl⟩
      unfold xagg
      rw [hcs9] at hst ⊢
      have HM10 := hZ0 (HM7.out.quiet (hk9.then hk10))
      clear hcs9 hmm hto hs3 hc3 hk9 hk10 hb10
      go_wp2
      go_roundw
      case rel => exact ⟨i + 1,X5,t5,by omega,by omega,by go_num,HM10.out.p,HM10.out.b,HM10.out.j,HM10.out.q,HM10.out.f,HM10.out.k⟩
      case measure => simp [intOf];omega
    ·have e8 : (rr5.e != 0) = true := by simpa using he
     have e9 : ¬ (0 : Int) < (rr5.ps.length : Int) := by have := he7 he;omega
     clear he he7
     cases d1 with
     | true =>
      rw [HSR.out HD1.out] at p0 p1 p2 p3 p4
      have HSMM := hZ0 (HSM.out HD1.out)
      go_wp2_with fail
      clear hW7 q0 q1 q2 q3 q4 p0 p1 p2 p3 p4
      refine HSMM.out.mono ?_
      rintro e w8 ⟨rfl,hk8⟩
      have HM8 := hZ0 (HM7.out.quiet hk8)
      have hr8 := HR7.out.kept hk8 (fun z => z)
      have q0 := hr8.cell 0;have q1 := hr8.cell 1;have q4 := hr8.cell 4
      simp [rcell] at q0 q1 q4
      clear hk8 hr8
      go_wp2_with fail
      clear q0 q1 q4 hb7
      have hnx := pnext_any HM8.out.p HM8.out.j.ok (by have := (Ops.chk_ok HM8.out.j.b).2.2.2.2.1;dsimp only at this;omega) 3 2
      rw [HM8.out.b] at hnx
      have HNX := hZ0 hnx
      clear hnx
      refine HNX.out.mono ?_
      rintro e w9 ⟨A3,c3,rfl,hs3,hc3,-,hk9⟩
      have hto := next_done HD5.out 3 2
      rw [hto]
      obtain ⟨mm,hmm⟩ : ∃ mm,{ (nextT t5 3 2).2 with oA := A3,oc := c3 } = mm := ⟨_,rfl⟩
      rw [hmm]
      obtain ⟨Wz,W10,hWz,hst,hb10,hk10⟩ := lay_msg w9 mm
      obtain ⟨bz,hbz⟩ : ∃ bz,w9.heap.size = bz := ⟨_,rfl⟩
      rw [hbz] at hst hb10
      obtain ⟨cs9,hcs9⟩ : ∃ cs9,(xcell mm).toArray = cs9 := ⟨_,rfl⟩
      unfold xagg
      rw [hcs9] at hst ⊢
      have HM10 := hZ0 (HM8.out.quiet (hk9.then hk10))
      clear hcs9 hmm hto hs3 hc3 hk9 hk10 hb10
      go_wp2
      go_roundw
      case rel => exact ⟨i + 1,X5,t5,by omega,by omega,by go_num,HM10.out.p,HM10.out.b,HM10.out.j,HM10.out.q,HM10.out.f,HM10.out.k⟩
      case measure => simp [intOf];omega
     | false =>
      clear HSM
      go_wp2_with fail
      clear hW7 q0 q1 q2 q3 q4 p0 p1 p2 p3 p4 hb7
      have hnx := pnext_any HM7.out.p HM7.out.j.ok (by have := (Ops.chk_ok HM7.out.j.b).2.2.2.2.1;dsimp only at this;omega) 3 2
      rw [HM7.out.b] at hnx
      have HNX := hZ0 hnx
      clear hnx
      refine HNX.out.mono ?_
      rintro e w9 ⟨A3,c3,rfl,hs3,hc3,-,hk9⟩
      have hto := next_done HD5.out 3 2
      rw [hto]
      obtain ⟨mm,hmm⟩ : ∃ mm,{ (nextT t5 3 2).2 with oA := A3,oc := c3 } = mm := ⟨_,rfl⟩
      rw [hmm]
      obtain ⟨Wz,W10,hWz,hst,hb10,hk10⟩ := lay_msg w9 mm
      obtain ⟨bz,hbz⟩ : ∃ bz,w9.heap.size = bz := ⟨_,rfl⟩
      rw [hbz] at hst hb10
      obtain ⟨cs9,hcs9⟩ : ∃ cs9,(xcell mm).toArray = cs9 := ⟨_,rfl⟩
      unfold xagg
      rw [hcs9] at hst ⊢
      have HM10 := hZ0 (HM7.out.quiet (hk9.then hk10))
      clear hcs9 hmm hto hs3 hc3 hk9 hk10 hb10
      go_wp2
      go_roundw
      case rel => exact ⟨i + 1,X5,t5,by omega,by omega,by go_num,HM10.out.p,HM10.out.b,HM10.out.j,HM10.out.q,HM10.out.f,HM10.out.k⟩
      case measure => simp [intOf];omega
  ·have e1 : (x.k == 1) = false := by simpa using hk1
   have e0 : (x.k != 0) = true := by simpa using hk0
   have htk := ptake_any (HP4.out.quiet (Kept.refl NoF W4).drew) HJ'.out.ok x.fr x.x (act_off HL.out HX.out HGX.out.1 HFT'.out HK4.out.drew)
   obtain ⟨t5,ht5⟩ : ∃ t5,(takeT t x.fr x.x).1 = t5 := ⟨_,rfl⟩
   obtain ⟨v5,hv5⟩ : ∃ v5,(takeT t x.fr x.x).2 = v5 := ⟨_,rfl⟩
   have hj5 := HJ'.out.take x.fr x.x
   have hq5 := take_rq HRQ.out x.fr x.x
   have hd5 := fun h => take_done (t := t) h x.fr x.x
   rw [ht5] at htk hj5 hq5 hd5
   rw [HB'.out,hv5] at htk
   obtain ⟨_,e9,u1,u2⟩ := msgIn_row W4.drew (some ad) l (HL.out.kept HK4.out.drew (fun _ _ z => z)) i x HX.out
   injection e9 with e9
   subst e9
   obtain ⟨_,e9,y1,y2⟩ := msgIn_row W4 (some ad) l (HL.out.kept HK4.out (fun _ _ z => z)) i x HX.out
   injection e9 with e9
   subst e9
   obtain ⟨_,e9,-,-,-,-,n2⟩ := run_loadMsg_row W4.drew (some ad) l (HL.out.kept HK4.out.drew (fun _ _ z => z)) i x HX.out
   injection e9 with e9
   subst e9
   obtain ⟨cs,hcs⟩ : ∃ cs,(xcell x.x).toArray = cs := ⟨_,rfl⟩
   unfold xagg at htk
   rw [hcs] at htk u2 y2
   have HTK := hZ0 htk
   have HST := hZ0 (And.intro hj5 (And.intro hq5 hd5))
   have HCS := hZ0 hcs
   clear hk1 hk0 htk hj5 hq5 hd5 ht5 hv5 hld m1 hcs
   go_wp2_with fail
   clear hW4
   go_region_held3 (fun W => W.cell? ⟨(ad.add (i * 25)).block,(ad.add (i * 25)).off + 2,none⟩ = some (.int .i64 x.fr) /\ MsgIn W ⟨(ad.add (i * 25)).block,(ad.add (i * 25)).off + 3,none⟩ /\ msgAt W ⟨(ad.add (i * 25)).block,(ad.add (i * 25)).off + 3,none⟩ = cs)
    (first | with_reducible exact ⟨n2,u1,u2⟩ | with_reducible exact ⟨m2,y1,y2⟩ | exact ⟨n2,u1,u2⟩)
    (first | (go_at_call 11;refine HTK.out.mono ?_;intro e w5 hpp;obtain ⟨rfl,X5,hmid⟩ := Mid.step (HP4.out.quiet (Kept.refl NoF W4).drew) HB'.out HFT'.out HK4.out.drew HR4.out.drew (own_kept HOWN.out (Kept.refl NoF W4).drew (fun _ _ z => z)) HOB.out HFB.out HBF.out HST.out.1 HST.out.2.1 HST.out.2.2 hpp;have HM := hZ0 hmid;clear hmid hpp;obtain ⟨_,e9,u1,u2⟩ := msgIn_row w5 (some ad) l (HL.out.kept HM.out.k (fun _ _ z => z)) i x HX.out;injection e9 with e9;subst e9;rw [HCS.out] at u2;obtain ⟨_,e9,-,-,-,-,n2⟩ := run_loadMsg_row w5 (some ad) l (HL.out.kept HM.out.k (fun _ _ z => z)) i x HX.out;injection e9 with e9;subst e9))
   all_goals
    clear n2 u1 u2 m0 m2 y1 y2
    have hdn := pdone_any HM.out.p HM.out.j.rl
    rw [HM.out.b] at hdn
    have HDN5 := hZ0 hdn
    clear hdn
    go_wp2_with fail
    refine HDN5.out.mono ?_
    rintro e w6 ⟨A2,c2,rfl,hn2,hk6⟩
    obtain ⟨b7,hb7⟩ : ∃ b7,w6.heap.size = b7 := ⟨_,rfl⟩
    obtain ⟨d5,hd5⟩ : ∃ d,t5.dn = d := ⟨_,rfl⟩
    rw [hd5]
    have HRP := hZ0 (show t5.dn = true -> (repT t5).req = 7 /\ ((repT t5).e ≠ 0 -> (repT t5).ps.length = 0) from fun h => by
     have e : repT t5 = t5.r := by unfold repT;rw [h];rfl
     rw [e];exact ⟨(HM.out.j.rq h).trans HM.out.q,fun he => by rw [HM.out.j.e he];rfl⟩)
    have HLN := hZ0 (show (repT t5).ps.length <= 1000 from by
     unfold repT
     split
     ·exact HM.out.j.rl
     ·decide)
    have HSR := hZ0 (show t.dn = true -> repT t = repT t5 from fun h => by rw [HM.out.d h])
    obtain ⟨rr5,hrr5⟩ : ∃ r,repT t5 = r := ⟨_,rfl⟩
    have HRR5 := hZ0 hrr5
    rw [hrr5] at hn2 HRP HLN HSR
    rw [hrr5]
    rw [hd5] at HRP
    obtain ⟨W7,hW7⟩ : ∃ W7,w6.alloc (.cells (rcell rr5 A2 c2).toArray 46) = W7 := ⟨_,rfl⟩
    have hk7 : Kept NoF w6 W7 := by rw [<- hW7];(repeat' (first | (with_reducible first | exact kR0 | apply kP0 | apply kN0 | apply kD0 | apply kA0) | (right;simp;done)))
    have hr7 : Has W7 w6.heap.size 46 (rcell rr5 A2 c2).toArray := by rw [<- hW7];exact Has.new _ _ _
    rw [hb7] at hr7
    have HR7 := hZ0 hr7
    have HS7 := hZ0 ((Src.of_own hn2.1).kept hk7 (fun _ _ z => z))
    have HM7 := hZ0 (HM.out.quiet (hk6.then hk7))
    have q0 := hr7.cell 0;have q1 := hr7.cell 1;have q2 := hr7.cell 2;have q3 := hr7.cell 3;have q4 := hr7.cell 4
    have hr4 := HM7.out.r
    have p0 := hr4.cell 0;have p1 := hr4.cell 1;have p2 := hr4.cell 2;have p3 := hr4.cell 3;have p4 := hr4.cell 4
    have hsr := fun (hd : t.dn = true) => same_reply W7 rr5 A2 A1 c2 c1 HS7.out (by have := HM7.out.s;rw [HSR.out hd] at this;exact this) HLN.out
    have HSM := hZ0 hsr
    have HDD := hZ0 (show t.dn = true -> d5 = true from fun h => by rw [<- hd5,HM.out.d h];exact h)
    have HD5 := hZ0 hd5
    simp only [rcell,List.getElem?_toArray] at q0 q1 q2 q3 q4 p0 p1 p2 p3 p4
    simp at q0 q1 q2 q3 q4 p0 p1 p2 p3 p4
    unfold rcell at hW7
    unfold ragg rcell
    unfold ragg rcell at HSM
    clear hn2 hk6 hk7 hr7 hr4 hsr hd5 hrr5
    cases d5 with
    | false =>
     cases d1 with
     | true => exact absurd (HDD.out HD1.out) (by decide)
     | false =>
      clear HDN5
      go_wp2_with fail
      clear hW7 q0 q1 q2 q3 q4 p0 p1 p2 p3 p4 hb7
      have hnx := pnext_any HM7.out.p HM7.out.j.ok (by have := (Ops.chk_ok HM7.out.j.b).2.2.2.2.1;dsimp only at this;omega) 3 2
      rw [HM7.out.b] at hnx
      have HNX := hZ0 hnx
      clear hnx
      refine HNX.out.mono ?_
      rintro e w9 ⟨A3,c3,rfl,hs3,hc3,-,hk9⟩
      have hsn := next_sends (w := w9) HM7.out.j HD5.out hs3 hc3
      obtain ⟨to,hto⟩ : ∃ to,(nextT t5 3 2).1 = to := ⟨_,rfl⟩
      obtain ⟨mm,hmm⟩ : ∃ mm,{ (nextT t5 3 2).2 with oA := A3,oc := c3 } = mm := ⟨_,rfl⟩
      rw [hto,hmm] at hsn
      rw [hto,hmm]
      obtain ⟨⟨t0,t4⟩,hsd⟩ := hsn
      obtain ⟨Wz,W10,hWz,hst,hb10,hk10⟩ := lay_msg w9 mm
      obtain ⟨bz,hbz⟩ : ∃ bz,w9.heap.size = bz := ⟨_,rfl⟩
      rw [hbz] at hst hb10
      have hck := rcheckM_any W10 mm (hsd.kept hk10)
      have hlm := run_loadMsg_has W10 bz mm hb10
      unfold xagg at hck
      obtain ⟨cs9,hcs9⟩ : ∃ cs9,(xcell mm).toArray = cs9 := ⟨_,rfl⟩
      unfold xagg
      rw [hcs9] at hst hck hlm ⊢
      have HCK := hZ0 hck
      clear hck hsd
      have HM10 := hZ0 (HM7.out.quiet (hk9.then hk10))
      clear hcs9 hmm hto hs3 hc3 hk9 hk10 hb10
      go_wp2_with fail
      refine HCK.out.mono ?_
      rintro e w11 ⟨rfl,hk11⟩
      have HM11 := hZ0 (HM10.out.quiet hk11)
      clear hk11 hlm hst hWz
      go_wp2
      go_roundw
      case rel => exact ⟨i + 1,X5,t5,by omega,by omega,by go_num,HM11.out.p,HM11.out.b,HM11.out.j,HM11.out.q,HM11.out.f,HM11.out.k⟩
      case measure => simp [intOf];omega
    | true =>
     obtain ⟨hq7,he7⟩ := HRP.out rfl
     have e7 : (rr5.req != 7) = false := by simp [hq7]
     clear hq7
     by_cases he : rr5.e = 0
     ·have e8 : (rr5.e != 0) = false := by simp [he]
      clear he he7
      cases d1 with
      | true =>
       rw [HSR.out HD1.out] at p0 p1 p2 p3 p4
       have HSMM := hZ0 (HSM.out HD1.out)
       go_wp2_with fail
       clear hW7 q0 q1 q2 q3 q4 p0 p1 p2 p3 p4
       refine HSMM.out.mono ?_
       rintro e w8 ⟨rfl,hk8⟩
       have HM8 := hZ0 (HM7.out.quiet hk8)
       have hr8 := HR7.out.kept hk8 (fun z => z)
       have q0 := hr8.cell 0;have q1 := hr8.cell 1;have q4 := hr8.cell 4
       simp [rcell] at q0 q1 q4
       clear hk8 hr8
       go_wp2_with fail
       clear q0 q1 q4 hb7
       have hnx := pnext_any HM8.out.p HM8.out.j.ok (by have := (Ops.chk_ok HM8.out.j.b).2.2.2.2.1;dsimp only at this;omega) 3 2
       rw [HM8.out.b] at hnx
       have HNX := hZ0 hnx
       clear hnx
       refine HNX.out.mono ?_
       rintro e w9 ⟨A3,c3,rfl,hs3,hc3,-,hk9⟩
       have hto := next_done HD5.out 3 2
       rw [hto]
       obtain ⟨mm,hmm⟩ : ∃ mm,{ (nextT t5 3 2).2 with oA := A3,oc := c3 } = mm := ⟨_,rfl⟩
       rw [hmm]
       obtain ⟨Wz,W10,hWz,hst,hb10,hk10⟩ := lay_msg w9 mm
       obtain ⟨bz,hbz⟩ : ∃ bz,w9.heap.size = bz := ⟨_,rfl⟩
       rw [hbz] at hst hb10
       obtain ⟨cs9,hcs9⟩ : ∃ cs9,(xcell mm).toArray = cs9 := ⟨_,rfl⟩
       unfold xagg
       rw [hcs9] at hst ⊢
       have HM10 := hZ0 (HM8.out.quiet (hk9.then hk10))
       clear hcs9 hmm hto hs3 hc3 hk9 hk10 hb10
       go_wp2
       go_roundw
       case rel => exact ⟨i + 1,X5,t5,by omega,by omega,by go_num,HM10.out.p,HM10.out.b,HM10.out.j,HM10.out.q,HM10.out.f,HM10.out.k⟩
       case measure => simp [intOf];omega
      | false =>
       clear HSM
       go_wp2_with fail
       clear hW7 q0 q1 q2 q3 q4 p0 p1 p2 p3 p4 hb7
       have hnx := pnext_any HM7.out.p HM7.out.j.ok (by have := (Ops.chk_ok HM7.out.j.b).2.2.2.2.1;dsimp only at this;omega) 3 2
       rw [HM7.out.b] at hnx
       have HNX := hZ0 hnx
       clear hnx
       refine HNX.out.mono ?_
       rintro e w9 ⟨A3,c3,rfl,hs3,hc3,-,hk9⟩
       have hto := next_done HD5.out 3 2
       rw [hto]
       obtain ⟨mm,hmm⟩ : ∃ mm,{ (nextT t5 3 2).2 with oA := A3,oc := c3 } = mm := ⟨_,rfl⟩
       rw [hmm]
       obtain ⟨Wz,W10,hWz,hst,hb10,hk10⟩ := lay_msg w9 mm
       obtain ⟨bz,hbz⟩ : ∃ bz,w9.heap.size = bz := ⟨_,rfl⟩
       rw [hbz] at hst hb10
       obtain ⟨cs9,hcs9⟩ : ∃ cs9,(xcell mm).toArray = cs9 := ⟨_,rfl⟩
       unfold xagg
       rw [hcs9] at hst ⊢
       have HM10 := hZ0 (HM7.out.quiet (hk9.then hk10))
       clear hcs9 hmm hto hs3 hc3 hk9 hk10 hb10
       go_wp2
       go_roundw
       case rel => exact ⟨i + 1,X5,t5,by omega,by omega,by go_num,HM10.out.p,HM10.out.b,HM10.out.j,HM10.out.q,HM10.out.f,HM10.out.k⟩
       case measure => simp [intOf];omega
     ·have e8 : (rr5.e != 0) = true := by simpa using he
      have e9 : ¬ (0 : Int) < (rr5.ps.length : Int) := by have := he7 he;omega
      clear he he7
      cases d1 with
      | true =>
       rw [HSR.out HD1.out] at p0 p1 p2 p3 p4
       have HSMM := hZ0 (HSM.out HD1.out)
       go_wp2_with fail
       clear hW7 q0 q1 q2 q3 q4 p0 p1 p2 p3 p4
       refine HSMM.out.mono ?_
       rintro e w8 ⟨rfl,hk8⟩
       have HM8 := hZ0 (HM7.out.quiet hk8)
       have hr8 := HR7.out.kept hk8 (fun z => z)
       have q0 := hr8.cell 0;have q1 := hr8.cell 1;have q4 := hr8.cell 4
       simp [rcell] at q0 q1 q4
       clear hk8 hr8
       go_wp2_with fail
       clear q0 q1 q4 hb7
       have hnx := pnext_any HM8.out.p HM8.out.j.ok (by have := (Ops.chk_ok HM8.out.j.b).2.2.2.2.1;dsimp only at this;omega) 3 2
       rw [HM8.out.b] at hnx
       have HNX := hZ0 hnx
       clear hnx
       refine HNX.out.mono ?_
       rintro e w9 ⟨A3,c3,rfl,hs3,hc3,-,hk9⟩
       have hto := next_done HD5.out 3 2
       rw [hto]
       obtain ⟨mm,hmm⟩ : ∃ mm,{ (nextT t5 3 2).2 with oA := A3,oc := c3 } = mm := ⟨_,rfl⟩
       rw [hmm]
       obtain ⟨Wz,W10,hWz,hst,hb10,hk10⟩ := lay_msg w9 mm
       obtain ⟨bz,hbz⟩ : ∃ bz,w9.heap.size = bz := ⟨_,rfl⟩
       rw [hbz] at hst hb10
       obtain ⟨cs9,hcs9⟩ : ∃ cs9,(xcell mm).toArray = cs9 := ⟨_,rfl⟩
       unfold xagg
       rw [hcs9] at hst ⊢
       have HM10 := hZ0 (HM8.out.quiet (hk9.then hk10))
       clear hcs9 hmm hto hs3 hc3 hk9 hk10 hb10
       go_wp2
       go_roundw
       case rel => exact ⟨i + 1,X5,t5,by omega,by omega,by go_num,HM10.out.p,HM10.out.b,HM10.out.j,HM10.out.q,HM10.out.f,HM10.out.k⟩
       case measure => simp [intOf];omega
      | false =>
       clear HSM
       go_wp2_with fail
       clear hW7 q0 q1 q2 q3 q4 p0 p1 p2 p3 p4 hb7
       have hnx := pnext_any HM7.out.p HM7.out.j.ok (by have := (Ops.chk_ok HM7.out.j.b).2.2.2.2.1;dsimp only at this;omega) 3 2
       rw [HM7.out.b] at hnx
       have HNX := hZ0 hnx
       clear hnx
       refine HNX.out.mono ?_
       rintro e w9 ⟨A3,c3,rfl,hs3,hc3,-,hk9⟩
       have hto := next_done HD5.out 3 2
       rw [hto]
       obtain ⟨mm,hmm⟩ : ∃ mm,{ (nextT t5 3 2).2 with oA := A3,oc := c3 } = mm := ⟨_,rfl⟩
       rw [hmm]
       obtain ⟨Wz,W10,hWz,hst,hb10,hk10⟩ := lay_msg w9 mm
       obtain ⟨bz,hbz⟩ : ∃ bz,w9.heap.size = bz := ⟨_,rfl⟩
       rw [hbz] at hst hb10
       obtain ⟨cs9,hcs9⟩ : ∃ cs9,(xcell mm).toArray = cs9 := ⟨_,rfl⟩
       unfold xagg
       rw [hcs9] at hst ⊢
       have HM10 := hZ0 (HM7.out.quiet (hk9.then hk10))
       clear hcs9 hmm hto hs3 hc3 hk9 hk10 hb10
       go_wp2
       go_roundw
       case rel => exact ⟨i + 1,X5,t5,by omega,by omega,by go_num,HM10.out.p,HM10.out.b,HM10.out.j,HM10.out.q,HM10.out.f,HM10.out.k⟩
       case measure => simp [intOf];omega
end Ask
end Go.Proofs.Ytobfdolhgnoedaa
