/- Part 33 of what the proof needs. -/
import Derived.Test.YtobfdolhgnoedaaAP19
import Derived.Test.YtobfdolhgnoedaaAP28
import Derived.Test.YtobfdolhgnoedaaAP29
import Derived.Test.YtobfdolhgnoedaaAP31
set_option linter.unusedSimpArgs false
set_option linter.unusedVariables false
set_option maxHeartbeats 32000000
set_option maxRecDepth 100000
namespace Go.Proofs.Ytobfdolhgnoedaa
open Go.RowKit Go.Sort
set_option maxRecDepth 100000
namespace Ask
open Plan Ops Ent Msg MO Vn
attribute [local go_sem ↓] storeVar_msg loadVar_msg
theorem bare_next (t : TS) (ep hd : Int) : Bare (nextT t ep hd).2 := by
 unfold nextT
 repeat' split
 all_goals exact ⟨⟨rfl,rfl,rfl⟩,⟨rfl,rfl,rfl⟩,⟨rfl,rfl,rfl⟩,rfl,rfl,rfl⟩
theorem next_ops (t : TS) (ep hd : Int) (h : t.bo.length <= 1000) : (nextT t ep hd).2.ops.length <= 1000 := by
 unfold nextT
 repeat' split
 all_goals first | exact h | (show (0 : Nat) <= 1000;decide)
structure Two (w w' : World) (tb db : Nat) (X : PX) (Y : DX) (t : TS) : Prop where
 p : PAt w' X t
 d : DAt w' Y t
 pb : X.b = tb
 db : Y.b = db
 s : ∀ k,foot X t k -> ¬ footD Y t k
 fp : ∀ k,foot X t k -> w.heap.size <= k
 fd : ∀ k,footD Y t k -> w.heap.size <= k
 k : Kept NoF w w'
 j : JOk t
 i : DI t
theorem Two.quiet {w w' w2 : World} {tb db : Nat} {X : PX} {Y : DX} {t : TS} (h : Two w w' tb db X Y t) (hk : Kept NoF w' w2) : Two w w2 tb db X Y t :=
 ⟨h.p.quiet hk,h.d.quiet hk,h.pb,h.db,h.s,h.fp,h.fd,h.k.then hk,h.j,h.i⟩
structure Half (w w' : World) (tb db : Nat) (X : PX) (Y : DX) (t t' : TS) : Prop where
 p : PAt w' X t'
 d : DAt w' Y t
 pb : X.b = tb
 db : Y.b = db
 s : ∀ k,foot X t' k -> ¬ footD Y t k
 fp : ∀ k,foot X t' k -> w.heap.size <= k
 fd : ∀ k,footD Y t k -> w.heap.size <= k
 k : Kept NoF w w'
theorem Half.quiet {w w' w2 : World} {tb db : Nat} {X : PX} {Y : DX} {t t' : TS} (h : Half w w' tb db X Y t t') (hk : Kept NoF w' w2) : Half w w2 tb db X Y t t' :=
 ⟨h.p.quiet hk,h.d.quiet hk,h.pb,h.db,h.s,h.fp,h.fd,h.k.then hk⟩
theorem Two.half {w W w2 : World} {tb db : Nat} {X : PX} {Y : DX} {t t' : TS} {v : Value} {e : Ending} (h : Two w W tb db X Y t) (hp : PPost W X t v t' e w2) : e = .returned v /\ ∃ X',Half w w2 tb db X' Y t t' := by
 obtain ⟨he,X',h1,h2,h3,h4⟩ := hp
 refine ⟨he,X',h1,h.d.keptG h4 (fun k hk hf => h.s k hf hk),h2.trans h.pb,h.db,fun k hk hf => ?_,fun k hk => ?_,h.fd,h.k.trans h4 (fun i hi => .inr (h.fp i hi))⟩
 ·rcases h3 k hk with e | e
  ·exact h.s k e hf
  ·have := h.d.lt hf;omega
 ·rcases h3 k hk with e | e
  ·exact h.fp k e
  ·exact Nat.le_trans h.k.size e
theorem Half.two {w W w2 : World} {tb db : Nat} {X : PX} {Y : DX} {t t' : TS} {v : Value} {e : Ending} (h : Half w W tb db X Y t t') (hj : JOk t') (hi : DI t') (hp : DPost W Y t v t' e w2) : e = .returned v /\ ∃ Y',Two w w2 tb db X Y' t' := by
 obtain ⟨he,Y',h1,h2,h3,h4⟩ := hp
 refine ⟨he,Y',h.p.keptG h4 (fun k hk hf => h.s k hk hf),h1,h.pb,h2.trans h.db,fun k hk hf => ?_,h.fp,fun k hk => ?_,h.k.trans h4 (fun i hi => .inr (h.fd i hi)),hj,hi⟩
 ·rcases h3 k hf with e | e
  ·exact h.s k hk e
  ·have := h.p.lt hk;omega
 ·rcases h3 k hk with e | e
  ·exact h.fd k e
  ·exact Nat.le_trans h.k.size e
theorem off_new {W : World} {b : Nat} {A : Option Addr} {T : TypeId} {cs : Array Value} (h : Has W b T cs) (hA : ∀ ad,A = some ad -> W.heap.size <= ad.block) : ∀ ad,A = some ad -> ¬ ad.block = b := fun ad e hb => by
 have := hA ad e
 have := h.lt
 omega
theorem off_foot {F : Nat -> Prop} {b : Nat} {A : Option Addr} (hF : ∀ k,F k -> k < b) (hA : ∀ ad,A = some ad -> F ad.block) : ∀ ad,A = some ad -> ¬ ad.block = b := fun ad e hb => by
 have := hF _ (hA ad e)
 omega
theorem rep_len {t : TS} (h : JOk t) : (repT t).ps.length <= 1000 := by
 unfold repT
 split
 ·exact h.rl
 ·decide
attribute [local go_sem] run_loadMsg
theorem law_playsA (w : World) (c0 r0 : Int) (a : AskR) (ha : QGood w a) (A : Option Addr) (c : Nat) (l : List ActR) (hl : Src w 25 A l.length (acells l)) (hg : ∀ x ∈ l,AGood w x) (hlc : l.length <= c) (hcm : c <= maxLen) :
  Calls Try.prog 4 #[.int .i64 c0,.int .i64 r0,qagg a,.slice A l.length c] w fun e w' => e = .returned (.bool true) /\ Below w.heap.size w w' := by
 have hend : ∀ w',Kept NoF w w' -> Below w.heap.size w w' := fun w' hk => hk.below (Nat.le_refl _) (fun _ z => z.elim)
 obtain ⟨W0,hW0⟩ : ∃ W0,w.alloc (.cells (qcell a).toArray 37) = W0 := ⟨_,rfl⟩
 have hk0 : Kept NoF w W0 := by rw [<- hW0];(repeat' (first | (with_reducible first | exact kR0 | apply kP0 | apply kN0 | apply kD0 | apply kA0) | (right;simp;done)))
 have hn0 : Has W0 w.heap.size 37 (qcell a).toArray := by rw [<- hW0];exact Has.new _ _ _
 have hq := ha.kept hk0
 have hfew := few_any W0 a ⟨hq.2.2.2.2.2.2.2.2.1,hq.2.2.2.2.2.2.2.2.2,Nat.le_trans hq.2.1 hq.2.2.1⟩ A c l (hl.kept hk0 (fun _ _ z => z)) (fun x hx => (hg x hx).1.lens)
 obtain ⟨fv,hfv⟩ : ∃ fv,(fewQ a && fewP l) = fv := ⟨_,rfl⟩
 rw [hfv] at hfew
 have haw := fun W => awake_a W
 have HEND := hZ0 hend;have HFEW := hZ0 hfew;have HAW := hZ0 haw;have HK0 := hZ0 hk0;have HN0 := hZ0 hn0;have HL := hZ0 hl;have HG := hZ0 hg;have HQ := hZ0 hq;have HFV := hZ0 hfv;have HLC := hZ0 (And.intro hlc hcm)
 have g0 := hn0.cell 0;have g1 := hn0.cell 1;have g2 := hn0.cell 2;have g3 := hn0.cell 3;have g4 := hn0.cell 4;have g5 := hn0.cell 5;have g6 := hn0.cell 6
 simp [qcell] at g0 g1 g2 g3 g4 g5 g6
 obtain ⟨ab,hab⟩ : ∃ ab,w.heap.size = ab := ⟨_,rfl⟩
 rw [hab] at g0 g1 g2 g3 g4 g5 g6 HN0
 unfold qcell at hW0
 unfold qagg qcell at HFEW
 unfold qagg qcell
 clear hend hfew haw hk0 hn0 hq hfv hl hg ha hlc hcm
 go_enter Try.func4,Try.ntmps4
 go_wp2_with fail
 clear hW0 hab g0 g1 g2 g3 g4 g5 g6
 refine HFEW.out.mono ?_
 rintro e w1 ⟨rfl,hk1⟩
 have HK1 := hZ0 (HK0.out.then hk1)
 have hn1 := HN0.out.kept hk1 (fun z => z)
 have HN1 := hZ0 hn1
 have HQ1 := hZ0 (HQ.out.kept hk1)
 cases fv
 ·clear hk1 hn1
  go_wp2_with fail
  refine (HAW.out _).mono ?_
  rintro e w9 ⟨rfl,hk9⟩
  have HE := hZ0 (HEND.out _ (HK1.out.then hk9));clear hk9
  go_wp2
  go_ret
  exact ⟨rfl,HE.out⟩
 have g0 := hn1.cell 0;have g1 := hn1.cell 1;have g2 := hn1.cell 2;have g3 := hn1.cell 3;have g4 := hn1.cell 4;have g5 := hn1.cell 5;have g6 := hn1.cell 6
 simp [qcell] at g0 g1 g2 g3 g4 g5 g6
 clear hk1 hn1
 have hfq := (Bool.and_eq_true _ _).mp HFV.out
 have hal : a.ops.length <= 1000 := by have := (fewQ_get hfq.1).1;omega
 have HAL := hZ0 hal
 have hnew := pnew_any w1 c0 r0 a HQ1.out hal
 have HNEW := hZ0 hnew
 have HFP := hZ0 hfq.2
 clear hnew hfq hal
 unfold qagg qcell at HNEW
 go_wp2_with fail
 clear g0 g1 g2 g3 g4 g5 g6
 obtain ⟨z,hz⟩ : ∃ z,newE c0 r0 a = z := ⟨_,rfl⟩
 by_cases hnz : newE c0 r0 a = 0
 rotate_left
 ·refine HNEW.out.mono ?_
  rintro e w2 ⟨hp,-⟩
  obtain ⟨rfl,hk2⟩ := hp hnz
  have hn2 := HN1.out.kept hk2 (fun z => z)
  have hdn := dnew_any w2 c0 r0 a (HQ1.out.kept hk2) HAL.out
  have HDN := hZ0 hdn
  unfold qagg qcell at HDN
  have HK2 := hZ0 (HK1.out.then hk2)
  have g0 := hn2.cell 0;have g1 := hn2.cell 1;have g2 := hn2.cell 2;have g3 := hn2.cell 3;have g4 := hn2.cell 4;have g5 := hn2.cell 5;have g6 := hn2.cell 6
  simp [qcell] at g0 g1 g2 g3 g4 g5 g6
  have HNZ := hZ0 hnz
  rw [hz] at hnz ⊢
  have HZ := hZ0 hz
  clear hz hk2 hn2 hdn hnz
  go_wp2_with fail
  clear g0 g1 g2 g3 g4 g5 g6
  refine HDN.out.mono ?_
  rintro e w3 ⟨hp,-⟩
  obtain ⟨rfl,hk3⟩ := hp HNZ.out
  rw [HZ.out]
  have HK3 := hZ0 (HK2.out.then hk3)
  have ez : (z != z) = false := by simp
  clear hp hk3
  go_wp2_with fail
  go_loopw [13] (fun v13 wr => v13 = .int .i64 0 /\ Kept NoF w wr) (fun _ _ => 0)
  case atStart => exact ⟨rfl,HK3.out⟩
  case round =>
   obtain ⟨rfl,hk⟩ := hrel
   have HK := hZ0 hk
   clear hk
   by_cases hil : 0 < l.length
   ·go_wp2_with fail
    refine (HAW.out _).mono ?_
    rintro e w9 ⟨rfl,hk9⟩
    have HE := hZ0 (HEND.out _ (HK.out.then hk9));clear hk9
    go_wp2
    go_ret
    exact ⟨rfl,HE.out⟩
   ·go_wp2_with fail
    refine (HAW.out _).mono ?_
    rintro e w9 ⟨rfl,hk9⟩
    have HE := hZ0 (HEND.out _ (HK.out.then hk9));clear hk9
    go_wp2
    go_ret
    exact ⟨rfl,HE.out⟩
 refine HNEW.out.mono ?_
 rintro e w2 ⟨-,hp⟩
 obtain ⟨X,rfl,hp,hft,hk2⟩ := hp hnz
 have hn2 := HN1.out.kept hk2 (fun z => z)
 have hdn := dnew_any w2 c0 r0 a (HQ1.out.kept hk2) HAL.out
 have HDN := hZ0 hdn
 unfold qagg qcell at HDN
 have g0 := hn2.cell 0;have g1 := hn2.cell 1;have g2 := hn2.cell 2;have g3 := hn2.cell 3;have g4 := hn2.cell 4;have g5 := hn2.cell 5;have g6 := hn2.cell 6
 simp [qcell] at g0 g1 g2 g3 g4 g5 g6
 obtain ⟨tb,htb⟩ : ∃ tb,X.b = tb := ⟨_,rfl⟩
 have hj := JOk.new HQ1.out.2.2.2.2.2.2.1 hnz
 have HJ := hZ0 hj;have HP := hZ0 (show PAt w2 X (newT c0 r0 a) from hp);have HK2 := hZ0 (HK1.out.then hk2);have HTB := hZ0 htb;have HNZ := hZ0 hnz
 have HFT := hZ0 (show ∀ k,foot X (newT c0 r0 a) k -> w.heap.size <= k from fun k hk => Nat.le_trans HK1.out.size (hft k hk))
 rw [htb]
 clear hj hp hk2 hft htb hnz HNEW hn2 hdn hz
 go_wp2_with fail
 clear g0 g1 g2 g3 g4 g5 g6
 refine HDN.out.mono ?_
 rintro e w3 ⟨-,hp⟩
 obtain ⟨Y,rfl,hd,hfd,hk3⟩ := hp HNZ.out
 obtain ⟨db,hdb⟩ : ∃ db,Y.b = db := ⟨_,rfl⟩
 have H2 := hZ0 (show Two w w3 tb db X Y (newT c0 r0 a) from ⟨HP.out.quiet hk3,hd,HTB.out,hdb,fun k hk hf => by have := HP.out.lt hk;have := hfd k hf;omega,HFT.out,fun k hk => Nat.le_trans HK2.out.size (hfd k hk),HK2.out.then hk3,HJ.out,DI.new _ _ _⟩)
 rw [hdb]
 clear hd hfd hk3 hdb HDN
 go_wp2_with fail
 go_loopw [13,14,15,16,17,18,19,20,21,22] (fun v13 _ _ _ _ _ _ _ _ _ wr => ∃ (i : Nat) (X' : PX) (Y' : DX) (t : TS),i <= 40 /\ i <= l.length /\ v13 = .int .i64 i /\ Two w wr tb db X' Y' t) (fun v13 _ _ _ _ _ _ _ _ _ _ => l.length - (intOf v13).toNat)
 case atStart => exact ⟨0,X,Y,newT c0 r0 a,by omega,Nat.zero_le _,rfl,H2.out⟩
 case round =>
  obtain ⟨i,X',Y',t,hi,hi2,rfl,h2⟩ := hrel
  have H2' := hZ0 h2
  have HI := hZ0 hi
  clear h2
  by_cases hil : i < l.length
  rotate_left
  ·obtain rfl : i = l.length := by omega
   go_wp2_with fail
   have HK := hZ0 H2'.out.k
   refine (HAW.out _).mono ?_
   rintro e w9 ⟨rfl,hk9⟩
   have HE := hZ0 (HEND.out _ (HK.out.then hk9));clear hk9
   go_wp2
   go_ret
   exact ⟨rfl,HE.out⟩
  by_cases hi4 : i < 40
  rotate_left
  ·obtain rfl : i = 40 := by omega
   go_wp2_with fail
   have HK := hZ0 H2'.out.k
   refine (HAW.out _).mono ?_
   rintro e w9 ⟨rfl,hk9⟩
   have HE := hZ0 (HEND.out _ (HK.out.then hk9));clear hk9
   go_wp2
   go_ret
   exact ⟨rfl,HE.out⟩
  obtain ⟨x,hx⟩ : ∃ x,l[i]? = some x := ⟨_,List.getElem?_eq_getElem hil⟩
  have hgx := HG.out x (List.mem_of_getElem? hx)
  have HX := hZ0 hx;have HGX := hZ0 hgx
  have hrow := fun W (hW : Kept NoF w W) => run_loadMsg_row W A l (HL.out.kept hW (fun _ _ z => z)) i x HX.out
  obtain ⟨ad,rfl,had,-,m0,m1,m2⟩ := hrow wr H2'.out.k
  have hcs : ∀ W,Kept NoF w W -> W.cell? (ad.add (i * 25)) = some (.int .i64 x.k) /\ W.cell? ⟨(ad.add (i * 25)).block,(ad.add (i * 25)).off + 1,none⟩ = some (.int .i64 x.n) /\ W.cell? ⟨(ad.add (i * 25)).block,(ad.add (i * 25)).off + 2,none⟩ = some (.int .i64 x.fr) := fun W hW => by
   obtain ⟨ad2,e2,-,-,q0,q1,q2⟩ := hrow W hW
   injection e2 with e2
   subst e2
   exact ⟨q0,q1,q2⟩
  have hmi : ∀ W,Kept NoF w W -> MsgIn W ⟨(ad.add (i * 25)).block,(ad.add (i * 25)).off + 3,none⟩ /\ msgAt W ⟨(ad.add (i * 25)).block,(ad.add (i * 25)).off + 3,none⟩ = (xcell x.x).toArray := fun W hW => by
   obtain ⟨ad2,e2,q⟩ := msgIn_row W (some ad) l (HL.out.kept hW (fun _ _ z => z)) i x HX.out
   injection e2 with e2
   subst e2
   exact q
  have HCS := hZ0 hcs;have HMI := hZ0 hmi
  clear hx hgx hrow hcs hmi had
  have hkk : x.k = 1 \/ x.k = 0 \/ (x.k ≠ 1 /\ x.k ≠ 0) := by omega
  rcases hkk with hk1 | hk1 | ⟨hk1,hk0⟩
  ·have e1 : (x.k == 1) = true := by simpa using hk1
   have e0 : (x.k == 0) = false := by simp [hk1]
   clear hk1 m1 m2
   have htk := ptick_any H2'.out.p H2'.out.j.ok
   obtain ⟨t5,ht5⟩ : ∃ t5,(tickT t).1 = t5 := ⟨_,rfl⟩
   obtain ⟨v5,hv5⟩ : ∃ v5,(tickT t).2 = v5 := ⟨_,rfl⟩
   have hj5 := H2'.out.j.tick
   have hi5 := H2'.out.i.tick
   rw [ht5] at htk hj5 hi5
   rw [H2'.out.pb,hv5] at htk
   have HTK := hZ0 htk
   have HST := hZ0 (And.intro hj5 (And.intro hi5 (And.intro ht5 hv5)))
   clear htk hj5 hi5 ht5 hv5
   go_wp2_with fail
   clear m0 e1 e0
   refine HTK.out.mono ?_
   intro e w5 hpp
   obtain ⟨rfl,X5,hh⟩ := H2'.out.half hpp
   have HH := hZ0 hh
   have hdt := dtick_any HH.out.d H2'.out.j.ok
   rw [HH.out.db,HST.out.2.2.1,HST.out.2.2.2] at hdt
   have HDT := hZ0 hdt
   clear hh hpp hdt
   go_wp2_with fail
   refine HDT.out.mono ?_
   intro e w6 hpp
   obtain ⟨rfl,Y5,ht⟩ := HH.out.two HST.out.1 HST.out.2.1 hpp
   have HT := hZ0 ht
   have ev : (v5 == v5) = true := by simp
   clear ht hpp
   as_aux_lemma =>
    have hd := pdone_any HT.out.p HT.out.j.rl
    rw [HT.out.pb] at hd
    have HD := hZ0 hd
    clear hd
    go_wp2_with fail
    refine HD.out.mono ?_
    rintro e w6 ⟨A2,c2,rfl,hn2,hk6⟩
    obtain ⟨W7,hW7⟩ : ∃ W7,w6.alloc (.cells (rcell (repT t5) A2 c2).toArray 46) = W7 := ⟨_,rfl⟩
    have hk7 : Kept NoF w6 W7 := by rw [<- hW7];(repeat' (first | (with_reducible first | exact kR0 | apply kP0 | apply kN0 | apply kD0 | apply kA0) | (right;simp;done)))
    have hr7 : Has W7 w6.heap.size 46 (rcell (repT t5) A2 c2).toArray := by rw [<- hW7];exact Has.new _ _ _
    have HT7 := hZ0 (HT.out.quiet (hk6.then hk7))
    have HS7 := hZ0 ((Src.of_own hn2.1).kept hk7 (fun _ _ z => z))
    obtain ⟨b7,hb7⟩ : ∃ b7,w6.heap.size = b7 := ⟨_,rfl⟩
    rw [hb7] at hr7
    have HR7 := hZ0 hr7
    have hd := ddone_any HT7.out.d
    rw [HT7.out.db] at hd
    have HD7 := hZ0 hd
    obtain ⟨rr,hrr⟩ : ∃ rr,repT t5 = rr := ⟨_,rfl⟩
    obtain ⟨d5,hd5⟩ : ∃ d5,t5.dn = d5 := ⟨_,rfl⟩
    have HLN := hZ0 (rep_len HT.out.j)
    rw [hrr] at hW7 HD7 HS7 HR7 HLN
    rw [hrr,hd5]
    rw [hd5] at HD7
    have HD5 := hZ0 hd5
    unfold rcell at hW7
    unfold ragg rcell
    clear hn2 hk6 hk7 hr7 hd hd5 hrr
    go_wp2_with fail
    clear hW7 hb7
    refine HD7.out.mono ?_
    rintro e w8 ⟨A3,c3,rfl,hs3,hk8⟩
    obtain ⟨W9,hW9⟩ : ∃ W9,w8.alloc (.cells (rcell rr A3 c3).toArray 46) = W9 := ⟨_,rfl⟩
    have hk9 : Kept NoF w8 W9 := by rw [<- hW9];(repeat' (first | (with_reducible first | exact kR0 | apply kP0 | apply kN0 | apply kD0 | apply kA0) | (right;simp;done)))
    have hr9 : Has W9 w8.heap.size 46 (rcell rr A3 c3).toArray := by rw [<- hW9];exact Has.new _ _ _
    have hr79 := HR7.out.kept (hk8.then hk9) (fun z => z)
    have HT9 := hZ0 (HT7.out.quiet (hk8.then hk9))
    have hsm := fun W (hW : Kept NoF W9 W) => same_reply W rr A2 A3 c2 c3 (HS7.out.kept ((hk8.then hk9).then hW) (fun _ _ z => z)) (hs3.kept (hk9.then hW) (fun _ _ z => z)) HLN.out
    have hwr := fun W (hW : Kept NoF W9 W) => pwrites_any (HT9.out.p.quiet hW)
    simp only [HT9.out.pb,HD5.out] at hwr
    unfold ragg rcell at hsm
    obtain ⟨pz,hpz⟩ : ∃ pz,((t5.ph : Nat) : Int) = pz := ⟨_,rfl⟩
    have e15 : W9.cell? ⟨db,15,none⟩ = some (.bool d5) := by rw [<- HD5.out,<- HT9.out.db];exact HT9.out.d.b.cell 15
    have e10 : W9.cell? ⟨db,10,none⟩ = some (.int .i64 pz) := by rw [<- hpz,<- HT9.out.db];exact HT9.out.d.b.cell 10
    have e0 := hr79.cell 0;have e1 := hr79.cell 1;have e2 := hr79.cell 2;have e3 := hr79.cell 3;have e4 := hr79.cell 4
    have y0 := hr9.cell 0;have y1 := hr9.cell 1;have y2 := hr9.cell 2;have y3 := hr9.cell 3;have y4 := hr9.cell 4
    simp [rcell] at e0 e1 e2 e3 e4 y0 y1 y2 y3 y4
    obtain ⟨b9,hb9⟩ : ∃ b9,w8.heap.size = b9 := ⟨_,rfl⟩
    rw [hb9] at y0 y1 y2 y3 y4
    obtain ⟨wv,hwv⟩ : ∃ wv,(!d5 && decide (t5.ph = 0)) = wv := ⟨_,rfl⟩
    simp only [hwv] at hwr
    have hz0 : (pz == 0) = decide (t5.ph = 0) := by rw [<- hpz,Bool.eq_iff_iff];simp
    obtain ⟨p0,hp0⟩ : ∃ p0,decide (t5.ph = 0) = p0 := ⟨_,rfl⟩
    rw [hp0] at hwv hz0
    have hwv2 : (wv != (!d5 && p0)) = false := by rw [hwv];simp
    have hrs : ∀ d os,Calls Try.prog 21 #[.agg #[.int .i64 rr.req,.int .i64 rr.e,.int .u64 rr.at',.int .i64 rr.pin,.slice A2 rr.ps.length c2],.agg #[.int .i64 rr.req,.int .i64 rr.e,.int .u64 rr.at',.int .i64 rr.pin,.slice A3 rr.ps.length c3]] (grow (redrawn W9 d) os) fun e w' => e = .returned (.bool true) /\ ∃ p : Regrown,w' = grow (redrawn W9 p.d) p.os := fun d os => Calls.regrown_of ((hsm _ (kept_of_below (below_regrown W9 d os))).mono fun e w' h => ⟨h.1,h.2.below (Nat.le_refl _) (fun _ z => z.elim)⟩)
    have hrw : ∀ d os,Calls Try.prog 13 #[.pointer (some ⟨tb,0,none⟩)] (grow (redrawn W9 d) os) fun e w' => e = .returned (.bool wv) /\ ∃ p : Regrown,w' = grow (redrawn W9 p.d) p.os := fun d os => Calls.regrown_of ((hwr _ (kept_of_below (below_regrown W9 d os))).mono fun e w' h => ⟨h.1,h.2.below (Nat.le_refl _) (fun _ z => z.elim)⟩)
    have k15 := fun d os => cell_regrown e15 d os;have k10 := fun d os => cell_regrown e10 d os
    have k0 := fun d os => cell_regrown e0 d os;have k1 := fun d os => cell_regrown e1 d os;have k2 := fun d os => cell_regrown e2 d os;have k3 := fun d os => cell_regrown e3 d os;have k4 := fun d os => cell_regrown e4 d os
    have n0 := fun d os => cell_regrown y0 d os;have n1 := fun d os => cell_regrown y1 d os;have n2 := fun d os => cell_regrown y2 d os;have n3 := fun d os => cell_regrown y3 d os;have n4 := fun d os => cell_regrown y4 d os
    have HRS := hZ0 hrs;have HRW := hZ0 hrw;have HZ0 := hZ0 hz0;have HWV := hZ0 hwv
    unfold rcell at hW9
    unfold ragg rcell
    clear hs3 hk8 hk9 hr9 hr79 hsm hwr hrs hrw hpz hp0 hwv hz0
    go_wp2_with fail
    clear hW9 hb9
    cases d5 with
    | true =>
     have hw0 : wv = false := by rw [<- HWV.out];rfl
     subst hw0
     refine wp_region_quiet_below (by kernel_rfl) (by kernel_rfl) ?_
     repeat (first | go_big_quiet_step (first | with_reducible exact HRS.out _ _ | with_reducible exact HRW.out _ _) | quiet_step (first | with_reducible exact HRS.out _ _ | with_reducible exact HRW.out _ _))
     refine wpQuiet_nil ?_
     intro _ hw9
     obtain ⟨⟨dq,osq⟩,hw9⟩ := hw9
     subst hw9
     have hkq := kept_of_below (below_regrown W9 dq osq)
     obtain ⟨W10,hW10⟩ : ∃ W10,grow (redrawn W9 dq) osq = W10 := ⟨_,rfl⟩
     rw [hW10] at hkq ⊢
     have HTQ := hZ0 (HT9.out.quiet hkq)
     clear hkq hW10
     go_wp2
     go_roundw
     case rel => exact ⟨i + 1,X5,Y5,t5,by have := HI.out;omega,by omega,by go_num,HTQ.out⟩
     case measure => simp [intOf];omega
    | false =>
     have hw0 : wv = p0 := by rw [<- HWV.out];simp
     subst hw0
     have hz1 := HZ0.out
     cases wv
     ·refine wp_region_quiet_below (by kernel_rfl) (by kernel_rfl) ?_
      repeat (first | go_big_quiet_step (first | with_reducible exact HRS.out _ _ | with_reducible exact HRW.out _ _) | quiet_step (first | with_reducible exact HRS.out _ _ | with_reducible exact HRW.out _ _))
      refine wpQuiet_nil ?_
      intro _ hw9
      obtain ⟨⟨dq,osq⟩,hw9⟩ := hw9
      subst hw9
      have hkq := kept_of_below (below_regrown W9 dq osq)
      obtain ⟨W10,hW10⟩ : ∃ W10,grow (redrawn W9 dq) osq = W10 := ⟨_,rfl⟩
      rw [hW10] at hkq ⊢
      have HTQ := hZ0 (HT9.out.quiet hkq)
      clear hkq hW10
      go_wp2
      go_roundw
      case rel => exact ⟨i + 1,X5,Y5,t5,by have := HI.out;omega,by omega,by go_num,HTQ.out⟩
      case measure => simp [intOf];omega
     ·refine wp_region_quiet_below (by kernel_rfl) (by kernel_rfl) ?_
      repeat (first | go_big_quiet_step (first | with_reducible exact HRS.out _ _ | with_reducible exact HRW.out _ _) | quiet_step (first | with_reducible exact HRS.out _ _ | with_reducible exact HRW.out _ _))
      refine wpQuiet_nil ?_
      intro _ hw9
      obtain ⟨⟨dq,osq⟩,hw9⟩ := hw9
      subst hw9
      have hkq := kept_of_below (below_regrown W9 dq osq)
      obtain ⟨W10,hW10⟩ : ∃ W10,grow (redrawn W9 dq) osq = W10 := ⟨_,rfl⟩
      rw [hW10] at hkq ⊢
      have HTQ := hZ0 (HT9.out.quiet hkq)
      clear hkq hW10
      go_wp2
      go_roundw
      case rel => exact ⟨i + 1,X5,Y5,t5,by have := HI.out;omega,by omega,by go_num,HTQ.out⟩
      case measure => simp [intOf];omega
  ·have e1 : (x.k == 1) = false := by simp [hk1]
   have e0 : (x.k == 0) = true := by simpa using hk1
   clear hk1
   have hbl : t.bo.length <= 1000 := by have := (Ops.chk_ok H2'.out.j.b).2.2.2.2.1;dsimp only at this;omega
   have hnx := fun W (hW : Kept NoF wr W) => pnext_any (H2'.out.p.quiet hW) H2'.out.j.ok hbl x.n x.fr
   obtain ⟨to,mm,hto,hbare,hml⟩ : ∃ to mm,nextT t x.n x.fr = (to,mm) /\ Bare mm /\ mm.ops.length <= 1000 := ⟨_,_,rfl,bare_next t x.n x.fr,next_ops t x.n x.fr hbl⟩
   unfold NextPost at hnx
   simp only [H2'.out.pb,hto] at hnx
   have HNX := hZ0 hnx;have HTO := hZ0 hto;have HBM := hZ0 (And.intro hbare hml)
   have y0 := And.intro m1 m2
   have HKR := hZ0 H2'.out.k
   clear hnx hbl hto hbare hml
   go_wp2_with fail
   go_region_held3 (fun W => W.cell? ⟨(ad.add (i * 25)).block,(ad.add (i * 25)).off + 1,none⟩ = some (.int .i64 x.n) /\ W.cell? ⟨(ad.add (i * 25)).block,(ad.add (i * 25)).off + 2,none⟩ = some (.int .i64 x.fr))
    (first | with_reducible exact y6 | with_reducible exact y7 | with_reducible exact y5 | with_reducible exact y0 | exact (HCS.out _ (HKR.out.then (by (repeat' (first | (with_reducible first | exact kR0 | apply kP0 | apply kN0 | apply kD0 | apply kA0) | (right;simp;done)))))).2 | exact (HCS.out _ (HKR.out.then (HK5p.out.then (by (repeat' (first | (with_reducible first | exact kR0 | apply kP0 | apply kN0 | apply kD0 | apply kA0) | (right;simp;done))))))).2)
    (first | (go_at_call 9;refine (HNX.out _ (by (repeat' (first | (with_reducible first | exact kR0 | apply kP0 | apply kN0 | apply kD0 | apply kA0) | (right;simp;done))))).mono ?_;rintro e w5p ⟨A3p,c3p,rfl,hs3,hc3,ha3,hk5⟩;obtain ⟨mp,hmp⟩ : ∃ mp,{ mm with oA := A3p,oc := c3p } = mp := ⟨_,rfl⟩;rw [hmp];have HMp := hZ0 hmp;clear hmp hc3;have HK5p := hZ0 (Kept.then (F := NoF) (a := wr) (by (repeat' (first | (with_reducible first | exact kR0 | apply kP0 | apply kN0 | apply kD0 | apply kA0) | (right;simp;done)))) hk5);(first | (have zw := Has.new wr 34 zcells;have zc : Has w5p wr.heap.size 34 zcells := Has.kept zw hk5 (fun z => z);have zo := off_new zw ha3;obtain ⟨W6p,hst,hb6,hk6⟩ := put_msg zc rfl mp;have HSp := hZ0 (src_off hs3 hk6 (fun _ => zo));have HK6p := hZ0 (Kept.trans (F := NoF) HK5p.out hk6 (fun j hj => .inr (Nat.le_of_eq hj.symm)));have HB6p := hZ0 hb6;clear zw zc zo hk6 hb6 hs3 ha3) | (have zw := Has.new wr.drew 34 zcells;have zc : Has w5p wr.heap.size 34 zcells := Has.kept zw hk5 (fun z => z);have zo := off_new zw ha3;obtain ⟨W6p,hst,hb6,hk6⟩ := put_msg zc rfl mp;have HSp := hZ0 (src_off hs3 hk6 (fun _ => zo));have HK6p := hZ0 (Kept.trans (F := NoF) HK5p.out hk6 (fun j hj => .inr (Nat.le_of_eq hj.symm)));have HB6p := hZ0 hb6;clear zw zc zo hk6 hb6 hs3 ha3) | (have zw := Has.drew (Has.new wr 34 zcells);have zc : Has w5p wr.heap.size 34 zcells := Has.kept zw hk5 (fun z => z);have zo := off_new zw ha3;obtain ⟨W6p,hst,hb6,hk6⟩ := put_msg zc rfl mp;have HSp := hZ0 (src_off hs3 hk6 (fun _ => zo));have HK6p := hZ0 (Kept.trans (F := NoF) HK5p.out hk6 (fun j hj => .inr (Nat.le_of_eq hj.symm)));have HB6p := hZ0 hb6;clear zw zc zo hk6 hb6 hs3 ha3) | (obtain ⟨Wz,W6p,hWz,hst,hb6,hk6⟩ := lay_msg w5p mp;have hkz : Kept NoF w5p Wz := (by rw [<- hWz];(repeat' (first | (with_reducible first | exact kR0 | apply kP0 | apply kN0 | apply kD0 | apply kA0) | (right;simp;done))));have y7 := (HCS.out Wz (HKR.out.then (HK5p.out.then hkz))).2;have HSp := hZ0 (Src.kept hs3 hk6 (fun _ _ z => z));have HK6p := hZ0 (HK5p.out.then hk6);have HB6p := hZ0 hb6;clear hk6 hb6 hkz hs3 ha3));have y5 := (HCS.out w5p (HKR.out.then HK5p.out)).2;have y6 := (HCS.out W6p (HKR.out.then HK6p.out)).2;clear hk5))
   all_goals
    have hnd := fun W (hW : Kept NoF W6p W) => dnext_any (H2'.out.d.quiet (HK6p.out.then hW)) H2'.out.j.ok x.n x.fr
    unfold NextPostD at hnd
    simp only [H2'.out.db,HTO.out] at hnd
    have HND := hZ0 hnd
    have HKD := hZ0 (HKR.out.then HK6p.out)
    have HFL := hZ0 (show ∀ k,footD Y' t k -> k < W6p.heap.size from fun k hk => Nat.lt_of_lt_of_le (H2'.out.d.lt hk) HK6p.out.size)
    have y8 := (HCS.out W6p HKD.out).2
    clear hnd y0
    go_wp2_with fail
    go_region_held3 (fun W => W.cell? ⟨(ad.add (i * 25)).block,(ad.add (i * 25)).off + 1,none⟩ = some (.int .i64 x.n) /\ W.cell? ⟨(ad.add (i * 25)).block,(ad.add (i * 25)).off + 2,none⟩ = some (.int .i64 x.fr))
     (first | with_reducible exact y6 | with_reducible exact y7 | with_reducible exact y5 | with_reducible exact y8 | exact (HCS.out _ (HKD.out.then (by (repeat' (first | (with_reducible first | exact kR0 | apply kP0 | apply kN0 | apply kD0 | apply kA0) | (right;simp;done)))))).2 | exact (HCS.out _ (HKD.out.then (HK5d.out.then (by (repeat' (first | (with_reducible first | exact kR0 | apply kP0 | apply kN0 | apply kD0 | apply kA0) | (right;simp;done))))))).2)
     (first | (go_at_call 16;refine (HND.out _ (by (repeat' (first | (with_reducible first | exact kR0 | apply kP0 | apply kN0 | apply kD0 | apply kA0) | (right;simp;done))))).mono ?_;rintro e w5d ⟨A3d,c3d,rfl,hs3,hc3,ha3,hk5⟩;obtain ⟨md,hmd⟩ : ∃ md,{ mm with oA := A3d,oc := c3d } = md := ⟨_,rfl⟩;rw [hmd];have HMd := hZ0 hmd;clear hmd hc3;have HK5d := hZ0 (Kept.then (F := NoF) (a := W6p) (by (repeat' (first | (with_reducible first | exact kR0 | apply kP0 | apply kN0 | apply kD0 | apply kA0) | (right;simp;done)))) hk5);(first | (have zw := Has.new W6p 34 zcells;have zc : Has w5d W6p.heap.size 34 zcells := Has.kept zw hk5 (fun z => z);have zo := off_foot HFL.out ha3;obtain ⟨W6d,hst,hb6,hk6⟩ := put_msg zc rfl md;have HSd := hZ0 (src_off hs3 hk6 (fun _ => zo));have HK6d := hZ0 (Kept.trans (F := NoF) HK5d.out hk6 (fun j hj => .inr (Nat.le_of_eq hj.symm)));have HB6d := hZ0 hb6;clear zw zc zo hk6 hb6 hs3 ha3) | (have zw := Has.new W6p.drew 34 zcells;have zc : Has w5d W6p.heap.size 34 zcells := Has.kept zw hk5 (fun z => z);have zo := off_foot HFL.out ha3;obtain ⟨W6d,hst,hb6,hk6⟩ := put_msg zc rfl md;have HSd := hZ0 (src_off hs3 hk6 (fun _ => zo));have HK6d := hZ0 (Kept.trans (F := NoF) HK5d.out hk6 (fun j hj => .inr (Nat.le_of_eq hj.symm)));have HB6d := hZ0 hb6;clear zw zc zo hk6 hb6 hs3 ha3) | (have zw := Has.drew (Has.new W6p 34 zcells);have zc : Has w5d W6p.heap.size 34 zcells := Has.kept zw hk5 (fun z => z);have zo := off_foot HFL.out ha3;obtain ⟨W6d,hst,hb6,hk6⟩ := put_msg zc rfl md;have HSd := hZ0 (src_off hs3 hk6 (fun _ => zo));have HK6d := hZ0 (Kept.trans (F := NoF) HK5d.out hk6 (fun j hj => .inr (Nat.le_of_eq hj.symm)));have HB6d := hZ0 hb6;clear zw zc zo hk6 hb6 hs3 ha3) | (obtain ⟨Wz,W6d,hWz,hst,hb6,hk6⟩ := lay_msg w5d md;have hkz : Kept NoF w5d Wz := (by rw [<- hWz];(repeat' (first | (with_reducible first | exact kR0 | apply kP0 | apply kN0 | apply kD0 | apply kA0) | (right;simp;done))));have y7 := (HCS.out Wz (HKD.out.then (HK5d.out.then hkz))).2;have HSd := hZ0 (Src.kept hs3 hk6 (fun _ _ z => z));have HK6d := hZ0 (HK5d.out.then hk6);have HB6d := hZ0 hb6;clear hk6 hb6 hkz hs3 ha3));have y5 := (HCS.out w5d (HKD.out.then HK5d.out)).2;have y6 := (HCS.out W6d (HKD.out.then HK6d.out)).2;clear hk5))
    all_goals
     have hsm := fun W (hW : Kept NoF W6d W) => rsameM_any W mm A3p A3d c3p c3d HBM.out.1 (HSp.out.kept (HK6d.out.then hW) (fun _ _ z => z)) (HSd.out.kept hW (fun _ _ z => z)) HBM.out.2
     have hl1 := run_loadMsg_has W6d _ _ (HB6p.out.kept HK6d.out (fun z => z))
     have hl2 := run_loadMsg_has W6d _ _ HB6d.out
     simp only [HMp.out,HMd.out] at hsm
     unfold xagg at hsm ⊢
     obtain ⟨cs1,hcs1⟩ : ∃ cs1,(xcell mp).toArray = cs1 := ⟨_,rfl⟩
     obtain ⟨cs2,hcs2⟩ : ∃ cs2,(xcell md).toArray = cs2 := ⟨_,rfl⟩
     rw [hcs1] at hl1
     rw [hcs2] at hl2
     simp only [hcs1,hcs2] at hsm ⊢
     have HSM := hZ0 hsm
     have eto : (to == to) = true := by simp
     clear hsm hcs1 hcs2 y8
     go_wp2_with fail
     clear hl1 hl2 hst
     refine (HSM.out _ (by (repeat' (first | (with_reducible first | exact kR0 | apply kP0 | apply kN0 | apply kD0 | apply kA0) | (right;simp;done))))).mono ?_
     rintro e w7 ⟨rfl,hk7⟩
     have HT := hZ0 (H2'.out.quiet (HK6p.out.then (HK6d.out.then hk7)))
     clear hk7
     as_aux_lemma =>
      have hd := pdone_any HT.out.p HT.out.j.rl
      rw [HT.out.pb] at hd
      have HD := hZ0 hd
      clear hd
      go_wp2_with fail
      refine HD.out.mono ?_
      rintro e w6 ⟨A2,c2,rfl,hn2,hk6⟩
      obtain ⟨W7,hW7⟩ : ∃ W7,w6.alloc (.cells (rcell (repT t) A2 c2).toArray 46) = W7 := ⟨_,rfl⟩
      have hk7 : Kept NoF w6 W7 := by rw [<- hW7];(repeat' (first | (with_reducible first | exact kR0 | apply kP0 | apply kN0 | apply kD0 | apply kA0) | (right;simp;done)))
      have hr7 : Has W7 w6.heap.size 46 (rcell (repT t) A2 c2).toArray := by rw [<- hW7];exact Has.new _ _ _
      have HT7 := hZ0 (HT.out.quiet (hk6.then hk7))
      have HS7 := hZ0 ((Src.of_own hn2.1).kept hk7 (fun _ _ z => z))
      obtain ⟨b7,hb7⟩ : ∃ b7,w6.heap.size = b7 := ⟨_,rfl⟩
      rw [hb7] at hr7
      have HR7 := hZ0 hr7
      have hd := ddone_any HT7.out.d
      rw [HT7.out.db] at hd
      have HD7 := hZ0 hd
      obtain ⟨rr,hrr⟩ : ∃ rr,repT t = rr := ⟨_,rfl⟩
      obtain ⟨d5,hd5⟩ : ∃ d5,t.dn = d5 := ⟨_,rfl⟩
      have HLN := hZ0 (rep_len HT.out.j)
      rw [hrr] at hW7 HD7 HS7 HR7 HLN
      rw [hrr,hd5]
      rw [hd5] at HD7
      have HD5 := hZ0 hd5
      unfold rcell at hW7
      unfold ragg rcell
      clear hn2 hk6 hk7 hr7 hd hd5 hrr
      go_wp2_with fail
      clear hW7 hb7
      refine HD7.out.mono ?_
      rintro e w8 ⟨A3,c3,rfl,hs3,hk8⟩
      obtain ⟨W9,hW9⟩ : ∃ W9,w8.alloc (.cells (rcell rr A3 c3).toArray 46) = W9 := ⟨_,rfl⟩
      have hk9 : Kept NoF w8 W9 := by rw [<- hW9];(repeat' (first | (with_reducible first | exact kR0 | apply kP0 | apply kN0 | apply kD0 | apply kA0) | (right;simp;done)))
      have hr9 : Has W9 w8.heap.size 46 (rcell rr A3 c3).toArray := by rw [<- hW9];exact Has.new _ _ _
      have hr79 := HR7.out.kept (hk8.then hk9) (fun z => z)
      have HT9 := hZ0 (HT7.out.quiet (hk8.then hk9))
      have hsm := fun W (hW : Kept NoF W9 W) => same_reply W rr A2 A3 c2 c3 (HS7.out.kept ((hk8.then hk9).then hW) (fun _ _ z => z)) (hs3.kept (hk9.then hW) (fun _ _ z => z)) HLN.out
      have hwr := fun W (hW : Kept NoF W9 W) => pwrites_any (HT9.out.p.quiet hW)
      simp only [HT9.out.pb,HD5.out] at hwr
      unfold ragg rcell at hsm
      obtain ⟨pz,hpz⟩ : ∃ pz,((t.ph : Nat) : Int) = pz := ⟨_,rfl⟩
      have e15 : W9.cell? ⟨db,15,none⟩ = some (.bool d5) := by rw [<- HD5.out,<- HT9.out.db];exact HT9.out.d.b.cell 15
      have e10 : W9.cell? ⟨db,10,none⟩ = some (.int .i64 pz) := by rw [<- hpz,<- HT9.out.db];exact HT9.out.d.b.cell 10
      have e0 := hr79.cell 0;have e1 := hr79.cell 1;have e2 := hr79.cell 2;have e3 := hr79.cell 3;have e4 := hr79.cell 4
      have y0 := hr9.cell 0;have y1 := hr9.cell 1;have y2 := hr9.cell 2;have y3 := hr9.cell 3;have y4 := hr9.cell 4
      simp [rcell] at e0 e1 e2 e3 e4 y0 y1 y2 y3 y4
      obtain ⟨b9,hb9⟩ : ∃ b9,w8.heap.size = b9 := ⟨_,rfl⟩
      rw [hb9] at y0 y1 y2 y3 y4
      obtain ⟨wv,hwv⟩ : ∃ wv,(!d5 && decide (t.ph = 0)) = wv := ⟨_,rfl⟩
      simp only [hwv] at hwr
      have hz0 : (pz == 0) = decide (t.ph = 0) := by rw [<- hpz,Bool.eq_iff_iff];simp
      obtain ⟨p0,hp0⟩ : ∃ p0,decide (t.ph = 0) = p0 := ⟨_,rfl⟩
      rw [hp0] at hwv hz0
      have hwv2 : (wv != (!d5 && p0)) = false := by rw [hwv];simp
      have hrs : ∀ d os,Calls Try.prog 21 #[.agg #[.int .i64 rr.req,.int .i64 rr.e,.int .u64 rr.at',.int .i64 rr.pin,.slice A2 rr.ps.length c2],.agg #[.int .i64 rr.req,.int .i64 rr.e,.int .u64 rr.at',.int .i64 rr.pin,.slice A3 rr.ps.length c3]] (grow (redrawn W9 d) os) fun e w' => e = .returned (.bool true) /\ ∃ p : Regrown,w' = grow (redrawn W9 p.d) p.os := fun d os => Calls.regrown_of ((hsm _ (kept_of_below (below_regrown W9 d os))).mono fun e w' h => ⟨h.1,h.2.below (Nat.le_refl _) (fun _ z => z.elim)⟩)
      have hrw : ∀ d os,Calls Try.prog 13 #[.pointer (some ⟨tb,0,none⟩)] (grow (redrawn W9 d) os) fun e w' => e = .returned (.bool wv) /\ ∃ p : Regrown,w' = grow (redrawn W9 p.d) p.os := fun d os => Calls.regrown_of ((hwr _ (kept_of_below (below_regrown W9 d os))).mono fun e w' h => ⟨h.1,h.2.below (Nat.le_refl _) (fun _ z => z.elim)⟩)
      have k15 := fun d os => cell_regrown e15 d os;have k10 := fun d os => cell_regrown e10 d os
      have k0 := fun d os => cell_regrown e0 d os;have k1 := fun d os => cell_regrown e1 d os;have k2 := fun d os => cell_regrown e2 d os;have k3 := fun d os => cell_regrown e3 d os;have k4 := fun d os => cell_regrown e4 d os
      have n0 := fun d os => cell_regrown y0 d os;have n1 := fun d os => cell_regrown y1 d os;have n2 := fun d os => cell_regrown y2 d os;have n3 := fun d os => cell_regrown y3 d os;have n4 := fun d os => cell_regrown y4 d os
      have HRS := hZ0 hrs;have HRW := hZ0 hrw;have HZ0 := hZ0 hz0;have HWV := hZ0 hwv
      unfold rcell at hW9
      unfold ragg rcell
      clear hs3 hk8 hk9 hr9 hr79 hsm hwr hrs hrw hpz hp0 hwv hz0
      go_wp2_with fail
      clear hW9 hb9
      cases d5 with
      | true =>
       have hw0 : wv = false := by rw [<- HWV.out];rfl
       subst hw0
       refine wp_region_quiet_below (by kernel_rfl) (by kernel_rfl) ?_
       repeat (first | go_big_quiet_step (first | with_reducible exact HRS.out _ _ | with_reducible exact HRW.out _ _) | quiet_step (first | with_reducible exact HRS.out _ _ | with_reducible exact HRW.out _ _))
       refine wpQuiet_nil ?_
       intro _ hw9
       obtain ⟨⟨dq,osq⟩,hw9⟩ := hw9
       subst hw9
       have hkq := kept_of_below (below_regrown W9 dq osq)
       obtain ⟨W10,hW10⟩ : ∃ W10,grow (redrawn W9 dq) osq = W10 := ⟨_,rfl⟩
       rw [hW10] at hkq ⊢
       have HTQ := hZ0 (HT9.out.quiet hkq)
       clear hkq hW10
       go_wp2
       go_roundw
       case rel => exact ⟨i + 1,X',Y',t,by have := HI.out;omega,by omega,by go_num,HTQ.out⟩
       case measure => simp [intOf];omega
      | false =>
       have hw0 : wv = p0 := by rw [<- HWV.out];simp
       subst hw0
       have hz1 := HZ0.out
       cases wv
       ·refine wp_region_quiet_below (by kernel_rfl) (by kernel_rfl) ?_
        repeat (first | go_big_quiet_step (first | with_reducible exact HRS.out _ _ | with_reducible exact HRW.out _ _) | quiet_step (first | with_reducible exact HRS.out _ _ | with_reducible exact HRW.out _ _))
        refine wpQuiet_nil ?_
        intro _ hw9
        obtain ⟨⟨dq,osq⟩,hw9⟩ := hw9
        subst hw9
        have hkq := kept_of_below (below_regrown W9 dq osq)
        obtain ⟨W10,hW10⟩ : ∃ W10,grow (redrawn W9 dq) osq = W10 := ⟨_,rfl⟩
        rw [hW10] at hkq ⊢
        have HTQ := hZ0 (HT9.out.quiet hkq)
        clear hkq hW10
        go_wp2
        go_roundw
        case rel => exact ⟨i + 1,X',Y',t,by have := HI.out;omega,by omega,by go_num,HTQ.out⟩
        case measure => simp [intOf];omega
       ·refine wp_region_quiet_below (by kernel_rfl) (by kernel_rfl) ?_
        repeat (first | go_big_quiet_step (first | with_reducible exact HRS.out _ _ | with_reducible exact HRW.out _ _) | quiet_step (first | with_reducible exact HRS.out _ _ | with_reducible exact HRW.out _ _))
        refine wpQuiet_nil ?_
        intro _ hw9
        obtain ⟨⟨dq,osq⟩,hw9⟩ := hw9
        subst hw9
        have hkq := kept_of_below (below_regrown W9 dq osq)
        obtain ⟨W10,hW10⟩ : ∃ W10,grow (redrawn W9 dq) osq = W10 := ⟨_,rfl⟩
        rw [hW10] at hkq ⊢
        have HTQ := hZ0 (HT9.out.quiet hkq)
        clear hkq hW10
        go_wp2
        go_roundw
        case rel => exact ⟨i + 1,X',Y',t,by have := HI.out;omega,by omega,by go_num,HTQ.out⟩
        case measure => simp [intOf];omega
  ·have e1 : (x.k == 1) = false := by simpa using hk1
   have e0 : (x.k == 0) = false := by simpa using hk0
   clear hk1 hk0
   have hpg : PGood wr (foot X' t) x.x := act_off HL.out HX.out HGX.out.1 H2'.out.fp H2'.out.k
   have hpgd : PGood w (footD Y' t) x.x := act_off HL.out HX.out HGX.out.1 H2'.out.fd (Kept.refl _ _)
   obtain ⟨t5,v5,ht5⟩ : ∃ t5 v5,takeT t x.fr x.x = (t5,v5) := ⟨_,_,rfl⟩
   have hj5 := H2'.out.j.take x.fr x.x
   have hi5 := H2'.out.i.take x.fr x.x
   rw [ht5] at hj5 hi5
   have htp : ∀ W,Kept NoF wr W -> Calls Try.prog 11 #[.pointer (some ⟨tb,0,none⟩),.int .i64 x.fr,xagg x.x] W fun e w5 => e = .returned (.bool v5) /\ ∃ X5,Half w w5 tb db X5 Y' t t5 := fun W hW => by
    have h1 := ptake_any (H2'.out.p.quiet hW) H2'.out.j.ok x.fr x.x ⟨hpg.s.kept hW (fun _ _ z => z),hpg.l,hpg.off,hpg.k⟩
    rw [ht5,H2'.out.pb] at h1
    exact h1.mono fun e w5 hpp => (H2'.out.quiet hW).half hpp
   have htd : ∀ X5 w5,Half w w5 tb db X5 Y' t t5 -> ∀ W,Kept NoF w5 W -> Calls Try.prog 19 #[.pointer (some ⟨db,0,none⟩),.int .i64 x.fr,xagg x.x] W fun e w6 => e = .returned (.bool v5) /\ ∃ Y5,Two w w6 tb db X5 Y5 t5 := fun X5 w5 hh W hW => by
    have h1 := dtake_any (hh.d.quiet hW) H2'.out.j H2'.out.i x.fr x.x ⟨hpgd.s.kept (hh.k.then hW) (fun _ _ z => z),hpgd.l,hpgd.off,hpgd.k⟩
    rw [ht5,H2'.out.db] at h1
    exact h1.mono fun e w6 hpp => (hh.quiet hW).two hj5 hi5 hpp
   have HTP := hZ0 htp;have HTD := hZ0 htd;have HKR := hZ0 H2'.out.k
   have ev : (v5 == v5) = true := by simp
   obtain ⟨cs,hcs⟩ : ∃ cs,(xcell x.x).toArray = cs := ⟨_,rfl⟩
   rw [hcs] at HMI
   unfold xagg at HTP HTD
   rw [hcs] at HTP HTD
   have y0 := And.intro m2 (HMI.out wr HKR.out)
   clear hpg hpgd ht5 hj5 hi5 htp htd hcs m1
   go_wp2_with fail
   go_region_held3 (fun W => W.cell? ⟨(ad.add (i * 25)).block,(ad.add (i * 25)).off + 2,none⟩ = some (.int .i64 x.fr) /\ MsgIn W ⟨(ad.add (i * 25)).block,(ad.add (i * 25)).off + 3,none⟩ /\ msgAt W ⟨(ad.add (i * 25)).block,(ad.add (i * 25)).off + 3,none⟩ = cs)
    (first | with_reducible exact y6 | with_reducible exact y5 | with_reducible exact y0 | exact y0)
    (first
     | (go_at_call 11;refine (HTP.out _ (by (repeat' (first | (with_reducible first | exact kR0 | apply kP0 | apply kN0 | apply kD0 | apply kA0) | (right;simp;done))))).mono ?_;rintro e w5 ⟨rfl,X5,hh⟩;have y5 := And.intro (HCS.out w5 hh.k).2.2 (HMI.out w5 hh.k);have HH := hZ0 hh;clear hh)
     | (go_at_call 19;refine (HTD.out X5 w5 HH.out _ (by (repeat' (first | (with_reducible first | exact kR0 | apply kP0 | apply kN0 | apply kD0 | apply kA0) | (right;simp;done))))).mono ?_;rintro e w6 ⟨rfl,Y5,ht⟩;have y6 := And.intro (HCS.out w6 ht.k).2.2 (HMI.out w6 ht.k);have HT := hZ0 ht;clear ht))
   all_goals
    as_aux_lemma =>
     have hd := pdone_any HT.out.p HT.out.j.rl
     rw [HT.out.pb] at hd
     have HD := hZ0 hd
     clear hd
     go_wp2_with fail
     refine HD.out.mono ?_
     rintro e w6 ⟨A2,c2,rfl,hn2,hk6⟩
     obtain ⟨W7,hW7⟩ : ∃ W7,w6.alloc (.cells (rcell (repT t5) A2 c2).toArray 46) = W7 := ⟨_,rfl⟩
     have hk7 : Kept NoF w6 W7 := by rw [<- hW7];(repeat' (first | (with_reducible first | exact kR0 | apply kP0 | apply kN0 | apply kD0 | apply kA0) | (right;simp;done)))
     have hr7 : Has W7 w6.heap.size 46 (rcell (repT t5) A2 c2).toArray := by rw [<- hW7];exact Has.new _ _ _
     have HT7 := hZ0 (HT.out.quiet (hk6.then hk7))
     have HS7 := hZ0 ((Src.of_own hn2.1).kept hk7 (fun _ _ z => z))
     obtain ⟨b7,hb7⟩ : ∃ b7,w6.heap.size = b7 := ⟨_,rfl⟩
     rw [hb7] at hr7
     have HR7 := hZ0 hr7
     have hd := ddone_any HT7.out.d
     rw [HT7.out.db] at hd
     have HD7 := hZ0 hd
     obtain ⟨rr,hrr⟩ : ∃ rr,repT t5 = rr := ⟨_,rfl⟩
     obtain ⟨d5,hd5⟩ : ∃ d5,t5.dn = d5 := ⟨_,rfl⟩
     have HLN := hZ0 (rep_len HT.out.j)
     rw [hrr] at hW7 HD7 HS7 HR7 HLN
     rw [hrr,hd5]
     rw [hd5] at HD7
     have HD5 := hZ0 hd5
     unfold rcell at hW7
     unfold ragg rcell
     clear hn2 hk6 hk7 hr7 hd hd5 hrr
     go_wp2_with fail
     clear hW7 hb7
     refine HD7.out.mono ?_
     rintro e w8 ⟨A3,c3,rfl,hs3,hk8⟩
     obtain ⟨W9,hW9⟩ : ∃ W9,w8.alloc (.cells (rcell rr A3 c3).toArray 46) = W9 := ⟨_,rfl⟩
     have hk9 : Kept NoF w8 W9 := by rw [<- hW9];(repeat' (first | (with_reducible first | exact kR0 | apply kP0 | apply kN0 | apply kD0 | apply kA0) | (right;simp;done)))
     have hr9 : Has W9 w8.heap.size 46 (rcell rr A3 c3).toArray := by rw [<- hW9];exact Has.new _ _ _
     have hr79 := HR7.out.kept (hk8.then hk9) (fun z => z)
     have HT9 := hZ0 (HT7.out.quiet (hk8.then hk9))
     have hsm := fun W (hW : Kept NoF W9 W) => same_reply W rr A2 A3 c2 c3 (HS7.out.kept ((hk8.then hk9).then hW) (fun _ _ z => z)) (hs3.kept (hk9.then hW) (fun _ _ z => z)) HLN.out
     have hwr := fun W (hW : Kept NoF W9 W) => pwrites_any (HT9.out.p.quiet hW)
     simp only [HT9.out.pb,HD5.out] at hwr
     unfold ragg rcell at hsm
     obtain ⟨pz,hpz⟩ : ∃ pz,((t5.ph : Nat) : Int) = pz := ⟨_,rfl⟩
     have e15 : W9.cell? ⟨db,15,none⟩ = some (.bool d5) := by rw [<- HD5.out,<- HT9.out.db];exact HT9.out.d.b.cell 15
     have e10 : W9.cell? ⟨db,10,none⟩ = some (.int .i64 pz) := by rw [<- hpz,<- HT9.out.db];exact HT9.out.d.b.cell 10
     have e0 := hr79.cell 0;have e1 := hr79.cell 1;have e2 := hr79.cell 2;have e3 := hr79.cell 3;have e4 := hr79.cell 4
     have y0 := hr9.cell 0;have y1 := hr9.cell 1;have y2 := hr9.cell 2;have y3 := hr9.cell 3;have y4 := hr9.cell 4
     simp [rcell] at e0 e1 e2 e3 e4 y0 y1 y2 y3 y4
     obtain ⟨b9,hb9⟩ : ∃ b9,w8.heap.size = b9 := ⟨_,rfl⟩
     rw [hb9] at y0 y1 y2 y3 y4
     obtain ⟨wv,hwv⟩ : ∃ wv,(!d5 && decide (t5.ph = 0)) = wv := ⟨_,rfl⟩
     simp only [hwv] at hwr
     have hz0 : (pz == 0) = decide (t5.ph = 0) := by rw [<- hpz,Bool.eq_iff_iff];simp
     obtain ⟨p0,hp0⟩ : ∃ p0,decide (t5.ph = 0) = p0 := ⟨_,rfl⟩
     rw [hp0] at hwv hz0
     have hwv2 : (wv != (!d5 && p0)) = false := by rw [hwv];simp
     have hrs : ∀ d os,Calls Try.prog 21 #[.agg #[.int .i64 rr.req,.int .i64 rr.e,.int .u64 rr.at',.int .i64 rr.pin,.slice A2 rr.ps.length c2],.agg #[.int .i64 rr.req,.int .i64 rr.e,.int .u64 rr.at',.int .i64 rr.pin,.slice A3 rr.ps.length c3]] (grow (redrawn W9 d) os) fun e w' => e = .returned (.bool true) /\ ∃ p : Regrown,w' = grow (redrawn W9 p.d) p.os := fun d os => Calls.regrown_of ((hsm _ (kept_of_below (below_regrown W9 d os))).mono fun e w' h => ⟨h.1,h.2.below (Nat.le_refl _) (fun _ z => z.elim)⟩)
     have hrw : ∀ d os,Calls Try.prog 13 #[.pointer (some ⟨tb,0,none⟩)] (grow (redrawn W9 d) os) fun e w' => e = .returned (.bool wv) /\ ∃ p : Regrown,w' = grow (redrawn W9 p.d) p.os := fun d os => Calls.regrown_of ((hwr _ (kept_of_below (below_regrown W9 d os))).mono fun e w' h => ⟨h.1,h.2.below (Nat.le_refl _) (fun _ z => z.elim)⟩)
     have k15 := fun d os => cell_regrown e15 d os;have k10 := fun d os => cell_regrown e10 d os
     have k0 := fun d os => cell_regrown e0 d os;have k1 := fun d os => cell_regrown e1 d os;have k2 := fun d os => cell_regrown e2 d os;have k3 := fun d os => cell_regrown e3 d os;have k4 := fun d os => cell_regrown e4 d os
     have n0 := fun d os => cell_regrown y0 d os;have n1 := fun d os => cell_regrown y1 d os;have n2 := fun d os => cell_regrown y2 d os;have n3 := fun d os => cell_regrown y3 d os;have n4 := fun d os => cell_regrown y4 d os
     have HRS := hZ0 hrs;have HRW := hZ0 hrw;have HZ0 := hZ0 hz0;have HWV := hZ0 hwv
     unfold rcell at hW9
     unfold ragg rcell
     clear hs3 hk8 hk9 hr9 hr79 hsm hwr hrs hrw hpz hp0 hwv hz0
     go_wp2_with fail
     clear hW9 hb9
     cases d5 with
     | true =>
      have hw0 : wv = false := by rw [<- HWV.out];rfl
      subst hw0
      refine wp_region_quiet_below (by kernel_rfl) (by kernel_rfl) ?_
      repeat (first | go_big_quiet_step (first | with_reducible exact HRS.out _ _ | with_reducible exact HRW.out _ _) | quiet_step (first | with_reducible exact HRS.out _ _ | with_reducible exact HRW.out _ _))
      refine wpQuiet_nil ?_
      intro _ hw9
      obtain ⟨⟨dq,osq⟩,hw9⟩ := hw9
      subst hw9
      have hkq := kept_of_below (below_regrown W9 dq osq)
      obtain ⟨W10,hW10⟩ : ∃ W10,grow (redrawn W9 dq) osq = W10 := ⟨_,rfl⟩
      rw [hW10] at hkq ⊢
      have HTQ := hZ0 (HT9.out.quiet hkq)
      clear hkq hW10
      go_wp2
      go_roundw
      case rel => exact ⟨i + 1,X5,Y5,t5,by have := HI.out;omega,by omega,by go_num,HTQ.out⟩
      case measure => simp [intOf];omega
     | false =>
      have hw0 : wv = p0 := by rw [<- HWV.out];simp
      subst hw0
      have hz1 := HZ0.out
      cases wv
      ·refine wp_region_quiet_below (by kernel_rfl) (by kernel_rfl) ?_
       repeat (first | go_big_quiet_step (first | with_reducible exact HRS.out _ _ | with_reducible exact HRW.out _ _) | quiet_step (first | with_reducible exact HRS.out _ _ | with_reducible exact HRW.out _ _))
       refine wpQuiet_nil ?_
       intro _ hw9
       obtain ⟨⟨dq,osq⟩,hw9⟩ := hw9
       subst hw9
       have hkq := kept_of_below (below_regrown W9 dq osq)
       obtain ⟨W10,hW10⟩ : ∃ W10,grow (redrawn W9 dq) osq = W10 := ⟨_,rfl⟩
       rw [hW10] at hkq ⊢
       have HTQ := hZ0 (HT9.out.quiet hkq)
       clear hkq hW10
       go_wp2
       go_roundw
       case rel => exact ⟨i + 1,X5,Y5,t5,by have := HI.out;omega,by omega,by go_num,HTQ.out⟩
       case measure => simp [intOf];omega
      ·refine wp_region_quiet_below (by kernel_rfl) (by kernel_rfl) ?_
       repeat (first | go_big_quiet_step (first | with_reducible exact HRS.out _ _ | with_reducible exact HRW.out _ _) | quiet_step (first | with_reducible exact HRS.out _ _ | with_reducible exact HRW.out _ _))
       refine wpQuiet_nil ?_
       intro _ hw9
       obtain ⟨⟨dq,osq⟩,hw9⟩ := hw9
       subst hw9
       have hkq := kept_of_below (below_regrown W9 dq osq)
       obtain ⟨W10,hW10⟩ : ∃ W10,grow (redrawn W9 dq) osq = W10 := ⟨_,rfl⟩
       rw [hW10] at hkq ⊢
       have HTQ := hZ0 (HT9.out.quiet hkq)
       clear hkq hW10
       go_wp2
       go_roundw
       case rel => exact ⟨i + 1,X5,Y5,t5,by have := HI.out;omega,by omega,by go_num,HTQ.out⟩
       case measure => simp [intOf];omega
end Ask
end Go.Proofs.Ytobfdolhgnoedaa
