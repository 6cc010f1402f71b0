/- Part 38 of what the proof needs. -/
import Derived.Test.YtgbigpdiacjbgaaGreatKO34
import Derived.Test.YtgbigpdiacjbgaaGreatKO35
import Derived.Test.YtgbigpdiacjbgaaGreatKO36
set_option linter.unusedSimpArgs false
set_option linter.unusedVariables false
set_option maxHeartbeats 32000000
set_option maxRecDepth 100000
namespace Go.Proofs.YtgbigpdiacjbgaaGreat
open Go.RowKit
set_option maxRecDepth 100000
namespace Cli
open Plan Ops Ent Msg Vn Go.Proofs.YtgbigpdiacjbgaaGreat.Ask
structure TInv (C : CLR) (t : TS) : Prop where
 j : JOk t
 a : atOk t
 d : DI t
 dn : t.dn = false
 rq : t.rq = C.req
structure CInv (C : CLR) : Prop where
 id : 0 <= C.id /\ C.id < 3
 req : 0 <= C.req /\ C.req <= 1073741824
 ep : 0 <= C.ep /\ C.ep <= 1073741824
 hd : -1 <= C.hd /\ C.hd <= 3
 t : ∀ t,C.t = some t -> TInv C t
 r : C.r.ps.length <= 1000
 tk : 0 <= C.tk /\ C.tk <= 1073741824
 has : C.has = true -> C.r.req <= C.req /\ (C.t.isSome = true -> C.r.req < C.req)
theorem JOk.bo {t : TS} (h : JOk t) : t.bo.length <= 1000 := Nat.le_trans (Ops.chk_ok h.b).2.2.2.2.1 (by decide)
theorem CInv.ok {C : CLR} (h : CInv C) : COk C :=
 ⟨h.id,h.req,h.ep,⟨h.hd.1,by have := h.hd.2;omega⟩,fun t e => ⟨(h.t t e).j.ok,JOk.bo (h.t t e).j,(h.t t e).j.rl⟩,h.r,h.tk⟩
theorem CInv.new {id : Int} (h : 0 <= id /\ id < 3) : CInv (cl0 id) :=
 ⟨h,⟨Int.le_refl _,by show (0 : Int) <= 1073741824;decide⟩,⟨Int.le_refl _,by show (0 : Int) <= 1073741824;decide⟩,⟨Int.le_refl _,by show (-1 : Int) <= 3;decide⟩,fun t e => (by cases e),Nat.zero_le _,⟨Int.le_refl _,by show (0 : Int) <= 1073741824;decide⟩,fun e => by cases e⟩
structure Once (C C' : CLR) : Prop where
 done : C.t.isSome = true -> C'.t = none -> C'.has = true /\ C'.r.req = C.req
 same : (C.t.isSome = true -> C'.t.isSome = true) -> C'.has = C.has /\ C'.r = C.r
theorem Once.refl (C : CLR) : Once C C := ⟨fun h e => (by rw [e] at h;cases h),fun _ => ⟨rfl,rfl⟩⟩
def kindS (k : Int) : Prop := k = 5 \/ k = 8 \/ k = 9 \/ k = 11 \/ k = 12 \/ k = 13 \/ k = 15
def OutOk (o : OutR) : Prop := 0 <= o.to /\ o.to <= 4 /\ ∃ s,o.body = mB s /\ (Mof.ofM s).2 = 0 /\ s.size <= 100000
def OutsOk (l : List OutR) : Prop := ∀ o ∈ l,OutOk o
theorem OutsOk.nil : OutsOk [] := fun o h => by cases h
theorem next_kind {t : TS} (h : JOk t) (hdn : t.dn = false) (ha : atOk t) (ep : Int) {hd : Int} (hh : hd <= 3) : (nextT t ep hd).1 <= 4 /\ kindS (nextT t ep hd).2.k /\ (0 <= (nextT t ep hd).2.at' /\ (nextT t ep hd).2.at' <= maxTs) := by
 have z0 : (0 : Int) <= 0 /\ (0 : Int) <= maxTs := by unfold maxTs;decide
 unfold nextT
 rw [if_neg (by rw [hdn];decide)]
 split
 ·split
  ·exact ⟨by decide,.inr (.inr (.inr (.inr (.inr (.inr rfl))))),z0⟩
  ·exact ⟨by show hd <= 4;omega,.inl rfl,z0⟩
 split
 ·rename_i hp
  have hnd := h.nd (h.p1 hp)
  split
  ·exact ⟨by show t.a.nd <= 4;omega,.inr (.inr (.inl rfl)),ha.1⟩
  ·exact ⟨by show t.a.nd <= 4;omega,.inr (.inl rfl),ha.1⟩
 split
 ·exact ⟨Int.le_refl 4,.inr (.inr (.inr (.inl rfl))),ha.2⟩
 split
 ·exact ⟨Int.le_refl 4,.inr (.inr (.inr (.inr (.inl rfl)))),z0⟩
 ·exact ⟨Int.le_refl 4,.inr (.inr (.inr (.inr (.inr (.inl rfl))))),z0⟩
theorem partS_len {x : MsgR} (ht : 0 <= x.at' /\ x.at' <= maxTs) {c : Nat} (hc : c ∈ letS) (hw : wrongE x c = 0) : (partB x c).length <= 112 := by
 have hnum : isNum c = true -> (partB x c).length <= 112 := fun hn => by
  have hp : partB x c = put (numI x c).toNat := by unfold partB;rw [if_pos hn]
  have hr : ¬ (numI x c < 0 \/ 1073741824 < numI x c) := by
   intro h
   unfold wrongE rngM at hw
   rw [if_pos hn,if_pos h] at hw
   cases hw
  rw [hp]
  exact Nat.le_trans (putN_len (by omega)) (by decide)
 unfold letS at hc
 simp only [List.mem_cons,List.not_mem_nil,or_false] at hc
 rcases hc with rfl | rfl | rfl | rfl | rfl | rfl | rfl
 ·exact hnum rfl
 ·exact hnum rfl
 ·exact hnum rfl
 ·have h1 : ¬ 8 < x.key.size := fun h => by
   have h2 : wrongE x 107 = 3 := by unfold wrongE;rw [if_neg (by decide),if_neg (by decide),if_pos rfl,if_pos h]
   rw [h2] at hw;cases hw
  exact Nat.le_trans (putT_len (s := x.key) (m := 8) (by omega) (by decide)) (by decide)
 ·have h1 : ¬ 8 < x.to.size := fun h => by
   have h2 : wrongE x 116 = 3 := by unfold wrongE;rw [if_neg (by decide),if_neg (by decide),if_neg (by decide),if_pos rfl,if_pos h]
   rw [h2] at hw;cases hw
  exact Nat.le_trans (putT_len (s := x.to) (m := 8) (by omega) (by decide)) (by decide)
 ·exact Nat.le_trans (putN_len (n := x.at'.toNat) (by unfold maxTs at ht;omega)) (by decide)
 ·exact Nat.le_trans (putT_len (s := batR (xbat x)) (m := 103) (batR_len _) (by decide)) (by decide)
theorem sent_ok {x : MsgR} (hk : kindS x.k) (ht : 0 <= x.at' /\ x.at' <= maxTs) (hc : chkM x = 0) : (Mof.ofM (msgR x)).2 = 0 /\ (msgR x).size <= 100000 := by
 refine ⟨Snd.of_sent hk ht hc,?_⟩
 obtain ⟨_,hwr⟩ := chkM_ok hc
 have h1 := flatLen (partB x) (partsOf x.k) 112 (fun c h => partS_len ht (rparts_in hk c h).1 (hwr c h))
 have h2 := parts_len x.k
 have h3 := putN_len (n := x.k.toNat) (by unfold kindS at hk;omega)
 unfold msgR
 rw [if_pos hc]
 show (putM x).toArray.size <= _
 rw [List.size_toArray]
 unfold putM
 rw [List.length_append]
 omega
theorem OutsOk.put {L : List OutR} (h : OutsOk L) {to : Int} {m : MsgR} (ht : to <= 4) (hk : kindS m.k) (ha : 0 <= m.at' /\ m.at' <= maxTs) : OutsOk (putO L to m) := by
 unfold putO
 split
 ·rename_i hc
  intro o ho
  rcases List.mem_append.1 ho with ho | ho
  ·exact h o ho
  ·rw [List.mem_singleton] at ho
   subst ho
   exact ⟨hc.2,ht,_,rfl,(sent_ok hk ha hc.1).1,(sent_ok hk ha hc.1).2⟩
 ·exact h
theorem OutsOk.next {L : List OutR} (h : OutsOk L) {t : TS} (hj : JOk t) (hdn : t.dn = false) (ha : atOk t) (ep : Int) {hd : Int} (hh : hd <= 3) : OutsOk (putO L (nextT t ep hd).1 (nextT t ep hd).2) :=
 have hn := next_kind hj hdn ha ep hh
 h.put hn.1 hn.2.1 hn.2.2
def startS (C : CLR) (a : AskR) : CLR × List OutR × Int :=
 if C.t.isSome = true then (C,[],20) else if newE C.id (C.req + 1) a ≠ 0 then (C,[],newE C.id (C.req + 1) a) else (startC C a,startO C a,0)
theorem newE_rq {cl rq : Int} {a : AskR} (h : newE cl rq a = 0) : 1 <= rq /\ rq <= 1073741824 := by
 unfold newE at h
 split at h
 ·cases h
 split at h
 ·cases h
 ·omega
theorem TInv.new {C : CLR} {a : AskR} (hn : I64 a.n) (hat : 0 <= a.at' /\ a.at' <= maxTs) (hz : newE C.id (C.req + 1) a = 0) : TInv (startC C a) (newT C.id (C.req + 1) a) :=
 ⟨JOk.new hn hz,⟨hat,hat⟩,DI.new _ _ _,rfl,rfl⟩
theorem CInv.start {C : CLR} (h : CInv C) {a : AskR} (hn : I64 a.n) (hat : 0 <= a.at' /\ a.at' <= maxTs) : CInv (startS C a).1 /\ Once C (startS C a).1 /\ OutsOk (startS C a).2.1 := by
 unfold startS
 split
 ·exact ⟨h,Once.refl _,OutsOk.nil⟩
 rename_i ht
 have ht : C.t = none := by cases e : C.t with
  | none => rfl
  | some t => exact absurd (by rw [e];rfl) ht
 split
 ·exact ⟨h,Once.refl _,OutsOk.nil⟩
 rename_i hz
 have hz : newE C.id (C.req + 1) a = 0 := Classical.byContradiction hz
 have hrq := newE_rq hz
 have htv := TInv.new (C := C) hn hat hz
 have h0 := h.req
 refine ⟨⟨h.id,⟨by show 0 <= C.req + 1;omega,hrq.2⟩,h.ep,h.hd,fun t e => by injection e with e;subst e;exact htv,h.r,h.tk,fun e => ?_⟩,⟨fun e _ => (by rw [ht] at e;cases e),fun _ => ⟨rfl,rfl⟩⟩,?_⟩
 ·have h1 := (h.has e).1
  exact ⟨by show C.r.req <= C.req + 1;omega,fun _ => by show C.r.req < C.req + 1;omega⟩
 ·exact OutsOk.nil.next htv.j htv.dn htv.a C.ep h.hd.2
theorem CInv.see {C : CLR} (h : CInv C) {t t' : TS} (ht : C.t = some t) (hj : JOk t') (ha : atOk t') (hd : DI t') (hrq : t'.rq = C.req) : CInv (seeC { C with t := some t' }) /\ Once C (seeC { C with t := some t' }) := by
 have hrd := h.has
 have hti : C.t.isSome = true := by rw [ht];rfl
 cases hdn : t'.dn with
 | true =>
  have e : seeC { C with t := some t' } = { C with r := t'.r,has := true,t := none } := by
   show (if t'.dn = true then _ else _) = _
   rw [if_pos hdn]
   unfold repT
   rw [if_pos hdn]
  have hq := hj.rq hdn
  rw [e]
  refine ⟨⟨h.id,h.req,h.ep,h.hd,fun t e => (by cases e),hj.rl,h.tk,fun _ => ⟨?_,fun e => by cases e⟩⟩,⟨fun _ _ => ⟨rfl,?_⟩,fun e => by have h1 := e hti;cases h1⟩⟩
  ·show t'.r.req <= C.req;omega
  ·show t'.r.req = C.req;omega
 | false =>
  have e : seeC { C with t := some t' } = { C with t := some t' } := by
   show (if t'.dn = true then _ else _) = _
   rw [if_neg (by rw [hdn];decide)]
  rw [e]
  exact ⟨⟨h.id,h.req,h.ep,h.hd,fun t e => by injection e with e;subst e;exact ⟨hj,ha,hd,hdn,hrq⟩,h.r,h.tk,fun e => ⟨(hrd e).1,fun _ => (hrd e).2 hti⟩⟩,⟨fun _ e => (by cases e),fun _ => ⟨rfl,rfl⟩⟩⟩
theorem rq_tick (t : TS) : (tickT t).1.rq = t.rq := by
 unfold tickT
 split
 ·rfl
 split
 ·rfl
 ·rfl
theorem rq_take (t : TS) (f : Int) (x : MsgR) : (takeT t f x).1.rq = t.rq := by
 unfold takeT
 split
 ·rfl
 split
 ·unfold takeW
  split
  ·rfl
  split
  ·rfl
  split
  ·rfl
  ·rfl
 split
 ·unfold takeR
  split
  ·rfl
  split
  ·rfl
  split
  ·rfl
  ·unfold pageT
   split
   ·rfl
   ·rfl
 ·unfold takeA
  split
  ·rfl
  split
  ·rfl
  ·rfl
theorem tick_dn {t : TS} (h : (tickT t).2 = true) : (tickT t).1.dn = false := by
 unfold tickT at h ⊢
 split at h
 ·cases h
 rename_i h1
 rw [if_neg h1]
 split at h
 ·cases h
 rename_i h2
 rw [if_neg h2]
 cases e : t.dn with
 | true => exact absurd e h1
 | false => rfl
theorem take_dn {t : TS} {f : Int} {x : MsgR} (h : (takeT t f x).2 = true) : (takeT t f x).1.dn = false := by
 unfold takeT at h ⊢
 split at h
 ·cases h
 rename_i h1
 rw [if_neg h1]
 have hd : t.dn = false := by cases e : t.dn with
  | true => exact absurd (.inl e) h1
  | false => rfl
 split at h
 ·rename_i p0
  rw [if_pos p0]
  unfold takeW at h ⊢
  split at h
  ·cases h
  rename_i g1
  rw [if_neg g1]
  split at h
  ·cases h
  rename_i g2
  rw [if_neg g2]
  split at h
  ·cases h
  rename_i g3
  rw [if_neg g3]
  exact hd
 rename_i p0
 rw [if_neg p0]
 split at h
 ·rename_i p1
  rw [if_pos p1]
  unfold takeR at h ⊢
  split at h
  ·cases h
  rename_i g1
  rw [if_neg g1]
  split at h
  ·cases h
  rename_i g2
  rw [if_neg g2]
  split at h
  ·cases h
  rename_i g3
  rw [if_neg g3]
  unfold pageT at h ⊢
  split at h
  ·rename_i g4
   rw [if_pos g4]
   exact hd
  ·cases h
 ·unfold takeA at h
  split at h
  ·cases h
  split at h
  ·cases h
  ·cases h
theorem with_t {C : CLR} (h : CInv C) {t t' : TS} (ht : C.t = some t) (hj : JOk t') (ha : atOk t') (hd : DI t') (hrq : t'.rq = C.req) (hdn : t'.dn = false) {tk : Int} {as' : Bool} (htk : 0 <= tk /\ tk <= 1073741824) : CInv { C with t := some t',tk := tk,as' := as' } /\ Once C { C with t := some t',tk := tk,as' := as' } := by
 have hti : C.t.isSome = true := by rw [ht];rfl
 exact ⟨⟨h.id,h.req,h.ep,h.hd,fun t e => by injection e with e;subst e;exact ⟨hj,ha,hd,hdn,hrq⟩,h.r,htk,fun e => ⟨(h.has e).1,fun _ => (h.has e).2 hti⟩⟩,⟨fun _ e => (by cases e),fun _ => ⟨rfl,rfl⟩⟩⟩
theorem CInv.tick {C : CLR} (h : CInv C) : CInv (tickC C).1 /\ Once C (tickC C).1 /\ OutsOk (tickC C).2 := by
 cases ht : C.t with
 | none =>
  have e : tickC C = (C,[]) := by unfold tickC;rw [ht]
  rw [e]
  exact ⟨h,Once.refl _,OutsOk.nil⟩
 | some t =>
  have hv := h.t t ht
  have hj := hv.j.tick
  have ha := hv.a.tick
  have hd := hv.d.tick
  have hrq : (tickT t).1.rq = C.req := (rq_tick t).trans hv.rq
  have htk := h.tk
  have hmin : 0 <= min (C.tk + 1) 1073741824 /\ min (C.tk + 1) 1073741824 <= 1073741824 := by omega
  have e : tickC C = if (tickT t).2 = false then (seeC { C with t := some (tickT t).1 },[])
   else if writesT (tickT t).1 = false then ({ C with t := some (tickT t).1 },putO [] (nextT (tickT t).1 C.ep C.hd).1 (nextT (tickT t).1 C.ep C.hd).2)
   else if 0 <= C.hd /\ (C.as' = true \/ (min (C.tk + 1) 1073741824) % 4 = 0) then ({ C with t := some (tickT t).1,tk := min (C.tk + 1) 1073741824,as' := false },putO (putO [] (nextT (tickT t).1 C.ep C.hd).1 (nextT (tickT t).1 C.ep C.hd).2) 4 { zmsg with k := 15 })
   else ({ C with t := some (tickT t).1,tk := min (C.tk + 1) 1073741824 },putO [] (nextT (tickT t).1 C.ep C.hd).1 (nextT (tickT t).1 C.ep C.hd).2) := by
   unfold tickC;rw [ht]
  rw [e]
  clear e
  by_cases hz : (tickT t).2 = false
  ·rw [if_pos hz]
   obtain ⟨h1,h2⟩ := h.see ht hj ha hd hrq
   exact ⟨h1,h2,OutsOk.nil⟩
  rw [if_neg hz]
  have hdn := tick_dn (t := t) (by cases e : (tickT t).2 with
   | true => rfl
   | false => exact absurd e hz)
  have ho := OutsOk.nil.next hj hdn ha C.ep h.hd.2
  split
  ·obtain ⟨h1,h2⟩ := with_t h ht hj ha hd hrq hdn (tk := C.tk) (as' := C.as') htk
   exact ⟨h1,h2,ho⟩
  split
  ·obtain ⟨h1,h2⟩ := with_t h ht hj ha hd hrq hdn (as' := false) hmin
   exact ⟨h1,h2,ho.put (to := 4) (m := { zmsg with k := 15 }) (Int.le_refl 4) (.inr (.inr (.inr (.inr (.inr (.inr rfl)))))) (by show (0 : Int) <= 0 /\ (0 : Int) <= maxTs;unfold maxTs;decide)⟩
  ·obtain ⟨h1,h2⟩ := with_t h ht hj ha hd hrq hdn (as' := C.as') hmin
   exact ⟨h1,h2,ho⟩
theorem ofM_chk {s : ByteArray} (h : (Mof.ofM s).2 = 0) : chkM (Mof.ofM s).1 = 0 := by
 unfold Mof.ofM at h ⊢
 split at h
 ·rename_i g;exact absurd h g
 rename_i g1
 rw [if_neg g1]
 split at h
 ·cases h
 rename_i g2
 rw [if_neg g2]
 split at h
 ·rename_i g;exact absurd h g
 rename_i g3
 rw [if_neg g3]
 split at h
 ·rename_i g;exact absurd h g
 rename_i g4
 rw [if_neg g4]
 split at h
 ·rename_i g;exact absurd h g
 rename_i g5
 rw [if_neg g5]
 exact Classical.byContradiction g5
theorem conf_of {x : MsgR} (h : chkM x = 0) (hk : x.k = 1) : Plan.chk x.cep x.ms = 0 := by
 obtain ⟨_,hwr⟩ := chkM_ok h
 have h1 := hwr 67 (by rw [hk];decide)
 exact h1
theorem headC_ok {ep : Int} {l : List Mem} (h : Plan.chk ep l = 0) : 0 <= headC l /\ headC l <= 3 := by
 obtain ⟨_,h1,_,h2⟩ := chk_zero h
 cases l with
 | nil => exact absurd rfl h1
 | cons m r =>
  have h3 := h2.id m (List.mem_cons_self ..)
  show 0 <= m.1 /\ m.1 <= 3
  omega
theorem CInv.learn {C : CLR} (h : CInv C) (f : Int) {x : MsgR} (hx : chkM x = 0) : CInv (learnC C f x).1 /\ (learnC C f x).1.t = C.t /\ (learnC C f x).1.r = C.r /\ (learnC C f x).1.has = C.has /\ (learnC C f x).1.req = C.req := by
 unfold learnC
 split
 ·rename_i hc
  have hcc := conf_of hx hc.2.1
  obtain ⟨h1,-⟩ := chk_zero hcc
  have h2 := headC_ok hcc
  exact ⟨⟨h.id,h.req,⟨by show 0 <= x.cep;omega,h1.2⟩,⟨by show -1 <= headC x.ms;omega,h2.2⟩,fun t e => ⟨(h.t t e).j,(h.t t e).a,(h.t t e).d,(h.t t e).dn,(h.t t e).rq⟩,h.r,h.tk,h.has⟩,rfl,rfl,rfl,rfl⟩
 split
 ·exact ⟨⟨h.id,h.req,h.ep,h.hd,fun t e => ⟨(h.t t e).j,(h.t t e).a,(h.t t e).d,(h.t t e).dn,(h.t t e).rq⟩,h.r,h.tk,h.has⟩,rfl,rfl,rfl,rfl⟩
 ·exact ⟨h,rfl,rfl,rfl,rfl⟩
theorem CInv.msg {C : CLR} (h : CInv C) (f : Int) {x : MsgR} (hx : chkM x = 0) (hat : 0 <= x.at' /\ x.at' <= maxTs) : CInv (delivM C f x).1 /\ Once C (delivM C f x).1 /\ OutsOk (delivM C f x).2 := by
 obtain ⟨hl,lt,lr,lh,lq⟩ := h.learn f hx
 cases ht : C.t with
 | none =>
  have e : delivM C f x = ((learnC C f x).1,[]) := by unfold delivM;rw [ht]
  rw [e]
  exact ⟨hl,⟨fun e => (by rw [ht] at e;cases e),fun _ => ⟨lh,lr⟩⟩,OutsOk.nil⟩
 | some t =>
  have hv := h.t t ht
  have e : delivM C f x = (seeC { (learnC C f x).1 with t := some (takeT t f x).1 },
   if (takeT t f x).2 = true then putO (if (learnC C f x).2 = true /\ writesT t = true then putO [] (nextT t (learnC C f x).1.ep (learnC C f x).1.hd).1 (nextT t (learnC C f x).1.ep (learnC C f x).1.hd).2 else []) (nextT (takeT t f x).1 (learnC C f x).1.ep (learnC C f x).1.hd).1 (nextT (takeT t f x).1 (learnC C f x).1.ep (learnC C f x).1.hd).2
   else (if (learnC C f x).2 = true /\ writesT t = true then putO [] (nextT t (learnC C f x).1.ep (learnC C f x).1.hd).1 (nextT t (learnC C f x).1.ep (learnC C f x).1.hd).2 else [])) := by
   unfold delivM;rw [ht]
  rw [e]
  clear e
  obtain ⟨C1,hC1⟩ : ∃ C1,(learnC C f x).1 = C1 := ⟨_,rfl⟩
  obtain ⟨lv,hlv⟩ : ∃ lv,(learnC C f x).2 = lv := ⟨_,rfl⟩
  rw [hC1] at hl lt lr lh lq ⊢
  rw [hlv]
  obtain ⟨h1,h2⟩ := hl.see (lt.trans ht) (hv.j.take f x) (hv.a.take f hat) (hv.d.take f x) (((rq_take t f x).trans hv.rq).trans lq.symm)
  have ho : OutsOk (if lv = true /\ writesT t = true then putO [] (nextT t C1.ep C1.hd).1 (nextT t C1.ep C1.hd).2 else []) := by
   split
   ·exact OutsOk.nil.next hv.j hv.dn hv.a C1.ep hl.hd.2
   ·exact OutsOk.nil
  refine ⟨h1,⟨fun e1 e2 => ?_,fun e1 => ?_⟩,?_⟩
  ·have h3 := h2.done (by rw [lt];exact e1) e2
   exact ⟨h3.1,h3.2.trans lq⟩
  ·have h3 := h2.same (fun e2 => e1 (by rw [<- lt];exact e2))
   exact ⟨h3.1.trans lh,h3.2.trans lr⟩
  ·split
   ·rename_i g
    exact ho.next (hv.j.take f x) (take_dn g) (hv.a.take f hat) C1.ep hl.hd.2
   ·exact ho
theorem CInv.deliv {C : CLR} (h : CInv C) (f : Int) (s : ByteArray) (hat : 0 <= (Mof.ofM (s.extract 1 s.size)).1.at' /\ (Mof.ofM (s.extract 1 s.size)).1.at' <= maxTs) : CInv (delivC C f s).1 /\ Once C (delivC C f s).1 /\ OutsOk (delivC C f s).2 := by
 unfold delivC
 split
 ·exact ⟨h,Once.refl _,OutsOk.nil⟩
 split
 ·exact ⟨h,Once.refl _,OutsOk.nil⟩
 ·rename_i g
  exact h.msg f (ofM_chk (Classical.byContradiction g)) hat
end Cli
namespace Cli
open Plan Ops Ent Msg Vn Go.Proofs.YtgbigpdiacjbgaaGreat.Ask
section
variable {w w' : World} {X X' : CX} {C C' : CLR}
def StartAny (w : World) (X : CX) (C : CLR) (a : AskR) (e : Ending) (w' : World) : Prop :=
 ∃ X' A c,e = .returned (.tuple #[.slice A (startS C a).2.1.length c,.int .i64 (startS C a).2.2]) /\ CStep w X C w' X' (startS C a).1 /\ OutNew w w' A c (startS C a).2.1
theorem OutNew.nil (w w' : World) : OutNew w w' none 0 [] := ⟨⟨rfl,.inl ⟨rfl,rfl⟩⟩,fun k hk => by simp [Value.ownBlock] at hk⟩
theorem start_any (h : ClAt w X C) (hi : CInv C) (a : AskR) (ha : QGood w a) (hl : a.ops.length <= 1000) : Calls Tryz.prog 8 #[.pointer (some ⟨X.cb,0,none⟩),qagg a] w (StartAny w X C a) := by
 by_cases ht : C.t.isSome = true
 ·have e : startS C a = (C,[],20) := if_pos ht
  refine (start_busy h a ht).mono ?_
  rintro e' w' ⟨rfl,hk⟩
  unfold StartAny
  rw [e]
  exact ⟨X,none,0,rfl,CStep.refl h hk,OutNew.nil _ _⟩
 have htn : C.t = none := by cases e : C.t with
  | none => rfl
  | some t => exact absurd (by rw [e];rfl) ht
 by_cases hz : newE C.id (C.req + 1) a = 0
 ·have e : startS C a = (startC C a,startO C a,0) := by unfold startS;rw [if_neg ht,if_neg (fun z => z hz)]
  refine (start_ok h hi.ok a ha hl htn hz).mono ?_
  rintro e' w' ⟨X',A,c,rfl,h1,h2⟩
  unfold StartAny
  rw [e]
  exact ⟨X',A,c,rfl,h1,h2⟩
 ·have e : startS C a = (C,[],newE C.id (C.req + 1) a) := by unfold startS;rw [if_neg ht,if_pos hz]
  refine (start_bad h hi.ok a ha hl htn hz).mono ?_
  rintro e' w' ⟨rfl,hk⟩
  unfold StartAny
  rw [e]
  exact ⟨X,none,0,rfl,CStep.refl h hk,OutNew.nil _ _⟩
theorem tick_any (h : ClAt w X C) (hi : CInv C) : Calls Tryz.prog 12 #[.pointer (some ⟨X.cb,0,none⟩)] w (SendPost w X C (tickC C).1 (tickC C).2) := by
 cases ht : C.t with
 | none =>
  have e : tickC C = (C,[]) := by unfold tickC;rw [ht]
  rw [e]
  refine (tick_none h ht).mono ?_
  rintro e' w' ⟨rfl,rfl⟩
  exact ⟨X,none,0,rfl,CStep.refl h (Kept.refl _ _),OutNew.nil _ _⟩
 | some t =>
  have hv := hi.t t ht
  cases hz : (tickT t).2 with
  | false =>
   have e : tickC C = (seeC { C with t := some (tickT t).1 },[]) := by unfold tickC;rw [ht];exact if_pos hz
   rw [e]
   refine (tick_done h hi.ok ht hv.j.tick.rl hz).mono ?_
   rintro e' w' ⟨rfl,X',h1⟩
   exact ⟨X',none,0,rfl,h1,OutNew.nil _ _⟩
  | true => exact tick_go h hi.ok ht hz ⟨hv.j.tick.ok,JOk.bo hv.j.tick⟩ hv.a.tick
theorem first_byte {s : ByteArray} (hs : 0 < s.size) : (bl s)[0]? = some s[0] := bl_get s 0 hs
theorem deliv_any (h : ClAt w X C) (hi : CInv C) (f : Int) (s : ByteArray) (hsm : s.size <= maxLen) : Calls Tryz.prog 11 #[.pointer (some ⟨X.cb,0,none⟩),.int .i64 f,.string s] w (SendPost w X C (delivC C f s).1 (delivC C f s).2) := by
 have hno : ∀ e' w',e' = .returned (.slice none 0 0) -> Kept NoF w w' -> SendPost w X C C [] e' w' := fun e' w' h1 hk => ⟨X,none,0,h1,CStep.refl h hk,OutNew.nil _ _⟩
 by_cases hs : 0 < s.size
 rotate_left
 ·have hse : s = ⟨#[]⟩ := by
   have h0 : s.size = 0 := by omega
   cases s with
   | mk d =>
    have h1 : d.size = 0 := h0
    rw [Array.eq_empty_of_size_eq_zero h1]
  have e : delivC C f s = (C,[]) := by unfold delivC;rw [if_pos (by rw [hse];decide)]
  rw [e,hse]
  exact (deliver_empty h f).mono fun e' w' h1 => hno e' w' h1.1 (h1.2 ▸ Kept.refl _ _)
 by_cases hb : s[0].toNat = 77
 rotate_left
 ·have e : delivC C f s = (C,[]) := by
   unfold delivC
   rw [if_pos (by rw [first_byte hs];intro h1;injection h1 with h1;exact hb (by rw [h1];rfl))]
  rw [e]
  exact (deliver_other h f s hs hb).mono fun e' w' h1 => hno e' w' h1.1 (h1.2 ▸ Kept.refl _ _)
 have hfb : ¬ (bl s)[0]? ≠ some 77 := by
  rw [first_byte hs]
  intro h1
  exact h1 (congrArg some (UInt8.toNat_inj.1 hb))
 by_cases hz : (Mof.ofM (s.extract 1 s.size)).2 = 0
 rotate_left
 ·have e : delivC C f s = (C,[]) := by unfold delivC;rw [if_neg hfb,if_pos hz]
  rw [e]
  exact (deliver_bad h f s hs hsm hb hz).mono fun e' w' h1 => hno e' w' h1.1 h1.2
 have e : delivC C f s = delivM C f (Mof.ofM (s.extract 1 s.size)).1 := by unfold delivC;rw [if_neg hfb,if_neg (fun z => z hz)]
 rw [e]
 cases ht : C.t with
 | none =>
  have e2 : (delivM C f (Mof.ofM (s.extract 1 s.size)).1).2 = [] := by unfold delivM;rw [ht]
  rw [e2]
  exact deliver_idle h ht f s hs hsm hb hz
 | some t => exact deliver_task h ht (hi.t t ht).j (hi.t t ht).a f s hs hsm hb hz
structure CRel (w : World) (cb : Nat) (W : World) (X : CX) (C : CLR) : Prop where
 at' : ClAt W X C
 cb : X.cb = cb
 inv : CInv C
 fr : ∀ k,cfoot X C k -> w.heap.size <= k
 k : Kept NoF w W
theorem CRel.quiet {cb : Nat} {W W' : World} (h : CRel w cb W X C) (hk : Kept NoF W W') : CRel w cb W' X C := ⟨h.at'.quiet hk,h.cb,h.inv,h.fr,h.k.then hk⟩
theorem CRel.step {cb : Nat} {W W' : World} (h : CRel w cb W X C) (hs : CStep W X C W' X' C') (hi : CInv C') : CRel w cb W' X' C' :=
 ⟨hs.at',hs.cb.trans h.cb,hi,fun k hk => by
  rcases hs.g k hk with y | y
  ·exact h.fr k y
  ·have := h.k.size;omega,h.k.trans hs.k (fun k hk => .inr (h.fr k hk))⟩
theorem pite {α : Type} {p : Prop} [Decidable p] {a b : α} {Q : α -> Prop} (ha : p -> Q a) (hb : ¬ p -> Q b) : Q (if p then a else b) := by
 by_cases h : p
 ·rw [if_pos h];exact ha h
 ·rw [if_neg h];exact hb h
theorem ofM_at (s : ByteArray) : 0 <= (Mof.ofM s).1.at' /\ (Mof.ofM s).1.at' <= maxTs := by
 have z0 : (0 : Int) <= 0 /\ (0 : Int) <= maxTs := by unfold maxTs;decide
 have hp : ∀ c (x : MsgR) r,(0 <= x.at' /\ x.at' <= maxTs) -> 0 <= (Mof.readP s c x r).1.at' /\ (Mof.readP s c x r).1.at' <= maxTs := fun c x r h => by
  have hs : ∀ v,(Mof.setNum x c v).at' = x.at' := fun v => by
   unfold Mof.setNum
   repeat' split
   all_goals rfl
  unfold Mof.readP
  exact pite (Q := fun q : MsgR × Ops.RS × Int => 0 <= q.1.at' /\ q.1.at' <= maxTs) (fun _ => (by dsimp only;rw [hs];exact h)) (fun _ => pite (Q := fun q : MsgR × Ops.RS × Int => 0 <= q.1.at' /\ q.1.at' <= maxTs) (fun _ => h) (fun _ => pite (Q := fun q : MsgR × Ops.RS × Int => 0 <= q.1.at' /\ q.1.at' <= maxTs) (fun _ => h) (fun _ => pite (Q := fun q : MsgR × Ops.RS × Int => 0 <= q.1.at' /\ q.1.at' <= maxTs) (fun _ => h) (fun _ => pite (Q := fun q : MsgR × Ops.RS × Int => 0 <= q.1.at' /\ q.1.at' <= maxTs) (fun _ => h) (fun _ => pite (Q := fun q : MsgR × Ops.RS × Int => 0 <= q.1.at' /\ q.1.at' <= maxTs) (fun _ => h) (fun _ => pite (Q := fun q : MsgR × Ops.RS × Int => 0 <= q.1.at' /\ q.1.at' <= maxTs) (fun _ => h) (fun _ => pite (Q := fun q : MsgR × Ops.RS × Int => 0 <= q.1.at' /\ q.1.at' <= maxTs) (fun _ => (Mof.big_ts s r)) (fun _ => pite (Q := fun q : MsgR × Ops.RS × Int => 0 <= q.1.at' /\ q.1.at' <= maxTs) (fun _ => h) (fun _ => pite (Q := fun q : MsgR × Ops.RS × Int => 0 <= q.1.at' /\ q.1.at' <= maxTs) (fun _ => h) (fun _ => pite (Q := fun q : MsgR × Ops.RS × Int => 0 <= q.1.at' /\ q.1.at' <= maxTs) (fun _ => h) (fun _ => pite (Q := fun q : MsgR × Ops.RS × Int => 0 <= q.1.at' /\ q.1.at' <= maxTs) (fun _ => h) (fun _ => h))))))))))))
 have hl : ∀ (l : List Nat) (x : MsgR) r,(0 <= x.at' /\ x.at' <= maxTs) -> 0 <= (Mof.readL s l x r).1.at' /\ (Mof.readL s l x r).1.at' <= maxTs := fun l => by
  induction l with
  | nil => intro x r h;exact h
  | cons c l ih =>
   intro x r h
   rw [Mof.readL]
   split
   ·exact hp c x r h
   ·exact ih _ _ (hp c x r h)
 unfold Mof.ofM
 split
 ·exact z0
 split
 ·exact z0
 split
 ·exact z0
 split
 ·exact z0
 split
 ·exact z0
 ·exact hl _ _ _ z0
theorem mB_tail (s : ByteArray) : (mB s).extract 1 (mB s).size = s := by
 apply bl_inj
 rw [Ops.extract_bl _ _ _ (Nat.le_refl _) (by show 1 <= (mB s).size;rw [mB,ByteArray.size_append];show 1 <= 1 + s.size;omega)]
 have e : bl (mB s) = 77 :: bl s := by
  unfold mB bl
  rw [ByteArray.data_append]
  simp
 have e2 : (mB s).size = 1 + s.size := by unfold mB;rw [ByteArray.size_append];rfl
 rw [e,e2,List.drop_succ_cons,List.drop_zero,List.take_of_length_le (by rw [size_bl];omega)]
theorem mB_size (s : ByteArray) : (mB s).size = s.size + 1 := by unfold mB;rw [ByteArray.size_append];show 1 + s.size = _;omega
end
end Cli
end Go.Proofs.YtgbigpdiacjbgaaGreat
