/- Part 23 of what the proof needs. -/
import Derived.Test.YtgbigpdiacjbgaaGreatKO21
set_option linter.unusedSimpArgs false
set_option linter.unusedVariables false
set_option maxHeartbeats 32000000
set_option maxRecDepth 100000
namespace Go.Proofs.YtgbigpdiacjbgaaGreat
open Go.RowKit
set_option maxRecDepth 100000
namespace Cli
open Plan Ops Ent Msg Vn Go.Proofs.YtgbigpdiacjbgaaGreat.Ask
def atOk (t : TS) : Prop := (0 <= t.at' /\ t.at' <= maxTs) /\ (0 <= t.a.at' /\ t.a.at' <= maxTs)
theorem nextX {w : World} {t : TS} (h : atOk t) (ep hd : Int) {A : Option Addr} {c : Nat} (hs : Src w 3 A (nextT t ep hd).2.ops.length (cells (nextT t ep hd).2.ops)) : XOk w { (nextT t ep hd).2 with oA := A,oc := c } := by
 have z0 : (0 : Int) <= 0 /\ (0 : Int) <= maxTs := by unfold maxTs;decide
 have hz : ∀ x : MsgR,x.ms = [] -> x.es = [] -> x.ss = [] -> x.ps = [] -> x.last = 0 -> x.cfl = 0 -> x.mc = 0 -> (0 <= x.at' /\ x.at' <= maxTs) -> Src w 3 A x.ops.length (cells x.ops) -> XOk w { x with oA := A,oc := c } := fun x e1 e2 e3 e4 e5 e6 e7 ht hs => by
  refine ⟨by show Src w 2 x.mA x.ms.length _;rw [e1];exact Src.nil _ _ _,by show x.ms.length <= x.mc;rw [e1];exact Nat.zero_le _,by show x.ms.length <= 1000;rw [e1];exact Nat.zero_le _,hs,by show Src w 4 x.eA x.es.length _;rw [e2];exact Src.nil _ _ _,fun y hy => ?_,by show x.es.length <= 1000;rw [e2];exact Nat.zero_le _,by show Src w 1 x.sA x.ss.length _;rw [e3];exact Src.nil _ _ _,by show x.ss.length <= 1000;rw [e3];exact Nat.zero_le _,fun y hy => ?_,by show Src w 2 x.pA x.ps.length _;rw [e4];exact Src.nil _ _ _,by show x.ps.length <= 1000;rw [e4];exact Nat.zero_le _,ht,?_,?_⟩
  ·have hy' : y ∈ x.es := hy
   rw [e2] at hy';cases hy'
  ·have hy' : y ∈ x.ss := hy
   rw [e3] at hy';cases hy'
  ·show 0 <= x.last /\ x.last <= maxTs;rw [e5];exact z0
  ·show 0 <= x.cfl /\ x.cfl <= maxTs;rw [e6];exact z0
 refine hz _ ?_ ?_ ?_ ?_ ?_ ?_ ?_ ?_ hs
 all_goals unfold nextT
 all_goals repeat' split
 all_goals first | rfl | exact z0 | exact h.1 | exact h.2
def startC (C : CLR) (a : AskR) : CLR := { C with req := C.req + 1,t := some (newT C.id (C.req + 1) a) }
def startO (C : CLR) (a : AskR) : List OutR := putO [] (nextT (newT C.id (C.req + 1) a) C.ep C.hd).1 (nextT (newT C.id (C.req + 1) a) C.ep C.hd).2
theorem putO_len (L : List OutR) (to : Int) (m : MsgR) : (putO L to m).length <= L.length + 1 := by
 unfold putO
 split
 ·simp
 ·omega
attribute [local go_sem ↓] loadVar_ask
attribute [local go_sem] run_loadAsk
section
variable {w w' : World} {X X' : CX} {C C' : CLR}
theorem start_busy (h : ClAt w X C) (a : AskR) (ht : C.t.isSome = true) : Calls Tryz.prog 8 #[.pointer (some ⟨X.cb,0,none⟩),qagg a] w fun e w' => e = .returned (.tuple #[.slice none 0 0,.int .i64 20]) /\ Kept NoF w w' := by
 obtain ⟨W0,hW0⟩ : ∃ W0,w.alloc (.cells (qcell a).toArray 25) = W0 := ⟨_,rfl⟩
 have hk0 : Kept NoF w W0 := by rw [<- hW0];(repeat' (first | (with_reducible first | exact kR0 | apply kP0 | apply kN0 | apply kD0 | apply kA0) | (right;simp;done)))
 have h0 := h.quiet hk0
 have hn := cnone_any h0
 obtain ⟨t,ht⟩ := Option.isSome_iff_exists.1 ht
 have q : W0.cell? ⟨X.cb,4,none⟩ = some (tptr X C) := h0.b.cell 4
 rw [tptr_some ht] at q
 obtain ⟨cb,hcb⟩ : ∃ cb,X.cb = cb := ⟨_,rfl⟩
 obtain ⟨tb,htb⟩ : ∃ tb,X.px.b = tb := ⟨_,rfl⟩
 rw [hcb] at hn q ⊢
 rw [htb] at q
 obtain ⟨cs,hcs⟩ : ∃ cs,(qcell a).toArray = cs := ⟨_,rfl⟩
 unfold qagg
 rw [hcs] at hW0 ⊢
 have HN := hZ0 hn;have HK0 := hZ0 hk0
 clear hn hk0 h0 h hcb htb ht hcs
 go_enter Tryz.func8,Tryz.ntmps8
 go_wp2_with fail
 clear hW0
 refine HN.out.mono ?_
 rintro e w2 ⟨rfl,rfl⟩
 go_wp2
 go_ret2
 exact ⟨rfl,HK0.out⟩
theorem start_bad (h : ClAt w X C) (hok : COk C) (a : AskR) (ha : QGood w a) (hl : a.ops.length <= 1000) (ht : C.t = none) (hz : newE C.id (C.req + 1) a ≠ 0) : Calls Tryz.prog 8 #[.pointer (some ⟨X.cb,0,none⟩),qagg a] w fun e w' => e = .returned (.tuple #[.slice none 0 0,.int .i64 (newE C.id (C.req + 1) a)]) /\ Kept NoF w w' := by
 obtain ⟨W0,hW0⟩ : ∃ W0,w.alloc (.cells (qcell a).toArray 25) = W0 := ⟨_,rfl⟩
 have hk0 : Kept NoF w W0 := by rw [<- hW0];(repeat' (first | (with_reducible first | exact kR0 | apply kP0 | apply kN0 | apply kD0 | apply kA0) | (right;simp;done)))
 have hn0 : Has W0 w.heap.size 25 (qcell a).toArray := by rw [<- hW0];exact Has.new _ _ _
 have h0 := h.quiet hk0
 have hn := cnone_any h0
 have hnew := fun W (hW : Kept NoF W0 W) => (pnew_any W C.id (C.req + 1) a (ha.kept (hk0.then hW)) hl).mono fun e w' hp => show e = .returned (.tuple #[.pointer none,.int .i64 (newE C.id (C.req + 1) a)]) /\ Kept NoF W w' from hp.1 hz
 have q : W0.cell? ⟨X.cb,4,none⟩ = some (tptr X C) := h0.b.cell 4
 have q0 : W0.cell? ⟨X.cb,0,none⟩ = some (.int .i64 C.id) := h0.b.cell 0
 have q1 : W0.cell? ⟨X.cb,1,none⟩ = some (.int .i64 C.req) := h0.b.cell 1
 rw [tptr_none ht] at q
 have hrq := hok.req
 have hwr0 : IntKind.i64.wrap (C.req + 1) = C.req + 1 := IntWalk.i64_in _ (by omega)
 obtain ⟨r1,hr1⟩ : ∃ r1,C.req + 1 = r1 := ⟨_,rfl⟩
 rw [hr1] at hnew hz ⊢
 have hwr : IntKind.i64.wrap (C.req + 1) = r1 := by rw [<- hr1];exact hwr0
 clear hwr0
 obtain ⟨z,hzz⟩ : ∃ z,newE C.id r1 a = z := ⟨_,rfl⟩
 rw [hzz] at hz ⊢
 simp only [hzz] at hnew
 have hz2 : (z != 0) = true := by simpa using hz
 obtain ⟨cb,hcb⟩ : ∃ cb,X.cb = cb := ⟨_,rfl⟩
 rw [hcb] at hn q q0 q1 ⊢
 obtain ⟨u1,u2⟩ := askIn_has (cs := qcell a) rfl hn0
 unfold qagg at hnew ⊢
 obtain ⟨cs,hcs⟩ : ∃ cs,(qcell a).toArray = cs := ⟨_,rfl⟩
 rw [hcs] at hW0 u2 ⊢
 simp only [hcs] at hnew
 have hS : ∀ W,Kept NoF W0 W -> W.cell? ⟨cb,0,none⟩ = some (.int .i64 C.id) /\ W.cell? ⟨cb,1,none⟩ = some (.int .i64 C.req) /\ AskIn W ⟨w.heap.size,0,none⟩ /\ askAt W ⟨w.heap.size,0,none⟩ = cs := fun W hW => by
  have hb := h0.b.kept hW (fun z => z)
  rw [hcb] at hb
  have h2 := askIn_has (cs := qcell a) rfl (hn0.kept hW (fun z => z))
  rw [hcs] at h2
  exact ⟨hb.cell 0,hb.cell 1,h2⟩
 have HN := hZ0 hn;have HK0 := hZ0 hk0;have HNEW := hZ0 hnew;have HWR := hZ0 hwr;have HS := hZ0 hS
 clear hS
 clear hn hk0 h0 h hcb ht hcs hnew hn0 hr1 hzz hrq hok ha hl hz hwr
 go_enter Tryz.func8,Tryz.ntmps8
 go_wp2_with fail
 clear hW0
 refine HN.out.mono ?_
 rintro e w2 ⟨rfl,rfl⟩
 have hwr := HWR.out
 go_wp2_with fail
 go_region_held3 (fun W => W.cell? ⟨cb,0,none⟩ = some (.int .i64 C.id) /\ W.cell? ⟨cb,1,none⟩ = some (.int .i64 C.req) /\ AskIn W ⟨w.heap.size,0,none⟩ /\ askAt W ⟨w.heap.size,0,none⟩ = cs) (first | with_reducible exact s3 | with_reducible exact ⟨q0,q1,u1,u2⟩ | (refine HS.out _ ?_;(repeat' (first | (with_reducible first | exact kR0 | apply kP0 | apply kN0 | apply kD0 | apply kA0) | (right;simp;done)));done))
  (first | (go_at_call 25;refine (HNEW.out _ (by (repeat' (first | (with_reducible first | exact kR0 | apply kP0 | apply kN0 | apply kD0 | apply kA0) | (right;simp;done))))).mono ?_;rintro e w3 ⟨rfl,hk3⟩;have s3 := HS.out w3 (Kept.then (F := NoF) (a := W0) (by (repeat' (first | (with_reducible first | exact kR0 | apply kP0 | apply kN0 | apply kD0 | apply kA0) | (right;simp;done)))) hk3);have HK3 := hZ0 (Kept.then (F := NoF) (a := W0) (by (repeat' (first | (with_reducible first | exact kR0 | apply kP0 | apply kN0 | apply kD0 | apply kA0) | (right;simp;done)))) hk3);clear hk3))
 go_wp2
 go_ret2
 exact ⟨rfl,HK0.out.then HK3.out⟩
end
end Cli
namespace Cli
open Plan Ops Ent Msg Vn Go.Proofs.YtgbigpdiacjbgaaGreat.Ask
attribute [local go_sem ↓] loadVar_ask
attribute [local go_sem] run_loadAsk
section
variable {w w' : World} {X X' : CX} {C C' : CLR}
theorem ClAt.task {w0 w1 : World} (h : ClAt w0 X C) {Y : PX} {tk : TS} {r1 : Int} (hk : Kept (fun k => k = X.cb) w0 w1) (hb : Has w1 X.cb 38 (ccells { X with px := Y } { C with req := r1,t := some tk })) (hp : PAt w1 Y tk) (hn : ∀ k,foot Y tk k -> w.heap.size <= k) (hw : w.heap.size <= w0.heap.size) (hX : ∀ k,cfoot X C k -> k < w.heap.size) :
  ClAt w1 { X with px := Y } { C with req := r1,t := some tk } := by
 refine ⟨hb,fun t e => ?_,own_kept h.r hk (fun k hk e => (h.ar k hk).1 e),fun k hk => ⟨(h.ar k hk).1,fun t e hf => ?_⟩⟩
 ·injection e with e
  subst e
  exact ⟨hp,fun hf => by have h2 : X.cb < w.heap.size := hX X.cb (.inl rfl);have h3 : w.heap.size <= X.cb := hn _ hf;omega⟩
 ·injection e with e
  subst e
  have := hn _ hf
  have := hX k (.inr (.inr hk))
  omega
def StartPost (w : World) (X : CX) (C : CLR) (a : AskR) (e : Ending) (w' : World) : Prop :=
 ∃ X' A c,e = .returned (.tuple #[.slice A (startO C a).length c,.int .i64 0]) /\ CStep w X C w' X' (startC C a) /\ OutNew w w' A c (startO C a)
theorem start_ok (h : ClAt w X C) (hok : COk C) (a : AskR) (ha : QGood w a) (hl : a.ops.length <= 1000) (ht : C.t = none) (hz : newE C.id (C.req + 1) a = 0) : Calls Tryz.prog 8 #[.pointer (some ⟨X.cb,0,none⟩),qagg a] w (StartPost w X C a) := by
 obtain ⟨W0,hW0⟩ : ∃ W0,w.alloc (.cells (qcell a).toArray 25) = W0 := ⟨_,rfl⟩
 have hk0 : Kept NoF w W0 := by rw [<- hW0];(repeat' (first | (with_reducible first | exact kR0 | apply kP0 | apply kN0 | apply kD0 | apply kA0) | (right;simp;done)))
 have hn0 : Has W0 w.heap.size 25 (qcell a).toArray := by rw [<- hW0];exact Has.new _ _ _
 have h0 := h.quiet hk0
 have hn := cnone_any h0
 have hnew := fun W (hW : Kept NoF W0 W) => (pnew_any W C.id (C.req + 1) a (ha.kept (hk0.then hW)) hl).mono fun e w' hp => hp.2 hz
 have q : W0.cell? ⟨X.cb,4,none⟩ = some (tptr X C) := h0.b.cell 4
 have q0 : W0.cell? ⟨X.cb,0,none⟩ = some (.int .i64 C.id) := h0.b.cell 0
 have q1 : W0.cell? ⟨X.cb,1,none⟩ = some (.int .i64 C.req) := h0.b.cell 1
 rw [tptr_none ht] at q
 have hrq := hok.req
 have hwr0 : IntKind.i64.wrap (C.req + 1) = C.req + 1 := IntWalk.i64_in _ (by omega)
 have htok := TOk.new (cl := C.id) (rq := C.req + 1) (a := a) ha.2.2.2.2.2.2.1 hz
 have hat : atOk (newT C.id (C.req + 1) a) := ⟨ha.2.2.2.2.2.2.2.1,ha.2.2.2.2.2.2.2.1⟩
 have hjok := JOk.new (cl := C.id) (rq := C.req + 1) (a := a) ha.2.2.2.2.2.2.1 hz
 have hbl : (newT C.id (C.req + 1) a).bo.length <= 1000 := by
  have h9 := (Ops.chk_ok hjok.b).2.2.2.2.1
  exact Nat.le_trans h9 (by decide)
 have hlt : ∀ k,cfoot X C k -> k < w.heap.size := fun k hk => h.lt hk
 have hsz0 := hk0.size
 obtain ⟨r1,hr1⟩ : ∃ r1,C.req + 1 = r1 := ⟨_,rfl⟩
 unfold StartPost startC startO
 rw [hr1] at hnew hz htok hat hjok hbl ⊢
 have hwr : IntKind.i64.wrap (C.req + 1) = r1 := by rw [<- hr1];exact hwr0
 clear hwr0
 obtain ⟨tk,htk⟩ : ∃ tk,newT C.id r1 a = tk := ⟨_,rfl⟩
 rw [htk] at htok hat hjok hbl ⊢
 simp only [htk] at hnew
 obtain ⟨cb,hcb⟩ : ∃ cb,X.cb = cb := ⟨_,rfl⟩
 have hb0 : Has W0 cb 38 (ccells X C) := by rw [<- hcb];exact h0.b
 rw [hcb] at hn q q0 q1 ⊢
 obtain ⟨u1,u2⟩ := askIn_has (cs := qcell a) rfl hn0
 unfold qagg at hnew ⊢
 obtain ⟨cs,hcs⟩ : ∃ cs,(qcell a).toArray = cs := ⟨_,rfl⟩
 rw [hcs] at hW0 u2 ⊢
 simp only [hcs] at hnew
 have hS : ∀ W,Kept NoF W0 W -> W.cell? ⟨cb,0,none⟩ = some (.int .i64 C.id) /\ W.cell? ⟨cb,1,none⟩ = some (.int .i64 C.req) /\ AskIn W ⟨w.heap.size,0,none⟩ /\ askAt W ⟨w.heap.size,0,none⟩ = cs := fun W hW => by
  have hb := hb0.kept hW (fun z => z)
  have h2 := askIn_has (cs := qcell a) rfl (hn0.kept hW (fun z => z))
  rw [hcs] at h2
  exact ⟨hb.cell 0,hb.cell 1,h2⟩
 have HN := hZ0 hn;have HK0 := hZ0 hk0;have HNEW := hZ0 hnew;have HWR := hZ0 hwr;have HS := hZ0 hS;have HB0 := hZ0 hb0;have H0 := hZ0 h0;have HT := hZ0 ht;have HTOK := hZ0 htok;have HAT := hZ0 hat;have HBL := hZ0 hbl;have HCB := hZ0 hcb;have HLT := hZ0 hlt;have HSZ0 := hZ0 hsz0
 clear hS hn hk0 h0 h hcb ht hcs hnew hn0 hr1 htk hrq hok ha hl hz hwr hb0 htok hat hjok hbl hlt hsz0
 go_enter Tryz.func8,Tryz.ntmps8
 go_wp2_with fail
 clear hW0
 refine HN.out.mono ?_
 rintro e w2 ⟨rfl,rfl⟩
 have hwr := HWR.out
 go_wp2_with fail
 go_region_held3 (fun W => W.cell? ⟨cb,0,none⟩ = some (.int .i64 C.id) /\ W.cell? ⟨cb,1,none⟩ = some (.int .i64 C.req) /\ AskIn W ⟨w.heap.size,0,none⟩ /\ askAt W ⟨w.heap.size,0,none⟩ = cs) (first | with_reducible exact s3 | with_reducible exact ⟨q0,q1,u1,u2⟩ | (refine HS.out _ ?_;(repeat' (first | (with_reducible first | exact kR0 | apply kP0 | apply kN0 | apply kD0 | apply kA0) | (right;simp;done)));done))
  (first | (go_at_call 25;refine (HNEW.out _ (by (repeat' (first | (with_reducible first | exact kR0 | apply kP0 | apply kN0 | apply kD0 | apply kA0) | (right;simp;done))))).mono ?_;rintro e w3 ⟨Y,rfl,hp3,hf3,hk3⟩;have hkk := Kept.then (F := NoF) (a := W0) (by (repeat' (first | (with_reducible first | exact kR0 | apply kP0 | apply kN0 | apply kD0 | apply kA0) | (right;simp;done)))) hk3;have s3 := HS.out w3 hkk;have HK3 := hZ0 hkk;have HP3 := hZ0 hp3;have HF3 := hZ0 hf3;clear hk3 hkk hp3 hf3))
 clear s3 q q0 q1 u1 u2 hwr
 have hb3 := HB0.out.kept HK3.out (fun z => z)
 have y1 : w3.cell? ⟨cb,1,none⟩ = some (.int .i64 C.req) := hb3.cell 1
 have f1 := hb3.frozen 1
 have f4 := hb3.frozen 4
 have y4 : w3.cell? ⟨cb,4,none⟩ = some (tptr X C) := hb3.cell 4
 rw [tptr_none HT.out] at y4
 have HB3 := hZ0 hb3
 clear hb3
 have hwr := HWR.out
 go_wp2_with fail
 clear y1 y4 f1 f4 hwr
 obtain ⟨W5,hW5⟩ : ∃ W5,(w3.setCell ⟨cb,1,none⟩ (.int .i64 r1)).setCell ⟨cb,4,none⟩ (.pointer (some ⟨Y.b,0,none⟩)) = W5 := ⟨_,rfl⟩
 rw [hW5]
 have hk35 : Kept (fun k => k = cb) w3 W5 := by rw [<- hW5];(repeat' (first | (with_reducible first | exact kR0 | apply kP0 | apply kN0 | apply kD0 | apply kA0) | (exact Or.inl rfl) | (right;simp;done)))
 have hb5 : Has W5 cb 38 (ccells { X with px := Y } { C with req := r1,t := some tk }) := by rw [<- hW5];exact Has.put_of (Has.put_of HB3.out rfl) rfl
 have hcbw : cb < w.heap.size := by have := HLT.out X.cb (.inl rfl);rw [HCB.out] at this;exact this
 have hfY : ∀ k,foot Y tk k -> w.heap.size <= k := fun k hk => by have h9 : W0.heap.size <= k := HF3.out k hk;have := HSZ0.out;omega
 have hp5 : PAt W5 Y tk := HP3.out.keptG hk35 (fun k hk e => by have := hfY k hk;omega)
 have hc3 := H0.out.quiet HK3.out
 have hc5 : ClAt W5 { X with px := Y } { C with req := r1,t := some tk } := ClAt.task (w := w) hc3 (by rw [HCB.out];exact hk35) (by rw [HCB.out];exact hb5) hp5 hfY (Nat.le_trans HSZ0.out HK3.out.size) HLT.out
 have hS5 : ∀ W,Kept NoF W5 W -> W.cell? ⟨cb,2,none⟩ = some (.int .i64 C.ep) /\ W.cell? ⟨cb,3,none⟩ = some (.int .i64 C.hd) := fun W hW => ⟨(hb5.kept hW (fun z => z)).cell 2,(hb5.kept hW (fun z => z)).cell 3⟩
 have hnx := fun W (hW : Kept NoF W5 W) => pnext_any (hp5.quiet hW) HTOK.out HBL.out C.ep C.hd
 have hxo := fun W A c (hs : Src W 3 A (nextT tk C.ep C.hd).2.ops.length (cells (nextT tk C.ep C.hd).2.ops)) => nextX HAT.out C.ep C.hd (c := c) hs
 unfold Ask.NextPost at hnx
 obtain ⟨p,hp⟩ : ∃ p,nextT tk C.ep C.hd = p := ⟨_,rfl⟩
 simp only [hp] at hnx hxo
 have HPP := hZ0 hp
 have HS5 := hZ0 hS5;have HNX := hZ0 hnx;have HXO := hZ0 hxo;have HC5 := hZ0 hc5;have HFY := hZ0 hfY;have HCW := hZ0 hcbw;have HK35 := hZ0 hk35;have HB5 := hZ0 hb5
 clear hS5 hnx hxo hc5 hfY hcbw hk35 hb5 hp5 hc3 hp hW5
 go_wp2_with fail
 refine (outs_any W5).mono ?_
 rintro e w6 ⟨lb,rfl,hbx,hlb,hk6⟩
 have hnl : ¬ bfoot lb none 0 0 cb := fun h => by
  rcases h with e | e
  ·have h9 : cb < W5.heap.size := HB5.out.lt
   omega
  ·simp [Value.ownBlock] at e
 have HBX := hZ0 hbx;have HLB := hZ0 hlb;have HK6 := hZ0 hk6;have HNL := hZ0 hnl
 obtain ⟨y2,y3⟩ := HS5.out w6 hk6
 clear hbx hlb hk6 hnl
 go_wp2_with fail
 go_region_held3 (fun W => W.cell? ⟨cb,2,none⟩ = some (.int .i64 C.ep) /\ W.cell? ⟨cb,3,none⟩ = some (.int .i64 C.hd)) (first | with_reducible exact s8 | with_reducible exact s7 | with_reducible exact ⟨y2,y3⟩ | (refine HS5.out _ ?_;(repeat' (first | (with_reducible first | exact kR0 | apply kP0 | apply kN0 | apply kD0 | apply kA0) | (exact HK6.out) | (right;simp;done)));done))
  (first
   | (go_at_call 27;refine (HNX.out _ (by (repeat' (first | (with_reducible first | exact kR0 | apply kP0 | apply kN0 | apply kD0 | apply kA0) | (exact HK6.out) | (right;simp;done))))).mono ?_;rintro e w7 ⟨A7,c7,rfl,hs7,hc7,-,hk7⟩;have hkk := Kept.then (F := NoF) (a := w6) (by (repeat' (first | (with_reducible first | exact kR0 | apply kP0 | apply kN0 | apply kD0 | apply kA0) | (right;simp;done)))) hk7;have s7 := HS5.out w7 (HK6.out.then hkk);have HX7 := hZ0 (HXO.out w7 A7 c7 hs7);have HK7 := hZ0 hkk;have HBX7 := hZ0 (HBX.out.quiet hkk);clear hs7 hc7 hk7 hkk)
   | (go_at_call 52;refine (put_any HBX7.out (by decide) _ _ HX7.out).mono ?_;rintro e w8 ⟨rfl,A8,c8,hb8,hk8,hn8⟩;have hb8c := Has.kept (Has.kept HB5.out (HK6.out.then HK7.out) (fun z => z)) hk8 HNL.out;have s8 : w8.cell? ⟨cb,2,none⟩ = some (.int .i64 C.ep) /\ w8.cell? ⟨cb,3,none⟩ = some (.int .i64 C.hd) := And.intro (hb8c.cell 2) (hb8c.cell 3);have HB8 := hZ0 hb8;have HK8 := hZ0 hk8;have HN8 := hZ0 hn8;clear hb8 hk8 hn8 hb8c))
 clear s8 s7 y2 y3
 go_wp2_with fail
 refine (told_any HB8.out).mono ?_
 rintro e w9 ⟨rfl,rfl⟩
 go_wp2
 go_ret2
 have hs5 := HC5.out
 have hw5 : w.heap.size <= W5.heap.size := Nat.le_trans HSZ0.out (Nat.le_trans HK3.out.size HK35.out.size)
 have hl5 : W5.heap.size <= lb := HLB.out
 have hnb : ∀ k,bfoot lb none 0 0 k -> W5.heap.size <= k := fun k hk => by
  rcases hk with rfl | hk
  ·exact hl5
  ·simp [Value.ownBlock] at hk
 have e1 : putO [] p.1 { p.2 with oA := A7,oc := c7 } = putO [] (nextT tk C.ep C.hd).1 (nextT tk C.ep C.hd).2 := by rw [HPP.out];rfl
 have hb8 := HB8.out
 have hn8 := HN8.out
 rw [e1] at hb8 hn8 ⊢
 refine ⟨{ X with px := Y },A8,c8,rfl,⟨?_,rfl,fun k hk => ?_,?_⟩,⟨hb8.r,fun k hk => ?_⟩⟩
 ·exact (HC5.out.quiet (HK6.out.then HK7.out)).keptG HK8.out (fun k hk hf => by have := HC5.out.lt hk;have := hnb k hf;omega)
 ·rcases hk with rfl | ⟨t,e,hf⟩ | hf
  ·exact .inl (.inl rfl)
  ·have e' : some tk = some t := e
   injection e' with e'
   subst e'
   exact .inr (HFY.out k hf)
  ·exact .inl (.inr (.inr hf))
 ·have h1 : Kept (cfoot X C) w W5 := (Kept.up' (HK0.out.then HK3.out)).trans HK35.out (fun k hk => .inl (.inl (hk.trans HCB.out.symm)))
  exact (h1.trans (HK6.out.then HK7.out) (fun k hk => hk.elim)).trans HK8.out (fun k hk => .inr (by have := hnb k hk;omega))
 ·rcases hn8 k (.inr hk) with y | y
  ·have := hnb k y;omega
  ·have h6 := (HK6.out.then HK7.out).size;omega
end
end Cli
end Go.Proofs.YtgbigpdiacjbgaaGreat
