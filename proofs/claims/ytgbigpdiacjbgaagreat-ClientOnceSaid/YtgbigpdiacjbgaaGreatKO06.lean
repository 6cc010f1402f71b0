/- Part 7 of what the proof needs. -/
import Derived.Test.YtgbigpdiacjbgaaGreatKO03
import Derived.Test.YtgbigpdiacjbgaaGreatKO05
import Derived.Deep.WholeRow
import Derived.WalkKit
import Derived.WalkSpells
import Derived.WalkLawsBesides
import Derived.Lib.Hide
import Derived.Deep.RegionHeld3
import Derived.Deep.RegionLaw
import Derived.StillTailTactics
import Derived.BigQuiet
import Derived.Deep.QuietTactic
set_option linter.unusedSimpArgs false
set_option linter.unusedVariables false
set_option maxHeartbeats 32000000
set_option maxRecDepth 100000
namespace Go.Proofs.YtgbigpdiacjbgaaGreat
open Go.RowKit Go.WideShapes Go.ChangeShapes
set_option maxRecDepth 100000
namespace Ask
open Plan Ops Ent Msg MO
def msgAt (w : World) (a : Addr) : Array Value := ((List.range 22).map fun j => (w.cell? (a.add j)).getD undef).toArray
def MsgIn (w : World) (a : Addr) : Prop := ∀ j,j < 22 -> (w.cell? (a.add j)).isSome = true
def loadMsg (a : Addr) : Sem Value := loadVar 63 a
theorem loadVar_msg (a : Addr) : loadVar 63 a = loadMsg a := rfl
theorem run_loadMsg (w : World) (a : Addr) (h : MsgIn w a) : (loadMsg a).run Tryz.prog w = .ok (.agg (msgAt w a)) w := by
 have hl := run_loadCells (P := Tryz.prog) w a 22 (fun j => (w.cell? (a.add j)).getD undef) (fun j hj => by
  obtain ⟨v,hv⟩ := Option.isSome_iff_exists.1 (h j hj)
  rw [hv];rfl)
 have hi : (Tryz.prog.info? 63).map (·.size) = some 22 := by kernel_rfl
 have hagg : ∀ W,(isAgg 63).run Tryz.prog W = .ok true W := fun W => by
  unfold isAgg
  rw [Sem.run_bind,run_underlying Tryz.underlying63 W]
  rfl
 cases hq : Tryz.prog.info? 63 with
 | none => simp [hq] at hi
 | some i =>
  have hs : i.size = 22 := by simpa [hq] using hi
  unfold loadMsg
  simp [loadVar,Sem.run_bind,hagg,sizeOf,typeInfo,hq,hs,hl,msgAt]
theorem msgIn_of {w : World} {a : Addr} {cs : List Value} (hn : cs.length = 22) (h : ∀ j u,cs[j]? = some u -> w.cell? (a.add j) = some u) : MsgIn w a /\ msgAt w a = cs.toArray := by
 refine ⟨fun j hj => ?_,?_⟩
 ·rw [h j _ (List.getElem?_eq_getElem (by omega))];rfl
 ·unfold msgAt
  congr 1
  apply List.ext_getElem?
  intro j
  rcases Nat.lt_or_ge j 22 with hj | hj
  ·rw [List.getElem?_map,List.getElem?_range hj,List.getElem?_eq_getElem (by omega : j < cs.length)]
   simp [h j _ (List.getElem?_eq_getElem (by omega : j < cs.length))]
  ·rw [List.getElem?_eq_none (by simpa using hj),List.getElem?_eq_none (by omega)]
theorem run_loadMsg_at (w : World) (a : Addr) (cs : List Value) (hn : cs.length = 22) (h : ∀ j u,cs[j]? = some u -> w.cell? (a.add j) = some u) : (loadMsg a).run Tryz.prog w = .ok (.agg cs.toArray) w := by
 obtain ⟨h1,h2⟩ := msgIn_of hn h
 rw [run_loadMsg w a h1,h2]
theorem run_loadMsg_has (w : World) (g : Nat) (x : MsgR) (h : Has w g 63 (xcell x).toArray) : (loadMsg ⟨g,0,none⟩).run Tryz.prog w = .ok (.agg (xcell x).toArray) w := by
 refine run_loadMsg_at w _ _ rfl fun j u hu => ?_
 have e1 : ((⟨g,0,none⟩ : Addr).add j) = ⟨g,j,none⟩ := by unfold Addr.add;split <;> simp_all
 rw [e1,h.cell]
 simpa using hu
def storeMsg (a : Addr) (v : Value) : Sem Unit := storeVar 63 a v
theorem storeVar_msg (a : Addr) (v : Value) : storeVar 63 a v = storeMsg a v := rfl
theorem kept_setRow (W : World) (g : Nat) (cs : Array Value) : Kept (fun k => k = g) W (W.setRow g cs) :=
 ⟨rfl,rfl,rfl,by unfold World.setRow;simp,fun k hk hF => by
  unfold World.setRow
  rw [Array.getElem?_modify,if_neg (fun e => hF e.symm)]⟩
theorem one_x (x : MsgR) : (xcell x).toArray.all (·.oneCell') = true := by simp [xcell,Value.oneCell']
abbrev zcells : Array Value := #[.int .i64 0,.int .i64 0,.int .i64 0,.int .i64 0,.bool false,.int .u64 0,.int .u64 0,.int .i64 0,.int .i64 0,.int .i64 0,.int .i64 0,.string ⟨#[]⟩,.string ⟨#[]⟩,.int .i64 0,.slice none 0 0,.int .u64 0,.int .i64 0,.int .i64 0,.slice none 0 0,.slice none 0 0,.slice none 0 0,.slice none 0 0]
theorem lay_msg (w : World) (x : MsgR) : ∃ Wz W8,w.alloc (.cells zcells 63) = Wz /\ (storeMsg ⟨w.heap.size,0,none⟩ (.agg (xcell x).toArray)).run Tryz.prog Wz = .ok () W8 /\ Has W8 w.heap.size 63 (xcell x).toArray /\ Kept NoF w W8 := by
 have hz : Has (w.alloc (.cells zcells 63)) w.heap.size 63 zcells := Has.new _ _ _
 have e1 : (w.alloc (.cells zcells 63)).setRow w.heap.size (xcell x).toArray = w.alloc (.cells (xcell x).toArray 63) := World.setRow_alloc_new ..
 refine ⟨_,w.alloc (.cells (xcell x).toArray 63),rfl,?_,Has.new _ _ _,by (repeat' (first | (with_reducible first | exact kR0 | apply kP0 | apply kN0 | apply kD0 | apply kA0) | (right;simp;done)))⟩
 rw [<- e1]
 exact run_storeVar_row _ w.heap.size _ _ _ _ hz (show (Tryz.prog.info? 63).map (·.size) = some 22 by kernel_rfl) rfl (one_x x)
structure ActR where
 k : Int
 n : Int
 fr : Int
 x : MsgR
def AGood (w : World) (a : ActR) : Prop := MGood w a.x /\ I64 a.n /\ I64 a.fr
theorem AGood.kept {w w' : World} {a : ActR} (h : AGood w a) (hk : Kept NoF w w') : AGood w' a := ⟨h.1.kept hk,h.2⟩
section
variable {H : Type} {enc : TypeId × Value -> H} {W : World} {v : Value} {d : DataW H} {ps : List MemPlace} {r : Reach} {b0 : Nat}
def QGood (w : World) (a : AskR) : Prop := Src w 3 a.A a.ops.length (cells a.ops) /\ a.ops.length <= a.c /\ a.c <= maxLen /\ (∀ o ∈ a.ops,o.key.size <= maxLen /\ o.val.size <= maxLen) /\ I64 a.k /\ I64 a.nd /\ I64 a.n /\ (0 <= a.at' /\ a.at' <= maxTs) /\ a.key.size <= maxLen /\ a.to.size <= maxLen
theorem QGood.kept {w w' : World} {a : AskR} (h : QGood w a) (hk : Kept NoF w w') : QGood w' a := ⟨h.1.kept hk (fun _ _ z => z),h.2⟩
theorem open_ask0 (fuel : Nat) (cs : List Value) (y : DataW H × List MemPlace) (hy : DataW.trod enc Tryz.prog W 0 (fun _ => true) true fuel 25 cs = some y) : ∃ a,cs = qcell a /\ QGood W a := by
 obtain ⟨hl,n,hf⟩ := trod_fld Tryz.underlying25 hy
 have hC : Tryz.prog.cellsOf 25 = 7 := by kernel_rfl
 rw [hC] at hl
 match cs,hl with
 | [c0,c1,c2,c3,c4,c5,c6],_ =>
  have e3 : Tryz.prog.cellsOf 3 = 1 := by kernel_rfl
  have e9 : Tryz.prog.cellsOf 9 = 1 := by kernel_rfl
  have eU : Tryz.prog.cellsOf 22 = 1 := by kernel_rfl
  have eO : Tryz.prog.cellsOf 23 = 1 := by kernel_rfl
  obtain ⟨_,h0⟩ := hf 0 _ rfl
  obtain ⟨_,h1⟩ := hf 1 _ rfl
  obtain ⟨_,h2⟩ := hf 2 _ rfl
  obtain ⟨_,h3⟩ := hf 3 _ rfl
  obtain ⟨_,h4⟩ := hf 4 _ rfl
  obtain ⟨_,h5⟩ := hf 5 _ rfl
  obtain ⟨_,h6⟩ := hf 6 _ rfl
  obtain ⟨x0,hx0,_,m0⟩ := DataW.trod_int Tryz.underlying3 h0
  obtain ⟨x1,hx1,_,m1⟩ := DataW.trod_int Tryz.underlying3 h1
  obtain ⟨x2,hx2,_,m2⟩ := DataW.trod_string Tryz.underlying9 h2
  obtain ⟨x3,hx3,_,m3⟩ := DataW.trod_string Tryz.underlying9 h3
  obtain ⟨x4,hx4,_,m4⟩ := DataW.trod_int Tryz.underlying22 h4
  obtain ⟨x5,hx5,_,m5⟩ := DataW.trod_int Tryz.underlying3 h5
  simp [e3] at hx0 hx1
  simp [e9] at hx2 hx3
  simp [eU] at hx4
  simp [e3] at hx5
  simp [eO] at h6
  subst hx0 hx1 hx2 hx3 hx4 hx5
  obtain ⟨hv6,t6⟩ := slice_of Tryz.underlying23 h6
  obtain ⟨A,c,l,rfl,q1,q2,q3,q4⟩ := _root_.Go.Proofs.YtgbigpdiacjbgaaGreat.open_ops0 hv6 t6
  exact ⟨⟨x0,x1,x2,x3,x4,x5,A,c,l⟩,rfl,q3,q1,q2,q4,m0,m1,m5,u64r m4,m2,m3⟩
end
end Ask
end Go.Proofs.YtgbigpdiacjbgaaGreat
namespace Go.Proofs.YtgbigpdiacjbgaaGreat
open Go.RowKit
set_option maxRecDepth 100000
namespace Ask
open Plan Ops Ent Msg MO
structure PX where
 b : Nat
 g : Nat
 bA : Option Addr
 bc : Nat
 pA : Option Addr
 pc : Nat
 rA : Option Addr
 rc : Nat
def ccell (X : PX) (t : TS) : List Value := [.int .i64 t.cl,.int .i64 t.rq,.slice X.bA t.bo.length X.bc] ++ qcell t.a
def phV (X : PX) (t : TS) : Value := if t.ph = 0 then .iface 111 (.agg (ccell X t).toArray) else if t.ph = 1 then .iface 112 (.pointer (some ⟨X.g,0,none⟩)) else .iface 115 (.agg (ccell X t).toArray)
def tcell (X : PX) (t : TS) : Array Value := #[phV X t,.int .i64 t.rq,.int .i64 t.waits,.bool t.dn,.int .i64 t.r.req,.int .i64 t.r.e,.int .u64 t.r.at',.int .i64 t.r.pin,.slice X.rA t.r.ps.length X.rc]
def gcell (X : PX) (t : TS) : Array Value := (ccell X t ++ ([.int .u64 t.at',.string t.key,.slice X.pA t.ps.length X.pc] : List Value)).toArray
structure PAt (w : World) (X : PX) (t : TS) : Prop where
 b : Has w X.b 109 (tcell X t)
 g : t.ph = 1 -> Has w X.g 114 (gcell X t)
 g0 : t.ph ≠ 1 -> X.g = X.b /\ X.pA = none /\ X.pc = 0 /\ t.ps = []
 bo : w.ownsRow 0 143 3 (.slice X.bA t.bo.length X.bc) t.bo.length (cells t.bo)
 p : w.ownsRow 0 84 2 (.slice X.pA t.ps.length X.pc) t.ps.length (pcells t.ps)
 r : w.ownsRow 0 84 2 (.slice X.rA t.r.ps.length X.rc) t.r.ps.length (pcells t.r.ps)
 nd : t.dn = false -> t.r = rep0 /\ X.rA = none /\ X.rc = 0
def foot (X : PX) (t : TS) (k : Nat) : Prop := k = X.b \/ k = X.g \/ (Value.slice X.pA t.ps.length X.pc).ownBlock = some k \/ (Value.slice X.bA t.bo.length X.bc).ownBlock = some k \/ (Value.slice X.rA t.r.ps.length X.rc).ownBlock = some k
section
variable {w w' : World} {X : PX} {t : TS} {G : Nat -> Prop}
theorem PAt.keptG (h : PAt w X t) (hk : Kept G w w') (hs : ∀ k,foot X t k -> ¬ G k) : PAt w' X t :=
 ⟨h.b.kept hk (hs _ (.inl rfl)),fun e => (h.g e).kept hk (hs _ (.inr (.inl rfl))),h.g0,own_kept h.bo hk (fun k hk => hs k (.inr (.inr (.inr (.inl hk))))),own_kept h.p hk (fun k hk => hs k (.inr (.inr (.inl hk)))),own_kept h.r hk (fun k hk => hs k (.inr (.inr (.inr (.inr hk))))),h.nd⟩
theorem PAt.quiet (h : PAt w X t) (hk : Kept NoF w w') : PAt w' X t := h.keptG hk (fun _ _ z => z)
theorem PAt.lt (h : PAt w X t) {k : Nat} (hf : foot X t k) : k < w.heap.size := by
 rcases hf with rfl | rfl | hf | hf | hf
 ·exact h.b.lt
 ·by_cases e : t.ph = 1
  ·exact (h.g e).lt
  ·rw [(h.g0 e).1];exact h.b.lt
 ·exact own_lt h.p hf
 ·exact own_lt h.bo hf
 ·exact own_lt h.r hf
theorem phV_form (X : PX) (t : TS) : ∃ ty v,phV X t = .iface ty v := by
 unfold phV
 split
 ·exact ⟨_,_,rfl⟩
 split
 ·exact ⟨_,_,rfl⟩
 ·exact ⟨_,_,rfl⟩
theorem none_any (h : PAt w X t) : Calls Tryz.prog 55 #[.pointer (some ⟨X.b,0,none⟩)] w fun e w' => e = .returned (.bool false) /\ w = w' := by
 have q : w.cell? ⟨X.b,0,none⟩ = some (phV X t) := h.b.cell 0
 obtain ⟨ty,pv,hpv⟩ := phV_form X t
 rw [hpv] at q
 clear hpv h
 go_enter Tryz.func55,Tryz.ntmps55
 go_wp2
 go_ret
 exact ⟨rfl,rfl⟩
theorem replica_any (w : World) (i : Int) : Calls Tryz.prog 85 #[.int .i64 i] w fun e w' => e = .returned (.bool (decide (0 <= i /\ i < 4))) /\ w = w' := by
 obtain ⟨v,hv⟩ : ∃ v,decide (0 <= i /\ i < 4) = v := ⟨_,rfl⟩
 rw [hv]
 go_enter Tryz.func85,Tryz.ntmps85
 by_cases h0 : 0 <= i
 ·by_cases h1 : i < 4
  ·go_wp2
   go_ret
   exact ⟨by rw [<- hv];simp [h0,h1],rfl⟩
  ·go_wp2
   go_ret
   exact ⟨by rw [<- hv];simp [h0,h1],rfl⟩
 ·go_wp2
  go_ret
  exact ⟨by rw [<- hv];simp;omega,rfl⟩
def PPost (w : World) (X : PX) (t : TS) (v : Value) (t' : TS) (e : Ending) (w' : World) : Prop :=
 e = .returned v /\ ∃ X',PAt w' X' t' /\ X'.b = X.b /\ (∀ k,foot X' t' k -> foot X t k \/ w.heap.size <= k) /\ Kept (foot X t) w w'
theorem end_any (h : PAt w X t) (r : RepR) (A : Option Addr) (c : Nat) (hr : w.ownsRow 0 84 2 (.slice A r.ps.length c) r.ps.length (pcells r.ps)) :
  Calls Tryz.prog 67 #[.pointer (some ⟨X.b,0,none⟩),ragg r A c] w fun e w' => e = .returned (.tuple #[]) /\ PAt w' { X with rA := A,rc := c } (endT t r) /\ Kept (fun k => k = X.b) w w' := by
 obtain ⟨bb,gb,bA,bc,pA,pc,rA,rc⟩ := X
 obtain ⟨W0,hW0⟩ : ∃ W0,w.alloc (.cells (rcell r A c).toArray 36) = W0 := ⟨_,rfl⟩
 have hk0 : Kept NoF w W0 := by rw [<- hW0];(repeat' (first | (with_reducible first | exact kR0 | apply kP0 | apply kN0 | apply kD0 | apply kA0) | (right;simp;done)))
 have hn0 : Has W0 w.heap.size 36 (rcell r A c).toArray := by rw [<- hW0];exact Has.new _ _ _
 have hne : w.heap.size ≠ bb := fun e => by have := h.b.lt;dsimp only at this;omega
 have hb0 := h.b.kept hk0 (fun z => z)
 have hh : ∀ w',Has w' bb 109 (tcell ⟨bb,gb,bA,bc,pA,pc,A,c⟩ (endT t r)) -> Kept (fun k => k = bb) W0 w' -> PAt w' ⟨bb,gb,bA,bc,pA,pc,A,c⟩ (endT t r) /\ Kept (fun k => k = bb) w w' := fun w' hb hk => by
  have hkk := (hk0.mono (G := fun k => k = bb) (fun _ z => z.elim)).then hk
  exact ⟨⟨hb,fun e => by
   have hg := h.g e
   exact hg.kept hkk (fun e2 => (Has.ne hg h.b (by decide)) e2),h.g0,own_kept h.bo hkk (fun k hk2 e2 => own_ne h.bo h.b (by decide) (e2 ▸ hk2)),own_kept h.p hkk (fun k hk2 e2 => own_ne h.p h.b (by decide) (e2 ▸ hk2)),own_kept hr hkk (fun k hk2 e2 => own_ne hr h.b (by decide) (e2 ▸ hk2)),fun e => by cases e⟩,hkk⟩
 unfold tcell at hb0
 dsimp only at hb0
 have HH := hZ0 hh
 have hph : phV ⟨bb,gb,bA,bc,pA,pc,A,c⟩ (endT t r) = phV ⟨bb,gb,bA,bc,pA,pc,rA,rc⟩ t := rfl
 obtain ⟨pv,hpv⟩ : ∃ pv,phV ⟨bb,gb,bA,bc,pA,pc,rA,rc⟩ t = pv := ⟨_,rfl⟩
 rw [hpv] at hb0 hph
 have HPH := hZ0 hph
 have b0 : W0.cell? ⟨bb,0,none⟩ = some pv := hb0.cell 0
 have b1 : W0.cell? ⟨bb,1,none⟩ = some (.int .i64 t.rq) := hb0.cell 1
 have b3 : W0.cell? ⟨bb,3,none⟩ = some (.bool t.dn) := hb0.cell 3
 have b4 : W0.cell? ⟨bb,4,none⟩ = some (.int .i64 t.r.req) := hb0.cell 4
 have b5 : W0.cell? ⟨bb,5,none⟩ = some (.int .i64 t.r.e) := hb0.cell 5
 have b6 : W0.cell? ⟨bb,6,none⟩ = some (.int .u64 t.r.at') := hb0.cell 6
 have b7 : W0.cell? ⟨bb,7,none⟩ = some (.int .i64 t.r.pin) := hb0.cell 7
 have b8 : W0.cell? ⟨bb,8,none⟩ = some (.slice rA t.r.ps.length rc) := hb0.cell 8
 have f3 := hb0.frozen 3;have f4 := hb0.frozen 4;have f5 := hb0.frozen 5;have f6 := hb0.frozen 6;have f7 := hb0.frozen 7;have f8 := hb0.frozen 8
 have a0 : W0.cell? ⟨w.heap.size,0,none⟩ = some (.int .i64 r.req) := hn0.cell 0
 have a1 : W0.cell? ⟨w.heap.size,1,none⟩ = some (.int .i64 r.e) := hn0.cell 1
 have a2 : W0.cell? ⟨w.heap.size,2,none⟩ = some (.int .u64 r.at') := hn0.cell 2
 have a3 : W0.cell? ⟨w.heap.size,3,none⟩ = some (.int .i64 r.pin) := hn0.cell 3
 have a4 : W0.cell? ⟨w.heap.size,4,none⟩ = some (.slice A r.ps.length c) := hn0.cell 4
 have HB0 := hZ0 hb0
 unfold rcell at hW0
 unfold ragg rcell
 clear hh hk0 hn0 hb0 h hr hph hpv
 go_enter Tryz.func67,Tryz.ntmps67
 go_wp2_with fail
 go_region_held3 (fun W => W.cell? ⟨w.heap.size,0,none⟩ = some (.int .i64 r.req) /\ W.cell? ⟨w.heap.size,1,none⟩ = some (.int .i64 r.e) /\ W.cell? ⟨w.heap.size,2,none⟩ = some (.int .u64 r.at') /\ W.cell? ⟨w.heap.size,3,none⟩ = some (.int .i64 r.pin) /\ W.cell? ⟨w.heap.size,4,none⟩ = some (.slice A r.ps.length c))
  (first | with_reducible exact ⟨a0,a1,a2,a3,a4⟩ | (simp [go_sem,a0,a1,a2,a3,a4,hne,hne.symm];done))
  (fail)
 go_wp2
 go_end0
 refine ⟨rfl,HH.out _ ?_ ?_⟩
 ·have e9 : tcell ⟨bb,gb,bA,bc,pA,pc,A,c⟩ (endT t r) = #[pv,.int .i64 t.rq,.int .i64 t.waits,.bool true,.int .i64 t.rq,.int .i64 r.e,.int .u64 r.at',.int .i64 r.pin,.slice A r.ps.length c] := by unfold tcell;rw [HPH.out];rfl
  rw [e9]
  have g1 := Has.put_of (cs' := #[pv,.int .i64 t.rq,.int .i64 t.waits,.bool true,.int .i64 t.r.req,.int .i64 t.r.e,.int .u64 t.r.at',.int .i64 t.r.pin,.slice rA t.r.ps.length rc]) (i := 3) (u := .bool true) HB0.out rfl
  have g2 := Has.put_of (cs' := #[pv,.int .i64 t.rq,.int .i64 t.waits,.bool true,.int .i64 r.req,.int .i64 t.r.e,.int .u64 t.r.at',.int .i64 t.r.pin,.slice rA t.r.ps.length rc]) (i := 4) (u := .int .i64 r.req) g1 rfl
  have g3 := Has.put_of (cs' := #[pv,.int .i64 t.rq,.int .i64 t.waits,.bool true,.int .i64 r.req,.int .i64 r.e,.int .u64 t.r.at',.int .i64 t.r.pin,.slice rA t.r.ps.length rc]) (i := 5) (u := .int .i64 r.e) g2 rfl
  have g4 := Has.put_of (cs' := #[pv,.int .i64 t.rq,.int .i64 t.waits,.bool true,.int .i64 r.req,.int .i64 r.e,.int .u64 r.at',.int .i64 t.r.pin,.slice rA t.r.ps.length rc]) (i := 6) (u := .int .u64 r.at') g3 rfl
  have g5 := Has.put_of (cs' := #[pv,.int .i64 t.rq,.int .i64 t.waits,.bool true,.int .i64 r.req,.int .i64 r.e,.int .u64 r.at',.int .i64 r.pin,.slice rA t.r.ps.length rc]) (i := 7) (u := .int .i64 r.pin) g4 rfl
  have g6 := Has.put_of (cs' := #[pv,.int .i64 t.rq,.int .i64 t.waits,.bool true,.int .i64 r.req,.int .i64 r.e,.int .u64 r.at',.int .i64 r.pin,.slice A r.ps.length c]) (i := 8) (u := .slice A r.ps.length c) g5 rfl
  have g7 := Has.put_of (cs' := #[pv,.int .i64 t.rq,.int .i64 t.waits,.bool true,.int .i64 t.rq,.int .i64 r.e,.int .u64 r.at',.int .i64 r.pin,.slice A r.ps.length c]) (i := 4) (u := .int .i64 t.rq) g6 rfl
  exact g7.drew
 ·(repeat' (first | (with_reducible first | exact kR0 | apply kP0 | apply kN0 | apply kD0 | apply kA0) | (exact .inl rfl) | (right;simp;done)))
end
end Ask
end Go.Proofs.YtgbigpdiacjbgaaGreat
