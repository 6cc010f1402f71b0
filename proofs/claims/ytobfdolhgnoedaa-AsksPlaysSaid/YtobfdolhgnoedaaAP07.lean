/- Part 8 of what the proof needs. -/
import Derived.Test.YtobfdolhgnoedaaAP03
import Derived.Test.YtobfdolhgnoedaaAP05
import Derived.Test.YtobfdolhgnoedaaAP06
import Derived.Deep.WholeRow
set_option linter.unusedSimpArgs false
set_option linter.unusedVariables false
set_option maxHeartbeats 32000000
set_option maxRecDepth 100000
namespace Go.Proofs.Ytobfdolhgnoedaa
open Go.RowKit Go.WideShapes Go.ChangeShapes
set_option maxRecDepth 100000
namespace Ask
open Plan Ops Ent Msg MO
def msgAt (w : World) (a : Addr) : Array Value := ((List.range 22).map fun j => (w.cell? (a.add j)).getD undef).toArray
def MsgIn (w : World) (a : Addr) : Prop := ∀ j,j < 22 -> (w.cell? (a.add j)).isSome = true
def loadMsg (a : Addr) : Sem Value := loadVar 34 a
theorem loadVar_msg (a : Addr) : loadVar 34 a = loadMsg a := rfl
theorem run_loadMsg (w : World) (a : Addr) (h : MsgIn w a) : (loadMsg a).run Try.prog w = .ok (.agg (msgAt w a)) w := by
 have hl := run_loadCells (P := Try.prog) w a 22 (fun j => (w.cell? (a.add j)).getD undef) (fun j hj => by
  obtain ⟨v,hv⟩ := Option.isSome_iff_exists.1 (h j hj)
  rw [hv];rfl)
 have hi : (Try.prog.info? 34).map (·.size) = some 22 := by kernel_rfl
 have hagg : ∀ W,(isAgg 34).run Try.prog W = .ok true W := fun W => by
  unfold isAgg
  rw [Sem.run_bind,run_underlying Try.underlying34 W]
  rfl
 cases hq : Try.prog.info? 34 with
 | none => simp [hq] at hi
 | some i =>
  have hs : i.size = 22 := by simpa [hq] using hi
  unfold loadMsg
  simp [loadVar,Sem.run_bind,hagg,sizeOf,typeInfo,hq,hs,hl,msgAt]
theorem msgIn_of {w : World} {a : Addr} {cs : List Value} (hn : cs.length = 22) (h : ∀ j u,cs[j]? = some u -> w.cell? (a.add j) = some u) : MsgIn w a /\ msgAt w a = cs.toArray := by
 refine ⟨fun j hj => ?_,?_⟩
 ·rw [h j _ (List.getElem?_eq_getElem (by omega))];rfl
 ·unfold msgAt
  congr 1
  apply List.ext_getElem?
  intro j
  rcases Nat.lt_or_ge j 22 with hj | hj
  ·rw [List.getElem?_map,List.getElem?_range hj,List.getElem?_eq_getElem (by omega : j < cs.length)]
   simp [h j _ (List.getElem?_eq_getElem (by omega : j < cs.length))]
  ·rw [List.getElem?_eq_none (by simpa using hj),List.getElem?_eq_none (by omega)]
theorem run_loadMsg_at (w : World) (a : Addr) (cs : List Value) (hn : cs.length = 22) (h : ∀ j u,cs[j]? = some u -> w.cell? (a.add j) = some u) : (loadMsg a).run Try.prog w = .ok (.agg cs.toArray) w := by
 obtain ⟨h1,h2⟩ := msgIn_of hn h
 rw [run_loadMsg w a h1,h2]
theorem run_loadMsg_has (w : World) (g : Nat) (x : MsgR) (h : Has w g 34 (xcell x).toArray) : (loadMsg ⟨g,0,none⟩).run Try.prog w = .ok (.agg (xcell x).toArray) w := by
 refine run_loadMsg_at w _ _ rfl fun j u hu => ?_
 have e1 : ((⟨g,0,none⟩ : Addr).add j) = ⟨g,j,none⟩ := by unfold Addr.add;split <;> simp_all
 rw [e1,h.cell]
 simpa using hu
def storeMsg (a : Addr) (v : Value) : Sem Unit := storeVar 34 a v
theorem storeVar_msg (a : Addr) (v : Value) : storeVar 34 a v = storeMsg a v := rfl
theorem kept_setRow (W : World) (g : Nat) (cs : Array Value) : Kept (fun k => k = g) W (W.setRow g cs) :=
 ⟨rfl,rfl,rfl,by unfold World.setRow;simp,fun k hk hF => by
  unfold World.setRow
  rw [Array.getElem?_modify,if_neg (fun e => hF e.symm)]⟩
theorem one_x (x : MsgR) : (xcell x).toArray.all (·.oneCell') = true := by simp [xcell,Value.oneCell']
abbrev zcells : Array Value := #[.int .i64 0,.int .i64 0,.int .i64 0,.int .i64 0,.bool false,.int .u64 0,.int .u64 0,.int .i64 0,.int .i64 0,.int .i64 0,.int .i64 0,.string ⟨#[]⟩,.string ⟨#[]⟩,.int .i64 0,.slice none 0 0,.int .u64 0,.int .i64 0,.int .i64 0,.slice none 0 0,.slice none 0 0,.slice none 0 0,.slice none 0 0]
theorem lay_msg (w : World) (x : MsgR) : ∃ Wz W8,w.alloc (.cells zcells 34) = Wz /\ (storeMsg ⟨w.heap.size,0,none⟩ (.agg (xcell x).toArray)).run Try.prog Wz = .ok () W8 /\ Has W8 w.heap.size 34 (xcell x).toArray /\ Kept NoF w W8 := by
 have hz : Has (w.alloc (.cells zcells 34)) w.heap.size 34 zcells := Has.new _ _ _
 have e1 : (w.alloc (.cells zcells 34)).setRow w.heap.size (xcell x).toArray = w.alloc (.cells (xcell x).toArray 34) := World.setRow_alloc_new ..
 refine ⟨_,w.alloc (.cells (xcell x).toArray 34),rfl,?_,Has.new _ _ _,by (repeat' (first | (with_reducible first | exact kR0 | apply kP0 | apply kN0 | apply kD0 | apply kA0) | (right;simp;done)))⟩
 rw [<- e1]
 exact run_storeVar_row _ w.heap.size _ _ _ _ hz (show (Try.prog.info? 34).map (·.size) = some 22 by kernel_rfl) rfl (one_x x)
structure ActR where
 k : Int
 n : Int
 fr : Int
 x : MsgR
def acell (a : ActR) : List Value := .int .i64 a.k :: .int .i64 a.n :: .int .i64 a.fr :: xcell a.x
def acells (l : List ActR) : List Value := l.flatMap acell
def AGood (w : World) (a : ActR) : Prop := MGood w a.x /\ I64 a.n /\ I64 a.fr
theorem AGood.kept {w w' : World} {a : ActR} (h : AGood w a) (hk : Kept NoF w w') : AGood w' a := ⟨h.1.kept hk,h.2⟩
theorem act_cells {w : World} {A : Option Addr} {m : Nat} {l : List ActR} (h : Src w 25 A m (acells l)) (hm : 0 < m) (i : Nat) (x : ActR) (hx : l[i]? = some x) :
  ∃ ad,A = some ad /\ ad.block < w.heap.size /\ ∀ j u,(acell x)[j]? = some u -> w.cell? ((ad.add (i * 25)).add j) = some u := by
 obtain ⟨ad,rfl,had,hcell⟩ := h.2 hm
 refine ⟨ad,rfl,had,fun j u hu => ?_⟩
 have hj : j < 25 := (List.getElem?_eq_some_iff.1 hu).1
 rw [add_add]
 refine hcell _ _ ?_
 unfold acells
 rw [flat_get acell 25 (by decide) (fun _ => rfl),show (i * 25 + j) / 25 = i by omega,show (i * 25 + j) % 25 = j by omega,hx]
 exact hu
section
variable {H : Type} {enc : TypeId × Value -> H} {W : World} {v : Value} {d : DataW H} {ps : List MemPlace} {r : Reach} {b0 : Nat}
theorem open_act0 (fuel : Nat) (cs : List Value) (y : DataW H × List MemPlace) (hy : DataW.trod enc Try.prog W 0 (fun _ => true) true fuel 39 cs = some y) : ∃ a,cs = acell a /\ AGood W a := by
 obtain ⟨hl,n,hf⟩ := trod_fld Try.underlying39 hy
 have hC : Try.prog.cellsOf 39 = 25 := by kernel_rfl
 rw [hC] at hl
 have e3 : Try.prog.cellsOf 3 = 1 := by kernel_rfl
 have eX : Try.prog.cellsOf 34 = 22 := by kernel_rfl
 match cs,hl with
 | c0 :: c1 :: c2 :: r,hl =>
  have hr : r.length = 22 := by simpa using hl
  obtain ⟨_,h0⟩ := hf 0 _ rfl
  obtain ⟨_,h1⟩ := hf 1 _ rfl
  obtain ⟨_,h2⟩ := hf 2 _ rfl
  obtain ⟨z3,h3⟩ := hf 3 _ rfl
  obtain ⟨x0,hx0,_,_⟩ := DataW.trod_int Try.underlying3 h0
  obtain ⟨x1,hx1,_,m1⟩ := DataW.trod_int Try.underlying3 h1
  obtain ⟨x2,hx2,_,m2⟩ := DataW.trod_int Try.underlying3 h2
  simp [e3] at hx0 hx1 hx2
  have h3' : DataW.trod enc Try.prog W 0 (fun _ => true) true n 34 (r.take (Try.prog.cellsOf 34)) = some z3 := h3
  rw [eX,List.take_of_length_le (by omega)] at h3'
  subst hx0 hx1 hx2
  obtain ⟨x,hx,hg⟩ := open_msg0 _ _ _ h3'
  exact ⟨⟨x0,x1,x2,x⟩,by rw [hx];rfl,hg,m1,m2⟩
theorem open_acts (hv : Value.okWide Try.prog W r b0 40 v) (h : DataW.Trod enc Try.prog W 0 (fun _ => true) true 40 v d ps) :
  ∃ (A : Option Addr) (c : Nat) (l : List ActR),v = .slice A l.length c /\ l.length <= c /\ c <= maxLen /\ Src W 25 A l.length (acells l) /\ (∀ x ∈ l,AGood W x) := by
 have _ : Inhabited ActR := ⟨⟨0,0,0,zmsg⟩⟩
 obtain ⟨A,c,l,h1,h2,h3,h4,h5,_⟩ := open_rows (α := ActR) acell (AGood W) 25 Try.underlying40 (by kernel_rfl) (by decide) (fun _ => rfl) open_act0 h (okWide_slice Try.underlying40 hv)
 exact ⟨A,c,l,h1,h2,h3,h4,h5⟩
def QGood (w : World) (a : AskR) : Prop := Src w 3 a.A a.ops.length (cells a.ops) /\ a.ops.length <= a.c /\ a.c <= maxLen /\ (∀ o ∈ a.ops,o.key.size <= maxLen /\ o.val.size <= maxLen) /\ I64 a.k /\ I64 a.nd /\ I64 a.n /\ (0 <= a.at' /\ a.at' <= maxTs) /\ a.key.size <= maxLen /\ a.to.size <= maxLen
theorem QGood.kept {w w' : World} {a : AskR} (h : QGood w a) (hk : Kept NoF w w') : QGood w' a := ⟨h.1.kept hk (fun _ _ z => z),h.2⟩
theorem open_ask0 (fuel : Nat) (cs : List Value) (y : DataW H × List MemPlace) (hy : DataW.trod enc Try.prog W 0 (fun _ => true) true fuel 37 cs = some y) : ∃ a,cs = qcell a /\ QGood W a := by
 obtain ⟨hl,n,hf⟩ := trod_fld Try.underlying37 hy
 have hC : Try.prog.cellsOf 37 = 7 := by kernel_rfl
 rw [hC] at hl
 match cs,hl with
 | [c0,c1,c2,c3,c4,c5,c6],_ =>
  have e3 : Try.prog.cellsOf 3 = 1 := by kernel_rfl
  have e9 : Try.prog.cellsOf 9 = 1 := by kernel_rfl
  have eU : Try.prog.cellsOf 22 = 1 := by kernel_rfl
  have eO : Try.prog.cellsOf 27 = 1 := by kernel_rfl
  obtain ⟨_,h0⟩ := hf 0 _ rfl
  obtain ⟨_,h1⟩ := hf 1 _ rfl
  obtain ⟨_,h2⟩ := hf 2 _ rfl
  obtain ⟨_,h3⟩ := hf 3 _ rfl
  obtain ⟨_,h4⟩ := hf 4 _ rfl
  obtain ⟨_,h5⟩ := hf 5 _ rfl
  obtain ⟨_,h6⟩ := hf 6 _ rfl
  obtain ⟨x0,hx0,_,m0⟩ := DataW.trod_int Try.underlying3 h0
  obtain ⟨x1,hx1,_,m1⟩ := DataW.trod_int Try.underlying3 h1
  obtain ⟨x2,hx2,_,m2⟩ := DataW.trod_string Try.underlying9 h2
  obtain ⟨x3,hx3,_,m3⟩ := DataW.trod_string Try.underlying9 h3
  obtain ⟨x4,hx4,_,m4⟩ := DataW.trod_int Try.underlying22 h4
  obtain ⟨x5,hx5,_,m5⟩ := DataW.trod_int Try.underlying3 h5
  simp [e3] at hx0 hx1
  simp [e9] at hx2 hx3
  simp [eU] at hx4
  simp [e3] at hx5
  simp [eO] at h6
  subst hx0 hx1 hx2 hx3 hx4 hx5
  obtain ⟨hv6,t6⟩ := slice_of Try.underlying27 h6
  obtain ⟨A,c,l,rfl,q1,q2,q3,q4⟩ := _root_.Go.Proofs.Ytobfdolhgnoedaa.open_ops0 hv6 t6
  exact ⟨⟨x0,x1,x2,x3,x4,x5,A,c,l⟩,rfl,q3,q1,q2,q4,m0,m1,m5,u64r m4,m2,m3⟩
theorem open_ask (hv : Value.okWide Try.prog W r b0 37 v) (h : DataW.Trod enc Try.prog W 0 (fun _ => true) true 37 v d ps) : ∃ a : AskR,v = qagg a /\ QGood W a := by
 obtain ⟨cs,rfl,hsz⟩ := okWide_struct Try.underlying37 hv
 obtain ⟨fuel,hy⟩ := h
 obtain ⟨x,hx,hg⟩ := open_ask0 _ _ _ hy
 exact ⟨x,by show Value.agg cs = .agg (qcell x).toArray;rw [<- hx];simp [Value.cells],hg⟩
end
theorem run_loadMsg_row (w : World) (A : Option Addr) (l : List ActR) (hl : Src w 25 A l.length (acells l)) (i : Nat) (x : ActR) (hx : l[i]? = some x) :
  ∃ ad,A = some ad /\ ad.block < w.heap.size /\ (loadMsg ⟨(ad.add (i * 25)).block,(ad.add (i * 25)).off + 3,none⟩).run Try.prog w = .ok (.agg (xcell x.x).toArray) w /\ w.cell? (ad.add (i * 25)) = some (.int .i64 x.k) /\ w.cell? ⟨(ad.add (i * 25)).block,(ad.add (i * 25)).off + 1,none⟩ = some (.int .i64 x.n) /\ w.cell? ⟨(ad.add (i * 25)).block,(ad.add (i * 25)).off + 2,none⟩ = some (.int .i64 x.fr) := by
 obtain ⟨hi,_⟩ := List.getElem?_eq_some_iff.1 hx
 obtain ⟨ad,rfl,had,hc⟩ := act_cells hl (by omega) i x hx
 refine ⟨ad,rfl,had,?_,?_,?_,?_⟩
 ·refine run_loadMsg_at w _ _ rfl fun j u hu => ?_
  have hj : (acell x)[3 + j]? = some u := by
   unfold acell
   rw [show 3 + j = j + 1 + 1 + 1 by omega,List.getElem?_cons_succ,List.getElem?_cons_succ,List.getElem?_cons_succ]
   exact hu
  have h1 := hc (3 + j) u hj
  have e1 : ((⟨(ad.add (i * 25)).block,(ad.add (i * 25)).off + 3,none⟩ : Addr).add j) = (ad.add (i * 25)).add (3 + j) := by
   rw [add_lit _ (by omega : 0 < 3 + j)]
   unfold Addr.add
   split <;> simp_all <;> omega
  rw [e1];exact h1
 ·have h1 := hc 0 _ rfl
  have e1 : (ad.add (i * 25)).add 0 = ad.add (i * 25) := by rw [add_add];rfl
  rw [e1] at h1;exact h1
 ·have h1 := hc 1 _ rfl
  rw [add_lit _ (by omega)] at h1;exact h1
 ·have h1 := hc 2 _ rfl
  rw [add_lit _ (by omega)] at h1;exact h1
end Ask
end Go.Proofs.Ytobfdolhgnoedaa
