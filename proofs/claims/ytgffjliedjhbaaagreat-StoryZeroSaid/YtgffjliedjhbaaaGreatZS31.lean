/- Part 32 of what the proof needs. -/
import Derived.Test.YtgffjliedjhbaaaGreatZS01
import Derived.Test.YtgffjliedjhbaaaGreatZS08
import Derived.Test.YtgffjliedjhbaaaGreatZS12
import Derived.Test.YtgffjliedjhbaaaGreatZS13
import Derived.Laws.LoneSync
import Derived.ArgAppend
import Derived.Deep.RegionLaw
set_option linter.unusedSimpArgs false
set_option linter.unusedVariables false
set_option maxHeartbeats 32000000
set_option maxRecDepth 100000
namespace Go.Proofs.YtgffjliedjhbaaaGreat
open Go.RowKit
set_option maxRecDepth 100000
namespace Plan
def NewInts (b : Nat) (w : World) (A : Option Addr) (n c : Nat) (l : List Int) : Prop :=
 n = l.length /\ w.ownsRow 0 3 1 (.slice A n c) n (ints l) /\ ∀ k,(Value.slice A n c).ownBlock = some k -> b <= k
theorem NewInts.nil (b : Nat) (w : World) : NewInts b w none 0 0 [] := ⟨rfl,⟨rfl,.inl ⟨rfl,rfl⟩⟩,fun k hk => by cases hk⟩
theorem NewInts.kept {b : Nat} {w w' : World} {A : Option Addr} {n c : Nat} {l : List Int} (h : NewInts b w A n c l) (hk : Kept NoF w w') : NewInts b w' A n c l :=
 ⟨h.1,own_kept h.2.1 hk (fun _ _ x => x),h.2.2⟩
theorem NewRow.mono {b b' : Nat} {w : World} {A : Option Addr} {n c : Nat} {l : List Mem} (h : NewRow b w A n c l) (hb : b' <= b) : NewRow b' w A n c l := ⟨h.1,h.2.1,fun k hk => Nat.le_trans hb (h.2.2 k hk)⟩
theorem NewRow.ne {b : Nat} {w : World} {A : Option Addr} {n c : Nat} {l : List Mem} (h : NewRow b w A n c l) {g : Nat} {t : TypeId} {cs : Array Value} (hg : Has w g t cs) (hne : 57 ≠ t) : (Value.slice A n c).ownBlock ≠ some g := own_ne h.2.1 hg hne
def nagg (N : Next) (A : Option Addr) (n c : Nat) (B : Option Addr) (m d : Nat) : Value := .tuple #[cagg N.ep A n c N.fl,.slice B m d,.int .i64 N.e]
def NextPost (w : World) (N : Next) (e : Ending) (w' : World) : Prop :=
 ∃ A n c B m d,e = .returned (nagg N A n c B m d) /\ NewRow w.heap.size w' A n c N.l /\ NewInts w.heap.size w' B m d N.t /\ Kept NoF w w'
end Plan
namespace Wat
open Plan Vn
def wcells (ns : List Int) (t : Int) : Array Value := (ints ns ++ [Value.int .i64 t,Value.bool true]).toArray
def WtAt (w : World) (b : Nat) (ns : List Int) (t : Int) : Prop := Has w b 269 (wcells ns t)
theorem wnew_any (w : World) : Calls Tryz.prog 86 #[] w fun e w' => e = .returned (.pointer (some ⟨w.heap.size,0,none⟩)) /\ WtAt w' w.heap.size [0,0,0,0] 0 /\ Kept NoF w w' := by
 go_enter Tryz.func86,Tryz.ntmps86
 go_wp2
 go_ret
 exact ⟨rfl,Has.new _ _ _,by (repeat' (first | (with_reducible first | exact kR0 | apply kP0 | apply kN0 | apply kD0 | apply kA0) | (right;simp;done)))⟩
theorem NewSl.pushed {e : TypeId} {size n c n' c' : Nat} {w0 w w1 w' : World} {A A' : Option Addr} {xs ys : List Value} (h : NewSl e size w0.heap.size w A n c xs) (hk1 : Kept NoF w0 w1) (ho : w'.ownsRow 0 e size (.slice A' n' c') n' ys)
  (hg : w1.grownBy w' (Value.slice A n c).ownBlock) (ha : (Value.slice A' n' c').ownBlock = (Value.slice A n c).ownBlock \/ (Value.slice A' n' c').ownBlock = some w1.heap.size) : NewSl e size w0.heap.size w' A' n' c' ys /\ Kept NoF w0 w' :=
 ⟨h.snoc hk1.size ho ha,hk1.grownBy hg fun k hk => .inr (h.2 k hk)⟩
theorem NewSl.nil (e : TypeId) (size B : Nat) (w : World) : NewSl e size B w none 0 0 [] := ⟨⟨by simp,.inl ⟨rfl,rfl⟩⟩,fun k hk => by simp [Value.ownBlock] at hk⟩
end Wat
namespace Mst
open Plan Vn
structure StR where
 ep : Int
 ms : List Mem
 fl : Int
 lg : List Int
 hz : Int
 pins : List PinR
 top : Int
 t0 : AnsR
 t1 : AnsR
 t2 : AnsR
abbrev scells (s : StR) (mA : Option Addr) (mc : Nat) (lA : Option Addr) (lc : Nat) (pA : Option Addr) (pc : Nat) (made : Bool) : Array Value :=
 #[.int .i64 s.ep,.slice mA s.ms.length mc,.int .u64 s.fl,.slice lA s.lg.length lc,.int .u64 s.hz,.slice pA s.pins.length pc,.int .i64 s.top,.int .i64 s.t0.cl,.int .i64 s.t0.req,.int .i64 s.t0.e,.int .i64 s.t0.pin,
  .int .i64 s.t1.cl,.int .i64 s.t1.req,.int .i64 s.t1.e,.int .i64 s.t1.pin,.int .i64 s.t2.cl,.int .i64 s.t2.req,.int .i64 s.t2.e,.int .i64 s.t2.pin,.bool made]
def ans0 : AnsR := ⟨0,0,0,0⟩
def st0 : StR := ⟨0,[],0,[],0,[],0,ans0,ans0,ans0⟩
theorem none_any (w : World) (b : Nat) (s : StR) (mA : Option Addr) (mc : Nat) (lA : Option Addr) (lc : Nat) (pA : Option Addr) (pc : Nat) (made : Bool) (hb : Has w b 261 (scells s mA mc lA lc pA pc made)) :
  Calls Tryz.prog 145 #[.pointer (some ⟨b,0,none⟩)] w fun e w' => e = .returned (.bool (!made)) /\ Kept NoF w w' := by
 have c19 := hb.cell 19
 simp only [List.getElem?_toArray,List.getElem?_cons_zero,List.getElem?_cons_succ] at c19
 clear hb
 go_enter Tryz.func145,Tryz.ntmps145
 go_wp2
 go_ret
 exact ⟨by simp,by (repeat' (first | (with_reducible first | exact kR0 | apply kP0 | apply kN0 | apply kD0 | apply kA0) | (right;simp;done)))⟩
theorem new_any (w : World) : Calls Tryz.prog 85 #[] w fun e w' => e = .returned (.pointer (some ⟨w.heap.size,0,none⟩)) /\ Has w' w.heap.size 261 (scells st0 none 0 none 0 none 0 true) /\ Kept NoF w w' := by
 go_enter Tryz.func85,Tryz.ntmps85
 go_wp2
 go_ret
 exact ⟨rfl,Has.new _ _ _,by (repeat' (first | (with_reducible first | exact kR0 | apply kP0 | apply kN0 | apply kD0 | apply kA0) | (right;simp;done)))⟩
end Mst
namespace Mst
open Plan Vn
def SayPost (w : World) (b : Nat) (old req : Int) (cs : Array Value) (e : Ending) (w' : World) : Prop :=
 (req < old /\ e = .returned (.int .i64 18) /\ Kept NoF w w') \/ (¬ req < old /\ e = .returned (.int .i64 0) /\ Has w' b 261 cs /\ Kept (fun k => k = b) w w')
theorem say0_any (w : World) (b : Nat) (s : StR) (mA : Option Addr) (mc : Nat) (lA : Option Addr) (lc : Nat) (pA : Option Addr) (pc : Nat) (req e2 pin : Int) (hb : Has w b 261 (scells s mA mc lA lc pA pc true)) :
  Calls Tryz.prog 150 #[.pointer (some ⟨b,0,none⟩),.agg #[.int .i64 0,.int .i64 req,.int .i64 e2,.int .i64 pin]] w (SayPost w b s.t0.req req (scells { s with t0 := ⟨0,req,e2,pin⟩ } mA mc lA lc pA pc true)) := by
 have hk1 : Kept NoF w (w.alloc (.cells #[.int .i64 0,.int .i64 req,.int .i64 e2,.int .i64 pin] 114)) := by (repeat' (first | (with_reducible first | exact kR0 | apply kP0 | apply kN0 | apply kD0 | apply kA0) | (right;simp;done)))
 have hb1 := hb.kept hk1 (fun z => z)
 obtain ⟨W1,hW1⟩ : ∃ W1,w.alloc (.cells #[.int .i64 0,.int .i64 req,.int .i64 e2,.int .i64 pin] 114) = W1 := ⟨_,rfl⟩
 have ha := Has.new w 114 #[.int .i64 0,.int .i64 req,.int .i64 e2,.int .i64 pin]
 rw [hW1] at ha hb1 hk1
 have c1 := hb1.cell 8
 have a0 := ha.cell 0
 have a1 := ha.cell 1
 have a2 := ha.cell 2
 have a3 := ha.cell 3
 simp only [List.getElem?_toArray,List.getElem?_cons_zero,List.getElem?_cons_succ] at c1 a0 a1 a2 a3
 have f0 := hb1.frozen 7
 have f1 := hb1.frozen (7 + 1)
 have f2 := hb1.frozen (7 + 2)
 have f3 := hb1.frozen (7 + 3)
 have k0 := hb1.cell 7
 have k2 := hb1.cell (7 + 2)
 have k3 := hb1.cell (7 + 3)
 simp only [List.getElem?_toArray,List.getElem?_cons_zero,List.getElem?_cons_succ] at k0 k2 k3
 have HB := hZ0 hb1;have HK := hZ0 hk1
 clear hb hb1 hk1 ha
 by_cases hr : req < s.t0.req
 ·go_enter Tryz.func150,Tryz.ntmps150
  go_wp2_with fail
  go_quiet (fail)
  go_wp2
  go_ret
  exact .inl ⟨hr,rfl,HK.out.drewN _⟩
 ·go_enter Tryz.func150,Tryz.ntmps150
  go_wp2_with fail
  go_quiet (fail)
  go_wp2_with fail
  refine wp_region_still_tail 7 (by kernel_rfl) (by kernel_rfl) ?_
  simp only [List.take_succ_cons,List.take_zero,List.drop_succ_cons,List.drop_zero]
  change wpStill _ _ (World.drew (W1.drewN _)) _ _ _
  repeat still_step
  refine wpStill_nil ?_
  change wpList _ _ _ _ _ (World.drew (W1.drewN _))
  go_wp2
  go_ret
  refine .inr ⟨by omega,rfl,?_,?_⟩
  ·((repeat (first | with_reducible exact HB.out | with_reducible apply Has.put_of | with_reducible apply Has.past | with_reducible apply Has.drewN | with_reducible apply Has.drew | with_reducible apply Has.alloc)) <;> first | omega | rfl)
  ·have hm : Kept (fun k => k = b) w (W1.drewN (nq + 1)) := (HK.out.mono (fun _ x => x.elim)).drewN _
   exact (((hm.put (.inl rfl)).put (.inl rfl)).put (.inl rfl)).put (.inl rfl)
theorem say1_any (w : World) (b : Nat) (s : StR) (mA : Option Addr) (mc : Nat) (lA : Option Addr) (lc : Nat) (pA : Option Addr) (pc : Nat) (req e2 pin : Int) (hb : Has w b 261 (scells s mA mc lA lc pA pc true)) :
  Calls Tryz.prog 150 #[.pointer (some ⟨b,0,none⟩),.agg #[.int .i64 1,.int .i64 req,.int .i64 e2,.int .i64 pin]] w (SayPost w b s.t1.req req (scells { s with t1 := ⟨1,req,e2,pin⟩ } mA mc lA lc pA pc true)) := by
 have hk1 : Kept NoF w (w.alloc (.cells #[.int .i64 1,.int .i64 req,.int .i64 e2,.int .i64 pin] 114)) := by (repeat' (first | (with_reducible first | exact kR0 | apply kP0 | apply kN0 | apply kD0 | apply kA0) | (right;simp;done)))
 have hb1 := hb.kept hk1 (fun z => z)
 obtain ⟨W1,hW1⟩ : ∃ W1,w.alloc (.cells #[.int .i64 1,.int .i64 req,.int .i64 e2,.int .i64 pin] 114) = W1 := ⟨_,rfl⟩
 have ha := Has.new w 114 #[.int .i64 1,.int .i64 req,.int .i64 e2,.int .i64 pin]
 rw [hW1] at ha hb1 hk1
 have c1 := hb1.cell 12
 have a0 := ha.cell 0
 have a1 := ha.cell 1
 have a2 := ha.cell 2
 have a3 := ha.cell 3
 simp only [List.getElem?_toArray,List.getElem?_cons_zero,List.getElem?_cons_succ] at c1 a0 a1 a2 a3
 have f0 := hb1.frozen 11
 have f1 := hb1.frozen (11 + 1)
 have f2 := hb1.frozen (11 + 2)
 have f3 := hb1.frozen (11 + 3)
 have k0 := hb1.cell 11
 have k2 := hb1.cell (11 + 2)
 have k3 := hb1.cell (11 + 3)
 simp only [List.getElem?_toArray,List.getElem?_cons_zero,List.getElem?_cons_succ] at k0 k2 k3
 have HB := hZ0 hb1;have HK := hZ0 hk1
 clear hb hb1 hk1 ha
 by_cases hr : req < s.t1.req
 ·go_enter Tryz.func150,Tryz.ntmps150
  go_wp2_with fail
  go_quiet (fail)
  go_wp2
  go_ret
  exact .inl ⟨hr,rfl,HK.out.drewN _⟩
 ·go_enter Tryz.func150,Tryz.ntmps150
  go_wp2_with fail
  go_quiet (fail)
  go_wp2_with fail
  refine wp_region_still_tail 7 (by kernel_rfl) (by kernel_rfl) ?_
  simp only [List.take_succ_cons,List.take_zero,List.drop_succ_cons,List.drop_zero]
  change wpStill _ _ (World.drew (W1.drewN _)) _ _ _
  repeat still_step
  refine wpStill_nil ?_
  change wpList _ _ _ _ _ (World.drew (W1.drewN _))
  go_wp2
  go_ret
  refine .inr ⟨by omega,rfl,?_,?_⟩
  ·((repeat (first | with_reducible exact HB.out | with_reducible apply Has.put_of | with_reducible apply Has.past | with_reducible apply Has.drewN | with_reducible apply Has.drew | with_reducible apply Has.alloc)) <;> first | omega | rfl)
  ·have hm : Kept (fun k => k = b) w (W1.drewN (nq + 1)) := (HK.out.mono (fun _ x => x.elim)).drewN _
   exact (((hm.put (.inl rfl)).put (.inl rfl)).put (.inl rfl)).put (.inl rfl)
theorem say2_any (w : World) (b : Nat) (s : StR) (mA : Option Addr) (mc : Nat) (lA : Option Addr) (lc : Nat) (pA : Option Addr) (pc : Nat) (req e2 pin : Int) (hb : Has w b 261 (scells s mA mc lA lc pA pc true)) :
  Calls Tryz.prog 150 #[.pointer (some ⟨b,0,none⟩),.agg #[.int .i64 2,.int .i64 req,.int .i64 e2,.int .i64 pin]] w (SayPost w b s.t2.req req (scells { s with t2 := ⟨2,req,e2,pin⟩ } mA mc lA lc pA pc true)) := by
 have hk1 : Kept NoF w (w.alloc (.cells #[.int .i64 2,.int .i64 req,.int .i64 e2,.int .i64 pin] 114)) := by (repeat' (first | (with_reducible first | exact kR0 | apply kP0 | apply kN0 | apply kD0 | apply kA0) | (right;simp;done)))
 have hb1 := hb.kept hk1 (fun z => z)
 obtain ⟨W1,hW1⟩ : ∃ W1,w.alloc (.cells #[.int .i64 2,.int .i64 req,.int .i64 e2,.int .i64 pin] 114) = W1 := ⟨_,rfl⟩
 have ha := Has.new w 114 #[.int .i64 2,.int .i64 req,.int .i64 e2,.int .i64 pin]
 rw [hW1] at ha hb1 hk1
 have c1 := hb1.cell 16
 have a0 := ha.cell 0
 have a1 := ha.cell 1
 have a2 := ha.cell 2
 have a3 := ha.cell 3
 simp only [List.getElem?_toArray,List.getElem?_cons_zero,List.getElem?_cons_succ] at c1 a0 a1 a2 a3
 have f0 := hb1.frozen 15
 have f1 := hb1.frozen (15 + 1)
 have f2 := hb1.frozen (15 + 2)
 have f3 := hb1.frozen (15 + 3)
 have k0 := hb1.cell 15
 have k2 := hb1.cell (15 + 2)
 have k3 := hb1.cell (15 + 3)
 simp only [List.getElem?_toArray,List.getElem?_cons_zero,List.getElem?_cons_succ] at k0 k2 k3
 have HB := hZ0 hb1;have HK := hZ0 hk1
 clear hb hb1 hk1 ha
 by_cases hr : req < s.t2.req
 ·go_enter Tryz.func150,Tryz.ntmps150
  go_wp2_with fail
  go_quiet (fail)
  go_wp2
  go_ret
  exact .inl ⟨hr,rfl,HK.out.drewN _⟩
 ·go_enter Tryz.func150,Tryz.ntmps150
  go_wp2_with fail
  go_quiet (fail)
  go_wp2_with fail
  refine wp_region_still_tail 7 (by kernel_rfl) (by kernel_rfl) ?_
  simp only [List.take_succ_cons,List.take_zero,List.drop_succ_cons,List.drop_zero]
  change wpStill _ _ (World.drew (W1.drewN _)) _ _ _
  repeat still_step
  refine wpStill_nil ?_
  change wpList _ _ _ _ _ (World.drew (W1.drewN _))
  go_wp2
  go_ret
  refine .inr ⟨by omega,rfl,?_,?_⟩
  ·((repeat (first | with_reducible exact HB.out | with_reducible apply Has.put_of | with_reducible apply Has.past | with_reducible apply Has.drewN | with_reducible apply Has.drew | with_reducible apply Has.alloc)) <;> first | omega | rfl)
  ·have hm : Kept (fun k => k = b) w (W1.drewN (nq + 1)) := (HK.out.mono (fun _ x => x.elim)).drewN _
   exact (((hm.put (.inl rfl)).put (.inl rfl)).put (.inl rfl)).put (.inl rfl)
end Mst
def layAt (cs : Array Value) : Nat -> List Value -> Array Value
 | _,[] => cs
 | o,v :: r => layAt (cs.setIfInBounds o v) (o + 1) r
theorem layAt_size : ∀ (vs : List Value) (cs : Array Value) (o : Nat),(layAt cs o vs).size = cs.size
 | [],_,_ => rfl
 | v :: r,cs,o => by rw [layAt,layAt_size r];simp
theorem layAt_list : ∀ (vs : List Value) (cs : Array Value) (o : Nat),o + vs.length <= cs.size -> (layAt cs o vs).toList = cs.toList.take o ++ vs ++ cs.toList.drop (o + vs.length)
 | [],cs,o,_ => by simp [layAt]
 | v :: r,cs,o,h => by
  simp only [List.length_cons] at h
  have ho : o < cs.toList.length := by simp;omega
  rw [layAt,layAt_list r _ _ (by simp;omega),Array.toList_setIfInBounds,List.take_set,List.take_add_one,List.getElem?_eq_getElem ho,List.drop_set,if_pos (by omega)]
  simp only [Option.toList_some,List.length_cons,List.append_assoc]
  have e1 : (cs.toList.take o ++ [cs.toList[o]]).set o v = cs.toList.take o ++ [v] := by
   rw [List.set_append_right _ _ (by simp;omega)]
   have : o - (cs.toList.take o).length = 0 := by simp;omega
   rw [this];rfl
  rw [e1]
  simp only [List.append_assoc,List.singleton_append,List.cons_append,List.nil_append]
  rw [show o + 1 + r.length = o + (r.length + 1) by omega]
theorem Has.layCells {b : Nat} {t : TypeId} : ∀ (vs : List Value) (o : Nat) (w : World) (cs : Array Value),Has w b t cs -> Has (w.setCells b o vs) b t (layAt cs o vs)
 | [],_,_,_,h => h
 | v :: r,o,_,_,h => Has.layCells r (o + 1) _ _ (h.put o v)
theorem Kept.layCells {b : Nat} : ∀ (vs : List Value) (o : Nat) (w : World),Kept (fun k => k = b) w (w.setCells b o vs)
 | [],_,w => Kept.refl _ _
 | v :: r,o,w => Kept.then (F := fun k => k = b) ((Kept.refl _ w).put (g := b) (i := o) (u := v) (.inl rfl)) (Kept.layCells r (o + 1) _)
theorem run_clear_part {P : Program} {w : World} {size g off n c : Nat} {cur : Array Value} {t e : TypeId} {z : Value} (h : Has w g e cur) (ht : P.underlying t = some (.slice e))
  (hv : ∀ w,(zeroValue e).run P w = .ok z w) (hz : z.cells.size = size) (h0 : 0 < size) (h1 : ∀ u ∈ z.cells,u.oneCell' = true) (hn : 0 < n) (hsz : off + n * size <= cur.size) (ty : TypeId) :
  (Builtin.clear_ #[t] ty #[.slice (some ⟨g,off,none⟩) n c]).run P w = .ok (.tuple #[]) (w.setCells g off (Builtin.zeroCells z.cells n).toList) := by
 have hlen : (Builtin.zeroCells z.cells n).toList.length = n * size := by simp [Builtin.zeroCells,hz]
 have hone : ∀ u ∈ (Builtin.zeroCells z.cells n).toList,u.oneCell' = true := by
  intro u hu
  simp only [Builtin.zeroCells,Array.toList_map,List.mem_map] at hu
  obtain ⟨i,_,rfl⟩ := hu
  have hlt : i % z.cells.size < z.cells.size := Nat.mod_lt _ (by omega)
  rw [getElem!_pos z.cells _ hlt]
  exact h1 _ (Array.getElem_mem hlt)
 have hst := run_storeCells_cells (P := P) g off (Builtin.zeroCells z.cells n).toList 0 w
  (by intro j hj;rw [hlen] at hj;rw [h.cell,Array.getElem?_eq_getElem (by omega)];rfl)
  (by intro j hj;exact h.frozen _) hone
 obtain ⟨m,rfl⟩ : ∃ m,n = m + 1 := ⟨n - 1,by omega⟩
 simp only [Nat.add_zero] at hst
 simp [Builtin.clear_,run_underlying ht,hv,hst]
namespace Mst
open Plan Vn
theorem pcells_drop (l : List PinR) (k : Nat) : pcells (l.drop k) = (pcells l).drop (k * 3) := by
 induction l generalizing k with
 | nil => simp [pcells]
 | cons a l ih =>
  cases k with
  | zero => simp
  | succ k =>
   have e : (k + 1) * 3 = k * 3 + 3 := by omega
   rw [e]
   simpa [pcells,pcell] using ih k
theorem pcells_take (l : List PinR) (k : Nat) : pcells (l.take k) = (pcells l).take (k * 3) := by
 induction l generalizing k with
 | nil => simp [pcells]
 | cons a l ih =>
  cases k with
  | zero => simp [pcells]
  | succ k =>
   have e : (k + 1) * 3 = k * 3 + 3 := by omega
   rw [e]
   simpa [pcells,pcell] using ih k
theorem pcells_append (a b : List PinR) : pcells (a ++ b) = pcells a ++ pcells b := by simp [pcells]
theorem pcells_length (l : List PinR) : (pcells l).length = l.length * 3 := by
 induction l with
 | nil => rfl
 | cons a l ih => simp only [pcells,List.flatMap_cons,List.length_append,List.length_cons] at ih ⊢;rw [ih];simp [pcell];omega
theorem delPin_any (w : World) (g c k j : Nat) (hj : j = k + 1) (l : List PinR) (hl : w.ownsRow 0 112 3 (.slice (some ⟨g,0,none⟩) l.length c) l.length (pcells l)) (hk : k < l.length) (hlen : l.length <= 1000000) :
  Calls Tryz.prog 204 #[.slice (some ⟨g,0,none⟩) l.length c,.int .i64 k,.int .i64 j] w fun e w' =>
   e = .returned (.slice (some ⟨g,0,none⟩) (l.length - 1) c) /\ w'.ownsRow 0 112 3 (.slice (some ⟨g,0,none⟩) (l.length - 1) c) (l.length - 1) (pcells (l.eraseIdx k)) /\ Kept (fun j => j = g) w w' := by
 obtain ⟨i0,hi,hz0,hz1,hz2⟩ := info_parts (show (Tryz.prog.info? 112).map (fun i => (i.zero,i.size,i.bytes)) = some (some (.agg #[.int .i64 0,.int .u64 0,.int .i64 0]),3,24) by kernel_rfl)
 have mixed : Tryz.prog.follows .mixedOrders = true := by kernel_rfl
 rcases hl.2 with ⟨hv,_⟩ | ⟨g',cap,cur,hv,hb,hh,hn,hm,hs,htk⟩
 ·cases hv
 injection hv with h1 h2 h3
 injection h1 with h1
 injection h1 with h1
 subst h1
 subst h3
 clear h2
 have hcap := hm
 unfold maxLen at hcap
 have hH : Has w g 112 cur := hh
 clear hh
 -- the cells that are moved to the left
 obtain ⟨news,hnews⟩ : ∃ news,news = pcells (l.drop j) := ⟨_,rfl⟩
 have hlenN : news.length = (l.length - j) * 3 := by rw [hnews,pcells_length];simp
 have hget : ∀ t u,news[t]? = some u -> cur[j * 3 + t]? = some u := by
  intro t u hu
  have ht := (List.getElem?_eq_some_iff.1 hu).1
  rw [hnews,pcells_drop,List.getElem?_drop,<- htk,List.getElem?_take,if_pos (by omega),Array.getElem?_toList] at hu
  exact hu
 obtain ⟨A,hA,hsrc⟩ : ∃ A : Addr,(if c = j then (some (⟨g,0,none⟩ : Addr)) else some ⟨g,j * 3,none⟩) = some A /\ Hid (∀ t u,news[t]? = some u -> w.drew.cell? (A.add t) = some u) := by
  by_cases h : c = j
  ·refine ⟨⟨g,0,none⟩,by simp [h],fun t u hu => ?_⟩
   have h0 : news.length = 0 := by rw [hlenN];omega
   rw [List.length_eq_zero_iff.1 h0] at hu
   simp at hu
  ·refine ⟨⟨g,j * 3,none⟩,by simp [h],fun t u hu => ?_⟩
   rw [Addr.add_lit]
   exact (hH.drew.cell _).trans (hget t u hu)
 have s1 : Hid (news.length = (l.length - j) * 3) := hlenN
 have s2 : Hid (∀ u ∈ news,u.oneCell' = true) := by rw [hnews];exact one_pcells _
 have s3 : Hid (∀ t,t < news.length -> (w.drew.cell? ⟨g,0 + k * 3 + t,none⟩).isSome = true /\ w.drew.frozen? ⟨g,0 + k * 3 + t,none⟩ = false) := by
  intro t ht
  rw [hlenN] at ht
  refine ⟨?_,hH.drew.frozen _⟩
  rw [hH.drew.cell,Array.getElem?_eq_getElem (by omega)];rfl
 obtain ⟨W1,hW1⟩ : ∃ W1,W1 = w.drew.setCells g (0 + k * 3) news := ⟨_,rfl⟩
 have hH1 : Has W1 g 112 (layAt cur (0 + k * 3) news) := by rw [hW1];exact Has.layCells _ _ _ _ hH.drew
 have hk1 : Kept (fun j => j = g) w W1 := by rw [hW1];exact Kept.then (F := fun j => j = g) ((Kept.refl _ w).drew) (Kept.layCells _ _ _)
 have hsz1 := layAt_size news cur (0 + k * 3)
 have hcl : ∀ ty,(Builtin.clear_ #[179] ty #[.slice (some ⟨g,(l.length - 1) * 3,none⟩) 1 (c - (l.length - 1))]).run Tryz.prog W1 = .ok (.tuple #[]) (W1.setCells g ((l.length - 1) * 3) (Builtin.zeroCells (Value.agg #[.int .i64 0,.int .u64 0,.int .i64 0]).cells 1).toList) :=
  fun ty => run_clear_part (size := 3) hH1 Tryz.underlying179 (by intro w;kernel_rfl) rfl (by decide) (by intro u hu;simp [Value.cells] at hu;rcases hu with rfl | rfl | rfl <;> rfl) (by decide) (by rw [hsz1,hs];omega) ty
 have hfin : (W1.setCells g ((l.length - 1) * 3) (Builtin.zeroCells (Value.agg #[.int .i64 0,.int .u64 0,.int .i64 0]).cells 1).toList).ownsRow 0 112 3 (.slice (some ⟨g,0,none⟩) (l.length - 1) c) (l.length - 1) (pcells (l.eraseIdx k)) := by
  have hH2 := Has.layCells (Builtin.zeroCells (Value.agg #[.int .i64 0,.int .u64 0,.int .i64 0]).cells 1).toList ((l.length - 1) * 3) _ _ hH1
  have hz3 : (Builtin.zeroCells (Value.agg #[.int .i64 0,.int .u64 0,.int .i64 0]).cells 1).toList.length = 3 := by kernel_rfl
  refine ⟨by rw [pcells_length,List.length_eraseIdx_of_lt hk],.inr ⟨g,c,_,rfl,Nat.zero_le _,hH2,by omega,hm,by rw [layAt_size,hsz1,hs],?_⟩⟩
  rw [layAt_list _ _ _ (by rw [hsz1,hz3,hs];omega),List.append_assoc,List.take_append_of_le_length (by have hz := hsz1;rw [<- Array.length_toList] at hz;rw [List.length_take,hz,hs];omega),List.take_of_length_le (by rw [List.length_take];omega),layAt_list _ _ _ (by rw [hlenN];omega)]
  have e1 : cur.toList.take (0 + k * 3) = pcells (l.take k) := by
   rw [pcells_take,<- htk,List.take_take]
   congr 1
   omega
  rw [e1,hnews,List.take_append_of_le_length (by simp [pcells_length];omega),List.take_of_length_le (by simp [pcells_length];omega),<- pcells_append,List.eraseIdx_eq_take_drop_succ,hj]
 have hkf : Kept (fun j => j = g) w (W1.setCells g ((l.length - 1) * 3) (Builtin.zeroCells (Value.agg #[.int .i64 0,.int .u64 0,.int .i64 0]).cells 1).toList) := hk1.then (Kept.layCells _ _ _)
 have HFIN := hZ0 (And.intro hfin hkf)
 obtain ⟨W2,hW2⟩ : ∃ W2,W2 = W1.setCells g ((l.length - 1) * 3) (Builtin.zeroCells (Value.agg #[.int .i64 0,.int .u64 0,.int .i64 0]).cells 1).toList := ⟨_,rfl⟩
 rw [<- hW2] at hcl HFIN
 have hW : Hid (W1 = w.drew.setCells g (0 + k * 3) news) := hW1
 have hic : k <= c := by omega
 have hjc : j <= c := by omega
 have hne : ¬ ((k : Int) = (j : Int)) := by omega
 have hkk : (j : Int) <= (l.length : Int) := by omega
 have hnk : k + (l.length - j) = l.length - 1 := by omega
 have hll : l.length - (l.length - 1) = 1 := by omega
 have hn1 : ((l.length - 1 : Nat) : Int) <= (l.length : Int) := by omega
 have hnc : l.length <= c := hn
 have hkj : (k : Int) <= (j : Int) := by omega
 have hjl : j <= l.length := by omega
 clear hj hk
 clear hfin hkf hW2 hW1 hH1 hk1 hsz1 hH hget hnews hlenN hs htk hm hl hb
 go_enter Tryz.func204,Tryz.ntmps204
 go_wp2_with fail
 go_region_law_o (refine step_append_room rfl (.tmp 22) (.tmp 25) 179 rfl 112 i0 3 Tryz.underlying179 hi hz1 g 0 k c (by simp [Act.eval,Act.put]) A (l.length - j) (c - j) news (by simp [Act.eval,Act.put,hA]) s1.out hsrc.out s2.out (by omega) s3.out ?_;rw [<- hW.out,hnk])
 go_wp2
 go_ret
 exact ⟨rfl,HFIN.out⟩
end Mst
end Go.Proofs.YtgffjliedjhbaaaGreat
