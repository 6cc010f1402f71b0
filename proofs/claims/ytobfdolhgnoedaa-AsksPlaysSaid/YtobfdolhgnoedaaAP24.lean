/- Part 25 of what the proof needs. -/
import Derived.Test.YtobfdolhgnoedaaAP00
import Derived.Test.YtobfdolhgnoedaaAP01
import Derived.Test.YtobfdolhgnoedaaAP02
import Derived.Test.YtobfdolhgnoedaaAP17
import Derived.Test.YtobfdolhgnoedaaChecked
import Derived.Shelf.SlSortCmp.WholeK
import Derived.Shelf.SlSortCmp.NoneTotal
import Derived.Ground.SlsfProg
import Derived.Maps.RangeWalk
import Derived.Deep.RegionLaw
import Derived.Sort.OwnSortedInts
set_option linter.unusedSimpArgs false
set_option linter.unusedVariables false
set_option maxHeartbeats 32000000
set_option maxRecDepth 100000
namespace Go.Proofs.Ytobfdolhgnoedaa
open Go.Shelf Go.Sort Go.RowKit Go.Maps Go.Proofs
set_option maxRecDepth 100000
namespace Nrm
def sortFA_ren : Go.Shelf.Ren := ⟨fun | 6 => 44 | 15 => 58 | 14 => 57 | 28 => 70 | 29 => 71 | 20 => 62 | 21 => 63 | 22 => 64 | 23 => 65 | 24 => 66 | 25 => 67 | 26 => 68 | 27 => 69 | 46 => 73 | 47 => 74 | 48 => 75 | 49 => 76 | 50 => 77 | 57 => 78 | n => n,fun | 22 => 102 | 24 => 103 | 25 => 105 | 3 => 3 | 39 => 122 | 0 => 0 | 53 => 136 | 55 => 22 | 4 => 4 | 46 => 129 | 45 => 128 | 50 => 133 | 5 => 5 | 9 => 9 | 66 => 139 | 70 => 143 | 76 => 145 | 77 => 146 | n => n,fun | n => n⟩
theorem sortFA : Go.Proofs.SlLaysF0.n6 Try.prog sortFA_ren := {
 mixed := by kernel_rfl
 f6 := ⟨Try.f44.name,by decide,Try.func44.trans (congrArg some (by kernel_rfl))⟩
 f14 := ⟨Try.f57.name,by decide,Try.func57.trans (congrArg some (by kernel_rfl))⟩
 f15 := Try.func58.trans (congrArg some (by kernel_rfl))
 f20 := ⟨Try.f62.name,by decide,Try.func62.trans (congrArg some (by kernel_rfl))⟩
 f21 := ⟨Try.f63.name,by decide,Try.func63.trans (congrArg some (by kernel_rfl))⟩
 f22 := ⟨Try.f64.name,by decide,Try.func64.trans (congrArg some (by kernel_rfl))⟩
 f23 := ⟨Try.f65.name,by decide,Try.func65.trans (congrArg some (by kernel_rfl))⟩
 f24 := ⟨Try.f66.name,by decide,Try.func66.trans (congrArg some (by kernel_rfl))⟩
 f25 := ⟨Try.f67.name,by decide,Try.func67.trans (congrArg some (by kernel_rfl))⟩
 f26 := ⟨Try.f68.name,by decide,Try.func68.trans (congrArg some (by kernel_rfl))⟩
 f27 := ⟨Try.f69.name,by decide,Try.func69.trans (congrArg some (by kernel_rfl))⟩
 f28 := Try.func70.trans (congrArg some (by kernel_rfl))
 f29 := Try.func71.trans (congrArg some (by kernel_rfl))
 f46 := ⟨Try.f73.name,by decide,Try.func73.trans (congrArg some (by kernel_rfl))⟩
 f47 := Try.func74.trans (congrArg some (by kernel_rfl))
 f48 := Try.func75.trans (congrArg some (by kernel_rfl))
 f49 := ⟨Try.f76.name,by decide,Try.func76.trans (congrArg some (by kernel_rfl))⟩
 f50 := ⟨Try.f77.name,by decide,Try.func77.trans (congrArg some (by kernel_rfl))⟩
 f57 := ⟨Try.f78.name,by decide,Try.func78.trans (congrArg some (by kernel_rfl))⟩
 t0 := Try.underlying0
 a0 := Try.isAgg0
 z0 := Try.sizeOf0
 v0 := Try.zeroValue0
 t3 := Try.underlying3
 a3 := Try.isAgg3
 z3 := Try.sizeOf3
 v3 := Try.zeroValue3
 t4 := Try.underlying4
 a4 := Try.isAgg4
 z4 := Try.sizeOf4
 v4 := Try.zeroValue4
 t5 := Try.underlying5
 a5 := Try.isAgg5
 z5 := Try.sizeOf5
 v5 := Try.zeroValue5
 t9 := Try.underlying9
 a9 := Try.isAgg9
 z9 := Try.sizeOf9
 v9 := Try.zeroValue9
 t22 := Try.underlying102
 a22 := Try.isAgg102
 z22 := Try.sizeOf102
 v22 := Try.zeroValue102
 t25 := Try.underlying105
 a25 := Try.isAgg105
 z25 := Try.sizeOf105
 v25 := Try.zeroValue105
 t39 := Try.underlying122
 a39 := Try.isAgg122
 z39 := Try.sizeOf122
 v39 := Try.zeroValue122
 t45 := Try.underlying128
 a45 := Try.isAgg128
 z45 := Try.sizeOf128
 v45 := Try.zeroValue128
 t46 := Try.underlying129
 a46 := Try.isAgg129
 z46 := Try.sizeOf129
 v46 := Try.zeroValue129
 t50 := Try.underlying133
 a50 := Try.isAgg133
 z50 := Try.sizeOf133
 v50 := Try.zeroValue133
 t53 := Try.underlying136
 a53 := Try.isAgg136
 z53 := Try.sizeOf136
 v53 := Try.zeroValue136
 t55 := Try.underlying22
 a55 := Try.isAgg22
 z55 := Try.sizeOf22
 v55 := Try.zeroValue22
 t66 := Try.underlying139
 a66 := Try.isAgg139
 z66 := Try.sizeOf139
 v66 := Try.zeroValue139
 t70 := Try.underlying143
 a70 := Try.isAgg143
 z70 := Try.sizeOf143
 v70 := Try.zeroValue143
 t76 := Try.underlying145
 a76 := Try.isAgg145
 z76 := Try.sizeOf145
 v76 := Try.zeroValue145
 t77 := Try.underlying146
 a77 := Try.isAgg146
 z77 := Try.sizeOf146
 v77 := Try.zeroValue146 }
theorem sortF_none (p : Option Addr) (cap : Nat) (fv : Value) (w : World) : Calls Try.prog 44 #[.slice p 0 cap,fv] w fun e w' => e = .returned (.tuple #[]) /\ w' = w :=
 AnyF.slices_SortFunc_none sortFA p cap fv w
end Nrm
end Go.Proofs.Ytobfdolhgnoedaa
namespace Go.Proofs.Ytobfdolhgnoedaa
open Go.RowKit
set_option maxRecDepth 100000
namespace Ops
open Vn
theorem lastF_key {m : List OpR} {x : BL} {o : OpR} (h : lastF m x = some o) : bl o.key = x /\ o ∈ m := by
 suffices ∀ (m : List OpR) (g : BL -> Option OpR),m.foldl stepL g x = some o -> g x = some o \/ (bl o.key = x /\ o ∈ m) by
  rcases this m _ h with h1 | h1
  ·cases h1
  ·exact h1
 intro m
 induction m with
 | nil => intro g h;exact .inl h
 | cons p m ih =>
  intro g h
  rcases ih _ h with h1 | ⟨h1,h2⟩
  ·unfold stepL at h1
   split at h1
   ·rename_i e
    injection h1 with h1
    subst h1
    exact .inr ⟨e.symm,by simp⟩
   ·exact .inl h1
  ·exact .inr ⟨h1,List.mem_cons_of_mem _ h2⟩
theorem lastF_some {m : List OpR} {x : BL} (h : x ∈ m.map fun o => bl o.key) : ∃ o,lastF m x = some o := by
 suffices ∀ (m : List OpR) (g : BL -> Option OpR),((∃ o,g x = some o) \/ x ∈ m.map fun o => bl o.key) -> ∃ o,m.foldl stepL g x = some o from this m _ (.inr h)
 intro m
 induction m with
 | nil =>
  intro g h
  rcases h with h | h
  ·exact h
  ·cases h
 | cons p m ih =>
  intro g h
  rw [List.foldl_cons]
  refine ih _ ?_
  by_cases e : x = bl p.key
  ·exact .inl ⟨p,by unfold stepL;rw [if_pos e]⟩
  ·rcases h with ⟨o,h⟩ | h
   ·exact .inl ⟨o,by unfold stepL;rw [if_neg e];exact h⟩
   ·rw [List.map_cons,List.mem_cons] at h
    rcases h with h | h
    ·exact absurd h e
    ·exact .inr h
theorem normK_mem {m : List OpR} {x : BL} : x ∈ normK m ↔ x ∈ m.map fun o => bl o.key := Keys.mem_set _ _
end Ops
end Go.Proofs.Ytobfdolhgnoedaa
namespace Go.Proofs.Ytobfdolhgnoedaa
open Go.Shelf Go.Sort Go.RowKit Go.Maps Go.Proofs
set_option maxRecDepth 100000
namespace Nrm
open Ops
theorem holds_of_blockK {w : World} {g : Nat} {cur : Array Value} {e : TypeId} {xs : List Value} (hb : w.heap[g]? = some (.cells cur e (0,0))) (ht : cur.toList.take xs.length = xs) : Holds id w g 0 xs.toArray := by
 intro j hj
 have hj' : j < xs.length := by simpa using hj
 refine ⟨?_,by simp [World.frozen?,hb]⟩
 have h1 : (cur.toList.take xs.length)[j]? = xs[j]? := by rw [ht]
 rw [List.getElem?_take_of_lt hj'] at h1
 simp only [World.cell?,hb,Nat.zero_add]
 simp only [Option.isSome_none,Bool.false_eq_true,if_false]
 rw [<- Array.getElem?_toList,h1]
 simp [hj']
theorem heap_sortedK {w : World} {g n : Nat} {os : Array Obj} {cur : Array Value} {e : TypeId} {fr : Nat × Nat} (d : Array Value) (hb : w.heap[g]? = some (.cells cur e fr)) :
  (grow (putRow id (Sort.ahead w n) g 0 d) os).heap[g]? = some (.cells (putCells id 0 d cur) e fr) := by
 have hg : g < w.heap.size := (Array.getElem?_eq_some_iff.1 hb).1
 rw [heap_grow_old _ _ (by simpa using hg)]
 simp [putRow,mapBlock,Sort.ahead,Array.getElem?_modify,hb,onCells]
theorem grownBy_sortedK {w : World} {g n : Nat} {os : Array Obj} (d : Array Value) : w.grownBy (grow (putRow id (Sort.ahead w n) g 0 d) os) (some g) := by
 refine ⟨rfl,rfl,rfl,by simp,fun k hk hne => ?_⟩
 rw [heap_grow_old _ _ (by simpa using hk)]
 have : g ≠ k := fun e => hne (by rw [e])
 simp [putRow,mapBlock,Sort.ahead,Array.getElem?_modify,this]
theorem take_putCellsK (cur : Array Value) (ts : List Value) (h : ts.length <= cur.size) : (putCells id 0 ts.toArray cur).toList.take ts.length = ts := by
 apply List.ext_getElem?
 intro j
 by_cases hj : j < ts.length
 ·rw [List.getElem?_take_of_lt hj,Array.getElem?_toList]
  simp [putCells,hj,show j < cur.size by omega]
 ·rw [List.getElem?_take_eq_none (by omega),List.getElem?_eq_none (by omega)]
theorem ownsRow_sortedK {w : World} {base g cap n m sz : Nat} {e : TypeId} {os : Array Obj} {cur : Array Value} {ts : List Value} (hl : ts.length = m * sz) (hbase : base <= g) (hb : w.heap[g]? = some (.cells cur e (0,0)))
  (h1 : m <= cap) (h2 : cap <= maxLen) (h3 : cur.size = cap * sz) :
  (grow (putRow id (Sort.ahead w n) g 0 ts.toArray) os).ownsRow base e sz (.slice (some ⟨g,0,none⟩) m cap) m ts :=
 ⟨hl,.inr ⟨g,cap,_,rfl,hbase,heap_sortedK _ hb,h1,h2,by simp [putCells,h3],by rw [<- hl];exact take_putCellsK cur ts (by rw [h3,hl];exact Nat.mul_le_mul_right _ h1)⟩⟩
theorem flatK_list {α : Type} [Inhabited α] (enc : α -> List Value) (k : Nat) (hpos : 0 < k) (hk : ∀ x,(enc x).length = k) (l : List α) : flatK enc k l.toArray = (l.flatMap enc).toArray := by
 have hlen : (l.flatMap enc).length = l.length * k := by
  induction l with
  | nil => simp
  | cons a l ih => rw [List.flatMap_cons,List.length_append,hk,ih,List.length_cons,Nat.succ_mul];omega
 refine Array.ext (by simp [hlen]) fun t h1 h2 => ?_
 have ht : t < l.length * k := by simpa using h1
 have e1 := get_flatK enc k l.toArray t (by simpa using ht)
 rw [getElem!_pos _ t h1] at e1
 rw [e1]
 have htk : t / k < l.length := Nat.div_lt_of_lt_mul (by rwa [Nat.mul_comm])
 have hf := flat_get enc k hpos hk l t
 rw [List.getElem?_eq_getElem htk,Option.bind_some] at hf
 have hm : t % k < (enc l[t / k]).length := by rw [hk];exact Nat.mod_lt _ hpos
 rw [List.getElem?_eq_getElem hm] at hf
 have h3 : (l.flatMap enc)[t]? = some ((l.flatMap enc)[t]'(by rw [hlen];exact ht)) := List.getElem?_eq_getElem _
 rw [h3] at hf
 injection hf with hf
 show _ = (l.flatMap enc)[t]'(by rw [hlen];exact ht)
 rw [hf]
 have e2 : (l.toArray)[t / k]! = l[t / k] := by simp [htk]
 rw [e2]
 exact getElem!_pos (enc l[t / k]) (t % k) hm
def cmpB (x y : BL) : Int := if Op.bytesLess x y = true then -1 else if Op.bytesLess y x = true then 1 else 0
theorem isnan_any (w : World) (a : ByteArray) : Calls Try.prog 72 #[.string a] w fun e w' => e = .returned (.bool false) /\ w = w' := by
 go_enter Try.func72,Try.ntmps72
 go_wp2
 go_ret
 exact ⟨by simp,rfl⟩
theorem bl_irr (x : BL) : Op.bytesLess x x = false := by
 rw [bytesLess_eq]
 simp
theorem compare_any (w : World) (a b : ByteArray) : Calls Try.prog 59 #[.string a,.string b] w fun e w' => e = .returned (.int .i64 (cmpB a.toList b.toList)) /\ w = w' := by
 have hn := fun W s => isnan_any W s
 have HN := hZ0 hn;clear hn
 unfold cmpB
 by_cases h1 : Op.bytesLess a.toList b.toList = true
 ·rw [if_pos h1]
  go_enter Try.func59,Try.ntmps59
  go_wp2_with (go_at_call 72;refine (HN.out _ _).mono ?_;rintro e w' ⟨rfl,rfl⟩)
  go_ret
  exact ⟨rfl,rfl⟩
 ·rw [if_neg h1]
  have h1' : Op.bytesLess a.toList b.toList = false := by simpa using h1
  clear h1
  by_cases h2 : Op.bytesLess b.toList a.toList = true
  ·rw [if_pos h2]
   have hne : (a.toList == b.toList) = false := by
    rw [beq_eq_false_iff_ne]
    intro e
    rw [e,bl_irr] at h2
    cases h2
   go_enter Try.func59,Try.ntmps59
   go_wp2_with (go_at_call 72;refine (HN.out _ _).mono ?_;rintro e w' ⟨rfl,rfl⟩)
   go_ret
   exact ⟨rfl,rfl⟩
  ·rw [if_neg h2]
   have h2' : Op.bytesLess b.toList a.toList = false := by simpa using h2
   clear h2
   have heq : (a.toList == b.toList) = true := by
    rw [beq_iff_eq]
    by_cases e : a.toList = b.toList
    ·exact e
    ·have := Keys.less_total _ _ h1' e
     rw [h2'] at this
     cases this
   go_enter Try.func59,Try.ntmps59
   go_wp2_with (go_at_call 72;refine (HN.out _ _).mono ?_;rintro e w' ⟨rfl,rfl⟩)
   go_ret
   exact ⟨rfl,rfl⟩
theorem order_any (w : World) (o p : OpR) : Calls Try.prog 45 #[oagg o,oagg p] w fun e w' => e = .returned (.int .i64 (cmpB o.key.toList p.key.toList)) /\ ∃ q os',w' = grow (w.drewN q) os' := by
 obtain ⟨k1,v1,d1⟩ := o
 obtain ⟨k2,v2,d2⟩ := p
 have hc := fun W => compare_any W k1 k2
 dsimp only [oagg]
 generalize cmpB k1.toList k2.toList = r at hc ⊢
 have HC := hZ0 hc;clear hc
 go_enter Try.func45,Try.ntmps45
 go_wp2_with (go_at_call 59;refine (HC.out _).mono ?_;rintro e w' ⟨rfl,rfl⟩)
 go_ret
 exact ⟨rfl,0,_,by rw [alloc_eq_grow,alloc_eq_grow,grow_grow];rfl⟩
def rowOf (f : BL -> Option OpR) (x : BL) : OpR := ⟨ofL x,((f x).getD o0).val,((f x).getD o0).del⟩
def encF (f : BL -> Option OpR) (x : BL) : List Value := cell (rowOf f x)
theorem lt_cmp (x y : BL) : ltOf cmpB x y = decide (x < y) := by
 unfold ltOf cmpB
 rw [bytesLess_eq,bytesLess_eq]
 by_cases h : x < y
 ·simp [h]
 ·by_cases h2 : y < x <;> simp [h,h2]
theorem swo_cmp : SWO (ltOf cmpB) := by
 have e : ltOf cmpB = fun x y => decide (x < y) := funext fun x => funext fun y => lt_cmp x y
 rw [e]
 refine ⟨fun x => by simp,fun x y z h1 h2 => ?_,fun x y z h1 h2 => ?_⟩
 ·simp only [decide_eq_true_eq] at *
  exact List.lt_trans h1 h2
 ·simp only [decide_eq_false_iff_not,List.not_lt] at *
  exact List.le_trans h2 h1
theorem tot_cmp (x y : BL) (h1 : ltOf cmpB x y = false) (h2 : ltOf cmpB y x = false) : x = y := by
 rw [lt_cmp,decide_eq_false_iff_not,List.not_lt] at h1 h2
 exact List.le_antisymm h2 h1
theorem sort_cmp (l : List BL) : (l.mergeSort fun x y => !(ltOf cmpB) y x) = l.mergeSort leB := by
 congr 1
 funext x y
 rw [lt_cmp]
 unfold leB
 by_cases h : y < x
 ·have : ¬ x <= y := fun e => List.not_lt.2 e h
  simp [h,this]
 ·simp [h,List.not_lt.1 h]
theorem cmp_lays (f : BL -> Option OpR) (blk off size : Nat) (w : World) : CmpLays Try.prog 45 #[] (encF f) 3 cmpB blk off size w :=
 fun m os dk _ x y => by
  have h := order_any (sortWorldK (encF f) 3 w blk off m dk os) (rowOf f x) (rowOf f y)
  have e : ∀ z : BL,(ofL z).toList = z := fun z => by rw [ByteArray.toList_eq];simp [ofL]
  have h2 : cmpB (rowOf f x).key.toList (rowOf f y).key.toList = cmpB x y := by unfold rowOf;rw [e,e]
  rw [h2] at h
  exact h
end Nrm
end Go.Proofs.Ytobfdolhgnoedaa
