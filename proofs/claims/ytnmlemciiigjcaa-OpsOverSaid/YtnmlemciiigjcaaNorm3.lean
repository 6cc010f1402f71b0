/- The rows that ops.Norm sorts: their order, what the sort leaves. -/
import Derived.Test.YtnmlemciiigjcaaNorm0
import Derived.Test.YtnmlemciiigjcaaNormP
import Derived.Sort.OwnSortedInts
set_option linter.unusedSimpArgs false
set_option linter.unusedVariables false
namespace Go.Proofs.Ytnmlemciiigjcaa
open Go.Shelf Go.Sort Go.RowKit Go.Maps Go.Proofs
set_option maxRecDepth 100000
namespace Nrm
open Ops
/-! ### A row of structs behind the sort -/
theorem holds_of_blockK {w : World} {g : Nat} {cur : Array Value} {e : TypeId} {xs : List Value} (hb : w.heap[g]? = some (.cells cur e (0, 0))) (ht : cur.toList.take xs.length = xs) : Holds id w g 0 xs.toArray := by
  intro j hj
  have hj' : j < xs.length := by simpa using hj
  refine ⟨?_, by simp [World.frozen?, hb]⟩
  have h1 : (cur.toList.take xs.length)[j]? = xs[j]? := by rw [ht]
  rw [List.getElem?_take_of_lt hj'] at h1
  simp only [World.cell?, hb, Nat.zero_add]
  simp only [Option.isSome_none, Bool.false_eq_true, if_false]
  rw [← Array.getElem?_toList, h1]
  simp [hj']
theorem heap_sortedK {w : World} {g n : Nat} {os : Array Obj} {cur : Array Value} {e : TypeId} {fr : Nat × Nat} (d : Array Value) (hb : w.heap[g]? = some (.cells cur e fr)) :
    (grow (putRow id (Sort.ahead w n) g 0 d) os).heap[g]? = some (.cells (putCells id 0 d cur) e fr) := by
  have hg : g < w.heap.size := (Array.getElem?_eq_some_iff.1 hb).1
  rw [heap_grow_old _ _ (by simpa using hg)]
  simp [putRow, mapBlock, Sort.ahead, Array.getElem?_modify, hb, onCells]
theorem grownBy_sortedK {w : World} {g n : Nat} {os : Array Obj} (d : Array Value) : w.grownBy (grow (putRow id (Sort.ahead w n) g 0 d) os) (some g) := by
  refine ⟨rfl, rfl, rfl, by simp, fun k hk hne => ?_⟩
  rw [heap_grow_old _ _ (by simpa using hk)]
  have : g ≠ k := fun e => hne (by rw [e])
  simp [putRow, mapBlock, Sort.ahead, Array.getElem?_modify, this]
theorem take_putCellsK (cur : Array Value) (ts : List Value) (h : ts.length ≤ cur.size) : (putCells id 0 ts.toArray cur).toList.take ts.length = ts := by
  apply List.ext_getElem?
  intro j
  by_cases hj : j < ts.length
  · rw [List.getElem?_take_of_lt hj, Array.getElem?_toList]
    simp [putCells, hj, show j < cur.size by omega]
  · rw [List.getElem?_take_eq_none (by omega), List.getElem?_eq_none (by omega)]
theorem ownsRow_sortedK {w : World} {base g cap n m sz : Nat} {e : TypeId} {os : Array Obj} {cur : Array Value} {ts : List Value} (hl : ts.length = m * sz) (hbase : base ≤ g) (hb : w.heap[g]? = some (.cells cur e (0, 0)))
    (h1 : m ≤ cap) (h2 : cap ≤ maxLen) (h3 : cur.size = cap * sz) :
    (grow (putRow id (Sort.ahead w n) g 0 ts.toArray) os).ownsRow base e sz (.slice (some ⟨g, 0, none⟩) m cap) m ts :=
  ⟨hl, .inr ⟨g, cap, _, rfl, hbase, heap_sortedK _ hb, h1, h2, by simp [putCells, h3], by rw [← hl]; exact take_putCellsK cur ts (by rw [h3, hl]; exact Nat.mul_le_mul_right _ h1)⟩⟩
theorem flatK_list {α : Type} [Inhabited α] (enc : α → List Value) (k : Nat) (hpos : 0 < k) (hk : ∀ x, (enc x).length = k) (l : List α) : flatK enc k l.toArray = (l.flatMap enc).toArray := by
  have hlen : (l.flatMap enc).length = l.length * k := by
    induction l with
    | nil => simp
    | cons a l ih => rw [List.flatMap_cons, List.length_append, hk, ih, List.length_cons, Nat.succ_mul]; omega
  refine Array.ext (by simp [hlen]) fun t h1 h2 => ?_
  have ht : t < l.length * k := by simpa using h1
  have e1 := get_flatK enc k l.toArray t (by simpa using ht)
  rw [getElem!_pos _ t h1] at e1
  rw [e1]
  have htk : t / k < l.length := Nat.div_lt_of_lt_mul (by rwa [Nat.mul_comm])
  have hf := flat_get enc k hpos hk l t
  rw [List.getElem?_eq_getElem htk, Option.bind_some] at hf
  have hm : t % k < (enc l[t / k]).length := by rw [hk]; exact Nat.mod_lt _ hpos
  rw [List.getElem?_eq_getElem hm] at hf
  have h3 : (l.flatMap enc)[t]? = some ((l.flatMap enc)[t]'(by rw [hlen]; exact ht)) := List.getElem?_eq_getElem _
  rw [h3] at hf
  injection hf with hf
  show _ = (l.flatMap enc)[t]'(by rw [hlen]; exact ht)
  rw [hf]
  have e2 : (l.toArray)[t / k]! = l[t / k] := by simp [htk]
  rw [e2]
  exact getElem!_pos (enc l[t / k]) (t % k) hm
/-! ### The order -/
def cmpB (x y : BL) : Int := if Op.bytesLess x y = true then -1 else if Op.bytesLess y x = true then 1 else 0
theorem isnan_any (w : World) (a : ByteArray) : Calls Try.prog 197 #[.string a] w fun e w' => e = .returned (.bool false) ∧ w = w' := by
  go_enter Try.func197, Try.ntmps197
  go_wp2
  go_ret
  exact ⟨by simp, rfl⟩
theorem bl_irr (x : BL) : Op.bytesLess x x = false := by
  rw [bytesLess_eq]
  simp
theorem compare_any (w : World) (a b : ByteArray) : Calls Try.prog 162 #[.string a, .string b] w fun e w' => e = .returned (.int .i64 (cmpB a.toList b.toList)) ∧ w = w' := by
  have hn := fun W s => isnan_any W s
  have HN := Lib.hid hn; clear hn
  unfold cmpB
  by_cases h1 : Op.bytesLess a.toList b.toList = true
  · rw [if_pos h1]
    go_enter Try.func162, Try.ntmps162
    go_wp2_with (go_at_call 197; refine (HN.out _ _).mono ?_; rintro e w' ⟨rfl, rfl⟩)
    go_ret
    exact ⟨rfl, rfl⟩
  · rw [if_neg h1]
    have h1' : Op.bytesLess a.toList b.toList = false := by simpa using h1
    clear h1
    by_cases h2 : Op.bytesLess b.toList a.toList = true
    · rw [if_pos h2]
      have hne : (a.toList == b.toList) = false := by
        rw [beq_eq_false_iff_ne]
        intro e
        rw [e, bl_irr] at h2
        cases h2
      go_enter Try.func162, Try.ntmps162
      go_wp2_with (go_at_call 197; refine (HN.out _ _).mono ?_; rintro e w' ⟨rfl, rfl⟩)
      go_ret
      exact ⟨rfl, rfl⟩
    · rw [if_neg h2]
      have h2' : Op.bytesLess b.toList a.toList = false := by simpa using h2
      clear h2
      have heq : (a.toList == b.toList) = true := by
        rw [beq_iff_eq]
        by_cases e : a.toList = b.toList
        · exact e
        · have := Keys.less_total _ _ h1' e
          rw [h2'] at this
          cases this
      go_enter Try.func162, Try.ntmps162
      go_wp2_with (go_at_call 197; refine (HN.out _ _).mono ?_; rintro e w' ⟨rfl, rfl⟩)
      go_ret
      exact ⟨rfl, rfl⟩
theorem order_any (w : World) (o p : OpR) : Calls Try.prog 112 #[oagg o, oagg p] w fun e w' => e = .returned (.int .i64 (cmpB o.key.toList p.key.toList)) ∧ ∃ q os', w' = grow (w.drewN q) os' := by
  obtain ⟨k1, v1, d1⟩ := o
  obtain ⟨k2, v2, d2⟩ := p
  have hc := fun W => compare_any W k1 k2
  dsimp only [oagg]
  generalize cmpB k1.toList k2.toList = r at hc ⊢
  have HC := Lib.hid hc; clear hc
  go_enter Try.func112, Try.ntmps112
  go_wp2_with (go_at_call 162; refine (HC.out _).mono ?_; rintro e w' ⟨rfl, rfl⟩)
  go_ret
  exact ⟨rfl, 0, _, by rw [alloc_eq_grow, alloc_eq_grow, grow_grow]; rfl⟩
/-! ### The rows by their keys -/
def rowOf (f : BL → Option OpR) (x : BL) : OpR := ⟨ofL x, ((f x).getD o0).val, ((f x).getD o0).del⟩
def encF (f : BL → Option OpR) (x : BL) : List Value := cell (rowOf f x)
theorem lt_cmp (x y : BL) : ltOf cmpB x y = decide (x < y) := by
  unfold ltOf cmpB
  rw [bytesLess_eq, bytesLess_eq]
  by_cases h : x < y
  · simp [h]
  · by_cases h2 : y < x <;> simp [h, h2]
theorem swo_cmp : SWO (ltOf cmpB) := by
  have e : ltOf cmpB = fun x y => decide (x < y) := funext fun x => funext fun y => lt_cmp x y
  rw [e]
  refine ⟨fun x => by simp, fun x y z h1 h2 => ?_, fun x y z h1 h2 => ?_⟩
  · simp only [decide_eq_true_eq] at *
    exact List.lt_trans h1 h2
  · simp only [decide_eq_false_iff_not, List.not_lt] at *
    exact List.le_trans h2 h1
theorem tot_cmp (x y : BL) (h1 : ltOf cmpB x y = false) (h2 : ltOf cmpB y x = false) : x = y := by
  rw [lt_cmp, decide_eq_false_iff_not, List.not_lt] at h1 h2
  exact List.le_antisymm h2 h1
theorem sort_cmp (l : List BL) : (l.mergeSort fun x y => !(ltOf cmpB) y x) = l.mergeSort leB := by
  congr 1
  funext x y
  rw [lt_cmp]
  unfold leB
  by_cases h : y < x
  · have : ¬ x ≤ y := fun e => List.not_lt.2 e h
    simp [h, this]
  · simp [h, List.not_lt.1 h]
theorem cmp_lays (f : BL → Option OpR) (blk off size : Nat) (w : World) : CmpLays Try.prog 112 #[] (encF f) 3 cmpB blk off size w :=
  fun m os dk _ x y => by
    have h := order_any (sortWorldK (encF f) 3 w blk off m dk os) (rowOf f x) (rowOf f y)
    have e : ∀ z : BL, (ofL z).toList = z := fun z => by rw [ByteArray.toList_eq]; simp [ofL]
    have h2 : cmpB (rowOf f x).key.toList (rowOf f y).key.toList = cmpB x y := by unfold rowOf; rw [e, e]
    rw [h2] at h
    exact h
end Nrm
end Go.Proofs.Ytnmlemciiigjcaa
