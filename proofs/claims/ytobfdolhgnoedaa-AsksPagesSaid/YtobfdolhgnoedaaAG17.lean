/- Part 18 of what the proof needs. -/
import Derived.Test.YtobfdolhgnoedaaAG14
import Derived.Test.YtobfdolhgnoedaaAG16
import Derived.Sort.OwnSortedInts
set_option linter.unusedSimpArgs false
set_option linter.unusedVariables false
set_option maxHeartbeats 32000000
set_option maxRecDepth 100000
namespace Go.Proofs.Ytobfdolhgnoedaa
open Go.Shelf Go.Sort Go.RowKit Go.Maps Go.Proofs
set_option maxRecDepth 100000
namespace Nrm
open Ops
theorem holds_of_blockK {w : World} {g : Nat} {cur : Array Value} {e : TypeId} {xs : List Value} (hb : w.heap[g]? = some (.cells cur e (0,0))) (ht : cur.toList.take xs.length = xs) : Holds id w g 0 xs.toArray := by
 intro j hj
 have hj' : j < xs.length := by simpa using hj
 refine ⟨?_,by simp [World.frozen?,hb]⟩
 have h1 : (cur.toList.take xs.length)[j]? = xs[j]? := by rw [ht]
 rw [List.getElem?_take_of_lt hj'] at h1
 simp only [World.cell?,hb,Nat.zero_add]
 simp only [Option.isSome_none,Bool.false_eq_true,if_false]
 rw [<- Array.getElem?_toList,h1]
 simp [hj']
theorem heap_sortedK {w : World} {g n : Nat} {os : Array Obj} {cur : Array Value} {e : TypeId} {fr : Nat × Nat} (d : Array Value) (hb : w.heap[g]? = some (.cells cur e fr)) :
  (grow (putRow id (Sort.ahead w n) g 0 d) os).heap[g]? = some (.cells (putCells id 0 d cur) e fr) := by
 have hg : g < w.heap.size := (Array.getElem?_eq_some_iff.1 hb).1
 rw [heap_grow_old _ _ (by simpa using hg)]
 simp [putRow,mapBlock,Sort.ahead,Array.getElem?_modify,hb,onCells]
theorem grownBy_sortedK {w : World} {g n : Nat} {os : Array Obj} (d : Array Value) : w.grownBy (grow (putRow id (Sort.ahead w n) g 0 d) os) (some g) := by
 refine ⟨rfl,rfl,rfl,by simp,fun k hk hne => ?_⟩
 rw [heap_grow_old _ _ (by simpa using hk)]
 have : g ≠ k := fun e => hne (by rw [e])
 simp [putRow,mapBlock,Sort.ahead,Array.getElem?_modify,this]
theorem take_putCellsK (cur : Array Value) (ts : List Value) (h : ts.length <= cur.size) : (putCells id 0 ts.toArray cur).toList.take ts.length = ts := by
 apply List.ext_getElem?
 intro j
 by_cases hj : j < ts.length
 ·rw [List.getElem?_take_of_lt hj,Array.getElem?_toList]
  simp [putCells,hj,show j < cur.size by omega]
 ·rw [List.getElem?_take_eq_none (by omega),List.getElem?_eq_none (by omega)]
theorem ownsRow_sortedK {w : World} {base g cap n m sz : Nat} {e : TypeId} {os : Array Obj} {cur : Array Value} {ts : List Value} (hl : ts.length = m * sz) (hbase : base <= g) (hb : w.heap[g]? = some (.cells cur e (0,0)))
  (h1 : m <= cap) (h2 : cap <= maxLen) (h3 : cur.size = cap * sz) :
  (grow (putRow id (Sort.ahead w n) g 0 ts.toArray) os).ownsRow base e sz (.slice (some ⟨g,0,none⟩) m cap) m ts :=
 ⟨hl,.inr ⟨g,cap,_,rfl,hbase,heap_sortedK _ hb,h1,h2,by simp [putCells,h3],by rw [<- hl];exact take_putCellsK cur ts (by rw [h3,hl];exact Nat.mul_le_mul_right _ h1)⟩⟩
theorem flatK_list {α : Type} [Inhabited α] (enc : α -> List Value) (k : Nat) (hpos : 0 < k) (hk : ∀ x,(enc x).length = k) (l : List α) : flatK enc k l.toArray = (l.flatMap enc).toArray := by
 have hlen : (l.flatMap enc).length = l.length * k := by
  induction l with
  | nil => simp
  | cons a l ih => rw [List.flatMap_cons,List.length_append,hk,ih,List.length_cons,Nat.succ_mul];omega
 refine Array.ext (by simp [hlen]) fun t h1 h2 => ?_
 have ht : t < l.length * k := by simpa using h1
 have e1 := get_flatK enc k l.toArray t (by simpa using ht)
 rw [getElem!_pos _ t h1] at e1
 rw [e1]
 have htk : t / k < l.length := Nat.div_lt_of_lt_mul (by rwa [Nat.mul_comm])
 have hf := flat_get enc k hpos hk l t
 rw [List.getElem?_eq_getElem htk,Option.bind_some] at hf
 have hm : t % k < (enc l[t / k]).length := by rw [hk];exact Nat.mod_lt _ hpos
 rw [List.getElem?_eq_getElem hm] at hf
 have h3 : (l.flatMap enc)[t]? = some ((l.flatMap enc)[t]'(by rw [hlen];exact ht)) := List.getElem?_eq_getElem _
 rw [h3] at hf
 injection hf with hf
 show _ = (l.flatMap enc)[t]'(by rw [hlen];exact ht)
 rw [hf]
 have e2 : (l.toArray)[t / k]! = l[t / k] := by simp [htk]
 rw [e2]
 exact getElem!_pos (enc l[t / k]) (t % k) hm
def cmpB (x y : BL) : Int := if Op.bytesLess x y = true then -1 else if Op.bytesLess y x = true then 1 else 0
theorem isnan_any (w : World) (a : ByteArray) : Calls Try.prog 72 #[.string a] w fun e w' => e = .returned (.bool false) /\ w = w' := by
 go_enter Try.func72,Try.ntmps72
 go_wp2
 go_ret
 exact ⟨by simp,rfl⟩
theorem bl_irr (x : BL) : Op.bytesLess x x = false := by
 rw [bytesLess_eq]
 simp
theorem compare_any (w : World) (a b : ByteArray) : Calls Try.prog 59 #[.string a,.string b] w fun e w' => e = .returned (.int .i64 (cmpB a.toList b.toList)) /\ w = w' := by
 have hn := fun W s => isnan_any W s
 have HN := hZ0 hn;clear hn
 unfold cmpB
 by_cases h1 : Op.bytesLess a.toList b.toList = true
 ·rw [if_pos h1]
  go_enter Try.func59,Try.ntmps59
  go_wp2_with (go_at_call 72;refine (HN.out _ _).mono ?_;rintro e w' ⟨rfl,rfl⟩)
  go_ret
  exact ⟨rfl,rfl⟩
 ·rw [if_neg h1]
  have h1' : Op.bytesLess a.toList b.toList = false := by simpa using h1
  clear h1
  by_cases h2 : Op.bytesLess b.toList a.toList = true
  ·rw [if_pos h2]
   have hne : (a.toList == b.toList) = false := by
    rw [beq_eq_false_iff_ne]
    intro e
    rw [e,bl_irr] at h2
    cases h2
   go_enter Try.func59,Try.ntmps59
   go_wp2_with (go_at_call 72;refine (HN.out _ _).mono ?_;rintro e w' ⟨rfl,rfl⟩)
   go_ret
   exact ⟨rfl,rfl⟩
  ·rw [if_neg h2]
   have h2' : Op.bytesLess b.toList a.toList = false := by simpa using h2
   clear h2
   have heq : (a.toList == b.toList) = true := by
    rw [beq_iff_eq]
    by_cases e : a.toList = b.toList
    ·exact e
    ·have := Keys.less_total _ _ h1' e
     rw [h2'] at this
     cases this
   go_enter Try.func59,Try.ntmps59
   go_wp2_with (go_at_call 72;refine (HN.out _ _).mono ?_;rintro e w' ⟨rfl,rfl⟩)
   go_ret
   exact ⟨rfl,rfl⟩
theorem order_any (w : World) (o p : OpR) : Calls Try.prog 45 #[oagg o,oagg p] w fun e w' => e = .returned (.int .i64 (cmpB o.key.toList p.key.toList)) /\ ∃ q os',w' = grow (w.drewN q) os' := by
 obtain ⟨k1,v1,d1⟩ := o
 obtain ⟨k2,v2,d2⟩ := p
 have hc := fun W => compare_any W k1 k2
 dsimp only [oagg]
 generalize cmpB k1.toList k2.toList = r at hc ⊢
 have HC := hZ0 hc;clear hc
 go_enter Try.func45,Try.ntmps45
 go_wp2_with (go_at_call 59;refine (HC.out _).mono ?_;rintro e w' ⟨rfl,rfl⟩)
 go_ret
 exact ⟨rfl,0,_,by rw [alloc_eq_grow,alloc_eq_grow,grow_grow];rfl⟩
def rowOf (f : BL -> Option OpR) (x : BL) : OpR := ⟨ofL x,((f x).getD o0).val,((f x).getD o0).del⟩
def encF (f : BL -> Option OpR) (x : BL) : List Value := cell (rowOf f x)
theorem lt_cmp (x y : BL) : ltOf cmpB x y = decide (x < y) := by
 unfold ltOf cmpB
 rw [bytesLess_eq,bytesLess_eq]
 by_cases h : x < y
 ·simp [h]
 ·by_cases h2 : y < x <;> simp [h,h2]
theorem swo_cmp : SWO (ltOf cmpB) := by
 have e : ltOf cmpB = fun x y => decide (x < y) := funext fun x => funext fun y => lt_cmp x y
 rw [e]
 refine ⟨fun x => by simp,fun x y z h1 h2 => ?_,fun x y z h1 h2 => ?_⟩
 ·simp only [decide_eq_true_eq] at *
  exact List.lt_trans h1 h2
 ·simp only [decide_eq_false_iff_not,List.not_lt] at *
  exact List.le_trans h2 h1
theorem tot_cmp (x y : BL) (h1 : ltOf cmpB x y = false) (h2 : ltOf cmpB y x = false) : x = y := by
 rw [lt_cmp,decide_eq_false_iff_not,List.not_lt] at h1 h2
 exact List.le_antisymm h2 h1
theorem sort_cmp (l : List BL) : (l.mergeSort fun x y => !(ltOf cmpB) y x) = l.mergeSort leB := by
 congr 1
 funext x y
 rw [lt_cmp]
 unfold leB
 by_cases h : y < x
 ·have : ¬ x <= y := fun e => List.not_lt.2 e h
  simp [h,this]
 ·simp [h,List.not_lt.1 h]
theorem cmp_lays (f : BL -> Option OpR) (blk off size : Nat) (w : World) : CmpLays Try.prog 45 #[] (encF f) 3 cmpB blk off size w :=
 fun m os dk _ x y => by
  have h := order_any (sortWorldK (encF f) 3 w blk off m dk os) (rowOf f x) (rowOf f y)
  have e : ∀ z : BL,(ofL z).toList = z := fun z => by rw [ByteArray.toList_eq];simp [ofL]
  have h2 : cmpB (rowOf f x).key.toList (rowOf f y).key.toList = cmpB x y := by unfold rowOf;rw [e,e]
  rw [h2] at h
  exact h
end Nrm
namespace Nrm
open Ops
abbrev LEnv := BL -> Option OpR
def encO (o : OpR) : DataW Unit := .agg [.lit (.string (bl o.key)),.lit (.string (bl o.val)),.lit (.bool o.del)]
theorem encO_inj {o p : OpR} (h : encO o = encO p) : o = p := by
 obtain ⟨a,b,c⟩ := o
 obtain ⟨a',b',c'⟩ := p
 unfold encO at h
 injection h with h
 injection h with h1 h
 injection h with h2 h
 injection h with h3 h
 injection h1 with h1
 injection h1 with h1
 injection h2 with h2
 injection h2 with h2
 injection h3 with h3
 injection h3 with h3
 have k1 : a = a' := bl_inj h1
 have k2 : b = b' := bl_inj h2
 have k3 : c = c' := h3
 rw [k1,k2,k3]
def ofCells : List Value -> Option OpR
 | [.string k,.string v,.bool d] => some ⟨k,v,d⟩
 | _ => none
theorem ofCells_inv {l : List Value} {o : OpR} (h : ofCells l = some o) : l = [.string o.key,.string o.val,.bool o.del] := by
 unfold ofCells at h
 split at h
 ·injection h with h
  subst h
  rfl
 ·cases h
def opElem : Value -> Option (DataW Unit × List MemPlace)
 | .agg cs => (ofCells cs.toList).map fun o => (encO o,[])
 | _ => none
theorem opElem_mk (o : OpR) : opElem (oagg o) = some (encO o,[]) := rfl
theorem opElem_inv {v : Value} {y : DataW Unit × List MemPlace} (h : opElem v = some y) : ∃ o : OpR,v = oagg o := by
 cases v <;> simp only [opElem] at h
 case agg cs =>
  cases ho : ofCells cs.toList with
  | none => rw [ho] at h;cases h
  | some o =>
   have := ofCells_inv ho
   obtain ⟨l⟩ := cs
   simp only at this
   subst this
   exact ⟨o,rfl⟩
 all_goals cases h
def OMap (w : World) (b n : Nat) (f : LEnv) : Prop :=
 ∃ D : DataW Unit,w.ownsMap Try.prog 9 opElem b n D /\ ∀ x : BL,has D (.string x) = (f x).isSome /\ ∀ o,f x = some o -> D.atKey (.string x) (.lit (.bool false)) = encO o
theorem OMap.lt {w : World} {b n : Nat} {m : LEnv} (h : OMap w b n m) : b < w.heap.size := by
 obtain ⟨D,h,_⟩ := h
 exact h.lt
theorem OMap.kept {F : Nat -> Prop} {w w' : World} {b n : Nat} {m : LEnv} (h : OMap w b n m) (hk : Kept F w w') (hf : ¬ F b) : OMap w' b n m := by
 obtain ⟨D,ho,hD⟩ := h
 have hlt := ho.lt
 obtain ⟨es,clock,hb,hF,hs,e⟩ := ho
 exact ⟨D,⟨es,clock,(hk.block b hlt hf).trans hb,hF,hs,e⟩,hD⟩
theorem OMap.made (w : World) : OMap (w.alloc (.map #[] 0)) w.heap.size 0 (fun _ => none) :=
 ⟨_,World.ownsMap_made w _ _ _,fun k => ⟨rfl,fun o h => by cases h⟩⟩
theorem OMap.store {w : World} {b n : Nat} {m : LEnv} (h : OMap w b n m) (hn : n < maxLen) (o : OpR) (hk : o.key.size <= maxLen) :
  ∃ w',(Instr.mapUpdate 101 (.map (some b)) (.string o.key) (oagg o)).run Try.prog w = .ok () w' /\ OMap w' b (n + 1) (stepL m o) /\ Kept (fun i => i = b) w w' := by
 obtain ⟨D,ho,hD⟩ := h
 obtain ⟨w',hrun,ho',hg⟩ := ho.update strKeyed Try.underlying101 hn (strKey hk) (opElem_mk o)
 refine ⟨w',hrun,⟨_,ho',?_⟩,(Kept.refl _ _).grownBy hg fun i hi => by injection hi with hi;exact .inl hi.symm⟩
 intro x
 have hm : IsMap D := ho.isMap
 have hl : WideAt.IsKeyLit (.string (bl o.key)) := by trivial
 by_cases e : x = bl o.key
 ·subst e
  rw [has_put_same hm hl,atKey_put_same hm hl]
  unfold stepL
  rw [if_pos rfl]
  exact ⟨rfl,fun p hp => by injection hp with hp;rw [hp]⟩
 ·have hne : (Lit.string x) ≠ .string (bl o.key) := fun h => e (by injection h)
  rw [has_put_other hne,atKey_put_other hne]
  have := hD x
  unfold stepL
  rw [if_neg e]
  exact this
theorem own_ne_map {w : World} {base e sz n b k m : Nat} {v : Value} {xs : List Value} {R : Value -> Option (DataW Unit × List MemPlace)} {D : DataW Unit} (h : w.ownsRow base e sz v n xs) (hm : w.ownsMap Try.prog k R b m D) : v.ownBlock ≠ some b := by
 obtain ⟨es,clock,hb,_⟩ := hm
 rcases h.2 with ⟨rfl,_⟩ | ⟨g,cap,cur,rfl,_,hg,_⟩
 ·simp [Value.ownBlock]
 ·intro e
  obtain rfl : g = b := by simpa [Value.ownBlock] using e
  rw [hg] at hb
  cases hb
theorem elemRow : Elem Try.prog 102 103 3 40 := by
 obtain ⟨i0,hi,hz0,hz1,hz2⟩ := info_parts (show (Try.prog.info? 103).map (fun i => (i.zero,i.size,i.bytes)) = some (some (.agg #[.string ⟨#[]⟩,.string ⟨#[]⟩,.bool false]),3,40) by kernel_rfl)
 exact ⟨Try.underlying102,⟨i0,_,hi,hz0,hz1,hz2,rfl⟩,by decide⟩
theorem encF_len (f : LEnv) (x : BL) : (encF f x).length = 3 := rfl
theorem encF_one (f : LEnv) (x : BL) : ∀ v ∈ encF f x,v.oneCell' = true := by
 intro v hv
 unfold encF cell at hv
 simp at hv
 rcases hv with rfl | rfl | rfl <;> rfl
theorem flat_len (f : LEnv) (l : List BL) : (l.flatMap (encF f)).length = l.length * 3 := by
 induction l with
 | nil => rfl
 | cons a l ih => rw [List.flatMap_cons,List.length_append,encF_len,ih,List.length_cons,Nat.succ_mul];omega
theorem sort_rows (w : World) (base : Nat) (A : Option Addr) (c : Nat) (f : LEnv) (L : List BL) (h : w.ownsRow base 103 3 (.slice A L.length c) L.length (L.flatMap (encF f))) (hlen : L.length <= 1000000) :
  Calls Try.prog 44 #[.slice A L.length c,.func (.func 45) #[] #[]] w fun e w' => e = .returned (.tuple #[]) /\
   w'.ownsRow base 103 3 (.slice A L.length c) L.length ((L.mergeSort leB).flatMap (encF f)) /\ Kept (fun k => (Value.slice A L.length c).ownBlock = some k) w w' := by
 rcases h.2 with ⟨hv,hn⟩ | ⟨g,cap,cur,hv,hbase,hb,h1,h2,h3,h4⟩
 ·have hl : L = [] := List.eq_nil_of_length_eq_zero hn
  subst hl
  refine (sortF_none A c _ w).mono ?_
  rintro e w' ⟨rfl,rfl⟩
  exact ⟨rfl,by simpa using h,Kept.refl _ _⟩
 ·injection hv with hA hn hc
  subst hA
  subst hc
  have eg : ∀ args w,(callFunc 45 args).run Try.prog w = .ok (.enter 45 args) w := enters_of Try.func45 (by kernel_rfl) rfl
  have hfl : (flatK (encF f) 3 L.toArray) = (L.flatMap (encF f)).toArray := flatK_list (encF f) 3 (by decide) (encF_len f) L
  have hH : HoldsK (encF f) 3 w g 0 L.toArray := by
   unfold HoldsK
   rw [hfl]
   exact holds_of_blockK hb (by rw [flat_len];exact h4)
  have hg : g < w.heap.size := (Array.getElem?_eq_some_iff.1 hb).1
  have hc := AnyQ.slices_SortFunc_total sortFA 3 Try.isAgg103 Try.sizeOf103 (encF f) (encF_len f) (encF_one f) cmpB swo_cmp 45 #[] g 0 c L.toArray w eg (cmp_lays f g 0 _ w) hH hg (by simp;omega) tot_cmp
  have e1 : L.toArray.size = L.length := by simp
  rw [e1] at hc
  refine Calls.mono hc ?_
  rintro e w' ⟨rfl,n,os,rfl⟩
  have e2 : L.toArray.toList = L := rfl
  rw [e2,sort_cmp]
  have hfl2 : (flatK (encF f) 3 (L.mergeSort leB).toArray) = ((L.mergeSort leB).flatMap (encF f)).toArray := flatK_list (encF f) 3 (by decide) (encF_len f) _
  unfold sortWorldK putRowK
  rw [hfl2]
  refine ⟨rfl,ownsRow_sortedK (by rw [flat_len,List.length_mergeSort]) hbase hb h1 h2 h3,(Kept.refl _ _).grownBy (grownBy_sortedK _) fun k hk => by injection hk with hk;subst hk;exact .inl rfl⟩
end Nrm
end Go.Proofs.Ytobfdolhgnoedaa
