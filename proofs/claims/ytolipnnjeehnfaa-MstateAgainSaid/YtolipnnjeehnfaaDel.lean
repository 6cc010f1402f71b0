/- Cells laid one behind the other in a block; clear of a part of a row; slices.Delete of one pin. -/
import Derived.Test.YtolipnnjeehnfaaMst6
import Derived.ArgAppend
import Derived.Deep.RegionLaw
set_option linter.unusedSimpArgs false
set_option linter.unusedVariables false
namespace Go.Proofs.Ytolipnnjeehnfaa
open Go.RowKit
set_option maxRecDepth 100000
def layAt (cs : Array Value) : Nat → List Value → Array Value
  | _, [] => cs
  | o, v :: r => layAt (cs.setIfInBounds o v) (o + 1) r
theorem layAt_size : ∀ (vs : List Value) (cs : Array Value) (o : Nat), (layAt cs o vs).size = cs.size
  | [], _, _ => rfl
  | v :: r, cs, o => by rw [layAt, layAt_size r]; simp
theorem layAt_list : ∀ (vs : List Value) (cs : Array Value) (o : Nat), o + vs.length ≤ cs.size → (layAt cs o vs).toList = cs.toList.take o ++ vs ++ cs.toList.drop (o + vs.length)
  | [], cs, o, _ => by simp [layAt]
  | v :: r, cs, o, h => by
    simp only [List.length_cons] at h
    have ho : o < cs.toList.length := by simp; omega
    rw [layAt, layAt_list r _ _ (by simp; omega), Array.toList_setIfInBounds, List.take_set, List.take_add_one, List.getElem?_eq_getElem ho, List.drop_set, if_pos (by omega)]
    simp only [Option.toList_some, List.length_cons, List.append_assoc]
    have e1 : (cs.toList.take o ++ [cs.toList[o]]).set o v = cs.toList.take o ++ [v] := by
      rw [List.set_append_right _ _ (by simp; omega)]
      have : o - (cs.toList.take o).length = 0 := by simp; omega
      rw [this]; rfl
    rw [e1]
    simp only [List.append_assoc, List.singleton_append, List.cons_append, List.nil_append]
    rw [show o + 1 + r.length = o + (r.length + 1) by omega]
theorem Has.layCells {b : Nat} {t : TypeId} : ∀ (vs : List Value) (o : Nat) (w : World) (cs : Array Value), Has w b t cs → Has (w.setCells b o vs) b t (layAt cs o vs)
  | [], _, _, _, h => h
  | v :: r, o, _, _, h => Has.layCells r (o + 1) _ _ (h.put o v)
theorem Kept.layCells {b : Nat} : ∀ (vs : List Value) (o : Nat) (w : World), Kept (fun k => k = b) w (w.setCells b o vs)
  | [], _, w => Kept.refl _ _
  | v :: r, o, w => Kept.then (F := fun k => k = b) ((Kept.refl _ w).put (g := b) (i := o) (u := v) (.inl rfl)) (Kept.layCells r (o + 1) _)
theorem run_clear_part {P : Program} {w : World} {size g off n c : Nat} {cur : Array Value} {t e : TypeId} {z : Value} (h : Has w g e cur) (ht : P.underlying t = some (.slice e))
    (hv : ∀ w, (zeroValue e).run P w = .ok z w) (hz : z.cells.size = size) (h0 : 0 < size) (h1 : ∀ u ∈ z.cells, u.oneCell' = true) (hn : 0 < n) (hsz : off + n * size ≤ cur.size) (ty : TypeId) :
    (Builtin.clear_ #[t] ty #[.slice (some ⟨g, off, none⟩) n c]).run P w = .ok (.tuple #[]) (w.setCells g off (Builtin.zeroCells z.cells n).toList) := by
  have hlen : (Builtin.zeroCells z.cells n).toList.length = n * size := by simp [Builtin.zeroCells, hz]
  have hone : ∀ u ∈ (Builtin.zeroCells z.cells n).toList, u.oneCell' = true := by
    intro u hu
    simp only [Builtin.zeroCells, Array.toList_map, List.mem_map] at hu
    obtain ⟨i, _, rfl⟩ := hu
    have hlt : i % z.cells.size < z.cells.size := Nat.mod_lt _ (by omega)
    rw [getElem!_pos z.cells _ hlt]
    exact h1 _ (Array.getElem_mem hlt)
  have hst := run_storeCells_cells (P := P) g off (Builtin.zeroCells z.cells n).toList 0 w
    (by intro j hj; rw [hlen] at hj; rw [h.cell, Array.getElem?_eq_getElem (by omega)]; rfl)
    (by intro j hj; exact h.frozen _) hone
  obtain ⟨m, rfl⟩ : ∃ m, n = m + 1 := ⟨n - 1, by omega⟩
  simp only [Nat.add_zero] at hst
  simp [Builtin.clear_, run_underlying ht, hv, hst]
namespace Mst
open Plan Vn
theorem pcells_drop (l : List PinR) (k : Nat) : pcells (l.drop k) = (pcells l).drop (k * 3) := by
  induction l generalizing k with
  | nil => simp [pcells]
  | cons a l ih =>
    cases k with
    | zero => simp
    | succ k =>
      have e : (k + 1) * 3 = k * 3 + 3 := by omega
      rw [e]
      simpa [pcells, pcell] using ih k
theorem pcells_take (l : List PinR) (k : Nat) : pcells (l.take k) = (pcells l).take (k * 3) := by
  induction l generalizing k with
  | nil => simp [pcells]
  | cons a l ih =>
    cases k with
    | zero => simp [pcells]
    | succ k =>
      have e : (k + 1) * 3 = k * 3 + 3 := by omega
      rw [e]
      simpa [pcells, pcell] using ih k
theorem pcells_append (a b : List PinR) : pcells (a ++ b) = pcells a ++ pcells b := by simp [pcells]
theorem pcells_length (l : List PinR) : (pcells l).length = l.length * 3 := by
  induction l with
  | nil => rfl
  | cons a l ih => simp only [pcells, List.flatMap_cons, List.length_append, List.length_cons] at ih ⊢; rw [ih]; simp [pcell]; omega
set_option maxHeartbeats 4000000 in
theorem delPin_any (w : World) (g c k j : Nat) (hj : j = k + 1) (l : List PinR) (hl : w.ownsRow 0 44 3 (.slice (some ⟨g, 0, none⟩) l.length c) l.length (pcells l)) (hk : k < l.length) (hlen : l.length ≤ 1000000) :
    Calls Try.prog 58 #[.slice (some ⟨g, 0, none⟩) l.length c, .int .i64 k, .int .i64 j] w fun e w' =>
      e = .returned (.slice (some ⟨g, 0, none⟩) (l.length - 1) c) ∧ w'.ownsRow 0 44 3 (.slice (some ⟨g, 0, none⟩) (l.length - 1) c) (l.length - 1) (pcells (l.eraseIdx k)) ∧ Kept (fun j => j = g) w w' := by
  obtain ⟨i0, hi, hz0, hz1, hz2⟩ := info_parts (show (Try.prog.info? 44).map (fun i => (i.zero, i.size, i.bytes)) = some (some (.agg #[.int .i64 0, .int .u64 0, .int .i64 0]), 3, 24) by kernel_rfl)
  have mixed : Try.prog.follows .mixedOrders = true := by kernel_rfl
  rcases hl.2 with ⟨hv, _⟩ | ⟨g', cap, cur, hv, hb, hh, hn, hm, hs, htk⟩
  · cases hv
  injection hv with h1 h2 h3
  injection h1 with h1
  injection h1 with h1
  subst h1
  subst h3
  clear h2
  have hcap := hm
  unfold maxLen at hcap
  have hH : Has w g 44 cur := hh
  clear hh
  -- the cells that are moved to the left
  obtain ⟨news, hnews⟩ : ∃ news, news = pcells (l.drop j) := ⟨_, rfl⟩
  have hlenN : news.length = (l.length - j) * 3 := by rw [hnews, pcells_length]; simp
  have hget : ∀ t u, news[t]? = some u → cur[j * 3 + t]? = some u := by
    intro t u hu
    have ht := (List.getElem?_eq_some_iff.1 hu).1
    rw [hnews, pcells_drop, List.getElem?_drop, ← htk, List.getElem?_take, if_pos (by omega), Array.getElem?_toList] at hu
    exact hu
  obtain ⟨A, hA, hsrc⟩ : ∃ A : Addr, (if c = j then (some (⟨g, 0, none⟩ : Addr)) else some ⟨g, j * 3, none⟩) = some A ∧ Hid (∀ t u, news[t]? = some u → w.drew.cell? (A.add t) = some u) := by
    by_cases h : c = j
    · refine ⟨⟨g, 0, none⟩, by simp [h], fun t u hu => ?_⟩
      have h0 : news.length = 0 := by rw [hlenN]; omega
      rw [List.length_eq_zero_iff.1 h0] at hu
      simp at hu
    · refine ⟨⟨g, j * 3, none⟩, by simp [h], fun t u hu => ?_⟩
      rw [Addr.add_lit]
      exact (hH.drew.cell _).trans (hget t u hu)
  have s1 : Hid (news.length = (l.length - j) * 3) := hlenN
  have s2 : Hid (∀ u ∈ news, u.oneCell' = true) := by rw [hnews]; exact one_pcells _
  have s3 : Hid (∀ t, t < news.length → (w.drew.cell? ⟨g, 0 + k * 3 + t, none⟩).isSome = true ∧ w.drew.frozen? ⟨g, 0 + k * 3 + t, none⟩ = false) := by
    intro t ht
    rw [hlenN] at ht
    refine ⟨?_, hH.drew.frozen _⟩
    rw [hH.drew.cell, Array.getElem?_eq_getElem (by omega)]; rfl
  obtain ⟨W1, hW1⟩ : ∃ W1, W1 = w.drew.setCells g (0 + k * 3) news := ⟨_, rfl⟩
  have hH1 : Has W1 g 44 (layAt cur (0 + k * 3) news) := by rw [hW1]; exact Has.layCells _ _ _ _ hH.drew
  have hk1 : Kept (fun j => j = g) w W1 := by rw [hW1]; exact Kept.then (F := fun j => j = g) ((Kept.refl _ w).drew) (Kept.layCells _ _ _)
  have hsz1 := layAt_size news cur (0 + k * 3)
  have hcl : ∀ ty, (Builtin.clear_ #[33] ty #[.slice (some ⟨g, (l.length - 1) * 3, none⟩) 1 (c - (l.length - 1))]).run Try.prog W1 = .ok (.tuple #[]) (W1.setCells g ((l.length - 1) * 3) (Builtin.zeroCells (Value.agg #[.int .i64 0, .int .u64 0, .int .i64 0]).cells 1).toList) :=
    fun ty => run_clear_part (size := 3) hH1 Try.underlying33 (by intro w; kernel_rfl) rfl (by decide) (by intro u hu; simp [Value.cells] at hu; rcases hu with rfl | rfl | rfl <;> rfl) (by decide) (by rw [hsz1, hs]; omega) ty
  have hfin : (W1.setCells g ((l.length - 1) * 3) (Builtin.zeroCells (Value.agg #[.int .i64 0, .int .u64 0, .int .i64 0]).cells 1).toList).ownsRow 0 44 3 (.slice (some ⟨g, 0, none⟩) (l.length - 1) c) (l.length - 1) (pcells (l.eraseIdx k)) := by
    have hH2 := Has.layCells (Builtin.zeroCells (Value.agg #[.int .i64 0, .int .u64 0, .int .i64 0]).cells 1).toList ((l.length - 1) * 3) _ _ hH1
    have hz3 : (Builtin.zeroCells (Value.agg #[.int .i64 0, .int .u64 0, .int .i64 0]).cells 1).toList.length = 3 := by kernel_rfl
    refine ⟨by rw [pcells_length, List.length_eraseIdx_of_lt hk], .inr ⟨g, c, _, rfl, Nat.zero_le _, hH2, by omega, hm, by rw [layAt_size, hsz1, hs], ?_⟩⟩
    rw [layAt_list _ _ _ (by rw [hsz1, hz3, hs]; omega), List.append_assoc, List.take_append_of_le_length (by have hz := hsz1; rw [← Array.length_toList] at hz; rw [List.length_take, hz, hs]; omega), List.take_of_length_le (by rw [List.length_take]; omega), layAt_list _ _ _ (by rw [hlenN]; omega)]
    have e1 : cur.toList.take (0 + k * 3) = pcells (l.take k) := by
      rw [pcells_take, ← htk, List.take_take]
      congr 1
      omega
    rw [e1, hnews, List.take_append_of_le_length (by simp [pcells_length]; omega), List.take_of_length_le (by simp [pcells_length]; omega), ← pcells_append, List.eraseIdx_eq_take_drop_succ, hj]
  have hkf : Kept (fun j => j = g) w (W1.setCells g ((l.length - 1) * 3) (Builtin.zeroCells (Value.agg #[.int .i64 0, .int .u64 0, .int .i64 0]).cells 1).toList) := hk1.then (Kept.layCells _ _ _)
  have HFIN := Lib.hid (And.intro hfin hkf)
  obtain ⟨W2, hW2⟩ : ∃ W2, W2 = W1.setCells g ((l.length - 1) * 3) (Builtin.zeroCells (Value.agg #[.int .i64 0, .int .u64 0, .int .i64 0]).cells 1).toList := ⟨_, rfl⟩
  rw [← hW2] at hcl HFIN
  have hW : Hid (W1 = w.drew.setCells g (0 + k * 3) news) := hW1
  have hic : k ≤ c := by omega
  have hjc : j ≤ c := by omega
  have hne : ¬ ((k : Int) = (j : Int)) := by omega
  have hkk : (j : Int) ≤ (l.length : Int) := by omega
  have hnk : k + (l.length - j) = l.length - 1 := by omega
  have hll : l.length - (l.length - 1) = 1 := by omega
  have hn1 : ((l.length - 1 : Nat) : Int) ≤ (l.length : Int) := by omega
  have hnc : l.length ≤ c := hn
  have hkj : (k : Int) ≤ (j : Int) := by omega
  have hjl : j ≤ l.length := by omega
  clear hj hk
  clear hfin hkf hW2 hW1 hH1 hk1 hsz1 hH hget hnews hlenN hs htk hm hl hb
  go_enter Try.func58, Try.ntmps58
  go_wp2_with fail
  go_region_law_o (refine step_append_room rfl (.tmp 22) (.tmp 25) 33 rfl 44 i0 3 Try.underlying33 hi hz1 g 0 k c (by simp [Act.eval, Act.put]) A (l.length - j) (c - j) news (by simp [Act.eval, Act.put, hA]) s1.out hsrc.out s2.out (by omega) s3.out ?_; rw [← hW.out, hnk])
  go_wp2
  go_ret
  exact ⟨rfl, HFIN.out⟩
end Mst
end Go.Proofs.Ytolipnnjeehnfaa
