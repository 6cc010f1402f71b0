/- The ether's linked list: what ahead, push, get and cut do to the list that stands behind a pointer. -/
import Derived.Test.YtploafhenmfmhaaChecked
import Derived.Test.YtploafhenmfmhaaBase
import Derived.WalkKit
import Derived.WalkSpells
import Derived.WalkLawsBesides
import Derived.Lib.Hide
import Derived.BigQuiet
import Derived.Deep.QuietTactic
set_option linter.unusedSimpArgs false
set_option linter.unusedVariables false
namespace Go.Proofs.Ytploafhenmfmhaa
open Go.RowKit
namespace Ether

/-- A packet: from, to, the body. -/
abbrev Pk := Int × Int × ByteArray
/-- The pointer to member j of a chain of blocks; nil behind its end. -/
def atA (bs : List Nat) (j : Nat) : Option Addr := match bs[j]? with | some b => some ⟨b, 0, none⟩ | none => none
/-- The pointer to the member ahead of j. -/
def prevA (bs : List Nat) (j : Nat) : Option Addr := match j with | 0 => none | i + 1 => atA bs i
def agg (p : Pk) : Value := .agg #[.int .i64 p.1, .int .i64 p.2.1, .string p.2.2]

def Chain (w : World) (bs : List Nat) (ps : List Pk) : Prop :=
  ∀ (i b : Nat) (p : Pk), bs[i]? = some b → ps[i]? = some p → Has w b 148 #[.int .i64 p.1, .int .i64 p.2.1, .string p.2.2, (.pointer (atA bs (i + 1)))]

structure ListAt (w : World) (lb : Nat) (bs : List Nat) (ps : List Pk) : Prop where
  head : Has w lb 101 #[(.pointer (atA bs 0)), (.pointer (prevA bs bs.length)), .int .i64 ps.length]
  len : bs.length = ps.length
  cells : Chain w bs ps
  nodup : bs.Nodup

theorem at_some {bs : List Nat} {j b : Nat} (h : bs[j]? = some b) : atA bs j = some ⟨b, 0, none⟩ := by unfold atA; rw [h]
theorem at_none {bs : List Nat} {j : Nat} (h : bs.length ≤ j) : atA bs j = none := by unfold atA; rw [List.getElem?_eq_none h]

theorem nodup_at {l : List Nat} (h : l.Nodup) {i j a : Nat} (hi : l[i]? = some a) (hj : l[j]? = some a) : i = j :=
  (List.getElem?_inj (List.getElem?_eq_some_iff.1 hi).1 h).1 (hi.trans hj.symm)
theorem ListAt.kept {F : Nat → Prop} {w w' : World} {lb : Nat} {bs : List Nat} {ps : List Pk} (h : ListAt w lb bs ps) (hk : Kept F w w') (hs : ∀ k, (k = lb ∨ k ∈ bs) → ¬ F k) : ListAt w' lb bs ps :=
  ⟨h.head.kept hk (hs _ (.inl rfl)), h.len, fun i b p hb hp => (h.cells i b p hb hp).kept hk (hs _ (.inr (List.mem_iff_getElem?.2 ⟨i, hb⟩))), h.nodup⟩
theorem ListAt.ne_type {w : World} {lb g : Nat} {bs : List Nat} {ps : List Pk} {t : TypeId} {cs : Array Value} (h : ListAt w lb bs ps) (hg : g ∈ bs) (hh : Has w g t cs) (hne : 148 ≠ t) : False := by
  obtain ⟨j, hj⟩ := List.mem_iff_getElem?.1 hg
  have hl : j < bs.length := (List.getElem?_eq_some_iff.1 hj).1
  exact (h.cells j g _ hj (List.getElem?_eq_getElem (by rw [← h.len]; exact hl))).ne hh hne rfl
theorem ListAt.lt {w : World} {lb : Nat} {bs : List Nat} {ps : List Pk} (h : ListAt w lb bs ps) : ∀ k, (k = lb ∨ k ∈ bs) → k < w.heap.size := by
  rintro k (rfl | hk)
  · exact h.head.lt
  · obtain ⟨j, hj⟩ := List.mem_iff_getElem?.1 hk
    have hl : j < bs.length := (List.getElem?_eq_some_iff.1 hj).1
    exact (h.cells j k _ hj (List.getElem?_eq_getElem (by rw [← h.len]; exact hl))).lt

set_option maxRecDepth 100000 in
theorem ahead_any {w : World} {lb : Nat} {bs : List Nat} {ps : List Pk} (h : ListAt w lb bs ps) (k : Nat) (hk : k ≤ ps.length) (hlen : ps.length ≤ 1000) :
    Calls Try.prog 98 #[.pointer (some ⟨lb, 0, none⟩), .int .i64 k] w fun e w' => e = .returned ((.pointer (prevA bs k))) ∧ ∃ n, w' = w.drewN n := by
  have c0 : w.cell? ⟨lb, 0, none⟩ = some ((.pointer (atA bs 0))) := h.head.cell 0
  have hl := h.len
  have HL := Lib.hid hl; clear hl
  have H := Lib.hid h; clear h
  go_enter Try.func98, Try.ntmps98
  go_wp2
  go_loopw [5, 6, 12] (fun v5 v6 v12 wr => ∃ j n : Nat, j ≤ k ∧ v12 = .int .i64 j ∧ v5 = (.pointer (prevA bs j)) ∧ v6 = (.pointer (atA bs j)) ∧ wr = w.drewN n) (fun _ _ i _ => k - (intOf i).toNat)
  case atStart => exact ⟨0, 0, Nat.zero_le _, rfl, rfl, rfl, rfl⟩
  case round =>
    obtain ⟨j, n, hj, rfl, rfl, h6, rfl⟩ := hrel
    by_cases hlt : j < k
    · obtain ⟨b, hb⟩ : ∃ b, bs[j]? = some b := ⟨_, List.getElem?_eq_getElem (by have := HL.out; omega)⟩
      obtain ⟨p, hp⟩ : ∃ p, ps[j]? = some p := ⟨_, List.getElem?_eq_getElem (by omega)⟩
      have c3 : w.cell? ⟨b, 3, none⟩ = some ((.pointer (atA bs (j + 1)))) := (H.out.cells j b p hb hp).cell 3
      rw [at_some hb] at h6
      subst h6
      have HB := Lib.hid hb; clear hb
      have HP := Lib.hid hp; clear hp
      go_wp2
      go_quiet (fail)
      go_wp2
      go_roundw
      case rel => exact ⟨j + 1, _, by omega, by go_num, congrArg Value.pointer (at_some HB.out).symm, rfl, rfl⟩
      case measure => simp [intOf]; omega
    · go_wp2
      obtain rfl : j = k := by omega
      go_ret
      exact ⟨rfl, _, rfl⟩

theorem at_lt {bs : List Nat} {b j : Nat} (h : j < bs.length) : atA (bs ++ [b]) j = atA bs j := by unfold atA; rw [List.getElem?_append_left h]
theorem at_eq {bs : List Nat} {b j : Nat} (h : j = bs.length) : atA (bs ++ [b]) j = some ⟨b, 0, none⟩ := at_some (by rw [h]; simp)
theorem prev_snoc (bs : List Nat) (b : Nat) : prevA (bs ++ [b]) (bs ++ [b]).length = some ⟨b, 0, none⟩ := by
  rw [List.length_append]
  exact at_eq rfl
theorem get_snoc {α : Type} {l : List α} {x y : α} {i : Nat} (h : (l ++ [x])[i]? = some y) : l[i]? = some y ∨ (i = l.length ∧ y = x) := by
  rcases Nat.lt_or_ge i l.length with h1 | h1
  · rw [List.getElem?_append_left h1] at h; exact .inl h
  · rw [List.getElem?_append_right h1] at h
    cases hk : i - l.length with
    | zero => rw [hk] at h; exact .inr ⟨by omega, by simpa using h.symm⟩
    | succ k => rw [hk] at h; simp at h

set_option maxRecDepth 100000 in
theorem push_any {w : World} {lb : Nat} {bs : List Nat} {ps : List Pk} (h : ListAt w lb bs ps) (p : Pk) (hlen : ps.length ≤ 1000) :
    Calls Try.prog 68 #[.pointer (some ⟨lb, 0, none⟩), agg p] w fun e w' => e = .returned (.tuple #[]) ∧ ∃ b, w.heap.size ≤ b ∧ ListAt w' lb (bs ++ [b]) (ps ++ [p]) ∧ Kept (fun k => k = lb ∨ k ∈ bs) w w' := by
  have c0 : w.cell? ⟨lb, 0, none⟩ = some ((.pointer (atA bs 0))) := h.head.cell 0
  have c1 : w.cell? ⟨lb, 1, none⟩ = some ((.pointer (prevA bs bs.length))) := h.head.cell 1
  have c2 : w.cell? ⟨lb, 2, none⟩ = some (.int .i64 ps.length) := h.head.cell 2
  have f0 := h.head.frozen 0
  have f1 := h.head.frozen 1
  have f2 := h.head.frozen 2
  have hlb : lb < w.heap.size := h.head.lt
  obtain ⟨p1, p2, p3⟩ := p
  have hl := h.len
  rcases Nat.eq_zero_or_pos bs.length with h0 | h0
  · obtain rfl : bs = [] := List.eq_nil_of_length_eq_zero h0
    obtain rfl : ps = [] := List.eq_nil_of_length_eq_zero (by simpa using hl.symm)
    have H := Lib.hid h; clear h hl h0
    unfold agg
    rw [show prevA [] (([] : List Nat)).length = none from rfl] at c1
    go_enter Try.func68, Try.ntmps68
    go_wp2
    go_end0
    refine ⟨rfl, w.heap.size + 1, by omega, ⟨((((H.out.head.put 0 _).put 1 _).put 2 _).alloc _).alloc _, rfl, ?_, by simp⟩, ?_⟩
    · intro i b q hb hq
      match i, hb, hq with
      | 0, hb, hq =>
        simp at hb hq
        subst hb
        subst hq
        exact Has.new_at _ _ _ (by simp)
    · exact ((((Kept.refl _ _).setCell (.inl (.inl rfl)) _).setCell (.inl (.inl rfl)) _).setCell (.inl (.inl rfl)) _ |>.alloc _).alloc _
  · obtain ⟨n, hn⟩ : ∃ n, bs.length = n + 1 := ⟨bs.length - 1, by omega⟩
    obtain ⟨bl, hbl⟩ : ∃ b, bs[n]? = some b := ⟨_, List.getElem?_eq_getElem (by omega)⟩
    obtain ⟨q, hq⟩ : ∃ q, ps[n]? = some q := ⟨_, List.getElem?_eq_getElem (by omega)⟩
    have hcl := h.cells n bl q hbl hq
    have hne : lb ≠ bl := h.head.ne hcl (by decide)
    have c3 : w.cell? ⟨bl, 3, none⟩ = some ((.pointer (atA bs (n + 1)))) := hcl.cell 3
    have f3 := hcl.frozen 3
    have hbl2 : bl < w.heap.size := hcl.lt
    rw [hn] at c1
    rw [show prevA bs (n + 1) = (some ⟨bl, 0, none⟩) from at_some hbl] at c1
    have HBL := Lib.hid hbl; clear hbl
    have HCL := Lib.hid hcl; clear hcl
    have HN := Lib.hid hn; clear hn hl h0 hq
    have H := Lib.hid h; clear h
    unfold agg
    go_enter Try.func68, Try.ntmps68
    go_wp2
    go_end0
    have hl2 : ps.length = n + 1 := by rw [← H.out.len]; exact HN.out
    refine ⟨rfl, w.heap.size + 1, by omega, ⟨?_, by simp [H.out.len], ?_, ?_⟩, ?_⟩
    · have hh := (((((H.out.head.far (p := ⟨bl, 3, none⟩) hne (Value.pointer (some ⟨w.heap.size + 1, 0, none⟩))).put 1 (Value.pointer (some ⟨w.heap.size + 1, 0, none⟩))).put 2 (Value.int IntKind.i64 (↑ps.length + 1))).alloc (Obj.cells #[Value.int IntKind.i64 p1, Value.int IntKind.i64 p2, Value.string p3] 36)).alloc (Obj.cells #[Value.int IntKind.i64 p1, Value.int IntKind.i64 p2, Value.string p3, Value.pointer none] 148))
      rw [prev_snoc, at_lt (by rw [HN.out]; omega), List.length_append]
      exact hh
    · intro i b r hb hr
      rcases get_snoc hb with hb | ⟨hi, rfl⟩
      · have hi : i < bs.length := (List.getElem?_eq_some_iff.1 hb).1
        rw [List.getElem?_append_left (by rw [← H.out.len]; exact hi)] at hr
        have hc := H.out.cells i b r hb hr
        have hnl : b ≠ lb := fun e => (H.out.head.ne hc (by decide)) e.symm
        by_cases hin : i = n
        · subst hin
          obtain rfl : b = bl := by have := HBL.out; rw [hb] at this; injection this
          rw [at_eq (by rw [HN.out])]
          exact ((((hc.put 3 _).far (p := ⟨lb, 1, none⟩) hnl _).far (p := ⟨lb, 2, none⟩) hnl _).alloc _).alloc _
        · have hbb : b ≠ bl := by
            intro e; subst e
            have h2 := HBL.out
            exact hin (nodup_at H.out.nodup hb h2)
          rw [at_lt (by rw [HN.out] at hi ⊢; omega)]
          exact ((((hc.far (p := ⟨bl, 3, none⟩) hbb _).far (p := ⟨lb, 1, none⟩) hnl _).far (p := ⟨lb, 2, none⟩) hnl _).alloc _).alloc _
      · rw [hi, H.out.len] at hr
        simp at hr
        subst hr
        rw [at_none (by rw [List.length_append, hi]; exact Nat.le_refl _)]
        exact Has.new_at _ _ _ (by simp)
    · rw [List.nodup_append]
      refine ⟨H.out.nodup, by simp, ?_⟩
      intro x hx y hy
      rw [List.mem_singleton] at hy
      obtain ⟨j, hj⟩ := List.mem_iff_getElem?.1 hx
      have hjl : j < bs.length := (List.getElem?_eq_some_iff.1 hj).1
      have := (H.out.cells j x _ hj (List.getElem?_eq_getElem (by rw [← H.out.len]; exact hjl))).lt
      omega
    · refine (((Kept.refl _ _).setCell (.inl (.inr ?_)) _).setCell (.inl (.inl rfl)) _ |>.setCell (.inl (.inl rfl)) _ |>.alloc _).alloc _
      exact List.mem_iff_getElem?.2 ⟨n, HBL.out⟩

/-- What stands at a place, out of its block. -/
theorem get_any {w : World} {lb : Nat} {bs : List Nat} {ps : List Pk} (h : ListAt w lb bs ps) (k : Nat) (p : Pk) (hp : ps[k]? = some p) (hlen : ps.length ≤ 1000) :
    Calls Try.prog 73 #[.pointer (some ⟨lb, 0, none⟩), .int .i64 k] w fun e w' => e = .returned (agg p) ∧ Kept NoF w w' := by
  have hk : k < ps.length := (List.getElem?_eq_some_iff.1 hp).1
  obtain ⟨b, hb⟩ : ∃ b, bs[k]? = some b := ⟨_, List.getElem?_eq_getElem (by rw [h.len]; exact hk)⟩
  have hc := h.cells k b p hb hp
  have c0 : w.cell? ⟨b, 0, none⟩ = some (.int .i64 p.1) := hc.cell 0
  have c1 : w.cell? ⟨b, 1, none⟩ = some (.int .i64 p.2.1) := hc.cell 1
  have c2 : w.cell? ⟨b, 2, none⟩ = some (.string p.2.2) := hc.cell 2
  have hbl := hc.lt
  have ha : ∀ W : World, Kept NoF w W → Calls Try.prog 98 #[.pointer (some ⟨lb, 0, none⟩), .int .i64 k] W fun e w' => e = .returned ((.pointer (prevA bs k))) ∧ ∃ n, w' = W.drewN n :=
    fun W hW => ahead_any (h.kept hW fun _ _ x => x) k (by omega) hlen
  have HA := Lib.hid ha; clear ha
  match k, hb, hp, hk with
  | 0, hb, hp, hk =>
    have d0 : w.cell? ⟨lb, 0, none⟩ = some (.pointer (some ⟨b, 0, none⟩)) := by rw [← at_some hb]; exact h.head.cell 0
    have hlb := h.head.lt
    have H := Lib.hid h; clear h hb hp hc
    go_enter Try.func73, Try.ntmps73
    go_wp2_with fail
    refine (HA.out _ ((Kept.refl _ _).alloc _)).mono ?_
    rintro e w' ⟨rfl, n, rfl⟩
    rw [show prevA bs 0 = none from rfl]
    go_wp2
    exact bodyPost_ret (v := agg p) (by simp [results, Try.results73, go_sem, agg]) rfl ⟨rfl, by repeat (first | exact Kept.refl _ _ | refine Kept.setCell ?_ (.inr (by simp)) _ | refine Kept.drewN ?_ _ | refine Kept.alloc ?_ _)⟩
  | k + 1, hb, hp, hk =>
    obtain ⟨a, ha⟩ : ∃ a, bs[k]? = some a := ⟨_, List.getElem?_eq_getElem (by rw [h.len]; omega)⟩
    obtain ⟨q, hq⟩ : ∃ q, ps[k]? = some q := ⟨_, List.getElem?_eq_getElem (by omega)⟩
    have hca := h.cells k a q ha hq
    have d3 : w.cell? ⟨a, 3, none⟩ = some (.pointer (some ⟨b, 0, none⟩)) := by rw [← at_some hb]; exact hca.cell 3
    have hal := hca.lt
    have hpr : prevA bs (k + 1) = some ⟨a, 0, none⟩ := at_some ha
    have HPR := Lib.hid hpr; clear hpr
    have H := Lib.hid h; clear h hb hp hc hca ha hq
    go_enter Try.func73, Try.ntmps73
    go_wp2_with fail
    refine (HA.out _ ((Kept.refl _ _).alloc _)).mono ?_
    rintro e w' ⟨rfl, n, rfl⟩
    rw [HPR.out]
    go_wp2
    exact bodyPost_ret (v := agg p) (by simp [results, Try.results73, go_sem, agg]) rfl ⟨rfl, by repeat (first | exact Kept.refl _ _ | refine Kept.setCell ?_ (.inr (by simp)) _ | refine Kept.drewN ?_ _ | refine Kept.alloc ?_ _)⟩

theorem atA_erase (bs : List Nat) (k j : Nat) : atA (bs.eraseIdx k) j = if j < k then atA bs j else atA bs (j + 1) := by
  unfold atA
  rw [List.getElem?_eraseIdx]
  by_cases h : j < k
  · rw [if_pos h, if_pos h]
  · rw [if_neg h, if_neg h]

theorem list_cut {w w' : World} {lb : Nat} {bs : List Nat} {ps : List Pk} {k j : Nat} (h : ListAt w lb bs ps) (hk : k < ps.length) (hj : bs.length = j + 1)
    (hhead : Has w' lb 101 #[.pointer (if k = 0 then atA bs 1 else atA bs 0), .pointer (if k = j then prevA bs k else atA bs j), .int .i64 ((ps.length : Int) - 1)])
    (hcells : ∀ i b p, bs[i]? = some b → ps[i]? = some p → i ≠ k → Has w' b 148 #[.int .i64 p.1, .int .i64 p.2.1, .string p.2.2, .pointer (if i + 1 = k then atA bs (k + 1) else atA bs (i + 1))]) :
    ListAt w' lb (bs.eraseIdx k) (ps.eraseIdx k) := by
  have hl := h.len
  have l1 : (bs.eraseIdx k).length = j := by rw [List.length_eraseIdx]; split <;> omega
  have l2 : (ps.eraseIdx k).length = j := by rw [List.length_eraseIdx]; split <;> omega
  refine ⟨?_, by rw [l1, l2], ?_, h.nodup.sublist (List.eraseIdx_sublist bs k)⟩
  · have e1 : atA (bs.eraseIdx k) 0 = if k = 0 then atA bs 1 else atA bs 0 := by
      rw [atA_erase]
      by_cases h0 : k = 0
      · rw [if_neg (by omega), if_pos h0]
      · rw [if_pos (by omega), if_neg h0]
    have e2 : prevA (bs.eraseIdx k) (bs.eraseIdx k).length = if k = j then prevA bs k else atA bs j := by
      rw [l1]
      cases j with
      | zero => rw [if_pos (by omega)]; obtain rfl : k = 0 := by omega
                rfl
      | succ i =>
        show atA (bs.eraseIdx k) i = _
        rw [atA_erase]
        by_cases h0 : k = i + 1
        · rw [if_pos (by omega), if_pos h0, h0]; rfl
        · rw [if_neg (by omega), if_neg h0]
    rw [e1, e2, l2, show ((j : Nat) : Int) = (ps.length : Int) - 1 by omega]
    exact hhead
  · intro i b p hb hp
    rw [List.getElem?_eraseIdx] at hb hp
    rw [atA_erase]
    by_cases hik : i < k
    · rw [if_pos hik] at hb hp
      have := hcells i b p hb hp (by omega)
      by_cases h0 : i + 1 = k
      · rw [if_neg (by omega), h0]
        rw [if_pos h0] at this
        exact this
      · rw [if_pos (by omega)]
        rw [if_neg h0] at this
        exact this
    · rw [if_neg hik] at hb hp
      have := hcells (i + 1) b p hb hp (by omega)
      rw [if_neg (by omega)] at this ⊢
      exact this

set_option maxRecDepth 100000 in
theorem cut_only {w : World} {lb : Nat} {bs : List Nat} {ps : List Pk} (h : ListAt w lb bs ps) (_u : Nat) (hj : bs.length = 0 + 1) (p : Pk) (hp : ps[0]? = some p) (hlen : ps.length ≤ 1000) :
    Calls Try.prog 70 #[.pointer (some ⟨lb, 0, none⟩), .int .i64 0] w fun e w' => e = .returned (agg p) ∧ ListAt w' lb (bs.eraseIdx (0)) (ps.eraseIdx (0)) ∧ Kept (fun k => k = lb ∨ k ∈ bs) w w' := by
  have hk : 0 < ps.length := (List.getElem?_eq_some_iff.1 hp).1
  obtain ⟨b, hb⟩ : ∃ b, bs[0]? = some b := ⟨_, List.getElem?_eq_getElem (by rw [h.len]; exact hk)⟩
  have hc := h.cells 0 b p hb hp
  have c0 : w.cell? ⟨b, 0, none⟩ = some (.int .i64 p.1) := hc.cell 0
  have c1 : w.cell? ⟨b, 1, none⟩ = some (.int .i64 p.2.1) := hc.cell 1
  have c2 : w.cell? ⟨b, 2, none⟩ = some (.string p.2.2) := hc.cell 2
  have c3 : w.cell? ⟨b, 3, none⟩ = some (.pointer (atA bs (0 + 1))) := hc.cell 3
  have hbl := hc.lt
  have hlb := h.head.lt
  have hnb : lb ≠ b := h.head.ne hc (by decide)
  have d1 : w.cell? ⟨lb, 1, none⟩ = some (.pointer (prevA bs bs.length)) := h.head.cell 1
  have d2 : w.cell? ⟨lb, 2, none⟩ = some (.int .i64 ps.length) := h.head.cell 2
  have f0 := h.head.frozen 0
  have f1 := h.head.frozen 1
  have f2 := h.head.frozen 2
  have ha : ∀ W : World, Kept NoF w W → Calls Try.prog 98 #[.pointer (some ⟨lb, 0, none⟩), .int .i64 0] W fun e w' => e = .returned (.pointer (prevA bs 0)) ∧ ∃ n, w' = W.drewN n :=
    fun W hW => ahead_any (h.kept hW fun _ _ x => x) 0 (by omega) hlen
  have HA := Lib.hid ha; clear ha
  obtain ⟨z, hz⟩ : ∃ z, bs[0]? = some z := ⟨_, List.getElem?_eq_getElem (by omega)⟩
  obtain ⟨q, hq⟩ : ∃ q, ps[0]? = some q := ⟨_, List.getElem?_eq_getElem (by have := h.len; omega)⟩
  have hcz := h.cells 0 z q hz hq
  have hzl := hcz.lt
  have hlz : lb ≠ z := h.head.ne hcz (by decide)
  rw [hj, show prevA bs (0 + 1) = some ⟨z, 0, none⟩ from at_some hz] at d1
  have hpl : (ps.length : Int) = (0 : Nat) + 1 := by have := h.len; omega
  have HPL := Lib.hid hpl; clear hpl
  obtain ⟨i0, hi, hz0, hz1, hz2⟩ := info_parts (show (Try.prog.info? 148).map (fun i => (i.zero, i.size, i.bytes)) = some (some (.agg #[.int .i64 0, .int .i64 0, .string ⟨#[]⟩, .pointer none]), 4, 40) by kernel_rfl)
  obtain rfl : z = b := by rw [hb] at hz; injection hz with e; exact e.symm
  have hpe : ∀ W : World, (binOp .eql 99 (.pointer (some ⟨z, 0, none⟩)) (.pointer (some ⟨z, 0, none⟩))).run Try.prog W = .ok (.bool true) W := fun W =>
    run_eql_ptr_same W _ Try.underlying99 hi
  have d0 : w.cell? ⟨lb, 0, none⟩ = some (.pointer (some ⟨z, 0, none⟩)) := by rw [← at_some hb]; exact h.head.cell 0
  have H := Lib.hid h; clear h hb hp hc hz hq hcz
  have HJ := Lib.hid hj; clear hj
  go_enter Try.func70, Try.ntmps70
  go_wp2_with fail
  refine (HA.out _ ((Kept.refl _ _).alloc _)).mono ?_
  rintro e w' ⟨rfl, n, rfl⟩
  rw [show prevA bs 0 = none from rfl]
  go_wp2
  refine bodyPost_ret (v := agg p) (by simp [results, Try.results70, go_sem, agg]) rfl ⟨rfl, ?_, ?_⟩
  · have B0 := H.out.head
    refine list_cut H.out hk HJ.out ?_ ?_
    · rw [if_pos rfl, if_pos rfl]
      ((repeat (first | with_reducible exact B0 | with_reducible apply Has.put_of | with_reducible apply Has.past | with_reducible apply Has.drewN | with_reducible apply Has.alloc)) <;> first | omega | rfl)
    · intro i b' p' hb' hp' hne
      exact absurd (List.getElem?_eq_some_iff.1 hb').1 (by rw [HJ.out]; omega)
  · repeat' (first | with_reducible exact Kept.refl _ _ | with_reducible refine Kept.put ?_ ?_ | with_reducible refine Kept.drewN ?_ _ | with_reducible refine Kept.alloc ?_ _ | (left; first | (left; with_reducible rfl) | (with_reducible rfl) | (right; with_reducible rfl)) | (left; right; assumption) | (right; simp; done))

set_option maxRecDepth 100000 in
theorem cut_last {w : World} {lb : Nat} {bs : List Nat} {ps : List Pk} (h : ListAt w lb bs ps) (m : Nat) (hj : bs.length = (m + 1) + 1) (p : Pk) (hp : ps[m + 1]? = some p) (hlen : ps.length ≤ 1000) :
    Calls Try.prog 70 #[.pointer (some ⟨lb, 0, none⟩), .int .i64 (↑(m + 1))] w fun e w' => e = .returned (agg p) ∧ ListAt w' lb (bs.eraseIdx (m + 1)) (ps.eraseIdx (m + 1)) ∧ Kept (fun k => k = lb ∨ k ∈ bs) w w' := by
  have hk : (m + 1) < ps.length := (List.getElem?_eq_some_iff.1 hp).1
  obtain ⟨b, hb⟩ : ∃ b, bs[(m + 1)]? = some b := ⟨_, List.getElem?_eq_getElem (by rw [h.len]; exact hk)⟩
  have hc := h.cells (m + 1) b p hb hp
  have c0 : w.cell? ⟨b, 0, none⟩ = some (.int .i64 p.1) := hc.cell 0
  have c1 : w.cell? ⟨b, 1, none⟩ = some (.int .i64 p.2.1) := hc.cell 1
  have c2 : w.cell? ⟨b, 2, none⟩ = some (.string p.2.2) := hc.cell 2
  have c3 : w.cell? ⟨b, 3, none⟩ = some (.pointer (atA bs ((m + 1) + 1))) := hc.cell 3
  have hbl := hc.lt
  have hlb := h.head.lt
  have hnb : lb ≠ b := h.head.ne hc (by decide)
  have d1 : w.cell? ⟨lb, 1, none⟩ = some (.pointer (prevA bs bs.length)) := h.head.cell 1
  have d2 : w.cell? ⟨lb, 2, none⟩ = some (.int .i64 ps.length) := h.head.cell 2
  have f0 := h.head.frozen 0
  have f1 := h.head.frozen 1
  have f2 := h.head.frozen 2
  have ha : ∀ W : World, Kept NoF w W → Calls Try.prog 98 #[.pointer (some ⟨lb, 0, none⟩), .int .i64 (↑(m + 1))] W fun e w' => e = .returned (.pointer (prevA bs (m + 1))) ∧ ∃ n, w' = W.drewN n :=
    fun W hW => ahead_any (h.kept hW fun _ _ x => x) (m + 1) (by omega) hlen
  have HA := Lib.hid ha; clear ha
  obtain ⟨z, hz⟩ : ∃ z, bs[(m + 1)]? = some z := ⟨_, List.getElem?_eq_getElem (by omega)⟩
  obtain ⟨q, hq⟩ : ∃ q, ps[(m + 1)]? = some q := ⟨_, List.getElem?_eq_getElem (by have := h.len; omega)⟩
  have hcz := h.cells (m + 1) z q hz hq
  have hzl := hcz.lt
  have hlz : lb ≠ z := h.head.ne hcz (by decide)
  rw [hj, show prevA bs ((m + 1) + 1) = some ⟨z, 0, none⟩ from at_some hz] at d1
  have hpl : (ps.length : Int) = ((m + 1) : Nat) + 1 := by have := h.len; omega
  have HPL := Lib.hid hpl; clear hpl
  obtain ⟨i0, hi, hz0, hz1, hz2⟩ := info_parts (show (Try.prog.info? 148).map (fun i => (i.zero, i.size, i.bytes)) = some (some (.agg #[.int .i64 0, .int .i64 0, .string ⟨#[]⟩, .pointer none]), 4, 40) by kernel_rfl)
  obtain rfl : z = b := by rw [hb] at hz; injection hz with e; exact e.symm
  obtain ⟨a, ha⟩ : ∃ a, bs[m]? = some a := ⟨_, List.getElem?_eq_getElem (by omega)⟩
  obtain ⟨r, hr⟩ : ∃ r, ps[m]? = some r := ⟨_, List.getElem?_eq_getElem (by omega)⟩
  have hca := h.cells m a r ha hr
  have d3 : w.cell? ⟨a, 3, none⟩ = some (.pointer (some ⟨z, 0, none⟩)) := by rw [← at_some hb]; exact hca.cell 3
  have d0 : w.cell? ⟨lb, 0, none⟩ = some (.pointer (atA bs 0)) := h.head.cell 0
  have g3 := hca.frozen 3
  have hal := hca.lt
  have hna : lb ≠ a := h.head.ne hca (by decide)
  have hba : z ≠ a := fun e => absurd (nodup_at h.nodup hb (e ▸ ha)) (by omega)
  have hpa : prevA bs (m + 1) = some ⟨a, 0, none⟩ := at_some ha
  have HPA := Lib.hid hpa; clear hpa
  have hamem : a ∈ bs := List.mem_iff_getElem?.2 ⟨m, ha⟩
  have hpe : ∀ W : World, (binOp .eql 99 (.pointer (some ⟨z, 0, none⟩)) (.pointer (some ⟨z, 0, none⟩))).run Try.prog W = .ok (.bool true) W := fun W =>
    run_eql_ptr_same W _ Try.underlying99 hi
  have H := Lib.hid h; clear h hb hp hc hz hq hcz
  have HJ := Lib.hid hj; clear hj
  have HAA := Lib.hid ha; clear ha
  clear hca hr
  go_enter Try.func70, Try.ntmps70
  go_wp2_with fail
  refine (HA.out _ ((Kept.refl _ _).alloc _)).mono ?_
  rintro e w' ⟨rfl, n, rfl⟩
  rw [HPA.out]
  go_wp2
  refine bodyPost_ret (v := agg p) (by simp [results, Try.results70, go_sem, agg]) rfl ⟨rfl, ?_, ?_⟩
  · have B0 := H.out.head
    refine list_cut H.out hk HJ.out ?_ ?_
    · rw [if_neg (by omega), if_pos rfl, HPA.out]
      ((repeat (first | with_reducible exact B0 | with_reducible apply Has.put_of | with_reducible apply Has.past | with_reducible apply Has.drewN | with_reducible apply Has.alloc)) <;> first | omega | rfl)
    · intro i b' p' hb' hp' hne
      have hcc := H.out.cells i b' p' hb' hp'
      have hlc : lb ≠ b' := H.out.head.ne hcc (by decide)
      have hsz := hcc.lt
      by_cases him : i = m
      · subst him
        obtain rfl : b' = a := by have := HAA.out; rw [hb'] at this; injection this
        rw [if_pos rfl]
        ((repeat (first | with_reducible exact hcc | with_reducible apply Has.put_of | with_reducible apply Has.past | with_reducible apply Has.drewN | with_reducible apply Has.alloc)) <;> first | omega | rfl)
      · have hnb' : b' ≠ a := fun e => him (nodup_at H.out.nodup hb' (e ▸ HAA.out))
        rw [if_neg (by omega)]
        ((repeat (first | with_reducible exact hcc | with_reducible apply Has.put_of | with_reducible apply Has.past | with_reducible apply Has.drewN | with_reducible apply Has.alloc)) <;> first | omega | rfl)
  · repeat' (first | with_reducible exact Kept.refl _ _ | with_reducible refine Kept.put ?_ ?_ | with_reducible refine Kept.drewN ?_ _ | with_reducible refine Kept.alloc ?_ _ | (left; first | (left; with_reducible rfl) | (with_reducible rfl) | (right; with_reducible rfl)) | (left; right; assumption) | (right; simp; done))

set_option maxRecDepth 100000 in
theorem cut_first {w : World} {lb : Nat} {bs : List Nat} {ps : List Pk} (h : ListAt w lb bs ps) (j : Nat) (hj : bs.length = j + 1) (hlt : 0 < j) (p : Pk) (hp : ps[0]? = some p) (hlen : ps.length ≤ 1000) :
    Calls Try.prog 70 #[.pointer (some ⟨lb, 0, none⟩), .int .i64 0] w fun e w' => e = .returned (agg p) ∧ ListAt w' lb (bs.eraseIdx (0)) (ps.eraseIdx (0)) ∧ Kept (fun k => k = lb ∨ k ∈ bs) w w' := by
  have hk : 0 < ps.length := (List.getElem?_eq_some_iff.1 hp).1
  obtain ⟨b, hb⟩ : ∃ b, bs[0]? = some b := ⟨_, List.getElem?_eq_getElem (by rw [h.len]; exact hk)⟩
  have hc := h.cells 0 b p hb hp
  have c0 : w.cell? ⟨b, 0, none⟩ = some (.int .i64 p.1) := hc.cell 0
  have c1 : w.cell? ⟨b, 1, none⟩ = some (.int .i64 p.2.1) := hc.cell 1
  have c2 : w.cell? ⟨b, 2, none⟩ = some (.string p.2.2) := hc.cell 2
  have c3 : w.cell? ⟨b, 3, none⟩ = some (.pointer (atA bs (0 + 1))) := hc.cell 3
  have hbl := hc.lt
  have hlb := h.head.lt
  have hnb : lb ≠ b := h.head.ne hc (by decide)
  have d1 : w.cell? ⟨lb, 1, none⟩ = some (.pointer (prevA bs bs.length)) := h.head.cell 1
  have d2 : w.cell? ⟨lb, 2, none⟩ = some (.int .i64 ps.length) := h.head.cell 2
  have f0 := h.head.frozen 0
  have f1 := h.head.frozen 1
  have f2 := h.head.frozen 2
  have ha : ∀ W : World, Kept NoF w W → Calls Try.prog 98 #[.pointer (some ⟨lb, 0, none⟩), .int .i64 0] W fun e w' => e = .returned (.pointer (prevA bs 0)) ∧ ∃ n, w' = W.drewN n :=
    fun W hW => ahead_any (h.kept hW fun _ _ x => x) 0 (by omega) hlen
  have HA := Lib.hid ha; clear ha
  obtain ⟨z, hz⟩ : ∃ z, bs[j]? = some z := ⟨_, List.getElem?_eq_getElem (by omega)⟩
  obtain ⟨q, hq⟩ : ∃ q, ps[j]? = some q := ⟨_, List.getElem?_eq_getElem (by have := h.len; omega)⟩
  have hcz := h.cells j z q hz hq
  have hzl := hcz.lt
  have hlz : lb ≠ z := h.head.ne hcz (by decide)
  rw [hj, show prevA bs (j + 1) = some ⟨z, 0, none⟩ from at_some hz] at d1
  have hpl : (ps.length : Int) = (j : Nat) + 1 := by have := h.len; omega
  have HPL := Lib.hid hpl; clear hpl
  obtain ⟨i0, hi, hz0, hz1, hz2⟩ := info_parts (show (Try.prog.info? 148).map (fun i => (i.zero, i.size, i.bytes)) = some (some (.agg #[.int .i64 0, .int .i64 0, .string ⟨#[]⟩, .pointer none]), 4, 40) by kernel_rfl)
  have d0 : w.cell? ⟨lb, 0, none⟩ = some (.pointer (some ⟨b, 0, none⟩)) := by rw [← at_some hb]; exact h.head.cell 0
  have hzb : z ≠ b := fun e => absurd (nodup_at h.nodup hb (e ▸ hz)) (by omega)
  have hpe : ∀ W : World, Kept (fun k => k = lb) w W → (binOp .eql 99 (.pointer (some ⟨z, 0, none⟩)) (.pointer (some ⟨b, 0, none⟩))).run Try.prog W = .ok (.bool false) W := fun W hW =>
    run_eql_ptr_other W Try.underlying99 hi (by omega) (fun e => hzb (by injection e)) (hcz.kept hW (fun e => hlz e.symm)) (hc.kept hW (fun e => hnb e.symm))
  have HZ := Lib.hid hz; clear hz
  have H := Lib.hid h; clear h hb hp hc hq hcz
  have HJ := Lib.hid hj; clear hj
  have HPE := Lib.hid hpe; clear hpe
  go_enter Try.func70, Try.ntmps70
  go_wp2_with fail
  refine (HA.out _ ((Kept.refl _ _).alloc _)).mono ?_
  rintro e w' ⟨rfl, n, rfl⟩
  rw [show prevA bs 0 = none from rfl]
  go_wp2
  rw [HPE.out]
  rotate_left
  · repeat' (first | with_reducible exact Kept.refl _ _ | with_reducible refine Kept.put ?_ ?_ | with_reducible refine Kept.drewN ?_ _ | with_reducible refine Kept.alloc ?_ _ | (left; first | (left; with_reducible rfl) | (with_reducible rfl) | (right; with_reducible rfl)) | (left; right; assumption) | (right; simp; done))
  go_wp2
  refine bodyPost_ret (v := agg p) (by simp [results, Try.results70, go_sem, agg]) rfl ⟨rfl, ?_, ?_⟩
  · have B0 := H.out.head
    refine list_cut H.out hk HJ.out ?_ ?_
    · rw [if_pos rfl, if_neg (by omega)]
      have hzj : atA bs j = some ⟨z, 0, none⟩ := at_some HZ.out
      rw [HJ.out, show prevA bs (j + 1) = atA bs j from rfl, hzj] at B0
      rw [hzj]
      ((repeat (first | with_reducible exact B0 | with_reducible apply Has.put_of | with_reducible apply Has.past | with_reducible apply Has.drewN | with_reducible apply Has.alloc)) <;> first | omega | rfl)
    · intro i b' p' hb' hp' hne
      have hcc := H.out.cells i b' p' hb' hp'
      have hlc : lb ≠ b' := H.out.head.ne hcc (by decide)
      have hsz := hcc.lt
      rw [if_neg (by omega)]
      ((repeat (first | with_reducible exact hcc | with_reducible apply Has.put_of | with_reducible apply Has.past | with_reducible apply Has.drewN | with_reducible apply Has.alloc)) <;> first | omega | rfl)
  · repeat' (first | with_reducible exact Kept.refl _ _ | with_reducible refine Kept.put ?_ ?_ | with_reducible refine Kept.drewN ?_ _ | with_reducible refine Kept.alloc ?_ _ | (left; first | (left; with_reducible rfl) | (with_reducible rfl) | (right; with_reducible rfl)) | (left; right; assumption) | (right; simp; done))

set_option maxRecDepth 100000 in
theorem cut_mid {w : World} {lb : Nat} {bs : List Nat} {ps : List Pk} (h : ListAt w lb bs ps) (m j : Nat) (hj : bs.length = j + 1) (hlt : m + 1 < j) (p : Pk) (hp : ps[m + 1]? = some p) (hlen : ps.length ≤ 1000) :
    Calls Try.prog 70 #[.pointer (some ⟨lb, 0, none⟩), .int .i64 (↑(m + 1))] w fun e w' => e = .returned (agg p) ∧ ListAt w' lb (bs.eraseIdx (m + 1)) (ps.eraseIdx (m + 1)) ∧ Kept (fun k => k = lb ∨ k ∈ bs) w w' := by
  have hk : (m + 1) < ps.length := (List.getElem?_eq_some_iff.1 hp).1
  obtain ⟨b, hb⟩ : ∃ b, bs[(m + 1)]? = some b := ⟨_, List.getElem?_eq_getElem (by rw [h.len]; exact hk)⟩
  have hc := h.cells (m + 1) b p hb hp
  have c0 : w.cell? ⟨b, 0, none⟩ = some (.int .i64 p.1) := hc.cell 0
  have c1 : w.cell? ⟨b, 1, none⟩ = some (.int .i64 p.2.1) := hc.cell 1
  have c2 : w.cell? ⟨b, 2, none⟩ = some (.string p.2.2) := hc.cell 2
  have c3 : w.cell? ⟨b, 3, none⟩ = some (.pointer (atA bs ((m + 1) + 1))) := hc.cell 3
  have hbl := hc.lt
  have hlb := h.head.lt
  have hnb : lb ≠ b := h.head.ne hc (by decide)
  have d1 : w.cell? ⟨lb, 1, none⟩ = some (.pointer (prevA bs bs.length)) := h.head.cell 1
  have d2 : w.cell? ⟨lb, 2, none⟩ = some (.int .i64 ps.length) := h.head.cell 2
  have f0 := h.head.frozen 0
  have f1 := h.head.frozen 1
  have f2 := h.head.frozen 2
  have ha : ∀ W : World, Kept NoF w W → Calls Try.prog 98 #[.pointer (some ⟨lb, 0, none⟩), .int .i64 (↑(m + 1))] W fun e w' => e = .returned (.pointer (prevA bs (m + 1))) ∧ ∃ n, w' = W.drewN n :=
    fun W hW => ahead_any (h.kept hW fun _ _ x => x) (m + 1) (by omega) hlen
  have HA := Lib.hid ha; clear ha
  obtain ⟨z, hz⟩ : ∃ z, bs[j]? = some z := ⟨_, List.getElem?_eq_getElem (by omega)⟩
  obtain ⟨q, hq⟩ : ∃ q, ps[j]? = some q := ⟨_, List.getElem?_eq_getElem (by have := h.len; omega)⟩
  have hcz := h.cells j z q hz hq
  have hzl := hcz.lt
  have hlz : lb ≠ z := h.head.ne hcz (by decide)
  rw [hj, show prevA bs (j + 1) = some ⟨z, 0, none⟩ from at_some hz] at d1
  have hpl : (ps.length : Int) = (j : Nat) + 1 := by have := h.len; omega
  have HPL := Lib.hid hpl; clear hpl
  obtain ⟨i0, hi, hz0, hz1, hz2⟩ := info_parts (show (Try.prog.info? 148).map (fun i => (i.zero, i.size, i.bytes)) = some (some (.agg #[.int .i64 0, .int .i64 0, .string ⟨#[]⟩, .pointer none]), 4, 40) by kernel_rfl)
  obtain ⟨a, ha⟩ : ∃ a, bs[m]? = some a := ⟨_, List.getElem?_eq_getElem (by omega)⟩
  obtain ⟨r, hr⟩ : ∃ r, ps[m]? = some r := ⟨_, List.getElem?_eq_getElem (by omega)⟩
  have hca := h.cells m a r ha hr
  have d3 : w.cell? ⟨a, 3, none⟩ = some (.pointer (some ⟨b, 0, none⟩)) := by rw [← at_some hb]; exact hca.cell 3
  have d0 : w.cell? ⟨lb, 0, none⟩ = some (.pointer (atA bs 0)) := h.head.cell 0
  have g3 := hca.frozen 3
  have hal := hca.lt
  have hna : lb ≠ a := h.head.ne hca (by decide)
  have hba : b ≠ a := fun e => absurd (nodup_at h.nodup hb (e ▸ ha)) (by omega)
  have hpa : prevA bs (m + 1) = some ⟨a, 0, none⟩ := at_some ha
  have HPA := Lib.hid hpa; clear hpa
  have hamem : a ∈ bs := List.mem_iff_getElem?.2 ⟨m, ha⟩
  have hzb : z ≠ b := fun e => absurd (nodup_at h.nodup hb (e ▸ hz)) (by omega)
  have hza : z ≠ a := fun e => absurd (nodup_at h.nodup hz (e ▸ ha)) (by omega)
  have hcz3 : ∀ W, Kept (fun k => k = lb ∨ k = a) w W → Has W z _ _ := fun W hW => hcz.kept hW (by rintro (e | e); exact hlz e.symm; exact hza e)
  have hc3 : ∀ W, Kept (fun k => k = lb ∨ k = a) w W → Has W b _ _ := fun W hW => hc.kept hW (by rintro (e | e); exact hnb e.symm; exact hba e)
  have hpe : ∀ W : World, Kept (fun k => k = lb ∨ k = a) w W → (binOp .eql 99 (.pointer (some ⟨z, 0, none⟩)) (.pointer (some ⟨b, 0, none⟩))).run Try.prog W = .ok (.bool false) W := fun W hW =>
    run_eql_ptr_other W Try.underlying99 hi (by omega) (fun e => hzb (by injection e)) (hcz3 W hW) (hc3 W hW)
  have H := Lib.hid h; clear h hb hp hc hq hcz hcz3 hc3
  have HJ := Lib.hid hj; clear hj
  have HPE := Lib.hid hpe; clear hpe
  have HAA := Lib.hid ha; clear ha
  have HZ := Lib.hid hz; clear hz
  clear hca hr
  go_enter Try.func70, Try.ntmps70
  go_wp2_with fail
  refine (HA.out _ ((Kept.refl _ _).alloc _)).mono ?_
  rintro e w' ⟨rfl, n, rfl⟩
  rw [HPA.out]
  go_wp2
  rw [HPE.out]
  rotate_left
  · repeat' (first | with_reducible exact Kept.refl _ _ | with_reducible refine Kept.put ?_ ?_ | with_reducible refine Kept.drewN ?_ _ | with_reducible refine Kept.alloc ?_ _ | (left; first | (left; with_reducible rfl) | (with_reducible rfl) | (right; with_reducible rfl)) | (left; right; assumption) | (right; simp; done))
  go_wp2
  refine bodyPost_ret (v := agg p) (by simp [results, Try.results70, go_sem, agg]) rfl ⟨rfl, ?_, ?_⟩
  · have B0 := H.out.head
    refine list_cut H.out hk HJ.out ?_ ?_
    · rw [if_neg (by omega), if_neg (by omega)]
      have hzj : atA bs j = some ⟨z, 0, none⟩ := at_some HZ.out
      rw [HJ.out, show prevA bs (j + 1) = atA bs j from rfl, hzj] at B0
      rw [hzj]
      ((repeat (first | with_reducible exact B0 | with_reducible apply Has.put_of | with_reducible apply Has.past | with_reducible apply Has.drewN | with_reducible apply Has.alloc)) <;> first | omega | rfl)
    · intro i b' p' hb' hp' hne
      have hcc := H.out.cells i b' p' hb' hp'
      have hlc : lb ≠ b' := H.out.head.ne hcc (by decide)
      have hsz := hcc.lt
      by_cases him : i = m
      · subst him
        obtain rfl : b' = a := by have := HAA.out; rw [hb'] at this; injection this
        rw [if_pos rfl]
        ((repeat (first | with_reducible exact hcc | with_reducible apply Has.put_of | with_reducible apply Has.past | with_reducible apply Has.drewN | with_reducible apply Has.alloc)) <;> first | omega | rfl)
      · have hnb' : b' ≠ a := fun e => him (nodup_at H.out.nodup hb' (e ▸ HAA.out))
        rw [if_neg (by omega)]
        ((repeat (first | with_reducible exact hcc | with_reducible apply Has.put_of | with_reducible apply Has.past | with_reducible apply Has.drewN | with_reducible apply Has.alloc)) <;> first | omega | rfl)
  · repeat' (first | with_reducible exact Kept.refl _ _ | with_reducible refine Kept.put ?_ ?_ | with_reducible refine Kept.drewN ?_ _ | with_reducible refine Kept.alloc ?_ _ | (left; first | (left; with_reducible rfl) | (with_reducible rfl) | (right; with_reducible rfl)) | (left; right; assumption) | (right; simp; done))

/-- What stands at a place is taken out. -/
theorem cut_any {w : World} {lb : Nat} {bs : List Nat} {ps : List Pk} (h : ListAt w lb bs ps) (k : Nat) (p : Pk) (hp : ps[k]? = some p) (hlen : ps.length ≤ 1000) :
    Calls Try.prog 70 #[.pointer (some ⟨lb, 0, none⟩), .int .i64 k] w fun e w' => e = .returned (agg p) ∧ ListAt w' lb (bs.eraseIdx k) (ps.eraseIdx k) ∧ Kept (fun k => k = lb ∨ k ∈ bs) w w' := by
  have hk : k < ps.length := (List.getElem?_eq_some_iff.1 hp).1
  obtain ⟨j, hj⟩ : ∃ j, bs.length = j + 1 := ⟨bs.length - 1, by have := h.len; omega⟩
  have hl := h.len
  rcases Nat.eq_zero_or_pos k with rfl | h0
  · rcases Nat.eq_zero_or_pos j with rfl | h1
    · exact cut_only h 0 hj p hp hlen
    · exact cut_first h j hj h1 p hp hlen
  · obtain ⟨m, rfl⟩ : ∃ m, k = m + 1 := ⟨k - 1, by omega⟩
    by_cases e : m + 1 = j
    · exact cut_last h m (by omega) p hp hlen
    · exact cut_mid h m j hj (by omega) p hp hlen
end Ether
end Go.Proofs.Ytploafhenmfmhaa
