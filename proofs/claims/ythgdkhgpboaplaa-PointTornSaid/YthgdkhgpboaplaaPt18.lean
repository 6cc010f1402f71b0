
/- The checkpointed log, plain: another log's bytes behind it, cut off anywhere. -/
import Derived.Test.YthgdkhgpboaplaaPt15
set_option linter.unusedSimpArgs false
set_option linter.unusedVariables false
namespace Go.Proofs.Ythgdkhgpboaplaa
open Go.RowKit
set_option maxRecDepth 100000
namespace Pt
open Disk Fr Vn Ops Wl
/-! ### files in their order -/
theorem fileAt_asc (R : St) (i : Nat) : fileAt R i = R.reverse[i]?.map fun f => ofL (byF f) := by
  induction R with
  | nil => simp [fileAt]
  | cons f R ih =>
    rw [List.reverse_cons]
    unfold fileAt at ih ⊢
    simp only [bts, List.length_cons]
    by_cases h : i < R.length
    · rw [if_pos (by omega), if_neg (by omega), List.getElem?_append_left (by simpa using h), ← ih, if_pos h]
    · by_cases h2 : i = R.length
      · subst h2
        rw [if_pos (by omega), if_pos rfl, List.getElem?_append_right (by simp)]
        simp
      · rw [if_neg (by omega), List.getElem?_append_right (by simp; omega)]
        rw [List.getElem?_eq_none (by simp; omega)]
        rfl
theorem bts_asc (R : St) (i : Nat) : bts R i = (R.reverse[i]?.map byF).getD [] := by
  have h := fileAt_asc R i
  unfold fileAt at h
  by_cases hi : i < R.length
  · rw [if_pos hi] at h
    cases hr : R.reverse[i]? with
    | none => rw [hr] at h; cases h
    | some f =>
      rw [hr] at h
      simp only [Option.map_some, Option.some.injEq] at h
      have := congrArg bl h
      rw [bl_ofL, bl_ofL] at this
      simpa using this
  · rw [bts_out (by omega), List.getElem?_eq_none (by simp; omega)]
    rfl
/-! ### a file that is cut off -/
theorem cut_file : ∀ (ts : List (List UInt8)) (k : Nat), (∀ t ∈ ts, t.length ≤ 65536) → k < (fileL ts).length → ∃ (a : Nat) (t : List UInt8) (q : List UInt8), (fileL ts).take k = fileL (ts.take a) ++ q ∧ ts[a]? = some t ∧ q <+: frameL t ∧ q.length < (frameL t).length
  | [], k, _, h => by simp [fileL] at h
  | t :: ts, k, hb, h => by
    have e : fileL (t :: ts) = frameL t ++ fileL ts := by simp [fileL]
    rw [e] at h ⊢
    by_cases hk : k < (frameL t).length
    · refine ⟨0, t, (frameL t).take k, ?_, rfl, List.take_prefix _ _, by rw [List.length_take]; omega⟩
      rw [List.take_append_of_le_length (by omega)]
      simp [fileL]
    · obtain ⟨a, t', q, h1, h2, h3, h4⟩ := cut_file ts (k - (frameL t).length) (fun x hx => hb x (by simp [hx])) (by rw [List.length_append] at h; omega)
      refine ⟨a + 1, t', q, ?_, by simpa using h2, h3, h4⟩
      rw [List.take_append, List.take_of_length_le (by omega), h1]
      simp [fileL]
/-- The files that a beginning of some bytes make. -/
def cutN (fs : List FileT) (left : Nat) : Nat := match fs with
  | [] => 0
  | f :: fs => if left = 0 then 0 else if (byF f).length ≤ left then cutN fs (left - (byF f).length) + 1 else 1
/-- The bytes of file i that are copied, and what is left at it. -/
def leftAt (fs : List FileT) (left : Nat) : Nat → Nat
  | 0 => left
  | i + 1 => leftAt fs left i - ((fs[i]?.map byF).getD []).length
def total (fs : List FileT) : Nat := (fs.map fun f => (byF f).length).sum
theorem leftAt_cons (f : FileT) (fs : List FileT) (left : Nat) : ∀ i, leftAt (f :: fs) left (i + 1) = leftAt fs (left - (byF f).length) i
  | 0 => by simp [leftAt]
  | i + 1 => by
    have ih := leftAt_cons f fs left i
    show leftAt (f :: fs) left (i + 1) - _ = leftAt fs (left - (byF f).length) i - _
    rw [ih]
    simp
theorem leftAt_le (fs : List FileT) (left : Nat) : ∀ i, leftAt fs left i ≤ left
  | 0 => Nat.le_refl _
  | i + 1 => Nat.le_trans (Nat.sub_le _ _) (leftAt_le fs left i)
/-- Whole files alone: no tails. -/
structure Whole (fs : List FileT) : Prop where
  q : ∀ f ∈ fs, f.q = []
  ts : ∀ f ∈ fs, f.ts ≠ []
  ok : ∀ f ∈ fs, OkF f
theorem byF_pos {f : FileT} (h : f.ts ≠ []) : 0 < (byF f).length := by
  unfold byF
  rcases hts : f.ts with _ | ⟨t, ts⟩
  · exact absurd hts h
  · have := frameL_len t
    simp [fileL]
    omega
/-- What a cut copy is, file by file: the files C. -/
theorem cut_all : ∀ (fs : List FileT), Whole fs → ∀ left : Nat, ∃ C : List FileT, (∀ f ∈ C, OkF f) ∧ (∀ i : Nat, (if 0 < min (leftAt fs left i) ((fs[i]?.map byF).getD []).length then some (((fs[i]?.map byF).getD []).take (min (leftAt fs left i) ((fs[i]?.map byF).getD []).length)) else none) = C[i]?.map byF) ∧ C.length ≤ fs.length ∧
    (∃ n, (C.map (·.ts)).flatten = (fs.map (·.ts)).flatten.take n ∧ (left < total fs → n < (fs.map (·.ts)).flatten.length)) ∧ (total fs ≤ left → C = fs) ∧ (C ≠ [] → (C.map (·.ts)).flatten ≠ [] → ∃ f r, C = f :: r ∧ f.ts ≠ [])
  | [], _, left => ⟨[], fun f hf => (by cases hf), fun i => (by simp), Nat.le_refl _, ⟨0, rfl, fun h => (by simp [total] at h)⟩, fun _ => rfl, fun h => absurd rfl h⟩
  | f :: fs, hw, left => by
    have hf : OkF f := hw.ok f (by simp)
    have hq : f.q = [] := hw.q f (by simp)
    have hp := byF_pos (hw.ts f (by simp))
    have hby : byF f = fileL f.ts := by unfold byF; rw [hq, List.append_nil]
    have htot : total (f :: fs) = (byF f).length + total fs := by simp [total]
    have hflat : ((f :: fs).map (·.ts)).flatten = f.ts ++ (fs.map (·.ts)).flatten := by simp
    by_cases h1 : (byF f).length ≤ left
    · obtain ⟨C, c1, c2, c3, ⟨n, c4, c5⟩, c6, c7⟩ := cut_all fs ⟨fun g hg => hw.q g (by simp [hg]), fun g hg => hw.ts g (by simp [hg]), fun g hg => hw.ok g (by simp [hg])⟩ (left - (byF f).length)
      refine ⟨f :: C, fun g hg => ?_, fun i => ?_, by simp; omega, ⟨f.ts.length + n, ?_, fun h => ?_⟩, fun h => ?_, fun _ _ => ⟨f, C, rfl, hw.ts f (by simp)⟩⟩
      · rcases List.mem_cons.1 hg with rfl | hg
        · exact hf
        · exact c1 g hg
      · cases i with
        | zero =>
          have e : min left (byF f).length = (byF f).length := by omega
          simp only [leftAt, List.getElem?_cons_zero, Option.map_some, Option.getD_some, e]
          rw [if_pos hp, List.take_length]
        | succ i =>
          have := c2 i
          rw [leftAt_cons]
          simpa using this
      · rw [List.map_cons, List.flatten_cons, c4, hflat, List.take_append, List.take_of_length_le (show f.ts.length ≤ f.ts.length + n by omega), Nat.add_sub_cancel_left]
      · rw [hflat, List.length_append]
        have := c5 (by omega)
        omega
      · rw [c6 (by omega)]
    · by_cases h0 : left = 0
      · subst h0
        have hz : ∀ i, leftAt (f :: fs) 0 i = 0 := fun i => Nat.le_zero.1 (leftAt_le _ _ i)
        refine ⟨[], fun g hg => (by cases hg), fun i => ?_, by simp, ⟨0, by simp, fun _ => ?_⟩, fun h => by omega, fun h => absurd rfl h⟩
        · rw [hz i]; simp
        · rw [hflat, List.length_append]
          have := List.length_pos_iff.2 (hw.ts f (by simp))
          omega
      · have hl : left < (fileL f.ts).length := by rw [← hby]; omega
        obtain ⟨a, t, q, g1, g2, g3, g4⟩ := cut_file f.ts left hf.ts hl
        have ha : a < f.ts.length := (List.getElem?_eq_some_iff.1 g2).1
        have ht : t.length ≤ 65536 := hf.ts t (List.mem_of_getElem? g2)
        have hC : byF ⟨f.ts.take a, q⟩ = (byF f).take left := by rw [hby, g1]; rfl
        refine ⟨[⟨f.ts.take a, q⟩], fun g hg => ?_, fun i => ?_, by simp, ⟨a, ?_, fun _ => ?_⟩, fun h => by omega, fun _ h2 => ⟨_, [], rfl, by simpa using h2⟩⟩
        · simp only [List.mem_singleton] at hg
          subst hg
          refine ⟨fun x hx => hf.ts x (List.mem_of_mem_take hx), ⟨t, ht, g3, g4⟩, ?_⟩
          rw [hC, List.length_take]
          have := hf.size
          omega
        · cases i with
          | zero =>
            have e : min left (byF f).length = left := by omega
            simp only [leftAt, List.getElem?_cons_zero, Option.map_some, Option.getD_some, e]
            rw [if_pos (by omega), hC]
          | succ i =>
            have hz : leftAt (f :: fs) left (i + 1) = 0 := by
              rw [leftAt_cons, show left - (byF f).length = 0 by omega]
              exact Nat.le_zero.1 (leftAt_le _ _ i)
            rw [hz]; simp
        · simp only [List.map_cons, List.map_nil, List.flatten_cons, List.flatten_nil, List.append_nil]
          rw [List.take_append_of_le_length (by omega)]
        · rw [hflat, List.length_append]; omega
theorem texts_asc : ∀ R : St, texts R = (R.reverse.map (·.ts)).flatten
  | [] => rfl
  | f :: R => by
    show texts R ++ f.ts = _
    rw [texts_asc R]
    simp
theorem whole_app {R : St} (h : Whole R) {t : List UInt8} (ht : t.length ≤ 65536) : Whole (app R t) := by
  have hok := app_ok (R := R) h.ok ht
  cases R with
  | nil => exact ⟨fun f hf => by simp [app] at hf; subst hf; rfl, fun f hf => by simp [app] at hf; subst hf; simp, hok⟩
  | cons f R =>
    by_cases hf : full f
    · rw [app_full hf] at hok ⊢
      exact ⟨fun g hg => by
        rcases List.mem_cons.1 hg with rfl | hg
        · rfl
        · exact h.q g hg, fun g hg => by
        rcases List.mem_cons.1 hg with rfl | hg
        · simp
        · exact h.ts g hg, hok⟩
    · rw [app_not hf] at hok ⊢
      exact ⟨fun g hg => by
        rcases List.mem_cons.1 hg with rfl | hg
        · rfl
        · exact h.q g (List.mem_cons_of_mem _ hg), fun g hg => by
        rcases List.mem_cons.1 hg with rfl | hg
        · simp
        · exact h.ts g (List.mem_cons_of_mem _ hg), hok⟩
theorem whole_cur : ∀ {T : List (List UInt8)} {R : St}, Whole R → (∀ t ∈ T, t.length ≤ 65536) → Whole (cur R T)
  | [], _, h, _ => h
  | t :: T, R, h, hT => by rw [cur_cons]; exact whole_cur (whole_app h (hT t (by simp))) (fun x hx => hT x (by simp [hx]))
theorem hd_asc : ∀ {R : St} {f : FileT} {r : List FileT}, R.reverse = f :: r → f.ts ≠ [] → Hd R
  | [], f, r, h, _ => by cases h
  | [g], f, r, h, hf => by
    simp at h
    obtain ⟨rfl, _⟩ := h
    exact hf
  | g :: g' :: R, f, r, h, hf => by
    have h2 : (g' :: R).reverse ++ [g] = f :: r := by rw [← List.reverse_cons]; exact h
    rcases hr : (g' :: R).reverse with _ | ⟨x, xs⟩
    · simp at hr
    · rw [hr] at h2
      injection h2 with e1 e2
      subst e1
      exact hd_asc (R := g' :: R) hr hf
end Pt
end Go.Proofs.Ythgdkhgpboaplaa
