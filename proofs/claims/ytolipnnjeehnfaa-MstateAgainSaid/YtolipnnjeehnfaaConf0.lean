
/- Lists of members and of numbers, as slices; '==' on members. -/
import Derived.Test.YtolipnnjeehnfaaOpen
import Derived.Test.YtolipnnjeehnfaaPlanPlain
set_option linter.unusedSimpArgs false
set_option linter.unusedVariables false
namespace Go.Proofs.Ytolipnnjeehnfaa
open Go.RowKit
set_option maxRecDepth 100000
namespace Plan
abbrev mcell (m : Mem) : List Value := [.int .i64 m.1, .int .i64 m.2]
abbrev mcells (l : List Mem) : List Value := l.flatMap mcell
abbrev magg (m : Mem) : Value := .agg #[.int .i64 m.1, .int .i64 m.2]
abbrev ints (l : List Int) : List Value := l.map (Value.int .i64)
theorem mcells_length (l : List Mem) : (mcells l).length = l.length * 2 := by
  induction l with
  | nil => rfl
  | cons a l ih => simp [mcells, mcell] at ih ⊢; omega
theorem mcells_append (a b : List Mem) : mcells (a ++ b) = mcells a ++ mcells b := by simp [mcells]
theorem mcells_take (a : List Mem) (k : Nat) : (mcells a).take (k * 2) = mcells (a.take k) := by
  induction a generalizing k with
  | nil => simp [mcells]
  | cons x a ih =>
    cases k with
    | zero => simp [mcells]
    | succ k =>
      have e : (k + 1) * 2 = k * 2 + 1 + 1 := by omega
      show (Value.int .i64 x.1 :: Value.int .i64 x.2 :: mcells a).take ((k + 1) * 2) = Value.int .i64 x.1 :: Value.int .i64 x.2 :: mcells (a.take k)
      rw [e]
      simp [ih]
theorem mem_cells {w : World} {A : Option Addr} {m : Nat} {l : List Mem} (h : Src w 2 A m (mcells l)) (hm : 0 < m) (i : Nat) (p : Mem) (hp : l[i]? = some p) :
    ∃ ad, A = some ad ∧ ad.block < w.heap.size ∧ w.cell? (ad.add (i * 2)) = some (.int .i64 p.1) ∧ w.cell? ⟨(ad.add (i * 2)).block, (ad.add (i * 2)).off + 1, none⟩ = some (.int .i64 p.2) := by
  obtain ⟨ad, rfl, had, hcell⟩ := h.2 hm
  have k0 : (mcells l)[i * 2]? = some (.int .i64 p.1) := by
    rw [flat_get mcell 2 (by decide) (fun _ => rfl), show i * 2 / 2 = i by omega, show i * 2 % 2 = 0 by omega, hp]; rfl
  have k1 : (mcells l)[i * 2 + 1]? = some (.int .i64 p.2) := by
    rw [flat_get mcell 2 (by decide) (fun _ => rfl), show (i * 2 + 1) / 2 = i by omega, show (i * 2 + 1) % 2 = 1 by omega, hp]; rfl
  refine ⟨ad, rfl, had, hcell _ _ k0, ?_⟩
  rw [← add_lit _ (by omega), add_add]; exact hcell _ _ k1
theorem int_cells {w : World} {A : Option Addr} {m : Nat} {l : List Int} (h : Src w 1 A m (ints l)) (hm : 0 < m) (i : Nat) (x : Int) (hx : l[i]? = some x) :
    ∃ ad, A = some ad ∧ ad.block < w.heap.size ∧ w.cell? (ad.add i) = some (.int .i64 x) := by
  obtain ⟨ad, rfl, had, hcell⟩ := h.2 hm
  exact ⟨ad, rfl, had, hcell i _ (by simp [hx])⟩
theorem run_eql_mem (p q : Mem) (W : World) : (binOp .eql 86 (magg p) (magg q)).run Try.prog W = .ok (.bool (decide (p = q))) W := by
  obtain ⟨p1, p2⟩ := p
  obtain ⟨q1, q2⟩ := q
  by_cases h1 : p1 = q1 <;> by_cases h2 : p2 = q2 <;> simp [go_sem, h1, h2]
theorem run_neq_mem (p q : Mem) (W : World) : (binOp .neq 86 (magg p) (magg q)).run Try.prog W = .ok (.bool (decide (p ≠ q))) W := by
  obtain ⟨p1, p2⟩ := p
  obtain ⟨q1, q2⟩ := q
  by_cases h1 : p1 = q1 <;> by_cases h2 : p2 = q2 <;> simp [go_sem, h1, h2]
theorem drop_cons {α : Type} {l : List α} {i : Nat} {a : α} (h : l[i]? = some a) : l.drop i = a :: l.drop (i + 1) := by
  obtain ⟨hl, rfl⟩ := List.getElem?_eq_some_iff.1 h
  exact List.drop_eq_getElem_cons hl
theorem take_snoc {α : Type} {l : List α} {i : Nat} {a : α} (h : l[i]? = some a) : l.take (i + 1) = l.take i ++ [a] := by
  rw [List.take_add_one, h]; rfl
theorem elemMem : Elem Try.prog 29 86 2 16 :=
  by
  obtain ⟨i0, hi, hz0, hz1, hz2⟩ := info_parts (show (Try.prog.info? 86).map (fun i => (i.zero, i.size, i.bytes)) = some (some (.agg #[.int .i64 0, .int .i64 0]), 2, 16) by kernel_rfl)
  exact ⟨Try.underlying29, ⟨i0, _, hi, hz0, hz1, hz2, rfl⟩, by decide⟩
theorem elemInt : Elem Try.prog 37 3 1 8 :=
  by
  obtain ⟨i0, hi, hz0, hz1, hz2⟩ := info_parts (show (Try.prog.info? 3).map (fun i => (i.zero, i.size, i.bytes)) = some (some (.int .i64 0), 1, 8) by kernel_rfl)
  exact ⟨Try.underlying37, ⟨i0, _, hi, hz0, hz1, hz2, rfl⟩, by decide⟩
theorem mem_one (l : List Mem) : ∀ u ∈ mcells l, u.oneCell' = true := by
  intro u hu
  obtain ⟨m, _, hm⟩ := List.mem_flatMap.1 hu
  simp [mcell] at hm
  rcases hm with rfl | rfl <;> rfl
theorem ints_one (l : List Int) : ∀ u ∈ ints l, u.oneCell' = true := by
  intro u hu
  obtain ⟨m, _, rfl⟩ := List.mem_map.1 hu
  rfl
end Plan
end Go.Proofs.Ytolipnnjeehnfaa
