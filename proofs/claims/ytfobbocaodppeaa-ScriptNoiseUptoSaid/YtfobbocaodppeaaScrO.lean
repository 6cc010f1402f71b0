/- Cells of operations; equality of operations; a cell behind a new block. -/
import Derived.Test.YtfobbocaodppeaaScr1
import Derived.Test.YtfobbocaodppeaaWire2
set_option linter.unusedSimpArgs false
set_option linter.unusedVariables false
namespace Go.Proofs.Ytfobbocaodppeaa
open Go.RowKit
set_option maxRecDepth 100000
namespace Scr
open Ops Vn
abbrev opg (o : OpR) : Value := .agg #[.string o.key, .string o.val, .bool o.del]
theorem op_cells {w : World} {A : Option Addr} {m : Nat} {l : List OpR} (h : Src w 3 A m (cells l)) (hm : 0 < m) (i : Nat) (p : OpR) (hp : l[i]? = some p) :
    ∃ ad, A = some ad ∧ ad.block < w.heap.size ∧ w.cell? (ad.add (i * 3)) = some (.string p.key) ∧ w.cell? ⟨(ad.add (i * 3)).block, (ad.add (i * 3)).off + 1, none⟩ = some (.string p.val) ∧ w.cell? ⟨(ad.add (i * 3)).block, (ad.add (i * 3)).off + 2, none⟩ = some (.bool p.del) := by
  obtain ⟨ad, rfl, had, hcell⟩ := h.2 hm
  have hk : ∀ j, j < 3 → (cells l)[i * 3 + j]? = (cell p)[j]? := by
    intro j hj
    unfold cells
    rw [flat_get cell 3 (by decide) (fun _ => rfl), show (i * 3 + j) / 3 = i by omega, show (i * 3 + j) % 3 = j by omega, hp]
    rfl
  refine ⟨ad, rfl, had, hcell _ _ (hk 0 (by decide)), ?_, ?_⟩
  · rw [← add_lit _ (by omega), add_add]; exact hcell _ _ (hk 1 (by decide))
  · rw [← add_lit _ (by omega), add_add]; exact hcell _ _ (hk 2 (by decide))
theorem tl_eq (a b : ByteArray) : (a.toList == b.toList) = decide (a = b) := by
  rw [ByteArray.toList_eq, ByteArray.toList_eq]
  by_cases h : a = b
  · simp [h]
  · have : a.data.toList ≠ b.data.toList := fun e => h (ByteArray.ext (Array.toList_inj.1 e))
    rw [decide_eq_false h, beq_eq_false_iff_ne]
    exact this
theorem run_neq_op (p q : OpR) (W : World) : (binOp .neq 55 (opg p) (opg q)).run Try.prog W = .ok (.bool (!decide (p = q))) W := by
  obtain ⟨p1, p2, p3⟩ := p
  obtain ⟨q1, q2, q3⟩ := q
  have e1 := tl_eq p1 q1
  have e2 := tl_eq p2 q2
  unfold opg
  by_cases h1 : p1 = q1 <;> by_cases h2 : p2 = q2 <;> by_cases h3 : p3 = q3 <;> simp [go_sem, h1, h2, h3, e1, e2]
theorem eq_take_succ {α : Type} {a b : List α} {i : Nat} {p : α} (h : a.take i = b.take i) (ha : a[i]? = some p) (hb : b[i]? = some p) : a.take (i + 1) = b.take (i + 1) := by
  rw [List.take_add_one, List.take_add_one, h, ha, hb]
theorem cell_al {w : World} {p : Addr} {v : Value} (hb : p.block < w.heap.size) (h : w.cell? p = some v) (o : Obj) : (w.alloc o).cell? p = some v :=
  (World.cell?_of_block (w := w) (Below.heap_alloc w o _ hb)).trans h
end Scr
end Go.Proofs.Ytfobbocaodppeaa
