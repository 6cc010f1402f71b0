
/- ops.Check, the document's Check: what is wrong with a batch. -/
import Derived.Test.YtffnaabnbimhbaaWire2
import Derived.Test.YtffnaabnbimhbaaOpen
set_option linter.unusedSimpArgs false
set_option linter.unusedVariables false
namespace Go.Proofs.Ytffnaabnbimhbaa
open Go.RowKit Go.Shelf
set_option maxRecDepth 100000
namespace Ops
open Vn
abbrev oagg (o : OpR) : Value := .agg #[.string o.key, .string o.val, .bool o.del]
abbrev bagg (b : Batch) (A : Option Addr) (c : Nat) : Value := .agg #[.int .i64 b.cl, .int .i64 b.req, .slice A b.ops.length c]
theorem op_cells {w : World} {A : Option Addr} {m : Nat} {l : List OpR} (h : Src w 3 A m (cells l)) (hm : 0 < m) (i : Nat) (p : OpR) (hp : l[i]? = some p) :
    ∃ ad, A = some ad ∧ ad.block < w.heap.size ∧ w.cell? (ad.add (i * 3)) = some (.string p.key) ∧ w.cell? ⟨(ad.add (i * 3)).block, (ad.add (i * 3)).off + 1, none⟩ = some (.string p.val) ∧ w.cell? ⟨(ad.add (i * 3)).block, (ad.add (i * 3)).off + 2, none⟩ = some (.bool p.del) := by
  obtain ⟨ad, rfl, had, hcell⟩ := h.2 hm
  have k0 : (cells l)[i * 3]? = some (.string p.key) := by
    unfold cells
    rw [flat_get cell 3 (by decide) (fun _ => rfl), show i * 3 / 3 = i by omega, show i * 3 % 3 = 0 by omega, hp]; rfl
  have k1 : (cells l)[i * 3 + 1]? = some (.string p.val) := by
    unfold cells
    rw [flat_get cell 3 (by decide) (fun _ => rfl), show (i * 3 + 1) / 3 = i by omega, show (i * 3 + 1) % 3 = 1 by omega, hp]; rfl
  have k2 : (cells l)[i * 3 + 2]? = some (.bool p.del) := by
    unfold cells
    rw [flat_get cell 3 (by decide) (fun _ => rfl), show (i * 3 + 2) / 3 = i by omega, show (i * 3 + 2) % 3 = 2 by omega, hp]; rfl
  refine ⟨ad, rfl, had, hcell _ _ k0, ?_, ?_⟩
  · rw [← add_lit _ (by omega), add_add]; exact hcell _ _ k1
  · rw [← add_lit _ (by omega), add_add]; exact hcell _ _ k2
theorem empty_size (s : ByteArray) : s.toList.isEmpty = decide (s.size = 0) := by
  rw [ByteArray.toList_eq, ← size_bl]
  cases h : bl s <;> simp [h]
/-- The three tests ahead of the operations. -/
theorem chk_cases (b : Batch) : (chk b = 1 ∧ (b.cl < 0 ∨ (¬ b.cl < 0 ∧ 3 ≤ b.cl))) ∨ (chk b = 5 ∧ 0 ≤ b.cl ∧ b.cl < 3 ∧ (b.req < 1 ∨ (¬ b.req < 1 ∧ 1073741824 < b.req))) ∨ (chk b = 6 ∧ 0 ≤ b.cl ∧ b.cl < 3 ∧ 1 ≤ b.req ∧ b.req ≤ 1073741824 ∧ 4 < b.ops.length) ∨ (chk b = chkL b.ops emp true ∧ 0 ≤ b.cl ∧ b.cl < 3 ∧ 1 ≤ b.req ∧ b.req ≤ 1073741824 ∧ b.ops.length ≤ 4) := by
  unfold chk
  by_cases h1 : b.cl < 0 ∨ 3 ≤ b.cl
  · rw [if_pos h1]; left; exact ⟨rfl, by omega⟩
  · rw [if_neg h1]
    right
    by_cases h2 : b.req < 1 ∨ 1073741824 < b.req
    · rw [if_pos h2]; left; exact ⟨rfl, by omega, by omega, by omega⟩
    · rw [if_neg h2]
      right
      by_cases h3 : 4 < b.ops.length
      · rw [if_pos h3]; left; exact ⟨rfl, by omega, by omega, by omega, by omega, h3⟩
      · rw [if_neg h3]; right; exact ⟨rfl, by omega, by omega, by omega, by omega, by omega⟩
end Ops
end Go.Proofs.Ytffnaabnbimhbaa
