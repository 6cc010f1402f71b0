
/- Equality of batches, of lists of operations, of lists of pairs: the program's and the document's. -/
import Derived.Test.YtffnaabnbimhbaaOps1
import Derived.Test.YtffnaabnbimhbaaOverPlain
import Derived.Deep.QuietTactic
import Derived.Deep.RegionLaw
set_option linter.unusedSimpArgs false
set_option linter.unusedVariables false
namespace Go.Proofs.Ytffnaabnbimhbaa
open Go.RowKit Go.Shelf
set_option maxRecDepth 100000
namespace Ops
open Vn
theorem tl_eq (a b : ByteArray) : (a.toList == b.toList) = decide (a = b) := by
  rw [ByteArray.toList_eq, ByteArray.toList_eq]
  by_cases h : a = b
  · simp [h]
  · have : a.data.toList ≠ b.data.toList := fun e => h (ByteArray.ext (Array.toList_inj.1 e))
    rw [decide_eq_false h, beq_eq_false_iff_ne]
    exact this
abbrev pagg (p : PairR) : Value := .agg #[.string p.key, .string p.val]
theorem run_neq_op (p q : OpR) (W : World) : (binOp .neq 35 (oagg p) (oagg q)).run Try.prog W = .ok (.bool (!decide (p = q))) W := by
  obtain ⟨p1, p2, p3⟩ := p
  obtain ⟨q1, q2, q3⟩ := q
  have e1 := tl_eq p1 q1
  have e2 := tl_eq p2 q2
  unfold oagg
  by_cases h1 : p1 = q1 <;> by_cases h2 : p2 = q2 <;> by_cases h3 : p3 = q3 <;> simp [go_sem, h1, h2, h3, e1, e2]
theorem run_neq_pair (p q : PairR) (W : World) : (binOp .neq 54 (pagg p) (pagg q)).run Try.prog W = .ok (.bool (!decide (p = q))) W := by
  obtain ⟨p1, p2⟩ := p
  obtain ⟨q1, q2⟩ := q
  have e1 := tl_eq p1 q1
  have e2 := tl_eq p2 q2
  unfold pagg
  by_cases h1 : p1 = q1 <;> by_cases h2 : p2 = q2 <;> simp [go_sem, h1, h2, e1, e2]
theorem pair_cells {w : World} {A : Option Addr} {m : Nat} {l : List PairR} (h : Src w 2 A m (pcells l)) (hm : 0 < m) (i : Nat) (p : PairR) (hp : l[i]? = some p) :
    ∃ ad, A = some ad ∧ ad.block < w.heap.size ∧ w.cell? (ad.add (i * 2)) = some (.string p.key) ∧ w.cell? ⟨(ad.add (i * 2)).block, (ad.add (i * 2)).off + 1, none⟩ = some (.string p.val) := by
  obtain ⟨ad, rfl, had, hcell⟩ := h.2 hm
  have k0 : (pcells l)[i * 2]? = some (.string p.key) := by
    unfold pcells
    rw [flat_get pcell 2 (by decide) (fun _ => rfl), show i * 2 / 2 = i by omega, show i * 2 % 2 = 0 by omega, hp]; rfl
  have k1 : (pcells l)[i * 2 + 1]? = some (.string p.val) := by
    unfold pcells
    rw [flat_get pcell 2 (by decide) (fun _ => rfl), show (i * 2 + 1) / 2 = i by omega, show (i * 2 + 1) % 2 = 1 by omega, hp]; rfl
  refine ⟨ad, rfl, had, hcell _ _ k0, ?_⟩
  rw [← add_lit _ (by omega), add_add]; exact hcell _ _ k1
theorem eq_take_succ {α : Type} {a b : List α} {i : Nat} {p : α} (h : a.take i = b.take i) (ha : a[i]? = some p) (hb : b[i]? = some p) : a.take (i + 1) = b.take (i + 1) := by
  rw [List.take_add_one, List.take_add_one, h, ha, hb]

def sameB (a b : Batch) : Bool := decide (a.cl = b.cl) && decide (a.req = b.req) && decide (a.ops = b.ops)

end Ops
end Go.Proofs.Ytffnaabnbimhbaa
