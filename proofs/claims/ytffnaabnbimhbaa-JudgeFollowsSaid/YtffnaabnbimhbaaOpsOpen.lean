
/- Arguments: batches, lists of operations, lists of pairs. -/
import Derived.Test.YtffnaabnbimhbaaOpsSame
import Derived.Test.YtffnaabnbimhbaaRows
import Derived.Test.YtffnaabnbimhbaaKit
import Derived.ProofKit
import Derived.OpenShut
import Derived.Lib.SmallJoins
set_option linter.unusedSimpArgs false
set_option linter.unusedVariables false
namespace Go.Proofs.Ytffnaabnbimhbaa
open Go.RowKit Go.WideShapes Go.ChangeShapes
set_option maxRecDepth 100000
section
variable {H : Type} {enc : TypeId × Value → H} {W : World} {v : Value} {d : DataW H} {ps : List MemPlace} {r : Reach} {b0 : Nat}
theorem open_ops0 (hv : ∃ A n c, v = .slice A n c) (h : DataW.Trod enc Try.prog W 0 (fun _ => true) true 36 v d ps) :
    ∃ (A : Option Addr) (c : Nat) (l : List Ops.OpR), v = .slice A l.length c ∧ l.length ≤ c ∧ c ≤ maxLen ∧ Src W 3 A l.length (Ops.cells l) ∧ (∀ o ∈ l, o.key.size ≤ maxLen ∧ o.val.size ≤ maxLen) := by
  have _ : Inhabited Ops.OpR := ⟨⟨⟨#[]⟩, ⟨#[]⟩, false⟩⟩
  obtain ⟨A, c, l, h1, h2, h3, h4, h5, _⟩ := open_rows (α := Ops.OpR) Ops.cell (fun o => o.key.size ≤ maxLen ∧ o.val.size ≤ maxLen) 3 Try.underlying36 (by kernel_rfl) (by decide) (fun _ => rfl)
    (fun fuel cs y hy => by
      obtain ⟨y0, y1, y2, n, _, hl, h0, h1, h2⟩ := Deep.trod_struct3 Try.underlying35 hy
      have hC : Try.prog.cellsOf 35 = 3 := by kernel_rfl
      rw [hC] at hl
      match cs, hl with
      | [c0, c1, c2], _ =>
        have e9 : Try.prog.cellsOf 9 = 1 := by kernel_rfl
        have e4 : Try.prog.cellsOf 4 = 1 := by kernel_rfl
        obtain ⟨x0, hx0, _, m0⟩ := DataW.trod_string Try.underlying9 h0
        obtain ⟨x1, hx1, _, m1⟩ := DataW.trod_string Try.underlying9 h1
        obtain ⟨x2, hx2, _⟩ := DataW.trod_bool Try.underlying4 h2
        simp [e9] at hx0 hx1
        simp [e9, e4] at hx2
        subst hx0
        subst hx1
        subst hx2
        exact ⟨⟨x0, x1, x2⟩, rfl, m0, m1⟩) h hv
  exact ⟨A, c, l, h1, h2, h3, h4, h5⟩
theorem open_pairs0 (hv : ∃ A n c, v = .slice A n c) (h : DataW.Trod enc Try.prog W 0 (fun _ => true) true 42 v d ps) :
    ∃ (A : Option Addr) (c : Nat) (l : List Ops.PairR), v = .slice A l.length c ∧ l.length ≤ c ∧ c ≤ maxLen ∧ Src W 2 A l.length (Ops.pcells l) ∧ (∀ o ∈ l, o.key.size ≤ maxLen ∧ o.val.size ≤ maxLen) := by
  have _ : Inhabited Ops.PairR := ⟨⟨⟨#[]⟩, ⟨#[]⟩⟩⟩
  obtain ⟨A, c, l, h1, h2, h3, h4, h5, _⟩ := open_rows (α := Ops.PairR) Ops.pcell (fun o => o.key.size ≤ maxLen ∧ o.val.size ≤ maxLen) 2 Try.underlying42 (by kernel_rfl) (by decide) (fun _ => rfl)
    (fun fuel cs y hy => by
      obtain ⟨y0, y1, n, _, hl, h0, h1⟩ := trod_struct2 Try.underlying54 hy
      have hC : Try.prog.cellsOf 54 = 2 := by kernel_rfl
      rw [hC] at hl
      match cs, hl with
      | [c0, c1], _ =>
        have e9 : Try.prog.cellsOf 9 = 1 := by kernel_rfl
        obtain ⟨x0, hx0, _, m0⟩ := DataW.trod_string Try.underlying9 h0
        obtain ⟨x1, hx1, _, m1⟩ := DataW.trod_string Try.underlying9 h1
        simp [e9] at hx0 hx1
        subst hx0
        subst hx1
        exact ⟨⟨x0, x1⟩, rfl, m0, m1⟩) h hv
  exact ⟨A, c, l, h1, h2, h3, h4, h5⟩
theorem open_ops (hv : Value.okWide Try.prog W r b0 36 v) (h : DataW.Trod enc Try.prog W 0 (fun _ => true) true 36 v d ps) :
    ∃ (A : Option Addr) (c : Nat) (l : List Ops.OpR), v = .slice A l.length c ∧ l.length ≤ c ∧ c ≤ maxLen ∧ Src W 3 A l.length (Ops.cells l) ∧ (∀ o ∈ l, o.key.size ≤ maxLen ∧ o.val.size ≤ maxLen) :=
  open_ops0 (okWide_slice Try.underlying36 hv) h
theorem open_pairs (hv : Value.okWide Try.prog W r b0 42 v) (h : DataW.Trod enc Try.prog W 0 (fun _ => true) true 42 v d ps) :
    ∃ (A : Option Addr) (c : Nat) (l : List Ops.PairR), v = .slice A l.length c ∧ l.length ≤ c ∧ c ≤ maxLen ∧ Src W 2 A l.length (Ops.pcells l) ∧ (∀ o ∈ l, o.key.size ≤ maxLen ∧ o.val.size ≤ maxLen) :=
  open_pairs0 (okWide_slice Try.underlying42 hv) h
theorem open_batch (hv : Value.okWide Try.prog W r b0 38 v) (h : DataW.Trod enc Try.prog W 0 (fun _ => true) true 38 v d ps) :
    ∃ (b : Ops.Batch) (A : Option Addr) (c : Nat), v = Ops.bagg b A c ∧ b.ops.length ≤ c ∧ c ≤ maxLen ∧ Src W 3 A b.ops.length (Ops.cells b.ops) ∧ (∀ o ∈ b.ops, o.key.size ≤ maxLen ∧ o.val.size ≤ maxLen) := by
  obtain ⟨v0, v1, v2, y0, y1, y2, n, rfl, _, _, h0, h1, h2⟩ := Joins.open_agg3 Try.underlying38 (by kernel_rfl) (by kernel_rfl) hv h
  obtain ⟨x0, hx0, _, _⟩ := DataW.trod_int Try.underlying3 h0
  obtain ⟨x1, hx1, _, _⟩ := DataW.trod_int Try.underlying3 h1
  simp at hx0 hx1
  subst hx0
  subst hx1
  have hv1 : ∃ A n c, v2 = .slice A n c := by
    rcases Deep.open_slice Try.underlying36 h2 with ⟨e, _⟩ | ⟨a, len, cap, _, _, _, _, e, _⟩
    · simp at e; exact ⟨_, _, _, e⟩
    · simp at e; exact ⟨_, _, _, e⟩
  have h2' : DataW.Trod enc Try.prog W 0 (fun _ => true) true 36 v2 y2.1 y2.2 := by
    obtain ⟨A, k, c, rfl⟩ := hv1
    exact ⟨n, h2⟩
  obtain ⟨A, c, l, rfl, g1, g2, g3, g4⟩ := open_ops0 hv1 h2'
  exact ⟨⟨x0, x1, l⟩, A, c, rfl, g1, g2, g3, g4⟩
end
end Go.Proofs.Ytffnaabnbimhbaa
