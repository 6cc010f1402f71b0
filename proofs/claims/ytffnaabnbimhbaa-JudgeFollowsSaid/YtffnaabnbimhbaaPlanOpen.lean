/- Arguments: a configuration, lists of numbers, lists of members. -/
import Derived.Test.YtffnaabnbimhbaaPlan5
import Derived.Test.YtffnaabnbimhbaaRows
import Derived.Test.YtffnaabnbimhbaaKit
import Derived.ProofKit
import Derived.OpenShut
import Derived.Lib.SmallJoins
set_option linter.unusedSimpArgs false
set_option linter.unusedVariables false
namespace Go.Proofs.Ytffnaabnbimhbaa
open Go.RowKit Go.WideShapes Go.ChangeShapes
set_option maxRecDepth 100000
section
variable {H : Type} {enc : TypeId × Value → H} {W : World} {v : Value} {d : DataW H} {ps : List MemPlace} {r : Reach} {b0 : Nat}

theorem flat_ints (l : List Int) : l.flatMap (fun x => [Value.int .i64 x]) = Plan.ints l := by
  induction l with
  | nil => rfl
  | cons a l ih => rw [List.flatMap_cons, ih]; rfl
theorem open_intsl (hv : Value.okWide Try.prog W r b0 26 v) (h : DataW.Trod enc Try.prog W 0 (fun _ => true) true 26 v d ps) :
    ∃ (A : Option Addr) (c : Nat) (l : List Int), v = .slice A l.length c ∧ l.length ≤ c ∧ c ≤ maxLen ∧ Src W 1 A l.length (Plan.ints l) ∧ (∀ x ∈ l, Plan.I64 x) := by
  obtain ⟨A, c, l, h1, h2, h3, h4, h5, _⟩ := open_rows (α := Int) (fun x => [.int .i64 x]) Plan.I64 1 Try.underlying26 (by kernel_rfl) (by decide) (fun _ => rfl)
    (fun fuel cs y hy => by
      obtain ⟨x, hx, _, hw⟩ := DataW.trod_int Try.underlying3 hy
      exact ⟨x, hx, hw⟩) h (okWide_slice Try.underlying26 hv)
  rw [flat_ints] at h4
  exact ⟨A, c, l, h1, h2, h3, h4, h5⟩
theorem open_mems0 (hv : ∃ A n c, v = .slice A n c) (h : DataW.Trod enc Try.prog W 0 (fun _ => true) true 22 v d ps) :
    ∃ (A : Option Addr) (c : Nat) (l : List Plan.Mem), v = .slice A l.length c ∧ l.length ≤ c ∧ c ≤ maxLen ∧ Src W 2 A l.length (Plan.mcells l) ∧ (∀ m ∈ l, Plan.I64 m.1) := by
  obtain ⟨A, c, l, h1, h2, h3, h4, h5, _⟩ := open_rows (α := Plan.Mem) Plan.mcell (fun m => Plan.I64 m.1) 2 Try.underlying22 (by kernel_rfl) (by decide) (fun _ => rfl)
    (fun fuel cs y hy => by
      obtain ⟨y0, y1, n, _, hl, h0, h1⟩ := trod_struct2 Try.underlying58 hy
      have hC : Try.prog.cellsOf 58 = 2 := by kernel_rfl
      rw [hC] at hl
      match cs, hl with
      | [c0, c1], _ =>
        have e3 : Try.prog.cellsOf 3 = 1 := by kernel_rfl
        obtain ⟨x0, hx0, _, m0⟩ := DataW.trod_int Try.underlying3 h0
        obtain ⟨x1, hx1, _, _⟩ := DataW.trod_int Try.underlying3 h1
        simp [e3] at hx0 hx1
        subst hx0
        subst hx1
        exact ⟨(x0, x1), rfl, m0⟩) h hv
  exact ⟨A, c, l, h1, h2, h3, h4, h5⟩
theorem open_mems (hv : Value.okWide Try.prog W r b0 22 v) (h : DataW.Trod enc Try.prog W 0 (fun _ => true) true 22 v d ps) :
    ∃ (A : Option Addr) (c : Nat) (l : List Plan.Mem), v = .slice A l.length c ∧ l.length ≤ c ∧ c ≤ maxLen ∧ Src W 2 A l.length (Plan.mcells l) ∧ (∀ m ∈ l, Plan.I64 m.1) :=
  open_mems0 (okWide_slice Try.underlying22 hv) h
theorem u64_range {x : Int} (h : (Lit.int .u64 x).wf = true) : 0 ≤ x ∧ x ≤ Plan.maxTs := by
  unfold Plan.maxTs
  simpa [Lit.wf, IntKind.min, IntKind.max, IntKind.signed, IntKind.bits] using h
theorem open_conf (hv : Value.okWide Try.prog W r b0 25 v) (h : DataW.Trod enc Try.prog W 0 (fun _ => true) true 25 v d ps) :
    ∃ (ep fl : Int) (A : Option Addr) (c : Nat) (l : List Plan.Mem), v = Plan.cagg ep A l.length c fl ∧ l.length ≤ c ∧ c ≤ maxLen ∧ Src W 2 A l.length (Plan.mcells l) ∧ (∀ m ∈ l, Plan.I64 m.1) ∧ (0 ≤ fl ∧ fl ≤ Plan.maxTs) := by
  obtain ⟨v0, v1, v2, y0, y1, y2, n, rfl, _, _, h0, h1, h2⟩ := Joins.open_agg3 Try.underlying25 (by kernel_rfl) (by kernel_rfl) hv h
  obtain ⟨x0, hx0, _, _⟩ := DataW.trod_int Try.underlying3 h0
  obtain ⟨x2, hx2, _, m2⟩ := DataW.trod_int Try.underlying23 h2
  simp at hx0 hx2
  subst hx0
  subst hx2
  have hv1 : ∃ A n c, v1 = .slice A n c := by
    rcases Deep.open_slice Try.underlying22 h1 with ⟨e, _⟩ | ⟨a, len, cap, _, _, _, _, e, _⟩
    · simp at e; exact ⟨_, _, _, e⟩
    · simp at e; exact ⟨_, _, _, e⟩
  have h1' : DataW.Trod enc Try.prog W 0 (fun _ => true) true 22 v1 y1.1 y1.2 := by
    obtain ⟨A, k, c, rfl⟩ := hv1
    exact ⟨n, h1⟩
  obtain ⟨A, c, l, rfl, g1, g2, g3, g4⟩ := open_mems0 hv1 h1'
  exact ⟨x0, x2, A, c, l, rfl, g1, g2, g3, g4, u64_range m2⟩
end
end Go.Proofs.Ytffnaabnbimhbaa
