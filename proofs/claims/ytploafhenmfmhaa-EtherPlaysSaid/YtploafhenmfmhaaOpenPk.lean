/- Arguments that are a list of packets, of bytes. -/
import Derived.Test.YtploafhenmfmhaaOpen
import Derived.Test.YtploafhenmfmhaaEtherRef
set_option linter.unusedSimpArgs false
set_option linter.unusedVariables false
namespace Go.Proofs.Ytploafhenmfmhaa
open Go.RowKit Go.WideShapes Go.ChangeShapes
set_option maxRecDepth 100000
section
variable {H : Type} {enc : TypeId × Value → H} {W : World} {v : Value} {d : DataW H} {ps : List MemPlace} {r : Reach} {b0 : Nat}

theorem open_pks (hv : Value.okWide Try.prog W r b0 27 v) (h : DataW.Trod enc Try.prog W 0 (fun _ => true) true 27 v d ps) :
    ∃ (A : Option Addr) (c : Nat) (l : List Ether.Pk), v = .slice A l.length c ∧ l.length ≤ c ∧ c ≤ maxLen ∧ Src W 3 A l.length (Ether.cellsOf l) ∧ (∀ p ∈ l, p.2.2.size ≤ maxLen) := by
  obtain ⟨A, c, l, h1, h2, h3, h4, h5, _⟩ := open_rows (α := Ether.Pk) (fun p => [.int .i64 p.1, .int .i64 p.2.1, .string p.2.2]) (fun p => p.2.2.size ≤ maxLen) 3 Try.underlying27 (by kernel_rfl) (by decide) (fun _ => rfl)
    (fun fuel cs y hy => by
      obtain ⟨y0, y1, y2, n, _, hl, h0, h1, h2⟩ := Deep.trod_struct3 Try.underlying36 hy
      have hC : Try.prog.cellsOf 36 = 3 := by kernel_rfl
      rw [hC] at hl
      match cs, hl with
      | [c0, c1, c2], _ =>
        have e3 : Try.prog.cellsOf 3 = 1 := by kernel_rfl
        have e9 : Try.prog.cellsOf 9 = 1 := by kernel_rfl
        obtain ⟨x0, hx0, _, _⟩ := DataW.trod_int Try.underlying3 h0
        obtain ⟨x1, hx1, _, _⟩ := DataW.trod_int Try.underlying3 h1
        obtain ⟨x2, hx2, _, hm⟩ := DataW.trod_string Try.underlying9 h2
        rw [e3] at hx0 hx1
        rw [e9] at hx2
        simp at hx0 hx1 hx2
        subst hx0
        subst hx1
        subst hx2
        exact ⟨(x0, x1, x2), rfl, hm⟩) h (okWide_slice Try.underlying27 hv)
  exact ⟨A, c, l, h1, h2, h3, h4, h5⟩

theorem flat_one {α : Type} (f : α → Value) (l : List α) : l.flatMap (fun a => [f a]) = l.map f := by induction l <;> simp_all

theorem open_u8s (hv : Value.okWide Try.prog W r b0 28 v) (h : DataW.Trod enc Try.prog W 0 (fun _ => true) true 28 v d ps) :
    ∃ (A : Option Addr) (c : Nat) (l : List Int), v = .slice A l.length c ∧ l.length ≤ c ∧ c ≤ maxLen ∧ Src W 1 A l.length (l.map (Value.int .u8)) ∧ (∀ x ∈ l, 0 ≤ x ∧ x ≤ 255) := by
  obtain ⟨A, c, l, h1, h2, h3, h4, h5, _⟩ := open_rows (α := Int) (fun x => [.int .u8 x]) (fun x => 0 ≤ x ∧ x ≤ 255) 1 Try.underlying28 (by kernel_rfl) (by decide) (fun _ => rfl)
    (fun fuel cs y hy => by
      obtain ⟨x, hx, _, hw⟩ := DataW.trod_int Try.underlying5 hy
      exact ⟨x, hx, by simpa [Lit.wf, IntKind.min, IntKind.max, IntKind.signed, IntKind.bits] using hw⟩) h (okWide_slice Try.underlying28 hv)
  rw [flat_one] at h4
  exact ⟨A, c, l, h1, h2, h3, h4, h5⟩
end
end Go.Proofs.Ytploafhenmfmhaa
