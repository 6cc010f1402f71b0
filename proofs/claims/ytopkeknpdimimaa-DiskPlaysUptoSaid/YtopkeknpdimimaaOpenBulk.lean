/- An argument that is a slice of any struct, as a list, and a bound on its bulk. -/
import Derived.Test.YtopkeknpdimimaaRows
import Derived.Test.YtopkeknpdimimaaDiskOrder
set_option linter.unusedSimpArgs false
set_option linter.unusedVariables false
namespace Go.Proofs.Ytopkeknpdimimaa
open Go.RowKit
set_option maxRecDepth 100000
theorem open_rows_bulk {H : Type} {enc : TypeId × Value → H} {P : Program} {W : World} {t e : TypeId} {v : Value} {d : DataW H} {ps : List MemPlace} {α : Type} [Inhabited α] (cells : α → List Value) (good : α → Prop) (wt : α → Nat) (C : Nat)
    (ht : P.underlying t = some (.slice e)) (hC : P.cellsOf e = C) (hpos : 0 < C) (h1 : ∀ a, (cells a).length = C)
    (each : ∀ (fuel : Nat) (cs : List Value) (y : DataW H × List MemPlace), DataW.trod enc P W 0 (fun _ => true) true fuel e cs = some y → ∃ a, cs = cells a ∧ good a ∧ wt a ≤ Rows.uptoBulk y.1)
    (h : DataW.Trod enc P W 0 (fun _ => true) true t v d ps) (hv : ∃ A n c, v = .slice A n c) :
    ∃ (A : Option Addr) (c : Nat) (l : List α), v = .slice A l.length c ∧ l.length ≤ c ∧ c ≤ maxLen ∧ Src W C A l.length (l.flatMap cells) ∧ (∀ a ∈ l, good a) ∧ (A = none → l = [] ∧ c = 0) ∧ (l.map wt).sum ≤ Rows.uptoBulk d := by
  obtain ⟨A, n, c, rfl⟩ := hv
  obtain ⟨fuel, hf⟩ := h
  rcases Deep.open_slice ht hf with ⟨h0, _⟩ | ⟨a, len, cap, m, n', D, Pl, hcs, _, hl, hm, hmm, hx, hi⟩
  · obtain ⟨rfl, rfl, rfl⟩ : A = none ∧ n = 0 ∧ c = 0 := by simpa [Value.cells] using h0
    exact ⟨none, 0, [], rfl, Nat.le_refl _, Nat.zero_le _, Src.nil W C none, fun a ha => absurd ha List.not_mem_nil, fun _ => ⟨rfl, rfl⟩, by simp⟩
  · obtain ⟨rfl, rfl, rfl⟩ : A = some a ∧ n = len ∧ c = cap := by simpa [Value.cells] using hcs
    have hml : n ≤ m := by rw [hmm]; split <;> omega
    have hall : ∀ i, ∃ x : α, i < n → (W.cells? 0 (a.add (i * C)) C = some (cells x) ∧ good x ∧ wt x ≤ Rows.uptoBulk (D i)) := by
      intro i
      by_cases hin : i < n
      · obtain ⟨cs', h2, h3⟩ := hi i (by omega)
        rw [hC] at h2
        obtain ⟨x, rfl, hg, hw⟩ := each _ _ _ h3
        exact ⟨x, fun _ => ⟨h2, hg, hw⟩⟩
      · exact ⟨default, fun h => absurd h hin⟩
    obtain ⟨f, hf⟩ := Classical.axiomOfChoice hall
    refine ⟨some a, c, (List.range n).map f, by simp, by simpa using hl, hm, ?_, ?_, (fun h => by cases h), ?_⟩
    · have hcell : ∀ j u, (((List.range n).map f).flatMap cells)[j]? = some u → W.cell? (a.add j) = some u := by
        intro j u hu
        rw [flat_get cells C hpos h1] at hu
        rw [Option.bind_eq_some_iff] at hu
        obtain ⟨x, hx, hu⟩ := hu
        rw [List.getElem?_map] at hx
        rw [Option.map_eq_some_iff] at hx
        obtain ⟨i, hir, rfl⟩ := hx
        obtain ⟨hlt, hie⟩ := List.getElem?_eq_some_iff.1 hir
        simp at hlt hie
        subst hie
        obtain ⟨_, _, hat⟩ := World.cells?_some (hf (j / C) hlt).1
        have hjm : j % C < C := Nat.mod_lt _ hpos
        have := hat (j % C) hjm
        rw [add_add] at this
        rw [show j / C * C + j % C = j by rw [Nat.mul_comm]; exact Nat.div_add_mod j C] at this
        rw [this, hu]
      refine ⟨?_, fun h0 => ⟨a, rfl, ?_, hcell⟩⟩
      · rw [List.length_flatMap]
        have hs : ∀ k, ((List.range k).map fun _ => C).sum = k * C := by
          intro k
          induction k with
          | zero => simp
          | succ k ih => rw [List.range_succ, List.map_append, List.sum_append, ih]; simp [Nat.succ_mul]
        simp [h1, Function.comp_def, hs]
      · have h0' : 0 < n := by simpa using h0
        have hz : (((List.range n).map f).flatMap cells)[0]? = (cells (f 0))[0]? := by
          rw [flat_get cells C hpos h1]
          simp [h0']
        have h2 : 0 < (cells (f 0)).length := by rw [h1]; exact hpos
        have h3 := hcell 0 _ (hz.trans (List.getElem?_eq_getElem h2))
        have h4 := block_lt_of_cell h3
        rw [block_add] at h4
        exact h4
    · intro x hx
      obtain ⟨i, hi2, rfl⟩ := List.mem_map.1 hx
      exact (hf i (by simpa using hi2)).2.1
    · have hd : d = .slice ((List.range n).map D) ((List.range (m - n)).map fun j => D (n + j)) := by injection hx
      rw [hd]
      have hb : ∀ xs : List Nat, (∀ i ∈ xs, wt (f i) ≤ Rows.uptoBulk (D i)) → ((xs.map f).map wt).sum ≤ Rows.uptoBulkAll (xs.map D) := by
        intro xs
        induction xs with
        | nil => intro _; simp
        | cons x xs ih =>
          intro hxs
          have h1 := hxs x (by simp)
          have h2 := ih fun i hi => hxs i (by simp [hi])
          simp only [List.map_cons, List.sum_cons, Rows.uptoBulkAll]
          omega
      have h3 := hb (List.range n) fun i hi => (hf i (by simpa using hi)).2.2
      simp only [Rows.uptoBulk]
      omega

theorem bulk_le {H : Type} {ds : List (DataW H)} (h : Rows.uptoSmall H ds = true) : Rows.uptoBulkAll ds ≤ 1048576 := by
  unfold Rows.uptoSmall at h
  exact of_decide_eq_true h
theorem bulk_cons {H : Type} (d : DataW H) (ds : List (DataW H)) : Rows.uptoBulkAll (d :: ds) = Rows.uptoBulk d + Rows.uptoBulkAll ds := by rw [Rows.uptoBulkAll]

section
open Go.WideShapes Go.ChangeShapes
variable {H : Type} {enc : TypeId × Value → H} {W : World} {v : Value} {d : DataW H} {ps : List MemPlace} {r : Reach} {b0 : Nat}
theorem open_dacts_bulk (hv : Value.okWide Try.prog W r b0 22 v) (h : DataW.Trod enc Try.prog W 0 (fun _ => true) true 22 v d ps) :
    ∃ (A : Option Addr) (c : Nat) (l : List Disk.DAct), v = .slice A l.length c ∧ l.length ≤ c ∧ c ≤ maxLen ∧ Src W 4 A l.length (Disk.acs l) ∧ (∀ a ∈ l, Disk.I64 a.2.1 ∧ Disk.I64 a.2.2.2 ∧ a.2.2.1.size ≤ maxLen) ∧ (l.map fun a => a.2.2.1.size).sum ≤ Rows.uptoBulk d := by
  obtain ⟨A, c, l, h1, h2, h3, h4, h5, _, h6⟩ := open_rows_bulk (α := Disk.DAct) Disk.dcells (fun a => Disk.I64 a.2.1 ∧ Disk.I64 a.2.2.2 ∧ a.2.2.1.size ≤ maxLen) (fun a => a.2.2.1.size) 4 Try.underlying22 (by kernel_rfl) (by decide) (fun _ => rfl)
    (fun fuel cs y hy => by
      obtain ⟨y0, y1, y2, y3, n, hyd, hl, h0, h1, h2, h3⟩ := Joins.trod_struct4 Try.underlying29 hy
      have hC : Try.prog.cellsOf 29 = 4 := by kernel_rfl
      rw [hC] at hl
      match cs, hl with
      | [c0, c1, c2, c3], _ =>
        have e3 : Try.prog.cellsOf 3 = 1 := by kernel_rfl
        have e9 : Try.prog.cellsOf 9 = 1 := by kernel_rfl
        obtain ⟨x0, hx0, _, _⟩ := DataW.trod_int Try.underlying3 h0
        obtain ⟨x1, hx1, _, m1⟩ := DataW.trod_int Try.underlying3 h1
        obtain ⟨x2, hx2, hd2, m2⟩ := DataW.trod_string Try.underlying9 h2
        obtain ⟨x3, hx3, _, m3⟩ := DataW.trod_int Try.underlying3 h3
        simp [e3, e9] at hx0 hx1 hx2 hx3
        subst hx0
        subst hx1
        subst hx2
        subst hx3
        refine ⟨(x0, x1, x2, x3), rfl, ⟨m1, m3, m2⟩, ?_⟩
        rw [hyd, hd2]
        simp [Rows.uptoBulk, Rows.uptoBulkAll]
        omega) h (okWide_slice Try.underlying22 hv)
  exact ⟨A, c, l, h1, h2, h3, h4, h5, h6⟩
end
end Go.Proofs.Ytopkeknpdimimaa
