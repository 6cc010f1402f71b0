
/- An argument that is a slice: it reads as a list, cell by cell. -/
import Derived.Test.YtopkeknpdimimaaKit
import Derived.Test.YtopkeknpdimimaaSlice
import Derived.Deep.Slices
import Derived.Deep.Strs
set_option linter.unusedSimpArgs false
set_option linter.unusedVariables false
namespace Go.Proofs.Ytopkeknpdimimaa
open Go.RowKit Go.WideShapes Go.ChangeShapes

theorem add_lit (a : Addr) {j : Nat} (h : 0 < j) : a.add j = ⟨a.block, a.off + j, none⟩ := by unfold Addr.add; rw [if_neg (by omega)]
theorem flat_get {α : Type} (cells : α → List Value) (C : Nat) (hC : 0 < C) (h1 : ∀ a, (cells a).length = C) : ∀ (l : List α) (j : Nat), (l.flatMap cells)[j]? = (l[j / C]?).bind fun a => (cells a)[j % C]? := by
  intro l
  induction l with
  | nil => intro j; simp
  | cons a l ih =>
    intro j
    rw [List.flatMap_cons]
    rcases Nat.lt_or_ge j C with h | h
    · rw [List.getElem?_append_left (by rw [h1]; exact h), Nat.div_eq_of_lt h, Nat.mod_eq_of_lt h]
      simp
    · rw [List.getElem?_append_right (by rw [h1]; exact h), h1, ih]
      have e1 : j / C = (j - C) / C + 1 := by rw [Nat.div_eq_sub_div hC h]
      have e2 : j % C = (j - C) % C := by rw [Nat.mod_eq_sub_mod h]
      rw [e1, e2, List.getElem?_cons_succ]

theorem open_rows {H : Type} {enc : TypeId × Value → H} {P : Program} {W : World} {t e : TypeId} {v : Value} {d : DataW H} {ps : List MemPlace} {α : Type} [Inhabited α] (cells : α → List Value) (good : α → Prop) (C : Nat)
    (ht : P.underlying t = some (.slice e)) (hC : P.cellsOf e = C) (hpos : 0 < C) (h1 : ∀ a, (cells a).length = C)
    (each : ∀ (fuel : Nat) (cs : List Value) (y : DataW H × List MemPlace), DataW.trod enc P W 0 (fun _ => true) true fuel e cs = some y → ∃ a, cs = cells a ∧ good a)
    (h : DataW.Trod enc P W 0 (fun _ => true) true t v d ps) (hv : ∃ A n c, v = .slice A n c) :
    ∃ (A : Option Addr) (c : Nat) (l : List α), v = .slice A l.length c ∧ l.length ≤ c ∧ c ≤ maxLen ∧ Src W C A l.length (l.flatMap cells) ∧ (∀ a ∈ l, good a) ∧ (A = none → l = [] ∧ c = 0) := by
  obtain ⟨A, n, c, rfl⟩ := hv
  obtain ⟨fuel, hf⟩ := h
  rcases Deep.open_slice ht hf with ⟨h0, _⟩ | ⟨a, len, cap, m, n', D, Pl, hcs, _, hl, hm, hmm, _, hi⟩
  · obtain ⟨rfl, rfl, rfl⟩ : A = none ∧ n = 0 ∧ c = 0 := by simpa [Value.cells] using h0
    exact ⟨none, 0, [], rfl, Nat.le_refl _, Nat.zero_le _, Src.nil W C none, fun a ha => absurd ha List.not_mem_nil, fun _ => ⟨rfl, rfl⟩⟩
  · obtain ⟨rfl, rfl, rfl⟩ : A = some a ∧ n = len ∧ c = cap := by simpa [Value.cells] using hcs
    have hml : n ≤ m := by rw [hmm]; split <;> omega
    have hall : ∀ i, ∃ x : α, i < n → (W.cells? 0 (a.add (i * C)) C = some (cells x) ∧ good x) := by
      intro i
      by_cases hin : i < n
      · obtain ⟨cs', h2, h3⟩ := hi i (by omega)
        rw [hC] at h2
        obtain ⟨x, rfl, hg⟩ := each _ _ _ h3
        exact ⟨x, fun _ => ⟨h2, hg⟩⟩
      · exact ⟨default, fun h => absurd h hin⟩
    obtain ⟨f, hf⟩ := Classical.axiomOfChoice hall
    refine ⟨some a, c, (List.range n).map f, by simp, by simpa using hl, hm, ?_, ?_, fun h => by cases h⟩
    · have hcell : ∀ j u, (((List.range n).map f).flatMap cells)[j]? = some u → W.cell? (a.add j) = some u := by
        intro j u hu
        rw [flat_get cells C hpos h1] at hu
        rw [Option.bind_eq_some_iff] at hu
        obtain ⟨x, hx, hu⟩ := hu
        rw [List.getElem?_map] at hx
        rw [Option.map_eq_some_iff] at hx
        obtain ⟨i, hir, rfl⟩ := hx
        obtain ⟨hlt, hie⟩ := List.getElem?_eq_some_iff.1 hir
        simp at hlt hie
        subst hie
        obtain ⟨_, _, hat⟩ := World.cells?_some (hf (j / C) hlt).1
        have hjm : j % C < C := Nat.mod_lt _ hpos
        have := hat (j % C) hjm
        rw [add_add] at this
        rw [show j / C * C + j % C = j by rw [Nat.mul_comm]; exact Nat.div_add_mod j C] at this
        rw [this, hu]
      refine ⟨?_, fun h0 => ⟨a, rfl, ?_, hcell⟩⟩
      · rw [List.length_flatMap]
        have hs : ∀ k, ((List.range k).map fun _ => C).sum = k * C := by
          intro k
          induction k with
          | zero => simp
          | succ k ih => rw [List.range_succ, List.map_append, List.sum_append, ih]; simp [Nat.succ_mul]
        simp [h1, Function.comp_def, hs]
      · have h0' : 0 < n := by simpa using h0
        have hz : (((List.range n).map f).flatMap cells)[0]? = (cells (f 0))[0]? := by
          rw [flat_get cells C hpos h1]
          simp [h0']
        have h2 : 0 < (cells (f 0)).length := by rw [h1]; exact hpos
        have h3 := hcell 0 _ (hz.trans (List.getElem?_eq_getElem h2))
        have h4 := block_lt_of_cell h3
        rw [block_add] at h4
        exact h4
    · intro x hx
      obtain ⟨i, hi2, rfl⟩ := List.mem_map.1 hx
      exact (hf i (by simpa using hi2)).2
end Go.Proofs.Ytopkeknpdimimaa
