/- awake, long: what the laws on plans ask besides. -/
import Derived.Test.YtnmlemciiigjcaaPlan5
set_option linter.unusedSimpArgs false
set_option linter.unusedVariables false
namespace Go.Proofs.Ytnmlemciiigjcaa
open Go.RowKit Go.Shelf Go.Maps
set_option maxRecDepth 100000
namespace Plan
theorem NewRow.block {b : Nat} {w : World} {A : Option Addr} {n c : Nat} {l : List Mem} (h : NewRow b w A n c l) (hn : 0 < n) : ∃ g, A = some ⟨g, 0, none⟩ ∧ ∀ j u, (mcells l)[j]? = some u → w.cell? ⟨g, j, none⟩ = some u := by
  obtain ⟨g, cap, hv, _, hlt⟩ := h.2.1.form hn
  injection hv with hA
  subst hA
  refine ⟨g, rfl, fun j u hu => ?_⟩
  have h1 := h.2.1.cells (g := g) rfl j u hu
  have e1 : ((⟨g, 0, none⟩ : Addr).add j) = ⟨g, j, none⟩ := by unfold Addr.add; split <;> simp_all
  rwa [e1] at h1
theorem NewInts.block {b : Nat} {w : World} {A : Option Addr} {n c : Nat} {l : List Int} (h : NewInts b w A n c l) (hn : 0 < n) : ∃ g, A = some ⟨g, 0, none⟩ ∧ ∀ (j : Nat) x, l[j]? = some x → w.cell? ⟨g, j, none⟩ = some (.int .i64 x) := by
  obtain ⟨g, cap, hv, _, hlt⟩ := h.2.1.form hn
  injection hv with hA
  subst hA
  refine ⟨g, rfl, fun j u hu => ?_⟩
  have h1 := h.2.1.cells (g := g) rfl j (.int .i64 u) (by simp [ints, hu])
  have e1 : ((⟨g, 0, none⟩ : Addr).add j) = ⟨g, j, none⟩ := by unfold Addr.add; split <;> simp_all
  rwa [e1] at h1

def lA : List Mem := [(0, 1), (1, 1), (2, 1)]
def NA : Next := ⟨0, 2, [(2, 1), (0, 1), (3, 4)], 10, [2]⟩
theorem awake_next : nextOf 1 lA 0 [1, 2] [1] [(3, 4)] 9 = NA := by
  have h1 : chk 1 lA = 0 := by decide
  have h2 : firsts lA [1, 2] [1] = [(2, 1)] := by decide
  have h3 : allOf lA [1, 2] [1] [(3, 4)] = [(2, 1), (0, 1), (3, 4)] := by decide
  unfold nextOf
  rw [h1, h2, h3, if_neg (by decide), if_neg (by decide), if_neg (by decide), if_neg (by decide)]
  have h4 : floorOf 0 9 = 10 := by decide
  rw [h4]
  simp [NA, ids]

set_option maxHeartbeats 2000000 in
theorem awake_any (w : World) : Calls Try.prog 35 #[] w fun e w' => e = .returned (.bool true) ∧ Kept NoF w w' := by
  have hnx : ∀ (W : World) (g1 g2 g3 g4 : Nat), Has W g1 77 #[.int .i64 0, .int .i64 1, .int .i64 1, .int .i64 1, .int .i64 2, .int .i64 1] → Has W g2 3 #[.int .i64 1, .int .i64 2] → Has W g3 3 #[.int .i64 1] → Has W g4 77 #[.int .i64 3, .int .i64 4] →
      Calls Try.prog 36 #[.agg #[.int .i64 1, .slice (some ⟨g1, 0, none⟩) 3 3, .int .u64 0], .slice (some ⟨g2, 0, none⟩) 2 2, .slice (some ⟨g3, 0, none⟩) 1 1, .slice (some ⟨g4, 0, none⟩) 1 1, .int .u64 9] W (NextPost W NA) := by
    intro W g1 g2 g3 g4 h1 h2 h3 h4
    rw [← awake_next]
    exact pnext_any W 1 0 (some ⟨g1, 0, none⟩) (some ⟨g2, 0, none⟩) (some ⟨g3, 0, none⟩) (some ⟨g4, 0, none⟩) 3 2 1 1 lA [(3, 4)] [1, 2] [1] 9 (Src.of_has (m := 3) h1 rfl) (Src.of_has (m := 2) h2 rfl) (Src.of_has (m := 1) h3 rfl) (Src.of_has (m := 1) h4 rfl)
      (by decide) (by decide) (by decide) (by decide) (by unfold maxTs; decide) (by unfold maxTs; decide) (by decide) (by decide)
      (by intro x hx; simp at hx; rcases hx with rfl | rfl <;> rfl) (by intro x hx; simp at hx; subst hx; rfl) (by intro m hm; simp [lA] at hm; rcases hm with rfl | rfl | rfl <;> rfl)
  have HNX := Lib.hid hnx; clear hnx
  go_enter Try.func35, Try.ntmps35
  go_wp2_with fail
  refine (HNX.out _ _ _ _ _ (by (repeat (first | with_reducible exact Has.new_at _ _ _ (by simp) | with_reducible apply Has.drew | with_reducible apply Has.drewN | with_reducible apply Has.alloc | (with_reducible apply Has.past <;> (try omega)) ))) (by (repeat (first | with_reducible exact Has.new_at _ _ _ (by simp) | with_reducible apply Has.drew | with_reducible apply Has.drewN | with_reducible apply Has.alloc | (with_reducible apply Has.past <;> (try omega)) ))) (by (repeat (first | with_reducible exact Has.new_at _ _ _ (by simp) | with_reducible apply Has.drew | with_reducible apply Has.drewN | with_reducible apply Has.alloc | (with_reducible apply Has.past <;> (try omega)) ))) (by (repeat (first | with_reducible exact Has.new_at _ _ _ (by simp) | with_reducible apply Has.drew | with_reducible apply Has.drewN | with_reducible apply Has.alloc | (with_reducible apply Has.past <;> (try omega)) )))).mono ?_
  rintro e w2 ⟨A, n, c, B, m, d, rfl, hrow, hint, hk⟩
  have hk2 : Kept NoF w w2 := Kept.then (by (repeat' (first | with_reducible exact Kept.refl _ _ | with_reducible refine Kept.put ?_ ?_ | with_reducible refine Kept.drewN ?_ _ | with_reducible refine Kept.drew ?_ | with_reducible refine Kept.alloc ?_ _ | (fail) | (right; simp; done)))) hk
  have HK2 := Lib.hid hk2; clear hk2 hk
  obtain rfl : n = 3 := hrow.1
  obtain rfl : m = 1 := hint.1
  obtain ⟨g, rfl, hc⟩ := hrow.block (by decide)
  obtain ⟨g2, rfl, hc2⟩ := hint.block (by decide)
  have d0 : w2.cell? ⟨g, 0, none⟩ = some (.int .i64 2) := hc 0 _ rfl
  have d2 : w2.cell? ⟨g, 2, none⟩ = some (.int .i64 0) := hc 2 _ rfl
  have i0 : w2.cell? ⟨g2, 0, none⟩ = some (.int .i64 2) := hc2 0 _ rfl
  have hlg : g < w2.heap.size := hrow.lt rfl
  have hlg2 : g2 < w2.heap.size := hint.lt rfl
  have y0 : ∀ o, (w2.alloc o).cell? ⟨g, 0, none⟩ = some (.int .i64 2) := fun o => (World.cell?_of_block (w := w2) (Below.heap_alloc w2 o g hlg)).trans d0
  have y2 : ∀ o, (w2.alloc o).cell? ⟨g, 2, none⟩ = some (.int .i64 0) := fun o => (World.cell?_of_block (w := w2) (Below.heap_alloc w2 o g hlg)).trans d2
  have z0 : ∀ o, (w2.alloc o).cell? ⟨g2, 0, none⟩ = some (.int .i64 2) := fun o => (World.cell?_of_block (w := w2) (Below.heap_alloc w2 o g2 hlg2)).trans i0
  clear hc hc2 hrow hint hlg hlg2
  unfold nagg cagg
  dsimp only [NA]
  go_wp2
  go_ret
  exact ⟨rfl, HK2.out.alloc _⟩
end Plan
end Go.Proofs.Ytnmlemciiigjcaa
