
/- The document's order: who is a member then; how many are trusted. -/
import Derived.Test.YtolipnnjeehnfaaConf2
set_option linter.unusedSimpArgs false
set_option linter.unusedVariables false
namespace Go.Proofs.Ytolipnnjeehnfaa
open Go.RowKit
set_option maxRecDepth 100000
namespace Plan
/-- A row of members of the call's own: nothing of it lies below b. -/
def NewRow (b : Nat) (w : World) (A : Option Addr) (n c : Nat) (l : List Mem) : Prop :=
  n = l.length ∧ w.ownsRow 0 86 2 (.slice A n c) n (mcells l) ∧ ∀ k, (Value.slice A n c).ownBlock = some k → b ≤ k
theorem NewRow.nil (b : Nat) (w : World) : NewRow b w none 0 0 [] := ⟨rfl, ⟨rfl, .inl ⟨rfl, rfl⟩⟩, fun k hk => by cases hk⟩
theorem NewRow.kept {b : Nat} {w w' : World} {A : Option Addr} {n c : Nat} {l : List Mem} (h : NewRow b w A n c l) (hk : Kept NoF w w') : NewRow b w' A n c l :=
  ⟨h.1, own_kept h.2.1 hk (fun _ _ x => x), h.2.2⟩
theorem NewRow.src {b : Nat} {w : World} {A : Option Addr} {n c : Nat} {l : List Mem} (h : NewRow b w A n c l) : Src w 2 A l.length (mcells l) := by
  have h1 := Src.of_own h.2.1
  rw [h.1] at h1
  exact h1
theorem NewRow.snoc {b : Nat} {w w' : World} {A A' : Option Addr} {n c c' : Nat} {l : List Mem} {m : Mem} (h : NewRow b w A n c l) (hb : b ≤ w.heap.size)
    (ho : w'.ownsRow 0 86 2 (.slice A' (n + 1) c') (n + 1) (mcells l ++ [.int .i64 m.1, .int .i64 m.2]))
    (ha : (Value.slice A' (n + 1) c').ownBlock = (Value.slice A n c).ownBlock ∨ (Value.slice A' (n + 1) c').ownBlock = some w.heap.size) : NewRow b w' A' (n + 1) c' (l ++ [m]) := by
  refine ⟨by rw [h.1]; simp, by rw [mcells_append]; exact ho, fun k hk => ?_⟩
  rcases ha with e | e
  · exact h.2.2 k (e.symm.trans hk)
  · rw [hk] at e
    injection e with e
    omega
theorem filter_snoc {l : List Mem} {i : Nat} {m : Mem} (p : Mem → Bool) (h : l[i]? = some m) : (l.take (i + 1)).filter p = (l.take i).filter p ++ if p m = true then [m] else [] := by
  rw [take_snoc h, List.filter_append]
  by_cases hp : p m = true <;> simp [hp]
theorem filter_yes {l : List Mem} {i : Nat} {m : Mem} {p : Mem → Bool} (h : l[i]? = some m) (hp : p m = true) : (l.take (i + 1)).filter p = (l.take i).filter p ++ [m] := by rw [filter_snoc p h, if_pos hp]
theorem filter_no {l : List Mem} {i : Nat} {m : Mem} {p : Mem → Bool} (h : l[i]? = some m) (hp : p m = false) : (l.take (i + 1)).filter p = (l.take i).filter p := by rw [filter_snoc p h, if_neg (by rw [hp]; decide), List.append_nil]
theorem isFirst_eq (g t : List Int) (m : Mem) : isFirst g t m = (!inB g m.1 && inB t m.1) := rfl
theorem isRest_eq (g t : List Int) (m : Mem) : isRest g t m = (!inB g m.1 && !inB t m.1) := rfl
theorem rcheck_one (w : World) (m : Mem) (g : Nat) (c : Nat) (h : Has w g 86 #[.int .i64 m.1, .int .i64 m.2]) :
    Calls Try.prog 60 #[.agg #[.int .i64 1, .slice (some ⟨g, 0, none⟩) 1 c, .int .u64 0]] w fun e w' => e = .returned (.int .i64 (chk 1 [m])) ∧ Kept NoF w w' :=
  rcheck_any w 1 0 (some ⟨g, 0, none⟩) c [m] (Src.of_has (m := 1) h rfl) (by simp)
theorem joinAll_drop (l j : List Mem) (i : Nat) : joinAll l j = joinAll (joinAll l (j.take i)) (j.drop i) := by
  unfold joinAll
  rw [← List.foldl_append, List.take_append_drop]

def OrderPost (w : World) (l : List Mem) (t g : List Int) (j : List Mem) (e : Ending) (w' : World) : Prop :=
  ∃ O n oc, e = .returned (.tuple #[.slice O n oc, .int .i64 (firsts l t g).length]) ∧ NewRow w.heap.size w' O n oc (allOf l t g j) ∧ Kept NoF w w'

end Plan
end Go.Proofs.Ytolipnnjeehnfaa
