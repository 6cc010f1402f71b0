
/- The document's Next: the next configuration. -/
import Derived.Test.YtffnaabnbimhbaaConf3
set_option linter.unusedSimpArgs false
set_option linter.unusedVariables false
namespace Go.Proofs.Ytffnaabnbimhbaa
open Go.RowKit
set_option maxRecDepth 100000
namespace Plan
/-- A row of numbers of the call's own. -/
def NewInts (b : Nat) (w : World) (A : Option Addr) (n c : Nat) (l : List Int) : Prop :=
  n = l.length ∧ w.ownsRow 0 3 1 (.slice A n c) n (ints l) ∧ ∀ k, (Value.slice A n c).ownBlock = some k → b ≤ k
theorem NewInts.nil (b : Nat) (w : World) : NewInts b w none 0 0 [] := ⟨rfl, ⟨rfl, .inl ⟨rfl, rfl⟩⟩, fun k hk => by cases hk⟩
theorem NewInts.kept {b : Nat} {w w' : World} {A : Option Addr} {n c : Nat} {l : List Int} (h : NewInts b w A n c l) (hk : Kept NoF w w') : NewInts b w' A n c l :=
  ⟨h.1, own_kept h.2.1 hk (fun _ _ x => x), h.2.2⟩
theorem NewInts.src {b : Nat} {w : World} {A : Option Addr} {n c : Nat} {l : List Int} (h : NewInts b w A n c l) : Src w 1 A l.length (ints l) := by
  have h1 := Src.of_own h.2.1
  rw [h.1] at h1
  exact h1
theorem NewInts.snoc {b : Nat} {w w' : World} {A A' : Option Addr} {n c c' : Nat} {l : List Int} {x : Int} (h : NewInts b w A n c l) (hb : b ≤ w.heap.size)
    (ho : w'.ownsRow 0 3 1 (.slice A' (n + 1) c') (n + 1) (ints l ++ [.int .i64 x]))
    (ha : (Value.slice A' (n + 1) c').ownBlock = (Value.slice A n c).ownBlock ∨ (Value.slice A' (n + 1) c').ownBlock = some w.heap.size) : NewInts b w' A' (n + 1) c' (l ++ [x]) := by
  refine ⟨by rw [h.1]; simp, by simpa [ints] using ho, fun k hk => ?_⟩
  rcases ha with e | e
  · exact h.2.2 k (e.symm.trans hk)
  · rw [hk] at e
    injection e with e
    omega
theorem NewRow.far {b : Nat} {w w' : World} {A : Option Addr} {n c : Nat} {l : List Mem} (h : NewRow b w A n c l) {F : Nat → Prop} (hk : Kept F w w') (hf : ∀ k, (Value.slice A n c).ownBlock = some k → ¬ F k) : NewRow b w' A n c l :=
  ⟨h.1, own_kept h.2.1 hk hf, h.2.2⟩
theorem NewRow.mono {b b' : Nat} {w : World} {A : Option Addr} {n c : Nat} {l : List Mem} (h : NewRow b w A n c l) (hb : b' ≤ b) : NewRow b' w A n c l := ⟨h.1, h.2.1, fun k hk => Nat.le_trans hb (h.2.2 k hk)⟩
theorem NewRow.ne {b : Nat} {w : World} {A : Option Addr} {n c : Nat} {l : List Mem} (h : NewRow b w A n c l) {g : Nat} {t : TypeId} {cs : Array Value} (hg : Has w g t cs) (hne : 58 ≠ t) : (Value.slice A n c).ownBlock ≠ some g := own_ne h.2.1 hg hne

def nagg (N : Next) (A : Option Addr) (n c : Nat) (B : Option Addr) (m d : Nat) : Value := .tuple #[cagg N.ep A n c N.fl, .slice B m d, .int .i64 N.e]
def NextPost (w : World) (N : Next) (e : Ending) (w' : World) : Prop :=
  ∃ A n c B m d, e = .returned (nagg N A n c B m d) ∧ NewRow w.heap.size w' A n c N.l ∧ NewInts w.heap.size w' B m d N.t ∧ Kept NoF w w'

def idsTo (l : List Mem) (i : Nat) : List Int := (([0, 1, 2, 3] : List Int).take i).flatMap fun i => (l.filter fun m => decide (m.1 = i)).map (·.1)
def idsIn (l : List Mem) (i k : Nat) : List Int := idsTo l i ++ ((l.take k).filter fun m => decide (m.1 = (i : Int))).map (·.1)
theorem idsTo_all (l : List Mem) : idsTo l 4 = idsR l := rfl
theorem idsIn_start (l : List Mem) (i : Nat) : idsIn l i 0 = idsTo l i := by simp [idsIn]
theorem idsIn_end (l : List Mem) (i : Nat) (h : i < 4) : idsIn l i l.length = idsTo l (i + 1) := by
  unfold idsIn idsTo
  rw [List.take_length, List.take_add_one, List.flatMap_append]
  have : ([0, 1, 2, 3] : List Int)[i]? = some (i : Int) := by
    rcases (show i = 0 ∨ i = 1 ∨ i = 2 ∨ i = 3 by omega) with rfl | rfl | rfl | rfl <;> rfl
  rw [this]
  simp
theorem idsIn_yes {l : List Mem} {i k : Nat} {m : Mem} (h : l[k]? = some m) (e : m.1 = i) : idsIn l i (k + 1) = idsIn l i k ++ [(i : Int)] := by
  unfold idsIn
  rw [take_snoc h, List.filter_append, List.map_append, List.append_assoc]
  simp [e]
theorem idsIn_no {l : List Mem} {i k : Nat} {m : Mem} (h : l[k]? = some m) (e : m.1 ≠ i) : idsIn l i (k + 1) = idsIn l i k := by
  unfold idsIn
  rw [take_snoc h, List.filter_append, List.map_append]
  simp [e]
theorem flat_le (ls : List Int) (l : List Mem) : (ls.flatMap fun i => (l.filter fun m => decide (m.1 = i)).map (·.1)).length ≤ ls.length * l.length := by
  induction ls with
  | nil => simp
  | cons a ls ih =>
    rw [List.flatMap_cons, List.length_append, List.length_map, List.length_cons, Nat.succ_mul]
    have := List.length_filter_le (fun m : Mem => decide (m.1 = a)) l
    omega
theorem idsIn_le (l : List Mem) (i k : Nat) (hi : i ≤ 4) (hl : l.length ≤ 1000) : (idsIn l i k).length ≤ 5000 := by
  unfold idsIn idsTo
  rw [List.length_append, List.length_map]
  have h1 := flat_le (([0, 1, 2, 3] : List Int).take i) l
  have h2 := List.length_filter_le (fun m : Mem => decide (m.1 = (i : Int))) (l.take k)
  have h3 := List.length_take_le' k l
  have h4 : (([0, 1, 2, 3] : List Int).take i).length ≤ 4 := by rw [List.length_take]; simp; omega
  have h5 : (([0, 1, 2, 3] : List Int).take i).length * l.length ≤ 4 * 1000 := Nat.mul_le_mul h4 hl
  omega
theorem allOf_at (l : List Mem) (t g : List Int) (j : List Mem) (k : Nat) (h : k < (firsts l t g).length) : (allOf l t g j)[k]? = (firsts l t g)[k]? := by
  obtain ⟨r, hr, _⟩ := joinAll_prefix j (firsts l t g ++ rests l t g)
  unfold allOf
  rw [hr, List.append_assoc, List.getElem?_append_left h]

end Plan
end Go.Proofs.Ytffnaabnbimhbaa
