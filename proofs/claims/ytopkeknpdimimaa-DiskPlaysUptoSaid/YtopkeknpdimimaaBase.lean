
/- Words on memory that all walks of this seat use: a block known whole; what a call may have turned (its footprint). -/
import Derived.Below
import Derived.Laws.OwnMore
import Derived.Laws.Rows
import Derived.Deep.Draws
import Derived.LaidEqlPtr
set_option linter.unusedSimpArgs false
set_option linter.unusedVariables false
namespace Go.Proofs.Ytopkeknpdimimaa
open Go.RowKit

/-- Block g is just the cells cs, of element type t. -/
def Has (w : World) (g : Nat) (t : TypeId) (cs : Array Value) : Prop := w.heap[g]? = some (.cells cs t (0, 0))

/-- From a to b nothing that was there has turned, but for blocks of F. -/
structure Kept (F : Nat → Prop) (a b : World) : Prop where
  os : b.os = a.os
  tape : b.tape = a.tape
  output : b.output = a.output
  size : a.heap.size ≤ b.heap.size
  block : ∀ k, k < a.heap.size → ¬ F k → b.heap[k]? = a.heap[k]?

/-- Two footprints that share nothing. -/
def Sep (F G : Nat → Prop) : Prop := ∀ k, F k → ¬ G k
def NoF : Nat → Prop := fun _ => False
/-- The footprint F has become F': what is more is new. -/
def Grows (w : World) (F F' : Nat → Prop) : Prop := ∀ k, F' k → F k ∨ w.heap.size ≤ k

section
variable {F G : Nat → Prop} {a b c w w' : World} {g : Nat} {t : TypeId} {cs : Array Value}

theorem Has.lt (h : Has w g t cs) : g < w.heap.size := by
  rcases Nat.lt_or_ge g w.heap.size with hl | hl
  · exact hl
  · unfold Has at h
    rw [Array.getElem?_eq_none hl] at h
    cases h
theorem Has.cell (h : Has w g t cs) (i : Nat) : w.cell? ⟨g, i, none⟩ = cs[i]? := cell_of_row w g i cs t (0, 0) h
theorem Has.frozen (h : Has w g t cs) (i : Nat) : w.frozen? ⟨g, i, none⟩ = false := by
  unfold Has at h
  simp [World.frozen?, h]
theorem Has.new (w : World) (t : TypeId) (cs : Array Value) : Has (w.alloc (.cells cs t)) w.heap.size t cs := heap_alloc_new w _
theorem Has.new_at (w : World) (t : TypeId) (cs : Array Value) {g : Nat} (hg : g = w.heap.size) : Has (w.alloc (.cells cs t)) g t cs := by subst hg; exact Has.new w t cs
theorem size_setCell (w : World) (p : Addr) (u : Value) : (w.setCell p u).heap.size = w.heap.size := by simp [World.setCell]
theorem size_alloc (w : World) (o : Obj) : (w.alloc o).heap.size = w.heap.size + 1 := by simp
theorem Has.drew (h : Has w g t cs) : Has w.drew g t cs := h
theorem Has.drewN (h : Has w g t cs) (n : Nat) : Has (w.drewN n) g t cs := h
theorem Has.alloc (h : Has w g t cs) (o : Obj) : Has (w.alloc o) g t cs := (Below.heap_alloc w o g h.lt).trans h
theorem Has.put (h : Has w g t cs) (i : Nat) (u : Value) : Has (w.setCell ⟨g, i, none⟩ u) g t (cs.setIfInBounds i u) := by
  unfold Has at h ⊢
  simp [World.setCell, Array.getElem?_modify, h]
theorem Has.far (h : Has w g t cs) {p : Addr} (hp : g ≠ p.block) (u : Value) : Has (w.setCell p u) g t cs := (Below.heap_setCell w p u g hp).trans h
theorem Has.past (h : Has w g t cs) {b i : Nat} {u : Value} (hp : g ≠ b) : Has (w.setCell ⟨b, i, none⟩ u) g t cs := h.far (p := ⟨b, i, none⟩) hp u
theorem Has.put_of {cs' : Array Value} {i : Nat} {u : Value} (h : Has w g t cs) (e : cs.setIfInBounds i u = cs') : Has (w.setCell ⟨g, i, none⟩ u) g t cs' := e ▸ h.put i u
theorem Has.kept (h : Has a g t cs) (hk : Kept F a b) (hg : ¬ F g) : Has b g t cs := (hk.block g h.lt hg).trans h
theorem Has.below {B : Nat} (h : Has a g t cs) (hb : Below B a b) (hg : g < B) : Has b g t cs := (hb.block g hg).trans h
theorem Has.ne {g' : Nat} {t' : TypeId} {cs' : Array Value} (h : Has w g t cs) (h' : Has w g' t' cs') (hne : t ≠ t') : g ≠ g' := by
  rintro rfl
  unfold Has at h h'
  rw [h] at h'
  injection h' with h'
  injection h' with _ e
  exact hne e
theorem Has.eq {cs' : Array Value} {t' : TypeId} (h : Has w g t cs) (h' : Has w g t' cs') : cs = cs' := by
  unfold Has at h h'
  rw [h] at h'
  injection h' with h'
  injection h' with e

theorem Kept.refl (F : Nat → Prop) (w : World) : Kept F w w := ⟨rfl, rfl, rfl, Nat.le_refl _, fun _ _ _ => rfl⟩
theorem Kept.trans (h : Kept F a b) (k : Kept G b c) (hs : ∀ i, G i → F i ∨ a.heap.size ≤ i) : Kept F a c :=
  ⟨k.os.trans h.os, k.tape.trans h.tape, k.output.trans h.output, Nat.le_trans h.size k.size, fun i hi hf =>
    (k.block i (Nat.lt_of_lt_of_le hi h.size) (fun hg => by rcases hs i hg with x | x; exact hf x; omega)).trans (h.block i hi hf)⟩
theorem Kept.then (h : Kept F a b) (k : Kept F b c) : Kept F a c := h.trans k fun _ x => .inl x
theorem Kept.mono (h : Kept F a b) (hs : ∀ i, F i → G i) : Kept G a b := ⟨h.os, h.tape, h.output, h.size, fun i hi hg => h.block i hi fun x => hg (hs i x)⟩
theorem Kept.drew (h : Kept F a b) : Kept F a b.drew := ⟨h.os, h.tape, h.output, h.size, h.block⟩
theorem Kept.drewN (h : Kept F a b) (n : Nat) : Kept F a (b.drewN n) := ⟨h.os, h.tape, h.output, h.size, h.block⟩
theorem Kept.alloc (h : Kept F a b) (o : Obj) : Kept F a (b.alloc o) :=
  h.trans (G := NoF) ⟨rfl, rfl, rfl, by simp, fun k hk _ => Below.heap_alloc _ _ _ hk⟩ fun _ x => x.elim
theorem Kept.setCell (h : Kept F a b) {p : Addr} (hp : F p.block ∨ a.heap.size ≤ p.block) (u : Value) : Kept F a (b.setCell p u) :=
  h.trans (G := fun k => k = p.block) ⟨rfl, rfl, rfl, by simp [World.setCell], fun k _ hk => Below.heap_setCell _ _ _ _ hk⟩ fun _ x => by rw [x]; exact hp
theorem Kept.put (h : Kept F a b) {g i : Nat} {u : Value} (hp : F g ∨ a.heap.size ≤ g) : Kept F a (b.setCell ⟨g, i, none⟩ u) := h.setCell hp u
theorem Kept.of_below {B : Nat} (h : Below B a b) (hB : ∀ k, k < a.heap.size → ¬ F k → k < B) : Kept F a b := ⟨h.os, h.tape, h.output, h.size, fun k hk hf => h.block k (hB k hk hf)⟩
theorem Kept.below (h : Kept F a b) {B : Nat} (hB : B ≤ a.heap.size) (hf : ∀ k, F k → B ≤ k) : Below B a b :=
  ⟨h.os, h.tape, h.output, h.size, fun k hk => h.block k (by omega) (fun x => by have := hf k x; omega)⟩
theorem Kept.quiet (F : Nat → Prop) (w : World) (n : Nat) : Kept F w (w.drewN n) := ⟨rfl, rfl, rfl, Nat.le_refl _, fun _ _ _ => rfl⟩
theorem Kept.grownBy (h : Kept F a b) {row : Option Nat} (hg : b.grownBy c row) (hr : ∀ k, row = some k → F k ∨ a.heap.size ≤ k) : Kept F a c :=
  h.trans (G := fun k => row = some k) ⟨hg.os, hg.tape, hg.output, hg.size, fun k hk hn => hg.block k hk (fun e => hn e.symm)⟩ hr
theorem Below.kept_trans {B : Nat} (h : Below B a b) (k : Kept F b c) (hB : B ≤ b.heap.size) (hf : ∀ i, F i → B ≤ i) : Below B a c := h.trans (k.below hB hf)

theorem Sep.symm (h : Sep F G) : Sep G F := fun k x y => h k y x
theorem Sep.grow {F' : Nat → Prop} (h : Sep F G) (hg : Grows w F F') (hb : ∀ k, G k → k < w.heap.size) : Sep F' G := fun k x y => by
  rcases hg k x with z | z
  · exact h k z y
  · have := hb k y; omega
theorem Grows.refl (w : World) (F : Nat → Prop) : Grows w F F := fun _ h => .inl h
theorem Grows.trans {F1 F2 F3 : Nat → Prop} (h : Grows a F1 F2) (k : Grows b F2 F3) (hs : a.heap.size ≤ b.heap.size) : Grows a F1 F3 := fun i x => by
  rcases k i x with y | y
  · exact h i y
  · exact .inr (by omega)
theorem Grows.above {B : Nat} {F' : Nat → Prop} (h : Grows w F F') (hf : ∀ k, F k → B ≤ k) (hB : B ≤ w.heap.size) : ∀ k, F' k → B ≤ k := fun k x => by
  rcases h k x with y | y
  · exact hf k y
  · omega
end
end Go.Proofs.Ytopkeknpdimimaa
