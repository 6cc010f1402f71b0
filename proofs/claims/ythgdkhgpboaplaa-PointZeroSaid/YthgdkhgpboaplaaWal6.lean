
/- The law WalKeeps. -/
import Derived.Test.YthgdkhgpboaplaaWal5
set_option linter.unusedSimpArgs false
set_option linter.unusedVariables false
namespace Go.Proofs.Ythgdkhgpboaplaa
open Go.RowKit
set_option maxRecDepth 100000
namespace Wl
open Disk Fr Vn Ops
/-! ### calls as cells -/
structure ActW where
  k : Int
  s : ByteArray
  n : Int
  f : Int
instance : Inhabited ActW := ⟨⟨0, ⟨#[]⟩, 0, 0⟩⟩
def wcells (a : ActW) : List Value := [.int .i64 a.k, .string a.s, .int .i64 a.n, .int .i64 a.f]
def acs (l : List ActW) : List Value := l.flatMap wcells
theorem act_cells {w : World} {A : Option Addr} {m : Nat} {l : List ActW} (h : Src w 4 A m (acs l)) (hm : 0 < m) (i : Nat) (a : ActW) (ha : l[i]? = some a) :
    ∃ ad, A = some ad ∧ ad.block < w.heap.size ∧ w.cell? (ad.add (i * 4)) = some (.int .i64 a.k) ∧ w.cell? ⟨(ad.add (i * 4)).block, (ad.add (i * 4)).off + 1, none⟩ = some (.string a.s) ∧ w.cell? ⟨(ad.add (i * 4)).block, (ad.add (i * 4)).off + 2, none⟩ = some (.int .i64 a.n) := by
  obtain ⟨ad, rfl, had, hcell⟩ := h.2 hm
  have hk : ∀ j v, j < 4 → (wcells a)[j]? = some v → w.cell? (ad.add (i * 4 + j)) = some v := by
    intro j v hj hv
    refine hcell _ _ ?_
    unfold acs
    rw [flat_get wcells 4 (by decide) (fun _ => rfl), show (i * 4 + j) / 4 = i by omega, show (i * 4 + j) % 4 = j by omega, ha]
    exact hv
  refine ⟨ad, rfl, had, hk 0 _ (by decide) rfl, ?_, ?_⟩
  · rw [← add_lit _ (by omega), add_add]; exact hk 1 _ (by decide) rfl
  · rw [← add_lit _ (by omega), add_add]; exact hk 2 _ (by decide) rfl
end Wl
section
open Go.WideShapes Go.ChangeShapes
variable {H : Type} {enc : TypeId × Value → H} {W : World} {v : Value} {d : DataW H} {ps : List MemPlace} {r : Reach} {b0 : Nat}
end
namespace Wl
open Disk Fr Vn Ops
theorem rows_apart {w : World} {t u : TypeId} {n m b1 b2 s1 s2 : Nat} {v v' : Value} {xs ys : List Value} (h : w.ownsRow b1 t s1 v n xs) (h' : w.ownsRow b2 u s2 v' m ys) (hne : t ≠ u) {k : Nat} (hk : v.ownBlock = some k) : v'.ownBlock ≠ some k := by
  rcases h.2 with ⟨rfl, _⟩ | ⟨g, cap, cur, rfl, _, hh, _⟩
  · simp [Value.ownBlock] at hk
  · obtain rfl : g = k := by simpa [Value.ownBlock] using hk
    exact own_ne h' (show Has w g t cur from hh) (fun e => hne e.symm)
theorem DiskAt.apart {F : Nat → Prop} {w : World} {g n b s k : Nat} {m : Disk.Safe} {ps : List Disk.Pc} {ser boot : Int} {e : TypeId} {v : Value} {xs : List Value} (h : DiskAt w g F n m ps ser boot) (hr : w.ownsRow b e s v k xs)
    (h1 : e ≠ 66) (h2 : e ≠ 68) : ∀ i, v.ownBlock = some i → ¬ F i := by
  intro i hi hf
  obtain ⟨mb, A, c, hF, hg, hm, ho⟩ := h
  rcases (hF i).1 hf with rfl | rfl | hx
  · exact own_ne hr hg h1 hi
  · exact hm.ne_row hr hi
  · exact rows_apart hr ho h2 hi hx
/-! ### short -/
def shB (l : List ActW) : Bool := (l.take 40).all fun a => decide (a.s.size ≤ 300)
theorem shB_get {l : List ActW} (h : shB l = true) {i : Nat} {a : ActW} (hi : i < 40) (ha : l[i]? = some a) : a.s.size ≤ 300 := by
  unfold shB at h
  rw [List.all_eq_true] at h
  have := h a (List.mem_of_getElem? (i := i) (by rw [List.getElem?_take, if_pos hi]; exact ha))
  simpa using this
end Wl
end Go.Proofs.Ythgdkhgpboaplaa
