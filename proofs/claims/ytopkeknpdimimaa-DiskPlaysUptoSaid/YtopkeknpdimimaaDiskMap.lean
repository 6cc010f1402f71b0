
/- A map from int to string that a call owns, as a function. -/
import Derived.Test.YtopkeknpdimimaaOpen
import Derived.Maps.OwnSet
import Derived.Maps.Views
set_option linter.unusedSimpArgs false
set_option linter.unusedVariables false
namespace Go.Proofs.Ytopkeknpdimimaa
open Go.RowKit Go.Maps
set_option maxRecDepth 100000
namespace Disk

abbrev Safe := Int → Option ByteArray
def sget (m : Safe) (k : Int) : ByteArray := (m k).getD ⟨#[]⟩
def sput (m : Safe) (k : Int) (s : ByteArray) : Safe := fun i => if i = k then some s else m i
def I64 (k : Int) : Prop := (Lit.int .i64 k).wf = true

theorem intKeyed : Keyed Try.prog 3 := int_keyed Try.underlying3
theorem intKey {k : Int} (h : I64 k) : keyOf Try.prog 3 (.int .i64 k) = some (.int .i64 k) := keyOf_int_mk Try.underlying3 h

/-- Block b is a map of at most n entries that is m. -/
def MapIs (w : World) (b n : Nat) (m : Safe) : Prop :=
  ∃ D : DataW Unit, w.ownsMap Try.prog 3 (plainElem Try.prog 9) b n D ∧ ∀ k, I64 k → has D (.int .i64 k) = (m k).isSome ∧ D.atKey (.int .i64 k) (.lit (.string [])) = .lit (.string (sget m k).data.toList)

theorem MapIs.lt {w : World} {b n : Nat} {m : Safe} (h : MapIs w b n m) : b < w.heap.size := by
  obtain ⟨D, h, _⟩ := h
  exact h.lt
theorem MapIs.kept {F : Nat → Prop} {w w' : World} {b n : Nat} {m : Safe} (h : MapIs w b n m) (hk : Kept F w w') (hf : ¬ F b) : MapIs w' b n m := by
  obtain ⟨D, ho, hD⟩ := h
  have hlt := ho.lt
  obtain ⟨es, clock, hb, hF, hs, e⟩ := ho
  exact ⟨D, ⟨es, clock, (hk.block b hlt hf).trans hb, hF, hs, e⟩, hD⟩
theorem MapIs.made (w : World) : MapIs (w.alloc (.map #[] 0)) w.heap.size 0 (fun _ => none) :=
  ⟨_, World.ownsMap_made w _ _ _, fun k hk => ⟨rfl, rfl⟩⟩

theorem MapIs.look {w : World} {b n : Nat} {m : Safe} (h : MapIs w b n m) {k : Int} (hk : I64 k) :
    (Instr.lookup 34 (.map (some b)) (.int .i64 k) false).run Try.prog w = .ok (.string (sget m k)) w ∧ (sget m k).size ≤ maxLen := by
  obtain ⟨D, ho, hD⟩ := h
  obtain ⟨v, ps, hrun, hv⟩ := ho.lookup intKeyed Try.underlying34 (z := .string ⟨#[]⟩) (by rfl) (zd := .lit (.string [])) (zp := []) (plainElem_string Try.underlying9 (by decide)) (intKey hk)
  rw [(hD k hk).2] at hv
  unfold plainElem at hv
  rw [Try.underlying9] at hv
  rw [hrun]
  cases v <;> simp at hv
  case string s =>
    obtain ⟨h1, h2, _⟩ := hv
    have e : s = sget m k := ByteArray.ext h2
    subst e
    exact ⟨rfl, h1⟩

theorem MapIs.store {w : World} {b n : Nat} {m : Safe} (h : MapIs w b n m) (hn : n < maxLen) {k : Int} (hk : I64 k) (s : ByteArray) (hs : s.size ≤ maxLen) :
    ∃ w', (Instr.mapUpdate 34 (.map (some b)) (.int .i64 k) (.string s)).run Try.prog w = .ok () w' ∧ MapIs w' b (n + 1) (sput m k s) ∧ Kept (fun i => i = b) w w' := by
  obtain ⟨D, ho, hD⟩ := h
  obtain ⟨w', hrun, ho', hg⟩ := ho.update intKeyed Try.underlying34 hn (intKey hk) (plainElem_string Try.underlying9 hs)
  refine ⟨w', hrun, ⟨_, ho', ?_⟩, (Kept.refl _ _).grownBy hg fun i hi => by injection hi with hi; exact .inl hi.symm⟩
  intro i hi
  have hm : IsMap D := ho.isMap
  have hl : WideAt.IsKeyLit (.int .i64 k) := by trivial
  by_cases e : i = k
  · subst e
    rw [has_put_same hm hl, atKey_put_same hm hl]
    simp [sput, sget]
  · have hne : (Lit.int .i64 i) ≠ .int .i64 k := fun h => e (by injection h)
    rw [has_put_other hne, atKey_put_other hne]
    have := hD i hi
    simpa [sput, sget, e] using this
end Disk
end Go.Proofs.Ytopkeknpdimimaa
