
/- A map from string to string that a call owns, as a function. -/
import Derived.Test.YtffnaabnbimhbaaOpen
import Derived.Test.YtffnaabnbimhbaaOpsPlain
import Derived.Test.YtffnaabnbimhbaaSetPlain
import Derived.Maps.OwnSet
import Derived.Maps.Views
set_option linter.unusedSimpArgs false
set_option linter.unusedVariables false
namespace Go.Proofs.Ytffnaabnbimhbaa
open Go.RowKit Go.Maps
set_option maxRecDepth 100000
namespace Ops
abbrev BL := List UInt8
abbrev Env := BL → Option ByteArray
def put1 (f : Env) (k : ByteArray) (v : Option ByteArray) : Env := fun x => if x = bl k then v else f x
theorem strKeyed : Keyed Try.prog 9 := string_keyed Try.underlying9
theorem strKey {s : ByteArray} (h : s.size ≤ maxLen) : keyOf Try.prog 9 (.string s) = some (.string (bl s)) := WideMaps.keyOf_string_mk Try.underlying9 h
/-- Block b is a map of at most n entries that is f. -/
def SMap (w : World) (b n : Nat) (f : Env) : Prop :=
  ∃ D : DataW Unit, w.ownsMap Try.prog 9 (plainElem Try.prog 9) b n D ∧ ∀ x : BL, has D (.string x) = (f x).isSome ∧ D.atKey (.string x) (.lit (.string [])) = .lit (.string (bl ((f x).getD emp)))
theorem SMap.lt {w : World} {b n : Nat} {m : Env} (h : SMap w b n m) : b < w.heap.size := by
  obtain ⟨D, h, _⟩ := h
  exact h.lt
theorem SMap.kept {F : Nat → Prop} {w w' : World} {b n : Nat} {m : Env} (h : SMap w b n m) (hk : Kept F w w') (hf : ¬ F b) : SMap w' b n m := by
  obtain ⟨D, ho, hD⟩ := h
  have hlt := ho.lt
  obtain ⟨es, clock, hb, hF, hs, e⟩ := ho
  exact ⟨D, ⟨es, clock, (hk.block b hlt hf).trans hb, hF, hs, e⟩, hD⟩
theorem SMap.made (w : World) : SMap (w.alloc (.map #[] 0)) w.heap.size 0 (fun _ => none) :=
  ⟨_, World.ownsMap_made w _ _ _, fun k => ⟨rfl, rfl⟩⟩
theorem SMap.mono {w : World} {b n n' : Nat} {m : Env} (h : SMap w b n m) (hn : n ≤ n') : SMap w b n' m := by
  obtain ⟨D, ho, hD⟩ := h
  exact ⟨D, ho.mono hn, hD⟩
theorem SMap.look {w : World} {b n : Nat} {m : Env} (h : SMap w b n m) {k : ByteArray} (hk : k.size ≤ maxLen) :
    (Instr.lookup 87 (.map (some b)) (.string k) false).run Try.prog w = .ok (.string ((m (bl k)).getD emp)) w ∧ ((m (bl k)).getD emp).size ≤ maxLen := by
  obtain ⟨D, ho, hD⟩ := h
  obtain ⟨v, ps, hrun, hv⟩ := ho.lookup strKeyed Try.underlying87 (z := .string ⟨#[]⟩) (by rfl) (zd := .lit (.string [])) (zp := []) (plainElem_string Try.underlying9 (by decide)) (strKey hk)
  rw [(hD (bl k)).2] at hv
  unfold plainElem at hv
  rw [Try.underlying9] at hv
  rw [hrun]
  cases v <;> simp at hv
  case string s =>
    obtain ⟨h1, h2, _⟩ := hv
    have e : s = (m (bl k)).getD emp := ByteArray.ext (by simpa [bl] using h2)
    subst e
    exact ⟨rfl, h1⟩
theorem SMap.store {w : World} {b n : Nat} {m : Env} (h : SMap w b n m) (hn : n < maxLen) {k : ByteArray} (hk : k.size ≤ maxLen) (s : ByteArray) (hs : s.size ≤ maxLen) :
    ∃ w', (Instr.mapUpdate 87 (.map (some b)) (.string k) (.string s)).run Try.prog w = .ok () w' ∧ SMap w' b (n + 1) (put1 m k (some s)) ∧ Kept (fun i => i = b) w w' := by
  obtain ⟨D, ho, hD⟩ := h
  obtain ⟨w', hrun, ho', hg⟩ := ho.update strKeyed Try.underlying87 hn (strKey hk) (plainElem_string Try.underlying9 hs)
  refine ⟨w', hrun, ⟨_, ho', ?_⟩, (Kept.refl _ _).grownBy hg fun i hi => by injection hi with hi; exact .inl hi.symm⟩
  intro x
  have hm : IsMap D := ho.isMap
  have hl : WideAt.IsKeyLit (.string (bl k)) := by trivial
  by_cases e : x = bl k
  · subst e
    rw [has_put_same hm hl, atKey_put_same hm hl]
    simp [put1, bl]
  · have hne : (Lit.string x) ≠ .string (bl k) := fun h => e (by injection h)
    rw [has_put_other hne, atKey_put_other hne]
    have := hD x
    simpa [put1, e] using this
theorem SMap.drop {w : World} {b n : Nat} {m : Env} (h : SMap w b n m) {k : ByteArray} (hk : k.size ≤ maxLen) (ty : TypeId) :
    ∃ w', (Builtin.delete_ #[87, 9] ty #[.map (some b), .string k]).run Try.prog w = .ok (.tuple #[]) w' ∧ SMap w' b n (put1 m k none) ∧ Kept (fun i => i = b) w w' := by
  obtain ⟨D, ho, hD⟩ := h
  obtain ⟨w', hrun, ho', ht⟩ := ho.drop strKeyed Try.underlying87 (strKey hk) ty
  refine ⟨w', hrun, ⟨_, ho', ?_⟩, (Kept.refl _ _).grownBy ht.grown fun i hi => by injection hi with hi; exact .inl hi.symm⟩
  intro x
  by_cases e : x = bl k
  · subst e
    rw [has_del_same, atKey_del_same]
    simp [put1, bl, emp]
  · have hne : (Lit.string x) ≠ .string (bl k) := fun h => e (by injection h)
    rw [has_del_other hne, atKey_del_other hne]
    have := hD x
    simpa [put1, e] using this
/-- What the map's keys are, sorted. -/
theorem sorted_keys {w : World} {b n : Nat} {m : Env} {D : DataW Unit} (ho : w.ownsMap Try.prog 9 (plainElem Try.prog 9) b n D) (hD : ∀ x : BL, has D (.string x) = (m x).isSome)
    {l : List BL} (hl : ∀ x, (m x).isSome = true → x ∈ l) {ss : List BL} (hp : ss.Perm (strKeys D)) : ss.mergeSort leB = Keys.setL (l.filter fun x => (m x).isSome) := by
  obtain ⟨es, rfl, hpw⟩ := ho.tidy strKeyed
  obtain ⟨es', e, hk⟩ := ho.keysOf
  injection e with e
  subst e
  have hm : ∀ x, x ∈ Keys.dups (l.filter fun x => (m x).isSome) ↔ has (.map es) (.string x) = true := by
    intro x
    rw [Keys.mem_dups, List.mem_filter, hD x]
    exact ⟨fun h => h.2, fun h => ⟨hl x h, h⟩⟩
  have hkey : ∀ p ∈ es, ∃ x, p.1 = .string x := by
    intro p hpm
    obtain ⟨key, hkk⟩ := hk p hpm
    obtain ⟨x, _, hx, _⟩ := Maps.keyOf_str Try.underlying9 hkk
    exact ⟨x, hx⟩
  have h1 := perm_strKeys hpw hkey (Keys.nodup_dups _) hm
  exact mergeSort_of_perm (hp.trans h1.symm)
end Ops
end Go.Proofs.Ytffnaabnbimhbaa
