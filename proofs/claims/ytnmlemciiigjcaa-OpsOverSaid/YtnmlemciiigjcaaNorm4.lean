/- A map of operations that a call owns; the sort of its rows. -/
import Derived.Test.YtnmlemciiigjcaaNorm3
set_option linter.unusedSimpArgs false
set_option linter.unusedVariables false
namespace Go.Proofs.Ytnmlemciiigjcaa
open Go.Shelf Go.Sort Go.RowKit Go.Maps Go.Proofs
set_option maxRecDepth 100000
namespace Nrm
open Ops
abbrev LEnv := BL → Option OpR
def encO (o : OpR) : DataW Unit := .agg [.lit (.string (bl o.key)), .lit (.string (bl o.val)), .lit (.bool o.del)]
theorem encO_inj {o p : OpR} (h : encO o = encO p) : o = p := by
  obtain ⟨a, b, c⟩ := o
  obtain ⟨a', b', c'⟩ := p
  unfold encO at h
  injection h with h
  injection h with h1 h
  injection h with h2 h
  injection h with h3 h
  injection h1 with h1
  injection h1 with h1
  injection h2 with h2
  injection h2 with h2
  injection h3 with h3
  injection h3 with h3
  have k1 : a = a' := bl_inj h1
  have k2 : b = b' := bl_inj h2
  have k3 : c = c' := h3
  rw [k1, k2, k3]
def ofCells : List Value → Option OpR
  | [.string k, .string v, .bool d] => some ⟨k, v, d⟩
  | _ => none
theorem ofCells_inv {l : List Value} {o : OpR} (h : ofCells l = some o) : l = [.string o.key, .string o.val, .bool o.del] := by
  unfold ofCells at h
  split at h
  · injection h with h
    subst h
    rfl
  · cases h
def opElem : Value → Option (DataW Unit × List MemPlace)
  | .agg cs => (ofCells cs.toList).map fun o => (encO o, [])
  | _ => none
theorem opElem_mk (o : OpR) : opElem (oagg o) = some (encO o, []) := rfl
theorem opElem_inv {v : Value} {y : DataW Unit × List MemPlace} (h : opElem v = some y) : ∃ o : OpR, v = oagg o := by
  cases v <;> simp only [opElem] at h
  case agg cs =>
    cases ho : ofCells cs.toList with
    | none => rw [ho] at h; cases h
    | some o =>
      have := ofCells_inv ho
      obtain ⟨l⟩ := cs
      simp only at this
      subst this
      exact ⟨o, rfl⟩
  all_goals cases h
/-- Block b is a map of at most n operations that is f. -/
def OMap (w : World) (b n : Nat) (f : LEnv) : Prop :=
  ∃ D : DataW Unit, w.ownsMap Try.prog 9 opElem b n D ∧ ∀ x : BL, has D (.string x) = (f x).isSome ∧ ∀ o, f x = some o → D.atKey (.string x) (.lit (.bool false)) = encO o
theorem OMap.lt {w : World} {b n : Nat} {m : LEnv} (h : OMap w b n m) : b < w.heap.size := by
  obtain ⟨D, h, _⟩ := h
  exact h.lt
theorem OMap.kept {F : Nat → Prop} {w w' : World} {b n : Nat} {m : LEnv} (h : OMap w b n m) (hk : Kept F w w') (hf : ¬ F b) : OMap w' b n m := by
  obtain ⟨D, ho, hD⟩ := h
  have hlt := ho.lt
  obtain ⟨es, clock, hb, hF, hs, e⟩ := ho
  exact ⟨D, ⟨es, clock, (hk.block b hlt hf).trans hb, hF, hs, e⟩, hD⟩
theorem OMap.made (w : World) : OMap (w.alloc (.map #[] 0)) w.heap.size 0 (fun _ => none) :=
  ⟨_, World.ownsMap_made w _ _ _, fun k => ⟨rfl, fun o h => by cases h⟩⟩
theorem OMap.store {w : World} {b n : Nat} {m : LEnv} (h : OMap w b n m) (hn : n < maxLen) (o : OpR) (hk : o.key.size ≤ maxLen) :
    ∃ w', (Instr.mapUpdate 166 (.map (some b)) (.string o.key) (oagg o)).run Try.prog w = .ok () w' ∧ OMap w' b (n + 1) (stepL m o) ∧ Kept (fun i => i = b) w w' := by
  obtain ⟨D, ho, hD⟩ := h
  obtain ⟨w', hrun, ho', hg⟩ := ho.update strKeyed Try.underlying166 hn (strKey hk) (opElem_mk o)
  refine ⟨w', hrun, ⟨_, ho', ?_⟩, (Kept.refl _ _).grownBy hg fun i hi => by injection hi with hi; exact .inl hi.symm⟩
  intro x
  have hm : IsMap D := ho.isMap
  have hl : WideAt.IsKeyLit (.string (bl o.key)) := by trivial
  by_cases e : x = bl o.key
  · subst e
    rw [has_put_same hm hl, atKey_put_same hm hl]
    unfold stepL
    rw [if_pos rfl]
    exact ⟨rfl, fun p hp => by injection hp with hp; rw [hp]⟩
  · have hne : (Lit.string x) ≠ .string (bl o.key) := fun h => e (by injection h)
    rw [has_put_other hne, atKey_put_other hne]
    have := hD x
    unfold stepL
    rw [if_neg e]
    exact this
theorem own_ne_map {w : World} {base e sz n b k m : Nat} {v : Value} {xs : List Value} {R : Value → Option (DataW Unit × List MemPlace)} {D : DataW Unit} (h : w.ownsRow base e sz v n xs) (hm : w.ownsMap Try.prog k R b m D) : v.ownBlock ≠ some b := by
  obtain ⟨es, clock, hb, _⟩ := hm
  rcases h.2 with ⟨rfl, _⟩ | ⟨g, cap, cur, rfl, _, hg, _⟩
  · simp [Value.ownBlock]
  · intro e
    obtain rfl : g = b := by simpa [Value.ownBlock] using e
    rw [hg] at hb
    cases hb
theorem elemRow : Elem Try.prog 167 168 3 40 := by
  obtain ⟨i0, hi, hz0, hz1, hz2⟩ := info_parts (show (Try.prog.info? 168).map (fun i => (i.zero, i.size, i.bytes)) = some (some (.agg #[.string ⟨#[]⟩, .string ⟨#[]⟩, .bool false]), 3, 40) by kernel_rfl)
  exact ⟨Try.underlying167, ⟨i0, _, hi, hz0, hz1, hz2, rfl⟩, by decide⟩
theorem encF_len (f : LEnv) (x : BL) : (encF f x).length = 3 := rfl
theorem encF_one (f : LEnv) (x : BL) : ∀ v ∈ encF f x, v.oneCell' = true := by
  intro v hv
  unfold encF cell at hv
  simp at hv
  rcases hv with rfl | rfl | rfl <;> rfl
theorem flat_len (f : LEnv) (l : List BL) : (l.flatMap (encF f)).length = l.length * 3 := by
  induction l with
  | nil => rfl
  | cons a l ih => rw [List.flatMap_cons, List.length_append, encF_len, ih, List.length_cons, Nat.succ_mul]; omega
theorem sort_rows (w : World) (base : Nat) (A : Option Addr) (c : Nat) (f : LEnv) (L : List BL) (h : w.ownsRow base 168 3 (.slice A L.length c) L.length (L.flatMap (encF f))) (hlen : L.length ≤ 1000000) :
    Calls Try.prog 111 #[.slice A L.length c, .func (.func 112) #[] #[]] w fun e w' => e = .returned (.tuple #[]) ∧
      w'.ownsRow base 168 3 (.slice A L.length c) L.length ((L.mergeSort leB).flatMap (encF f)) ∧ Kept (fun k => (Value.slice A L.length c).ownBlock = some k) w w' := by
  rcases h.2 with ⟨hv, hn⟩ | ⟨g, cap, cur, hv, hbase, hb, h1, h2, h3, h4⟩
  · have hl : L = [] := List.eq_nil_of_length_eq_zero hn
    subst hl
    refine (sortF_none A c _ w).mono ?_
    rintro e w' ⟨rfl, rfl⟩
    exact ⟨rfl, by simpa using h, Kept.refl _ _⟩
  · injection hv with hA hn hc
    subst hA
    subst hc
    have eg : ∀ args w, (callFunc 112 args).run Try.prog w = .ok (.enter 112 args) w := enters_of Try.func112 (by kernel_rfl) rfl
    have hfl : (flatK (encF f) 3 L.toArray) = (L.flatMap (encF f)).toArray := flatK_list (encF f) 3 (by decide) (encF_len f) L
    have hH : HoldsK (encF f) 3 w g 0 L.toArray := by
      unfold HoldsK
      rw [hfl]
      exact holds_of_blockK hb (by rw [flat_len]; exact h4)
    have hg : g < w.heap.size := (Array.getElem?_eq_some_iff.1 hb).1
    have hc := AnyQ.slices_SortFunc_total sortFA 3 Try.isAgg168 Try.sizeOf168 (encF f) (encF_len f) (encF_one f) cmpB swo_cmp 112 #[] g 0 c L.toArray w eg (cmp_lays f g 0 _ w) hH hg (by simp; omega) tot_cmp
    have e1 : L.toArray.size = L.length := by simp
    rw [e1] at hc
    refine Calls.mono hc ?_
    rintro e w' ⟨rfl, n, os, rfl⟩
    have e2 : L.toArray.toList = L := rfl
    rw [e2, sort_cmp]
    have hfl2 : (flatK (encF f) 3 (L.mergeSort leB).toArray) = ((L.mergeSort leB).flatMap (encF f)).toArray := flatK_list (encF f) 3 (by decide) (encF_len f) _
    unfold sortWorldK putRowK
    rw [hfl2]
    refine ⟨rfl, ownsRow_sortedK (by rw [flat_len, List.length_mergeSort]) hbase hb h1 h2 h3, (Kept.refl _ _).grownBy (grownBy_sortedK _) fun k hk => by injection hk with hk; subst hk; exact .inl rfl⟩
end Nrm
end Go.Proofs.Ytnmlemciiigjcaa
