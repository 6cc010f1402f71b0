
/- The checkpointed log: Open. -/
import Derived.Test.YthgdkhgpboaplaaPt10
import Derived.Laws.IdiomCopy
set_option linter.unusedSimpArgs false
set_option linter.unusedVariables false
namespace Go.Proofs.Ythgdkhgpboaplaa
open Go.RowKit
set_option maxRecDepth 100000
namespace Pt
open Disk Fr Vn Ops Wl
theorem reverse_any (w : World) (A : Option Addr) (c : Nat) (fl : List Int) (ho : w.ownsRow 0 3 1 (.slice A fl.length c) fl.length (fl.map (Value.int .i64))) :
    Calls Try.prog 23 #[.slice A fl.length c] w fun e w' => e = .returned (.tuple #[]) ∧ Src w' 1 A fl.length (fl.reverse.map (Value.int .i64)) ∧ Kept (fun k => (Value.slice A fl.length c).ownBlock = some k) w w' := by
  rcases Nat.eq_zero_or_pos fl.length with h0 | hpos
  · obtain rfl : fl = [] := List.eq_nil_of_length_eq_zero h0
    refine (Rv.reverse_empty A c w).mono ?_
    rintro e w' ⟨rfl, rfl⟩
    exact ⟨rfl, Src.nil _ _ _, Kept.refl _ _⟩
  · obtain ⟨b, cap, hv, _, hlt⟩ := ho.form hpos
    injection hv with hA _ hc
    subst hA hc
    have hcap := own_cap ho
    unfold maxLen at hcap
    have hcell := ho.cells (g := b) rfl
    have hc : ∀ j, j < fl.length → w.cell? ⟨b, 0 + j, none⟩ = some (.int .i64 (fl.getD j 0)) := by
      intro j hj
      have h1 := hcell j (.int .i64 (fl.getD j 0)) (by rw [List.getElem?_map, List.getElem?_eq_getElem hj]; simp [hj])
      have e : ((⟨b, 0, none⟩ : Addr).add j) = ⟨b, 0 + j, none⟩ := by unfold Addr.add; split <;> simp_all
      rw [← e]; exact h1
    have hf : ∀ j, j < fl.length → w.frozen? ⟨b, 0 + j, none⟩ = false := by
      intro j hj
      obtain ⟨cs, hh⟩ := Fr.own_has ho (k := b) rfl
      exact hh.frozen _
    refine (Rv.reverse_cells b 0 fl.length c fl w (Nat.le_refl _) (by omega) hc hf).mono ?_
    rintro e w' ⟨rfl, q, rfl⟩
    have hlen : ((fl.take fl.length).reverse.map (Value.int .i64)).length = fl.length := by simp
    have hks : Kept (fun k => some b = some k) w ((w.drewN q).setCells b 0 ((fl.take fl.length).reverse.map (Value.int .i64))) := ((Kept.refl _ w).drewN q).then (Kept.setCells _ _ _)
    refine ⟨rfl, ⟨by simp, fun _ => ⟨_, rfl, Nat.lt_of_lt_of_le hlt hks.size, fun j u hu => ?_⟩⟩, hks⟩
    have hj : j < fl.length := by
      have := (List.getElem?_eq_some_iff.1 hu).1
      simpa using this
    have h1 := World.cell?_setCells_in b ((fl.take fl.length).reverse.map (Value.int .i64)) 0 (w.drewN q) (fun i hi => by
      rw [hlen] at hi
      show (w.cell? ⟨b, 0 + i, none⟩).isSome = true
      rw [hc i hi]; rfl) j (by rw [hlen]; exact hj)
    have e : ((⟨b, 0, none⟩ : Addr).add j) = ⟨b, 0 + j, none⟩ := by unfold Addr.add; split <;> simp_all
    rw [e, h1]
    have h2 := hu
    rw [List.getElem?_eq_getElem (by simp; exact hj)] at h2
    injection h2 with h2
    rw [← h2]
    simp
end Pt
end Go.Proofs.Ythgdkhgpboaplaa
