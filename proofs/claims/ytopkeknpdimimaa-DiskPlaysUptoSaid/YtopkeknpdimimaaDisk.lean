
/- The disk behind a pointer: its small functions. -/
import Derived.Test.YtopkeknpdimimaaDiskMap
import Derived.WalkKit
import Derived.WalkSpells
import Derived.WalkLawsBesides
import Derived.Lib.Hide
import Derived.BigQuiet
import Derived.Deep.QuietTactic
import Derived.StillTailTactics
import Derived.Deep.DeepFit
import Derived.Deep.RegionHeld3
set_option linter.unusedSimpArgs false
set_option linter.unusedVariables false
namespace Go.Proofs.Ytopkeknpdimimaa
open Go.RowKit
set_option maxRecDepth 100000
namespace Disk

abbrev Pc := Int × ByteArray
def pcells (ps : List Pc) : List Value := ps.flatMap fun p => [.int .i64 p.1, .string p.2]
theorem pcells_append (a b : List Pc) : pcells (a ++ b) = pcells a ++ pcells b := by simp [pcells]
theorem pcells_len (a : List Pc) : (pcells a).length = a.length * 2 := by
  induction a with
  | nil => rfl
  | cons x a ih => simp [pcells] at *; omega
theorem pcells_one (a : List Pc) : ∀ u ∈ pcells a, u.oneCell' = true := by
  intro u hu
  unfold pcells at hu
  rw [List.mem_flatMap] at hu
  obtain ⟨p, _, hu⟩ := hu
  simp at hu
  rcases hu with rfl | rfl <;> rfl
theorem pcells_at (a : List Pc) (k : Nat) (p : Pc) (h : a[k]? = some p) : (pcells a)[k * 2]? = some (.int .i64 p.1) ∧ (pcells a)[k * 2 + 1]? = some (.string p.2) := by
  have hk : ∀ j, j < 2 → (pcells a)[k * 2 + j]? = ([Value.int .i64 p.1, .string p.2])[j]? := by
    intro j hj
    unfold pcells
    rw [flat_get (fun p : Pc => [Value.int .i64 p.1, .string p.2]) 2 (by decide) (fun _ => rfl), show (k * 2 + j) / 2 = k by omega, show (k * 2 + j) % 2 = j by omega, h]
    rfl
  exact ⟨hk 0 (by decide), hk 1 (by decide)⟩
theorem elemPc : Elem Try.prog 35 61 2 24 := by
  obtain ⟨i0, hi, hz0, hz1, hz2⟩ := info_parts (show (Try.prog.info? 61).map (fun i => (i.zero, i.size, i.bytes)) = some (some (.agg #[.int .i64 0, .string ⟨#[]⟩]), 2, 24) by kernel_rfl)
  exact ⟨Try.underlying35, ⟨i0, _, hi, hz0, hz1, hz2, rfl⟩, by decide⟩

/-- The disk behind block g: safe, what is not, serial number, boots; n: a bound on the map's entries. -/
def DiskAt (w : World) (g : Nat) (F : Nat → Prop) (n : Nat) (m : Safe) (ps : List Pc) (ser boot : Int) : Prop :=
  ∃ mb A c, (∀ k, F k ↔ k = g ∨ k = mb ∨ (Value.slice A ps.length c).ownBlock = some k) ∧ Has w g 37 #[.map (some mb), .slice A ps.length c, .int .i64 ser, .int .i64 boot] ∧ MapIs w mb n m ∧ w.ownsRow 0 61 2 (.slice A ps.length c) ps.length (pcells ps)

theorem MapIs.ne {w : World} {b n g : Nat} {m : Safe} {t : TypeId} {cs : Array Value} (h : MapIs w b n m) (hg : Has w g t cs) : b ≠ g := by
  rintro rfl
  obtain ⟨D, ⟨es, clock, hb, _⟩, _⟩ := h
  unfold Has at hg
  rw [hg] at hb
  cases hb
theorem MapIs.ne_row {w : World} {b n base k s : Nat} {m : Safe} {e : TypeId} {v : Value} {xs : List Value} (h : MapIs w b n m) (hr : w.ownsRow base e s v k xs) : v.ownBlock ≠ some b := by
  obtain ⟨D, ⟨es, clock, hb, _⟩, _⟩ := h
  obtain ⟨_, ⟨rfl, _⟩ | ⟨g, cap, cur, rfl, _, hg, _⟩⟩ := hr
  · simp [Value.ownBlock]
  · intro e
    injection e with e
    simp at e
    subst e
    rw [hg] at hb
    cases hb

theorem DiskAt.kept {F G : Nat → Prop} {w w' : World} {g n : Nat} {m : Safe} {ps : List Pc} {ser boot : Int} (h : DiskAt w g F n m ps ser boot) (hk : Kept G w w') (hs : Sep F G) : DiskAt w' g F n m ps ser boot := by
  obtain ⟨mb, A, c, hF, hg, hm, ho⟩ := h
  exact ⟨mb, A, c, hF, hg.kept hk (hs _ ((hF _).2 (.inl rfl))), hm.kept hk (hs _ ((hF _).2 (.inr (.inl rfl)))), own_kept ho hk fun k hk' => hs k ((hF k).2 (.inr (.inr hk')))⟩
theorem DiskAt.lt {F : Nat → Prop} {w : World} {g n : Nat} {m : Safe} {ps : List Pc} {ser boot : Int} (h : DiskAt w g F n m ps ser boot) : ∀ k, F k → k < w.heap.size := by
  obtain ⟨mb, A, c, hF, hg, hm, ho⟩ := h
  intro k hk
  rcases (hF k).1 hk with rfl | rfl | h
  · exact hg.lt
  · exact hm.lt
  · exact own_lt ho h

def AfterD (w : World) (g : Nat) (F : Nat → Prop) (v : Value) (n : Nat) (m : Safe) (ps : List Pc) (ser boot : Int) (e : Ending) (w' : World) : Prop :=
  e = .returned v ∧ ∃ F', DiskAt w' g F' n m ps ser boot ∧ Grows w F F' ∧ Kept F w w'

section
variable {F : Nat → Prop} {w : World} {g n : Nat} {m : Safe} {ps : List Pc} {ser boot : Int}

theorem none_any (h : DiskAt w g F n m ps ser boot) :
    Calls Try.prog 28 #[.pointer (some ⟨g, 0, none⟩)] w fun e w' => e = .returned (.bool false) ∧ w = w' := by
  obtain ⟨mb, A, c, hF, hg, hm, ho⟩ := h
  have c0 : w.cell? ⟨g, 0, none⟩ = some (.map (some mb)) := hg.cell 0
  clear hF hg hm ho
  have hnil : ∀ W : World, (binOp .eql 34 (.map (some mb)) (.map none)).run Try.prog W = .ok (.bool false) W := fun W => run_eql_map_nil W _ _ _ _ Try.underlying34
  go_enter Try.func28, Try.ntmps28
  go_wp2
  go_ret
  exact ⟨rfl, rfl⟩

theorem serial_any (h : DiskAt w g F n m ps ser boot) :
    Calls Try.prog 25 #[.pointer (some ⟨g, 0, none⟩)] w fun e w' => e = .returned (.int .i64 ser) ∧ w = w' := by
  have hn := none_any h
  obtain ⟨mb, A, c, hF, hg, hm, ho⟩ := h
  have c2 : w.cell? ⟨g, 2, none⟩ = some (.int .i64 ser) := hg.cell 2
  have HN := Lib.hid hn; clear hn
  clear hF hg hm ho
  go_enter Try.func25, Try.ntmps25
  go_wp2_with fail
  refine HN.out.mono ?_
  rintro e w' ⟨rfl, rfl⟩
  go_wp2_with fail
  go_ret
  exact ⟨rfl, rfl⟩

theorem boots_any (h : DiskAt w g F n m ps ser boot) :
    Calls Try.prog 26 #[.pointer (some ⟨g, 0, none⟩)] w fun e w' => e = .returned (.int .i64 boot) ∧ w = w' := by
  have hn := none_any h
  obtain ⟨mb, A, c, hF, hg, hm, ho⟩ := h
  have c2 : w.cell? ⟨g, 3, none⟩ = some (.int .i64 boot) := hg.cell 3
  have HN := Lib.hid hn; clear hn
  clear hF hg hm ho
  go_enter Try.func26, Try.ntmps26
  go_wp2_with fail
  refine HN.out.mono ?_
  rintro e w' ⟨rfl, rfl⟩
  go_wp2_with fail
  go_ret
  exact ⟨rfl, rfl⟩

theorem boot_any (h : DiskAt w g F n m ps ser boot) (h0 : 0 ≤ boot) (h1 : boot ≤ 1073741824) :
    Calls Try.prog 37 #[.pointer (some ⟨g, 0, none⟩)] w fun e w' => e = .returned (.tuple #[]) ∧ DiskAt w' g F n m ps ser (min (boot + 1) 1073741824) ∧ Kept F w w' := by
  obtain ⟨mb, A, c, hF, hg, hm, ho⟩ := h
  have c1 : w.cell? ⟨g, 3, none⟩ = some (.int .i64 boot) := hg.cell 3
  have f1 := hg.frozen 3
  have hne := hm.ne hg
  have hnr := own_ne ho hg (by decide)
  have H := Lib.hid hg; clear hg
  have HM := Lib.hid hm; clear hm
  have HO := Lib.hid ho; clear ho
  go_enter Try.func37, Try.ntmps37
  go_wp2
  all_goals
    go_end0
    refine ⟨rfl, ⟨mb, A, c, hF, ?_, ?_, ?_⟩, by (repeat' (first | with_reducible exact Kept.refl _ _ | with_reducible refine Kept.put ?_ ?_ | with_reducible refine Kept.drewN ?_ _ | with_reducible refine Kept.drew ?_ | with_reducible refine Kept.alloc ?_ _ | (exact .inl ((hF _).2 (.inl rfl))) | (right; simp; done)))⟩
    · first | rw [show min (boot + 1) 1073741824 = boot + 1 by omega] | rw [show min (boot + 1) 1073741824 = 1073741824 by omega]
      ((repeat (first | with_reducible exact H.out | with_reducible apply Has.put_of | with_reducible apply Has.past | with_reducible apply Has.drewN | with_reducible apply Has.drew | with_reducible apply Has.alloc)) <;> first | omega | rfl)
    · exact HM.out.kept (F := fun k => k = g) (by (repeat' (first | with_reducible exact Kept.refl _ _ | with_reducible refine Kept.put ?_ ?_ | with_reducible refine Kept.drewN ?_ _ | with_reducible refine Kept.drew ?_ | with_reducible refine Kept.alloc ?_ _ | (exact .inl rfl) | (right; simp; done)))) hne
    · exact own_kept HO.out (F := fun k => k = g) (by (repeat' (first | with_reducible exact Kept.refl _ _ | with_reducible refine Kept.put ?_ ?_ | with_reducible refine Kept.drewN ?_ _ | with_reducible refine Kept.drew ?_ | with_reducible refine Kept.alloc ?_ _ | (exact .inl rfl) | (right; simp; done)))) fun k hk e => hnr (by rw [hk, e])
end

theorem new_any (w : World) : Calls Try.prog 4 #[] w fun e w' => ∃ g F, e = .returned (.pointer (some ⟨g, 0, none⟩)) ∧ DiskAt w' g F 0 (fun _ => none) [] 1 1 ∧ Kept NoF w w' ∧ (∀ k, F k → w.heap.size ≤ k) := by
  have hmk := @run_makeMap Try.prog
  go_enter Try.func4, Try.ntmps4
  go_wp2
  go_ret
  refine ⟨w.heap.size + 1, fun k => k = w.heap.size + 1 ∨ k = w.heap.size ∨ (Value.slice none 0 0).ownBlock = some k, ?_, ⟨w.heap.size, none, 0, fun _ => Iff.rfl, ?_, ?_, ?_⟩, ?_, ?_⟩
  · rfl
  · exact Has.new_at _ _ _ (by rw [size_alloc])
  · exact (MapIs.made w).kept (Kept.refl NoF _ |>.alloc _) (fun x => x)
  · exact ⟨rfl, .inl ⟨rfl, rfl⟩⟩
  · exact ((Kept.refl _ _).alloc _).alloc _
  · rintro k (rfl | rfl | h)
    · omega
    · omega
    · cases h
end Disk
end Go.Proofs.Ytopkeknpdimimaa
