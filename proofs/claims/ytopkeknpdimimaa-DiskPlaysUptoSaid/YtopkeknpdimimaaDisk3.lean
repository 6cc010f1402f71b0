
/- The disk: Pending, forget. -/
import Derived.Test.YtopkeknpdimimaaDisk2
set_option linter.unusedSimpArgs false
set_option linter.unusedVariables false
namespace Go.Proofs.Ytopkeknpdimimaa
open Go.RowKit
set_option maxRecDepth 100000
namespace Disk
variable {F : Nat → Prop} {w : World} {g n : Nat} {m : Safe} {ps : List Pc} {ser boot : Int}

def total (ps : List Pc) : Nat := (ps.map fun p => p.2.size).sum
theorem total_snoc (ps : List Pc) (p : Pc) : total (ps ++ [p]) = total ps + p.2.size := by simp [total]
theorem total_take (ps : List Pc) (i : Nat) : total (ps.take i) ≤ total ps := by
  have : ps = ps.take i ++ ps.drop i := (List.take_append_drop i ps).symm
  conv => rhs; rw [this]
  simp only [total, List.map_append, List.sum_append]
  omega
theorem take_snoc {α : Type} {l : List α} {i : Nat} {p : α} (h : l[i]? = some p) : l.take (i + 1) = l.take i ++ [p] := by
  rw [List.take_add_one, h]; rfl

theorem pc_cells {w : World} {A : Option Addr} {k : Nat} {ps : List Pc} (h : Src w 2 A k (pcells ps)) (hm : 0 < k) (i : Nat) (p : Pc) (hp : ps[i]? = some p) :
    ∃ ad, A = some ad ∧ ad.block < w.heap.size ∧ w.cell? (ad.add (i * 2)) = some (.int .i64 p.1) ∧ w.cell? ⟨(ad.add (i * 2)).block, (ad.add (i * 2)).off + 1, none⟩ = some (.string p.2) := by
  obtain ⟨ad, rfl, had, hcell⟩ := h.2 hm
  obtain ⟨k0, k1⟩ := pcells_at ps i p hp
  refine ⟨ad, rfl, had, hcell _ _ k0, ?_⟩
  rw [← add_lit _ (by omega), add_add]; exact hcell _ _ k1

set_option maxHeartbeats 1000000 in
theorem pending_any (h : DiskAt w g F n m ps ser boot) (hlen : ps.length ≤ 100000) (hsz : total ps ≤ 4611686018427387904) :
    Calls Try.prog 23 #[.pointer (some ⟨g, 0, none⟩)] w fun e w' => e = .returned (.int .i64 (total ps)) ∧ Kept NoF w w' := by
  have hn := none_any h
  have HN := Lib.hid hn; clear hn
  obtain ⟨mb, A, c, hF, hg, hm, ho⟩ := h
  have c1 : w.cell? ⟨g, 1, none⟩ = some (.slice A ps.length c) := hg.cell 1
  have HS := Lib.hid (Src.of_own ho)
  clear hF hg hm ho
  go_enter Try.func23, Try.ntmps23
  go_wp2_with fail
  refine HN.out.mono ?_
  rintro e w' ⟨rfl, rfl⟩
  go_wp2_with fail
  go_loopw [3, 5, 13] (fun v3 v5 v13 wr => ∃ i : Nat, i ≤ ps.length ∧ v13 = .int .i64 i ∧ v3 = .int .i64 (total (ps.take i)) ∧ Kept NoF w wr) (fun _ _ v13 _ => ps.length - (intOf v13).toNat)
  case atStart => exact ⟨0, Nat.zero_le _, rfl, by simp [total], Kept.refl _ _⟩
  case round =>
    obtain ⟨i, hi, rfl, rfl, hk⟩ := hrel
    by_cases hil : i < ps.length
    · obtain ⟨q, hq⟩ : ∃ q, ps[i]? = some q := ⟨_, List.getElem?_eq_getElem hil⟩
      have hkS := HS.out.kept hk (fun _ _ x => x)
      obtain ⟨ad, rfl, hl1, d0, d1⟩ := pc_cells hkS (by omega) i q hq
      have ht := total_take ps (i + 1)
      rw [take_snoc hq, total_snoc] at ht
      have HT := Lib.hid (take_snoc hq)
      obtain ⟨q1, q2⟩ := q
      dsimp only at d0 d1 ht
      clear hq hkS
      go_wp2
      go_roundw
      case rel => exact ⟨i + 1, by omega, by go_num, by rw [HT.out, total_snoc]; go_num, hk.alloc _⟩
      case measure => simp [intOf]; omega
    · obtain rfl : i = ps.length := by omega
      go_wp2
      go_ret
      exact ⟨by rw [List.take_length]; rfl, hk⟩
end Disk
end Go.Proofs.Ytopkeknpdimimaa
