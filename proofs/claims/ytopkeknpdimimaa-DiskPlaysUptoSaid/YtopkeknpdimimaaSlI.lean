
/- slices.Contains at []int; catenaref05.Same at two lists of equal texts. -/
import Derived.Test.YtopkeknpdimimaaSlice
import Derived.Test.YtopkeknpdimimaaKit
import Derived.WalkKit
import Derived.WalkSpells
import Derived.WalkLawsBesides
import Derived.Lib.Hide
import Derived.BigQuiet
import Derived.Deep.QuietTactic
set_option linter.unusedSimpArgs false
set_option linter.unusedVariables false
namespace Go.Proofs.Ytopkeknpdimimaa
open Go.RowKit
set_option maxRecDepth 100000
namespace SlI
theorem ints_cells {w : World} {A : Option Addr} {k : Nat} {l : List Int} (h : Src w 1 A k (l.map (Value.int .i64))) (hm : 0 < k) (i : Nat) (p : Int) (hp : l[i]? = some p) :
    ∃ ad : Addr, A = some ad ∧ ad.block < w.heap.size ∧ w.cell? (ad.add i) = some (.int .i64 p) := by
  obtain ⟨ad, e, hb, hc⟩ := h.2 hm
  exact ⟨ad, e, hb, hc i _ (by rw [List.getElem?_map, hp]; rfl)⟩
theorem drop_cons {α : Type} {l : List α} {i : Nat} {p : α} (h : l[i]? = some p) : l.drop i = p :: l.drop (i + 1) := by
  obtain ⟨hi, e⟩ := List.getElem?_eq_some_iff.1 h
  rw [List.drop_eq_getElem_cons hi, e]
def inB (l : List Int) (x : Int) : Bool := l.contains x
theorem inB_iff {l : List Int} {x : Int} : inB l x = true ↔ x ∈ l := by unfold inB; simp
set_option maxHeartbeats 2000000 in
theorem indexI_any (w : World) (A : Option Addr) (c : Nat) (l : List Int) (x : Int) (hl : Src w 1 A l.length (l.map (Value.int .i64))) (hlen : l.length ≤ maxLen) :
    Calls Try.prog 42 #[.slice A l.length c, .int .i64 x] w fun e w' => (∃ n : Int, e = .returned (.int .i64 n) ∧ (0 ≤ n ↔ x ∈ l)) ∧ w = w' := by
  unfold maxLen at hlen
  have HL := Lib.hid hl; clear hl
  go_enter Try.func42, Try.ntmps42
  go_wp2_with fail
  go_loop [5, 8] (fun v5 v8 => ∃ i : Nat, i ≤ l.length ∧ v8 = .int .i64 i ∧ (x ∈ l ↔ x ∈ l.drop i)) (fun _ v8 => l.length - (intOf v8).toNat)
  case atStart => exact ⟨0, Nat.zero_le _, rfl, Iff.rfl⟩
  case round =>
    obtain ⟨i, hi, rfl, he⟩ := hrel
    have HE := Lib.hid he; clear he
    by_cases hil : i < l.length
    · obtain ⟨b, hb⟩ : ∃ b, l[i]? = some b := ⟨_, List.getElem?_eq_getElem hil⟩
      obtain ⟨ad, rfl, had, e0⟩ := ints_cells HL.out (by omega) i b hb
      have hs : x ∈ l.drop i ↔ x = b ∨ x ∈ l.drop (i + 1) := by rw [drop_cons hb, List.mem_cons]
      have HS := Lib.hid hs; clear hs hb
      by_cases hbx : x = b
      · subst hbx
        go_wp2
        go_ret
        exact ⟨⟨_, rfl, ⟨fun _ => by rw [HE.out, HS.out]; simp, fun _ => by omega⟩⟩, rfl⟩
      · have hne : (x == b) = false := by simpa using hbx
        go_wp2
        go_round
        case rel => exact ⟨i + 1, by omega, by go_num, by rw [HE.out, HS.out]; simp [hbx]⟩
        case measure => simp [intOf]; omega
    · obtain rfl : i = l.length := by omega
      go_wp2
      go_ret
      exact ⟨⟨-1, rfl, ⟨fun h => by omega, fun h => by rw [HE.out, List.drop_length] at h; cases h⟩⟩, rfl⟩
theorem containsI_any (w : World) (A : Option Addr) (c : Nat) (l : List Int) (x : Int) (hl : Src w 1 A l.length (l.map (Value.int .i64))) (hlen : l.length ≤ maxLen) :
    Calls Try.prog 33 #[.slice A l.length c, .int .i64 x] w fun e w' => e = .returned (.bool (inB l x)) ∧ w = w' := by
  have hi := indexI_any w A c l x hl hlen
  have HI := Lib.hid hi; clear hi hl
  by_cases hx : x ∈ l
  · have hb : inB l x = true := inB_iff.2 hx
    rw [hb]
    have HX := Lib.hid hx; clear hx
    go_enter Try.func33, Try.ntmps33
    go_wp2_with fail
    refine HI.out.mono ?_
    rintro e w2 ⟨⟨n, rfl, hn⟩, rfl⟩
    have hn0 : 0 ≤ n := hn.2 HX.out
    clear hn
    go_wp2
    go_ret
    exact ⟨rfl, rfl⟩
  · have hb : inB l x = false := by unfold inB; simpa using hx
    rw [hb]
    have HX := Lib.hid hx; clear hx
    go_enter Try.func33, Try.ntmps33
    go_wp2_with fail
    refine HI.out.mono ?_
    rintro e w2 ⟨⟨n, rfl, hn⟩, rfl⟩
    have hn0 : ¬ 0 ≤ n := fun h => HX.out (hn.1 h)
    clear hn
    go_wp2
    go_ret
    exact ⟨by have h2 : decide (0 ≤ n) = false := decide_eq_false (by omega)
              simp [h2], rfl⟩
theorem str_cells {w : World} {A : Option Addr} {k : Nat} {l : List ByteArray} (h : Src w 1 A k (l.map Value.string)) (hm : 0 < k) (i : Nat) (p : ByteArray) (hp : l[i]? = some p) :
    ∃ ad : Addr, A = some ad ∧ ad.block < w.heap.size ∧ w.cell? (ad.add i) = some (.string p) := by
  obtain ⟨ad, e, hb, hc⟩ := h.2 hm
  exact ⟨ad, e, hb, hc i _ (by rw [List.getElem?_map, hp]; rfl)⟩
end SlI
end Go.Proofs.Ytopkeknpdimimaa
