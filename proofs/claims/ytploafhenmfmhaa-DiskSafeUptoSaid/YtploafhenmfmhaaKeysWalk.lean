/- What Next, Check, In and awake of the keys' layer compute. -/
import Derived.Test.YtploafhenmfmhaaChecked
import Derived.Test.YtploafhenmfmhaaKeysPlain
import Derived.WalkKit
import Derived.WalkSpells
import Derived.WalkLawsBesides
import Derived.Lib.Hide
import Derived.Lib.SlBytesRow
import Derived.BigQuiet
import Derived.Deep.QuietTactic
set_option linter.unusedSimpArgs false
set_option linter.unusedVariables false
namespace Go.Proofs.Ytploafhenmfmhaa
open Go.RowKit
namespace Keys

theorem check_bad (s : ByteArray) (w : World) (h : s.toList.isEmpty = true ∨ 8 < s.size) :
    Calls Try.prog 17 #[.string s] w fun e w' => e = .returned (.int .i64 10) ∧ w = w' := by
  rcases h with h | h
  · go_enter Try.func17, Try.ntmps17
    go_wp2
    go_ret
    exact ⟨rfl, rfl⟩
  · go_enter Try.func17, Try.ntmps17
    go_wp2
    all_goals go_ret
    all_goals exact ⟨rfl, rfl⟩

theorem check_ok (s : ByteArray) (w : World) (h : s.toList.isEmpty = false) (h8 : s.size ≤ 8) :
    Calls Try.prog 17 #[.string s] w fun e w' => e = .returned (.int .i64 0) ∧ w = w' := by
  go_enter Try.func17, Try.ntmps17
  go_wp2
  go_ret
  exact ⟨rfl, rfl⟩

theorem next_short (s : ByteArray) (w : World) (h : s.size < 8) :
    Calls Try.prog 16 #[.string s] w fun e w' => e = .returned (.string (s ++ ⟨#[0]⟩)) ∧ w = w' := by
  go_enter Try.func16, Try.ntmps16
  go_wp2
  go_ret
  exact ⟨rfl, rfl⟩

theorem conv_one (W : World) (b : Nat) (n : Int) (c : Nat) (hn : 0 ≤ n) (hn' : n < 256) (hc : W.cell? ⟨b, 0, none⟩ = some (.int .u8 n)) :
    (convert 28 9 (.slice (some ⟨b, 0, none⟩) 1 c)).run Try.prog W = .ok (.string ⟨#[UInt8.ofNat n.toNat]⟩) W := by
  refine Lib.run_convert_whole (P := Try.prog) W 28 5 9 Try.underlying28 Try.underlying5 Try.underlying9 b 0 ⟨#[UInt8.ofNat n.toNat]⟩ ?_ c
  intro i hi
  have h0 : i = 0 := by have : i < 1 := hi; omega
  subst h0
  rw [Nat.add_zero, hc]
  show _ = some (Value.int IntKind.u8 ((UInt8.ofNat n.toNat).toNat : Int))
  congr 2
  simp
  omega
def Ret (l : List UInt8) (B : Nat) (w : World) (e : Ending) (w' : World) : Prop := ∃ s' : ByteArray, e = .returned (.string s') ∧ s'.data.toList = l ∧ Below B w w'

set_option maxRecDepth 100000 in
theorem next_long (s : ByteArray) (w : World) (h : 8 ≤ s.size) (h' : s.size ≤ maxLen) :
    Calls Try.prog 16 #[.string s] w (Ret (nextAt s.data.toList 8) w.heap.size w) := by
  unfold maxLen at h'
  go_enter Try.func16, Try.ntmps16
  go_wp2
  go_loopw [2, 3, 4, 10] (fun v _ _ i wr => wr = w ∧ v = .string ⟨#[]⟩ ∧ ∃ k : Nat, k ≤ 8 ∧ i = .int .i64 k ∧ nextAt s.data.toList 8 = nextAt s.data.toList (8 - k)) (fun _ _ _ i _ => 8 - (intOf i).toNat)
  case atStart => exact ⟨rfl, rfl, 0, by omega, rfl, rfl⟩
  case round =>
    obtain ⟨rfl, rfl, k, hk, rfl, he⟩ := hrel
    have HE := Lib.hid he; clear he
    by_cases hlt : k < 8
    · have hb : 0 ≤ (7 : Int) - k := by omega
      have hb' : (7 : Int) - k < s.size := by omega
      go_wp2
      · have hlt2 : (s[7 - k].toNat : Int) < 255 := by assumption
        have hcv := conv_one (wr.alloc (Obj.cells #[Value.int IntKind.u8 (↑s[7 - k].toNat + 1)] 5)).drew wr.heap.size (↑s[7 - k].toNat + 1) 1 (by omega) (by omega) (by simp)
        have hb3 : 7 - (k : Int) ≤ s.size := by omega
        go_region
        go_wp2
        go_ret
        refine ⟨_, rfl, ?_, (Below.refl _ _).alloc (Nat.le_refl _) _ |>.drew⟩
        have e1 : 8 - k = (7 - k) + 1 := by omega
        have e2 : s.data.toList.getD (7 - k) 0 = s[7 - k] := by
          rw [List.getD_eq_getElem?_getD, List.getElem?_eq_getElem (by simp; omega)]; rfl
        rw [HE.out, e1, nextAt, e2, if_pos (by rw [UInt8.lt_iff_toNat_lt]; have : (255 : UInt8).toNat = 255 := rfl; omega), ByteArray.data_append, Array.toList_append, Lib.extract_data]
        simp
      · go_roundw
        case rel =>
          refine ⟨trivial, rfl, k + 1, by omega, by go_num, ?_⟩
          have hge : 255 ≤ (s[7 - k].toNat : Int) := by assumption
          have e1 : 8 - k = (7 - k) + 1 := by omega
          have e2 : s.data.toList.getD (7 - k) 0 = s[7 - k] := by
            rw [List.getD_eq_getElem?_getD, List.getElem?_eq_getElem (by simp; omega)]; rfl
          have e3 : 7 - k = 8 - (k + 1) := by omega
          rw [HE.out, e1, nextAt, e2, if_neg (by rw [UInt8.lt_iff_toNat_lt]; have : (255 : UInt8).toNat = 255 := rfl; omega), e3]
        case measure => simp [intOf]; omega
    · go_wp2
      go_ret
      refine ⟨_, rfl, ?_, Below.refl _ _⟩
      have e1 : 8 - k = 0 := by omega
      rw [HE.out, e1, nextAt]

theorem in_any (k f t : ByteArray) (w : World) :
    Calls Try.prog 43 #[.string k, .string f, .string t] w fun e w' => e = .returned (.bool (!Op.bytesLess k.toList f.toList && (t.toList.isEmpty || Op.bytesLess k.toList t.toList))) ∧ w = w' := by
  by_cases h1 : Op.bytesLess k.toList f.toList = true
  · go_enter Try.func43, Try.ntmps43
    go_wp2
    go_ret
    exact ⟨by simp [h1], rfl⟩
  · have h1' : Op.bytesLess k.toList f.toList = false := by simpa using h1
    clear h1
    by_cases h2 : t.toList.isEmpty = true
    · go_enter Try.func43, Try.ntmps43
      go_wp2
      go_ret
      exact ⟨by simp [h1', h2], rfl⟩
    · have h2' : t.toList.isEmpty = false := by simpa using h2
      clear h2
      go_enter Try.func43, Try.ntmps43
      go_wp2
      go_ret
      exact ⟨by simp [h1', h2'], rfl⟩

theorem next_ff (w : World) : Calls Try.prog 16 #[.string ⟨#[255, 255, 255, 255, 255, 255, 255, 255]⟩] w fun e w' => e = .returned (.string ⟨#[]⟩) ∧ Below w.heap.size w w' := by
  refine (next_long _ w (by decide) (by decide)).mono ?_
  rintro e w' ⟨s', rfl, h, hb⟩
  refine ⟨?_, hb⟩
  congr 2
  apply ByteArray.ext
  apply Array.toList_inj.1
  rw [h]
  decide

theorem next_a (w : World) : Calls Try.prog 16 #[.string ⟨#[97]⟩] w fun e w' => e = .returned (.string ⟨#[97, 0]⟩) ∧ w = w' := by
  refine (next_short _ w (by decide)).mono ?_
  rintro e w' ⟨rfl, rfl⟩
  exact ⟨rfl, rfl⟩
theorem in_bac (w : World) : Calls Try.prog 43 #[.string ⟨#[98]⟩, .string ⟨#[97]⟩, .string ⟨#[99]⟩] w fun e w' => e = .returned (.bool true) ∧ w = w' := by
  refine (in_any _ _ _ w).mono ?_
  rintro e w' ⟨rfl, rfl⟩
  refine ⟨?_, rfl⟩
  simp only [ByteArray.toList_eq]
  rfl
theorem check_none (w : World) : Calls Try.prog 17 #[.string ⟨#[]⟩] w fun e w' => e = .returned (.int .i64 10) ∧ w = w' :=
  check_bad _ _ (.inl (by simp only [ByteArray.toList_eq]; rfl))

theorem awake_any (w : World) : Calls Try.prog 18 #[] w fun e w' => e = .returned (.bool true) ∧ Below w.heap.size w w' := by
  go_enter Try.func18, Try.ntmps18
  go_wp2_with fail
  refine (next_a _).mono ?_
  rintro e w' ⟨rfl, rfl⟩
  go_wp2_with fail
  refine (next_ff _).mono ?_
  rintro e w1 ⟨rfl, hb1⟩
  go_wp2_with fail
  refine (in_bac _).mono ?_
  rintro e w' ⟨rfl, rfl⟩
  go_wp2_with fail
  refine (check_none _).mono ?_
  rintro e w' ⟨rfl, rfl⟩
  go_wp2_with fail
  go_ret
  exact ⟨rfl, hb1⟩

theorem next_any (s : ByteArray) (w : World) (h' : s.size ≤ maxLen) : Calls Try.prog 16 #[.string s] w (Ret (nextL s.data.toList) w.heap.size w) := by
  have hl : s.data.toList.length = s.size := by simp
  unfold nextL
  by_cases h : s.size < 8
  · rw [if_pos (by omega)]
    refine (next_short s w h).mono ?_
    rintro e w' ⟨rfl, rfl⟩
    exact ⟨_, rfl, by rw [ByteArray.data_append, Array.toList_append], Below.refl _ _⟩
  · rw [if_neg (by omega)]
    exact next_long s w (by omega) h'
end Keys
end Go.Proofs.Ytploafhenmfmhaa
