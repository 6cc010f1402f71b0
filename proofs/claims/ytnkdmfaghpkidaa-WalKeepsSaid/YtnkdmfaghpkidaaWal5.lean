/- The law WalZero: a log that nobody made. -/
import Derived.Test.YtnkdmfaghpkidaaWal4
set_option linter.unusedSimpArgs false
set_option linter.unusedVariables false
namespace Go.Proofs.Ytnkdmfaghpkidaa
open Go.RowKit
set_option maxRecDepth 100000
namespace Wl
open Disk Fr Vn Ops
/-- A log that nobody made: nil, or of no disk. -/
def ZeroW (w : World) (v : Option Addr) : Prop := v = none ∨ ∃ b, v = some ⟨b, 0, none⟩ ∧ Has w b 26 #[.pointer none, .int .i64 0]
theorem ZeroW.kept {w w' : World} {v : Option Addr} (h : ZeroW w v) (hk : Kept NoF w w') : ZeroW w' v := by
  rcases h with h | ⟨b, h1, h2⟩
  · exact .inl h
  · exact .inr ⟨b, h1, h2.kept hk (fun z => z)⟩
theorem znone {w : World} {v : Option Addr} (h : ZeroW w v) : Calls Try.prog 17 #[.pointer v] w fun e w' => e = .returned (.bool true) ∧ w = w' := by
  rcases h with rfl | ⟨b, rfl, h2⟩
  · go_enter Try.func17, Try.ntmps17
    go_wp2
    go_ret
    exact ⟨rfl, rfl⟩
  · have c0 : w.cell? ⟨b, 0, none⟩ = some (.pointer none) := h2.cell 0
    clear h2
    go_enter Try.func17, Try.ntmps17
    go_wp2
    go_ret
    exact ⟨rfl, rfl⟩
theorem zappend {w : World} {v : Option Addr} (h : ZeroW w v) (s : ByteArray) : Calls Try.prog 8 #[.pointer v, .string s] w fun e w' => e = .returned (.int .i64 8) ∧ w = w' := by
  have HN := Lib.hid (znone h)
  clear h
  go_enter Try.func8, Try.ntmps8
  go_wp2_with fail
  refine HN.out.mono ?_
  rintro e w' ⟨rfl, rfl⟩
  go_wp2
  go_ret
  exact ⟨rfl, rfl⟩
theorem zlast {w : World} {v : Option Addr} (h : ZeroW w v) : Calls Try.prog 9 #[.pointer v] w fun e w' => e = .returned (.int .i64 0) ∧ w = w' := by
  have HN := Lib.hid (znone h)
  clear h
  go_enter Try.func9, Try.ntmps9
  go_wp2_with fail
  refine HN.out.mono ?_
  rintro e w' ⟨rfl, rfl⟩
  go_wp2
  go_ret
  exact ⟨rfl, rfl⟩
theorem zopen (w : World) (first : Int) : Calls Try.prog 6 #[.pointer none, .int .i64 first] w fun e w' => e = .returned (.tuple #[.pointer none, .slice none 0 0, .int .i64 1]) ∧ w = w' := by
  go_enter Try.func6, Try.ntmps6
  go_wp2
  go_ret3
  exact ⟨rfl, rfl⟩
theorem zread (w : World) (first : Int) : Calls Try.prog 7 #[.pointer none, .int .i64 first] w fun e w' => e = .returned (.tuple #[.slice none 0 0, .int .i64 first]) ∧ w = w' := by
  go_enter Try.func7, Try.ntmps7
  go_wp2
  go_step3
  go_wp2
  try rw [Exit.noGoto_ret]
  go_ret2
  exact ⟨rfl, rfl⟩
set_option maxHeartbeats 2000000 in
theorem law_zero (first : Int) (s : ByteArray) (w : World) : Calls Try.prog 3 #[.int .i64 first, .string s] w fun e w' => e = .returned (.bool true) ∧ Below w.heap.size w w' := by
  by_cases hs : 300 < s.size
  · have hs' : (300 : Int) < (s.size : Int) := by omega
    clear hs
    go_enter Try.func3, Try.ntmps3
    go_wp2_with fail
    refine (awake_any _).mono ?_
    rintro e w1 ⟨rfl, hk⟩
    go_wp2_with fail
    go_ret
    exact ⟨rfl, hk.below (Nat.le_refl _) (fun _ z => z.elim)⟩
  · have hs' : ¬ (300 : Int) < (s.size : Int) := by omega
    clear hs
    have hz : ZeroW (w.alloc (.cells #[.pointer none, .int .i64 0] 26)) (some ⟨w.heap.size, 0, none⟩) := .inr ⟨_, rfl, Has.new _ _ _⟩
    have hn : ZeroW (w.alloc (.cells #[.pointer none, .int .i64 0] 26)) none := .inl rfl
    have HZ := Lib.hid hz; have HN := Lib.hid hn; clear hz hn
    go_enter Try.func3, Try.ntmps3
    go_wp2_with fail
    refine (zopen _ _).mono ?_
    rintro e w' ⟨rfl, rfl⟩
    go_wp2_with fail
    refine (zread _ _).mono ?_
    rintro e w' ⟨rfl, rfl⟩
    go_wp2_with fail
    refine (zappend HN.out s).mono ?_
    rintro e w' ⟨rfl, rfl⟩
    go_wp2_with fail
    refine (zappend HZ.out s).mono ?_
    rintro e w' ⟨rfl, rfl⟩
    go_wp2_with fail
    refine (zlast HN.out).mono ?_
    rintro e w' ⟨rfl, rfl⟩
    go_wp2_with fail
    refine (zlast HZ.out).mono ?_
    rintro e w' ⟨rfl, rfl⟩
    go_wp2_with fail
    refine (awake_any _).mono ?_
    rintro e w1 ⟨rfl, hk⟩
    go_wp2_with fail
    go_ret
    exact ⟨rfl, (((Kept.refl NoF w).alloc _).then hk).below (Nat.le_refl _) (fun _ z => z.elim)⟩
end Wl
end Go.Proofs.Ytnkdmfaghpkidaa
