
/- The law WalZero: a log that nobody made. -/
import Derived.Test.YthgdkhgpboaplaaWal4
set_option linter.unusedSimpArgs false
set_option linter.unusedVariables false
namespace Go.Proofs.Ythgdkhgpboaplaa
open Go.RowKit
set_option maxRecDepth 100000
namespace Wl
open Disk Fr Vn Ops
/-- A log that nobody made: nil, or of no disk. -/
def ZeroW (w : World) (v : Option Addr) : Prop := v = none ∨ ∃ b, v = some ⟨b, 0, none⟩ ∧ Has w b 98 #[.pointer none, .int .i64 0]
theorem ZeroW.kept {w w' : World} {v : Option Addr} (h : ZeroW w v) (hk : Kept NoF w w') : ZeroW w' v := by
  rcases h with h | ⟨b, h1, h2⟩
  · exact .inl h
  · exact .inr ⟨b, h1, h2.kept hk (fun z => z)⟩
theorem znone {w : World} {v : Option Addr} (h : ZeroW w v) : Calls Try.prog 52 #[.pointer v] w fun e w' => e = .returned (.bool true) ∧ w = w' := by
  rcases h with rfl | ⟨b, rfl, h2⟩
  · go_enter Try.func52, Try.ntmps52
    go_wp2
    go_ret
    exact ⟨rfl, rfl⟩
  · have c0 : w.cell? ⟨b, 0, none⟩ = some (.pointer none) := h2.cell 0
    clear h2
    go_enter Try.func52, Try.ntmps52
    go_wp2
    go_ret
    exact ⟨rfl, rfl⟩
theorem zappend {w : World} {v : Option Addr} (h : ZeroW w v) (s : ByteArray) : Calls Try.prog 31 #[.pointer v, .string s] w fun e w' => e = .returned (.int .i64 8) ∧ w = w' := by
  have HN := Lib.hid (znone h)
  clear h
  go_enter Try.func31, Try.ntmps31
  go_wp2_with fail
  refine HN.out.mono ?_
  rintro e w' ⟨rfl, rfl⟩
  go_wp2
  go_ret
  exact ⟨rfl, rfl⟩
theorem zopen (w : World) (first : Int) : Calls Try.prog 28 #[.pointer none, .int .i64 first] w fun e w' => e = .returned (.tuple #[.pointer none, .slice none 0 0, .int .i64 1]) ∧ w = w' := by
  go_enter Try.func28, Try.ntmps28
  go_wp2
  go_ret3
  exact ⟨rfl, rfl⟩
theorem zread (w : World) (first : Int) : Calls Try.prog 51 #[.pointer none, .int .i64 first] w fun e w' => e = .returned (.tuple #[.slice none 0 0, .int .i64 first]) ∧ w = w' := by
  go_enter Try.func51, Try.ntmps51
  go_wp2
  go_step3
  go_wp2
  try rw [Exit.noGoto_ret]
  go_ret2
  exact ⟨rfl, rfl⟩
end Wl
end Go.Proofs.Ythgdkhgpboaplaa
