
/- The document's functions on configurations and lists of numbers: In, Floor, has, Check, Same, Place, at, Head, SameInts. -/
import Derived.Test.YtolipnnjeehnfaaConf0
import Derived.WalkKit
import Derived.WalkSpells
import Derived.WalkLawsBesides
import Derived.Deep.QuietTactic
import Derived.BigQuiet
import Derived.Lib.Hide
set_option linter.unusedSimpArgs false
set_option linter.unusedVariables false
namespace Go.Proofs.Ytolipnnjeehnfaa
open Go.RowKit
set_option maxRecDepth 100000
namespace Plan
abbrev cagg (ep : Int) (A : Option Addr) (n c : Nat) (fl : Int) : Value := .agg #[.int .i64 ep, .slice A n c, .int .u64 fl]

def inB (l : List Int) (x : Int) : Bool := l.contains x
def anyId (l : List Mem) (x : Int) : Bool := l.any fun m => decide (m.1 = x)
theorem in_any (w : World) (A : Option Addr) (c : Nat) (l : List Int) (x : Int) (hl : Src w 1 A l.length (ints l)) (hlen : l.length ≤ 1000000) :
    Calls Try.prog 13 #[.slice A l.length c, .int .i64 x] w fun e w' => e = .returned (.bool (inB l x)) ∧ w = w' := by
  have HL := Lib.hid hl; clear hl
  go_enter Try.func13, Try.ntmps13
  go_wp2_with fail
  go_loop [5] (fun v5 => ∃ i : Nat, i ≤ l.length ∧ v5 = .int .i64 i ∧ inB l x = inB (l.drop i) x) (fun v5 => l.length - (intOf v5).toNat)
  case atStart => exact ⟨0, Nat.zero_le _, rfl, rfl⟩
  case round =>
    obtain ⟨i, hi, rfl, he⟩ := hrel
    have HE := Lib.hid he; clear he
    by_cases hil : i < l.length
    · obtain ⟨b, hb⟩ : ∃ b, l[i]? = some b := ⟨_, List.getElem?_eq_getElem hil⟩
      obtain ⟨ad, rfl, had, e0⟩ := int_cells HL.out (by omega) i b hb
      have hd : inB (l.drop i) x = (x == b || inB (l.drop (i + 1)) x) := by unfold inB; rw [drop_cons hb, List.contains_cons]
      have HD := Lib.hid hd; clear hd hb
      by_cases hbx : b = x
      · subst hbx
        go_wp2
        go_ret
        exact ⟨by rw [HE.out, HD.out]; simp, rfl⟩
      · have hne : (b == x) = false := by simpa using hbx
        go_wp2
        go_round
        case rel => exact ⟨i + 1, by omega, by go_num, by rw [HE.out, HD.out]; simp [Ne.symm hbx]⟩
        case measure => simp [intOf]; omega
    · obtain rfl : i = l.length := by omega
      go_wp2
      go_ret
      exact ⟨by rw [HE.out, List.drop_length]; rfl, rfl⟩

theorem max_u (a b M : Int) (h : max a b = M) (W : World) (ts : Array TypeId) (t : TypeId) : (Builtin.max_ ts t #[.int .u64 a, .int .u64 b]).run Try.prog W = .ok (.int .u64 M) W := by
  rw [run_max_int2]
  split
  · rw [show M = b by omega]
  · rw [show M = a by omega]

end Plan
end Go.Proofs.Ytolipnnjeehnfaa
