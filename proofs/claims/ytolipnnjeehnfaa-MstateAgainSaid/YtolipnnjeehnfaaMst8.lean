/- A master's state as one block; none, New, and the plain getters. -/
import Derived.Test.YtolipnnjeehnfaaMst7
set_option linter.unusedSimpArgs false
set_option linter.unusedVariables false
namespace Go.Proofs.Ytolipnnjeehnfaa
open Go.RowKit
set_option maxRecDepth 100000
namespace Mst
open Plan Vn
/-- What a master knows. -/
structure StR where
  ep : Int
  ms : List Mem
  fl : Int
  lg : List Int
  hz : Int
  pins : List PinR
  top : Int
  t0 : AnsR
  t1 : AnsR
  t2 : AnsR
/-- The state's block. -/
abbrev scells (s : StR) (mA : Option Addr) (mc : Nat) (lA : Option Addr) (lc : Nat) (pA : Option Addr) (pc : Nat) (made : Bool) : Array Value :=
  #[.int .i64 s.ep, .slice mA s.ms.length mc, .int .u64 s.fl, .slice lA s.lg.length lc, .int .u64 s.hz, .slice pA s.pins.length pc, .int .i64 s.top, .int .i64 s.t0.cl, .int .i64 s.t0.req, .int .i64 s.t0.e, .int .i64 s.t0.pin,
    .int .i64 s.t1.cl, .int .i64 s.t1.req, .int .i64 s.t1.e, .int .i64 s.t1.pin, .int .i64 s.t2.cl, .int .i64 s.t2.req, .int .i64 s.t2.e, .int .i64 s.t2.pin, .bool made]
def ans0 : AnsR := ⟨0, 0, 0, 0⟩
def st0 : StR := ⟨0, [], 0, [], 0, [], 0, ans0, ans0, ans0⟩
theorem none_nil (w : World) : Calls Try.prog 21 #[.pointer none] w fun e w' => e = .returned (.bool true) ∧ Kept NoF w w' := by
  go_enter Try.func21, Try.ntmps21
  go_wp2
  go_ret
  exact ⟨rfl, by (repeat' (first | with_reducible exact Kept.refl _ _ | with_reducible refine Kept.put ?_ ?_ | with_reducible refine Kept.drewN ?_ _ | with_reducible refine Kept.drew ?_ | with_reducible refine Kept.alloc ?_ _ | (fail) | (right; simp; done)))⟩
theorem none_any (w : World) (b : Nat) (s : StR) (mA : Option Addr) (mc : Nat) (lA : Option Addr) (lc : Nat) (pA : Option Addr) (pc : Nat) (made : Bool) (hb : Has w b 62 (scells s mA mc lA lc pA pc made)) :
    Calls Try.prog 21 #[.pointer (some ⟨b, 0, none⟩)] w fun e w' => e = .returned (.bool (!made)) ∧ Kept NoF w w' := by
  have c19 := hb.cell 19
  simp only [List.getElem?_toArray, List.getElem?_cons_zero, List.getElem?_cons_succ] at c19
  clear hb
  go_enter Try.func21, Try.ntmps21
  go_wp2
  go_ret
  exact ⟨by simp, by (repeat' (first | with_reducible exact Kept.refl _ _ | with_reducible refine Kept.put ?_ ?_ | with_reducible refine Kept.drewN ?_ _ | with_reducible refine Kept.drew ?_ | with_reducible refine Kept.alloc ?_ _ | (fail) | (right; simp; done)))⟩
theorem new_any (w : World) : Calls Try.prog 8 #[] w fun e w' => e = .returned (.pointer (some ⟨w.heap.size, 0, none⟩)) ∧ Has w' w.heap.size 62 (scells st0 none 0 none 0 none 0 true) ∧ Kept NoF w w' := by
  go_enter Try.func8, Try.ntmps8
  go_wp2
  go_ret
  exact ⟨rfl, Has.new _ _ _, by (repeat' (first | with_reducible exact Kept.refl _ _ | with_reducible refine Kept.put ?_ ?_ | with_reducible refine Kept.drewN ?_ _ | with_reducible refine Kept.drew ?_ | with_reducible refine Kept.alloc ?_ _ | (fail) | (right; simp; done)))⟩
end Mst
end Go.Proofs.Ytolipnnjeehnfaa
