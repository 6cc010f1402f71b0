
/- judge.Rows at a key, at all. -/
import Derived.Test.YtffnaabnbimhbaaJudge0
set_option linter.unusedSimpArgs false
set_option linter.unusedVariables false
namespace Go.Proofs.Ytffnaabnbimhbaa
open Go.RowKit
set_option maxRecDepth 100000
namespace Ent
open Ops Vn
/-- An ask: its kind, its key, its end, how many. -/
def acell (k : Int) (key to : ByteArray) (n : Int) : Array Value := #[.int .i64 k, .int .i64 0, .string key, .string to, .int .u64 0, .int .i64 n, .slice none 0 0]
theorem in_all (w : World) (k : ByteArray) : Calls Try.prog 43 #[.string k, .string ⟨#[]⟩, .string ⟨#[]⟩] w fun e w' => e = .returned (.bool true) ∧ w = w' := by
  have hb : Op.bytesLess k.toList [] = false := by cases k.toList <;> rfl
  go_enter Try.func43, Try.ntmps43
  go_wp2
  go_ret
  exact ⟨rfl, rfl⟩
theorem get_any (w : World) (p : PairR) (b : Nat) (key to : ByteArray) (k n : Int) (hb : Has w b 47 (acell k key to n)) : Calls Try.prog 41 #[pagg p, .pointer (some ⟨b, 0, none⟩)] w fun e w' => e = .returned (.bool (decide (p.key = key))) ∧ Kept NoF w w' := by
  have c2 := (hb.alloc (.cells #[.string p.key, .string p.val] 54)).cell 2
  obtain ⟨pk, pv⟩ := p
  dsimp only [acell, pagg] at *
  simp only [List.getElem?_toArray, List.getElem?_cons_zero, List.getElem?_cons_succ] at c2
  have hq := tl_eq pk key
  obtain ⟨q, hq0⟩ : ∃ q, decide (pk = key) = q := ⟨_, rfl⟩
  rw [hq0] at hq ⊢
  clear hq0 hb
  go_enter Try.func41, Try.ntmps41
  go_wp2
  go_ret
  exact ⟨by simp, by (repeat' (first | with_reducible exact Kept.refl _ _ | with_reducible refine Kept.put ?_ ?_ | with_reducible refine Kept.drewN ?_ _ | with_reducible refine Kept.drew ?_ | with_reducible refine Kept.alloc ?_ _ | (fail) | (right; simp; done)))⟩
theorem scan_any (w : World) (p : PairR) (b : Nat) (k n : Int) (hb : Has w b 47 (acell k ⟨#[]⟩ ⟨#[]⟩ n)) : Calls Try.prog 42 #[pagg p, .pointer (some ⟨b, 0, none⟩)] w fun e w' => e = .returned (.bool true) ∧ Kept NoF w w' := by
  have c2 := (hb.alloc (.cells #[.string p.key, .string p.val] 54)).cell 2
  have c3 := (hb.alloc (.cells #[.string p.key, .string p.val] 54)).cell 3
  obtain ⟨pk, pv⟩ := p
  dsimp only [acell, pagg] at *
  simp only [List.getElem?_toArray, List.getElem?_cons_zero, List.getElem?_cons_succ] at c2 c3
  have hin := fun W => in_all W pk
  have HIN := Lib.hid hin; clear hin hb
  go_enter Try.func42, Try.ntmps42
  go_wp2_with fail
  refine (HIN.out _).mono ?_
  rintro e w2 ⟨rfl, rfl⟩
  go_wp2
  go_ret
  exact ⟨rfl, by (repeat' (first | with_reducible exact Kept.refl _ _ | with_reducible refine Kept.put ?_ ?_ | with_reducible refine Kept.drewN ?_ _ | with_reducible refine Kept.drew ?_ | with_reducible refine Kept.alloc ?_ _ | (fail) | (right; simp; done)))⟩
theorem meant_get (w : World) (key : ByteArray) : Calls Try.prog 28 #[.agg (acell 1 key ⟨#[]⟩ 0)] w fun e w' => e = .returned (.tuple #[.func (.func 41) #[] #[.pointer (some ⟨w.heap.size, 0, none⟩)], .int .i64 1]) ∧ Has w' w.heap.size 47 (acell 1 key ⟨#[]⟩ 0) ∧ Kept NoF w w' := by
  have hmf : ∀ (fn : Fn) (first cap : Array Value) (w : World), (Instr.makeFunc fn first cap).run Try.prog w = .ok (.func fn first cap) w := fun _ _ _ _ => rfl
  dsimp only [acell]
  go_enter Try.func28, Try.ntmps28
  go_wp2
  go_ret2
  exact ⟨rfl, Has.new _ _ _, by (repeat' (first | with_reducible exact Kept.refl _ _ | with_reducible refine Kept.put ?_ ?_ | with_reducible refine Kept.drewN ?_ _ | with_reducible refine Kept.drew ?_ | with_reducible refine Kept.alloc ?_ _ | (fail) | (right; simp; done)))⟩
theorem meant_scan (w : World) (n : Int) : Calls Try.prog 28 #[.agg (acell 2 ⟨#[]⟩ ⟨#[]⟩ n)] w fun e w' => e = .returned (.tuple #[.func (.func 42) #[] #[.pointer (some ⟨w.heap.size, 0, none⟩)], .int .i64 n]) ∧ Has w' w.heap.size 47 (acell 2 ⟨#[]⟩ ⟨#[]⟩ n) ∧ Kept NoF w w' := by
  have hmf : ∀ (fn : Fn) (first cap : Array Value) (w : World), (Instr.makeFunc fn first cap).run Try.prog w = .ok (.func fn first cap) w := fun _ _ _ _ => rfl
  dsimp only [acell]
  go_enter Try.func28, Try.ntmps28
  go_wp2
  go_quiet (fail)
  go_wp2
  go_ret2
  exact ⟨rfl, (Has.new _ _ _).drewN _, by (repeat' (first | with_reducible exact Kept.refl _ _ | with_reducible refine Kept.put ?_ ?_ | with_reducible refine Kept.drewN ?_ _ | with_reducible refine Kept.drew ?_ | with_reducible refine Kept.alloc ?_ _ | (fail) | (right; simp; done)))⟩
end Ent
end Go.Proofs.Ytffnaabnbimhbaa
