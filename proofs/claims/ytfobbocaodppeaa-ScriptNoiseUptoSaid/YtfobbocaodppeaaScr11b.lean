/- Stores of a whole step, of a whole ask, into a step's block. -/
import Derived.Test.YtfobbocaodppeaaScr11
set_option linter.unusedSimpArgs false
set_option linter.unusedVariables false
namespace Go.Proofs.Ytfobbocaodppeaa
open Go.RowKit
set_option maxRecDepth 100000
namespace Scr
open Ops Vn Wire
theorem store10 {W W' : World} {b : Nat} {x0 x1 x2 x3 x4 x5 x6 x7 x8 x9 y0 y1 y2 y3 y4 y5 y6 y7 y8 y9 b0 : Value} (h1 : Has W b 41 #[x0, x1, x2, x3, x4, x5, x6, x7, x8, x9]) (h2 : Has W (b + 1) 4 #[b0])
    (e : (((((((((((W.setCell ⟨b, 0, none⟩ y0).setCell ⟨b, 1, none⟩ y1).setCell ⟨b, 2, none⟩ y2).setCell ⟨b, 3, none⟩ y3).setCell ⟨b, 4, none⟩ y4).setCell ⟨b, 5, none⟩ y5).setCell ⟨b, 6, none⟩ y6).setCell ⟨b, 7, none⟩ y7).setCell ⟨b, 8, none⟩ y8).setCell ⟨b, 9, none⟩ y9).setCell ⟨b + 1, 0, none⟩ (.bool true)) = W') : Has W' b 41 #[y0, y1, y2, y3, y4, y5, y6, y7, y8, y9] ∧ Has W' (b + 1) 4 #[.bool true] ∧ Kept (fun k => k = b ∨ k = b + 1) W W' := by
  have k1 := ((((((((((h1.put 0 y0).put 1 y1).put 2 y2).put 3 y3).put 4 y4).put 5 y5).put 6 y6).put 7 y7).put 8 y8).put 9 y9).past (b := b + 1) (i := 0) (u := .bool true) (by omega)
  have k2 := ((((((((((h2.past (b := b) (i := 0) (u := y0) (by omega)).past (b := b) (i := 1) (u := y1) (by omega)).past (b := b) (i := 2) (u := y2) (by omega)).past (b := b) (i := 3) (u := y3) (by omega)).past (b := b) (i := 4) (u := y4) (by omega)).past (b := b) (i := 5) (u := y5) (by omega)).past (b := b) (i := 6) (u := y6) (by omega)).past (b := b) (i := 7) (u := y7) (by omega)).past (b := b) (i := 8) (u := y8) (by omega)).past (b := b) (i := 9) (u := y9) (by omega)).put 0 (.bool true)
  have k3 := Kept.put (g := b + 1) (i := 0) (u := .bool true) (Kept.put (g := b) (i := 9) (u := y9) (Kept.put (g := b) (i := 8) (u := y8) (Kept.put (g := b) (i := 7) (u := y7) (Kept.put (g := b) (i := 6) (u := y6) (Kept.put (g := b) (i := 5) (u := y5) (Kept.put (g := b) (i := 4) (u := y4) (Kept.put (g := b) (i := 3) (u := y3) (Kept.put (g := b) (i := 2) (u := y2) (Kept.put (g := b) (i := 1) (u := y1) (Kept.put (g := b) (i := 0) (u := y0) (Kept.refl (fun k => k = b ∨ k = b + 1) W) (.inl (.inl rfl))) (.inl (.inl rfl))) (.inl (.inl rfl))) (.inl (.inl rfl))) (.inl (.inl rfl))) (.inl (.inl rfl))) (.inl (.inl rfl))) (.inl (.inl rfl))) (.inl (.inl rfl))) (.inl (.inl rfl))) (.inl (.inr rfl))
  simp only [List.setIfInBounds_toArray, List.set_cons_zero, List.set_cons_succ] at k1 k2
  rw [e] at k1 k2 k3
  exact ⟨k1, k2, k3⟩
theorem storeE {W W' : World} {b : Nat} {x0 x1 x2 x3 x4 x5 x6 x7 x8 x9 y0 y1 y2 y3 y4 y5 y6 y7 y8 y9 : Value} (h1 : Has W b 41 #[x0, x1, x2, x3, x4, x5, x6, x7, x8, x9])
    (e : ((((((((((W.setCell ⟨b, 0, none⟩ y0).setCell ⟨b, 1, none⟩ y1).setCell ⟨b, 2, none⟩ y2).setCell ⟨b, 3, none⟩ y3).setCell ⟨b, 4, none⟩ y4).setCell ⟨b, 5, none⟩ y5).setCell ⟨b, 6, none⟩ y6).setCell ⟨b, 7, none⟩ y7).setCell ⟨b, 8, none⟩ y8).setCell ⟨b, 9, none⟩ y9) = W') : Has W' b 41 #[y0, y1, y2, y3, y4, y5, y6, y7, y8, y9] ∧ Kept (fun k => k = b) W W' := by
  have k1 := ((((((((((h1.put 0 y0).put 1 y1).put 2 y2).put 3 y3).put 4 y4).put 5 y5).put 6 y6).put 7 y7).put 8 y8).put 9 y9)
  have k3 := (Kept.put (g := b) (i := 9) (u := y9) (Kept.put (g := b) (i := 8) (u := y8) (Kept.put (g := b) (i := 7) (u := y7) (Kept.put (g := b) (i := 6) (u := y6) (Kept.put (g := b) (i := 5) (u := y5) (Kept.put (g := b) (i := 4) (u := y4) (Kept.put (g := b) (i := 3) (u := y3) (Kept.put (g := b) (i := 2) (u := y2) (Kept.put (g := b) (i := 1) (u := y1) (Kept.put (g := b) (i := 0) (u := y0) (Kept.refl (fun k => k = b) W) (.inl rfl)) (.inl rfl)) (.inl rfl)) (.inl rfl)) (.inl rfl)) (.inl rfl)) (.inl rfl)) (.inl rfl)) (.inl rfl)) (.inl rfl))
  simp only [List.setIfInBounds_toArray, List.set_cons_zero, List.set_cons_succ] at k1
  rw [e] at k1 k3
  exact ⟨k1, k3⟩
theorem store7 {W W' : World} {b : Nat} {x0 x1 x2 x3 x4 x5 x6 x7 x8 x9 y3 y4 y5 y6 y7 y8 y9 : Value} (h1 : Has W b 41 #[x0, x1, x2, x3, x4, x5, x6, x7, x8, x9])
    (e : (((((((W.setCell ⟨b, 3, none⟩ y3).setCell ⟨b, 4, none⟩ y4).setCell ⟨b, 5, none⟩ y5).setCell ⟨b, 6, none⟩ y6).setCell ⟨b, 7, none⟩ y7).setCell ⟨b, 8, none⟩ y8).setCell ⟨b, 9, none⟩ y9) = W') : Has W' b 41 #[x0, x1, x2, y3, y4, y5, y6, y7, y8, y9] ∧ Kept (fun k => k = b) W W' := by
  have k1 := (((((((h1.put 3 y3).put 4 y4).put 5 y5).put 6 y6).put 7 y7).put 8 y8).put 9 y9)
  have k3 := (Kept.put (g := b) (i := 9) (u := y9) (Kept.put (g := b) (i := 8) (u := y8) (Kept.put (g := b) (i := 7) (u := y7) (Kept.put (g := b) (i := 6) (u := y6) (Kept.put (g := b) (i := 5) (u := y5) (Kept.put (g := b) (i := 4) (u := y4) (Kept.put (g := b) (i := 3) (u := y3) (Kept.refl (fun k => k = b) W) (.inl rfl)) (.inl rfl)) (.inl rfl)) (.inl rfl)) (.inl rfl)) (.inl rfl)) (.inl rfl))
  simp only [List.setIfInBounds_toArray, List.set_cons_zero, List.set_cons_succ] at k1
  rw [e] at k1 k3
  exact ⟨k1, k3⟩
end Scr
end Go.Proofs.Ytfobbocaodppeaa
