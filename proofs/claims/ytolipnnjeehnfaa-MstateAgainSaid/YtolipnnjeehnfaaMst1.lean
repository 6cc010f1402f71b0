/- note's numbers, trusted ones, answers. -/
import Derived.Test.YtolipnnjeehnfaaMst0
set_option linter.unusedSimpArgs false
set_option linter.unusedVariables false
namespace Go.Proofs.Ytolipnnjeehnfaa
open Go.RowKit
set_option maxRecDepth 100000
namespace Mst
open Plan
/-- What is wrong with a number. -/
def rngE (x : Int) : Int := if x < 0 ∨ 1073741824 < x then 5 else 0
def rngL (l : List Int) : Int := firstE (fun _ x => rngE x) l 0
theorem range01_any (w : World) (i x : Int) : Calls Try.prog 70 #[.int .i64 i, .int .i64 x] w fun e w' => e = .returned (.int .i64 (rngE x)) ∧ Kept NoF w w' := by
  obtain ⟨r, hr⟩ : ∃ r, rngE x = r := ⟨_, rfl⟩
  rw [hr]
  have HR := Lib.hid hr; clear hr
  by_cases h1 : x < 0
  · go_enter Try.func70, Try.ntmps70
    go_wp2
    go_ret
    exact ⟨by rw [← HR.out, rngE, if_pos (.inl h1)]; rfl, by (repeat' (first | with_reducible exact Kept.refl _ _ | with_reducible refine Kept.put ?_ ?_ | with_reducible refine Kept.drewN ?_ _ | with_reducible refine Kept.drew ?_ | with_reducible refine Kept.alloc ?_ _ | (fail) | (right; simp; done)))⟩
  by_cases h2 : 1073741824 < x
  · go_enter Try.func70, Try.ntmps70
    go_wp2
    go_ret
    exact ⟨by rw [← HR.out, rngE, if_pos (.inr h2)]; rfl, by (repeat' (first | with_reducible exact Kept.refl _ _ | with_reducible refine Kept.put ?_ ?_ | with_reducible refine Kept.drewN ?_ _ | with_reducible refine Kept.drew ?_ | with_reducible refine Kept.alloc ?_ _ | (fail) | (right; simp; done)))⟩
  go_enter Try.func70, Try.ntmps70
  go_wp2
  go_ret
  exact ⟨by rw [← HR.out, rngE, if_neg (by omega)]; rfl, by (repeat' (first | with_reducible exact Kept.refl _ _ | with_reducible refine Kept.put ?_ ?_ | with_reducible refine Kept.drewN ?_ _ | with_reducible refine Kept.drew ?_ | with_reducible refine Kept.alloc ?_ _ | (fail) | (right; simp; done)))⟩
theorem range0_any (w : World) (A : Option Addr) (c : Nat) (l : List Int) (hl : Src w 1 A l.length (ints l)) (hlen : l.length ≤ 1000000) :
    Calls Try.prog 46 #[.slice A l.length c] w fun e w' => e = .returned (.int .i64 (rngL l)) ∧ Kept NoF w w' := by
  have h := each_any w A c l 70 #[] (fun _ x => rngE x) (fun args W => enters Try.func70 (by kernel_rfl) rfl args W) hl hlen (fun W i x _ _ => range01_any W i x)
  have hr : firstE (fun _ x => rngE x) l 0 = rngL l := rfl
  rw [hr] at h
  obtain ⟨r, hr⟩ : ∃ r, rngL l = r := ⟨_, rfl⟩
  rw [hr] at h ⊢
  have H := Lib.hid h; clear h hr hl
  go_enter Try.func46, Try.ntmps46
  go_wp2_with fail
  refine H.out.mono ?_
  rintro e w2 ⟨rfl, hk⟩
  have HK := Lib.hid hk; clear hk
  go_wp2
  go_ret
  exact ⟨rfl, HK.out⟩
/-- What is wrong with one that may be trusted, at a place. -/
def legF (l : List Int) (i : Nat) (x : Int) : Int := if x < 0 ∨ 4 ≤ x then 1 else if 0 < i ∧ x ≤ l.getD (i - 1) 0 then 18 else 0
def legE (l : List Int) : Int := if 4 < l.length then 6 else firstE (legF l) l 0
theorem legit1_any (w : World) (A : Option Addr) (c : Nat) (l : List Int) (b i : Nat) (x : Int) (hb : Has w b 37 #[.slice A l.length c]) (hl : Src w 1 A l.length (ints l)) (hlen : l.length ≤ 1000000) (hx : l[i]? = some x) :
    Calls Try.prog 69 #[.int .i64 i, .int .i64 x, .pointer (some ⟨b, 0, none⟩)] w fun e w' => e = .returned (.int .i64 (legF l i x)) ∧ Kept NoF w w' := by
  have c0 := hb.cell 0
  simp only [List.getElem?_toArray, List.getElem?_cons_zero] at c0
  clear hb
  have hi : i < l.length := (List.getElem?_eq_some_iff.1 hx).1
  clear hx
  obtain ⟨r, hr⟩ : ∃ r, legF l i x = r := ⟨_, rfl⟩
  rw [hr]
  have HR := Lib.hid hr; clear hr
  by_cases h1 : x < 0
  · clear hl c0
    go_enter Try.func69, Try.ntmps69
    go_wp2
    go_ret
    exact ⟨by rw [← HR.out, legF, if_pos (.inl h1)]; rfl, by (repeat' (first | with_reducible exact Kept.refl _ _ | with_reducible refine Kept.put ?_ ?_ | with_reducible refine Kept.drewN ?_ _ | with_reducible refine Kept.drew ?_ | with_reducible refine Kept.alloc ?_ _ | (fail) | (right; simp; done)))⟩
  by_cases h2 : 4 ≤ x
  · clear hl c0
    go_enter Try.func69, Try.ntmps69
    go_wp2
    go_ret
    exact ⟨by rw [← HR.out, legF, if_pos (.inr h2)]; rfl, by (repeat' (first | with_reducible exact Kept.refl _ _ | with_reducible refine Kept.put ?_ ?_ | with_reducible refine Kept.drewN ?_ _ | with_reducible refine Kept.drew ?_ | with_reducible refine Kept.alloc ?_ _ | (fail) | (right; simp; done)))⟩
  by_cases h3 : i = 0
  · subst h3
    clear hl
    go_enter Try.func69, Try.ntmps69
    go_wp2
    go_ret
    exact ⟨by rw [← HR.out, legF, if_neg (by omega), if_neg (by omega)]; rfl, by (repeat' (first | with_reducible exact Kept.refl _ _ | with_reducible refine Kept.put ?_ ?_ | with_reducible refine Kept.drewN ?_ _ | with_reducible refine Kept.drew ?_ | with_reducible refine Kept.alloc ?_ _ | (fail) | (right; simp; done)))⟩
  obtain ⟨y, hy⟩ : ∃ y, l[i - 1]? = some y := ⟨_, List.getElem?_eq_getElem (by omega)⟩
  have hg : l.getD (i - 1) 0 = y := by rw [List.getD_eq_getElem?_getD, hy]; rfl
  have HG := Lib.hid hg; clear hg
  obtain ⟨ad, rfl, had, e0⟩ := int_cells hl (by omega) (i - 1) y hy
  obtain ⟨k, rfl⟩ : ∃ k, i = k + 1 := ⟨i - 1, by omega⟩
  rw [Nat.add_sub_cancel] at e0
  have hw : IntKind.i64.wrap ((k : Int) + 1 - 1) = k := by rw [Int.add_sub_cancel]; exact IntWalk.i64_in _ (by omega)
  clear hl hy
  by_cases h4 : x ≤ y
  · go_enter Try.func69, Try.ntmps69
    go_wp2
    go_ret
    exact ⟨by rw [← HR.out, legF, if_neg (by omega), if_pos (by rw [HG.out]; omega)]; rfl, by (repeat' (first | with_reducible exact Kept.refl _ _ | with_reducible refine Kept.put ?_ ?_ | with_reducible refine Kept.drewN ?_ _ | with_reducible refine Kept.drew ?_ | with_reducible refine Kept.alloc ?_ _ | (fail) | (right; simp; done)))⟩
  · go_enter Try.func69, Try.ntmps69
    go_wp2
    go_ret
    exact ⟨by rw [← HR.out, legF, if_neg (by omega), if_neg (by rw [HG.out]; omega)]; rfl, by (repeat' (first | with_reducible exact Kept.refl _ _ | with_reducible refine Kept.put ?_ ?_ | with_reducible refine Kept.drewN ?_ _ | with_reducible refine Kept.drew ?_ | with_reducible refine Kept.alloc ?_ _ | (fail) | (right; simp; done)))⟩
theorem legit_any (w : World) (A : Option Addr) (c : Nat) (l : List Int) (hl : Src w 1 A l.length (ints l)) (hlen : l.length ≤ 1000000) :
    Calls Try.prog 45 #[.slice A l.length c] w fun e w' => e = .returned (.int .i64 (legE l)) ∧ Kept NoF w w' := by
  obtain ⟨r, hr⟩ : ∃ r, legE l = r := ⟨_, rfl⟩
  rw [hr]
  have HR := Lib.hid hr; clear hr
  by_cases h1 : 4 < l.length
  · clear hl
    go_enter Try.func45, Try.ntmps45
    go_wp2
    go_ret
    exact ⟨by rw [← HR.out, legE, if_pos h1]; rfl, by (repeat' (first | with_reducible exact Kept.refl _ _ | with_reducible refine Kept.put ?_ ?_ | with_reducible refine Kept.drewN ?_ _ | with_reducible refine Kept.drew ?_ | with_reducible refine Kept.alloc ?_ _ | (fail) | (right; simp; done)))⟩
  have hb := Has.new w 37 #[.slice A l.length c]
  have hk1 : Kept NoF w (w.alloc (.cells #[.slice A l.length c] 37)) := by (repeat' (first | with_reducible exact Kept.refl _ _ | with_reducible refine Kept.put ?_ ?_ | with_reducible refine Kept.drewN ?_ _ | with_reducible refine Kept.drew ?_ | with_reducible refine Kept.alloc ?_ _ | (fail) | (right; simp; done)))
  have h := each_any (w.alloc (.cells #[.slice A l.length c] 37)) A c l 69 #[.pointer (some ⟨w.heap.size, 0, none⟩)] (legF l) (fun args W => enters Try.func69 (by kernel_rfl) rfl args W) (hl.kept hk1 (fun _ _ z => z)) hlen
    (fun W i x hW hx => legit1_any W A c l w.heap.size i x (hb.kept hW (fun z => z)) (hl.kept (hk1.then hW) (fun _ _ z => z)) hlen hx)
  have hr2 : firstE (legF l) l 0 = r := by rw [← HR.out, legE, if_neg h1]
  rw [hr2] at h
  have H := Lib.hid h; clear h hr2 hb hk1 hl HR
  go_enter Try.func45, Try.ntmps45
  go_wp2_with fail
  refine H.out.mono ?_
  rintro e w2 ⟨rfl, hk⟩
  have hk2 := Kept.then (F := NoF) (a := w) (by (repeat' (first | with_reducible exact Kept.refl _ _ | with_reducible refine Kept.put ?_ ?_ | with_reducible refine Kept.drewN ?_ _ | with_reducible refine Kept.drew ?_ | with_reducible refine Kept.alloc ?_ _ | (fail) | (right; simp; done)))) hk
  have HK := Lib.hid hk2; clear hk hk2
  go_wp2
  go_ret
  exact ⟨rfl, HK.out⟩
/-- An answer. -/
structure AnsR where
  cl : Int
  req : Int
  e : Int
  pin : Int
deriving DecidableEq
abbrev ansagg (a : AnsR) : Value := .agg #[.int .i64 a.cl, .int .i64 a.req, .int .i64 a.e, .int .i64 a.pin]
def saidE (a : AnsR) : Int := if a.cl < 0 ∨ 3 ≤ a.cl then 1 else if rngL [a.req, a.pin] ≠ 0 then rngL [a.req, a.pin] else if a.e < 0 ∨ 21 < a.e then 1 else 0
end Mst
end Go.Proofs.Ytolipnnjeehnfaa
