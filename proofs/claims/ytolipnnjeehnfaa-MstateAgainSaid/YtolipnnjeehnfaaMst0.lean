/- slices.IndexFunc and ContainsFunc at whole numbers, members and pins, for any closure of one captured variable; Contains at whole numbers; note's each. -/
import Derived.Test.YtolipnnjeehnfaaConf3
set_option linter.unusedSimpArgs false
set_option linter.unusedVariables false
namespace Go.Proofs.Ytolipnnjeehnfaa
open Go.RowKit
set_option maxRecDepth 100000
namespace Mst
open Plan
structure PinR where
  id : Int
  at' : Int
  left : Int
deriving DecidableEq
def pcell (p : PinR) : List Value := [.int .i64 p.id, .int .u64 p.at', .int .i64 p.left]
def pcells (l : List PinR) : List Value := l.flatMap pcell
abbrev pagg (p : PinR) : Value := .agg #[.int .i64 p.id, .int .u64 p.at', .int .i64 p.left]
theorem pin_cells {w : World} {A : Option Addr} {m : Nat} {l : List PinR} (h : Src w 3 A m (pcells l)) (hm : 0 < m) (i : Nat) (p : PinR) (hp : l[i]? = some p) :
    ∃ ad, A = some ad ∧ ad.block < w.heap.size ∧ w.cell? (ad.add (i * 3)) = some (.int .i64 p.id) ∧ w.cell? ⟨(ad.add (i * 3)).block, (ad.add (i * 3)).off + 1, none⟩ = some (.int .u64 p.at') ∧ w.cell? ⟨(ad.add (i * 3)).block, (ad.add (i * 3)).off + 2, none⟩ = some (.int .i64 p.left) := by
  obtain ⟨ad, rfl, had, hcell⟩ := h.2 hm
  have k0 : (pcells l)[i * 3]? = some (.int .i64 p.id) := by
    unfold pcells
    rw [flat_get pcell 3 (by decide) (fun _ => rfl), show i * 3 / 3 = i by omega, show i * 3 % 3 = 0 by omega, hp]; rfl
  have k1 : (pcells l)[i * 3 + 1]? = some (.int .u64 p.at') := by
    unfold pcells
    rw [flat_get pcell 3 (by decide) (fun _ => rfl), show (i * 3 + 1) / 3 = i by omega, show (i * 3 + 1) % 3 = 1 by omega, hp]; rfl
  have k2 : (pcells l)[i * 3 + 2]? = some (.int .i64 p.left) := by
    unfold pcells
    rw [flat_get pcell 3 (by decide) (fun _ => rfl), show (i * 3 + 2) / 3 = i by omega, show (i * 3 + 2) % 3 = 2 by omega, hp]; rfl
  refine ⟨ad, rfl, had, hcell _ _ k0, ?_, ?_⟩
  · rw [← add_lit _ (by omega), add_add]; exact hcell _ _ k1
  · rw [← add_lit _ (by omega), add_add]; exact hcell _ _ k2
theorem enters {f : FuncId} {fn : Func} {c : Code} (hf : Try.prog.funcs[f]? = some fn) (hname : (fn.name == "runtime.NumGoroutine") = false) (hb : fn.body = some c) (args : Array Value) (w : World) :
    (callFunc f args).run Try.prog w = .ok (.enter f args) w := by
  have h1 : fn.name ≠ "runtime.NumGoroutine" := by simpa using hname
  simp [callFunc, hf, h1, hb]
/-- The first place from i on at which p holds; -1: there is none. -/
def idxW {α : Type} (p : α → Bool) : List α → Nat → Int
  | [], _ => -1
  | x :: l, i => if p x = true then i else idxW p l (i + 1)
theorem idxW_at {α : Type} (p : α → Bool) {l : List α} {i : Nat} {x : α} (h : l[i]? = some x) : idxW p (l.drop i) i = if p x = true then (i : Int) else idxW p (l.drop (i + 1)) (i + 1) := by
  obtain ⟨hi, rfl⟩ := List.getElem?_eq_some_iff.1 h
  rw [List.drop_eq_getElem_cons hi, idxW]
theorem idxW_any {α : Type} (p : α → Bool) (l : List α) (i : Nat) : decide (0 ≤ idxW p l i) = l.any p := by
  induction l generalizing i with
  | nil => simp [idxW]
  | cons x l ih =>
    rw [idxW, List.any_cons]
    cases hx : p x
    · rw [if_neg (by simp), ih, Bool.false_or]
    · rw [if_pos rfl, Bool.true_or]; simp
set_option maxHeartbeats 4000000 in
theorem idxInt_any (w : World) (A : Option Addr) (c : Nat) (l : List Int) (g : Nat) (cap : Value) (p : Int → Bool) (eg : ∀ args w, (callFunc g args).run Try.prog w = .ok (.enter g args) w) (hl : Src w 1 A l.length (ints l)) (hlen : l.length ≤ 1000000)
    (hf : ∀ W x, Kept NoF w W → x ∈ l → Calls Try.prog g #[.int .i64 x, cap] W fun e W' => e = .returned (.bool (p x)) ∧ Kept NoF W W') :
    Calls Try.prog 74 #[.slice A l.length c, .func (.func g) #[] #[cap]] w fun r w' => r = .returned (.int .i64 (idxW p l 0)) ∧ Kept NoF w w' := by
  have HL := Lib.hid hl; clear hl
  have HCALL := Lib.hid hf; clear hf
  obtain ⟨r, hr⟩ : ∃ r, idxW p l 0 = r := ⟨_, rfl⟩
  rw [hr]
  have HR := Lib.hid hr; clear hr
  go_enter Try.func74, Try.ntmps74
  go_wp2_with fail
  go_loopw [5, 8] (fun v5 v8 wr => ∃ i : Nat, i ≤ l.length ∧ v8 = .int .i64 i ∧ r = idxW p (l.drop i) i ∧ Kept NoF w wr) (fun _ v8 _ => l.length - (intOf v8).toNat)
  case atStart => exact ⟨0, Nat.zero_le _, rfl, HR.out.symm, Kept.refl _ _⟩
  case round =>
    obtain ⟨i, hi, rfl, hrr, hk⟩ := hrel
    have HK := Lib.hid hk; clear hk
    by_cases hil : i < l.length
    · obtain ⟨x, hx⟩ : ∃ x, l[i]? = some x := ⟨_, List.getElem?_eq_getElem hil⟩
      have hsa := idxW_at p hx
      obtain ⟨ad, rfl, hl1, x0⟩ := int_cells (HL.out.kept HK.out (fun _ _ x => x)) (by omega) i x hx
      have hcall := HCALL.out wr x HK.out (List.mem_of_getElem? hx)
      rw [hsa] at hrr
      obtain ⟨t, ht⟩ : ∃ t, p x = t := ⟨_, rfl⟩
      rw [ht] at hcall hrr
      clear hsa ht hx
      have HC := Lib.hid hcall; clear hcall
      have HRR := Lib.hid hrr; clear hrr
      go_wp2_with fail
      refine HC.out.mono ?_
      rintro e w5 ⟨rfl, hk0⟩
      have HK5 := Lib.hid (HK.out.then hk0); clear hk0
      cases t
      · have hrf := HRR.out
        rw [if_neg (by simp)] at hrf
        have HRF := Lib.hid hrf; clear hrf HRR
        go_wp2
        go_roundw
        case rel => exact ⟨i + 1, by omega, by go_num, HRF.out, HK5.out⟩
        case measure => simp [intOf]; omega
      · have hrf := HRR.out
        rw [if_pos rfl] at hrf
        have HRF := Lib.hid hrf; clear hrf HRR
        go_wp2
        go_ret
        exact ⟨by rw [HRF.out]; rfl, HK5.out⟩
    · obtain rfl : i = l.length := by omega
      rw [List.drop_length, idxW] at hrr
      have HRR := Lib.hid hrr; clear hrr
      go_wp2
      go_ret
      exact ⟨by rw [HRR.out]; rfl, HK.out⟩
theorem hasInt_any (w : World) (A : Option Addr) (c : Nat) (l : List Int) (g : Nat) (cap : Value) (p : Int → Bool) (eg : ∀ args w, (callFunc g args).run Try.prog w = .ok (.enter g args) w) (hl : Src w 1 A l.length (ints l)) (hlen : l.length ≤ 1000000)
    (hf : ∀ W x, Kept NoF w W → x ∈ l → Calls Try.prog g #[.int .i64 x, cap] W fun e W' => e = .returned (.bool (p x)) ∧ Kept NoF W W') :
    Calls Try.prog 51 #[.slice A l.length c, .func (.func g) #[] #[cap]] w fun r w' => r = .returned (.bool (l.any p)) ∧ Kept NoF w w' := by
  have hi := idxInt_any w A c l g cap p eg hl hlen hf
  have ha := idxW_any p l 0
  obtain ⟨k, hk⟩ : ∃ k, idxW p l 0 = k := ⟨_, rfl⟩
  rw [hk] at hi ha
  rw [← ha]
  have HI := Lib.hid hi; clear hi hk hf hl ha eg
  go_enter Try.func51, Try.ntmps51
  go_wp2_with fail
  refine HI.out.mono ?_
  rintro e w2 ⟨rfl, hk⟩
  have HK := Lib.hid hk; clear hk
  go_wp2
  go_ret
  exact ⟨by simp, HK.out⟩
set_option maxHeartbeats 4000000 in
theorem idxMem_any (w : World) (A : Option Addr) (c : Nat) (l : List Mem) (g : Nat) (cap : Value) (p : Mem → Bool) (eg : ∀ args w, (callFunc g args).run Try.prog w = .ok (.enter g args) w) (hl : Src w 2 A l.length (mcells l)) (hlen : l.length ≤ 1000000)
    (hf : ∀ W x, Kept NoF w W → x ∈ l → Calls Try.prog g #[magg x, cap] W fun e W' => e = .returned (.bool (p x)) ∧ Kept NoF W W') :
    Calls Try.prog 82 #[.slice A l.length c, .func (.func g) #[] #[cap]] w fun r w' => r = .returned (.int .i64 (idxW p l 0)) ∧ Kept NoF w w' := by
  have HL := Lib.hid hl; clear hl
  have HCALL := Lib.hid hf; clear hf
  obtain ⟨r, hr⟩ : ∃ r, idxW p l 0 = r := ⟨_, rfl⟩
  rw [hr]
  have HR := Lib.hid hr; clear hr
  go_enter Try.func82, Try.ntmps82
  go_wp2_with fail
  go_loopw [5, 8] (fun v5 v8 wr => ∃ i : Nat, i ≤ l.length ∧ v8 = .int .i64 i ∧ r = idxW p (l.drop i) i ∧ Kept NoF w wr) (fun _ v8 _ => l.length - (intOf v8).toNat)
  case atStart => exact ⟨0, Nat.zero_le _, rfl, HR.out.symm, Kept.refl _ _⟩
  case round =>
    obtain ⟨i, hi, rfl, hrr, hk⟩ := hrel
    have HK := Lib.hid hk; clear hk
    by_cases hil : i < l.length
    · obtain ⟨x, hx⟩ : ∃ x, l[i]? = some x := ⟨_, List.getElem?_eq_getElem hil⟩
      have hsa := idxW_at p hx
      obtain ⟨ad, rfl, hl1, x0, x1⟩ := mem_cells (HL.out.kept HK.out (fun _ _ x => x)) (by omega) i x hx
      have hcall := HCALL.out wr x HK.out (List.mem_of_getElem? hx)
      rw [hsa] at hrr
      obtain ⟨t, ht⟩ : ∃ t, p x = t := ⟨_, rfl⟩
      rw [ht] at hcall hrr
      clear hsa ht hx
      have HC := Lib.hid hcall; clear hcall
      have HRR := Lib.hid hrr; clear hrr
      go_wp2_with fail
      refine HC.out.mono ?_
      rintro e w5 ⟨rfl, hk0⟩
      have HK5 := Lib.hid (HK.out.then hk0); clear hk0
      cases t
      · have hrf := HRR.out
        rw [if_neg (by simp)] at hrf
        have HRF := Lib.hid hrf; clear hrf HRR
        go_wp2
        go_roundw
        case rel => exact ⟨i + 1, by omega, by go_num, HRF.out, HK5.out⟩
        case measure => simp [intOf]; omega
      · have hrf := HRR.out
        rw [if_pos rfl] at hrf
        have HRF := Lib.hid hrf; clear hrf HRR
        go_wp2
        go_ret
        exact ⟨by rw [HRF.out]; rfl, HK5.out⟩
    · obtain rfl : i = l.length := by omega
      rw [List.drop_length, idxW] at hrr
      have HRR := Lib.hid hrr; clear hrr
      go_wp2
      go_ret
      exact ⟨by rw [HRR.out]; rfl, HK.out⟩
theorem hasMem_any (w : World) (A : Option Addr) (c : Nat) (l : List Mem) (g : Nat) (cap : Value) (p : Mem → Bool) (eg : ∀ args w, (callFunc g args).run Try.prog w = .ok (.enter g args) w) (hl : Src w 2 A l.length (mcells l)) (hlen : l.length ≤ 1000000)
    (hf : ∀ W x, Kept NoF w W → x ∈ l → Calls Try.prog g #[magg x, cap] W fun e W' => e = .returned (.bool (p x)) ∧ Kept NoF W W') :
    Calls Try.prog 72 #[.slice A l.length c, .func (.func g) #[] #[cap]] w fun r w' => r = .returned (.bool (l.any p)) ∧ Kept NoF w w' := by
  have hi := idxMem_any w A c l g cap p eg hl hlen hf
  have ha := idxW_any p l 0
  obtain ⟨k, hk⟩ : ∃ k, idxW p l 0 = k := ⟨_, rfl⟩
  rw [hk] at hi ha
  rw [← ha]
  have HI := Lib.hid hi; clear hi hk hf hl ha eg
  go_enter Try.func72, Try.ntmps72
  go_wp2_with fail
  refine HI.out.mono ?_
  rintro e w2 ⟨rfl, hk⟩
  have HK := Lib.hid hk; clear hk
  go_wp2
  go_ret
  exact ⟨by simp, HK.out⟩
set_option maxHeartbeats 4000000 in
theorem idxPin_any (w : World) (A : Option Addr) (c : Nat) (l : List PinR) (g : Nat) (cap : Value) (p : PinR → Bool) (eg : ∀ args w, (callFunc g args).run Try.prog w = .ok (.enter g args) w) (hl : Src w 3 A l.length (pcells l)) (hlen : l.length ≤ 1000000)
    (hf : ∀ W x, Kept NoF w W → x ∈ l → Calls Try.prog g #[pagg x, cap] W fun e W' => e = .returned (.bool (p x)) ∧ Kept NoF W W') :
    Calls Try.prog 59 #[.slice A l.length c, .func (.func g) #[] #[cap]] w fun r w' => r = .returned (.int .i64 (idxW p l 0)) ∧ Kept NoF w w' := by
  have HL := Lib.hid hl; clear hl
  have HCALL := Lib.hid hf; clear hf
  obtain ⟨r, hr⟩ : ∃ r, idxW p l 0 = r := ⟨_, rfl⟩
  rw [hr]
  have HR := Lib.hid hr; clear hr
  go_enter Try.func59, Try.ntmps59
  go_wp2_with fail
  go_loopw [5, 8] (fun v5 v8 wr => ∃ i : Nat, i ≤ l.length ∧ v8 = .int .i64 i ∧ r = idxW p (l.drop i) i ∧ Kept NoF w wr) (fun _ v8 _ => l.length - (intOf v8).toNat)
  case atStart => exact ⟨0, Nat.zero_le _, rfl, HR.out.symm, Kept.refl _ _⟩
  case round =>
    obtain ⟨i, hi, rfl, hrr, hk⟩ := hrel
    have HK := Lib.hid hk; clear hk
    by_cases hil : i < l.length
    · obtain ⟨x, hx⟩ : ∃ x, l[i]? = some x := ⟨_, List.getElem?_eq_getElem hil⟩
      have hsa := idxW_at p hx
      obtain ⟨ad, rfl, hl1, x0, x1, x2⟩ := pin_cells (HL.out.kept HK.out (fun _ _ x => x)) (by omega) i x hx
      have hcall := HCALL.out wr x HK.out (List.mem_of_getElem? hx)
      rw [hsa] at hrr
      obtain ⟨t, ht⟩ : ∃ t, p x = t := ⟨_, rfl⟩
      rw [ht] at hcall hrr
      clear hsa ht hx
      have HC := Lib.hid hcall; clear hcall
      have HRR := Lib.hid hrr; clear hrr
      go_wp2_with fail
      refine HC.out.mono ?_
      rintro e w5 ⟨rfl, hk0⟩
      have HK5 := Lib.hid (HK.out.then hk0); clear hk0
      cases t
      · have hrf := HRR.out
        rw [if_neg (by simp)] at hrf
        have HRF := Lib.hid hrf; clear hrf HRR
        go_wp2
        go_roundw
        case rel => exact ⟨i + 1, by omega, by go_num, HRF.out, HK5.out⟩
        case measure => simp [intOf]; omega
      · have hrf := HRR.out
        rw [if_pos rfl] at hrf
        have HRF := Lib.hid hrf; clear hrf HRR
        go_wp2
        go_ret
        exact ⟨by rw [HRF.out]; rfl, HK5.out⟩
    · obtain rfl : i = l.length := by omega
      rw [List.drop_length, idxW] at hrr
      have HRR := Lib.hid hrr; clear hrr
      go_wp2
      go_ret
      exact ⟨by rw [HRR.out]; rfl, HK.out⟩
theorem hasPin_any (w : World) (A : Option Addr) (c : Nat) (l : List PinR) (g : Nat) (cap : Value) (p : PinR → Bool) (eg : ∀ args w, (callFunc g args).run Try.prog w = .ok (.enter g args) w) (hl : Src w 3 A l.length (pcells l)) (hlen : l.length ≤ 1000000)
    (hf : ∀ W x, Kept NoF w W → x ∈ l → Calls Try.prog g #[pagg x, cap] W fun e W' => e = .returned (.bool (p x)) ∧ Kept NoF W W') :
    Calls Try.prog 32 #[.slice A l.length c, .func (.func g) #[] #[cap]] w fun r w' => r = .returned (.bool (l.any p)) ∧ Kept NoF w w' := by
  have hi := idxPin_any w A c l g cap p eg hl hlen hf
  have ha := idxW_any p l 0
  obtain ⟨k, hk⟩ : ∃ k, idxW p l 0 = k := ⟨_, rfl⟩
  rw [hk] at hi ha
  rw [← ha]
  have HI := Lib.hid hi; clear hi hk hf hl ha eg
  go_enter Try.func32, Try.ntmps32
  go_wp2_with fail
  refine HI.out.mono ?_
  rintro e w2 ⟨rfl, hk⟩
  have HK := Lib.hid hk; clear hk
  go_wp2
  go_ret
  exact ⟨by simp, HK.out⟩
/-- The first that is not 0. -/
def firstE (f : Nat → Int → Int) : List Int → Nat → Int
  | [], _ => 0
  | x :: l, i => if f i x = 0 then firstE f l (i + 1) else f i x
theorem firstE_at (f : Nat → Int → Int) {l : List Int} {i : Nat} {x : Int} (h : l[i]? = some x) : firstE f (l.drop i) i = if f i x = 0 then firstE f (l.drop (i + 1)) (i + 1) else f i x := by
  obtain ⟨hi, rfl⟩ := List.getElem?_eq_some_iff.1 h
  rw [List.drop_eq_getElem_cons hi, firstE]
set_option maxHeartbeats 4000000 in
theorem each_any (w : World) (A : Option Addr) (c : Nat) (l : List Int) (g : Nat) (caps : Array Value) (f : Nat → Int → Int) (eg : ∀ args w, (callFunc g args).run Try.prog w = .ok (.enter g args) w) (hl : Src w 1 A l.length (ints l)) (hlen : l.length ≤ 1000000)
    (hf : ∀ W i x, Kept NoF w W → l[i]? = some x → Calls Try.prog g (#[.int .i64 i, .int .i64 x] ++ caps) W fun e W' => e = .returned (.int .i64 (f i x)) ∧ Kept NoF W W') :
    Calls Try.prog 68 #[.slice A l.length c, .func (.func g) #[] caps] w fun r w' => r = .returned (.int .i64 (firstE f l 0)) ∧ Kept NoF w w' := by
  have HL := Lib.hid hl; clear hl
  have HCALL := Lib.hid hf; clear hf
  obtain ⟨r, hr⟩ : ∃ r, firstE f l 0 = r := ⟨_, rfl⟩
  rw [hr]
  have HR := Lib.hid hr; clear hr
  go_enter Try.func68, Try.ntmps68
  go_wp2_with fail
  go_loopw [5, 6, 7, 10] (fun v5 v6 v7 v10 wr => ∃ i : Nat, i ≤ l.length ∧ v10 = .int .i64 i ∧ r = firstE f (l.drop i) i ∧ Kept NoF w wr) (fun _ _ _ v10 _ => l.length - (intOf v10).toNat)
  case atStart => exact ⟨0, Nat.zero_le _, rfl, HR.out.symm, Kept.refl _ _⟩
  case round =>
    obtain ⟨i, hi, rfl, hrr, hk⟩ := hrel
    have HK := Lib.hid hk; clear hk
    by_cases hil : i < l.length
    · obtain ⟨x, hx⟩ : ∃ x, l[i]? = some x := ⟨_, List.getElem?_eq_getElem hil⟩
      have hsa := firstE_at f hx
      obtain ⟨ad, rfl, hl1, x0⟩ := int_cells (HL.out.kept HK.out (fun _ _ x => x)) (by omega) i x hx
      have hcall := HCALL.out wr i x HK.out hx
      rw [hsa] at hrr
      obtain ⟨t, ht⟩ : ∃ t, f i x = t := ⟨_, rfl⟩
      rw [ht] at hcall hrr
      clear hsa ht hx
      have HC := Lib.hid hcall; clear hcall
      have HRR := Lib.hid hrr; clear hrr
      go_wp2_with fail
      refine HC.out.mono ?_
      rintro e w5 ⟨rfl, hk0⟩
      have HK5 := Lib.hid (HK.out.then hk0); clear hk0
      by_cases ht0 : t = 0
      · have hrf := HRR.out
        rw [if_pos ht0] at hrf
        have HRF := Lib.hid hrf; clear hrf HRR
        have ht1 : (t != 0) = false := by simp [ht0]
        clear ht0
        go_wp2
        go_roundw
        case rel => exact ⟨i + 1, by omega, by go_num, HRF.out, HK5.out⟩
        case measure => simp [intOf]; omega
      · have hrf := HRR.out
        rw [if_neg ht0] at hrf
        have HRF := Lib.hid hrf; clear hrf HRR
        have ht1 : (t != 0) = true := by simpa using ht0
        clear ht0
        go_wp2
        go_ret
        exact ⟨by rw [HRF.out]; rfl, HK5.out⟩
    · obtain rfl : i = l.length := by omega
      rw [List.drop_length, firstE] at hrr
      have HRR := Lib.hid hrr; clear hrr
      go_wp2
      go_ret
      exact ⟨by rw [HRR.out]; rfl, HK.out⟩
end Mst
end Go.Proofs.Ytolipnnjeehnfaa
