/- Entries: story.Add, story.Holds. -/
import Derived.Test.YtnmlemciiigjcaaEnt2
import Derived.StillTailTactics
import Derived.WalkSpells
set_option linter.unusedSimpArgs false
set_option linter.unusedVariables false
namespace Go.Proofs.Ytnmlemciiigjcaa
open Go.RowKit
set_option maxRecDepth 100000
namespace Ent
open Ops Vn
theorem elemEnt : Elem Try.prog 43 47 4 48 := by
  obtain ⟨i0, hi, hz0, hz1, hz2⟩ := info_parts (show (Try.prog.info? 47).map (fun i => (i.zero, i.size, i.bytes)) = some (some (.agg #[.int .i64 0, .int .i64 0, .slice none 0 0, .int .u64 0]), 4, 48) by kernel_rfl)
  exact ⟨Try.underlying43, ⟨i0, _, hi, hz0, hz1, hz2, rfl⟩, by decide⟩
/-- A new slice that holds the entries l. -/
def NewEnts (w : World) (l : List EntR) (e : Ending) (w' : World) : Prop :=
  ∃ A c, e = .returned (.slice A l.length c) ∧ NewSl 47 4 w.heap.size w' A l.length c (ecells l) ∧ Kept NoF w w'
set_option maxHeartbeats 1000000 in
theorem clone_any (w : World) (A : Option Addr) (c : Nat) (l : List EntR) (hl : Src w 4 A l.length (ecells l)) (hlen : l.length ≤ 1000000) :
    Calls Try.prog 74 #[.slice A l.length c] w (NewEnts w l) := by
  have hnil : ∀ W n' c', (binOp .eql 43 (.slice A l.length c) (.slice none n' c')).run Try.prog W = .ok (.bool A.isNone) W := fun W n' c' => Lib.run_eql_slice_nil W _ _ A _ _ _ _ Try.underlying43
  cases A with
  | none =>
    have h0 : l.length = 0 := by
      rcases Nat.eq_zero_or_pos l.length with h | h
      · exact h
      · obtain ⟨ad, h1, _⟩ := hl.2 h; cases h1
    obtain rfl : l = [] := List.eq_nil_of_length_eq_zero h0
    clear h0 hl
    simp only [Option.isNone_none, List.length_nil] at hnil ⊢
    go_enter Try.func74, Try.ntmps74
    go_wp2
    go_ret
    exact ⟨none, 0, rfl, ⟨⟨rfl, .inl ⟨rfl, rfl⟩⟩, fun k hk => by cases hk⟩, Kept.refl _ _⟩
  | some ad =>
    simp only [Option.isNone_some] at hnil
    have hm1 : 0 + l.length ≤ maxLen := by unfold maxLen; omega
    have hm2 : (0 + l.length) * 48 ≤ 140737488355328 := by omega
    have HM1 := Lib.hid hm1; clear hm1
    have HM2 := Lib.hid hm2; clear hm2
    have HL := Lib.hid hl; clear hl
    go_enter Try.func74, Try.ntmps74
    go_wp2_with (at_builtin; refine list_append_src elemEnt (.tmp 5) (.tmp 6) rfl rfl (Value.slice (some ⟨w.heap.size, 0, none⟩) 0 0) rfl (own_empty (Has.new w 47 #[]) rfl) c rfl (HL.out.kept ((Kept.refl NoF w).alloc _) (fun _ _ x => x)) (one_ents l) HM1.out HM2.out ?_; intro A1 c1 w1 ho1 hg1 ha1; simp only [Nat.zero_add, List.nil_append] at ho1 ha1; have hk1 : Kept NoF w w1 := ((Kept.refl NoF w).alloc _).grown hg1 (fun k hk => .inr (new_row hk (Nat.le_refl _))); have HO1 := Lib.hid (And.intro ho1 (And.intro ha1 hk1)); clear ho1 hg1 ha1 hk1)
    go_ret
    refine ⟨A1, c1, by simp, ⟨HO1.out.1, fun k hk => ?_⟩, HO1.out.2.2⟩
    rcases HO1.out.2.1 with e | e
    · exact new_row (e.symm.trans hk) (Nat.le_refl _)
    · rw [hk] at e
      injection e with e
      simp at e
      omega
def alikeAllB : List EntR → List EntR → Bool
  | [], [] => true
  | a :: l, b :: m => alikeB a b && alikeAllB l m
  | _, _ => false
theorem alikeAllB_len {l m : List EntR} (h : l.length ≠ m.length) : alikeAllB l m = false := by
  induction l generalizing m with
  | nil => cases m <;> simp_all [alikeAllB]
  | cons a l ih =>
    cases m with
    | nil => rfl
    | cons b m => rw [alikeAllB, ih (by simpa using h), Bool.and_false]
theorem alikeAllB_at {l m : List EntR} {i : Nat} {a b : EntR} (ha : l[i]? = some a) (hb : m[i]? = some b) : alikeAllB (l.drop i) (m.drop i) = (alikeB a b && alikeAllB (l.drop (i + 1)) (m.drop (i + 1))) := by
  obtain ⟨hi, rfl⟩ := List.getElem?_eq_some_iff.1 ha
  obtain ⟨hj, rfl⟩ := List.getElem?_eq_some_iff.1 hb
  rw [List.drop_eq_getElem_cons hi, List.drop_eq_getElem_cons hj, alikeAllB]
set_option maxHeartbeats 4000000 in
theorem equalFunc_any (w : World) (A B : Option Addr) (c d : Nat) (l m : List EntR) (hl : Src w 4 A l.length (ecells l)) (hm : Src w 4 B m.length (ecells m)) (hlen : l.length ≤ 1000000) :
    Calls Try.prog 137 #[.slice A l.length c, .slice B m.length d, .func (.func 73) #[] #[]] w fun e w' => e = .returned (.bool (alikeAllB l m)) ∧ Kept NoF w w' := by
  have HL := Lib.hid hl; clear hl
  have HM := Lib.hid hm; clear hm
  by_cases hne : l.length = m.length
  rotate_left
  · rw [alikeAllB_len hne]
    have hq : ((l.length : Int) != (m.length : Int)) = true := by simpa using fun e => hne (by omega)
    clear hne
    go_enter Try.func137, Try.ntmps137
    go_wp2
    go_ret
    exact ⟨rfl, Kept.refl _ _⟩
  obtain ⟨n, hn⟩ : ∃ n, l.length = n := ⟨_, rfl⟩
  rw [← hne]
  rw [← hne] at HM
  rw [hn] at HL HM hlen ⊢
  have HN := Lib.hid (And.intro hn hne); clear hn hne
  obtain ⟨r, hr⟩ : ∃ r, alikeAllB l m = r := ⟨_, rfl⟩
  rw [hr]
  have HR := Lib.hid hr; clear hr
  go_enter Try.func137, Try.ntmps137
  go_wp2_with fail
  go_loopw [7, 17] (fun v7 v17 wr => ∃ i : Nat, i ≤ n ∧ v17 = .int .i64 i ∧ r = alikeAllB (l.drop i) (m.drop i) ∧ Kept NoF w wr) (fun _ v17 _ => n - (intOf v17).toNat)
  case atStart => exact ⟨0, Nat.zero_le _, rfl, HR.out.symm, Kept.refl _ _⟩
  case round =>
    obtain ⟨i, hi, rfl, hrr, hk⟩ := hrel
    have HK := Lib.hid hk; clear hk
    have HRR := Lib.hid hrr; clear hrr
    by_cases hil : i < n
    · obtain ⟨a, ha⟩ : ∃ a, l[i]? = some a := ⟨_, List.getElem?_eq_getElem (by have := HN.out.1; omega)⟩
      obtain ⟨b, hb⟩ : ∃ b, m[i]? = some b := ⟨_, List.getElem?_eq_getElem (by have := HN.out; omega)⟩
      have hsa := alikeAllB_at ha hb
      obtain ⟨ad, rfl, hl1, x0, x1, x2, x3⟩ := ent_cells (HL.out.kept HK.out (fun _ _ x => x)) (by omega) i a ha
      obtain ⟨bd, rfl, hl2, y0, y1, y2, y3⟩ := ent_cells ((HM.out.kept HK.out (fun _ _ x => x)).kept ((Kept.refl NoF wr).alloc (.cells (earr a) 47)) (fun _ _ x => x)) (by omega) i b hb
      have hcall := fun W => alike_any W a b
      rw [hsa] at HRR
      obtain ⟨t, ht⟩ : ∃ t, alikeB a b = t := ⟨_, rfl⟩
      rw [ht] at hcall HRR
      clear hsa ht ha hb
      have HCALL := Lib.hid hcall; clear hcall
      obtain ⟨cl, req, eA, ec, el, ts⟩ := a
      obtain ⟨cl', req', eA', ec', el', ts'⟩ := b
      dsimp only [eagg, earr] at *
      go_wp2_with fail
      refine (HCALL.out _).mono ?_
      rintro e w5 ⟨rfl, hk0⟩
      have hk := Kept.then (F := NoF) (a := w) (by (repeat' (first | with_reducible exact Kept.refl _ _ | with_reducible refine Kept.put ?_ ?_ | with_reducible refine Kept.drewN ?_ _ | with_reducible refine Kept.drew ?_ | with_reducible refine Kept.alloc ?_ _ | (exact HK.out) | (right; simp; done)))) hk0
      have HK5 := Lib.hid hk; clear hk hk0
      cases t
      · have hrf : r = false := by rw [HRR.out]; simp
        have HRF := Lib.hid hrf; clear hrf HRR
        go_wp2
        go_ret
        exact ⟨by rw [HRF.out]; rfl, HK5.out⟩
      · have hrf : r = alikeAllB (l.drop (i + 1)) (m.drop (i + 1)) := by rw [HRR.out]; simp
        have HRF := Lib.hid hrf; clear hrf HRR
        go_wp2
        go_roundw
        case rel => exact ⟨i + 1, by omega, by go_num, HRF.out, HK5.out⟩
        case measure => simp [intOf]; omega
    · obtain rfl : i = n := by omega
      have hrt : r = true := by
        rw [HRR.out, List.drop_of_length_le (by rw [HN.out.1]; exact Nat.le_refl _), List.drop_of_length_le (by have := HN.out; omega)]; rfl
      have HRT := Lib.hid hrt; clear hrt
      go_wp2
      go_ret
      exact ⟨by rw [HRT.out]; rfl, HK.out⟩
def agreeB (l m : List EntR) : Bool := alikeAllB (l.take (min l.length m.length)) (m.take (min l.length m.length))
theorem Src.takeE {w : World} {A : Option Addr} {l : List EntR} (h : Src w 4 A l.length (ecells l)) {k : Nat} (hk : k ≤ l.length) : Src w 4 A (l.take k).length (ecells (l.take k)) := by
  have h1 := h.take hk
  rw [ecells_take] at h1
  rwa [List.length_take, Nat.min_eq_left hk]
set_option maxHeartbeats 2000000 in
theorem agree_any (w : World) (A B : Option Addr) (c d : Nat) (l m : List EntR) (hl : Src w 4 A l.length (ecells l)) (hm : Src w 4 B m.length (ecells m)) (hlen : l.length ≤ 1000000) (hmlen : m.length ≤ 1000000000000) (hc : l.length ≤ c) (hd : m.length ≤ d) :
    Calls Try.prog 72 #[.slice A l.length c, .slice B m.length d, .func (.func 73) #[] #[]] w fun e w' => e = .returned (.bool (agreeB l m)) ∧ Kept NoF w w' := by
  unfold agreeB
  obtain ⟨n, hn⟩ : ∃ n, min l.length m.length = n := ⟨_, rfl⟩
  have hmn : ∀ W ts t, (Builtin.min_ ts t #[.int .i64 (l.length : Int), .int .i64 (m.length : Int)]).run Try.prog W = .ok (.int .i64 n) W := by
    intro W ts t
    rw [run_min_int2, ← hn]
    split <;> (congr 2; omega)
  have h1 : n ≤ l.length := by omega
  have h2 : n ≤ m.length := by omega
  rw [hn]
  have hcl : (n : Int) ≤ c := by omega
  have hdl : (n : Int) ≤ d := by omega
  have h0 : (0 : Int) ≤ n := by omega
  have hcall := fun W (hW : Kept NoF w W) => equalFunc_any W A B c d (l.take n) (m.take n) ((Src.takeE hl h1).kept hW (fun _ _ x => x)) ((Src.takeE hm h2).kept hW (fun _ _ x => x)) (by rw [List.length_take]; omega)
  rw [List.length_take, List.length_take, Nat.min_eq_left h1, Nat.min_eq_left h2] at hcall
  obtain ⟨r, hr⟩ : ∃ r, alikeAllB (l.take n) (m.take n) = r := ⟨_, rfl⟩
  rw [hr] at hcall ⊢
  have HCALL := Lib.hid hcall; clear hcall hn hr hl hm
  go_enter Try.func72, Try.ntmps72
  go_wp2_with fail
  refine wp_region_still_tail 7 (by kernel_rfl) (by kernel_rfl) ?_
  simp only [List.take_succ_cons, List.take_zero, List.drop_succ_cons, List.drop_zero]
  change wpStill _ _ (World.drew w) _ _ _
  repeat still_step
  refine wpStill_nil ?_
  change wpList _ _ _ _ _ (World.drew w)
  go_wp2_with fail
  refine (HCALL.out _ (by (repeat' (first | with_reducible exact Kept.refl _ _ | with_reducible refine Kept.put ?_ ?_ | with_reducible refine Kept.drewN ?_ _ | with_reducible refine Kept.drew ?_ | with_reducible refine Kept.alloc ?_ _ | (fail) | (right; simp; done))))).mono ?_
  rintro e w2 ⟨rfl, hk⟩
  have hk2 := Kept.then (F := NoF) (a := w) (by (repeat' (first | with_reducible exact Kept.refl _ _ | with_reducible refine Kept.put ?_ ?_ | with_reducible refine Kept.drewN ?_ _ | with_reducible refine Kept.drew ?_ | with_reducible refine Kept.alloc ?_ _ | (fail) | (right; simp; done)))) hk
  have HK2 := Lib.hid hk2; clear hk2 hk
  go_wp2
  go_ret
  exact ⟨rfl, HK2.out⟩
end Ent
end Go.Proofs.Ytnmlemciiigjcaa
