/- slices.Clone at whole numbers, members, pins; lease's whose and find. -/
import Derived.Test.YtolipnnjeehnfaaMst4
import Derived.StillTailTactics
import Derived.WalkSpells
set_option linter.unusedSimpArgs false
set_option linter.unusedVariables false
namespace Go.Proofs.Ytolipnnjeehnfaa
open Go.RowKit
set_option maxRecDepth 100000
namespace Mst
open Plan Vn
theorem elemInt : Elem Try.prog 37 3 1 8 := by
  obtain ⟨i0, hi, hz0, hz1, hz2⟩ := info_parts (show (Try.prog.info? 3).map (fun i => (i.zero, i.size, i.bytes)) = some (some (.int .i64 0), 1, 8) by kernel_rfl)
  exact ⟨Try.underlying37, ⟨i0, _, hi, hz0, hz1, hz2, rfl⟩, by decide⟩
theorem one_ints (l : List Int) : ∀ u ∈ ints l, u.oneCell' = true := by
  intro u hu
  obtain ⟨x, _, hx⟩ := List.mem_map.1 hu
  rw [← hx]; rfl
/-- A new slice that holds these. -/
def NewInt (w : World) (l : List Int) (e : Ending) (w' : World) : Prop :=
  ∃ A c, e = .returned (.slice A l.length c) ∧ NewSl 3 1 w.heap.size w' A l.length c (ints l) ∧ Kept NoF w w'
set_option maxHeartbeats 1000000 in
theorem cloneInt_any (w : World) (A : Option Addr) (c : Nat) (l : List Int) (hl : Src w 1 A l.length (ints l)) (hlen : l.length ≤ 1000000) :
    Calls Try.prog 30 #[.slice A l.length c] w (NewInt w l) := by
  have hnil : ∀ W n' c', (binOp .eql 37 (.slice A l.length c) (.slice none n' c')).run Try.prog W = .ok (.bool A.isNone) W := fun W n' c' => Lib.run_eql_slice_nil W _ _ A _ _ _ _ Try.underlying37
  cases A with
  | none =>
    have h0 : l.length = 0 := by
      rcases Nat.eq_zero_or_pos l.length with h | h
      · exact h
      · obtain ⟨ad, h1, _⟩ := hl.2 h; cases h1
    obtain rfl : l = [] := List.eq_nil_of_length_eq_zero h0
    clear h0 hl
    simp only [Option.isNone_none, List.length_nil] at hnil ⊢
    go_enter Try.func30, Try.ntmps30
    go_wp2
    go_ret
    exact ⟨none, 0, rfl, ⟨⟨rfl, .inl ⟨rfl, rfl⟩⟩, fun k hk => by cases hk⟩, Kept.refl _ _⟩
  | some ad =>
    simp only [Option.isNone_some] at hnil
    have hm1 : 0 + l.length ≤ maxLen := by unfold maxLen; omega
    have hm2 : (0 + l.length) * 8 ≤ 140737488355328 := by omega
    have HM1 := Lib.hid hm1; clear hm1
    have HM2 := Lib.hid hm2; clear hm2
    have HL := Lib.hid hl; clear hl
    go_enter Try.func30, Try.ntmps30
    go_wp2_with (at_builtin; refine list_append_src elemInt (.tmp 5) (.tmp 6) rfl rfl (Value.slice (some ⟨w.heap.size, 0, none⟩) 0 0) rfl (own_empty (Has.new w 3 #[]) rfl) c rfl (HL.out.kept ((Kept.refl NoF w).alloc _) (fun _ _ x => x)) (one_ints l) HM1.out HM2.out ?_; intro A1 c1 w1 ho1 hg1 ha1; simp only [Nat.zero_add, List.nil_append] at ho1 ha1; have hk1 : Kept NoF w w1 := ((Kept.refl NoF w).alloc _).grown hg1 (fun k hk => .inr (new_row hk (Nat.le_refl _))); have HO1 := Lib.hid (And.intro ho1 (And.intro ha1 hk1)); clear ho1 hg1 ha1 hk1)
    go_ret
    refine ⟨A1, c1, by simp, ⟨HO1.out.1, fun k hk => ?_⟩, HO1.out.2.2⟩
    rcases HO1.out.2.1 with e | e
    · exact new_row (e.symm.trans hk) (Nat.le_refl _)
    · rw [hk] at e
      injection e with e
      simp at e
      omega
theorem elemMem : Elem Try.prog 29 86 2 16 := by
  obtain ⟨i0, hi, hz0, hz1, hz2⟩ := info_parts (show (Try.prog.info? 86).map (fun i => (i.zero, i.size, i.bytes)) = some (some (.agg #[.int .i64 0, .int .i64 0]), 2, 16) by kernel_rfl)
  exact ⟨Try.underlying29, ⟨i0, _, hi, hz0, hz1, hz2, rfl⟩, by decide⟩
theorem one_mcells (l : List Mem) : ∀ u ∈ mcells l, u.oneCell' = true := by
  intro u hu
  obtain ⟨x, _, hx⟩ := List.mem_flatMap.1 hu
  have h2 : u = .int .i64 x.1 ∨ u = .int .i64 x.2 := by simpa [mcell] using hx
  rcases h2 with rfl | rfl <;> rfl
/-- A new slice that holds these. -/
def NewMem (w : World) (l : List Mem) (e : Ending) (w' : World) : Prop :=
  ∃ A c, e = .returned (.slice A l.length c) ∧ NewSl 86 2 w.heap.size w' A l.length c (mcells l) ∧ Kept NoF w w'
set_option maxHeartbeats 1000000 in
theorem cloneMem_any (w : World) (A : Option Addr) (c : Nat) (l : List Mem) (hl : Src w 2 A l.length (mcells l)) (hlen : l.length ≤ 1000000) :
    Calls Try.prog 43 #[.slice A l.length c] w (NewMem w l) := by
  have hnil : ∀ W n' c', (binOp .eql 29 (.slice A l.length c) (.slice none n' c')).run Try.prog W = .ok (.bool A.isNone) W := fun W n' c' => Lib.run_eql_slice_nil W _ _ A _ _ _ _ Try.underlying29
  cases A with
  | none =>
    have h0 : l.length = 0 := by
      rcases Nat.eq_zero_or_pos l.length with h | h
      · exact h
      · obtain ⟨ad, h1, _⟩ := hl.2 h; cases h1
    obtain rfl : l = [] := List.eq_nil_of_length_eq_zero h0
    clear h0 hl
    simp only [Option.isNone_none, List.length_nil] at hnil ⊢
    go_enter Try.func43, Try.ntmps43
    go_wp2
    go_ret
    exact ⟨none, 0, rfl, ⟨⟨rfl, .inl ⟨rfl, rfl⟩⟩, fun k hk => by cases hk⟩, Kept.refl _ _⟩
  | some ad =>
    simp only [Option.isNone_some] at hnil
    have hm1 : 0 + l.length ≤ maxLen := by unfold maxLen; omega
    have hm2 : (0 + l.length) * 16 ≤ 140737488355328 := by omega
    have HM1 := Lib.hid hm1; clear hm1
    have HM2 := Lib.hid hm2; clear hm2
    have HL := Lib.hid hl; clear hl
    go_enter Try.func43, Try.ntmps43
    go_wp2_with (at_builtin; refine list_append_src elemMem (.tmp 5) (.tmp 6) rfl rfl (Value.slice (some ⟨w.heap.size, 0, none⟩) 0 0) rfl (own_empty (Has.new w 86 #[]) rfl) c rfl (HL.out.kept ((Kept.refl NoF w).alloc _) (fun _ _ x => x)) (one_mcells l) HM1.out HM2.out ?_; intro A1 c1 w1 ho1 hg1 ha1; simp only [Nat.zero_add, List.nil_append] at ho1 ha1; have hk1 : Kept NoF w w1 := ((Kept.refl NoF w).alloc _).grown hg1 (fun k hk => .inr (new_row hk (Nat.le_refl _))); have HO1 := Lib.hid (And.intro ho1 (And.intro ha1 hk1)); clear ho1 hg1 ha1 hk1)
    go_ret
    refine ⟨A1, c1, by simp, ⟨HO1.out.1, fun k hk => ?_⟩, HO1.out.2.2⟩
    rcases HO1.out.2.1 with e | e
    · exact new_row (e.symm.trans hk) (Nat.le_refl _)
    · rw [hk] at e
      injection e with e
      simp at e
      omega
theorem elemPin : Elem Try.prog 33 44 3 24 := by
  obtain ⟨i0, hi, hz0, hz1, hz2⟩ := info_parts (show (Try.prog.info? 44).map (fun i => (i.zero, i.size, i.bytes)) = some (some (.agg #[.int .i64 0, .int .u64 0, .int .i64 0]), 3, 24) by kernel_rfl)
  exact ⟨Try.underlying33, ⟨i0, _, hi, hz0, hz1, hz2, rfl⟩, by decide⟩
theorem one_pcells (l : List PinR) : ∀ u ∈ pcells l, u.oneCell' = true := by
  intro u hu
  obtain ⟨x, _, hx⟩ := List.mem_flatMap.1 hu
  have h2 : u = .int .i64 x.id ∨ u = .int .u64 x.at' ∨ u = .int .i64 x.left := by simpa [pcell] using hx
  rcases h2 with rfl | rfl | rfl <;> rfl
/-- A new slice that holds these. -/
def NewPin (w : World) (l : List PinR) (e : Ending) (w' : World) : Prop :=
  ∃ A c, e = .returned (.slice A l.length c) ∧ NewSl 44 3 w.heap.size w' A l.length c (pcells l) ∧ Kept NoF w w'
set_option maxHeartbeats 1000000 in
theorem clonePin_any (w : World) (A : Option Addr) (c : Nat) (l : List PinR) (hl : Src w 3 A l.length (pcells l)) (hlen : l.length ≤ 1000000) :
    Calls Try.prog 23 #[.slice A l.length c] w (NewPin w l) := by
  have hnil : ∀ W n' c', (binOp .eql 33 (.slice A l.length c) (.slice none n' c')).run Try.prog W = .ok (.bool A.isNone) W := fun W n' c' => Lib.run_eql_slice_nil W _ _ A _ _ _ _ Try.underlying33
  cases A with
  | none =>
    have h0 : l.length = 0 := by
      rcases Nat.eq_zero_or_pos l.length with h | h
      · exact h
      · obtain ⟨ad, h1, _⟩ := hl.2 h; cases h1
    obtain rfl : l = [] := List.eq_nil_of_length_eq_zero h0
    clear h0 hl
    simp only [Option.isNone_none, List.length_nil] at hnil ⊢
    go_enter Try.func23, Try.ntmps23
    go_wp2
    go_ret
    exact ⟨none, 0, rfl, ⟨⟨rfl, .inl ⟨rfl, rfl⟩⟩, fun k hk => by cases hk⟩, Kept.refl _ _⟩
  | some ad =>
    simp only [Option.isNone_some] at hnil
    have hm1 : 0 + l.length ≤ maxLen := by unfold maxLen; omega
    have hm2 : (0 + l.length) * 24 ≤ 140737488355328 := by omega
    have HM1 := Lib.hid hm1; clear hm1
    have HM2 := Lib.hid hm2; clear hm2
    have HL := Lib.hid hl; clear hl
    go_enter Try.func23, Try.ntmps23
    go_wp2_with (at_builtin; refine list_append_src elemPin (.tmp 5) (.tmp 6) rfl rfl (Value.slice (some ⟨w.heap.size, 0, none⟩) 0 0) rfl (own_empty (Has.new w 44 #[]) rfl) c rfl (HL.out.kept ((Kept.refl NoF w).alloc _) (fun _ _ x => x)) (one_pcells l) HM1.out HM2.out ?_; intro A1 c1 w1 ho1 hg1 ha1; simp only [Nat.zero_add, List.nil_append] at ho1 ha1; have hk1 : Kept NoF w w1 := ((Kept.refl NoF w).alloc _).grown hg1 (fun k hk => .inr (new_row hk (Nat.le_refl _))); have HO1 := Lib.hid (And.intro ho1 (And.intro ha1 hk1)); clear ho1 hg1 ha1 hk1)
    go_ret
    refine ⟨A1, c1, by simp, ⟨HO1.out.1, fun k hk => ?_⟩, HO1.out.2.2⟩
    rcases HO1.out.2.1 with e | e
    · exact new_row (e.symm.trans hk) (Nat.le_refl _)
    · rw [hk] at e
      injection e with e
      simp at e
      omega
theorem whose_any (w : World) (id : Int) : Calls Try.prog 57 #[.int .i64 id] w fun e w' => e = .returned (.func (.func 78) #[] #[.pointer (some ⟨w.heap.size, 0, none⟩)]) ∧ w' = w.alloc (.cells #[.int .i64 id] 3) := by
  go_enter Try.func57, Try.ntmps57
  go_wp2
  go_ret
  exact ⟨rfl, rfl⟩
theorem whose1_any (w : World) (x : PinR) (b : Nat) (id : Int) (hb : Has w b 3 #[.int .i64 id]) :
    Calls Try.prog 78 #[pagg x, .pointer (some ⟨b, 0, none⟩)] w fun e w' => e = .returned (.bool (decide (x.id = id))) ∧ Kept NoF w w' := by
  have c0 := (hb.alloc (.cells #[.int .i64 x.id, .int .u64 x.at', .int .i64 x.left] 44)).cell 0
  simp only [List.getElem?_toArray, List.getElem?_cons_zero, List.getElem?_cons_succ] at c0
  clear hb
  go_enter Try.func78, Try.ntmps78
  go_wp2
  go_ret
  exact ⟨rfl, by (repeat' (first | with_reducible exact Kept.refl _ _ | with_reducible refine Kept.put ?_ ?_ | with_reducible refine Kept.drewN ?_ _ | with_reducible refine Kept.drew ?_ | with_reducible refine Kept.alloc ?_ _ | (fail) | (right; simp; done)))⟩
/-- The place of a pin; -1: there is none. -/
def pinAt (l : List PinR) (id : Int) : Int := idxW (fun x => decide (x.id = id)) l 0
theorem find_any (w : World) (A : Option Addr) (c : Nat) (l : List PinR) (b : Nat) (id : Int) (hb : Has w b 3 #[.int .i64 id]) (hl : Src w 3 A l.length (pcells l)) (hlen : l.length ≤ 1000000) :
    Calls Try.prog 56 #[.slice A l.length c, .func (.func 78) #[] #[.pointer (some ⟨b, 0, none⟩)]] w fun e w' => e = .returned (.tuple #[.int .i64 (pinAt l id), .bool (decide (0 ≤ pinAt l id))]) ∧ Kept NoF w w' := by
  have h := idxPin_any w A c l 78 (.pointer (some ⟨b, 0, none⟩)) (fun x => decide (x.id = id)) (fun args W => enters Try.func78 (by kernel_rfl) rfl args W) hl hlen (fun W x hW _ => whose1_any W x b id (hb.kept hW (fun z => z)))
  have hr : idxW (fun x => decide (x.id = id)) l 0 = pinAt l id := rfl
  rw [hr] at h
  obtain ⟨r, hr⟩ : ∃ r, pinAt l id = r := ⟨_, rfl⟩
  rw [hr] at h ⊢
  have H := Lib.hid h; clear h hr hl hb
  go_enter Try.func56, Try.ntmps56
  go_wp2_with fail
  refine H.out.mono ?_
  rintro e w2 ⟨rfl, hk⟩
  have HK := Lib.hid hk; clear hk
  go_wp2
  go_ret2
  exact ⟨by simp, HK.out⟩
end Mst
end Go.Proofs.Ytolipnnjeehnfaa
