
/- The program's Next: slices.Concat, slices.Sort, the whole. -/
import Derived.Test.YtffnaabnbimhbaaPlan3
set_option linter.unusedSimpArgs false
set_option linter.unusedVariables false
namespace Go.Proofs.Ytffnaabnbimhbaa
open Go.RowKit Go.Shelf Go.Maps
set_option maxRecDepth 100000
namespace Plan
theorem NewRow.cat {b : Nat} {w w' : World} {A A' : Option Addr} {n c c' m : Nat} {l l2 : List Mem} (h : NewRow b w A n c l) (hb : b ≤ w.heap.size) (hm : m = l2.length)
    (ho : w'.ownsRow 0 58 2 (.slice A' (n + m) c') (n + m) (mcells l ++ mcells l2))
    (ha : (Value.slice A' (n + m) c').ownBlock = (Value.slice A n c).ownBlock ∨ (Value.slice A' (n + m) c').ownBlock = some w.heap.size) : NewRow b w' A' (n + m) c' (l ++ l2) := by
  refine ⟨by rw [h.1, hm]; simp, by rw [mcells_append]; exact ho, fun k hk => ?_⟩
  rcases ha with e | e
  · exact h.2.2 k (e.symm.trans hk)
  · rw [hk] at e
    injection e with e
    omega

set_option maxHeartbeats 2000000 in
theorem concat_any (w : World) (x : Nat) (A B : Option Addr) (n c m d : Nat) (l l2 : List Mem) (hx : Has w x 22 #[.slice A n c, .slice B m d]) (hn : n = l.length) (hm : m = l2.length) (hl : Src w 2 A l.length (mcells l)) (hl2 : Src w 2 B l2.length (mcells l2))
    (hpos : 0 < n) (hle : n + m ≤ 5000) :
    Calls Try.prog 21 #[.slice (some ⟨x, 0, none⟩) 2 2] w fun e w' => (∃ O k oc, e = .returned (.slice O k oc) ∧ NewRow w.heap.size w' O k oc (l ++ l2)) ∧ Kept NoF w w' := by
  rw [← hn] at hl
  rw [← hm] at hl2
  have x0 : w.cell? ⟨x, 0, none⟩ = some (.slice A n c) := hx.cell 0
  have x1 : w.cell? ⟨x, 1, none⟩ = some (.slice B m d) := hx.cell 1
  have HX := Lib.hid hx; clear hx
  have HL := Lib.hid hl; clear hl
  have HL2 := Lib.hid hl2; clear hl2
  have HN := Lib.hid hn; clear hn
  have HM := Lib.hid hm; clear hm
  go_enter Try.func21, Try.ntmps21
  go_wp2_with fail
  go_loopg [3, 5, 11] 3 (fun gg v3 _ v11 wr => w = wr ∧ ((v11 = .int .i64 0 ∧ v3 = .int .i64 0 ∧ 2 ≤ gg) ∨ (v11 = .int .i64 1 ∧ v3 = .int .i64 n ∧ 1 ≤ gg) ∨ (v11 = .int .i64 2 ∧ v3 = .int .i64 (n + m : Nat))))
  case atStart => exact ⟨rfl, .inl ⟨rfl, rfl, by decide⟩⟩
  case round =>
    obtain ⟨rfl, ⟨rfl, rfl, hg⟩ | ⟨rfl, rfl, hg⟩ | ⟨rfl, rfl⟩⟩ := hrel
    · go_wp2
      go_roundg 1
      case measure => omega
      case rel => exact ⟨rfl, .inr (.inl ⟨rfl, rfl, by decide⟩)⟩
    · go_wp2
      go_roundg 0
      case measure => omega
      case rel => exact ⟨rfl, .inr (.inr ⟨rfl, by go_num⟩)⟩
    · go_wp2_with fail
      refine (grow_any _ (n + m) (by omega) (by omega)).mono ?_
      rintro e w2 ⟨⟨O, oc, rfl, hrow⟩, hk⟩
      have hx2 := HX.out.kept hk (fun x => x)
      have HX2 := Lib.hid hx2; clear hx2
      have HROW := Lib.hid hrow; clear hrow
      have HK := Lib.hid hk; clear hk
      clear x0 x1
      have hS1 : Hid (0 + n ≤ maxLen) := Lib.hid (by unfold maxLen; omega)
      have hS2 : Hid ((0 + n) * 16 ≤ 140737488355328) := Lib.hid (by omega)
      have hS3 : Hid (n + m ≤ maxLen) := Lib.hid (by unfold maxLen; omega)
      have hS4 : Hid ((n + m) * 16 ≤ 140737488355328) := Lib.hid (by omega)
      go_wp2_with fail
      go_loopg [6, 27] 3 (fun gg v6 v27 wr => ∃ (O : Option Addr) (k oc : Nat), v6 = .slice O k oc ∧ Kept NoF w wr ∧ ((v27 = .int .i64 0 ∧ k = 0 ∧ NewRow w.heap.size wr O k oc [] ∧ 2 ≤ gg) ∨ (v27 = .int .i64 1 ∧ k = n ∧ NewRow w.heap.size wr O k oc l ∧ 1 ≤ gg) ∨ (v27 = .int .i64 2 ∧ NewRow w.heap.size wr O k oc (l ++ l2))))
      case atStart => exact ⟨O, 0, oc, rfl, HK.out, .inl ⟨rfl, rfl, HROW.out, by decide⟩⟩
      case round =>
        obtain ⟨O, k, oc, rfl, hk, ⟨rfl, rfl, hrow, hg⟩ | ⟨rfl, rfl, hrow, hg⟩ | ⟨rfl, hrow⟩⟩ := hrel
        · have hx3 := HX.out.kept hk (fun x => x)
          have x0 : wr.cell? ⟨x, 0, none⟩ = some (.slice A n c) := hx3.cell 0
          have HROW3 := Lib.hid hrow; clear hrow
          have HK3 := Lib.hid hk; clear hk hx3
          go_wp2_with (at_builtin; refine list_append_src elemMem (.tmp 31) (.tmp 32) rfl rfl (Value.slice O 0 oc) rfl HROW3.out.2.1 c rfl (HL.out.kept HK3.out (fun _ _ x => x)) (mem_one l) hS1.out hS2.out ?_; intro O3 oc3 w9 ho3 hg3 ha3)
          have hz9 := HK3.out.size
          have hn3 : NewRow w.heap.size w9 O3 (0 + n) oc3 ([] ++ l) := HROW3.out.cat (by omega) HN.out (by simpa [mcells] using ho3) ha3
          have hk9 : Kept NoF w w9 := HK3.out.grown hg3 (fun k hk => .inr (HROW3.out.2.2 k hk))
          simp only [Nat.zero_add, List.nil_append] at hn3 ⊢
          clear ho3 hg3 ha3
          have HN3 := Lib.hid hn3; clear hn3
          have HK9 := Lib.hid hk9; clear hk9
          go_wp2
          go_roundg 1
          case measure => omega
          case rel => exact ⟨O3, n, oc3, rfl, HK9.out, .inr (.inl ⟨rfl, rfl, HN3.out, by decide⟩)⟩
        · have hx3 := HX.out.kept hk (fun x => x)
          have x1 : wr.cell? ⟨x, 1, none⟩ = some (.slice B m d) := hx3.cell 1
          have HROW3 := Lib.hid hrow; clear hrow
          have HK3 := Lib.hid hk; clear hk hx3
          go_wp2_with (at_builtin; refine list_append_src elemMem (.tmp 31) (.tmp 32) rfl rfl (Value.slice O k oc) rfl HROW3.out.2.1 d rfl (HL2.out.kept HK3.out (fun _ _ x => x)) (mem_one l2) hS3.out hS4.out ?_; intro O3 oc3 w9 ho3 hg3 ha3)
          have hz9 := HK3.out.size
          have hn3 : NewRow w.heap.size w9 O3 (k + m) oc3 (l ++ l2) := HROW3.out.cat (by omega) HM.out ho3 ha3
          have hk9 : Kept NoF w w9 := HK3.out.grown hg3 (fun k hk => .inr (HROW3.out.2.2 k hk))
          clear ho3 hg3 ha3
          have HN3 := Lib.hid hn3; clear hn3
          have HK9 := Lib.hid hk9; clear hk9
          go_wp2
          go_roundg 0
          case measure => omega
          case rel => exact ⟨O3, k + m, oc3, rfl, HK9.out, .inr (.inr ⟨rfl, HN3.out⟩)⟩
        · have HROW3 := Lib.hid hrow; clear hrow
          have HK3 := Lib.hid hk; clear hk
          go_wp2
          go_ret
          exact ⟨⟨O, k, oc, rfl, HROW3.out⟩, HK3.out⟩

/-- slices.Sort on a row of numbers that the call owns. -/
theorem sorti_own {w : World} {B : Nat} {A : Option Addr} {n c : Nat} {ss : List Int} (h : NewInts B w A n c ss) (hsz : ss.length < 4611686018427387904) :
    Calls Try.prog 23 #[.slice A n c] w fun e w' => e = .returned (.tuple #[]) ∧ NewInts B w' A n c (ss.mergeSort fun x y => decide (x ≤ y)) ∧ Kept (RowOf (.slice A n c)) w w' := by
  obtain ⟨rfl, h, hb⟩ := h
  have h' := h
  rcases h.2 with ⟨hv, h0⟩ | ⟨g, cap, cur, hv, hb', hg, h1, h2, h3, h4⟩
  · have hs : ss = [] := List.eq_nil_of_length_eq_zero h0
    subst hs
    refine (Srt.slices_Sort_int_none A c w).mono ?_
    rintro e w' ⟨rfl, rfl⟩
    exact ⟨rfl, ⟨by simp, by simpa using h', hb⟩, Kept.refl _ _⟩
  · injection hv with e1 e2 e3
    subst e1
    subst e3
    refine (Srt.slices_Sort_int g 0 c ss w (holds_of_blockI hg (by simpa using h4)) (Array.getElem?_eq_some_iff.1 hg).1 hsz).mono ?_
    rintro e w' ⟨rfl, n, os, rfl⟩
    exact ⟨rfl, ⟨by simp, ownsRow_sortedI (by simp) hb' hg h1 h2 h3, hb⟩, (Kept.refl _ _).grownBy (grownBy_sortedI _) (fun k hk => .inl hk)⟩
end Plan
end Go.Proofs.Ytffnaabnbimhbaa
