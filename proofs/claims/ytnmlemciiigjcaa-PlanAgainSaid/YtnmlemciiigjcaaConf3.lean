/- The document's order: who is a member then; how many are trusted. -/
import Derived.Test.YtnmlemciiigjcaaConf2
set_option linter.unusedSimpArgs false
set_option linter.unusedVariables false
namespace Go.Proofs.Ytnmlemciiigjcaa
open Go.RowKit
set_option maxRecDepth 100000
namespace Plan
/-- A row of members of the call's own: nothing of it lies below b. -/
def NewRow (b : Nat) (w : World) (A : Option Addr) (n c : Nat) (l : List Mem) : Prop :=
  n = l.length ∧ w.ownsRow 0 77 2 (.slice A n c) n (mcells l) ∧ ∀ k, (Value.slice A n c).ownBlock = some k → b ≤ k
theorem NewRow.nil (b : Nat) (w : World) : NewRow b w none 0 0 [] := ⟨rfl, ⟨rfl, .inl ⟨rfl, rfl⟩⟩, fun k hk => by cases hk⟩
theorem NewRow.kept {b : Nat} {w w' : World} {A : Option Addr} {n c : Nat} {l : List Mem} (h : NewRow b w A n c l) (hk : Kept NoF w w') : NewRow b w' A n c l :=
  ⟨h.1, own_kept h.2.1 hk (fun _ _ x => x), h.2.2⟩
theorem NewRow.src {b : Nat} {w : World} {A : Option Addr} {n c : Nat} {l : List Mem} (h : NewRow b w A n c l) : Src w 2 A l.length (mcells l) := by
  have h1 := Src.of_own h.2.1
  rw [h.1] at h1
  exact h1
theorem NewRow.snoc {b : Nat} {w w' : World} {A A' : Option Addr} {n c c' : Nat} {l : List Mem} {m : Mem} (h : NewRow b w A n c l) (hb : b ≤ w.heap.size)
    (ho : w'.ownsRow 0 77 2 (.slice A' (n + 1) c') (n + 1) (mcells l ++ [.int .i64 m.1, .int .i64 m.2]))
    (ha : (Value.slice A' (n + 1) c').ownBlock = (Value.slice A n c).ownBlock ∨ (Value.slice A' (n + 1) c').ownBlock = some w.heap.size) : NewRow b w' A' (n + 1) c' (l ++ [m]) := by
  refine ⟨by rw [h.1]; simp, by rw [mcells_append]; exact ho, fun k hk => ?_⟩
  rcases ha with e | e
  · exact h.2.2 k (e.symm.trans hk)
  · rw [hk] at e
    injection e with e
    omega
theorem filter_snoc {l : List Mem} {i : Nat} {m : Mem} (p : Mem → Bool) (h : l[i]? = some m) : (l.take (i + 1)).filter p = (l.take i).filter p ++ if p m = true then [m] else [] := by
  rw [take_snoc h, List.filter_append]
  by_cases hp : p m = true <;> simp [hp]
theorem filter_yes {l : List Mem} {i : Nat} {m : Mem} {p : Mem → Bool} (h : l[i]? = some m) (hp : p m = true) : (l.take (i + 1)).filter p = (l.take i).filter p ++ [m] := by rw [filter_snoc p h, if_pos hp]
theorem filter_no {l : List Mem} {i : Nat} {m : Mem} {p : Mem → Bool} (h : l[i]? = some m) (hp : p m = false) : (l.take (i + 1)).filter p = (l.take i).filter p := by rw [filter_snoc p h, if_neg (by rw [hp]; decide), List.append_nil]
theorem isFirst_eq (g t : List Int) (m : Mem) : isFirst g t m = (!inB g m.1 && inB t m.1) := rfl
theorem isRest_eq (g t : List Int) (m : Mem) : isRest g t m = (!inB g m.1 && !inB t m.1) := rfl
theorem rcheck_one (w : World) (m : Mem) (g : Nat) (c : Nat) (h : Has w g 77 #[.int .i64 m.1, .int .i64 m.2]) :
    Calls Try.prog 42 #[.agg #[.int .i64 1, .slice (some ⟨g, 0, none⟩) 1 c, .int .u64 0]] w fun e w' => e = .returned (.int .i64 (chk 1 [m])) ∧ Kept NoF w w' :=
  rcheck_any w 1 0 (some ⟨g, 0, none⟩) c [m] (Src.of_has (m := 1) h rfl) (by simp)
theorem joinAll_drop (l j : List Mem) (i : Nat) : joinAll l j = joinAll (joinAll l (j.take i)) (j.drop i) := by
  unfold joinAll
  rw [← List.foldl_append, List.take_append_drop]

def OrderPost (w : World) (l : List Mem) (t g : List Int) (j : List Mem) (e : Ending) (w' : World) : Prop :=
  ∃ O n oc, e = .returned (.tuple #[.slice O n oc, .int .i64 (firsts l t g).length]) ∧ NewRow w.heap.size w' O n oc (allOf l t g j) ∧ Kept NoF w w'

set_option maxHeartbeats 8000000 in
theorem order_any (w : World) (ep fl : Int) (A0 A1 A2 A3 : Option Addr) (c0 c1 c2 c3 : Nat) (l j : List Mem) (t g : List Int) (hl : Src w 2 A0 l.length (mcells l)) (ht : Src w 1 A1 t.length (ints t)) (hg : Src w 1 A2 g.length (ints g)) (hj : Src w 2 A3 j.length (mcells j))
    (hll : l.length ≤ 1000) (htl : t.length ≤ 1000) (hgl : g.length ≤ 1000) (hjl : j.length ≤ 1000) :
    Calls Try.prog 86 #[cagg ep A0 l.length c0 fl, .slice A1 t.length c1, .slice A2 g.length c2, .slice A3 j.length c3] w (OrderPost w l t g j) := by
  have HL := Lib.hid hl; clear hl
  have HT := Lib.hid ht; clear ht
  have HG := Lib.hid hg; clear hg
  have HJ := Lib.hid hj; clear hj
  have HN0 := Lib.hid (Has.new w 63 #[.int .i64 ep, .slice A0 l.length c0, .int .u64 fl])
  go_enter Try.func86, Try.ntmps86
  go_wp2_with fail
  go_loopw [10, 11] (fun v10 v11 wr => ∃ (i : Nat) (O : Option Addr) (n oc : Nat), i ≤ l.length ∧ v11 = .int .i64 i ∧ v10 = .slice O n oc ∧ NewRow w.heap.size wr O n oc ((l.take (i)).filter (isFirst g t)) ∧ Has wr w.heap.size 63 #[.int .i64 ep, .slice A0 l.length c0, .int .u64 fl] ∧ Kept NoF w wr) (fun _ v11 _ => l.length - (intOf v11).toNat)
  case atStart => exact ⟨0, none, 0, 0, Nat.zero_le _, rfl, rfl, NewRow.nil _ _, HN0.out, (Kept.refl _ _).alloc _⟩
  case round =>
    obtain ⟨i, O, n, oc, hi, rfl, rfl, hrow, hh, hk⟩ := hrel
    have hsz := hk.size
    have e1 : wr.cell? ⟨w.heap.size, 1, none⟩ = some (.slice A0 l.length c0) := hh.cell 1
    have hlenX : n ≤ 2000 := by have h0 := hrow.1; have := List.length_filter_le (isFirst g t) (l.take i); have := List.length_filter_le (isFirst g t) l; have := List.length_take_le i l; (try simp only [List.length_append, firsts] at h0); omega
    have HROW := Lib.hid hrow; clear hrow
    have HH := Lib.hid hh; clear hh
    have HK := Lib.hid hk; clear hk
    by_cases hil : i < l.length
    · obtain ⟨m, hm⟩ : ∃ m, l[i]? = some m := ⟨_, List.getElem?_eq_getElem hil⟩
      obtain ⟨ad, hA, had, d0, d1⟩ := mem_cells (HL.out.kept HK.out (fun _ _ x => x)) (by omega) i m hm
      subst hA
      have hi1 := fun W (hW : Kept NoF w W) => in_any W A2 c2 g m.1 (HG.out.kept hW (fun _ _ x => x)) (by omega)
      have hi2 := fun W (hW : Kept NoF w W) => in_any W A1 c1 t m.1 (HT.out.kept hW (fun _ _ x => x)) (by omega)
      have hf := isFirst_eq g t m
      obtain ⟨bg, hbg⟩ : ∃ b, inB g m.1 = b := ⟨_, rfl⟩
      obtain ⟨bt, hbt⟩ : ∃ b, inB t m.1 = b := ⟨_, rfl⟩
      rw [hbg] at hi1 hf
      rw [hbt] at hi2 hf
      clear hbg hbt
      have HI1 := Lib.hid hi1; clear hi1
      have HI2 := Lib.hid hi2; clear hi2
      have HM := Lib.hid hm; clear hm
      have HF := Lib.hid hf; clear hf
      have HMM := Lib.hid (show (m.1, m.2) = m from rfl)
      obtain ⟨m1, m2⟩ := m
      dsimp only at d0 d1 HI1 HI2 HF HMM
      have hS : Hid (n + 1 ≤ maxLen) := Lib.hid (by unfold maxLen; omega)
      have hS2 : Hid ((n + 1) * 16 ≤ 140737488355328) := Lib.hid (by omega)
      obtain ⟨wo, hwo⟩ : ∃ wo : World, wo = wr := ⟨_, rfl⟩
      subst hwo
      have HN := Lib.hid (Has.new wo 77 #[.int .i64 m1, .int .i64 m2])
      cases bg
      · cases bt
        · go_wp2_with fail
          refine (HI1.out _ (HK.out.alloc _)).mono ?_
          rintro e w2 ⟨rfl, rfl⟩
          go_wp2_with fail
          refine (HI2.out _ (HK.out.alloc _)).mono ?_
          rintro e w2 ⟨rfl, rfl⟩
          have hfn := filter_no (p := isFirst g t) HM.out HF.out
          have HFN := Lib.hid hfn; clear hfn
          go_wp2
          go_roundw
          case rel => exact ⟨i + 1, O, n, oc, by omega, by go_num, rfl, by rw [HFN.out]; exact HROW.out.kept ((Kept.refl _ _).alloc _), HH.out.alloc _, HK.out.alloc _⟩
          case measure => simp [intOf]; omega
        · go_wp2_with fail
          refine (HI1.out _ (HK.out.alloc _)).mono ?_
          rintro e w2 ⟨rfl, rfl⟩
          go_wp2_with fail
          refine (HI2.out _ (HK.out.alloc _)).mono ?_
          rintro e w2 ⟨rfl, rfl⟩
          have hfy := filter_yes (p := isFirst g t) HM.out HF.out
          have HFY := Lib.hid hfy; clear hfy
          go_wp2_with (at_builtin; refine list_append_src elemMem (.tmp 41) (.tmp 43) rfl rfl (Value.slice O n oc) rfl ((HROW.out.kept (((Kept.refl _ _).alloc _).alloc _)).2.1) 1 rfl (Src.of_has (m := 1) (cs := #[.int .i64 m1, .int .i64 m2]) (Has.new_at _ 77 _ (by simp)) rfl) (by intro u hu; simp at hu; rcases hu with rfl | rfl <;> rfl) hS.out hS2.out ?_; intro O3 oc3 w9 ho3 hg3 ha3)
          have hn3 : NewRow w.heap.size w9 O3 (n + 1) oc3 ((l.take (i)).filter (isFirst g t) ++ [(m1, m2)]) := (HROW.out.kept (((Kept.refl _ _).alloc _).alloc _)).snoc (by simp; omega) ho3 ha3
          have hk9 : Kept NoF w w9 := ((HK.out.alloc _).alloc _).grown hg3 (fun k hk => .inr (HROW.out.2.2 k hk))
          have hh9 : Has w9 w.heap.size 63 #[.int .i64 ep, .slice (some ad) l.length c0, .int .u64 fl] := ((HH.out.alloc _).alloc _).grown hg3 (own_ne HROW.out.2.1 HH.out (by decide))
          have he3 : (l.take (i)).filter (isFirst g t) ++ [(m1, m2)] = (l.take (i + 1)).filter (isFirst g t) := by rw [HFY.out]
          rw [he3] at hn3
          clear ho3 hg3 ha3 he3
          have HN3 := Lib.hid hn3; clear hn3
          have HK9 := Lib.hid hk9; clear hk9
          have HH9 := Lib.hid hh9; clear hh9
          go_wp2
          go_roundw
          case rel => exact ⟨i + 1, O3, n + 1, oc3, by omega, by go_num, rfl, HN3.out, HH9.out, HK9.out⟩
          case measure => simp [intOf]; omega
      · go_wp2_with fail
        refine (HI1.out _ (HK.out.alloc _)).mono ?_
        rintro e w2 ⟨rfl, rfl⟩
        have hfn := filter_no (p := isFirst g t) HM.out HF.out
        have HFN := Lib.hid hfn; clear hfn
        go_wp2
        go_roundw
        case rel => exact ⟨i + 1, O, n, oc, by omega, by go_num, rfl, by rw [HFN.out]; exact HROW.out.kept ((Kept.refl _ _).alloc _), HH.out.alloc _, HK.out.alloc _⟩
        case measure => simp [intOf]; omega
    · obtain rfl : i = l.length := by omega
      have hrow1 := HROW.out
      have hX : (l.take l.length).filter (isFirst g t) = firsts l t g := by rw [List.take_length]; rfl
      rw [hX] at hrow1
      clear hX HROW
      have HN1 := Lib.hid hrow1.1
      have HROW := Lib.hid hrow1; clear hrow1
      obtain ⟨n1, hn1⟩ : ∃ n1, n1 = n := ⟨_, rfl⟩
      subst hn1
      go_wp2_with fail
      go_loopw [10, 14] (fun v10 v14 wr => ∃ (i : Nat) (O : Option Addr) (n oc : Nat), i ≤ l.length ∧ v14 = .int .i64 i ∧ v10 = .slice O n oc ∧ NewRow w.heap.size wr O n oc (firsts l t g ++ (l.take (i)).filter (isRest g t)) ∧ Has wr w.heap.size 63 #[.int .i64 ep, .slice A0 l.length c0, .int .u64 fl] ∧ Kept NoF w wr) (fun _ v14 _ => l.length - (intOf v14).toNat)
      case atStart => exact ⟨0, O, n1, oc, Nat.zero_le _, rfl, rfl, by simpa using HROW.out, HH.out, HK.out⟩
      case round =>
        obtain ⟨i, O, n, oc, hi, rfl, rfl, hrow, hh, hk⟩ := hrel
        have hsz := hk.size
        have e1 : wr.cell? ⟨w.heap.size, 1, none⟩ = some (.slice A0 l.length c0) := hh.cell 1
        have hlenX : n ≤ 2000 := by have h0 := hrow.1; have := List.length_filter_le (isRest g t) (l.take i); have := List.length_filter_le (isFirst g t) l; have := List.length_take_le i l; (try simp only [List.length_append, firsts] at h0); omega
        have HROW := Lib.hid hrow; clear hrow
        have HH := Lib.hid hh; clear hh
        have HK := Lib.hid hk; clear hk
        by_cases hil : i < l.length
        · obtain ⟨m, hm⟩ : ∃ m, l[i]? = some m := ⟨_, List.getElem?_eq_getElem hil⟩
          obtain ⟨ad, hA, had, d0, d1⟩ := mem_cells (HL.out.kept HK.out (fun _ _ x => x)) (by omega) i m hm
          subst hA
          have hi1 := fun W (hW : Kept NoF w W) => in_any W A2 c2 g m.1 (HG.out.kept hW (fun _ _ x => x)) (by omega)
          have hi2 := fun W (hW : Kept NoF w W) => in_any W A1 c1 t m.1 (HT.out.kept hW (fun _ _ x => x)) (by omega)
          have hf := isRest_eq g t m
          obtain ⟨bg, hbg⟩ : ∃ b, inB g m.1 = b := ⟨_, rfl⟩
          obtain ⟨bt, hbt⟩ : ∃ b, inB t m.1 = b := ⟨_, rfl⟩
          rw [hbg] at hi1 hf
          rw [hbt] at hi2 hf
          clear hbg hbt
          have HI1 := Lib.hid hi1; clear hi1
          have HI2 := Lib.hid hi2; clear hi2
          have HM := Lib.hid hm; clear hm
          have HF := Lib.hid hf; clear hf
          have HMM := Lib.hid (show (m.1, m.2) = m from rfl)
          obtain ⟨m1, m2⟩ := m
          dsimp only at d0 d1 HI1 HI2 HF HMM
          have hS : Hid (n + 1 ≤ maxLen) := Lib.hid (by unfold maxLen; omega)
          have hS2 : Hid ((n + 1) * 16 ≤ 140737488355328) := Lib.hid (by omega)
          obtain ⟨wo, hwo⟩ : ∃ wo : World, wo = wr := ⟨_, rfl⟩
          subst hwo
          have HN := Lib.hid (Has.new wo 77 #[.int .i64 m1, .int .i64 m2])
          cases bg
          · cases bt
            · go_wp2_with fail
              refine (HI1.out _ (HK.out.alloc _)).mono ?_
              rintro e w2 ⟨rfl, rfl⟩
              go_wp2_with fail
              refine (HI2.out _ (HK.out.alloc _)).mono ?_
              rintro e w2 ⟨rfl, rfl⟩
              have hfy := filter_yes (p := isRest g t) HM.out HF.out
              have HFY := Lib.hid hfy; clear hfy
              go_wp2_with (at_builtin; refine list_append_src elemMem (.tmp 71) (.tmp 73) rfl rfl (Value.slice O n oc) rfl ((HROW.out.kept (((Kept.refl _ _).alloc _).alloc _)).2.1) 1 rfl (Src.of_has (m := 1) (cs := #[.int .i64 m1, .int .i64 m2]) (Has.new_at _ 77 _ (by simp)) rfl) (by intro u hu; simp at hu; rcases hu with rfl | rfl <;> rfl) hS.out hS2.out ?_; intro O3 oc3 w9 ho3 hg3 ha3)
              have hn3 : NewRow w.heap.size w9 O3 (n + 1) oc3 (firsts l t g ++ (l.take (i)).filter (isRest g t) ++ [(m1, m2)]) := (HROW.out.kept (((Kept.refl _ _).alloc _).alloc _)).snoc (by simp; omega) ho3 ha3
              have hk9 : Kept NoF w w9 := ((HK.out.alloc _).alloc _).grown hg3 (fun k hk => .inr (HROW.out.2.2 k hk))
              have hh9 : Has w9 w.heap.size 63 #[.int .i64 ep, .slice (some ad) l.length c0, .int .u64 fl] := ((HH.out.alloc _).alloc _).grown hg3 (own_ne HROW.out.2.1 HH.out (by decide))
              have he3 : firsts l t g ++ (l.take (i)).filter (isRest g t) ++ [(m1, m2)] = firsts l t g ++ (l.take (i + 1)).filter (isRest g t) := by rw [HFY.out]; simp
              rw [he3] at hn3
              clear ho3 hg3 ha3 he3
              have HN3 := Lib.hid hn3; clear hn3
              have HK9 := Lib.hid hk9; clear hk9
              have HH9 := Lib.hid hh9; clear hh9
              go_wp2
              go_roundw
              case rel => exact ⟨i + 1, O3, n + 1, oc3, by omega, by go_num, rfl, HN3.out, HH9.out, HK9.out⟩
              case measure => simp [intOf]; omega
            · go_wp2_with fail
              refine (HI1.out _ (HK.out.alloc _)).mono ?_
              rintro e w2 ⟨rfl, rfl⟩
              go_wp2_with fail
              refine (HI2.out _ (HK.out.alloc _)).mono ?_
              rintro e w2 ⟨rfl, rfl⟩
              have hfn := filter_no (p := isRest g t) HM.out HF.out
              have HFN := Lib.hid hfn; clear hfn
              go_wp2
              go_roundw
              case rel => exact ⟨i + 1, O, n, oc, by omega, by go_num, rfl, by rw [HFN.out]; exact HROW.out.kept ((Kept.refl _ _).alloc _), HH.out.alloc _, HK.out.alloc _⟩
              case measure => simp [intOf]; omega
          · go_wp2_with fail
            refine (HI1.out _ (HK.out.alloc _)).mono ?_
            rintro e w2 ⟨rfl, rfl⟩
            have hfn := filter_no (p := isRest g t) HM.out HF.out
            have HFN := Lib.hid hfn; clear hfn
            go_wp2
            go_roundw
            case rel => exact ⟨i + 1, O, n, oc, by omega, by go_num, rfl, by rw [HFN.out]; exact HROW.out.kept ((Kept.refl _ _).alloc _), HH.out.alloc _, HK.out.alloc _⟩
            case measure => simp [intOf]; omega
        · obtain rfl : i = l.length := by omega
          have hrow1 := HROW.out
          have hX : firsts l t g ++ (l.take l.length).filter (isRest g t) = firsts l t g ++ rests l t g := by rw [List.take_length]; rfl
          rw [hX] at hrow1
          clear hX HROW
          have HROW := Lib.hid hrow1; clear hrow1
          obtain ⟨X, hX⟩ : ∃ X, firsts l t g ++ rests l t g = X := ⟨_, rfl⟩
          have hall : allOf l t g j = joinAll X j := by unfold allOf; rw [hX]
          rw [hX] at HROW
          have HALL := Lib.hid hall; clear hall hX
          have hXl : X.length ≤ 2000 := by
            have h0 := HROW.out.1
            rw [← h0]
            exact hlenX
          have hjoinlen : ∀ i, (joinAll X (j.take i)).length ≤ 3000 := by
            intro i
            obtain ⟨r, hr, _⟩ := joinAll_prefix (j.take i) X
            have h1 : ∀ (a : List Mem) (b : List Mem), (joinAll b a).length ≤ b.length + a.length := by
              intro a
              induction a with
              | nil => intro b; simp [joinAll]
              | cons x a ih =>
                intro b
                have h2 := ih (joinOne b x)
                have h3 : (joinOne b x).length ≤ b.length + 1 := by unfold joinOne; split <;> simp
                have h4 : joinAll b (x :: a) = joinAll (joinOne b x) a := rfl
                rw [h4, List.length_cons]
                omega
            have h2 := h1 (j.take i) X
            have h3 := List.length_take_le' i j
            exact Nat.le_trans h2 (by clear h1; omega)
          have HJL := Lib.hid hjoinlen; clear hjoinlen
          obtain ⟨we, hwe⟩ : ∃ we : World, we = wr := ⟨_, rfl⟩
          subst hwe
          go_wp2_with fail
          go_loopw [10, 16] (fun v10 v16 wr => ∃ (i : Nat) (O : Option Addr) (n oc : Nat), i ≤ j.length ∧ v16 = .int .i64 i ∧ v10 = .slice O n oc ∧ NewRow w.heap.size wr O n oc (joinAll X (j.take i)) ∧ Kept NoF w wr) (fun _ v16 _ => j.length - (intOf v16).toNat)
          case atStart => exact ⟨0, O, n, oc, Nat.zero_le _, rfl, rfl, HROW.out, HK.out⟩
          case round =>
            obtain ⟨i, O, n, oc, hi, rfl, rfl, hrow, hk⟩ := hrel
            have hsz := hk.size
            have hlenY := HJL.out i
            have HROW' := Lib.hid hrow; clear hrow
            have HK' := Lib.hid hk; clear hk
            obtain ⟨Y, hY⟩ : ∃ Y, joinAll X (j.take i) = Y := ⟨_, rfl⟩
            rw [hY] at HROW' hlenY
            have HY := Lib.hid hY; clear hY
            have hnY := HROW'.out.1
            rw [← hnY] at hlenY
            have HNY := Lib.hid hnY
            by_cases hlt : i < j.length ∧ n < 4
            · obtain ⟨hil, hY4⟩ := hlt
              have hY4' : (n : Int) < 4 := by omega
              have hY5 : Y.length < 4 := by omega
              obtain ⟨m, hm⟩ : ∃ m, j[i]? = some m := ⟨_, List.getElem?_eq_getElem hil⟩
              obtain ⟨ad, hA, had, d0, d1⟩ := mem_cells (HJ.out.kept HK'.out (fun _ _ x => x)) (by omega) i m hm
              subst hA
              have hi1 := fun W (hW : Kept NoF wr W) => by have := has_any W O oc Y m.1 ((HROW'.out.kept hW).src) (by omega); rw [← hnY] at this; exact this
              have hi2 := fun W g c h => rcheck_one W m g c h
              have hjs : joinAll X (j.take (i + 1)) = joinOne Y m := by rw [take_snoc hm, joinAll_snoc, HY.out]
              have hjo : joinOne Y m = if chk 1 [m] = 0 ∧ anyId Y m.1 = false then Y ++ [m] else Y := by
                unfold joinOne
                have : (Y.any fun x => decide (x.1 = m.1)) = anyId Y m.1 := rfl
                rw [this]
                by_cases h : chk 1 [m] = 0 ∧ anyId Y m.1 = false
                · rw [if_pos h, if_pos ⟨hY5, h⟩]
                · rw [if_neg h, if_neg (fun x => h x.2)]
              rw [hjo] at hjs
              clear hjo hm hY5 hnY
              obtain ⟨bg, hbg⟩ : ∃ b, anyId Y m.1 = b := ⟨_, rfl⟩
              obtain ⟨ck, hck⟩ : ∃ ck, chk 1 [m] = ck := ⟨_, rfl⟩
              rw [hbg] at hi1 hjs
              rw [hck] at hi2 hjs
              clear hbg hck
              have HI1 := Lib.hid hi1; clear hi1
              have HI2 := Lib.hid hi2; clear hi2
              obtain ⟨m1, m2⟩ := m
              dsimp only at d0 d1 HI1 HI2
              have hS : Hid (n + 1 ≤ maxLen) := Lib.hid (by unfold maxLen; omega)
              have hS2 : Hid ((n + 1) * 16 ≤ 140737488355328) := Lib.hid (by omega)
              obtain ⟨wo, hwo⟩ : ∃ wo : World, wo = wr := ⟨_, rfl⟩
              subst hwo
              cases bg
              · by_cases hc0 : ck = 0
                · subst hc0
                  rw [if_pos ⟨rfl, rfl⟩] at hjs
                  have HJS := Lib.hid hjs; clear hjs
                  go_wp2_with fail
                  refine (HI1.out _ ((Kept.refl _ _).alloc _)).mono ?_
                  rintro e w2 ⟨rfl, rfl⟩
                  have hnb := (Has.new wo 77 #[.int .i64 m1, .int .i64 m2])
                  have HNB := Lib.hid hnb; clear hnb
                  have hcz := fun o => Has.cell (HNB.out.alloc o) 0
                  have hcz1 := fun o => Has.cell (HNB.out.alloc o) 1
                  go_wp2_with fail
                  refine (HI2.out _ _ _ (Has.new_at _ _ _ (by simp))).mono ?_
                  rintro e w3 ⟨rfl, hk3⟩
                  have hz3 := hk3.size
                  have hh3 := (HNB.out.alloc _).kept hk3 (fun x => x)
                  have f0 : w3.cell? ⟨wo.heap.size, 0, none⟩ = some (.int .i64 m1) := hh3.cell 0
                  have f1 : w3.cell? ⟨wo.heap.size, 1, none⟩ = some (.int .i64 m2) := hh3.cell 1
                  have hr3 := HROW'.out.kept ((((Kept.refl _ _).alloc _).alloc _).then hk3)
                  have hkw3 := ((HK'.out.alloc _).alloc _).then hk3
                  clear hh3 hcz hcz1
                  have HR3 := Lib.hid hr3; clear hr3
                  have HK3 := Lib.hid hkw3; clear hkw3 hk3
                  go_wp2_with (at_builtin; refine list_append_src elemMem (.tmp 102) (.tmp 104) rfl rfl (Value.slice O n oc) rfl ((HR3.out.kept ((Kept.refl _ _).alloc _)).2.1) 1 rfl (Src.of_has (m := 1) (cs := #[.int .i64 m1, .int .i64 m2]) (Has.new_at _ 77 _ (by simp)) rfl) (by intro u hu; simp at hu; rcases hu with rfl | rfl <;> rfl) hS.out hS2.out ?_; intro O3 oc3 w9 ho3 hg3 ha3)
                  have hz9 := HK3.out.size
                  have hn3 : NewRow w.heap.size w9 O3 (n + 1) oc3 (Y ++ [(m1, m2)]) := (HR3.out.kept ((Kept.refl _ _).alloc _)).snoc (by simp; omega) ho3 ha3
                  have hk9 : Kept NoF w w9 := (HK3.out.alloc _).grown hg3 (fun k hk => .inr (HR3.out.2.2 k hk))
                  rw [← HJS.out] at hn3
                  clear ho3 hg3 ha3
                  have HN3 := Lib.hid hn3; clear hn3
                  have HK9 := Lib.hid hk9; clear hk9
                  go_wp2
                  go_roundw
                  case rel => exact ⟨i + 1, O3, n + 1, oc3, by omega, by go_num, rfl, HN3.out, HK9.out⟩
                  case measure => simp [intOf]; omega
                · rw [if_neg (fun h => hc0 h.1)] at hjs
                  have HJS := Lib.hid hjs; clear hjs
                  have hcb : (ck == 0) = false := by simpa using hc0
                  clear hc0
                  go_wp2_with fail
                  refine (HI1.out _ ((Kept.refl _ _).alloc _)).mono ?_
                  rintro e w2 ⟨rfl, rfl⟩
                  have hnb := (Has.new wo 77 #[.int .i64 m1, .int .i64 m2])
                  have HNB := Lib.hid hnb; clear hnb
                  go_wp2_with fail
                  refine (HI2.out _ _ _ (Has.new_at _ _ _ (by simp))).mono ?_
                  rintro e w3 ⟨rfl, hk3⟩
                  have hr3 := HROW'.out.kept ((((Kept.refl _ _).alloc _).alloc _).then hk3)
                  have hkw3 := ((HK'.out.alloc _).alloc _).then hk3
                  have HR3 := Lib.hid hr3; clear hr3
                  have HK3 := Lib.hid hkw3; clear hkw3 hk3
                  go_wp2
                  go_roundw
                  case rel => exact ⟨i + 1, O, n, oc, by omega, by go_num, rfl, by rw [HJS.out]; exact HR3.out, HK3.out⟩
                  case measure => simp [intOf]; omega
              · rw [if_neg (fun h => by cases h.2)] at hjs
                have HJS := Lib.hid hjs; clear hjs
                go_wp2_with fail
                refine (HI1.out _ ((Kept.refl _ _).alloc _)).mono ?_
                rintro e w2 ⟨rfl, rfl⟩
                go_wp2
                go_roundw
                case rel => exact ⟨i + 1, O, n, oc, by omega, by go_num, rfl, by rw [HJS.out]; exact HROW'.out.kept ((Kept.refl _ _).alloc _), HK'.out.alloc _⟩
                case measure => simp [intOf]; omega
            · have hfin : joinAll X j = Y := by
                by_cases hil : i < j.length
                · rw [joinAll_drop X j i, HY.out, joinAll_full (by omega)]
                · have := HY.out
                  rwa [List.take_of_length_le (by omega)] at this
              have HFIN := Lib.hid hfin; clear hfin
              have hx : (i < j.length ∧ 4 ≤ n) ∨ j.length ≤ i := by omega
              clear hlt hnY
              rcases hx with ⟨hx1, hx2⟩ | hx1
              · have hx2' : ¬ (n : Int) < 4 := by omega
                go_wp2
                go_ret2
                exact ⟨O, n, oc, by rw [← HN1.out]; rfl, by rw [HALL.out, HFIN.out]; exact HROW'.out, HK'.out⟩
              · go_wp2
                go_ret2
                exact ⟨O, n, oc, by rw [← HN1.out]; rfl, by rw [HALL.out, HFIN.out]; exact HROW'.out, HK'.out⟩
end Plan
end Go.Proofs.Ytnmlemciiigjcaa
