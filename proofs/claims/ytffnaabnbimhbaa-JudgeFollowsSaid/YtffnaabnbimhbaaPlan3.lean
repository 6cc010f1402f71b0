
/- The program's may, join; slices.Grow, Concat at members; slices.Sort at numbers. -/
import Derived.Test.YtffnaabnbimhbaaPlan2
set_option linter.unusedSimpArgs false
set_option linter.unusedVariables false
namespace Go.Proofs.Ytffnaabnbimhbaa
open Go.RowKit Go.Shelf Go.Maps
set_option maxRecDepth 100000
namespace Plan
theorem may_any (w : World) (m : Mem) :
    Calls Try.prog 34 #[magg m] w fun e w' => e = .returned (.bool (decide (chk 1 [m] = 0))) ∧ Kept NoF w w' := by
  have hck := fun (W : World) (g : Nat) (h : Has W g 58 #[.int .i64 m.1, .int .i64 m.2]) => check_any W 1 0 (some ⟨g, 0, none⟩) 1 [m] (Src.of_has (m := 1) h rfl) (by simp) (by simp) (by decide)
  obtain ⟨r, hr⟩ : ∃ r, chk 1 [m] = r := ⟨_, rfl⟩
  rw [hr] at hck ⊢
  clear hr
  have HC := Lib.hid hck; clear hck
  obtain ⟨m1, m2⟩ := m
  unfold magg
  dsimp only at HC ⊢
  by_cases hz : r = 0
  · have hb : (r == 0) = true := by simpa using hz
    have hd : decide (r = 0) = true := by simpa using hz
    rw [hd]
    clear hz hd
    go_enter Try.func34, Try.ntmps34
    go_wp2_with fail
    refine (HC.out _ _ (Has.new_at _ _ _ (by simp))).mono ?_
    rintro e w2 ⟨rfl, hk⟩
    have hk2 := (((Kept.refl NoF w).alloc _).alloc _).then hk
    have HK := Lib.hid hk2; clear hk2 hk
    go_wp2
    go_ret
    exact ⟨rfl, HK.out⟩
  · have hb : (r == 0) = false := by simpa using hz
    have hd : decide (r = 0) = false := by simpa using hz
    rw [hd]
    clear hz hd
    go_enter Try.func34, Try.ntmps34
    go_wp2_with fail
    refine (HC.out _ _ (Has.new_at _ _ _ (by simp))).mono ?_
    rintro e w2 ⟨rfl, hk⟩
    have hk2 := (((Kept.refl NoF w).alloc _).alloc _).then hk
    have HK := Lib.hid hk2; clear hk2 hk
    go_wp2
    go_ret
    exact ⟨rfl, HK.out⟩

theorem twin2_any (W : World) (B : Nat) (m x : Mem) (hB : Has W B 58 #[.int .i64 m.1, .int .i64 m.2]) :
    Calls Try.prog 33 #[magg x, .pointer (some ⟨B, 0, none⟩)] W fun e w' => e = .returned (.bool (decide (x.1 = m.1))) ∧ Kept NoF W w' := by
  have hlt := hB.lt
  have hne : B ≠ W.heap.size := by omega
  obtain ⟨x1, x2⟩ := x
  obtain ⟨m1, m2⟩ := m
  have c0 : ∀ o, (W.alloc o).cell? ⟨B, 0, none⟩ = some (.int .i64 m1) := fun o => (hB.alloc o).cell 0
  clear hB hlt
  unfold magg
  dsimp only
  go_enter Try.func33, Try.ntmps33
  go_wp2
  go_ret
  exact ⟨by by_cases h : x1 = m1 <;> simp [h], (Kept.refl _ _).alloc _⟩
theorem join_eg : ∀ args w, (callFunc 33 args).run Try.prog w = .ok (.enter 33 args) w := enters_of Try.func33 (by kernel_rfl) rfl

/-- Block k is the row that the slice value v owns. -/
def RowOf (v : Value) (k : Nat) : Prop := v.ownBlock = some k
set_option maxHeartbeats 4000000 in
theorem join_any (b : Nat) (w : World) (A A3 : Option Addr) (n0 c0 c3 : Nat) (l j : List Mem) (hrow : NewRow b w A n0 c0 l) (hb : b ≤ w.heap.size) (hj : Src w 2 A3 j.length (mcells j)) (hjr : 0 < j.length → ∀ ad, A3 = some ad → ¬ RowOf (.slice A n0 c0) ad.block)
    (hl : l.length ≤ 1000) (hjl : j.length ≤ 1000) :
    Calls Try.prog 20 #[.slice A n0 c0, .slice A3 j.length c3] w fun e w' => (∃ O n oc, e = .returned (.slice O n oc) ∧ NewRow b w' O n oc (joinAll l j)) ∧ Kept (RowOf (.slice A n0 c0)) w w' := by
  have hjoinlen : ∀ i, (joinAll l (j.take i)).length ≤ 2000 := by
    intro i
    have h1 : ∀ (a : List Mem) (b : List Mem), (joinAll b a).length ≤ b.length + a.length := by
      intro a
      induction a with
      | nil => intro b; simp [joinAll]
      | cons x a ih =>
        intro b
        have h2 := ih (joinOne b x)
        have h3 : (joinOne b x).length ≤ b.length + 1 := by unfold joinOne; split <;> simp
        have h4 : joinAll b (x :: a) = joinAll (joinOne b x) a := rfl
        rw [h4, List.length_cons]
        omega
    have h2 := h1 (j.take i) l
    have h3 := List.length_take_le' i j
    exact Nat.le_trans h2 (by clear h1; omega)
  have HJL := Lib.hid hjoinlen; clear hjoinlen
  have HJ := Lib.hid hj; clear hj
  have HJR := Lib.hid hjr; clear hjr
  have HROW0 := Lib.hid hrow; clear hrow
  go_enter Try.func20, Try.ntmps20
  go_wp2_with fail
  go_loopw [0, 10] (fun v0 v10 wr => ∃ (i : Nat) (O : Option Addr) (n oc : Nat), i ≤ j.length ∧ v10 = .int .i64 i ∧ v0 = .slice O n oc ∧ NewRow b wr O n oc (joinAll l (j.take i)) ∧ (∀ k, RowOf (.slice O n oc) k → RowOf (.slice A n0 c0) k ∨ w.heap.size ≤ k) ∧ Kept (RowOf (.slice A n0 c0)) w wr) (fun _ v10 _ => j.length - (intOf v10).toNat)
  case atStart => exact ⟨0, A, n0, c0, Nat.zero_le _, rfl, rfl, HROW0.out, (fun k h => .inl h), Kept.refl _ _⟩
  case round =>
    obtain ⟨i, O, n, oc, hi, rfl, rfl, hrow, hro, hk⟩ := hrel
    have hsz := hk.size
    have hlenY := HJL.out i
    obtain ⟨Y, hY⟩ : ∃ Y, joinAll l (j.take i) = Y := ⟨_, rfl⟩
    rw [hY] at hrow hlenY
    have hnY := hrow.1
    rw [← hnY] at hlenY
    have HROW := Lib.hid hrow; clear hrow
    have HRO := Lib.hid hro; clear hro
    have HK := Lib.hid hk; clear hk
    by_cases hil : i < j.length
    · obtain ⟨m, hm⟩ : ∃ m, j[i]? = some m := ⟨_, List.getElem?_eq_getElem hil⟩
      obtain ⟨ad, hA, had, d0, d1⟩ := mem_cells (HJ.out.kept HK.out (HJR.out (by omega))) (by omega) i m hm
      subst hA
      obtain ⟨wo, hwo⟩ : ∃ wo : World, wo = wr := ⟨_, rfl⟩
      subst hwo
      have hjs : joinAll l (j.take (i + 1)) = joinOne Y m := by rw [take_snoc hm, joinAll_snoc, hY]
      have hjo : joinOne Y m = if n < 4 ∧ chk 1 [m] = 0 ∧ anyP (fun x => decide (x.1 = m.1)) Y = false then Y ++ [m] else Y := by rw [hnY]; rfl
      rw [hjo] at hjs
      clear hjo hY
      have hmay := fun W => may_any W m
      have hnm := Has.new wo 58 #[.int .i64 m.1, .int .i64 m.2]
      have hco := fun W (hW : Kept NoF (wo.alloc (.cells #[.int .i64 m.1, .int .i64 m.2] 58)) W) => contains_any W O oc Y (fun x => decide (x.1 = m.1)) 33 #[.pointer (some ⟨wo.heap.size, 0, none⟩)] ((HROW.out.kept (((Kept.refl NoF wo).alloc _).then hW)).src) (by omega) join_eg
        (fun W' x hW' _ => twin2_any W' wo.heap.size m x (hnm.kept (hW.then hW') (fun x => x)))
      rw [← hnY] at hco
      obtain ⟨tb, htb⟩ : ∃ tb, anyP (fun x => decide (x.1 = m.1)) Y = tb := ⟨_, rfl⟩
      obtain ⟨ck, hck⟩ : ∃ ck, chk 1 [m] = ck := ⟨_, rfl⟩
      rw [htb] at hco hjs
      rw [hck] at hmay hjs
      clear htb hck hm hnY
      have HMAY := Lib.hid hmay; clear hmay
      have HCO := Lib.hid hco; clear hco
      have HJS := Lib.hid hjs; clear hjs
      have HNM := Lib.hid hnm; clear hnm
      obtain ⟨m1, m2⟩ := m
      dsimp only at d0 d1 HMAY HCO HNM
      unfold magg at HMAY
      dsimp only at HMAY
      by_cases h4 : n < 4
      rotate_left
      · have hjn : joinAll l (j.take (i + 1)) = Y := by rw [HJS.out, if_neg (fun h => h4 h.1)]
        have HJN := Lib.hid hjn; clear hjn
        have h4' : ¬ (n : Int) < 4 := by omega
        go_wp2
        go_roundw
        case rel => exact ⟨i + 1, O, n, oc, by omega, by go_num, rfl, by rw [HJN.out]; exact HROW.out.kept ((Kept.refl _ _).alloc _), HRO.out, HK.out.alloc _⟩
        case measure => simp [intOf]; omega
      have h4' : (n : Int) < 4 := by omega
      by_cases hc : ck = 0
      rotate_left
      · have hjn : joinAll l (j.take (i + 1)) = Y := by rw [HJS.out, if_neg (fun h => hc h.2.1)]
        have HJN := Lib.hid hjn; clear hjn
        have hd : decide (ck = 0) = false := by simpa using hc
        rw [hd] at HMAY
        clear hd hc
        go_wp2_with fail
        refine (HMAY.out _).mono ?_
        rintro e w2 ⟨rfl, hk2⟩
        have hk3 := (HK.out.alloc _).then (hk2.mono (fun i hi => hi.elim))
        have hr3 := HROW.out.kept (((Kept.refl _ _).alloc _).then hk2)
        have HK3 := Lib.hid hk3; clear hk3 hk2
        have HR3 := Lib.hid hr3; clear hr3
        go_wp2
        go_roundw
        case rel => exact ⟨i + 1, O, n, oc, by omega, by go_num, rfl, by rw [HJN.out]; exact HR3.out, HRO.out, HK3.out⟩
        case measure => simp [intOf]; omega
      have hd : decide (ck = 0) = true := by simpa using hc
      rw [hd] at HMAY
      clear hd
      cases tb
      rotate_left
      · have hjn : joinAll l (j.take (i + 1)) = Y := by rw [HJS.out, if_neg (fun h => by cases h.2.2)]
        have HJN := Lib.hid hjn; clear hjn hc
        go_wp2_with fail
        refine (HMAY.out _).mono ?_
        rintro e w2 ⟨rfl, hk2⟩
        have HK2 := Lib.hid hk2; clear hk2
        go_wp2_with fail
        refine (HCO.out _ HK2.out).mono ?_
        rintro e w3 ⟨rfl, hk2⟩
        have hk4 := ((HK.out.alloc _).then (HK2.out.mono (fun i hi => hi.elim))).then (hk2.mono (fun i hi => hi.elim))
        have hr3 := HROW.out.kept ((((Kept.refl _ _).alloc _).then HK2.out).then hk2)
        have HK3 := Lib.hid hk4; clear hk4 hk2
        have HR3 := Lib.hid hr3; clear hr3
        go_wp2
        go_roundw
        case rel => exact ⟨i + 1, O, n, oc, by omega, by go_num, rfl, by rw [HJN.out]; exact HR3.out, HRO.out, HK3.out⟩
        case measure => simp [intOf]; omega
      have hjn : joinAll l (j.take (i + 1)) = Y ++ [(m1, m2)] := by rw [HJS.out, if_pos ⟨h4, hc, rfl⟩]
      have HJN := Lib.hid hjn; clear hjn hc
      have hS : Hid (n + 1 ≤ maxLen) := Lib.hid (by unfold maxLen; omega)
      have hS2 : Hid ((n + 1) * 16 ≤ 140737488355328) := Lib.hid (by omega)
      go_wp2_with fail
      refine (HMAY.out _).mono ?_
      rintro e w2 ⟨rfl, hk2⟩
      have HK2 := Lib.hid hk2; clear hk2
      go_wp2_with fail
      refine (HCO.out _ HK2.out).mono ?_
      rintro e w3 ⟨rfl, hk2⟩
      have hk4 := ((HK.out.alloc _).then (HK2.out.mono (fun i hi => hi.elim))).then (hk2.mono (fun i hi => hi.elim))
      have hr3 := HROW.out.kept ((((Kept.refl _ _).alloc _).then HK2.out).then hk2)
      have hm3 := (HNM.out.kept HK2.out (fun x => x)).kept hk2 (fun x => x)
      have e0 : w3.cell? ⟨wo.heap.size, 0, none⟩ = some (.int .i64 m1) := hm3.cell 0
      have e1 : w3.cell? ⟨wo.heap.size, 1, none⟩ = some (.int .i64 m2) := hm3.cell 1
      have HK3 := Lib.hid hk4; clear hk4 hk2 hm3
      have HR3 := Lib.hid hr3; clear hr3
      go_wp2_with (at_builtin; refine list_append_src elemMem (.tmp 28) (.tmp 30) rfl rfl (Value.slice O n oc) rfl ((HR3.out.kept ((Kept.refl _ _).alloc _)).2.1) 1 rfl (Src.of_has (m := 1) (cs := #[.int .i64 m1, .int .i64 m2]) (Has.new_at _ 58 _ (by simp)) rfl) (by intro u hu; simp at hu; rcases hu with rfl | rfl <;> rfl) hS.out hS2.out ?_; intro O3 oc3 w9 ho3 hg3 ha3)
      have hz9 := HK3.out.size
      have hn3 : NewRow b w9 O3 (n + 1) oc3 (Y ++ [(m1, m2)]) := (HR3.out.kept ((Kept.refl _ _).alloc _)).snoc (by simp; omega) ho3 ha3
      have hk9 : Kept (RowOf (.slice A n0 c0)) w w9 := (HK3.out.alloc _).grown hg3 (fun k hk => HRO.out k hk)
      have hro9 : ∀ k, RowOf (.slice O3 (n + 1) oc3) k → RowOf (.slice A n0 c0) k ∨ w.heap.size ≤ k := by
        intro k hk
        unfold RowOf at hk
        rcases ha3 with e | e
        · exact HRO.out k (e.symm.trans hk)
        · rw [hk] at e
          injection e with e
          right
          simp at e
          omega
      rw [← HJN.out] at hn3
      clear ho3 hg3 ha3
      have HN3 := Lib.hid hn3; clear hn3
      have HK9 := Lib.hid hk9; clear hk9
      have HRO9 := Lib.hid hro9; clear hro9
      go_wp2
      go_roundw
      case rel => exact ⟨i + 1, O3, n + 1, oc3, by omega, by go_num, rfl, HN3.out, HRO9.out, HK9.out⟩
      case measure => simp [intOf]; omega
    · obtain rfl : i = j.length := by omega
      rw [List.take_length] at hY
      have HY := Lib.hid hY; clear hY hnY
      go_wp2
      go_ret
      exact ⟨⟨O, n, oc, rfl, by rw [HY.out]; exact HROW.out⟩, HK.out⟩

set_option maxHeartbeats 1000000 in
theorem grow_any (w : World) (n : Nat) (hn : 0 < n) (hn2 : n ≤ 100000) :
    Calls Try.prog 36 #[.slice none 0 0, .int .i64 n] w fun e w' => (∃ O oc, e = .returned (.slice O 0 oc) ∧ NewRow w.heap.size w' O 0 oc []) ∧ Kept NoF w w' := by
  obtain ⟨i0, hi, hz0, hz1, hz2⟩ := info_parts (show (Try.prog.info? 58).map (fun i => (i.zero, i.size, i.bytes)) = some (some (.agg #[.int .i64 0, .int .i64 0]), 2, 16) by kernel_rfl)
  have hG := grownCap_ge w (0 + n) 0 58
  have hG2 := grownCap_le_maxLen w (0 + n) 0 58 (by unfold maxLen; omega)
  have hrz : ∀ ty, (Builtin.append_ #[22, 3] ty #[.slice none 0 0, .int .i64 n]).run Try.prog w =
      .ok (.slice (some ⟨w.heap.size, 0, none⟩) n (grownCap w (0 + n) 0 58)) (w.drew.alloc (.cells (#[] ++ Builtin.zeroCells #[.int .i64 0, .int .i64 0] n ++ Builtin.zeroCells #[.int .i64 0, .int .i64 0] (grownCap w (0 + n) 0 58 - (0 + n))) 58)) := fun ty => by
    have h := Lib.run_append_grow_zeros w 22 3 ty 58 i0 (.agg #[.int .i64 0, .int .i64 0]) .i64 .i64 Try.underlying22 Try.underlying3 hi hz0 none 0 0 [] (run_firstCells_none w.drew i0.size 0 0 0) n (by omega) (by rw [hz1]; decide) (by omega) (by omega) (by rw [hz2]; omega)
      (by exact growslice_fits (by omega) (by rw [hz2]; omega))
    rw [h]
    simp [Value.cells]
  obtain ⟨G, hGe⟩ : ∃ G, G = grownCap w (0 + n) 0 58 := ⟨_, rfl⟩
  rw [← hGe] at hrz hG hG2
  have hnew : Has (w.alloc (.cells (Builtin.zeroCells #[.int .i64 0, .int .i64 0] n ++ Builtin.zeroCells #[.int .i64 0, .int .i64 0] (G - n)) 58)).drew w.heap.size 58 (Builtin.zeroCells #[.int .i64 0, .int .i64 0] n ++ Builtin.zeroCells #[.int .i64 0, .int .i64 0] (G - n)) := (Has.new w _ _).drew
  have hrow : NewRow w.heap.size (w.alloc (.cells (Builtin.zeroCells #[.int .i64 0, .int .i64 0] n ++ Builtin.zeroCells #[.int .i64 0, .int .i64 0] (G - n)) 58)).drew (some ⟨w.heap.size, 0, none⟩) 0 G [] := by
    refine ⟨rfl, ⟨rfl, .inr ⟨w.heap.size, G, _, rfl, Nat.zero_le _, hnew, Nat.zero_le _, hG2, ?_, by simp [mcells]⟩⟩, fun k hk => by simp [Value.ownBlock] at hk; omega⟩
    simp [Builtin.zeroCells]
    omega
  have HROW := Lib.hid hrow; clear hrow hnew
  have hG3 : G ≤ 9223372036854775807 := by unfold maxLen at hG2; omega
  have hnp : (0 : Int) < n := by omega
  clear hGe hi hz0 hz1 hz2 hG2
  go_enter Try.func36, Try.ntmps36
  go_wp2_with (at_builtin; refine Lib.wpList_append_run _ rfl _ _ _ _ rfl _ _ rfl rfl _ _ (hrz _) ?_)
  go_wp2
  go_ret
  exact ⟨⟨_, _, rfl, HROW.out⟩, ((Kept.refl _ _).alloc _).drew⟩
end Plan
end Go.Proofs.Ytffnaabnbimhbaa
