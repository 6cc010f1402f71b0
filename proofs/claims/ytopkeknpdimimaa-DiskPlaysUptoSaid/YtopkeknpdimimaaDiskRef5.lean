/- The document's disk: Drop. -/
import Derived.Test.YtopkeknpdimimaaDiskRef4
set_option linter.unusedSimpArgs false
set_option linter.unusedVariables false
namespace Go.Proofs.Ytopkeknpdimimaa
open Go.RowKit Go.Maps
set_option maxRecDepth 100000
namespace Disk
variable {F G : Nat → Prop} {w : World} {g x n : Nat} {m : Safe} {fs ps : List Pc} {ser boot : Int}

def without (f : Int) (l : List Pc) : List Pc := l.filter fun p => !decide (p.1 = f)
theorem without_le (f : Int) (l : List Pc) (i : Nat) : (without f (l.take i)).length ≤ i := by
  have := List.length_filter_le (fun p : Pc => !decide (p.1 = f)) (l.take i)
  unfold without
  rw [List.length_take] at this
  omega
theorem without_snoc (f : Int) {l : List Pc} {i : Nat} {q : Pc} (h : l[i]? = some q) : without f (l.take (i + 1)) = without f (l.take i) ++ if q.1 = f then [] else [q] := by
  unfold without
  rw [take_snoc h, List.filter_append]
  by_cases e : q.1 = f <;> simp [e]

/-- A list that is being gathered: its row, new. -/
def Gath (base : Nat) (t : TypeId) (W : World) (w : World) (v : Value) (l : List Pc) : Prop :=
  ∃ T tc, v = .slice T l.length tc ∧ W.ownsRow 0 t 2 (.slice T l.length tc) l.length (pcells l) ∧ (∀ k, (Value.slice T l.length tc).ownBlock = some k → w.heap.size ≤ k) ∧ Kept NoF w W

set_option maxHeartbeats 4000000 in
theorem rdrop_any (h : RefD w x G fs ps ser boot) (f : Int) (hh : hasR fs ps f = true) (hlf : fs.length ≤ 100000) (hlen : ps.length ≤ 100000) :
    Calls Try.prog 15 #[.pointer (some ⟨x, 0, none⟩), .int .i64 f] w (AfterR w x G (.int .i64 0) (without f fs) (without f ps) ser boot) := by
  have hha : ∀ W, Kept NoF w W → _ := fun W hW => rhas_any (h.kept hW (fun _ _ x => x)) f (by omega) hlen
  rw [hh] at hha
  have HHA := Lib.hid hha; clear hha
  obtain ⟨A, c, B, d, hF, hg, ho, hp⟩ := h
  have hgl := hg.lt
  have HG := Lib.hid hg; clear hg
  have HO := Lib.hid ho; clear ho
  have HP := Lib.hid hp; clear hp
  have HF := Lib.hid hF; clear hF hh
  go_enter Try.func15, Try.ntmps15
  go_wp2_with fail
  refine (HHA.out _ (Kept.refl _ _)).mono ?_
  rintro e w1 ⟨rfl, hk1⟩
  have HK1 := Lib.hid hk1; clear hk1
  go_wp2_with fail
  go_loopw [5, 7] (fun v5 v7 wr => ∃ (i : Nat) (T : Option Addr) (tc M : Nat), i ≤ fs.length ∧ v7 = .int .i64 i ∧ M = (without f (fs.take i)).length ∧ v5 = .slice T M tc ∧ wr.ownsRow 0 71 2 (.slice T M tc) M (pcells (without f (fs.take i))) ∧ (∀ k, (Value.slice T M tc).ownBlock = some k → w.heap.size ≤ k) ∧ Kept NoF w wr) (fun _ v7 _ => fs.length - (intOf v7).toNat)
  case atStart => exact ⟨0, none, 0, 0, Nat.zero_le _, rfl, rfl, rfl, ⟨by simp [without, pcells], .inl ⟨rfl, rfl⟩⟩, by simp [Value.ownBlock], HK1.out⟩
  case round =>
    obtain ⟨i, T, tc, M, hi, rfl, hM, rfl, ho5, hn5, hk5⟩ := hrel
    have HO5 := Lib.hid (And.intro ho5 (And.intro hn5 hk5)); clear ho5 hn5
    have d0 : wr.cell? ⟨x, 0, none⟩ = some (.slice A fs.length c) := (HG.out.kept hk5 (fun x => x)).cell 0
    by_cases hil : i < fs.length
    · obtain ⟨q, hq⟩ : ∃ q, fs[i]? = some q := ⟨_, List.getElem?_eq_getElem hil⟩
      obtain ⟨ad, rfl, hl1, e0, e1⟩ := pc_cells ((Src.of_own HO.out).kept hk5 (fun _ _ x => x)) (by omega) i q hq
      have HT := Lib.hid (without_snoc f hq)
      have hMi : M ≤ i := by rw [hM]; exact without_le f fs i
      have HM := Lib.hid hM; clear hM
      clear hq hk5
      by_cases hqf : q.1 = f
      · rw [hqf] at e0
        go_wp2_with fail
        go_roundw
        case rel => exact ⟨i + 1, T, tc, M, by omega, by go_num, by rw [HT.out, if_pos hqf, List.append_nil]; exact HM.out, rfl, by rw [HT.out, if_pos hqf, List.append_nil]; exact HO5.out.1, HO5.out.2.1, HO5.out.2.2⟩
        case measure => simp [intOf]; omega
      · have HM3 : Hid (M + 1 ≤ maxLen) := Lib.hid (by unfold maxLen; omega)
        have HM4 : Hid ((M + 1) * 24 ≤ 140737488355328) := Lib.hid (by omega)
        have hqd : (q.1 == f) = false := by simpa using hqf
        go_wp2_with (at_builtin; refine list_append_src elemRF (.tmp 32) (.tmp 40) rfl rfl (Value.slice T M tc) rfl (own_kept HO5.out.1 (F := NoF) (by (repeat' (first | with_reducible exact Kept.refl _ _ | with_reducible refine Kept.put ?_ ?_ | with_reducible refine Kept.drewN ?_ _ | with_reducible refine Kept.drew ?_ | with_reducible refine Kept.alloc ?_ _ | (fail) | (right; simp; done)))) (fun _ _ x => x)) 1 rfl (Src.of_has (t := 71) (cs := #[.int .i64 q.1, .string q.2]) (by (repeat (first | with_reducible exact Has.new_at _ _ _ (by simp) | with_reducible apply Has.drew | with_reducible apply Has.drewN | with_reducible apply Has.alloc | (with_reducible apply Has.past <;> (try omega)) ))) rfl) (by intro u hu; simp at hu; rcases hu with rfl | rfl <;> rfl) HM3.out HM4.out ?_; intro A5 c5 w5 ho6 hg6 ha6; have hk6 : Kept NoF w w5 := Kept.grown (HO5.out.2.2.then (by (repeat' (first | with_reducible exact Kept.refl _ _ | with_reducible refine Kept.put ?_ ?_ | with_reducible refine Kept.drewN ?_ _ | with_reducible refine Kept.drew ?_ | with_reducible refine Kept.alloc ?_ _ | (fail) | (right; simp; done))))) hg6 (fun k hk => .inr (HO5.out.2.1 k hk)); have HO6 := Lib.hid (And.intro ho6 (And.intro ha6 hk6)); clear ho6 hg6 ha6 hk6)
        obtain ⟨ho6, ha6, hk6⟩ := HO6.out
        have hn6 : ∀ k, (Value.slice A5 (M + 1) c5).ownBlock = some k → w.heap.size ≤ k := by
          intro k hk
          have := HO5.out.2.2.size
          rcases ha6 with e | e
          · exact HO5.out.2.1 k (e.symm.trans hk)
          · rw [hk] at e
            injection e with e
            simp at e
            omega
        have ho7 : w5.ownsRow 0 71 2 (.slice A5 (M + 1) c5) (M + 1) (pcells (without f (fs.take (i + 1)))) := by
          rw [HT.out, if_neg hqf, pcells_append]
          exact ho6
        have hM7 : M + 1 = (without f (fs.take (i + 1))).length := by rw [HT.out, if_neg hqf, List.length_append, ← HM.out]; rfl
        have HN6 := Lib.hid (And.intro hn6 hM7); clear hn6 hM7
        have HO7 := Lib.hid ho7; clear ho7 ho6 ha6
        have HK6 := Lib.hid hk6; clear hk6 HO6
        go_wp2_with fail
        go_roundw
        case rel => exact ⟨i + 1, A5, c5, M + 1, by omega, by go_num, HN6.out.2, rfl, HO7.out, HN6.out.1, HK6.out⟩
        case measure => simp [intOf]; omega
    · obtain rfl : i = fs.length := by omega
      rw [List.take_length] at hM HO5
      clear hk5
      obtain ⟨w4, hw4⟩ : ∃ w4, w4 = wr := ⟨_, rfl⟩
      subst hw4
      have hMi : M ≤ fs.length := by rw [hM]; have := without_le f fs fs.length; rwa [List.take_length] at this
      have HM := Lib.hid hM; clear hM
      go_wp2_with fail
      go_loopw [6, 8] (fun v6 v8 wr => ∃ (i : Nat) (T2 : Option Addr) (tc2 M2 : Nat), i ≤ ps.length ∧ v8 = .int .i64 i ∧ M2 = (without f (ps.take i)).length ∧ v6 = .slice T2 M2 tc2 ∧ wr.ownsRow 0 64 2 (.slice T2 M2 tc2) M2 (pcells (without f (ps.take i))) ∧ (∀ k, (Value.slice T2 M2 tc2).ownBlock = some k → w4.heap.size ≤ k) ∧ Kept NoF w4 wr) (fun _ v8 _ => ps.length - (intOf v8).toNat)
      case atStart => exact ⟨0, none, 0, 0, Nat.zero_le _, rfl, rfl, rfl, ⟨by simp [without, pcells], .inl ⟨rfl, rfl⟩⟩, by simp [Value.ownBlock], Kept.refl _ _⟩
      case round =>
        obtain ⟨i, T2, tc2, M2, hi, rfl, hM2, rfl, ho8, hn8, hk8⟩ := hrel
        have HO8 := Lib.hid (And.intro ho8 (And.intro hn8 hk8)); clear ho8 hn8
        have hk9 := HO5.out.2.2.then hk8
        have hxx := (HG.out.kept hk9 (fun x => x))
        have d1 : wr.cell? ⟨x, 1, none⟩ = some (.slice B ps.length d) := hxx.cell 1
        by_cases hil2 : i < ps.length
        · obtain ⟨q, hq⟩ : ∃ q, ps[i]? = some q := ⟨_, List.getElem?_eq_getElem hil2⟩
          obtain ⟨ad, rfl, hl1, e0, e1⟩ := pc_cells ((Src.of_own HP.out).kept hk9 (fun _ _ x => x)) (by omega) i q hq
          have HT := Lib.hid (without_snoc f hq)
          have hMi2 : M2 ≤ i := by rw [hM2]; exact without_le f ps i
          have HM2 := Lib.hid hM2; clear hM2
          clear hq hk8 hk9 hxx
          by_cases hqf : q.1 = f
          · rw [hqf] at e0
            go_wp2_with fail
            go_roundw
            case rel => exact ⟨i + 1, T2, tc2, M2, by omega, by go_num, by rw [HT.out, if_pos hqf, List.append_nil]; exact HM2.out, rfl, by rw [HT.out, if_pos hqf, List.append_nil]; exact HO8.out.1, HO8.out.2.1, HO8.out.2.2⟩
            case measure => simp [intOf]; omega
          · have HM3 : Hid (M2 + 1 ≤ maxLen) := Lib.hid (by unfold maxLen; omega)
            have HM4 : Hid ((M2 + 1) * 24 ≤ 140737488355328) := Lib.hid (by omega)
            have hqd : (q.1 == f) = false := by simpa using hqf
            go_wp2_with (at_builtin; refine list_append_src elemRPc (.tmp 61) (.tmp 69) rfl rfl (Value.slice T2 M2 tc2) rfl (own_kept HO8.out.1 (F := NoF) (by (repeat' (first | with_reducible exact Kept.refl _ _ | with_reducible refine Kept.put ?_ ?_ | with_reducible refine Kept.drewN ?_ _ | with_reducible refine Kept.drew ?_ | with_reducible refine Kept.alloc ?_ _ | (fail) | (right; simp; done)))) (fun _ _ x => x)) 1 rfl (Src.of_has (t := 64) (cs := #[.int .i64 q.1, .string q.2]) (by (repeat (first | with_reducible exact Has.new_at _ _ _ (by simp) | with_reducible apply Has.drew | with_reducible apply Has.drewN | with_reducible apply Has.alloc | (with_reducible apply Has.past <;> (try omega)) ))) rfl) (by intro u hu; simp at hu; rcases hu with rfl | rfl <;> rfl) HM3.out HM4.out ?_; intro A5 c5 w5 ho6 hg6 ha6; have hk6 : Kept NoF w4 w5 := Kept.grown (HO8.out.2.2.then (by (repeat' (first | with_reducible exact Kept.refl _ _ | with_reducible refine Kept.put ?_ ?_ | with_reducible refine Kept.drewN ?_ _ | with_reducible refine Kept.drew ?_ | with_reducible refine Kept.alloc ?_ _ | (fail) | (right; simp; done))))) hg6 (fun k hk => .inr (HO8.out.2.1 k hk)); have HO6 := Lib.hid (And.intro ho6 (And.intro ha6 hk6)); clear ho6 hg6 ha6 hk6)
            obtain ⟨ho6, ha6, hk6⟩ := HO6.out
            have hn6 : ∀ k, (Value.slice A5 (M2 + 1) c5).ownBlock = some k → w4.heap.size ≤ k := by
              intro k hk
              have := HO8.out.2.2.size
              rcases ha6 with e | e
              · exact HO8.out.2.1 k (e.symm.trans hk)
              · rw [hk] at e
                injection e with e
                simp at e
                omega
            have ho7 : w5.ownsRow 0 64 2 (.slice A5 (M2 + 1) c5) (M2 + 1) (pcells (without f (ps.take (i + 1)))) := by
              rw [HT.out, if_neg hqf, pcells_append]
              exact ho6
            have hM7 : M2 + 1 = (without f (ps.take (i + 1))).length := by rw [HT.out, if_neg hqf, List.length_append, ← HM2.out]; rfl
            have HN6 := Lib.hid (And.intro hn6 hM7); clear hn6 hM7
            have HO7 := Lib.hid ho7; clear ho7 ho6 ha6
            have HK6 := Lib.hid hk6; clear hk6 HO6
            go_wp2_with fail
            go_roundw
            case rel => exact ⟨i + 1, A5, c5, M2 + 1, by omega, by go_num, HN6.out.2, rfl, HO7.out, HN6.out.1, HK6.out⟩
            case measure => simp [intOf]; omega
        · obtain rfl : i = ps.length := by omega
          rw [List.take_length] at hM2 HO8
          have d0 : wr.cell? ⟨x, 0, none⟩ = some (.slice A fs.length c) := hxx.cell 0
          have f0 := hxx.frozen 0
          have f1 := hxx.frozen 1
          have HX := Lib.hid (And.intro hxx hk9); clear hxx hk8 hk9
          have HM2 := Lib.hid hM2; clear hM2
          go_wp2_with fail
          go_ret
          obtain ⟨ho5, hn5, hk5⟩ := HO5.out
          obtain ⟨ho8, hn8, hk8⟩ := HO8.out
          obtain ⟨hxx, hk9⟩ := HX.out
          have ho5' := own_kept ho5 hk8 (fun _ _ x => x)
          have hM := HM.out
          have hM2 := HM2.out
          subst hM
          subst hM2
          refine ⟨rfl, fun k => k = x ∨ (Value.slice T (without f fs).length tc).ownBlock = some k ∨ (Value.slice T2 (without f ps).length tc2).ownBlock = some k, ⟨T, tc, T2, tc2, fun _ => Iff.rfl, ?_, ?_, ?_⟩, ?_, ?_⟩
          · ((repeat (first | with_reducible exact hxx | with_reducible apply Has.put_of | with_reducible apply Has.past | with_reducible apply Has.drewN | with_reducible apply Has.drew | with_reducible apply Has.alloc)) <;> first | omega | rfl)
          · exact own_kept ho5' (F := fun k => k = x) (by (repeat' (first | with_reducible exact Kept.refl _ _ | with_reducible refine Kept.put ?_ ?_ | with_reducible refine Kept.drewN ?_ _ | with_reducible refine Kept.drew ?_ | with_reducible refine Kept.alloc ?_ _ | (exact .inl rfl) | (right; simp; done)))) fun k hk e => own_ne ho5' hxx (by decide) (by rw [hk, e])
          · exact own_kept ho8 (F := fun k => k = x) (by (repeat' (first | with_reducible exact Kept.refl _ _ | with_reducible refine Kept.put ?_ ?_ | with_reducible refine Kept.drewN ?_ _ | with_reducible refine Kept.drew ?_ | with_reducible refine Kept.alloc ?_ _ | (exact .inl rfl) | (right; simp; done)))) fun k hk e => own_ne ho8 hxx (by decide) (by rw [hk, e])
          · have := hk5.size
            rintro k (rfl | hk | hk)
            · exact .inl ((HF.out _).2 (.inl rfl))
            · exact .inr (hn5 k hk)
            · exact .inr (by have := hn8 k hk; omega)
          · have hG9 : Kept G w wr := hk9.mono fun _ x => x.elim
            (repeat' (first | with_reducible exact Kept.refl _ _ | with_reducible refine Kept.put ?_ ?_ | with_reducible refine Kept.drewN ?_ _ | with_reducible refine Kept.drew ?_ | with_reducible refine Kept.alloc ?_ _ | (first | (with_reducible exact hG9) | exact .inl ((HF.out _).2 (.inl rfl))) | (right; simp; done)))
theorem rdrop_no (h : RefD w x G fs ps ser boot) (f : Int) (hh : hasR fs ps f = false) (hlf : fs.length ≤ 100000) (hlen : ps.length ≤ 100000) :
    Calls Try.prog 15 #[.pointer (some ⟨x, 0, none⟩), .int .i64 f] w fun e w' => e = .returned (.int .i64 7) ∧ Kept NoF w w' := by
  have hha := rhas_any h f (by omega) hlen
  rw [hh] at hha
  go_enter Try.func15, Try.ntmps15
  go_wp2_with fail
  refine hha.mono ?_
  rintro e w1 ⟨rfl, hk1⟩
  go_wp2_with fail
  go_ret
  exact ⟨rfl, hk1⟩
end Disk
end Go.Proofs.Ytopkeknpdimimaa
