
/- The disk: Write. -/
import Derived.Test.YtopkeknpdimimaaDisk
set_option linter.unusedSimpArgs false
set_option linter.unusedVariables false
namespace Go.Proofs.Ytopkeknpdimimaa
open Go.RowKit
set_option maxRecDepth 100000
namespace Disk
variable {F : Nat → Prop} {w : World} {g n : Nat} {m : Safe} {ps : List Pc} {ser boot : Int}

theorem write_bad (h : DiskAt w g F n m ps ser boot) (f : Int) (s : ByteArray) (hf : f < 1 ∨ 1073741824 < f) :
    Calls Try.prog 10 #[.pointer (some ⟨g, 0, none⟩), .int .i64 f, .string s] w (AfterD w g F (.int .i64 1) n m ps ser boot) := by
  have hn := none_any h
  have HN := Lib.hid hn; clear hn
  have H := Lib.hid h; clear h
  have hf' : f < 1 ∨ (1 ≤ f ∧ 1073741824 < f) := by omega
  rcases hf' with h1 | ⟨h1, h2⟩
  all_goals
    go_enter Try.func10, Try.ntmps10
    go_wp2_with fail
    refine HN.out.mono ?_
    rintro e w' ⟨rfl, rfl⟩
    go_wp2_with fail
    go_ret
    exact ⟨rfl, F, H.out, Grows.refl _ _, Kept.refl _ _⟩

theorem write_ok (h : DiskAt w g F n m ps ser boot) (f : Int) (s : ByteArray) (hf : 1 ≤ f) (hf2 : f ≤ 1073741824) (hlen : ps.length ≤ 100000) :
    Calls Try.prog 10 #[.pointer (some ⟨g, 0, none⟩), .int .i64 f, .string s] w (AfterD w g F (.int .i64 0) n m (ps ++ [(f, s)]) ser boot) := by
  have hn := none_any h
  have HN := Lib.hid hn; clear hn
  obtain ⟨mb, A, c, hF, hg, hm, ho⟩ := h
  have c1 : w.cell? ⟨g, 1, none⟩ = some (.slice A ps.length c) := hg.cell 1
  have f1 := hg.frozen 1
  have hgl := hg.lt
  have hne := hm.ne hg
  have hnr := own_ne ho hg (by decide)
  have HG := Lib.hid hg; clear hg
  have HM := Lib.hid hm; clear hm
  have HO := Lib.hid ho; clear ho
  have HF := Lib.hid hF; clear hF
  go_enter Try.func10, Try.ntmps10
  go_wp2_with fail
  refine HN.out.mono ?_
  rintro e w' ⟨rfl, rfl⟩
  have hone : ∀ u ∈ ([.int .i64 f, .string s] : List Value), u.oneCell' = true := by
    intro u hu
    simp at hu
    rcases hu with rfl | rfl <;> rfl
  have hM : ps.length + 1 ≤ maxLen := by unfold maxLen; omega
  have hY : (ps.length + 1) * 24 ≤ 140737488355328 := by omega
  have HONE := Lib.hid hone; clear hone
  have HMX := Lib.hid hM; clear hM
  have HY := Lib.hid hY; clear hY
  go_wp2_with (at_builtin; refine list_append_src elemPc (.tmp 21) (.tmp 25) rfl rfl (Value.slice A ps.length c) rfl (own_kept HO.out (F := NoF) ((Kept.refl _ _).alloc _) (fun _ _ x => x)) 1 rfl (Src.of_has (m := 1) (Has.new w 61 #[.int .i64 f, .string s]) rfl) HONE.out HMX.out HY.out ?_; intro A1 c1' w1 ho1 hg1 ha1; have hg1' := (HG.out.alloc (Obj.cells #[.int .i64 f, .string s] 61)).grown hg1 hnr; have d1 := hg1'.cell 1; have k1 := hg1'.frozen 1)
  go_ret
  have hk1 : Kept F w w1 := ((Kept.refl F w).alloc _).grown hg1 (fun k hk => .inl ((HF.out k).2 (.inr (.inr hk))))
  have hkm : Kept (fun k => (Value.slice A ps.length c).ownBlock = some k) w w1 := ((Kept.refl _ w).alloc _).grown hg1 (fun k hk => .inl hk)
  have hne1 : ∀ k, (Value.slice A1 (ps.length + 1) c1').ownBlock = some k → k ≠ g := fun k hk e => by
    subst e
    exact own_ne ho1 hg1' (by decide) hk
  refine ⟨rfl, fun k => k = g ∨ k = mb ∨ (Value.slice A1 (ps.length + 1) c1').ownBlock = some k, ⟨mb, A1, c1', fun _ => by simp, ?_, ?_, ?_⟩, ?_, ?_⟩
  · have := hg1'.put 1 (.slice A1 (ps.length + 1) c1')
    simpa using this
  · exact (HM.out.kept hkm (HM.out.ne_row HO.out)).kept (F := fun k => k = g) ((Kept.refl _ _).put (.inl rfl)) hne
  · have := own_kept ho1 (F := fun k => k = g) ((Kept.refl _ _).put (i := 1) (u := .slice A1 (ps.length + 1) c1') (.inl rfl)) hne1
    rw [pcells_append]
    simpa [pcells] using this
  · rintro k (rfl | rfl | hk)
    · exact .inl ((HF.out _).2 (.inl rfl))
    · exact .inl ((HF.out _).2 (.inr (.inl rfl)))
    · rcases ha1 with e | e
      · exact .inl ((HF.out _).2 (.inr (.inr (e ▸ hk))))
      · rw [hk] at e
        injection e with e
        exact .inr (by rw [e]; simp)
  · exact hk1.put (.inl ((HF.out _).2 (.inl rfl)))
end Disk
end Go.Proofs.Ytopkeknpdimimaa
