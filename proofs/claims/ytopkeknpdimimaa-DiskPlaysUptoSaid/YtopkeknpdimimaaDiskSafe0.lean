/- What was safe: plain laws. -/
import Derived.Test.YtopkeknpdimimaaDiskOrder
import Derived.Test.YtopkeknpdimimaaDiskFiles
set_option linter.unusedSimpArgs false
set_option linter.unusedVariables false
namespace Go.Proofs.Ytopkeknpdimimaa
open Go.RowKit
set_option maxRecDepth 100000
namespace Disk

theorem sync_data (f : Int) : ∀ (ps : List Pc) (m : Safe), (sget (syncM m ps) f).data.toList = (sget m f).data.toList ++ ofFile f ps := by
  intro ps
  induction ps with
  | nil => intro m; simp [syncM, ofFile]
  | cons p ps ih =>
    intro m
    rw [syncM, ih, sget_sput, ofFile_cons]
    by_cases e : p.1 = f
    · subst e
      rw [if_pos rfl, if_pos rfl]
      simp [ByteArray.data_append, List.append_assoc]
    · rw [if_neg (fun x => e x.symm), if_neg e, List.nil_append]
/-- What a crash keeps of a file is a beginning of what was written to it. -/
theorem cuts_prefix (f : Int) : ∀ (ps : List Pc) (left : Nat), ofFile f (cuts left ps) <+: ofFile f ps := by
  intro ps
  induction ps with
  | nil => intro left; exact List.prefix_refl _
  | cons p ps ih =>
    intro left
    rw [cuts, ofFile_cons, ofFile_cons]
    by_cases h : left < p.2.size
    · have e1 : min left p.2.size = left := by omega
      rw [e1, Nat.sub_self, cuts_zero, List.append_nil]
      split
      · refine List.IsPrefix.trans ?_ (List.prefix_append _ _)
        rw [Lib.extract_data]
        simp only [List.drop_zero, Nat.sub_zero]
        exact List.take_prefix _ _
      · exact List.nil_prefix
    · have e1 : min left p.2.size = p.2.size := by omega
      rw [e1, extract_all]
      exact (List.prefix_append_right_inj _).2 (ih _)
/-- Of different files no byte counts twice. -/
theorem sum_files : ∀ (ps : List Pc) (fl : List Int), fl.Nodup → (fl.map fun f => (ofFile f ps).length).sum ≤ total ps := by
  intro ps
  induction ps with
  | nil =>
    intro fl _
    have : fl.map (fun f => (ofFile f []).length) = fl.map (fun _ => 0) := by simp [ofFile]
    rw [this]
    clear this
    induction fl <;> simp_all [total]
  | cons p ps ih =>
    intro fl hn
    have h1 := ih fl hn
    have h2 : ∀ fl : List Int, fl.Nodup → (fl.map fun f => (ofFile f (p :: ps)).length).sum ≤ (fl.map fun f => (ofFile f ps).length).sum + p.2.size := by
      intro fl hn
      have h3 : ∀ fl : List Int, p.1 ∉ fl → (fl.map fun f => (ofFile f (p :: ps)).length).sum = (fl.map fun f => (ofFile f ps).length).sum := by
        intro fl
        induction fl with
        | nil => intro _; rfl
        | cons a fl ihf =>
          intro h
          simp only [List.mem_cons, not_or] at h
          simp only [List.map_cons, List.sum_cons, ihf h.2]
          rw [ofFile_cons, if_neg h.1, List.nil_append]
      induction fl with
      | nil => simp
      | cons a fl ihf =>
        obtain ⟨ha, hn⟩ := List.nodup_cons.1 hn
        simp only [List.map_cons, List.sum_cons]
        by_cases e : p.1 = a
        · rw [h3 fl (by rw [e]; exact ha), ofFile_cons, if_pos e]
          simp
          omega
        · have := ihf hn
          rw [ofFile_cons, if_neg e, List.nil_append]
          omega
    have h4 := h2 fl hn
    rw [total_cons]
    omega
theorem total_cuts_le (ps : List Pc) : ∀ left, total (cuts left ps) ≤ total ps := by
  induction ps with
  | nil => intro left; exact Nat.le_refl _
  | cons p ps ih =>
    intro left
    rw [cuts, total_cons, total_cons]
    have := ih (left - min left p.2.size)
    simp
    omega

theorem sync_some (f : Int) : ∀ (ps : List Pc) (m : Safe), (syncM m ps f).isSome = true → (m f).isSome = true ∨ ∃ p ∈ ps, p.1 = f := by
  intro ps
  induction ps with
  | nil => intro m h; exact .inl h
  | cons p ps ih =>
    intro m h
    rcases ih _ h with h | ⟨q, hq, e⟩
    · unfold sput at h
      by_cases e : f = p.1
      · exact .inr ⟨p, by simp, e.symm⟩
      · rw [if_neg e] at h
        exact .inl h
    · exact .inr ⟨q, by simp [hq], e⟩
theorem files_few {ps : List Pc} {fl : List Int} (h : FilesAre (syncM (fun _ => none) ps) [] fl) : fl.length ≤ ps.length := by
  have hn : fl.Nodup := h.rises.imp fun {a b} hab e => by omega
  have h1 := sum_files (ps.map fun p => (p.1, ⟨#[0]⟩)) fl hn
  have h2 : total (ps.map fun p => (p.1, (⟨#[0]⟩ : ByteArray))) = ps.length := by
    clear h1 h
    induction ps with
    | nil => rfl
    | cons p ps ih => rw [List.map_cons, total_cons, ih]; show 1 + _ = _; simp; omega
  have h3 : ∀ f ∈ fl, 1 ≤ (ofFile f (ps.map fun p => (p.1, (⟨#[0]⟩ : ByteArray)))).length := by
    intro f hf
    have h4 := ((h.mem f).1 hf).2
    unfold isFile at h4
    simp at h4
    rcases sync_some f ps (fun _ => none) h4 with h5 | ⟨p, hp, e⟩
    · cases h5
    · clear h1 h2 h4 h hf
      induction ps with
      | nil => cases hp
      | cons q ps ih =>
        rw [List.map_cons, ofFile_cons, List.length_append]
        rcases List.mem_cons.1 hp with rfl | hp
        · rw [if_pos e]; show 1 ≤ 1 + _; omega
        · have := ih hp; omega
  have h4 : ∀ fl : List Int, (∀ f ∈ fl, 1 ≤ (ofFile f (ps.map fun p => (p.1, (⟨#[0]⟩ : ByteArray)))).length) → fl.length ≤ (fl.map fun f => (ofFile f (ps.map fun p => (p.1, (⟨#[0]⟩ : ByteArray)))).length).sum := by
    intro fl
    induction fl with
    | nil => intro _; simp
    | cons a fl ih =>
      intro hh
      have := ih fun f hf => hh f (by simp [hf])
      have := hh a (by simp)
      simp only [List.length_cons, List.map_cons, List.sum_cons]
      omega
  have h5 := h4 fl h3
  omega
theorem sync_size (ps : List Pc) (f : Int) : (sget (syncM (fun _ => none) ps) f).size ≤ total ps := by
  have h1 := sync_data f ps (fun _ => none)
  have h2 := ofFile_len f ps
  have h3 : (sget (syncM (fun _ => none) ps) f).data.toList.length = (ofFile f ps).length := by rw [h1]; simp [sget]
  simp at h3
  omega

theorem safe_facts (M : Safe) (L : Nat) (P : List Pc) (f : Int) :
    (dataOf M [] f).size + (ofFile f (cuts L P)).length = (dataOf (crashM M L P) [] f).size ∧ (dataOf (crashM M L P) [] f).size ≤ (dataOf M P f).size ∧ (dataOf M P f).extract 0 (dataOf (crashM M L P) [] f).size = dataOf (crashM M L P) [] f ∧ (sget (crashM M L P) f).size ≤ (sget M f).size + total P := by
  obtain ⟨t, ht⟩ := cuts_prefix f P L
  have hs : (dataOf (crashM M L P) [] f).data.toList = (sget M f).data.toList ++ ofFile f (cuts L P) := by
    show (sget (crashM M L P) f).data.toList ++ ofFile f [] = _
    rw [crash_cuts]
    simp [ofFile]
  have hh : (dataOf M [] f).data.toList = (sget M f).data.toList := by
    show (sget M f).data.toList ++ ofFile f [] = _
    simp [ofFile]
  have ha : (dataOf M P f).data.toList = (dataOf (crashM M L P) [] f).data.toList ++ t := by
    rw [hs, List.append_assoc, ht]
    rfl
  have l1 : (dataOf (crashM M L P) [] f).size = (dataOf (crashM M L P) [] f).data.toList.length := by simp
  have l2 : (dataOf M [] f).size = (dataOf M [] f).data.toList.length := by simp
  have l3 : (dataOf M P f).size = (dataOf M P f).data.toList.length := by simp
  have l4 : (sget (crashM M L P) f).size = (sget (crashM M L P) f).data.toList.length := by simp
  have l5 : (sget M f).size = (sget M f).data.toList.length := by simp
  refine ⟨by rw [l1, l2, hs, hh, List.length_append], by rw [l1, l3, ha, List.length_append]; omega, ?_, ?_⟩
  · apply ByteArray.ext
    apply Array.toList_inj.1
    rw [Lib.extract_data, ha, l1]
    simp
  · rw [l4, crash_cuts, l5, List.length_append]
    have := ofFile_len f (cuts L P)
    have := total_cuts_le P L
    omega
theorem sum_take_files (P : List Pc) (fl : List Int) (i : Nat) (hn : fl.Nodup) : ((fl.take i).map fun f => (ofFile f P).length).sum ≤ total P :=
  sum_files P (fl.take i) (hn.sublist (List.take_sublist _ _))
end Disk
end Go.Proofs.Ytopkeknpdimimaa
