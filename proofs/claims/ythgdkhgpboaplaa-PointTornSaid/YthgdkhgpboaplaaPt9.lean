
/- The checkpointed log: Save. -/
import Derived.Test.YthgdkhgpboaplaaPt8
set_option linter.unusedSimpArgs false
set_option linter.unusedVariables false
namespace Go.Proofs.Ythgdkhgpboaplaa
open Go.RowKit
set_option maxRecDepth 100000
namespace Pt
open Disk Fr Vn Ops Wl
set_option maxHeartbeats 2000000 in
theorem idxlong_none (w : World) (A : Option Addr) (c : Nat) (l : List ByteArray) (hl : Src w 1 A l.length (l.map Value.string)) (hlen : l.length ≤ 1000000) (hs : ∀ s ∈ l, s.size < 65536) :
    Calls Try.prog 54 #[.slice A l.length c, .func (.func 30) #[] #[]] w fun e w' => e = .returned (.int .i64 (-1)) ∧ w = w' := by
  have HL := Lib.hid hl; have HS := Lib.hid hs
  clear hl hs
  go_enter Try.func54, Try.ntmps54
  go_wp2_with fail
  go_loop [5, 8] (fun v5 v8 => ∃ i : Nat, i ≤ l.length ∧ v8 = .int .i64 i) (fun _ v8 => l.length - (intOf v8).toNat)
  case atStart => exact ⟨0, Nat.zero_le _, rfl⟩
  case round =>
    obtain ⟨i, hi, rfl⟩ := hrel
    by_cases hil : i < l.length
    · obtain ⟨s, hs⟩ : ∃ s, l[i]? = some s := ⟨_, List.getElem?_eq_getElem hil⟩
      obtain ⟨ad, rfl, -, e0⟩ := SlI.str_cells HL.out (by omega) i s hs
      have hs6 : s.size < 65536 := HS.out s (List.mem_of_getElem? hs)
      have hlo := long_any w s false (decide_eq_false (by omega))
      have HLO := Lib.hid hlo
      clear hlo hs6 hs
      go_wp2_with fail
      refine HLO.out.mono ?_
      rintro e w' ⟨rfl, rfl⟩
      go_wp2
      go_round
      case rel => exact ⟨i + 1, by omega, by go_num⟩
      case measure => simp [intOf]; omega
    · obtain rfl : i = l.length := by omega
      go_wp2
      go_ret
      exact ⟨rfl, rfl⟩
theorem clong_no (w : World) (A : Option Addr) (c : Nat) (l : List ByteArray) (hl : Src w 1 A l.length (l.map Value.string)) (hlen : l.length ≤ 1000000) (hs : ∀ s ∈ l, s.size < 65536) :
    Calls Try.prog 32 #[.slice A l.length c, .func (.func 30) #[] #[]] w fun e w' => e = .returned (.bool false) ∧ w = w' := by
  have HI := Lib.hid (idxlong_none w A c l hl hlen hs)
  clear hl hlen hs
  go_enter Try.func32, Try.ntmps32
  go_wp2_with fail
  refine HI.out.mono ?_
  rintro e w' ⟨rfl, rfl⟩
  go_wp2
  go_ret
  exact ⟨rfl, rfl⟩
/-- The last of the files. -/
theorem last_file {m : Disk.Safe} {ps : List Disk.Pc} {fl : List Int} {first : Int} {K : Nat} (h : FilesAre m ps fl) (hf : ∀ x, isFile m ps x = decide (first ≤ x ∧ x < first + K)) (h0 : 0 ≤ first) (h1 : first + K ≤ 1152921504606846976) (hK : 0 < K) :
    0 < fl.length ∧ fl[fl.length - 1]? = some (first + K - 1) := by
  have hm : first + K - 1 ∈ fl := (h.mem _).2 ⟨i64_small (by omega) (by omega), by rw [hf]; simp; omega⟩
  obtain ⟨j, hj, e⟩ := List.getElem_of_mem hm
  have hpos : 0 < fl.length := by omega
  refine ⟨hpos, ?_⟩
  rw [List.getElem?_eq_getElem (by omega)]
  have hy := ((h.mem fl[fl.length - 1]).1 (List.getElem_mem _)).2
  rw [hf] at hy
  simp only [decide_eq_true_eq] at hy
  congr 1
  by_cases hjl : j = fl.length - 1
  · subst hjl; exact e
  · have := List.pairwise_iff_getElem.1 h.rises j (fl.length - 1) hj (by omega) (by omega)
    omega
section
variable {w : World} {B gp gw g n c : Nat} {F : Nat → Prop} {m : Disk.Safe} {ps : List Disk.Pc} {ser boot first : Int} {R : St} {T : List (List UInt8)} {A : Option Addr} {l : List ByteArray}
def PSavePost (w : World) (B gp g : Nat) (F : Nat → Prop) (n : Nat) (ps : List Disk.Pc) (ser boot first' : Int) (l' : List ByteArray) (e : Ending) (w' : World) : Prop :=
  e = .returned (.int .i64 0) ∧ ∃ gw' F' m' A' c', PtAt w' B gp gw' g F' (n + ps.length + l'.length + 1) m' [] ser boot first' (cur [] (ptx l'.length l')) [] A' c' l' ∧ w.heap.size ≤ gw' ∧ (∀ k, F' k → F k ∨ w.heap.size ≤ k) ∧ Kept (fun k => F k ∨ k = gp) w w' ∧ (∀ k, (Value.slice A' l'.length c').ownBlock = some k → w.heap.size ≤ k)
set_option maxHeartbeats 4000000 in
theorem psave_any (h : PtAt w B gp gw g F n m ps ser boot first R T A c l) (hf : Fits n m ps) (hB : B ≤ w.heap.size) (A0 : Option Addr) (c0 : Nat) (l' : List ByteArray) (hA : Src w 1 A0 l'.length (l'.map Value.string))
    (hAF : 0 < l'.length → ∀ ad, A0 = some ad → ¬ F ad.block ∧ ad.block ≠ gp) (hs : ∀ s ∈ l', s.size < 65536) (hl' : l'.length ≤ 10000) (h2 : first + (cur R T).length + l'.length + 2 ≤ 1073741824) (h3 : n + ps.length + l'.length + 2 < 100000) :
    Calls Try.prog 11 #[.pointer (some ⟨gp, 0, none⟩), .slice A0 l'.length c0] w (PSavePost w B gp g F n ps ser boot (first + (cur R T).length) l') := by
  have hno := pnone_any h.p
  have hcl := clong_no w A0 c0 l' hA (by omega) hs
  have hfi := files_any h.d hf.i64 hf.n (by have := hf.len; omega)
  have c1 : w.cell? ⟨gp, 1, none⟩ = some (.pointer (some ⟨g, 0, none⟩)) := h.p.cell 1
  have c2 : w.cell? ⟨gp, 2, none⟩ = some (.int .i64 first) := h.p.cell 2
  obtain ⟨K, hK⟩ : ∃ K, (cur R T).length = K := ⟨_, rfl⟩
  have hKpos : 0 < K := by
    rcases Nat.eq_zero_or_pos K with h0 | h0
    · rw [h0] at hK
      have h9 := cur_texts R T
      rw [List.eq_nil_of_length_eq_zero hK] at h9
      obtain ⟨k, h4, _⟩ := h.tx
      rw [h4] at h9
      cases h9
    · exact h0
  have hif := h.low.isFile h.log
  have hab := Log.above h.log
  rw [hK] at h2 hif hab ⊢
  have hf1 := h.f1
  have H := Lib.hid h; have HNO := Lib.hid hno; have HCL := Lib.hid hcl; have HFI := Lib.hid hfi; have HIF := Lib.hid hif; have HAB := Lib.hid hab; have HF := Lib.hid hf; have HA := Lib.hid hA; have HAF := Lib.hid hAF; have HS := Lib.hid hs
  clear h hno hcl hfi hif hab hf hA hAF hs hK
  go_enter Try.func11, Try.ntmps11
  go_wp2_with fail
  refine HNO.out.mono ?_
  rintro e w' ⟨rfl, rfl⟩
  go_wp2_with fail
  refine HCL.out.mono ?_
  rintro e w' ⟨rfl, rfl⟩
  go_wp2_with fail
  refine HFI.out.mono ?_
  rintro e w1 ⟨fl, A1, c1', rfl, hfa, hown, hnew, hk1⟩
  obtain ⟨hpos, hlast⟩ := last_file hfa HIF.out (by omega) (by omega) hKpos
  obtain ⟨ad1, rfl, -, e0⟩ := SlI.ints_cells (Src.of_own hown) hpos _ _ hlast
  have hcap := own_cap hown
  unfold maxLen at hcap
  have hw1 : IntKind.i64.wrap ((fl.length : Int) - 1) = (fl.length : Int) - 1 := IntWalk.i64_in _ (by omega)
  have hd0 : 0 ≤ (fl.length : Int) - 1 := by omega
  have hd1 : (fl.length : Int) - 1 < fl.length := by omega
  have ht1 : ((fl.length : Int) - 1).toNat = fl.length - 1 := by omega
  have hpos' : (0 : Int) < fl.length := by omega
  have hp1 := H.out.p.kept hk1 (fun z => z)
  have hdk1 := H.out.d.kept hk1 (fun _ _ z => z)
  have hbg := begin_any (.pointer (some ⟨gw, 0, none⟩)) (.slice A l.length c) hp1 hdk1 HAB.out HF.out A0 c0 l' (HA.out.kept hk1 (fun _ _ z => z)) HAF.out HS.out (by omega) (by omega) (by omega)
  have hsum : (first + (K : Int) - 1) + 1 = first + K := by omega
  have HBG := Lib.hid hbg; have HK1 := Lib.hid hk1; have HSUM := Lib.hid hsum
  clear hfa hown hnew hk1 hlast hcap hp1 hdk1 hbg hsum
  go_wp2_with fail
  refine HBG.out.mono ?_
  rintro e w3 ⟨rfl, F3, gw3, A3, c3, hd3, hw3, hp3, hn3, hgw3, hg3, hk3⟩
  have hn3' : n + (ps ++ pcsOf (first + K) [] (ptx l'.length l')).length = n + ps.length + l'.length + 1 := by rw [List.length_append, pcsOf_len, ptx_len]; omega
  rw [hn3'] at hd3
  have hkp := keep_any (.pointer (some ⟨gw3, 0, none⟩)) (.slice A3 l'.length c3) hp3 hd3 (by omega) (first + K) 1073741826
  have hcl3 := cur_nil_len (ptx l'.length l')
  rw [ptx_len] at hcl3
  have hfin : ∀ w4, DiskAt w4 g F3 (n + ps.length + l'.length + 1) (keepM (first + K) 1073741826 (syncM m (ps ++ pcsOf (first + K) [] (ptx l'.length l')))) [] ser boot → Kept F3 w3 w4 → PSavePost w B gp g F n ps ser boot (first + K) l' (.returned (.int .i64 0)) w4 := by
    intro w4 hd4 hk4
    have hn1 : ¬ F3 gp := DiskAt.not hd3 hp3 (by decide) (by decide)
    have hn2 : ¬ F3 gw3 := DiskAt.not hd3 hw3 (by decide) (by decide)
    refine ⟨rfl, gw3, F3, _, A3, c3, ⟨hd4, hp3.kept hk4 hn1, hw3.kept hk4 hn2, ⟨own_kept hn3.1 hk4 (fun k hk hh => ?_), fun k hk => ?_⟩, log_kept (log_begun (by omega) HS.out HAB.out) (by omega), ⟨fun x hx => by unfold keepM; rw [if_neg (by omega)], fun p hp => by cases hp⟩, by omega, ⟨l'.length, by rw [cur_texts, List.append_nil]; rfl, by rw [cur_texts, List.length_append, ptx_len]; simp⟩, HS.out⟩, Nat.le_trans HK1.out.size hgw3, fun k hk => ?_, ?_, fun k hk => Nat.le_trans HK1.out.size (hn3.2 k hk)⟩
    · obtain ⟨cs, h9⟩ := own_has hn3.1 hk
      exact DiskAt.not hd3 h9 (by decide) (by decide) hh
    · exact Nat.le_trans hB (Nat.le_trans HK1.out.size (hn3.2 k hk))
    · rcases hg3 k hk with z | z
      · exact .inl z
      · exact .inr (Nat.le_trans HK1.out.size z)
    · refine (((HK1.out.mono (fun _ z => z.elim)).then hk3)).trans hk4 (fun k hk => ?_)
      rcases hg3 k hk with z | z
      · exact .inl (.inl z)
      · exact .inr (Nat.le_trans HK1.out.size z)
  have d2 : w3.cell? ⟨gp, 2, none⟩ = some (.int .i64 (first + K)) := hp3.cell 2
  have HKP := Lib.hid hkp; have HFIN := Lib.hid hfin
  clear hd3 hw3 hp3 hn3 hgw3 hg3 hk3 hn3' hkp hfin hcl3 hw1 hd0 hd1 ht1 hpos' e0 hpos
  go_wp2_with fail
  refine HKP.out.mono ?_
  rintro e w4 ⟨rfl, hd4, hk4⟩
  have HE := Lib.hid (HFIN.out w4 hd4 hk4)
  clear hd4 hk4
  go_wp2
  go_ret
  exact HE.out
end
end Pt
end Go.Proofs.Ythgdkhgpboaplaa
