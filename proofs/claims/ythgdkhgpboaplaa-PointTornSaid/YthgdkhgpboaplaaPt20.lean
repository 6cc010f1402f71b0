
/- The checkpointed log: Size; a point beside another disk. -/
import Derived.Test.YthgdkhgpboaplaaPt19
import Derived.Test.YthgdkhgpboaplaaPt11
set_option linter.unusedSimpArgs false
set_option linter.unusedVariables false
namespace Go.Proofs.Ythgdkhgpboaplaa
open Go.RowKit
set_option maxRecDepth 100000
namespace Pt
open Disk Fr Vn Ops Wl
def szN (d : Nat → Nat) : Nat → Nat
  | 0 => 0
  | i + 1 => szN d i + d i
theorem szN_le {d : Nat → Nat} {b : Nat} (h : ∀ i, d i ≤ b) : ∀ k, szN d k ≤ k * b
  | 0 => Nat.zero_le _
  | k + 1 => by have := szN_le h k; have := h k; show szN d k + d k ≤ _; rw [Nat.succ_mul]; omega
theorem szN_total (R : St) : szN (fun j => (bts R j).length) R.length = total R.reverse := by
  induction R with
  | nil => rfl
  | cons f R ih =>
    have h1 : ∀ k, k ≤ R.length → szN (fun j => (bts (f :: R) j).length) k = szN (fun j => (bts R j).length) k := by
      intro k hk
      induction k with
      | zero => rfl
      | succ k ihk =>
        show szN _ k + _ = szN _ k + _
        rw [ihk (by omega)]
        congr 1
        show (bts (f :: R) k).length = _
        simp only [bts]
        rw [if_neg (by omega)]
    show szN _ R.length + (bts (f :: R) R.length).length = _
    rw [h1 _ (Nat.le_refl _), ih]
    simp [bts, total]
section
variable {w : World} {B gp gw g n c : Nat} {F : Nat → Prop} {m : Disk.Safe} {ps : List Disk.Pc} {ser boot first : Int} {R : St} {T : List (List UInt8)} {A : Option Addr} {l : List ByteArray}
set_option maxHeartbeats 4000000 in
theorem psize_any (h : PtAt w B gp gw g F n m ps ser boot first R T A c l) (hf : Fits n m ps) (hK : (cur R T).length ≤ 1000) (h2 : first ≤ 1073741824) :
    Calls Try.prog 13 #[.pointer (some ⟨gp, 0, none⟩)] w fun e w' => e = .returned (.int .i64 (szN (fun j => (dataOf m ps (first + j)).size) (cur R T).length : Nat)) ∧ Kept NoF w w' := by
  have hno := pnone_any h.p
  have hfi := files_any h.d hf.i64 hf.n (by have := hf.len; omega)
  have hif := h.low.isFile h.log
  have hf1 := h.f1
  have hsb : ∀ j : Nat, (dataOf m ps (first + j)).size ≤ 66000 := fun j => by rw [(h.log.file j).2, ofL_sz]; exact bts_le (cur_ok h.log.ok h.log.T) j
  have hda := fun (x : Int) (hx : 0 ≤ x ∧ x ≤ 2305843009213693952) (W : World) (hW : Kept NoF w W) => data_any (h.d.kept hW (fun _ _ z => z)) x (i64_small hx.1 (by omega)) (by have := hf.len; omega) (by have := hf.file x; have := hf.total; omega)
  obtain ⟨d, hd⟩ : ∃ d : Nat → Nat, (fun j : Nat => (dataOf m ps (first + j)).size) = d := ⟨_, rfl⟩
  have hdj : ∀ j : Nat, (dataOf m ps (first + j)).size = d j := fun j => by rw [← hd]
  have hdb : ∀ j, d j ≤ 66000 := fun j => by rw [← hdj j]; exact hsb j
  have hsz := szN_le hdb
  obtain ⟨K, hKe⟩ : ∃ K, (cur R T).length = K := ⟨_, rfl⟩
  rw [hKe] at hif hK ⊢
  rw [hd]
  have hp := h.p
  have c1 : w.cell? ⟨gp, 1, none⟩ = some (.pointer (some ⟨g, 0, none⟩)) := hp.cell 1
  have HNO := Lib.hid hno; have HFI := Lib.hid hfi; have HIF := Lib.hid hif; have HDA := Lib.hid hda; have HDJ := Lib.hid hdj; have HDB := Lib.hid hdb; have HSZ := Lib.hid hsz; have HP := Lib.hid hp
  clear hno hfi hif hda hdj hdb hsz h hf hsb hd hp hKe
  go_enter Try.func13, Try.ntmps13
  go_wp2_with fail
  refine HNO.out.mono ?_
  rintro e w' ⟨rfl, rfl⟩
  go_wp2_with fail
  refine HFI.out.mono ?_
  rintro e w1 ⟨fl, A1, c1', rfl, hfa, hown, -, hk1⟩
  have hfl := files_nums hfa HIF.out (by omega) (by omega)
  have hlen : fl.length = K := by rw [hfl]; simp [nums]
  have hsrc := Src.of_own hown
  rw [hlen] at hsrc ⊢
  have hget : ∀ i : Nat, i < K → fl[i]? = some (first + i) := by
    intro i hi
    rw [hfl]
    unfold nums
    rw [List.getElem?_map, List.getElem?_range hi]
    rfl
  have HSRC := Lib.hid hsrc; have HGET := Lib.hid hget; have HK1 := Lib.hid hk1
  clear hfa hown hk1 hfl hlen hsrc hget c1
  go_wp2_with fail
  go_loopw [3, 14] (fun v3 v14 wr => ∃ i : Nat, i ≤ K ∧ v14 = .int .i64 i ∧ v3 = .int .i64 (szN d i : Nat) ∧ Kept NoF w1 wr) (fun _ v14 _ => K - (intOf v14).toNat)
  case atStart => exact ⟨0, Nat.zero_le _, rfl, rfl, Kept.refl _ _⟩
  case round =>
    obtain ⟨i, hi, rfl, rfl, hk⟩ := hrel
    by_cases hil : i < K
    · have hx := HGET.out i hil
      obtain ⟨ad, rfl, -, e0⟩ := SlI.ints_cells (HSRC.out.kept hk (fun _ _ z => z)) (by omega) i _ hx
      obtain ⟨x, hxe⟩ : ∃ x, first + (i : Int) = x := ⟨_, rfl⟩
      rw [hxe] at e0 hx
      have hpr := (HP.out.kept HK1.out (fun z => z)).kept hk (fun z => z)
      have d1 : wr.cell? ⟨gp, 1, none⟩ = some (.pointer (some ⟨g, 0, none⟩)) := hpr.cell 1
      have d2 : wr.cell? ⟨gp, 2, none⟩ = some (.int .i64 first) := hpr.cell 2
      have q1 : first ≤ x := by omega
      have hda := HDA.out x ⟨by omega, by omega⟩ wr (HK1.out.then hk)
      obtain ⟨D, hD⟩ : ∃ D, dataOf m ps x = D := ⟨_, rfl⟩
      have hDs : D.size = d i := by rw [← hD, ← hxe]; exact HDJ.out i
      rw [hD] at hda
      have hb1 := HSZ.out i
      have hb2 := HDB.out i
      have hst : szN d (i + 1) = szN d i + D.size := by rw [hDs]; rfl
      have hq : szN d i ≤ 66000000 := by omega
      have hq2 : D.size ≤ 66000 := by omega
      obtain ⟨z, hz⟩ : ∃ z, szN d i = z := ⟨_, rfl⟩
      rw [hz] at hst hq ⊢
      have HD := Lib.hid hda; have HST := Lib.hid hst; have HK := Lib.hid hk
      clear hk hx hpr hda hD hDs hb1 hb2 hst hz hxe
      go_wp2_with fail
      refine HD.out.mono ?_
      rintro e w3 ⟨rfl, hk3⟩
      have HK3 := Lib.hid (HK.out.then hk3)
      clear hk3
      go_wp2
      go_roundw
      case rel => exact ⟨i + 1, by omega, by go_num, by rw [HST.out]; go_num, HK3.out⟩
      case measure => simp [intOf]; omega
    · obtain rfl : i = K := by omega
      have HK := Lib.hid (HK1.out.then hk)
      clear hk
      go_wp2
      go_ret
      exact ⟨rfl, HK.out⟩
theorem ptexts_any {v0 : Value} {f : Int} (hp : PAt w gp v0 g f (.slice A l.length c)) (hr : Src w 1 A l.length (l.map Value.string)) (hl : l.length ≤ 1000000) :
    Calls Try.prog 14 #[.pointer (some ⟨gp, 0, none⟩)] w fun e w' => ∃ A' c', e = .returned (.slice A' l.length c') ∧ NewSl 9 1 w.heap.size w' A' l.length c' (l.map Value.string) ∧ Below w.heap.size w w' := by
  have hno := pnone_any hp
  have hcl := clone_any w A c l hr (by omega)
  have c3 : w.cell? ⟨gp, 3, none⟩ = some (.slice A l.length c) := hp.cell 3
  have HNO := Lib.hid hno; have HCL := Lib.hid hcl
  clear hno hcl hp hr hl
  go_enter Try.func14, Try.ntmps14
  go_wp2_with fail
  refine HNO.out.mono ?_
  rintro e w' ⟨rfl, rfl⟩
  go_wp2_with fail
  refine HCL.out.mono ?_
  rintro e w' ⟨A', c', rfl, h1, h2⟩
  go_wp2
  go_ret
  exact ⟨A', c', rfl, h1, h2⟩
/-- A point is as it was where what has turned lies below all of it. -/
theorem PtW.keptLow {w0 w' : World} {G : Nat → Prop} (h : PtW w0 w gp gw g F n m ps boot first R T A c l) (hk : Kept G w w') (hG : ∀ k, G k → k < w0.heap.size) : PtAt w' w0.heap.size gp gw g F n m ps 1 boot first R T A c l :=
  ⟨h.pt.d.kept hk (fun k hf hg => by have := h.f k hf; have := hG k hg; omega), h.pt.p.kept hk (fun hg => by have := h.gp; have := hG _ hg; omega), h.pt.wl.kept hk (fun hg => by have := h.gw; have := hG _ hg; omega),
    ⟨own_kept h.pt.row.1 hk (fun k hr hg => by have := h.pt.row.2 k hr; have := hG k hg; omega), h.pt.row.2⟩, h.pt.log, h.pt.low, h.pt.f1, h.pt.tx, h.pt.hs⟩
end
end Pt
end Go.Proofs.Ythgdkhgpboaplaa
