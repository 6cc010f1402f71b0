
/- The checkpointed log: keep. -/
import Derived.Test.YthgdkhgpboaplaaPt5
set_option linter.unusedSimpArgs false
set_option linter.unusedVariables false
namespace Go.Proofs.Ythgdkhgpboaplaa
open Go.RowKit
set_option maxRecDepth 100000
namespace Pt
open Disk Fr Vn Ops Wl
/-- No file below the first number. -/
structure LowN (first : Int) (m : Disk.Safe) (ps : List Disk.Pc) : Prop where
  file : ∀ x, x < first → m x = none
  pc : ∀ p ∈ ps, first ≤ p.1
section
variable {first : Int} {R : St} {T : List (List UInt8)} {m : Disk.Safe} {ps : List Disk.Pc}
theorem LowN.low (h : LowN first m ps) : Low first m ps := ⟨fun x hx => by unfold sget; rw [h.file x hx]; rfl, h.pc⟩
theorem sync_low {x : Int} : ∀ (ps : List Disk.Pc) (m : Disk.Safe), (∀ p ∈ ps, p.1 ≠ x) → syncM m ps x = m x
  | [], _, _ => rfl
  | p :: ps, m, h => by
    have h1 := h p (by simp)
    rw [syncM, sync_low ps _ (fun q hq => h q (by simp [hq]))]
    unfold sput
    rw [if_neg (fun e => h1 e.symm)]
theorem crash_low {x : Int} : ∀ (ps : List Disk.Pc) (m : Disk.Safe) (left : Nat), (∀ p ∈ ps, p.1 ≠ x) → crashM m left ps x = m x
  | [], _, _, _ => rfl
  | p :: ps, m, left, h => by
    have h1 := h p (by simp)
    have h2 : ∀ s, sput m p.1 s x = m x := fun s => by unfold sput; rw [if_neg (fun e => h1 e.symm)]
    unfold crashM
    split
    · split
      · rfl
      · exact h2 _
    · rw [crash_low ps _ _ (fun q hq => h q (by simp [hq])), h2]
theorem LowN.sync (h : LowN first m ps) : LowN first (syncM m ps) [] :=
  ⟨fun x hx => by rw [sync_low ps m (fun p hp e => by have := h.pc p hp; omega)]; exact h.file x hx, fun p hp => by cases hp⟩
theorem LowN.crash (h : LowN first m ps) (left : Nat) : LowN first (crashM m left ps) [] :=
  ⟨fun x hx => by rw [crash_low ps m left (fun p hp e => by have := h.pc p hp; omega)]; exact h.file x hx, fun p hp => by cases hp⟩
theorem LowN.append (h : LowN first m ps) {f : Int} {s : ByteArray} (hf : first ≤ f) : LowN first m (ps ++ [(f, s)]) :=
  ⟨h.file, fun p hp => by
    rcases List.mem_append.1 hp with hp | hp
    · exact h.pc p hp
    · simp at hp; subst hp; exact hf⟩
theorem LowN.isFile (h : LowN first m ps) (hl : Log first R T m ps) (x : Int) : isFile m ps x = decide (first ≤ x ∧ x < first + (cur R T).length) := by
  by_cases hx : first ≤ x
  · have h1 := (hl.file (x - first).toNat).1
    rw [show first + ((x - first).toNat : Int) = x by omega] at h1
    rw [h1]
    congr 1
    rw [eq_iff_iff]
    omega
  · have h1 : ¬ (first ≤ x ∧ x < first + (cur R T).length) := fun h => hx h.1
    rw [decide_eq_false h1]
    unfold Disk.isFile
    rw [h.file x (by omega)]
    simp only [Option.isSome_none, Bool.false_or, List.any_eq_false, decide_eq_true_eq]
    intro p hp e
    have := h.pc p hp
    omega
/-- Above a log there is room for another one. -/
theorem Log.above (h : Log first R T m ps) : Log (first + (cur R T).length) [] [] m ps := by
  have hno : ∀ i : Nat, Disk.isFile m ps (first + (cur R T).length + i) = false := fun i => by
    have := (h.file ((cur R T).length + i)).1
    rw [show first + (((cur R T).length + i : Nat) : Int) = first + (cur R T).length + i by omega] at this
    rw [this]
    simp
  refine ⟨fun i => ?_, ?_, (fun f hf => by cases hf), (fun t ht => by cases ht)⟩
  · have := hno i
    unfold Disk.isFile at this
    simp only [Bool.or_eq_false_iff, Option.isSome_eq_false_iff, Option.isNone_iff_eq_none] at this
    rw [this.1]
    rfl
  · show _ = []
    rw [List.filter_eq_nil_iff]
    intro p hp hm
    simp only [mine, decide_eq_true_eq] at hm
    have := hno (p.1 - (first + (cur R T).length)).toNat
    rw [show first + ((cur R T).length : Int) + ((p.1 - (first + (cur R T).length)).toNat : Int) = p.1 by omega] at this
    unfold Disk.isFile at this
    simp only [Bool.or_eq_false_iff, List.any_eq_false, decide_eq_true_eq] at this
    exact this.2 p hp rfl
end
/-- The files from a number up to another one. -/
def keepM (a b : Int) (m : Disk.Safe) : Disk.Safe := fun x => if a ≤ x ∧ x < b then m x else none
def dropM (a b : Int) (fl : List Int) (m : Disk.Safe) : Disk.Safe := fun x => if x ∈ fl ∧ ¬ (a ≤ x ∧ x < b) then none else m x
theorem rises_take {fl : List Int} (h : fl.Pairwise (· < ·)) {i : Nat} {x : Int} (hx : fl[i]? = some x) : x ∉ fl.take i := by
  intro hm
  obtain ⟨j, hj, e⟩ := List.getElem_of_mem hm
  rw [List.length_take] at hj
  rw [List.getElem_take] at e
  obtain ⟨hi, e2⟩ := List.getElem?_eq_some_iff.1 hx
  have := List.pairwise_iff_getElem.1 h j i (by omega) hi (by omega)
  omega
theorem MapIs.congr {w : World} {b n : Nat} {m m' : Disk.Safe} (h : MapIs w b n m) (he : ∀ k, I64 k → m' k = m k) : MapIs w b n m' := by
  obtain ⟨D, ho, hD⟩ := h
  refine ⟨D, ho, fun k hk => ?_⟩
  have := hD k hk
  unfold sget at this ⊢
  rw [he k hk]
  exact this
theorem DiskAt.congr {F : Nat → Prop} {w : World} {g n : Nat} {m m' : Disk.Safe} {ps : List Disk.Pc} {ser boot : Int} (h : DiskAt w g F n m ps ser boot) (he : ∀ k, I64 k → m' k = m k) : DiskAt w g F n m' ps ser boot := by
  obtain ⟨mb, A, c, hF, hg, hm, ho⟩ := h
  exact ⟨mb, A, c, hF, hg, MapIs.congr hm he, ho⟩
section
variable {F : Nat → Prop} {w : World} {g gp n : Nat} {m : Disk.Safe} {ser boot first : Int}
set_option maxHeartbeats 4000000 in
theorem keep_any (v0 v3 : Value) (hp : PAt w gp v0 g first v3) (hd : DiskAt w g F n m [] ser boot) (hn : n ≤ 100000) (a b : Int) :
    Calls Try.prog 26 #[.pointer (some ⟨gp, 0, none⟩), .int .i64 a, .int .i64 b] w fun e w' => e = .returned (.tuple #[]) ∧ DiskAt w' g F n (keepM a b m) [] ser boot ∧ Kept F w w' := by
  have hfi := files_any hd (fun p hp => by cases hp) hn (by decide)
  have hgF : ¬ F gp := DiskAt.not hd hp (by decide) (by decide)
  have c1 : w.cell? ⟨gp, 1, none⟩ = some (.pointer (some ⟨g, 0, none⟩)) := hp.cell 1
  have hlt := hd.lt
  have HFI := Lib.hid hfi; have HD := Lib.hid hd; have HP := Lib.hid hp; have HGF := Lib.hid hgF; have HLT := Lib.hid hlt
  clear hfi hd hp hgF hlt
  go_enter Try.func26, Try.ntmps26
  go_wp2_with fail
  refine HFI.out.mono ?_
  rintro e w1 ⟨fl, A, c, rfl, hfa, hown, hnew, hk1⟩
  have HFA := Lib.hid hfa; have HOWN := Lib.hid hown; have HNEW := Lib.hid hnew; have HK1 := Lib.hid hk1
  have hd1 := HD.out.kept hk1 (fun _ _ z => z)
  have hcap := own_cap hown
  unfold maxLen at hcap
  have HD1 := Lib.hid hd1
  clear hfa hown hnew hk1 c1 hd1
  go_wp2_with fail
  go_loopw [14] (fun v14 wr => ∃ i : Nat, i ≤ fl.length ∧ v14 = .int .i64 i ∧ DiskAt wr g F n (dropM a b (fl.take i) m) [] ser boot ∧ Kept F w1 wr) (fun v14 _ => fl.length - (intOf v14).toNat)
  case atStart => exact ⟨0, Nat.zero_le _, rfl, DiskAt.congr HD1.out (fun k hk => by unfold dropM; rw [if_neg (fun h => by simp at h)]), Kept.refl _ _⟩
  case round =>
    obtain ⟨i, hi, rfl, hd, hk⟩ := hrel
    have hsrc : Src wr 1 A fl.length (fl.map (Value.int .i64)) := by
      refine Src.of_own (own_kept HOWN.out hk (fun b hb hf => ?_))
      have h1 := HNEW.out b hb
      have h2 := HLT.out b hf
      omega
    have hpr := (HP.out.kept HK1.out (fun z => z)).kept hk HGF.out
    have d1 : wr.cell? ⟨gp, 1, none⟩ = some (.pointer (some ⟨g, 0, none⟩)) := hpr.cell 1
    have HD2 := Lib.hid hd; have HK := Lib.hid hk; have HSRC := Lib.hid hsrc
    clear hd hk hsrc hpr
    by_cases hil : i < fl.length
    · obtain ⟨x, hx⟩ : ∃ x, fl[i]? = some x := ⟨_, List.getElem?_eq_getElem hil⟩
      obtain ⟨ad, rfl, -, e0⟩ := SlI.ints_cells HSRC.out (by omega) i x hx
      have hxm := (HFA.out.mem x).1 (List.mem_of_getElem? hx)
      have hnt := rises_take HFA.out.rises hx
      have htk := Disk.take_snoc hx
      by_cases hin : a ≤ x ∧ x < b
      · obtain ⟨h1, h2⟩ := hin
        have q1 : ¬ x < a := by omega
        have q2 : ¬ b ≤ x := by omega
        have hfin : DiskAt wr g F n (dropM a b (fl.take (i + 1)) m) [] ser boot := DiskAt.congr HD2.out (fun k hk => by
          unfold dropM
          rw [htk]
          by_cases hkx : k = x
          · subst hkx
            rw [if_neg (fun h => h.2 ⟨h1, h2⟩), if_neg (fun h => hnt h.1)]
          · simp [hkx])
        have HFIN := Lib.hid hfin
        clear hfin hxm hnt htk hx
        go_wp2
        go_roundw
        case rel => exact ⟨i + 1, by omega, by go_num, HFIN.out, HK.out⟩
        case measure => simp [intOf]; omega
      · have hisf : isFile (dropM a b (fl.take i) m) [] x = true := by
          have := hxm.2
          unfold isFile at this ⊢
          unfold dropM
          rw [if_neg (fun h => hnt h.1)]
          exact this
        have hdr := drop_any HD2.out x hxm.1 hn hisf
        have hfin : ∀ w3, DiskAt w3 g F n (mdel (dropM a b (fl.take i) m) x) [] ser boot → DiskAt w3 g F n (dropM a b (fl.take (i + 1)) m) [] ser boot := fun w3 h => DiskAt.congr h (fun k hk => by
          unfold mdel dropM
          rw [htk]
          by_cases hkx : k = x
          · subst hkx
            rw [if_pos ⟨by simp, hin⟩, if_pos rfl]
          · rw [if_neg hkx]; simp [hkx])
        have HDR := Lib.hid hdr; have HFIN := Lib.hid hfin
        clear hdr hfin hisf hxm hnt htk hx
        by_cases q1 : x < a
        · go_wp2_with fail
          refine HDR.out.mono ?_
          rintro e w3 ⟨rfl, hd3, hk3⟩
          have HD3 := Lib.hid (HFIN.out w3 hd3); have HK3 := Lib.hid (HK.out.then hk3)
          clear hd3 hk3
          go_wp2
          go_roundw
          case rel => exact ⟨i + 1, by omega, by go_num, HD3.out, HK3.out⟩
          case measure => simp [intOf]; omega
        · have q2 : b ≤ x := by
            rcases Int.lt_or_le x b with h | h
            · exact absurd ⟨by omega, h⟩ hin
            · exact h
          go_wp2_with fail
          refine HDR.out.mono ?_
          rintro e w3 ⟨rfl, hd3, hk3⟩
          have HD3 := Lib.hid (HFIN.out w3 hd3); have HK3 := Lib.hid (HK.out.then hk3)
          clear hd3 hk3
          go_wp2
          go_roundw
          case rel => exact ⟨i + 1, by omega, by go_num, HD3.out, HK3.out⟩
          case measure => simp [intOf]; omega
    · obtain rfl : i = fl.length := by omega
      rw [List.take_length] at HD2
      have hfin : DiskAt wr g F n (keepM a b m) [] ser boot := DiskAt.congr HD2.out (fun k hk => by
        unfold keepM dropM
        by_cases hin : a ≤ k ∧ k < b
        · rw [if_pos hin, if_neg (fun h => h.2 hin)]
        · rw [if_neg hin]
          by_cases hm : k ∈ fl
          · rw [if_pos ⟨hm, hin⟩]
          · rw [if_neg (fun h => hm h.1)]
            have h9 : ¬ isFile m [] k = true := fun h => hm ((HFA.out.mem k).2 ⟨hk, h⟩)
            unfold isFile at h9
            exact (by simpa using h9 : m k = none).symm)
      have HFIN := Lib.hid hfin
      clear hfin
      go_wp2
      go_end0
      exact ⟨rfl, HFIN.out, (HK1.out.mono (fun _ z => z.elim)).then HK.out⟩
end
end Pt
end Go.Proofs.Ythgdkhgpboaplaa
