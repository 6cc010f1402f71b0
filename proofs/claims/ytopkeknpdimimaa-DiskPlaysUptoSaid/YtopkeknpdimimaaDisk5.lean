
/- The disk: Data. -/
import Derived.Test.YtopkeknpdimimaaDisk4
import Derived.Test.YtopkeknpdimimaaBuilder
set_option linter.unusedSimpArgs false
set_option linter.unusedVariables false
namespace Go.Proofs.Ytopkeknpdimimaa
open Go.RowKit
set_option maxRecDepth 100000
namespace Disk
variable {F : Nat → Prop} {w : World} {g n : Nat} {m : Safe} {ps : List Pc} {ser boot : Int}

/-- The bytes of the pieces of file f. -/
def ofFile (f : Int) (ps : List Pc) : List UInt8 := ps.flatMap fun p => if p.1 = f then p.2.data.toList else []
theorem ofFile_snoc (f : Int) (ps : List Pc) (p : Pc) : ofFile f (ps ++ [p]) = ofFile f ps ++ if p.1 = f then p.2.data.toList else [] := by simp [ofFile]
theorem ofFile_cons (f : Int) (p : Pc) (ps : List Pc) : ofFile f (p :: ps) = (if p.1 = f then p.2.data.toList else []) ++ ofFile f ps := by simp [ofFile]
theorem total_cons (p : Pc) (ps : List Pc) : total (p :: ps) = p.2.size + total ps := by simp [total]
theorem ofFile_len (f : Int) (ps : List Pc) : (ofFile f ps).length ≤ total ps := by
  induction ps with
  | nil => simp [ofFile]
  | cons p ps ih =>
    rw [ofFile_cons, total_cons, List.length_append]
    split
    · simp; omega
    · simp; omega
/-- A file's bytes. -/
def dataOf (m : Safe) (ps : List Pc) (f : Int) : ByteArray := ⟨((sget m f).data.toList ++ ofFile f ps).toArray⟩

theorem none_kept (h : DiskAt w g F n m ps ser boot) : ∀ W, Kept NoF w W → Calls Try.prog 28 #[.pointer (some ⟨g, 0, none⟩)] W fun e w' => e = .returned (.bool false) ∧ W = w' :=
  fun W hW => none_any (h.kept hW fun _ _ x => x)

set_option maxHeartbeats 2000000 in
theorem data_any (h : DiskAt w g F n m ps ser boot) (f : Int) (hf : I64 f) (hlen : ps.length ≤ 100000) (hsz : (sget m f).size + total ps ≤ 140737488355328) :
    Calls Try.prog 8 #[.pointer (some ⟨g, 0, none⟩), .int .i64 f] w fun e w' => e = .returned (.string (dataOf m ps f)) ∧ Kept NoF w w' := by
  have hn := none_any h
  have HN := Lib.hid hn; clear hn
  obtain ⟨mb, A, c, hF, hg, hm, ho⟩ := h
  have c0 : w.cell? ⟨g, 0, none⟩ = some (.map (some mb)) := hg.cell 0
  have c1 : w.cell? ⟨g, 1, none⟩ = some (.slice A ps.length c) := hg.cell 1
  have hgl := hg.lt
  have hlk := ((hm.kept ((Kept.refl NoF w).alloc (.cells #[.pointer none, .slice none 0 0] 55)) (fun x => x)).look hf).1
  have HG := Lib.hid hg; clear hg
  have HM := Lib.hid hm; clear hm
  have HS := Lib.hid (Src.of_own ho); clear ho
  have HIB := Lib.hid (Lib.IsBuilderF.of (Lib.fresh_isBuilder 55 5 w))
  clear hF
  go_enter Try.func8, Try.ntmps8
  go_wp2_with fail
  refine HN.out.mono ?_
  rintro e w' ⟨rfl, rfl⟩
  go_wp2_with fail
  refine (Bld.write_any w.heap.size w.heap.size [] (sget m f) _ HIB.out (by simp; omega) (by simp)).mono ?_
  rintro e w1 ⟨rfl, hb1, hk1, -⟩
  have hbl : Below w.heap.size w w1 := ((Below.refl _ _).alloc (Nat.le_refl _) _).trans hk1
  have hkb : Kept NoF w w1 := Kept.of_below hbl (fun k h _ => h)
  have c1' : w1.cell? ⟨g, 1, none⟩ = some (.slice A ps.length c) := (HG.out.kept hkb (fun x => x)).cell 1
  have HIB1 : Lib.IsBuilderF 55 5 w.heap.size w.heap.size (Lib.byteCells ((sget m f).data.toList ++ ofFile f (ps.take 0))) w1 := by
    refine .inr ?_
    simpa [ofFile, show Lib.strCells (sget m f) = Lib.byteCells (sget m f).data.toList from rfl] using hb1
  have HIB2 := Lib.hid HIB1; clear HIB1 hb1
  go_wp2_with fail
  go_loopw [7, 22] (fun v7 v22 wr => ∃ i : Nat, i ≤ ps.length ∧ v22 = .int .i64 i ∧ Lib.IsBuilderF 55 5 w.heap.size w.heap.size (Lib.byteCells ((sget m f).data.toList ++ ofFile f (ps.take i))) wr ∧ Below w.heap.size w wr) (fun _ v22 _ => ps.length - (intOf v22).toNat)
  case atStart => exact ⟨0, Nat.zero_le _, rfl, HIB2.out, hbl⟩
  case round =>
    obtain ⟨i, hi, rfl, hib, hbw⟩ := hrel
    have HK := Lib.hid (Kept.of_below (F := NoF) hbw (fun k h _ => h))
    have HBW := Lib.hid hbw; clear hbw
    have hsl := HBW.out.size
    have HIB := Lib.hid hib; clear hib
    by_cases hil : i < ps.length
    · obtain ⟨q, hq⟩ : ∃ q, ps[i]? = some q := ⟨_, List.getElem?_eq_getElem hil⟩
      have hkS := HS.out.kept HK.out (fun _ _ x => x)
      obtain ⟨ad, rfl, hl1, e0, e1⟩ := pc_cells hkS (by omega) i q hq
      clear hkS
      have ht := total_take ps (i + 1)
      rw [take_snoc hq, total_snoc] at ht
      have hol := ofFile_len f (ps.take i)
      have HT := Lib.hid (take_snoc hq)
      obtain ⟨q1, q2⟩ := q
      dsimp only at e0 e1 ht
      clear hq
      by_cases hqf : q1 = f
      · subst hqf
        go_wp2_with fail
        refine (Bld.write_any w.heap.size w.heap.size _ q2 _ (HIB.out.alloc _) (by simp [Lib.byteCells_length]; omega) (by simp; omega)).mono ?_
        rintro e w2 ⟨rfl, hb2, hk2, -⟩
        have hb3 : Below w.heap.size w w2 := (HBW.out.alloc hsl _).trans hk2
        have hb4 : Lib.IsBuilderF 55 5 w.heap.size w.heap.size (Lib.byteCells ((sget m q1).data.toList ++ ofFile q1 (ps.take (i + 1)))) w2 := by
          refine .inr ?_
          rw [HT.out, ofFile_snoc]
          simpa [Lib.byteCells, Lib.strCells] using hb2
        go_wp2_with fail
        go_roundw
        case rel => exact ⟨i + 1, by omega, by go_num, hb4, hb3⟩
        case measure => simp [intOf]; omega
      · have hne : (q1 == f) = false := by simpa using hqf
        have hb4 : Lib.byteCells ((sget m f).data.toList ++ ofFile f (ps.take (i + 1))) = Lib.byteCells ((sget m f).data.toList ++ ofFile f (ps.take i)) := by
          rw [HT.out, ofFile_snoc]
          simp [hqf]
        have HB4 := Lib.hid hb4; clear hb4
        go_wp2_with fail
        go_roundw
        case rel => exact ⟨i + 1, by omega, by go_num, by rw [HB4.out]; exact HIB.out.alloc _, HBW.out.alloc hsl _⟩
        case measure => simp [intOf]; omega
    · obtain rfl : i = ps.length := by omega
      go_wp2_with fail
      refine (Bld.string_any w.heap.size w.heap.size _ _ HIB.out (by omega)).mono ?_
      rintro e w2 ⟨rfl, hb2, hk2, -⟩
      have hb3 := HBW.out.trans hk2
      go_wp2_with fail
      go_ret
      exact ⟨rfl, Kept.of_below hb3 (fun k h _ => h)⟩
end Disk
end Go.Proofs.Ytopkeknpdimimaa
