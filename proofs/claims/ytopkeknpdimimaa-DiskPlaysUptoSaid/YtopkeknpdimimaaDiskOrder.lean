
/- For every list of calls and every number, DiskOrder returns true: what a crash leaves of pieces that were written one behind the other is a beginning. No condition. -/
import Derived.Test.YtopkeknpdimimaaRows
import Derived.Test.YtopkeknpdimimaaDiskAwake
import Derived.Test.YtopkeknpdimimaaDiskRef
import Derived.Test.YtopkeknpdimimaaKit
import Derived.ProofKit
import Derived.OpenShut
import Derived.Lib.SmallJoins
set_option linter.unusedSimpArgs false
set_option linter.unusedVariables false
namespace Go.Proofs.Ytopkeknpdimimaa
open Go.RowKit
set_option maxRecDepth 100000
namespace Disk

/-! ### What the law says, in plain words -/
/-- Pieces cut where 'left' bytes end. -/
def cuts (left : Nat) : List Pc → List Pc
  | [] => []
  | p :: ps => (p.1, p.2.extract 0 (min left p.2.size)) :: cuts (left - min left p.2.size) ps
theorem cuts_zero (ps : List Pc) (f : Int) : ofFile f (cuts 0 ps) = [] := by
  induction ps with
  | nil => rfl
  | cons p ps ih =>
    rw [cuts, ofFile_cons]
    have e : 0 - min 0 p.2.size = 0 := by omega
    rw [e, ih, show min 0 p.2.size = 0 by omega]
    split <;> simp
theorem extract_all (s : ByteArray) : s.extract 0 s.size = s := by simp
theorem crash_cuts (f : Int) : ∀ (ps : List Pc) (m : Safe) (left : Nat), (sget (crashM m left ps) f).data.toList = (sget m f).data.toList ++ ofFile f (cuts left ps) := by
  intro ps
  induction ps with
  | nil => intro m left; simp [crashM, cuts, ofFile]
  | cons p ps ih =>
    intro m left
    rw [crashM, cuts, ofFile_cons]
    by_cases h : left < p.2.size
    · rw [if_pos h, show min left p.2.size = left by omega, Nat.sub_self, cuts_zero, List.append_nil]
      by_cases h0 : left = 0
      · subst h0
        rw [if_pos rfl]
        split <;> simp
      · rw [if_neg h0, sget_sput]
        by_cases e : p.1 = f
        · subst e
          rw [if_pos rfl, if_pos rfl]
          simp [ByteArray.data_append]
        · rw [if_neg e, if_neg (fun x => e x.symm), List.append_nil]
    · rw [if_neg h, ih, show min left p.2.size = p.2.size by omega, extract_all, sget_sput]
      by_cases e : p.1 = f
      · subst e
        rw [if_pos rfl, if_pos rfl]
        simp [ByteArray.data_append, List.append_assoc]
      · rw [if_neg e, if_neg (fun x => e x.symm), List.nil_append]

theorem total_cuts (ps : List Pc) : ∀ left, total (cuts left ps) ≤ left := by
  induction ps with
  | nil => intro left; simp [cuts, total]
  | cons p ps ih =>
    intro left
    rw [cuts, total_cons]
    have := ih (left - min left p.2.size)
    simp
    omega
/-- After the crash the files are as the document's disk has them. -/
theorem order_eq (ps : List Pc) (left : Nat) (f : Int) : dataOf (crashM (fun _ => none) left ps) [] f = dataR [] (cuts left ps) f := by
  unfold dataOf dataR
  rw [crash_cuts]
  simp [ofFile, sget, safeR, hit, cnt]

/-! ### Calls as cells -/
abbrev DAct := Int × Int × ByteArray × Int
def dcells (a : DAct) : List Value := [.int .i64 a.1, .int .i64 a.2.1, .string a.2.2.1, .int .i64 a.2.2.2]
def acs (l : List DAct) : List Value := l.flatMap dcells
def pcOf (a : DAct) : Pc := (a.2.1, a.2.2.1)
theorem acs_append (a b : List DAct) : acs (a ++ b) = acs a ++ acs b := by simp [acs]
theorem dact_cells {w : World} {A : Option Addr} {m : Nat} {l : List DAct} (h : Src w 4 A m (acs l)) (hm : 0 < m) (i : Nat) (a : DAct) (ha : l[i]? = some a) :
    ∃ ad, A = some ad ∧ ad.block < w.heap.size ∧ w.cell? (ad.add (i * 4)) = some (.int .i64 a.1) ∧ w.cell? ⟨(ad.add (i * 4)).block, (ad.add (i * 4)).off + 1, none⟩ = some (.int .i64 a.2.1) ∧ w.cell? ⟨(ad.add (i * 4)).block, (ad.add (i * 4)).off + 2, none⟩ = some (.string a.2.2.1) ∧ w.cell? ⟨(ad.add (i * 4)).block, (ad.add (i * 4)).off + 3, none⟩ = some (.int .i64 a.2.2.2) := by
  obtain ⟨ad, rfl, had, hcell⟩ := h.2 hm
  have hk : ∀ j v, j < 4 → (dcells a)[j]? = some v → w.cell? (ad.add (i * 4 + j)) = some v := by
    intro j v hj hv
    refine hcell _ _ ?_
    unfold acs
    rw [flat_get dcells 4 (by decide) (fun _ => rfl), show (i * 4 + j) / 4 = i by omega, show (i * 4 + j) % 4 = j by omega, ha]
    exact hv
  refine ⟨ad, rfl, had, hk 0 _ (by decide) rfl, ?_, ?_, ?_⟩
  · rw [← add_lit _ (by omega), add_add]; exact hk 1 _ (by decide) rfl
  · rw [← add_lit _ (by omega), add_add]; exact hk 2 _ (by decide) rfl
  · rw [← add_lit _ (by omega), add_add]; exact hk 3 _ (by decide) rfl
theorem elemAct : Elem Try.prog 22 29 4 40 := by
  obtain ⟨i0, hi, hz0, hz1, hz2⟩ := info_parts (show (Try.prog.info? 29).map (fun i => (i.zero, i.size, i.bytes)) = some (some (.agg #[.int .i64 0, .int .i64 0, .string ⟨#[]⟩, .int .i64 0]), 4, 40) by kernel_rfl)
  exact ⟨Try.underlying22, ⟨i0, _, hi, hz0, hz1, hz2, rfl⟩, by decide⟩
end Disk

section
open Go.WideShapes Go.ChangeShapes
variable {H : Type} {enc : TypeId × Value → H} {W : World} {v : Value} {d : DataW H} {ps : List MemPlace} {r : Reach} {b0 : Nat}
theorem open_dacts (hv : Value.okWide Try.prog W r b0 22 v) (h : DataW.Trod enc Try.prog W 0 (fun _ => true) true 22 v d ps) :
    ∃ (A : Option Addr) (c : Nat) (l : List Disk.DAct), v = .slice A l.length c ∧ l.length ≤ c ∧ c ≤ maxLen ∧ Src W 4 A l.length (Disk.acs l) ∧ (∀ a ∈ l, Disk.I64 a.2.1 ∧ Disk.I64 a.2.2.2 ∧ a.2.2.1.size ≤ maxLen) := by
  obtain ⟨A, c, l, h1, h2, h3, h4, h5, _⟩ := open_rows (α := Disk.DAct) Disk.dcells (fun a => Disk.I64 a.2.1 ∧ Disk.I64 a.2.2.2 ∧ a.2.2.1.size ≤ maxLen) 4 Try.underlying22 (by kernel_rfl) (by decide) (fun _ => rfl)
    (fun fuel cs y hy => by
      obtain ⟨y0, y1, y2, y3, n, _, hl, h0, h1, h2, h3⟩ := Joins.trod_struct4 Try.underlying29 hy
      have hC : Try.prog.cellsOf 29 = 4 := by kernel_rfl
      rw [hC] at hl
      match cs, hl with
      | [c0, c1, c2, c3], _ =>
        have e3 : Try.prog.cellsOf 3 = 1 := by kernel_rfl
        have e9 : Try.prog.cellsOf 9 = 1 := by kernel_rfl
        obtain ⟨x0, hx0, _, _⟩ := DataW.trod_int Try.underlying3 h0
        obtain ⟨x1, hx1, _, m1⟩ := DataW.trod_int Try.underlying3 h1
        obtain ⟨x2, hx2, _, m2⟩ := DataW.trod_string Try.underlying9 h2
        obtain ⟨x3, hx3, _, m3⟩ := DataW.trod_int Try.underlying3 h3
        simp [e3, e9] at hx0 hx1 hx2 hx3
        subst hx0
        subst hx1
        subst hx2
        subst hx3
        exact ⟨(x0, x1, x2, x3), rfl, m1, m3, m2⟩) h (okWide_slice Try.underlying22 hv)
  exact ⟨A, c, l, h1, h2, h3, h4, h5⟩
end

namespace Disk
theorem DiskAt.apart {F : Nat → Prop} {w : World} {g n b s k : Nat} {m : Safe} {ps : List Pc} {ser boot : Int} {e : TypeId} {v : Value} {xs : List Value} (h : DiskAt w g F n m ps ser boot) (hr : w.ownsRow b e s v k xs)
    (h1 : e ≠ 37) (h2 : e ≠ 61) : ∀ i, v.ownBlock = some i → ¬ F i := by
  intro i hi hf
  obtain ⟨mb, A, c, hF, hg, hm, ho⟩ := h
  rcases (hF i).1 hf with rfl | rfl | hx
  · exact own_ne hr hg h1 hi
  · exact hm.ne_row hr hi
  · exact rows_apart hr ho h2 hi hx
theorem RefD.apart {G : Nat → Prop} {w : World} {x b s k : Nat} {fs ps : List Pc} {ser boot : Int} {e : TypeId} {v : Value} {xs : List Value} (h : RefD w x G fs ps ser boot) (hr : w.ownsRow b e s v k xs)
    (h1 : e ≠ 41) (h2 : e ≠ 64) (h3 : e ≠ 71) : ∀ i, v.ownBlock = some i → ¬ G i := by
  intro i hi hf
  obtain ⟨A, c, B, d, hF, hg, ho, hp⟩ := h
  rcases (hF i).1 hf with rfl | hx | hx
  · exact own_ne hr hg h1 hi
  · exact rows_apart hr ho h3 hi hx
  · exact rows_apart hr hp h2 hi hx

theorem u8_bounds {k : Int} (h : (Lit.int .u8 k).wf = true) : 0 ≤ k ∧ k ≤ 255 := by
  unfold Lit.wf at h
  have hb : (2 : Int) ^ IntKind.u8.bits = 256 := by decide
  simp [IntKind.signed, IntKind.min, IntKind.max, hb] at h
  omega

end Disk
end Go.Proofs.Ytopkeknpdimimaa

namespace Go.Proofs.Ytopkeknpdimimaa.diskOrder
open Go.ChangeShapes Go.WideShapes Go.ChangeAt Go.RowKit
open Go.ChangeMaps (open_string shut_string)
end Go.Proofs.Ytopkeknpdimimaa.diskOrder
