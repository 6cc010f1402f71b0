/- Notes as arguments: how they lie, how they come in. -/
import Derived.Test.YtolipnnjeehnfaaMst4
import Derived.Test.YtolipnnjeehnfaaRows
import Derived.Test.YtolipnnjeehnfaaKit
import Derived.Test.YtolipnnjeehnfaaOpen
import Derived.ProofKit
import Derived.OpenShut
import Derived.Lib.SmallJoins
set_option linter.unusedSimpArgs false
set_option linter.unusedVariables false
namespace Go.Proofs.Ytolipnnjeehnfaa
open Go.RowKit Go.WideShapes Go.ChangeShapes
set_option maxRecDepth 100000
namespace Mst
open Plan
def ncells (l : List NoteR) : List Value := l.flatMap ncell
/-- A note as it comes in. -/
structure NGood (w : World) (x : NoteR) : Prop where
  m : Src w 2 x.mA x.ms.length (mcells x.ms)
  mc : x.ms.length ≤ x.mc
  l : Src w 1 x.lA x.lg.length (ints x.lg)
  lc : x.lg.length ≤ x.lc
  o : Src w 3 x.oA x.b.ops.length (Ops.cells x.b.ops)
  oc : x.b.ops.length ≤ x.oc
  t : 0 ≤ x.at' ∧ 0 ≤ x.pin.at' ∧ 0 ≤ x.fl
theorem NGood.kept {w w' : World} {x : NoteR} (h : NGood w x) (hk : Kept NoF w w') : NGood w' x := ⟨h.m.kept hk (fun _ _ z => z), h.mc, h.l.kept hk (fun _ _ z => z), h.lc, h.o.kept hk (fun _ _ z => z), h.oc, h.t⟩
theorem NGood.below {w w' : World} {x : NoteR} (h : NGood w x) (hb : Below w.heap.size w w') : NGood w' x := ⟨h.m.below hb, h.mc, h.l.below hb, h.lc, h.o.below hb, h.oc, h.t⟩
theorem NGood.ok {w : World} {x : NoteR} (h : NGood w x) (h1 : x.ms.length ≤ 1000) (h2 : x.lg.length ≤ 1000) : NOk w x := ⟨h.m, h.mc, h1, h.l, h.lc, h2, h.o⟩
theorem note_cells {w : World} {A : Option Addr} {m : Nat} {l : List NoteR} (h : Src w 18 A m (ncells l)) (hm : 0 < m) (i : Nat) (x : NoteR) (hx : l[i]? = some x) :
    ∃ ad, A = some ad ∧ ad.block < w.heap.size ∧ ∀ j u, (ncell x)[j]? = some u → w.cell? ((ad.add (i * 18)).add j) = some u := by
  obtain ⟨ad, rfl, had, hcell⟩ := h.2 hm
  refine ⟨ad, rfl, had, fun j u hu => ?_⟩
  have hj : j < 18 := (List.getElem?_eq_some_iff.1 hu).1
  rw [add_add]
  refine hcell _ _ ?_
  unfold ncells
  rw [flat_get ncell 18 (by decide) (fun _ => rfl), show (i * 18 + j) / 18 = i by omega, show (i * 18 + j) % 18 = j by omega, hx]
  exact hu
theorem trod_struct8 {H : Type} {enc : TypeId × Value → H} {P : Program} {w : World} {base : Nat} {spare : Nat → Bool} {held : Bool} {t : TypeId} {f0 f1 f2 f3 f4 f5 f6 f7 : Field} {fuel : Nat} {cs : List Value} {x : DataW H × List MemPlace}
    (ht : P.underlying t = some (.struct #[f0, f1, f2, f3, f4, f5, f6, f7])) (h : DataW.trod enc P w base spare held fuel t cs = some x) :
    ∃ y0 y1 y2 y3 y4 y5 y6 y7 n, x.1 = .agg [y0.1, y1.1, y2.1, y3.1, y4.1, y5.1, y6.1, y7.1] ∧ cs.length = P.cellsOf t ∧ DataW.trod enc P w base spare held n f0.type ((cs.drop f0.offset).take (P.cellsOf f0.type)) = some y0 ∧
      DataW.trod enc P w base spare held n f1.type ((cs.drop f1.offset).take (P.cellsOf f1.type)) = some y1 ∧
      DataW.trod enc P w base spare held n f2.type ((cs.drop f2.offset).take (P.cellsOf f2.type)) = some y2 ∧
      DataW.trod enc P w base spare held n f3.type ((cs.drop f3.offset).take (P.cellsOf f3.type)) = some y3 ∧
      DataW.trod enc P w base spare held n f4.type ((cs.drop f4.offset).take (P.cellsOf f4.type)) = some y4 ∧
      DataW.trod enc P w base spare held n f5.type ((cs.drop f5.offset).take (P.cellsOf f5.type)) = some y5 ∧
      DataW.trod enc P w base spare held n f6.type ((cs.drop f6.offset).take (P.cellsOf f6.type)) = some y6 ∧
      DataW.trod enc P w base spare held n f7.type ((cs.drop f7.offset).take (P.cellsOf f7.type)) = some y7 := by
  obtain ⟨xs, n, _, rfl, hl, hlen, hf⟩ := DataW.trod_struct ht h
  match xs, hlen with
  | [y0, y1, y2, y3, y4, y5, y6, y7], _ =>
    exact ⟨y0, y1, y2, y3, y4, y5, y6, y7, n, by simp, hl, by simpa using hf 0 f0 rfl, by simpa using hf 1 f1 rfl, by simpa using hf 2 f2 rfl, by simpa using hf 3 f3 rfl, by simpa using hf 4 f4 rfl, by simpa using hf 5 f5 rfl, by simpa using hf 6 f6 rfl, by simpa using hf 7 f7 rfl⟩
end Mst
section
variable {H : Type} {enc : TypeId × Value → H} {W : World} {v : Value} {d : DataW H} {ps : List MemPlace} {r : Reach} {b0 : Nat}
theorem flat_ints (l : List Int) : l.flatMap (fun x => [Value.int .i64 x]) = Plan.ints l := by
  induction l with
  | nil => rfl
  | cons a l ih => rw [List.flatMap_cons, ih]; rfl
theorem u64_in {x : Int} (h : (Lit.int .u64 x).wf = true) : 0 ≤ x ∧ x ≤ 18446744073709551615 := by
  simpa [Lit.wf, IntKind.min, IntKind.max, IntKind.signed, IntKind.bits] using h
theorem open_ints0 (hv : ∃ A n c, v = .slice A n c) (h : DataW.Trod enc Try.prog W 0 (fun _ => true) true 37 v d ps) :
    ∃ (A : Option Addr) (c : Nat) (l : List Int), v = .slice A l.length c ∧ l.length ≤ c ∧ c ≤ maxLen ∧ Src W 1 A l.length (Plan.ints l) := by
  obtain ⟨A, c, l, h1, h2, h3, h4, h5, _⟩ := open_rows (α := Int) (fun x => [.int .i64 x]) (fun _ => True) 1 Try.underlying37 (by kernel_rfl) (by decide) (fun _ => rfl)
    (fun fuel cs y hy => by
      obtain ⟨x, hx, _, hw⟩ := DataW.trod_int Try.underlying3 hy
      exact ⟨x, hx, trivial⟩) h hv
  rw [flat_ints] at h4
  exact ⟨A, c, l, h1, h2, h3, h4⟩
theorem open_mems0 (hv : ∃ A n c, v = .slice A n c) (h : DataW.Trod enc Try.prog W 0 (fun _ => true) true 29 v d ps) :
    ∃ (A : Option Addr) (c : Nat) (l : List Plan.Mem), v = .slice A l.length c ∧ l.length ≤ c ∧ c ≤ maxLen ∧ Src W 2 A l.length (Plan.mcells l) := by
  obtain ⟨A, c, l, h1, h2, h3, h4, h5, _⟩ := open_rows (α := Plan.Mem) Plan.mcell (fun m => True) 2 Try.underlying29 (by kernel_rfl) (by decide) (fun _ => rfl)
    (fun fuel cs y hy => by
      obtain ⟨y0, y1, n, _, hl, h0, h1⟩ := trod_struct2 Try.underlying86 hy
      have hC : Try.prog.cellsOf 86 = 2 := by kernel_rfl
      rw [hC] at hl
      match cs, hl with
      | [c0, c1], _ =>
        have e3 : Try.prog.cellsOf 3 = 1 := by kernel_rfl
        obtain ⟨x0, hx0, _, m0⟩ := DataW.trod_int Try.underlying3 h0
        obtain ⟨x1, hx1, _, _⟩ := DataW.trod_int Try.underlying3 h1
        simp [e3] at hx0 hx1
        subst hx0
        subst hx1
        exact ⟨(x0, x1), rfl, trivial⟩) h hv
  exact ⟨A, c, l, h1, h2, h3, h4⟩
theorem open_opsl (hv : ∃ A n c, v = .slice A n c) (h : DataW.Trod enc Try.prog W 0 (fun _ => true) true 38 v d ps) :
    ∃ (A : Option Addr) (c : Nat) (l : List Ops.OpR), v = .slice A l.length c ∧ l.length ≤ c ∧ c ≤ maxLen ∧ Src W 3 A l.length (Ops.cells l) := by
  have _ : Inhabited Ops.OpR := ⟨⟨⟨#[]⟩, ⟨#[]⟩, false⟩⟩
  obtain ⟨A, c, l, h1, h2, h3, h4, h5, _⟩ := open_rows (α := Ops.OpR) Ops.cell (fun o => True) 3 Try.underlying38 (by kernel_rfl) (by decide) (fun _ => rfl)
    (fun fuel cs y hy => by
      obtain ⟨y0, y1, y2, n, _, hl, h0, h1, h2⟩ := Deep.trod_struct3 Try.underlying116 hy
      have hC : Try.prog.cellsOf 116 = 3 := by kernel_rfl
      rw [hC] at hl
      match cs, hl with
      | [c0, c1, c2], _ =>
        have e9 : Try.prog.cellsOf 9 = 1 := by kernel_rfl
        have e4 : Try.prog.cellsOf 4 = 1 := by kernel_rfl
        obtain ⟨x0, hx0, _, m0⟩ := DataW.trod_string Try.underlying9 h0
        obtain ⟨x1, hx1, _, m1⟩ := DataW.trod_string Try.underlying9 h1
        obtain ⟨x2, hx2, _⟩ := DataW.trod_bool Try.underlying4 h2
        simp [e9] at hx0 hx1
        simp [e9, e4] at hx2
        subst hx0
        subst hx1
        subst hx2
        exact ⟨⟨x0, x1, x2⟩, rfl, trivial⟩) h hv
  exact ⟨A, c, l, h1, h2, h3, h4⟩
theorem slice_of_trod {t e : TypeId} {fuel : Nat} {c0 : Value} {y : DataW H × List MemPlace} (ht : Try.prog.underlying t = some (.slice e)) (h : DataW.trod enc Try.prog W 0 (fun _ => true) true fuel t [c0] = some y) :
    (∃ A n c, c0 = .slice A n c) ∧ DataW.Trod enc Try.prog W 0 (fun _ => true) true t c0 y.1 y.2 := by
  have hv1 : ∃ A n c, c0 = .slice A n c := by
    rcases Deep.open_slice ht h with ⟨e, _⟩ | ⟨a, len, cap, _, _, _, _, e, _⟩
    · simp at e; exact ⟨_, _, _, e⟩
    · simp at e; exact ⟨_, _, _, e⟩
  refine ⟨hv1, ?_⟩
  obtain ⟨A, k', c, rfl⟩ := hv1
  exact ⟨fuel, h⟩
theorem open_note0 (fuel : Nat) (cs : List Value) (y : DataW H × List MemPlace) (hy : DataW.trod enc Try.prog W 0 (fun _ => true) true fuel 48 cs = some y) : ∃ a, cs = Mst.ncell a ∧ Mst.NGood W a := by
  obtain ⟨y0, y1, y2, y3, y4, y5, y6, y7, n, hyd, hl, h0, h1, h2, h3, h4, h5, h6, h7⟩ := Mst.trod_struct8 Try.underlying48 hy
  have hC : Try.prog.cellsOf 48 = 18 := by kernel_rfl
  rw [hC] at hl
  match cs, hl with
  | [c0, c1, c2, c3, c4, c5, c6, c7, c8, c9, c10, c11, c12, c13, c14, c15, c16, c17], _ =>
    have e3 : Try.prog.cellsOf 3 = 1 := by kernel_rfl
    have eU : Try.prog.cellsOf 27 = 1 := by kernel_rfl
    have eC : Try.prog.cellsOf 31 = 3 := by kernel_rfl
    have eM : Try.prog.cellsOf 29 = 1 := by kernel_rfl
    have eI : Try.prog.cellsOf 37 = 1 := by kernel_rfl
    have eE : Try.prog.cellsOf 42 = 4 := by kernel_rfl
    have eB : Try.prog.cellsOf 40 = 3 := by kernel_rfl
    have eO : Try.prog.cellsOf 38 = 1 := by kernel_rfl
    have eP : Try.prog.cellsOf 44 = 3 := by kernel_rfl
    have eA : Try.prog.cellsOf 46 = 4 := by kernel_rfl
    have eN : Try.prog.cellsOf 35 = 1 := by kernel_rfl
    obtain ⟨x0, hx0, _, _⟩ := DataW.trod_int Try.underlying3 h0
    obtain ⟨x1, hx1, _, _⟩ := DataW.trod_int Try.underlying3 h1
    obtain ⟨x2, hx2, _, m2⟩ := DataW.trod_int Try.underlying27 h2
    simp [e3] at hx0 hx1
    simp [eU] at hx2
    simp [eC] at h3
    simp [eI] at h4
    simp [eE] at h5
    simp [eP] at h6
    simp [eA] at h7
    obtain ⟨z0, z1, z2, k3, _, _, g30, g31, g32⟩ := Deep.trod_struct3 Try.underlying31 h3
    obtain ⟨x3, hx3, _, _⟩ := DataW.trod_int Try.underlying3 g30
    obtain ⟨x5, hx5, _, m5⟩ := DataW.trod_int Try.underlying27 g32
    simp [e3] at hx3
    simp [eU] at hx5
    simp [eM] at g31
    obtain ⟨ma, n0, k5, _, _, g50, g51⟩ := trod_struct2 Try.underlying42 h5
    obtain ⟨x10, hx10, _, _⟩ := DataW.trod_int Try.underlying27 g51
    simp [eU] at hx10
    simp [eB] at g50
    obtain ⟨b0, b1, b2, k6, _, _, g60, g61, g62⟩ := Deep.trod_struct3 Try.underlying40 g50
    obtain ⟨x7, hx7, _, _⟩ := DataW.trod_int Try.underlying3 g60
    obtain ⟨x8, hx8, _, _⟩ := DataW.trod_int Try.underlying3 g61
    simp [e3] at hx7 hx8
    simp [eO] at g62
    obtain ⟨p0, p1, p2, k7, _, _, g70, g71, g72⟩ := Deep.trod_struct3 Try.underlying44 h6
    obtain ⟨x11, hx11, _, _⟩ := DataW.trod_int Try.underlying3 g70
    obtain ⟨x12, hx12, _, m12⟩ := DataW.trod_int Try.underlying27 g71
    obtain ⟨x13, hx13, _, _⟩ := DataW.trod_int Try.underlying3 g72
    simp [e3] at hx11 hx13
    simp [eU] at hx12
    obtain ⟨a0, a1, a2, a3, k8, _, _, g80, g81, g82, g83⟩ := Joins.trod_struct4 Try.underlying46 h7
    obtain ⟨x14, hx14, _, _⟩ := DataW.trod_int Try.underlying3 g80
    obtain ⟨x15, hx15, _, _⟩ := DataW.trod_int Try.underlying3 g81
    obtain ⟨x16, hx16, _, _⟩ := DataW.trod_int Try.underlying35 g82
    obtain ⟨x17, hx17, _, _⟩ := DataW.trod_int Try.underlying3 g83
    simp [e3] at hx14 hx15 hx17
    simp [eN] at hx16
    subst hx0 hx1 hx2 hx3 hx5 hx7 hx8 hx10 hx11 hx12 hx13 hx14 hx15 hx16 hx17
    obtain ⟨v4, t4⟩ := slice_of_trod Try.underlying29 g31
    obtain ⟨v6, t6⟩ := slice_of_trod Try.underlying37 h4
    obtain ⟨v9, t9⟩ := slice_of_trod Try.underlying38 g62
    obtain ⟨mA, mc, ms, rfl, q1, q2, q3⟩ := open_mems0 v4 t4
    obtain ⟨lA, lc, lg, rfl, q4, q5, q6⟩ := open_ints0 v6 t6
    obtain ⟨oA, oc, ops, rfl, q7, q8, q9⟩ := open_opsl v9 t9
    exact ⟨⟨x0, x1, x2, x3, mA, mc, ms, x5, lA, lc, lg, oA, oc, ⟨x7, x8, ops⟩, x10, ⟨x11, x12, x13⟩, ⟨x14, x15, x16, x17⟩⟩, rfl, q3, q1, q6, q4, q9, q7, (u64_in m2).1, (u64_in m12).1, (u64_in m5).1⟩
theorem open_notes (hv : Value.okWide Try.prog W r b0 22 v) (h : DataW.Trod enc Try.prog W 0 (fun _ => true) true 22 v d ps) :
    ∃ (A : Option Addr) (c : Nat) (l : List Mst.NoteR), v = .slice A l.length c ∧ l.length ≤ c ∧ c ≤ maxLen ∧ Src W 18 A l.length (Mst.ncells l) ∧ (∀ x ∈ l, Mst.NGood W x) := by
  have _ : Inhabited Mst.NoteR := ⟨⟨0, 0, 0, 0, none, 0, [], 0, none, 0, [], none, 0, ⟨0, 0, []⟩, 0, ⟨0, 0, 0⟩, ⟨0, 0, 0, 0⟩⟩⟩
  obtain ⟨A, c, l, h1, h2, h3, h4, h5, _⟩ := open_rows (α := Mst.NoteR) Mst.ncell (Mst.NGood W) 18 Try.underlying22 (by kernel_rfl) (by decide) (fun _ => rfl) open_note0 h (okWide_slice Try.underlying22 hv)
  exact ⟨A, c, l, h1, h2, h3, h4, h5⟩
theorem open_note (hv : Value.okWide Try.prog W r b0 48 v) (h : DataW.Trod enc Try.prog W 0 (fun _ => true) true 48 v d ps) : ∃ x : Mst.NoteR, v = Mst.nagg x ∧ Mst.NGood W x := by
  obtain ⟨cs, rfl, hsz⟩ := okWide_struct Try.underlying48 hv
  obtain ⟨fuel, hy⟩ := h
  obtain ⟨x, hx, hg⟩ := open_note0 _ _ _ hy
  exact ⟨x, by show Value.agg cs = .agg (Mst.ncell x).toArray; rw [← hx]; simp [Value.cells], hg⟩
end
end Go.Proofs.Ytolipnnjeehnfaa
