
/- Entries of a log: how they lie, how they come in. -/
import Derived.Test.YtffnaabnbimhbaaOpsOpen
import Derived.Test.YtffnaabnbimhbaaOpenReach
set_option linter.unusedSimpArgs false
set_option linter.unusedVariables false
namespace Go.Proofs.Ytffnaabnbimhbaa
open Go.RowKit Go.WideShapes Go.ChangeShapes
set_option maxRecDepth 100000
namespace Ent
open Ops
/-- An entry, with the slice of its operations. -/
structure EntR where
  cl : Int
  req : Int
  A : Option Addr
  c : Nat
  ops : List OpR
  ts : Int
def ecell (e : EntR) : List Value := [.int .i64 e.cl, .int .i64 e.req, .slice e.A e.ops.length e.c, .int .u64 e.ts]
def ecells (l : List EntR) : List Value := l.flatMap ecell
abbrev eagg (e : EntR) : Value := .agg #[.int .i64 e.cl, .int .i64 e.req, .slice e.A e.ops.length e.c, .int .u64 e.ts]
def bat (e : EntR) : Batch := ⟨e.cl, e.req, e.ops⟩
/-- Its operations lie where the slice says. -/
def EOk (W : World) (e : EntR) : Prop := Src W 3 e.A e.ops.length (cells e.ops) ∧ e.ops.length ≤ e.c ∧ e.c ≤ maxLen ∧ (∀ o ∈ e.ops, o.key.size ≤ maxLen ∧ o.val.size ≤ maxLen) ∧ 0 ≤ e.ts ∧ e.ts ≤ 18446744073709551615 ∧ e.ops.length * 40 ≤ 140737488351232
def LOk (W : World) (l : List EntR) : Prop := ∀ e ∈ l, EOk W e
theorem EOk.kept {W W' : World} {e : EntR} (h : EOk W e) (hk : Kept NoF W W') : EOk W' e := ⟨h.1.kept hk (fun _ _ x => x), h.2⟩
theorem LOk.kept {W W' : World} {l : List EntR} (h : LOk W l) (hk : Kept NoF W W') : LOk W' l := fun e he => (h e he).kept hk
theorem ecells_length (l : List EntR) : (ecells l).length = l.length * 4 := by
  induction l with
  | nil => rfl
  | cons a l ih => simp [ecells, ecell] at ih ⊢; omega
theorem ecells_snoc (l : List EntR) (e : EntR) : ecells (l ++ [e]) = ecells l ++ ecell e := by
  unfold ecells
  rw [List.flatMap_append]
  simp
theorem ecells_append (l m : List EntR) : ecells (l ++ m) = ecells l ++ ecells m := by
  unfold ecells
  rw [List.flatMap_append]
theorem ecells_take (l : List EntR) (k : Nat) : (ecells l).take (k * 4) = ecells (l.take k) := by
  induction l generalizing k with
  | nil => simp [ecells]
  | cons a l ih =>
    cases k with
    | zero => simp [ecells]
    | succ k =>
      have e : ecells (a :: l) = ecell a ++ ecells l := by simp [ecells]
      have e2 : ecells (a :: l.take k) = ecell a ++ ecells (l.take k) := by simp [ecells]
      rw [List.take_succ_cons, e, e2, List.take_append, ← ih k]
      have hl : (ecell a).length = 4 := rfl
      rw [List.take_of_length_le (by omega), hl, show (k + 1) * 4 - 4 = k * 4 by omega]
theorem one_ents (l : List EntR) : ∀ u ∈ ecells l, u.oneCell' = true := by
  intro u hu
  unfold ecells at hu
  rw [List.mem_flatMap] at hu
  obtain ⟨e, _, hu⟩ := hu
  simp [ecell] at hu
  rcases hu with rfl | rfl | rfl | rfl <;> rfl
theorem ent_cells {w : World} {A : Option Addr} {m : Nat} {l : List EntR} (h : Src w 4 A m (ecells l)) (hm : 0 < m) (i : Nat) (e : EntR) (he : l[i]? = some e) :
    ∃ ad, A = some ad ∧ ad.block < w.heap.size ∧ w.cell? (ad.add (i * 4)) = some (.int .i64 e.cl) ∧ w.cell? ⟨(ad.add (i * 4)).block, (ad.add (i * 4)).off + 1, none⟩ = some (.int .i64 e.req) ∧
      w.cell? ⟨(ad.add (i * 4)).block, (ad.add (i * 4)).off + 2, none⟩ = some (.slice e.A e.ops.length e.c) ∧ w.cell? ⟨(ad.add (i * 4)).block, (ad.add (i * 4)).off + 3, none⟩ = some (.int .u64 e.ts) := by
  obtain ⟨ad, rfl, had, hcell⟩ := h.2 hm
  have hk : ∀ j, j < 4 → (ecells l)[i * 4 + j]? = (ecell e)[j]? := by
    intro j hj
    unfold ecells
    rw [flat_get ecell 4 (by decide) (fun _ => rfl), show (i * 4 + j) / 4 = i by omega, show (i * 4 + j) % 4 = j by omega, he]
    rfl
  refine ⟨ad, rfl, had, hcell _ _ (hk 0 (by decide)), ?_, ?_, ?_⟩
  · rw [← add_lit _ (by omega), add_add]; exact hcell _ _ (hk 1 (by decide))
  · rw [← add_lit _ (by omega), add_add]; exact hcell _ _ (hk 2 (by decide))
  · rw [← add_lit _ (by omega), add_add]; exact hcell _ _ (hk 3 (by decide))
end Ent
section
variable {H : Type} {enc : TypeId × Value → H} {W : World} {v : Value} {d : DataW H} {ps : List MemPlace} {r : Reach} {b0 : Nat}
theorem u64_in {x : Int} (h : (Lit.int .u64 x).wf = true) : 0 ≤ x ∧ x ≤ 18446744073709551615 := by
  simpa [Lit.wf, IntKind.min, IntKind.max, IntKind.signed, IntKind.bits] using h
theorem open_opsr (hv : ∃ A n c, v = .slice A n c) (h : DataW.Trod enc Try.prog W 0 (fun _ => true) true 36 v d ps) (hz : ∀ x ∈ d.weights Try.prog 36, x ≤ reachBytes) :
    ∃ (A : Option Addr) (c : Nat) (l : List Ops.OpR), v = .slice A l.length c ∧ l.length ≤ c ∧ c ≤ maxLen ∧ Src W 3 A l.length (Ops.cells l) ∧ (∀ o ∈ l, o.key.size ≤ maxLen ∧ o.val.size ≤ maxLen) ∧ l.length * 40 ≤ 140737488351232 := by
  have _ : Inhabited Ops.OpR := ⟨⟨⟨#[]⟩, ⟨#[]⟩, false⟩⟩
  obtain ⟨A, c, l, h1, h2, h3, h4, h5, _, h6⟩ := open_rows_reach (α := Ops.OpR) Ops.cell (fun o => o.key.size ≤ maxLen ∧ o.val.size ≤ maxLen) 3 Try.underlying36 (by kernel_rfl) (by decide) (fun _ => rfl)
    (fun fuel cs y hy _ => by
      obtain ⟨y0, y1, y2, n, _, hl, h0, h1, h2⟩ := Deep.trod_struct3 Try.underlying35 hy
      have hC : Try.prog.cellsOf 35 = 3 := by kernel_rfl
      rw [hC] at hl
      match cs, hl with
      | [c0, c1, c2], _ =>
        have e9 : Try.prog.cellsOf 9 = 1 := by kernel_rfl
        have e4 : Try.prog.cellsOf 4 = 1 := by kernel_rfl
        obtain ⟨x0, hx0, _, m0⟩ := DataW.trod_string Try.underlying9 h0
        obtain ⟨x1, hx1, _, m1⟩ := DataW.trod_string Try.underlying9 h1
        obtain ⟨x2, hx2, _⟩ := DataW.trod_bool Try.underlying4 h2
        simp [e9] at hx0 hx1
        simp [e9, e4] at hx2
        subst hx0
        subst hx1
        subst hx2
        exact ⟨⟨x0, x1, x2⟩, rfl, m0, m1⟩) h hv hz
  have e40 : Try.prog.bytesOf 35 = 40 := by kernel_rfl
  rw [e40] at h6
  exact ⟨A, c, l, h1, h2, h3, h4, h5, h6⟩
theorem open_ents0 (hv : ∃ A n c, v = .slice A n c) (h : DataW.Trod enc Try.prog W 0 (fun _ => true) true 41 v d ps) (hz : ∀ x ∈ d.weights Try.prog 41, x ≤ reachBytes) :
    ∃ (A : Option Addr) (c : Nat) (l : List Ent.EntR), v = .slice A l.length c ∧ l.length ≤ c ∧ c ≤ maxLen ∧ Src W 4 A l.length (Ent.ecells l) ∧ Ent.LOk W l ∧ l.length * 48 ≤ 140737488351232 := by
  have _ : Inhabited Ent.EntR := ⟨⟨0, 0, none, 0, [], 0⟩⟩
  obtain ⟨A, c, l, h1, h2, h3, h4, h5, _, h6⟩ := open_rows_reach (α := Ent.EntR) Ent.ecell (Ent.EOk W) 4 Try.underlying41 (by kernel_rfl) (by decide) (fun _ => rfl)
    (fun fuel cs y hy hzy => by
      obtain ⟨y0, y1, n, hyd, hl, h0, h1⟩ := trod_struct2 Try.underlying40 hy
      have hC : Try.prog.cellsOf 40 = 4 := by kernel_rfl
      rw [hC] at hl
      match cs, hl with
      | [c0, c1, c2, c3], _ =>
        have eB : Try.prog.cellsOf 38 = 3 := by kernel_rfl
        have e3 : Try.prog.cellsOf 3 = 1 := by kernel_rfl
        have e37 : Try.prog.cellsOf 36 = 1 := by kernel_rfl
        have eU : Try.prog.cellsOf 23 = 1 := by kernel_rfl
        obtain ⟨x3, hx3, _, m3⟩ := DataW.trod_int Try.underlying23 h1
        simp [eB, eU] at hx3 h0
        obtain ⟨z0, z1, z2, k, hzd, hl2, g0, g1, g2⟩ := Deep.trod_struct3 Try.underlying38 h0
        obtain ⟨x0, hx0, _, _⟩ := DataW.trod_int Try.underlying3 g0
        obtain ⟨x1, hx1, _, _⟩ := DataW.trod_int Try.underlying3 g1
        simp [e3] at hx0 hx1
        simp [e3, e37] at g2
        subst hx0
        subst hx1
        subst hx3
        have hv1 : ∃ A n c, c2 = .slice A n c := by
          rcases Deep.open_slice Try.underlying36 g2 with ⟨e, _⟩ | ⟨a, len, cap, _, _, _, _, e, _⟩
          · simp at e; exact ⟨_, _, _, e⟩
          · simp at e; exact ⟨_, _, _, e⟩
        have h2' : DataW.Trod enc Try.prog W 0 (fun _ => true) true 36 c2 z2.1 z2.2 := by
          obtain ⟨A, k', c, rfl⟩ := hv1
          exact ⟨k, g2⟩
        have hzo : ∀ x ∈ z2.1.weights Try.prog 36, x ≤ reachBytes := by
          intro x hx
          refine hzy x ?_
          rw [hyd, DataW.weights, Try.underlying40]
          have e0 : y0.1 = .agg [z0.1, z1.1, z2.1] := by rw [hzd]
          simp only [e0, List.map_cons, List.map_nil, DataW.weightsEach, DataW.weights, Try.underlying38, List.mem_append]
          exact .inl (.inr (.inr (.inl hx)))
        obtain ⟨A, c, l, rfl, q1, q2, q3, q4, q5⟩ := open_opsr hv1 h2' hzo
        exact ⟨⟨x0, x1, A, c, l, x3⟩, rfl, q3, q1, q2, q4, (u64_in m3).1, (u64_in m3).2, q5⟩) h hv hz
  have e48 : Try.prog.bytesOf 40 = 48 := by kernel_rfl
  rw [e48] at h6
  exact ⟨A, c, l, h1, h2, h3, h4, h5, h6⟩
theorem open_ents (hv : Value.okWide Try.prog W r b0 41 v) (h : DataW.Trod enc Try.prog W 0 (fun _ => true) true 41 v d ps) (hz : ∀ x ∈ d.weights Try.prog 41, x ≤ reachBytes) :
    ∃ (A : Option Addr) (c : Nat) (l : List Ent.EntR), v = .slice A l.length c ∧ l.length ≤ c ∧ c ≤ maxLen ∧ Src W 4 A l.length (Ent.ecells l) ∧ Ent.LOk W l ∧ l.length * 48 ≤ 140737488351232 :=
  open_ents0 (okWide_slice Try.underlying41 hv) h hz
end
end Go.Proofs.Ytffnaabnbimhbaa
