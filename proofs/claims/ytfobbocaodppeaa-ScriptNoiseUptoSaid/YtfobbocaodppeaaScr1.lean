/- Steps of a script: how they lie, how they come in; how many parts they have. -/
import Derived.Test.YtfobbocaodppeaaRows
import Derived.Test.YtfobbocaodppeaaKit
import Derived.Test.YtfobbocaodppeaaOpen
import Derived.Test.YtfobbocaodppeaaScrP
import Derived.Test.YtfobbocaodppeaaVar1
import Derived.Lib.SmallJoins
import Derived.ProofKit
import Derived.OpenShut
import Derived.Deep.RegionHeld3
import Derived.StillTailTactics
set_option linter.unusedSimpArgs false
set_option linter.unusedVariables false
namespace Go.Proofs.Ytfobbocaodppeaa
open Go.RowKit Go.WideShapes Go.ChangeShapes
set_option maxRecDepth 100000
namespace Scr
open Ops Vn
/-- A step, with the slice of its ask's operations. -/
structure EvR where
  x : EvC
  A : Option Addr
  c : Nat
def vcell (e : EvR) : List Value := [.int .i64 e.x.k, .int .i64 e.x.nd, .int .i64 e.x.n, .int .i64 e.x.ak, .int .i64 e.x.an, .string e.x.key, .string e.x.dst, .int .u64 e.x.tm, .int .i64 e.x.am, .slice e.A e.x.ops.length e.c]
def vcells (l : List EvR) : List Value := l.flatMap vcell
abbrev vagg (e : EvR) : Value := .agg #[.int .i64 e.x.k, .int .i64 e.x.nd, .int .i64 e.x.n, .int .i64 e.x.ak, .int .i64 e.x.an, .string e.x.key, .string e.x.dst, .int .u64 e.x.tm, .int .i64 e.x.am, .slice e.A e.x.ops.length e.c]
/-- How many letters and operations a step holds. -/
def wtO (l : List OpR) : Nat := (l.map fun o => o.key.size + o.val.size + 1).sum
def wtE (e : EvC) : Nat := e.key.size + e.dst.size + wtO e.ops + 1
/-- Its operations lie where the slice says. -/
def VOk (W : World) (e : EvR) : Prop := Src W 3 e.A e.x.ops.length (cells e.x.ops) ∧ e.x.ops.length ≤ e.c ∧ e.c ≤ maxLen ∧ TmOk e.x
def SOk (W : World) (l : List EvR) : Prop := ∀ e ∈ l, VOk W e
theorem VOk.kept {W W' : World} {e : EvR} (h : VOk W e) (hk : Kept NoF W W') : VOk W' e := ⟨h.1.kept hk (fun _ _ x => x), h.2⟩
theorem SOk.kept {W W' : World} {l : List EvR} (h : SOk W l) (hk : Kept NoF W W') : SOk W' l := fun e he => (h e he).kept hk
theorem vcells_length (l : List EvR) : (vcells l).length = l.length * 10 := by
  induction l with
  | nil => rfl
  | cons a l ih => simp [vcells, vcell] at ih ⊢; omega
theorem vcells_snoc (l : List EvR) (e : EvR) : vcells (l ++ [e]) = vcells l ++ vcell e := by
  unfold vcells
  rw [List.flatMap_append]
  simp
theorem one_evs (l : List EvR) : ∀ u ∈ vcells l, u.oneCell' = true := by
  intro u hu
  unfold vcells at hu
  rw [List.mem_flatMap] at hu
  obtain ⟨e, _, hu⟩ := hu
  simp [vcell] at hu
  rcases hu with rfl | rfl | rfl | rfl | rfl | rfl | rfl | rfl | rfl | rfl <;> rfl
theorem ev_cells {w : World} {A : Option Addr} {m : Nat} {l : List EvR} (h : Src w 10 A m (vcells l)) (hm : 0 < m) (i : Nat) (e : EvR) (he : l[i]? = some e) :
    ∃ ad, A = some ad ∧ ad.block < w.heap.size ∧ w.cell? (ad.add (i * 10)) = some (.int .i64 e.x.k) ∧ w.cell? ⟨(ad.add (i * 10)).block, (ad.add (i * 10)).off + 1, none⟩ = some (.int .i64 e.x.nd) ∧
      w.cell? ⟨(ad.add (i * 10)).block, (ad.add (i * 10)).off + 2, none⟩ = some (.int .i64 e.x.n) ∧ w.cell? ⟨(ad.add (i * 10)).block, (ad.add (i * 10)).off + 3, none⟩ = some (.int .i64 e.x.ak) ∧
      w.cell? ⟨(ad.add (i * 10)).block, (ad.add (i * 10)).off + 4, none⟩ = some (.int .i64 e.x.an) ∧ w.cell? ⟨(ad.add (i * 10)).block, (ad.add (i * 10)).off + 5, none⟩ = some (.string e.x.key) ∧
      w.cell? ⟨(ad.add (i * 10)).block, (ad.add (i * 10)).off + 6, none⟩ = some (.string e.x.dst) ∧ w.cell? ⟨(ad.add (i * 10)).block, (ad.add (i * 10)).off + 7, none⟩ = some (.int .u64 e.x.tm) ∧
      w.cell? ⟨(ad.add (i * 10)).block, (ad.add (i * 10)).off + 8, none⟩ = some (.int .i64 e.x.am) ∧ w.cell? ⟨(ad.add (i * 10)).block, (ad.add (i * 10)).off + 9, none⟩ = some (.slice e.A e.x.ops.length e.c) := by
  obtain ⟨ad, rfl, had, hcell⟩ := h.2 hm
  have hk : ∀ j, j < 10 → (vcells l)[i * 10 + j]? = (vcell e)[j]? := by
    intro j hj
    unfold vcells
    rw [flat_get vcell 10 (by decide) (fun _ => rfl), show (i * 10 + j) / 10 = i by omega, show (i * 10 + j) % 10 = j by omega, he]
    rfl
  have hs : ∀ j u, 0 < j → j < 10 → (vcell e)[j]? = some u → w.cell? ⟨(ad.add (i * 10)).block, (ad.add (i * 10)).off + j, none⟩ = some u := by
    intro j u h0 hj hu
    rw [← add_lit _ h0, add_add]
    exact hcell _ _ ((hk j hj).trans hu)
  exact ⟨ad, rfl, had, hcell _ _ (hk 0 (by decide)), hs 1 _ (by decide) (by decide) rfl, hs 2 _ (by decide) (by decide) rfl, hs 3 _ (by decide) (by decide) rfl, hs 4 _ (by decide) (by decide) rfl,
    hs 5 _ (by decide) (by decide) rfl, hs 6 _ (by decide) (by decide) rfl, hs 7 _ (by decide) (by decide) rfl, hs 8 _ (by decide) (by decide) rfl, hs 9 _ (by decide) (by decide) rfl⟩

/-! ### how they come in -/
theorem trod_struct7 {H : Type} {enc : TypeId × Value → H} {P : Program} {w : World} {base : Nat} {spare : Nat → Bool} {held : Bool} {t : TypeId} {f0 f1 f2 f3 f4 f5 f6 : Field} {fuel : Nat} {cs : List Value} {x : DataW H × List MemPlace}
    (ht : P.underlying t = some (.struct #[f0, f1, f2, f3, f4, f5, f6])) (h : DataW.trod enc P w base spare held fuel t cs = some x) :
    ∃ y0 y1 y2 y3 y4 y5 y6 n, x.1 = .agg [y0.1, y1.1, y2.1, y3.1, y4.1, y5.1, y6.1] ∧ cs.length = P.cellsOf t ∧ DataW.trod enc P w base spare held n f0.type ((cs.drop f0.offset).take (P.cellsOf f0.type)) = some y0 ∧
      DataW.trod enc P w base spare held n f1.type ((cs.drop f1.offset).take (P.cellsOf f1.type)) = some y1 ∧ DataW.trod enc P w base spare held n f2.type ((cs.drop f2.offset).take (P.cellsOf f2.type)) = some y2 ∧
      DataW.trod enc P w base spare held n f3.type ((cs.drop f3.offset).take (P.cellsOf f3.type)) = some y3 ∧ DataW.trod enc P w base spare held n f4.type ((cs.drop f4.offset).take (P.cellsOf f4.type)) = some y4 ∧
      DataW.trod enc P w base spare held n f5.type ((cs.drop f5.offset).take (P.cellsOf f5.type)) = some y5 ∧ DataW.trod enc P w base spare held n f6.type ((cs.drop f6.offset).take (P.cellsOf f6.type)) = some y6 := by
  obtain ⟨xs, n, _, rfl, hl, hlen, hf⟩ := DataW.trod_struct ht h
  match xs, hlen with
  | [y0, y1, y2, y3, y4, y5, y6], _ =>
    exact ⟨y0, y1, y2, y3, y4, y5, y6, n, by simp, hl, by simpa using hf 0 f0 rfl, by simpa using hf 1 f1 rfl, by simpa using hf 2 f2 rfl, by simpa using hf 3 f3 rfl, by simpa using hf 4 f4 rfl, by simpa using hf 5 f5 rfl, by simpa using hf 6 f6 rfl⟩
end Scr
section
variable {H : Type} {enc : TypeId × Value → H} {W : World} {v : Value} {d : DataW H} {ps : List MemPlace} {r : Reach} {b0 : Nat}
/-- A slice of any struct, as a list, and a bound on its bulk. -/
theorem open_rows_wt {P : Program} {t e : TypeId} {α : Type} [Inhabited α] (cells : α → List Value) (good : α → Prop) (wt : α → Nat) (C : Nat)
    (ht : P.underlying t = some (.slice e)) (hC : P.cellsOf e = C) (hpos : 0 < C) (h1 : ∀ a, (cells a).length = C)
    (each : ∀ (fuel : Nat) (cs : List Value) (y : DataW H × List MemPlace), DataW.trod enc P W 0 (fun _ => true) true fuel e cs = some y → ∃ a, cs = cells a ∧ good a ∧ wt a ≤ Rows.uptoBulk y.1)
    (h : DataW.Trod enc P W 0 (fun _ => true) true t v d ps) (hv : ∃ A n c, v = .slice A n c) :
    ∃ (A : Option Addr) (c : Nat) (l : List α), v = .slice A l.length c ∧ l.length ≤ c ∧ c ≤ maxLen ∧ Src W C A l.length (l.flatMap cells) ∧ (∀ a ∈ l, good a) ∧ (A = none → l = [] ∧ c = 0) ∧ (l.map wt).sum ≤ Rows.uptoBulk d := by
  obtain ⟨A, n, c, rfl⟩ := hv
  obtain ⟨fuel, hf⟩ := h
  rcases Deep.open_slice ht hf with ⟨h0, _⟩ | ⟨a, len, cap, m, n', D, Pl, hcs, _, hl, hm, hmm, hx, hi⟩
  · obtain ⟨rfl, rfl, rfl⟩ : A = none ∧ n = 0 ∧ c = 0 := by simpa [Value.cells] using h0
    exact ⟨none, 0, [], rfl, Nat.le_refl _, Nat.zero_le _, Src.nil W C none, fun a ha => absurd ha List.not_mem_nil, fun _ => ⟨rfl, rfl⟩, by simp⟩
  · obtain ⟨rfl, rfl, rfl⟩ : A = some a ∧ n = len ∧ c = cap := by simpa [Value.cells] using hcs
    have hml : n ≤ m := by rw [hmm]; split <;> omega
    have hall : ∀ i, ∃ x : α, i < n → (W.cells? 0 (a.add (i * C)) C = some (cells x) ∧ good x ∧ wt x ≤ Rows.uptoBulk (D i)) := by
      intro i
      by_cases hin : i < n
      · obtain ⟨cs', h2, h3⟩ := hi i (by omega)
        rw [hC] at h2
        obtain ⟨x, rfl, hg, hw⟩ := each _ _ _ h3
        exact ⟨x, fun _ => ⟨h2, hg, hw⟩⟩
      · exact ⟨default, fun h => absurd h hin⟩
    obtain ⟨f, hf⟩ := Classical.axiomOfChoice hall
    refine ⟨some a, c, (List.range n).map f, by simp, by simpa using hl, hm, ?_, ?_, (fun h => by cases h), ?_⟩
    · have hcell : ∀ j u, (((List.range n).map f).flatMap cells)[j]? = some u → W.cell? (a.add j) = some u := by
        intro j u hu
        rw [flat_get cells C hpos h1] at hu
        rw [Option.bind_eq_some_iff] at hu
        obtain ⟨x, hx, hu⟩ := hu
        rw [List.getElem?_map] at hx
        rw [Option.map_eq_some_iff] at hx
        obtain ⟨i, hir, rfl⟩ := hx
        obtain ⟨hlt, hie⟩ := List.getElem?_eq_some_iff.1 hir
        simp at hlt hie
        subst hie
        obtain ⟨_, _, hat⟩ := World.cells?_some (hf (j / C) hlt).1
        have hjm : j % C < C := Nat.mod_lt _ hpos
        have := hat (j % C) hjm
        rw [add_add] at this
        rw [show j / C * C + j % C = j by rw [Nat.mul_comm]; exact Nat.div_add_mod j C] at this
        rw [this, hu]
      refine ⟨?_, fun h0 => ⟨a, rfl, ?_, hcell⟩⟩
      · rw [List.length_flatMap]
        have hs : ∀ k, ((List.range k).map fun _ => C).sum = k * C := by
          intro k
          induction k with
          | zero => simp
          | succ k ih => rw [List.range_succ, List.map_append, List.sum_append, ih]; simp [Nat.succ_mul]
        simp [h1, Function.comp_def, hs]
      · have h0' : 0 < n := by simpa using h0
        have hz : (((List.range n).map f).flatMap cells)[0]? = (cells (f 0))[0]? := by
          rw [flat_get cells C hpos h1]
          simp [h0']
        have h2 : 0 < (cells (f 0)).length := by rw [h1]; exact hpos
        have h3 := hcell 0 _ (hz.trans (List.getElem?_eq_getElem h2))
        have h4 := block_lt_of_cell h3
        rw [block_add] at h4
        exact h4
    · intro x hx
      obtain ⟨i, hi2, rfl⟩ := List.mem_map.1 hx
      exact (hf i (by simpa using hi2)).2.1
    · have hd : d = .slice ((List.range n).map D) ((List.range (m - n)).map fun j => D (n + j)) := by injection hx
      rw [hd]
      have hb : ∀ xs : List Nat, (∀ i ∈ xs, wt (f i) ≤ Rows.uptoBulk (D i)) → ((xs.map f).map wt).sum ≤ Rows.uptoBulkAll (xs.map D) := by
        intro xs
        induction xs with
        | nil => intro _; simp
        | cons x xs ih =>
          intro hxs
          have h1 := hxs x (by simp)
          have h2 := ih fun i hi => hxs i (by simp [hi])
          simp only [List.map_cons, List.sum_cons, Rows.uptoBulkAll]
          omega
      have h3 := hb (List.range n) fun i hi => (hf i (by simpa using hi)).2.2
      simp only [Rows.uptoBulk]
      omega
theorem bulk_le {ds : List (DataW H)} (h : Rows.uptoSmall H ds = true) : Rows.uptoBulkAll ds ≤ 1048576 := by
  unfold Rows.uptoSmall at h
  exact of_decide_eq_true h
theorem bulk_cons (d : DataW H) (ds : List (DataW H)) : Rows.uptoBulkAll (d :: ds) = Rows.uptoBulk d + Rows.uptoBulkAll ds := by rw [Rows.uptoBulkAll]
theorem u64_in {x : Int} (h : (Lit.int .u64 x).wf = true) : 0 ≤ x ∧ x ≤ 18446744073709551615 := by
  simpa [Lit.wf, IntKind.min, IntKind.max, IntKind.signed, IntKind.bits] using h
theorem open_ops_wt (hv : ∃ A n c, v = .slice A n c) (h : DataW.Trod enc Try.prog W 0 (fun _ => true) true 37 v d ps) :
    ∃ (A : Option Addr) (c : Nat) (l : List Ops.OpR), v = .slice A l.length c ∧ l.length ≤ c ∧ c ≤ maxLen ∧ Src W 3 A l.length (Ops.cells l) ∧ Scr.wtO l ≤ Rows.uptoBulk d := by
  have _ : Inhabited Ops.OpR := ⟨⟨⟨#[]⟩, ⟨#[]⟩, false⟩⟩
  obtain ⟨A, c, l, h1, h2, h3, h4, _, _, h6⟩ := open_rows_wt (α := Ops.OpR) Ops.cell (fun _ => True) (fun o => o.key.size + o.val.size + 1) 3 Try.underlying37 (by kernel_rfl) (by decide) (fun _ => rfl)
    (fun fuel cs y hy => by
      obtain ⟨y0, y1, y2, n, hyd, hl, h0, h1, h2⟩ := Deep.trod_struct3 Try.underlying55 hy
      have hC : Try.prog.cellsOf 55 = 3 := by kernel_rfl
      rw [hC] at hl
      match cs, hl with
      | [c0, c1, c2], _ =>
        have e9 : Try.prog.cellsOf 9 = 1 := by kernel_rfl
        have e4 : Try.prog.cellsOf 4 = 1 := by kernel_rfl
        obtain ⟨x0, hx0, hd0, m0⟩ := DataW.trod_string Try.underlying9 h0
        obtain ⟨x1, hx1, hd1, m1⟩ := DataW.trod_string Try.underlying9 h1
        obtain ⟨x2, hx2, _⟩ := DataW.trod_bool Try.underlying4 h2
        simp [e9] at hx0 hx1
        simp [e9, e4] at hx2
        subst hx0
        subst hx1
        subst hx2
        refine ⟨⟨x0, x1, x2⟩, rfl, trivial, ?_⟩
        rw [hyd, hd0, hd1]
        simp [Rows.uptoBulk, Rows.uptoBulkAll]
        omega) h hv
  exact ⟨A, c, l, h1, h2, h3, h4, h6⟩
theorem open_evs (hv0 : Value.okWide Try.prog W r b0 22 v) (h : DataW.Trod enc Try.prog W 0 (fun _ => true) true 22 v d ps) :
    ∃ (A : Option Addr) (c : Nat) (l : List Scr.EvR), v = .slice A l.length c ∧ l.length ≤ c ∧ c ≤ maxLen ∧ Src W 10 A l.length (Scr.vcells l) ∧ Scr.SOk W l ∧ (l.map fun e => Scr.wtE e.x).sum ≤ Rows.uptoBulk d := by
  have hv := okWide_slice Try.underlying22 hv0
  have _ : Inhabited Scr.EvR := ⟨⟨Scr.bare 0 0 0, none, 0⟩⟩
  obtain ⟨A, c, l, h1, h2, h3, h4, h5, _, h6⟩ := open_rows_wt (α := Scr.EvR) Scr.vcell (Scr.VOk W) (fun e => Scr.wtE e.x) 10 Try.underlying22 (by kernel_rfl) (by decide) (fun _ => rfl)
    (fun fuel cs y hy => by
      obtain ⟨y0, y1, y2, y3, n, hyd, hl, h0, h1, h2, h3⟩ := Joins.trod_struct4 Try.underlying41 hy
      have hC : Try.prog.cellsOf 41 = 10 := by kernel_rfl
      rw [hC] at hl
      match cs, hl with
      | [c0, c1, c2, c3, c4, c5, c6, c7, c8, c9], _ =>
        have e3 : Try.prog.cellsOf 3 = 1 := by kernel_rfl
        have e9 : Try.prog.cellsOf 9 = 1 := by kernel_rfl
        have eU : Try.prog.cellsOf 36 = 1 := by kernel_rfl
        have eA : Try.prog.cellsOf 39 = 7 := by kernel_rfl
        have eO : Try.prog.cellsOf 37 = 1 := by kernel_rfl
        obtain ⟨x0, hx0, _, _⟩ := DataW.trod_int Try.underlying3 h0
        obtain ⟨x1, hx1, _, _⟩ := DataW.trod_int Try.underlying3 h1
        obtain ⟨x2, hx2, _, _⟩ := DataW.trod_int Try.underlying3 h2
        simp [e3] at hx0 hx1 hx2
        simp [eA] at h3
        obtain ⟨z0, z1, z2, z3, z4, z5, z6, k, hzd, hl2, g0, g1, g2, g3, g4, g5, g6⟩ := Scr.trod_struct7 Try.underlying39 h3
        obtain ⟨u0, hu0, _, _⟩ := DataW.trod_int Try.underlying3 g0
        obtain ⟨u1, hu1, _, _⟩ := DataW.trod_int Try.underlying3 g1
        obtain ⟨u2, hu2, hd2, _⟩ := DataW.trod_string Try.underlying9 g2
        obtain ⟨u3, hu3, hd3, _⟩ := DataW.trod_string Try.underlying9 g3
        obtain ⟨u4, hu4, _, m4⟩ := DataW.trod_int Try.underlying36 g4
        obtain ⟨u5, hu5, _, _⟩ := DataW.trod_int Try.underlying3 g5
        simp [e3] at hu0 hu1 hu5
        simp [e9] at hu2 hu3
        simp [eU] at hu4
        simp [eO] at g6
        subst hx0 hx1 hx2 hu0 hu1 hu2 hu3 hu4 hu5
        have hv1 : ∃ A n c, c9 = .slice A n c := by
          rcases Deep.open_slice Try.underlying37 g6 with ⟨e, _⟩ | ⟨a, len, cap, _, _, _, _, e, _⟩
          · simp at e; exact ⟨_, _, _, e⟩
          · simp at e; exact ⟨_, _, _, e⟩
        have h2' : DataW.Trod enc Try.prog W 0 (fun _ => true) true 37 c9 z6.1 z6.2 := by
          obtain ⟨A, k', c, rfl⟩ := hv1
          exact ⟨k, g6⟩
        obtain ⟨A, c, l, rfl, q1, q2, q3, q4⟩ := open_ops_wt hv1 h2'
        refine ⟨⟨⟨x0, x1, x2, u0, u1, u2, u3, u4, u5, l⟩, A, c⟩, rfl, ⟨q3, q1, q2, u64_in m4⟩, ?_⟩
        rw [hyd]
        simp only [Rows.uptoBulk, Rows.uptoBulkAll, hzd, hd2, hd3, Scr.wtE]
        simp
        omega) h hv
  exact ⟨A, c, l, h1, h2, h3, h4, h5, h6⟩
end
end Go.Proofs.Ytfobbocaodppeaa
