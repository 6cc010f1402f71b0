/- Judge: the plain law: a state hangs on nothing later; a scan is the state; a reading of one key is its pair. -/
import Derived.Test.YtnmlemciiigjcaaJudge2
import Derived.Lib.SmallJoins
set_option linter.unusedSimpArgs false
set_option linter.unusedVariables false
namespace Go.Proofs.Ytnmlemciiigjcaa
open Go.RowKit Go.WideShapes Go.ChangeShapes
set_option maxRecDepth 100000
namespace Ent
open Ops Vn
theorem rowsL_all {ps : List PairR} {n : Nat} (h : ps.length ≤ n) : rowsL n allP ps = ps := by
  unfold rowsL
  have e : ps.filter allP = ps := List.filter_eq_self.2 fun _ _ => rfl
  rw [e, List.take_of_length_le h]
theorem rowsL_key {ps : List PairR} (hnd : (ps.map fun p => p.key).Nodup) {i : Nat} {x : PairR} (h : ps[i]? = some x) : rowsL 1 (keyP x.key) ps = [x] := by
  have e : ps.filter (keyP x.key) = [x] := by
    induction ps generalizing i with
    | nil => cases h
    | cons p ps ih =>
      rw [List.map_cons, List.nodup_cons] at hnd
      cases i with
      | zero =>
        obtain rfl : p = x := by simpa using h
        have h1 : keyP p.key p = true := by unfold keyP; simp
        have h2 : ps.filter (keyP p.key) = [] := by
          rw [List.filter_eq_nil_iff]
          intro q hq hk
          unfold keyP at hk
          exact hnd.1 (List.mem_map.2 ⟨q, hq, of_decide_eq_true hk⟩)
        rw [List.filter_cons, if_pos h1, h2]
      | succ i =>
        have h' : ps[i]? = some x := by simpa using h
        have h1 : ¬ keyP x.key p = true := by
          intro hk
          unfold keyP at hk
          have : x ∈ ps := List.mem_of_getElem? h'
          exact hnd.1 (List.mem_map.2 ⟨x, this, (of_decide_eq_true hk).symm⟩)
        rw [List.filter_cons, if_neg h1]
        exact ih hnd.2 h'
  unfold rowsL
  rw [e]
  rfl
theorem stateL_nodup (l : List EntR) (t : Int) : ((stateL l t).map fun p => p.key).Nodup := by
  unfold stateL overL
  have hnd : (overK [] (opsTo l t)).Nodup := Keys.nodup_of_lt (overK_rises _ _)
  rw [List.map_map]
  exact List.Pairwise.map _ (fun a b hab h => hab (by have h1 : ofL a = ofL b := h; have h2 := congrArg bl h1; rwa [bl_ofL, bl_ofL] at h2)) hnd
theorem opsTo_later (l : List EntR) (m : EntR) (t : Int) (h : t < m.ts) : opsTo (l ++ [m]) t = opsTo l t := by
  unfold opsTo
  rw [List.filter_append]
  have e : [m].filter (fun e => decide (e.ts ≤ t)) = [] := by simp; omega
  rw [e, List.append_nil]
theorem total_much {l : List EntR} (h : ¬ 100 < muchL l) : total l ≤ 100 := by
  have h1 := (muchL_small h).1
  unfold muchL muchAt at h
  rw [List.take_of_length_le (by omega)] at h
  unfold total
  omega
theorem total_snoc (l : List EntR) (m : EntR) : total (l ++ [m]) = total l + m.ops.length := by
  unfold total
  simp
end Ent
section
variable {H : Type} {enc : TypeId × Value → H} {W : World} {v : Value} {d : DataW H} {ps : List MemPlace} {r : Reach} {b0 : Nat}
theorem open_ent (hv : Value.okWide Try.prog W r b0 47 v) (h : DataW.Trod enc Try.prog W 0 (fun _ => true) true 47 v d ps) (hz : ∀ x ∈ d.weights Try.prog 47, x ≤ reachBytes) :
    ∃ e : Ent.EntR, v = Ent.eagg e ∧ Ent.EOk W e := by
  obtain ⟨cs, rfl, hsz⟩ := okWide_struct Try.underlying47 hv
  have hC : Try.prog.cellsOf 47 = 4 := by kernel_rfl
  rw [hC] at hsz
  obtain ⟨c0, c1, c2, c3, rfl⟩ := Joins.array4 hsz
  obtain ⟨fuel, hy⟩ := h
  obtain ⟨y0, y1, n, hyd, hl, h0, h1⟩ := trod_struct2 Try.underlying47 hy
  have eB : Try.prog.cellsOf 45 = 3 := by kernel_rfl
  have e3 : Try.prog.cellsOf 3 = 1 := by kernel_rfl
  have e37 : Try.prog.cellsOf 37 = 1 := by kernel_rfl
  have eU : Try.prog.cellsOf 36 = 1 := by kernel_rfl
  obtain ⟨x3, hx3, _, m3⟩ := DataW.trod_int Try.underlying36 h1
  simp [eB, eU, Value.cells] at hx3 h0
  obtain ⟨z0, z1, z2, k, hzd, hl2, g0, g1, g2⟩ := Deep.trod_struct3 Try.underlying45 h0
  obtain ⟨x0, hx0, _, _⟩ := DataW.trod_int Try.underlying3 g0
  obtain ⟨x1, hx1, _, _⟩ := DataW.trod_int Try.underlying3 g1
  simp [e3] at hx0 hx1
  simp [e3, e37] at g2
  subst hx0
  subst hx1
  subst hx3
  have hv1 : ∃ A n c, c2 = .slice A n c := by
    rcases Deep.open_slice Try.underlying37 g2 with ⟨e, _⟩ | ⟨a, len, cap, _, _, _, _, e, _⟩
    · simp at e; exact ⟨_, _, _, e⟩
    · simp at e; exact ⟨_, _, _, e⟩
  have h2' : DataW.Trod enc Try.prog W 0 (fun _ => true) true 37 c2 z2.1 z2.2 := by
    obtain ⟨A, k', c, rfl⟩ := hv1
    exact ⟨k, g2⟩
  have hzo : ∀ x ∈ z2.1.weights Try.prog 37, x ≤ reachBytes := by
    intro x hx
    refine hz x ?_
    have hd : d = .agg [y0.1, y1.1] := by injection hyd
    rw [hd, DataW.weights, Try.underlying47]
    have e0 : y0.1 = .agg [z0.1, z1.1, z2.1] := by rw [hzd]
    simp only [e0, List.map_cons, List.map_nil, DataW.weightsEach, DataW.weights, Try.underlying45, List.mem_append]
    exact .inl (.inr (.inr (.inl hx)))
  obtain ⟨A, c, l, rfl, q1, q2, q3, q4, q5⟩ := open_opsr hv1 h2' hzo
  exact ⟨⟨x0, x1, A, c, l, x3⟩, rfl, q3, q1, q2, q4, (u64_in m3).1, (u64_in m3).2, q5⟩
end
end Go.Proofs.Ytnmlemciiigjcaa
