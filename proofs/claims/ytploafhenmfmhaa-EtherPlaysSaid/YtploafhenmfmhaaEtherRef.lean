/- The reference of the ether: what Send, Take, Drop, Double of catenaref21 do to a list of packets. -/
import Derived.Test.YtploafhenmfmhaaEtherMore
import Derived.Test.YtploafhenmfmhaaSlice
import Derived.Deep.RegionHeld3
import Derived.Deep.RegionLaw
set_option linter.unusedSimpArgs false
set_option linter.unusedVariables false
namespace Go.Proofs.Ytploafhenmfmhaa
open Go.RowKit
set_option maxRecDepth 100000
namespace Ether

def cellsOf (ps : List Pk) : List Value := ps.flatMap fun p => [.int .i64 p.1, .int .i64 p.2.1, .string p.2.2]
theorem cellsOf_append (a b : List Pk) : cellsOf (a ++ b) = cellsOf a ++ cellsOf b := by simp [cellsOf]
theorem cellsOf_len (a : List Pk) : (cellsOf a).length = a.length * 3 := by
  induction a with
  | nil => rfl
  | cons p a ih => simp only [cellsOf, List.flatMap_cons, List.length_append, List.length_cons, List.length_nil] at *; omega
theorem cellsOf_one (a : List Pk) : ∀ u ∈ cellsOf a, u.oneCell' = true := by
  intro u hu
  simp only [cellsOf, List.mem_flatMap] at hu
  obtain ⟨p, _, hu⟩ := hu
  simp at hu
  rcases hu with rfl | rfl | rfl <;> rfl
theorem cellsOf_take (a : List Pk) (k : Nat) : (cellsOf a).take (k * 3) = cellsOf (a.take k) := by
  induction a generalizing k with
  | nil => simp [cellsOf]
  | cons p a ih =>
    cases k with
    | zero => simp [cellsOf]
    | succ k =>
      have := ih k
      simp only [cellsOf, List.flatMap_cons, List.take_succ_cons] at *
      rw [show (k + 1) * 3 = k * 3 + 1 + 1 + 1 by omega]
      simp [this]
theorem cellsOf_drop (a : List Pk) (k : Nat) : (cellsOf a).drop (k * 3) = cellsOf (a.drop k) := by
  induction a generalizing k with
  | nil => simp [cellsOf]
  | cons p a ih =>
    cases k with
    | zero => simp [cellsOf]
    | succ k =>
      have := ih k
      simp only [cellsOf, List.flatMap_cons, List.drop_succ_cons] at *
      rw [show (k + 1) * 3 = k * 3 + 1 + 1 + 1 by omega]
      simp [this]
theorem cellsOf_at (a : List Pk) (k : Nat) (p : Pk) (h : a[k]? = some p) : (cellsOf a)[k * 3]? = some (.int .i64 p.1) ∧ (cellsOf a)[k * 3 + 1]? = some (.int .i64 p.2.1) ∧ (cellsOf a)[k * 3 + 2]? = some (.string p.2.2) := by
  have hd : (cellsOf a).drop (k * 3) = cellsOf (a.drop k) := cellsOf_drop a k
  have hk : k < a.length := (List.getElem?_eq_some_iff.1 h).1
  have he : a.drop k = p :: a.drop (k + 1) := by
    rw [List.drop_eq_getElem_cons hk]
    congr 1
    exact (List.getElem?_eq_some_iff.1 h).2
  rw [he] at hd
  refine ⟨?_, ?_, ?_⟩
  · rw [show k * 3 = k * 3 + 0 by omega, ← List.getElem?_drop, hd]; rfl
  · rw [← List.getElem?_drop, hd]; rfl
  · rw [← List.getElem?_drop, hd]; rfl

theorem elemPk : Elem Try.prog 27 36 3 32 := by
  refine ⟨Try.underlying27, ?_, by decide⟩
  obtain ⟨i0, hi, hz0, hz1, hz2⟩ := info_parts (show (Try.prog.info? 36).map (fun i => (i.zero, i.size, i.bytes)) = some (some (.agg #[.int .i64 0, .int .i64 0, .string ⟨#[]⟩]), 3, 32) by kernel_rfl)
  exact ⟨i0, _, hi, hz0, hz1, hz2, rfl⟩

/-- The reference behind block x. -/
def RefAt (w : World) (x : Nat) (G : Nat → Prop) (ps : List Pk) (lost : Int) : Prop :=
  ∃ A c, (∀ k, G k ↔ k = x ∨ (Value.slice A ps.length c).ownBlock = some k) ∧ Has w x 33 #[.slice A ps.length c, .int .i64 lost] ∧ w.ownsRow 0 36 3 (.slice A ps.length c) ps.length (cellsOf ps)

theorem RefAt.kept {F G : Nat → Prop} {w w' : World} {x : Nat} {ps : List Pk} {lost : Int} (h : RefAt w x G ps lost) (hk : Kept F w w') (hs : Sep G F) : RefAt w' x G ps lost := by
  obtain ⟨A, c, hG, hx, ho⟩ := h
  exact ⟨A, c, hG, hx.kept hk (hs _ ((hG _).2 (.inl rfl))), own_kept ho hk fun g hg => hs g ((hG g).2 (.inr hg))⟩
theorem RefAt.lt {G : Nat → Prop} {w : World} {x : Nat} {ps : List Pk} {lost : Int} (h : RefAt w x G ps lost) : ∀ k, G k → k < w.heap.size := by
  obtain ⟨A, c, hG, hx, ho⟩ := h
  intro k hk
  rcases (hG k).1 hk with rfl | h
  · exact hx.lt
  · exact own_lt ho h

/-- Behind a call of the reference that gave v. -/
def AfterR (w : World) (x : Nat) (G : Nat → Prop) (v : Value) (ps : List Pk) (lost : Int) (e : Ending) (w' : World) : Prop :=
  e = .returned v ∧ ∃ G', RefAt w' x G' ps lost ∧ Grows w G G' ∧ Kept (fun k => k = x) w w'

/-- The last step of Send, Take and Double: the new row is stored. -/
theorem ref_close {G : Nat → Prop} {w w2 : World} {x : Nat} {ps qs : List Pk} {lost : Int} {A B : Option Addr} {c d m : Nat} {xs : List Value} {v : Value}
    (hG : ∀ k, G k ↔ k = x ∨ (Value.slice A ps.length c).ownBlock = some k) (hx : Has w2 x 33 #[.slice A ps.length c, .int .i64 lost])
    (ho : w2.ownsRow 0 36 3 (.slice B m d) m xs) (hxs : xs = cellsOf qs) (hm : qs.length = m) (hk : Kept NoF w w2) (hnew : ∀ k, (Value.slice B m d).ownBlock = some k → w.heap.size ≤ k) (hxl : x < w.heap.size) :
    AfterR w x G v qs lost (.returned v) (w2.setCell ⟨x, 0, none⟩ (.slice B m d)) := by
  subst hm
  subst hxs
  have hne : ∀ g, (Value.slice B qs.length d).ownBlock = some g → g ≠ x := fun g hg e => by have := hnew g hg; omega
  refine ⟨rfl, fun k => k = x ∨ (Value.slice B qs.length d).ownBlock = some k, ⟨B, d, fun _ => Iff.rfl, hx.put 0 _, ?_⟩, ?_, ?_⟩
  · exact own_kept ho (F := fun k => k = x) ((Kept.refl _ _).put (.inl rfl)) fun g hg => hne g hg
  · rintro k (rfl | h)
    · exact .inl ((hG _).2 (.inl rfl))
    · exact .inr (hnew k h)
  · exact (hk.mono fun _ x => x.elim).put (.inl rfl)

/-- The same, where stores into a new block R follow (a result that is a struct). -/
theorem ref_close2 {G : Nat → Prop} {w w2 W : World} {x R m0 : Nat} {ps qs : List Pk} {lost : Int} {A B : Option Addr} {c d m : Nat} {xs : List Value} {v : Value}
    (hG : ∀ k, G k ↔ k = x ∨ (Value.slice A ps.length c).ownBlock = some k) (hx : Has w2 x 33 #[.slice A ps.length c, .int .i64 lost])
    (ho : w2.ownsRow 0 36 3 (.slice B m d) m xs) (hxs : xs = cellsOf qs) (hm : qs.length = m) (hk : Kept NoF w w2) (hnew : ∀ k, (Value.slice B m d).ownBlock = some k → m0 ≤ k) (hxl : x < w.heap.size)
    (hW : Kept (fun k => k = R) (w2.setCell ⟨x, 0, none⟩ (.slice B m d)) W) (hR : w.heap.size ≤ R) (hR2 : R < m0) :
    AfterR w x G v qs lost (.returned v) W := by
  obtain ⟨he, G', ⟨B', d', hG', hx', ho'⟩, hg, hkk⟩ := ref_close (v := v) hG hx ho hxs hm hk (fun k h => by have := hnew k h; omega) hxl
  subst hm
  have h1 := hx'.eq (hx.put 0 (.slice B qs.length d))
  have e1 : Value.slice B' qs.length d' = Value.slice B qs.length d := by
    have := congrArg (fun a => a[0]?) h1
    simpa using this
  refine ⟨he, G', RefAt.kept ⟨B', d', hG', hx', ho'⟩ hW ?_, hg, hkk.trans hW fun k h => .inr (by omega)⟩
  intro k hk1 hk2
  rcases (hG' k).1 hk1 with rfl | h
  · omega
  · rw [e1] at h
    have := hnew k h
    omega

set_option maxHeartbeats 2000000 in
theorem rsend_ok {G : Nat → Prop} {w : World} {x : Nat} {ps : List Pk} {lost : Int} (h : RefAt w x G ps lost) (p : Pk) (a0 : 0 ≤ p.1) (a1 : p.1 < 8) (b0 : 0 ≤ p.2.1) (b1 : p.2.1 < 8) (hlen : ps.length < 400) :
    Calls Try.prog 21 #[.pointer (some ⟨x, 0, none⟩), agg p] w (AfterR w x G (.int .i64 0) (ps ++ [p]) lost) := by
  obtain ⟨A, c, hG, hx, ho⟩ := h
  have c0 : w.cell? ⟨x, 0, none⟩ = some (.slice A ps.length c) := hx.cell 0
  have f0 := hx.frozen 0
  have hxl := hx.lt
  have hcap := own_cap ho
  obtain ⟨p1, p2, p3⟩ := p
  dsimp only at a0 a1 b0 b1
  have HX := Lib.hid hx; clear hx
  have HO := Lib.hid ho; clear ho
  have HG := Lib.hid hG; clear hG
  unfold agg
  go_enter Try.func21, Try.ntmps21
  go_wp2_with fail
  obtain ⟨w0, hw0⟩ : ∃ w0, w0 = w.alloc (.cells #[.int .i64 p1, .int .i64 p2, .string p3] 36) := ⟨_, rfl⟩
  have hP : Has w0 w.heap.size 36 #[.int .i64 p1, .int .i64 p2, .string p3] := by rw [hw0]; exact Has.new _ _ _
  have hk0 : Kept NoF w w0 := by rw [hw0]; exact (Kept.refl _ _).alloc _
  rw [← hw0]
  clear hw0
  have hX0 := HX.out.kept hk0 fun x => x
  have B0 : w0.cell? ⟨w.heap.size, 0, none⟩ = some (.int .i64 p1) := hP.cell 0
  have B1 : w0.cell? ⟨w.heap.size, 1, none⟩ = some (.int .i64 p2) := hP.cell 1
  have B2 : w0.cell? ⟨w.heap.size, 2, none⟩ = some (.string p3) := hP.cell 2
  have c0' : w0.cell? ⟨x, 0, none⟩ = some (.slice A ps.length c) := hX0.cell 0
  have f0' := hX0.frozen 0
  have hx0 := hX0.lt
  have hp0 := hP.lt
  have HX0 := Lib.hid hX0; clear hX0
  have HP := Lib.hid hP; clear hP
  have hone : ∀ u ∈ (#[.int .i64 p1, .int .i64 p2, .string p3] : Array Value).toList, u.oneCell' = true := by
    intro u hu
    simp at hu
    rcases hu with rfl | rfl | rfl <;> rfl
  have hM : ps.length + 1 ≤ maxLen := by unfold maxLen; omega
  have hY : (ps.length + 1) * 32 ≤ 140737488355328 := by omega
  have HM0 : Hid (0 + ps.length ≤ maxLen) := Lib.hid (by unfold maxLen; omega)
  have HY0 : Hid ((0 + ps.length) * 32 ≤ 140737488355328) := Lib.hid (by omega)
  have HONE := Lib.hid hone; clear hone
  have HM := Lib.hid hM; clear hM
  have HY := Lib.hid hY; clear hY
  go_region_law (first
      | (with_reducible apply step_append_src elemPk (.tmp 39) (.tmp 43) (n := 0) (xs := []) (A := A) (m := ps.length) (c := c) (news := cellsOf ps)
         rfl
         rfl
         exact (rfl : _ = Value.slice (some ⟨_, 0, none⟩) 0 0)
         (refine own_empty (cs := #[]) ?_ rfl; (repeat (first | with_reducible exact Has.new_at _ _ _ (by simp) | with_reducible apply Has.drew | with_reducible apply Has.drewN | with_reducible apply Has.alloc | (with_reducible apply Has.past <;> (try omega)) )))
         rfl
         (refine Src.of_own (own_kept HO.out (F := NoF) (Kept.then hk0 ?_) (fun _ _ x => x)); (repeat' (first | with_reducible exact Kept.refl _ _ | with_reducible refine Kept.put ?_ ?_ | with_reducible refine Kept.drewN ?_ _ | with_reducible refine Kept.drew ?_ | with_reducible refine Kept.alloc ?_ _ | (fail) | (right; simp; done))))
         exact cellsOf_one ps
         exact HM0.out
         exact HY0.out
         intro A1 c1 w1 ho1 hg1 ha1
         have hk1 : Kept NoF w0 w1 := by refine Kept.grown ?_ hg1 ?_; (repeat' (first | with_reducible exact Kept.refl _ _ | with_reducible refine Kept.put ?_ ?_ | with_reducible refine Kept.drewN ?_ _ | with_reducible refine Kept.drew ?_ | with_reducible refine Kept.alloc ?_ _ | (fail) | (right; simp; done))); (intro k hk; simp [Value.ownBlock] at hk; right; omega)
         have P0 : w1.cell? ⟨w.heap.size, 0, none⟩ = some (.int .i64 p1) := (HP.out.kept hk1 fun x => x).cell 0
         have P1 : w1.cell? ⟨w.heap.size, 1, none⟩ = some (.int .i64 p2) := (HP.out.kept hk1 fun x => x).cell 1
         have P2 : w1.cell? ⟨w.heap.size, 2, none⟩ = some (.string p3) := (HP.out.kept hk1 fun x => x).cell 2
         have hz1 := hk1.size
         simp only [Nat.zero_add, List.nil_append] at ho1 ha1 ⊢)
      | (with_reducible apply step_append_src elemPk (.tmp 44) (.tmp 46) (n := ps.length) (xs := cellsOf ps) (m := 1) (c := 1) (news := [.int .i64 p1, .int .i64 p2, .string p3])
         rfl
         rfl
         exact (rfl : _ = Value.slice A1 ps.length c1)
         (refine own_kept ho1 (F := NoF) ?_ (fun _ _ x => x); (repeat' (first | with_reducible exact Kept.refl _ _ | with_reducible refine Kept.put ?_ ?_ | with_reducible refine Kept.drewN ?_ _ | with_reducible refine Kept.drew ?_ | with_reducible refine Kept.alloc ?_ _ | (fail) | (right; simp; done))))
         exact (rfl : _ = Value.slice (some ⟨_, 0, none⟩) 1 1)
         ((with_reducible apply Src.of_has (t := 36) (m := 1) (cs := #[.int .i64 p1, .int .i64 p2, .string p3])); (first | (focus ((repeat (first | with_reducible exact Has.new_at _ _ _ (by simp) | with_reducible apply Has.drew | with_reducible apply Has.drewN | with_reducible apply Has.alloc | (with_reducible apply Has.past <;> (try omega)) )); done)) | (focus (refine Has.grown ?_ hg1 ?_; (repeat (first | with_reducible exact Has.new_at _ _ _ (by simp) | with_reducible apply Has.drew | with_reducible apply Has.drewN | with_reducible apply Has.alloc | (with_reducible apply Has.past <;> (try omega)) )); (simp [Value.ownBlock] <;> omega)))); rfl)
         exact HONE.out
         exact HM.out
         exact HY.out
         intro A2 c2 w2 ho2 hg2 ha2
         have hk2 : Kept NoF w0 w2 := by refine Kept.grown (Kept.then hk1 ?_) hg2 ?_; (repeat' (first | with_reducible exact Kept.refl _ _ | with_reducible refine Kept.put ?_ ?_ | with_reducible refine Kept.drewN ?_ _ | with_reducible refine Kept.drew ?_ | with_reducible refine Kept.alloc ?_ _ | (fail) | (right; simp; done))); (intro k hk; rw [hk] at ha1; simp [Value.ownBlock] at ha1; right; omega)
         have e0 : w2.cell? ⟨x, 0, none⟩ = some (.slice A ps.length c) := (HX0.out.kept hk2 fun x => x).cell 0
         have e1 := (HX0.out.kept hk2 fun x => x).frozen 0))
  all_goals
    go_wp2
    go_ret
    exact ref_close HG.out (HX0.out.kept hk2 fun x => x) ho2 (by rw [cellsOf_append]; rfl) (by simp) (hk0.then hk2) (by
      intro k hk
      have hs0 := hk0.size
      rw [hk] at ha2
      rcases ha2 with e | e
      · rw [← e] at ha1
        simp [Value.ownBlock] at ha1
        omega
      · simp at e
        omega) hxl

theorem rat_any {G : Nat → Prop} {w : World} {x : Nat} {ps : List Pk} {lost : Int} (h : RefAt w x G ps lost) (hp : 0 < ps.length) (hlen : ps.length ≤ 1000) (k : Int) :
    Calls Try.prog 72 #[.pointer (some ⟨x, 0, none⟩), .int .i64 k] w fun e w' => e = .returned (.int .i64 (placeP ps k)) ∧ w = w' := by
  obtain ⟨A, c, hG, hx, ho⟩ := h
  have c0 : w.cell? ⟨x, 0, none⟩ = some (.slice A ps.length c) := hx.cell 0
  clear hG hx ho
  have h0 : ((ps.length : Int) == 0) = false := by rw [beq_eq_false_iff_ne]; omega
  have hpl : (placeP ps k : Int) = max k 0 % (ps.length : Int) := by
    unfold placeP
    rw [Int.natCast_emod, Int.toNat_of_nonneg (by omega)]
  have HP := Lib.hid hpl; clear hpl
  by_cases hk : 0 ≤ k
  · go_enter Try.func72, Try.ntmps72
    go_wp2
    go_ret
    exact ⟨by rw [HP.out, show max k 0 = k by omega]; rfl, rfl⟩
  · go_enter Try.func72, Try.ntmps72
    go_wp2
    go_ret
    exact ⟨by rw [HP.out, show max k 0 = 0 by omega, Int.zero_emod]; rfl, rfl⟩

theorem rtake_no {G : Nat → Prop} {w : World} {x : Nat} {ps : List Pk} {lost : Int} (h : RefAt w x G ps lost) (hp : ps = []) (k : Int) :
    Calls Try.prog 24 #[.pointer (some ⟨x, 0, none⟩), .int .i64 k] w (AfterR w x G (.tuple #[agg zero, .int .i64 7]) ps lost) := by
  have H := Lib.hid h
  obtain ⟨A, c, hG, hx, ho⟩ := h
  subst hp
  have c0 : w.cell? ⟨x, 0, none⟩ = some (.slice A 0 c) := hx.cell 0
  have hxl := hx.lt
  clear hG hx ho
  go_enter Try.func24, Try.ntmps24
  go_wp2
  refine bodyPost_ret (v := .tuple #[agg zero, .int .i64 7]) (by simp [results, Try.results24, go_sem, agg, zero]) rfl ⟨rfl, G, H.out.kept (F := NoF) ?_ (fun _ _ x => x), Grows.refl _ _, ?_⟩
  all_goals (repeat' (first | with_reducible exact Kept.refl _ _ | with_reducible refine Kept.put ?_ ?_ | with_reducible refine Kept.drewN ?_ _ | with_reducible refine Kept.drew ?_ | with_reducible refine Kept.alloc ?_ _ | (fail) | (right; simp; done)))

set_option maxHeartbeats 4000000 in
theorem rtake_ok {G : Nat → Prop} {w : World} {x : Nat} {ps : List Pk} {lost : Int} (h : RefAt w x G ps lost) (hp : 0 < ps.length) (hlen : ps.length ≤ 1000) (k : Int) (i : Nat) (hi : placeP ps k = i) (p : Pk) (hpi : ps[i]? = some p) :
    Calls Try.prog 24 #[.pointer (some ⟨x, 0, none⟩), .int .i64 k] w (AfterR w x G (.tuple #[agg p, .int .i64 0]) (ps.eraseIdx i) lost) := by
  have hil : i < ps.length := (List.getElem?_eq_some_iff.1 hpi).1
  have hat : ∀ W : World, Kept NoF w W → _ := fun W hW => rat_any (h.kept hW fun _ _ x => x) hp hlen k
  rw [hi] at hat
  have HAT := Lib.hid hat; clear hat hi
  obtain ⟨A, c, hG, hx, ho⟩ := h
  obtain ⟨g, cap, hv, _, hgl⟩ := ho.form hp
  injection hv with hA _ hC
  subst hA
  subst hC
  obtain ⟨k0, k1, k2⟩ := cellsOf_at ps i p hpi
  have hcs := ho.cells (g := g) rfl
  have hc := own_cap ho
  have e1 : ∀ j, ((⟨g, 0, none⟩ : Addr).add j) = ⟨g, j, none⟩ := fun j => by unfold Addr.add; split <;> simp_all
  have d0 : w.cell? ⟨g, i * 3, none⟩ = some (.int .i64 p.1) := by rw [← e1]; exact hcs _ _ k0
  have d1 : w.cell? ⟨g, i * 3 + 1, none⟩ = some (.int .i64 p.2.1) := by rw [← e1]; exact hcs _ _ k1
  have d2 : w.cell? ⟨g, i * 3 + 2, none⟩ = some (.string p.2.2) := by rw [← e1]; exact hcs _ _ k2
  have c0 : w.cell? ⟨x, 0, none⟩ = some (.slice (some ⟨g, 0, none⟩) ps.length c) := hx.cell 0
  have h0 : ((ps.length : Int) == 0) = false := by rw [beq_eq_false_iff_ne]; omega
  have hxl := hx.lt
  have HX := Lib.hid hx; clear hx
  have HO := Lib.hid ho; clear ho
  have HG := Lib.hid hG; clear hG e1 hcs k0 k1 k2 hpi
  obtain ⟨p1, p2, p3⟩ := p
  dsimp only at d0 d1 d2
  have hel : (ps.eraseIdx i).length = i + (ps.length - (i + 1)) := by rw [List.length_eraseIdx, if_pos hil]; omega
  have hec : cellsOf (ps.take i) ++ cellsOf (ps.drop (i + 1)) = cellsOf (ps.eraseIdx i) := by rw [← cellsOf_append, List.eraseIdx_eq_take_drop_succ]
  have HEL := Lib.hid hel; clear hel
  have HEC := Lib.hid hec; clear hec
  go_enter Try.func24, Try.ntmps24
  go_wp2_with fail
  refine (HAT.out _ ((Kept.refl _ _).alloc _)).mono ?_
  rintro e w' ⟨rfl, rfl⟩
  go_wp2_with fail
  obtain ⟨w0, hw0⟩ : ∃ w0, w0 = (w.alloc (.cells #[.int .i64 0, .int .i64 0, .string ⟨#[]⟩] 36)).alloc (.cells #[.int .i64 p1, .int .i64 p2, .string p3] 36) := ⟨_, rfl⟩
  have hk0 : Kept NoF w w0 := by rw [hw0]; (repeat' (first | with_reducible exact Kept.refl _ _ | with_reducible refine Kept.put ?_ ?_ | with_reducible refine Kept.drewN ?_ _ | with_reducible refine Kept.drew ?_ | with_reducible refine Kept.alloc ?_ _ | (fail) | (right; simp; done)))
  have hR : Has w0 w.heap.size 36 #[.int .i64 0, .int .i64 0, .string ⟨#[]⟩] := by rw [hw0]; exact (Has.new _ _ _).alloc _
  have hP : Has w0 (w.heap.size + 1) 36 #[.int .i64 p1, .int .i64 p2, .string p3] := by rw [hw0]; exact Has.new_at _ _ _ (by simp)
  rw [← hw0]
  clear hw0
  have hX0 := HX.out.kept hk0 fun x => x
  have c0' : w0.cell? ⟨x, 0, none⟩ = some (.slice (some ⟨g, 0, none⟩) ps.length c) := hX0.cell 0
  have hx0 := hX0.lt
  have HX0 := Lib.hid hX0; clear hX0
  have HP := Lib.hid hP; clear hP
  have HR := Lib.hid hR; clear hR
  have sr1 : ∀ W : World, Kept NoF w0 W → Src W 3 (some ⟨g, 0, none⟩) i (cellsOf (ps.take i)) := fun W hW => by
    rw [← cellsOf_take]
    exact (Src.of_own (own_kept HO.out (hk0.then hW) fun _ _ x => x)).take (by omega)
  have SR1 := Lib.hid sr1; clear sr1
  have HM0 : Hid (0 + i ≤ maxLen) := Lib.hid (by unfold maxLen; omega)
  have HY0 : Hid ((0 + i) * 32 ≤ 140737488355328) := Lib.hid (by omega)
  have hI1 : (i : Int) ≤ (c : Int) := by omega
  have hI2 : (i : Int) + 1 ≤ (ps.length : Int) := by omega
  by_cases hcap : c = i + 1
  · have hel2 : (ps.eraseIdx i).length = i := by rw [HEL.out]; omega
    have hec2 : cellsOf (ps.take i) = cellsOf (ps.eraseIdx i) := by rw [← HEC.out, List.drop_eq_nil_of_le (by omega)]; simp [cellsOf]
    have HEL2 := Lib.hid hel2; clear hel2
    have HEC2 := Lib.hid hec2; clear hec2
    subst hcap
    have HM1 : Hid (i + 0 ≤ maxLen) := Lib.hid (by unfold maxLen; omega)
    have HY1 : Hid ((i + 0) * 32 ≤ 140737488355328) := Lib.hid (by omega)
    have SR2 : Hid (∀ W : World, Kept NoF w0 W → Src W 3 (some ⟨g, 0, none⟩) 0 []) := Lib.hid fun W _ => Src.nil W 3 _
    have hI3 : (i : Int) ≤ (i : Int) + 1 := by omega
    have hI4 : (0 : Int) ≤ (i : Int) := by omega
    have hW1 : IntKind.i64.wrap ((i : Int) + 1) = (i : Int) + 1 := IntWalk.i64_in _ (by omega)
    have hW0 : (0 : Int) ≤ (i : Int) + 1 := by omega
    have hW2 : ((i : Int) + 1).toNat = i + 1 := by omega
    go_region_law (first
        | (with_reducible apply step_append_src elemPk (.tmp 26) (.tmp 32) (n := 0) (xs := []) (A := some ⟨g, 0, none⟩) (m := i) (c := i + 1) (news := cellsOf (ps.take i))
           rfl
           rfl
           exact (rfl : _ = Value.slice (some ⟨_, 0, none⟩) 0 0)
           (refine own_empty (cs := #[]) ?_ rfl; (repeat (first | with_reducible exact Has.new_at _ _ _ (by simp) | with_reducible apply Has.drew | with_reducible apply Has.drewN | with_reducible apply Has.alloc | (with_reducible apply Has.past <;> (try omega)) )))
           exact (rfl : _ = Value.slice (some ⟨g, 0, none⟩) i (i + 1))
           (exact SR1.out _ (by (repeat' (first | with_reducible exact Kept.refl _ _ | with_reducible refine Kept.put ?_ ?_ | with_reducible refine Kept.drewN ?_ _ | with_reducible refine Kept.drew ?_ | with_reducible refine Kept.alloc ?_ _ | (fail) | (right; simp; done)))))
           exact cellsOf_one _
           exact HM0.out
           exact HY0.out
           intro A1 c1 w1 ho1 hg1 ha1
           have hk1 : Kept NoF w0 w1 := by refine Kept.grown ?_ hg1 ?_; (repeat' (first | with_reducible exact Kept.refl _ _ | with_reducible refine Kept.put ?_ ?_ | with_reducible refine Kept.drewN ?_ _ | with_reducible refine Kept.drew ?_ | with_reducible refine Kept.alloc ?_ _ | (fail) | (right; simp; done))); exact fun k hk => .inr (new_row hk (by simp))
           have P0 : w1.cell? ⟨x, 0, none⟩ = some (.slice (some ⟨g, 0, none⟩) ps.length (i + 1)) := (HX0.out.kept hk1 fun x => x).cell 0
           have hz1 := hk1.size
           simp only [Nat.zero_add, List.nil_append] at ho1 ha1 ⊢)
        | (with_reducible apply step_append_src elemPk (.tmp 33) (.tmp 40) (n := i) (xs := cellsOf (ps.take i)) (A := some ⟨g, 0, none⟩) (m := 0) (c := 0) (news := [])
           rfl
           rfl
           exact (rfl : _ = Value.slice A1 i c1)
           (refine own_kept ho1 (F := NoF) ?_ (fun _ _ x => x); (repeat' (first | with_reducible exact Kept.refl _ _ | with_reducible refine Kept.put ?_ ?_ | with_reducible refine Kept.drewN ?_ _ | with_reducible refine Kept.drew ?_ | with_reducible refine Kept.alloc ?_ _ | (fail) | (right; simp; done))))
           exact (rfl : _ = Value.slice (some ⟨g, 0, none⟩) (0) (0))
           (exact SR2.out _ (Kept.then hk1 (by (repeat' (first | with_reducible exact Kept.refl _ _ | with_reducible refine Kept.put ?_ ?_ | with_reducible refine Kept.drewN ?_ _ | with_reducible refine Kept.drew ?_ | with_reducible refine Kept.alloc ?_ _ | (fail) | (right; simp; done))))))
           exact (fun u hu => absurd hu List.not_mem_nil)
           exact HM1.out
           exact HY1.out
           intro A2 c2 w2 ho2 hg2 ha2
           have hk2 : Kept NoF w0 w2 := by refine Kept.grown (Kept.then hk1 ?_) hg2 ?_; (repeat' (first | with_reducible exact Kept.refl _ _ | with_reducible refine Kept.put ?_ ?_ | with_reducible refine Kept.drewN ?_ _ | with_reducible refine Kept.drew ?_ | with_reducible refine Kept.alloc ?_ _ | (fail) | (right; simp; done))); exact fun k hk => .inr (new_row2 hk ha1 (by simp) (by simp))
           have e0 : w2.cell? ⟨x, 0, none⟩ = some (.slice (some ⟨g, 0, none⟩) ps.length (i + 1)) := (HX0.out.kept hk2 fun x => x).cell 0
           have e1 := (HX0.out.kept hk2 fun x => x).frozen 0
           simp only [Nat.add_zero, List.append_nil] at ho2 ha2 ⊢))
    all_goals
      clear hW1 hW2
      have q0 : w2.cell? ⟨w.heap.size + 1, 0, none⟩ = some (.int .i64 p1) := (HP.out.kept hk2 fun x => x).cell 0
      have q1 : w2.cell? ⟨w.heap.size + 1, 1, none⟩ = some (.int .i64 p2) := (HP.out.kept hk2 fun x => x).cell 1
      have q2 : w2.cell? ⟨w.heap.size + 1, 2, none⟩ = some (.string p3) := (HP.out.kept hk2 fun x => x).cell 2
      have r0 : w2.cell? ⟨w.heap.size, 0, none⟩ = some (.int .i64 0) := (HR.out.kept hk2 fun x => x).cell 0
      have r1 : w2.cell? ⟨w.heap.size, 1, none⟩ = some (.int .i64 0) := (HR.out.kept hk2 fun x => x).cell 1
      have r2 : w2.cell? ⟨w.heap.size, 2, none⟩ = some (.string ⟨#[]⟩) := (HR.out.kept hk2 fun x => x).cell 2
      have s0 := (HR.out.kept hk2 fun x => x).frozen 0
      have s1 := (HR.out.kept hk2 fun x => x).frozen 1
      have s2 := (HR.out.kept hk2 fun x => x).frozen 2
      clear e0 e1 P0 c0 c0' d0 d1 d2
      have HO2 := Lib.hid ho2; clear ho2
      have HA2 := Lib.hid ha2; clear ha2
      have HA1 := Lib.hid ha1; clear ha1
      clear ho1 hg1 hg2
      go_wp2
      refine bodyPost_ret (v := .tuple #[agg (p1, p2, p3), .int .i64 0]) (by simp [results, Try.results24, go_sem, agg, r0, r1, r2]) rfl ?_
      refine ref_close2 (R := w.heap.size) (m0 := w0.heap.size) HG.out (HX0.out.kept hk2 fun x => x) HO2.out HEC2.out HEL2.out (hk0.then hk2) ?_ hxl ?_ (Nat.le_refl _) (by have := HP.out.lt; omega)
      · intro k hk
        exact new_row3 hk HA2.out HA1.out (by simp) (by simp) (by first | exact hz1 | simp | (simp; omega))
      · (repeat' (first | with_reducible exact Kept.refl _ _ | with_reducible refine Kept.put ?_ ?_ | with_reducible refine Kept.drewN ?_ _ | with_reducible refine Kept.drew ?_ | with_reducible refine Kept.alloc ?_ _ | (left; rfl) | (right; simp; done)))

  · have HM1 : Hid (i + (ps.length - (i + 1)) ≤ maxLen) := Lib.hid (by unfold maxLen; omega)
    have HY1 : Hid ((i + (ps.length - (i + 1))) * 32 ≤ 140737488355328) := Lib.hid (by omega)
    have sr2 : ∀ W : World, Kept NoF w0 W → Src W 3 (some ⟨g, (i + 1) * 3, none⟩) (ps.length - (i + 1)) (cellsOf (ps.drop (i + 1))) := fun W hW => by
      rw [← cellsOf_drop]
      have h1 := (Src.of_own (own_kept HO.out (hk0.then hW) fun _ _ x => x)).drop (k := i + 1) (cap := c) (by omega) (by omega)
      rw [if_neg hcap] at h1
      have e2 : ((⟨g, 0, none⟩ : Addr).add ((i + 1) * 3)) = ⟨g, (i + 1) * 3, none⟩ := by unfold Addr.add; rw [if_neg (by omega)]; simp
      rw [Option.map_some, e2] at h1
      exact h1
    have SR2 := Lib.hid sr2; clear sr2
    have hW1 : IntKind.i64.wrap ((i : Int) + 1) = (i : Int) + 1 := IntWalk.i64_in _ (by omega)
    have hW0 : (0 : Int) ≤ (i : Int) + 1 := by omega
    have hW2 : ((i : Int) + 1).toNat = i + 1 := by omega
    go_region_law (first
        | (with_reducible apply step_append_src elemPk (.tmp 26) (.tmp 32) (n := 0) (xs := []) (A := some ⟨g, 0, none⟩) (m := i) (c := c) (news := cellsOf (ps.take i))
           rfl
           rfl
           exact (rfl : _ = Value.slice (some ⟨_, 0, none⟩) 0 0)
           (refine own_empty (cs := #[]) ?_ rfl; (repeat (first | with_reducible exact Has.new_at _ _ _ (by simp) | with_reducible apply Has.drew | with_reducible apply Has.drewN | with_reducible apply Has.alloc | (with_reducible apply Has.past <;> (try omega)) )))
           exact (rfl : _ = Value.slice (some ⟨g, 0, none⟩) i c)
           (exact SR1.out _ (by (repeat' (first | with_reducible exact Kept.refl _ _ | with_reducible refine Kept.put ?_ ?_ | with_reducible refine Kept.drewN ?_ _ | with_reducible refine Kept.drew ?_ | with_reducible refine Kept.alloc ?_ _ | (fail) | (right; simp; done)))))
           exact cellsOf_one _
           exact HM0.out
           exact HY0.out
           intro A1 c1 w1 ho1 hg1 ha1
           have hk1 : Kept NoF w0 w1 := by refine Kept.grown ?_ hg1 ?_; (repeat' (first | with_reducible exact Kept.refl _ _ | with_reducible refine Kept.put ?_ ?_ | with_reducible refine Kept.drewN ?_ _ | with_reducible refine Kept.drew ?_ | with_reducible refine Kept.alloc ?_ _ | (fail) | (right; simp; done))); exact fun k hk => .inr (new_row hk (by simp))
           have P0 : w1.cell? ⟨x, 0, none⟩ = some (.slice (some ⟨g, 0, none⟩) ps.length c) := (HX0.out.kept hk1 fun x => x).cell 0
           have hz1 := hk1.size
           simp only [Nat.zero_add, List.nil_append] at ho1 ha1 ⊢)
        | (with_reducible apply step_append_src elemPk (.tmp 33) (.tmp 40) (n := i) (xs := cellsOf (ps.take i)) (A := some ⟨g, (i + 1) * 3, none⟩) (m := ps.length - (i + 1)) (c := c - (i + 1)) (news := cellsOf (ps.drop (i + 1)))
           rfl
           rfl
           exact (rfl : _ = Value.slice A1 i c1)
           (refine own_kept ho1 (F := NoF) ?_ (fun _ _ x => x); (repeat' (first | with_reducible exact Kept.refl _ _ | with_reducible refine Kept.put ?_ ?_ | with_reducible refine Kept.drewN ?_ _ | with_reducible refine Kept.drew ?_ | with_reducible refine Kept.alloc ?_ _ | (fail) | (right; simp; done))))
           exact (rfl : _ = Value.slice (some ⟨g, (i + 1) * 3, none⟩) (ps.length - (i + 1)) (c - (i + 1)))
           (exact SR2.out _ (Kept.then hk1 (by (repeat' (first | with_reducible exact Kept.refl _ _ | with_reducible refine Kept.put ?_ ?_ | with_reducible refine Kept.drewN ?_ _ | with_reducible refine Kept.drew ?_ | with_reducible refine Kept.alloc ?_ _ | (fail) | (right; simp; done))))))
           exact cellsOf_one _
           exact HM1.out
           exact HY1.out
           intro A2 c2 w2 ho2 hg2 ha2
           have hk2 : Kept NoF w0 w2 := by refine Kept.grown (Kept.then hk1 ?_) hg2 ?_; (repeat' (first | with_reducible exact Kept.refl _ _ | with_reducible refine Kept.put ?_ ?_ | with_reducible refine Kept.drewN ?_ _ | with_reducible refine Kept.drew ?_ | with_reducible refine Kept.alloc ?_ _ | (fail) | (right; simp; done))); exact fun k hk => .inr (new_row2 hk ha1 (by simp) (by simp))
           have e0 : w2.cell? ⟨x, 0, none⟩ = some (.slice (some ⟨g, 0, none⟩) ps.length c) := (HX0.out.kept hk2 fun x => x).cell 0
           have e1 := (HX0.out.kept hk2 fun x => x).frozen 0))
    all_goals
      clear hW1 hW2
      have q0 : w2.cell? ⟨w.heap.size + 1, 0, none⟩ = some (.int .i64 p1) := (HP.out.kept hk2 fun x => x).cell 0
      have q1 : w2.cell? ⟨w.heap.size + 1, 1, none⟩ = some (.int .i64 p2) := (HP.out.kept hk2 fun x => x).cell 1
      have q2 : w2.cell? ⟨w.heap.size + 1, 2, none⟩ = some (.string p3) := (HP.out.kept hk2 fun x => x).cell 2
      have r0 : w2.cell? ⟨w.heap.size, 0, none⟩ = some (.int .i64 0) := (HR.out.kept hk2 fun x => x).cell 0
      have r1 : w2.cell? ⟨w.heap.size, 1, none⟩ = some (.int .i64 0) := (HR.out.kept hk2 fun x => x).cell 1
      have r2 : w2.cell? ⟨w.heap.size, 2, none⟩ = some (.string ⟨#[]⟩) := (HR.out.kept hk2 fun x => x).cell 2
      have s0 := (HR.out.kept hk2 fun x => x).frozen 0
      have s1 := (HR.out.kept hk2 fun x => x).frozen 1
      have s2 := (HR.out.kept hk2 fun x => x).frozen 2
      clear e0 e1 P0 c0 c0' d0 d1 d2
      have HO2 := Lib.hid ho2; clear ho2
      have HA2 := Lib.hid ha2; clear ha2
      have HA1 := Lib.hid ha1; clear ha1
      clear ho1 hg1 hg2
      go_wp2
      refine bodyPost_ret (v := .tuple #[agg (p1, p2, p3), .int .i64 0]) (by simp [results, Try.results24, go_sem, agg, r0, r1, r2]) rfl ?_
      refine ref_close2 (R := w.heap.size) (m0 := w0.heap.size) HG.out (HX0.out.kept hk2 fun x => x) HO2.out HEC.out HEL.out (hk0.then hk2) ?_ hxl ?_ (Nat.le_refl _) (by have := HP.out.lt; omega)
      · intro k hk
        exact new_row3 hk HA2.out HA1.out (by simp) (by simp) (by first | exact hz1 | simp | (simp; omega))
      · (repeat' (first | with_reducible exact Kept.refl _ _ | with_reducible refine Kept.put ?_ ?_ | with_reducible refine Kept.drewN ?_ _ | with_reducible refine Kept.drew ?_ | with_reducible refine Kept.alloc ?_ _ | (left; rfl) | (right; simp; done)))
end Ether
end Go.Proofs.Ytploafhenmfmhaa
