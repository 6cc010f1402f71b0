/- The reference of the ether, more: all cases of Send and Take; Drop; Double. -/
import Derived.Test.YtploafhenmfmhaaEtherRef
set_option linter.unusedSimpArgs false
set_option linter.unusedVariables false
namespace Go.Proofs.Ytploafhenmfmhaa
open Go.RowKit
set_option maxRecDepth 100000
namespace Ether


set_option maxHeartbeats 40000000 in
theorem rdouble_ok {G : Nat → Prop} {w : World} {x : Nat} {ps : List Pk} {lost : Int} (h : RefAt w x G ps lost) (hp : 0 < ps.length) (hlen : ps.length < 400) (k : Int) (i : Nat) (hi : placeP ps k = i) (p : Pk) (hpi : ps[i]? = some p) :
    Calls Try.prog 39 #[.pointer (some ⟨x, 0, none⟩), .int .i64 k] w (AfterR w x G (.int .i64 0) (ps ++ [p]) lost) := by
  have hil : i < ps.length := (List.getElem?_eq_some_iff.1 hpi).1
  have hat : ∀ W : World, Kept NoF w W → _ := fun W hW => rat_any (h.kept hW fun _ _ x => x) hp (by omega) k
  rw [hi] at hat
  have HAT := Lib.hid hat; clear hat hi
  obtain ⟨A, c, hG, hx, ho⟩ := h
  obtain ⟨g, cap, hv, _, hgl⟩ := ho.form hp
  injection hv with hA _ hC
  subst hA
  subst hC
  obtain ⟨k0, k1, k2⟩ := cellsOf_at ps i p hpi
  have e1 : ∀ j, ((⟨g, 0, none⟩ : Addr).add j) = ⟨g, j, none⟩ := fun j => by unfold Addr.add; split <;> simp_all
  have hcs : ∀ W, Kept NoF w W → ∀ j u, (cellsOf ps)[j]? = some u → W.cell? ⟨g, j, none⟩ = some u := fun W hW j u hu => by rw [← e1]; exact (own_kept ho hW fun _ _ x => x).cells (g := g) rfl j u hu
  have hc := own_cap ho
  obtain ⟨p1, p2, p3⟩ := p
  have dc : ∀ W, Kept NoF w W → W.cell? ⟨g, i * 3, none⟩ = some (.int .i64 p1) ∧ W.cell? ⟨g, i * 3 + 1, none⟩ = some (.int .i64 p2) ∧ W.cell? ⟨g, i * 3 + 2, none⟩ = some (.string p3) :=
    fun W hW => ⟨hcs W hW _ _ k0, hcs W hW _ _ k1, hcs W hW _ _ k2⟩
  obtain ⟨d0, d1, d2⟩ := dc w (Kept.refl _ _)
  have DC := Lib.hid dc; clear dc
  have c0 : w.cell? ⟨x, 0, none⟩ = some (.slice (some ⟨g, 0, none⟩) ps.length c) := hx.cell 0
  have h0 : ((ps.length : Int) == 0) = false := by rw [beq_eq_false_iff_ne]; omega
  have hxl := hx.lt
  have sr1 : ∀ W : World, Kept NoF w W → Src W 3 (some ⟨g, 0, none⟩) ps.length (cellsOf ps) := fun W hW => Src.of_own (own_kept ho hW fun _ _ x => x)
  have SR1 := Lib.hid sr1; clear sr1
  have HX := Lib.hid hx; clear hx
  have HO := Lib.hid ho; clear ho
  have HG := Lib.hid hG; clear hG e1 hcs k0 k1 k2 hpi
  have hone : ∀ u ∈ [Value.int .i64 p1, .int .i64 p2, .string p3], u.oneCell' = true := by
    intro u hu
    simp at hu
    rcases hu with rfl | rfl | rfl <;> rfl
  have HM : Hid (ps.length + 1 ≤ maxLen) := Lib.hid (by unfold maxLen; omega)
  have HY : Hid ((ps.length + 1) * 32 ≤ 140737488355328) := Lib.hid (by omega)
  have HM0 : Hid (0 + ps.length ≤ maxLen) := Lib.hid (by unfold maxLen; omega)
  have HY0 : Hid ((0 + ps.length) * 32 ≤ 140737488355328) := Lib.hid (by omega)
  have HONE := Lib.hid hone; clear hone
  go_enter Try.func39, Try.ntmps39
  go_wp2_with fail
  go_region_law (first
      | (go_simp
         go_at_call 72
         refine (HAT.out _ ?_).mono ?_
         (repeat' (first | with_reducible exact Kept.refl _ _ | with_reducible refine Kept.put ?_ ?_ | with_reducible refine Kept.drewN ?_ _ | with_reducible refine Kept.drew ?_ | with_reducible refine Kept.alloc ?_ _ | (with_reducible exact hk1) | (right; simp; done)))
         (rintro e w' ⟨rfl, rfl⟩))
      | (with_reducible apply step_append_src elemPk (.tmp 18) (.tmp 22) (n := 0) (xs := []) (A := some ⟨g, 0, none⟩) (m := ps.length) (c := c) (news := cellsOf ps)
         rfl
         rfl
         exact (rfl : _ = Value.slice (some ⟨_, 0, none⟩) 0 0)
         (refine own_empty (cs := #[]) ?_ rfl; (repeat (first | with_reducible exact Has.new_at _ _ _ (by simp) | with_reducible apply Has.drew | with_reducible apply Has.drewN | with_reducible apply Has.alloc | (with_reducible apply Has.past <;> (try omega)) )))
         exact (rfl : _ = Value.slice (some ⟨g, 0, none⟩) ps.length c)
         (refine SR1.out _ ?_; (repeat' (first | with_reducible exact Kept.refl _ _ | with_reducible refine Kept.put ?_ ?_ | with_reducible refine Kept.drewN ?_ _ | with_reducible refine Kept.drew ?_ | with_reducible refine Kept.alloc ?_ _ | (fail) | (right; simp; done))))
         exact cellsOf_one _
         exact HM0.out
         exact HY0.out
         intro A1 c1 w1 ho1 hg1 ha1
         have hk1 : Kept NoF w w1 := by refine Kept.grown ?_ hg1 ?_; (repeat' (first | with_reducible exact Kept.refl _ _ | with_reducible refine Kept.put ?_ ?_ | with_reducible refine Kept.drewN ?_ _ | with_reducible refine Kept.drew ?_ | with_reducible refine Kept.alloc ?_ _ | (fail) | (right; simp; done))); exact fun k hk => .inr (new_row hk (by simp))
         have P0 : w1.cell? ⟨x, 0, none⟩ = some (.slice (some ⟨g, 0, none⟩) ps.length c) := (HX.out.kept hk1 fun x => x).cell 0
         obtain ⟨D0, D1, D2⟩ := DC.out w1 hk1
         have hz1 := hk1.size
         simp only [Nat.zero_add, List.nil_append] at ho1 ha1 ⊢)
      | (with_reducible apply step_append_src elemPk (.tmp 23) (.tmp 33) (n := ps.length) (xs := cellsOf ps) (m := 1) (c := 1) (news := [.int .i64 p1, .int .i64 p2, .string p3])
         rfl
         rfl
         exact (rfl : _ = Value.slice A1 ps.length c1)
         (refine own_kept ho1 (F := NoF) ?_ (fun _ _ x => x); (repeat' (first | with_reducible exact Kept.refl _ _ | with_reducible refine Kept.put ?_ ?_ | with_reducible refine Kept.drewN ?_ _ | with_reducible refine Kept.drew ?_ | with_reducible refine Kept.alloc ?_ _ | (fail) | (right; simp; done))))
         exact (rfl : _ = Value.slice (some ⟨_, 0, none⟩) 1 1)
         ((with_reducible apply Src.of_has (t := 36) (m := 1) (cs := #[.int .i64 p1, .int .i64 p2, .string p3])); (first | (focus ((repeat (first | with_reducible exact Has.new_at _ _ _ (by simp) | with_reducible apply Has.drew | with_reducible apply Has.drewN | with_reducible apply Has.alloc | (with_reducible apply Has.past <;> (try omega)) )); done)) | (focus (refine Has.grown ?_ hg1 ?_; (repeat (first | with_reducible exact Has.new_at _ _ _ (by simp) | with_reducible apply Has.drew | with_reducible apply Has.drewN | with_reducible apply Has.alloc | (with_reducible apply Has.past <;> (try omega)) )); (simp [Value.ownBlock])))); rfl)
         exact HONE.out
         exact HM.out
         exact HY.out
         intro A2 c2 w2 ho2 hg2 ha2
         have hk2 : Kept NoF w w2 := by refine Kept.grown (Kept.then hk1 ?_) hg2 ?_; (repeat' (first | with_reducible exact Kept.refl _ _ | with_reducible refine Kept.put ?_ ?_ | with_reducible refine Kept.drewN ?_ _ | with_reducible refine Kept.drew ?_ | with_reducible refine Kept.alloc ?_ _ | (fail) | (right; simp; done))); exact fun k hk => .inr (new_row2 hk ha1 (by simp) (by simp))
         have e0 : w2.cell? ⟨x, 0, none⟩ = some (.slice (some ⟨g, 0, none⟩) ps.length c) := (HX.out.kept hk2 fun x => x).cell 0
         have e1 := (HX.out.kept hk2 fun x => x).frozen 0))
  all_goals
    go_wp2
    go_ret
    exact ref_close HG.out (HX.out.kept hk2 fun x => x) ho2 (by rw [cellsOf_append]; rfl) (by simp) hk2 (fun k hk => new_row3 hk ha2 ha1 (by simp) (by simp) (by have := hz1; simp <;> omega)) hxl
end Ether
end Go.Proofs.Ytploafhenmfmhaa
