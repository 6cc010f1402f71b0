/- mstate's say. -/
import Derived.Test.YtolipnnjeehnfaaMst8
set_option linter.unusedSimpArgs false
set_option linter.unusedVariables false
namespace Go.Proofs.Ytolipnnjeehnfaa
open Go.RowKit
set_option maxRecDepth 100000
namespace Mst
open Plan Vn
def SayPost (w : World) (b : Nat) (old req : Int) (cs : Array Value) (e : Ending) (w' : World) : Prop :=
  (req < old ∧ e = .returned (.int .i64 18) ∧ Kept NoF w w') ∨ (¬ req < old ∧ e = .returned (.int .i64 0) ∧ Has w' b 62 cs ∧ Kept (fun k => k = b) w w')
set_option maxHeartbeats 2000000 in
theorem say0_any (w : World) (b : Nat) (s : StR) (mA : Option Addr) (mc : Nat) (lA : Option Addr) (lc : Nat) (pA : Option Addr) (pc : Nat) (req e2 pin : Int) (hb : Has w b 62 (scells s mA mc lA lc pA pc true)) :
    Calls Try.prog 29 #[.pointer (some ⟨b, 0, none⟩), .agg #[.int .i64 0, .int .i64 req, .int .i64 e2, .int .i64 pin]] w (SayPost w b s.t0.req req (scells { s with t0 := ⟨0, req, e2, pin⟩ } mA mc lA lc pA pc true)) := by
  have hk1 : Kept NoF w (w.alloc (.cells #[.int .i64 0, .int .i64 req, .int .i64 e2, .int .i64 pin] 46)) := by (repeat' (first | with_reducible exact Kept.refl _ _ | with_reducible refine Kept.put ?_ ?_ | with_reducible refine Kept.drewN ?_ _ | with_reducible refine Kept.drew ?_ | with_reducible refine Kept.alloc ?_ _ | (fail) | (right; simp; done)))
  have hb1 := hb.kept hk1 (fun z => z)
  obtain ⟨W1, hW1⟩ : ∃ W1, w.alloc (.cells #[.int .i64 0, .int .i64 req, .int .i64 e2, .int .i64 pin] 46) = W1 := ⟨_, rfl⟩
  have ha := Has.new w 46 #[.int .i64 0, .int .i64 req, .int .i64 e2, .int .i64 pin]
  rw [hW1] at ha hb1 hk1
  have c1 := hb1.cell 8
  have a0 := ha.cell 0
  have a1 := ha.cell 1
  have a2 := ha.cell 2
  have a3 := ha.cell 3
  simp only [List.getElem?_toArray, List.getElem?_cons_zero, List.getElem?_cons_succ] at c1 a0 a1 a2 a3
  have f0 := hb1.frozen 7
  have f1 := hb1.frozen (7 + 1)
  have f2 := hb1.frozen (7 + 2)
  have f3 := hb1.frozen (7 + 3)
  have k0 := hb1.cell 7
  have k2 := hb1.cell (7 + 2)
  have k3 := hb1.cell (7 + 3)
  simp only [List.getElem?_toArray, List.getElem?_cons_zero, List.getElem?_cons_succ] at k0 k2 k3
  have HB := Lib.hid hb1; have HK := Lib.hid hk1
  clear hb hb1 hk1 ha
  by_cases hr : req < s.t0.req
  · go_enter Try.func29, Try.ntmps29
    go_wp2_with fail
    go_quiet (fail)
    go_wp2
    go_ret
    exact .inl ⟨hr, rfl, HK.out.drewN _⟩
  · go_enter Try.func29, Try.ntmps29
    go_wp2_with fail
    go_quiet (fail)
    go_wp2_with fail
    refine wp_region_still_tail 7 (by kernel_rfl) (by kernel_rfl) ?_
    simp only [List.take_succ_cons, List.take_zero, List.drop_succ_cons, List.drop_zero]
    change wpStill _ _ (World.drew (W1.drewN _)) _ _ _
    repeat still_step
    refine wpStill_nil ?_
    change wpList _ _ _ _ _ (World.drew (W1.drewN _))
    go_wp2
    go_ret
    refine .inr ⟨by omega, rfl, ?_, ?_⟩
    · ((repeat (first | with_reducible exact HB.out | with_reducible apply Has.put_of | with_reducible apply Has.past | with_reducible apply Has.drewN | with_reducible apply Has.drew | with_reducible apply Has.alloc)) <;> first | omega | rfl)
    · have hm : Kept (fun k => k = b) w (W1.drewN (nq + 1)) := (HK.out.mono (fun _ x => x.elim)).drewN _
      exact (((hm.put (.inl rfl)).put (.inl rfl)).put (.inl rfl)).put (.inl rfl)
set_option maxHeartbeats 2000000 in
theorem say1_any (w : World) (b : Nat) (s : StR) (mA : Option Addr) (mc : Nat) (lA : Option Addr) (lc : Nat) (pA : Option Addr) (pc : Nat) (req e2 pin : Int) (hb : Has w b 62 (scells s mA mc lA lc pA pc true)) :
    Calls Try.prog 29 #[.pointer (some ⟨b, 0, none⟩), .agg #[.int .i64 1, .int .i64 req, .int .i64 e2, .int .i64 pin]] w (SayPost w b s.t1.req req (scells { s with t1 := ⟨1, req, e2, pin⟩ } mA mc lA lc pA pc true)) := by
  have hk1 : Kept NoF w (w.alloc (.cells #[.int .i64 1, .int .i64 req, .int .i64 e2, .int .i64 pin] 46)) := by (repeat' (first | with_reducible exact Kept.refl _ _ | with_reducible refine Kept.put ?_ ?_ | with_reducible refine Kept.drewN ?_ _ | with_reducible refine Kept.drew ?_ | with_reducible refine Kept.alloc ?_ _ | (fail) | (right; simp; done)))
  have hb1 := hb.kept hk1 (fun z => z)
  obtain ⟨W1, hW1⟩ : ∃ W1, w.alloc (.cells #[.int .i64 1, .int .i64 req, .int .i64 e2, .int .i64 pin] 46) = W1 := ⟨_, rfl⟩
  have ha := Has.new w 46 #[.int .i64 1, .int .i64 req, .int .i64 e2, .int .i64 pin]
  rw [hW1] at ha hb1 hk1
  have c1 := hb1.cell 12
  have a0 := ha.cell 0
  have a1 := ha.cell 1
  have a2 := ha.cell 2
  have a3 := ha.cell 3
  simp only [List.getElem?_toArray, List.getElem?_cons_zero, List.getElem?_cons_succ] at c1 a0 a1 a2 a3
  have f0 := hb1.frozen 11
  have f1 := hb1.frozen (11 + 1)
  have f2 := hb1.frozen (11 + 2)
  have f3 := hb1.frozen (11 + 3)
  have k0 := hb1.cell 11
  have k2 := hb1.cell (11 + 2)
  have k3 := hb1.cell (11 + 3)
  simp only [List.getElem?_toArray, List.getElem?_cons_zero, List.getElem?_cons_succ] at k0 k2 k3
  have HB := Lib.hid hb1; have HK := Lib.hid hk1
  clear hb hb1 hk1 ha
  by_cases hr : req < s.t1.req
  · go_enter Try.func29, Try.ntmps29
    go_wp2_with fail
    go_quiet (fail)
    go_wp2
    go_ret
    exact .inl ⟨hr, rfl, HK.out.drewN _⟩
  · go_enter Try.func29, Try.ntmps29
    go_wp2_with fail
    go_quiet (fail)
    go_wp2_with fail
    refine wp_region_still_tail 7 (by kernel_rfl) (by kernel_rfl) ?_
    simp only [List.take_succ_cons, List.take_zero, List.drop_succ_cons, List.drop_zero]
    change wpStill _ _ (World.drew (W1.drewN _)) _ _ _
    repeat still_step
    refine wpStill_nil ?_
    change wpList _ _ _ _ _ (World.drew (W1.drewN _))
    go_wp2
    go_ret
    refine .inr ⟨by omega, rfl, ?_, ?_⟩
    · ((repeat (first | with_reducible exact HB.out | with_reducible apply Has.put_of | with_reducible apply Has.past | with_reducible apply Has.drewN | with_reducible apply Has.drew | with_reducible apply Has.alloc)) <;> first | omega | rfl)
    · have hm : Kept (fun k => k = b) w (W1.drewN (nq + 1)) := (HK.out.mono (fun _ x => x.elim)).drewN _
      exact (((hm.put (.inl rfl)).put (.inl rfl)).put (.inl rfl)).put (.inl rfl)
set_option maxHeartbeats 2000000 in
theorem say2_any (w : World) (b : Nat) (s : StR) (mA : Option Addr) (mc : Nat) (lA : Option Addr) (lc : Nat) (pA : Option Addr) (pc : Nat) (req e2 pin : Int) (hb : Has w b 62 (scells s mA mc lA lc pA pc true)) :
    Calls Try.prog 29 #[.pointer (some ⟨b, 0, none⟩), .agg #[.int .i64 2, .int .i64 req, .int .i64 e2, .int .i64 pin]] w (SayPost w b s.t2.req req (scells { s with t2 := ⟨2, req, e2, pin⟩ } mA mc lA lc pA pc true)) := by
  have hk1 : Kept NoF w (w.alloc (.cells #[.int .i64 2, .int .i64 req, .int .i64 e2, .int .i64 pin] 46)) := by (repeat' (first | with_reducible exact Kept.refl _ _ | with_reducible refine Kept.put ?_ ?_ | with_reducible refine Kept.drewN ?_ _ | with_reducible refine Kept.drew ?_ | with_reducible refine Kept.alloc ?_ _ | (fail) | (right; simp; done)))
  have hb1 := hb.kept hk1 (fun z => z)
  obtain ⟨W1, hW1⟩ : ∃ W1, w.alloc (.cells #[.int .i64 2, .int .i64 req, .int .i64 e2, .int .i64 pin] 46) = W1 := ⟨_, rfl⟩
  have ha := Has.new w 46 #[.int .i64 2, .int .i64 req, .int .i64 e2, .int .i64 pin]
  rw [hW1] at ha hb1 hk1
  have c1 := hb1.cell 16
  have a0 := ha.cell 0
  have a1 := ha.cell 1
  have a2 := ha.cell 2
  have a3 := ha.cell 3
  simp only [List.getElem?_toArray, List.getElem?_cons_zero, List.getElem?_cons_succ] at c1 a0 a1 a2 a3
  have f0 := hb1.frozen 15
  have f1 := hb1.frozen (15 + 1)
  have f2 := hb1.frozen (15 + 2)
  have f3 := hb1.frozen (15 + 3)
  have k0 := hb1.cell 15
  have k2 := hb1.cell (15 + 2)
  have k3 := hb1.cell (15 + 3)
  simp only [List.getElem?_toArray, List.getElem?_cons_zero, List.getElem?_cons_succ] at k0 k2 k3
  have HB := Lib.hid hb1; have HK := Lib.hid hk1
  clear hb hb1 hk1 ha
  by_cases hr : req < s.t2.req
  · go_enter Try.func29, Try.ntmps29
    go_wp2_with fail
    go_quiet (fail)
    go_wp2
    go_ret
    exact .inl ⟨hr, rfl, HK.out.drewN _⟩
  · go_enter Try.func29, Try.ntmps29
    go_wp2_with fail
    go_quiet (fail)
    go_wp2_with fail
    refine wp_region_still_tail 7 (by kernel_rfl) (by kernel_rfl) ?_
    simp only [List.take_succ_cons, List.take_zero, List.drop_succ_cons, List.drop_zero]
    change wpStill _ _ (World.drew (W1.drewN _)) _ _ _
    repeat still_step
    refine wpStill_nil ?_
    change wpList _ _ _ _ _ (World.drew (W1.drewN _))
    go_wp2
    go_ret
    refine .inr ⟨by omega, rfl, ?_, ?_⟩
    · ((repeat (first | with_reducible exact HB.out | with_reducible apply Has.put_of | with_reducible apply Has.past | with_reducible apply Has.drewN | with_reducible apply Has.drew | with_reducible apply Has.alloc)) <;> first | omega | rfl)
    · have hm : Kept (fun k => k = b) w (W1.drewN (nq + 1)) := (HK.out.mono (fun _ x => x.elim)).drewN _
      exact (((hm.put (.inl rfl)).put (.inl rfl)).put (.inl rfl)).put (.inl rfl)
end Mst
end Go.Proofs.Ytolipnnjeehnfaa
