/- The disk: Drop. -/
import Derived.Test.YtopkeknpdimimaaDiskDel
import Derived.Deep.RegionHeld3
import Derived.Maps.OwnSet
set_option linter.unusedSimpArgs false
set_option linter.unusedVariables false
namespace Go.Proofs.Ytopkeknpdimimaa
open Go.RowKit Go.Maps
set_option maxRecDepth 100000
namespace Disk
theorem delf_any {w : World} {b : Nat} {f : Int} {ps : List Pc} (hb : Has w b 3 #[.int .i64 f]) (A : Option Addr) (c : Nat) (ho : w.ownsRow 0 61 2 (.slice A ps.length c) ps.length (pcells ps)) (hlen : ps.length ≤ 100000) (hgb : (Value.slice A ps.length c).ownBlock ≠ some b) :
    Calls Try.prog 34 #[.slice A ps.length c, dropF b] w fun e w' => ∃ M, e = .returned (.slice A M c) ∧ M = (without f ps).length ∧ w'.ownsRow 0 61 2 (.slice A M c) M (pcells (without f ps)) ∧ Kept (fun k => (Value.slice A ps.length c).ownBlock = some k) w w' := by
  by_cases h0 : ps.length = 0
  · obtain rfl := List.length_eq_zero_iff.1 h0
    refine (delf_empty w A c (dropF b)).mono ?_
    rintro e w' ⟨rfl, rfl⟩
    exact ⟨0, rfl, rfl, ho, Kept.refl _ _⟩
  · obtain ⟨rb, cap, hv, _, hrl⟩ := ho.form (by omega)
    injection hv with hA _ hC
    subst hA
    subst hC
    refine (delf_some hb c ho hlen (fun e => hgb (by rw [e]; rfl))).mono ?_
    rintro e w' ⟨M, h1, h2, h3, h4⟩
    exact ⟨M, h1, h2, h3, h4.mono fun k hk => by rw [hk]; rfl⟩
variable {F : Nat → Prop} {w : World} {g n : Nat} {m : Safe} {ps : List Pc} {ser boot : Int}
set_option maxHeartbeats 4000000 in
theorem dropP_any (h : DiskAt w g F n m ps ser boot) (f : Int) (hf : I64 f) (hn : n ≤ 100000) (hpi : ∀ p ∈ ps, I64 p.1) (hlen : ps.length ≤ 100000) (hm : isFile m ps f = true) :
    Calls Try.prog 14 #[.pointer (some ⟨g, 0, none⟩), .int .i64 f] w fun e w' => e = .returned (.int .i64 0) ∧ DiskAt w' g F n (mdel m f) (without f ps) ser boot ∧ Kept F w w' := by
  have hmf : ∀ (fn : Fn) (first cap : Array Value) (w : World), (Instr.makeFunc fn first cap).run Try.prog w = .ok (.func fn first cap) w := fun _ _ _ _ => rfl
  obtain ⟨w1, hw1⟩ : ∃ w1, w.alloc (.cells #[.int .i64 f] 3) = w1 := ⟨_, rfl⟩
  have hk1 : Kept NoF w w1 := by rw [← hw1]; exact (Kept.refl _ _).alloc _
  have hb1 : Has w1 w.heap.size 3 #[.int .i64 f] := by rw [← hw1]; exact Has.new _ _ _
  have hd1 : DiskAt w1 g F n m ps ser boot := h.kept hk1 (fun _ _ z => z)
  have hno := none_any hd1
  have hfi := fun W (hW : Kept NoF w1 W) => files_any (hd1.kept hW (fun _ _ z => z)) hpi hn hlen
  have c3 : w1.cell? ⟨w.heap.size, 0, none⟩ = some (.int .i64 f) := hb1.cell 0
  have HW1 := Lib.hid hw1; have HNO := Lib.hid hno; have HFI := Lib.hid hfi; have HM := Lib.hid hm; have HB1 := Lib.hid hb1; have HK1 := Lib.hid hk1; have HD1 := Lib.hid hd1; have HF := Lib.hid hf
  clear hno hfi hm hb1 hk1 hd1 hw1 h hf
  go_enter Try.func14, Try.ntmps14
  go_wp2_with fail
  rw [HW1.out]
  refine HNO.out.mono ?_
  rintro e w' ⟨rfl, rfl⟩
  go_wp2_with fail
  go_region_held3 (fun W => W.cell? ⟨w.heap.size, 0, none⟩ = some (.int .i64 f)) (first | exact c3 | exact q4 | (simp [go_sem, c3]; done))
    (first
      | (go_at_call 20; refine (HFI.out _ (by (repeat' (first | with_reducible exact Kept.refl _ _ | with_reducible refine Kept.put ?_ ?_ | with_reducible refine Kept.drewN ?_ _ | with_reducible refine Kept.drew ?_ | with_reducible refine Kept.alloc ?_ _ | (fail) | (right; simp; done))))).mono ?_; rintro e w4 ⟨fl, A, c, rfl, hfa, hown, hnew, hk4⟩; have hk5 : Kept NoF w1 w4 := Kept.then (by (repeat' (first | with_reducible exact Kept.refl _ _ | with_reducible refine Kept.put ?_ ?_ | with_reducible refine Kept.drewN ?_ _ | with_reducible refine Kept.drew ?_ | with_reducible refine Kept.alloc ?_ _ | (fail) | (right; simp; done)))) hk4; have q4 := (HB1.out.kept hk5 (fun z => z)).cell 0; have HOWN := Lib.hid hown; have HFA := Lib.hid hfa; clear hown hfa hnew)
      | (go_at_call 33; have hco := SlI.containsI_any w4 A c fl f (Src.of_own HOWN.out) (Nat.le_trans (own_cap HOWN.out).1 (own_cap HOWN.out).2); rw [SlI.inB_iff.2 ((HFA.out.mem f).2 ⟨HF.out, HM.out⟩)] at hco; refine hco.mono ?_; rintro e w5 ⟨rfl, rfl⟩; clear hco))
  clear c3
  have hd4 := HD1.out.kept hk5 (fun _ _ z => z)
  obtain ⟨mb, A0, c0', hF, hg, hm, ho⟩ := hd4
  have m0 : w4.cell? ⟨g, 0, none⟩ = some (.map (some mb)) := hg.cell 0
  have hkd : Kept NoF w4 w4.drew := (Kept.refl _ _).drew
  obtain ⟨D, hmo, hD⟩ := hm.kept hkd (fun z => z)
  have hne := hm.ne hg
  have hbr : ∀ k, (Value.slice A0 ps.length c0').ownBlock = some k → k ≠ mb := fun k hk e => (hm.ne_row ho) (e ▸ hk)
  have hgl := hg.lt
  have hb4 : Has w4 w.heap.size 3 #[.int .i64 f] := HB1.out.kept hk5 (fun z => z)
  have hbm : mb ≠ w.heap.size := hm.ne hb4
  have HFF := Lib.hid hF; have HG := Lib.hid (hg.kept hkd (fun z => z)); have HO := Lib.hid (own_kept ho hkd (fun _ _ z => z)); have HD := Lib.hid hD; have HB4 := Lib.hid (hb4.kept hkd (fun z => z)); have HK5 := Lib.hid hk5
  clear hF hg hm ho hD hk5 hb4 hkd
  go_wp2_with fail
  refine wp_region_still_tail 5 (by kernel_rfl) (by kernel_rfl) ?_
  simp only [List.take_succ_cons, List.take_zero, List.drop_succ_cons, List.drop_zero]
  change wpStill _ _ (World.drew w4) _ _ _
  repeat still_step
  refine wpStill_nil ?_
  change wpList _ _ _ _ _ (World.drew w4)
  go_wp2_with (at_delete; refine wpList_delete_own _ rfl _ _ 34 3 rfl 9 intKeyed Try.underlying34 _ mb n D rfl hmo _ _ rfl (intKey HF.out) ?_; intro w6 hown6 hturn6; have hkt : Kept (fun i => i = mb) w4.drew w6 := ((Kept.refl _ _).grownBy hturn6.grown (fun i hi => by injection hi with hi; exact .inl hi.symm)); have hg6 := HG.out.kept hkt (fun e => hne e.symm); have d1 : w6.cell? ⟨g, 1, none⟩ = some (.slice A0 ps.length c0') := hg6.cell 1; have f1 := hg6.frozen 1; have HT := Lib.hid hkt; have HOW6 := Lib.hid hown6; have HG6 := Lib.hid hg6; clear hkt hown6 hturn6 hg6)
  have hb6 : Has w6 w.heap.size 3 #[.int .i64 f] := HB4.out.kept HT.out (fun e => hbm e.symm)
  have ho6 := own_kept HO.out HT.out (fun k hk e => hbr k hk e)
  refine (delf_any hb6 A0 c0' ho6 hlen (own_ne ho6 hb6 (by decide))).mono ?_
  rintro e w7 ⟨M, rfl, hM, ho7, hk7⟩
  have hbg : ∀ k, (Value.slice A0 ps.length c0').ownBlock = some k → k ≠ g := fun k hk e => own_ne ho6 HG6.out (by decide) (e ▸ hk)
  have hg7 := HG6.out.kept hk7 (fun e => hbg _ e rfl)
  have f7 := hg7.frozen 1
  have d7 := hg7.cell 1
  have HM := Lib.hid hM; clear hM
  have HK7 := Lib.hid hk7; clear hk7
  have HO7 := Lib.hid ho7; clear ho7
  have HG7 := Lib.hid hg7; clear hg7
  go_wp2
  go_ret
  have hks : Kept (fun k => k = g) w7 (w7.setCell ⟨g, 1, none⟩ (.slice A0 M c0')) := (Kept.refl _ w7).put (.inl rfl)
  have hkb : (Value.slice A0 M c0').ownBlock = (Value.slice A0 ps.length c0').ownBlock := by cases A0 <;> rfl
  have hM := HM.out
  subst hM
  refine ⟨rfl, ⟨mb, A0, c0', fun k => by rw [hkb]; exact HFF.out k, HG7.out.put_of rfl, ((MapIs.dropped HD.out HOW6.out).kept HK7.out (fun e => hbr _ e rfl)).kept hks hne, ?_⟩, ?_⟩
  · exact own_kept HO7.out hks (fun k hk e => hbg k (hkb.symm.trans hk) e)
  · exact ((((HK1.out.then HK5.out).drew.mono (fun _ z => z.elim)).then (HT.out.mono (fun k hk => (HFF.out k).2 (.inr (.inl hk))))).then (HK7.out.mono fun k hk => (HFF.out k).2 (.inr (.inr hk)))).put (.inl ((HFF.out g).2 (.inl rfl)))

set_option maxHeartbeats 4000000 in
theorem dropP_no (h : DiskAt w g F n m ps ser boot) (f : Int) (hf : I64 f) (hn : n ≤ 100000) (hpi : ∀ p ∈ ps, I64 p.1) (hlen : ps.length ≤ 100000) (hm : isFile m ps f = false) :
    Calls Try.prog 14 #[.pointer (some ⟨g, 0, none⟩), .int .i64 f] w fun e w' => e = .returned (.int .i64 7) ∧ Kept NoF w w' := by
  have hmf : ∀ (fn : Fn) (first cap : Array Value) (w : World), (Instr.makeFunc fn first cap).run Try.prog w = .ok (.func fn first cap) w := fun _ _ _ _ => rfl
  obtain ⟨w1, hw1⟩ : ∃ w1, w.alloc (.cells #[.int .i64 f] 3) = w1 := ⟨_, rfl⟩
  have hk1 : Kept NoF w w1 := by rw [← hw1]; exact (Kept.refl _ _).alloc _
  have hb1 : Has w1 w.heap.size 3 #[.int .i64 f] := by rw [← hw1]; exact Has.new _ _ _
  have hd1 : DiskAt w1 g F n m ps ser boot := h.kept hk1 (fun _ _ z => z)
  have hno := none_any hd1
  have hfi := fun W (hW : Kept NoF w1 W) => files_any (hd1.kept hW (fun _ _ z => z)) hpi hn hlen
  have c3 : w1.cell? ⟨w.heap.size, 0, none⟩ = some (.int .i64 f) := hb1.cell 0
  have HW1 := Lib.hid hw1; have HNO := Lib.hid hno; have HFI := Lib.hid hfi; have HM := Lib.hid hm; have HB1 := Lib.hid hb1; have HK1 := Lib.hid hk1; have HD1 := Lib.hid hd1; have HF := Lib.hid hf
  clear hno hfi hm hb1 hk1 hd1 hw1 h hf
  go_enter Try.func14, Try.ntmps14
  go_wp2_with fail
  rw [HW1.out]
  refine HNO.out.mono ?_
  rintro e w' ⟨rfl, rfl⟩
  go_wp2_with fail
  go_region_held3 (fun W => W.cell? ⟨w.heap.size, 0, none⟩ = some (.int .i64 f)) (first | exact c3 | exact q4 | (simp [go_sem, c3]; done))
    (first
      | (go_at_call 20; refine (HFI.out _ (by (repeat' (first | with_reducible exact Kept.refl _ _ | with_reducible refine Kept.put ?_ ?_ | with_reducible refine Kept.drewN ?_ _ | with_reducible refine Kept.drew ?_ | with_reducible refine Kept.alloc ?_ _ | (fail) | (right; simp; done))))).mono ?_; rintro e w4 ⟨fl, A, c, rfl, hfa, hown, hnew, hk4⟩; have hk5 : Kept NoF w1 w4 := Kept.then (by (repeat' (first | with_reducible exact Kept.refl _ _ | with_reducible refine Kept.put ?_ ?_ | with_reducible refine Kept.drewN ?_ _ | with_reducible refine Kept.drew ?_ | with_reducible refine Kept.alloc ?_ _ | (fail) | (right; simp; done)))) hk4; have q4 := (HB1.out.kept hk5 (fun z => z)).cell 0; have HOWN := Lib.hid hown; have HFA := Lib.hid hfa; clear hown hfa hnew)
      | (go_at_call 33; have hco := SlI.containsI_any w4 A c fl f (Src.of_own HOWN.out) (Nat.le_trans (own_cap HOWN.out).1 (own_cap HOWN.out).2); rw [show SlI.inB fl f = false from Bool.eq_false_iff.2 fun e => by have := ((HFA.out.mem f).1 (SlI.inB_iff.1 e)).2; rw [HM.out] at this; cases this] at hco; refine hco.mono ?_; rintro e w5 ⟨rfl, rfl⟩; clear hco))
  go_wp2
  go_ret
  exact ⟨rfl, HK1.out.then hk5⟩
end Disk
end Go.Proofs.Ytopkeknpdimimaa
