/- The disk: Drop, where all is safe. -/
import Derived.Test.YtopkeknpdimimaaDiskFiles
import Derived.Test.YtopkeknpdimimaaSlI
import Derived.Test.YtopkeknpdimimaaDiskAwake
import Derived.Deep.RegionHeld3
import Derived.Maps.OwnSet
set_option linter.unusedSimpArgs false
set_option linter.unusedVariables false
namespace Go.Proofs.Ytopkeknpdimimaa
open Go.RowKit Go.Maps
set_option maxRecDepth 100000
namespace Disk
def mdel (m : Safe) (f : Int) : Safe := fun x => if x = f then none else m x
theorem MapIs.dropped {w' : World} {b n : Nat} {m : Safe} {D : DataW Unit} (hD : ∀ k, I64 k → has D (.int .i64 k) = (m k).isSome ∧ D.atKey (.int .i64 k) (.lit (.string [])) = .lit (.string (sget m k).data.toList)) {k : Int}
    (ho : w'.ownsMap Try.prog 3 (plainElem Try.prog 9) b n (D.del (.int .i64 k))) : MapIs w' b n (mdel m k) := by
  refine ⟨_, ho, ?_⟩
  intro i hi
  by_cases e : i = k
  · subst e
    rw [has_del_same, atKey_del_same]
    simp [mdel, sget]
  · have hne : (Lit.int .i64 i) ≠ .int .i64 k := fun h => e (by injection h)
    rw [has_del_other hne, atKey_del_other hne]
    have := hD i hi
    simpa [mdel, sget, e] using this
theorem idxf_empty (w : World) (A : Option Addr) (c : Nat) (f : Value) : Calls Try.prog 43 #[.slice A 0 c, f] w fun e w' => e = .returned (.int .i64 (-1)) ∧ w = w' := by
  go_enter Try.func43, Try.ntmps43
  go_wp2_with fail
  refine wp_loop_rounds 1 ?_; rw [rounds_succ]
  go_wp2
  go_ret
  exact ⟨rfl, rfl⟩
theorem delf_empty (w : World) (A : Option Addr) (c : Nat) (f : Value) : Calls Try.prog 34 #[.slice A 0 c, f] w fun e w' => e = .returned (.slice A 0 c) ∧ w = w' := by
  go_enter Try.func34, Try.ntmps34
  go_wp2_with fail
  refine (idxf_empty _ _ _ _).mono ?_
  rintro e w' ⟨rfl, rfl⟩
  go_wp2
  go_ret
  exact ⟨rfl, rfl⟩
variable {F : Nat → Prop} {w : World} {g n : Nat} {m : Safe} {ps : List Pc} {ser boot : Int}
set_option maxHeartbeats 4000000 in
theorem drop_any (h : DiskAt w g F n m [] ser boot) (f : Int) (hf : I64 f) (hn : n ≤ 100000) (hm : isFile m [] f = true) :
    Calls Try.prog 14 #[.pointer (some ⟨g, 0, none⟩), .int .i64 f] w fun e w' => e = .returned (.int .i64 0) ∧ DiskAt w' g F n (mdel m f) [] ser boot ∧ Kept F w w' := by
  have hmf : ∀ (fn : Fn) (first cap : Array Value) (w : World), (Instr.makeFunc fn first cap).run Try.prog w = .ok (.func fn first cap) w := fun _ _ _ _ => rfl
  obtain ⟨w1, hw1⟩ : ∃ w1, w.alloc (.cells #[.int .i64 f] 3) = w1 := ⟨_, rfl⟩
  have hk1 : Kept NoF w w1 := by rw [← hw1]; exact (Kept.refl _ _).alloc _
  have hb1 : Has w1 w.heap.size 3 #[.int .i64 f] := by rw [← hw1]; exact Has.new _ _ _
  have hd1 : DiskAt w1 g F n m [] ser boot := h.kept hk1 (fun _ _ z => z)
  have hno := none_any hd1
  have hfi := fun W (hW : Kept NoF w1 W) => files_any (hd1.kept hW (fun _ _ z => z)) (fun p hp => by cases hp) hn (by decide)
  have c3 : w1.cell? ⟨w.heap.size, 0, none⟩ = some (.int .i64 f) := hb1.cell 0
  have HW1 := Lib.hid hw1; have HNO := Lib.hid hno; have HFI := Lib.hid hfi; have HM := Lib.hid hm; have HB1 := Lib.hid hb1; have HK1 := Lib.hid hk1; have HD1 := Lib.hid hd1; have HF := Lib.hid hf
  clear hno hfi hm hb1 hk1 hd1 hw1 h hf
  go_enter Try.func14, Try.ntmps14
  go_wp2_with fail
  rw [HW1.out]
  refine HNO.out.mono ?_
  rintro e w' ⟨rfl, rfl⟩
  go_wp2_with fail
  go_region_held3 (fun W => W.cell? ⟨w.heap.size, 0, none⟩ = some (.int .i64 f)) (first | exact c3 | exact q4 | (simp [go_sem, c3]; done))
    (first
      | (go_at_call 20; refine (HFI.out _ (by (repeat' (first | with_reducible exact Kept.refl _ _ | with_reducible refine Kept.put ?_ ?_ | with_reducible refine Kept.drewN ?_ _ | with_reducible refine Kept.drew ?_ | with_reducible refine Kept.alloc ?_ _ | (fail) | (right; simp; done))))).mono ?_; rintro e w4 ⟨fl, A, c, rfl, hfa, hown, hnew, hk4⟩; have hk5 : Kept NoF w1 w4 := Kept.then (by (repeat' (first | with_reducible exact Kept.refl _ _ | with_reducible refine Kept.put ?_ ?_ | with_reducible refine Kept.drewN ?_ _ | with_reducible refine Kept.drew ?_ | with_reducible refine Kept.alloc ?_ _ | (fail) | (right; simp; done)))) hk4; have q4 := (HB1.out.kept hk5 (fun z => z)).cell 0; have HOWN := Lib.hid hown; have HFA := Lib.hid hfa; clear hown hfa hnew)
      | (go_at_call 33; have hco := SlI.containsI_any w4 A c fl f (Src.of_own HOWN.out) (Nat.le_trans (own_cap HOWN.out).1 (own_cap HOWN.out).2); rw [SlI.inB_iff.2 ((HFA.out.mem f).2 ⟨HF.out, HM.out⟩)] at hco; refine hco.mono ?_; rintro e w5 ⟨rfl, rfl⟩; clear hco))
  clear c3
  have hd4 := HD1.out.kept hk5 (fun _ _ z => z)
  obtain ⟨mb, A0, c0', hF, hg, hm, ho⟩ := hd4
  have m0 : w4.cell? ⟨g, 0, none⟩ = some (.map (some mb)) := hg.cell 0
  have hkd : Kept NoF w4 w4.drew := (Kept.refl _ _).drew
  obtain ⟨D, hmo, hD⟩ := hm.kept hkd (fun z => z)
  have hne := hm.ne hg
  have hbr : ∀ k, (Value.slice A0 ([] : List Pc).length c0').ownBlock = some k → k ≠ mb := fun k hk e => (hm.ne_row ho) (e ▸ hk)
  have hgl := hg.lt
  have hb4 : Has w4 w.heap.size 3 #[.int .i64 f] := HB1.out.kept hk5 (fun z => z)
  have hbm : mb ≠ w.heap.size := hm.ne hb4
  have HFF := Lib.hid hF; have HG := Lib.hid (hg.kept hkd (fun z => z)); have HO := Lib.hid (own_kept ho hkd (fun _ _ z => z)); have HD := Lib.hid hD; have HB4 := Lib.hid (hb4.kept hkd (fun z => z)); have HK5 := Lib.hid hk5
  clear hF hg hm ho hD hk5 hb4 hkd
  go_wp2_with fail
  refine wp_region_still_tail 5 (by kernel_rfl) (by kernel_rfl) ?_
  simp only [List.take_succ_cons, List.take_zero, List.drop_succ_cons, List.drop_zero]
  change wpStill _ _ (World.drew w4) _ _ _
  repeat still_step
  refine wpStill_nil ?_
  change wpList _ _ _ _ _ (World.drew w4)
  go_wp2_with (at_delete; refine wpList_delete_own _ rfl _ _ 34 3 rfl 9 intKeyed Try.underlying34 _ mb n D rfl hmo _ _ rfl (intKey HF.out) ?_; intro w6 hown6 hturn6; have hkt : Kept (fun i => i = mb) w4.drew w6 := ((Kept.refl _ _).grownBy hturn6.grown (fun i hi => by injection hi with hi; exact .inl hi.symm)); have hg6 := HG.out.kept hkt (fun e => hne e.symm); have d1 : w6.cell? ⟨g, 1, none⟩ = some (.slice A0 0 c0') := hg6.cell 1; have f1 := hg6.frozen 1; have HT := Lib.hid hkt; have HOW6 := Lib.hid hown6; have HG6 := Lib.hid hg6; clear hkt hown6 hturn6 hg6)
  refine (delf_empty _ _ _ _).mono ?_
  rintro e w7 ⟨rfl, rfl⟩
  go_wp2
  go_ret
  have hks : Kept (fun k => k = g) w6 (w6.setCell ⟨g, 1, none⟩ (.slice A0 0 c0')) := (Kept.refl _ w6).put (.inl rfl)
  refine ⟨rfl, ⟨mb, A0, c0', HFF.out, HG6.out.put_of rfl, (MapIs.dropped HD.out HOW6.out).kept hks hne, ?_⟩, ?_⟩
  · exact own_kept (own_kept HO.out HT.out (fun k hk e => hbr k hk e)) hks (fun k hk e => own_ne (own_kept HO.out HT.out (fun k hk e => hbr k hk e)) HG6.out (by decide) (e ▸ hk))
  · exact (((HK1.out.then HK5.out).drew.mono (fun _ z => z.elim)).then (HT.out.mono (fun k hk => (HFF.out k).2 (.inr (.inl hk))))).put (.inl ((HFF.out g).2 (.inl rfl)))
end Disk
end Go.Proofs.Ytopkeknpdimimaa
