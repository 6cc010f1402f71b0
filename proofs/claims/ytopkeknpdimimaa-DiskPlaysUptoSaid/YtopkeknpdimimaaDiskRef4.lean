/- The document's disk: Files. -/
import Derived.Test.YtopkeknpdimimaaDiskRef3
set_option linter.unusedSimpArgs false
set_option linter.unusedVariables false
namespace Go.Proofs.Ytopkeknpdimimaa
open Go.RowKit Go.Maps
set_option maxRecDepth 100000
namespace Disk
variable {F G : Nat → Prop} {w : World} {g x n : Nat} {m : Safe} {fs ps : List Pc} {ser boot : Int}

theorem elemIntD : Elem Try.prog 49 3 1 8 := by
  obtain ⟨i0, hi, hz0, hz1, hz2⟩ := info_parts (show (Try.prog.info? 3).map (fun i => (i.zero, i.size, i.bytes)) = some (some (.int .i64 0), 1, 8) by kernel_rfl)
  exact ⟨Try.underlying49, ⟨i0, _, hi, hz0, hz1, hz2, rfl⟩, by decide⟩
theorem touch_len : ∀ (ps fs : List Pc), (touchR fs ps).length ≤ fs.length + ps.length
  | [], fs => by simp [touchR]
  | p :: ps, fs => by
    have := touch_len ps (layR fs (p.1, ⟨#[]⟩))
    have := layR_len fs (p.1, ⟨#[]⟩)
    rw [touchR, List.length_cons]
    omega
def RFiles (w : World) (fl : List Int) (e : Ending) (w' : World) : Prop :=
  ∃ A c, e = .returned (.slice A fl.length c) ∧ w'.ownsRow 0 3 1 (.slice A fl.length c) fl.length (fl.map (Value.int .i64)) ∧ (∀ k, (Value.slice A fl.length c).ownBlock = some k → w.heap.size ≤ k) ∧ Kept NoF w w'

set_option maxHeartbeats 4000000 in
theorem rfiles_any (h : RefD w x G fs ps ser boot) (hlf : fs.length ≤ 100000) (hlen : ps.length ≤ 100000)
    (Z : Nat) (hZ : ∀ p ∈ fs, p.2.size ≤ Z) (hsz : Z ≤ 4611686018427387904) :
    Calls Try.prog 22 #[.pointer (some ⟨x, 0, none⟩)] w (RFiles w ((touchR fs ps).map Prod.fst)) := by
  obtain ⟨A, c, B, d, hF, hg, ho, hp⟩ := h
  have c0 : w.cell? ⟨x, 0, none⟩ = some (.slice A fs.length c) := hg.cell 0
  have hgl := hg.lt
  have HG := Lib.hid hg; clear hg
  have HO := Lib.hid ho; clear ho
  have HP := Lib.hid hp; clear hp
  have HZ := Lib.hid hZ; clear hZ
  have HM1 : Hid (0 + fs.length ≤ maxLen) := Lib.hid (by unfold maxLen; omega)
  have HM2 : Hid ((0 + fs.length) * 24 ≤ 140737488355328) := Lib.hid (by omega)
  have HPC := Lib.hid (pcells_one fs)
  clear hF
  go_enter Try.func22, Try.ntmps22
  go_wp2_with (at_builtin; refine list_append_src elemRF (.tmp 7) (.tmp 11) rfl rfl (Value.slice (some ⟨w.heap.size, 0, none⟩) 0 0) rfl (own_empty (Has.new w 71 #[]) rfl) c rfl ((Src.of_own HO.out).kept (F := NoF) ((Kept.refl _ _).alloc _) (fun _ _ x => x)) HPC.out HM1.out HM2.out ?_; intro A1 c1 w1 ho1 hg1 ha1; simp only [Nat.zero_add, List.nil_append] at ho1 ha1; have hk1 : Kept NoF w w1 := ((Kept.refl NoF w).alloc _).grown hg1 (fun k hk => .inr (new_row hk (Nat.le_refl _))); have hn1 : ∀ k, (Value.slice A1 fs.length c1).ownBlock = some k → w.heap.size ≤ k := (fun k hk => new_row2 hk ha1 (Nat.le_refl _) (by simp)); have HO1 := Lib.hid (And.intro ho1 (And.intro hn1 hk1)); clear ho1 hg1 ha1 hn1 hk1)
  obtain ⟨ho1, hn1, hk1⟩ := HO1.out
  have hr1 : RefD (w1.alloc (.cells #[.slice A1 fs.length c1, .slice none 0 0, .int .i64 0, .int .i64 0] 41)) w1.heap.size (fun k => k = w1.heap.size ∨ (Value.slice A1 fs.length c1).ownBlock = some k) fs [] 0 0 :=
    ⟨A1, c1, none, 0, fun k => by simp [Value.ownBlock], Has.new _ _ _, own_kept ho1 (F := NoF) ((Kept.refl _ _).alloc _) (fun _ _ x => x), ⟨rfl, .inl ⟨rfl, rfl⟩⟩⟩
  have hnG : ∀ k, (fun k => k = w1.heap.size ∨ (Value.slice A1 fs.length c1).ownBlock = some k) k → w.heap.size ≤ k := by
    rintro k (rfl | hk)
    · exact hk1.size
    · exact hn1 k hk
  have hkr : Kept NoF w (w1.alloc (.cells #[.slice A1 fs.length c1, .slice none 0 0, .int .i64 0, .int .i64 0] 41)) := hk1.alloc _
  generalize hw2 : w1.alloc (.cells #[.slice A1 fs.length c1, .slice none 0 0, .int .i64 0, .int .i64 0] 41) = w2 at *
  generalize hy : w1.heap.size = y at *
  generalize (fun k => k = y ∨ (Value.slice A1 fs.length c1).ownBlock = some k) = G1 at *
  clear hw2 hy HO1 ho1 hn1 hk1
  have HR1 := Lib.hid (And.intro hr1 (And.intro hnG hkr)); clear hr1 hnG hkr
  go_loopw [5] (fun v5 wr => ∃ (i : Nat) (fi : List Pc) (G' : Nat → Prop), i ≤ ps.length ∧ v5 = .int .i64 i ∧ RefD wr y G' fi [] 0 0 ∧ (∀ k, G' k → w.heap.size ≤ k) ∧ Kept NoF w wr ∧ touchR fs ps = touchR fi (ps.drop i) ∧ fi.length ≤ fs.length + i ∧ (∀ p ∈ fi, p.2.size ≤ Z)) (fun v5 _ => ps.length - (intOf v5).toNat)
  case atStart => exact ⟨0, fs, G1, Nat.zero_le _, rfl, HR1.out.1, HR1.out.2.1, HR1.out.2.2, rfl, Nat.le_refl _, HZ.out⟩
  case round =>
    obtain ⟨i, fi, G', hi, rfl, hr, hgr, hk, hcr, hfl, hzi⟩ := hrel
    have d1 : wr.cell? ⟨x, 1, none⟩ = some (.slice B ps.length d) := (HG.out.kept hk (fun x => x)).cell 1
    have HGR := Lib.hid hgr; clear hgr
    have HZI := Lib.hid hzi; clear hzi
    by_cases hil : i < ps.length
    · obtain ⟨q, hq⟩ : ∃ q, ps[i]? = some q := ⟨_, List.getElem?_eq_getElem hil⟩
      obtain ⟨ad, rfl, hl1, e0, e1⟩ := pc_cells ((Src.of_own HP.out).kept hk (fun _ _ x => x)) (by omega) i q hq
      have HK := Lib.hid hk; clear hk
      rw [drop_cons hq, touchR] at hcr
      have HCR := Lib.hid hcr; clear hcr
      have hla : ∀ W, Kept NoF wr W → _ := fun W hW => lay_any (hr.kept hW (fun _ _ x => x)) (q.1, ⟨#[]⟩) _ HZI.out (by omega) (by show Z + 0 ≤ _; omega)
      have HLA := Lib.hid hla; clear hla hr
      clear hq
      go_wp2_with fail
      refine (HLA.out _ (Kept.refl _ _)).mono ?_
      rintro e w2 ⟨rfl, G2, hr2, hg2, hk2⟩
      have hks : w.heap.size ≤ wr.heap.size := HK.out.size
      have HR2 := Lib.hid hr2; clear hr2
      have HG2 := Lib.hid (hg2.above HGR.out hks); clear hg2
      have HK2 := Lib.hid (HK.out.trans hk2 (fun k hk => .inr (HGR.out k hk))); clear hk2
      go_wp2_with fail
      go_roundw
      case rel => exact ⟨i + 1, _, G2, by omega, by go_num, HR2.out, HG2.out, HK2.out, HCR.out, by have := layR_len fi (q.1, ⟨#[]⟩); omega, layR_le (Z := Z) HZI.out (q.1, ⟨#[]⟩)⟩
      case measure => simp [intOf]; omega
    · obtain rfl : i = ps.length := by omega
      rw [List.drop_length, touchR] at hcr
      have HCR := Lib.hid hcr; clear hcr
      obtain ⟨A4, c4, B4, d4, hF4, hg4, ho4, hp4⟩ := hr
      have HR4 := Lib.hid (And.intro hg4 ho4); clear hg4 ho4 hp4
      have HK := Lib.hid hk; clear hk
      have hyx : ∀ k, (Value.slice A4 fi.length c4).ownBlock = some k → w.heap.size ≤ k := fun k hk => HGR.out k ((hF4 k).2 (.inr (.inl hk)))
      clear hF4 hyx
      obtain ⟨w4, hw4⟩ : ∃ w4, w4 = wr := ⟨_, rfl⟩
      subst hw4
      go_wp2_with fail
      go_loopw [3, 6] (fun v3 v6 wx => ∃ (j : Nat) (T : Option Addr) (tc : Nat), j ≤ fi.length ∧ v6 = .int .i64 j ∧ v3 = .slice T j tc ∧ wx.ownsRow 0 3 1 (.slice T j tc) j (((fi.take j).map Prod.fst).map (Value.int .i64)) ∧ (∀ k, (Value.slice T j tc).ownBlock = some k → w4.heap.size ≤ k) ∧ Kept NoF w4 wx) (fun _ v6 _ => fi.length - (intOf v6).toNat)
      case atStart => exact ⟨0, none, 0, Nat.zero_le _, rfl, rfl, ⟨by simp, .inl ⟨rfl, rfl⟩⟩, by simp [Value.ownBlock], Kept.refl _ _⟩
      case round =>
        obtain ⟨j, T, tc, hj, rfl, rfl, ho5, hn5, hk5⟩ := hrel
        have HO5 := Lib.hid (And.intro ho5 (And.intro hn5 hk5)); clear ho5 hn5
        have d0 : wr.cell? ⟨y, 0, none⟩ = some (.slice A4 fi.length c4) := (HR4.out.1.kept hk5 (fun x => x)).cell 0
        by_cases hjl : j < fi.length
        · obtain ⟨q, hq⟩ : ∃ q, fi[j]? = some q := ⟨_, List.getElem?_eq_getElem hjl⟩
          obtain ⟨ad, rfl, hl1, e0, e1⟩ := pc_cells ((Src.of_own HR4.out.2).kept hk5 (fun _ _ x => x)) (by omega) j q hq
          have HT := Lib.hid (take_snoc hq)
          clear hq hk5
          have HM3 : Hid (j + 1 ≤ maxLen) := Lib.hid (by unfold maxLen; omega)
          have HM4 : Hid ((j + 1) * 8 ≤ 140737488355328) := Lib.hid (by omega)
          go_wp2_with (at_builtin; refine list_append_src elemIntD (.tmp 44) (.tmp 53) rfl rfl (Value.slice T j tc) rfl (own_kept HO5.out.1 (F := NoF) (by (repeat' (first | with_reducible exact Kept.refl _ _ | with_reducible refine Kept.put ?_ ?_ | with_reducible refine Kept.drewN ?_ _ | with_reducible refine Kept.drew ?_ | with_reducible refine Kept.alloc ?_ _ | (fail) | (right; simp; done)))) (fun _ _ x => x)) 1 rfl (Src.of_has (t := 3) (cs := #[.int .i64 q.1]) (by (repeat (first | with_reducible exact Has.new_at _ _ _ (by simp) | with_reducible apply Has.drew | with_reducible apply Has.drewN | with_reducible apply Has.alloc | (with_reducible apply Has.past <;> (try omega)) ))) rfl) (by intro u hu; simp at hu; subst hu; rfl) HM3.out HM4.out ?_; intro A5 c5 w5 ho6 hg6 ha6; have hk6 : Kept NoF w4 w5 := Kept.grown (HO5.out.2.2.then (by (repeat' (first | with_reducible exact Kept.refl _ _ | with_reducible refine Kept.put ?_ ?_ | with_reducible refine Kept.drewN ?_ _ | with_reducible refine Kept.drew ?_ | with_reducible refine Kept.alloc ?_ _ | (fail) | (right; simp; done))))) hg6 (fun k hk => .inr (HO5.out.2.1 k hk)); have HO6 := Lib.hid (And.intro ho6 (And.intro ha6 hk6)); clear ho6 hg6 ha6 hk6)
          obtain ⟨ho6, ha6, hk6⟩ := HO6.out
          have hn6 : ∀ k, (Value.slice A5 (j + 1) c5).ownBlock = some k → w4.heap.size ≤ k := by
            intro k hk
            have := HO5.out.2.2.size
            rcases ha6 with e | e
            · exact HO5.out.2.1 k (e.symm.trans hk)
            · rw [hk] at e
              injection e with e
              simp at e
              omega
          have ho7 : w5.ownsRow 0 3 1 (.slice A5 (j + 1) c5) (j + 1) (((fi.take (j + 1)).map Prod.fst).map (Value.int .i64)) := by
            rw [HT.out]
            simpa using ho6
          have HN6 := Lib.hid hn6; clear hn6
          have HO7 := Lib.hid ho7; clear ho7 ho6 ha6
          have HK6 := Lib.hid hk6; clear hk6 HO6
          go_wp2_with fail
          go_roundw
          case rel => exact ⟨j + 1, A5, c5, by omega, by go_num, rfl, HO7.out, HN6.out, HK6.out⟩
          case measure => simp [intOf]; omega
        · obtain rfl : j = fi.length := by omega
          clear hk5
          go_wp2_with fail
          go_ret
          obtain ⟨ho5, hn5, hk5⟩ := HO5.out
          have hkw := HK.out.size
          rw [HCR.out]
          refine ⟨T, tc, ?_, ?_, ?_, HK.out.then hk5⟩
          · simp
          · simpa using ho5
          · intro k hk
            have := hn5 k (by simpa using hk)
            omega
end Disk
end Go.Proofs.Ytopkeknpdimimaa
