/- For every list of calls and every number, DiskOrder returns true: what a crash leaves of pieces that were written one behind the other is a beginning. No condition. -/
import Derived.Test.YtploafhenmfmhaaRows
import Derived.Test.YtploafhenmfmhaaDiskAwake
import Derived.Test.YtploafhenmfmhaaDiskRef
import Derived.Test.YtploafhenmfmhaaKit
import Derived.ProofKit
import Derived.OpenShut
import Derived.Lib.SmallJoins
set_option linter.unusedSimpArgs false
set_option linter.unusedVariables false
namespace Go.Proofs.Ytploafhenmfmhaa
open Go.RowKit
set_option maxRecDepth 100000
namespace Disk

/-! ### What the law says, in plain words -/
/-- Pieces cut where 'left' bytes end. -/
def cuts (left : Nat) : List Pc → List Pc
  | [] => []
  | p :: ps => (p.1, p.2.extract 0 (min left p.2.size)) :: cuts (left - min left p.2.size) ps
theorem cuts_zero (ps : List Pc) (f : Int) : ofFile f (cuts 0 ps) = [] := by
  induction ps with
  | nil => rfl
  | cons p ps ih =>
    rw [cuts, ofFile_cons]
    have e : 0 - min 0 p.2.size = 0 := by omega
    rw [e, ih, show min 0 p.2.size = 0 by omega]
    split <;> simp
theorem extract_all (s : ByteArray) : s.extract 0 s.size = s := by simp
theorem crash_cuts (f : Int) : ∀ (ps : List Pc) (m : Safe) (left : Nat), (sget (crashM m left ps) f).data.toList = (sget m f).data.toList ++ ofFile f (cuts left ps) := by
  intro ps
  induction ps with
  | nil => intro m left; simp [crashM, cuts, ofFile]
  | cons p ps ih =>
    intro m left
    rw [crashM, cuts, ofFile_cons]
    by_cases h : left < p.2.size
    · rw [if_pos h, show min left p.2.size = left by omega, Nat.sub_self, cuts_zero, List.append_nil]
      by_cases h0 : left = 0
      · subst h0
        rw [if_pos rfl]
        split <;> simp
      · rw [if_neg h0, sget_sput]
        by_cases e : p.1 = f
        · subst e
          rw [if_pos rfl, if_pos rfl]
          simp [ByteArray.data_append]
        · rw [if_neg e, if_neg (fun x => e x.symm), List.append_nil]
    · rw [if_neg h, ih, show min left p.2.size = p.2.size by omega, extract_all, sget_sput]
      by_cases e : p.1 = f
      · subst e
        rw [if_pos rfl, if_pos rfl]
        simp [ByteArray.data_append, List.append_assoc]
      · rw [if_neg e, if_neg (fun x => e x.symm), List.nil_append]

theorem total_cuts (ps : List Pc) : ∀ left, total (cuts left ps) ≤ left := by
  induction ps with
  | nil => intro left; simp [cuts, total]
  | cons p ps ih =>
    intro left
    rw [cuts, total_cons]
    have := ih (left - min left p.2.size)
    simp
    omega
/-- After the crash the files are as the document's disk has them. -/
theorem order_eq (ps : List Pc) (left : Nat) (f : Int) : dataOf (crashM (fun _ => none) left ps) [] f = dataR [] (cuts left ps) f := by
  unfold dataOf dataR
  rw [crash_cuts]
  simp [ofFile, sget, safeR, hit, cnt]

/-! ### Calls as cells -/
abbrev DAct := Int × Int × ByteArray × Int
def dcells (a : DAct) : List Value := [.int .i64 a.1, .int .i64 a.2.1, .string a.2.2.1, .int .i64 a.2.2.2]
def acs (l : List DAct) : List Value := l.flatMap dcells
def pcOf (a : DAct) : Pc := (a.2.1, a.2.2.1)
theorem acs_append (a b : List DAct) : acs (a ++ b) = acs a ++ acs b := by simp [acs]
theorem dact_cells {w : World} {A : Option Addr} {m : Nat} {l : List DAct} (h : Src w 4 A m (acs l)) (hm : 0 < m) (i : Nat) (a : DAct) (ha : l[i]? = some a) :
    ∃ ad, A = some ad ∧ ad.block < w.heap.size ∧ w.cell? (ad.add (i * 4)) = some (.int .i64 a.1) ∧ w.cell? ⟨(ad.add (i * 4)).block, (ad.add (i * 4)).off + 1, none⟩ = some (.int .i64 a.2.1) ∧ w.cell? ⟨(ad.add (i * 4)).block, (ad.add (i * 4)).off + 2, none⟩ = some (.string a.2.2.1) ∧ w.cell? ⟨(ad.add (i * 4)).block, (ad.add (i * 4)).off + 3, none⟩ = some (.int .i64 a.2.2.2) := by
  obtain ⟨ad, rfl, had, hcell⟩ := h.2 hm
  have hk : ∀ j v, j < 4 → (dcells a)[j]? = some v → w.cell? (ad.add (i * 4 + j)) = some v := by
    intro j v hj hv
    refine hcell _ _ ?_
    unfold acs
    rw [flat_get dcells 4 (by decide) (fun _ => rfl), show (i * 4 + j) / 4 = i by omega, show (i * 4 + j) % 4 = j by omega, ha]
    exact hv
  refine ⟨ad, rfl, had, hk 0 _ (by decide) rfl, ?_, ?_, ?_⟩
  · rw [← add_lit _ (by omega), add_add]; exact hk 1 _ (by decide) rfl
  · rw [← add_lit _ (by omega), add_add]; exact hk 2 _ (by decide) rfl
  · rw [← add_lit _ (by omega), add_add]; exact hk 3 _ (by decide) rfl
theorem elemAct : Elem Try.prog 46 51 4 40 := by
  obtain ⟨i0, hi, hz0, hz1, hz2⟩ := info_parts (show (Try.prog.info? 51).map (fun i => (i.zero, i.size, i.bytes)) = some (some (.agg #[.int .i64 0, .int .i64 0, .string ⟨#[]⟩, .int .i64 0]), 4, 40) by kernel_rfl)
  exact ⟨Try.underlying46, ⟨i0, _, hi, hz0, hz1, hz2, rfl⟩, by decide⟩
end Disk

section
open Go.WideShapes Go.ChangeShapes
variable {H : Type} {enc : TypeId × Value → H} {W : World} {v : Value} {d : DataW H} {ps : List MemPlace} {r : Reach} {b0 : Nat}
theorem open_dacts (hv : Value.okWide Try.prog W r b0 46 v) (h : DataW.Trod enc Try.prog W 0 (fun _ => true) true 46 v d ps) :
    ∃ (A : Option Addr) (c : Nat) (l : List Disk.DAct), v = .slice A l.length c ∧ l.length ≤ c ∧ c ≤ maxLen ∧ Src W 4 A l.length (Disk.acs l) ∧ (∀ a ∈ l, Disk.I64 a.2.1 ∧ Disk.I64 a.2.2.2 ∧ a.2.2.1.size ≤ maxLen) := by
  obtain ⟨A, c, l, h1, h2, h3, h4, h5, _⟩ := open_rows (α := Disk.DAct) Disk.dcells (fun a => Disk.I64 a.2.1 ∧ Disk.I64 a.2.2.2 ∧ a.2.2.1.size ≤ maxLen) 4 Try.underlying46 (by kernel_rfl) (by decide) (fun _ => rfl)
    (fun fuel cs y hy => by
      obtain ⟨y0, y1, y2, y3, n, _, hl, h0, h1, h2, h3⟩ := Joins.trod_struct4 Try.underlying51 hy
      have hC : Try.prog.cellsOf 51 = 4 := by kernel_rfl
      rw [hC] at hl
      match cs, hl with
      | [c0, c1, c2, c3], _ =>
        have e3 : Try.prog.cellsOf 3 = 1 := by kernel_rfl
        have e9 : Try.prog.cellsOf 9 = 1 := by kernel_rfl
        obtain ⟨x0, hx0, _, _⟩ := DataW.trod_int Try.underlying3 h0
        obtain ⟨x1, hx1, _, m1⟩ := DataW.trod_int Try.underlying3 h1
        obtain ⟨x2, hx2, _, m2⟩ := DataW.trod_string Try.underlying9 h2
        obtain ⟨x3, hx3, _, m3⟩ := DataW.trod_int Try.underlying3 h3
        simp [e3, e9] at hx0 hx1 hx2 hx3
        subst hx0
        subst hx1
        subst hx2
        subst hx3
        exact ⟨(x0, x1, x2, x3), rfl, m1, m3, m2⟩) h (okWide_slice Try.underlying46 hv)
  exact ⟨A, c, l, h1, h2, h3, h4, h5⟩
end

namespace Disk
theorem DiskAt.apart {F : Nat → Prop} {w : World} {g n b s k : Nat} {m : Safe} {ps : List Pc} {ser boot : Int} {e : TypeId} {v : Value} {xs : List Value} (h : DiskAt w g F n m ps ser boot) (hr : w.ownsRow b e s v k xs)
    (h1 : e ≠ 86) (h2 : e ≠ 107) : ∀ i, v.ownBlock = some i → ¬ F i := by
  intro i hi hf
  obtain ⟨mb, A, c, hF, hg, hm, ho⟩ := h
  rcases (hF i).1 hf with rfl | rfl | hx
  · exact own_ne hr hg h1 hi
  · exact hm.ne_row hr hi
  · exact rows_apart hr ho h2 hi hx
theorem RefD.apart {G : Nat → Prop} {w : World} {x b s k : Nat} {fs ps : List Pc} {ser boot : Int} {e : TypeId} {v : Value} {xs : List Value} (h : RefD w x G fs ps ser boot) (hr : w.ownsRow b e s v k xs)
    (h1 : e ≠ 111) (h2 : e ≠ 113) (h3 : e ≠ 125) : ∀ i, v.ownBlock = some i → ¬ G i := by
  intro i hi hf
  obtain ⟨A, c, B, d, hF, hg, ho, hp⟩ := h
  rcases (hF i).1 hf with rfl | hx | hx
  · exact own_ne hr hg h1 hi
  · exact rows_apart hr ho h3 hi hx
  · exact rows_apart hr hp h2 hi hx

theorem u8_bounds {k : Int} (h : (Lit.int .u8 k).wf = true) : 0 ≤ k ∧ k ≤ 255 := by
  unfold Lit.wf at h
  have hb : (2 : Int) ^ IntKind.u8.bits = 256 := by decide
  simp [IntKind.signed, IntKind.min, IntKind.max, hb] at h
  omega

set_option maxHeartbeats 4000000 in
theorem law_order (w : World) (A : Option Addr) (c : Nat) (l : List DAct) (K : Int) (hK0 : 0 ≤ K) (hK1 : K ≤ 255) (hl : Src w 4 A l.length (acs l)) (hlc : l.length ≤ c) (hcm : c ≤ maxLen) (hgood : ∀ a ∈ l, I64 a.2.1 ∧ I64 a.2.2.2 ∧ a.2.2.1.size ≤ maxLen) :
    Calls Try.prog 6 #[.slice A l.length c, .int .u8 K] w fun e w' => e = .returned (.bool true) ∧ Below w.heap.size w w' := by
  unfold maxLen at hcm hgood
  obtain ⟨L, rfl⟩ : ∃ L : Nat, K = L := ⟨K.toNat, by omega⟩
  have HL := Lib.hid hl; clear hl
  have HGO := Lib.hid hgood; clear hgood
  go_enter Try.func6, Try.ntmps6
  go_wp2_with fail
  refine (new_any _).mono ?_
  rintro e w1 ⟨g, F1, rfl, hA1, hk1, hF1⟩
  have HA1 := Lib.hid hA1; clear hA1
  go_wp2_with fail
  go_loopw [6, 7] (fun v6 v7 wr => ∃ (i : Nat) (F : Nat → Prop) (ta : List DAct) (T : Option Addr) (tc : Nat), i ≤ l.length ∧ i ≤ 20 ∧ v7 = .int .i64 i ∧ v6 = .slice T ta.length tc ∧ ta.length ≤ i ∧ wr.ownsRow 0 51 4 (.slice T ta.length tc) ta.length (acs ta) ∧ DiskAt wr g F 0 (fun _ => none) (ta.map pcOf) 1 1 ∧ (∀ a ∈ ta, 1 ≤ a.2.1 ∧ a.2.1 ≤ 1073741824 ∧ a.2.2.1.size ≤ 9223372036854775807) ∧ (∀ k, F k → w.heap.size ≤ k) ∧ (∀ k, (Value.slice T ta.length tc).ownBlock = some k → w.heap.size ≤ k) ∧ Below w.heap.size w wr) (fun _ v7 _ => l.length - (intOf v7).toNat)
  case atStart => exact ⟨0, F1, [], none, 0, by omega, by omega, rfl, rfl, Nat.le_refl _, ⟨rfl, .inl ⟨rfl, rfl⟩⟩, HA1.out, fun a ha => absurd ha List.not_mem_nil, hF1, (fun k hk => by cases hk), hk1.below (Nat.le_refl _) (fun _ x => x.elim)⟩
  case round =>
    obtain ⟨i, F, ta, T, tc, hi, hi20, rfl, rfl, htl, hrow, hD, hta, hFl, hTl, hB⟩ := hrel
    have hsz := hB.size
    have HROW := Lib.hid hrow; clear hrow
    have HD := Lib.hid hD; clear hD
    have HTA := Lib.hid hta; clear hta
    by_cases hlt : i < l.length ∧ i < 20
    · obtain ⟨hlt1, hlt2⟩ := hlt
      obtain ⟨a, ha⟩ : ∃ a, l[i]? = some a := ⟨_, List.getElem?_eq_getElem hlt1⟩
      obtain ⟨hg1, hg2, hg3'⟩ := HGO.out a (List.mem_of_getElem? ha)
      obtain ⟨ad, rfl, had, k0, k1, k2, k3⟩ := dact_cells HL.out (by omega) i a ha
      clear ha
      obtain ⟨aK, aF, aS, aN⟩ := a
      dsimp only at k0 k1 k2 k3 hg1 hg2 hg3'
      have d0 : ∀ W, Below w.heap.size w W → W.cell? (ad.add (i * 4)) = some (.int .i64 aK) ∧ W.cell? ⟨(ad.add (i * 4)).block, (ad.add (i * 4)).off + 1, none⟩ = some (.int .i64 aF) ∧ W.cell? ⟨(ad.add (i * 4)).block, (ad.add (i * 4)).off + 2, none⟩ = some (.string aS) ∧ W.cell? ⟨(ad.add (i * 4)).block, (ad.add (i * 4)).off + 3, none⟩ = some (.int .i64 aN) := by
        intro W hW
        have hk : ∀ j u, w.cell? ⟨(ad.add (i * 4)).block, j, none⟩ = some u → W.cell? ⟨(ad.add (i * 4)).block, j, none⟩ = some u := fun j u hu => (hW.cell (p := ⟨(ad.add (i * 4)).block, j, none⟩) (by rw [block_add]; exact had)).trans hu
        exact ⟨(hW.cell (p := ad.add (i * 4)) (by rw [block_add]; exact had)).trans k0, hk _ _ k1, hk _ _ k2, hk _ _ k3⟩
      clear k0 k1 k2 k3
      obtain ⟨c0, c1, c2, c3⟩ := d0 wr hB
      have D := Lib.hid d0; clear d0
      have h20 : (i : Int) < 20 := by omega
      by_cases hr : 1 ≤ aF ∧ aF ≤ 1073741824
      · obtain ⟨hr1, hr2⟩ := hr
        go_wp2_with fail
        refine wp_region_still_tail 11 (by kernel_rfl) (by kernel_rfl) ?_
        simp only [List.take_succ_cons, List.take_zero, List.drop_succ_cons, List.drop_zero]
        change wpStill _ _ (World.drew wr) _ _ _
        repeat still_step
        refine wpStill_nil ?_
        change wpList _ _ _ _ _ (World.drew wr)
        go_wp2_with fail
        refine (write_ok (HD.out.kept (G := NoF) (Kept.refl _ _).drew (fun _ _ x => x)) aF aS hr1 hr2 (by simp; omega)).mono ?_
        rintro e w2 ⟨rfl, F2, hD2, hG2, hk2⟩
        have hq2 : Kept F wr w2 := ((Kept.refl _ _).drew).then hk2
        have hB2 : Below w.heap.size w w2 := hB.trans (hq2.below hsz hFl)
        have hrow2 := own_kept HROW.out hq2 (HD.out.apart HROW.out (by decide) (by decide))
        have hTO := HD.out.apart HROW.out (by decide) (by decide)
        have HTO := Lib.hid hTO; clear hTO
        obtain ⟨c0', c1', c2', c3'⟩ := D.out w2 hB2
        have HROW2 := Lib.hid hrow2; clear hrow2
        have HD2 := Lib.hid hD2; clear hD2
        have HB2 := Lib.hid hB2; clear hB2
        clear c0 c1 c2 c3
        go_wp2_with (at_builtin; refine list_append_src elemAct (.tmp 37) (.tmp 42) rfl rfl (Value.slice T ta.length tc) rfl (own_kept HROW2.out (F := NoF) ((Kept.refl _ _).alloc _) (fun _ _ x => x)) 1 rfl (Src.of_has (m := 1) (Has.new w2 51 #[.int .i64 aK, .int .i64 aF, .string aS, .int .i64 aN]) rfl) (by intro u hu; simp at hu; rcases hu with rfl | rfl | rfl | rfl <;> rfl) (by unfold maxLen; omega) (by omega) ?_; intro T3 tc3 w3 ho3 hg3 ha3)
        have hq3 : Kept (fun k => (Value.slice T ta.length tc).ownBlock = some k) w2 w3 := ((Kept.refl _ w2).alloc _).grown hg3 (fun k hk => .inl hk)
        have hD3 : DiskAt w3 g F2 0 (fun _ => none) ((ta ++ [(aK, aF, aS, aN)]).map pcOf) 1 1 := by
          rw [List.map_append]
          refine HD2.out.kept hq3 fun k hf hk => ?_
          rcases hG2 k hf with hx | hx
          · exact HTO.out k hk hx
          · have := own_lt HROW.out hk
            exact absurd hx (by simpa using this)
        have hB3 : Below w.heap.size w w3 := HB2.out.trans (hq3.below HB2.out.size hTl)
        have hF2l : ∀ k, F2 k → w.heap.size ≤ k := hG2.above hFl hsz
        have hta3 : ∀ a ∈ ta ++ [(aK, aF, aS, aN)], 1 ≤ a.2.1 ∧ a.2.1 ≤ 1073741824 ∧ a.2.2.1.size ≤ 9223372036854775807 := by
          intro a ha
          rcases List.mem_append.1 ha with h | h
          · exact HTA.out a h
          · rw [List.mem_singleton.1 h]
            exact ⟨hr1, hr2, by simpa using hg3'⟩
        have hT3l : ∀ k, (Value.slice T3 (ta.length + 1) tc3).ownBlock = some k → w.heap.size ≤ k := by
          intro k hk
          rcases ha3 with h | h
          · exact hTl k (h.symm.trans hk)
          · rw [hk] at h
            injection h with h
            have := HB2.out.size
            simp at h
            omega
        have hlen : (ta ++ [(aK, aF, aS, aN)]).length = ta.length + 1 := by simp
        go_roundw
        case rel => exact ⟨i + 1, F2, ta ++ [(aK, aF, aS, aN)], T3, tc3, by omega, by omega, by go_num, by rw [hlen], by omega, by rw [hlen, acs_append]; exact ho3, hD3, hta3, hF2l, by rw [hlen]; exact hT3l, hB3⟩
        case measure => simp [intOf]; omega
      · go_wp2_with fail
        refine wp_region_still_tail 11 (by kernel_rfl) (by kernel_rfl) ?_
        simp only [List.take_succ_cons, List.take_zero, List.drop_succ_cons, List.drop_zero]
        change wpStill _ _ (World.drew wr) _ _ _
        repeat still_step
        refine wpStill_nil ?_
        change wpList _ _ _ _ _ (World.drew wr)
        go_wp2_with fail
        refine (write_bad (HD.out.kept (G := NoF) (Kept.refl _ _).drew (fun _ _ x => x)) aF aS (by omega)).mono ?_
        rintro e w2 ⟨rfl, F2, hD2, hG2, hk2⟩
        have hq2 : Kept F wr w2 := ((Kept.refl _ _).drew).then hk2
        have hB2 : Below w.heap.size w w2 := hB.trans (hq2.below hsz hFl)
        have hrow2 := own_kept HROW.out hq2 (HD.out.apart HROW.out (by decide) (by decide))
        have HROW2 := Lib.hid hrow2; clear hrow2
        have HD2 := Lib.hid hD2; clear hD2
        have HB2 := Lib.hid hB2; clear hB2
        go_wp2_with fail
        go_roundw
        case rel => exact ⟨i + 1, F2, ta, T, tc, by omega, by omega, by go_num, rfl, by omega, HROW2.out, HD2.out, HTA.out, hG2.above hFl hsz, hTl, HB2.out⟩
        case measure => simp [intOf]; omega
    · have hx : l.length ≤ i ∨ (i < l.length ∧ 20 ≤ i) := by omega
      clear hlt
      have hTO := HD.out.apart HROW.out (by decide) (by decide)
      have HTO := Lib.hid hTO; clear hTO
      have hmx : (max (L : Int) 0).toNat = L := by omega
      have HMX := Lib.hid hmx; clear hmx
      rcases hx with hx | ⟨hx1, hx2⟩
      all_goals
        go_wp2_with fail
        refine (crash_any HD.out (by decide) (by decide) L (by omega) (by intro p hp; obtain ⟨a, ha, rfl⟩ := List.mem_map.1 hp; have := HTA.out a ha; exact i64_small (by show (0 : Int) ≤ a.2.1; omega) (by show a.2.1 ≤ _; omega)) (by rw [List.length_map]; omega) (by decide) 0 (fun k => Nat.le_refl _) (.inr (by rw [HMX.out]; omega))).mono ?_
        rintro e w2 ⟨rfl, hD2, hk2⟩
        rw [HMX.out] at hD2
        have hrow2 := own_kept HROW.out hk2 HTO.out
        have hB2 : Below w.heap.size w w2 := hB.trans (hk2.below hsz hFl)
        have HROW2 := Lib.hid hrow2; clear hrow2
        have HD2 := Lib.hid hD2; clear hD2
        go_wp2_with fail
        refine (rnew_any _).mono ?_
        rintro e w3 ⟨x, G1, rfl, hR3, hk3, hG3⟩
        have HR3 := Lib.hid hR3; clear hR3
        go_wp2_with fail
        have hlt' := HROW2.out
        go_loopw [9, 10, 11] (fun v9 v10 v11 wq => ∃ (j left : Nat) (G : Nat → Prop) (qs : List Pc), j ≤ ta.length ∧ left ≤ 255 ∧ v10 = .int .i64 j ∧ v9 = .int .i64 left ∧ qs.length = j ∧ RefD wq x G [] qs 1 1 ∧ qs ++ cuts left ((ta.map pcOf).drop j) = cuts L (ta.map pcOf) ∧ (∀ k, G k → w2.heap.size ≤ k) ∧ Kept NoF w2 wq) (fun _ v10 _ _ => ta.length - (intOf v10).toNat)
        case atStart => exact ⟨0, L, G1, [], Nat.zero_le _, by omega, rfl, rfl, rfl, HR3.out, by simp, hG3, hk3⟩
        case round =>
          obtain ⟨j, left, G, qs, hj, hl255, rfl, rfl, hqs, hR, hcu, hGl, hkq⟩ := hrel
          have HR := Lib.hid hR; clear hR
          have HCU := Lib.hid hcu; clear hcu
          have HQS := Lib.hid hqs; clear hqs
          have hrow3 := own_kept HROW2.out hkq (fun _ _ x => x)
          by_cases hjl : j < ta.length
          · obtain ⟨a, ha⟩ : ∃ a, ta[j]? = some a := ⟨_, List.getElem?_eq_getElem hjl⟩
            obtain ⟨r1, r2, r3⟩ := HTA.out a (List.mem_of_getElem? ha)
            obtain ⟨td, rfl, htd, k0, k1, k2, k3⟩ := dact_cells (Src.of_own hrow3) (by omega) j a ha
            have hdr : (ta.map pcOf).drop j = pcOf a :: (ta.map pcOf).drop (j + 1) := drop_cons (by rw [List.getElem?_map, ha]; rfl)
            have hcu := HCU.out
            rw [hdr, cuts] at hcu
            have HCU2 := Lib.hid hcu; clear hcu hdr
            clear ha hrow3
            obtain ⟨aK, aF, aS, aN⟩ := a
            dsimp only [pcOf] at k0 k1 k2 k3 r1 r2 r3 HCU2
            by_cases hlf : left < aS.size
            · have hxs : (aS.extract 0 left).size = left := by simp; omega
              have hle : left ≤ aS.size := by omega
              have hmn : min left aS.size = left := by omega
              rw [hmn] at HCU2
              go_wp2_with fail
              refine (rwrite_ok HR.out aF (aS.extract 0 left) r1 r2 (by rw [HQS.out]; omega)).mono ?_
              rintro e w4 ⟨rfl, G4, hR4, hG4, hk4⟩
              have HR4 := Lib.hid hR4; clear hR4
              have hk5 : Kept NoF w2 w4 := hkq.trans hk4 fun i hi => .inr (hGl i hi)
              have hq4 : (qs ++ [(aF, aS.extract 0 left)]).length = j + 1 := by simp [HQS.out]
              have HQ4 := Lib.hid hq4; clear hq4
              go_wp2_with fail
              go_roundw
              case rel => exact ⟨j + 1, left - left, G4, qs ++ [(aF, aS.extract 0 left)], by omega, by omega, by go_num, by go_num, HQ4.out, HR4.out, by rw [List.append_assoc]; exact HCU2.out, hG4.above hGl hkq.size, hk5⟩
              case measure => simp [intOf]; omega
            · have hmn : min left aS.size = aS.size := by omega
              rw [hmn, extract_all] at HCU2
              go_wp2_with fail
              refine (rwrite_ok HR.out aF aS r1 r2 (by rw [HQS.out]; omega)).mono ?_
              rintro e w4 ⟨rfl, G4, hR4, hG4, hk4⟩
              have HR4 := Lib.hid hR4; clear hR4
              have hk5 : Kept NoF w2 w4 := hkq.trans hk4 fun i hi => .inr (hGl i hi)
              have hq4 : (qs ++ [(aF, aS)]).length = j + 1 := by simp [HQS.out]
              have HQ4 := Lib.hid hq4; clear hq4
              go_wp2_with fail
              go_roundw
              case rel => exact ⟨j + 1, left - aS.size, G4, qs ++ [(aF, aS)], by omega, by omega, by go_num, by go_num, HQ4.out, HR4.out, by rw [List.append_assoc]; exact HCU2.out, hG4.above hGl hkq.size, hk5⟩
              case measure => simp [intOf]; omega
          · obtain rfl : j = ta.length := by omega
            go_wp2_with fail
            have hqq : qs = cuts L (ta.map pcOf) := by
              have := HCU.out
              rw [List.drop_of_length_le (by simp)] at this
              simpa [cuts] using this
            have hsz2 := total_cuts (ta.map pcOf) L
            have hsm : ∀ f : Int, (sget (crashM (fun _ => none) L (ta.map pcOf)) f).size ≤ L := by
              intro f
              have h1 := crash_cuts f (ta.map pcOf) (fun _ => none) L
              have h2 := ofFile_len f (cuts L (ta.map pcOf))
              have h3 : (sget (crashM (fun _ => none) L (ta.map pcOf)) f).data.toList.length = (ofFile f (cuts L (ta.map pcOf))).length := by
                rw [h1]
                simp [sget]
              simp at h3
              omega
            have hDq := HD2.out.kept hkq (fun _ _ x => x)
            have hda : ∀ (f : Int), I64 f → ∀ W, Kept NoF wr W → Calls Try.prog 33 #[.pointer (some ⟨g, 0, none⟩), .int .i64 f] W fun e w' => e = .returned (.string (dataR [] (cuts L (ta.map pcOf)) f)) ∧ Kept NoF W w' := by
              intro f hf W hW
              rw [← order_eq]
              exact data_any (hDq.kept hW fun _ _ x => x) f hf (by decide) (by have := hsm f; simp only [total, List.map_nil, List.sum_nil]; omega)
            have hrd : ∀ (f : Int), ∀ W, Kept NoF wr W → _ := fun f W hW => rdata_any (HR.out.kept hW fun _ _ x => x) f (by decide) (by rw [HQS.out]; omega) (by rw [hqq]; simp only [safeR, hit, cnt, List.takeWhile_nil]; show 0 + _ ≤ _; omega)
            rw [hqq] at hrd
            have HDA := Lib.hid hda; clear hda
            have HRD := Lib.hid hrd; clear hrd
            have hrow4 := hrow3
            have HROW4 := Lib.hid hrow4; clear hrow4 hrow3
            have HDQ := Lib.hid hDq; clear hDq
            clear hsm hqq
            obtain ⟨wo, hwo⟩ : ∃ wo : World, wo = wr := ⟨_, rfl⟩
            subst hwo
            go_loopw [12] (fun v12 wz => ∃ (j : Nat), j ≤ ta.length ∧ v12 = .int .i64 j ∧ Kept NoF wo wz) (fun v12 _ => ta.length - (intOf v12).toNat)
            case atStart => exact ⟨0, Nat.zero_le _, rfl, Kept.refl _ _⟩
            case round =>
              obtain ⟨j, hj, rfl, hkz⟩ := hrel
              by_cases hjl : j < ta.length
              · obtain ⟨a, ha⟩ : ∃ a, ta[j]? = some a := ⟨_, List.getElem?_eq_getElem hjl⟩
                obtain ⟨r1, r2, r3⟩ := HTA.out a (List.mem_of_getElem? ha)
                obtain ⟨td, rfl, htd, -, k1, -, -⟩ := dact_cells ((Src.of_own HROW4.out).kept hkz (fun _ _ x => x)) (by omega) j a ha
                have hk1' : ∀ W, Kept NoF wr W → W.cell? ⟨(td.add (j * 4)).block, (td.add (j * 4)).off + 1, none⟩ = some (.int .i64 a.2.1) := by
                  intro W hW
                  obtain ⟨td', e, -, -, k1', -, -⟩ := dact_cells ((Src.of_own HROW4.out).kept (hkz.then hW) (fun _ _ x => x)) (by omega) j a ha
                  injection e with e
                  subst e
                  exact k1'
                have HK1 := Lib.hid hk1'; clear hk1'
                obtain ⟨aK, aF, aS, aN⟩ := a
                dsimp only at k1 r1 r2 HK1
                clear ha r3
                have hd := fun W (hW : Kept NoF wr W) => HDA.out aF (i64_small (by omega) (by omega)) W (hkz.then hW)
                have hr := fun W (hW : Kept NoF wr W) => HRD.out aF W (hkz.then hW)
                generalize dataR [] (cuts L (ta.map pcOf)) aF = V at hd hr
                have HD5 := Lib.hid hd; clear hd
                have HR5 := Lib.hid hr; clear hr
                go_wp2_with fail
                go_region_held3 (fun W => W.cell? ⟨(td.add (j * 4)).block, (td.add (j * 4)).off + 1, none⟩ = some (.int .i64 aF)) (first | exact k1 | exact q4 | (simp [go_sem, k1]; done))
                  (first
                    | (go_at_call 33; refine (HD5.out _ (by (repeat' (first | with_reducible exact Kept.refl _ _ | with_reducible refine Kept.put ?_ ?_ | with_reducible refine Kept.drewN ?_ _ | with_reducible refine Kept.drew ?_ | with_reducible refine Kept.alloc ?_ _ | (fail) | (right; simp; done))))).mono ?_; rintro e w4 ⟨rfl, hk4⟩; have hk5 : Kept NoF wr w4 := Kept.then (by (repeat' (first | with_reducible exact Kept.refl _ _ | with_reducible refine Kept.put ?_ ?_ | with_reducible refine Kept.drewN ?_ _ | with_reducible refine Kept.drew ?_ | with_reducible refine Kept.alloc ?_ _ | (fail) | (right; simp; done)))) hk4; have q4 := HK1.out w4 hk5)
                    | (go_at_call 34; refine (HR5.out _ (by (repeat' (first | with_reducible exact Kept.refl _ _ | with_reducible refine Kept.put ?_ ?_ | with_reducible refine Kept.drewN ?_ _ | with_reducible refine Kept.drew ?_ | with_reducible refine Kept.alloc ?_ _ | (with_reducible exact hk5) | (right; simp; done))))).mono ?_; rintro e w5 ⟨rfl, hk6⟩; have hk7 : Kept NoF wr w5 := Kept.then (by (repeat' (first | with_reducible exact Kept.refl _ _ | with_reducible refine Kept.put ?_ ?_ | with_reducible refine Kept.drewN ?_ _ | with_reducible refine Kept.drew ?_ | with_reducible refine Kept.alloc ?_ _ | (with_reducible exact hk5) | (right; simp; done)))) hk6; have q4 := HK1.out w5 hk7))
                go_wp2
                go_roundw
                case rel => exact ⟨j + 1, by omega, by go_num, hkz.then hk7⟩
                case measure => simp [intOf]; omega
              · obtain rfl : j = ta.length := by omega
                go_wp2_with fail
                refine (pending_any (HDQ.out.kept hkz (fun _ _ x => x)) (by decide) (by decide)).mono ?_
                rintro e w4 ⟨rfl, hk4⟩
                rw [show total [] = 0 from rfl]
                go_wp2_with fail
                refine (awake_any _).mono ?_
                rintro e w5 ⟨rfl, hk5⟩
                go_wp2_with fail
                go_ret
                exact ⟨rfl, hB2.trans ((((hkq.then hkz).then hk4).then hk5).below hB2.size (fun _ x => x.elim))⟩
end Disk
end Go.Proofs.Ytploafhenmfmhaa

namespace Go.Proofs.Ytploafhenmfmhaa.diskOrder
open Go.ChangeShapes Go.WideShapes Go.ChangeAt Go.RowKit
open Go.ChangeMaps (open_string shut_string)
set_option maxRecDepth 100000 in
theorem contract (H : Type) (enc : TypeId × Value → H) (W : World) (base : Nat) (args : Array Value) (ds gs : List (DataW H)) (before : List MemPlace)
    (hval : ∀ (j : Nat) t v, Try.f6.params[j]? = some t → args[j]? = some v → Value.okWide Try.prog W .any base t v)
    (hW : DataW.Whole enc Try.prog Try.f6.params.toList Rows.diskOrderSpec.vars false W args.toList ds gs before) :
    Calls Try.prog 6 args W fun e W' => ∃ v, e = .returned v ∧ Rows.diskOrderSpec.post enc Try.prog Try.f6 false true false false W args v W' := by
  have hW' := hW
  obtain ⟨p, q, hA0, hV, rfl, hfz, hnd⟩ := hW
  have hA : DataW.TrodAll enc Try.prog W 0 (fun _ => true) true Try.f6.params.toList args.toList ds p := hA0
  rw [Try.params6] at hA hval
  obtain ⟨v0, vs0, d0, ds0, p0, q0, hargs, rfl, rfl, h0, r0⟩ := trodAll_cons hA
  obtain ⟨v1, vs1, d1, ds1, p1, q1, rfl, rfl, rfl, h1, r1⟩ := trodAll_cons r0
  obtain ⟨rfl, rfl, rfl⟩ := trodAll_nil r1
  obtain rfl : args = #[v0, v1] := by cases args; simp_all
  obtain ⟨rfl, rfl⟩ := trodVars_none hV
  have hlt : ∀ x : MemPlace, x ∈ _ → x.block < W.heap.size := fun x hx => hW'.lt x hx
  have g0 := h0
  have g1 := h1
  obtain ⟨A0, c0, l0, rfl, hlc0, hcm0, hs0, hg0⟩ := open_dacts (hval 0 46 v0 rfl rfl) h0
  obtain ⟨a1, rfl, rfl, rfl, w1⟩ := open_int Try.underlying5 (hval 1 5 v1 rfl rfl) h1
  clear hA0
  refine (Disk.law_order W A0 c0 l0 a1 (Disk.u8_bounds w1).1 (Disk.u8_bounds w1).2 hs0 hlc0 hcm0 hg0).mono fun e W' ⟨he, hb⟩ => ?_
  subst he
  exact ⟨_, rfl, post_below (pv := []) hW' (fun _ _ _ => trodAll_cons_mk (shut_bool Try.underlying4 _) trodAll_mk0)
    (fun sp hsp => (trodAll_cons_mk (arg_stays (by kernel_rfl) (by kernel_rfl) g0 hb hlt (fun x hx => hsp x hx) (fun x hx => by first | (simp at hx; done) | simp [hx])) (trodAll_cons_mk (arg_stays (by kernel_rfl) (by kernel_rfl) g1 hb hlt (fun x hx => hsp x hx) (fun x hx => by first | (simp at hx; done) | simp [hx])) trodAll_mk0))) (fun _ _ => rfl) (by simp)
    hb (ok_one (by kernel_rfl) rfl (okWide_bool_mk Try.underlying4 _))⟩

set_option maxRecDepth 100000 in
theorem lifted (os : Os) (started : os.Started) (H : Type) (enc : TypeId × Value → H) :
    ReturnsInHanded {} Try.checked os 6 .any (Rows.diskOrderSpec.pre6 enc Try.prog Try.f6 Rows.diskOrderRow.domain false) (Rows.diskOrderSpec.post enc Try.prog Try.f6 false true false false) := by
  refine returnsInHanded_of_change (C := Try.checked) own started (by kernel_rfl) Try.func6
    (ChangeSpec.witness6 (enc := enc) (C := Try.checked) false ⟨#[], #[.slice none 0 0, .int .u8 0], []⟩ 8 (by kernel_rfl) (by kernel_rfl) (by kernel_rfl) (by kernel_rfl)) ?_
  intro W base args ds gs before hval hW _ _
  exact contract H enc W base args ds gs before hval hW

set_option maxRecDepth 100000 in
theorem proved : Rows.DiskOrderSaid :=
  OpenClaim.holds_of_wide 6 Try.f6 rfl rfl rfl rfl rfl rfl rfl ⟨rfl, rfl, rfl, rfl, rfl⟩ rfl rfl rfl rfl rfl (by kernel_rfl) Try.func6 (by kernel_rfl)
    (of_decide_eq_true (by kernel_rfl)) (by unfold Func.isWrapper; first | (rw [if_pos (by decide +kernel)]; kernel_rfl) | (rw [if_neg (by decide +kernel)]; exact ⟨rfl, rfl⟩))
    (fun os started H enc _ => lifted os started H enc)
#print axioms proved
end Go.Proofs.Ytploafhenmfmhaa.diskOrder
