
/- The log: Open, Append, Last. -/
import Derived.Test.YthgdkhgpboaplaaWal2
import Derived.Deep.RegionHeld3
set_option linter.unusedSimpArgs false
set_option linter.unusedVariables false
namespace Go.Proofs.Ythgdkhgpboaplaa
open Go.RowKit
set_option maxRecDepth 100000
namespace Wl
open Disk Fr Vn Ops
def OpenPost (w : World) (g : Nat) (first : Int) (L : List Sg) (e : Ending) (w' : World) : Prop :=
  ∃ gw A c, e = .returned (.tuple #[.pointer (some ⟨gw, 0, none⟩), .slice A (readT L).length c, .int .i64 0]) ∧ Has w' gw 98 #[.pointer (some ⟨g, 0, none⟩), .int .i64 (atN first L)] ∧ w.heap.size ≤ gw ∧
    NewSl 9 1 w.heap.size w' A (readT L).length c (tcells (readT L)) ∧ Below w.heap.size w w'
set_option maxHeartbeats 2000000 in
theorem open_any (w : World) (g nn : Nat) (F : Nat → Prop) (m : Disk.Safe) (ps : List Disk.Pc) (ser boot first : Int) (K : Nat) (ls : List Sg)
    (hd : DiskAt w g F nn m ps ser boot) (hpi : ∀ p ∈ ps, I64 p.1) (hnn : nn ≤ 100000) (hps : ps.length ≤ 100000) (hsz : ∀ f, (sget m f).size + total ps ≤ 140737488355328)
    (h1 : 1 ≤ first) (h1' : first ≤ 1073741824) (h2 : first + K ≤ 4611686018427387904) (hK : isFile m ps (first + K) = false) (hls : ls.map (·.1) = segsF (isFile m ps) (dataOf m ps) K first) (hlen : ls.length ≤ 1000000) :
    Calls Try.prog 28 #[.pointer (some ⟨g, 0, none⟩), .int .i64 first] w (OpenPost w g first ls) := by
  have hr := read_any w g nn F m ps ser boot first K ls hd hpi hnn hps hsz h1 h1' h2 hK hls hlen
  have HR := Lib.hid hr
  clear hr hd hpi hnn hps hsz h2 hK hls hlen
  go_enter Try.func28, Try.ntmps28
  go_wp2_with fail
  refine HR.out.mono ?_
  rintro e w1 ⟨A, c, rfl, hn, hb⟩
  have HN := Lib.hid hn; have HB := Lib.hid hb
  clear hn hb
  go_wp2
  go_ret3
  have hk : Kept NoF w1 (w1.alloc (.cells #[.pointer (some ⟨g, 0, none⟩), .int .i64 (atN first ls)] 98)) := (Kept.refl _ _).alloc _
  exact ⟨w1.heap.size, A, c, rfl, Has.new _ _ _, HB.out.size, HN.out.kept hk, HB.out.alloc HB.out.size _⟩
/-- The log behind block gw. -/
abbrev WAt (w : World) (gw g : Nat) (last : Int) : Prop := Has w gw 98 #[.pointer (some ⟨g, 0, none⟩), .int .i64 last]
section
variable {F : Nat → Prop} {w : World} {g gw n : Nat} {m : Disk.Safe} {ps : List Disk.Pc} {ser boot last : Int}
theorem wnone_any (h : WAt w gw g last) : Calls Try.prog 52 #[.pointer (some ⟨gw, 0, none⟩)] w fun e w' => e = .returned (.bool false) ∧ w = w' := by
  have c0 : w.cell? ⟨gw, 0, none⟩ = some (.pointer (some ⟨g, 0, none⟩)) := h.cell 0
  clear h
  go_enter Try.func52, Try.ntmps52
  go_wp2
  go_ret
  exact ⟨rfl, rfl⟩
theorem DiskAt.ne (h : DiskAt w g F n m ps ser boot) (hw : WAt w gw g last) : ¬ F gw := by
  obtain ⟨mb, A, c, hF, hg, hm, ho⟩ := h
  intro hf
  rcases (hF gw).1 hf with rfl | rfl | h
  · exact hg.ne hw (by decide) rfl
  · exact hm.ne hw rfl
  · exact own_ne ho hw (by decide) h
def AppPost (w : World) (g gw : Nat) (F : Nat → Prop) (n : Nat) (m : Disk.Safe) (ps : List Disk.Pc) (ser boot last : Int) (e : Ending) (w' : World) : Prop :=
  e = .returned (.int .i64 0) ∧ ∃ F', DiskAt w' g F' n m ps ser boot ∧ Grows w F F' ∧ WAt w' gw g (if 256 ≤ (dataOf m ps last).size then last + 1 else last) ∧ Kept (fun k => F k ∨ k = gw) w w'
set_option maxHeartbeats 4000000 in
theorem append_any (h : DiskAt w g F n m ps ser boot) (hw : WAt w gw g last) (s : ByteArray) (hs : s.size ≤ 65536) (hl1 : 1 ≤ last) (hl2 : last ≤ 1073741824) (hlen : ps.length < 100000)
    (hsz : (sget m last).size + total ps ≤ 140737488000000) :
    Calls Try.prog 31 #[.pointer (some ⟨gw, 0, none⟩), .string s] w (AppPost w g gw F n m (ps ++ [(last, ofL (frameL (bl s)))]) ser boot last) := by
  have hno := wnone_any hw
  have hfl : (frameL (bl s)).length ≤ 65549 := by
    rw [frameL_len, size_bl]
    have := put_le (n := s.size) (by omega)
    omega
  have hne := DiskAt.ne h hw
  have hgl := hw.lt
  have hwr := fun (W : World) (hk : Kept NoF w W) => write_ok (h.kept hk (fun _ _ z => z)) last (ofL (frameL (bl s))) hl1 hl2 (by omega)
  have hx64 : I64 last := i64_small (by omega) (by omega)
  obtain ⟨fr, hfr⟩ : ∃ fr, ofL (frameL (bl s)) = fr := ⟨_, rfl⟩
  have hfz : fr.size ≤ 65549 := by rw [← hfr, ofL_sz]; exact hfl
  have hfp := fput_any w s hs
  rw [hfr] at hwr hfp ⊢
  have hda : ∀ (W : World) (F2 : Nat → Prop), DiskAt W g F2 n m (ps ++ [(last, fr)]) ser boot → _ := fun W F2 h2 => data_any h2 last hx64 (by simp; omega) (by rw [total_snoc]; dsimp only; omega)
  have HNO := Lib.hid hno; have HFP := Lib.hid hfp; have HWR := Lib.hid hwr; have HDA := Lib.hid hda; have HW := Lib.hid hw; have HNE := Lib.hid hne; have HLT := Lib.hid h.lt
  have HL : Hid (last ≤ 1073741824) := Lib.hid hl2
  have hw1 : IntKind.i64.wrap (last + 1) = last + 1 := IntWalk.i64_in _ (by omega)
  clear hno hfp hwr hda hw hne h hfr hsz hfl hlen hfz hx64 hs
  go_enter Try.func31, Try.ntmps31
  go_wp2_with fail
  refine HNO.out.mono ?_
  rintro e w' ⟨rfl, rfl⟩
  go_wp2_with fail
  refine HFP.out.mono ?_
  rintro e w1 ⟨rfl, hk1⟩
  have HK1 := Lib.hid hk1
  have hw1' := HW.out.kept hk1 (fun z => z)
  have c0 : w1.cell? ⟨gw, 0, none⟩ = some (.pointer (some ⟨g, 0, none⟩)) := hw1'.cell 0
  have c1 : w1.cell? ⟨gw, 1, none⟩ = some (.int .i64 last) := hw1'.cell 1
  clear hk1 hw1'
  go_wp2_with fail
  refine wp_region_still_tail 9 (by kernel_rfl) (by kernel_rfl) ?_
  simp only [List.take_succ_cons, List.take_zero, List.drop_succ_cons, List.drop_zero]
  change wpStill _ _ (World.drew w1) _ _ _
  repeat still_step
  refine wpStill_nil ?_
  change wpList _ _ _ _ _ (World.drew w1)
  go_wp2_with fail
  refine (HWR.out _ HK1.out.drew).mono ?_
  rintro e w2 ⟨rfl, F2, h2, g2, k2⟩
  have hw2 := (HW.out.kept HK1.out.drew (fun z => z)).kept k2 HNE.out
  have d0 : w2.cell? ⟨gw, 0, none⟩ = some (.pointer (some ⟨g, 0, none⟩)) := hw2.cell 0
  have d1 : w2.cell? ⟨gw, 1, none⟩ = some (.int .i64 last) := hw2.cell 1
  have hk2 : Kept F w w2 := ((HK1.out.drew).mono (fun _ z => z.elim)).then k2
  have H2 := Lib.hid h2; have HW2 := Lib.hid hw2; have HK2 := Lib.hid hk2; have g2' : Grows w F F2 := (fun k hk => by rcases g2 k hk with z | z; exact .inl z; exact .inr (Nat.le_trans (HK1.out.drew).size z))
  have HG2 := Lib.hid g2'; clear g2'
  clear h2 g2 k2 hw2 hk2 c0 c1
  go_wp2_with fail
  refine wp_region_still_tail 8 (by kernel_rfl) (by kernel_rfl) ?_
  simp only [List.take_succ_cons, List.take_zero, List.drop_succ_cons, List.drop_zero]
  change wpStill _ _ (World.drew w2) _ _ _
  repeat still_step
  refine wpStill_nil ?_
  change wpList _ _ _ _ _ (World.drew w2)
  go_wp2_with fail
  have hkd : Kept NoF w2 w2.drew := (Kept.refl _ w2).drew
  refine (HDA.out _ F2 (H2.out.kept hkd (fun _ _ z => z))).mono ?_
  rintro e w3 ⟨rfl, hk3⟩
  obtain ⟨D, hD⟩ : ∃ D, dataOf m (ps ++ [(last, fr)]) last = D := ⟨_, rfl⟩
  rw [hD]
  have hw3 := (HW2.out.kept hkd (fun z => z)).kept hk3 (fun z => z)
  have b1 : w3.cell? ⟨gw, 1, none⟩ = some (.int .i64 last) := hw3.cell 1
  have f1 := hw3.frozen 1
  have hF2 : ¬ F2 gw := fun hh => by rcases HG2.out gw hh with h | h; exact HNE.out h; have := HW.out.lt; omega
  have HW3 := Lib.hid hw3; have HF2 := Lib.hid hF2; have HDD := Lib.hid hD
  clear hw3 hF2 hD d0 d1
  have HK3 := Lib.hid (hkd.then hk3)
  clear hkd hk3
  by_cases hb : 256 ≤ D.size
  · have hb' : (256 : Int) ≤ (D.size : Int) := by omega
    have HB := Lib.hid hb
    clear hb
    go_wp2
    go_ret
    have hk4 : Kept (fun k => k = gw) w3 (w3.setCell ⟨gw, 1, none⟩ (.int .i64 (last + 1))) := (Kept.refl _ w3).put (.inl rfl)
    refine ⟨rfl, F2, (H2.out.kept HK3.out (fun _ _ z => z)).kept hk4 (fun k hk e => HF2.out (e ▸ hk)), HG2.out, ?_, ?_⟩
    · rw [HDD.out, if_pos HB.out]
      exact HW3.out.put_of rfl
    · exact ((HK2.out.mono (fun k h => .inl h)).then (HK3.out.mono (fun _ z => z.elim))).put (.inl (.inr rfl))
  · have hb' : ¬ (256 : Int) ≤ (D.size : Int) := by omega
    have HB := Lib.hid hb
    clear hb
    go_wp2
    go_ret
    refine ⟨rfl, F2, (H2.out.kept HK3.out (fun _ _ z => z)), HG2.out, ?_, ?_⟩
    · rw [HDD.out, if_neg HB.out]
      exact HW3.out
    · exact (HK2.out.mono (fun k h => .inl h)).then (HK3.out.mono (fun _ z => z.elim))
end
end Wl
end Go.Proofs.Ythgdkhgpboaplaa
