
/- The disk: Erase; the document's Pending, Erase. -/
import Derived.Test.YtopkeknpdimimaaDiskFiles
import Derived.Test.YtopkeknpdimimaaDiskRef
import Derived.ChangeMaps5
import Derived.MapKept
set_option linter.unusedSimpArgs false
set_option linter.unusedVariables false
namespace Go.Proofs.Ytopkeknpdimimaa
open Go.RowKit Go.Maps
set_option maxRecDepth 100000
namespace Disk
variable {F G : Nat → Prop} {w : World} {g x n : Nat} {m : Safe} {fs ps : List Pc} {ser boot : Int}

theorem MapIs.clear {b : Nat} (h : MapIs w b n m) : ∃ w', (∀ ty, (Builtin.clear_ #[34] ty #[.map (some b)]).run Try.prog w = .ok (.tuple #[]) w') ∧ MapIs w' b 0 (fun _ => none) ∧ Kept (fun k => k = b) w w' := by
  obtain ⟨D, ⟨es, clock, hb, hF, hs, rfl⟩, hD⟩ := h
  have h1 : ({ w with heap := w.heap.setIfInBounds b (.map #[] clock) } : World).heap[b]? = some (.map #[] clock) := ChangeMaps.heap_setBlock_same hb (.map #[] clock)
  have h2 : Kept (fun k => k = b) w { w with heap := w.heap.setIfInBounds b (.map #[] clock) } :=
    ⟨rfl, rfl, rfl, by simp, fun k _ hk => ChangeMaps.heap_setBlock_other hb (.map #[] clock) hk⟩
  refine ⟨_, fun ty => ?_, ?_, h2⟩
  · have hg := MapKept.run_getObj_map (P := Try.prog) hb
    have hst := MapKept.run_setObj_map (P := Try.prog) (.map #[] clock) hb
    simp [Builtin.clear_, run_underlying Try.underlying34, hg, hst]
  · refine ⟨.map [], ⟨#[], clock, h1, ⟨by simp, MapKept.stamped_empty clock, by simp⟩, by simp, rfl⟩, fun k hk => ⟨rfl, rfl⟩⟩

set_option maxHeartbeats 1000000 in
theorem erase_any (h : DiskAt w g F n m ps ser boot) (hs0 : 0 ≤ ser) (hs1 : ser ≤ 1073741824) (h0 : 0 ≤ boot) (h1 : boot ≤ 1073741824) :
    Calls Try.prog 18 #[.pointer (some ⟨g, 0, none⟩)] w fun e w' => e = .returned (.tuple #[]) ∧ DiskAt w' g F 0 (fun _ => none) [] (min (ser + 1) 1073741824) (min (boot + 1) 1073741824) ∧ Kept F w w' := by
  have hn := none_any h
  have HN := Lib.hid hn; clear hn
  obtain ⟨mb, A, c, hF, hg, hm, ho⟩ := h
  obtain ⟨w1, hcl, hm1, hk1⟩ := hm.clear
  have hne := hm.ne hg
  have c0 : w.cell? ⟨g, 0, none⟩ = some (.map (some mb)) := hg.cell 0
  have hg1 : Has w1 g 37 #[.map (some mb), .slice A ps.length c, .int .i64 ser, .int .i64 boot] := hg.kept hk1 (fun e => hne e.symm)
  have ho1 := own_kept ho hk1 (fun k hk e => hm.ne_row ho (by rw [hk, e]))
  have hd1 : DiskAt w1 g F 0 (fun _ => none) ps ser boot := ⟨mb, A, c, hF, hg1, hm1, ho1⟩
  have hkF : Kept F w w1 := hk1.mono fun k e => (hF k).2 (.inr (.inl e))
  have HF := Lib.hid hF; clear hF
  have HD1 := Lib.hid hd1; clear hd1 hg hm ho hg1 hm1 ho1
  go_enter Try.func18, Try.ntmps18
  go_wp2_with fail
  refine HN.out.mono ?_
  rintro e w' ⟨rfl, rfl⟩
  go_wp2_with fail
  refine (forget_any HD1.out).mono ?_
  rintro e w2 ⟨rfl, hd2, hk2⟩
  have hq2 := hkF.then hk2
  have HQ2 := Lib.hid hq2; clear hq2
  obtain ⟨mb2, A2, c2, hF2, hg2, hm2, ho2⟩ := hd2
  have e2 : w2.cell? ⟨g, 2, none⟩ = some (.int .i64 ser) := hg2.cell 2
  have f2 := hg2.frozen 2
  have hmn : ∀ (W : World) (ts : Array TypeId) (t : TypeId), (Builtin.min_ ts t #[.int .i64 (ser + 1), .int .i64 1073741824]).run Try.prog W = .ok (.int .i64 (min (ser + 1) 1073741824)) W := by
    intro W ts t
    rw [run_min_int2]
    split
    · rw [show min (ser + 1) 1073741824 = 1073741824 by omega]
    · rw [show min (ser + 1) 1073741824 = ser + 1 by omega]
  have hne2 := hm2.ne hg2
  have hnr2 := own_ne ho2 hg2 (by decide)
  obtain ⟨ser2, hser2⟩ : ∃ s2, min (ser + 1) 1073741824 = s2 := ⟨_, rfl⟩
  rw [hser2] at hmn
  have HSER := Lib.hid hser2; clear hser2
  have hg3 : Has (w2.setCell ⟨g, 2, none⟩ (.int .i64 ser2)) g 37 #[.map (some mb2), .slice A2 ([] : List Pc).length c2, .int .i64 ser2, .int .i64 boot] := by
    have := hg2.put 2 (.int .i64 ser2)
    simpa using this
  have hk3 : Kept (fun k => k = g) w2 (w2.setCell ⟨g, 2, none⟩ (.int .i64 ser2)) := (Kept.refl _ _).put (.inl rfl)
  have hd3 : DiskAt (w2.setCell ⟨g, 2, none⟩ (.int .i64 ser2)) g F 0 (fun _ => none) [] ser2 boot := ⟨mb2, A2, c2, hF2, hg3, hm2.kept hk3 hne2, own_kept ho2 hk3 fun k hk e => hnr2 (by rw [hk, e])⟩
  have HD3 := Lib.hid hd3; clear hd3 hg3
  clear hg2 hm2 ho2
  go_wp2_with fail
  refine (boot_any HD3.out h0 h1).mono ?_
  rintro e w4 ⟨rfl, hd4, hk4⟩
  go_wp2_with fail
  go_end0
  rw [HSER.out]
  exact ⟨rfl, hd4, (HQ2.out.put (.inl ((hF2 _).2 (.inl rfl)))).then hk4⟩

set_option maxHeartbeats 1000000 in
theorem rpending_any (h : RefD w x G fs ps ser boot) (hlen : ps.length ≤ 100000) (hsz : total ps ≤ 4611686018427387904) :
    Calls Try.prog 24 #[.pointer (some ⟨x, 0, none⟩)] w fun e w' => e = .returned (.int .i64 (total ps)) ∧ w = w' := by
  obtain ⟨A, c, B, d, hF, hg, ho, hp⟩ := h
  have c1 : w.cell? ⟨x, 1, none⟩ = some (.slice B ps.length d) := hg.cell 1
  have HP := Lib.hid (Src.of_own hp)
  clear hF hg ho hp
  go_enter Try.func24, Try.ntmps24
  go_wp2_with fail
  go_loop [3, 4] (fun v3 v4 => ∃ i : Nat, i ≤ ps.length ∧ v4 = .int .i64 i ∧ v3 = .int .i64 (total (ps.take i))) (fun _ v4 => ps.length - (RowKit.intOf v4).toNat)
  case atStart => exact ⟨0, Nat.zero_le _, rfl, by simp [total]⟩
  case round =>
    obtain ⟨i, hi, rfl, rfl⟩ := hrel
    by_cases hil : i < ps.length
    · obtain ⟨q, hq⟩ : ∃ q, ps[i]? = some q := ⟨_, List.getElem?_eq_getElem hil⟩
      obtain ⟨ad, rfl, hl1, d0, d1⟩ := pc_cells HP.out (by omega) i q hq
      have ht := total_take ps (i + 1)
      rw [take_snoc hq, total_snoc] at ht
      have HT := Lib.hid (take_snoc hq)
      obtain ⟨q1, q2⟩ := q
      dsimp only at d0 d1 ht
      clear hq
      go_wp2
      go_round
      case rel => exact ⟨i + 1, by omega, by go_num, by rw [HT.out, total_snoc]; go_num⟩
      case measure => simp [RowKit.intOf]; omega
    · obtain rfl : i = ps.length := by omega
      go_wp2
      go_ret
      exact ⟨rfl, rfl⟩

set_option maxHeartbeats 1000000 in
theorem rerase_any (h : RefD w x G fs ps ser boot) (hs0 : 0 ≤ ser) (hs1 : ser ≤ 1073741824) (h0 : 0 ≤ boot) (h1 : boot ≤ 1073741824) :
    Calls Try.prog 19 #[.pointer (some ⟨x, 0, none⟩)] w (AfterR w x G (.tuple #[]) [] [] (min (ser + 1) 1073741824) (min (boot + 1) 1073741824)) := by
  obtain ⟨A, c, B, d, hF, hg, ho, hp⟩ := h
  have c2 : w.cell? ⟨x, 2, none⟩ = some (.int .i64 ser) := hg.cell 2
  have c3 : w.cell? ⟨x, 3, none⟩ = some (.int .i64 boot) := hg.cell 3
  have c0 : w.cell? ⟨x, 0, none⟩ = some (.slice A fs.length c) := hg.cell 0
  have c1 : w.cell? ⟨x, 1, none⟩ = some (.slice B ps.length d) := hg.cell 1
  have f0 := hg.frozen 0
  have f1 := hg.frozen 1
  have f2 := hg.frozen 2
  have f3 := hg.frozen 3
  have hmn : ∀ (n : Int) (W : World) (ts : Array TypeId) (t : TypeId), (Builtin.min_ ts t #[.int .i64 n, .int .i64 1073741824]).run Try.prog W = .ok (.int .i64 (min n 1073741824)) W := by
    intro n W ts t
    rw [run_min_int2]
    split
    · rw [show min n 1073741824 = 1073741824 by omega]
    · rw [show min n 1073741824 = n by omega]
  have m1 := hmn (ser + 1)
  have m2 := hmn (boot + 1)
  clear hmn
  obtain ⟨S, hS⟩ : ∃ S, min (ser + 1) 1073741824 = S := ⟨_, rfl⟩
  obtain ⟨T, hT⟩ : ∃ T, min (boot + 1) 1073741824 = T := ⟨_, rfl⟩
  rw [hS] at m1
  rw [hT] at m2
  have HS := Lib.hid hS; clear hS
  have HT := Lib.hid hT; clear hT
  have H := Lib.hid hg; clear hg
  have HF := Lib.hid hF; clear hF ho hp
  go_enter Try.func19, Try.ntmps19
  go_wp2
  go_end0
  rw [HS.out, HT.out]
  refine ⟨rfl, fun k => k = x, ⟨none, 0, none, 0, fun k => by simp [Value.ownBlock], ?_, ⟨rfl, .inl ⟨rfl, rfl⟩⟩, ⟨rfl, .inl ⟨rfl, rfl⟩⟩⟩, fun k hk => .inl ((HF.out k).2 (.inl hk)), ?_⟩
  · ((repeat (first | with_reducible exact H.out | with_reducible apply Has.put_of | with_reducible apply Has.past | with_reducible apply Has.drewN | with_reducible apply Has.drew | with_reducible apply Has.alloc)) <;> first | omega | rfl)
  · (repeat' (first | with_reducible exact Kept.refl _ _ | with_reducible refine Kept.put ?_ ?_ | with_reducible refine Kept.drewN ?_ _ | with_reducible refine Kept.drew ?_ | with_reducible refine Kept.alloc ?_ _ | (exact .inl ((HF.out _).2 (.inl rfl))) | (right; simp; done)))

set_option maxHeartbeats 1000000 in
theorem zsame_eq (w : World) (A B : Option Addr) (c d : Nat) (l : List Int) (hl : Src w 1 A l.length (l.map (Value.int .i64))) (hm : Src w 1 B l.length (l.map (Value.int .i64))) (hlen : l.length ≤ 1000000) :
    Calls Try.prog 21 #[.slice A l.length c, .slice B l.length d] w fun e w' => e = .returned (.bool true) ∧ Kept NoF w w' := by
  have hcell : ∀ (W : World) (A : Option Addr), Src W 1 A l.length (l.map (Value.int .i64)) → 0 < l.length → ∀ i x, l[i]? = some x → ∃ ad, A = some ad ∧ W.cell? (ad.add i) = some (.int .i64 x) := by
    intro W A h h0 i x hx
    obtain ⟨ad, e, _, hc⟩ := h.2 h0
    exact ⟨ad, e, hc i _ (by simp [hx])⟩
  have HC := Lib.hid hcell; clear hcell
  have HL := Lib.hid hl; clear hl
  have HM := Lib.hid hm; clear hm
  go_enter Try.func21, Try.ntmps21
  go_wp2_with fail
  go_loopw [5] (fun v5 wr => ∃ i : Nat, i ≤ l.length ∧ v5 = .int .i64 i ∧ Kept NoF w wr) (fun v5 _ => l.length - (RowKit.intOf v5).toNat)
  case atStart => exact ⟨0, Nat.zero_le _, rfl, Kept.refl _ _⟩
  case round =>
    obtain ⟨i, hi, rfl, hk⟩ := hrel
    have HK := Lib.hid hk; clear hk
    by_cases hil : i < l.length
    · obtain ⟨b, hb⟩ : ∃ b, l[i]? = some b := ⟨_, List.getElem?_eq_getElem hil⟩
      obtain ⟨ad, rfl, e0⟩ := HC.out _ _ (HL.out.kept HK.out (fun _ _ x => x)) (by omega) i b hb
      obtain ⟨bd, rfl, e1⟩ := HC.out _ _ (HM.out.kept HK.out (fun _ _ x => x)) (by omega) i b hb
      clear hb
      go_wp2_with fail
      go_quiet (fail)
      go_wp2
      go_roundw
      case rel => exact ⟨i + 1, by omega, by go_num, HK.out.drewN _⟩
      case measure => simp [RowKit.intOf]; omega
    · obtain rfl : i = l.length := by omega
      go_wp2
      go_ret
      exact ⟨rfl, HK.out⟩

def hasR (fs ps : List Pc) (f : Int) : Bool := hit fs f || ps.any fun p => decide (p.1 = f)
set_option maxHeartbeats 1000000 in
theorem rhas_any (h : RefD w x G fs ps ser boot) (f : Int) (hlen : fs.length ≤ 1000000) (hlp : ps.length ≤ 100000) :
    Calls Try.prog 36 #[.pointer (some ⟨x, 0, none⟩), .int .i64 f] w fun e w' => e = .returned (.bool (hasR fs ps f)) ∧ Kept NoF w w' := by
  have hfi := find_any h f hlen
  have HFI := Lib.hid hfi; clear hfi
  obtain ⟨A, c, B, d, hF, hg, ho, hp⟩ := h
  have HG := Lib.hid hg; clear hg
  have HP := Lib.hid (Src.of_own hp)
  clear hF ho hp
  by_cases hb : hit fs f = true
  · have hr : hasR fs ps f = true := by unfold hasR; rw [hb]; rfl
    have HR := Lib.hid hr; clear hr
    rw [hb] at HFI
    clear hb
    go_enter Try.func36, Try.ntmps36
    go_wp2_with fail
    refine HFI.out.mono ?_
    rintro e w1 ⟨rfl, hk1⟩
    go_wp2_with fail
    go_ret
    exact ⟨by rw [HR.out]; rfl, hk1⟩
  · have hb' : hit fs f = false := by simpa using hb
    clear hb
    have hr : hasR fs ps f = ps.any fun p => decide (p.1 = f) := by unfold hasR; rw [hb']; rfl
    have HR := Lib.hid hr; clear hr
    rw [hb'] at HFI
    clear hb'
    go_enter Try.func36, Try.ntmps36
    go_wp2_with fail
    refine HFI.out.mono ?_
    rintro e w1 ⟨rfl, hk1⟩
    have HK1 := Lib.hid hk1; clear hk1
    have c1 : w1.cell? ⟨x, 1, none⟩ = some (.slice B ps.length d) := (HG.out.kept HK1.out (fun x => x)).cell 1
    go_wp2_with fail
    go_loop [7] (fun v7 => ∃ i : Nat, i ≤ ps.length ∧ v7 = .int .i64 i ∧ (ps.any fun p => decide (p.1 = f)) = (ps.drop i).any fun p => decide (p.1 = f)) (fun v7 => ps.length - (RowKit.intOf v7).toNat)
    case atStart => exact ⟨0, Nat.zero_le _, rfl, rfl⟩
    case round =>
      obtain ⟨i, hi, rfl, he⟩ := hrel
      have HE := Lib.hid he; clear he
      by_cases hil : i < ps.length
      · obtain ⟨q, hq⟩ : ∃ q, ps[i]? = some q := ⟨_, List.getElem?_eq_getElem hil⟩
        obtain ⟨ad, rfl, hl1, d0, d1⟩ := pc_cells (HP.out.kept HK1.out (fun _ _ x => x)) (by omega) i q hq
        have hd : ((ps.drop i).any fun p => decide (p.1 = f)) = (decide (q.1 = f) || (ps.drop (i + 1)).any fun p => decide (p.1 = f)) := by rw [drop_cons hq]; rfl
        have HD := Lib.hid hd; clear hd hq
        obtain ⟨q1, q2⟩ := q
        dsimp only at d0 d1 HD
        by_cases hqf : q1 = f
        · subst hqf
          go_wp2
          go_ret
          exact ⟨by rw [HR.out, HE.out, HD.out]; simp, HK1.out⟩
        · have hne : (q1 == f) = false := by simpa using hqf
          go_wp2
          go_round
          case rel => exact ⟨i + 1, by omega, by go_num, by rw [HE.out, HD.out]; simp [hqf]⟩
          case measure => simp [RowKit.intOf]; omega
      · obtain rfl : i = ps.length := by omega
        go_wp2
        go_ret
        exact ⟨by rw [HR.out, HE.out, List.drop_length]; rfl, HK1.out⟩
end Disk
end Go.Proofs.Ytopkeknpdimimaa
