
/- The law PointTorn. -/
import Derived.Test.YthgdkhgpboaplaaPt20
set_option linter.unusedSimpArgs false
set_option linter.unusedVariables false
namespace Go.Proofs.Ythgdkhgpboaplaa
open Go.RowKit
set_option maxRecDepth 100000
namespace Pt
open Disk Fr Vn Ops Wl
theorem whole_nil : Whole [] := ⟨(fun f hf => by cases hf), (fun f hf => by cases hf), (fun f hf => by cases hf)⟩
theorem cut_wf {x : Int} (h : (Lit.int .u16 x).wf = true) : 0 ≤ x ∧ x ≤ 65535 := by
  simpa [Lit.wf, IntKind.min, IntKind.max, IntKind.signed, IntKind.bits] using h
theorem ptx_rev {l : List ByteArray} (hl10 : l.length ≤ 10) (hs : ∀ s ∈ l, s.size ≤ 300) : Whole (cur [] (ptx l.length l)).reverse ∧ ((cur [] (ptx l.length l)).reverse.map (·.ts)).flatten = ptx l.length l ∧ Hd (cur [] (ptx l.length l)) := by
  by_cases hl : l.length < 18446744073709551616
  · have h1 := whole_cur (R := []) (T := ptx l.length l) whole_nil (ptx_small hl (fun s h => by have := hs s h; omega))
    exact ⟨⟨fun f hf => h1.q f (by simpa using hf), fun f hf => h1.ts f (by simpa using hf), fun f hf => h1.ok f (by simpa using hf)⟩, by rw [← texts_asc, cur_texts]; rfl, hd_new _ _⟩
  · exact absurd hl10 (by omega)
theorem psN_mem {fs : List FileT} {cut : Nat} {next : Int} (hb : ∀ i, (bAt fs i).length ≤ 66000) : ∀ (N : Nat) (p : Disk.Pc), p ∈ psN fs cut next N → next ≤ p.1 ∧ p.1 < next + N ∧ p.2.size ≤ 66000
  | 0, p, h => by cases h
  | N + 1, p, h => by
    rcases List.mem_append.1 h with h | h
    · have := psN_mem hb N p h
      omega
    · split at h
      · simp only [List.mem_singleton] at h
        subst h
        refine ⟨by show next ≤ next + (N : Int); omega, by show next + (N : Int) < _; omega, ?_⟩
        show (ofL _).size ≤ _
        rw [ofL_sz, List.length_take]
        have := hb N
        omega
      · cases h
/-- What the law's end must know of the disk. -/
theorem torn_end {m4 : Disk.Safe} {R : St} {fs : List FileT} {cutn K KQ : Nat} {l mm : List ByteArray} (hlog : Log 2 R [] m4 []) (hlow : LowN 2 m4 []) (hh : Hd R) (ht : texts R = ptx l.length l) (hK : R.length = K) (hK2 : K ≤ 11) (hw : Whole fs) (hfd : Hd fs.reverse) (hft : (fs.map (·.ts)).flatten = ptx mm.length mm)
    (hfl : fs.length = KQ) (hq : KQ ≤ 11) (hl : l.length ≤ 10) (hm : mm.length ≤ 10) :
    ∃ (M : Disk.Safe) (C : List FileT) (i0 K' want : Nat) (R' : St), M = syncM m4 (psN fs cutn (2 + K) KQ) ∧ Found M 2 (K + C.length) (if total fs ≤ cutn then mm else l) i0 K' want R' ∧ (∀ x, isFile M [] x = decide (2 ≤ x ∧ x < 2 + ((K + C.length : Nat) : Int))) ∧ C.length ≤ KQ ∧ (∀ x, (sget M x).size ≤ 100000) := by
  subst hK hfl
  obtain ⟨C, c1, c2, c3, c4, c6, c7⟩ := cut_all fs hw cutn
  have hm4 : ∀ j : Nat, m4 (2 + (R.length : Int) + j) = none := fun j => (Log.above hlog).safe j
  obtain ⟨s1, s2⟩ := psN_sync (cut := cutn) (next := 2 + (R.length : Int)) c2 hm4 fs.length
  obtain ⟨M, hM⟩ : ∃ M, M = syncM m4 (psN fs cutn (2 + R.length) fs.length) := ⟨_, rfl⟩
  rw [← hM] at s1 s2
  have h1 : ∀ j : Nat, M (2 + R.length + j) = C[j]?.map (fun f => ofL (byF f)) := fun j => by
    rw [s1 j]
    by_cases hj : j < fs.length
    · rw [if_pos hj]
    · rw [if_neg hj, List.getElem?_eq_none (by omega)]
      rfl
  obtain ⟨i0, K', want, R', hF⟩ := torn (k := l.length) hlog hh ht (Nat.le_refl _) (by omega) (by omega) hfd hft (by omega) (by omega) c1 c3 c4 c6 c7 h1 s2
  obtain ⟨hm1, _⟩ := mis_cat hlog.safe h1 s2
  have hokA : Ok (C.reverse ++ R) := fun f hf => by
    rcases List.mem_append.1 hf with hf | hf
    · exact c1 f (by simpa using hf)
    · exact hlog.ok f hf
  have lA : Log 2 (C.reverse ++ R) [] M [] := ⟨hm1, rfl, hokA, fun t ht => by cases ht⟩
  have hlo : LowN 2 M [] := ⟨fun x hx => by rw [s2 x (by omega)]; exact hlow.file x hx, fun p hp => by cases hp⟩
  refine ⟨M, C, i0, K', want, R', hM, hF, fun x => ?_, c3, fun x => Nat.le_trans (hlo.low.size lA x) (by decide)⟩
  rw [hlo.isFile lA x]
  congr 1
  rw [eq_iff_iff]
  have : (cur (C.reverse ++ R) []).length = R.length + C.length := by show (C.reverse ++ R).length = _; simp; omega
  rw [this]
set_option maxHeartbeats 16000000 in
theorem law_torn (w : World) (A0 A1 : Option Addr) (c0 c1 : Nat) (l mm : List ByteArray) (h0 : Src w 1 A0 l.length (l.map Value.string)) (h1 : Src w 1 A1 mm.length (mm.map Value.string)) (hlc0 : l.length ≤ c0) (hcm0 : c0 ≤ maxLen) (hlc1 : mm.length ≤ c1) (hcm1 : c1 ≤ maxLen)
    (cut : Int) (hcut : (Lit.int .u16 cut).wf = true) :
    Calls Try.prog 5 #[.slice A0 l.length c0, .slice A1 mm.length c1, .int .u16 cut] w fun e w' => e = .returned (.bool true) ∧ Below w.heap.size w w' := by
  obtain ⟨w1, hw1⟩ : ∃ w1, w.alloc (.cells #[.int .i64 0, .string ⟨#[]⟩, .slice A0 l.length c0, .int .i64 0, .int .i64 0, .string ⟨#[]⟩, .slice A1 mm.length c1, .int .i64 0] 25) = w1 := ⟨_, rfl⟩
  have hk1 : Kept NoF w w1 := by rw [← hw1]; exact (Kept.refl _ _).alloc _
  have hsa : Src w1 4 (some ⟨w.heap.size, 0, none⟩) [(⟨0, ⟨#[]⟩, A0, c0, l, 0⟩ : PAct), ⟨0, ⟨#[]⟩, A1, c1, mm, 0⟩].length (pacs [⟨0, ⟨#[]⟩, A0, c0, l, 0⟩, ⟨0, ⟨#[]⟩, A1, c1, mm, 0⟩]) := by
    have hh : Has w1 w.heap.size 25 #[.int .i64 0, .string ⟨#[]⟩, .slice A0 l.length c0, .int .i64 0, .int .i64 0, .string ⟨#[]⟩, .slice A1 mm.length c1, .int .i64 0] := by rw [← hw1]; exact Has.new _ _ _
    have := Src.of_has (m := 2) (size := 4) hh rfl
    exact this
  have hsh := pshort_any w1 (some ⟨w.heap.size, 0, none⟩) 2 [⟨0, ⟨#[]⟩, A0, c0, l, 0⟩, ⟨0, ⟨#[]⟩, A1, c1, mm, 0⟩] hsa
    (fun a ha => by simp at ha; rcases ha with rfl | rfl; exact h0.kept hk1 (fun _ _ z => z); exact h1.kept hk1 (fun _ _ z => z)) (fun a ha => by simp at ha; rcases ha with rfl | rfl; exact Nat.le_trans hlc0 hcm0; exact Nat.le_trans hlc1 hcm1)
  have HW1 := Lib.hid hw1; have HK1 := Lib.hid hk1; have H0 := Lib.hid h0; have H1 := Lib.hid h1
  obtain ⟨hcu1, hcu2⟩ := cut_wf hcut
  clear h0 h1 hw1 hk1 hsa hlc0 hcm0 hlc1 hcm1 hcut
  rcases hb : shP [(⟨0, ⟨#[]⟩, A0, c0, l, 0⟩ : PAct), ⟨0, ⟨#[]⟩, A1, c1, mm, 0⟩] with _ | _
  · rw [hb] at hsh
    have HSH := Lib.hid hsh
    clear hsh hb
    go_enter Try.func5, Try.ntmps5
    go_wp2_with fail
    rw [HW1.out]
    refine HSH.out.mono ?_
    rintro e w' ⟨rfl, rfl⟩
    go_wp2_with fail
    refine (awake_any' _).mono ?_
    rintro e w2 ⟨rfl, hk⟩
    go_wp2_with fail
    go_ret
    exact ⟨rfl, (HK1.out.then hk).below (Nat.le_refl _) (fun _ z => z.elim)⟩
  · rw [hb] at hsh
    have ha0 := shA_get (shP_get hb (i := 0) (by decide) rfl)
    have ha1 := shA_get (shP_get hb (i := 1) (by decide) rfl)
    dsimp only at ha0 ha1
    obtain ⟨-, hl10, hls⟩ := ha0
    obtain ⟨-, hm10, hms⟩ := ha1
    have hc1 : (cur (cur [] (ptx 0 [])) []).length = 1 := by decide
    have HSH := Lib.hid hsh; have HLS := Lib.hid hls; have HMS := Lib.hid hms; have HC1 := Lib.hid hc1
    clear hsh hb hls hms hc1
    go_enter Try.func5, Try.ntmps5
    go_wp2_with fail
    rw [HW1.out]
    refine HSH.out.mono ?_
    rintro e w' ⟨rfl, rfl⟩
    go_wp2_with fail
    refine (new_any _).mono ?_
    rintro e w2 ⟨g, F2, rfl, h2, k2, hF2⟩
    have HP2 := Lib.hid (new_any' h2 (by decide))
    have HK2 := Lib.hid (HK1.out.then k2); have HF2 := Lib.hid (fun k hk => Nat.le_trans HK1.out.size (hF2 k hk))
    clear h2 k2 hF2
    go_wp2_with fail
    refine HP2.out.mono ?_
    intro e w3 hpost
    obtain ⟨gp, gw, F3, m3, A3, c3, rfl, h3⟩ := PtW.of_new HK2.out HF2.out hpost
    have hsv := psave_any h3.pt (h3.fits (by decide) (by decide) (by decide)) h3.k.size A0 c0 l (H0.out.kept h3.k (fun _ _ z => z))
      (fun hl0 ad e => by
        obtain ⟨ad2, e2, hlt, _⟩ := H0.out.2 hl0
        rw [e] at e2
        injection e2 with e2
        subst e2
        exact ⟨fun hf => by have := h3.f _ hf; omega, fun he => by have := h3.gp; omega⟩) (fun s hs => by have := HLS.out s hs; omega) (by omega) (by rw [HC1.out]; omega) (by simp; omega)
    rw [HC1.out] at hsv
    have HSV := Lib.hid hsv; have H3 := Lib.hid h3
    clear hpost h3 hsv
    go_wp2_with fail
    refine HSV.out.mono ?_
    intro e w4 hpost
    obtain ⟨rfl, gw4, F4, m4, A4, c4, h4⟩ := H3.out.save hpost
    have e2 : (1 : Int) + ((1 : Nat) : Int) = 2 := rfl
    rw [e2] at h4
    obtain ⟨hRw, hRt, hRh⟩ := ptx_rev hl10 HLS.out
    have hRtx : texts (cur [] (ptx l.length l)) = ptx l.length l := by rw [cur_texts]; rfl
    have hRl : (cur [] (ptx l.length l)).length ≤ 11 := by have := cur_nil_len (ptx l.length l); rw [ptx_len] at this; omega
    obtain ⟨R, hR⟩ : ∃ R, cur [] (ptx l.length l) = R := ⟨_, rfl⟩
    rw [hR] at h4 hRh hRtx hRl
    obtain ⟨nd, hnd⟩ : ∃ nd, 0 + 1 + ([] : List Disk.Pc).length + l.length + 1 = nd := ⟨_, rfl⟩
    rw [hnd] at h4
    have hnd2 : nd ≤ 12 := by rw [← hnd]; simp; omega
    have hft4 := h4.fits (by simp; omega) (by omega) (by decide)
    have hif4 := h4.pt.low.isFile h4.pt.log
    have hfi4 := files_any h4.pt.d hft4.i64 hft4.n (by decide)
    have HFI4 := Lib.hid hfi4; have HIF4 := Lib.hid hif4; have H4 := Lib.hid h4; have HRH := Lib.hid hRh; have HRT := Lib.hid hRtx; have HFT4 := Lib.hid hft4
    have hKpos := hRh.len
    obtain ⟨K, hK⟩ : ∃ K, R.length = K := ⟨_, rfl⟩
    rw [hK] at hRl hKpos
    have HKE := Lib.hid hK
    clear hpost h4 hRw hRt hRh hRtx hR hnd hft4 hif4 hfi4 hK e2
    go_wp2_with fail
    refine HFI4.out.mono ?_
    rintro e w5 ⟨fl, A5, c5, rfl, hfa5, hown5, -, hk5⟩
    have hif5 : ∀ x, isFile m4 [] x = decide (2 ≤ x ∧ x < 2 + (K : Int)) := fun x => by have := HIF4.out x; rw [this]; rw [← HKE.out]; rfl
    obtain ⟨hpos, hlast⟩ := last_file hfa5 hif5 (by decide) (by omega) hKpos
    obtain ⟨ad5, rfl, -, e5⟩ := SlI.ints_cells (Src.of_own hown5) hpos _ _ hlast
    have hcap := own_cap hown5
    unfold maxLen at hcap
    have hflz : ((fl.length : Int) == 0) = false := by rw [beq_eq_false_iff_ne]; omega
    have hx1 : IntKind.i64.wrap ((fl.length : Int) - 1) = (fl.length : Int) - 1 := IntWalk.i64_in _ (by omega)
    have hx2 : 0 ≤ (fl.length : Int) - 1 := by omega
    have hx3 : (fl.length : Int) - 1 < fl.length := by omega
    have hx4 : ((fl.length : Int) - 1).toNat = fl.length - 1 := by omega
    have h5 := H4.out.kept hk5
    have H5 := Lib.hid h5; have HIF5 := Lib.hid hif5
    clear hfa5 hown5 hk5 hlast hcap h5 hif5
    go_wp2_with fail
    refine (new_any _).mono ?_
    rintro e w6 ⟨gq, F6, rfl, h6, k6, hF6⟩
    have HP6 := Lib.hid (new_any' h6 (by decide))
    have HK6 := Lib.hid k6; have HF6 := Lib.hid hF6
    clear h6 k6 hF6 e5 hx1 hx2 hx3 hx4 hflz hpos
    go_wp2_with fail
    refine HP6.out.mono ?_
    intro e w7 hpost
    obtain ⟨gp7, gw7, F7, m7, A7, c7, rfl, h7⟩ := PtW.of_new HK6.out HF6.out hpost
    have hkw7 : Kept NoF w w7 := H5.out.k.then h7.k
    have hsv := psave_any h7.pt (h7.fits (by decide) (by decide) (by decide)) h7.k.size A1 c1 mm (H1.out.kept hkw7 (fun _ _ z => z))
      (fun hl0 ad e => by
        obtain ⟨ad2, e2, hlt, _⟩ := H1.out.2 hl0
        rw [e] at e2
        injection e2 with e2
        subst e2
        have hs5 := H5.out.k.size
        exact ⟨fun hf => by have := h7.f _ hf; omega, fun he => by have := h7.gp; omega⟩) (fun s hs => by have := HMS.out s hs; omega) (by omega) (by rw [HC1.out]; omega) (by simp; omega)
    rw [HC1.out] at hsv
    have HSV7 := Lib.hid hsv; have H7 := Lib.hid h7
    clear hpost h7 hsv hkw7
    go_wp2_with fail
    refine HSV7.out.mono ?_
    intro e w8 hpost
    obtain ⟨rfl, gw8, F8, m8, A8, c8, h8⟩ := H7.out.save hpost
    have e2 : (1 : Int) + ((1 : Nat) : Int) = 2 := rfl
    rw [e2] at h8
    obtain ⟨hQw, hQt, hQh⟩ := ptx_rev hm10 HMS.out
    have hQtx : texts (cur [] (ptx mm.length mm)) = ptx mm.length mm := by rw [cur_texts]; rfl
    have hQl : (cur [] (ptx mm.length mm)).length ≤ 11 := by have := cur_nil_len (ptx mm.length mm); rw [ptx_len] at this; omega
    obtain ⟨Q, hQ⟩ : ∃ Q, cur [] (ptx mm.length mm) = Q := ⟨_, rfl⟩
    rw [hQ] at h8 hQh hQtx hQl hQw hQt
    obtain ⟨nq, hnq⟩ : ∃ nq, 0 + 1 + ([] : List Disk.Pc).length + mm.length + 1 = nq := ⟨_, rfl⟩
    rw [hnq] at h8
    have hnq2 : nq ≤ 12 := by rw [← hnq]; simp; omega
    have hft8 := h8.fits (by simp; omega) (by omega) (by decide)
    have hif8 := h8.pt.low.isFile h8.pt.log
    have hfi8 := files_any h8.pt.d hft8.i64 hft8.n (by decide)
    have HFI8 := Lib.hid hfi8; have HIF8 := Lib.hid hif8; have H8 := Lib.hid h8; have HQH := Lib.hid hQh; have HQW := Lib.hid hQw; have HQT := Lib.hid hQt; have HFT8 := Lib.hid hft8
    obtain ⟨KQ, hKQ⟩ : ∃ KQ, Q.length = KQ := ⟨_, rfl⟩
    rw [hKQ] at hQl
    have HKQ := Lib.hid hKQ
    clear hpost h8 hQw hQt hQh hQtx hQ hnq hft8 hif8 hfi8 hKQ e2
    go_wp2_with fail
    refine HFI8.out.mono ?_
    rintro e w9 ⟨flq, A9, c9, rfl, hfa9, hown9, hnew9, hk9⟩
    have hif9 : ∀ x, isFile m8 [] x = decide (2 ≤ x ∧ x < 2 + (KQ : Int)) := fun x => by have := HIF8.out x; rw [this]; rw [← HKQ.out]; rfl
    have hflq := files_nums hfa9 hif9 (by decide) (by omega)
    have hlenq : flq.length = KQ := by rw [hflq]; simp [nums]
    have hgetq : ∀ i : Nat, i < KQ → flq[i]? = some (2 + (i : Int)) := by
      intro i hi
      rw [hflq]
      unfold nums
      rw [List.getElem?_map, List.getElem?_range hi]
      rfl
    rw [hlenq] at hown9 hnew9 ⊢
    obtain ⟨cutn, hcn⟩ : ∃ cutn : Nat, (cutn : Int) = cut := ⟨cut.toNat, by omega⟩
    have HOWN9 := Lib.hid hown9; have HNEW9 := Lib.hid hnew9; have HGET := Lib.hid hgetq; have HK9 := Lib.hid hk9
    clear hfa9 hown9 hnew9 hk9 hif9 hflq hlenq hgetq
    subst hcn
    have hcb : cutn ≤ 65535 := by omega
    go_wp2_with fail
    obtain ⟨fs, hfs⟩ : ∃ fs, fs = Q.reverse := ⟨_, rfl⟩
    have HFS := Lib.hid hfs
    have hfsl : fs.length = KQ := by rw [hfs, List.length_reverse]; exact HKQ.out
    have hF4 : ∀ k, F4 k → k < w5.heap.size := H5.out.pt.d.lt
    have hd9 : DiskAt w9 g F4 nd m4 [] 1 1 := (H5.out.pt.d.kept H8.out.k (fun _ _ z => z)).kept HK9.out (fun _ _ z => z)
    have HF4 := Lib.hid hF4; have HD9 := Lib.hid hd9; have HFSL := Lib.hid hfsl
    have hb : ∀ i : Nat, dataOf m8 [] (2 + i) = ofL (bAt fs i) := fun i => by
      rw [(H8.out.pt.log.file i).2, hfs]
      show ofL (bts Q i) = _
      rw [bts_asc]
      rfl
    have hbz : ∀ i, (bAt fs i).length ≤ 66000 := fun i => by
      have := bts_le (R := Q) (fun f hf => HQW.out.ok f (by simpa using hf)) i
      rw [bts_asc] at this
      rw [hfs]
      exact this
    have HB := Lib.hid hb; have HBZ := Lib.hid hbz
    clear hfs hfsl hF4 hd9 hb hbz
    go_loopw [16, 17] (fun v16 v17 wr => ∃ (i : Nat) (Fd : Nat → Prop), i ≤ KQ ∧ v17 = .int .i64 i ∧ v16 = .int .i64 (leftAt fs cutn i : Nat) ∧ DiskAt wr g Fd nd m4 (psN fs cutn (2 + K) i) 1 1 ∧ (psN fs cutn (2 + K) i).length ≤ i ∧ (∀ k, Fd k → F4 k ∨ w9.heap.size ≤ k) ∧ Kept F4 w9 wr) (fun _ v17 _ => KQ - (intOf v17).toNat)
    case atStart => exact ⟨0, F4, Nat.zero_le _, rfl, rfl, HD9.out, Nat.le_refl _, fun k hk => .inl hk, Kept.refl _ _⟩
    case round =>
      obtain ⟨i, Fd, hi, rfl, rfl, hd, hpl, hG, hk⟩ := hrel
      have hpt := (H8.out.kept HK9.out).keptLow hk HF4.out
      have HPT := Lib.hid hpt; have HD := Lib.hid hd; have HG := Lib.hid hG; have HK := Lib.hid hk
      clear hpt hd hG hk
      by_cases hil : i < KQ
      · have hx := HGET.out i hil
        have hsrcq : Src wr 1 A9 KQ (flq.map (Value.int .i64)) := Src.of_own (own_kept HOWN9.out HK.out (fun k hk hf => by have h1 := HNEW9.out k hk; have h2 := HF4.out k hf; have h3 := H8.out.k.size; omega))
        obtain ⟨ad9, rfl, -, e0⟩ := SlI.ints_cells hsrcq (by omega) i _ hx
        have hda := data_any HPT.out.d (2 + i) (i64_small (by omega) (by omega)) (by decide) (by have := HFT8.out.file (2 + i); have h9 : Disk.total [] = 0 := rfl; omega)
        rw [HB.out i] at hda
        obtain ⟨s, hs⟩ : ∃ s, ofL (bAt fs i) = s := ⟨_, rfl⟩
        have hsz : s.size = (bAt fs i).length := by rw [← hs, ofL_sz]
        have hsb := HBZ.out i
        obtain ⟨L, hL⟩ : ∃ L, leftAt fs cutn i = L := ⟨_, rfl⟩
        have hLb : L ≤ 65535 := by rw [← hL]; exact Nat.le_trans (leftAt_le fs cutn i) hcb
        obtain ⟨N, hN⟩ : ∃ N, nAt fs cutn i = N := ⟨_, rfl⟩
        have hNe : N = min L s.size := by rw [← hN, hsz, ← hL]; rfl
        have hleft : leftAt fs cutn (i + 1) = L - s.size := by rw [hsz, ← hL]; rfl
        have hps : psN fs cutn (2 + K) (i + 1) = psN fs cutn (2 + K) i ++ if 0 < N then [(2 + (K : Int) + i, s.extract 0 N)] else [] := by
          show psN fs cutn (2 + K) i ++ _ = _
          rw [hN, ← hs, ofL_extract]
        rw [hs] at hda
        rw [hL]
        have hmn : ∀ (W : World) (ts : Array TypeId) (t : TypeId), (Builtin.min_ ts t #[.int .i64 (L : Nat), .int .i64 (s.size : Nat)]).run Try.prog W = .ok (.int .i64 (N : Nat)) W := by
          intro W ts t
          rw [run_min_int2]
          congr 2
          rw [hNe]
          split <;> omega
        have HDA := Lib.hid hda; have HLEFT := Lib.hid hleft; have HPS := Lib.hid hps
        have hNL : N ≤ L := by omega
        have hNs : N ≤ s.size := by omega
        have hsz2 : s.size ≤ 66000 := by omega
        have hlN : (L : Int) - (N : Int) = ((L - s.size : Nat) : Int) := by omega
        have HLN := Lib.hid hlN
        clear hx hsrcq hda hs hsz hsb hL hN hNe hleft hps hlN
        by_cases hpos : 0 < N
        · have hpos' : (0 : Int) < (N : Int) := by omega
          rw [if_pos hpos] at HPS
          have hwr := fun (W : World) (hW : Kept NoF wr W) => write_ok (HD.out.kept hW (fun _ _ z => z)) (2 + (K : Int) + i) (s.extract 0 N) (by omega) (by omega) (by omega)
          have HWR := Lib.hid hwr
          clear hwr hpos
          go_wp2_with fail
          refine HDA.out.mono ?_
          rintro e w10 ⟨rfl, hk10⟩
          have HW10 := Lib.hid (HWR.out w10 hk10); have HK10 := Lib.hid hk10
          clear hk10
          go_wp2_with fail
          refine HW10.out.mono ?_
          rintro e w11 ⟨rfl, F11, hd11, hg11, hk11⟩
          have hfin : DiskAt w11 g F11 nd m4 (psN fs cutn (2 + K) (i + 1)) 1 1 ∧ (psN fs cutn (2 + K) (i + 1)).length ≤ i + 1 ∧ (∀ k, F11 k → F4 k ∨ w9.heap.size ≤ k) ∧ Kept F4 w9 w11 := by
            refine ⟨by rw [HPS.out]; exact hd11, by rw [HPS.out]; simp; omega, fun k hk => ?_, ?_⟩
            · rcases hg11 k hk with z | z
              · exact HG.out k z
              · exact .inr (Nat.le_trans (Nat.le_trans HK.out.size HK10.out.size) z)
            · exact (HK.out.then (HK10.out.mono (fun _ z => z.elim))).trans hk11 (fun k hk => HG.out k hk)
          have HFIN := Lib.hid hfin
          clear hd11 hg11 hk11 hfin hmn
          go_wp2
          go_roundw
          case rel => exact ⟨i + 1, F11, by omega, by go_num, by rw [HLEFT.out, ← HLN.out], HFIN.out⟩
          case measure => simp [intOf]; omega
        · rw [if_neg hpos, List.append_nil] at HPS
          obtain rfl : N = 0 := by omega
          have hmn0 : ∀ (W : World) (ts : Array TypeId) (t : TypeId), (Builtin.min_ ts t #[.int .i64 (L : Nat), .int .i64 (s.size : Nat)]).run Try.prog W = .ok (.int .i64 0) W := hmn
          have hlN0 : (L : Int) = ((L - s.size : Nat) : Int) := by have := HLN.out; omega
          have HLN0 := Lib.hid hlN0
          clear hpos hmn hlN0
          go_wp2_with fail
          refine HDA.out.mono ?_
          rintro e w10 ⟨rfl, hk10⟩
          have hfin : DiskAt w10 g Fd nd m4 (psN fs cutn (2 + K) (i + 1)) 1 1 ∧ (psN fs cutn (2 + K) (i + 1)).length ≤ i + 1 ∧ (∀ k, Fd k → F4 k ∨ w9.heap.size ≤ k) ∧ Kept F4 w9 w10 := by
            refine ⟨by rw [HPS.out]; exact HD.out.kept hk10 (fun _ _ z => z), by rw [HPS.out]; omega, HG.out, HK.out.then (hk10.mono (fun _ z => z.elim))⟩
          have HFIN := Lib.hid hfin
          clear hk10 hfin
          go_wp2
          go_roundw
          case rel => exact ⟨i + 1, Fd, by omega, by go_num, by rw [HLEFT.out, ← HLN0.out], HFIN.out⟩
          case measure => simp [intOf]; omega
      · obtain rfl : KQ = i := by omega
        obtain ⟨M, C, i0, K', want, R', hM, hF, hfile, hCl, hMs⟩ := torn_end (cutn := cutn) H5.out.pt.log H5.out.pt.low HRH.out HRT.out HKE.out hRl (by rw [HFS.out]; exact HQW.out) (by rw [HFS.out, List.reverse_reverse]; exact HQH.out) (by rw [HFS.out]; exact HQT.out) HFSL.out hQl hl10 hm10
        have hpm := psN_mem (cut := cutn) (next := 2 + (K : Int)) HBZ.out KQ
        have htt : Disk.total (psN fs cutn (2 + K) KQ) ≤ KQ * 66000 := Nat.le_trans (total_le (fun p hp => (hpm p hp).2.2)) (Nat.mul_le_mul_right _ hpl)
        have hsy := sync_any HD.out (fun p hp => by have := hpm p hp; exact i64_small (by omega) (by omega)) (by omega) (by omega) 100000 HFT4.out.file (by omega)
        rw [← hM] at hsy
        have hop := fun (W : World) (hd : DiskAt W g Fd (nd + (psN fs cutn (2 + K) KQ).length) M [] 1 1) => popen_any hd (by omega) 2 (K + C.length) i0 K' want R' hfile (by decide) (by omega) hF.lt hMs hF.pass hF.beg hF.fin hF.kb (by rw [hF.txt, List.length_map]; exact hF.want) hF.log hF.rb
        obtain ⟨L, hL⟩ : ∃ L, (if total fs ≤ cutn then mm else l) = L := ⟨_, rfl⟩
        have htx := hF.txt
        rw [hL] at htx
        have hL10 : L.length ≤ 10 := by rw [← hL]; split <;> omega
        have htot : szN (fun j : Nat => (dataOf m8 [] (2 + j)).size) (cur Q []).length = total fs := by
          rw [HFS.out, ← szN_total]
          congr 1
          funext j
          rw [HB.out j, ofL_sz, HFS.out, bts_asc]
          rfl
        have htt2 : total fs ≤ 1000000 := by
          rw [← htot]
          have := szN_le (d := fun j : Nat => (dataOf m8 [] (2 + j)).size) (b := 66000) (fun j => by rw [HB.out j, ofL_sz]; exact HBZ.out j) (cur Q []).length
          have h9 : (cur Q []).length = KQ := HKQ.out
          omega
        have HSY := Lib.hid hsy; have HOP := Lib.hid hop; have HTX := Lib.hid htx; have HL := Lib.hid hL; have HTOT := Lib.hid htot
        clear hM hF hfile hCl hMs hpm htt hsy hop htx hL htot hpl
        go_wp2_with fail
        refine HSY.out.mono ?_
        rintro e w10 ⟨rfl, hd10, hk10⟩
        have HO10 := Lib.hid (HOP.out w10 hd10); have HK10 := Lib.hid (HK.out.trans hk10 (fun k hk => HG.out k hk))
        clear hd10 hk10
        go_wp2_with fail
        refine HO10.out.mono ?_
        rintro e w11 ⟨gp11, gw11, A11, c11, rfl, hp11, -, -, hn11, -, -, hk11⟩
        rw [HTX.out, List.length_map] at hp11 hn11
        rw [tcells_bl] at hn11
        have hk9 : Kept F4 w9 w11 := HK10.out.trans hk11 (fun k hk => HG.out k hk)
        have HT11 := Lib.hid (ptexts_any hp11 (Src.of_own hn11.1) (by omega)); have HK11 := Lib.hid hk9
        clear hp11 hn11 hk11 hk9
        go_wp2_with fail
        refine HT11.out.mono ?_
        rintro e w12 ⟨A12, c12, rfl, hn12, hb12⟩
        have hk12 : Kept F4 w9 w12 := HK11.out.then ((Kept.of_below (F := NoF) hb12 (fun k hk _ => hk)).mono (fun _ z => z.elim))
        have hpt12 := (H8.out.kept HK9.out).keptLow hk12 HF4.out
        have hsz := psize_any hpt12 HFT8.out (by show Q.length ≤ 1000; rw [HKQ.out]; omega) (by decide)
        rw [HTOT.out] at hsz
        have HSZ := Lib.hid hsz; have HN12 := Lib.hid hn12; have HK12 := Lib.hid hk12
        clear hn12 hb12 hk12 hpt12 hsz
        go_wp2_with fail
        refine HSZ.out.mono ?_
        rintro e w13 ⟨rfl, hk13⟩
        have hkw13 : Kept NoF w w13 := ((((H5.out.k.then H8.out.k).then HK9.out).trans HK12.out (fun k hk => .inr (H5.out.f k hk)))).then hk13
        have HKW := Lib.hid hkw13; have HN13 := Lib.hid (HN12.out.kept hk13)
        clear hk13 hkw13
        by_cases hall : total fs ≤ cutn
        · have hLm : L = mm := by rw [← HL.out, if_pos hall]
          subst hLm
          have hcmp : ((total fs : Nat) : Int) ≤ (cutn : Int) := by omega
          have hsm := SlI.same_eq w13 A12 A1 c12 c1 L (Src.of_own HN13.out.1) (H1.out.kept HKW.out (fun _ _ z => z)) (by omega)
          have HSM := Lib.hid hsm
          clear hsm hall
          go_wp2_with fail
          refine HSM.out.mono ?_
          rintro e w14 ⟨rfl, hk14⟩
          have HK14 := Lib.hid (HKW.out.then hk14)
          clear hk14
          go_wp2_with fail
          refine (awake_any' _).mono ?_
          rintro e w15 ⟨rfl, hk15⟩
          go_wp2_with fail
          go_ret
          exact ⟨rfl, (HK14.out.then hk15).below (Nat.le_refl _) (fun _ z => z.elim)⟩
        · have hLm : L = l := by rw [← HL.out, if_neg hall]
          subst hLm
          have hcmp : ¬ ((total fs : Nat) : Int) ≤ (cutn : Int) := by omega
          have hsm := SlI.same_eq w13 A12 A0 c12 c0 L (Src.of_own HN13.out.1) (H0.out.kept HKW.out (fun _ _ z => z)) (by omega)
          have HSM := Lib.hid hsm
          clear hsm hall
          go_wp2_with fail
          refine HSM.out.mono ?_
          rintro e w14 ⟨rfl, hk14⟩
          have HK14 := Lib.hid (HKW.out.then hk14)
          clear hk14
          go_wp2_with fail
          refine (awake_any' _).mono ?_
          rintro e w15 ⟨rfl, hk15⟩
          go_wp2_with fail
          go_ret
          exact ⟨rfl, (HK14.out.then hk15).below (Nat.le_refl _) (fun _ z => z.elim)⟩
end Pt
end Go.Proofs.Ythgdkhgpboaplaa
