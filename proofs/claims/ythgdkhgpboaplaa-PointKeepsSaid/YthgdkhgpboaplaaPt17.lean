
/- The law PointKeeps. -/
import Derived.Test.YthgdkhgpboaplaaPt16
import Derived.Deep.RegionHeld3
set_option linter.unusedSimpArgs false
set_option linter.unusedVariables false
namespace Go.Proofs.Ythgdkhgpboaplaa
open Go.RowKit
set_option maxRecDepth 100000
namespace Pt
open Disk Fr Vn Ops Wl
/-- Between two calls. -/
structure KPt (w0 : World) (g i : Nat) (v4 v6 : Value) (wr : World) (gp gw : Nat) (F : Nat → Prop) (n : Nat) (m : Disk.Safe) (ps : List Disk.Pc) (boot first : Int) (R : St) (T : List (List UInt8)) (A : Option Addr) (c : Nat) (l : List ByteArray) (S : Nat) : Prop where
  e4 : v4 = .pointer (some ⟨gp, 0, none⟩)
  e6 : v6 = .int .i64 (S : Nat)
  pw : PtW w0 wr gp gw g F n m ps boot first R T A c l
  hd : Hd R
  s : S + 1 = (texts R).length
  b0 : 0 ≤ boot
  b1 : boot ≤ 1073741824
  n1 : n + ps.length ≤ 1 + 12 * i
  n2 : first + R.length + T.length ≤ 2 + 12 * (i : Int)
  n3 : l.length ≤ 12 * i
  n4 : R.length + T.length ≤ 2 + 12 * i
def KPInv (w0 : World) (g i : Nat) (v4 v6 : Value) (wr : World) : Prop := ∃ gp gw F n m ps boot first R T A c l S, KPt w0 g i v4 v6 wr gp gw F n m ps boot first R T A c l S
section
variable {w0 wr w' : World} {g i gp gw n c S : Nat} {v4 v6 : Value} {F : Nat → Prop} {m : Disk.Safe} {ps : List Disk.Pc} {boot first : Int} {R : St} {T : List (List UInt8)} {A : Option Addr} {l : List ByteArray}
theorem KPt.fits (h : KPt w0 g i v4 v6 wr gp gw F n m ps boot first R T A c l S) (hi : i ≤ 30) : Fits n m ps := by
  have h1 := h.n1; have h2 := h.n2; have h3 := h.pw.pt.pcs_len
  exact h.pw.fits (by omega) (by omega) (by omega)
theorem KPt.cur (h : KPt w0 g i v4 v6 wr gp gw F n m ps boot first R T A c l S) : (Wl.cur R T).length ≤ R.length + T.length ∧ lastOf (Wl.cur R T) ≤ R.length + T.length := ⟨cur_grow R T, lastOf_cur R T⟩
theorem KPt.kept (h : KPt w0 g i v4 v6 wr gp gw F n m ps boot first R T A c l S) (hk : Kept NoF wr w') : KPt w0 g i v4 v6 w' gp gw F n m ps boot first R T A c l S := { h with pw := h.pw.kept hk }
theorem KPt.next (h : KPt w0 g i v4 v6 wr gp gw F n m ps boot first R T A c l S) : KPInv w0 g (i + 1) v4 v6 wr := by
  have h1 := h.n1; have h2 := h.n2; have h3 := h.n3; have h4 := h.n4
  exact ⟨gp, gw, F, n, m, ps, boot, first, R, T, A, c, l, S, h.e4, h.e6, h.pw, h.hd, h.s, h.b0, h.b1, by omega, by omega, by omega, by omega⟩
theorem KPt.app (h : KPt w0 g i v4 v6 wr gp gw F n m ps boot first R T A c l S) {s : ByteArray} {e : Ending} (ha : PAppPost wr w0.heap.size gp gw g F n m ps 1 boot first R T A c l s e w') : e = .returned (.int .i64 0) ∧ KPInv w0 g (i + 1) v4 v6 w' := by
  have h1 := h.n1; have h2 := h.n2; have h3 := h.n3; have h4 := h.n4
  obtain ⟨he, F', A', c', hp⟩ := h.pw.app ha
  exact ⟨he, gp, gw, F', n, m, _, boot, first, R, _, A', c', _, S, h.e4, h.e6, hp, h.hd, h.s, h.b0, h.b1, by simp; omega, by simp; omega, by simp; omega, by simp; omega⟩
theorem KPt.sync (h : KPt w0 g i v4 v6 wr gp gw F n m ps boot first R T A c l S) {e : Ending} (ha : PSyncPost wr w0.heap.size gp gw g F n m ps 1 boot first R T A c l e w') :
    (∃ k : Int, e = .returned (.int .i64 k)) ∧ PtW w0 w' gp gw g F (n + ps.length) (syncM m ps) [] boot first (Wl.cur R T) [] A c l ∧ ∀ w2, Kept NoF w' w2 → KPInv w0 g (i + 1) v4 (.int .i64 (l.length : Nat)) w2 := by
  have h1 := h.n1; have h2 := h.n2; have h3 := h.n3; have h4 := h.n4; have hc := h.cur.1
  obtain ⟨he, hp⟩ := h.pw.sync ha
  refine ⟨he, hp, fun w2 hk => ⟨gp, gw, F, _, _, [], boot, first, Wl.cur R T, [], A, c, l, l.length, h.e4, rfl, hp.kept hk, hd_cur h.hd, ?_, h.b0, h.b1, by simp; omega, by simp; omega, by omega, by simp; omega⟩⟩
  obtain ⟨k, h5, _⟩ := h.pw.pt.tx
  rw [cur_texts, h5, ptx_len]
theorem KPt.save (h : KPt w0 g i v4 v6 wr gp gw F n m ps boot first R T A c l S) {l' : List ByteArray} (hl : l'.length ≤ 10) {e : Ending} (ha : PSavePost wr w0.heap.size gp g F n ps 1 boot (first + (Wl.cur R T).length) l' e w') :
    e = .returned (.int .i64 0) ∧ ∃ gw' F' n' m' A' c' first' R', PtW w0 w' gp gw' g F' n' m' [] boot first' R' [] A' c' l' ∧ ∀ w2, Kept NoF w' w2 → KPInv w0 g (i + 1) v4 (.int .i64 (l'.length : Nat)) w2 := by
  have h1 := h.n1; have h2 := h.n2; have h3 := h.n3; have h4 := h.n4; have hc := h.cur.1
  obtain ⟨he, gw', F', m', A', c', hp⟩ := h.pw.save ha
  have hcn := cur_nil_len (ptx l'.length l')
  rw [ptx_len] at hcn
  refine ⟨he, gw', F', _, m', A', c', _, _, hp, fun w2 hk => ⟨gp, gw', F', _, m', [], boot, _, _, [], A', c', l', l'.length, h.e4, rfl, hp.kept hk, hd_new _ _, ?_, h.b0, h.b1, by simp; omega, by simp; omega, by omega, by simp; omega⟩⟩
  rw [cur_texts]
  show _ = ([] ++ ptx l'.length l').length
  rw [List.nil_append, ptx_len]
end
set_option maxHeartbeats 16000000 in
theorem law_keeps (w : World) (A0 : Option Addr) (c0 : Nat) (l : List PAct) (hl : Src w 4 A0 l.length (pacs l)) (hi : ∀ a ∈ l, AOk w a) :
    Calls Try.prog 4 #[.slice A0 l.length c0] w fun e w' => e = .returned (.bool true) ∧ Below w.heap.size w w' := by
  have hsh := pshort_any w A0 c0 l hl (fun a ha => (hi a ha).1) (fun a ha => (hi a ha).2.1)
  have HL := Lib.hid hl; have HI := Lib.hid hi
  clear hl hi
  rcases hs : shP l with _ | _
  · rw [hs] at hsh
    have HSH := Lib.hid hsh
    clear hsh hs
    go_enter Try.func4, Try.ntmps4
    go_wp2_with fail
    refine HSH.out.mono ?_
    rintro e w' ⟨rfl, rfl⟩
    go_wp2_with fail
    refine (awake_any' _).mono ?_
    rintro e w1 ⟨rfl, hk⟩
    go_wp2_with fail
    go_ret
    exact ⟨rfl, hk.below (Nat.le_refl _) (fun _ z => z.elim)⟩
  · rw [hs] at hsh
    have HSH := Lib.hid hsh; have HS := Lib.hid hs
    clear hsh hs
    go_enter Try.func4, Try.ntmps4
    go_wp2_with fail
    refine HSH.out.mono ?_
    rintro e w' ⟨rfl, rfl⟩
    go_wp2_with fail
    refine (new_any _).mono ?_
    rintro e w1 ⟨g, F1, rfl, h1, k1, hF1⟩
    have HP1 := Lib.hid (new_any' h1 (by decide))
    have HK1 := Lib.hid k1; have HF1 := Lib.hid hF1
    clear h1 k1 hF1
    go_wp2_with fail
    refine HP1.out.mono ?_
    intro e w2 hpost
    obtain ⟨gp, gw, F2, m2, A2, c2, rfl, h2⟩ := PtW.of_new HK1.out HF1.out hpost
    have hinv : KPInv w g 0 (.pointer (some ⟨gp, 0, none⟩)) (.int .i64 0) w2 :=
      ⟨gp, gw, F2, _, m2, [], 1, 1, _, [], A2, c2, [], 0, rfl, rfl, h2, hd_new _ _, by rw [cur_texts]; rfl, by decide, by decide, by decide, by decide, by decide, by decide⟩
    have HINV := Lib.hid hinv
    clear hpost h2 hinv
    go_wp2_with fail
    go_loopw [4, 6, 7] (fun v4 v6 v7 wr => ∃ i : Nat, i ≤ 30 ∧ i ≤ l.length ∧ v7 = .int .i64 i ∧ KPInv w g i v4 v6 wr) (fun _ _ v7 _ => l.length - (intOf v7).toNat)
    case atStart => exact ⟨0, by omega, Nat.zero_le _, rfl, HINV.out⟩
    case round =>
      obtain ⟨i, hi, hi2, rfl, gp, gw, F, n, m, ps, boot, first, R, T, A, c, tl, S, hka⟩ := hrel
      have HKA := Lib.hid hka
      obtain ⟨e4, e6⟩ : u4 = Value.pointer (some ⟨gp, 0, none⟩) ∧ u6 = Value.int .i64 (S : Nat) := ⟨hka.e4, hka.e6⟩
      subst e4 e6
      have hn1 := hka.n1; have hn2 := hka.n2; have hn3 := hka.n3
      clear hka
      by_cases hil : i < l.length ∧ i < 30
      · obtain ⟨hil1, hil2⟩ := hil
        obtain ⟨a, ha⟩ : ∃ a, l[i]? = some a := ⟨_, List.getElem?_eq_getElem hil1⟩
        obtain ⟨ad, rfl, had, y0, y1, y2, y3⟩ := pact_cells HL.out (by omega) i a ha
        have hsa := shA_get (shP_get HS.out hil2 ha)
        have hao := HI.out a (List.mem_of_getElem? ha)
        obtain ⟨ak, sx, aA, ac, al, an⟩ := a
        dsimp only at y0 y1 y2 y3 hsa
        have hkc : ∀ (W : World) (p : Addr), Kept NoF w W → p.block = ad.block → W.cell? p = w.cell? p := fun W p hk hp =>
          World.cell?_of_block ((hk.below (Nat.le_refl _) (fun _ z => z.elim)).block _ (by rw [hp]; exact had))
        have hkw : Kept NoF w wr := HKA.out.pw.k
        have x0 : wr.cell? (ad.add (i * 4)) = some (.int .i64 ak) := (hkc wr _ hkw (block_add _ _)).trans y0
        have x1 : wr.cell? ⟨(ad.add (i * 4)).block, (ad.add (i * 4)).off + 1, none⟩ = some (.string sx) := (hkc wr ⟨(ad.add (i * 4)).block, (ad.add (i * 4)).off + 1, none⟩ hkw (block_add ad (i * 4))).trans y1
        have x2 : ∀ W, Kept NoF w W → W.cell? ⟨(ad.add (i * 4)).block, (ad.add (i * 4)).off + 2, none⟩ = some (.slice aA al.length ac) := fun W hW => (hkc W ⟨(ad.add (i * 4)).block, (ad.add (i * 4)).off + 2, none⟩ hW (block_add ad (i * 4))).trans y2
        have x3 : ∀ W, Kept NoF w W → W.cell? ⟨(ad.add (i * 4)).block, (ad.add (i * 4)).off + 3, none⟩ = some (.int .i64 an) := fun W hW => (hkc W ⟨(ad.add (i * 4)).block, (ad.add (i * 4)).off + 3, none⟩ hW (block_add ad (i * 4))).trans y3
        have HX2 := Lib.hid x2; have HX3 := Lib.hid x3; have HAO := Lib.hid hao; have HSA := Lib.hid hsa; have HKW := Lib.hid hkw
        have hft := HKA.out.fits hi
        have HFT := Lib.hid hft
        clear ha had hkc y0 y1 y2 y3 x2 x3 hao hsa hkw hft
        by_cases hap : ak = 0 ∨ ak = 1 ∨ ak = 5 ∨ ak = 6
        · have hla := papp_any HKA.out.pw.pt HFT.out HKA.out.pw.k.size (by have := HKA.out.cur.2; omega) (by omega) sx (by have := HSA.out.1; omega)
          have HLA := Lib.hid hla
          clear hla hn1 hn2 hn3
          rcases hap with rfl | rfl | rfl | rfl
          all_goals
            go_wp2_with fail
            refine HLA.out.mono ?_
            intro e w3 hpost
            obtain ⟨rfl, hend⟩ := HKA.out.app hpost
            have HEND := Lib.hid hend
            clear hpost hend
            go_wp2
            go_roundw
            case rel => exact ⟨i + 1, by omega, by omega, by go_num, HEND.out⟩
            case measure => simp [intOf]; omega
        · have q0 : (ak == 0) = false := by simp; omega
          have q1 : (ak == 1) = false := by simp; omega
          have q5 : (ak == 5) = false := by simp; omega
          have q6 : (ak == 6) = false := by simp; omega
          clear hap x1
          by_cases h2 : ak = 2
          · subst h2
            have hsy := psync_any HKA.out.pw.pt HFT.out
            have HSY := Lib.hid hsy
            clear hsy hn1 hn2
            go_wp2_with fail
            refine HSY.out.mono ?_
            intro e w3 hpost
            obtain ⟨⟨kk, rfl⟩, hp3, hend⟩ := HKA.out.sync hpost
            have htx := texts_any hp3.pt (by omega)
            have HTX := Lib.hid htx; have HEND := Lib.hid hend
            clear hpost hp3 htx hend hn3
            go_wp2_with fail
            refine HTX.out.mono ?_
            rintro e w4 ⟨A4, c4, rfl, -, hb4⟩
            have HE := Lib.hid (HEND.out w4 (Kept.of_below hb4 (fun k hk _ => hk)))
            clear hb4
            go_wp2
            go_roundw
            case rel => exact ⟨i + 1, by omega, by omega, by go_num, HE.out⟩
            case measure => simp [intOf]; omega
          · by_cases h3 : ak = 3
            · subst h3
              have hx3 := HX3.out wr HKW.out
              have hanb : an ≤ 9223372036854775807 := by
                have := HAO.out.2.2
                unfold I64 Lit.wf at this
                have hb : (2 : Int) ^ (IntKind.i64.bits - 1) = 9223372036854775808 := by decide
                simp [IntKind.signed, IntKind.min, IntKind.max, hb] at this
                omega
              have hpl := HKA.out.pw.pt.pcs_len
              have hn4 := HKA.out.n4
              have htx := texts_any HKA.out.pw.pt (by omega)
              obtain ⟨R', kk, M, hlog, hlow, hhd, htR, hM, hMR, hRl, hkR⟩ := HKA.out.pw.pt.crash HKA.out.hd (max an 0).toNat
              have hS := HKA.out.s
              have hSM : S ≤ M := by omega
              have hkb : kk ≤ 1073741824 := by
                obtain ⟨k, h3, _⟩ := HKA.out.pw.pt.tx
                have h4 := congrArg List.length h3
                rw [List.length_append, ptx_len] at h4
                omega
              have hcr := fun (W : World) (hW : Kept NoF wr W) => crash_any (HKA.out.pw.pt.d.kept hW (fun _ _ z => z)) HKA.out.b0 HKA.out.b1 an hanb HFT.out.i64 (by have := HFT.out.len; omega) (by have := HFT.out.n; omega) 100000 HFT.out.file (.inl (by have := HFT.out.total; omega))
              obtain ⟨m', hm'⟩ : ∃ m', crashM m (max an 0).toNat ps = m' := ⟨_, rfl⟩
              rw [hm'] at hcr hlog hlow
              have hlM : (tl.take M).length = M := by rw [List.length_take]; omega
              have hop := fun (W : World) (hd : DiskAt W g F (n + ps.length) m' [] 1 (min (boot + 1) 1073741824)) => popen_log hd (by omega) hlog hlow hhd htR (by rw [hlM]; omega) hkb HKA.out.pw.pt.f1 (by omega) (by omega)
              have hfin : ∀ w1 w2 w3 (A1 : Option Addr) (c1 : Nat) e, Kept NoF wr w1 → NewSl 9 1 wr.heap.size w1 A1 tl.length c1 (tl.map Value.string) → Kept F w1 w2 → POpenPost w2 g F (n + ps.length) m' 1 (min (boot + 1) 1073741824) (first + (0 : Nat)) (R'.length - 1) R' e w3 →
                  ∃ gp', e = .returned (.tuple #[.pointer (some ⟨gp', 0, none⟩), .int .i64 0]) ∧ (Calls Try.prog 14 #[.pointer (some ⟨gp', 0, none⟩)] w3 fun e w' => ∃ A' c', e = .returned (.slice A' M c') ∧ NewSl 9 1 w3.heap.size w' A' M c' ((tl.take M).map Value.string) ∧ Below w3.heap.size w3 w') ∧
                    (∀ w4 A4 c4, Kept NoF w3 w4 → NewSl 9 1 w3.heap.size w4 A4 M c4 ((tl.take M).map Value.string) → Calls Try.prog 17 #[.slice A4 M c4, .slice A1 M c1] w4 fun e w' => e = .returned (.bool true) ∧ Kept NoF w4 w') ∧
                    ∀ w5, Kept NoF w3 w5 → KPInv w g (i + 1) (.pointer (some ⟨gp', 0, none⟩)) (.int .i64 (M : Nat)) w5 := by
                intro w1 w2 w3 A1 c1 e hk1 hn1' hk2 hpo
                have hk02 : Kept NoF w w2 := (HKW.out.then hk1).trans hk2 (fun k hk => .inr (HKA.out.pw.f k hk))
                have hk23 : Kept F w2 w3 := by obtain ⟨_, _, _, _, _, _, _, _, _, _, _, h9⟩ := hpo; exact h9
                obtain ⟨gp', gw', A', c', he, hpw⟩ := PtW.opened (l := tl.take M) (k := kk) HKA.out.pw.f hk02 hlog hlow hhd htR (by rw [htR, ptx_len, hlM]; omega) hkb HKA.out.pw.pt.f1 (fun s hs => HKA.out.pw.pt.hs s (List.mem_of_mem_take hs)) hpo
                have hrow3 : w3.ownsRow 0 9 1 (.slice A1 tl.length c1) tl.length (tl.map Value.string) := own_kept (own_kept hn1'.1 hk2 (fun k hk hf => by have h1 := hn1'.2 k hk; have h2 := HKA.out.pw.pt.d.lt k hf; omega)) hk23 (fun k hk hf => by have h1 := hn1'.2 k hk; have h2 := HKA.out.pw.pt.d.lt k hf; omega)
                refine ⟨gp', he, ?_, fun w4 A4 c4 hk4 hn4' => ?_, fun w5 hk5 => ?_⟩
                · have := texts_any hpw.pt (by rw [hlM]; omega)
                  rw [hlM] at this
                  exact this
                · have s1 := Src.of_own hn4'.1
                  have s2 := ((Src.of_own hrow3).kept hk4 (fun _ _ z => z)).take (k := M) (by omega)
                  rw [Nat.mul_one, ← List.map_take] at s2
                  have := SlI.same_eq w4 A4 A1 c4 c1 (tl.take M) (by rw [hlM]; exact s1) (by rw [hlM]; exact s2) (by rw [hlM]; omega)
                  rwa [hlM] at this
                · refine ⟨gp', gw', F, _, _, [], _, first, R', [], A', c', tl.take M, M, rfl, rfl, hpw.kept hk5, hhd, by rw [htR, ptx_len, hlM], ?_, ?_, by simp; omega, by simp; omega, by rw [hlM]; omega, by simp; omega⟩
                  · have := HKA.out.b0; omega
                  · omega
              have HTX := Lib.hid htx; have HCR := Lib.hid hcr; have HOP := Lib.hid hop; have HFIN := Lib.hid hfin
              clear htx hcr hop hfin hlog hlow hhd htR hMR hRl hkR hS hkb hlM hm' hpl hn4 hn1 hn2 hanb
              go_wp2_with fail
              refine HTX.out.mono ?_
              rintro e w1 ⟨A1, c1, rfl, hn1', hb1⟩
              have hk1 : Kept NoF wr w1 := Kept.of_below hb1 (fun k hk _ => hk)
              have hcp1 := (own_cap hn1'.1).1
              have hx3' := HX3.out w1 (HKW.out.then hk1)
              have HC1 := Lib.hid (HCR.out w1 hk1); have HK1' := Lib.hid hk1; have HN1 := Lib.hid hn1'
              clear hn1' hb1 hk1 hx3
              go_wp2_with fail
              refine HC1.out.mono ?_
              rintro e w2 ⟨rfl, hd2, hk2⟩
              have HO2 := Lib.hid (HOP.out w2 hd2); have HK2 := Lib.hid hk2
              clear hd2 hk2 hx3'
              go_wp2_with fail
              refine HO2.out.mono ?_
              intro e w3 hpo
              obtain ⟨gp', rfl, hT3, hS3, hE3⟩ := HFIN.out w1 w2 w3 A1 c1 e HK1'.out HN1.out HK2.out hpo
              have HT3 := Lib.hid hT3; have HS3 := Lib.hid hS3; have HE3 := Lib.hid hE3
              clear hpo hT3 hS3 hE3
              go_wp2_with fail
              refine HT3.out.mono ?_
              rintro e w4 ⟨A4, c4, rfl, hn4', hb4⟩
              have hk4 : Kept NoF w3 w4 := Kept.of_below hb4 (fun k hk _ => hk)
              have HSM := Lib.hid (HS3.out w4 A4 c4 hk4 hn4'); have HK4 := Lib.hid hk4
              have g1 : ¬ M < S := by omega
              have g2 : ¬ tl.length < M := by omega
              have g3 : M ≤ c1 := by omega
              clear hn4' hb4 hk4
              go_wp2_with fail
              refine HSM.out.mono ?_
              rintro e w5 ⟨rfl, hk5⟩
              have HE := Lib.hid (HE3.out w5 (HK4.out.then hk5))
              clear hk5
              go_wp2
              go_roundw
              case rel => exact ⟨i + 1, by omega, by omega, by go_num, HE.out⟩
              case measure => simp [intOf]; omega
            · by_cases h4 : ak = 4
              · subst h4
                have hn4 := HKA.out.n4
                have hcu := HKA.out.cur.1
                have hpl := HKA.out.pw.pt.pcs_len
                have hlt6 : ∀ s ∈ al, s.size < 65536 := fun s hs => by have := HSA.out.2.2 s hs; omega
                have hal10 := HSA.out.2.1
                have hAF : 0 < al.length → ∀ ad, aA = some ad → ¬ F ad.block ∧ ad.block ≠ gp := by
                  intro h0 ad e
                  obtain ⟨ad2, e2, hlt, _⟩ := HAO.out.1.2 h0
                  dsimp only at e2
                  rw [e] at e2
                  injection e2 with e2
                  subst e2
                  exact ⟨fun hf => by have := HKA.out.pw.f _ hf; omega, fun he => by have := HKA.out.pw.gp; omega⟩
                have hsv := fun (W : World) (hW : Kept NoF wr W) => psave_any (HKA.out.kept hW).pw.pt HFT.out (HKA.out.kept hW).pw.k.size aA ac al (HAO.out.1.kept (HKW.out.then hW) (fun _ _ z => z)) hAF hlt6 (by omega) (by omega) (by omega)
                have HSV := Lib.hid hsv
                have x2 := HX2.out wr HKW.out
                have hsrc := HAO.out.1
                have HSRC := Lib.hid hsrc
                clear hsv hAF hlt6 hcu hpl hn1 hn2 hn3 hn4 hsrc
                go_wp2_with fail
                go_region_held3 (fun W => W.cell? ⟨(ad.add (i * 4)).block, (ad.add (i * 4)).off + 2, none⟩ = some (.slice aA al.length ac)) (first | exact x2 | exact q9 | exact q9b | exact q9c | (simp [go_sem, x2]; done))
                  (first
                    | (go_at_call 11; refine (HSV.out _ (by (repeat' (first | with_reducible exact Kept.refl _ _ | with_reducible refine Kept.put ?_ ?_ | with_reducible refine Kept.drewN ?_ _ | with_reducible refine Kept.drew ?_ | with_reducible refine Kept.alloc ?_ _ | (fail) | (right; simp; done))))).mono ?_; intro e w3 hpost; obtain ⟨rfl, gw', F', n', m', A', c', first', R', hpw, hend⟩ := (HKA.out.kept (by (repeat' (first | with_reducible exact Kept.refl _ _ | with_reducible refine Kept.put ?_ ?_ | with_reducible refine Kept.drewN ?_ _ | with_reducible refine Kept.drew ?_ | with_reducible refine Kept.alloc ?_ _ | (fail) | (right; simp; done))))).save hal10 hpost; have q9 := HX2.out w3 hpw.k; have HPW := Lib.hid hpw; have HEND := Lib.hid hend; have HTX := Lib.hid (fun (W : World) (hW : Kept NoF w3 W) => texts_any (hpw.kept hW).pt (by omega)); clear hpost hpw hend)
                    | (go_at_call 14; refine (HTX.out _ (by (repeat' (first | with_reducible exact Kept.refl _ _ | with_reducible refine Kept.put ?_ ?_ | with_reducible refine Kept.drewN ?_ _ | with_reducible refine Kept.drew ?_ | with_reducible refine Kept.alloc ?_ _ | (fail) | (right; simp; done))))).mono ?_; rintro e w4 ⟨A4, c4, rfl, hn4, hb4⟩; have hk4 : Kept NoF w3 w4 := Kept.then (by (repeat' (first | with_reducible exact Kept.refl _ _ | with_reducible refine Kept.put ?_ ?_ | with_reducible refine Kept.drewN ?_ _ | with_reducible refine Kept.drew ?_ | with_reducible refine Kept.alloc ?_ _ | (fail) | (right; simp; done)))) (Kept.of_below (F := NoF) hb4 (fun k hk _ => hk)); have q9b := HX2.out w4 (HPW.out.k.then hk4); have HSM := Lib.hid (fun (W : World) (hW : Kept NoF w4 W) => SlI.same_eq W A4 aA c4 ac al ((Src.of_own hn4.1).kept hW (fun _ _ z => z)) (HSRC.out.kept ((HPW.out.k.then hk4).then hW) (fun _ _ z => z)) (by omega)); have HK4 := Lib.hid hk4; clear hn4 hb4 hk4)
                    | (go_at_call 17; refine (HSM.out _ (by (repeat' (first | with_reducible exact Kept.refl _ _ | with_reducible refine Kept.put ?_ ?_ | with_reducible refine Kept.drewN ?_ _ | with_reducible refine Kept.drew ?_ | with_reducible refine Kept.alloc ?_ _ | (fail) | (right; simp; done))))).mono ?_; rintro e w5 ⟨rfl, hk5⟩; have hk6 : Kept NoF w4 w5 := Kept.then (by (repeat' (first | with_reducible exact Kept.refl _ _ | with_reducible refine Kept.put ?_ ?_ | with_reducible refine Kept.drewN ?_ _ | with_reducible refine Kept.drew ?_ | with_reducible refine Kept.alloc ?_ _ | (fail) | (right; simp; done)))) hk5; have HE := Lib.hid (HEND.out w5 (HK4.out.then hk6)); have q9c := HX2.out w5 (HPW.out.k.then (HK4.out.then hk6)); clear hk5 hk6))
                clear x2 q9 q9b
                go_wp2
                go_roundw
                case rel => exact ⟨i + 1, by omega, by omega, by go_num, HE.out⟩
                case measure => simp [intOf]; omega
              · have r2 : (ak == 2) = false := by simp; omega
                have r3 : (ak == 3) = false := by simp; omega
                have r4 : (ak == 4) = false := by simp; omega
                have hfin := HKA.out.next
                have HFIN := Lib.hid hfin
                clear h2 h3 h4 hfin hn1 hn2 hn3
                go_wp2
                go_roundw
                case rel => exact ⟨i + 1, by omega, by omega, by go_num, HFIN.out⟩
                case measure => simp [intOf]; omega
      · have hkw := HKA.out.pw.k
        have HKW := Lib.hid hkw
        clear hkw hn1 hn2 hn3
        by_cases hil2 : i < l.length
        all_goals
          go_wp2_with fail
          refine (awake_any' _).mono ?_
          rintro e w5 ⟨rfl, hk5⟩
          go_wp2
          go_ret
          exact ⟨rfl, (HKW.out.then hk5).below (Nat.le_refl _) (fun _ z => z.elim)⟩
end Pt
end Go.Proofs.Ythgdkhgpboaplaa
