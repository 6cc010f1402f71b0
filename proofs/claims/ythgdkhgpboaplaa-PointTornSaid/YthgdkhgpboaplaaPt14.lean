
/- The checkpointed log: Open. -/
import Derived.Test.YthgdkhgpboaplaaPt13
set_option linter.unusedSimpArgs false
set_option linter.unusedVariables false
namespace Go.Proofs.Ythgdkhgpboaplaa
open Go.RowKit
set_option maxRecDepth 100000
namespace Pt
open Disk Fr Vn Ops Wl
/-- The bytes of a file, all being safe. -/
def dat (m : Disk.Safe) (x : Int) : List UInt8 := bl (dataOf m [] x)
/-- A log that begins at x ends behind K files more. -/
def EndAt (m : Disk.Safe) (x : Int) (K : Nat) : Prop := (∀ j : Nat, j < K → isFile m [] (x + 1 + j) = true ∧ beg (dat m (x + 1 + j)) = none) ∧ (isFile m [] (x + 1 + K) = false ∨ ∃ c, beg (dat m (x + 1 + K)) = some c)
def txt (m : Disk.Safe) (x : Int) (K : Nat) : List (List UInt8) := rdT (fun j : Nat => dat m (x + j)) (K + 1)
/-- A file at which Open goes on. -/
def Passed (m : Disk.Safe) (x : Int) : Prop := beg (dat m x) = none ∨ ∃ c K, beg (dat m x) = some c ∧ EndAt m x K ∧ K ≤ 100000 ∧ ¬ c ≤ (txt m x K).length
def POpenPost (w : World) (g : Nat) (F : Nat → Prop) (n : Nat) (m : Disk.Safe) (ser boot f : Int) (K : Nat) (R : St) (e : Ending) (w' : World) : Prop :=
  ∃ gp gw A c, e = .returned (.tuple #[.pointer (some ⟨gp, 0, none⟩), .int .i64 0]) ∧ PAt w' gp (.pointer (some ⟨gw, 0, none⟩)) g f (.slice A (txt m f K).length c) ∧ WAt w' gw g (f + lastOf R) ∧ DiskAt w' g F n (keepM f (f + 1 + K) m) [] ser boot ∧
    NewSl 9 1 w.heap.size w' A (txt m f K).length c (tcells (txt m f K)) ∧ w.heap.size ≤ gp ∧ w.heap.size ≤ gw ∧ Kept F w w'
section
variable {F : Nat → Prop} {w : World} {g n : Nat} {m : Disk.Safe} {ser boot : Int}
set_option maxHeartbeats 8000000 in
theorem popen_any (h : DiskAt w g F n m [] ser boot) (hn : n ≤ 100000) (a : Int) (N i0 K want : Nat) (R : St) (hfile : ∀ x, isFile m [] x = decide (a ≤ x ∧ x < a + N)) (ha : 1 ≤ a) (haN : a + N ≤ 1073741824) (hi0 : i0 < N)
    (hsz : ∀ x, (sget m x).size ≤ 100000) (hpass : ∀ i : Nat, i0 < i → i < N → Passed m (a + i)) (hbeg : beg (dat m (a + i0)) = some want) (hend : EndAt m (a + i0) K) (hK : K ≤ 100000) (hw : want ≤ (txt m (a + i0) K).length)
    (hlog : Log (a + i0) R [] (keepM (a + i0) (a + i0 + 1 + K) m) []) (hR : R.length ≤ 100000) :
    Calls Try.prog 9 #[.pointer (some ⟨g, 0, none⟩)] w (POpenPost w g F n m ser boot (a + i0) K R) := by
  have hds : ∀ x, (dataOf m [] x).size ≤ 1000000 := fun x => by have h1 := data_size (m := m) (ps := []) x; have h2 := hsz x; have : total [] = 0 := rfl; omega
  have hs2 : ∀ x, (sget m x).size + total [] ≤ 1000000000 := fun x => by have h2 := hsz x; have : total [] = 0 := rfl; omega
  have hpi : ∀ p ∈ ([] : List Disk.Pc), I64 p.1 := fun p hp => by cases hp
  have hfi := files_any h hpi hn (by decide)
  have hbe := fun (x : Int) (hx : 0 ≤ x ∧ x ≤ 2305843009213693952) (W : World) (hW : Kept NoF w W) => begins_any (h.kept hW (fun _ _ z => z)) x (i64_small hx.1 (by omega)) (by decide) (by have := hds x; omega) (by have := hs2 x; omega)
  have hrd := fun (x : Int) (K c : Nat) (hx : 0 ≤ x ∧ x ≤ 1073741824) (hK : K ≤ 100000) (hb : beg (dat m x) = some c) (he : EndAt m x K) (W : World) (hW : Kept NoF w W) => pread_any (h.kept hW (fun _ _ z => z)) x K c hpi hn (by decide) hds hs2 hx.1 (by omega) hK hb he.1 he.2
  have hen := fun (W : World) (hW : Kept NoF w W) => end_any (h.kept hW (fun _ _ z => z)) (a + i0) K hpi hn (by decide) hs2 (by omega) (by omega) hend.1 hend.2
  obtain ⟨mK, hmK⟩ : ∃ mK, keepM (a + i0) (a + i0 + 1 + K) m = mK := ⟨_, rfl⟩
  have hkp := fun (W W' : World) (gp : Nat) (v0 v3 : Value) (hW : Kept NoF w W) (hp : PAt W gp v0 g (a + i0) v3) => keep_any v0 v3 hp (h.kept hW (fun _ _ z => z)) hn (a + i0) (a + i0 + 1 + K)
  rw [hmK] at hkp hlog
  have hfit : Fits n mK [] := ⟨hn, by decide, fun f => by
    rw [← hmK]
    have h2 := hsz f
    unfold sget keepM at *
    split
    · exact h2
    · exact Nat.zero_le _, fun p hp => by cases hp⟩
  have hop := fun (W : World) (F' : Nat → Prop) (hW : DiskAt W g F' n mK [] ser boot) => lopen_any hW hlog hfit (by omega) (by omega) hR
  have HFI := Lib.hid hfi; have HBE := Lib.hid hbe; have HRD := Lib.hid hrd; have HEN := Lib.hid hen; have HKP := Lib.hid hkp; have HOP := Lib.hid hop; have HMK := Lib.hid hmK
  have HFILE := Lib.hid hfile; have HPASS := Lib.hid hpass; have HBEG := Lib.hid hbeg; have HEND := Lib.hid hend; have HW := Lib.hid hw; have HLT := Lib.hid h.lt; have HD := Lib.hid h
  clear hfi hbe hrd hen hkp hop hmK hfile hpass hbeg hend hw h hds hs2 hpi hsz hlog hfit
  go_enter Try.func9, Try.ntmps9
  go_wp2_with fail
  refine HFI.out.mono ?_
  rintro e w1 ⟨fl, A, c, rfl, hfa, hown, hnew, hk1⟩
  have hfl := files_nums hfa HFILE.out (by omega) (by omega)
  have hrv := reverse_any w1 A c fl hown
  have HRV := Lib.hid hrv; have HK1 := Lib.hid hk1; have HNEW := Lib.hid hnew; have HFL := Lib.hid hfl
  clear hfa hown hnew hk1 hfl hrv
  go_wp2_with fail
  refine HRV.out.mono ?_
  rintro e w2 ⟨rfl, hs2, hk2⟩
  have hlen : fl.length = N := by rw [HFL.out]; simp [nums]
  rw [hlen] at hs2 ⊢
  have hkw2 : Kept NoF w w2 := HK1.out.trans hk2 (fun k hk => .inr (HNEW.out k hk))
  have hget : ∀ i : Nat, i < N → fl.reverse[i]? = some (a + (N - 1 - i : Nat)) := by
    intro i hi
    rw [List.getElem?_reverse (by omega), HFL.out]
    unfold nums
    rw [List.getElem?_map, List.length_map, List.length_range, List.getElem?_range (by omega)]
    rfl
  have HS2 := Lib.hid hs2; have HK2 := Lib.hid hkw2; have HGET := Lib.hid hget
  clear hs2 hk2 hkw2 hget hlen
  go_wp2_with fail
  go_loopw [20] (fun v20 wr => ∃ i : Nat, i + i0 + 1 ≤ N ∧ v20 = .int .i64 i ∧ Kept NoF w2 wr) (fun v20 _ => N - (intOf v20).toNat)
  case atStart => exact ⟨0, by omega, rfl, Kept.refl _ _⟩
  case round =>
    obtain ⟨i, hi, rfl, hk⟩ := hrel
    obtain ⟨x, hx⟩ : ∃ x : Int, x = a + (N - 1 - i : Nat) := ⟨_, rfl⟩
    have hgx := HGET.out i (by omega)
    rw [← hx] at hgx
    obtain ⟨ad, rfl, -, e0⟩ := SlI.ints_cells (HS2.out.kept hk (fun _ _ z => z)) (by omega) i x hgx
    have hx1 : 0 ≤ x := by omega
    have hx2 : x ≤ 1073741824 := by omega
    have hil : i < N := by omega
    have hkw : Kept NoF w wr := HK2.out.then hk
    have hbx := HBE.out x ⟨hx1, by omega⟩ wr hkw
    have HK := Lib.hid hk; have HKW := Lib.hid hkw; have HX := Lib.hid hx
    clear hk hgx hkw hx
    by_cases hfound : i + i0 + 1 = N
    · have hxf : x = a + i0 := by have := HX.out; omega
      subst hxf
      have hbx2 : Calls Try.prog 24 #[.pointer (some ⟨g, 0, none⟩), .int .i64 (a + i0)] wr fun e w' => e = .returned (.tuple #[.int .i64 want, .bool true]) ∧ Kept NoF wr w' := by
        have hb2 := HBEG.out
        unfold dat at hb2
        rw [hb2] at hbx
        exact hbx
      have hrd := HRD.out (a + i0) K want ⟨hx1, hx2⟩ hK HBEG.out HEND.out
      have HBX := Lib.hid hbx2; have HRX := Lib.hid hrd
      obtain ⟨L, hL⟩ : ∃ L, txt m (a + i0) K = L := ⟨_, rfl⟩
      have hnb : decide (want ≤ L.length) = true := by rw [← hL]; exact decide_eq_true HW.out
      have hL2 : rdT (fun j : Nat => bl (dataOf m [] (a + i0 + j))) (K + 1) = L := hL
      rw [hL2] at HRX
      have HL := Lib.hid hL
      clear hbx hbx2 hrd hL hL2
      go_wp2_with fail
      refine HBX.out.mono ?_
      rintro e w3 ⟨rfl, hk3⟩
      have HK3 := Lib.hid (HKW.out.then hk3)
      have hrx := HRX.out w3 HK3.out
      have HRX3 := Lib.hid hrx
      clear hk3 hrx
      go_wp2_with fail
      refine HRX3.out.mono ?_
      rintro e w4 ⟨A4, c4, rfl, hn4, hk4⟩
      rw [hnb]
      obtain ⟨w5, hw5⟩ : ∃ w5, w4.alloc (.cells #[.pointer none, .pointer (some ⟨g, 0, none⟩), .int .i64 (a + i0), .slice A4 L.length c4] 32) = w5 := ⟨_, rfl⟩
      have hk5 : Kept NoF w w5 := by rw [← hw5]; exact (HK3.out.then hk4).alloc _
      have hp5 : PAt w5 w4.heap.size (.pointer none) g (a + i0) (.slice A4 L.length c4) := by rw [← hw5]; exact Has.new _ _ _
      have hn5 : NewSl 9 1 w3.heap.size w5 A4 L.length c4 (tcells L) := by rw [← hw5]; exact hn4.kept ((Kept.refl _ _).alloc _)
      have hen5 := HEN.out w5 hk5
      have HW5 := Lib.hid hw5; have HK5 := Lib.hid hk5; have HP5 := Lib.hid hp5; have HN5 := Lib.hid hn5; have HEN5 := Lib.hid hen5; have HS4 := Lib.hid (HK3.out.then hk4).size; have HS3 := Lib.hid HK3.out.size
      clear hw5 hk5 hp5 hn5 hen5 hk4 hn4 hnb
      go_wp2_with fail
      rw [HW5.out]
      refine HEN5.out.mono ?_
      rintro e w6 ⟨rfl, hk6⟩
      have hp6 := HP5.out.kept hk6 (fun z => z)
      have hkp6 := HKP.out w6 w6 w4.heap.size _ _ (HK5.out.then hk6) hp6
      have HKP6 := Lib.hid hkp6; have HP6 := Lib.hid hp6; have HK6 := Lib.hid (HK5.out.then hk6); have HN6 := Lib.hid (HN5.out.kept hk6)
      clear hk6 hp6 hkp6
      go_wp2_with fail
      refine HKP6.out.mono ?_
      rintro e w7 ⟨rfl, hd7, hk7⟩
      have hgF : ¬ F w4.heap.size := fun hh => by have h1 := HLT.out _ hh; have h2 := HS4.out; omega
      have hp7 := HP6.out.kept hk7 hgF
      have hn7 : NewSl 9 1 w3.heap.size w7 A4 L.length c4 (tcells L) := ⟨own_kept HN6.out.1 hk7 (fun k hk hh => by have h1 := HLT.out _ hh; have h2 := HN6.out.2 k hk; have h3 := HS3.out; omega), HN6.out.2⟩
      have hop7 := HOP.out w7 F hd7
      have HD7 := Lib.hid hd7; have HP7 := Lib.hid hp7; have HN7 := Lib.hid hn7; have HK7 := Lib.hid ((HK6.out.mono (fun _ z => z.elim)).then hk7); have HOP7 := Lib.hid hop7
      clear hd7 hk7 hgF hp7 hn7 hop7
      go_wp2_with fail
      refine HOP7.out.mono ?_
      rintro e w8 ⟨gw, A8, c8, rfl, hw8, hgw8, -, hb8⟩
      have hk8 : Kept NoF w7 w8 := Kept.of_below hb8 (fun k hk _ => hk)
      have hp8 := HP7.out.kept hk8 (fun z => z)
      have x0 : w8.cell? ⟨w4.heap.size, 0, none⟩ = some (.pointer none) := hp8.cell 0
      have f0 := hp8.frozen 0
      have hfin : POpenPost w g F n m ser boot (a + i0) K R (.returned (.tuple #[.pointer (some ⟨w4.heap.size, 0, none⟩), .int .i64 0])) (w8.setCell ⟨w4.heap.size, 0, none⟩ (.pointer (some ⟨gw, 0, none⟩))) := by
        have hks : Kept (fun k => k = w4.heap.size) w8 (w8.setCell ⟨w4.heap.size, 0, none⟩ (.pointer (some ⟨gw, 0, none⟩))) := (Kept.refl _ w8).put (.inl rfl)
        have hS4 := HS4.out
        have hS7 := HK7.out.size
        refine ⟨w4.heap.size, gw, A4, c4, rfl, ?_, ?_, ?_, ?_, hS4, Nat.le_trans hS7 hgw8, ?_⟩
        · rw [HL.out]; exact hp8.put 0 (.pointer (some ⟨gw, 0, none⟩))
        · exact hw8.kept hks (fun e => by have := HP7.out.lt; omega)
        · rw [HMK.out]
          exact (HD7.out.kept hk8 (fun _ _ z => z)).kept hks (fun k hk e => by have h1 := HLT.out _ hk; omega)
        · rw [HL.out]
          refine ⟨own_kept (own_kept HN7.out.1 hk8 (fun _ _ z => z)) hks (fun k hk e => ?_), fun k hk => Nat.le_trans HS3.out (HN7.out.2 k hk)⟩
          obtain ⟨cs, hh⟩ := Fr.own_has HN7.out.1 hk
          subst e
          exact Has.ne hh HP7.out (by decide) rfl
        · exact (HK7.out.then (hk8.mono (fun _ z => z.elim))).trans hks (fun k hk => .inr (by omega))
      have HFIN := Lib.hid hfin
      clear hw8 hgw8 hb8 hk8 hp8 hfin
      go_wp2
      go_ret2
      exact HFIN.out
    · have hps := HPASS.out (N - 1 - i) (by omega) (by omega)
      rw [← HX.out] at hps
      rcases hps with hno | ⟨cx, Kx, hb, he, hKx, hnot⟩
      · have hbx2 : Calls Try.prog 24 #[.pointer (some ⟨g, 0, none⟩), .int .i64 x] wr fun e w' => e = .returned (.tuple #[.int .i64 0, .bool false]) ∧ Kept NoF wr w' := by
          unfold dat at hno
          rw [hno] at hbx
          exact hbx
        have HBX := Lib.hid hbx2
        clear hbx hno hbx2
        go_wp2_with fail
        refine HBX.out.mono ?_
        rintro e w3 ⟨rfl, hk3⟩
        have HK3 := Lib.hid (HK.out.then hk3)
        clear hk3
        go_wp2
        go_roundw
        case rel => exact ⟨i + 1, by omega, by go_num, HK3.out⟩
        case measure => simp [intOf]; omega
      · have hbx2 : Calls Try.prog 24 #[.pointer (some ⟨g, 0, none⟩), .int .i64 x] wr fun e w' => e = .returned (.tuple #[.int .i64 cx, .bool true]) ∧ Kept NoF wr w' := by
          have hb2 := hb
          unfold dat at hb2
          rw [hb2] at hbx
          exact hbx
        have hrd := HRD.out x Kx cx ⟨hx1, hx2⟩ hKx hb he
        have HBX := Lib.hid hbx2; have HRX := Lib.hid hrd
        obtain ⟨Lx, hLx⟩ : ∃ Lx, rdT (fun j : Nat => bl (dataOf m [] (x + j))) (Kx + 1) = Lx := ⟨_, rfl⟩
        have hnb : decide (cx ≤ Lx.length) = false := by rw [← hLx]; exact decide_eq_false hnot
        rw [hLx] at HRX
        clear hbx hb hbx2 hrd he hnot hLx
        go_wp2_with fail
        refine HBX.out.mono ?_
        rintro e w3 ⟨rfl, hk3⟩
        have HK3 := Lib.hid (HK.out.then hk3)
        have hrx := HRX.out w3 (HKW.out.then hk3)
        have HRX3 := Lib.hid hrx
        clear hk3 hrx
        go_wp2_with fail
        refine HRX3.out.mono ?_
        rintro e w4 ⟨A4, c4, rfl, -, hk4⟩
        rw [hnb]
        have HK4 := Lib.hid (HK3.out.then hk4)
        clear hk4 hnb
        go_wp2
        go_roundw
        case rel => exact ⟨i + 1, by omega, by go_num, HK4.out⟩
        case measure => simp [intOf]; omega
end
end Pt
end Go.Proofs.Ythgdkhgpboaplaa
