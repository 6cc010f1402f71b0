/- The walk of ScriptBack. -/
import Derived.Test.YtfobbocaodppeaaScr17
import Derived.Deep.RegionHeld3
set_option linter.unusedSimpArgs false
set_option linter.unusedVariables false
namespace Go.Proofs.Ytfobbocaodppeaa
open Go.RowKit
set_option maxRecDepth 100000
namespace Scr
open Ops Vn Wire
theorem clean_cts (l : List EvR) : (l.map cleanR).map (fun e => e.x) = (cts l).map clean := by
  rw [cts_map, List.map_map, List.map_map]
  congr 1
  funext e
  exact cleanR_x e
theorem clean_ok {W : World} {l : List EvR} (h : SOk W l) : SOk W (l.map cleanR) := fun e he => by
  obtain ⟨e0, h0, rfl⟩ := List.mem_map.1 he
  exact cleanR_ok (h e0 h0)
theorem clean_take {l : List EvR} {i : Nat} {e : EvR} (h : l[i]? = some e) : vcells ((l.take (i + 1)).map cleanR) = vcells ((l.take i).map cleanR) ++ vcell (cleanR e) := by
  rw [List.take_add_one, h, List.map_append]
  exact vcells_snoc _ _
theorem has_src {W : World} {g : Nat} {e : EvR} (h : Has W g 41 (vcell e).toArray) : Src W 10 (some ⟨g, 0, none⟩) [e].length (vcells [e]) := by
  have h1 := Src.of_has (m := 1) (size := 10) h rfl
  have e1 : vcells [e] = vcell e := by unfold vcells; simp
  rw [e1]
  simpa using h1
/-- Putting and reading what has been read. -/
theorem back_plain (s : ByteArray) (hs : s.size ≤ 4000) : chkS (ofS (bl s)) = 0 ∧ putR (ofS (bl s)) = ofL (putS (ofS (bl s))) ∧ ofS (putS (ofS (bl s))) = ofS (bl s) ∧ (putS (ofS (bl s))).length ≤ 4000 := by
  obtain ⟨h1, h2⟩ := ofS_back (bl s)
  have h3 := (pcs_all (bl s).length (bl s) (Nat.le_refl _)).2
  rw [size_bl] at h3
  exact ⟨h1, by unfold putR; rw [if_pos h1], h2, by omega⟩
theorem there_plain {W : World} {l : List EvR} (hk : SOk W l) (h : chkS (cts l) = 0) : putR (cts l) = ofL (putS (cts l)) ∧ ofS (putS (cts l)) = (cts l).map clean ∧ (putS (cts l)).length ≤ 256 * l.length := by
  have h1 := chkS_ok h
  have h2 : ∀ x ∈ cts l, TmOk x := fun x hx => by
    rw [cts_map] at hx
    obtain ⟨e, he, rfl⟩ := List.mem_map.1 hx
    exact (hk e he).2.2.2
  have h3 := ofS_putS (cts l) [] h1 h2
  rw [List.append_nil] at h3
  refine ⟨by unfold putR; rw [if_pos h], by rw [h3]; unfold ofS; rw [pcs_nil]; simp, ?_⟩
  have := putS_le (cts l) h1
  rwa [cts_len] at this
/-- The loop over the steps: each is cleaned, and is as the document's; the row of the clean ones. -/
def WantAt (w : World) (l : List EvR) (i : Nat) (A : Option Addr) (c : Nat) (W : World) : Prop :=
  NewSl 41 10 w.heap.size W A i c (vcells ((l.take i).map cleanR)) ∧ Kept NoF w W
set_option maxHeartbeats 16000000 in
theorem law_back (w : World) (A : Option Addr) (c : Nat) (l : List EvR) (hl : Src w 10 A l.length (vcells l)) (hcap : l.length ≤ c) (hk : SOk w l) (hb : ∀ e ∈ l, wtE e.x ≤ 1048576) (s : ByteArray) :
    Calls Try.prog 5 #[.slice A l.length c, .string s] w fun e w' => e = .returned (.bool true) ∧ Below w.heap.size w w' := by
  have hp := parts_any w A c l hl hb
  obtain ⟨z, hz⟩ : ∃ z, partsL l = z := ⟨_, rfl⟩
  rw [hz] at hp
  have HP := Lib.hid hp; clear hp
  have HA := Lib.hid awake40_any
  have hfin : ∀ W, Kept NoF w W → Below w.heap.size w W := fun W hW => hW.below (Nat.le_refl _) (fun _ x => x.elim)
  have HFIN := Lib.hid hfin; clear hfin
  by_cases hbig : 20 < z ∨ (¬ 20 < z ∧ 100 < l.length) ∨ (¬ 20 < z ∧ ¬ 100 < l.length ∧ 4000 < s.size)
  · rcases hbig with h1 | ⟨h1, h2⟩ | ⟨h1, h2, h3⟩
    all_goals
      go_enter Try.func5, Try.ntmps5
      go_wp2_with fail
      refine HP.out.mono ?_
      rintro e w2 ⟨rfl, hk2⟩
      have HK2 := Lib.hid hk2; clear hk2
      go_wp2_with fail
      refine (HA.out _).mono ?_
      rintro e w3 ⟨rfl, hk3⟩
      have HK3 := Lib.hid (HK2.out.then hk3); clear hk3
      go_wp2
      go_ret
      exact ⟨rfl, HFIN.out _ HK3.out⟩
  · have h1 : ¬ 20 < z := fun h => hbig (.inl h)
    have h2 : ¬ 100 < l.length := fun h => hbig (.inr (.inl ⟨h1, h⟩))
    have h3 : ¬ 4000 < s.size := fun h => hbig (.inr (.inr ⟨h1, h2, h⟩))
    clear hbig
    have hput := put_any w A c l hl hk hb (by omega)
    have hput2 := fun W (hW : Kept NoF w W) => put_any W A c l (hl.kept hW (fun _ _ x => x)) (hk.kept hW) hb (by omega)
    have hof := fun W => of_any W s (by omega)
    obtain ⟨bp1, bp2, bp3, bp4⟩ := back_plain s (by omega)
    unfold PutPost at hput2
    unfold OfPost at hof
    have hth := fun h => there_plain (l := l) hk h
    obtain ⟨S, hS⟩ : ∃ S, putR (cts l) = S := ⟨_, rfl⟩
    obtain ⟨m, hm⟩ : ∃ m, chkS (cts l) = m := ⟨_, rfl⟩
    rw [hS, hm] at hput2 hth
    clear hS hm hput
    have HPUT := Lib.hid hput2; clear hput2
    have HTH := Lib.hid hth; clear hth
    have HOF := Lib.hid hof; clear hof
    have HBP := Lib.hid (And.intro bp1 (And.intro bp2 (And.intro bp3 bp4))); clear bp1 bp2 bp3 bp4
    have hps := fun e he => (parts_small (l := l) (by rw [hz]; exact h1) (by omega) e he).1
    have HPS := Lib.hid hps; clear hps
    have HL := Lib.hid hl; clear hl
    have HKS := Lib.hid hk; clear hk
    have HWT := Lib.hid hb; clear hb
    go_enter Try.func5, Try.ntmps5
    go_wp2_with fail
    refine HP.out.mono ?_
    rintro e w2 ⟨rfl, hk2⟩
    have HK2 := Lib.hid hk2; clear hk2
    go_wp2_with fail
    refine (HPUT.out _ HK2.out).mono ?_
    rintro e w3 ⟨rfl, hk3⟩
    have HK := Lib.hid (HK2.out.then hk3); clear hk3 HK2
    by_cases hm0 : m = 0
    rotate_left
    · have hm1 : (m == 0) = false := by simpa using hm0
      clear hm0
      go_wp2_with fail
      refine (HOF.out _).mono ?_
      rintro e wA ⟨B2, c2, l2, rfl, hev2, hm2, hkA⟩
      obtain ⟨f1, f2, f3, f4, f5⟩ := evl_facts hev2 hm2
      rw [size_bl] at f5
      have hp2 := put_any wA B2 c2 l2 f1 f2 (fun e he => (f3 e he).1) (by omega)
      unfold PutPost at hp2
      rw [cts_map, hm2, HBP.out.2.1, HBP.out.1] at hp2
      have hof3 := fun W => of_any W (ofL (putS (ofS (bl s)))) (by rw [ofL_size]; have := HBP.out.2.2.2; omega)
      unfold OfPost at hof3
      rw [bl_ofL, HBP.out.2.2.1] at hof3
      obtain ⟨S2, hS2⟩ : ∃ S2, ofL (putS (ofS (bl s))) = S2 := ⟨_, rfl⟩
      rw [hS2] at hp2 hof3
      have HE2 := Lib.hid (And.intro hev2 (And.intro hm2 (HK.out.then hkA))); clear hev2 hm2 hkA f1 f2 f3 f4 hS2
      have HP2 := Lib.hid hp2; clear hp2
      have HOF3 := Lib.hid hof3; clear hof3
      go_wp2_with fail
      refine HP2.out.mono ?_
      rintro e wB ⟨rfl, hkB⟩
      have HKB := Lib.hid hkB; clear hkB
      go_wp2_with fail
      refine (HOF3.out _).mono ?_
      rintro e wC ⟨B3, c3, l3, rfl, hev3, hm3, hkC⟩
      obtain ⟨f1, f2, f3, f4, f6⟩ := evl_facts hev3 hm3
      rw [size_bl] at f6
      obtain ⟨g1, g2, g3, g4, g5⟩ := evl_facts (HE2.out.1.kept (HKB.out.then hkC)) HE2.out.2.1
      have hsame := rsame_any wC B3 B2 c3 c2 l3 l2 f1 g1 f2 g2 (by omega) (fun e he => (f3 e he).2.1)
      have hst : sameS l3 l2 = true := decide_eq_true (by rw [xs_map, xs_map, hm3, HE2.out.2.1])
      rw [hst] at hsame
      have hkC' := (HE2.out.2.2.then HKB.out).then hkC
      have HKC := Lib.hid hkC'; clear hkC' hkC hst f1 f2 f3 f4 g1 g2 g3 g4 hm3 hev3
      have HS3 := Lib.hid hsame; clear hsame
      go_wp2_with fail
      refine HS3.out.mono ?_
      rintro e wD ⟨rfl, hkD⟩
      have HKD := Lib.hid (HKC.out.then hkD); clear hkD
      go_wp2_with fail
      refine (HA.out _).mono ?_
      rintro e wE ⟨rfl, hkE⟩
      have HKE := Lib.hid (HKD.out.then hkE); clear hkE
      go_wp2
      go_ret
      exact ⟨rfl, HFIN.out _ HKE.out⟩
    · subst hm0
      obtain ⟨t1, t2, t3⟩ := HTH.out rfl
      have HTH2 := Lib.hid (And.intro t1 (And.intro t2 t3)); clear t1 t2 t3 HTH
      go_wp2_with fail
      go_loopw [7, 8] (fun v7 v8 wr => ∃ (i : Nat) (A' : Option Addr) (c' : Nat), i ≤ l.length ∧ v8 = .int .i64 i ∧ v7 = .slice A' i c' ∧ WantAt w l i A' c' wr) (fun _ v8 _ => l.length - (intOf v8).toNat)
      case atStart => exact ⟨0, none, 0, Nat.zero_le _, rfl, rfl, ⟨⟨rfl, .inl ⟨rfl, rfl⟩⟩, fun k hk => by cases hk⟩, HK.out⟩
      case round =>
        obtain ⟨i, A', c', hi, rfl, rfl, hwa⟩ := hrel
        clear HK
        have HWA := Lib.hid hwa; clear hwa
        by_cases hil : i < l.length
        · obtain ⟨ev, hev⟩ : ∃ e, l[i]? = some e := ⟨_, List.getElem?_eq_getElem hil⟩
          have hct := clean_take hev
          have hevc := fun W (hW : Kept NoF w W) => ev_cells (HL.out.kept hW (fun _ _ z => z)) (by omega) i ev hev
          have hcl := fun W => sclean_any W ev
          have hrcl := fun W => rclean_any W ev
          have hone : ∀ u ∈ vcell (cleanR ev), u.oneCell' = true := fun u hu => one_evs [cleanR ev] u (by unfold vcells; simpa using hu)
          have hsm : ∀ W g1 g2, Kept NoF w W → Has W g1 41 (vcell (cleanR ev)).toArray → Has W g2 41 (vcell (cleanR ev)).toArray → Calls Try.prog 10 #[.slice (some ⟨g1, 0, none⟩) 1 1, .slice (some ⟨g2, 0, none⟩) 1 1] W fun e w' => e = .returned (.bool true) ∧ Kept NoF W w' := fun W g1 g2 hW hh1 hh2 => by
            have hok : SOk W [cleanR ev] := fun e he => by
              simp at he
              rw [he]
              exact cleanR_ok ((HKS.out ev (List.mem_of_getElem? hev)).kept hW)
            have hwx := HPS.out ev (List.mem_of_getElem? hev)
            have hops : (cleanR ev).x.ops.length ≤ 1000000 := by
              unfold cleanR
              split
              · omega
              · exact Nat.zero_le _
            have h := rsame_any W (some ⟨g1, 0, none⟩) (some ⟨g2, 0, none⟩) 1 1 [cleanR ev] [cleanR ev] (has_src hh1) (has_src hh2) hok hok (by simp) (fun e he => by simp at he; rw [he]; exact hops)
            have hst : sameS [cleanR ev] [cleanR ev] = true := decide_eq_true rfl
            rw [hst] at h
            exact h
          unfold vagg at hcl hrcl
          obtain ⟨y, hy⟩ : ∃ y, cleanR ev = y := ⟨_, rfl⟩
          rw [hy] at hct hcl hrcl hsm hone
          clear hy hev
          obtain ⟨⟨k, nd, n, ak, an, key, dst, tm, am, ol⟩, eA, ec⟩ := ev
          obtain ⟨⟨k2, nd2, n2, ak2, an2, key2, dst2, tm2, am2, ol2⟩, eA2, ec2⟩ := y
          dsimp only at hcl hrcl hevc
          unfold vcell at hsm hct hone
          dsimp only at hsm hct hone
          obtain ⟨ad, rfl, had, x0, x1, x2, x3, x4, x5, x6, x7, x8, x9⟩ := hevc wr HWA.out.2
          have hevd : ∀ W, Kept NoF w W → (ad.block < W.heap.size ∧ (W.cell? (ad.add (i * 10)) = some (.int .i64 k) ∧ W.cell? ⟨(ad.add (i * 10)).block, (ad.add (i * 10)).off + 1, none⟩ = some (.int .i64 nd) ∧ W.cell? ⟨(ad.add (i * 10)).block, (ad.add (i * 10)).off + 2, none⟩ = some (.int .i64 n) ∧ W.cell? ⟨(ad.add (i * 10)).block, (ad.add (i * 10)).off + 3, none⟩ = some (.int .i64 ak) ∧ W.cell? ⟨(ad.add (i * 10)).block, (ad.add (i * 10)).off + 4, none⟩ = some (.int .i64 an) ∧ W.cell? ⟨(ad.add (i * 10)).block, (ad.add (i * 10)).off + 5, none⟩ = some (.string key) ∧ W.cell? ⟨(ad.add (i * 10)).block, (ad.add (i * 10)).off + 6, none⟩ = some (.string dst) ∧ W.cell? ⟨(ad.add (i * 10)).block, (ad.add (i * 10)).off + 7, none⟩ = some (.int .u64 tm) ∧ W.cell? ⟨(ad.add (i * 10)).block, (ad.add (i * 10)).off + 8, none⟩ = some (.int .i64 am) ∧ W.cell? ⟨(ad.add (i * 10)).block, (ad.add (i * 10)).off + 9, none⟩ = some (.slice eA ol.length ec))) := fun W hW => by
            obtain ⟨ad', h0, h1, h2⟩ := hevc W hW
            injection h0 with h0
            subst h0
            exact ⟨h1, h2⟩
          have HEVD := Lib.hid hevd; clear hevd hevc
          have HCL := Lib.hid hcl; clear hcl
          have HRCL := Lib.hid hrcl; clear hrcl
          have HSM := Lib.hid hsm; clear hsm
          have HCT := Lib.hid hct; clear hct
          have HONE := Lib.hid hone; clear hone
          go_wp2_with fail
          refine (HCL.out _).mono ?_
          rintro e w5 ⟨rfl, hk5⟩
          have hkw5 := HWA.out.2.then hk5
          have hwa5 := HWA.out.1.kept hk5
          have hk6 : Kept NoF w (w5.alloc (.cells #[.int .i64 k2, .int .i64 nd2, .int .i64 n2, .int .i64 ak2, .int .i64 an2, .string key2, .string dst2, .int .u64 tm2, .int .i64 am2, .slice eA2 ol2.length ec2] 41)) := hkw5.alloc _
          have hX6 := Has.new w5 41 #[.int .i64 k2, .int .i64 nd2, .int .i64 n2, .int .i64 ak2, .int .i64 an2, .string key2, .string dst2, .int .u64 tm2, .int .i64 am2, .slice eA2 ol2.length ec2]
          have hwa6 := hwa5.kept ((Kept.refl NoF w5).alloc (.cells #[.int .i64 k2, .int .i64 nd2, .int .i64 n2, .int .i64 ak2, .int .i64 an2, .string key2, .string dst2, .int .u64 tm2, .int .i64 am2, .slice eA2 ol2.length ec2] 41))
          clear x0 x1 x2 x3 x4 x5 x6 x7 x8 x9 had HWA hk5 hkw5 hwa5
          go_wp2_with fail
          obtain ⟨W6, hW6⟩ : ∃ W6, w5.alloc (.cells #[.int .i64 k2, .int .i64 nd2, .int .i64 n2, .int .i64 ak2, .int .i64 an2, .string key2, .string dst2, .int .u64 tm2, .int .i64 am2, .slice eA2 ol2.length ec2] 41) = W6 := ⟨_, rfl⟩
          obtain ⟨gx, hgx⟩ : ∃ gx, w5.heap.size = gx := ⟨_, rfl⟩
          rw [hW6] at hk6 hX6 hwa6 ⊢
          rw [hgx] at hX6 ⊢
          clear hW6 hgx
          have hs6 : ∀ W, Kept NoF W6 W → ((W.cell? ⟨gx, 0, none⟩ = some (.int .i64 k2) ∧ W.cell? ⟨gx, 1, none⟩ = some (.int .i64 nd2) ∧ W.cell? ⟨gx, 2, none⟩ = some (.int .i64 n2) ∧ W.cell? ⟨gx, 3, none⟩ = some (.int .i64 ak2) ∧ W.cell? ⟨gx, 4, none⟩ = some (.int .i64 an2) ∧ W.cell? ⟨gx, 5, none⟩ = some (.string key2) ∧ W.cell? ⟨gx, 6, none⟩ = some (.string dst2) ∧ W.cell? ⟨gx, 7, none⟩ = some (.int .u64 tm2) ∧ W.cell? ⟨gx, 8, none⟩ = some (.int .i64 am2) ∧ W.cell? ⟨gx, 9, none⟩ = some (.slice eA2 ol2.length ec2)) ∧ (W.cell? (ad.add (i * 10)) = some (.int .i64 k) ∧ W.cell? ⟨(ad.add (i * 10)).block, (ad.add (i * 10)).off + 1, none⟩ = some (.int .i64 nd) ∧ W.cell? ⟨(ad.add (i * 10)).block, (ad.add (i * 10)).off + 2, none⟩ = some (.int .i64 n) ∧ W.cell? ⟨(ad.add (i * 10)).block, (ad.add (i * 10)).off + 3, none⟩ = some (.int .i64 ak) ∧ W.cell? ⟨(ad.add (i * 10)).block, (ad.add (i * 10)).off + 4, none⟩ = some (.int .i64 an) ∧ W.cell? ⟨(ad.add (i * 10)).block, (ad.add (i * 10)).off + 5, none⟩ = some (.string key) ∧ W.cell? ⟨(ad.add (i * 10)).block, (ad.add (i * 10)).off + 6, none⟩ = some (.string dst) ∧ W.cell? ⟨(ad.add (i * 10)).block, (ad.add (i * 10)).off + 7, none⟩ = some (.int .u64 tm) ∧ W.cell? ⟨(ad.add (i * 10)).block, (ad.add (i * 10)).off + 8, none⟩ = some (.int .i64 am) ∧ W.cell? ⟨(ad.add (i * 10)).block, (ad.add (i * 10)).off + 9, none⟩ = some (.slice eA ol.length ec))) := fun W hW => by
            have h1 := hX6.kept hW (fun z => z)
            exact ⟨⟨h1.cell 0, h1.cell 1, h1.cell 2, h1.cell 3, h1.cell 4, h1.cell 5, h1.cell 6, h1.cell 7, h1.cell 8, h1.cell 9⟩, (HEVD.out W (hk6.then hW)).2⟩
          have hlt6 := (HEVD.out W6 hk6).1
          obtain ⟨⟨y0, y1, y2, y3, y4, y5, y6, y7, y8, y9⟩, x0, x1, x2, x3, x4, x5, x6, x7, x8, x9⟩ := hs6 W6 (Kept.refl _ _)
          have HS6 := Lib.hid hs6; clear hs6
          have hn1 : ∀ n, Has ((W6.drewN n).alloc (.cells #[.int .i64 k2, .int .i64 nd2, .int .i64 n2, .int .i64 ak2, .int .i64 an2, .string key2, .string dst2, .int .u64 tm2, .int .i64 am2, .slice eA2 ol2.length ec2] 41)) W6.heap.size 41 #[.int .i64 k2, .int .i64 nd2, .int .i64 n2, .int .i64 ak2, .int .i64 an2, .string key2, .string dst2, .int .u64 tm2, .int .i64 am2, .slice eA2 ol2.length ec2] := fun n => Has.new (W6.drewN n) _ _
          have HN1 := Lib.hid hn1; clear hn1
          have HK6 := Lib.hid hk6; clear hk6
          have HX6 := Lib.hid hX6; clear hX6
          have HWA6 := Lib.hid hwa6; clear hwa6
          go_region_held3 (fun W => (W.cell? ⟨gx, 0, none⟩ = some (.int .i64 k2) ∧ W.cell? ⟨gx, 1, none⟩ = some (.int .i64 nd2) ∧ W.cell? ⟨gx, 2, none⟩ = some (.int .i64 n2) ∧ W.cell? ⟨gx, 3, none⟩ = some (.int .i64 ak2) ∧ W.cell? ⟨gx, 4, none⟩ = some (.int .i64 an2) ∧ W.cell? ⟨gx, 5, none⟩ = some (.string key2) ∧ W.cell? ⟨gx, 6, none⟩ = some (.string dst2) ∧ W.cell? ⟨gx, 7, none⟩ = some (.int .u64 tm2) ∧ W.cell? ⟨gx, 8, none⟩ = some (.int .i64 am2) ∧ W.cell? ⟨gx, 9, none⟩ = some (.slice eA2 ol2.length ec2)) ∧ (W.cell? (ad.add (i * 10)) = some (.int .i64 k) ∧ W.cell? ⟨(ad.add (i * 10)).block, (ad.add (i * 10)).off + 1, none⟩ = some (.int .i64 nd) ∧ W.cell? ⟨(ad.add (i * 10)).block, (ad.add (i * 10)).off + 2, none⟩ = some (.int .i64 n) ∧ W.cell? ⟨(ad.add (i * 10)).block, (ad.add (i * 10)).off + 3, none⟩ = some (.int .i64 ak) ∧ W.cell? ⟨(ad.add (i * 10)).block, (ad.add (i * 10)).off + 4, none⟩ = some (.int .i64 an) ∧ W.cell? ⟨(ad.add (i * 10)).block, (ad.add (i * 10)).off + 5, none⟩ = some (.string key) ∧ W.cell? ⟨(ad.add (i * 10)).block, (ad.add (i * 10)).off + 6, none⟩ = some (.string dst) ∧ W.cell? ⟨(ad.add (i * 10)).block, (ad.add (i * 10)).off + 7, none⟩ = some (.int .u64 tm) ∧ W.cell? ⟨(ad.add (i * 10)).block, (ad.add (i * 10)).off + 8, none⟩ = some (.int .i64 am) ∧ W.cell? ⟨(ad.add (i * 10)).block, (ad.add (i * 10)).off + 9, none⟩ = some (.slice eA ol.length ec)))
            (first | with_reducible exact s3 | (with_reducible exact s9) | with_reducible exact ⟨⟨y0, y1, y2, y3, y4, y5, y6, y7, y8, y9⟩, x0, x1, x2, x3, x4, x5, x6, x7, x8, x9⟩ | (refine HS6.out _ ?_; (repeat' (first | with_reducible exact Kept.refl _ _ | with_reducible refine Kept.put ?_ ?_ | with_reducible refine Kept.drewN ?_ _ | with_reducible refine Kept.drew ?_ | with_reducible refine Kept.alloc ?_ _ | (with_reducible exact HK3.out) | (right; simp; done)))))
            (first
              | (go_at_call 10; refine (HSM.out _ _ _ ?_ ?_ ?_).mono ?_; (focus (refine HK6.out.then ?_; (repeat' (first | with_reducible exact Kept.refl _ _ | with_reducible refine Kept.put ?_ ?_ | with_reducible refine Kept.drewN ?_ _ | with_reducible refine Kept.drew ?_ | with_reducible refine Kept.alloc ?_ _ | (with_reducible exact HK3.out) | (right; simp; done))))); (focus ((repeat (first | with_reducible exact HG1.out | with_reducible exact Has.new _ _ _ | with_reducible exact Has.new_at _ _ _ (size_alloc _ _).symm | with_reducible apply Has.drewN | with_reducible apply Has.drew | with_reducible apply Has.alloc)); done)); (focus ((repeat (first | with_reducible exact HG1.out | with_reducible exact Has.new _ _ _ | with_reducible exact Has.new_at _ _ _ (size_alloc _ _).symm | with_reducible apply Has.drewN | with_reducible apply Has.drew | with_reducible apply Has.alloc)); done)); rintro e w9 ⟨rfl, hk9⟩; have hk9' := Kept.then (a := W6) (by (repeat' (first | with_reducible exact Kept.refl _ _ | with_reducible refine Kept.put ?_ ?_ | with_reducible refine Kept.drewN ?_ _ | with_reducible refine Kept.drew ?_ | with_reducible refine Kept.alloc ?_ _ | (with_reducible exact HK3.out) | (right; simp; done)))) hk9; have s9 := HS6.out _ hk9'; have HK9 := Lib.hid hk9'; clear hk9 hk9')
              | (go_at_call 14; refine (HRCL.out _).mono ?_; rintro e w7 ⟨rfl, hk7⟩; have hg1 := Has.kept (F := NoF) (HN1.out _) hk7 (fun z => z); have hk7' := Kept.then (a := W6) (by (repeat' (first | with_reducible exact Kept.refl _ _ | with_reducible refine Kept.put ?_ ?_ | with_reducible refine Kept.drewN ?_ _ | with_reducible refine Kept.drew ?_ | with_reducible refine Kept.alloc ?_ _ | (fail) | (right; simp; done)))) hk7; have s3 := HS6.out _ hk7'; have HG1 := Lib.hid hg1; have HK3 := Lib.hid hk7'; clear hg1 hk7 hk7')
              | (go_at_call 14; refine (HRCL.out _).mono ?_; rintro e w7 ⟨rfl, hk7⟩; have hk7' := Kept.then (a := W6) (by (repeat' (first | with_reducible exact Kept.refl _ _ | with_reducible refine Kept.put ?_ ?_ | with_reducible refine Kept.drewN ?_ _ | with_reducible refine Kept.drew ?_ | with_reducible refine Kept.alloc ?_ _ | (fail) | (right; simp; done)))) hk7; have s3 := HS6.out _ hk7'; have HK3 := Lib.hid hk7'; clear hk7 hk7'))
          all_goals
            clear y0 y1 y2 y3 y4 y5 y6 y7 y8 y9 x0 x1 x2 x3 x4 x5 x6 x7 x8 x9
            have hwa9 := HWA6.out.kept HK9.out
            have hkw9 := HK6.out.then HK9.out
            obtain ⟨⟨y0, y1, y2, y3, y4, y5, y6, y7, y8, y9⟩, _⟩ := s9
            have hm1 : i + 1 ≤ maxLen := by unfold maxLen; omega
            have hm2 : (i + 1) * 112 ≤ 140737488355328 := by omega
            have HM1 := Lib.hid hm1; clear hm1
            have HM2 := Lib.hid hm2; clear hm2
            have HW9 := Lib.hid (And.intro hwa9 hkw9); clear hwa9 hkw9
            clear HWA6 HK6 HX6 HS6 HK3 s3
            go_wp2_with (at_builtin; refine list_append_src elemEv (.tmp 55) (.tmp 57) rfl rfl (Value.slice A' i c') rfl ((HW9.out.1.kept ((Kept.refl NoF _).alloc _)).1) 1 rfl (Src.of_has (m := 1) (cs := #[.int .i64 k2, .int .i64 nd2, .int .i64 n2, .int .i64 ak2, .int .i64 an2, .string key2, .string dst2, .int .u64 tm2, .int .i64 am2, .slice eA2 ol2.length ec2]) (Has.new_at _ 41 _ (by simp)) rfl) (by exact HONE.out) HM1.out HM2.out ?_; intro A6 c6 w12 ho6 hg6 ha6)
            have hk12 : Kept NoF w w12 := Kept.grown (b := _) (HW9.out.2.alloc _) hg6 (fun k hk => .inr (HW9.out.1.2 k hk))
            have hsz9 := HW9.out.2.size
            have hwa12 : WantAt w l (i + 1) A6 c6 w12 := by
              refine ⟨?_, hk12⟩
              rw [HCT.out]
              refine ⟨ho6, fun k hk => ?_⟩
              rcases ha6 with e | e
              · exact HW9.out.1.2 k (e.symm.trans hk)
              · have hk' : (Value.slice A6 (i + 1) c6).ownBlock = some k := hk
                rw [hk'] at e
                injection e with e
                simp at e
                omega
            have HF := Lib.hid hwa12; clear hwa12 hk12 ho6 hg6 ha6
            go_wp2_with fail
            go_roundw
            case rel => exact ⟨i + 1, A6, c6, by omega, by go_num, rfl, HF.out⟩
            case measure => simp [intOf]; omega
        · obtain rfl : i = l.length := by omega
          have hwa := HWA.out
          unfold WantAt at hwa
          rw [List.take_length] at hwa
          obtain ⟨t1, t2, t3⟩ := HTH2.out
          have hsS : S.size ≤ 1000000 := by rw [t1, ofL_size]; omega
          have hof2 := fun W => of_any W S hsS
          unfold OfPost at hof2
          have hbS : ofS (bl S) = (cts l).map clean := by rw [t1, bl_ofL, t2]
          rw [hbS] at hof2
          have HOF2 := Lib.hid hof2; clear hof2
          have HWA2 := Lib.hid hwa; clear hwa HWA
          have HBS := Lib.hid hbS; clear hbS t1 t2 t3
          go_wp2_with fail
          refine (HOF2.out _).mono ?_
          rintro e w5 ⟨B1, c1, l1, rfl, hev1, hm1, hk5⟩
          obtain ⟨f1, f2, f3, f4, f5⟩ := evl_facts hev1 (hm1.trans HBS.out.symm)
          rw [size_bl] at f5
          have hgs := Src.of_own (HWA2.out.1.kept hk5).1
          have hgo := clean_ok (HKS.out.kept (HWA2.out.2.then hk5))
          have hsame := rsame_any w5 B1 A' c1 c' l1 (l.map cleanR) f1 (by rw [List.length_map]; exact hgs) f2 hgo (by omega) (fun e he => (f3 e he).2.1)
          have hst : sameS l1 (l.map cleanR) = true := decide_eq_true (by rw [xs_map, xs_map, hm1, clean_cts])
          rw [hst, List.length_map] at hsame
          have hkw5 := HWA2.out.2.then hk5
          have HK5 := Lib.hid hkw5; clear hkw5 hk5 hst f1 f2 f3 f4 hgs hgo hm1 hev1
          have HS := Lib.hid hsame; clear hsame
          go_wp2_with fail
          refine HS.out.mono ?_
          rintro e w6 ⟨rfl, hk6⟩
          have HK6 := Lib.hid (HK5.out.then hk6); clear hk6
          go_wp2_with fail
          refine (HOF.out _).mono ?_
          rintro e wA ⟨B2, c2, l2, rfl, hev2, hm2, hkA⟩
          obtain ⟨f1, f2, f3, f4, f5⟩ := evl_facts hev2 hm2
          rw [size_bl] at f5
          have hp2 := put_any wA B2 c2 l2 f1 f2 (fun e he => (f3 e he).1) (by omega)
          unfold PutPost at hp2
          rw [cts_map, hm2, HBP.out.2.1, HBP.out.1] at hp2
          have hof3 := fun W => of_any W (ofL (putS (ofS (bl s)))) (by rw [ofL_size]; have := HBP.out.2.2.2; omega)
          unfold OfPost at hof3
          rw [bl_ofL, HBP.out.2.2.1] at hof3
          obtain ⟨S2, hS2⟩ : ∃ S2, ofL (putS (ofS (bl s))) = S2 := ⟨_, rfl⟩
          rw [hS2] at hp2 hof3
          have HE2 := Lib.hid (And.intro hev2 (And.intro hm2 (HK6.out.then hkA))); clear hev2 hm2 hkA f1 f2 f3 f4 hS2
          have HP2 := Lib.hid hp2; clear hp2
          have HOF3 := Lib.hid hof3; clear hof3
          go_wp2_with fail
          refine HP2.out.mono ?_
          rintro e wB ⟨rfl, hkB⟩
          have HKB := Lib.hid hkB; clear hkB
          go_wp2_with fail
          refine (HOF3.out _).mono ?_
          rintro e wC ⟨B3, c3, l3, rfl, hev3, hm3, hkC⟩
          obtain ⟨f1, f2, f3, f4, f6⟩ := evl_facts hev3 hm3
          rw [size_bl] at f6
          obtain ⟨g1, g2, g3, g4, g5⟩ := evl_facts (HE2.out.1.kept (HKB.out.then hkC)) HE2.out.2.1
          have hsame := rsame_any wC B3 B2 c3 c2 l3 l2 f1 g1 f2 g2 (by omega) (fun e he => (f3 e he).2.1)
          have hst : sameS l3 l2 = true := decide_eq_true (by rw [xs_map, xs_map, hm3, HE2.out.2.1])
          rw [hst] at hsame
          have hkC' := (HE2.out.2.2.then HKB.out).then hkC
          have HKC := Lib.hid hkC'; clear hkC' hkC hst f1 f2 f3 f4 g1 g2 g3 g4 hm3 hev3
          have HS3 := Lib.hid hsame; clear hsame
          go_wp2_with fail
          refine HS3.out.mono ?_
          rintro e wD ⟨rfl, hkD⟩
          have HKD := Lib.hid (HKC.out.then hkD); clear hkD
          go_wp2_with fail
          refine (HA.out _).mono ?_
          rintro e wE ⟨rfl, hkE⟩
          have HKE := Lib.hid (HKD.out.then hkE); clear hkE
          go_wp2
          go_ret
          exact ⟨rfl, HFIN.out _ HKE.out⟩
end Scr
end Go.Proofs.Ytfobbocaodppeaa
