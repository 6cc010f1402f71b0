/- EtherPlays. -/
import Derived.Test.YtploafhenmfmhaaEtherSame
import Derived.Test.YtploafhenmfmhaaEtherIter
import Derived.Test.YtploafhenmfmhaaOpenPk
set_option linter.unusedSimpArgs false
set_option linter.unusedVariables false
namespace Go.Proofs.Ytploafhenmfmhaa
open Go.RowKit
set_option maxRecDepth 100000
namespace Ether

abbrev Act := Int × Pk × Int
def acells (a : Act) : List Value := [.int .i64 a.1, .int .i64 a.2.1.1, .int .i64 a.2.1.2.1, .string a.2.1.2.2, .int .i64 a.2.2]

theorem act_cells {w : World} {A : Option Addr} {m : Nat} {l : List Act} (h : Src w 5 A m (l.flatMap acells)) (hm : 0 < m) (i : Nat) (a : Act) (ha : l[i]? = some a) :
    ∃ ad, A = some ad ∧ ad.block < w.heap.size ∧ w.cell? (ad.add (i * 5)) = some (.int .i64 a.1) ∧ w.cell? ⟨(ad.add (i * 5)).block, (ad.add (i * 5)).off + 1, none⟩ = some (.int .i64 a.2.1.1) ∧ w.cell? ⟨(ad.add (i * 5)).block, (ad.add (i * 5)).off + 2, none⟩ = some (.int .i64 a.2.1.2.1) ∧ w.cell? ⟨(ad.add (i * 5)).block, (ad.add (i * 5)).off + 3, none⟩ = some (.string a.2.1.2.2) ∧ w.cell? ⟨(ad.add (i * 5)).block, (ad.add (i * 5)).off + 4, none⟩ = some (.int .i64 a.2.2) := by
  obtain ⟨ad, rfl, had, hcell⟩ := h.2 hm
  have hk : ∀ j v, j < 5 → (acells a)[j]? = some v → w.cell? (ad.add (i * 5 + j)) = some v := by
    intro j v hj hv
    refine hcell _ _ ?_
    rw [flat_get acells 5 (by decide) (fun _ => rfl), show (i * 5 + j) / 5 = i by omega, show (i * 5 + j) % 5 = j by omega, ha]
    exact hv
  refine ⟨ad, rfl, had, hk 0 _ (by decide) rfl, ?_, ?_, ?_, ?_⟩
  · rw [← add_lit _ (by omega), add_add]; exact hk 1 _ (by decide) rfl
  · rw [← add_lit _ (by omega), add_add]; exact hk 2 _ (by decide) rfl
  · rw [← add_lit _ (by omega), add_add]; exact hk 3 _ (by decide) rfl
  · rw [← add_lit _ (by omega), add_add]; exact hk 4 _ (by decide) rfl
end Ether

section
open Go.WideShapes Go.ChangeShapes
variable {H : Type} {enc : TypeId × Value → H} {W : World} {v : Value} {d : DataW H} {ps : List MemPlace} {r : Reach} {b0 : Nat}
theorem open_acts (hv : Value.okWide Try.prog W r b0 58 v) (h : DataW.Trod enc Try.prog W 0 (fun _ => true) true 58 v d ps) :
    ∃ (A : Option Addr) (c : Nat) (l : List Ether.Act), v = .slice A l.length c ∧ l.length ≤ c ∧ c ≤ maxLen ∧ Src W 5 A l.length (l.flatMap Ether.acells) := by
  obtain ⟨A, c, l, h1, h2, h3, h4, h5, _⟩ := open_rows (α := Ether.Act) Ether.acells (fun _ => True) 5 Try.underlying58 (by kernel_rfl) (by decide) (fun _ => rfl)
    (fun fuel cs y hy => by
      obtain ⟨y0, y1, y2, n, _, hl, h0, h1, h2⟩ := Deep.trod_struct3 Try.underlying60 hy
      have hC : Try.prog.cellsOf 60 = 5 := by kernel_rfl
      rw [hC] at hl
      match cs, hl with
      | [c0, c1, c2, c3, c4], _ =>
        have e3 : Try.prog.cellsOf 3 = 1 := by kernel_rfl
        have e9 : Try.prog.cellsOf 9 = 1 := by kernel_rfl
        have eP : Try.prog.cellsOf 36 = 3 := by kernel_rfl
        obtain ⟨z0, z1, z2, m, _, hl', g0, g1, g2⟩ := Deep.trod_struct3 Try.underlying36 h1
        obtain ⟨x0, hx0, _, _⟩ := DataW.trod_int Try.underlying3 h0
        obtain ⟨x1, hx1, _, _⟩ := DataW.trod_int Try.underlying3 g0
        obtain ⟨x2, hx2, _, _⟩ := DataW.trod_int Try.underlying3 g1
        obtain ⟨x3, hx3, _, hm⟩ := DataW.trod_string Try.underlying9 g2
        obtain ⟨x4, hx4, _, _⟩ := DataW.trod_int Try.underlying3 h2
        simp [e3, e9, eP] at hx0 hx1 hx2 hx3 hx4
        subst hx0
        subst hx1
        subst hx2
        subst hx3
        subst hx4
        exact ⟨(x0, (x1, x2, x3), x4), rfl, trivial⟩) h (okWide_slice Try.underlying58 hv)
  exact ⟨A, c, l, h1, h2, h3, h4⟩
end

namespace Ether
theorem takeP_len (ps : List Pk) (k : Int) : (takeP ps k).length ≤ ps.length := by
  unfold takeP
  split
  · exact Nat.le_refl _
  · exact List.length_eraseIdx_le _ _
theorem doubleP_len (ps : List Pk) (k : Int) : (doubleP ps k).length ≤ ps.length + 1 := by unfold doubleP; split <;> simp
theorem sendL_le (ps : List Pk) (p : Pk) (i : Int) (lost : Int) (h0 : 0 ≤ lost) (h : lost ≤ i) : 0 ≤ sendL ps lost p ∧ sendL ps lost p ≤ i + 1 := by
  unfold sendL
  split <;> (try split) <;> omega
theorem dropL_le (ps : List Pk) (i : Int) (lost : Int) (h0 : 0 ≤ lost) (h : lost ≤ i) : 0 ≤ dropL ps lost ∧ dropL ps lost ≤ i + 1 := by
  unfold dropL
  split <;> omega

set_option maxHeartbeats 40000000 in
theorem law_plays (w : World) (A : Option Addr) (c : Nat) (l : List Act) (hl : Src w 5 A l.length (l.flatMap acells)) (hlc : l.length ≤ c) (hcm : c ≤ maxLen) :
    Calls Try.prog 7 #[.slice A l.length c] w fun e w' => e = .returned (.bool true) ∧ Below w.heap.size w w' := by
  unfold maxLen at hcm
  have HL := Lib.hid hl; clear hl
  go_enter Try.func7, Try.ntmps7
  go_wp2_with fail
  refine (new_any _).mono ?_
  rintro e w1 ⟨g, F1, rfl, hA1, hk1, hF1⟩
  have HA1 := Lib.hid hA1; clear hA1
  go_wp2_with fail
  go_loopw [5, 6, 7, 8, 9, 10] (fun v5 v6 v7 v8 v9 v10 wr => ∃ (i : Nat) (F G : Nat → Prop) (ps : List Pk) (lost : Int), i ≤ l.length ∧ i ≤ 60 ∧ v5 = .int .i64 i ∧ ps.length ≤ i ∧ 0 ≤ lost ∧ lost ≤ i ∧ EtherAt wr g F ps lost ∧ RefAt wr w1.heap.size G ps lost ∧ Sep F G ∧ (∀ k, F k → w.heap.size ≤ k) ∧ (∀ k, G k → w.heap.size ≤ k) ∧ Below w.heap.size w wr) (fun v5 _ _ _ _ _ _ => 60 - (intOf v5).toNat)
  case atStart =>
    refine ⟨0, F1, fun k => k = w1.heap.size ∨ (Value.slice none 0 0).ownBlock = some k, [], 0, by omega, by omega, rfl, Nat.le_refl _, by omega, by omega, HA1.out.kept ((Kept.refl NoF _).alloc _) (fun _ _ x => x), ⟨none, 0, fun _ => Iff.rfl, Has.new _ _ _, ⟨rfl, .inl ⟨rfl, rfl⟩⟩⟩, ?_, hF1, ?_, (hk1.below (Nat.le_refl _) (fun _ x => x.elim)).alloc hk1.size _⟩
    · intro k hf hx
      have := HA1.out.lt k hf
      rcases hx with rfl | hx
      · omega
      · cases hx
    · rintro k (rfl | hx)
      · exact hk1.size
      · cases hx
  case round =>
    obtain ⟨i, F, G, ps, lost, hi, hi6, rfl, hps, hl0, hl1, hA, hR, hS, hF, hG, hB⟩ := hrel
    have hsz := hB.size
    by_cases hlt : i < l.length ∧ i < 60
    · obtain ⟨hlt1, hlt2⟩ := hlt
      obtain ⟨a, ha⟩ : ∃ a, l[i]? = some a := ⟨_, List.getElem?_eq_getElem hlt1⟩
      obtain ⟨ad, rfl, had, k0, k1, k2, k3, k4⟩ := act_cells HL.out (by omega) i a ha
      clear ha
      obtain ⟨K, ⟨p1, p2, p3⟩, N⟩ := a
      dsimp only at k0 k1 k2 k3 k4
      have d0 : ∀ W, Below w.heap.size w W → W.cell? (ad.add (i * 5)) = some (.int .i64 K) ∧ W.cell? ⟨(ad.add (i * 5)).block, (ad.add (i * 5)).off + 1, none⟩ = some (.int .i64 p1) ∧ W.cell? ⟨(ad.add (i * 5)).block, (ad.add (i * 5)).off + 2, none⟩ = some (.int .i64 p2) ∧ W.cell? ⟨(ad.add (i * 5)).block, (ad.add (i * 5)).off + 3, none⟩ = some (.string p3) ∧ W.cell? ⟨(ad.add (i * 5)).block, (ad.add (i * 5)).off + 4, none⟩ = some (.int .i64 N) := by
        intro W hW
        have hk : ∀ j u, w.cell? ⟨(ad.add (i * 5)).block, j, none⟩ = some u → W.cell? ⟨(ad.add (i * 5)).block, j, none⟩ = some u := fun j u hu => (hW.cell (p := ⟨(ad.add (i * 5)).block, j, none⟩) (by rw [block_add]; exact had)).trans hu
        exact ⟨(hW.cell (p := ad.add (i * 5)) (by rw [block_add]; exact had)).trans k0, hk _ _ k1, hk _ _ k2, hk _ _ k3, hk _ _ k4⟩
      clear k0 k1 k2 k3 k4
      obtain ⟨c0, c1, c2, c3, c4⟩ := d0 wr hB
      have D := Lib.hid d0; clear d0
      have hself := hR.self
      have HSEP := Lib.hid hS
      have hsend : ∀ W, Kept NoF wr W → _ := fun W hW => send_any (hA.kept hW fun _ _ x => x) (by omega) (by omega) (p1, p2, p3)
      have htake : ∀ W, Kept NoF wr W → _ := fun W hW => take_any (hA.kept hW fun _ _ x => x) (by omega) N
      have hdrop : ∀ W, Kept NoF wr W → _ := fun W hW => drop_any (hA.kept hW fun _ _ x => x) (by omega) (by omega) (by omega) N
      have hdbl : ∀ W, Kept NoF wr W → _ := fun W hW => double_any (hA.kept hW fun _ _ x => x) N
      have hrs : ∀ W, Kept F wr W → _ := fun W hW => rsend_any (hR.kept hW hS.symm) (by omega) (by omega) (p1, p2, p3)
      have hrt : ∀ W, Kept F wr W → _ := fun W hW => rtake_any (hR.kept hW hS.symm) (by omega) N
      have hrd : ∀ W, Kept F wr W → _ := fun W hW => rdrop_any (hR.kept hW hS.symm) (by omega) (by omega) (by omega) N
      have hrb : ∀ W, Kept F wr W → _ := fun W hW => rdouble_any (hR.kept hW hS.symm) (by omega) N
      unfold agg at hsend hrs
      have hcase : K = 0 ∨ K = 1 ∨ K = 2 ∨ K = 3 ∨ ((K == 0) = false ∧ (K == 1) = false ∧ (K == 2) = false ∧ (K == 3) = false) := by
        simp only [beq_eq_false_iff_ne]
        omega
      have HCASE := Lib.hid hcase; clear hcase
      have HA := Lib.hid hA; clear hA
      have HRL := Lib.hid hR.lt
      have HR := Lib.hid hR; clear hR
      have HSEND := Lib.hid hsend; clear hsend
      have HTAKE := Lib.hid htake; clear htake
      have HDROP := Lib.hid hdrop; clear hdrop
      have HDBL := Lib.hid hdbl; clear hdbl
      have HRS := Lib.hid hrs; clear hrs
      have HRT := Lib.hid hrt; clear hrt
      have HRD := Lib.hid hrd; clear hrd
      have HRB := Lib.hid hrb; clear hrb
      rcases HCASE.out with rfl | rfl | rfl | rfl | ⟨hK0, hK1, hK2, hK3⟩
      · clear HCASE
        go_wp2_with fail
        obtain ⟨E, hE⟩ : ∃ E : Int, E = sendE ps (p1, p2, p3) := ⟨_, rfl⟩
        rw [← hE] at HSEND HRS
        clear hE
        go_region_held3 (fun W => W.cell? ⟨(ad.add (i * 5)).block, (ad.add (i * 5)).off + 1, none⟩ = some (.int .i64 p1) ∧ W.cell? ⟨(ad.add (i * 5)).block, (ad.add (i * 5)).off + 2, none⟩ = some (.int .i64 p2) ∧ W.cell? ⟨(ad.add (i * 5)).block, (ad.add (i * 5)).off + 3, none⟩ = some (.string p3)) (first | exact ⟨c1, c2, c3⟩ | exact e2 | exact e3 | (simp [go_sem, c1, c2, c3, c4]; done))
          (first
            | (go_at_call 20; refine (HSEND.out _ (by (repeat' (first | with_reducible exact Kept.refl _ _ | with_reducible refine Kept.put ?_ ?_ | with_reducible refine Kept.drewN ?_ _ | with_reducible refine Kept.drew ?_ | with_reducible refine Kept.alloc ?_ _ | (fail) | (right; simp; done))))).mono ?_; rintro e w2 ⟨rfl, F2, hA2, hG2, hk2⟩; have hq2 : Kept F wr w2 := Kept.then (by (repeat' (first | with_reducible exact Kept.refl _ _ | with_reducible refine Kept.put ?_ ?_ | with_reducible refine Kept.drewN ?_ _ | with_reducible refine Kept.drew ?_ | with_reducible refine Kept.alloc ?_ _ | (fail) | (right; simp; done)))) hk2; have hAL := hA2.lt; have e2 := (fun W h => And.intro (D.out W h).2.1 (And.intro (D.out W h).2.2.1 (D.out W h).2.2.2.1)) w2 (hB.trans (hq2.below hsz hF)))
            | (go_at_call 21; refine (HRS.out _ (by (repeat' (first | with_reducible exact Kept.refl _ _ | with_reducible refine Kept.put ?_ ?_ | with_reducible refine Kept.drewN ?_ _ | with_reducible refine Kept.drew ?_ | with_reducible refine Kept.alloc ?_ _ | (with_reducible exact hq2) | (right; simp; done))))).mono ?_; rintro e w3 ⟨rfl, G3, hR3, hG3, hk3⟩; have hq3 : Kept (fun k => k = w1.heap.size) w2 w3 := Kept.then (by (repeat' (first | with_reducible exact Kept.refl _ _ | with_reducible refine Kept.put ?_ ?_ | with_reducible refine Kept.drewN ?_ _ | with_reducible refine Kept.drew ?_ | with_reducible refine Kept.alloc ?_ _ | (fail) | (right; simp; done)))) hk3; have e3 := (fun W h => And.intro (D.out W h).2.1 (And.intro (D.out W h).2.2.1 (D.out W h).2.2.2.1)) w3 ((hB.trans (hq2.below hsz hF)).trans (hq3.below (by have := hq2.size; omega) (fun k h => by subst h; exact hG _ hself)))))
        have hq : (sendP ps (p1, p2, p3)).length ≤ i + 1 := by have := sendP_len ps (p1, p2, p3); omega
        have hq0 : 0 ≤ (sendL ps lost (p1, p2, p3)) ∧ (sendL ps lost (p1, p2, p3)) ≤ (i : Int) + 1 := by exact sendL_le _ _ _ _ hl0 hl1
        generalize (sendP ps (p1, p2, p3)) = ps3 at *
        generalize (sendL ps lost (p1, p2, p3)) = lost3 at *
        have hs2 := hq2.size
        have hs3 := hq3.size
        have hB3 : Below w.heap.size w w3 := (hB.trans (hq2.below hsz hF)).trans (hq3.below (by omega) (fun k h => by subst h; exact hG _ hself))
        have hS2 : Sep F2 G := HSEP.out.grow hG2 HRL.out
        have hA3 : EtherAt w3 g F2 ps3 lost3 := hA2.kept hq3 (fun k hf hx => by subst hx; exact hS2 _ hf hself)
        have hS3 : Sep F2 G3 := (hS2.symm.grow hG3 hAL).symm
        have hF3 : ∀ k, F2 k → w.heap.size ≤ k := hG2.above hF hsz
        have hG3' : ∀ k, G3 k → w.heap.size ≤ k := hG3.above hG (by omega)
        have hlen : ∀ W, Kept NoF w3 W → _ := fun W hW => len_any (hA3.kept hW fun _ _ x => x)
        have hlos : ∀ W, Kept NoF w3 W → _ := fun W hW => lost_any (hA3.kept hW fun _ _ x => x)
        have hall : ∀ W, Kept NoF w3 W → _ := fun W hW => allp_any (hA3.kept hW fun _ _ x => x) (by omega)
        have HLEN := Lib.hid hlen; clear hlen
        have HLOS := Lib.hid hlos; clear hlos
        have HALL := Lib.hid hall; clear hall
        have HA3 := Lib.hid hA3; clear hA3
        have HR3 := Lib.hid hR3
        have HB3 := Lib.hid hB3
        obtain ⟨A3, c3', hGx, hx3, ho3⟩ := hR3
        have q0 : w3.cell? ⟨w1.heap.size, 0, none⟩ = some (.slice A3 ps3.length c3') := hx3.cell 0
        have q1 : w3.cell? ⟨w1.heap.size, 1, none⟩ = some (.int .i64 lost3) := hx3.cell 1
        have HX3 := Lib.hid hx3; clear hx3
        have HO3 := Lib.hid ho3; clear ho3 hGx
        clear HRS HRT HRD HRB HSEND HTAKE HDROP HDBL
        go_wp2_with fail
        go_region_held3 (fun W => W.cell? ⟨w1.heap.size, 0, none⟩ = some (.slice A3 ps3.length c3') ∧ W.cell? ⟨w1.heap.size, 1, none⟩ = some (.int .i64 lost3)) (first | exact ⟨q0, q1⟩ | exact q4 | exact q5 | (simp [go_sem, q0, q1]; done))
          (first
            | (go_at_call 22; refine (HLEN.out _ (by (repeat' (first | with_reducible exact Kept.refl _ _ | with_reducible refine Kept.put ?_ ?_ | with_reducible refine Kept.drewN ?_ _ | with_reducible refine Kept.drew ?_ | with_reducible refine Kept.alloc ?_ _ | (fail) | (right; simp; done))))).mono ?_; rintro e w' ⟨rfl, rfl⟩)
            | (go_at_call 25; refine (HLOS.out _ (by (repeat' (first | with_reducible exact Kept.refl _ _ | with_reducible refine Kept.put ?_ ?_ | with_reducible refine Kept.drewN ?_ _ | with_reducible refine Kept.drew ?_ | with_reducible refine Kept.alloc ?_ _ | (fail) | (right; simp; done))))).mono ?_; rintro e w' ⟨rfl, rfl⟩)
            | (go_at_call 41; refine (HALL.out _ (by (repeat' (first | with_reducible exact Kept.refl _ _ | with_reducible refine Kept.put ?_ ?_ | with_reducible refine Kept.drewN ?_ _ | with_reducible refine Kept.drew ?_ | with_reducible refine Kept.alloc ?_ _ | (fail) | (right; simp; done))))).mono ?_; rintro e w4 ⟨A4, c4', rfl, ho4, hb4⟩; have hk4 : Kept NoF w3 w4 := Kept.then (by (repeat' (first | with_reducible exact Kept.refl _ _ | with_reducible refine Kept.put ?_ ?_ | with_reducible refine Kept.drewN ?_ _ | with_reducible refine Kept.drew ?_ | with_reducible refine Kept.alloc ?_ _ | (fail) | (right; simp; done)))) (Kept.of_below hb4 (fun k h _ => h)); have hx4 := Has.kept HX3.out hk4 (fun x => x); have q4 := And.intro (hx4.cell 0) (hx4.cell 1); have HO4 := Lib.hid ho4; clear ho4)
            | (go_at_call 40; refine (rsame_eq (Src.kept (F := NoF) (Src.of_own HO4.out) (by (repeat' (first | with_reducible exact Kept.refl _ _ | with_reducible refine Kept.put ?_ ?_ | with_reducible refine Kept.drewN ?_ _ | with_reducible refine Kept.drew ?_ | with_reducible refine Kept.alloc ?_ _ | (fail) | (right; simp; done)))) (fun _ _ x => x)) (Src.kept (F := NoF) (Src.of_own HO3.out) (by (repeat' (first | with_reducible exact Kept.refl _ _ | with_reducible refine Kept.put ?_ ?_ | with_reducible refine Kept.drewN ?_ _ | with_reducible refine Kept.drew ?_ | with_reducible refine Kept.alloc ?_ _ | (with_reducible exact hk4) | (right; simp; done)))) (fun _ _ x => x)) (by omega)).mono ?_; rintro e w5 ⟨rfl, hk5⟩; have hk6 : Kept NoF w3 w5 := Kept.then (by (repeat' (first | with_reducible exact Kept.refl _ _ | with_reducible refine Kept.put ?_ ?_ | with_reducible refine Kept.drewN ?_ _ | with_reducible refine Kept.drew ?_ | with_reducible refine Kept.alloc ?_ _ | (with_reducible exact hk4) | (right; simp; done)))) hk5; have hx5 := Has.kept HX3.out hk6 (fun x => x); have q5 := And.intro (hx5.cell 0) (hx5.cell 1)))
        go_wp2
        go_roundw
        case rel => exact ⟨i + 1, F2, G3, ps3, lost3, by omega, by omega, by go_num, by omega, by omega, by go_num, HA3.out.kept hk6 (fun _ _ x => x), HR3.out.kept hk6 (fun _ _ x => x), hS3, hF3, hG3', HB3.out.trans (hk6.below HB3.out.size (fun _ x => x.elim))⟩
        case measure => simp [intOf]; omega
      · clear HCASE
        go_wp2_with fail
        obtain ⟨E, hE⟩ : ∃ E : Int, E = sendE ps (p1, p2, p3) := ⟨_, rfl⟩
        rw [← hE] at HSEND HRS
        clear hE
        go_region_held3 (fun W => W.cell? ⟨(ad.add (i * 5)).block, (ad.add (i * 5)).off + 1, none⟩ = some (.int .i64 p1) ∧ W.cell? ⟨(ad.add (i * 5)).block, (ad.add (i * 5)).off + 2, none⟩ = some (.int .i64 p2) ∧ W.cell? ⟨(ad.add (i * 5)).block, (ad.add (i * 5)).off + 3, none⟩ = some (.string p3)) (first | exact ⟨c1, c2, c3⟩ | exact e2 | exact e3 | (simp [go_sem, c1, c2, c3, c4]; done))
          (first
            | (go_at_call 20; refine (HSEND.out _ (by (repeat' (first | with_reducible exact Kept.refl _ _ | with_reducible refine Kept.put ?_ ?_ | with_reducible refine Kept.drewN ?_ _ | with_reducible refine Kept.drew ?_ | with_reducible refine Kept.alloc ?_ _ | (fail) | (right; simp; done))))).mono ?_; rintro e w2 ⟨rfl, F2, hA2, hG2, hk2⟩; have hq2 : Kept F wr w2 := Kept.then (by (repeat' (first | with_reducible exact Kept.refl _ _ | with_reducible refine Kept.put ?_ ?_ | with_reducible refine Kept.drewN ?_ _ | with_reducible refine Kept.drew ?_ | with_reducible refine Kept.alloc ?_ _ | (fail) | (right; simp; done)))) hk2; have hAL := hA2.lt; have e2 := (fun W h => And.intro (D.out W h).2.1 (And.intro (D.out W h).2.2.1 (D.out W h).2.2.2.1)) w2 (hB.trans (hq2.below hsz hF)))
            | (go_at_call 21; refine (HRS.out _ (by (repeat' (first | with_reducible exact Kept.refl _ _ | with_reducible refine Kept.put ?_ ?_ | with_reducible refine Kept.drewN ?_ _ | with_reducible refine Kept.drew ?_ | with_reducible refine Kept.alloc ?_ _ | (with_reducible exact hq2) | (right; simp; done))))).mono ?_; rintro e w3 ⟨rfl, G3, hR3, hG3, hk3⟩; have hq3 : Kept (fun k => k = w1.heap.size) w2 w3 := Kept.then (by (repeat' (first | with_reducible exact Kept.refl _ _ | with_reducible refine Kept.put ?_ ?_ | with_reducible refine Kept.drewN ?_ _ | with_reducible refine Kept.drew ?_ | with_reducible refine Kept.alloc ?_ _ | (fail) | (right; simp; done)))) hk3; have e3 := (fun W h => And.intro (D.out W h).2.1 (And.intro (D.out W h).2.2.1 (D.out W h).2.2.2.1)) w3 ((hB.trans (hq2.below hsz hF)).trans (hq3.below (by have := hq2.size; omega) (fun k h => by subst h; exact hG _ hself)))))
        have hq : (sendP ps (p1, p2, p3)).length ≤ i + 1 := by have := sendP_len ps (p1, p2, p3); omega
        have hq0 : 0 ≤ (sendL ps lost (p1, p2, p3)) ∧ (sendL ps lost (p1, p2, p3)) ≤ (i : Int) + 1 := by exact sendL_le _ _ _ _ hl0 hl1
        generalize (sendP ps (p1, p2, p3)) = ps3 at *
        generalize (sendL ps lost (p1, p2, p3)) = lost3 at *
        have hs2 := hq2.size
        have hs3 := hq3.size
        have hB3 : Below w.heap.size w w3 := (hB.trans (hq2.below hsz hF)).trans (hq3.below (by omega) (fun k h => by subst h; exact hG _ hself))
        have hS2 : Sep F2 G := HSEP.out.grow hG2 HRL.out
        have hA3 : EtherAt w3 g F2 ps3 lost3 := hA2.kept hq3 (fun k hf hx => by subst hx; exact hS2 _ hf hself)
        have hS3 : Sep F2 G3 := (hS2.symm.grow hG3 hAL).symm
        have hF3 : ∀ k, F2 k → w.heap.size ≤ k := hG2.above hF hsz
        have hG3' : ∀ k, G3 k → w.heap.size ≤ k := hG3.above hG (by omega)
        have hlen : ∀ W, Kept NoF w3 W → _ := fun W hW => len_any (hA3.kept hW fun _ _ x => x)
        have hlos : ∀ W, Kept NoF w3 W → _ := fun W hW => lost_any (hA3.kept hW fun _ _ x => x)
        have hall : ∀ W, Kept NoF w3 W → _ := fun W hW => allp_any (hA3.kept hW fun _ _ x => x) (by omega)
        have HLEN := Lib.hid hlen; clear hlen
        have HLOS := Lib.hid hlos; clear hlos
        have HALL := Lib.hid hall; clear hall
        have HA3 := Lib.hid hA3; clear hA3
        have HR3 := Lib.hid hR3
        have HB3 := Lib.hid hB3
        obtain ⟨A3, c3', hGx, hx3, ho3⟩ := hR3
        have q0 : w3.cell? ⟨w1.heap.size, 0, none⟩ = some (.slice A3 ps3.length c3') := hx3.cell 0
        have q1 : w3.cell? ⟨w1.heap.size, 1, none⟩ = some (.int .i64 lost3) := hx3.cell 1
        have HX3 := Lib.hid hx3; clear hx3
        have HO3 := Lib.hid ho3; clear ho3 hGx
        clear HRS HRT HRD HRB HSEND HTAKE HDROP HDBL
        go_wp2_with fail
        go_region_held3 (fun W => W.cell? ⟨w1.heap.size, 0, none⟩ = some (.slice A3 ps3.length c3') ∧ W.cell? ⟨w1.heap.size, 1, none⟩ = some (.int .i64 lost3)) (first | exact ⟨q0, q1⟩ | exact q4 | exact q5 | (simp [go_sem, q0, q1]; done))
          (first
            | (go_at_call 22; refine (HLEN.out _ (by (repeat' (first | with_reducible exact Kept.refl _ _ | with_reducible refine Kept.put ?_ ?_ | with_reducible refine Kept.drewN ?_ _ | with_reducible refine Kept.drew ?_ | with_reducible refine Kept.alloc ?_ _ | (fail) | (right; simp; done))))).mono ?_; rintro e w' ⟨rfl, rfl⟩)
            | (go_at_call 25; refine (HLOS.out _ (by (repeat' (first | with_reducible exact Kept.refl _ _ | with_reducible refine Kept.put ?_ ?_ | with_reducible refine Kept.drewN ?_ _ | with_reducible refine Kept.drew ?_ | with_reducible refine Kept.alloc ?_ _ | (fail) | (right; simp; done))))).mono ?_; rintro e w' ⟨rfl, rfl⟩)
            | (go_at_call 41; refine (HALL.out _ (by (repeat' (first | with_reducible exact Kept.refl _ _ | with_reducible refine Kept.put ?_ ?_ | with_reducible refine Kept.drewN ?_ _ | with_reducible refine Kept.drew ?_ | with_reducible refine Kept.alloc ?_ _ | (fail) | (right; simp; done))))).mono ?_; rintro e w4 ⟨A4, c4', rfl, ho4, hb4⟩; have hk4 : Kept NoF w3 w4 := Kept.then (by (repeat' (first | with_reducible exact Kept.refl _ _ | with_reducible refine Kept.put ?_ ?_ | with_reducible refine Kept.drewN ?_ _ | with_reducible refine Kept.drew ?_ | with_reducible refine Kept.alloc ?_ _ | (fail) | (right; simp; done)))) (Kept.of_below hb4 (fun k h _ => h)); have hx4 := Has.kept HX3.out hk4 (fun x => x); have q4 := And.intro (hx4.cell 0) (hx4.cell 1); have HO4 := Lib.hid ho4; clear ho4)
            | (go_at_call 40; refine (rsame_eq (Src.kept (F := NoF) (Src.of_own HO4.out) (by (repeat' (first | with_reducible exact Kept.refl _ _ | with_reducible refine Kept.put ?_ ?_ | with_reducible refine Kept.drewN ?_ _ | with_reducible refine Kept.drew ?_ | with_reducible refine Kept.alloc ?_ _ | (fail) | (right; simp; done)))) (fun _ _ x => x)) (Src.kept (F := NoF) (Src.of_own HO3.out) (by (repeat' (first | with_reducible exact Kept.refl _ _ | with_reducible refine Kept.put ?_ ?_ | with_reducible refine Kept.drewN ?_ _ | with_reducible refine Kept.drew ?_ | with_reducible refine Kept.alloc ?_ _ | (with_reducible exact hk4) | (right; simp; done)))) (fun _ _ x => x)) (by omega)).mono ?_; rintro e w5 ⟨rfl, hk5⟩; have hk6 : Kept NoF w3 w5 := Kept.then (by (repeat' (first | with_reducible exact Kept.refl _ _ | with_reducible refine Kept.put ?_ ?_ | with_reducible refine Kept.drewN ?_ _ | with_reducible refine Kept.drew ?_ | with_reducible refine Kept.alloc ?_ _ | (with_reducible exact hk4) | (right; simp; done)))) hk5; have hx5 := Has.kept HX3.out hk6 (fun x => x); have q5 := And.intro (hx5.cell 0) (hx5.cell 1)))
        go_wp2
        go_roundw
        case rel => exact ⟨i + 1, F2, G3, ps3, lost3, by omega, by omega, by go_num, by omega, by omega, by go_num, HA3.out.kept hk6 (fun _ _ x => x), HR3.out.kept hk6 (fun _ _ x => x), hS3, hF3, hG3', HB3.out.trans (hk6.below HB3.out.size (fun _ x => x.elim))⟩
        case measure => simp [intOf]; omega
      · clear HCASE
        go_wp2_with fail
        obtain ⟨V, hV⟩ : ∃ V : Pk, V = takeV ps N := ⟨_, rfl⟩
        obtain ⟨E, hE⟩ : ∃ E : Int, E = takeE ps := ⟨_, rfl⟩
        rw [← hV, ← hE] at HTAKE HRT
        clear hE hV
        obtain ⟨x1, x2, x3⟩ := V
        unfold agg at HTAKE HRT
        have heq : ∀ W : World, (binOp .eql 36 (.agg #[.int .i64 x1, .int .i64 x2, .string x3]) (.agg #[.int .i64 x1, .int .i64 x2, .string x3])).run Try.prog W = .ok (.bool (decide ((x1, x2, x3) = (x1, x2, x3)))) W := run_eql_pk (x1, x2, x3) (x1, x2, x3)
        rw [decide_eq_true (rfl : (x1, x2, x3) = (x1, x2, x3))] at heq
        refine (HTAKE.out _ (Kept.refl _ _)).mono ?_
        rintro e w2a ⟨rfl, F2, hA2, hG2, hk2⟩
        have hsa := hk2.size
        have hA2 := hA2.kept ((Kept.refl NoF w2a).alloc (Obj.cells #[.int .i64 x1, .int .i64 x2, .string x3] 36)) (fun _ _ x => x)
        have hAL := hA2.lt
        have hP := Has.new w2a 36 #[.int .i64 x1, .int .i64 x2, .string x3]
        have hq2 : Kept F wr (w2a.alloc (Obj.cells #[.int .i64 x1, .int .i64 x2, .string x3] 36)) := hk2.alloc _
        obtain ⟨w2, hw2⟩ : ∃ w2, w2 = w2a.alloc (Obj.cells #[.int .i64 x1, .int .i64 x2, .string x3] 36) := ⟨_, rfl⟩
        have e3 := (D.out _ (hB.trans (hq2.below hsz hF))).2.2.2.2
        rw [← hw2] at hA2 hAL hP hq2
        have HW2 := Lib.hid hw2; clear hw2
        have HA2 := Lib.hid hA2; clear hA2
        have HPP := Lib.hid hP; clear hP
        go_wp2_with fail
        rw [← HW2.out]
        refine (HRT.out _ hq2).mono ?_
        rintro e w3a ⟨rfl, G3, hR3, hG3, hk3⟩
        have hxl := HRL.out _ hself
        have hP3 := HPP.out.kept hk3 (fun h => by omega)
        have b0 : w3a.cell? ⟨w2a.heap.size, 0, none⟩ = some (.int .i64 x1) := hP3.cell 0
        have b1 : w3a.cell? ⟨w2a.heap.size, 1, none⟩ = some (.int .i64 x2) := hP3.cell 1
        have b2 : w3a.cell? ⟨w2a.heap.size, 2, none⟩ = some (.string x3) := hP3.cell 2
        have hb3 := hP3.lt
        clear hP3
        have hR3 := hR3.kept ((Kept.refl NoF w3a).alloc (Obj.cells #[.int .i64 x1, .int .i64 x2, .string x3] 36)) (fun _ _ x => x)
        have hq3 : Kept (fun k => k = w1.heap.size) w2 (w3a.alloc (Obj.cells #[.int .i64 x1, .int .i64 x2, .string x3] 36)) := hk3.alloc _
        obtain ⟨w3, hw3⟩ : ∃ w3, w3 = w3a.alloc (Obj.cells #[.int .i64 x1, .int .i64 x2, .string x3] 36) := ⟨_, rfl⟩
        rw [← hw3] at hR3 hq3
        have HW3 := Lib.hid hw3; clear hw3
        have HR3 := Lib.hid hR3; clear hR3
        go_wp2
        rw [← HW3.out]
        have hR3 := HR3.out; clear HR3
        have hA2 := HA2.out; clear HA2
        have hq : (takeP ps N).length ≤ i + 1 := by have := takeP_len ps N; omega
        have hq0 : 0 ≤ lost ∧ lost ≤ (i : Int) + 1 := by omega
        generalize (takeP ps N) = ps3 at *
        generalize lost = lost3 at *
        have hs2 := hq2.size
        have hs3 := hq3.size
        have hB3 : Below w.heap.size w w3 := (hB.trans (hq2.below hsz hF)).trans (hq3.below (by omega) (fun k h => by subst h; exact hG _ hself))
        have hS2 : Sep F2 G := HSEP.out.grow hG2 HRL.out
        have hA3 : EtherAt w3 g F2 ps3 lost3 := hA2.kept hq3 (fun k hf hx => by subst hx; exact hS2 _ hf hself)
        have hS3 : Sep F2 G3 := (hS2.symm.grow hG3 hAL).symm
        have hF3 : ∀ k, F2 k → w.heap.size ≤ k := hG2.above hF hsz
        have hG3' : ∀ k, G3 k → w.heap.size ≤ k := hG3.above hG (by omega)
        have hlen : ∀ W, Kept NoF w3 W → _ := fun W hW => len_any (hA3.kept hW fun _ _ x => x)
        have hlos : ∀ W, Kept NoF w3 W → _ := fun W hW => lost_any (hA3.kept hW fun _ _ x => x)
        have hall : ∀ W, Kept NoF w3 W → _ := fun W hW => allp_any (hA3.kept hW fun _ _ x => x) (by omega)
        have HLEN := Lib.hid hlen; clear hlen
        have HLOS := Lib.hid hlos; clear hlos
        have HALL := Lib.hid hall; clear hall
        have HA3 := Lib.hid hA3; clear hA3
        have HR3 := Lib.hid hR3
        have HB3 := Lib.hid hB3
        obtain ⟨A3, c3', hGx, hx3, ho3⟩ := hR3
        have q0 : w3.cell? ⟨w1.heap.size, 0, none⟩ = some (.slice A3 ps3.length c3') := hx3.cell 0
        have q1 : w3.cell? ⟨w1.heap.size, 1, none⟩ = some (.int .i64 lost3) := hx3.cell 1
        have HX3 := Lib.hid hx3; clear hx3
        have HO3 := Lib.hid ho3; clear ho3 hGx
        clear HRS HRT HRD HRB HSEND HTAKE HDROP HDBL
        go_wp2_with fail
        go_region_held3 (fun W => W.cell? ⟨w1.heap.size, 0, none⟩ = some (.slice A3 ps3.length c3') ∧ W.cell? ⟨w1.heap.size, 1, none⟩ = some (.int .i64 lost3)) (first | exact ⟨q0, q1⟩ | exact q4 | exact q5 | (simp [go_sem, q0, q1]; done))
          (first
            | (go_at_call 22; refine (HLEN.out _ (by (repeat' (first | with_reducible exact Kept.refl _ _ | with_reducible refine Kept.put ?_ ?_ | with_reducible refine Kept.drewN ?_ _ | with_reducible refine Kept.drew ?_ | with_reducible refine Kept.alloc ?_ _ | (fail) | (right; simp; done))))).mono ?_; rintro e w' ⟨rfl, rfl⟩)
            | (go_at_call 25; refine (HLOS.out _ (by (repeat' (first | with_reducible exact Kept.refl _ _ | with_reducible refine Kept.put ?_ ?_ | with_reducible refine Kept.drewN ?_ _ | with_reducible refine Kept.drew ?_ | with_reducible refine Kept.alloc ?_ _ | (fail) | (right; simp; done))))).mono ?_; rintro e w' ⟨rfl, rfl⟩)
            | (go_at_call 41; refine (HALL.out _ (by (repeat' (first | with_reducible exact Kept.refl _ _ | with_reducible refine Kept.put ?_ ?_ | with_reducible refine Kept.drewN ?_ _ | with_reducible refine Kept.drew ?_ | with_reducible refine Kept.alloc ?_ _ | (fail) | (right; simp; done))))).mono ?_; rintro e w4 ⟨A4, c4', rfl, ho4, hb4⟩; have hk4 : Kept NoF w3 w4 := Kept.then (by (repeat' (first | with_reducible exact Kept.refl _ _ | with_reducible refine Kept.put ?_ ?_ | with_reducible refine Kept.drewN ?_ _ | with_reducible refine Kept.drew ?_ | with_reducible refine Kept.alloc ?_ _ | (fail) | (right; simp; done)))) (Kept.of_below hb4 (fun k h _ => h)); have hx4 := Has.kept HX3.out hk4 (fun x => x); have q4 := And.intro (hx4.cell 0) (hx4.cell 1); have HO4 := Lib.hid ho4; clear ho4)
            | (go_at_call 40; refine (rsame_eq (Src.kept (F := NoF) (Src.of_own HO4.out) (by (repeat' (first | with_reducible exact Kept.refl _ _ | with_reducible refine Kept.put ?_ ?_ | with_reducible refine Kept.drewN ?_ _ | with_reducible refine Kept.drew ?_ | with_reducible refine Kept.alloc ?_ _ | (fail) | (right; simp; done)))) (fun _ _ x => x)) (Src.kept (F := NoF) (Src.of_own HO3.out) (by (repeat' (first | with_reducible exact Kept.refl _ _ | with_reducible refine Kept.put ?_ ?_ | with_reducible refine Kept.drewN ?_ _ | with_reducible refine Kept.drew ?_ | with_reducible refine Kept.alloc ?_ _ | (with_reducible exact hk4) | (right; simp; done)))) (fun _ _ x => x)) (by omega)).mono ?_; rintro e w5 ⟨rfl, hk5⟩; have hk6 : Kept NoF w3 w5 := Kept.then (by (repeat' (first | with_reducible exact Kept.refl _ _ | with_reducible refine Kept.put ?_ ?_ | with_reducible refine Kept.drewN ?_ _ | with_reducible refine Kept.drew ?_ | with_reducible refine Kept.alloc ?_ _ | (with_reducible exact hk4) | (right; simp; done)))) hk5; have hx5 := Has.kept HX3.out hk6 (fun x => x); have q5 := And.intro (hx5.cell 0) (hx5.cell 1)))
        go_wp2
        go_roundw
        case rel => exact ⟨i + 1, F2, G3, ps3, lost3, by omega, by omega, by go_num, by omega, by omega, by go_num, HA3.out.kept hk6 (fun _ _ x => x), HR3.out.kept hk6 (fun _ _ x => x), hS3, hF3, hG3', HB3.out.trans (hk6.below HB3.out.size (fun _ x => x.elim))⟩
        case measure => simp [intOf]; omega
      · clear HCASE
        go_wp2_with fail
        obtain ⟨E, hE⟩ : ∃ E : Int, E = takeE ps := ⟨_, rfl⟩
        rw [← hE] at HDROP HRD
        clear hE
        go_region_held3 (fun W => W.cell? ⟨(ad.add (i * 5)).block, (ad.add (i * 5)).off + 4, none⟩ = some (.int .i64 N)) (first | exact c4 | exact e2 | exact e3 | (simp [go_sem, c1, c2, c3, c4]; done))
          (first
            | (go_at_call 37; refine (HDROP.out _ (by (repeat' (first | with_reducible exact Kept.refl _ _ | with_reducible refine Kept.put ?_ ?_ | with_reducible refine Kept.drewN ?_ _ | with_reducible refine Kept.drew ?_ | with_reducible refine Kept.alloc ?_ _ | (fail) | (right; simp; done))))).mono ?_; rintro e w2 ⟨rfl, F2, hA2, hG2, hk2⟩; have hq2 : Kept F wr w2 := Kept.then (by (repeat' (first | with_reducible exact Kept.refl _ _ | with_reducible refine Kept.put ?_ ?_ | with_reducible refine Kept.drewN ?_ _ | with_reducible refine Kept.drew ?_ | with_reducible refine Kept.alloc ?_ _ | (fail) | (right; simp; done)))) hk2; have hAL := hA2.lt; have e2 := (fun W h => (D.out W h).2.2.2.2) w2 (hB.trans (hq2.below hsz hF)))
            | (go_at_call 38; refine (HRD.out _ (by (repeat' (first | with_reducible exact Kept.refl _ _ | with_reducible refine Kept.put ?_ ?_ | with_reducible refine Kept.drewN ?_ _ | with_reducible refine Kept.drew ?_ | with_reducible refine Kept.alloc ?_ _ | (with_reducible exact hq2) | (right; simp; done))))).mono ?_; rintro e w3 ⟨rfl, G3, hR3, hG3, hk3⟩; have hq3 : Kept (fun k => k = w1.heap.size) w2 w3 := Kept.then (by (repeat' (first | with_reducible exact Kept.refl _ _ | with_reducible refine Kept.put ?_ ?_ | with_reducible refine Kept.drewN ?_ _ | with_reducible refine Kept.drew ?_ | with_reducible refine Kept.alloc ?_ _ | (fail) | (right; simp; done)))) hk3; have e3 := (fun W h => (D.out W h).2.2.2.2) w3 ((hB.trans (hq2.below hsz hF)).trans (hq3.below (by have := hq2.size; omega) (fun k h => by subst h; exact hG _ hself)))))
        have hq : (takeP ps N).length ≤ i + 1 := by have := takeP_len ps N; omega
        have hq0 : 0 ≤ (dropL ps lost) ∧ (dropL ps lost) ≤ (i : Int) + 1 := by exact dropL_le _ _ _ hl0 hl1
        generalize (takeP ps N) = ps3 at *
        generalize (dropL ps lost) = lost3 at *
        have hs2 := hq2.size
        have hs3 := hq3.size
        have hB3 : Below w.heap.size w w3 := (hB.trans (hq2.below hsz hF)).trans (hq3.below (by omega) (fun k h => by subst h; exact hG _ hself))
        have hS2 : Sep F2 G := HSEP.out.grow hG2 HRL.out
        have hA3 : EtherAt w3 g F2 ps3 lost3 := hA2.kept hq3 (fun k hf hx => by subst hx; exact hS2 _ hf hself)
        have hS3 : Sep F2 G3 := (hS2.symm.grow hG3 hAL).symm
        have hF3 : ∀ k, F2 k → w.heap.size ≤ k := hG2.above hF hsz
        have hG3' : ∀ k, G3 k → w.heap.size ≤ k := hG3.above hG (by omega)
        have hlen : ∀ W, Kept NoF w3 W → _ := fun W hW => len_any (hA3.kept hW fun _ _ x => x)
        have hlos : ∀ W, Kept NoF w3 W → _ := fun W hW => lost_any (hA3.kept hW fun _ _ x => x)
        have hall : ∀ W, Kept NoF w3 W → _ := fun W hW => allp_any (hA3.kept hW fun _ _ x => x) (by omega)
        have HLEN := Lib.hid hlen; clear hlen
        have HLOS := Lib.hid hlos; clear hlos
        have HALL := Lib.hid hall; clear hall
        have HA3 := Lib.hid hA3; clear hA3
        have HR3 := Lib.hid hR3
        have HB3 := Lib.hid hB3
        obtain ⟨A3, c3', hGx, hx3, ho3⟩ := hR3
        have q0 : w3.cell? ⟨w1.heap.size, 0, none⟩ = some (.slice A3 ps3.length c3') := hx3.cell 0
        have q1 : w3.cell? ⟨w1.heap.size, 1, none⟩ = some (.int .i64 lost3) := hx3.cell 1
        have HX3 := Lib.hid hx3; clear hx3
        have HO3 := Lib.hid ho3; clear ho3 hGx
        clear HRS HRT HRD HRB HSEND HTAKE HDROP HDBL
        go_wp2_with fail
        go_region_held3 (fun W => W.cell? ⟨w1.heap.size, 0, none⟩ = some (.slice A3 ps3.length c3') ∧ W.cell? ⟨w1.heap.size, 1, none⟩ = some (.int .i64 lost3)) (first | exact ⟨q0, q1⟩ | exact q4 | exact q5 | (simp [go_sem, q0, q1]; done))
          (first
            | (go_at_call 22; refine (HLEN.out _ (by (repeat' (first | with_reducible exact Kept.refl _ _ | with_reducible refine Kept.put ?_ ?_ | with_reducible refine Kept.drewN ?_ _ | with_reducible refine Kept.drew ?_ | with_reducible refine Kept.alloc ?_ _ | (fail) | (right; simp; done))))).mono ?_; rintro e w' ⟨rfl, rfl⟩)
            | (go_at_call 25; refine (HLOS.out _ (by (repeat' (first | with_reducible exact Kept.refl _ _ | with_reducible refine Kept.put ?_ ?_ | with_reducible refine Kept.drewN ?_ _ | with_reducible refine Kept.drew ?_ | with_reducible refine Kept.alloc ?_ _ | (fail) | (right; simp; done))))).mono ?_; rintro e w' ⟨rfl, rfl⟩)
            | (go_at_call 41; refine (HALL.out _ (by (repeat' (first | with_reducible exact Kept.refl _ _ | with_reducible refine Kept.put ?_ ?_ | with_reducible refine Kept.drewN ?_ _ | with_reducible refine Kept.drew ?_ | with_reducible refine Kept.alloc ?_ _ | (fail) | (right; simp; done))))).mono ?_; rintro e w4 ⟨A4, c4', rfl, ho4, hb4⟩; have hk4 : Kept NoF w3 w4 := Kept.then (by (repeat' (first | with_reducible exact Kept.refl _ _ | with_reducible refine Kept.put ?_ ?_ | with_reducible refine Kept.drewN ?_ _ | with_reducible refine Kept.drew ?_ | with_reducible refine Kept.alloc ?_ _ | (fail) | (right; simp; done)))) (Kept.of_below hb4 (fun k h _ => h)); have hx4 := Has.kept HX3.out hk4 (fun x => x); have q4 := And.intro (hx4.cell 0) (hx4.cell 1); have HO4 := Lib.hid ho4; clear ho4)
            | (go_at_call 40; refine (rsame_eq (Src.kept (F := NoF) (Src.of_own HO4.out) (by (repeat' (first | with_reducible exact Kept.refl _ _ | with_reducible refine Kept.put ?_ ?_ | with_reducible refine Kept.drewN ?_ _ | with_reducible refine Kept.drew ?_ | with_reducible refine Kept.alloc ?_ _ | (fail) | (right; simp; done)))) (fun _ _ x => x)) (Src.kept (F := NoF) (Src.of_own HO3.out) (by (repeat' (first | with_reducible exact Kept.refl _ _ | with_reducible refine Kept.put ?_ ?_ | with_reducible refine Kept.drewN ?_ _ | with_reducible refine Kept.drew ?_ | with_reducible refine Kept.alloc ?_ _ | (with_reducible exact hk4) | (right; simp; done)))) (fun _ _ x => x)) (by omega)).mono ?_; rintro e w5 ⟨rfl, hk5⟩; have hk6 : Kept NoF w3 w5 := Kept.then (by (repeat' (first | with_reducible exact Kept.refl _ _ | with_reducible refine Kept.put ?_ ?_ | with_reducible refine Kept.drewN ?_ _ | with_reducible refine Kept.drew ?_ | with_reducible refine Kept.alloc ?_ _ | (with_reducible exact hk4) | (right; simp; done)))) hk5; have hx5 := Has.kept HX3.out hk6 (fun x => x); have q5 := And.intro (hx5.cell 0) (hx5.cell 1)))
        go_wp2
        go_roundw
        case rel => exact ⟨i + 1, F2, G3, ps3, lost3, by omega, by omega, by go_num, by omega, by omega, by go_num, HA3.out.kept hk6 (fun _ _ x => x), HR3.out.kept hk6 (fun _ _ x => x), hS3, hF3, hG3', HB3.out.trans (hk6.below HB3.out.size (fun _ x => x.elim))⟩
        case measure => simp [intOf]; omega
      · clear HCASE
        go_wp2_with fail
        obtain ⟨E, hE⟩ : ∃ E : Int, E = doubleE ps := ⟨_, rfl⟩
        rw [← hE] at HDBL HRB
        clear hE
        go_region_held3 (fun W => W.cell? ⟨(ad.add (i * 5)).block, (ad.add (i * 5)).off + 4, none⟩ = some (.int .i64 N)) (first | exact c4 | exact e2 | exact e3 | (simp [go_sem, c1, c2, c3, c4]; done))
          (first
            | (go_at_call 27; refine (HDBL.out _ (by (repeat' (first | with_reducible exact Kept.refl _ _ | with_reducible refine Kept.put ?_ ?_ | with_reducible refine Kept.drewN ?_ _ | with_reducible refine Kept.drew ?_ | with_reducible refine Kept.alloc ?_ _ | (fail) | (right; simp; done))))).mono ?_; rintro e w2 ⟨rfl, F2, hA2, hG2, hk2⟩; have hq2 : Kept F wr w2 := Kept.then (by (repeat' (first | with_reducible exact Kept.refl _ _ | with_reducible refine Kept.put ?_ ?_ | with_reducible refine Kept.drewN ?_ _ | with_reducible refine Kept.drew ?_ | with_reducible refine Kept.alloc ?_ _ | (fail) | (right; simp; done)))) hk2; have hAL := hA2.lt; have e2 := (fun W h => (D.out W h).2.2.2.2) w2 (hB.trans (hq2.below hsz hF)))
            | (go_at_call 39; refine (HRB.out _ (by (repeat' (first | with_reducible exact Kept.refl _ _ | with_reducible refine Kept.put ?_ ?_ | with_reducible refine Kept.drewN ?_ _ | with_reducible refine Kept.drew ?_ | with_reducible refine Kept.alloc ?_ _ | (with_reducible exact hq2) | (right; simp; done))))).mono ?_; rintro e w3 ⟨rfl, G3, hR3, hG3, hk3⟩; have hq3 : Kept (fun k => k = w1.heap.size) w2 w3 := Kept.then (by (repeat' (first | with_reducible exact Kept.refl _ _ | with_reducible refine Kept.put ?_ ?_ | with_reducible refine Kept.drewN ?_ _ | with_reducible refine Kept.drew ?_ | with_reducible refine Kept.alloc ?_ _ | (fail) | (right; simp; done)))) hk3; have e3 := (fun W h => (D.out W h).2.2.2.2) w3 ((hB.trans (hq2.below hsz hF)).trans (hq3.below (by have := hq2.size; omega) (fun k h => by subst h; exact hG _ hself)))))
        have hq : (doubleP ps N).length ≤ i + 1 := by have := doubleP_len ps N; omega
        have hq0 : 0 ≤ lost ∧ lost ≤ (i : Int) + 1 := by omega
        generalize (doubleP ps N) = ps3 at *
        generalize lost = lost3 at *
        have hs2 := hq2.size
        have hs3 := hq3.size
        have hB3 : Below w.heap.size w w3 := (hB.trans (hq2.below hsz hF)).trans (hq3.below (by omega) (fun k h => by subst h; exact hG _ hself))
        have hS2 : Sep F2 G := HSEP.out.grow hG2 HRL.out
        have hA3 : EtherAt w3 g F2 ps3 lost3 := hA2.kept hq3 (fun k hf hx => by subst hx; exact hS2 _ hf hself)
        have hS3 : Sep F2 G3 := (hS2.symm.grow hG3 hAL).symm
        have hF3 : ∀ k, F2 k → w.heap.size ≤ k := hG2.above hF hsz
        have hG3' : ∀ k, G3 k → w.heap.size ≤ k := hG3.above hG (by omega)
        have hlen : ∀ W, Kept NoF w3 W → _ := fun W hW => len_any (hA3.kept hW fun _ _ x => x)
        have hlos : ∀ W, Kept NoF w3 W → _ := fun W hW => lost_any (hA3.kept hW fun _ _ x => x)
        have hall : ∀ W, Kept NoF w3 W → _ := fun W hW => allp_any (hA3.kept hW fun _ _ x => x) (by omega)
        have HLEN := Lib.hid hlen; clear hlen
        have HLOS := Lib.hid hlos; clear hlos
        have HALL := Lib.hid hall; clear hall
        have HA3 := Lib.hid hA3; clear hA3
        have HR3 := Lib.hid hR3
        have HB3 := Lib.hid hB3
        obtain ⟨A3, c3', hGx, hx3, ho3⟩ := hR3
        have q0 : w3.cell? ⟨w1.heap.size, 0, none⟩ = some (.slice A3 ps3.length c3') := hx3.cell 0
        have q1 : w3.cell? ⟨w1.heap.size, 1, none⟩ = some (.int .i64 lost3) := hx3.cell 1
        have HX3 := Lib.hid hx3; clear hx3
        have HO3 := Lib.hid ho3; clear ho3 hGx
        clear HRS HRT HRD HRB HSEND HTAKE HDROP HDBL
        go_wp2_with fail
        go_region_held3 (fun W => W.cell? ⟨w1.heap.size, 0, none⟩ = some (.slice A3 ps3.length c3') ∧ W.cell? ⟨w1.heap.size, 1, none⟩ = some (.int .i64 lost3)) (first | exact ⟨q0, q1⟩ | exact q4 | exact q5 | (simp [go_sem, q0, q1]; done))
          (first
            | (go_at_call 22; refine (HLEN.out _ (by (repeat' (first | with_reducible exact Kept.refl _ _ | with_reducible refine Kept.put ?_ ?_ | with_reducible refine Kept.drewN ?_ _ | with_reducible refine Kept.drew ?_ | with_reducible refine Kept.alloc ?_ _ | (fail) | (right; simp; done))))).mono ?_; rintro e w' ⟨rfl, rfl⟩)
            | (go_at_call 25; refine (HLOS.out _ (by (repeat' (first | with_reducible exact Kept.refl _ _ | with_reducible refine Kept.put ?_ ?_ | with_reducible refine Kept.drewN ?_ _ | with_reducible refine Kept.drew ?_ | with_reducible refine Kept.alloc ?_ _ | (fail) | (right; simp; done))))).mono ?_; rintro e w' ⟨rfl, rfl⟩)
            | (go_at_call 41; refine (HALL.out _ (by (repeat' (first | with_reducible exact Kept.refl _ _ | with_reducible refine Kept.put ?_ ?_ | with_reducible refine Kept.drewN ?_ _ | with_reducible refine Kept.drew ?_ | with_reducible refine Kept.alloc ?_ _ | (fail) | (right; simp; done))))).mono ?_; rintro e w4 ⟨A4, c4', rfl, ho4, hb4⟩; have hk4 : Kept NoF w3 w4 := Kept.then (by (repeat' (first | with_reducible exact Kept.refl _ _ | with_reducible refine Kept.put ?_ ?_ | with_reducible refine Kept.drewN ?_ _ | with_reducible refine Kept.drew ?_ | with_reducible refine Kept.alloc ?_ _ | (fail) | (right; simp; done)))) (Kept.of_below hb4 (fun k h _ => h)); have hx4 := Has.kept HX3.out hk4 (fun x => x); have q4 := And.intro (hx4.cell 0) (hx4.cell 1); have HO4 := Lib.hid ho4; clear ho4)
            | (go_at_call 40; refine (rsame_eq (Src.kept (F := NoF) (Src.of_own HO4.out) (by (repeat' (first | with_reducible exact Kept.refl _ _ | with_reducible refine Kept.put ?_ ?_ | with_reducible refine Kept.drewN ?_ _ | with_reducible refine Kept.drew ?_ | with_reducible refine Kept.alloc ?_ _ | (fail) | (right; simp; done)))) (fun _ _ x => x)) (Src.kept (F := NoF) (Src.of_own HO3.out) (by (repeat' (first | with_reducible exact Kept.refl _ _ | with_reducible refine Kept.put ?_ ?_ | with_reducible refine Kept.drewN ?_ _ | with_reducible refine Kept.drew ?_ | with_reducible refine Kept.alloc ?_ _ | (with_reducible exact hk4) | (right; simp; done)))) (fun _ _ x => x)) (by omega)).mono ?_; rintro e w5 ⟨rfl, hk5⟩; have hk6 : Kept NoF w3 w5 := Kept.then (by (repeat' (first | with_reducible exact Kept.refl _ _ | with_reducible refine Kept.put ?_ ?_ | with_reducible refine Kept.drewN ?_ _ | with_reducible refine Kept.drew ?_ | with_reducible refine Kept.alloc ?_ _ | (with_reducible exact hk4) | (right; simp; done)))) hk5; have hx5 := Has.kept HX3.out hk6 (fun x => x); have q5 := And.intro (hx5.cell 0) (hx5.cell 1)))
        go_wp2
        go_roundw
        case rel => exact ⟨i + 1, F2, G3, ps3, lost3, by omega, by omega, by go_num, by omega, by omega, by go_num, HA3.out.kept hk6 (fun _ _ x => x), HR3.out.kept hk6 (fun _ _ x => x), hS3, hF3, hG3', HB3.out.trans (hk6.below HB3.out.size (fun _ x => x.elim))⟩
        case measure => simp [intOf]; omega
    · obtain ⟨wo, rfl⟩ : ∃ wo : World, wo = wr := ⟨_, rfl⟩
      have hl1' : (i < l.length ∧ ¬ (i : Int) < 60) ∨ ¬ i < l.length := by omega
      clear hlt
      rcases hl1' with ⟨hl1, hl2⟩ | hl1
      all_goals
        go_wp2_with fail
        refine (awake_any _).mono ?_
        rintro e w3 ⟨rfl, hk3⟩
        go_wp2_with fail
        go_ret
        exact ⟨rfl, hB.trans (hk3.below hsz (fun _ x => x.elim))⟩
end Ether
end Go.Proofs.Ytploafhenmfmhaa

namespace Go.Proofs.Ytploafhenmfmhaa.etherPlays
open Go.ChangeShapes Go.WideShapes Go.ChangeAt Go.RowKit
open Go.ChangeMaps (open_string shut_string)
set_option maxRecDepth 100000 in
theorem contract (H : Type) (enc : TypeId × Value → H) (W : World) (base : Nat) (args : Array Value) (ds gs : List (DataW H)) (before : List MemPlace)
    (hval : ∀ (j : Nat) t v, Try.f7.params[j]? = some t → args[j]? = some v → Value.okWide Try.prog W .any base t v)
    (hW : DataW.Whole enc Try.prog Try.f7.params.toList Rows.etherPlaysSpec.vars false W args.toList ds gs before) :
    Calls Try.prog 7 args W fun e W' => ∃ v, e = .returned v ∧ Rows.etherPlaysSpec.post enc Try.prog Try.f7 false true false false W args v W' := by
  have hW' := hW
  obtain ⟨p, q, hA0, hV, rfl, hfz, hnd⟩ := hW
  have hA : DataW.TrodAll enc Try.prog W 0 (fun _ => true) true Try.f7.params.toList args.toList ds p := hA0
  rw [Try.params7] at hA hval
  obtain ⟨v0, vs0, d0, ds0, p0, q0, hargs, rfl, rfl, h0, r0⟩ := trodAll_cons hA
  obtain ⟨rfl, rfl, rfl⟩ := trodAll_nil r0
  obtain rfl : args = #[v0] := by cases args; simp_all
  obtain ⟨rfl, rfl⟩ := trodVars_none hV
  have hlt : ∀ x : MemPlace, x ∈ _ → x.block < W.heap.size := fun x hx => hW'.lt x hx
  have g0 := h0
  obtain ⟨A0, c0, l0, rfl, hlc0, hcm0, hs0⟩ := open_acts (hval 0 58 v0 rfl rfl) h0
  clear hA0
  refine (Ether.law_plays W A0 c0 l0 hs0 hlc0 hcm0).mono fun e W' ⟨he, hb⟩ => ?_
  subst he
  exact ⟨_, rfl, post_below (pv := []) hW' (fun _ _ _ => trodAll_cons_mk (shut_bool Try.underlying4 _) trodAll_mk0)
    (fun sp hsp => (trodAll_cons_mk (arg_stays (by kernel_rfl) (by kernel_rfl) g0 hb hlt (fun x hx => hsp x hx) (fun x hx => by first | (simp at hx; done) | simp [hx])) trodAll_mk0)) (fun _ _ => rfl) (by simp)
    hb (ok_one (by kernel_rfl) rfl (okWide_bool_mk Try.underlying4 _))⟩

set_option maxRecDepth 100000 in
theorem lifted (os : Os) (started : os.Started) (H : Type) (enc : TypeId × Value → H) :
    ReturnsInHanded {} Try.checked os 7 .any (Rows.etherPlaysSpec.pre6 enc Try.prog Try.f7 Rows.etherPlaysRow.domain false) (Rows.etherPlaysSpec.post enc Try.prog Try.f7 false true false false) := by
  refine returnsInHanded_of_change (C := Try.checked) own started (by kernel_rfl) Try.func7
    (ChangeSpec.witness6 (enc := enc) (C := Try.checked) false ⟨#[], #[.slice none 0 0], []⟩ 8 (by kernel_rfl) (by kernel_rfl) (by kernel_rfl) (by kernel_rfl)) ?_
  intro W base args ds gs before hval hW _ _
  exact contract H enc W base args ds gs before hval hW

set_option maxRecDepth 100000 in
theorem proved : Rows.EtherPlaysSaid :=
  OpenClaim.holds_of_wide 7 Try.f7 rfl rfl rfl rfl rfl rfl rfl ⟨rfl, rfl, rfl, rfl, rfl⟩ rfl rfl rfl rfl rfl (by kernel_rfl) Try.func7 (by kernel_rfl)
    (of_decide_eq_true (by kernel_rfl)) (by unfold Func.isWrapper; first | (rw [if_pos (by decide +kernel)]; kernel_rfl) | (rw [if_neg (by decide +kernel)]; exact ⟨rfl, rfl⟩))
    (fun os started H enc _ => lifted os started H enc)
#print axioms proved
end Go.Proofs.Ytploafhenmfmhaa.etherPlays
