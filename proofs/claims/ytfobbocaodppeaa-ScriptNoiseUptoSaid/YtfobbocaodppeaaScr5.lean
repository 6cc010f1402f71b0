/- script.one: a step's bytes. -/
import Derived.Test.YtfobbocaodppeaaScr4
import Derived.Test.YtfobbocaodppeaaScrO
import Derived.Deep.RegionHeld3
set_option linter.unusedSimpArgs false
set_option linter.unusedVariables false
namespace Go.Proofs.Ytfobbocaodppeaa
open Go.RowKit Go.Shelf
set_option maxRecDepth 100000
namespace Scr
open Ops Vn Wire
theorem ws_more {N g : Nat} {w w' : World} {bs : List UInt8} {keep : List KB} (h : WS N w g bs keep) (hk : Kept NoF w w') {x : Nat} {t : TypeId} {cs : Array Value} (hx : Has w' x t cs) (hn : w.heap.size ≤ x) : WS N w' g bs ((x, t, cs) :: keep) := by
  obtain ⟨h0, F, h1, h2, h3⟩ := h
  refine ⟨Nat.le_trans h0 hk.size, F, h1.kept hk (sep_no F), h2, fun y hy => ?_⟩
  rcases List.mem_cons.1 hy with rfl | hy
  · exact ⟨fun hF => by have := h1.lt _ hF; simp at this; omega, hx⟩
  · exact ⟨(h3 y hy).1, (h3 y hy).2.kept hk (fun z => z)⟩
theorem putN_snoc (l : List Int) (n : Int) : putN (l ++ [n]) = putN l ++ put n.toNat := by unfold putN; rw [List.flatMap_append]; simp
theorem putN_le (l : List Int) (h : ∀ n ∈ l, may n = true) : (putN l).length ≤ 9 * l.length := by
  unfold putN
  induction l with
  | nil => simp
  | cons a l ih =>
    have h1 := ih fun n hn => h n (by simp [hn])
    have h2 := may_ok (h a (by simp))
    have h3 := put_le (n := a.toNat) (by omega)
    rw [List.flatMap_cons, List.length_append, List.length_cons]
    omega
theorem numsE_len (e : EvC) : (numsE e).length ≤ 6 ∧ 3 ≤ (numsE e).length := by
  unfold numsE
  split <;> simp
theorem putN_pos (l : List Int) (h : 0 < l.length) : putN l ≠ [] := by
  cases l with
  | nil => simp at h
  | cons a l =>
    unfold putN
    rw [List.flatMap_cons]
    intro e
    have h1 := put_pos a.toNat
    have := congrArg List.length e
    simp only [List.length_append, List.length_nil] at this
    omega
/-- What the function one leaves. -/
def OnePost (w : World) (x : EvC) (r : Ending) (w' : World) : Prop := r = .returned (.tuple #[.string (oneR x), .int .i64 (oneC x)]) ∧ Kept NoF w w'
theorem one_bad {x : EvC} {i : Nat} {n : Int} (h : (numsE x)[i]? = some n) (hb : may n = false) : oneC x = 5 ∧ oneR x = emp := by
  have h1 : okE x = false := by
    rw [okE_nums]
    rw [List.all_eq_false]
    exact ⟨n, List.mem_of_getElem? h, by simp [hb]⟩
  have h2 : oneC x = 5 := by unfold oneC; rw [if_neg (by simp [h1])]
  exact ⟨h2, by unfold oneR; rw [if_neg (by rw [h2]; decide)]⟩
theorem one_good {x : EvC} (h : ∀ n ∈ numsE x, may n = true) : okE x = true := by
  rw [okE_nums, List.all_eq_true]
  exact h
theorem one_fin {x : EvC} (h : okE x = true) : (255 < (putE x).length ∧ oneC x = 3 ∧ oneR x = emp) ∨ (¬ 255 < (putE x).length ∧ oneC x = 0 ∧ oneR x = ofL (putE x)) := by
  by_cases hl : 255 < (putE x).length
  · have h2 : oneC x = 3 := by unfold oneC; rw [if_pos h, if_pos hl]
    exact .inl ⟨hl, h2, by unfold oneR; rw [if_neg (by rw [h2]; decide)]⟩
  · have h2 : oneC x = 0 := by unfold oneC; rw [if_pos h, if_neg hl]
    exact .inr ⟨hl, h2, by unfold oneR; rw [if_pos h2]⟩
set_option maxHeartbeats 16000000 in
theorem one_any (w : World) (e : EvR) (hv : VOk w e) (hb : wtE e.x ≤ 1048576) : Calls Try.prog 15 #[vagg e] w (OnePost w e.x) := by
  have hnum := fun W => numbers_any W e
  obtain ⟨x, A, c⟩ := e
  unfold vagg at hnum ⊢
  dsimp only at hnum hb ⊢
  have hs := hv.1
  dsimp only at hs
  obtain ⟨ns, hns⟩ : ∃ ns, numsE x = ns := ⟨_, rfl⟩
  have hn6 := numsE_len x
  have hbad := fun (i : Nat) n => one_bad (x := x) (i := i) (n := n)
  have hgood := one_good (x := x)
  have hput := putE_nums x
  have hfin := one_fin (x := x)
  have htm := hv.2.2.2
  unfold TmOk at htm
  dsimp only at htm
  rw [hns] at hnum hn6 hbad hgood hput
  clear hns hv
  obtain ⟨R, hR⟩ : ∃ R, R = OnePost w x := ⟨_, rfl⟩
  rw [← hR]
  have HRT := Lib.hid hR; clear hR
  have HNUM := Lib.hid hnum; clear hnum
  have HS := Lib.hid hs; clear hs
  have HN6 := Lib.hid hn6; clear hn6
  have HBAD := Lib.hid hbad; clear hbad
  have HGOOD := Lib.hid hgood; clear hgood
  have HPUT := Lib.hid hput; clear hput
  have HFIN := Lib.hid hfin; clear hfin
  obtain ⟨k, nd, n, ak, an, key, dst, tm, am, l⟩ := x
  dsimp only at HS hb htm HPUT ⊢
  obtain ⟨tn, rfl⟩ : ∃ tn : Nat, tm = tn := ⟨tm.toNat, by omega⟩
  have htn : tn < 18446744073709551616 := by omega
  have HTN := Lib.hid htn; clear htn htm
  unfold wtE at hb
  dsimp only at hb
  have HWT := Lib.hid hb; clear hb
  obtain ⟨ev, hev⟩ : ∃ ev : Array Value, ev = #[.int .i64 k, .int .i64 nd, .int .i64 n, .int .i64 ak, .int .i64 an, .string key, .string dst, .int .u64 tn, .int .i64 am, .slice A l.length c] := ⟨_, rfl⟩
  have HE0 := Lib.hid (Has.new w 41 ev)
  have HEV := Lib.hid hev; clear hev
  have HK0 := Lib.hid ((Kept.refl NoF w).alloc (.cells ev 41))
  obtain ⟨bx, hbx⟩ : ∃ bx, w.heap.size = bx := ⟨_, rfl⟩
  obtain ⟨W1, hW1⟩ : ∃ W1, w.alloc (.cells ev 41) = W1 := ⟨_, rfl⟩
  rw [hW1] at HE0 HK0
  have hsz1 : w.heap.size ≤ W1.heap.size := HK0.out.size
  have HSZ1 := Lib.hid hsz1; clear hsz1
  rw [hbx] at HE0
  rw [HEV.out] at hW1
  have HW1 := Lib.hid hW1; clear hW1
  have HBX := Lib.hid hbx; clear hbx
  have hss : ∀ N W g bs keep, WS N W g bs keep → (bx, 41, ev) ∈ keep → (W.cell? ⟨bx, 0, none⟩ = some (.int .i64 k) ∧ W.cell? ⟨bx, 1, none⟩ = some (.int .i64 nd) ∧ W.cell? ⟨bx, 2, none⟩ = some (.int .i64 n) ∧ W.cell? ⟨bx, 3, none⟩ = some (.int .i64 ak) ∧ W.cell? ⟨bx, 4, none⟩ = some (.int .i64 an) ∧
      W.cell? ⟨bx, 5, none⟩ = some (.string key) ∧ W.cell? ⟨bx, 6, none⟩ = some (.string dst) ∧ W.cell? ⟨bx, 7, none⟩ = some (.int .u64 tn) ∧ W.cell? ⟨bx, 8, none⟩ = some (.int .i64 am) ∧ W.cell? ⟨bx, 9, none⟩ = some (.slice A l.length c)) := fun N W g bs keep hW hm => by
    have h := hW.has hm
    rw [HEV.out] at h
    exact ⟨h.cell 0, h.cell 1, h.cell 2, h.cell 3, h.cell 4, h.cell 5, h.cell 6, h.cell 7, h.cell 8, h.cell 9⟩
  have HSS := Lib.hid hss; clear hss
  go_enter Try.func15, Try.ntmps15
  go_wp2_with fail
  rw [HW1.out, HBX.out]
  refine (new_s W1 [(bx, 41, ev)] (fun y hy => by simp at hy; subst hy; exact HE0.out)).mono ?_
  rintro r w2 ⟨g, rfl, hw2, hk2⟩
  obtain ⟨c0, c1, c2, c3, c4, c5, c6, c7, c8, c9⟩ := HSS.out _ _ _ _ _ hw2 (by simp)
  have hkw : Kept NoF w w2 := HK0.out.then hk2
  have HW2 := Lib.hid hw2; clear hw2 hk2
  have HKW := Lib.hid hkw; clear hkw
  go_wp2_with fail
  refine (HNUM.out _).mono ?_
  rintro r w3 ⟨g2, cs, c2', rfl, hh, hg2, hcs, hk3⟩
  have hw3 := ws_more HW2.out hk3 hh hg2
  have hkw3 := HKW.out.then hk3
  obtain ⟨ad, had⟩ : ∃ ad, ad = (⟨g2, 0, none⟩ : Addr) := ⟨_, rfl⟩
  have hadc : ∀ W bs, WS W1.heap.size W g bs [(g2, 3, cs), (bx, 41, ev)] → ∀ (i : Nat) m, ns[i]? = some m → W.cell? (ad.add i) = some (.int .i64 m) := fun W bs hW i m hm => by
    rw [had, add_row, (hW.has (x := (g2, 3, cs)) (by simp)).cell]
    exact hcs i m hm
  rw [← had]
  have HADC := Lib.hid hadc; clear hadc had hcs hh hg2
  have HW3 := Lib.hid hw3; clear hw3 HW2 hk3
  have HK3 := Lib.hid hkw3; clear hkw3 HKW
  clear c0 c1 c2 c3 c4 c5 c6 c7 c8 c9
  have h6 := HN6.out
  go_wp2_with fail
  go_loopw [15] (fun v15 wr => ∃ i : Nat, i ≤ ns.length ∧ v15 = .int .i64 i ∧ WS W1.heap.size wr g (putN (ns.take i)) [(g2, 3, cs), (bx, 41, ev)] ∧ Kept NoF w wr ∧ ∀ n ∈ ns.take i, may n = true) (fun v15 _ => ns.length - (intOf v15).toNat)
  case atStart => exact ⟨0, Nat.zero_le _, rfl, HW3.out, HK3.out, by simp⟩
  case round =>
    obtain ⟨i, hi, rfl, hws, hk, hmay⟩ := hrel
    clear HW3 HK3
    have HK := Lib.hid hk; clear hk
    by_cases hil : i < ns.length
    · obtain ⟨m, hm⟩ : ∃ m, ns[i]? = some m := ⟨_, List.getElem?_eq_getElem hil⟩
      have hcell := HADC.out _ _ hws i m hm
      by_cases hok : may m = true
      · obtain ⟨h0, h1⟩ := may_ok hok
        obtain ⟨mn, rfl⟩ : ∃ mn : Nat, m = mn := ⟨m.toNat, by omega⟩
        have hnx : putN (ns.take (i + 1)) = putN (ns.take i) ++ put mn := by
          rw [List.take_add_one, hm]
          exact putN_snoc _ _
        have hle := putN_le _ hmay
        rw [List.length_take] at hle
        have hmay2 : ∀ n ∈ ns.take (i + 1), may n = true := by
          intro z hz
          rw [List.take_add_one, hm] at hz
          rcases List.mem_append.1 hz with hz | hz
          · exact hmay z hz
          · simp at hz; rw [hz]; exact hok
        obtain ⟨cur, hcur⟩ : ∃ cur, putN (ns.take i) = cur := ⟨_, rfl⟩
        rw [hcur] at hws hnx hle
        have hcl : cur.length ≤ 54 := by omega
        have g1 : ¬ (mn : Int) < 0 := by omega
        have g2 : ¬ (1073741824 : Int) < (mn : Int) := by omega
        have HNX := Lib.hid (And.intro hnx hmay2); clear hnx hmay2 hmay hle hcur hm hok
        have HWS := Lib.hid hws; clear hws
        go_wp2_with fail
        refine (num_s HWS.out mn (by omega) (by omega)).mono ?_
        rintro r w4 ⟨rfl, hw4, hb4⟩
        have hk4 := behind HK.out hb4 HSZ1.out
        rw [← HNX.out.1] at hw4
        have HR := Lib.hid (And.intro hw4 hk4); clear hw4 hk4 hb4
        go_wp2_with fail
        go_roundw
        case rel => exact ⟨i + 1, by omega, by go_num, HR.out.1, HR.out.2, HNX.out.2⟩
        case measure => simp [intOf]; omega
      · have hbad : may m = false := by simpa using hok
        obtain ⟨e1, e2⟩ := HBAD.out i m hm hbad
        have hr : ∀ W, Kept NoF w W → R (.returned (.tuple #[.string ⟨#[]⟩, .int .i64 5])) W := fun W hW => by
          rw [HRT.out]
          exact ⟨by rw [e1, e2]; rfl, hW⟩
        have HRR := Lib.hid hr
        have hcase : m < 0 ∨ (¬ m < 0 ∧ 1073741824 < m) := by
          unfold may at hbad
          simp at hbad
          omega
        clear hr e1 e2 hbad hok hm hmay hws
        rcases hcase with g1 | ⟨g1, g2⟩
        · go_wp2
          exact HRR.out _ HK.out
        · go_wp2
          exact HRR.out _ HK.out
    · obtain rfl : i = ns.length := by omega
      rw [List.take_length] at hws hmay
      have hle := putN_le _ hmay
      have hgd := HGOOD.out hmay
      have hfin := HFIN.out hgd
      have hpos := putN_pos ns (by omega)
      obtain ⟨c0, c1, c2, c3, c4, c5, c6, c7, c8, c9⟩ := HSS.out _ _ _ _ _ hws (by simp)
      obtain ⟨hd, hhd⟩ : ∃ hd, putN ns = hd := ⟨_, rfl⟩
      have hput := HPUT.out
      rw [hhd] at hws hle hpos hput
      have hhl : hd.length ≤ 54 := by omega
      clear HPUT HBAD HGOOD HFIN hmay hle hgd
      have hend : ∀ W s, Kept NoF w W → s = ofL (putE ⟨k, nd, n, ak, an, key, dst, tn, am, l⟩) → (255 < s.size → R (.returned (.tuple #[.string ⟨#[]⟩, .int .i64 3])) W) ∧ (¬ 255 < s.size → R (.returned (.tuple #[.string s, .int .i64 0])) W) := fun W s hW hs => by
        rw [HRT.out]
        have hsz : s.size = (putE ⟨k, nd, n, ak, an, key, dst, tn, am, l⟩).length := by rw [hs, ofL_size]
        rw [hsz]
        rcases hfin with ⟨a1, a2, a3⟩ | ⟨a1, a2, a3⟩
        · exact ⟨fun _ => ⟨by rw [a2, a3]; rfl, hW⟩, fun h => absurd a1 h⟩
        · exact ⟨fun h => absurd h a1, fun _ => ⟨by rw [a2, a3, hs], hW⟩⟩
      have HEND := Lib.hid hend; clear hend hfin
      by_cases hk0 : k = 0
      rotate_left
      · have hk1 : (k == 0) = false := by simpa using hk0
        rw [if_neg hk0, List.append_nil] at hput
        rw [← hput] at hws hpos
        have HWS := Lib.hid hws; clear hws hput
        have HPOS := Lib.hid hpos; clear hpos
        obtain ⟨pe, hpe⟩ : ∃ pe, putE ⟨k, nd, n, ak, an, key, dst, tn, am, l⟩ = pe := ⟨_, rfl⟩
        rw [hpe] at HWS HPOS HEND
        clear hpe
        go_wp2_with fail
        refine (done_s HWS.out HPOS.out).mono ?_
        rintro r w5 ⟨rfl, hb⟩
        have hkk := behind HK.out hb HSZ1.out
        obtain ⟨t1, t2⟩ := HEND.out _ _ hkk rfl
        have HT1 := Lib.hid t1; clear t1
        have HT2 := Lib.hid t2; clear t2
        clear hkk hb
        obtain ⟨S, hS⟩ : ∃ S, ofL pe = S := ⟨_, rfl⟩
        rw [hS] at HT1 HT2 ⊢
        clear hS
        by_cases hlong : (255 : Int) < S.size
        · go_wp2
          exact HT1.out (by omega)
        · go_wp2
          exact HT2.out (by omega)
      · subst hk0
        rw [if_pos rfl] at hput
        unfold tailA at hput
        dsimp only at hput
        simp only [Int.toNat_natCast] at hput
        have pt1 : (putT key).length ≤ 9 + key.size := by
          have h1 := put_le (n := key.size) (by have := HWT.out; omega)
          unfold putT; rw [List.length_append, size_bl]; omega
        have pt2 : (putT dst).length ≤ 9 + dst.size := by
          have h1 := put_le (n := dst.size) (by have := HWT.out; omega)
          unfold putT; rw [List.length_append, size_bl]; omega
        have pt3 := put_le (n := tn) HTN.out
        have hll := wtO_len l
        have pt4 := put_le (n := l.length) (by have := HWT.out; omega)
        obtain ⟨h2, hh2⟩ : ∃ h2, hd ++ put tn ++ putT key ++ putT dst ++ put l.length = h2 := ⟨_, rfl⟩
        have hput2 : putE ⟨0, nd, n, ak, an, key, dst, tn, am, l⟩ = h2 ++ l.flatMap putO := by
          rw [hput, ← hh2]
          simp only [List.append_assoc]
        have h2l : h2.length ≤ 1100000 := by
          rw [← hh2]
          have := HWT.out
          simp only [List.length_append]
          omega
        have h2p : h2 ≠ [] := by
          rw [← hh2]
          intro e
          have h1 := put_pos l.length
          have := congrArg List.length e
          simp only [List.length_append, List.length_nil] at this
          omega
        clear hput hpos
        have HPT := Lib.hid (And.intro pt1 (And.intro pt2 (And.intro pt3 (And.intro pt4 (And.intro hll hhl))))); clear pt1 pt2 pt3 pt4 hll hhl
        have HHH := Lib.hid (And.intro hput2 (And.intro h2l h2p)); clear hput2 h2l h2p
        have HH2 := Lib.hid hh2; clear hh2 hhd
        have hsq : ∀ W bs, WS W1.heap.size W g bs [(g2, 3, cs), (bx, 41, ev)] → (W.cell? ⟨bx, 7, none⟩ = some (.int .u64 tn) ∧ W.cell? ⟨bx, 5, none⟩ = some (.string key) ∧ W.cell? ⟨bx, 6, none⟩ = some (.string dst) ∧ W.cell? ⟨bx, 9, none⟩ = some (.slice A l.length c)) := fun W bs hW => by
          obtain ⟨_, _, _, _, _, h5, h6, h7, _, h9⟩ := HSS.out _ _ _ _ _ hW (by simp)
          exact ⟨h7, h5, h6, h9⟩
        have HSQ := Lib.hid hsq; clear hsq
        have q0 : wr.cell? ⟨bx, 7, none⟩ = some (.int .u64 tn) ∧ wr.cell? ⟨bx, 5, none⟩ = some (.string key) ∧ wr.cell? ⟨bx, 6, none⟩ = some (.string dst) ∧ wr.cell? ⟨bx, 9, none⟩ = some (.slice A l.length c) := ⟨c7, c5, c6, c9⟩
        have HV0 := Lib.hid hws; clear hws
        go_wp2_with fail
        go_region_held3 (fun W => W.cell? ⟨bx, 7, none⟩ = some (.int .u64 tn) ∧ W.cell? ⟨bx, 5, none⟩ = some (.string key) ∧ W.cell? ⟨bx, 6, none⟩ = some (.string dst) ∧ W.cell? ⟨bx, 9, none⟩ = some (.slice A l.length c)) (first | with_reducible exact q4 | with_reducible exact q3 | with_reducible exact q2 | with_reducible exact q1 | with_reducible exact q0 | (simp [go_sem, q0]; done))
          (first
            | (have hx := HV3; clear hx; go_at_call 25; refine (num_s (by exact HV3.out) l.length (by have := HWT.out; have := HPT.out; omega) (by have := HWT.out; have := HPT.out; simp only [List.length_append]; omega)).mono ?_; rintro e w6 ⟨rfl, hv4, hd4⟩; have q4 := HSQ.out _ _ hv4; have HV4 := Lib.hid hv4; have HD4 := Lib.hid hd4; clear hv4 hd4)
            | (have hx := HV2; clear hx; go_at_call 27; refine (text_s (by exact HV2.out) dst (by have := HWT.out; have := HPT.out; simp only [List.length_append]; omega)).mono ?_; rintro e w5 ⟨rfl, hv3, hd3⟩; have q3 := HSQ.out _ _ hv3; have HV3 := Lib.hid hv3; have HD3 := Lib.hid hd3; clear hv3 hd3)
            | (have hx := HV1; clear hx; go_at_call 27; refine (text_s (by exact HV1.out) key (by have := HWT.out; have := HPT.out; simp only [List.length_append]; omega)).mono ?_; rintro e w4 ⟨rfl, hv2, hd2⟩; have q2 := HSQ.out _ _ hv2; have HV2 := Lib.hid hv2; have HD2 := Lib.hid hd2; clear hv2 hd2)
            | (go_at_call 26; refine (big_s (by exact HV0.out) tn HTN.out (by have := HPT.out; omega)).mono ?_; rintro e w3 ⟨rfl, hv1, hd1⟩; have q1 := HSQ.out _ _ hv1; have HV1 := Lib.hid hv1; have HD1 := Lib.hid hd1; clear hv1 hd1))
        have hkk4 : Kept NoF w w6 := behind (behind (behind (behind (w := w) (by (repeat' (first | with_reducible exact Kept.refl _ _ | with_reducible refine Kept.put ?_ ?_ | with_reducible refine Kept.drewN ?_ _ | with_reducible refine Kept.drew ?_ | with_reducible refine Kept.alloc ?_ _ | (with_reducible exact HK.out) | (right; simp; done)))) HD1.out HSZ1.out) HD2.out HSZ1.out) HD3.out HSZ1.out) HD4.out HSZ1.out
        have hv4 := HV4.out
        rw [HH2.out] at hv4
        have hlb : l.length ≤ 1048576 := by have := wtO_len l; have := HWT.out; omega
        clear q0 q1 q2 q3 HV0 HV1 HV2 HV3 HV4 HD1 HD2 HD3 HD4 c0 c1 c2 c3 c4 c5 c6 c7 c8 c9 HK
        have HV4 := Lib.hid hv4; clear hv4
        have HK4 := Lib.hid hkk4; clear hkk4
        obtain ⟨u7, u5, u6, u9⟩ := q4
        clear u5 u6 u7
        go_wp2
        go_loopw [54] (fun v54 wz => ∃ i : Nat, i ≤ l.length ∧ v54 = .int .i64 i ∧ WS W1.heap.size wz g (h2 ++ (l.take i).flatMap putO) [(g2, 3, cs), (bx, 41, ev)] ∧ Kept NoF w wz) (fun v54 _ => l.length - (intOf v54).toNat)
        case atStart => exact ⟨0, Nat.zero_le _, rfl, by simpa using HV4.out, HK4.out⟩
        case round =>
          obtain ⟨i, hi, rfl, hws, hk⟩ := hrel
          clear HV4 HK4 u9
          have HK := Lib.hid hk; clear hk
          by_cases hil : i < l.length
          · obtain ⟨o, ho⟩ : ∃ o, l[i]? = some o := ⟨_, List.getElem?_eq_getElem hil⟩
            have hoi : l[i] = o := by rw [List.getElem?_eq_getElem hil] at ho; exact Option.some.inj ho
            obtain ⟨ado, rfl, hado, e0, e1, e2⟩ := op_cells (HS.out.kept HK.out (fun _ _ x => x)) (by omega) i o ho
            have hflat := flat_succ putO l i hil
            rw [hoi] at hflat
            have hwo := wtO_mem (List.mem_of_getElem? ho)
            have hft := flatO_le (l.take i) (by have := wtO_take l i; have := HWT.out; omega)
            have htk := wtO_take l i
            obtain ⟨cur, hcur⟩ : ∃ cur, h2 ++ (l.take i).flatMap putO = cur := ⟨_, rfl⟩
            have hLB : cur.length ≤ 30000000 := by
              rw [← hcur, List.length_append]
              have := HHH.out.2.1
              have := HWT.out
              omega
            rw [hcur] at hws
            have hnext : h2 ++ (l.take (i + 1)).flatMap putO = ((cur ++ putT o.key) ++ putF o.del) ++ putT o.val := by
              rw [hflat, ← List.append_assoc, hcur]
              unfold putO
              simp only [List.append_assoc]
            have HNX := Lib.hid hnext; clear hnext hflat hft htk hcur ho hoi
            have HLB := Lib.hid hLB; clear hLB
            have hob : o.key.size + o.val.size + 1 ≤ 1048576 := by have := HWT.out; omega
            have HOB := Lib.hid hob; clear hob hwo
            have pt1 : (putT o.key).length ≤ 9 + o.key.size := by
              have h1 := put_le (n := o.key.size) (by have := HOB.out; omega)
              unfold putT; rw [List.length_append, size_bl]; omega
            have HPT1 := Lib.hid pt1; clear pt1
            have hw0 := hws.add 55 #[.string o.key, .string o.val, .bool o.del]
            have HW0 := Lib.hid hw0; clear hw0 hws
            have hos : ∀ W bs, WS W1.heap.size W g bs [(wr.heap.size, 55, #[.string o.key, .string o.val, .bool o.del]), (g2, 3, cs), (bx, 41, ev)] → (W.cell? ⟨wr.heap.size, 0, none⟩ = some (.string o.key) ∧ W.cell? ⟨wr.heap.size, 1, none⟩ = some (.string o.val) ∧ W.cell? ⟨wr.heap.size, 2, none⟩ = some (.bool o.del)) :=
              fun W bs hW => ⟨(hW.has (List.mem_cons_self ..)).cell 0, (hW.has (List.mem_cons_self ..)).cell 1, (hW.has (List.mem_cons_self ..)).cell 2⟩
            have HOS := Lib.hid hos; clear hos
            have r0 := HOS.out _ _ HW0.out
            go_wp2_with fail
            go_region_held3 (fun W => W.cell? ⟨wr.heap.size, 0, none⟩ = some (.string o.key) ∧ W.cell? ⟨wr.heap.size, 1, none⟩ = some (.string o.val) ∧ W.cell? ⟨wr.heap.size, 2, none⟩ = some (.bool o.del)) (first | with_reducible exact r3 | with_reducible exact r2 | with_reducible exact r1 | with_reducible exact r0 | (simp [go_sem, r0]; done))
              (first
                | (have hx := HV2; clear hx; go_at_call 27; refine (text_s (by exact HV2.out) o.val (by have := HLB.out; have := HOB.out; have := HPT1.out; simp [putF]; omega)).mono ?_; rintro e w5 ⟨rfl, hv3, hd3⟩; have r3 := HOS.out _ _ hv3; have HV3 := Lib.hid hv3; have HD3 := Lib.hid hd3; clear hv3 hd3)
                | (have hx := HV1; clear hx; go_at_call 28; refine (flag_s (by exact HV1.out) o.del (by have := HLB.out; have := HOB.out; have := HPT1.out; simp; omega)).mono ?_; rintro e w4 ⟨rfl, hv2, hd2⟩; have r2 := HOS.out _ _ hv2; have HV2 := Lib.hid hv2; have HD2 := Lib.hid hd2; clear hv2 hd2)
                | (go_at_call 27; refine (text_s (by exact HW0.out) o.key (by have := HLB.out; have := HOB.out; omega)).mono ?_; rintro e w3 ⟨rfl, hv1, hd1⟩; have r1 := HOS.out _ _ hv1; have HV1 := Lib.hid hv1; have HD1 := Lib.hid hd1; clear hv1 hd1))
            have hkk := behind (behind (behind (w := w) (by (repeat' (first | with_reducible exact Kept.refl _ _ | with_reducible refine Kept.put ?_ ?_ | with_reducible refine Kept.drewN ?_ _ | with_reducible refine Kept.drew ?_ | with_reducible refine Kept.alloc ?_ _ | (with_reducible exact HK.out) | (right; simp; done)))) HD1.out HSZ1.out) HD2.out HSZ1.out) HD3.out HSZ1.out
            have HKK := Lib.hid hkk; clear hkk HD1 HD2 HD3
            have hv := HV3.out.tail2
            rw [← HNX.out] at hv
            have HV := Lib.hid hv; clear hv
            go_wp2
            go_roundw
            case rel => exact ⟨i + 1, by omega, by go_num, HV.out, HKK.out⟩
            case measure => simp [intOf]; omega
          · obtain rfl : i = l.length := by omega
            rw [List.take_length, ← HHH.out.1] at hws
            have hpos : putE ⟨0, nd, n, ak, an, key, dst, tn, am, l⟩ ≠ [] := by
              rw [HHH.out.1]
              intro e
              exact HHH.out.2.2 (List.append_eq_nil_iff.1 e).1
            obtain ⟨pe, hpe⟩ : ∃ pe, putE ⟨0, nd, n, ak, an, key, dst, tn, am, l⟩ = pe := ⟨_, rfl⟩
            rw [hpe] at hws hpos HEND
            have HWS := Lib.hid hws; clear hws
            have HPOS := Lib.hid hpos; clear hpos hpe
            go_wp2_with fail
            refine (done_s HWS.out HPOS.out).mono ?_
            rintro r w5 ⟨rfl, hb⟩
            have hkk := behind HK.out hb HSZ1.out
            obtain ⟨t1, t2⟩ := HEND.out _ _ hkk rfl
            have HT1 := Lib.hid t1; clear t1
            have HT2 := Lib.hid t2; clear t2
            clear hkk hb
            obtain ⟨S, hS⟩ : ∃ S, ofL pe = S := ⟨_, rfl⟩
            rw [hS] at HT1 HT2 ⊢
            clear hS
            by_cases hlong : (255 : Int) < S.size
            · go_wp2
              exact HT1.out (by omega)
            · go_wp2
              exact HT2.out (by omega)
end Scr
end Go.Proofs.Ytfobbocaodppeaa
