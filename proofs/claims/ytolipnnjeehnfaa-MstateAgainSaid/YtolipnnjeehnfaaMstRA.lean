/- The document's Check of a note. -/
import Derived.Test.YtolipnnjeehnfaaMst4
import Derived.Test.YtolipnnjeehnfaaOps2
import Derived.Test.YtolipnnjeehnfaaConf2
import Derived.Test.YtolipnnjeehnfaaMst18
import Derived.Deep.RegionLaw
import Derived.Test.YtolipnnjeehnfaaMst21
import Derived.Test.YtolipnnjeehnfaaMstP
set_option linter.unusedSimpArgs false
set_option linter.unusedVariables false
namespace Go.Proofs.Ytolipnnjeehnfaa
open Go.RowKit
set_option maxRecDepth 100000
namespace Mst
open Plan
def mayB (n : Int) : Bool := decide (0 ≤ n ∧ n ≤ 1073741824)
theorem may_any (w : World) (n : Int) : Calls Try.prog 62 #[.int .i64 n] w fun e w' => e = .returned (.bool (mayB n)) ∧ Kept NoF w w' := by
  by_cases h1 : 0 ≤ n
  · by_cases h2 : n ≤ 1073741824
    · have hr : mayB n = true := decide_eq_true ⟨h1, h2⟩
      rw [hr]
      clear hr
      go_enter Try.func62, Try.ntmps62
      go_wp2
      go_ret
      exact ⟨rfl, Kept.refl _ _⟩
    · have hr : mayB n = false := decide_eq_false (fun h => h2 h.2)
      rw [hr]
      clear hr
      go_enter Try.func62, Try.ntmps62
      go_wp2
      go_ret
      exact ⟨rfl, Kept.refl _ _⟩
  · have hr : mayB n = false := decide_eq_false (fun h => h1 h.1)
    rw [hr]
    clear hr
    go_enter Try.func62, Try.ntmps62
    go_wp2
    go_ret
    exact ⟨rfl, Kept.refl _ _⟩
theorem rngE_may (n : Int) : rngE n = if mayB n = true then 0 else 5 := by
  unfold rngE mayB
  by_cases h : 0 ≤ n ∧ n ≤ 1073741824
  · rw [if_neg (by omega), if_pos (decide_eq_true h)]
  · rw [if_pos (by omega), if_neg (by simpa using h)]
theorem rngL_one (n : Int) : rngL [n] = if mayB n = true then 0 else 5 := by
  rw [← rngE_may]
  unfold rngL firstE firstE
  split
  · rename_i h; exact h.symm
  · rfl
theorem rngL_two (a b : Int) : rngL [a, b] = if mayB a = true then (if mayB b = true then 0 else 5) else 5 := by
  have h1 := rngE_may a
  have h2 := rngE_may b
  unfold rngL firstE firstE firstE
  rw [h1, h2]
  cases mayB a <;> cases mayB b <;> rfl
theorem legF_cases (l : List Int) (i : Nat) (x : Int) : (legF l i x = 1 ∧ (x < 0 ∨ 4 ≤ x)) ∨ (¬ x < 0 ∧ ¬ 4 ≤ x ∧ ((legF l i x = 18 ∧ 0 < i ∧ x ≤ l.getD (i - 1) 0) ∨ (legF l i x = 0 ∧ ¬ (0 < i ∧ x ≤ l.getD (i - 1) 0)))) := by
  unfold legF
  by_cases h : x < 0 ∨ 4 ≤ x
  · rw [if_pos h]; exact .inl ⟨rfl, h⟩
  · rw [if_neg h]
    refine .inr ⟨by omega, by omega, ?_⟩
    by_cases h2 : 0 < i ∧ x ≤ l.getD (i - 1) 0
    · rw [if_pos h2]; exact .inl ⟨rfl, h2⟩
    · rw [if_neg h2]; exact .inr ⟨rfl, h2⟩
set_option maxHeartbeats 4000000 in
theorem rlegit_any (w : World) (A : Option Addr) (c : Nat) (l : List Int) (hl : Src w 1 A l.length (ints l)) (hlen : l.length ≤ 1000000) :
    Calls Try.prog 61 #[.slice A l.length c] w fun e w' => e = .returned (.int .i64 (legE l)) ∧ Kept NoF w w' := by
  have HL := Lib.hid hl; clear hl
  by_cases h4 : 4 < l.length
  · have hr : legE l = 6 := by unfold legE; rw [if_pos h4]
    have h4' : (4 : Int) < (l.length : Int) := by omega
    rw [hr]
    clear hr h4
    go_enter Try.func61, Try.ntmps61
    go_wp2
    go_ret
    exact ⟨rfl, Kept.refl _ _⟩
  · have hr : legE l = firstE (legF l) l 0 := by unfold legE; rw [if_neg h4]
    have h4' : ¬ (4 : Int) < (l.length : Int) := by omega
    have HR := Lib.hid hr; clear hr
    go_enter Try.func61, Try.ntmps61
    go_wp2_with fail
    go_loopw [3] (fun v3 wr => ∃ (i n : Nat), i ≤ l.length ∧ v3 = .int .i64 i ∧ wr = w.drewN n ∧ legE l = firstE (legF l) (l.drop i) i) (fun v3 _ => l.length - (intOf v3).toNat)
    case atStart => exact ⟨0, 0, Nat.zero_le _, rfl, rfl, HR.out⟩
    case round =>
      obtain ⟨i, n, hi, rfl, rfl, he⟩ := hrel
      have HE := Lib.hid he; clear he
      by_cases hil : i < l.length
      · obtain ⟨x, hx⟩ : ∃ x, l[i]? = some x := ⟨_, List.getElem?_eq_getElem hil⟩
        have hsa := firstE_at (legF l) hx
        have hxi := hx
        obtain ⟨ad, rfl, hl1, x0⟩ := int_cells HL.out (by omega) i x hx
        have x0' : ∀ m, (w.drewN m).cell? (ad.add i) = some (.int .i64 x) := fun m => x0
        rcases legF_cases l i x with ⟨hf, h1⟩ | ⟨h1, h2, ⟨hf, h3, h5⟩ | ⟨hf, h3⟩⟩
        · rw [hf, if_neg (by decide)] at hsa
          have HRE := Lib.hid (HE.out.trans hsa); clear hsa hx hf hxi
          rcases h1 with h1 | h1
          · have g1 : (x < 0) = True := eq_true h1
            go_wp2
            go_ret
            exact ⟨by rw [HRE.out]; rfl, Kept.quiet _ _ _⟩
          · have g1 : (x < 0) = False := eq_false (by omega)
            have g2 : (4 ≤ x) = True := eq_true h1
            go_wp2
            go_ret
            exact ⟨by rw [HRE.out]; rfl, Kept.quiet _ _ _⟩
        · rw [hf, if_neg (by decide)] at hsa
          have HRE := Lib.hid (HE.out.trans hsa); clear hsa hx hf
          obtain ⟨y, hy⟩ : ∃ y, l[i - 1]? = some y := ⟨_, List.getElem?_eq_getElem (by omega)⟩
          rw [List.getD_eq_getElem?_getD, hy] at h5
          obtain ⟨ad2, e2, _, y0⟩ := int_cells HL.out (by omega) (i - 1) y hy
          injection e2 with e2
          subst e2
          have y0' : ∀ m, (w.drewN m).cell? (ad.add (i - 1)) = some (.int .i64 y) := fun m => y0
          have g1 : (x < 0) = False := eq_false h1
          have g2 : (4 ≤ x) = False := eq_false h2
          have g3 : (0 < i) = True := eq_true (by omega)
          have g4 : (x ≤ y) = True := eq_true h5
          have g5 : IntKind.i64.wrap ((i : Int) - 1) = (i : Int) - 1 := IntWalk.i64_in _ (by omega)
          have g6 : (0 : Int) ≤ (i : Int) - 1 := by omega
          have g7 : ((i : Int) - 1).toNat = i - 1 := by omega
          have g8 : (i : Int) - 1 < (l.length : Int) := by omega
          clear hy hxi h1 h2 h3 h5
          go_wp2_with fail
          go_quiet (fail)
          clear g5 g6 g7 g8
          go_wp2
          go_ret
          exact ⟨by rw [HRE.out]; rfl, (Kept.quiet _ _ _).drewN _⟩
        · rw [hf, if_pos rfl] at hsa
          have HRE := Lib.hid (HE.out.trans hsa); clear hsa hx hf
          have g1 : (x < 0) = False := eq_false h1
          have g2 : (4 ≤ x) = False := eq_false h2
          by_cases h0 : i = 0
          · subst h0
            have x0'' : ∀ m, (w.drewN m).cell? ad = some (.int .i64 x) := fun m => by have := x0' m; rwa [show ad.add 0 = ad from rfl] at this
            clear h1 h2 h3 hxi x0' x0
            go_wp2_with fail
            go_quiet (fail)
            go_wp2
            go_roundw
            case rel => exact ⟨1, _, by omega, by go_num, rfl, HRE.out⟩
            case measure => simp [intOf]; omega
          · obtain ⟨y, hy⟩ : ∃ y, l[i - 1]? = some y := ⟨_, List.getElem?_eq_getElem (by omega)⟩
            have h5 : ¬ x ≤ y := fun h => h3 ⟨by omega, by rw [List.getD_eq_getElem?_getD, hy]; exact h⟩
            obtain ⟨ad2, e2, _, y0⟩ := int_cells HL.out (by omega) (i - 1) y hy
            injection e2 with e2
            subst e2
            have y0' : ∀ m, (w.drewN m).cell? (ad.add (i - 1)) = some (.int .i64 y) := fun m => y0
            have g3 : (0 < i) = True := eq_true (by omega)
            have g4 : (x ≤ y) = False := eq_false h5
            have g5 : IntKind.i64.wrap ((i : Int) - 1) = (i : Int) - 1 := IntWalk.i64_in _ (by omega)
            have g6 : (0 : Int) ≤ (i : Int) - 1 := by omega
            have g7 : ((i : Int) - 1).toNat = i - 1 := by omega
            have g8 : (i : Int) - 1 < (l.length : Int) := by omega
            clear hy hxi h1 h2 h3 h5 h0
            go_wp2_with fail
            go_quiet (fail)
            clear g5 g6 g7 g8
            go_wp2
            go_roundw
            case rel => exact ⟨i + 1, _, by omega, by go_num, rfl, HRE.out⟩
            case measure => simp [intOf]; omega
      · obtain rfl : i = l.length := by omega
        have hz : firstE (legF l) (l.drop l.length) l.length = 0 := by rw [List.drop_length, firstE]
        have HRE := Lib.hid (HE.out.trans hz); clear hz
        go_wp2
        go_ret
        exact ⟨by rw [HRE.out]; rfl, Kept.quiet _ _ _⟩
end Mst
end Go.Proofs.Ytolipnnjeehnfaa
/- The document's Check of a note. -/
namespace Go.Proofs.Ytolipnnjeehnfaa
open Go.RowKit
set_option maxRecDepth 100000
namespace Mst
open Plan
theorem richeck_any (w : World) (b : Ops.Batch) (A : Option Addr) (c : Nat) (ts : Int) (hs : Src w 3 A b.ops.length (Ops.cells b.ops)) (hcap : b.ops.length ≤ c) :
    Calls Try.prog 63 #[.agg #[.int .i64 b.cl, .int .i64 b.req, .slice A b.ops.length c, .int .u64 ts]] w fun e w' => e = .returned (.int .i64 (Ops.chk b)) ∧ Kept NoF w w' := by
  have h := fun W (hW : Kept NoF w W) => Ops.rcheck_any W b A c (hs.kept hW (fun _ _ z => z)) hcap
  obtain ⟨cl, req, ops⟩ := b
  dsimp only [Ops.bagg] at *
  obtain ⟨r, hr⟩ : ∃ r, Ops.chk ⟨cl, req, ops⟩ = r := ⟨_, rfl⟩
  rw [hr] at h ⊢
  have H := Lib.hid h; clear h hr hs
  go_enter Try.func63, Try.ntmps63
  go_wp2_with fail
  refine (H.out _ (by (repeat' (first | with_reducible exact Kept.refl _ _ | with_reducible refine Kept.put ?_ ?_ | with_reducible refine Kept.drewN ?_ _ | with_reducible refine Kept.drew ?_ | with_reducible refine Kept.alloc ?_ _ | (fail) | (right; simp; done))))).mono ?_
  rintro e w2 ⟨rfl, hk⟩
  have hk2 := Kept.then (F := NoF) (a := w) (by (repeat' (first | with_reducible exact Kept.refl _ _ | with_reducible refine Kept.put ?_ ?_ | with_reducible refine Kept.drewN ?_ _ | with_reducible refine Kept.drew ?_ | with_reducible refine Kept.alloc ?_ _ | (fail) | (right; simp; done)))) hk
  have HK := Lib.hid hk2; clear hk hk2
  go_wp2
  go_ret
  exact ⟨rfl, HK.out⟩
theorem saidE_cases (a : AnsR) : (saidE a = 1 ∧ a.cl < 0) ∨ (saidE a = 1 ∧ ¬ a.cl < 0 ∧ 3 ≤ a.cl) ∨ (¬ a.cl < 0 ∧ ¬ 3 ≤ a.cl ∧ ((saidE a = 5 ∧ mayB a.req = false) ∨ (mayB a.req = true ∧ ((saidE a = 5 ∧ mayB a.pin = false) ∨ (mayB a.pin = true ∧ ((saidE a = 1 ∧ a.e < 0) ∨ (saidE a = 1 ∧ ¬ a.e < 0 ∧ 21 < a.e) ∨ (saidE a = 0 ∧ ¬ a.e < 0 ∧ ¬ 21 < a.e))))))) := by
  have hr := rngL_two a.req a.pin
  unfold saidE
  by_cases h1 : a.cl < 0
  · exact .inl ⟨by rw [if_pos (.inl h1)], h1⟩
  by_cases h2 : 3 ≤ a.cl
  · exact .inr (.inl ⟨by rw [if_pos (.inr h2)], h1, h2⟩)
  refine .inr (.inr ⟨h1, h2, ?_⟩)
  rw [if_neg (by omega), hr]
  cases m1 : mayB a.req
  · exact .inl ⟨by rfl, rfl⟩
  refine .inr ⟨rfl, ?_⟩
  cases m2 : mayB a.pin
  · exact .inl ⟨by rfl, rfl⟩
  refine .inr ⟨rfl, ?_⟩
  rw [if_pos rfl, if_pos rfl, if_neg (by simp)]
  by_cases h3 : a.e < 0
  · exact .inl ⟨by rw [if_pos (.inl h3)], h3⟩
  by_cases h4 : 21 < a.e
  · exact .inr (.inl ⟨by rw [if_pos (.inr h4)], h3, h4⟩)
  exact .inr (.inr ⟨by rw [if_neg (by omega)], h3, h4⟩)
set_option maxHeartbeats 4000000 in
theorem rsaid_any (w : World) (a : AnsR) : Calls Try.prog 64 #[ansagg a] w fun e w' => e = .returned (.int .i64 (saidE a)) ∧ Kept NoF w w' := by
  have hc := saidE_cases a
  obtain ⟨cl, req, e, pin⟩ := a
  dsimp only [ansagg] at *
  obtain ⟨E, hE⟩ : ∃ E, saidE ⟨cl, req, e, pin⟩ = E := ⟨_, rfl⟩
  rw [hE] at hc ⊢
  clear hE
  have hm := fun W n => may_any W n
  obtain ⟨W0, hW0⟩ : ∃ W0, w.alloc (.cells #[.int .i64 cl, .int .i64 req, .int .i64 e, .int .i64 pin] 46) = W0 := ⟨_, rfl⟩
  have hk0 : Kept NoF w W0 := by rw [← hW0]; (repeat' (first | with_reducible exact Kept.refl _ _ | with_reducible refine Kept.put ?_ ?_ | with_reducible refine Kept.drewN ?_ _ | with_reducible refine Kept.drew ?_ | with_reducible refine Kept.alloc ?_ _ | (fail) | (right; simp; done)))
  have hn0 : Has W0 w.heap.size 46 #[.int .i64 cl, .int .i64 req, .int .i64 e, .int .i64 pin] := by rw [← hW0]; exact Has.new _ _ _
  have hce : ∀ W, Kept NoF W0 W → W.cell? ⟨w.heap.size, 0, none⟩ = some (.int .i64 cl) ∧ W.cell? ⟨w.heap.size, 1, none⟩ = some (.int .i64 req) ∧ W.cell? ⟨w.heap.size, 2, none⟩ = some (.int .i64 e) ∧ W.cell? ⟨w.heap.size, 3, none⟩ = some (.int .i64 pin) := fun W hW => by
    have g := hn0.kept hW (fun z => z)
    exact ⟨g.cell 0, g.cell 1, g.cell 2, g.cell 3⟩
  have HM := Lib.hid hm; have HK0 := Lib.hid hk0; have HCE := Lib.hid hce
  have HS := Lib.hid (Kept.refl NoF W0)
  clear hm hk0 hn0 hce
  obtain ⟨z0, z1, z2, z3⟩ := HCE.out _ HS.out
  rcases hc with ⟨rfl, h1⟩ | ⟨rfl, h1, h2⟩ | ⟨h1, h2, hc⟩
  · go_enter Try.func64, Try.ntmps64
    go_wp2
    go_ret
    exact ⟨rfl, HK0.out⟩
  · go_enter Try.func64, Try.ntmps64
    go_wp2
    go_ret
    exact ⟨rfl, HK0.out⟩
  rcases hc with ⟨rfl, h3⟩ | ⟨h3, hc⟩
  · go_enter Try.func64, Try.ntmps64
    go_wp2_with fail
    clear hW0
    refine (HM.out _ _).mono ?_
    rintro e1 w2 ⟨rfl, hk⟩
    rw [h3]
    have HS1 := Lib.hid (HS.out.then hk); clear hk
    obtain ⟨y0, y1, y2, y3⟩ := HCE.out _ HS1.out
    go_wp2
    go_ret
    exact ⟨rfl, HK0.out.then HS1.out⟩
  rcases hc with ⟨rfl, h4⟩ | ⟨h4, hc⟩
  · go_enter Try.func64, Try.ntmps64
    go_wp2_with fail
    clear hW0
    refine (HM.out _ _).mono ?_
    rintro e1 w2 ⟨rfl, hk⟩
    rw [h3]
    have HS1 := Lib.hid (HS.out.then hk); clear hk
    obtain ⟨y0, y1, y2, y3⟩ := HCE.out _ HS1.out
    go_wp2_with fail
    clear y0 y1 y2 y3
    refine (HM.out _ _).mono ?_
    rintro e1 w3 ⟨rfl, hk⟩
    rw [h4]
    have HS2 := Lib.hid (HS1.out.then hk); clear hk
    obtain ⟨y0, y1, y2, y3⟩ := HCE.out _ HS2.out
    go_wp2
    go_ret
    exact ⟨rfl, HK0.out.then HS2.out⟩
  rcases hc with ⟨rfl, h5⟩ | ⟨rfl, h5, h6⟩ | ⟨rfl, h5, h6⟩
  all_goals
    go_enter Try.func64, Try.ntmps64
    go_wp2_with fail
    clear hW0
    refine (HM.out _ _).mono ?_
    rintro e1 w2 ⟨rfl, hk⟩
    rw [h3]
    have HS1 := Lib.hid (HS.out.then hk); clear hk
    obtain ⟨y0, y1, y2, y3⟩ := HCE.out _ HS1.out
    go_wp2_with fail
    clear y0 y1 y2 y3
    refine (HM.out _ _).mono ?_
    rintro e1 w3 ⟨rfl, hk⟩
    rw [h4]
    have HS2 := Lib.hid (HS1.out.then hk); clear hk
    obtain ⟨y0, y1, y2, y3⟩ := HCE.out _ HS2.out
    go_wp2
    go_ret
    exact ⟨rfl, HK0.out.then HS2.out⟩
set_option maxHeartbeats 4000000 in
theorem nrcheck1_any (w : World) (x : NoteR) (h : NOk w x) (hcap : x.b.ops.length ≤ x.oc) (hk : x.k = 1) : Calls Try.prog 34 #[nagg x] w fun e w' => e = .returned (.int .i64 (noteE x)) ∧ Kept NoF w w' := by
  obtain ⟨k, n, at2, ep, mA, mc, ms, fl, lA, lc, lg, oA, oc, ⟨bcl, breq, ops⟩, ts, ⟨p1, p2, p3⟩, ⟨s1, s2, s3, s4⟩⟩ := x
  obtain ⟨h1, h2, h3, h4, h5, h6, h7⟩ := h
  unfold noteE nagg ncell
  dsimp only at *
  subst hk
  rw [if_pos rfl]
  obtain ⟨W0, hW0⟩ : ∃ W0, w.alloc (.cells #[.int .i64 1, .int .i64 n, .int .u64 at2, .int .i64 ep, .slice mA ms.length mc, .int .u64 fl, .slice lA lg.length lc, .int .i64 bcl, .int .i64 breq, .slice oA ops.length oc, .int .u64 ts, .int .i64 p1, .int .u64 p2, .int .i64 p3, .int .i64 s1, .int .i64 s2, .int .i64 s3, .int .i64 s4] 48) = W0 := ⟨_, rfl⟩
  have hk0 : Kept NoF w W0 := by rw [← hW0]; (repeat' (first | with_reducible exact Kept.refl _ _ | with_reducible refine Kept.put ?_ ?_ | with_reducible refine Kept.drewN ?_ _ | with_reducible refine Kept.drew ?_ | with_reducible refine Kept.alloc ?_ _ | (fail) | (right; simp; done)))
  have hn0 : Has W0 w.heap.size 48 #[.int .i64 1, .int .i64 n, .int .u64 at2, .int .i64 ep, .slice mA ms.length mc, .int .u64 fl, .slice lA lg.length lc, .int .i64 bcl, .int .i64 breq, .slice oA ops.length oc, .int .u64 ts, .int .i64 p1, .int .u64 p2, .int .i64 p3, .int .i64 s1, .int .i64 s2, .int .i64 s3, .int .i64 s4] := by rw [← hW0]; exact Has.new _ _ _
  have hce : ∀ W, Kept NoF W0 W → W.cell? ⟨w.heap.size, 0, none⟩ = some (.int .i64 1) ∧ W.cell? ⟨w.heap.size, 1, none⟩ = some (.int .i64 n) ∧ W.cell? ⟨w.heap.size, 2, none⟩ = some (.int .u64 at2) ∧ W.cell? ⟨w.heap.size, 3, none⟩ = some (.int .i64 ep) ∧ W.cell? ⟨w.heap.size, 4, none⟩ = some (.slice mA ms.length mc) ∧ W.cell? ⟨w.heap.size, 5, none⟩ = some (.int .u64 fl) ∧ W.cell? ⟨w.heap.size, 6, none⟩ = some (.slice lA lg.length lc) ∧ W.cell? ⟨w.heap.size, 7, none⟩ = some (.int .i64 bcl) ∧ W.cell? ⟨w.heap.size, 8, none⟩ = some (.int .i64 breq) ∧ W.cell? ⟨w.heap.size, 9, none⟩ = some (.slice oA ops.length oc) ∧ W.cell? ⟨w.heap.size, 10, none⟩ = some (.int .u64 ts) ∧ W.cell? ⟨w.heap.size, 11, none⟩ = some (.int .i64 p1) ∧ W.cell? ⟨w.heap.size, 12, none⟩ = some (.int .u64 p2) ∧ W.cell? ⟨w.heap.size, 13, none⟩ = some (.int .i64 p3) ∧ W.cell? ⟨w.heap.size, 14, none⟩ = some (.int .i64 s1) ∧ W.cell? ⟨w.heap.size, 15, none⟩ = some (.int .i64 s2) ∧ W.cell? ⟨w.heap.size, 16, none⟩ = some (.int .i64 s3) ∧ W.cell? ⟨w.heap.size, 17, none⟩ = some (.int .i64 s4) := fun W hW => by
    have g := hn0.kept hW (fun z => z)
    exact ⟨g.cell 0, g.cell 1, g.cell 2, g.cell 3, g.cell 4, g.cell 5, g.cell 6, g.cell 7, g.cell 8, g.cell 9, g.cell 10, g.cell 11, g.cell 12, g.cell 13, g.cell 14, g.cell 15, g.cell 16, g.cell 17⟩
  have hc := fun W (hW : Kept NoF w W) => Plan.rcheck_any W ep fl mA mc ms (h1.kept hW (fun _ _ z => z)) (by omega)
  have hg := fun W (hW : Kept NoF w W) => rlegit_any W lA lc lg (h4.kept hW (fun _ _ z => z)) (by omega)
  obtain ⟨t, ht⟩ : ∃ t, chk ep ms = t := ⟨_, rfl⟩
  obtain ⟨g, hg2⟩ : ∃ g, legE lg = g := ⟨_, rfl⟩
  simp only [ht] at hc
  simp only [hg2] at hg
  rw [ht, hg2]
  have HC := Lib.hid hc; have HG := Lib.hid hg
  clear hc hg ht hg2
  have HK0 := Lib.hid hk0; have HCE := Lib.hid hce; have HS := Lib.hid (Kept.refl NoF W0)
  clear hk0 hn0 hce h1 h2 h3 h4 h5 h6 h7
  obtain ⟨y0, y1, y2, y3, y4, y5, y6, y7, y8, y9, y10, y11, y12, y13, y14, y15, y16, y17⟩ := HCE.out _ HS.out
  by_cases ht0 : t = 0
  · subst ht0
    rw [if_pos rfl]
    go_enter Try.func34, Try.ntmps34
    go_wp2_with fail
    clear hW0 y0 y1 y2 y3 y4 y5 y6 y7 y8 y9 y10 y11 y12 y13 y14 y15 y16 y17
    refine (HC.out _ HK0.out).mono ?_
    rintro e1 w2 ⟨rfl, hk⟩
    have HS1 := Lib.hid (HS.out.then hk); clear hk
    obtain ⟨y0, y1, y2, y3, y4, y5, y6, y7, y8, y9, y10, y11, y12, y13, y14, y15, y16, y17⟩ := HCE.out _ HS1.out
    go_wp2_with fail
    clear y0 y1 y2 y3 y4 y5 y6 y7 y8 y9 y10 y11 y12 y13 y14 y15 y16 y17
    refine (HG.out _ (HK0.out.then HS1.out)).mono ?_
    rintro e1 w3 ⟨rfl, hk⟩
    have HS2 := Lib.hid (HS1.out.then hk); clear hk
    obtain ⟨y0, y1, y2, y3, y4, y5, y6, y7, y8, y9, y10, y11, y12, y13, y14, y15, y16, y17⟩ := HCE.out _ HS2.out
    go_wp2
    go_ret
    exact ⟨rfl, HK0.out.then HS2.out⟩
  · have ht1 : (t != 0) = true := by simpa using ht0
    rw [if_neg ht0]
    clear ht0
    go_enter Try.func34, Try.ntmps34
    go_wp2_with fail
    clear hW0 y0 y1 y2 y3 y4 y5 y6 y7 y8 y9 y10 y11 y12 y13 y14 y15 y16 y17
    refine (HC.out _ HK0.out).mono ?_
    rintro e1 w2 ⟨rfl, hk⟩
    have HS1 := Lib.hid (HS.out.then hk); clear hk
    obtain ⟨y0, y1, y2, y3, y4, y5, y6, y7, y8, y9, y10, y11, y12, y13, y14, y15, y16, y17⟩ := HCE.out _ HS1.out
    go_wp2
    go_ret
    exact ⟨rfl, HK0.out.then HS1.out⟩
set_option maxHeartbeats 4000000 in
theorem nrcheck2_any (w : World) (x : NoteR) (h : NOk w x) (hcap : x.b.ops.length ≤ x.oc) (hk : x.k = 2) : Calls Try.prog 34 #[nagg x] w fun e w' => e = .returned (.int .i64 (noteE x)) ∧ Kept NoF w w' := by
  obtain ⟨k, n, at2, ep, mA, mc, ms, fl, lA, lc, lg, oA, oc, ⟨bcl, breq, ops⟩, ts, ⟨p1, p2, p3⟩, ⟨s1, s2, s3, s4⟩⟩ := x
  obtain ⟨h1, h2, h3, h4, h5, h6, h7⟩ := h
  unfold noteE nagg ncell
  dsimp only at *
  subst hk
  rw [if_neg (by decide), if_pos rfl, rngL_one]
  obtain ⟨W0, hW0⟩ : ∃ W0, w.alloc (.cells #[.int .i64 2, .int .i64 n, .int .u64 at2, .int .i64 ep, .slice mA ms.length mc, .int .u64 fl, .slice lA lg.length lc, .int .i64 bcl, .int .i64 breq, .slice oA ops.length oc, .int .u64 ts, .int .i64 p1, .int .u64 p2, .int .i64 p3, .int .i64 s1, .int .i64 s2, .int .i64 s3, .int .i64 s4] 48) = W0 := ⟨_, rfl⟩
  have hk0 : Kept NoF w W0 := by rw [← hW0]; (repeat' (first | with_reducible exact Kept.refl _ _ | with_reducible refine Kept.put ?_ ?_ | with_reducible refine Kept.drewN ?_ _ | with_reducible refine Kept.drew ?_ | with_reducible refine Kept.alloc ?_ _ | (fail) | (right; simp; done)))
  have hn0 : Has W0 w.heap.size 48 #[.int .i64 2, .int .i64 n, .int .u64 at2, .int .i64 ep, .slice mA ms.length mc, .int .u64 fl, .slice lA lg.length lc, .int .i64 bcl, .int .i64 breq, .slice oA ops.length oc, .int .u64 ts, .int .i64 p1, .int .u64 p2, .int .i64 p3, .int .i64 s1, .int .i64 s2, .int .i64 s3, .int .i64 s4] := by rw [← hW0]; exact Has.new _ _ _
  have hce : ∀ W, Kept NoF W0 W → W.cell? ⟨w.heap.size, 0, none⟩ = some (.int .i64 2) ∧ W.cell? ⟨w.heap.size, 1, none⟩ = some (.int .i64 n) ∧ W.cell? ⟨w.heap.size, 2, none⟩ = some (.int .u64 at2) ∧ W.cell? ⟨w.heap.size, 3, none⟩ = some (.int .i64 ep) ∧ W.cell? ⟨w.heap.size, 4, none⟩ = some (.slice mA ms.length mc) ∧ W.cell? ⟨w.heap.size, 5, none⟩ = some (.int .u64 fl) ∧ W.cell? ⟨w.heap.size, 6, none⟩ = some (.slice lA lg.length lc) ∧ W.cell? ⟨w.heap.size, 7, none⟩ = some (.int .i64 bcl) ∧ W.cell? ⟨w.heap.size, 8, none⟩ = some (.int .i64 breq) ∧ W.cell? ⟨w.heap.size, 9, none⟩ = some (.slice oA ops.length oc) ∧ W.cell? ⟨w.heap.size, 10, none⟩ = some (.int .u64 ts) ∧ W.cell? ⟨w.heap.size, 11, none⟩ = some (.int .i64 p1) ∧ W.cell? ⟨w.heap.size, 12, none⟩ = some (.int .u64 p2) ∧ W.cell? ⟨w.heap.size, 13, none⟩ = some (.int .i64 p3) ∧ W.cell? ⟨w.heap.size, 14, none⟩ = some (.int .i64 s1) ∧ W.cell? ⟨w.heap.size, 15, none⟩ = some (.int .i64 s2) ∧ W.cell? ⟨w.heap.size, 16, none⟩ = some (.int .i64 s3) ∧ W.cell? ⟨w.heap.size, 17, none⟩ = some (.int .i64 s4) := fun W hW => by
    have g := hn0.kept hW (fun z => z)
    exact ⟨g.cell 0, g.cell 1, g.cell 2, g.cell 3, g.cell 4, g.cell 5, g.cell 6, g.cell 7, g.cell 8, g.cell 9, g.cell 10, g.cell 11, g.cell 12, g.cell 13, g.cell 14, g.cell 15, g.cell 16, g.cell 17⟩
  have hc := fun W (hW : Kept NoF w W) => richeck_any W ⟨bcl, breq, ops⟩ oA oc ts (h7.kept hW (fun _ _ z => z)) hcap
  obtain ⟨g, hg2⟩ : ∃ g, Ops.chk ⟨bcl, breq, ops⟩ = g := ⟨_, rfl⟩
  rw [hg2]
  simp only [hg2] at hc
  have HC := Lib.hid hc; have HM := Lib.hid (fun W => may_any W n)
  clear hc hg2 hcap
  have HK0 := Lib.hid hk0; have HCE := Lib.hid hce; have HS := Lib.hid (Kept.refl NoF W0)
  clear hk0 hn0 hce h1 h2 h3 h4 h5 h6 h7
  obtain ⟨y0, y1, y2, y3, y4, y5, y6, y7, y8, y9, y10, y11, y12, y13, y14, y15, y16, y17⟩ := HCE.out _ HS.out
  cases hm : mayB n
  · rw [if_neg (by decide), if_neg (by decide)]
    go_enter Try.func34, Try.ntmps34
    go_wp2_with fail
    clear hW0 y0 y1 y2 y3 y4 y5 y6 y7 y8 y9 y10 y11 y12 y13 y14 y15 y16 y17
    refine (HM.out _).mono ?_
    rintro e1 w2 ⟨rfl, hk⟩
    rw [hm]
    have HS1 := Lib.hid (HS.out.then hk); clear hk
    obtain ⟨y0, y1, y2, y3, y4, y5, y6, y7, y8, y9, y10, y11, y12, y13, y14, y15, y16, y17⟩ := HCE.out _ HS1.out
    go_wp2
    go_ret
    exact ⟨rfl, HK0.out.then HS1.out⟩
  · rw [if_pos rfl, if_pos rfl]
    go_enter Try.func34, Try.ntmps34
    go_wp2_with fail
    clear hW0 y0 y1 y2 y3 y4 y5 y6 y7 y8 y9 y10 y11 y12 y13 y14 y15 y16 y17
    refine (HM.out _).mono ?_
    rintro e1 w2 ⟨rfl, hk⟩
    rw [hm]
    have HS1 := Lib.hid (HS.out.then hk); clear hk
    obtain ⟨y0, y1, y2, y3, y4, y5, y6, y7, y8, y9, y10, y11, y12, y13, y14, y15, y16, y17⟩ := HCE.out _ HS1.out
    go_wp2_with fail
    clear y0 y1 y2 y3 y4 y5 y6 y7 y8 y9 y10 y11 y12 y13 y14 y15 y16 y17
    refine (HC.out _ (HK0.out.then HS1.out)).mono ?_
    rintro e1 w3 ⟨rfl, hk⟩
    have HS2 := Lib.hid (HS1.out.then hk); clear hk
    obtain ⟨y0, y1, y2, y3, y4, y5, y6, y7, y8, y9, y10, y11, y12, y13, y14, y15, y16, y17⟩ := HCE.out _ HS2.out
    go_wp2
    go_ret
    exact ⟨rfl, HK0.out.then HS2.out⟩
set_option maxHeartbeats 4000000 in
theorem nrcheck3_any (w : World) (x : NoteR) (h : NOk w x) (hcap : x.b.ops.length ≤ x.oc) (hk : x.k = 3) : Calls Try.prog 34 #[nagg x] w fun e w' => e = .returned (.int .i64 (noteE x)) ∧ Kept NoF w w' := by
  obtain ⟨k, n, at2, ep, mA, mc, ms, fl, lA, lc, lg, oA, oc, ⟨bcl, breq, ops⟩, ts, ⟨p1, p2, p3⟩, ⟨s1, s2, s3, s4⟩⟩ := x
  obtain ⟨h1, h2, h3, h4, h5, h6, h7⟩ := h
  unfold noteE nagg ncell
  dsimp only at *
  subst hk
  rw [if_neg (by decide), if_neg (by decide), if_pos (by decide), rngL_one]
  obtain ⟨W0, hW0⟩ : ∃ W0, w.alloc (.cells #[.int .i64 3, .int .i64 n, .int .u64 at2, .int .i64 ep, .slice mA ms.length mc, .int .u64 fl, .slice lA lg.length lc, .int .i64 bcl, .int .i64 breq, .slice oA ops.length oc, .int .u64 ts, .int .i64 p1, .int .u64 p2, .int .i64 p3, .int .i64 s1, .int .i64 s2, .int .i64 s3, .int .i64 s4] 48) = W0 := ⟨_, rfl⟩
  have hk0 : Kept NoF w W0 := by rw [← hW0]; (repeat' (first | with_reducible exact Kept.refl _ _ | with_reducible refine Kept.put ?_ ?_ | with_reducible refine Kept.drewN ?_ _ | with_reducible refine Kept.drew ?_ | with_reducible refine Kept.alloc ?_ _ | (fail) | (right; simp; done)))
  have hn0 : Has W0 w.heap.size 48 #[.int .i64 3, .int .i64 n, .int .u64 at2, .int .i64 ep, .slice mA ms.length mc, .int .u64 fl, .slice lA lg.length lc, .int .i64 bcl, .int .i64 breq, .slice oA ops.length oc, .int .u64 ts, .int .i64 p1, .int .u64 p2, .int .i64 p3, .int .i64 s1, .int .i64 s2, .int .i64 s3, .int .i64 s4] := by rw [← hW0]; exact Has.new _ _ _
  have hce : ∀ W, Kept NoF W0 W → W.cell? ⟨w.heap.size, 0, none⟩ = some (.int .i64 3) ∧ W.cell? ⟨w.heap.size, 1, none⟩ = some (.int .i64 n) ∧ W.cell? ⟨w.heap.size, 2, none⟩ = some (.int .u64 at2) ∧ W.cell? ⟨w.heap.size, 3, none⟩ = some (.int .i64 ep) ∧ W.cell? ⟨w.heap.size, 4, none⟩ = some (.slice mA ms.length mc) ∧ W.cell? ⟨w.heap.size, 5, none⟩ = some (.int .u64 fl) ∧ W.cell? ⟨w.heap.size, 6, none⟩ = some (.slice lA lg.length lc) ∧ W.cell? ⟨w.heap.size, 7, none⟩ = some (.int .i64 bcl) ∧ W.cell? ⟨w.heap.size, 8, none⟩ = some (.int .i64 breq) ∧ W.cell? ⟨w.heap.size, 9, none⟩ = some (.slice oA ops.length oc) ∧ W.cell? ⟨w.heap.size, 10, none⟩ = some (.int .u64 ts) ∧ W.cell? ⟨w.heap.size, 11, none⟩ = some (.int .i64 p1) ∧ W.cell? ⟨w.heap.size, 12, none⟩ = some (.int .u64 p2) ∧ W.cell? ⟨w.heap.size, 13, none⟩ = some (.int .i64 p3) ∧ W.cell? ⟨w.heap.size, 14, none⟩ = some (.int .i64 s1) ∧ W.cell? ⟨w.heap.size, 15, none⟩ = some (.int .i64 s2) ∧ W.cell? ⟨w.heap.size, 16, none⟩ = some (.int .i64 s3) ∧ W.cell? ⟨w.heap.size, 17, none⟩ = some (.int .i64 s4) := fun W hW => by
    have g := hn0.kept hW (fun z => z)
    exact ⟨g.cell 0, g.cell 1, g.cell 2, g.cell 3, g.cell 4, g.cell 5, g.cell 6, g.cell 7, g.cell 8, g.cell 9, g.cell 10, g.cell 11, g.cell 12, g.cell 13, g.cell 14, g.cell 15, g.cell 16, g.cell 17⟩
  have HM := Lib.hid (fun W => may_any W n)
  have HK0 := Lib.hid hk0; have HCE := Lib.hid hce; have HS := Lib.hid (Kept.refl NoF W0)
  clear hk0 hn0 hce h1 h2 h3 h4 h5 h6 h7
  obtain ⟨y0, y1, y2, y3, y4, y5, y6, y7, y8, y9, y10, y11, y12, y13, y14, y15, y16, y17⟩ := HCE.out _ HS.out
  cases hm : mayB n
  · rw [if_neg (by decide)]
    go_enter Try.func34, Try.ntmps34
    go_wp2_with fail
    clear hW0 y0 y1 y2 y3 y4 y5 y6 y7 y8 y9 y10 y11 y12 y13 y14 y15 y16 y17
    refine (HM.out _).mono ?_
    rintro e1 w2 ⟨rfl, hk⟩
    rw [hm]
    have HS1 := Lib.hid (HS.out.then hk); clear hk
    obtain ⟨y0, y1, y2, y3, y4, y5, y6, y7, y8, y9, y10, y11, y12, y13, y14, y15, y16, y17⟩ := HCE.out _ HS1.out
    go_wp2
    go_ret
    exact ⟨rfl, HK0.out.then HS1.out⟩
  · rw [if_pos rfl]
    go_enter Try.func34, Try.ntmps34
    go_wp2_with fail
    clear hW0 y0 y1 y2 y3 y4 y5 y6 y7 y8 y9 y10 y11 y12 y13 y14 y15 y16 y17
    refine (HM.out _).mono ?_
    rintro e1 w2 ⟨rfl, hk⟩
    rw [hm]
    have HS1 := Lib.hid (HS.out.then hk); clear hk
    obtain ⟨y0, y1, y2, y3, y4, y5, y6, y7, y8, y9, y10, y11, y12, y13, y14, y15, y16, y17⟩ := HCE.out _ HS1.out
    go_wp2
    go_ret
    exact ⟨rfl, HK0.out.then HS1.out⟩
set_option maxHeartbeats 4000000 in
theorem nrcheck4_any (w : World) (x : NoteR) (h : NOk w x) (hcap : x.b.ops.length ≤ x.oc) (hk : x.k = 4) : Calls Try.prog 34 #[nagg x] w fun e w' => e = .returned (.int .i64 (noteE x)) ∧ Kept NoF w w' := by
  obtain ⟨k, n, at2, ep, mA, mc, ms, fl, lA, lc, lg, oA, oc, ⟨bcl, breq, ops⟩, ts, ⟨p1, p2, p3⟩, ⟨s1, s2, s3, s4⟩⟩ := x
  obtain ⟨h1, h2, h3, h4, h5, h6, h7⟩ := h
  unfold noteE nagg ncell
  dsimp only at *
  subst hk
  rw [if_neg (by decide), if_neg (by decide), if_pos (by decide), rngL_one]
  obtain ⟨W0, hW0⟩ : ∃ W0, w.alloc (.cells #[.int .i64 4, .int .i64 n, .int .u64 at2, .int .i64 ep, .slice mA ms.length mc, .int .u64 fl, .slice lA lg.length lc, .int .i64 bcl, .int .i64 breq, .slice oA ops.length oc, .int .u64 ts, .int .i64 p1, .int .u64 p2, .int .i64 p3, .int .i64 s1, .int .i64 s2, .int .i64 s3, .int .i64 s4] 48) = W0 := ⟨_, rfl⟩
  have hk0 : Kept NoF w W0 := by rw [← hW0]; (repeat' (first | with_reducible exact Kept.refl _ _ | with_reducible refine Kept.put ?_ ?_ | with_reducible refine Kept.drewN ?_ _ | with_reducible refine Kept.drew ?_ | with_reducible refine Kept.alloc ?_ _ | (fail) | (right; simp; done)))
  have hn0 : Has W0 w.heap.size 48 #[.int .i64 4, .int .i64 n, .int .u64 at2, .int .i64 ep, .slice mA ms.length mc, .int .u64 fl, .slice lA lg.length lc, .int .i64 bcl, .int .i64 breq, .slice oA ops.length oc, .int .u64 ts, .int .i64 p1, .int .u64 p2, .int .i64 p3, .int .i64 s1, .int .i64 s2, .int .i64 s3, .int .i64 s4] := by rw [← hW0]; exact Has.new _ _ _
  have hce : ∀ W, Kept NoF W0 W → W.cell? ⟨w.heap.size, 0, none⟩ = some (.int .i64 4) ∧ W.cell? ⟨w.heap.size, 1, none⟩ = some (.int .i64 n) ∧ W.cell? ⟨w.heap.size, 2, none⟩ = some (.int .u64 at2) ∧ W.cell? ⟨w.heap.size, 3, none⟩ = some (.int .i64 ep) ∧ W.cell? ⟨w.heap.size, 4, none⟩ = some (.slice mA ms.length mc) ∧ W.cell? ⟨w.heap.size, 5, none⟩ = some (.int .u64 fl) ∧ W.cell? ⟨w.heap.size, 6, none⟩ = some (.slice lA lg.length lc) ∧ W.cell? ⟨w.heap.size, 7, none⟩ = some (.int .i64 bcl) ∧ W.cell? ⟨w.heap.size, 8, none⟩ = some (.int .i64 breq) ∧ W.cell? ⟨w.heap.size, 9, none⟩ = some (.slice oA ops.length oc) ∧ W.cell? ⟨w.heap.size, 10, none⟩ = some (.int .u64 ts) ∧ W.cell? ⟨w.heap.size, 11, none⟩ = some (.int .i64 p1) ∧ W.cell? ⟨w.heap.size, 12, none⟩ = some (.int .u64 p2) ∧ W.cell? ⟨w.heap.size, 13, none⟩ = some (.int .i64 p3) ∧ W.cell? ⟨w.heap.size, 14, none⟩ = some (.int .i64 s1) ∧ W.cell? ⟨w.heap.size, 15, none⟩ = some (.int .i64 s2) ∧ W.cell? ⟨w.heap.size, 16, none⟩ = some (.int .i64 s3) ∧ W.cell? ⟨w.heap.size, 17, none⟩ = some (.int .i64 s4) := fun W hW => by
    have g := hn0.kept hW (fun z => z)
    exact ⟨g.cell 0, g.cell 1, g.cell 2, g.cell 3, g.cell 4, g.cell 5, g.cell 6, g.cell 7, g.cell 8, g.cell 9, g.cell 10, g.cell 11, g.cell 12, g.cell 13, g.cell 14, g.cell 15, g.cell 16, g.cell 17⟩
  have HM := Lib.hid (fun W => may_any W n)
  have HK0 := Lib.hid hk0; have HCE := Lib.hid hce; have HS := Lib.hid (Kept.refl NoF W0)
  clear hk0 hn0 hce h1 h2 h3 h4 h5 h6 h7
  obtain ⟨y0, y1, y2, y3, y4, y5, y6, y7, y8, y9, y10, y11, y12, y13, y14, y15, y16, y17⟩ := HCE.out _ HS.out
  cases hm : mayB n
  · rw [if_neg (by decide)]
    go_enter Try.func34, Try.ntmps34
    go_wp2_with fail
    clear hW0 y0 y1 y2 y3 y4 y5 y6 y7 y8 y9 y10 y11 y12 y13 y14 y15 y16 y17
    refine (HM.out _).mono ?_
    rintro e1 w2 ⟨rfl, hk⟩
    rw [hm]
    have HS1 := Lib.hid (HS.out.then hk); clear hk
    obtain ⟨y0, y1, y2, y3, y4, y5, y6, y7, y8, y9, y10, y11, y12, y13, y14, y15, y16, y17⟩ := HCE.out _ HS1.out
    go_wp2
    go_ret
    exact ⟨rfl, HK0.out.then HS1.out⟩
  · rw [if_pos rfl]
    go_enter Try.func34, Try.ntmps34
    go_wp2_with fail
    clear hW0 y0 y1 y2 y3 y4 y5 y6 y7 y8 y9 y10 y11 y12 y13 y14 y15 y16 y17
    refine (HM.out _).mono ?_
    rintro e1 w2 ⟨rfl, hk⟩
    rw [hm]
    have HS1 := Lib.hid (HS.out.then hk); clear hk
    obtain ⟨y0, y1, y2, y3, y4, y5, y6, y7, y8, y9, y10, y11, y12, y13, y14, y15, y16, y17⟩ := HCE.out _ HS1.out
    go_wp2
    go_ret
    exact ⟨rfl, HK0.out.then HS1.out⟩
set_option maxHeartbeats 4000000 in
theorem nrcheck5_any (w : World) (x : NoteR) (h : NOk w x) (hcap : x.b.ops.length ≤ x.oc) (hk : x.k = 5) : Calls Try.prog 34 #[nagg x] w fun e w' => e = .returned (.int .i64 (noteE x)) ∧ Kept NoF w w' := by
  obtain ⟨k, n, at2, ep, mA, mc, ms, fl, lA, lc, lg, oA, oc, ⟨bcl, breq, ops⟩, ts, ⟨p1, p2, p3⟩, ⟨s1, s2, s3, s4⟩⟩ := x
  obtain ⟨h1, h2, h3, h4, h5, h6, h7⟩ := h
  unfold noteE nagg ncell
  dsimp only at *
  subst hk
  rw [if_neg (by decide), if_neg (by decide), if_pos (by decide), rngL_one]
  obtain ⟨W0, hW0⟩ : ∃ W0, w.alloc (.cells #[.int .i64 5, .int .i64 n, .int .u64 at2, .int .i64 ep, .slice mA ms.length mc, .int .u64 fl, .slice lA lg.length lc, .int .i64 bcl, .int .i64 breq, .slice oA ops.length oc, .int .u64 ts, .int .i64 p1, .int .u64 p2, .int .i64 p3, .int .i64 s1, .int .i64 s2, .int .i64 s3, .int .i64 s4] 48) = W0 := ⟨_, rfl⟩
  have hk0 : Kept NoF w W0 := by rw [← hW0]; (repeat' (first | with_reducible exact Kept.refl _ _ | with_reducible refine Kept.put ?_ ?_ | with_reducible refine Kept.drewN ?_ _ | with_reducible refine Kept.drew ?_ | with_reducible refine Kept.alloc ?_ _ | (fail) | (right; simp; done)))
  have hn0 : Has W0 w.heap.size 48 #[.int .i64 5, .int .i64 n, .int .u64 at2, .int .i64 ep, .slice mA ms.length mc, .int .u64 fl, .slice lA lg.length lc, .int .i64 bcl, .int .i64 breq, .slice oA ops.length oc, .int .u64 ts, .int .i64 p1, .int .u64 p2, .int .i64 p3, .int .i64 s1, .int .i64 s2, .int .i64 s3, .int .i64 s4] := by rw [← hW0]; exact Has.new _ _ _
  have hce : ∀ W, Kept NoF W0 W → W.cell? ⟨w.heap.size, 0, none⟩ = some (.int .i64 5) ∧ W.cell? ⟨w.heap.size, 1, none⟩ = some (.int .i64 n) ∧ W.cell? ⟨w.heap.size, 2, none⟩ = some (.int .u64 at2) ∧ W.cell? ⟨w.heap.size, 3, none⟩ = some (.int .i64 ep) ∧ W.cell? ⟨w.heap.size, 4, none⟩ = some (.slice mA ms.length mc) ∧ W.cell? ⟨w.heap.size, 5, none⟩ = some (.int .u64 fl) ∧ W.cell? ⟨w.heap.size, 6, none⟩ = some (.slice lA lg.length lc) ∧ W.cell? ⟨w.heap.size, 7, none⟩ = some (.int .i64 bcl) ∧ W.cell? ⟨w.heap.size, 8, none⟩ = some (.int .i64 breq) ∧ W.cell? ⟨w.heap.size, 9, none⟩ = some (.slice oA ops.length oc) ∧ W.cell? ⟨w.heap.size, 10, none⟩ = some (.int .u64 ts) ∧ W.cell? ⟨w.heap.size, 11, none⟩ = some (.int .i64 p1) ∧ W.cell? ⟨w.heap.size, 12, none⟩ = some (.int .u64 p2) ∧ W.cell? ⟨w.heap.size, 13, none⟩ = some (.int .i64 p3) ∧ W.cell? ⟨w.heap.size, 14, none⟩ = some (.int .i64 s1) ∧ W.cell? ⟨w.heap.size, 15, none⟩ = some (.int .i64 s2) ∧ W.cell? ⟨w.heap.size, 16, none⟩ = some (.int .i64 s3) ∧ W.cell? ⟨w.heap.size, 17, none⟩ = some (.int .i64 s4) := fun W hW => by
    have g := hn0.kept hW (fun z => z)
    exact ⟨g.cell 0, g.cell 1, g.cell 2, g.cell 3, g.cell 4, g.cell 5, g.cell 6, g.cell 7, g.cell 8, g.cell 9, g.cell 10, g.cell 11, g.cell 12, g.cell 13, g.cell 14, g.cell 15, g.cell 16, g.cell 17⟩
  have HM := Lib.hid (fun W => may_any W n)
  have HK0 := Lib.hid hk0; have HCE := Lib.hid hce; have HS := Lib.hid (Kept.refl NoF W0)
  clear hk0 hn0 hce h1 h2 h3 h4 h5 h6 h7
  obtain ⟨y0, y1, y2, y3, y4, y5, y6, y7, y8, y9, y10, y11, y12, y13, y14, y15, y16, y17⟩ := HCE.out _ HS.out
  cases hm : mayB n
  · rw [if_neg (by decide)]
    go_enter Try.func34, Try.ntmps34
    go_wp2_with fail
    clear hW0 y0 y1 y2 y3 y4 y5 y6 y7 y8 y9 y10 y11 y12 y13 y14 y15 y16 y17
    refine (HM.out _).mono ?_
    rintro e1 w2 ⟨rfl, hk⟩
    rw [hm]
    have HS1 := Lib.hid (HS.out.then hk); clear hk
    obtain ⟨y0, y1, y2, y3, y4, y5, y6, y7, y8, y9, y10, y11, y12, y13, y14, y15, y16, y17⟩ := HCE.out _ HS1.out
    go_wp2
    go_ret
    exact ⟨rfl, HK0.out.then HS1.out⟩
  · rw [if_pos rfl]
    go_enter Try.func34, Try.ntmps34
    go_wp2_with fail
    clear hW0 y0 y1 y2 y3 y4 y5 y6 y7 y8 y9 y10 y11 y12 y13 y14 y15 y16 y17
    refine (HM.out _).mono ?_
    rintro e1 w2 ⟨rfl, hk⟩
    rw [hm]
    have HS1 := Lib.hid (HS.out.then hk); clear hk
    obtain ⟨y0, y1, y2, y3, y4, y5, y6, y7, y8, y9, y10, y11, y12, y13, y14, y15, y16, y17⟩ := HCE.out _ HS1.out
    go_wp2
    go_ret
    exact ⟨rfl, HK0.out.then HS1.out⟩
set_option maxHeartbeats 4000000 in
theorem nrcheck7_any (w : World) (x : NoteR) (h : NOk w x) (hcap : x.b.ops.length ≤ x.oc) (hk : x.k = 7) : Calls Try.prog 34 #[nagg x] w fun e w' => e = .returned (.int .i64 (noteE x)) ∧ Kept NoF w w' := by
  obtain ⟨k, n, at2, ep, mA, mc, ms, fl, lA, lc, lg, oA, oc, ⟨bcl, breq, ops⟩, ts, ⟨p1, p2, p3⟩, ⟨s1, s2, s3, s4⟩⟩ := x
  obtain ⟨h1, h2, h3, h4, h5, h6, h7⟩ := h
  unfold noteE nagg ncell
  dsimp only at *
  subst hk
  rw [if_neg (by decide), if_neg (by decide), if_pos (by decide), rngL_one]
  obtain ⟨W0, hW0⟩ : ∃ W0, w.alloc (.cells #[.int .i64 7, .int .i64 n, .int .u64 at2, .int .i64 ep, .slice mA ms.length mc, .int .u64 fl, .slice lA lg.length lc, .int .i64 bcl, .int .i64 breq, .slice oA ops.length oc, .int .u64 ts, .int .i64 p1, .int .u64 p2, .int .i64 p3, .int .i64 s1, .int .i64 s2, .int .i64 s3, .int .i64 s4] 48) = W0 := ⟨_, rfl⟩
  have hk0 : Kept NoF w W0 := by rw [← hW0]; (repeat' (first | with_reducible exact Kept.refl _ _ | with_reducible refine Kept.put ?_ ?_ | with_reducible refine Kept.drewN ?_ _ | with_reducible refine Kept.drew ?_ | with_reducible refine Kept.alloc ?_ _ | (fail) | (right; simp; done)))
  have hn0 : Has W0 w.heap.size 48 #[.int .i64 7, .int .i64 n, .int .u64 at2, .int .i64 ep, .slice mA ms.length mc, .int .u64 fl, .slice lA lg.length lc, .int .i64 bcl, .int .i64 breq, .slice oA ops.length oc, .int .u64 ts, .int .i64 p1, .int .u64 p2, .int .i64 p3, .int .i64 s1, .int .i64 s2, .int .i64 s3, .int .i64 s4] := by rw [← hW0]; exact Has.new _ _ _
  have hce : ∀ W, Kept NoF W0 W → W.cell? ⟨w.heap.size, 0, none⟩ = some (.int .i64 7) ∧ W.cell? ⟨w.heap.size, 1, none⟩ = some (.int .i64 n) ∧ W.cell? ⟨w.heap.size, 2, none⟩ = some (.int .u64 at2) ∧ W.cell? ⟨w.heap.size, 3, none⟩ = some (.int .i64 ep) ∧ W.cell? ⟨w.heap.size, 4, none⟩ = some (.slice mA ms.length mc) ∧ W.cell? ⟨w.heap.size, 5, none⟩ = some (.int .u64 fl) ∧ W.cell? ⟨w.heap.size, 6, none⟩ = some (.slice lA lg.length lc) ∧ W.cell? ⟨w.heap.size, 7, none⟩ = some (.int .i64 bcl) ∧ W.cell? ⟨w.heap.size, 8, none⟩ = some (.int .i64 breq) ∧ W.cell? ⟨w.heap.size, 9, none⟩ = some (.slice oA ops.length oc) ∧ W.cell? ⟨w.heap.size, 10, none⟩ = some (.int .u64 ts) ∧ W.cell? ⟨w.heap.size, 11, none⟩ = some (.int .i64 p1) ∧ W.cell? ⟨w.heap.size, 12, none⟩ = some (.int .u64 p2) ∧ W.cell? ⟨w.heap.size, 13, none⟩ = some (.int .i64 p3) ∧ W.cell? ⟨w.heap.size, 14, none⟩ = some (.int .i64 s1) ∧ W.cell? ⟨w.heap.size, 15, none⟩ = some (.int .i64 s2) ∧ W.cell? ⟨w.heap.size, 16, none⟩ = some (.int .i64 s3) ∧ W.cell? ⟨w.heap.size, 17, none⟩ = some (.int .i64 s4) := fun W hW => by
    have g := hn0.kept hW (fun z => z)
    exact ⟨g.cell 0, g.cell 1, g.cell 2, g.cell 3, g.cell 4, g.cell 5, g.cell 6, g.cell 7, g.cell 8, g.cell 9, g.cell 10, g.cell 11, g.cell 12, g.cell 13, g.cell 14, g.cell 15, g.cell 16, g.cell 17⟩
  have HM := Lib.hid (fun W => may_any W n)
  have HK0 := Lib.hid hk0; have HCE := Lib.hid hce; have HS := Lib.hid (Kept.refl NoF W0)
  clear hk0 hn0 hce h1 h2 h3 h4 h5 h6 h7
  obtain ⟨y0, y1, y2, y3, y4, y5, y6, y7, y8, y9, y10, y11, y12, y13, y14, y15, y16, y17⟩ := HCE.out _ HS.out
  cases hm : mayB n
  · rw [if_neg (by decide)]
    go_enter Try.func34, Try.ntmps34
    go_wp2_with fail
    clear hW0 y0 y1 y2 y3 y4 y5 y6 y7 y8 y9 y10 y11 y12 y13 y14 y15 y16 y17
    refine (HM.out _).mono ?_
    rintro e1 w2 ⟨rfl, hk⟩
    rw [hm]
    have HS1 := Lib.hid (HS.out.then hk); clear hk
    obtain ⟨y0, y1, y2, y3, y4, y5, y6, y7, y8, y9, y10, y11, y12, y13, y14, y15, y16, y17⟩ := HCE.out _ HS1.out
    go_wp2
    go_ret
    exact ⟨rfl, HK0.out.then HS1.out⟩
  · rw [if_pos rfl]
    go_enter Try.func34, Try.ntmps34
    go_wp2_with fail
    clear hW0 y0 y1 y2 y3 y4 y5 y6 y7 y8 y9 y10 y11 y12 y13 y14 y15 y16 y17
    refine (HM.out _).mono ?_
    rintro e1 w2 ⟨rfl, hk⟩
    rw [hm]
    have HS1 := Lib.hid (HS.out.then hk); clear hk
    obtain ⟨y0, y1, y2, y3, y4, y5, y6, y7, y8, y9, y10, y11, y12, y13, y14, y15, y16, y17⟩ := HCE.out _ HS1.out
    go_wp2
    go_ret
    exact ⟨rfl, HK0.out.then HS1.out⟩
set_option maxHeartbeats 4000000 in
theorem nrcheck6_any (w : World) (x : NoteR) (h : NOk w x) (hcap : x.b.ops.length ≤ x.oc) (hk : x.k = 6) : Calls Try.prog 34 #[nagg x] w fun e w' => e = .returned (.int .i64 (noteE x)) ∧ Kept NoF w w' := by
  obtain ⟨k, n, at2, ep, mA, mc, ms, fl, lA, lc, lg, oA, oc, ⟨bcl, breq, ops⟩, ts, ⟨p1, p2, p3⟩, ⟨s1, s2, s3, s4⟩⟩ := x
  obtain ⟨h1, h2, h3, h4, h5, h6, h7⟩ := h
  unfold noteE nagg ncell
  dsimp only at *
  subst hk
  rw [if_neg (by decide), if_neg (by decide), if_neg (by decide), if_pos rfl, rngL_two]
  obtain ⟨W0, hW0⟩ : ∃ W0, w.alloc (.cells #[.int .i64 6, .int .i64 n, .int .u64 at2, .int .i64 ep, .slice mA ms.length mc, .int .u64 fl, .slice lA lg.length lc, .int .i64 bcl, .int .i64 breq, .slice oA ops.length oc, .int .u64 ts, .int .i64 p1, .int .u64 p2, .int .i64 p3, .int .i64 s1, .int .i64 s2, .int .i64 s3, .int .i64 s4] 48) = W0 := ⟨_, rfl⟩
  have hk0 : Kept NoF w W0 := by rw [← hW0]; (repeat' (first | with_reducible exact Kept.refl _ _ | with_reducible refine Kept.put ?_ ?_ | with_reducible refine Kept.drewN ?_ _ | with_reducible refine Kept.drew ?_ | with_reducible refine Kept.alloc ?_ _ | (fail) | (right; simp; done)))
  have hn0 : Has W0 w.heap.size 48 #[.int .i64 6, .int .i64 n, .int .u64 at2, .int .i64 ep, .slice mA ms.length mc, .int .u64 fl, .slice lA lg.length lc, .int .i64 bcl, .int .i64 breq, .slice oA ops.length oc, .int .u64 ts, .int .i64 p1, .int .u64 p2, .int .i64 p3, .int .i64 s1, .int .i64 s2, .int .i64 s3, .int .i64 s4] := by rw [← hW0]; exact Has.new _ _ _
  have hce : ∀ W, Kept NoF W0 W → W.cell? ⟨w.heap.size, 0, none⟩ = some (.int .i64 6) ∧ W.cell? ⟨w.heap.size, 1, none⟩ = some (.int .i64 n) ∧ W.cell? ⟨w.heap.size, 2, none⟩ = some (.int .u64 at2) ∧ W.cell? ⟨w.heap.size, 3, none⟩ = some (.int .i64 ep) ∧ W.cell? ⟨w.heap.size, 4, none⟩ = some (.slice mA ms.length mc) ∧ W.cell? ⟨w.heap.size, 5, none⟩ = some (.int .u64 fl) ∧ W.cell? ⟨w.heap.size, 6, none⟩ = some (.slice lA lg.length lc) ∧ W.cell? ⟨w.heap.size, 7, none⟩ = some (.int .i64 bcl) ∧ W.cell? ⟨w.heap.size, 8, none⟩ = some (.int .i64 breq) ∧ W.cell? ⟨w.heap.size, 9, none⟩ = some (.slice oA ops.length oc) ∧ W.cell? ⟨w.heap.size, 10, none⟩ = some (.int .u64 ts) ∧ W.cell? ⟨w.heap.size, 11, none⟩ = some (.int .i64 p1) ∧ W.cell? ⟨w.heap.size, 12, none⟩ = some (.int .u64 p2) ∧ W.cell? ⟨w.heap.size, 13, none⟩ = some (.int .i64 p3) ∧ W.cell? ⟨w.heap.size, 14, none⟩ = some (.int .i64 s1) ∧ W.cell? ⟨w.heap.size, 15, none⟩ = some (.int .i64 s2) ∧ W.cell? ⟨w.heap.size, 16, none⟩ = some (.int .i64 s3) ∧ W.cell? ⟨w.heap.size, 17, none⟩ = some (.int .i64 s4) := fun W hW => by
    have g := hn0.kept hW (fun z => z)
    exact ⟨g.cell 0, g.cell 1, g.cell 2, g.cell 3, g.cell 4, g.cell 5, g.cell 6, g.cell 7, g.cell 8, g.cell 9, g.cell 10, g.cell 11, g.cell 12, g.cell 13, g.cell 14, g.cell 15, g.cell 16, g.cell 17⟩
  have HM := Lib.hid (fun W n => may_any W n)
  have HK0 := Lib.hid hk0; have HCE := Lib.hid hce; have HS := Lib.hid (Kept.refl NoF W0)
  clear hk0 hn0 hce h1 h2 h3 h4 h5 h6 h7
  obtain ⟨y0, y1, y2, y3, y4, y5, y6, y7, y8, y9, y10, y11, y12, y13, y14, y15, y16, y17⟩ := HCE.out _ HS.out
  cases hm : mayB p1
  · rw [if_neg (by decide)]
    go_enter Try.func34, Try.ntmps34
    go_wp2_with fail
    clear hW0 y0 y1 y2 y3 y4 y5 y6 y7 y8 y9 y10 y11 y12 y13 y14 y15 y16 y17
    refine (HM.out _ _).mono ?_
    rintro e1 w2 ⟨rfl, hk⟩
    rw [hm]
    have HS1 := Lib.hid (HS.out.then hk); clear hk
    obtain ⟨y0, y1, y2, y3, y4, y5, y6, y7, y8, y9, y10, y11, y12, y13, y14, y15, y16, y17⟩ := HCE.out _ HS1.out
    go_wp2
    go_ret
    exact ⟨rfl, HK0.out.then HS1.out⟩
  · cases hm2 : mayB p3
    · rw [if_pos rfl, if_neg (by decide)]
      go_enter Try.func34, Try.ntmps34
      go_wp2_with fail
      clear hW0 y0 y1 y2 y3 y4 y5 y6 y7 y8 y9 y10 y11 y12 y13 y14 y15 y16 y17
      refine (HM.out _ _).mono ?_
      rintro e1 w2 ⟨rfl, hk⟩
      rw [hm]
      have HS1 := Lib.hid (HS.out.then hk); clear hk
      obtain ⟨y0, y1, y2, y3, y4, y5, y6, y7, y8, y9, y10, y11, y12, y13, y14, y15, y16, y17⟩ := HCE.out _ HS1.out
      go_wp2_with fail
      clear y0 y1 y2 y3 y4 y5 y6 y7 y8 y9 y10 y11 y12 y13 y14 y15 y16 y17
      refine (HM.out _ _).mono ?_
      rintro e1 w3 ⟨rfl, hk⟩
      rw [hm2]
      have HS2 := Lib.hid (HS1.out.then hk); clear hk
      obtain ⟨y0, y1, y2, y3, y4, y5, y6, y7, y8, y9, y10, y11, y12, y13, y14, y15, y16, y17⟩ := HCE.out _ HS2.out
      go_wp2
      go_ret
      exact ⟨rfl, HK0.out.then HS2.out⟩
    · rw [if_pos rfl, if_pos rfl]
      go_enter Try.func34, Try.ntmps34
      go_wp2_with fail
      clear hW0 y0 y1 y2 y3 y4 y5 y6 y7 y8 y9 y10 y11 y12 y13 y14 y15 y16 y17
      refine (HM.out _ _).mono ?_
      rintro e1 w2 ⟨rfl, hk⟩
      rw [hm]
      have HS1 := Lib.hid (HS.out.then hk); clear hk
      obtain ⟨y0, y1, y2, y3, y4, y5, y6, y7, y8, y9, y10, y11, y12, y13, y14, y15, y16, y17⟩ := HCE.out _ HS1.out
      go_wp2_with fail
      clear y0 y1 y2 y3 y4 y5 y6 y7 y8 y9 y10 y11 y12 y13 y14 y15 y16 y17
      refine (HM.out _ _).mono ?_
      rintro e1 w3 ⟨rfl, hk⟩
      rw [hm2]
      have HS2 := Lib.hid (HS1.out.then hk); clear hk
      obtain ⟨y0, y1, y2, y3, y4, y5, y6, y7, y8, y9, y10, y11, y12, y13, y14, y15, y16, y17⟩ := HCE.out _ HS2.out
      go_wp2
      go_ret
      exact ⟨rfl, HK0.out.then HS2.out⟩
set_option maxHeartbeats 4000000 in
theorem nrcheck8_any (w : World) (x : NoteR) (h : NOk w x) (hcap : x.b.ops.length ≤ x.oc) (hk : x.k = 8) : Calls Try.prog 34 #[nagg x] w fun e w' => e = .returned (.int .i64 (noteE x)) ∧ Kept NoF w w' := by
  obtain ⟨k, n, at2, ep, mA, mc, ms, fl, lA, lc, lg, oA, oc, ⟨bcl, breq, ops⟩, ts, ⟨p1, p2, p3⟩, ⟨s1, s2, s3, s4⟩⟩ := x
  obtain ⟨h1, h2, h3, h4, h5, h6, h7⟩ := h
  unfold noteE nagg ncell
  dsimp only at *
  subst hk
  rw [if_neg (by decide), if_neg (by decide), if_neg (by decide), if_neg (by decide), if_pos rfl]
  obtain ⟨W0, hW0⟩ : ∃ W0, w.alloc (.cells #[.int .i64 8, .int .i64 n, .int .u64 at2, .int .i64 ep, .slice mA ms.length mc, .int .u64 fl, .slice lA lg.length lc, .int .i64 bcl, .int .i64 breq, .slice oA ops.length oc, .int .u64 ts, .int .i64 p1, .int .u64 p2, .int .i64 p3, .int .i64 s1, .int .i64 s2, .int .i64 s3, .int .i64 s4] 48) = W0 := ⟨_, rfl⟩
  have hk0 : Kept NoF w W0 := by rw [← hW0]; (repeat' (first | with_reducible exact Kept.refl _ _ | with_reducible refine Kept.put ?_ ?_ | with_reducible refine Kept.drewN ?_ _ | with_reducible refine Kept.drew ?_ | with_reducible refine Kept.alloc ?_ _ | (fail) | (right; simp; done)))
  have hn0 : Has W0 w.heap.size 48 #[.int .i64 8, .int .i64 n, .int .u64 at2, .int .i64 ep, .slice mA ms.length mc, .int .u64 fl, .slice lA lg.length lc, .int .i64 bcl, .int .i64 breq, .slice oA ops.length oc, .int .u64 ts, .int .i64 p1, .int .u64 p2, .int .i64 p3, .int .i64 s1, .int .i64 s2, .int .i64 s3, .int .i64 s4] := by rw [← hW0]; exact Has.new _ _ _
  have hce : ∀ W, Kept NoF W0 W → W.cell? ⟨w.heap.size, 0, none⟩ = some (.int .i64 8) ∧ W.cell? ⟨w.heap.size, 1, none⟩ = some (.int .i64 n) ∧ W.cell? ⟨w.heap.size, 2, none⟩ = some (.int .u64 at2) ∧ W.cell? ⟨w.heap.size, 3, none⟩ = some (.int .i64 ep) ∧ W.cell? ⟨w.heap.size, 4, none⟩ = some (.slice mA ms.length mc) ∧ W.cell? ⟨w.heap.size, 5, none⟩ = some (.int .u64 fl) ∧ W.cell? ⟨w.heap.size, 6, none⟩ = some (.slice lA lg.length lc) ∧ W.cell? ⟨w.heap.size, 7, none⟩ = some (.int .i64 bcl) ∧ W.cell? ⟨w.heap.size, 8, none⟩ = some (.int .i64 breq) ∧ W.cell? ⟨w.heap.size, 9, none⟩ = some (.slice oA ops.length oc) ∧ W.cell? ⟨w.heap.size, 10, none⟩ = some (.int .u64 ts) ∧ W.cell? ⟨w.heap.size, 11, none⟩ = some (.int .i64 p1) ∧ W.cell? ⟨w.heap.size, 12, none⟩ = some (.int .u64 p2) ∧ W.cell? ⟨w.heap.size, 13, none⟩ = some (.int .i64 p3) ∧ W.cell? ⟨w.heap.size, 14, none⟩ = some (.int .i64 s1) ∧ W.cell? ⟨w.heap.size, 15, none⟩ = some (.int .i64 s2) ∧ W.cell? ⟨w.heap.size, 16, none⟩ = some (.int .i64 s3) ∧ W.cell? ⟨w.heap.size, 17, none⟩ = some (.int .i64 s4) := fun W hW => by
    have g := hn0.kept hW (fun z => z)
    exact ⟨g.cell 0, g.cell 1, g.cell 2, g.cell 3, g.cell 4, g.cell 5, g.cell 6, g.cell 7, g.cell 8, g.cell 9, g.cell 10, g.cell 11, g.cell 12, g.cell 13, g.cell 14, g.cell 15, g.cell 16, g.cell 17⟩
  have hr := fun W => rsaid_any W ⟨s1, s2, s3, s4⟩
  dsimp only [ansagg] at hr
  have HR := Lib.hid hr; clear hr
  have HK0 := Lib.hid hk0; have HCE := Lib.hid hce; have HS := Lib.hid (Kept.refl NoF W0)
  clear hk0 hn0 hce h1 h2 h3 h4 h5 h6 h7
  obtain ⟨y0, y1, y2, y3, y4, y5, y6, y7, y8, y9, y10, y11, y12, y13, y14, y15, y16, y17⟩ := HCE.out _ HS.out
  go_enter Try.func34, Try.ntmps34
  go_wp2_with fail
  clear hW0 y0 y1 y2 y3 y4 y5 y6 y7 y8 y9 y10 y11 y12 y13 y14 y15 y16 y17
  refine (HR.out _).mono ?_
  rintro e1 w2 ⟨rfl, hk⟩
  have HS1 := Lib.hid (HS.out.then hk); clear hk
  obtain ⟨y0, y1, y2, y3, y4, y5, y6, y7, y8, y9, y10, y11, y12, y13, y14, y15, y16, y17⟩ := HCE.out _ HS1.out
  go_wp2
  go_ret
  exact ⟨rfl, HK0.out.then HS1.out⟩
set_option maxHeartbeats 4000000 in
theorem nrcheck0_any (w : World) (x : NoteR) (hk : x.k < 1 ∨ 8 < x.k) : Calls Try.prog 34 #[nagg x] w fun e w' => e = .returned (.int .i64 (noteE x)) ∧ Kept NoF w w' := by
  obtain ⟨k, n, at2, ep, mA, mc, ms, fl, lA, lc, lg, oA, oc, ⟨bcl, breq, ops⟩, ts, ⟨p1, p2, p3⟩, ⟨s1, s2, s3, s4⟩⟩ := x
  unfold noteE nagg ncell
  dsimp only at *
  have e1 : (k == 1) = false := by simp; omega
  have e2 : (k == 2) = false := by simp; omega
  have e3 : (k == 3) = false := by simp; omega
  have e4 : (k == 4) = false := by simp; omega
  have e5 : (k == 5) = false := by simp; omega
  have e6 : (k == 6) = false := by simp; omega
  have e7 : (k == 7) = false := by simp; omega
  have e8 : (k == 8) = false := by simp; omega
  rw [if_neg (by omega), if_neg (by omega), if_neg (by omega), if_neg (by omega), if_neg (by omega)]
  clear hk
  go_enter Try.func34, Try.ntmps34
  go_wp2
  go_ret
  exact ⟨rfl, by (repeat' (first | with_reducible exact Kept.refl _ _ | with_reducible refine Kept.put ?_ ?_ | with_reducible refine Kept.drewN ?_ _ | with_reducible refine Kept.drew ?_ | with_reducible refine Kept.alloc ?_ _ | (fail) | (right; simp; done)))⟩
theorem nrcheck_any (w : World) (x : NoteR) (h : NOk w x) (hcap : x.b.ops.length ≤ x.oc) : Calls Try.prog 34 #[nagg x] w fun e w' => e = .returned (.int .i64 (noteE x)) ∧ Kept NoF w w' := by
  by_cases h0 : x.k < 1 ∨ 8 < x.k
  · exact nrcheck0_any w x h0
  by_cases h1 : x.k = 1
  · exact nrcheck1_any w x h hcap h1
  by_cases h2 : x.k = 2
  · exact nrcheck2_any w x h hcap h2
  by_cases h3 : x.k = 3
  · exact nrcheck3_any w x h hcap h3
  by_cases h4 : x.k = 4
  · exact nrcheck4_any w x h hcap h4
  by_cases h5 : x.k = 5
  · exact nrcheck5_any w x h hcap h5
  by_cases h6 : x.k = 6
  · exact nrcheck6_any w x h hcap h6
  by_cases h7 : x.k = 7
  · exact nrcheck7_any w x h hcap h7
  exact nrcheck8_any w x h hcap (by omega)
end Mst
end Go.Proofs.Ytolipnnjeehnfaa
/- The document's member, find, Renew, Free. -/
namespace Go.Proofs.Ytolipnnjeehnfaa
open Go.RowKit
set_option maxRecDepth 100000
namespace Mst
open Plan Vn
theorem rmember_any (w : World) (ep fl : Int) (A : Option Addr) (c : Nat) (l : List Mem) (x : Int) (hl : Src w 2 A l.length (mcells l)) (hlen : l.length ≤ 1000000) :
    Calls Try.prog 36 #[cagg ep A l.length c fl, .int .i64 x] w fun e w' => e = .returned (.bool (anyId l x)) ∧ Kept NoF w w' := by
  obtain ⟨W0, hW0⟩ : ∃ W0, w.alloc (.cells #[.int .i64 ep, .slice A l.length c, .int .u64 fl] 31) = W0 := ⟨_, rfl⟩
  have hk0 : Kept NoF w W0 := by rw [← hW0]; (repeat' (first | with_reducible exact Kept.refl _ _ | with_reducible refine Kept.put ?_ ?_ | with_reducible refine Kept.drewN ?_ _ | with_reducible refine Kept.drew ?_ | with_reducible refine Kept.alloc ?_ _ | (fail) | (right; simp; done)))
  have hn0 : Has W0 w.heap.size 31 #[.int .i64 ep, .slice A l.length c, .int .u64 fl] := by rw [← hW0]; exact Has.new _ _ _
  have z1 : W0.cell? ⟨w.heap.size, 1, none⟩ = some (.slice A l.length c) := hn0.cell 1
  have HL := Lib.hid (hl.kept hk0 (fun _ _ z => z)); have HK0 := Lib.hid hk0
  clear hl hn0 hk0
  go_enter Try.func36, Try.ntmps36
  go_wp2_with fail
  clear hW0
  go_loop [5] (fun v5 => ∃ i : Nat, i ≤ l.length ∧ v5 = .int .i64 i ∧ anyId l x = anyId (l.drop i) x) (fun v5 => l.length - (intOf v5).toNat)
  case atStart => exact ⟨0, Nat.zero_le _, rfl, rfl⟩
  case round =>
    obtain ⟨i, hi, rfl, he⟩ := hrel
    have HE := Lib.hid he; clear he
    by_cases hil : i < l.length
    · obtain ⟨b, hb⟩ : ∃ b, l[i]? = some b := ⟨_, List.getElem?_eq_getElem hil⟩
      obtain ⟨ad, rfl, had, e0, e1⟩ := mem_cells HL.out (by omega) i b hb
      have hd : anyId (l.drop i) x = (decide (b.1 = x) || anyId (l.drop (i + 1)) x) := by unfold anyId; rw [drop_cons hb, List.any_cons]
      have HD := Lib.hid hd; clear hd hb
      obtain ⟨b1, b2⟩ := b
      dsimp only at e0 e1 HD
      by_cases hbx : b1 = x
      · subst hbx
        go_wp2
        go_ret
        exact ⟨by rw [HE.out, HD.out]; simp, HK0.out⟩
      · have hne : (b1 == x) = false := by simpa using hbx
        go_wp2
        go_round
        case rel => exact ⟨i + 1, by omega, by go_num, by rw [HE.out, HD.out]; simp [hbx]⟩
        case measure => simp [intOf]; omega
    · obtain rfl : i = l.length := by omega
      go_wp2
      go_ret
      exact ⟨by rw [HE.out, List.drop_length]; rfl, HK0.out⟩
theorem rfind_any (w : World) (A : Option Addr) (c : Nat) (l : List PinR) (id : Int) (hl : Src w 3 A l.length (pcells l)) (hlen : l.length ≤ 1000000) :
    Calls Try.prog 66 #[.slice A l.length c, .int .i64 id] w fun e w' => e = .returned (.int .i64 (pinAt l id)) ∧ w = w' := by
  have HL := Lib.hid hl; clear hl
  go_enter Try.func66, Try.ntmps66
  go_wp2_with fail
  go_loop [5] (fun v5 => ∃ i : Nat, i ≤ l.length ∧ v5 = .int .i64 i ∧ pinAt l id = idxW (fun x => decide (x.id = id)) (l.drop i) i) (fun v5 => l.length - (intOf v5).toNat)
  case atStart => exact ⟨0, Nat.zero_le _, rfl, rfl⟩
  case round =>
    obtain ⟨i, hi, rfl, he⟩ := hrel
    have HE := Lib.hid he; clear he
    by_cases hil : i < l.length
    · obtain ⟨b, hb⟩ : ∃ b, l[i]? = some b := ⟨_, List.getElem?_eq_getElem hil⟩
      obtain ⟨ad, rfl, had, e0, e1, e2⟩ := pin_cells HL.out (by omega) i b hb
      have hd := idxW_at (fun x : PinR => decide (x.id = id)) hb
      have HD := Lib.hid hd; clear hd hb
      obtain ⟨b1, b2, b3⟩ := b
      dsimp only at e0 e1 e2 HD
      by_cases hbx : b1 = id
      · subst hbx
        go_wp2
        go_ret
        exact ⟨by rw [HE.out, HD.out]; simp, rfl⟩
      · have hne : (b1 == id) = false := by simpa using hbx
        go_wp2
        go_round
        case rel => exact ⟨i + 1, by omega, by go_num, by rw [HE.out, HD.out]; simp [hbx]⟩
        case measure => simp [intOf]; omega
    · obtain rfl : i = l.length := by omega
      go_wp2
      go_ret
      exact ⟨by rw [HE.out, List.drop_length]; rfl, rfl⟩
theorem pcells_set2 : ∀ (l : List PinR) (k : Nat) (x : PinR), l[k]? = some x → pcells (l.set k ⟨x.id, x.at', 8⟩) = (pcells l).set (k * 3 + 2) (.int .i64 8)
  | [], k, x, h => by simp at h
  | a :: l, 0, x, h => by
    obtain rfl : a = x := by simpa using h
    rfl
  | a :: l, k + 1, x, h => by
    have ih := pcells_set2 l k x (by simpa using h)
    have e : (k + 1) * 3 + 2 = k * 3 + 2 + 1 + 1 + 1 := by omega
    show Value.int .i64 a.id :: Value.int .u64 a.at' :: Value.int .i64 a.left :: pcells (l.set k _) = (Value.int .i64 a.id :: Value.int .u64 a.at' :: Value.int .i64 a.left :: pcells l).set ((k + 1) * 3 + 2) _
    rw [e, ih]
    rfl
set_option maxHeartbeats 2000000 in
theorem rrenew_any (w : World) (A : Option Addr) (c : Nat) (l : List PinR) (id : Int) (hl : Src w 3 A l.length (pcells l)) (hlen : l.length ≤ 1000000) :
    Calls Try.prog 65 #[.slice A l.length c, .int .i64 id] w (RenewPost w l id) := by
  have hf := rfind_any w A c l id hl hlen
  rcases pinAt_cases l id with h1 | ⟨k, x, h1, hx, hid⟩
  · rw [h1] at hf
    have hP : ∀ w', Kept NoF w w' → RenewPost w l id (.returned (.tuple #[.slice none 0 0, .int .i64 7])) w' := fun w' hk => .inl ⟨by omega, rfl, hk⟩
    have HF := Lib.hid hf; have HP := Lib.hid hP
    clear hf hP hl h1
    go_enter Try.func65, Try.ntmps65
    go_wp2_with fail
    refine HF.out.mono ?_
    rintro e w1 ⟨rfl, rfl⟩
    go_wp2
    go_ret2
    exact HP.out _ (Kept.refl _ _)
  · rw [h1] at hf
    have hkl : k < l.length := (List.getElem?_eq_some_iff.1 hx).1
    have hP : ∀ w' A c, NewSl 44 3 w.heap.size w' A l.length c (pcells (l.set k ⟨x.id, x.at', 8⟩)) → Kept NoF w w' → RenewPost w l id (.returned (.tuple #[.slice A l.length c, .int .i64 0])) w' := fun w' A c hn hk => by
      have e1 : renewed l id = l.set k ⟨x.id, x.at', 8⟩ := by unfold renewed; rw [h1, Int.toNat_natCast, hx, hid]
      refine .inr ⟨by omega, A, c, ?_, ?_, hk⟩
      · rw [e1, List.length_set]
      · rw [e1, List.length_set]; exact hn
    have hset := pcells_set2 l k x hx
    have hm1 : 0 + l.length ≤ maxLen := by unfold maxLen; omega
    have hm2 : (0 + l.length) * 24 ≤ 140737488355328 := by omega
    have HM1 := Lib.hid hm1; have HM2 := Lib.hid hm2; clear hm1 hm2
    have HF := Lib.hid hf; have HP := Lib.hid hP; have HX := Lib.hid (And.intro hx hset); have HL := Lib.hid hl
    clear hf hP hl h1 hx hid hset
    have b0 : (0 : Int) ≤ (k : Int) := by omega
    have b1 : (k : Int) < (l.length : Int) := by omega
    go_enter Try.func65, Try.ntmps65
    go_wp2_with fail
    refine HF.out.mono ?_
    rintro e w1 ⟨rfl, rfl⟩
    go_wp2_with (at_builtin; refine list_append_src elemPin (.tmp 13) (.tmp 14) rfl rfl (Value.slice (some ⟨w.heap.size, 0, none⟩) 0 0) rfl (own_empty (Has.new w 44 #[]) rfl) c rfl (HL.out.kept ((Kept.refl NoF w).alloc _) (fun _ _ x => x)) (one_pcells l) HM1.out HM2.out ?_; intro A1 c1 w1 ho1 hg1 ha1; simp only [Nat.zero_add, List.nil_append] at ho1 ha1; have hk1 : Kept NoF w w1 := ((Kept.refl NoF w).alloc _).grown hg1 (fun k hk => .inr (new_row hk (Nat.le_refl _))); have HO1 := Lib.hid (And.intro ho1 (And.intro ha1 hk1)); clear ho1 hg1 ha1 hk1)
    obtain ⟨rb, cap, hv, _, hrl⟩ := HO1.out.1.form (by omega)
    injection hv with hA _ hC
    subst hA
    subst hC
    have hrb : w.heap.size ≤ rb := by
      rcases HO1.out.2.1 with e | e
      · exact new_row (e.symm.trans rfl) (Nat.le_refl _)
      · simp only [Value.ownBlock, size_alloc] at e; injection e with e; omega
    obtain ⟨ad2, e2, had2, y0, y1, y2⟩ := pin_cells (Src.of_own HO1.out.1) (by omega) k x HX.out.1
    injection e2 with e2
    subst e2
    have ha : (⟨rb, 0, none⟩ : Addr).add (k * 3) = ⟨rb, k * 3, none⟩ := by rw [Addr.add_lit, Nat.zero_add]
    rw [ha] at y0 y1 y2
    dsimp only at y1 y2
    have hcur : ∃ cur, Has w1 rb 44 cur := own_has HO1.out.1 rfl
    obtain ⟨cur, hcur⟩ := hcur
    have f2 := hcur.frozen (k * 3 + 2)
    clear hcur
    go_wp2
    go_ret2
    refine HP.out _ _ _ ⟨?_, fun g hg => by obtain rfl : rb = g := by simpa [Value.ownBlock] using hg
                                            exact hrb⟩ (HO1.out.2.2.put (.inr hrb))
    rw [HX.out.2]
    exact own_set HO1.out.1
end Mst
end Go.Proofs.Ytolipnnjeehnfaa
/- The document's Free. -/
namespace Go.Proofs.Ytolipnnjeehnfaa
open Go.RowKit
set_option maxRecDepth 100000
namespace Mst
open Plan Vn
set_option maxHeartbeats 4000000 in
theorem rfree_any (w : World) (A : Option Addr) (c : Nat) (l : List PinR) (id : Int) (hl : Src w 3 A l.length (pcells l)) (hlc : l.length ≤ c) (hlen : l.length ≤ 1000000) :
    Calls Try.prog 38 #[.slice A l.length c, .int .i64 id] w (FreePost w l id) := by
  have hf := rfind_any w A c l id hl hlen
  rcases pinAt_cases l id with h1 | ⟨k, x, h1, hx, hid⟩
  · rw [h1] at hf
    have hP : ∀ w', Kept NoF w w' → FreePost w l id (.returned (.tuple #[.slice none 0 0, .int .i64 7])) w' := fun w' hk => .inl ⟨by omega, rfl, hk⟩
    have HF := Lib.hid hf; have HP := Lib.hid hP
    clear hf hP hl h1
    go_enter Try.func38, Try.ntmps38
    go_wp2_with fail
    refine HF.out.mono ?_
    rintro e w1 ⟨rfl, rfl⟩
    go_wp2
    go_ret2
    exact HP.out _ (Kept.refl _ _)
  · rw [h1] at hf
    have hkl : k < l.length := (List.getElem?_eq_some_iff.1 hx).1
    have hP : ∀ w' A c, NewSl 44 3 w.heap.size w' A (k + (l.length - (k + 1))) c (pcells (l.take k) ++ pcells (l.drop (k + 1))) → Kept NoF w w' → FreePost w l id (.returned (.tuple #[.slice A ((k + (l.length - (k + 1)) : Nat)) c, .int .i64 0])) w' := fun w' A c hn hk => by
      have e1 : freed l id = l.eraseIdx k := by unfold freed; rw [h1, Int.toNat_natCast, if_neg (by omega)]
      have e2 : (freed l id).length = k + (l.length - (k + 1)) := by rw [e1, List.length_eraseIdx_of_lt hkl]; omega
      refine .inr ⟨by omega, A, c, ?_, ?_, hk⟩
      · rw [e2]
      · rw [e2, e1, List.eraseIdx_eq_take_drop_succ, pcells_append]; exact hn
    obtain ⟨ad, rfl, _⟩ := hl.2 (by omega)
    have ht := hl.take (k := k) (by omega)
    have hd := hl.drop (k := k + 1) (by omega) hlc
    rw [← pcells_take] at ht
    rw [← pcells_drop] at hd
    have hd : Src w 3 (if c = k + 1 then some ad else some (ad.add ((k + 1) * 3))) (l.length - (k + 1)) (pcells (l.drop (k + 1))) := hd
    obtain ⟨D, hD⟩ : ∃ D, (if c = k + 1 then some ad else some (ad.add ((k + 1) * 3))) = D := ⟨_, rfl⟩
    rw [hD] at hd
    have b0 : (0 : Int) ≤ (k : Int) := by omega
    have b1 : (k : Int) ≤ (c : Int) := by omega
    have b2 : (k : Int) + 1 ≤ (l.length : Int) := by omega
    have b3 : IntKind.i64.wrap ((k : Int) + 1) = (k : Int) + 1 := IntWalk.i64_in _ (by omega)
    have b4 : (0 : Int) ≤ (k : Int) + 1 := by omega
    have b5 : ((k : Int) + 1).toNat = k + 1 := by omega
    have b6 : (l.length : Int) ≤ (c : Int) := by omega
    have HM0 : Hid (0 + k ≤ maxLen) := Lib.hid (by unfold maxLen; omega)
    have HY0 : Hid ((0 + k) * 24 ≤ 140737488355328) := Lib.hid (by omega)
    have HM : Hid (k + (l.length - (k + 1)) ≤ maxLen) := Lib.hid (by unfold maxLen; omega)
    have HY : Hid ((k + (l.length - (k + 1))) * 24 ≤ 140737488355328) := Lib.hid (by omega)
    have HF := Lib.hid hf; have HP := Lib.hid hP; have HT := Lib.hid ht; have HD := Lib.hid hd
    clear hf hP hl h1 hx hid ht hd
    go_enter Try.func38, Try.ntmps38
    go_wp2_with fail
    refine HF.out.mono ?_
    rintro e w1 ⟨rfl, rfl⟩
    go_wp2_with fail
    go_region_law (first
      | (with_reducible apply step_append_src elemPin (.tmp 12) (.tmp 15) (n := 0) (xs := []) (A := some ad) (m := k) (c := c) (news := pcells (l.take k))
         rfl
         rfl
         exact (rfl : _ = Value.slice (some ⟨_, 0, none⟩) 0 0)
         (refine own_empty (cs := #[]) ?_ rfl; (repeat (first | with_reducible exact Has.new_at _ _ _ (by simp) | with_reducible apply Has.drew | with_reducible apply Has.drewN | with_reducible apply Has.alloc | (with_reducible apply Has.past <;> (try omega)) )))
         rfl
         (refine HT.out.kept (F := NoF) ?_ (fun _ _ x => x); (repeat' (first | with_reducible exact Kept.refl _ _ | with_reducible refine Kept.put ?_ ?_ | with_reducible refine Kept.drewN ?_ _ | with_reducible refine Kept.drew ?_ | with_reducible refine Kept.alloc ?_ _ | (fail) | (right; simp; done))))
         exact one_pcells _
         exact HM0.out
         exact HY0.out
         intro A1 c1 w2 ho1 hg1 ha1
         have hk1 : Kept NoF w w2 := by refine Kept.grown ?_ hg1 ?_; (repeat' (first | with_reducible exact Kept.refl _ _ | with_reducible refine Kept.put ?_ ?_ | with_reducible refine Kept.drewN ?_ _ | with_reducible refine Kept.drew ?_ | with_reducible refine Kept.alloc ?_ _ | (fail) | (right; simp; done))); (intro k hk; simp [Value.ownBlock] at hk; right; omega)
         have hz1 := hk1.size
         simp only [Nat.zero_add, List.nil_append] at ho1 ha1 ⊢)
      | (with_reducible apply step_append_src elemPin (.tmp 16) (.tmp 20) (n := k) (xs := pcells (l.take k)) (m := l.length - (k + 1)) (news := pcells (l.drop (k + 1)))
         rfl
         rfl
         exact (rfl : _ = Value.slice A1 k c1)
         (refine own_kept ho1 (F := NoF) ?_ (fun _ _ x => x); (repeat' (first | with_reducible exact Kept.refl _ _ | with_reducible refine Kept.put ?_ ?_ | with_reducible refine Kept.drewN ?_ _ | with_reducible refine Kept.drew ?_ | with_reducible refine Kept.alloc ?_ _ | (fail) | (right; simp; done))))
         exact (rfl : _ = Value.slice D (l.length - (k + 1)) (c - (k + 1)))
         (refine HD.out.kept (F := NoF) (Kept.then hk1 ?_) (fun _ _ x => x); (repeat' (first | with_reducible exact Kept.refl _ _ | with_reducible refine Kept.put ?_ ?_ | with_reducible refine Kept.drewN ?_ _ | with_reducible refine Kept.drew ?_ | with_reducible refine Kept.alloc ?_ _ | (fail) | (right; simp; done))))
         exact one_pcells _
         exact HM.out
         exact HY.out
         intro A2 c2 w3 ho2 hg2 ha2
         have hk2 : Kept NoF w w3 := by refine Kept.grown (Kept.then hk1 ?_) hg2 ?_; (repeat' (first | with_reducible exact Kept.refl _ _ | with_reducible refine Kept.put ?_ ?_ | with_reducible refine Kept.drewN ?_ _ | with_reducible refine Kept.drew ?_ | with_reducible refine Kept.alloc ?_ _ | (fail) | (right; simp; done))); (intro k hk; rw [hk] at ha1; simp [Value.ownBlock] at ha1; right; omega)))
    all_goals
      go_wp2
      go_ret2
      refine HP.out _ _ _ ⟨ho2, fun g hg => ?_⟩ hk2
      rcases ha2 with e | e
      · rw [hg] at e
        rw [← e] at ha1
        simp [Value.ownBlock] at ha1
        omega
      · rw [hg] at e
        injection e with e
        have := hk1.size
        omega
end Mst
end Go.Proofs.Ytolipnnjeehnfaa
/- The document's state: conf. -/
namespace Go.Proofs.Ytolipnnjeehnfaa
open Go.RowKit
set_option maxRecDepth 100000
namespace Mst
open Plan Vn
/-- The document's state. -/
abbrev rcells (s : StR) (mA : Option Addr) (mc : Nat) (lA : Option Addr) (lc : Nat) (pA : Option Addr) (pc : Nat) : Array Value :=
  #[.int .i64 s.ep, .slice mA s.ms.length mc, .int .u64 s.fl, .slice lA s.lg.length lc, .int .u64 s.hz, .slice pA s.pins.length pc, .int .i64 s.top, .int .i64 s.t0.cl, .int .i64 s.t0.req, .int .i64 s.t0.e, .int .i64 s.t0.pin,
    .int .i64 s.t1.cl, .int .i64 s.t1.req, .int .i64 s.t1.e, .int .i64 s.t1.pin, .int .i64 s.t2.cl, .int .i64 s.t2.req, .int .i64 s.t2.e, .int .i64 s.t2.pin]
def RNextPost (w : World) (b : Nat) (s : StR) (x : NoteR) (pA : Option Addr) (pc : Nat) (e : Ending) (w' : World) : Prop :=
  (nextE s x ≠ 0 ∧ e = .returned (.int .i64 (nextE s x)) ∧ Kept NoF w w') ∨
  (nextE s x = 0 ∧ e = .returned (.int .i64 0) ∧ ∃ A c B d, Has w' b 57 (rcells { s with ep := x.ep, ms := x.ms, fl := x.fl, lg := x.lg } A c B d pA pc) ∧
    NewSl 86 2 w.heap.size w' A x.ms.length c (mcells x.ms) ∧ NewSl 3 1 w.heap.size w' B x.lg.length d (ints x.lg) ∧ Kept (fun k => k = b) w w')
theorem any_step {l : List Int} {i : Nat} {y : Int} (p : Int → Bool) (h : l[i]? = some y) : (l.drop i).any p = (p y || (l.drop (i + 1)).any p) := by
  rw [drop_cons h, List.any_cons]
set_option maxHeartbeats 4000000 in
theorem rconf_any (w : World) (b : Nat) (s : StR) (mA : Option Addr) (mc : Nat) (lA : Option Addr) (lc : Nat) (pA : Option Addr) (pc : Nat) (x : NoteR) (mh : Mem) (rh : List Mem) (hms : x.ms = mh :: rh) (hlb : 0 < x.lg.length → ∀ ad, x.lA = some ad → ad.block ≠ b) (hb : Has w b 57 (rcells s mA mc lA lc pA pc)) (h : NOk w x) :
    Calls Try.prog 35 #[.pointer (some ⟨b, 0, none⟩), nagg x] w (RNextPost w b s x pA pc) := by
  obtain ⟨E, hE⟩ : ∃ E, nextE s x = E := ⟨_, rfl⟩
  have hPE : ∀ w', E ≠ 0 → Kept NoF w w' → RNextPost w b s x pA pc (.returned (.int .i64 E)) w' := fun w' h0 hk => .inl ⟨by rw [hE]; exact h0, by rw [hE], hk⟩
  have hP0 : ∀ w' A c B d, E = 0 → Has w' b 57 (rcells { s with ep := x.ep, ms := x.ms, fl := x.fl, lg := x.lg } A c B d pA pc) →
      NewSl 86 2 w.heap.size w' A x.ms.length c (mcells x.ms) → NewSl 3 1 w.heap.size w' B x.lg.length d (ints x.lg) → Kept (fun k => k = b) w w' → RNextPost w b s x pA pc (.returned (.int .i64 0)) w' :=
    fun w' A c B d h0 h1 h2 h3 h4 => .inr ⟨by rw [hE, h0], rfl, A, c, B, d, h1, h2, h3, h4⟩
  unfold nextE at hE
  have hbn : b ≠ w.heap.size := by have := hb.lt; omega
  obtain ⟨W0, hW0⟩ : ∃ W0, w.alloc (.cells (ncell x).toArray 48) = W0 := ⟨_, rfl⟩
  have hk0 : Kept NoF w W0 := by rw [← hW0]; (repeat' (first | with_reducible exact Kept.refl _ _ | with_reducible refine Kept.put ?_ ?_ | with_reducible refine Kept.drewN ?_ _ | with_reducible refine Kept.drew ?_ | with_reducible refine Kept.alloc ?_ _ | (fail) | (right; simp; done)))
  have hn0 : Has W0 w.heap.size 48 (ncell x).toArray := by rw [← hW0]; exact Has.new _ _ _
  have hb0 := hb.kept hk0 (fun z => z)
  have h0 := h.kept hk0
  have hmem := fun W (hW : Kept NoF W0 W) y => rmember_any W x.ep x.fl x.mA x.mc x.ms y (h0.kept hW).m (by have := h.ml; omega)
  have hhead := fun W (hW : Kept NoF W0 W) => rhead_any W x.ep x.fl x.mA x.mc x.ms mh rh hms (h0.kept hW).m (by have := h.ml; omega)
  have hin := fun W (hW : Kept NoF W0 W) => in_any W x.lA x.lc x.lg mh.1 (h0.kept hW).l (by have := h.ll; omega)
  have hlgs := fun W (hW : Kept NoF W0 W) => (h0.kept hW).l
  have hlgb : ∀ W W', Kept NoF W0 W → Kept (fun k => k = b ∨ W0.heap.size ≤ k) W W' → Src W' 1 x.lA x.lg.length (ints x.lg) := fun W W' hW hW' => by
    rcases Nat.eq_zero_or_pos x.lg.length with h9 | h9
    · have h8 := (h0.kept hW).l
      refine ⟨h8.1, fun h7 => by omega⟩
    · have h8 := (h0.kept hW).l
      obtain ⟨ad, e8, h7, _⟩ := h0.l.2 h9
      refine h8.kept hW' (fun ad2 e2 => ?_)
      rw [e8] at e2
      injection e2 with e2
      subst e2
      rintro (e3 | e3)
      · exact hlb h9 ad e8 e3
      · omega
  have hmss := fun W (hW : Kept NoF W0 W) => (h0.kept hW).m
  have hlen1 : x.ms.length ≤ 1000 := h.ml
  have hlen2 : x.lg.length ≤ 1000 := h.ll
  have hhd : headI x.ms = mh.1 := by rw [hms]; rfl
  obtain ⟨S8, hS8⟩ : ∃ S8, inB x.lg mh.1 = S8 := ⟨_, rfl⟩
  rw [hhd, hS8] at hE
  rw [hS8] at hin
  clear h h0 hS8 hhd hms hlb
  obtain ⟨k, n, at2, ep, mA2, mc2, ms, fl, lA2, lc2, lg, oA, oc, ⟨bcl, breq, ops⟩, ts, ⟨p1, p2, p3⟩, ⟨s1, s2, s3, s4⟩⟩ := x
  simp only [ncell] at hP0 hPE hE hn0 hmem hhead hin hlgs hlgb hmss hlen1 hlen2
  have hcells : ∀ W, Kept NoF W0 W → W.cell? ⟨w.heap.size, 3, none⟩ = some (.int .i64 ep) ∧ W.cell? ⟨w.heap.size, 4, none⟩ = some (.slice mA2 ms.length mc2) ∧ W.cell? ⟨w.heap.size, 5, none⟩ = some (.int .u64 fl) ∧ W.cell? ⟨w.heap.size, 6, none⟩ = some (.slice lA2 lg.length lc2) := fun W hW => by
    have g := hn0.kept hW (fun z => z)
    exact ⟨g.cell 3, g.cell 4, g.cell 5, g.cell 6⟩
  have hfr : ∀ W, Kept NoF W0 W → Has W b 57 (rcells s mA mc lA lc pA pc) := fun W hW => hb0.kept hW (fun z => z)
  obtain ⟨c3, c4, c5, c6⟩ := hcells W0 (Kept.refl _ _)
  have cb := hb0.cell 0
  simp only [List.getElem?_toArray, List.getElem?_cons_zero, List.getElem?_cons_succ] at cb
  have HPE := Lib.hid hPE; have HP0 := Lib.hid hP0; have HE := Lib.hid hE; have HMB := Lib.hid hmem; have HHD := Lib.hid hhead; have HIN := Lib.hid hin; have HLG := Lib.hid hlgs; have HLB := Lib.hid hlgb; have HMS := Lib.hid hmss; have HCE := Lib.hid hcells; have HFR := Lib.hid hfr
  have HK0 := Lib.hid hk0; have HLEN := Lib.hid (And.intro hlen1 hlen2); have HN0 := Lib.hid hn0
  have HBN := Lib.hid (And.intro hbn hb.lt)
  clear hPE hP0 hE hmem hhead hin hlgs hlgb hmss hcells hfr hb hb0 hn0 hk0 hbn hlen1 hlen2
  go_enter Try.func35, Try.ntmps35
  go_wp2_with fail
  clear hW0
  by_cases h1 : ep ≤ s.ep
  · have he := HE.out
    rw [if_pos h1] at he
    subst he
    go_quiet (fail)
    go_wp2
    go_ret
    exact HPE.out _ (by decide) (HK0.out.then (by (repeat' (first | with_reducible exact Kept.refl _ _ | with_reducible refine Kept.put ?_ ?_ | with_reducible refine Kept.drewN ?_ _ | with_reducible refine Kept.drew ?_ | with_reducible refine Kept.alloc ?_ _ | (fail) | (right; simp; done)))))
  · have he := HE.out
    rw [if_neg h1] at he
    clear HE
    have HE := Lib.hid he; clear he
    go_quiet (fail)
    clear c3 c4 c5 c6 cb
    go_wp2_with fail
    go_loopw [5] (fun v5 wr => ∃ i : Nat, i ≤ lg.length ∧ v5 = .int .i64 i ∧ (lg.any fun id => !anyId ms id) = ((lg.drop i).any fun id => !anyId ms id) ∧ Kept NoF W0 wr) (fun v5 _ => lg.length - (intOf v5).toNat)
    case atStart => exact ⟨0, Nat.zero_le _, rfl, rfl, by (repeat' (first | with_reducible exact Kept.refl _ _ | with_reducible refine Kept.put ?_ ?_ | with_reducible refine Kept.drewN ?_ _ | with_reducible refine Kept.drew ?_ | with_reducible refine Kept.alloc ?_ _ | (fail) | (right; simp; done)))⟩
    case round =>
      obtain ⟨i, hi, rfl, he, hk⟩ := hrel
      have HA := Lib.hid he; have HK := Lib.hid hk; clear he hk
      have hl1000 := HLEN.out.2
      obtain ⟨q3, q4, q5, q6⟩ := HCE.out _ HK.out
      by_cases hil : i < lg.length
      · obtain ⟨y, hy⟩ : ∃ y, lg[i]? = some y := ⟨_, List.getElem?_eq_getElem hil⟩
        have hd := any_step (fun id => !anyId ms id) hy
        have hiy := fun W (hW : Kept NoF W0 W) => int_cells (HLG.out W hW) (by omega) i y hy
        obtain ⟨ad, rfl, had, y0⟩ := hiy _ HK.out
        have hcy : ∀ W, Kept NoF wr W → W.cell? ⟨w.heap.size, 3, none⟩ = some (.int .i64 ep) ∧ W.cell? ⟨w.heap.size, 4, none⟩ = some (.slice mA2 ms.length mc2) ∧ W.cell? ⟨w.heap.size, 5, none⟩ = some (.int .u64 fl) ∧ W.cell? ⟨w.heap.size, 6, none⟩ = some (.slice (some ad) lg.length lc2) ∧ W.cell? (ad.add i) = some (.int .i64 y) := fun W hW => by
          have g := HCE.out W (HK.out.then hW)
          obtain ⟨ad2, e, _, g2⟩ := hiy W (HK.out.then hW)
          injection e with e
          subst e
          exact ⟨g.1, g.2.1, g.2.2.1, g.2.2.2, g2⟩
        have HCY := Lib.hid hcy
        have HD := Lib.hid hd
        clear hd hy hiy hcy
        have hmy := fun W (hW : Kept NoF W0 W) => HMB.out W hW y
        obtain ⟨ay, hay⟩ : ∃ ay, anyId ms y = ay := ⟨_, rfl⟩
        rw [hay] at hmy
        have hda := HA.out.trans HD.out
        rw [hay] at hda
        have HMY := Lib.hid hmy; have HDA := Lib.hid hda
        clear hmy hda hay HD
        have b0 : (0 : Int) ≤ (i : Int) := by omega
        have b1 : (i : Int) < (lg.length : Int) := by omega
        go_wp2_with fail
        have HS := Lib.hid (Kept.refl NoF wr)
        go_region_held3 (fun W => W.cell? ⟨w.heap.size, 3, none⟩ = some (.int .i64 ep) ∧ W.cell? ⟨w.heap.size, 4, none⟩ = some (.slice mA2 ms.length mc2) ∧ W.cell? ⟨w.heap.size, 5, none⟩ = some (.int .u64 fl) ∧ W.cell? ⟨w.heap.size, 6, none⟩ = some (.slice (some ad) lg.length lc2) ∧ W.cell? (ad.add i) = some (.int .i64 y))
          (first | with_reducible exact HCY.out _ HS.out | exact HCY.out _ HS.out.drew | (simp [go_sem, q3, q4, q5, q6, y0]; done))
          (first
            | (go_at_call 36; ((with_reducible refine (HMY.out _ ?_).mono ?_); exact HK.out.then (by (repeat' (first | with_reducible exact Kept.refl _ _ | with_reducible refine Kept.put ?_ ?_ | with_reducible refine Kept.drewN ?_ _ | with_reducible refine Kept.drew ?_ | with_reducible refine Kept.alloc ?_ _ | (exact HS.out) | (right; simp; done)))); rintro e w5 ⟨rfl, hk0⟩; have hk := Kept.then (F := NoF) (a := wr) (by (repeat' (first | with_reducible exact Kept.refl _ _ | with_reducible refine Kept.put ?_ ?_ | with_reducible refine Kept.drewN ?_ _ | with_reducible refine Kept.drew ?_ | with_reducible refine Kept.alloc ?_ _ | (exact HS.out) | (right; simp; done)))) hk0; clear HS hk0; have HS := Lib.hid hk; clear hk)))
        clear q3 q4 q5 q6 y0
        have HK5 := Lib.hid (HK.out.then HS.out); clear HS
        cases ay
        · have hda := HDA.out
          simp only [Bool.not_false, Bool.true_or] at hda
          have he := HE.out
          rw [hda, if_pos rfl] at he
          subst he
          go_wp2
          go_ret
          exact HPE.out _ (by decide) (HK0.out.then HK5.out)
        · have hda := HDA.out
          simp only [Bool.not_true, Bool.false_or] at hda
          have HDB := Lib.hid hda; clear hda HDA
          go_wp2
          go_roundw
          case rel => exact ⟨i + 1, by omega, by go_num, HDB.out, HK5.out⟩
          case measure => simp [intOf]; omega
      · obtain rfl : i = lg.length := by omega
        have he := HE.out
        rw [HA.out, List.drop_length, List.any_nil, if_neg (by simp)] at he
        clear HE HA
        have HE := Lib.hid he; clear he
        go_wp2_with fail
        have HS := Lib.hid (Kept.refl NoF wr)
        go_region_held3 (fun W => W.cell? ⟨w.heap.size, 3, none⟩ = some (.int .i64 ep) ∧ W.cell? ⟨w.heap.size, 4, none⟩ = some (.slice mA2 ms.length mc2) ∧ W.cell? ⟨w.heap.size, 5, none⟩ = some (.int .u64 fl) ∧ W.cell? ⟨w.heap.size, 6, none⟩ = some (.slice lA2 lg.length lc2))
          (first | with_reducible exact HCE.out _ (HK.out.then HS.out) | exact HCE.out _ (HK.out.then HS.out.drew) | (simp [go_sem, q3, q4, q5, q6]; done))
          (first
            | (go_at_call 15; ((with_reducible refine (HHD.out _ ?_).mono ?_); exact HK.out.then (by (repeat' (first | with_reducible exact Kept.refl _ _ | with_reducible refine Kept.put ?_ ?_ | with_reducible refine Kept.drewN ?_ _ | with_reducible refine Kept.drew ?_ | with_reducible refine Kept.alloc ?_ _ | (exact HS.out) | (right; simp; done)))); rintro e w5 ⟨rfl, hk0⟩; have hk := Kept.then (F := NoF) (a := wr) (by (repeat' (first | with_reducible exact Kept.refl _ _ | with_reducible refine Kept.put ?_ ?_ | with_reducible refine Kept.drewN ?_ _ | with_reducible refine Kept.drew ?_ | with_reducible refine Kept.alloc ?_ _ | (exact HS.out) | (right; simp; done)))) hk0; clear HS hk0; have HS := Lib.hid hk; clear hk))
            | (go_at_call 13; ((with_reducible refine (HIN.out _ ?_).mono ?_); exact HK.out.then (by (repeat' (first | with_reducible exact Kept.refl _ _ | with_reducible refine Kept.put ?_ ?_ | with_reducible refine Kept.drewN ?_ _ | with_reducible refine Kept.drew ?_ | with_reducible refine Kept.alloc ?_ _ | (exact HS.out) | (right; simp; done)))); rintro e w6 ⟨rfl, rfl⟩)))
        have HK5 := Lib.hid (HK.out.then HS.out); clear HS q3 q4 q5 q6 HK
        obtain ⟨q3, q4, q5, q6⟩ := HCE.out w5 HK5.out
        cases S8
        · have he := HE.out
          rw [if_pos rfl] at he
          subst he
          go_wp2
          go_ret
          exact HPE.out _ (by decide) (HK0.out.then HK5.out)
        · have he := HE.out
          rw [if_neg (by simp)] at he
          clear HE
          have HE := Lib.hid he; clear he
          have hm1 : 0 + ms.length ≤ maxLen := by unfold maxLen; have := HLEN.out.1; omega
          have hm2 : (0 + ms.length) * 16 ≤ 140737488355328 := by have := HLEN.out.1; omega
          have HM1 := Lib.hid hm1; have HM2 := Lib.hid hm2; clear hm1 hm2
          have hl1 : 0 + lg.length ≤ maxLen := by unfold maxLen; have := HLEN.out.2; omega
          have hl2 : (0 + lg.length) * 8 ≤ 140737488355328 := by have := HLEN.out.2; omega
          have HL1 := Lib.hid hl1; have HL2 := Lib.hid hl2; clear hl1 hl2
          have hx5 : w.heap.size < w5.heap.size := (HN0.out.kept HK5.out (fun z => z)).lt
          have hb5 : b < w5.heap.size := (HFR.out w5 HK5.out).lt
          have HW0 : Hid (W0.heap.size ≤ w5.heap.size) := Lib.hid HK5.out.size
          have hbn := HBN.out.1
          have hbn' : w.heap.size ≠ b := fun e => hbn e.symm
          have hx5' : w.heap.size ≠ w5.heap.size := fun e => by omega
          have hb5' : b ≠ w5.heap.size := fun e => by omega
          clear hi hl1000
          go_wp2_with (first
            | (at_builtin; refine list_append_src elemInt (.tmp 52) (.tmp 54) rfl rfl (Value.slice (some ⟨w7.heap.size, 0, none⟩) 0 0) rfl (own_empty (Has.new_at _ 3 #[] (by simp [size_setCell])) rfl) lc2 rfl (HLB.out w7 _ (HK5.out.then HZ7.out.2.2.1) (by (repeat' (first | with_reducible exact Kept.refl _ _ | with_reducible refine Kept.put ?_ ?_ | with_reducible refine Kept.drewN ?_ _ | with_reducible refine Kept.drew ?_ | with_reducible refine Kept.alloc ?_ _ | (first | exact Or.inl (Or.inl rfl) | exact Or.inl (Or.inr HW0.out)) | (right; simp; done))))) (one_ints lg) HL1.out HL2.out ?_
               intro A2 c2 w8 ho2 hg2 ha2
               simp only [Nat.zero_add, List.nil_append] at ho2 ha2
               have hn8 : ∀ k, RowOf (.slice A2 lg.length c2) k → w7.heap.size ≤ k := fun k hk => by
                 rcases ha2 with e | e
                 · exact new_row (e.symm.trans hk) (Nat.le_refl _)
                 · have h9 := e.symm.trans hk
                   injection h9 with h9
                   simp [size_setCell] at h9
                   omega
               have hk8 : Kept (fun k => k = b ∨ k = w5.heap.size) w7 w8 := Kept.grown (by (repeat' (first | with_reducible exact Kept.refl _ _ | with_reducible refine Kept.put ?_ ?_ | with_reducible refine Kept.drewN ?_ _ | with_reducible refine Kept.drew ?_ | with_reducible refine Kept.alloc ?_ _ | (first | exact Or.inl (Or.inl rfl) | exact Or.inl (Or.inr rfl)) | (right; simp; done)))) hg2 (fun k hk => .inr (new_row hk (Nat.le_refl _)))
               have hb8 : Has w8 b 57 (rcells { s with ep := ep, ms := ms, fl := fl } A1 c1 lA lc pA pc) := by
                 refine Has.grown ?_ hg2 (fun e => by simp [Value.ownBlock] at e; omega)
                 ((repeat (first | with_reducible exact HZ7.out.2.2.2.2 | with_reducible apply Has.put_of | with_reducible apply Has.past | with_reducible apply Has.drewN | with_reducible apply Has.drew | with_reducible apply Has.alloc)) <;> first | omega | rfl)
               have k3' : w8.cell? ⟨b, 3, none⟩ = some (.slice lA s.lg.length lc) := hb8.cell 3
               have f3' := hb8.frozen 3
               have HZ8 := Lib.hid (And.intro ho2 (And.intro hn8 (And.intro hk8 hb8)))
               clear ho2 hg2 ha2 hn8 hk8 hb8 k0 k1 k2 k3 f0 f1 f2 f3 g0 g1 g2 gf q6')
            | (at_builtin; refine list_append_src elemMem (.tmp 41) (.tmp 44) rfl rfl (Value.slice (some ⟨w5.heap.size + 1, 0, none⟩) 0 0) rfl (own_empty (Has.new_at _ 86 #[] (by simp)) rfl) mc2 rfl (HMS.out _ (HK5.out.then (by (repeat' (first | with_reducible exact Kept.refl _ _ | with_reducible refine Kept.put ?_ ?_ | with_reducible refine Kept.drewN ?_ _ | with_reducible refine Kept.drew ?_ | with_reducible refine Kept.alloc ?_ _ | (fail) | (right; simp; done)))))) (one_mcells ms) HM1.out HM2.out ?_
               intro A1 c1 w7 ho1 hg1 ha1
               simp only [Nat.zero_add, List.nil_append] at ho1 ha1
               have hn7 : ∀ k, RowOf (.slice A1 ms.length c1) k → w5.heap.size + 1 ≤ k := fun k hk => by
                 rcases ha1 with e | e
                 · exact new_row (e.symm.trans hk) (Nat.le_refl _)
                 · have h9 := e.symm.trans hk
                   injection h9 with h9
                   simp at h9
                   omega
               have hk7 : Kept NoF w5 w7 := Kept.grown (by (repeat' (first | with_reducible exact Kept.refl _ _ | with_reducible refine Kept.put ?_ ?_ | with_reducible refine Kept.drewN ?_ _ | with_reducible refine Kept.drew ?_ | with_reducible refine Kept.alloc ?_ _ | (fail) | (right; simp; done)))) hg1 (fun k hk => .inr (new_row hk (by omega)))
               have hc7 : Has w7 w5.heap.size 31 #[.int .i64 ep, .slice mA2 ms.length mc2, .int .u64 fl] := Has.grown ((Has.new w5 31 #[.int .i64 ep, .slice mA2 ms.length mc2, .int .u64 fl]).alloc _) hg1 (fun e => by simp [Value.ownBlock] at e)
               have hb7 := HFR.out _ (HK5.out.then hk7)
               have q6' := (HCE.out _ (HK5.out.then hk7)).2.2.2
               have g0 : w7.cell? ⟨w5.heap.size, 0, none⟩ = some (.int .i64 ep) := hc7.cell 0
               have g1 : w7.cell? ⟨w5.heap.size, 1, none⟩ = some (.slice mA2 ms.length mc2) := hc7.cell 1
               have g2 : w7.cell? ⟨w5.heap.size, 2, none⟩ = some (.int .u64 fl) := hc7.cell 2
               have gf := hc7.frozen 1
               have k0 : w7.cell? ⟨b, 0, none⟩ = some (.int .i64 s.ep) := hb7.cell 0
               have k1 : w7.cell? ⟨b, 1, none⟩ = some (.slice mA s.ms.length mc) := hb7.cell 1
               have k2 : w7.cell? ⟨b, 2, none⟩ = some (.int .u64 s.fl) := hb7.cell 2
               have k3 : w7.cell? ⟨b, 3, none⟩ = some (.slice lA s.lg.length lc) := hb7.cell 3
               have f0 := hb7.frozen 0
               have f1 := hb7.frozen 1
               have f2 := hb7.frozen 2
               have f3 := hb7.frozen 3
               have hlt7 : w5.heap.size < w7.heap.size := hc7.lt
               have hlt8 : w.heap.size < w7.heap.size := by omega
               have hlt9 : b < w7.heap.size := by omega
               have HZ7 := Lib.hid (And.intro ho1 (And.intro hn7 (And.intro hk7 (And.intro hc7 hb7))))
               clear ho1 hg1 ha1 hn7 hk7 hc7 hb7)
            | fail "AT")
          go_ret
          obtain ⟨ho1, hn7, hk7, hc7, hb7⟩ := HZ7.out
          obtain ⟨ho2, hn8, hk8, hb8⟩ := HZ8.out
          have hs0 := (HK0.out.then HK5.out).size
          have hk9 : Kept (fun k => k = b ∨ k = w5.heap.size) w7 (w8.setCell ⟨b, 3, none⟩ (.slice A2 lg.length c2)) := hk8.put (.inl (.inl rfl))
          have hk9' : Kept (fun k => k = b) w8 (w8.setCell ⟨b, 3, none⟩ (.slice A2 lg.length c2)) := (Kept.refl _ _).put (.inl rfl)
          have hbl : b < w.heap.size := HBN.out.2
          have hz7 := hk7.size
          refine HP0.out _ A1 c1 A2 c2 (by first | trivial | exact HE.out.symm) ?_ ⟨own_kept ho1 hk9 (fun g hg hF => ?_), fun g hg => ?_⟩ ⟨own_kept ho2 hk9' (fun g hg hF => ?_), fun g hg => ?_⟩ ?_
          · ((repeat (first | with_reducible exact hb8 | with_reducible apply Has.put_of | with_reducible apply Has.past | with_reducible apply Has.drewN | with_reducible apply Has.drew | with_reducible apply Has.alloc)) <;> first | omega | rfl)
          · have := hn7 g hg
            rcases hF with rfl | rfl <;> omega
          · have := hn7 g hg
            omega
          · have := hn8 g hg
            omega
          · have := hn8 g hg
            omega
          · refine (Kept.up ((HK0.out.then HK5.out).then hk7)).trans hk9 (fun k hk => ?_)
            rcases hk with rfl | rfl
            · exact .inl rfl
            · exact .inr hs0
end Mst
end Go.Proofs.Ytolipnnjeehnfaa
/- The document's state: pin. -/
namespace Go.Proofs.Ytolipnnjeehnfaa
open Go.RowKit
set_option maxRecDepth 100000
namespace Mst
open Plan Vn Go.Sort
def RPinPost (w : World) (b : Nat) (s : StR) (mA : Option Addr) (mc : Nat) (lA : Option Addr) (lc : Nat) (pA : Option Addr) (pc : Nat) (p : PinR) (e : Ending) (w' : World) : Prop :=
  (pinE s p ≠ 0 ∧ e = .returned (.int .i64 (pinE s p)) ∧ Kept NoF w w') ∨
  (pinE s p = 0 ∧ e = .returned (.int .i64 0) ∧ ∃ B d, Has w' b 57 (rcells (pinS s p) mA mc lA lc B d) ∧ w'.ownsRow 0 44 3 (.slice B (pinS s p).pins.length d) (pinS s p).pins.length (pcells (pinS s p).pins) ∧
    (∀ k, RowOf (.slice B (pinS s p).pins.length d) k → RowOf (.slice pA s.pins.length pc) k ∨ w.heap.size ≤ k) ∧ Kept (fun k => k = b ∨ RowOf (.slice pA s.pins.length pc) k) w w')
set_option maxHeartbeats 4000000 in
theorem rpin_any (w : World) (b : Nat) (s : StR) (mA : Option Addr) (mc : Nat) (lA : Option Addr) (lc : Nat) (pA : Option Addr) (pc : Nat) (p : PinR) (hb : Has w b 57 (rcells s mA mc lA lc pA pc))
    (hp : w.ownsRow 0 44 3 (.slice pA s.pins.length pc) s.pins.length (pcells s.pins)) (hpl : s.pins.length ≤ 1000) :
    Calls Try.prog 37 #[.pointer (some ⟨b, 0, none⟩), pagg p] w (RPinPost w b s mA mc lA lc pA pc p) := by
  have hren := fun W (hW : Kept NoF w W) => rrenew_any W pA pc s.pins p.id ((Src.of_own hp).kept hW (fun _ _ z => z)) (by omega)
  have hbn : b ≠ w.heap.size := by have := hb.lt; omega
  obtain ⟨E, hE⟩ : ∃ E, pinE s p = E := ⟨_, rfl⟩
  have hPE : ∀ w', E ≠ 0 → Kept NoF w w' → RPinPost w b s mA mc lA lc pA pc p (.returned (.int .i64 E)) w' := fun w' h0 hk => .inl ⟨by rw [hE]; exact h0, by rw [hE], hk⟩
  have hP0 : ∀ w' B d, E = 0 → Has w' b 57 (rcells (pinS s p) mA mc lA lc B d) → w'.ownsRow 0 44 3 (.slice B (pinS s p).pins.length d) (pinS s p).pins.length (pcells (pinS s p).pins) →
      (∀ k, RowOf (.slice B (pinS s p).pins.length d) k → RowOf (.slice pA s.pins.length pc) k ∨ w.heap.size ≤ k) → Kept (fun k => k = b ∨ RowOf (.slice pA s.pins.length pc) k) w w' → RPinPost w b s mA mc lA lc pA pc p (.returned (.int .i64 0)) w' :=
    fun w' B d h0 h1 h2 h3 h4 => .inr ⟨by rw [hE, h0], rfl, B, d, h1, h2, h3, h4⟩
  unfold pinE at hE
  obtain ⟨id, at2, left⟩ := p
  dsimp only at hE hP0 hPE hren
  obtain ⟨W0, hW0⟩ : ∃ W0, w.alloc (.cells #[.int .i64 id, .int .u64 at2, .int .i64 left] 44) = W0 := ⟨_, rfl⟩
  have hk0 : Kept NoF w W0 := by rw [← hW0]; (repeat' (first | with_reducible exact Kept.refl _ _ | with_reducible refine Kept.put ?_ ?_ | with_reducible refine Kept.drewN ?_ _ | with_reducible refine Kept.drew ?_ | with_reducible refine Kept.alloc ?_ _ | (fail) | (right; simp; done)))
  have hn0 : Has W0 w.heap.size 44 #[.int .i64 id, .int .u64 at2, .int .i64 left] := by rw [← hW0]; exact Has.new _ _ _
  have hb0 := hb.kept hk0 (fun z => z)
  have hce : ∀ W, Kept NoF W0 W → W.cell? ⟨w.heap.size, 0, none⟩ = some (.int .i64 id) ∧ W.cell? ⟨w.heap.size, 1, none⟩ = some (.int .u64 at2) ∧ W.cell? ⟨b, 5, none⟩ = some (.slice pA s.pins.length pc) ∧ W.cell? ⟨b, 4, none⟩ = some (.int .u64 s.hz) ∧ W.cell? ⟨b, 6, none⟩ = some (.int .i64 s.top) ∧ W.frozen? ⟨b, 5, none⟩ = false := fun W hW => by
    have g := hn0.kept hW (fun z => z)
    have g2 := hb0.kept hW (fun z => z)
    exact ⟨g.cell 0, g.cell 1, g2.cell 5, g2.cell 4, g2.cell 6, g2.frozen 5⟩
  obtain ⟨q0, q1, q5, q4, q6, f5⟩ := hce W0 (Kept.refl _ _)
  have hsep := own_ne (own_kept hp hk0 (fun _ _ z => z)) hb0 (by decide)
  by_cases h0 : 0 ≤ pinAt s.pins id
  · rw [if_pos h0] at hE
    subst hE
    have hren1 : ∀ W, Kept NoF w W → Calls Try.prog 65 #[.slice pA s.pins.length pc, .int .i64 id] W fun e w' => ∃ A c, e = .returned (.tuple #[.slice A s.pins.length c, .int .i64 0]) ∧ NewSl 44 3 W.heap.size w' A s.pins.length c (pcells (renewed s.pins id)) ∧ Kept NoF W w' := fun W hW => (hren W hW).mono fun e w' h => by
      rcases h with ⟨h1, _⟩ | ⟨_, A, c, h1, h2, h3⟩
      · omega
      · rw [renewed_length] at h1 h2; exact ⟨A, c, h1, h2, h3⟩
    have hS : pinS s ⟨id, at2, left⟩ = { s with pins := renewed s.pins id } := by unfold pinS; rw [if_pos h0]
    rw [hS] at hP0
    have HP0 := Lib.hid hP0; have HR := Lib.hid hren1; have HCE := Lib.hid hce; have HB0 := Lib.hid hb0
    have HK0 := Lib.hid hk0; have HSEP := Lib.hid hsep; have HBL := Lib.hid hb.lt
    clear hPE hP0 hren hren1 hce hn0 hb0 hk0 hbn hp hb hS h0 hsep q0 q1 q4 q6
    go_enter Try.func37, Try.ntmps37
    go_wp2_with fail
    clear hW0
    have q := HCE.out W0 (Kept.refl _ _)
    obtain ⟨q0, q1, q5, q4, q6, f5⟩ := q
    have HS := Lib.hid (Kept.refl NoF W0)
    go_region_held3 (fun W => W.cell? ⟨w.heap.size, 0, none⟩ = some (.int .i64 id) ∧ W.cell? ⟨w.heap.size, 1, none⟩ = some (.int .u64 at2) ∧ W.cell? ⟨b, 5, none⟩ = some (.slice pA s.pins.length pc) ∧ W.cell? ⟨b, 4, none⟩ = some (.int .u64 s.hz) ∧ W.cell? ⟨b, 6, none⟩ = some (.int .i64 s.top) ∧ W.frozen? ⟨b, 5, none⟩ = false)
      (first | with_reducible exact HCE.out _ HS.out | exact HCE.out _ HS.out.drew | (simp [go_sem, q0, q1, q5, q4, q6, f5]; done))
      (first
        | (go_at_call 65; ((with_reducible refine (HR.out _ ?_).mono ?_); exact HK0.out.then (by (repeat' (first | with_reducible exact Kept.refl _ _ | with_reducible refine Kept.put ?_ ?_ | with_reducible refine Kept.drewN ?_ _ | with_reducible refine Kept.drew ?_ | with_reducible refine Kept.alloc ?_ _ | (exact HS.out) | (right; simp; done)))); rintro e w5 ⟨A5, c5, rfl, hn5, hk5⟩; have hk := Kept.then (F := NoF) (a := W0) (by (repeat' (first | with_reducible exact Kept.refl _ _ | with_reducible refine Kept.put ?_ ?_ | with_reducible refine Kept.drewN ?_ _ | with_reducible refine Kept.drew ?_ | with_reducible refine Kept.alloc ?_ _ | (exact HS.out) | (right; simp; done)))) hk5; have HN5 := Lib.hid (And.intro hn5 HS.out.size); clear HS hk5 hn5; have HS := Lib.hid hk; clear hk)))
    clear q0 q1 q5 q4 q6 f5
    obtain ⟨q0, q1, q5, q4, q6, f5⟩ := HCE.out _ HS.out
    go_wp2
    go_ret
    have hb5 := HB0.out.kept HS.out (fun z => z)
    have hk6 : Kept (fun k => k = b) w5 (w5.setCell ⟨b, 5, none⟩ (.slice A5 s.pins.length c5)) := (Kept.refl (fun k => k = b) w5).put (.inl rfl)
    have hne := own_ne HN5.out.1.1 hb5 (by decide)
    refine HP0.out _ A5 c5 trivial ?_ ?_ ?_ (((Kept.up (HK0.out.then HS.out)).then hk6).mono (fun k hk => .inl hk))
    · unfold rcells
      dsimp only
      rw [renewed_length]
      ((repeat (first | with_reducible exact hb5 | with_reducible apply Has.put_of | with_reducible apply Has.past | with_reducible apply Has.drewN | with_reducible apply Has.drew | with_reducible apply Has.alloc)) <;> first | omega | rfl)
    · rw [renewed_length]
      exact own_kept HN5.out.1.1 hk6 (fun g hg hF => hne (by rw [hg, hF]))
    · rw [renewed_length]
      exact fun k hk => .inr (Nat.le_trans HK0.out.size (Nat.le_trans HN5.out.2 (HN5.out.1.2 k hk)))
  · rw [if_neg h0] at hE
    have hren1 : ∀ W, Kept NoF w W → Calls Try.prog 65 #[.slice pA s.pins.length pc, .int .i64 id] W fun e w' => e = .returned (.tuple #[.slice none 0 0, .int .i64 7]) ∧ Kept NoF W w' := fun W hW => (hren W hW).mono fun e w' h => by
      rcases h with ⟨_, h1, h2⟩ | ⟨h1, _⟩
      · exact ⟨h1, h2⟩
      · omega
    have hS : pinS s ⟨id, at2, left⟩ = { s with pins := s.pins ++ [⟨id, at2, 8⟩], top := id } := by unfold pinS; rw [if_neg h0]
    rw [hS] at hP0
    have HPE := Lib.hid hPE; have HE := Lib.hid hE
    have HP0 := Lib.hid hP0; have HR := Lib.hid hren1; have HCE := Lib.hid hce; have HB0 := Lib.hid hb0; have HN0 := Lib.hid hn0
    have HK0 := Lib.hid hk0; have HSEP := Lib.hid hsep; have HBL := Lib.hid hb.lt; have HOP := Lib.hid (own_kept hp hk0 (fun _ _ z => z)); have HBN := Lib.hid hbn; have HBR := Lib.hid hp
    clear hPE hE hP0 hren hren1 hce hn0 hb0 hk0 hbn hp hb hS h0 hsep q0 q1 q4 q6
    go_enter Try.func37, Try.ntmps37
    go_wp2_with fail
    clear hW0
    have q := HCE.out W0 (Kept.refl _ _)
    obtain ⟨q0, q1, q5, q4, q6, f5⟩ := q
    have HS := Lib.hid (Kept.refl NoF W0)
    go_region_held3 (fun W => W.cell? ⟨w.heap.size, 0, none⟩ = some (.int .i64 id) ∧ W.cell? ⟨w.heap.size, 1, none⟩ = some (.int .u64 at2) ∧ W.cell? ⟨b, 5, none⟩ = some (.slice pA s.pins.length pc) ∧ W.cell? ⟨b, 4, none⟩ = some (.int .u64 s.hz) ∧ W.cell? ⟨b, 6, none⟩ = some (.int .i64 s.top) ∧ W.frozen? ⟨b, 5, none⟩ = false)
      (first | with_reducible exact HCE.out _ HS.out | exact HCE.out _ HS.out.drew | (simp [go_sem, q0, q1, q5, q4, q6, f5]; done))
      (first
        | (go_at_call 65; ((with_reducible refine (HR.out _ ?_).mono ?_); exact HK0.out.then (by (repeat' (first | with_reducible exact Kept.refl _ _ | with_reducible refine Kept.put ?_ ?_ | with_reducible refine Kept.drewN ?_ _ | with_reducible refine Kept.drew ?_ | with_reducible refine Kept.alloc ?_ _ | (exact HS.out) | (right; simp; done)))); rintro e w5 ⟨rfl, hk5⟩; have hk := Kept.then (F := NoF) (a := W0) (by (repeat' (first | with_reducible exact Kept.refl _ _ | with_reducible refine Kept.put ?_ ?_ | with_reducible refine Kept.drewN ?_ _ | with_reducible refine Kept.drew ?_ | with_reducible refine Kept.alloc ?_ _ | (exact HS.out) | (right; simp; done)))) hk5; clear HS hk5; have HS := Lib.hid hk; clear hk)))
    clear q0 q1 q5 q4 q6 f5
    obtain ⟨q0, q1, q5, q4, q6, f5⟩ := HCE.out _ HS.out
    by_cases h3 : 3 ≤ s.pins.length
    · have he := HE.out
      rw [if_pos h3] at he
      subst he
      have h3' : (3 : Int) ≤ (s.pins.length : Int) := by omega
      go_wp2
      go_ret
      exact HPE.out _ (by decide) (HK0.out.then HS.out)
    · have h3' : ¬ (3 : Int) ≤ (s.pins.length : Int) := by omega
      have he := HE.out
      rw [if_neg h3] at he
      clear HE
      have HE := Lib.hid he; clear he
      by_cases h4 : id ≤ s.top
      · have he := HE.out
        rw [if_pos h4] at he
        subst he
        go_wp2_with fail
        go_quiet (fail)
        go_wp2
        go_ret
        exact HPE.out _ (by decide) ((HK0.out.then HS.out).drewN _)
      · have he := HE.out
        rw [if_neg h4] at he
        clear HE
        have HE := Lib.hid he; clear he
        have hce2 : ∀ n, (w5.drewN n).cell? ⟨w.heap.size, 1, none⟩ = some (.int .u64 at2) ∧ (w5.drewN n).cell? ⟨b, 4, none⟩ = some (.int .u64 s.hz) := fun n => ⟨q1, q4⟩
        have HC2 := Lib.hid hce2; clear hce2
        by_cases h5 : at2 < s.hz
        · have he := HE.out
          rw [if_pos h5] at he
          subst he
          go_wp2_with fail
          go_quiet (fail)
          obtain ⟨r1, r4⟩ := HC2.out nq
          go_wp2_with fail
          go_quiet (fail)
          go_wp2
          go_ret
          exact HPE.out _ (by decide) (((HK0.out.then HS.out).drewN _).drewN _)
        · have he := HE.out
          rw [if_neg h5] at he
          clear HE
          have HE := Lib.hid he; clear he
          go_wp2_with fail
          go_quiet (fail)
          obtain ⟨r1, r4⟩ := HC2.out nq
          go_wp2_with fail
          go_quiet (fail)
          clear r1 r4 q0 q1 q5 q4 q6 f5 HC2
          generalize hw6 : World.drewN (World.drewN w5 _) _ = w6
          have hk6 : Kept NoF W0 w6 := by rw [← hw6]; exact (HS.out.drewN _).drewN _
          have hx6 := HN0.out.kept hk6 (fun z => z)
          have hb6 := HB0.out.kept hk6 (fun z => z)
          have ho6 := own_kept HOP.out hk6 (fun _ _ z => z)
          clear hw6
          have P0 : w6.cell? ⟨w.heap.size, 0, none⟩ = some (.int .i64 id) := hx6.cell 0
          have P1 : w6.cell? ⟨w.heap.size, 1, none⟩ = some (.int .u64 at2) := hx6.cell 1
          have Q5 : w6.cell? ⟨b, 5, none⟩ = some (.slice pA s.pins.length pc) := hb6.cell 5
          have hm0 : 0 + s.pins.length ≤ maxLen := by unfold maxLen; omega
          have hm3 : (0 + s.pins.length) * 24 ≤ 140737488355328 := by omega
          have hm1 : s.pins.length + 1 ≤ maxLen := by unfold maxLen; omega
          have hm2 : (s.pins.length + 1) * 24 ≤ 140737488355328 := by omega
          have HM0 := Lib.hid hm0; have HM3 := Lib.hid hm3
          have HM1 := Lib.hid hm1; have HM2 := Lib.hid hm2; have HX7 := Lib.hid hx6; have HB7 := Lib.hid hb6; have HK7 := Lib.hid (HK0.out.then hk6); have HO7 := Lib.hid ho6
          have hxl := hx6.lt; have hbl := hb6.lt
          clear hm0 hm3 hm1 hm2 hx6 hb6 hk6 ho6 HS
          have hbn2 := HBN.out
          have hbn3 : w.heap.size ≠ b := fun e => hbn2 e.symm
          have hone : ∀ u ∈ (#[.int .i64 id, .int .u64 at2, .int .i64 8] : Array Value).toList, u.oneCell' = true := by
            intro u hu
            simp at hu
            rcases hu with rfl | rfl | rfl <;> rfl
          have HONE := Lib.hid hone; clear hone
          go_wp2_with fail
          go_region_law (first
            | (with_reducible apply step_append_src elemPin (.tmp 44) (.tmp 48) (n := 0) (xs := []) (A := pA) (m := s.pins.length) (c := pc) (news := pcells s.pins)
               rfl
               rfl
               exact (rfl : _ = Value.slice (some ⟨_, 0, none⟩) 0 0)
               (refine own_empty (cs := #[]) ?_ rfl; (repeat (first | with_reducible exact Has.new_at _ _ _ (by simp) | with_reducible apply Has.drew | with_reducible apply Has.drewN | with_reducible apply Has.alloc | (with_reducible apply Has.past <;> (try omega)) )))
               rfl
               (refine Src.of_own (own_kept HO7.out (F := NoF) ?_ (fun _ _ x => x)); (repeat' (first | with_reducible exact Kept.refl _ _ | with_reducible refine Kept.put ?_ ?_ | with_reducible refine Kept.drewN ?_ _ | with_reducible refine Kept.drew ?_ | with_reducible refine Kept.alloc ?_ _ | (fail) | (right; simp; done))))
               exact one_pcells s.pins
               exact HM0.out
               exact HM3.out
               intro A7 c7 w7 ho7 hg7 ha7
               have hk7 : Kept NoF w6 w7 := by refine Kept.grown ?_ hg7 ?_; (repeat' (first | with_reducible exact Kept.refl _ _ | with_reducible refine Kept.put ?_ ?_ | with_reducible refine Kept.drewN ?_ _ | with_reducible refine Kept.drew ?_ | with_reducible refine Kept.alloc ?_ _ | (fail) | (right; simp; done))); (intro k hk; simp [Value.ownBlock] at hk; right; omega)
               have P0' : w7.cell? ⟨w.heap.size, 0, none⟩ = some (.int .i64 id) := (HX7.out.kept hk7 fun x => x).cell 0
               have P1' : w7.cell? ⟨w.heap.size, 1, none⟩ = some (.int .u64 at2) := (HX7.out.kept hk7 fun x => x).cell 1
               have hz7 := hk7.size
               simp only [Nat.zero_add, List.nil_append] at ho7 ha7 ⊢)
            | (with_reducible apply step_append_src elemPin (.tmp 49) (.tmp 55) (n := s.pins.length) (xs := pcells s.pins) (m := 1) (c := 1) (news := [.int .i64 id, .int .u64 at2, .int .i64 8])
               rfl
               rfl
               exact (rfl : _ = Value.slice A7 s.pins.length c7)
               (refine own_kept ho7 (F := NoF) ?_ (fun _ _ x => x); (repeat' (first | with_reducible exact Kept.refl _ _ | with_reducible refine Kept.put ?_ ?_ | with_reducible refine Kept.drewN ?_ _ | with_reducible refine Kept.drew ?_ | with_reducible refine Kept.alloc ?_ _ | (fail) | (right; simp; done))))
               exact (rfl : _ = Value.slice (some ⟨_, 0, none⟩) 1 1)
               ((with_reducible apply Src.of_has (t := 44) (m := 1) (cs := #[.int .i64 id, .int .u64 at2, .int .i64 8])); (first | (focus ((repeat (first | with_reducible exact Has.new_at _ _ _ (by simp) | with_reducible apply Has.drew | with_reducible apply Has.drewN | with_reducible apply Has.alloc | (with_reducible apply Has.past <;> (try omega)) )); done)) | (focus (refine Has.grown ?_ hg7 ?_; (repeat (first | with_reducible exact Has.new_at _ _ _ (by simp) | with_reducible apply Has.drew | with_reducible apply Has.drewN | with_reducible apply Has.alloc | (with_reducible apply Has.past <;> (try omega)) )); (simp [Value.ownBlock] <;> omega)))); rfl)
               exact HONE.out
               exact HM1.out
               exact HM2.out
               intro A8 c8 w8 ho8 hg8 ha8
               have hk8 : Kept NoF w6 w8 := by refine Kept.grown (Kept.then hk7 ?_) hg8 ?_; (repeat' (first | with_reducible exact Kept.refl _ _ | with_reducible refine Kept.put ?_ ?_ | with_reducible refine Kept.drewN ?_ _ | with_reducible refine Kept.drew ?_ | with_reducible refine Kept.alloc ?_ _ | (fail) | (right; simp; done))); (intro k hk; rw [hk] at ha7; simp [Value.ownBlock] at ha7; right; omega)
               have hb8 := HB7.out.kept hk8 (fun z => z)
               have hx8 := HX7.out.kept hk8 (fun z => z)
               have P0' : w8.cell? ⟨w.heap.size, 0, none⟩ = some (.int .i64 id) := hx8.cell 0
               have R5 : w8.cell? ⟨b, 5, none⟩ = some (.slice pA s.pins.length pc) := hb8.cell 5
               have R6 : w8.cell? ⟨b, 6, none⟩ = some (.int .i64 s.top) := hb8.cell 6
               have F5 : w8.frozen? ⟨b, 5, none⟩ = false := hb8.frozen 5
               have F6 : w8.frozen? ⟨b, 6, none⟩ = false := hb8.frozen 6))
          all_goals
            have hnew : ∀ k, RowOf (.slice A8 (s.pins.length + 1) c8) k → w.heap.size ≤ k := by
              intro k hk
              have hs7 := HK7.out.size
              have hs8 := hk7.size
              rcases ha8 with e | e
              · have h9 := e.symm.trans hk
                rcases ha7 with e7 | e7
                · rw [h9] at e7; simp [Value.ownBlock] at e7; omega
                · rw [h9] at e7; injection e7 with e7; first | omega | (simp at e7; omega)
              · have h9 := e.symm.trans hk
                injection h9 with h9
                first | omega | (simp at h9; omega)
            have HZ := Lib.hid (And.intro ho8 (And.intro hnew (And.intro hk8 hb8)))
            have hne8 := own_ne ho8 hb8 (by decide)
            have HNE8 := Lib.hid hne8
            clear ho8 hnew hk8 hb8 hg8 ha8 hne8
            go_wp2
            go_ret
            obtain ⟨ho8, hnew, hk8, hb8⟩ := HZ.out
            have hkf : Kept (fun k => k = b) w8 ((w8.setCell ⟨b, 5, none⟩ (.slice A8 (s.pins.length + 1) c8)).setCell ⟨b, 6, none⟩ (.int .i64 id)) := ((Kept.refl (fun k => k = b) w8).put (.inl rfl)).put (.inl rfl)
            have e9 : (s.pins ++ [(⟨id, at2, 8⟩ : PinR)]).length = s.pins.length + 1 := by simp
            refine HP0.out _ A8 c8 (by first | trivial | exact HE.out.symm) ?_ ?_ ?_ ?_
            · unfold rcells
              dsimp only
              rw [e9]
              ((repeat (first | with_reducible exact hb8 | with_reducible apply Has.put_of | with_reducible apply Has.past | with_reducible apply Has.drewN | with_reducible apply Has.drew | with_reducible apply Has.alloc)) <;> first | omega | rfl)
            · rw [e9, pcells_append]
              exact own_kept ho8 hkf (fun g hg hF => HNE8.out (by rw [hg, hF]))
            · rw [e9]
              exact fun k hk => .inr (hnew k hk)
            · exact ((Kept.up (HK7.out.then hk8)).then hkf).mono (fun k hk => .inl hk)
end Mst
end Go.Proofs.Ytolipnnjeehnfaa
/- The document's state: what a note does to it. -/
namespace Go.Proofs.Ytolipnnjeehnfaa
open Go.RowKit
set_option maxRecDepth 100000
namespace Mst
open Plan Vn Go.Sort
def RAt (w : World) (b : Nat) (F : Nat → Prop) (s : StR) : Prop := ∃ mA mc lA lc pA pc, (∀ k, F k ↔ (k = b ∨ RowOf (.slice mA s.ms.length mc) k ∨ RowOf (.slice lA s.lg.length lc) k ∨ RowOf (.slice pA s.pins.length pc) k)) ∧
  Has w b 57 (rcells s mA mc lA lc pA pc) ∧ w.ownsRow 0 86 2 (.slice mA s.ms.length mc) s.ms.length (mcells s.ms) ∧ w.ownsRow 0 3 1 (.slice lA s.lg.length lc) s.lg.length (ints s.lg) ∧ w.ownsRow 0 44 3 (.slice pA s.pins.length pc) s.pins.length (pcells s.pins)
theorem RAt.kept {w w' : World} {b : Nat} {F G : Nat → Prop} {s : StR} (h : RAt w b F s) (hk : Kept G w w') (hs : Sep F G) : RAt w' b F s := by
  obtain ⟨mA, mc, lA, lc, pA, pc, hF, hb, hm, hl, hp⟩ := h
  exact ⟨mA, mc, lA, lc, pA, pc, hF, hb.kept hk (hs b ((hF b).2 (.inl rfl))), own_kept hm hk (fun g hg => hs g ((hF g).2 (.inr (.inl hg)))), own_kept hl hk (fun g hg => hs g ((hF g).2 (.inr (.inr (.inl hg))))), own_kept hp hk (fun g hg => hs g ((hF g).2 (.inr (.inr (.inr hg)))))⟩
theorem RAt.still {w w' : World} {b : Nat} {F : Nat → Prop} {s : StR} (h : RAt w b F s) (hk : Kept NoF w w') : RAt w' b F s := h.kept hk (fun _ _ z => z)
theorem RAt.lt {w : World} {b : Nat} {F : Nat → Prop} {s : StR} (h : RAt w b F s) : ∀ k, F k → k < w.heap.size := by
  obtain ⟨mA, mc, lA, lc, pA, pc, hF, hb, hm, hl, hp⟩ := h
  intro k hk
  rcases (hF k).1 hk with rfl | h | h | h
  · exact hb.lt
  · exact own_lt hm h
  · exact own_lt hl h
  · exact own_lt hp h
def RApplyPost (w : World) (b : Nat) (F : Nat → Prop) (s : StR) (x : NoteR) (e : Ending) (w' : World) : Prop :=
  ∃ F', e = .returned (.int .i64 (applyE s x)) ∧ RAt w' b F' (applyS s x) ∧ Grows w F F' ∧ Kept F w w'
theorem RApplyPost.bad {w w' : World} {b : Nat} {F : Nat → Prop} {s : StR} {x : NoteR} (hs : RAt w b F s) (h0 : applyE s x ≠ 0) (hk : Kept NoF w w') : RApplyPost w b F s x (.returned (.int .i64 (applyE s x))) w' := by
  refine ⟨F, rfl, ?_, Grows.refl _ _, Kept.up hk⟩
  unfold applyS
  rw [if_pos h0]
  exact hs.still hk
theorem RAt.turned {w w' : World} {b : Nat} {F : Nat → Prop} {s s' : StR} {mA lA pA : Option Addr} {mc lc pc : Nat} (hF : ∀ k, F k ↔ (k = b ∨ RowOf (.slice mA s.ms.length mc) k ∨ RowOf (.slice lA s.lg.length lc) k ∨ RowOf (.slice pA s.pins.length pc) k))
    (hb : Has w b 57 (rcells s mA mc lA lc pA pc)) (hm : w.ownsRow 0 86 2 (.slice mA s.ms.length mc) s.ms.length (mcells s.ms)) (hl : w.ownsRow 0 3 1 (.slice lA s.lg.length lc) s.lg.length (ints s.lg)) (hp : w.ownsRow 0 44 3 (.slice pA s.pins.length pc) s.pins.length (pcells s.pins))
    (hb' : Has w' b 57 (rcells s' mA mc lA lc pA pc)) (e1 : s'.ms = s.ms) (e2 : s'.lg = s.lg) (e3 : s'.pins = s.pins) (hk : Kept (fun k => k = b) w w') : RAt w' b F s' := by
  have h1 := own_ne hm hb (by decide)
  have h2 := own_ne hl hb (by decide)
  have h3 := own_ne hp hb (by decide)
  refine ⟨mA, mc, lA, lc, pA, pc, by rw [e1, e2, e3]; exact hF, hb', ?_, ?_, ?_⟩
  · rw [e1]; exact own_kept hm hk (fun g hg e => h1 (by rw [hg, e]))
  · rw [e2]; exact own_kept hl hk (fun g hg e => h2 (by rw [hg, e]))
  · rw [e3]; exact own_kept hp hk (fun g hg e => h3 (by rw [hg, e]))
theorem rapply_bad (w : World) (b : Nat) (F : Nat → Prop) (s : StR) (x : NoteR) (hs : RAt w b F s) (h : NOk w x) (hcap : x.b.ops.length ≤ x.oc) (h0 : noteE x ≠ 0) :
    Calls Try.prog 17 #[.pointer (some ⟨b, 0, none⟩), nagg x] w (RApplyPost w b F s x) := by
  have hE : applyE s x = noteE x := by unfold applyE; rw [if_pos h0]
  have hP : ∀ w', Kept NoF w w' → RApplyPost w b F s x (.returned (.int .i64 (noteE x))) w' := fun w' hk => by
    have := RApplyPost.bad hs (by rw [hE]; exact h0) hk
    rw [hE] at this
    exact this
  obtain ⟨mA, mc, lA, lc, pA, pc, hF, hb, hm, hl, hp⟩ := hs
  have hck := fun W (hW : Kept NoF w W) => nrcheck_any W x (h.kept hW) hcap
  obtain ⟨E, hE0⟩ : ∃ E, noteE x = E := ⟨_, rfl⟩
  rw [hE0] at hck hP h0
  obtain ⟨W0, hW0⟩ : ∃ W0, w.alloc (.cells (ncell x).toArray 48) = W0 := ⟨_, rfl⟩
  have hk0 : Kept NoF w W0 := by rw [← hW0]; (repeat' (first | with_reducible exact Kept.refl _ _ | with_reducible refine Kept.put ?_ ?_ | with_reducible refine Kept.drewN ?_ _ | with_reducible refine Kept.drew ?_ | with_reducible refine Kept.alloc ?_ _ | (fail) | (right; simp; done)))
  have hn0 : Has W0 w.heap.size 48 (ncell x).toArray := by rw [← hW0]; exact Has.new _ _ _
  clear hE hE0 h hm hl hp hb hF
  obtain ⟨k, n, at2, ep, mA2, mc2, ms, fl, lA2, lc2, lg, oA, oc, ⟨bcl, breq, ops⟩, ts, ⟨p1, p2, p3⟩, ⟨s1, s2, s3, s4⟩⟩ := x
  simp only [ncell] at hP hn0 hck
  have HP := Lib.hid hP; have HCK := Lib.hid hck; have HK0 := Lib.hid hk0; have HN0 := Lib.hid hn0
  clear hP hck hk0 hn0
  have h0' : (E != 0) = true := by simpa using h0
  go_enter Try.func17, Try.ntmps17
  go_wp2_with (refine wpList_load_row rfl 48 (.tmp 3) rfl w.heap.size rfl 48 _ (0, 0) _ HN0.out Try.underlying48 rfl (by kernel_rfl) ?_)
  clear hW0
  refine (HCK.out _ HK0.out).mono ?_
  rintro e w3 ⟨rfl, hk⟩
  have HK3 := Lib.hid (HK0.out.then hk); clear hk
  go_wp2
  go_ret
  exact HP.out _ HK3.out
set_option maxHeartbeats 2000000 in
theorem rapply1_any (w : World) (b : Nat) (F : Nat → Prop) (s : StR) (x : NoteR) (hs : RAt w b F s) (hok : SOk s) (h : NOk w x) (hcap : x.b.ops.length ≤ x.oc) (hlb : 0 < x.lg.length → ∀ ad, x.lA = some ad → ad.block ≠ b) (h0 : noteE x = 0) (hk : x.k = 1) :
    Calls Try.prog 17 #[.pointer (some ⟨b, 0, none⟩), nagg x] w (RApplyPost w b F s x) := by
  have h00 : noteE x = 0 := h0
  obtain ⟨mh, rh, hms⟩ : ∃ mh rh, x.ms = mh :: rh := by
    have h9 := (chk_zero (noteE_conf h0 hk).1).2.1
    revert h9
    cases x.ms with
    | nil => intro h9; exact absurd rfl h9
    | cons a l => intro _; exact ⟨a, l, rfl⟩
  obtain ⟨mA, mc, lA, lc, pA, pc, hF, hb, hm, hl, hp⟩ := hs
  have hck := fun W (hW : Kept NoF w W) => nrcheck_any W x (h.kept hW) hcap
  rw [h00] at hck
  obtain ⟨W0, hW0⟩ : ∃ W0, w.alloc (.cells (ncell x).toArray 48) = W0 := ⟨_, rfl⟩
  have hk0 : Kept NoF w W0 := by rw [← hW0]; (repeat' (first | with_reducible exact Kept.refl _ _ | with_reducible refine Kept.put ?_ ?_ | with_reducible refine Kept.drewN ?_ _ | with_reducible refine Kept.drew ?_ | with_reducible refine Kept.alloc ?_ _ | (fail) | (right; simp; done)))
  have hn0 : Has W0 w.heap.size 48 (ncell x).toArray := by rw [← hW0]; exact Has.new _ _ _
  have hE : applyE s x = nextE s x := by unfold applyE; rw [if_neg (by simpa using h00), if_pos hk]
  have hfin : ∀ w3 w', Kept NoF w w3 → RNextPost w3 b s x pA pc (.returned (.int .i64 (nextE s x))) w' → RApplyPost w b F s x (.returned (.int .i64 (nextE s x))) w' := by
    intro w3 w' hk3 hpost
    have hst := (show RAt w b F s from ⟨mA, mc, lA, lc, pA, pc, hF, hb, hm, hl, hp⟩)
    rcases hpost with ⟨h1, _, h2⟩ | ⟨h1, _, A, c, B, d, h2, h3, h4, h5⟩
    · rw [← hE]
      exact RApplyPost.bad hst (by rw [hE]; exact h1) (hk3.then h2)
    · have hS : applyS s x = { s with ep := x.ep, ms := x.ms, fl := x.fl, lg := x.lg } := by unfold applyS; rw [if_neg (by rw [hE, h1]; simp), if_pos hk]
      have hbF : ∀ k, k = b → F k := fun k e => (hF k).2 (.inl e)
      have hpb := own_ne hp hb (by decide)
      have hsz := hk3.size
      refine ⟨fun k => k = b ∨ RowOf (.slice A x.ms.length c) k ∨ RowOf (.slice B x.lg.length d) k ∨ RowOf (.slice pA s.pins.length pc) k, by rw [hE], ?_, ?_, (Kept.up hk3).then (h5.mono hbF)⟩
      · rw [hS]
        exact ⟨A, c, B, d, pA, pc, fun k => Iff.rfl, h2, h3.1, h4.1, own_kept hp ((Kept.up hk3).then h5) (fun g hg e => hpb (by rw [hg, e]))⟩
      · rintro k (e | e | e | e)
        · exact .inl (hbF k e)
        · exact .inr (Nat.le_trans hsz (h3.2 k e))
        · exact .inr (Nat.le_trans hsz (h4.2 k e))
        · exact .inl ((hF k).2 (.inr (.inr (.inr e))))
  have hcall := fun W (hW : Kept NoF w W) => (rconf_any W b s mA mc lA lc pA pc x mh rh hms hlb (hb.kept hW (fun z => z)) (h.kept hW)).mono (fun e w' hp => (show e = .returned (.int .i64 (nextE s x)) ∧ RNextPost W b s x pA pc (.returned (.int .i64 (nextE s x))) w' by
    rcases hp with ⟨h1, h2, h3⟩ | ⟨h1, h2, h3⟩
    · exact ⟨h2, .inl ⟨h1, rfl, h3⟩⟩
    · rw [h1]; exact ⟨h2, .inr ⟨h1, rfl, h3⟩⟩))
  obtain ⟨Z, hZ⟩ : ∃ Z, nextE s x = Z := ⟨_, rfl⟩
  rw [hZ] at hfin hcall
  clear hZ
  have HFIN := Lib.hid hfin
  clear hfin hE h0 h00 h hm hl hp hF hms hlb
  obtain ⟨k, n, at2, ep, mA2, mc2, ms, fl, lA2, lc2, lg, oA, oc, ⟨bcl, breq, ops⟩, ts, ⟨p1, p2, p3⟩, ⟨s1, s2, s3, s4⟩⟩ := x
  simp only [ncell] at hn0 hck hcall
  dsimp only at hk
  subst hk
  have HCK := Lib.hid hck; have HK0 := Lib.hid hk0; have HN0 := Lib.hid hn0; have HB := Lib.hid hb
  have HCALL := Lib.hid hcall
  clear hck hk0 hn0 hb hcall
  go_enter Try.func17, Try.ntmps17
  go_wp2_with (refine wpList_load_row rfl 48 (.tmp 3) rfl w.heap.size rfl 48 _ (0, 0) _ HN0.out Try.underlying48 rfl (by kernel_rfl) ?_)
  clear hW0
  refine (HCK.out _ HK0.out).mono ?_
  rintro e w3 ⟨rfl, hk⟩
  have hn3 := HN0.out.kept hk (fun z => z)
  have q0 : w3.cell? ⟨w.heap.size, 0, none⟩ = some (.int .i64 1) := hn3.cell 0
  have HN3 := Lib.hid hn3
  have HK3 := Lib.hid (HK0.out.then hk); clear hk hn3
  go_wp2_with (refine wpList_load_row rfl 48 (.tmp 3) rfl w.heap.size rfl 48 _ (0, 0) _ HN3.out Try.underlying48 rfl (by kernel_rfl) ?_)
  refine (HCALL.out _ HK3.out).mono ?_
  rintro e w4 ⟨rfl, hpost⟩
  have HPO := Lib.hid hpost; clear hpost
  go_wp2
  go_ret
  exact HFIN.out _ _ HK3.out HPO.out
set_option maxHeartbeats 2000000 in
theorem rapply6_any (w : World) (b : Nat) (F : Nat → Prop) (s : StR) (x : NoteR) (hs : RAt w b F s) (hok : SOk s) (h : NOk w x) (hcap : x.b.ops.length ≤ x.oc) (h0 : noteE x = 0) (hk : x.k = 6) :
    Calls Try.prog 17 #[.pointer (some ⟨b, 0, none⟩), nagg x] w (RApplyPost w b F s x) := by
  have h00 : noteE x = 0 := h0
  obtain ⟨mA, mc, lA, lc, pA, pc, hF, hb, hm, hl, hp⟩ := hs
  have hck := fun W (hW : Kept NoF w W) => nrcheck_any W x (h.kept hW) hcap
  rw [h00] at hck
  obtain ⟨W0, hW0⟩ : ∃ W0, w.alloc (.cells (ncell x).toArray 48) = W0 := ⟨_, rfl⟩
  have hk0 : Kept NoF w W0 := by rw [← hW0]; (repeat' (first | with_reducible exact Kept.refl _ _ | with_reducible refine Kept.put ?_ ?_ | with_reducible refine Kept.drewN ?_ _ | with_reducible refine Kept.drew ?_ | with_reducible refine Kept.alloc ?_ _ | (fail) | (right; simp; done)))
  have hn0 : Has W0 w.heap.size 48 (ncell x).toArray := by rw [← hW0]; exact Has.new _ _ _
  have hE : applyE s x = pinE s x.pin := by unfold applyE; rw [if_neg (by simpa using h00), if_neg (by omega), if_neg (by omega), if_neg (by omega), if_pos hk]
  have hfin : ∀ w3 w', Kept NoF w w3 → RPinPost w3 b s mA mc lA lc pA pc x.pin (.returned (.int .i64 (pinE s x.pin))) w' → RApplyPost w b F s x (.returned (.int .i64 (pinE s x.pin))) w' := by
    intro w3 w' hk3 hpost
    have hst := (show RAt w b F s from ⟨mA, mc, lA, lc, pA, pc, hF, hb, hm, hl, hp⟩)
    rcases hpost with ⟨h1, _, h2⟩ | ⟨h1, _, B, d, h2, h3, h4, h5⟩
    · rw [← hE]
      exact RApplyPost.bad hst (by rw [hE]; exact h1) (hk3.then h2)
    · have hS : applyS s x = pinS s x.pin := by unfold applyS; rw [if_neg (by rw [hE, h1]; simp), if_neg (by omega), if_neg (by omega), if_neg (by omega), if_pos hk]
      have hS1 : (pinS s x.pin).ms = s.ms := by unfold pinS; split <;> rfl
      have hS2 : (pinS s x.pin).lg = s.lg := by unfold pinS; split <;> rfl
      have hmb := own_ne hm hb (by decide)
      have hlb := own_ne hl hb (by decide)
      have hsz := hk3.size
      have hF2 : ∀ k, (k = b ∨ RowOf (.slice pA s.pins.length pc) k) → F k := fun k e => (hF k).2 (by rcases e with e | e; exact .inl e; exact .inr (.inr (.inr e)))
      have hmp : ∀ k, RowOf (.slice mA s.ms.length mc) k → ¬ RowOf (.slice pA s.pins.length pc) k := fun k h1 h2 => by
        obtain ⟨cs, h3⟩ := own_has hm h1
        exact own_ne hp h3 (by decide) h2
      have hlp : ∀ k, RowOf (.slice lA s.lg.length lc) k → ¬ RowOf (.slice pA s.pins.length pc) k := fun k h1 h2 => by
        obtain ⟨cs, h3⟩ := own_has hl h1
        exact own_ne hp h3 (by decide) h2
      have hkf := (Kept.up (F := fun k => k = b ∨ RowOf (.slice pA s.pins.length pc) k) hk3).then h5
      refine ⟨fun k => k = b ∨ RowOf (.slice mA s.ms.length mc) k ∨ RowOf (.slice lA s.lg.length lc) k ∨ RowOf (.slice B (pinS s x.pin).pins.length d) k, by rw [hE], ?_, ?_, hkf.mono hF2⟩
      · rw [hS]
        refine ⟨mA, mc, lA, lc, B, d, fun k => by rw [hS1, hS2], h2, ?_, ?_, h3⟩
        · rw [hS1]
          exact own_kept hm hkf (fun g hg e => by rcases e with e | e; exact hmb (by rw [hg, e]); exact hmp g hg e)
        · rw [hS2]
          exact own_kept hl hkf (fun g hg e => by rcases e with e | e; exact hlb (by rw [hg, e]); exact hlp g hg e)
      · rintro k (e | e | e | e)
        · exact .inl ((hF k).2 (.inl e))
        · exact .inl ((hF k).2 (.inr (.inl e)))
        · exact .inl ((hF k).2 (.inr (.inr (.inl e))))
        · rcases h4 k e with h | h
          · exact .inl ((hF k).2 (.inr (.inr (.inr h))))
          · exact .inr (Nat.le_trans hsz h)
  have hcall := fun W (hW : Kept NoF w W) => (rpin_any W b s mA mc lA lc pA pc x.pin (hb.kept hW (fun z => z)) (own_kept hp hW (fun _ _ z => z)) hok.p).mono (fun e w' hp => (show e = .returned (.int .i64 (pinE s x.pin)) ∧ RPinPost W b s mA mc lA lc pA pc x.pin (.returned (.int .i64 (pinE s x.pin))) w' by
    rcases hp with ⟨h1, h2, h3⟩ | ⟨h1, h2, h3⟩
    · exact ⟨h2, .inl ⟨h1, rfl, h3⟩⟩
    · rw [h1]; exact ⟨h2, .inr ⟨h1, rfl, h3⟩⟩))
  obtain ⟨Z, hZ⟩ : ∃ Z, pinE s x.pin = Z := ⟨_, rfl⟩
  rw [hZ] at hfin hcall
  clear hZ
  have HFIN := Lib.hid hfin
  clear hfin hE h0 h00 h hm hl hp hF
  obtain ⟨k, n, at2, ep, mA2, mc2, ms, fl, lA2, lc2, lg, oA, oc, ⟨bcl, breq, ops⟩, ts, ⟨p1, p2, p3⟩, ⟨s1, s2, s3, s4⟩⟩ := x
  simp only [ncell] at hn0 hck hcall
  dsimp only at hk
  subst hk
  have HCK := Lib.hid hck; have HK0 := Lib.hid hk0; have HN0 := Lib.hid hn0; have HB := Lib.hid hb
  have HCALL := Lib.hid hcall
  clear hck hk0 hn0 hb hcall
  go_enter Try.func17, Try.ntmps17
  go_wp2_with (refine wpList_load_row rfl 48 (.tmp 3) rfl w.heap.size rfl 48 _ (0, 0) _ HN0.out Try.underlying48 rfl (by kernel_rfl) ?_)
  clear hW0
  refine (HCK.out _ HK0.out).mono ?_
  rintro e w3 ⟨rfl, hk⟩
  have hn3 := HN0.out.kept hk (fun z => z)
  have q0 : w3.cell? ⟨w.heap.size, 0, none⟩ = some (.int .i64 6) := hn3.cell 0
  have q11 : w3.cell? ⟨w.heap.size, 11, none⟩ = some (.int .i64 p1) := hn3.cell 11
  have q12 : w3.cell? ⟨w.heap.size, 12, none⟩ = some (.int .u64 p2) := hn3.cell 12
  have q13 : w3.cell? ⟨w.heap.size, 13, none⟩ = some (.int .i64 p3) := hn3.cell 13
  have HN3 := Lib.hid hn3
  have HK3 := Lib.hid (HK0.out.then hk); clear hk hn3
  go_wp2_with fail
  refine (HCALL.out _ HK3.out).mono ?_
  rintro e w4 ⟨rfl, hpost⟩
  have HPO := Lib.hid hpost; clear hpost
  go_wp2
  go_ret
  exact HFIN.out _ _ HK3.out HPO.out
set_option maxHeartbeats 2000000 in
theorem rapply4_any (w : World) (b : Nat) (F : Nat → Prop) (s : StR) (x : NoteR) (hs : RAt w b F s) (hok : SOk s) (h : NOk w x) (hcap : x.b.ops.length ≤ x.oc) (h0 : noteE x = 0) (hk : x.k = 4) :
    Calls Try.prog 17 #[.pointer (some ⟨b, 0, none⟩), nagg x] w (RApplyPost w b F s x) := by
  have h00 : noteE x = 0 := h0
  obtain ⟨mA, mc, lA, lc, pA, pc, hF, hb, hm, hl, hp⟩ := hs
  have hck := fun W (hW : Kept NoF w W) => nrcheck_any W x (h.kept hW) hcap
  rw [h00] at hck
  obtain ⟨W0, hW0⟩ : ∃ W0, w.alloc (.cells (ncell x).toArray 48) = W0 := ⟨_, rfl⟩
  have hk0 : Kept NoF w W0 := by rw [← hW0]; (repeat' (first | with_reducible exact Kept.refl _ _ | with_reducible refine Kept.put ?_ ?_ | with_reducible refine Kept.drewN ?_ _ | with_reducible refine Kept.drew ?_ | with_reducible refine Kept.alloc ?_ _ | (fail) | (right; simp; done)))
  have hn0 : Has W0 w.heap.size 48 (ncell x).toArray := by rw [← hW0]; exact Has.new _ _ _
  have hE : applyE s x = if x.at' < s.hz then 18 else 0 := by unfold applyE; rw [if_neg (by simpa using h00), if_neg (by omega), if_neg (by omega), if_pos hk]
  have hfin : (x.at' < s.hz → ∀ w', Kept NoF w w' → RApplyPost w b F s x (.returned (.int .i64 18)) w') ∧ (¬ x.at' < s.hz → ∀ w', Has w' b 57 (rcells { s with hz := x.at' } mA mc lA lc pA pc) → Kept (fun k => k = b) w w' → RApplyPost w b F s x (.returned (.int .i64 0)) w') := by
    refine ⟨fun h1 w' hk' => ?_, fun h1 w' hb' hk' => ?_⟩
    · have hst := (show RAt w b F s from ⟨mA, mc, lA, lc, pA, pc, hF, hb, hm, hl, hp⟩)
      rw [if_pos h1] at hE
      have := RApplyPost.bad hst (by rw [hE]; decide) hk'
      rw [hE] at this
      exact this
    · rw [if_neg h1] at hE
      have hS : applyS s x = { s with hz := x.at' } := by unfold applyS; rw [if_neg (by rw [hE]; decide), if_neg (by omega), if_neg (by omega), if_pos hk]
      refine ⟨F, by rw [hE], ?_, Grows.refl _ _, hk'.mono (fun k e => (hF k).2 (.inl e))⟩
      rw [hS]
      exact RAt.turned hF hb hm hl hp hb' rfl rfl rfl hk'
  have HFIN := Lib.hid hfin
  clear hfin hE h0 h00 h hm hl hp hF
  obtain ⟨k, n, at2, ep, mA2, mc2, ms, fl, lA2, lc2, lg, oA, oc, ⟨bcl, breq, ops⟩, ts, ⟨p1, p2, p3⟩, ⟨s1, s2, s3, s4⟩⟩ := x
  simp only [ncell] at hn0 hck 
  dsimp only at hk
  subst hk
  have HCK := Lib.hid hck; have HK0 := Lib.hid hk0; have HN0 := Lib.hid hn0; have HB := Lib.hid hb

  clear hck hk0 hn0 hb 
  go_enter Try.func17, Try.ntmps17
  go_wp2_with (refine wpList_load_row rfl 48 (.tmp 3) rfl w.heap.size rfl 48 _ (0, 0) _ HN0.out Try.underlying48 rfl (by kernel_rfl) ?_)
  clear hW0
  refine (HCK.out _ HK0.out).mono ?_
  rintro e w3 ⟨rfl, hk⟩
  have hn3 := HN0.out.kept hk (fun z => z)
  have q0 : w3.cell? ⟨w.heap.size, 0, none⟩ = some (.int .i64 4) := hn3.cell 0
  have q2 : w3.cell? ⟨w.heap.size, 2, none⟩ = some (.int .u64 at2) := hn3.cell 2
  have HN3 := Lib.hid hn3
  have HK3 := Lib.hid (HK0.out.then hk); clear hk hn3
  have hb3 := HB.out.kept HK3.out (fun z => z)
  have z4 : w3.cell? ⟨b, 4, none⟩ = some (.int .u64 s.hz) := hb3.cell 4
  have HB3 := Lib.hid hb3; clear hb3
  by_cases hh : at2 < s.hz
  · go_wp2_with fail
    go_quiet (fail)
    go_wp2
    go_ret
    exact HFIN.out.1 hh _ (HK3.out.drewN _)
  · go_wp2_with fail
    go_quiet (fail)
    have y4 : ∀ n, (w3.drewN n).cell? ⟨b, 4, none⟩ = some (.int .u64 s.hz) := fun n => z4
    have y2 : ∀ n, (w3.drewN n).cell? ⟨w.heap.size, 2, none⟩ = some (.int .u64 at2) := fun n => q2
    have f4 : ∀ n, (w3.drewN n).frozen? ⟨b, 4, none⟩ = false := fun n => HB3.out.frozen 4
    go_wp2
    go_ret
    refine HFIN.out.2 hh _ ?_ ?_
    · ((repeat (first | with_reducible exact HB3.out | with_reducible apply Has.put_of | with_reducible apply Has.past | with_reducible apply Has.drewN | with_reducible apply Has.drew | with_reducible apply Has.alloc)) <;> first | omega | rfl)
    · exact ((Kept.up HK3.out).drewN _).put (.inl rfl)
set_option maxHeartbeats 2000000 in
theorem rapply2_any (w : World) (b : Nat) (F : Nat → Prop) (s : StR) (x : NoteR) (hs : RAt w b F s) (hok : SOk s) (h : NOk w x) (hcap : x.b.ops.length ≤ x.oc) (h0 : noteE x = 0) (hk : x.k = 2) :
    Calls Try.prog 17 #[.pointer (some ⟨b, 0, none⟩), nagg x] w (RApplyPost w b F s x) := by
  have h00 : noteE x = 0 := h0
  obtain ⟨mA, mc, lA, lc, pA, pc, hF, hb, hm, hl, hp⟩ := hs
  have hck := fun W (hW : Kept NoF w W) => nrcheck_any W x (h.kept hW) hcap
  rw [h00] at hck
  obtain ⟨W0, hW0⟩ : ∃ W0, w.alloc (.cells (ncell x).toArray 48) = W0 := ⟨_, rfl⟩
  have hk0 : Kept NoF w W0 := by rw [← hW0]; (repeat' (first | with_reducible exact Kept.refl _ _ | with_reducible refine Kept.put ?_ ?_ | with_reducible refine Kept.drewN ?_ _ | with_reducible refine Kept.drew ?_ | with_reducible refine Kept.alloc ?_ _ | (fail) | (right; simp; done)))
  have hn0 : Has W0 w.heap.size 48 (ncell x).toArray := by rw [← hW0]; exact Has.new _ _ _
  have hE : applyE s x = 11 := by unfold applyE; rw [if_neg (by simpa using h00), if_neg (by omega), if_neg (by omega), if_neg (by omega), if_neg (by omega), if_neg (by omega), if_neg (by omega)]
  have hfin : ∀ w', Kept NoF w w' → RApplyPost w b F s x (.returned (.int .i64 11)) w' := by
    intro w' hk'
    have hst := (show RAt w b F s from ⟨mA, mc, lA, lc, pA, pc, hF, hb, hm, hl, hp⟩)
    have := RApplyPost.bad hst (by rw [hE]; decide) hk'
    rw [hE] at this
    exact this
  have HFIN := Lib.hid hfin
  clear hfin hE h0 h00 h hm hl hp hF
  obtain ⟨k, n, at2, ep, mA2, mc2, ms, fl, lA2, lc2, lg, oA, oc, ⟨bcl, breq, ops⟩, ts, ⟨p1, p2, p3⟩, ⟨s1, s2, s3, s4⟩⟩ := x
  simp only [ncell] at hn0 hck 
  dsimp only at hk
  subst hk
  have HCK := Lib.hid hck; have HK0 := Lib.hid hk0; have HN0 := Lib.hid hn0; have HB := Lib.hid hb

  clear hck hk0 hn0 hb 
  go_enter Try.func17, Try.ntmps17
  go_wp2_with (refine wpList_load_row rfl 48 (.tmp 3) rfl w.heap.size rfl 48 _ (0, 0) _ HN0.out Try.underlying48 rfl (by kernel_rfl) ?_)
  clear hW0
  refine (HCK.out _ HK0.out).mono ?_
  rintro e w3 ⟨rfl, hk⟩
  have hn3 := HN0.out.kept hk (fun z => z)
  have q0 : w3.cell? ⟨w.heap.size, 0, none⟩ = some (.int .i64 2) := hn3.cell 0
  have HN3 := Lib.hid hn3
  have HK3 := Lib.hid (HK0.out.then hk); clear hk hn3
  go_wp2
  go_ret
  exact HFIN.out _ HK3.out
set_option maxHeartbeats 2000000 in
theorem rapply3_any (w : World) (b : Nat) (F : Nat → Prop) (s : StR) (x : NoteR) (hs : RAt w b F s) (hok : SOk s) (h : NOk w x) (hcap : x.b.ops.length ≤ x.oc) (h0 : noteE x = 0) (hk : x.k = 3) :
    Calls Try.prog 17 #[.pointer (some ⟨b, 0, none⟩), nagg x] w (RApplyPost w b F s x) := by
  have h00 : noteE x = 0 := h0
  obtain ⟨mA, mc, lA, lc, pA, pc, hF, hb, hm, hl, hp⟩ := hs
  have hck := fun W (hW : Kept NoF w W) => nrcheck_any W x (h.kept hW) hcap
  rw [h00] at hck
  obtain ⟨W0, hW0⟩ : ∃ W0, w.alloc (.cells (ncell x).toArray 48) = W0 := ⟨_, rfl⟩
  have hk0 : Kept NoF w W0 := by rw [← hW0]; (repeat' (first | with_reducible exact Kept.refl _ _ | with_reducible refine Kept.put ?_ ?_ | with_reducible refine Kept.drewN ?_ _ | with_reducible refine Kept.drew ?_ | with_reducible refine Kept.alloc ?_ _ | (fail) | (right; simp; done)))
  have hn0 : Has W0 w.heap.size 48 (ncell x).toArray := by rw [← hW0]; exact Has.new _ _ _
  have hE : applyE s x = 11 := by unfold applyE; rw [if_neg (by simpa using h00), if_neg (by omega), if_neg (by omega), if_neg (by omega), if_neg (by omega), if_neg (by omega), if_neg (by omega)]
  have hfin : ∀ w', Kept NoF w w' → RApplyPost w b F s x (.returned (.int .i64 11)) w' := by
    intro w' hk'
    have hst := (show RAt w b F s from ⟨mA, mc, lA, lc, pA, pc, hF, hb, hm, hl, hp⟩)
    have := RApplyPost.bad hst (by rw [hE]; decide) hk'
    rw [hE] at this
    exact this
  have HFIN := Lib.hid hfin
  clear hfin hE h0 h00 h hm hl hp hF
  obtain ⟨k, n, at2, ep, mA2, mc2, ms, fl, lA2, lc2, lg, oA, oc, ⟨bcl, breq, ops⟩, ts, ⟨p1, p2, p3⟩, ⟨s1, s2, s3, s4⟩⟩ := x
  simp only [ncell] at hn0 hck 
  dsimp only at hk
  subst hk
  have HCK := Lib.hid hck; have HK0 := Lib.hid hk0; have HN0 := Lib.hid hn0; have HB := Lib.hid hb

  clear hck hk0 hn0 hb 
  go_enter Try.func17, Try.ntmps17
  go_wp2_with (refine wpList_load_row rfl 48 (.tmp 3) rfl w.heap.size rfl 48 _ (0, 0) _ HN0.out Try.underlying48 rfl (by kernel_rfl) ?_)
  clear hW0
  refine (HCK.out _ HK0.out).mono ?_
  rintro e w3 ⟨rfl, hk⟩
  have hn3 := HN0.out.kept hk (fun z => z)
  have q0 : w3.cell? ⟨w.heap.size, 0, none⟩ = some (.int .i64 3) := hn3.cell 0
  have HN3 := Lib.hid hn3
  have HK3 := Lib.hid (HK0.out.then hk); clear hk hn3
  go_wp2
  go_ret
  exact HFIN.out _ HK3.out
set_option maxHeartbeats 2000000 in
theorem rapply7a_any (w : World) (b : Nat) (F : Nat → Prop) (s : StR) (x : NoteR) (hs : RAt w b F s) (hok : SOk s) (h : NOk w x) (hcap : x.b.ops.length ≤ x.oc) (h0 : noteE x = 0) (hk : x.k = 7) (hc : pinAt s.pins x.n < 0) :
    Calls Try.prog 17 #[.pointer (some ⟨b, 0, none⟩), nagg x] w (RApplyPost w b F s x) := by
  have h00 : noteE x = 0 := h0
  obtain ⟨mA, mc, lA, lc, pA, pc, hF, hb, hm, hl, hp⟩ := hs
  have hck := fun W (hW : Kept NoF w W) => nrcheck_any W x (h.kept hW) hcap
  rw [h00] at hck
  obtain ⟨W0, hW0⟩ : ∃ W0, w.alloc (.cells (ncell x).toArray 48) = W0 := ⟨_, rfl⟩
  have hk0 : Kept NoF w W0 := by rw [← hW0]; (repeat' (first | with_reducible exact Kept.refl _ _ | with_reducible refine Kept.put ?_ ?_ | with_reducible refine Kept.drewN ?_ _ | with_reducible refine Kept.drew ?_ | with_reducible refine Kept.alloc ?_ _ | (fail) | (right; simp; done)))
  have hn0 : Has W0 w.heap.size 48 (ncell x).toArray := by rw [← hW0]; exact Has.new _ _ _
  have hE : applyE s x = 0 := by unfold applyE; rw [if_neg (by simpa using h00), if_neg (by omega), if_neg (by omega), if_neg (by omega), if_neg (by omega), if_pos hk]
  have hS0 : applyS s x = { s with pins := freed s.pins x.n, top := max s.top x.n } := by unfold applyS; rw [if_neg (by rw [hE]; decide), if_neg (by omega), if_neg (by omega), if_neg (by omega), if_neg (by omega), if_pos hk]
  have hfin : ∀ w', Has w' b 57 (rcells { s with top := max s.top x.n } mA mc lA lc pA pc) → Kept (fun k => k = b) w w' → RApplyPost w b F s x (.returned (.int .i64 0)) w' := by
    intro w' hb' hk'
    have hS : applyS s x = { s with top := max s.top x.n } := by rw [hS0, freed, if_pos hc]
    refine ⟨F, by rw [hE], ?_, Grows.refl _ _, hk'.mono (fun k e => (hF k).2 (.inl e))⟩
    rw [hS]
    exact RAt.turned hF hb hm hl hp hb' rfl rfl rfl hk'
  have hcall := fun W (hW : Kept NoF w W) => (rfree_any W pA pc s.pins x.n (Src.of_own (own_kept hp hW (fun _ _ z => z))) (own_cap hp).1 (by have := hok.p; omega)).mono (fun e w' hp => (show e = .returned (.tuple #[.slice none 0 0, .int .i64 7]) ∧ Kept NoF W w' by
    rcases hp with ⟨h1, h2, h3⟩ | ⟨h1, h2⟩
    · exact ⟨h2, h3⟩
    · omega))
  have HFIN := Lib.hid hfin
  clear hfin hE h0 h00 h hm hl hp hF
  obtain ⟨k, n, at2, ep, mA2, mc2, ms, fl, lA2, lc2, lg, oA, oc, ⟨bcl, breq, ops⟩, ts, ⟨p1, p2, p3⟩, ⟨s1, s2, s3, s4⟩⟩ := x
  simp only [ncell] at hn0 hck hcall
  dsimp only at hk
  subst hk
  have HCK := Lib.hid hck; have HK0 := Lib.hid hk0; have HN0 := Lib.hid hn0; have HB := Lib.hid hb
  have HCALL := Lib.hid hcall
  have HLT : Hid (b ≠ w.heap.size) := Lib.hid (fun e => Nat.lt_irrefl _ (e ▸ hb.lt))
  clear hck hk0 hn0 hb hcall hc
  go_enter Try.func17, Try.ntmps17
  go_wp2_with (refine wpList_load_row rfl 48 (.tmp 3) rfl w.heap.size rfl 48 _ (0, 0) _ HN0.out Try.underlying48 rfl (by kernel_rfl) ?_)
  clear hW0
  refine (HCK.out _ HK0.out).mono ?_
  rintro e w3 ⟨rfl, hk⟩
  have hn3 := HN0.out.kept hk (fun z => z)
  have q0 : w3.cell? ⟨w.heap.size, 0, none⟩ = some (.int .i64 7) := hn3.cell 0
  have HN3 := Lib.hid hn3
  have HK3 := Lib.hid (HK0.out.then hk); clear hk hn3
  have hce : ∀ W, Kept NoF w3 W → W.cell? ⟨w.heap.size, 1, none⟩ = some (.int .i64 n) ∧ W.cell? ⟨b, 5, none⟩ = some (.slice pA s.pins.length pc) ∧ W.cell? ⟨b, 6, none⟩ = some (.int .i64 s.top) := fun W hW => by
    have g1 := HN3.out.kept hW (fun z => z)
    have g2 := HB.out.kept (HK3.out.then hW) (fun z => z)
    exact ⟨g1.cell 1, g2.cell 5, g2.cell 6⟩
  have HCE := Lib.hid hce; clear hce
  have HS := Lib.hid (Kept.refl NoF w3)
  obtain ⟨z1, z5, z6⟩ := HCE.out w3 (Kept.refl _ _)
  go_wp2_with fail
  go_region_held3 (fun W => W.cell? ⟨w.heap.size, 1, none⟩ = some (.int .i64 n) ∧ W.cell? ⟨b, 5, none⟩ = some (.slice pA s.pins.length pc) ∧ W.cell? ⟨b, 6, none⟩ = some (.int .i64 s.top))
    (first | with_reducible exact HCE.out _ HS.out | exact HCE.out _ HS.out.drew | (simp [go_sem, z1, z5, z6]; done))
    (first
      | (go_at_call 38; ((with_reducible refine (HCALL.out _ ?_).mono ?_); exact HK3.out.then (by (repeat' (first | with_reducible exact Kept.refl _ _ | with_reducible refine Kept.put ?_ ?_ | with_reducible refine Kept.drewN ?_ _ | with_reducible refine Kept.drew ?_ | with_reducible refine Kept.alloc ?_ _ | (exact HS.out) | (right; simp; done)))); rintro e w5 ⟨rfl, hk0⟩; have hk := Kept.then (F := NoF) (a := w3) (by (repeat' (first | with_reducible exact Kept.refl _ _ | with_reducible refine Kept.put ?_ ?_ | with_reducible refine Kept.drewN ?_ _ | with_reducible refine Kept.drew ?_ | with_reducible refine Kept.alloc ?_ _ | (exact HS.out) | (right; simp; done)))) hk0; clear HS hk0; have HS := Lib.hid hk; clear hk)))
  clear z1 z5 z6
  have hb5 := HB.out.kept (HK3.out.then HS.out) (fun z => z)
  have z6 : w5.cell? ⟨b, 6, none⟩ = some (.int .i64 s.top) := hb5.cell 6
  have f6 := hb5.frozen 6
  have q1 : w5.cell? ⟨w.heap.size, 1, none⟩ = some (.int .i64 n) := (HCE.out _ HS.out).1
  have hmax := fun W ts t => max_i s.top n _ rfl W ts t
  have HB5 := Lib.hid hb5; clear hb5
  go_wp2_with fail
  refine wp_region_still_tail 10 (by kernel_rfl) (by kernel_rfl) ?_
  simp only [List.take_succ_cons, List.take_zero, List.drop_succ_cons, List.drop_zero]
  change wpStill _ _ (World.drew w5) _ _ _
  repeat still_step
  refine wpStill_nil ?_
  change wpList _ _ _ _ _ (World.drew w5)
  go_wp2
  go_ret
  refine HFIN.out _ ?_ ?_
  · ((repeat (first | with_reducible exact HB5.out | with_reducible apply Has.put_of | with_reducible apply Has.past | with_reducible apply Has.drewN | with_reducible apply Has.drew | with_reducible apply Has.alloc)) <;> first | omega | rfl)
  · exact ((Kept.up (HK3.out.then HS.out)).drew).put (.inl rfl)
set_option maxHeartbeats 2000000 in
theorem rapply7b_any (w : World) (b : Nat) (F : Nat → Prop) (s : StR) (x : NoteR) (hs : RAt w b F s) (hok : SOk s) (h : NOk w x) (hcap : x.b.ops.length ≤ x.oc) (h0 : noteE x = 0) (hk : x.k = 7) (hc : 0 ≤ pinAt s.pins x.n) :
    Calls Try.prog 17 #[.pointer (some ⟨b, 0, none⟩), nagg x] w (RApplyPost w b F s x) := by
  have h00 : noteE x = 0 := h0
  obtain ⟨mA, mc, lA, lc, pA, pc, hF, hb, hm, hl, hp⟩ := hs
  have hck := fun W (hW : Kept NoF w W) => nrcheck_any W x (h.kept hW) hcap
  rw [h00] at hck
  obtain ⟨W0, hW0⟩ : ∃ W0, w.alloc (.cells (ncell x).toArray 48) = W0 := ⟨_, rfl⟩
  have hk0 : Kept NoF w W0 := by rw [← hW0]; (repeat' (first | with_reducible exact Kept.refl _ _ | with_reducible refine Kept.put ?_ ?_ | with_reducible refine Kept.drewN ?_ _ | with_reducible refine Kept.drew ?_ | with_reducible refine Kept.alloc ?_ _ | (fail) | (right; simp; done)))
  have hn0 : Has W0 w.heap.size 48 (ncell x).toArray := by rw [← hW0]; exact Has.new _ _ _
  have hE : applyE s x = 0 := by unfold applyE; rw [if_neg (by simpa using h00), if_neg (by omega), if_neg (by omega), if_neg (by omega), if_neg (by omega), if_pos hk]
  have hS0 : applyS s x = { s with pins := freed s.pins x.n, top := max s.top x.n } := by unfold applyS; rw [if_neg (by rw [hE]; decide), if_neg (by omega), if_neg (by omega), if_neg (by omega), if_neg (by omega), if_pos hk]
  have hfin : ∀ w3 w5 w' A c, Kept NoF w w3 → Kept NoF w3 w5 → Has w' b 57 (rcells { s with pins := freed s.pins x.n, top := max s.top x.n } mA mc lA lc A c) → NewSl 44 3 w3.heap.size w5 A (freed s.pins x.n).length c (pcells (freed s.pins x.n)) → Kept (fun k => k = b) w5 w' → RApplyPost w b F s x (.returned (.int .i64 0)) w' := by
    intro w3 w5 w' A c hk3 hk5 hb' hn hk'
    have h1 := own_ne hm hb (by decide)
    have h2 := own_ne hl hb (by decide)
    have hb5 := hb.kept (hk3.then hk5) (fun z => z)
    have h3 := own_ne hn.1 hb5 (by decide)
    have hkf := (Kept.up (F := fun k => k = b) (hk3.then hk5)).then hk'
    have hsz := hk3.size
    refine ⟨fun k => k = b ∨ RowOf (.slice mA s.ms.length mc) k ∨ RowOf (.slice lA s.lg.length lc) k ∨ RowOf (.slice A (freed s.pins x.n).length c) k, by rw [hE], ?_, ?_, hkf.mono (fun k e => (hF k).2 (.inl e))⟩
    · rw [hS0]
      exact ⟨mA, mc, lA, lc, A, c, fun k => Iff.rfl, hb', own_kept hm hkf (fun g hg e => h1 (by rw [hg, e])), own_kept hl hkf (fun g hg e => h2 (by rw [hg, e])), own_kept hn.1 hk' (fun g hg e => h3 (by rw [hg, e]))⟩
    · rintro k (e | e | e | e)
      · exact .inl ((hF k).2 (.inl e))
      · exact .inl ((hF k).2 (.inr (.inl e)))
      · exact .inl ((hF k).2 (.inr (.inr (.inl e))))
      · exact .inr (Nat.le_trans hsz (hn.2 k e))
  have hcall := fun W (hW : Kept NoF w W) => (rfree_any W pA pc s.pins x.n (Src.of_own (own_kept hp hW (fun _ _ z => z))) (own_cap hp).1 (by have := hok.p; omega)).mono (fun e w' hp => (show ∃ A c, e = .returned (.tuple #[.slice A (freed s.pins x.n).length c, .int .i64 0]) ∧ NewSl 44 3 W.heap.size w' A (freed s.pins x.n).length c (pcells (freed s.pins x.n)) ∧ Kept NoF W w' by
    rcases hp with ⟨h1, h2, h3⟩ | ⟨h1, h2⟩
    · omega
    · exact h2))
  have HFIN := Lib.hid hfin
  clear hfin hE h0 h00 h hm hl hp hF
  obtain ⟨k, n, at2, ep, mA2, mc2, ms, fl, lA2, lc2, lg, oA, oc, ⟨bcl, breq, ops⟩, ts, ⟨p1, p2, p3⟩, ⟨s1, s2, s3, s4⟩⟩ := x
  simp only [ncell] at hn0 hck hcall
  dsimp only at hk
  subst hk
  have HCK := Lib.hid hck; have HK0 := Lib.hid hk0; have HN0 := Lib.hid hn0; have HB := Lib.hid hb
  have HCALL := Lib.hid hcall
  have HLT : Hid (b ≠ w.heap.size) := Lib.hid (fun e => Nat.lt_irrefl _ (e ▸ hb.lt))
  clear hck hk0 hn0 hb hcall hc
  go_enter Try.func17, Try.ntmps17
  go_wp2_with (refine wpList_load_row rfl 48 (.tmp 3) rfl w.heap.size rfl 48 _ (0, 0) _ HN0.out Try.underlying48 rfl (by kernel_rfl) ?_)
  clear hW0
  refine (HCK.out _ HK0.out).mono ?_
  rintro e w3 ⟨rfl, hk⟩
  have hn3 := HN0.out.kept hk (fun z => z)
  have q0 : w3.cell? ⟨w.heap.size, 0, none⟩ = some (.int .i64 7) := hn3.cell 0
  have HN3 := Lib.hid hn3
  have HK3 := Lib.hid (HK0.out.then hk); clear hk hn3
  have hce : ∀ W, Kept NoF w3 W → W.cell? ⟨w.heap.size, 1, none⟩ = some (.int .i64 n) ∧ W.cell? ⟨b, 5, none⟩ = some (.slice pA s.pins.length pc) ∧ W.cell? ⟨b, 6, none⟩ = some (.int .i64 s.top) := fun W hW => by
    have g1 := HN3.out.kept hW (fun z => z)
    have g2 := HB.out.kept (HK3.out.then hW) (fun z => z)
    exact ⟨g1.cell 1, g2.cell 5, g2.cell 6⟩
  have HCE := Lib.hid hce; clear hce
  have HS := Lib.hid (Kept.refl NoF w3)
  obtain ⟨z1, z5, z6⟩ := HCE.out w3 (Kept.refl _ _)
  go_wp2_with fail
  go_region_held3 (fun W => W.cell? ⟨w.heap.size, 1, none⟩ = some (.int .i64 n) ∧ W.cell? ⟨b, 5, none⟩ = some (.slice pA s.pins.length pc) ∧ W.cell? ⟨b, 6, none⟩ = some (.int .i64 s.top))
    (first | with_reducible exact HCE.out _ HS.out | exact HCE.out _ HS.out.drew | (simp [go_sem, z1, z5, z6]; done))
    (first
      | (go_at_call 38; ((with_reducible refine (HCALL.out _ ?_).mono ?_); exact HK3.out.then (by (repeat' (first | with_reducible exact Kept.refl _ _ | with_reducible refine Kept.put ?_ ?_ | with_reducible refine Kept.drewN ?_ _ | with_reducible refine Kept.drew ?_ | with_reducible refine Kept.alloc ?_ _ | (exact HS.out) | (right; simp; done)))); rintro e w5 ⟨A5, c5, rfl, hn5, hk0⟩; have hk := Kept.then (F := NoF) (a := w3) (by (repeat' (first | with_reducible exact Kept.refl _ _ | with_reducible refine Kept.put ?_ ?_ | with_reducible refine Kept.drewN ?_ _ | with_reducible refine Kept.drew ?_ | with_reducible refine Kept.alloc ?_ _ | (exact HS.out) | (right; simp; done)))) hk0; have HN5 := Lib.hid (And.intro hn5 HS.out.size); clear HS hk0 hn5; have HS := Lib.hid hk; clear hk)))
  clear z1 z5 z6
  have hb5 := HB.out.kept (HK3.out.then HS.out) (fun z => z)
  have z5 : w5.cell? ⟨b, 5, none⟩ = some (.slice pA s.pins.length pc) := hb5.cell 5
  have f5 := hb5.frozen 5
  have HB5 := Lib.hid hb5; clear hb5
  obtain ⟨w6, hw6⟩ : ∃ w6, w5.setCell ⟨b, 5, none⟩ (.slice A5 (freed s.pins n).length c5) = w6 := ⟨_, rfl⟩
  have hb6 := HB5.out.put 5 (.slice A5 (freed s.pins n).length c5)
  have hk6 : Kept (fun k => k = b) w5 w6 := by rw [← hw6]; exact (Kept.refl (fun k => k = b) w5).put (.inl rfl)
  rw [hw6] at hb6
  have z6 : w6.cell? ⟨b, 6, none⟩ = some (.int .i64 s.top) := hb6.cell 6
  have f6 := hb6.frozen 6
  have q1 : w6.cell? ⟨w.heap.size, 1, none⟩ = some (.int .i64 n) := ((HN3.out.kept HS.out (fun z => z)).kept hk6 (fun e => HLT.out e.symm)).cell 1
  have hmax := fun W ts t => max_i s.top n _ rfl W ts t
  have HB6 := Lib.hid (And.intro hb6 hk6); clear hb6 hk6
  go_wp2_with fail
  clear hw6 z5 f5
  refine wp_region_still_tail 10 (by kernel_rfl) (by kernel_rfl) ?_
  simp only [List.take_succ_cons, List.take_zero, List.drop_succ_cons, List.drop_zero]
  change wpStill _ _ (World.drew w6) _ _ _
  repeat still_step
  refine wpStill_nil ?_
  change wpList _ _ _ _ _ (World.drew w6)
  go_wp2
  go_ret
  refine HFIN.out _ _ _ A5 c5 HK3.out HS.out ?_ ?_ ?_
  · ((repeat (first | with_reducible exact HB6.out.1 | with_reducible apply Has.put_of | with_reducible apply Has.past | with_reducible apply Has.drewN | with_reducible apply Has.drew | with_reducible apply Has.alloc)) <;> first | omega | rfl)
  · exact ⟨HN5.out.1.1, fun k hk => Nat.le_trans HN5.out.2 (HN5.out.1.2 k hk)⟩
  · exact (HB6.out.2.drew).put (.inl rfl)
end Mst
end Go.Proofs.Ytolipnnjeehnfaa
/- The document's state: NLegit, NSaid; all kinds of notes. -/
namespace Go.Proofs.Ytolipnnjeehnfaa
open Go.RowKit
set_option maxRecDepth 100000
namespace Mst
open Plan Vn Go.Sort
theorem rise_eq : ∀ (a b : List Int), a.Pairwise (· < ·) → b.Pairwise (· < ·) → (∀ x, x ∈ a ↔ x ∈ b) → a = b
  | [], [], _, _, _ => rfl
  | [], y :: b, _, _, h => absurd ((h y).2 (List.mem_cons_self ..)) (by simp)
  | x :: a, [], _, _, h => absurd ((h x).1 (List.mem_cons_self ..)) (by simp)
  | x :: a, y :: b, ha, hb, h => by
    rw [List.pairwise_cons] at ha hb
    have hxy : x = y := by
      rcases List.mem_cons.1 ((h x).1 (List.mem_cons_self ..)) with e | e
      · exact e
      · rcases List.mem_cons.1 ((h y).2 (List.mem_cons_self ..)) with e2 | e2
        · exact e2.symm
        · have := hb.1 x e; have := ha.1 y e2; omega
    subst hxy
    rw [rise_eq a b ha.2 hb.2 (fun z => ?_)]
    constructor
    · intro hz
      rcases List.mem_cons.1 ((h z).1 (List.mem_cons_of_mem _ hz)) with e | e
      · subst e; have := ha.1 z hz; omega
      · exact e
    · intro hz
      rcases List.mem_cons.1 ((h z).2 (List.mem_cons_of_mem _ hz)) with e | e
      · subst e; have := hb.1 z hz; omega
      · exact e
def four : List Int := [0, 1, 2, 3]
def trustF (l : List Int) (n : Int) (i : Nat) : List Int := (four.take i).filter fun y => decide (y = n) || inB l y
theorem trustF_all {l : List Int} {n : Int} (hl : legE l = 0) (hn : 0 ≤ n ∧ n < 4) : trustF l n 4 = trustL l n := by
  refine rise_eq _ _ ?_ (legE_zero.1 (legE_trust hl hn)).2 (fun x => ?_)
  · unfold trustF
    exact List.Pairwise.sublist List.filter_sublist (by decide)
  · rw [mem_trust]
    unfold trustF
    rw [List.mem_filter, Bool.or_eq_true, decide_eq_true_eq, inB_iff]
    constructor
    · rintro ⟨_, h | h⟩
      · exact .inr h
      · exact .inl h
    · intro h
      have hx : 0 ≤ x ∧ x < 4 := by
        rcases h with h | h
        · exact (legE_zero.1 hl).1 x h
        · rw [h]; exact hn
      refine ⟨?_, h.symm⟩
      have : x = 0 ∨ x = 1 ∨ x = 2 ∨ x = 3 := by omega
      rcases this with rfl | rfl | rfl | rfl <;> decide
theorem four_at {i : Nat} (h : i < 4) : four[i]? = some (i : Int) := by
  have : i = 0 ∨ i = 1 ∨ i = 2 ∨ i = 3 := by omega
  rcases this with rfl | rfl | rfl | rfl <;> rfl
theorem trustF_step (l : List Int) (n : Int) {i : Nat} (h : i < 4) : trustF l n (i + 1) = if (decide ((i : Int) = n) || inB l i) = true then trustF l n i ++ [(i : Int)] else trustF l n i := by
  unfold trustF
  rw [take_snoc (four_at h), List.filter_append, List.filter_cons]
  split <;> simp
theorem trustF_len (l : List Int) (n : Int) (i : Nat) : (trustF l n i).length ≤ 4 := by
  unfold trustF
  refine Nat.le_trans (List.length_filter_le ..) ?_
  rw [List.length_take]
  exact Nat.min_le_right _ _
set_option maxHeartbeats 4000000 in
theorem rapply5_any (w : World) (b : Nat) (F : Nat → Prop) (s : StR) (x : NoteR) (hs : RAt w b F s) (hok : SOk s) (h : NOk w x) (hcap : x.b.ops.length ≤ x.oc) (h0 : noteE x = 0) (hinv : Inv s) (hk : x.k = 5) :
    Calls Try.prog 17 #[.pointer (some ⟨b, 0, none⟩), nagg x] w (RApplyPost w b F s x) := by
  have h00 : noteE x = 0 := h0
  obtain ⟨mA, mc, lA, lc, pA, pc, hF, hb, hm, hl, hp⟩ := hs
  have hck := fun W (hW : Kept NoF w W) => nrcheck_any W x (h.kept hW) hcap
  rw [h00] at hck
  obtain ⟨W0, hW0⟩ : ∃ W0, w.alloc (.cells (ncell x).toArray 48) = W0 := ⟨_, rfl⟩
  have hk0 : Kept NoF w W0 := by rw [← hW0]; (repeat' (first | with_reducible exact Kept.refl _ _ | with_reducible refine Kept.put ?_ ?_ | with_reducible refine Kept.drewN ?_ _ | with_reducible refine Kept.drew ?_ | with_reducible refine Kept.alloc ?_ _ | (fail) | (right; simp; done)))
  have hn0 : Has W0 w.heap.size 48 (ncell x).toArray := by rw [← hW0]; exact Has.new _ _ _
  have hE : applyE s x = if anyId s.ms x.n = true then 0 else 7 := by unfold applyE; rw [if_neg (by simpa using h00), if_neg (by omega), if_pos hk]
  have hbad : anyId s.ms x.n = false → ∀ w', Kept NoF w w' → RApplyPost w b F s x (.returned (.int .i64 7)) w' := fun h1 w' hk' => by
    rw [h1, if_neg (by simp)] at hE
    have := RApplyPost.bad (w' := w') (show RAt w b F s from ⟨mA, mc, lA, lc, pA, pc, hF, hb, hm, hl, hp⟩) (by rw [hE]; decide) hk'
    rw [hE] at this
    exact this
  have hgood : anyId s.ms x.n = true → ∀ w3 w' B d, Kept NoF w w3 → Has w' b 57 (rcells { s with lg := trustL s.lg x.n } mA mc B d pA pc) → w3.ownsRow 0 3 1 (.slice B (trustL s.lg x.n).length d) (trustL s.lg x.n).length (ints (trustL s.lg x.n)) → (∀ k, RowOf (.slice B (trustL s.lg x.n).length d) k → w.heap.size ≤ k) → Kept (fun k => k = b) w3 w' → RApplyPost w b F s x (.returned (.int .i64 0)) w' := fun h1 w3 w' B d hk3 h2 h3 h4 h5 => by
    rw [h1, if_pos rfl] at hE
    have hS : applyS s x = { s with lg := trustL s.lg x.n } := by unfold applyS; rw [if_neg (by rw [hE]; decide), if_neg (by omega), if_pos hk]
    have hmb := own_ne hm hb (by decide)
    have hpb := own_ne hp hb (by decide)
    have hlb := own_ne h3 (hb.kept hk3 (fun z => z)) (by decide)
    have hkf := (Kept.up (F := fun k => k = b) hk3).then h5
    refine ⟨fun k => k = b ∨ RowOf (.slice mA s.ms.length mc) k ∨ RowOf (.slice B (trustL s.lg x.n).length d) k ∨ RowOf (.slice pA s.pins.length pc) k, by rw [hE], ?_, ?_, hkf.mono (fun k e => (hF k).2 (.inl e))⟩
    · rw [hS]
      exact ⟨mA, mc, B, d, pA, pc, fun k => Iff.rfl, h2, own_kept hm hkf (fun g hg e => hmb (by rw [hg, e])), own_kept h3 h5 (fun g hg e => hlb (by rw [hg, e])), own_kept hp hkf (fun g hg e => hpb (by rw [hg, e]))⟩
    · rintro k (e | e | e | e)
      · exact .inl ((hF k).2 (.inl e))
      · exact .inl ((hF k).2 (.inr (.inl e)))
      · exact .inr (h4 k e)
      · exact .inl ((hF k).2 (.inr (.inr (.inr e))))
  have htr : anyId s.ms x.n = true → trustF s.lg x.n 4 = trustL s.lg x.n := fun h1 => by
    rcases hinv.conf with ⟨_, c1, _⟩ | ⟨c1, c2, _⟩
    · rw [c1] at h1; simp [anyId] at h1
    · exact trustF_all c2 (member_range c1 h1)
  have hmem := fun W (hW : Kept NoF w W) => rmember_any W s.ep s.fl mA mc s.ms x.n ((Src.of_own hm).kept hW (fun _ _ z => z)) (by have := hok.m; omega)
  have hin := fun W y (hW : Kept NoF w W) => in_any W lA lc s.lg y ((Src.of_own hl).kept hW (fun _ _ z => z)) (by have := hok.l; omega)
  obtain ⟨ay, hay⟩ : ∃ ay, anyId s.ms x.n = ay := ⟨_, rfl⟩
  rw [hay] at hbad hgood htr hmem
  have HBAD := Lib.hid hbad; have HGOOD := Lib.hid hgood; have HTR := Lib.hid htr
  have HLT := Lib.hid hb.lt
  clear hbad hgood htr hE h0 h00 h hm hl hp hF hinv hok hay hcap
  obtain ⟨k, n, at2, ep, mA2, mc2, ms, fl, lA2, lc2, lg, oA, oc, ⟨bcl, breq, ops⟩, ts, ⟨p1, p2, p3⟩, ⟨s1, s2, s3, s4⟩⟩ := x
  simp only [ncell] at hn0 hck hmem
  dsimp only at hk
  subst hk
  have HCK := Lib.hid hck; have HK0 := Lib.hid hk0; have HN0 := Lib.hid hn0; have HB := Lib.hid hb
  have HMEM := Lib.hid hmem; have HIN := Lib.hid hin
  clear hck hk0 hn0 hb hmem hin
  go_enter Try.func17, Try.ntmps17
  go_wp2_with (refine wpList_load_row rfl 48 (.tmp 3) rfl w.heap.size rfl 48 _ (0, 0) _ HN0.out Try.underlying48 rfl (by kernel_rfl) ?_)
  clear hW0
  refine (HCK.out _ HK0.out).mono ?_
  rintro e w3 ⟨rfl, hk⟩
  have hn3 := HN0.out.kept hk (fun z => z)
  have HK3 := Lib.hid (HK0.out.then hk)
  have HN3 := Lib.hid hn3
  clear hk hn3
  have hce : ∀ W, Kept NoF w3 W → W.cell? ⟨w.heap.size, 0, none⟩ = some (.int .i64 5) ∧ W.cell? ⟨w.heap.size, 1, none⟩ = some (.int .i64 n) ∧ W.cell? ⟨b, 0, none⟩ = some (.int .i64 s.ep) ∧ W.cell? ⟨b, 1, none⟩ = some (.slice mA s.ms.length mc) ∧ W.cell? ⟨b, 2, none⟩ = some (.int .u64 s.fl) ∧ W.cell? ⟨b, 3, none⟩ = some (.slice lA s.lg.length lc) ∧ W.frozen? ⟨b, 3, none⟩ = false := fun W hW => by
    have g1 := HN3.out.kept hW (fun z => z)
    have g2 := HB.out.kept (HK3.out.then hW) (fun z => z)
    exact ⟨g1.cell 0, g1.cell 1, g2.cell 0, g2.cell 1, g2.cell 2, g2.cell 3, g2.frozen 3⟩
  have HCE := Lib.hid hce; clear hce
  obtain ⟨q0, q1, z0, z1, z2, z3, zf⟩ := HCE.out w3 (Kept.refl _ _)
  go_wp2_with fail
  have HS := Lib.hid (Kept.refl NoF w3)
  go_region_held3 (fun W => W.cell? ⟨w.heap.size, 0, none⟩ = some (.int .i64 5) ∧ W.cell? ⟨w.heap.size, 1, none⟩ = some (.int .i64 n) ∧ W.cell? ⟨b, 0, none⟩ = some (.int .i64 s.ep) ∧ W.cell? ⟨b, 1, none⟩ = some (.slice mA s.ms.length mc) ∧ W.cell? ⟨b, 2, none⟩ = some (.int .u64 s.fl) ∧ W.cell? ⟨b, 3, none⟩ = some (.slice lA s.lg.length lc) ∧ W.frozen? ⟨b, 3, none⟩ = false)
    (first | with_reducible exact HCE.out _ HS.out | exact HCE.out _ HS.out.drew | (simp [go_sem, q0, q1, z0, z1, z2, z3, zf]; done))
    (first
      | (go_at_call 36; ((with_reducible refine (HMEM.out _ ?_).mono ?_); exact HK3.out.then (by (repeat' (first | with_reducible exact Kept.refl _ _ | with_reducible refine Kept.put ?_ ?_ | with_reducible refine Kept.drewN ?_ _ | with_reducible refine Kept.drew ?_ | with_reducible refine Kept.alloc ?_ _ | (exact HS.out) | (right; simp; done)))); rintro e w4 ⟨rfl, hk0⟩; have hk := Kept.then (F := NoF) (a := w3) (by (repeat' (first | with_reducible exact Kept.refl _ _ | with_reducible refine Kept.put ?_ ?_ | with_reducible refine Kept.drewN ?_ _ | with_reducible refine Kept.drew ?_ | with_reducible refine Kept.alloc ?_ _ | (exact HS.out) | (right; simp; done)))) hk0; clear HS hk0; have HS := Lib.hid hk; clear hk)))
  clear q0 q1 z0 z1 z2 z3 zf
  cases ay
  · go_wp2
    go_ret
    exact HBAD.out trivial _ (HK3.out.then HS.out)
  · go_wp2_with fail
    go_loopw [6, 7] (fun v6 v7 wr => ∃ (i : Nat) (A : Option Addr) (c : Nat), i ≤ 4 ∧ v7 = .int .i64 i ∧ v6 = .slice A (trustF s.lg n i).length c ∧ wr.ownsRow 0 3 1 (.slice A (trustF s.lg n i).length c) (trustF s.lg n i).length (ints (trustF s.lg n i)) ∧ (∀ k, RowOf (.slice A (trustF s.lg n i).length c) k → w3.heap.size ≤ k) ∧ Kept NoF w3 wr) (fun _ v7 _ => 4 - (intOf v7).toNat)
    case atStart => exact ⟨0, none, 0, Nat.zero_le _, rfl, rfl, ⟨rfl, .inl ⟨rfl, rfl⟩⟩, (fun k hk => by cases hk), HS.out⟩
    case round =>
      obtain ⟨i, A, c, hi, rfl, rfl, ho, hnew, hk⟩ := hrel
      have HO := Lib.hid (And.intro ho hnew); have HK := Lib.hid hk; clear ho hnew hk HS
      by_cases hi4 : i < 4
      · have hst := trustF_step s.lg n hi4
        have hlen := trustF_len s.lg n i
        obtain ⟨q0, q1, z0, z1, z2, z3, zf⟩ := HCE.out wr HK.out
        have hm1 : (trustF s.lg n i).length + 1 ≤ maxLen := by unfold maxLen; omega
        have hm2 : ((trustF s.lg n i).length + 1) * 8 ≤ 140737488355328 := by omega
        have HM1 := Lib.hid hm1; have HM2 := Lib.hid hm2; clear hm1 hm2
        have hwk : w3.heap.size ≤ wr.heap.size := HK.out.size
        have HWK := Lib.hid hwk; clear hwk
        obtain ⟨L, hL⟩ : ∃ L, trustF s.lg n i = L := ⟨_, rfl⟩
        rw [hL] at HO HM1 HM2 hst hlen
        simp only [hL]
        clear hL
        have hi40 : (i : Int) < 4 := by omega
        have hin4 := fun W (hW : Kept NoF w3 W) => HIN.out W (i : Int) (HK3.out.then hW)
        obtain ⟨bi, hbi⟩ : ∃ bi, inB s.lg (i : Int) = bi := ⟨_, rfl⟩
        rw [hbi] at hst hin4
        have HIN4 := Lib.hid hin4; clear hin4 hbi
        by_cases hin2 : (i : Int) = n
        · rw [decide_eq_true hin2, Bool.true_or, if_pos rfl] at hst
          have HST := Lib.hid hst; clear hst
          subst hin2
          go_wp2_with (at_builtin; refine list_append_src elemInt (.tmp 48) (.tmp 50) rfl rfl (Value.slice A L.length c) rfl (own_kept HO.out.1 (F := NoF) (by (repeat' (first | with_reducible exact Kept.refl _ _ | with_reducible refine Kept.put ?_ ?_ | with_reducible refine Kept.drewN ?_ _ | with_reducible refine Kept.drew ?_ | with_reducible refine Kept.alloc ?_ _ | (fail) | (right; simp; done)))) (fun _ _ x => x)) 1 rfl (Src.of_has (t := 3) (cs := #[.int .i64 i]) (by (repeat (first | with_reducible exact Has.new_at _ _ _ (by simp) | with_reducible apply Has.drew | with_reducible apply Has.drewN | with_reducible apply Has.alloc | (with_reducible apply Has.past <;> (try omega)) ))) rfl) (ints_one [(i : Int)]) HM1.out HM2.out ?_; intro A1 c1 w5 ho1 hg1 ha1; have hk5 : Kept NoF w3 w5 := Kept.grown (Kept.then HK.out (by (repeat' (first | with_reducible exact Kept.refl _ _ | with_reducible refine Kept.put ?_ ?_ | with_reducible refine Kept.drewN ?_ _ | with_reducible refine Kept.drew ?_ | with_reducible refine Kept.alloc ?_ _ | (fail) | (right; simp; done))))) hg1 (fun k hk => .inr (HO.out.2 k hk)); have hn5 : ∀ k, RowOf (.slice A1 (L.length + 1) c1) k → w3.heap.size ≤ k := (fun k hk => by rcases ha1 with e | e; exact HO.out.2 k (e.symm.trans hk); have h9 := e.symm.trans hk; injection h9 with h9; have h8 := HWK.out; simp at h9; omega); have HO5 := Lib.hid (And.intro ho1 (And.intro hn5 hk5)); clear ho1 hg1 ha1 hk5 hn5)
          go_roundw
          case rel => exact ⟨i + 1, A1, c1, by omega, by go_num, by rw [HST.out]; simp, by rw [HST.out]; simpa using HO5.out.1, by rw [HST.out]; simpa using HO5.out.2.1, HO5.out.2.2⟩
          case measure => simp [intOf]; omega
        · have hne : ((i : Int) == n) = false := by simpa using hin2
          rw [decide_eq_false hin2, Bool.false_or] at hst
          go_wp2_with fail
          refine (HIN4.out _ HK.out).mono ?_
          rintro e w6 ⟨rfl, rfl⟩
          cases bi
          · rw [if_neg (by simp)] at hst
            have HST := Lib.hid hst; clear hst
            go_wp2
            go_roundw
            case rel => exact ⟨i + 1, A, c, by omega, by go_num, by rw [HST.out], by rw [HST.out]; exact HO.out.1, by rw [HST.out]; exact HO.out.2, HK.out⟩
            case measure => simp [intOf]; omega
          · rw [if_pos rfl] at hst
            have HST := Lib.hid hst; clear hst
            go_wp2_with (at_builtin; refine list_append_src elemInt (.tmp 48) (.tmp 50) rfl rfl (Value.slice A L.length c) rfl (own_kept HO.out.1 (F := NoF) (by (repeat' (first | with_reducible exact Kept.refl _ _ | with_reducible refine Kept.put ?_ ?_ | with_reducible refine Kept.drewN ?_ _ | with_reducible refine Kept.drew ?_ | with_reducible refine Kept.alloc ?_ _ | (fail) | (right; simp; done)))) (fun _ _ x => x)) 1 rfl (Src.of_has (t := 3) (cs := #[.int .i64 i]) (by (repeat (first | with_reducible exact Has.new_at _ _ _ (by simp) | with_reducible apply Has.drew | with_reducible apply Has.drewN | with_reducible apply Has.alloc | (with_reducible apply Has.past <;> (try omega)) ))) rfl) (ints_one [(i : Int)]) HM1.out HM2.out ?_; intro A1 c1 w5 ho1 hg1 ha1; have hk5 : Kept NoF w3 w5 := Kept.grown (Kept.then HK.out (by (repeat' (first | with_reducible exact Kept.refl _ _ | with_reducible refine Kept.put ?_ ?_ | with_reducible refine Kept.drewN ?_ _ | with_reducible refine Kept.drew ?_ | with_reducible refine Kept.alloc ?_ _ | (fail) | (right; simp; done))))) hg1 (fun k hk => .inr (HO.out.2 k hk)); have hn5 : ∀ k, RowOf (.slice A1 (L.length + 1) c1) k → w3.heap.size ≤ k := (fun k hk => by rcases ha1 with e | e; exact HO.out.2 k (e.symm.trans hk); have h9 := e.symm.trans hk; injection h9 with h9; have h8 := HWK.out; simp at h9; omega); have HO5 := Lib.hid (And.intro ho1 (And.intro hn5 hk5)); clear ho1 hg1 ha1 hk5 hn5)
            go_roundw
            case rel => exact ⟨i + 1, A1, c1, by omega, by go_num, by rw [HST.out]; simp, by rw [HST.out]; simpa using HO5.out.1, by rw [HST.out]; simpa using HO5.out.2.1, HO5.out.2.2⟩
            case measure => simp [intOf]; omega
      · obtain rfl : i = 4 := by omega
        have htr := HTR.out (by first | trivial | rfl)
        have HO2 := Lib.hid (htr ▸ HO.out)
        rw [htr]
        clear HO
        have HO := HO2; clear HO2
        obtain ⟨q0, q1, z0, z1, z2, z3, zf⟩ := HCE.out wr HK.out
        go_wp2
        go_ret
        have hbr := HB.out.kept (HK3.out.then HK.out) (fun z => z)
        refine HGOOD.out trivial _ _ A c (HK3.out.then HK.out) ?_ HO.out.1 (fun k hk => Nat.le_trans HK3.out.size (HO.out.2 k hk)) ((Kept.refl _ _).put (.inl rfl))
        ((repeat (first | with_reducible exact hbr | with_reducible apply Has.put_of | with_reducible apply Has.past | with_reducible apply Has.drewN | with_reducible apply Has.drew | with_reducible apply Has.alloc)) <;> first | omega | rfl)
set_option maxHeartbeats 4000000 in
theorem rapply80_any (w : World) (b : Nat) (F : Nat → Prop) (s : StR) (x : NoteR) (hs : RAt w b F s) (hok : SOk s) (h : NOk w x) (hcap : x.b.ops.length ≤ x.oc) (h0 : noteE x = 0) (hk : x.k = 8) (hc : x.said.cl = 0) :
    Calls Try.prog 17 #[.pointer (some ⟨b, 0, none⟩), nagg x] w (RApplyPost w b F s x) := by
  have h00 : noteE x = 0 := h0
  obtain ⟨mA, mc, lA, lc, pA, pc, hF, hb, hm, hl, hp⟩ := hs
  have hck := fun W (hW : Kept NoF w W) => nrcheck_any W x (h.kept hW) hcap
  rw [h00] at hck
  obtain ⟨W0, hW0⟩ : ∃ W0, w.alloc (.cells (ncell x).toArray 48) = W0 := ⟨_, rfl⟩
  have hk0 : Kept NoF w W0 := by rw [← hW0]; (repeat' (first | with_reducible exact Kept.refl _ _ | with_reducible refine Kept.put ?_ ?_ | with_reducible refine Kept.drewN ?_ _ | with_reducible refine Kept.drew ?_ | with_reducible refine Kept.alloc ?_ _ | (fail) | (right; simp; done)))
  have hn0 : Has W0 w.heap.size 48 (ncell x).toArray := by rw [← hW0]; exact Has.new _ _ _
  have hE : applyE s x = if x.said.req < s.t0.req then 18 else 0 := by unfold applyE; rw [if_neg (by simpa using h00), if_neg (by omega), if_neg (by omega), if_neg (by omega), if_neg (by omega), if_neg (by omega), if_pos hk, toldOf, hc]; rfl
  have hbad : x.said.req < s.t0.req → ∀ w', Kept NoF w w' → RApplyPost w b F s x (.returned (.int .i64 18)) w' := fun h1 w' hk' => by
    rw [if_pos h1] at hE
    have := RApplyPost.bad (w' := w') (show RAt w b F s from ⟨mA, mc, lA, lc, pA, pc, hF, hb, hm, hl, hp⟩) (by rw [hE]; decide) hk'
    rw [hE] at this
    exact this
  have hgood : ¬ x.said.req < s.t0.req → ∀ w', Has w' b 57 (rcells { s with t0 := ⟨0, x.said.req, x.said.e, x.said.pin⟩ } mA mc lA lc pA pc) → Kept (fun k => k = b) w w' → RApplyPost w b F s x (.returned (.int .i64 0)) w' := fun h1 w' hb' hk' => by
    rw [if_neg h1] at hE
    have hS : applyS s x = { s with t0 := ⟨0, x.said.req, x.said.e, x.said.pin⟩ } := by
      unfold applyS
      rw [if_neg (by rw [hE]; decide), if_neg (by omega), if_neg (by omega), if_neg (by omega), if_neg (by omega), if_neg (by omega), withTold, hc]
      rw [show x.said = ⟨0, x.said.req, x.said.e, x.said.pin⟩ by rw [← hc]]
      rfl
    refine ⟨F, by rw [hE], ?_, Grows.refl _ _, hk'.mono (fun k e => (hF k).2 (.inl e))⟩
    rw [hS]
    exact RAt.turned hF hb hm hl hp hb' rfl rfl rfl hk'
  have HBAD := Lib.hid hbad; have HGOOD := Lib.hid hgood
  clear hbad hgood hE h0 h00 h hm hl hp hF hok hcap
  obtain ⟨k, n, at2, ep, mA2, mc2, ms, fl, lA2, lc2, lg, oA, oc, ⟨bcl, breq, ops⟩, ts, ⟨p1, p2, p3⟩, ⟨s1, s2, s3, s4⟩⟩ := x
  simp only [ncell] at hn0 hck
  dsimp only at hk
  subst hk
  dsimp only at hc
  subst hc
  have HCK := Lib.hid hck; have HK0 := Lib.hid hk0; have HN0 := Lib.hid hn0; have HB := Lib.hid hb
  clear hck hk0 hn0 hb
  go_enter Try.func17, Try.ntmps17
  go_wp2_with (refine wpList_load_row rfl 48 (.tmp 3) rfl w.heap.size rfl 48 _ (0, 0) _ HN0.out Try.underlying48 rfl (by kernel_rfl) ?_)
  clear hW0
  refine (HCK.out _ HK0.out).mono ?_
  rintro e w3 ⟨rfl, hk⟩
  have hn3 := HN0.out.kept hk (fun z => z)
  have HK3 := Lib.hid (HK0.out.then hk)
  have hb3 := HB.out.kept HK3.out (fun z => z)
  have q0 : w3.cell? ⟨w.heap.size, 0, none⟩ = some (.int .i64 8) := hn3.cell 0
  have q14 : w3.cell? ⟨w.heap.size, 14, none⟩ = some (.int .i64 0) := hn3.cell 14
  have q15 : w3.cell? ⟨w.heap.size, 15, none⟩ = some (.int .i64 s2) := hn3.cell 15
  have q16 : w3.cell? ⟨w.heap.size, 16, none⟩ = some (.int .i64 s3) := hn3.cell 16
  have q17 : w3.cell? ⟨w.heap.size, 17, none⟩ = some (.int .i64 s4) := hn3.cell 17
  have k0 := hb3.cell 7
  have k1 := hb3.cell (7 + 1)
  have k2 := hb3.cell (7 + 2)
  have k3 := hb3.cell (7 + 3)
  simp only [List.getElem?_toArray, List.getElem?_cons_zero, List.getElem?_cons_succ] at k0 k1 k2 k3
  have f0 := hb3.frozen 7
  have f1 := hb3.frozen (7 + 1)
  have f2 := hb3.frozen (7 + 2)
  have f3 := hb3.frozen (7 + 3)
  have HB3 := Lib.hid hb3; clear hb3 hk hn3
  by_cases hr : s2 < s.t0.req
  · go_wp2_with fail
    go_quiet (fail)
    go_wp2
    go_ret
    exact HBAD.out hr _ (HK3.out.drewN _)
  · go_wp2_with fail
    go_quiet (fail)
    go_wp2_with fail
    refine wp_region_still_tail 9 (by kernel_rfl) (by kernel_rfl) ?_
    simp only [List.take_succ_cons, List.take_zero, List.drop_succ_cons, List.drop_zero]
    change wpStill _ _ (World.drew (w3.drewN _)) _ _ _
    repeat still_step
    refine wpStill_nil ?_
    change wpList _ _ _ _ _ (World.drew (w3.drewN _))
    go_wp2
    go_ret
    refine HGOOD.out hr _ ?_ ?_
    · ((repeat (first | with_reducible exact HB3.out | with_reducible apply Has.put_of | with_reducible apply Has.past | with_reducible apply Has.drewN | with_reducible apply Has.drew | with_reducible apply Has.alloc)) <;> first | omega | rfl)
    · have hm : Kept (fun k => k = b) w (w3.drewN (nq + 1)) := (HK3.out.mono (fun _ x => x.elim)).drewN _
      exact (((hm.put (.inl rfl)).put (.inl rfl)).put (.inl rfl)).put (.inl rfl)
set_option maxHeartbeats 4000000 in
theorem rapply81_any (w : World) (b : Nat) (F : Nat → Prop) (s : StR) (x : NoteR) (hs : RAt w b F s) (hok : SOk s) (h : NOk w x) (hcap : x.b.ops.length ≤ x.oc) (h0 : noteE x = 0) (hk : x.k = 8) (hc : x.said.cl = 1) :
    Calls Try.prog 17 #[.pointer (some ⟨b, 0, none⟩), nagg x] w (RApplyPost w b F s x) := by
  have h00 : noteE x = 0 := h0
  obtain ⟨mA, mc, lA, lc, pA, pc, hF, hb, hm, hl, hp⟩ := hs
  have hck := fun W (hW : Kept NoF w W) => nrcheck_any W x (h.kept hW) hcap
  rw [h00] at hck
  obtain ⟨W0, hW0⟩ : ∃ W0, w.alloc (.cells (ncell x).toArray 48) = W0 := ⟨_, rfl⟩
  have hk0 : Kept NoF w W0 := by rw [← hW0]; (repeat' (first | with_reducible exact Kept.refl _ _ | with_reducible refine Kept.put ?_ ?_ | with_reducible refine Kept.drewN ?_ _ | with_reducible refine Kept.drew ?_ | with_reducible refine Kept.alloc ?_ _ | (fail) | (right; simp; done)))
  have hn0 : Has W0 w.heap.size 48 (ncell x).toArray := by rw [← hW0]; exact Has.new _ _ _
  have hE : applyE s x = if x.said.req < s.t1.req then 18 else 0 := by unfold applyE; rw [if_neg (by simpa using h00), if_neg (by omega), if_neg (by omega), if_neg (by omega), if_neg (by omega), if_neg (by omega), if_pos hk, toldOf, hc]; rfl
  have hbad : x.said.req < s.t1.req → ∀ w', Kept NoF w w' → RApplyPost w b F s x (.returned (.int .i64 18)) w' := fun h1 w' hk' => by
    rw [if_pos h1] at hE
    have := RApplyPost.bad (w' := w') (show RAt w b F s from ⟨mA, mc, lA, lc, pA, pc, hF, hb, hm, hl, hp⟩) (by rw [hE]; decide) hk'
    rw [hE] at this
    exact this
  have hgood : ¬ x.said.req < s.t1.req → ∀ w', Has w' b 57 (rcells { s with t1 := ⟨1, x.said.req, x.said.e, x.said.pin⟩ } mA mc lA lc pA pc) → Kept (fun k => k = b) w w' → RApplyPost w b F s x (.returned (.int .i64 0)) w' := fun h1 w' hb' hk' => by
    rw [if_neg h1] at hE
    have hS : applyS s x = { s with t1 := ⟨1, x.said.req, x.said.e, x.said.pin⟩ } := by
      unfold applyS
      rw [if_neg (by rw [hE]; decide), if_neg (by omega), if_neg (by omega), if_neg (by omega), if_neg (by omega), if_neg (by omega), withTold, hc]
      rw [show x.said = ⟨1, x.said.req, x.said.e, x.said.pin⟩ by rw [← hc]]
      rfl
    refine ⟨F, by rw [hE], ?_, Grows.refl _ _, hk'.mono (fun k e => (hF k).2 (.inl e))⟩
    rw [hS]
    exact RAt.turned hF hb hm hl hp hb' rfl rfl rfl hk'
  have HBAD := Lib.hid hbad; have HGOOD := Lib.hid hgood
  clear hbad hgood hE h0 h00 h hm hl hp hF hok hcap
  obtain ⟨k, n, at2, ep, mA2, mc2, ms, fl, lA2, lc2, lg, oA, oc, ⟨bcl, breq, ops⟩, ts, ⟨p1, p2, p3⟩, ⟨s1, s2, s3, s4⟩⟩ := x
  simp only [ncell] at hn0 hck
  dsimp only at hk
  subst hk
  dsimp only at hc
  subst hc
  have HCK := Lib.hid hck; have HK0 := Lib.hid hk0; have HN0 := Lib.hid hn0; have HB := Lib.hid hb
  clear hck hk0 hn0 hb
  go_enter Try.func17, Try.ntmps17
  go_wp2_with (refine wpList_load_row rfl 48 (.tmp 3) rfl w.heap.size rfl 48 _ (0, 0) _ HN0.out Try.underlying48 rfl (by kernel_rfl) ?_)
  clear hW0
  refine (HCK.out _ HK0.out).mono ?_
  rintro e w3 ⟨rfl, hk⟩
  have hn3 := HN0.out.kept hk (fun z => z)
  have HK3 := Lib.hid (HK0.out.then hk)
  have hb3 := HB.out.kept HK3.out (fun z => z)
  have q0 : w3.cell? ⟨w.heap.size, 0, none⟩ = some (.int .i64 8) := hn3.cell 0
  have q14 : w3.cell? ⟨w.heap.size, 14, none⟩ = some (.int .i64 1) := hn3.cell 14
  have q15 : w3.cell? ⟨w.heap.size, 15, none⟩ = some (.int .i64 s2) := hn3.cell 15
  have q16 : w3.cell? ⟨w.heap.size, 16, none⟩ = some (.int .i64 s3) := hn3.cell 16
  have q17 : w3.cell? ⟨w.heap.size, 17, none⟩ = some (.int .i64 s4) := hn3.cell 17
  have k0 := hb3.cell 11
  have k1 := hb3.cell (11 + 1)
  have k2 := hb3.cell (11 + 2)
  have k3 := hb3.cell (11 + 3)
  simp only [List.getElem?_toArray, List.getElem?_cons_zero, List.getElem?_cons_succ] at k0 k1 k2 k3
  have f0 := hb3.frozen 11
  have f1 := hb3.frozen (11 + 1)
  have f2 := hb3.frozen (11 + 2)
  have f3 := hb3.frozen (11 + 3)
  have HB3 := Lib.hid hb3; clear hb3 hk hn3
  by_cases hr : s2 < s.t1.req
  · go_wp2_with fail
    go_quiet (fail)
    go_wp2
    go_ret
    exact HBAD.out hr _ (HK3.out.drewN _)
  · go_wp2_with fail
    go_quiet (fail)
    go_wp2_with fail
    refine wp_region_still_tail 9 (by kernel_rfl) (by kernel_rfl) ?_
    simp only [List.take_succ_cons, List.take_zero, List.drop_succ_cons, List.drop_zero]
    change wpStill _ _ (World.drew (w3.drewN _)) _ _ _
    repeat still_step
    refine wpStill_nil ?_
    change wpList _ _ _ _ _ (World.drew (w3.drewN _))
    go_wp2
    go_ret
    refine HGOOD.out hr _ ?_ ?_
    · ((repeat (first | with_reducible exact HB3.out | with_reducible apply Has.put_of | with_reducible apply Has.past | with_reducible apply Has.drewN | with_reducible apply Has.drew | with_reducible apply Has.alloc)) <;> first | omega | rfl)
    · have hm : Kept (fun k => k = b) w (w3.drewN (nq + 1)) := (HK3.out.mono (fun _ x => x.elim)).drewN _
      exact (((hm.put (.inl rfl)).put (.inl rfl)).put (.inl rfl)).put (.inl rfl)
set_option maxHeartbeats 4000000 in
theorem rapply82_any (w : World) (b : Nat) (F : Nat → Prop) (s : StR) (x : NoteR) (hs : RAt w b F s) (hok : SOk s) (h : NOk w x) (hcap : x.b.ops.length ≤ x.oc) (h0 : noteE x = 0) (hk : x.k = 8) (hc : x.said.cl = 2) :
    Calls Try.prog 17 #[.pointer (some ⟨b, 0, none⟩), nagg x] w (RApplyPost w b F s x) := by
  have h00 : noteE x = 0 := h0
  obtain ⟨mA, mc, lA, lc, pA, pc, hF, hb, hm, hl, hp⟩ := hs
  have hck := fun W (hW : Kept NoF w W) => nrcheck_any W x (h.kept hW) hcap
  rw [h00] at hck
  obtain ⟨W0, hW0⟩ : ∃ W0, w.alloc (.cells (ncell x).toArray 48) = W0 := ⟨_, rfl⟩
  have hk0 : Kept NoF w W0 := by rw [← hW0]; (repeat' (first | with_reducible exact Kept.refl _ _ | with_reducible refine Kept.put ?_ ?_ | with_reducible refine Kept.drewN ?_ _ | with_reducible refine Kept.drew ?_ | with_reducible refine Kept.alloc ?_ _ | (fail) | (right; simp; done)))
  have hn0 : Has W0 w.heap.size 48 (ncell x).toArray := by rw [← hW0]; exact Has.new _ _ _
  have hE : applyE s x = if x.said.req < s.t2.req then 18 else 0 := by unfold applyE; rw [if_neg (by simpa using h00), if_neg (by omega), if_neg (by omega), if_neg (by omega), if_neg (by omega), if_neg (by omega), if_pos hk, toldOf, hc]; rfl
  have hbad : x.said.req < s.t2.req → ∀ w', Kept NoF w w' → RApplyPost w b F s x (.returned (.int .i64 18)) w' := fun h1 w' hk' => by
    rw [if_pos h1] at hE
    have := RApplyPost.bad (w' := w') (show RAt w b F s from ⟨mA, mc, lA, lc, pA, pc, hF, hb, hm, hl, hp⟩) (by rw [hE]; decide) hk'
    rw [hE] at this
    exact this
  have hgood : ¬ x.said.req < s.t2.req → ∀ w', Has w' b 57 (rcells { s with t2 := ⟨2, x.said.req, x.said.e, x.said.pin⟩ } mA mc lA lc pA pc) → Kept (fun k => k = b) w w' → RApplyPost w b F s x (.returned (.int .i64 0)) w' := fun h1 w' hb' hk' => by
    rw [if_neg h1] at hE
    have hS : applyS s x = { s with t2 := ⟨2, x.said.req, x.said.e, x.said.pin⟩ } := by
      unfold applyS
      rw [if_neg (by rw [hE]; decide), if_neg (by omega), if_neg (by omega), if_neg (by omega), if_neg (by omega), if_neg (by omega), withTold, hc]
      rw [show x.said = ⟨2, x.said.req, x.said.e, x.said.pin⟩ by rw [← hc]]
      rfl
    refine ⟨F, by rw [hE], ?_, Grows.refl _ _, hk'.mono (fun k e => (hF k).2 (.inl e))⟩
    rw [hS]
    exact RAt.turned hF hb hm hl hp hb' rfl rfl rfl hk'
  have HBAD := Lib.hid hbad; have HGOOD := Lib.hid hgood
  clear hbad hgood hE h0 h00 h hm hl hp hF hok hcap
  obtain ⟨k, n, at2, ep, mA2, mc2, ms, fl, lA2, lc2, lg, oA, oc, ⟨bcl, breq, ops⟩, ts, ⟨p1, p2, p3⟩, ⟨s1, s2, s3, s4⟩⟩ := x
  simp only [ncell] at hn0 hck
  dsimp only at hk
  subst hk
  dsimp only at hc
  subst hc
  have HCK := Lib.hid hck; have HK0 := Lib.hid hk0; have HN0 := Lib.hid hn0; have HB := Lib.hid hb
  clear hck hk0 hn0 hb
  go_enter Try.func17, Try.ntmps17
  go_wp2_with (refine wpList_load_row rfl 48 (.tmp 3) rfl w.heap.size rfl 48 _ (0, 0) _ HN0.out Try.underlying48 rfl (by kernel_rfl) ?_)
  clear hW0
  refine (HCK.out _ HK0.out).mono ?_
  rintro e w3 ⟨rfl, hk⟩
  have hn3 := HN0.out.kept hk (fun z => z)
  have HK3 := Lib.hid (HK0.out.then hk)
  have hb3 := HB.out.kept HK3.out (fun z => z)
  have q0 : w3.cell? ⟨w.heap.size, 0, none⟩ = some (.int .i64 8) := hn3.cell 0
  have q14 : w3.cell? ⟨w.heap.size, 14, none⟩ = some (.int .i64 2) := hn3.cell 14
  have q15 : w3.cell? ⟨w.heap.size, 15, none⟩ = some (.int .i64 s2) := hn3.cell 15
  have q16 : w3.cell? ⟨w.heap.size, 16, none⟩ = some (.int .i64 s3) := hn3.cell 16
  have q17 : w3.cell? ⟨w.heap.size, 17, none⟩ = some (.int .i64 s4) := hn3.cell 17
  have k0 := hb3.cell 15
  have k1 := hb3.cell (15 + 1)
  have k2 := hb3.cell (15 + 2)
  have k3 := hb3.cell (15 + 3)
  simp only [List.getElem?_toArray, List.getElem?_cons_zero, List.getElem?_cons_succ] at k0 k1 k2 k3
  have f0 := hb3.frozen 15
  have f1 := hb3.frozen (15 + 1)
  have f2 := hb3.frozen (15 + 2)
  have f3 := hb3.frozen (15 + 3)
  have HB3 := Lib.hid hb3; clear hb3 hk hn3
  by_cases hr : s2 < s.t2.req
  · go_wp2_with fail
    go_quiet (fail)
    go_wp2
    go_ret
    exact HBAD.out hr _ (HK3.out.drewN _)
  · go_wp2_with fail
    go_quiet (fail)
    go_wp2_with fail
    refine wp_region_still_tail 9 (by kernel_rfl) (by kernel_rfl) ?_
    simp only [List.take_succ_cons, List.take_zero, List.drop_succ_cons, List.drop_zero]
    change wpStill _ _ (World.drew (w3.drewN _)) _ _ _
    repeat still_step
    refine wpStill_nil ?_
    change wpList _ _ _ _ _ (World.drew (w3.drewN _))
    go_wp2
    go_ret
    refine HGOOD.out hr _ ?_ ?_
    · ((repeat (first | with_reducible exact HB3.out | with_reducible apply Has.put_of | with_reducible apply Has.past | with_reducible apply Has.drewN | with_reducible apply Has.drew | with_reducible apply Has.alloc)) <;> first | omega | rfl)
    · have hm : Kept (fun k => k = b) w (w3.drewN (nq + 1)) := (HK3.out.mono (fun _ x => x.elim)).drewN _
      exact (((hm.put (.inl rfl)).put (.inl rfl)).put (.inl rfl)).put (.inl rfl)
theorem rapply_any (w : World) (b : Nat) (F : Nat → Prop) (s : StR) (x : NoteR) (hs : RAt w b F s) (hinv : Inv s) (h : NOk w x) (hcap : x.b.ops.length ≤ x.oc) (hlb : 0 < x.lg.length → ∀ ad, x.lA = some ad → ad.block ≠ b) :
    Calls Try.prog 17 #[.pointer (some ⟨b, 0, none⟩), nagg x] w (RApplyPost w b F s x) := by
  have hok := hinv.ok
  by_cases h0 : noteE x = 0
  rotate_left
  · exact rapply_bad w b F s x hs h hcap h0
  by_cases h1 : x.k = 1
  · exact rapply1_any w b F s x hs hok h hcap hlb h0 h1
  by_cases h2 : x.k = 2
  · exact rapply2_any w b F s x hs hok h hcap h0 h2
  by_cases h3 : x.k = 3
  · exact rapply3_any w b F s x hs hok h hcap h0 h3
  by_cases h4 : x.k = 4
  · exact rapply4_any w b F s x hs hok h hcap h0 h4
  by_cases h5 : x.k = 5
  · exact rapply5_any w b F s x hs hok h hcap h0 hinv h5
  by_cases h6 : x.k = 6
  · exact rapply6_any w b F s x hs hok h hcap h0 h6
  by_cases h7 : x.k = 7
  · rcases Int.lt_or_le (pinAt s.pins x.n) 0 with hp | hp
    · exact rapply7a_any w b F s x hs hok h hcap h0 h7 hp
    · exact rapply7b_any w b F s x hs hok h hcap h0 h7 hp
  have h8 : x.k = 8 := by
    unfold noteE at h0
    rw [if_neg h1, if_neg h2, if_neg (by omega), if_neg h6] at h0
    split at h0
    · assumption
    · omega
  rcases said_cl (noteE_said h0 h8) with hc | hc | hc
  · exact rapply80_any w b F s x hs hok h hcap h0 h8 hc
  · exact rapply81_any w b F s x hs hok h hcap h0 h8 hc
  · exact rapply82_any w b F s x hs hok h hcap h0 h8 hc
end Mst
end Go.Proofs.Ytolipnnjeehnfaa
