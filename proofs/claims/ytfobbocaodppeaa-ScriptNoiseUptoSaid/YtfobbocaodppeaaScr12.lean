/- script.read: a step of a piece, or none. -/
import Derived.Test.YtfobbocaodppeaaScr11b
set_option linter.unusedSimpArgs false
set_option linter.unusedVariables false
namespace Go.Proofs.Ytfobbocaodppeaa
open Go.RowKit
set_option maxRecDepth 100000
namespace Scr
open Ops Vn Wire
/-- What reading a piece leaves: a step, and whether it is one. -/
def ReadPost (w : World) (s : ByteArray) (e : Ending) (w' : World) : Prop :=
  (∃ ev : EvR, e = .returned (.tuple #[vagg ev, .bool (readE s).isSome]) ∧ ∀ x, readE s = some x → ev.x = x ∧ NewSl 55 3 w.heap.size w' ev.A ev.x.ops.length ev.c (cells ev.x.ops)) ∧ Kept NoF w w'
theorem rEnd_err {s : ByteArray} {r : RS} (h : r.2 ≠ 0) : rEnd s r = r.2 := by unfold rEnd; rw [if_pos h]
theorem askR_shift (s : ByteArray) (k nd n : Int) (r : RS) : askR s k nd n r = ({ (askR s 0 0 0 r).1 with k := k, nd := nd, n := n }, (askR s 0 0 0 r).2) := by simp only [askR]
set_option maxHeartbeats 16000000 in
theorem read_any (w : World) (s : ByteArray) (hs : s.size ≤ maxLen) : Calls Try.prog 21 #[.string s] w (ReadPost w s) := by
  obtain ⟨q1, hq1⟩ : ∃ q, rNum s 1073741824 (0, 0) = q := ⟨_, rfl⟩
  obtain ⟨q2, hq2⟩ : ∃ q, rNum s 1073741824 q1.2 = q := ⟨_, rfl⟩
  obtain ⟨q3, hq3⟩ : ∃ q, rNum s 1073741824 q2.2 = q := ⟨_, rfl⟩
  have hread : readR s = if q3.2.2 = 0 ∧ q1.1 = 0 then askR s q1.1 q2.1 q3.1 q3.2 else (bare q1.1 q2.1 q3.1, q3.2) := by
    unfold readR
    simp only [hq1, hq2, hq3]
  obtain ⟨k, r1⟩ := q1
  obtain ⟨nd, r2⟩ := q2
  obtain ⟨n, r3⟩ := q3
  dsimp only at hq2 hq3 hread
  have hno : rEnd s (readR s).2 ≠ 0 → readE s = none := fun h => by unfold readE; rw [if_neg h]
  have hyes : rEnd s (readR s).2 = 0 → readE s = some (readR s).1 := fun h => by unfold readE; rw [if_pos h]
  obtain ⟨R, hR⟩ : ∃ R, ReadPost w s = R := ⟨_, rfl⟩
  rw [hR]
  have hfail : rEnd s (readR s).2 ≠ 0 → ∀ W, Kept NoF w W → R (.returned (.tuple #[.agg #[.int .i64 0, .int .i64 0, .int .i64 0, .int .i64 0, .int .i64 0, .string ⟨#[]⟩, .string ⟨#[]⟩, .int .u64 0, .int .i64 0, .slice none 0 0], .bool false])) W := fun h W hW => by
    rw [← hR]
    have h1 := hno h
    exact ⟨⟨⟨bare 0 0 0, none, 0⟩, by rw [h1]; rfl, fun x hx => by rw [h1] at hx; cases hx⟩, hW⟩
  have hgood : rEnd s (readR s).2 = 0 → ∀ (ev : EvR) W, ev.x = (readR s).1 → NewSl 55 3 w.heap.size W ev.A ev.x.ops.length ev.c (cells ev.x.ops) → Kept NoF w W → R (.returned (.tuple #[vagg ev, .bool true])) W := fun h ev W hx hn hW => by
    rw [← hR]
    have h1 := hyes h
    refine ⟨⟨ev, by rw [h1]; rfl, fun x hx2 => ?_⟩, hW⟩
    rw [h1] at hx2
    injection hx2 with hx2
    exact ⟨hx.trans hx2, hn⟩
  clear hno hyes
  rw [hread] at hfail hgood
  have HFAIL := Lib.hid hfail; clear hfail
  have HGOOD := Lib.hid hgood; clear hgood hR hread
  have HQ := Lib.hid (And.intro hq1 (And.intro hq2 hq3)); clear hq1 hq2 hq3
  have hmf : ∀ (fn : Fn) (first cap : Array Value) (w : World), (Instr.makeFunc fn first cap).run Try.prog w = .ok (.func fn first cap) w := fun _ _ _ _ => rfl
  obtain ⟨b, hb⟩ : ∃ b, w.heap.size = b := ⟨_, rfl⟩
  obtain ⟨W1, hW1⟩ : ∃ W1, (w.alloc (.cells #[.int .i64 0, .int .i64 0, .int .i64 0, .int .i64 0, .int .i64 0, .string ⟨#[]⟩, .string ⟨#[]⟩, .int .u64 0, .int .i64 0, .slice none 0 0] 41)).alloc (.cells #[.bool false] 4) = W1 := ⟨_, rfl⟩
  have hs1 : W1.heap.size = b + 2 := by rw [← hW1, ← hb]; simp
  have he1 : Has W1 b 41 #[.int .i64 0, .int .i64 0, .int .i64 0, .int .i64 0, .int .i64 0, .string ⟨#[]⟩, .string ⟨#[]⟩, .int .u64 0, .int .i64 0, .slice none 0 0] := by rw [← hW1, ← hb]; exact (Has.new _ _ _).alloc _
  have he2 : Has W1 (b + 1) 4 #[.bool false] := by rw [← hW1, ← hb]; exact Has.new_at _ _ _ (by simp)
  have hk1 : Kept NoF w W1 := by rw [← hW1]; (repeat' (first | with_reducible exact Kept.refl _ _ | with_reducible refine Kept.put ?_ ?_ | with_reducible refine Kept.drewN ?_ _ | with_reducible refine Kept.drew ?_ | with_reducible refine Kept.alloc ?_ _ | (fail) | (right; simp; done)))
  have HW1 := Lib.hid hW1; clear hW1
  have HB := Lib.hid hb
  have HE := Lib.hid (And.intro he1 (And.intro he2 hk1)); clear he1 he2 hk1
  have ho := open_any W1 s
  rw [hs1] at ho
  have HOP := Lib.hid ho; clear ho
  clear hs1
  go_enter_defers Try.func21, Try.ntmps21
  go_wp2_with fail
  rw [HW1.out]
  clear hb
  refine HOP.out.mono ?_
  rintro e w2 ⟨rfl, hr0, hk0⟩
  obtain ⟨g, hg⟩ : ∃ g, b + 2 = g := ⟨_, rfl⟩
  rw [hg] at hr0 ⊢
  have o0 : OrdB NoF w g (g + 1) [b, b + 1] := ⟨.inr (by have := HB.out; omega), by omega, by have := HB.out; omega, by intro k hk; have := HB.out; simp at hk; omega⟩
  have hst : SB NoF w (fun W => RdAt W g s (0, 0)) [(b, 41, #[.int .i64 0, .int .i64 0, .int .i64 0, .int .i64 0, .int .i64 0, .string ⟨#[]⟩, .string ⟨#[]⟩, .int .u64 0, .int .i64 0, .slice none 0 0]), (b + 1, 4, #[.bool false])] (g + 1) none 0 [] w2 := by
    refine ⟨hr0, ?_, ⟨⟨rfl, .inl ⟨rfl, rfl⟩⟩, fun k hk => by cases hk⟩, HE.out.2.2.then hk0⟩
    intro z hz
    simp only [List.mem_cons, List.not_mem_nil, or_false] at hz
    rcases hz with rfl | rfl
    · exact HE.out.1.kept hk0 (fun z => z)
    · exact HE.out.2.1.kept hk0 (fun z => z)
  have HO := Lib.hid o0; clear o0
  have HST := Lib.hid hst; clear hst hr0 hk0 HE HOP HW1
  have hnx : b ∉ [b + 1] := by simp
  have HNX := Lib.hid hnx; clear hnx
  have hbg : b + 1 < g := by omega
  have HBG := Lib.hid hbg; clear hbg hg
  go_wp2_with fail
  refine (num_any _ g s (0, 0) 1073741824 HST.out.1 hs (by decide)).mono ?_
  intro e w3 hrd
  obtain ⟨rfl, hst, hk⟩ := SB.readR HO.out HST.out hrd
  rw [HQ.out.1] at hst ⊢
  dsimp only at hst ⊢
  clear HST hrd hk
  have hX := hst.has (b := (b, 41, #[.int .i64 0, .int .i64 0, .int .i64 0, .int .i64 0, .int .i64 0, .string ⟨#[]⟩, .string ⟨#[]⟩, .int .u64 0, .int .i64 0, .slice none 0 0])) (by simp)
  have xv := hX.cell 0
  have xf := hX.frozen 0
  simp only [List.getElem?_toArray, List.getElem?_cons_zero, List.getElem?_cons_succ] at xv
  have hst2 := SB.setx (cs' := #[.int .i64 k, .int .i64 0, .int .i64 0, .int .i64 0, .int .i64 0, .string ⟨#[]⟩, .string ⟨#[]⟩, .int .u64 0, .int .i64 0, .slice none 0 0]) (i := 0) (u := .int .i64 k) (rdK_r g s r1) HO.out HNX.out hst rfl
  have HST := Lib.hid hst2; clear hst2 hst hX
  go_wp2_with fail
  refine (num_any _ g s r1 1073741824 HST.out.1 hs (by decide)).mono ?_
  intro e w4 hrd
  obtain ⟨rfl, hst, hk⟩ := SB.readR HO.out HST.out hrd
  rw [HQ.out.2.1] at hst ⊢
  dsimp only at hst ⊢
  clear HST hrd hk
  have hX := hst.has (b := (b, 41, #[.int .i64 k, .int .i64 0, .int .i64 0, .int .i64 0, .int .i64 0, .string ⟨#[]⟩, .string ⟨#[]⟩, .int .u64 0, .int .i64 0, .slice none 0 0])) (by simp)
  have xv := hX.cell 1
  have xf := hX.frozen 1
  simp only [List.getElem?_toArray, List.getElem?_cons_zero, List.getElem?_cons_succ] at xv
  have hst2 := SB.setx (cs' := #[.int .i64 k, .int .i64 nd, .int .i64 0, .int .i64 0, .int .i64 0, .string ⟨#[]⟩, .string ⟨#[]⟩, .int .u64 0, .int .i64 0, .slice none 0 0]) (i := 1) (u := .int .i64 nd) (rdK_r g s r2) HO.out HNX.out hst rfl
  have HST := Lib.hid hst2; clear hst2 hst hX
  go_wp2_with fail
  refine (num_any _ g s r2 1073741824 HST.out.1 hs (by decide)).mono ?_
  intro e w5 hrd
  obtain ⟨rfl, hst, hk⟩ := SB.readR HO.out HST.out hrd
  rw [HQ.out.2.2] at hst ⊢
  dsimp only at hst ⊢
  clear HST hrd hk
  have hX := hst.has (b := (b, 41, #[.int .i64 k, .int .i64 nd, .int .i64 0, .int .i64 0, .int .i64 0, .string ⟨#[]⟩, .string ⟨#[]⟩, .int .u64 0, .int .i64 0, .slice none 0 0])) (by simp)
  have xv := hX.cell 2
  have xf := hX.frozen 2
  simp only [List.getElem?_toArray, List.getElem?_cons_zero, List.getElem?_cons_succ] at xv
  have hst2 := SB.setx (cs' := #[.int .i64 k, .int .i64 nd, .int .i64 n, .int .i64 0, .int .i64 0, .string ⟨#[]⟩, .string ⟨#[]⟩, .int .u64 0, .int .i64 0, .slice none 0 0]) (i := 2) (u := .int .i64 n) (rdK_r g s r3) HO.out HNX.out hst rfl
  have HST := Lib.hid hst2; clear hst2 hst hX
  go_wp2_with fail
  clear xv xf
  refine (err_any _ g s r3 HST.out.1).mono ?_
  rintro e w6 ⟨rfl, rfl⟩
  obtain ⟨i3, e3⟩ := r3
  dsimp only
  by_cases he : e3 = 0
  rotate_left
  · have hm := must_no e3 he
    have HM := Lib.hid hm; clear hm
    have hf := HFAIL.out (by rw [if_neg (fun x => he x.1), rEnd_err he]; exact he)
    have HF := Lib.hid hf; clear hf he HGOOD HFAIL
    go_wp2_with fail
    refine (HM.out _).mono ?_
    rintro e w7 ⟨rfl, rfl⟩
    go_wp2_with fail
    refine leaves_cons (f := 38) (args := #[.pointer (some ⟨b, 0, none⟩), .pointer (some ⟨b + 1, 0, none⟩)]) (by simp) (by simp [go_sem]) ?_
    refine (catchRead _ b (b + 1) e3 [] _ _ _ _ _ _ _ _ _ _ _ (HST.out.has (b := (b, 41, #[.int .i64 k, .int .i64 nd, .int .i64 n, .int .i64 0, .int .i64 0, .string ⟨#[]⟩, .string ⟨#[]⟩, .int .u64 0, .int .i64 0, .slice none 0 0])) (by simp)) (HST.out.has (b := (b + 1, 4, #[.bool false])) (by simp)) (by omega)).mono ?_
    rintro e u w8 ⟨rfl, rfl, hh1, hh2, hk8⟩
    have hkw := HST.out.2.2.2.trans hk8 (fun j hj => by have := HB.out; rcases hj with h | h <;> (rw [h]; right; omega))
    have HK := Lib.hid hkw; clear hkw hk8
    have v0 := hh1.cell 0
    have v1 := hh1.cell 1
    have v2 := hh1.cell 2
    have v3 := hh1.cell 3
    have v4 := hh1.cell 4
    have v5 := hh1.cell 5
    have v6 := hh1.cell 6
    have v7 := hh1.cell 7
    have v8 := hh1.cell 8
    have v9 := hh1.cell 9
    have u0 := hh2.cell 0
    simp only [zeroV, List.getElem?_toArray, List.getElem?_cons_zero, List.getElem?_cons_succ] at v0 v1 v2 v3 v4 v5 v6 v7 v8 v9 u0
    simp [Leaves, settle, results, Try.results21, go_sem, v0, v1, v2, v3, v4, v5, v6, v7, v8, v9, u0]
    exact HF.out _ HK.out
  subst he
  have HM := Lib.hid must_ok
  go_wp2_with fail
  refine (HM.out _).mono ?_
  rintro e w7 ⟨rfl, rfl⟩
  obtain ⟨w7, hw7⟩ : ∃ w7, w5.setCell ⟨b, 2, none⟩ (.int .i64 n) = w7 := ⟨_, rfl⟩
  rw [hw7] at HST ⊢
  clear hw7
  have hX := HST.out.has (b := (b, 41, #[.int .i64 k, .int .i64 nd, .int .i64 n, .int .i64 0, .int .i64 0, .string ⟨#[]⟩, .string ⟨#[]⟩, .int .u64 0, .int .i64 0, .slice none 0 0])) (by simp)
  have x0 := hX.cell 0
  simp only [List.getElem?_toArray, List.getElem?_cons_zero, List.getElem?_cons_succ] at x0
  clear hX
  by_cases hk0 : k = 0
  rotate_left
  · have hq : ((k : Int) == 0) = false := by simpa using hk0
    have hfail := HFAIL.out
    have hgood := HGOOD.out
    rw [if_neg (fun x => hk0 x.2)] at hfail hgood
    dsimp only at hfail hgood
    have HF := Lib.hid hfail; clear hfail HFAIL
    have HG := Lib.hid hgood; clear hgood HGOOD hk0
    go_wp2_with fail
    clear x0 hq
    refine (end_any _ g s (i3, 0) HST.out.1 hs).mono ?_
    rintro e w8 ⟨rfl, hk8⟩
    have hst := SB.keep (rdK_r g s (i3, 0)) HST.out hk8
    clear HST hk8
    have HST := Lib.hid hst; clear hst
    obtain ⟨er, her⟩ : ∃ er, rEnd s (i3, 0) = er := ⟨_, rfl⟩
    rw [her] at HF HG ⊢
    clear her
    by_cases he : er = 0
    rotate_left
    · have hm := must_no er he
      have hf := HF.out he
      have HM := Lib.hid hm; clear hm
      have HF2 := Lib.hid hf; clear hf HF HG he
      go_wp2_with fail
      refine (HM.out _).mono ?_
      rintro e w9 ⟨rfl, rfl⟩
      go_wp2_with fail
      refine leaves_cons (f := 38) (args := #[.pointer (some ⟨b, 0, none⟩), .pointer (some ⟨b + 1, 0, none⟩)]) (by simp) (by simp [go_sem]) ?_
      refine (catchRead _ b (b + 1) er [] _ _ _ _ _ _ _ _ _ _ _ (HST.out.has (b := (b, 41, #[.int .i64 k, .int .i64 nd, .int .i64 n, .int .i64 0, .int .i64 0, .string ⟨#[]⟩, .string ⟨#[]⟩, .int .u64 0, .int .i64 0, .slice none 0 0])) (by simp)) (HST.out.has (b := (b + 1, 4, #[.bool false])) (by simp)) (by omega)).mono ?_
      rintro e u w10 ⟨rfl, rfl, hh1, hh2, hk8⟩
      have hkw := HST.out.2.2.2.trans hk8 (fun j hj => by have := HB.out; rcases hj with h | h <;> (rw [h]; right; omega))
      have HK := Lib.hid hkw; clear hkw hk8
      have v0 := hh1.cell 0
      have v1 := hh1.cell 1
      have v2 := hh1.cell 2
      have v3 := hh1.cell 3
      have v4 := hh1.cell 4
      have v5 := hh1.cell 5
      have v6 := hh1.cell 6
      have v7 := hh1.cell 7
      have v8 := hh1.cell 8
      have v9 := hh1.cell 9
      have u0 := hh2.cell 0
      simp only [zeroV, List.getElem?_toArray, List.getElem?_cons_zero, List.getElem?_cons_succ] at v0 v1 v2 v3 v4 v5 v6 v7 v8 v9 u0
      simp [Leaves, settle, results, Try.results21, go_sem, v0, v1, v2, v3, v4, v5, v6, v7, v8, v9, u0]
      exact HF2.out _ HK.out
    · subst he
      have hg2 := HG.out rfl
      have HG2 := Lib.hid hg2; clear hg2 HG HF
      have hh1 := HST.out.has (b := (b, 41, #[.int .i64 k, .int .i64 nd, .int .i64 n, .int .i64 0, .int .i64 0, .string ⟨#[]⟩, .string ⟨#[]⟩, .int .u64 0, .int .i64 0, .slice none 0 0])) (by simp)
      have hh2 := HST.out.has (b := (b + 1, 4, #[.bool false])) (by simp)
      have v0 := hh1.cell 0
      have v1 := hh1.cell 1
      have v2 := hh1.cell 2
      have v3 := hh1.cell 3
      have v4 := hh1.cell 4
      have v5 := hh1.cell 5
      have v6 := hh1.cell 6
      have v7 := hh1.cell 7
      have v8 := hh1.cell 8
      have v9 := hh1.cell 9
      have f0 := hh1.frozen 0
      have f1 := hh1.frozen 1
      have f2 := hh1.frozen 2
      have f3 := hh1.frozen 3
      have f4 := hh1.frozen 4
      have f5 := hh1.frozen 5
      have f6 := hh1.frozen 6
      have f7 := hh1.frozen 7
      have f8 := hh1.frozen 8
      have f9 := hh1.frozen 9
      have u0 := hh2.cell 0
      have g0 := hh2.frozen 0
      simp only [List.getElem?_toArray, List.getElem?_cons_zero, List.getElem?_cons_succ] at v0 v1 v2 v3 v4 v5 v6 v7 v8 v9 u0
      have HH := Lib.hid (And.intro hh1 hh2); clear hh1 hh2
      go_wp2_with fail
      refine (HM.out _).mono ?_
      rintro e w9 ⟨rfl, rfl⟩
      go_wp2_with fail
      clear v0 v1 v2 v3 v4 v5 v6 v7 v8 v9 u0 f0 f1 f2 f3 f4 f5 f6 f7 f8 f9 g0
      obtain ⟨W12, hW12⟩ : ∃ W12, (((((((((((w8.setCell ⟨b, 0, none⟩ (.int .i64 k)).setCell ⟨b, 1, none⟩ (.int .i64 nd)).setCell ⟨b, 2, none⟩ (.int .i64 n)).setCell ⟨b, 3, none⟩ (.int .i64 0)).setCell ⟨b, 4, none⟩ (.int .i64 0)).setCell ⟨b, 5, none⟩ (.string ⟨#[]⟩)).setCell ⟨b, 6, none⟩ (.string ⟨#[]⟩)).setCell ⟨b, 7, none⟩ (.int .u64 0)).setCell ⟨b, 8, none⟩ (.int .i64 0)).setCell ⟨b, 9, none⟩ (.slice none 0 0)).setCell ⟨b + 1, 0, none⟩ (.bool true)) = W12 := ⟨_, rfl⟩
      obtain ⟨hh1, hh2, hk12⟩ := store10 HH.out.1 HH.out.2 hW12
      rw [hW12]
      clear hW12
      refine leaves_cons (f := 38) (args := #[.pointer (some ⟨b, 0, none⟩), .pointer (some ⟨b + 1, 0, none⟩)]) (by simp) (by simp [go_sem]) ?_
      refine (idleRead _ b (b + 1)).mono ?_
      rintro e u w13 ⟨rfl, rfl, rfl⟩
      have hkw := HST.out.2.2.2.trans hk12 (fun j hj => by have := HB.out; rcases hj with h | h <;> (rw [h]; right; omega))
      have hfin := HG2.out ⟨bare k nd n, none, 0⟩ w13 rfl ⟨⟨rfl, .inl ⟨rfl, rfl⟩⟩, fun k hk => by cases hk⟩ hkw
      have v0 := hh1.cell 0
      have v1 := hh1.cell 1
      have v2 := hh1.cell 2
      have v3 := hh1.cell 3
      have v4 := hh1.cell 4
      have v5 := hh1.cell 5
      have v6 := hh1.cell 6
      have v7 := hh1.cell 7
      have v8 := hh1.cell 8
      have v9 := hh1.cell 9
      have u0 := hh2.cell 0
      simp only [List.getElem?_toArray, List.getElem?_cons_zero, List.getElem?_cons_succ] at v0 v1 v2 v3 v4 v5 v6 v7 v8 v9 u0
      have HFIN := Lib.hid hfin; clear hfin hkw hk12 hh1 hh2
      simp [Leaves, settle, results, Try.results21, go_sem, v0, v1, v2, v3, v4, v5, v6, v7, v8, v9, u0]
      exact HFIN.out
  · have hk0' := hk0
    subst hk0
    have hz0 : (((0 : Nat) : Int) == 0) = true := rfl
    have hfail := HFAIL.out
    have hgood := HGOOD.out
    rw [if_pos (by simp), askR_shift] at hfail hgood
    dsimp only at hfail hgood
    have ha := ask_any w7 g s (i3, 0) HST.out.1 hs
    unfold AskPost qagg at ha
    obtain ⟨X, hX⟩ : ∃ X, askR s 0 0 0 (i3, 0) = X := ⟨_, rfl⟩
    rw [hX] at ha hfail hgood
    obtain ⟨X, q⟩ := X
    dsimp only at ha hfail hgood
    have HF := Lib.hid hfail; clear hfail HFAIL
    have HG := Lib.hid hgood; clear hgood HGOOD hX
    have HA := Lib.hid ha; clear ha
    obtain ⟨xk, xnd, xn, ak, an, key, dst, tm, am, l⟩ := X
    dsimp only at HA HG HF
    clear hk0'
    go_wp2_with fail
    clear x0
    refine HA.out.mono ?_
    rintro e w8 ⟨⟨A, cap, rfl, hrd, hnew⟩ | ⟨c, rfl, hc⟩, hk8⟩
    rotate_left
    · have hb1 : Has w8 b 41 #[.int .i64 ((0 : Nat) : Int), .int .i64 nd, .int .i64 n, .int .i64 0, .int .i64 0, .string ⟨#[]⟩, .string ⟨#[]⟩, .int .u64 0, .int .i64 0, .slice none 0 0] := (HST.out.has (b := (b, 41, #[.int .i64 ((0 : Nat) : Int), .int .i64 nd, .int .i64 n, .int .i64 0, .int .i64 0, .string ⟨#[]⟩, .string ⟨#[]⟩, .int .u64 0, .int .i64 0, .slice none 0 0])) (by simp)).kept hk8 (by have := HBG.out; omega)
      have hb2 : Has w8 (b + 1) 4 #[.bool false] := (HST.out.has (b := (b + 1, 4, #[.bool false])) (by simp)).kept hk8 (by have := HBG.out; omega)
      have hkw8 : Kept NoF w w8 := HST.out.2.2.2.trans hk8 (fun j hj => by rw [hj]; exact .inr (by have := HB.out; have := HBG.out; omega))
      have hf := HF.out (by rw [rEnd_err hc]; exact hc)
      have HF2 := Lib.hid hf; clear hf HF HG hc
      have HHH := Lib.hid (And.intro hb1 (And.intro hb2 hkw8)); clear hb1 hb2 hkw8 hk8
      go_wp2_with fail
      refine leaves_cons (f := 38) (args := #[.pointer (some ⟨b, 0, none⟩), .pointer (some ⟨b + 1, 0, none⟩)]) (by simp) (by simp [go_sem]) ?_
      refine (catchRead _ b (b + 1) c [] _ _ _ _ _ _ _ _ _ _ _ HHH.out.1 HHH.out.2.1 (by omega)).mono ?_
      rintro e u w10 ⟨rfl, rfl, hh1, hh2, hk8⟩
      have hkw := HHH.out.2.2.trans hk8 (fun j hj => by have := HB.out; rcases hj with h | h <;> (rw [h]; right; omega))
      have HK := Lib.hid hkw; clear hkw hk8
      have v0 := hh1.cell 0
      have v1 := hh1.cell 1
      have v2 := hh1.cell 2
      have v3 := hh1.cell 3
      have v4 := hh1.cell 4
      have v5 := hh1.cell 5
      have v6 := hh1.cell 6
      have v7 := hh1.cell 7
      have v8 := hh1.cell 8
      have v9 := hh1.cell 9
      have u0 := hh2.cell 0
      simp only [zeroV, List.getElem?_toArray, List.getElem?_cons_zero, List.getElem?_cons_succ] at v0 v1 v2 v3 v4 v5 v6 v7 v8 v9 u0
      simp [Leaves, settle, results, Try.results21, go_sem, v0, v1, v2, v3, v4, v5, v6, v7, v8, v9, u0]
      exact HF2.out _ HK.out
    · have hb1 : Has w8 b 41 #[.int .i64 ((0 : Nat) : Int), .int .i64 nd, .int .i64 n, .int .i64 0, .int .i64 0, .string ⟨#[]⟩, .string ⟨#[]⟩, .int .u64 0, .int .i64 0, .slice none 0 0] := (HST.out.has (b := (b, 41, #[.int .i64 ((0 : Nat) : Int), .int .i64 nd, .int .i64 n, .int .i64 0, .int .i64 0, .string ⟨#[]⟩, .string ⟨#[]⟩, .int .u64 0, .int .i64 0, .slice none 0 0])) (by simp)).kept hk8 (by have := HBG.out; omega)
      have hb2 : Has w8 (b + 1) 4 #[.bool false] := (HST.out.has (b := (b + 1, 4, #[.bool false])) (by simp)).kept hk8 (by have := HBG.out; omega)
      have hkw8 : Kept NoF w w8 := HST.out.2.2.2.trans hk8 (fun j hj => by rw [hj]; exact .inr (by have := HB.out; have := HBG.out; omega))
      have hgw : g + 1 ≤ w7.heap.size := HST.out.1.1.lt
      have hnew2 : NewSl 55 3 (g + 1) w8 A l.length cap (cells l) := ⟨hnew.1, fun k hk => Nat.le_trans hgw (hnew.2 k hk)⟩
      obtain ⟨W9, hW9⟩ : ∃ W9, (((((((w8.setCell ⟨b, 3, none⟩ (.int .i64 ak)).setCell ⟨b, 4, none⟩ (.int .i64 an)).setCell ⟨b, 5, none⟩ (.string key)).setCell ⟨b, 6, none⟩ (.string dst)).setCell ⟨b, 7, none⟩ (.int .u64 tm)).setCell ⟨b, 8, none⟩ (.int .i64 am)).setCell ⟨b, 9, none⟩ (.slice A l.length cap)) = W9 := ⟨_, rfl⟩
      have hs7 := store7 hb1 hW9
      have v3 := hb1.cell 3
      have v4 := hb1.cell 4
      have v5 := hb1.cell 5
      have v6 := hb1.cell 6
      have v7 := hb1.cell 7
      have v8 := hb1.cell 8
      have v9 := hb1.cell 9
      have f3 := hb1.frozen 3
      have f4 := hb1.frozen 4
      have f5 := hb1.frozen 5
      have f6 := hb1.frozen 6
      have f7 := hb1.frozen 7
      have f8 := hb1.frozen 8
      have f9 := hb1.frozen 9
      simp only [List.getElem?_toArray, List.getElem?_cons_zero, List.getElem?_cons_succ] at v3 v4 v5 v6 v7 v8 v9
      have hst : SB NoF w (fun W => RdAt W g s q) [(b, 41, #[.int .i64 0, .int .i64 nd, .int .i64 n, .int .i64 ak, .int .i64 an, .string key, .string dst, .int .u64 tm, .int .i64 am, .slice A l.length cap]), (b + 1, 4, #[.bool false])] (g + 1) A cap l W9 := by
        refine ⟨hrd.kept hs7.2 (by have := HBG.out; omega), ?_, ⟨own_kept hnew2.1 hs7.2 (fun k hk e => by have := hnew2.2 k hk; have := HBG.out; omega), hnew2.2⟩, hkw8.trans hs7.2 (fun j hj => by rw [hj]; exact .inr (by have := HB.out; omega))⟩
        intro z hz
        simp only [List.mem_cons, List.not_mem_nil, or_false] at hz
        rcases hz with rfl | rfl
        · exact hs7.1
        · exact hb2.kept hs7.2 (by omega)
      clear HST hrd hnew hnew2 hk8 hkw8 hb1 hb2 hs7
      have HST := Lib.hid hst; clear hst
      have HW9 := Lib.hid hW9; clear hW9
      go_wp2_with fail
      rw [HW9.out]
      clear v3 v4 v5 v6 v7 v8 v9 f3 f4 f5 f6 f7 f8 f9
      refine (end_any _ g s q HST.out.1 hs).mono ?_
      rintro e w10 ⟨rfl, hk10⟩
      have hst := SB.keep (rdK_r g s q) HST.out hk10
      clear HST hk10
      have HST := Lib.hid hst; clear hst
      obtain ⟨er, her⟩ : ∃ er, rEnd s q = er := ⟨_, rfl⟩
      rw [her] at HF HG ⊢
      clear her
      by_cases he : er = 0
      rotate_left
      · have hm := must_no er he
        have hf := HF.out he
        have HM := Lib.hid hm; clear hm
        have HF2 := Lib.hid hf; clear hf HF HG he
        go_wp2_with fail
        refine (HM.out _).mono ?_
        rintro e w11 ⟨rfl, rfl⟩
        go_wp2_with fail
        refine leaves_cons (f := 38) (args := #[.pointer (some ⟨b, 0, none⟩), .pointer (some ⟨b + 1, 0, none⟩)]) (by simp) (by simp [go_sem]) ?_
        refine (catchRead _ b (b + 1) er [] _ _ _ _ _ _ _ _ _ _ _ (HST.out.has (b := (b, 41, #[.int .i64 0, .int .i64 nd, .int .i64 n, .int .i64 ak, .int .i64 an, .string key, .string dst, .int .u64 tm, .int .i64 am, .slice A l.length cap])) (by simp)) (HST.out.has (b := (b + 1, 4, #[.bool false])) (by simp)) (by omega)).mono ?_
        rintro e u w12 ⟨rfl, rfl, hh1, hh2, hk8⟩
        have hkw := HST.out.2.2.2.trans hk8 (fun j hj => by have := HB.out; rcases hj with h | h <;> (rw [h]; right; omega))
        have HK := Lib.hid hkw; clear hkw hk8
        have v0 := hh1.cell 0
        have v1 := hh1.cell 1
        have v2 := hh1.cell 2
        have v3 := hh1.cell 3
        have v4 := hh1.cell 4
        have v5 := hh1.cell 5
        have v6 := hh1.cell 6
        have v7 := hh1.cell 7
        have v8 := hh1.cell 8
        have v9 := hh1.cell 9
        have u0 := hh2.cell 0
        simp only [zeroV, List.getElem?_toArray, List.getElem?_cons_zero, List.getElem?_cons_succ] at v0 v1 v2 v3 v4 v5 v6 v7 v8 v9 u0
        simp [Leaves, settle, results, Try.results21, go_sem, v0, v1, v2, v3, v4, v5, v6, v7, v8, v9, u0]
        exact HF2.out _ HK.out
      · subst he
        have hg2 := HG.out rfl
        have HG2 := Lib.hid hg2; clear hg2 HG HF
        have hh1 := HST.out.has (b := (b, 41, #[.int .i64 0, .int .i64 nd, .int .i64 n, .int .i64 ak, .int .i64 an, .string key, .string dst, .int .u64 tm, .int .i64 am, .slice A l.length cap])) (by simp)
        have hh2 := HST.out.has (b := (b + 1, 4, #[.bool false])) (by simp)
        have v0 := hh1.cell 0
        have v1 := hh1.cell 1
        have v2 := hh1.cell 2
        have v3 := hh1.cell 3
        have v4 := hh1.cell 4
        have v5 := hh1.cell 5
        have v6 := hh1.cell 6
        have v7 := hh1.cell 7
        have v8 := hh1.cell 8
        have v9 := hh1.cell 9
        have f0 := hh1.frozen 0
        have f1 := hh1.frozen 1
        have f2 := hh1.frozen 2
        have f3 := hh1.frozen 3
        have f4 := hh1.frozen 4
        have f5 := hh1.frozen 5
        have f6 := hh1.frozen 6
        have f7 := hh1.frozen 7
        have f8 := hh1.frozen 8
        have f9 := hh1.frozen 9
        have u0 := hh2.cell 0
        have g0 := hh2.frozen 0
        simp only [List.getElem?_toArray, List.getElem?_cons_zero, List.getElem?_cons_succ] at v0 v1 v2 v3 v4 v5 v6 v7 v8 v9 u0
        have HH := Lib.hid (And.intro hh1 hh2); clear hh1 hh2
        go_wp2_with fail
        refine (HM.out _).mono ?_
        rintro e w11 ⟨rfl, rfl⟩
        go_wp2_with fail
        clear v0 v1 v2 v3 v4 v5 v6 v7 v8 v9 u0 f0 f1 f2 f3 f4 f5 f6 f7 f8 f9 g0
        obtain ⟨W12, hW12⟩ : ∃ W12, (((((((((((w10.setCell ⟨b, 0, none⟩ (.int .i64 0)).setCell ⟨b, 1, none⟩ (.int .i64 nd)).setCell ⟨b, 2, none⟩ (.int .i64 n)).setCell ⟨b, 3, none⟩ (.int .i64 ak)).setCell ⟨b, 4, none⟩ (.int .i64 an)).setCell ⟨b, 5, none⟩ (.string key)).setCell ⟨b, 6, none⟩ (.string dst)).setCell ⟨b, 7, none⟩ (.int .u64 tm)).setCell ⟨b, 8, none⟩ (.int .i64 am)).setCell ⟨b, 9, none⟩ (.slice A l.length cap)).setCell ⟨b + 1, 0, none⟩ (.bool true)) = W12 := ⟨_, rfl⟩
        obtain ⟨hh1, hh2, hk12⟩ := store10 HH.out.1 HH.out.2 hW12
        rw [hW12]
        clear hW12
        refine leaves_cons (f := 38) (args := #[.pointer (some ⟨b, 0, none⟩), .pointer (some ⟨b + 1, 0, none⟩)]) (by simp) (by simp [go_sem]) ?_
        refine (idleRead _ b (b + 1)).mono ?_
        rintro e u w13 ⟨rfl, rfl, rfl⟩
        have hkw := HST.out.2.2.2.trans hk12 (fun j hj => by have := HB.out; rcases hj with h | h <;> (rw [h]; right; omega))
        have hfin := HG2.out ⟨⟨0, nd, n, ak, an, key, dst, tm, am, l⟩, A, cap⟩ w13 rfl ⟨own_kept HST.out.2.2.1.1 hk12 (fun k hk e => by have := HST.out.2.2.1.2 k hk; have := HBG.out; omega), fun k hk => by have := HST.out.2.2.1.2 k hk; have := HB.out; have := HBG.out; omega⟩ hkw
        have v0 := hh1.cell 0
        have v1 := hh1.cell 1
        have v2 := hh1.cell 2
        have v3 := hh1.cell 3
        have v4 := hh1.cell 4
        have v5 := hh1.cell 5
        have v6 := hh1.cell 6
        have v7 := hh1.cell 7
        have v8 := hh1.cell 8
        have v9 := hh1.cell 9
        have u0 := hh2.cell 0
        simp only [List.getElem?_toArray, List.getElem?_cons_zero, List.getElem?_cons_succ] at v0 v1 v2 v3 v4 v5 v6 v7 v8 v9 u0
        have HFIN := Lib.hid hfin; clear hfin hkw hk12 hh1 hh2
        simp [Leaves, settle, results, Try.results21, go_sem, v0, v1, v2, v3, v4, v5, v6, v7, v8, v9, u0]
        exact HFIN.out
end Scr
end Go.Proofs.Ytfobbocaodppeaa
