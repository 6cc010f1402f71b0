/- catenaref40.read: the document's step of a piece. -/
import Derived.Test.YtfobbocaodppeaaScr12
import Derived.Test.YtfobbocaodppeaaRead8
import Derived.Deep.RegionHeld3
set_option linter.unusedSimpArgs false
set_option linter.unusedVariables false
namespace Go.Proofs.Ytfobbocaodppeaa
open Go.RowKit
set_option maxRecDepth 100000
namespace Scr
open Ops Vn Wire
theorem rdK_d (g : Nat) (s : ByteArray) (r : RS) : RdK g (fun W => DdAt W g s r) := fun _ _ _ h hk hf => ⟨h.1.kept hk hf, h.2⟩
theorem SB.readD {FP : Nat → Prop} {w W W' : World} {g B cap : Nat} {bs : List KB} {A : Option Addr} {l : List OpR} {v : Value} {e : Ending} {s : ByteArray} {r r' : RS} (o : OrdB FP w g B (bs.map (·.1))) (h : SB FP w (fun W => DdAt W g s r) bs B A cap l W) (hr : DRead W g s v r' e W') : e = .returned v ∧ SB FP w (fun W => DdAt W g s r') bs B A cap l W' ∧ Kept (fun k => k = g) W W' :=
  SB.read (rd' := fun W => DdAt W g s r') o h hr
set_option maxHeartbeats 16000000 in
theorem rread_any (w : World) (s : ByteArray) (hs : s.size ≤ maxLen) : Calls Try.prog 22 #[.string s] w (ReadPost w s) := by
  obtain ⟨q1, hq1⟩ : ∃ q, rNum s 1073741824 (0, 0) = q := ⟨_, rfl⟩
  obtain ⟨q2, hq2⟩ : ∃ q, rNum s 1073741824 q1.2 = q := ⟨_, rfl⟩
  obtain ⟨q3, hq3⟩ : ∃ q, rNum s 1073741824 q2.2 = q := ⟨_, rfl⟩
  have hread : readR s = if q3.2.2 = 0 ∧ q1.1 = 0 then askR s q1.1 q2.1 q3.1 q3.2 else (bare q1.1 q2.1 q3.1, q3.2) := by
    unfold readR
    simp only [hq1, hq2, hq3]
  obtain ⟨k, r1⟩ := q1
  obtain ⟨nd, r2⟩ := q2
  obtain ⟨n, r3⟩ := q3
  dsimp only at hq2 hq3 hread
  obtain ⟨R, hR⟩ : ∃ R, ReadPost w s = R := ⟨_, rfl⟩
  rw [hR]
  have hpost : ∀ (ev : EvR) (q : RS) W, ((readR s).2 = q ∧ ev.x = (readR s).1 ∧ NewSl 55 3 w.heap.size W ev.A ev.x.ops.length ev.c (cells ev.x.ops) ∨ (readR s).2 = q ∧ q.2 ≠ 0) → Kept NoF w W → R (.returned (.tuple #[vagg ev, .bool (rEnd s q == 0)])) W := fun ev q W h hW => by
    rw [← hR]
    rcases h with ⟨h1, h2, h3⟩ | ⟨h1, h2⟩
    · by_cases h0 : rEnd s q = 0
      · have hy : readE s = some (readR s).1 := by unfold readE; rw [h1, if_pos h0]
        refine ⟨⟨ev, by rw [hy, h0]; rfl, fun x hx => ?_⟩, hW⟩
        rw [hy] at hx
        injection hx with hx
        exact ⟨h2.trans hx, h3⟩
      · have hn : readE s = none := by unfold readE; rw [h1, if_neg h0]
        have hb : (rEnd s q == 0) = false := by simpa using h0
        exact ⟨⟨ev, by rw [hn, hb]; rfl, fun x hx => by rw [hn] at hx; cases hx⟩, hW⟩
    · have h0 : rEnd s q ≠ 0 := by rw [rEnd_err h2]; exact h2
      have hn : readE s = none := by unfold readE; rw [h1, if_neg h0]
      have hb : (rEnd s q == 0) = false := by simpa using h0
      exact ⟨⟨ev, by rw [hn, hb]; rfl, fun x hx => by rw [hn] at hx; cases hx⟩, hW⟩
  rw [hread] at hpost
  have HPOST := Lib.hid hpost; clear hpost hR hread
  have HQ := Lib.hid (And.intro hq1 (And.intro hq2 hq3)); clear hq1 hq2 hq3
  obtain ⟨b, hb⟩ : ∃ b, w.heap.size = b := ⟨_, rfl⟩
  obtain ⟨W1, hW1⟩ : ∃ W1, (((w.alloc (.cells #[.int .i64 0, .int .i64 0, .int .i64 0, .int .i64 0, .int .i64 0, .string ⟨#[]⟩, .string ⟨#[]⟩, .int .u64 0, .int .i64 0, .slice none 0 0] 41)).alloc (.cells #[.string s, .int .i64 0, .int .i64 0] 89)).alloc (.cells #[.int .i64 0, .int .i64 0, .int .i64 0, .int .i64 0, .int .i64 0, .string ⟨#[]⟩, .string ⟨#[]⟩, .int .u64 0, .int .i64 0, .slice none 0 0] 41)) = W1 := ⟨_, rfl⟩
  have o0 : OrdB NoF w (b + 1) (b + 1 + 1 + 1) [b + 1 + 1, b] := ⟨.inr (by omega), by omega, by omega, by intro k hk; simp at hk; omega⟩
  have hst : SB NoF w (fun W => DdAt W (b + 1) s (0, 0)) [(b + 1 + 1, 41, #[.int .i64 0, .int .i64 0, .int .i64 0, .int .i64 0, .int .i64 0, .string ⟨#[]⟩, .string ⟨#[]⟩, .int .u64 0, .int .i64 0, .slice none 0 0]), (b, 41, #[.int .i64 0, .int .i64 0, .int .i64 0, .int .i64 0, .int .i64 0, .string ⟨#[]⟩, .string ⟨#[]⟩, .int .u64 0, .int .i64 0, .slice none 0 0])] (b + 1 + 1 + 1) none 0 [] W1 := by
    rw [← hW1]
    subst hb
    refine ⟨⟨(Has.new_at _ _ _ (by simp)).alloc _, Nat.zero_le _⟩, ?_, ⟨⟨rfl, .inl ⟨rfl, rfl⟩⟩, fun k hk => by cases hk⟩, by (repeat' (first | with_reducible exact Kept.refl _ _ | with_reducible refine Kept.put ?_ ?_ | with_reducible refine Kept.drewN ?_ _ | with_reducible refine Kept.drew ?_ | with_reducible refine Kept.alloc ?_ _ | (fail) | (right; simp; done)))⟩
    intro z hz
    simp only [List.mem_cons, List.not_mem_nil, or_false] at hz
    rcases hz with rfl | rfl
    · exact Has.new_at _ _ _ (by simp)
    · exact ((Has.new _ _ _).alloc _).alloc _
  have HW1 := Lib.hid hW1; clear hW1
  have HB := Lib.hid hb
  have hnx : b + 1 + 1 ∉ [b] := by simp; omega
  have HNX := Lib.hid hnx; clear hnx
  obtain ⟨x, hx⟩ : ∃ x, b + 1 + 1 = x := ⟨_, rfl⟩
  obtain ⟨g, hg⟩ : ∃ g, b + 1 = g := ⟨_, rfl⟩
  have hxg : x = g + 1 ∧ g = b + 1 := by omega
  have HXG := Lib.hid hxg; clear hxg
  rw [hx] at o0 hst HNX
  rw [hg] at o0 hst
  have HO := Lib.hid o0; clear o0
  have HST := Lib.hid hst; clear hst
  have HXX := Lib.hid hx
  have HGG := Lib.hid hg
  clear hx hg
  go_enter Try.func22, Try.ntmps22
  go_wp2_with fail
  rw [HW1.out, HXX.out, HGG.out]
  clear hb
  refine (dnum_any _ g s (0, 0) 1073741824 HST.out.1 hs (by decide)).mono ?_
  intro e w4 hrd
  obtain ⟨rfl, hst, hk⟩ := SB.readD HO.out HST.out hrd
  rw [HQ.out.1] at hst ⊢
  dsimp only at hst ⊢
  clear HST hrd hk
  have hX := hst.has (b := (x, 41, #[.int .i64 0, .int .i64 0, .int .i64 0, .int .i64 0, .int .i64 0, .string ⟨#[]⟩, .string ⟨#[]⟩, .int .u64 0, .int .i64 0, .slice none 0 0])) (by simp)
  have xv := hX.cell 0
  have xf := hX.frozen 0
  simp only [List.getElem?_toArray, List.getElem?_cons_zero, List.getElem?_cons_succ] at xv
  have hst2 := SB.setx (cs' := #[.int .i64 k, .int .i64 0, .int .i64 0, .int .i64 0, .int .i64 0, .string ⟨#[]⟩, .string ⟨#[]⟩, .int .u64 0, .int .i64 0, .slice none 0 0]) (i := 0) (u := .int .i64 k) (rdK_d g s r1) HO.out HNX.out hst rfl
  have HST := Lib.hid hst2; clear hst2 hst hX
  go_wp2_with fail
  clear xv xf
  refine (dnum_any _ g s r1 1073741824 HST.out.1 hs (by decide)).mono ?_
  intro e w5 hrd
  obtain ⟨rfl, hst, hk⟩ := SB.readD HO.out HST.out hrd
  rw [HQ.out.2.1] at hst ⊢
  dsimp only at hst ⊢
  clear HST hrd hk
  have hX := hst.has (b := (x, 41, #[.int .i64 k, .int .i64 0, .int .i64 0, .int .i64 0, .int .i64 0, .string ⟨#[]⟩, .string ⟨#[]⟩, .int .u64 0, .int .i64 0, .slice none 0 0])) (by simp)
  have xv := hX.cell 1
  have xf := hX.frozen 1
  simp only [List.getElem?_toArray, List.getElem?_cons_zero, List.getElem?_cons_succ] at xv
  have hst2 := SB.setx (cs' := #[.int .i64 k, .int .i64 nd, .int .i64 0, .int .i64 0, .int .i64 0, .string ⟨#[]⟩, .string ⟨#[]⟩, .int .u64 0, .int .i64 0, .slice none 0 0]) (i := 1) (u := .int .i64 nd) (rdK_d g s r2) HO.out HNX.out hst rfl
  have HST := Lib.hid hst2; clear hst2 hst hX
  go_wp2_with fail
  clear xv xf
  refine (dnum_any _ g s r2 1073741824 HST.out.1 hs (by decide)).mono ?_
  intro e w6 hrd
  obtain ⟨rfl, hst, hk⟩ := SB.readD HO.out HST.out hrd
  rw [HQ.out.2.2] at hst ⊢
  dsimp only at hst ⊢
  clear HST hrd hk
  have hX := hst.has (b := (x, 41, #[.int .i64 k, .int .i64 nd, .int .i64 0, .int .i64 0, .int .i64 0, .string ⟨#[]⟩, .string ⟨#[]⟩, .int .u64 0, .int .i64 0, .slice none 0 0])) (by simp)
  have xv := hX.cell 2
  have xf := hX.frozen 2
  simp only [List.getElem?_toArray, List.getElem?_cons_zero, List.getElem?_cons_succ] at xv
  have hst2 := SB.setx (cs' := #[.int .i64 k, .int .i64 nd, .int .i64 n, .int .i64 0, .int .i64 0, .string ⟨#[]⟩, .string ⟨#[]⟩, .int .u64 0, .int .i64 0, .slice none 0 0]) (i := 2) (u := .int .i64 n) (rdK_d g s r3) HO.out HNX.out hst rfl
  have HST := Lib.hid hst2; clear hst2 hst hX
  obtain ⟨i3, er3⟩ := r3
  have hd := HST.out.1.1
  have re := hd.cell 2
  have xk := (HST.out.has (b := (x, 41, #[.int .i64 k, .int .i64 nd, .int .i64 n, .int .i64 0, .int .i64 0, .string ⟨#[]⟩, .string ⟨#[]⟩, .int .u64 0, .int .i64 0, .slice none 0 0])) (by simp)).cell 0
  simp only [List.getElem?_toArray, List.getElem?_cons_zero, List.getElem?_cons_succ] at re xk
  clear hd
  by_cases he : er3 = 0
  rotate_left
  · have q1 : (er3 == 0) = false := by simpa using he
    have hp := HPOST.out
    rw [if_neg (fun z => he z.1)] at hp
    clear HPOST
    have HPOST := Lib.hid hp; clear hp
    go_wp2_with fail
    clear re xk
    have hX := HST.out.has (b := (x, 41, #[.int .i64 k, .int .i64 nd, .int .i64 n, .int .i64 0, .int .i64 0, .string ⟨#[]⟩, .string ⟨#[]⟩, .int .u64 0, .int .i64 0, .slice none 0 0])) (by simp)
    have a0 := hX.cell 0
    have a1 := hX.cell 1
    have a2 := hX.cell 2
    have a3 := hX.cell 3
    have a4 := hX.cell 4
    have a5 := hX.cell 5
    have a6 := hX.cell 6
    have a7 := hX.cell 7
    have a8 := hX.cell 8
    have a9 := hX.cell 9
    simp only [List.getElem?_toArray, List.getElem?_cons_zero, List.getElem?_cons_succ] at a0 a1 a2 a3 a4 a5 a6 a7 a8 a9
    clear hX
    have hsy : ∀ wE, Kept NoF ((w6.setCell ⟨x, 2, none⟩ (.int .i64 n))) wE → (SB NoF w (fun W => DdAt W g s (i3, er3)) [(x, 41, #[.int .i64 k, .int .i64 nd, .int .i64 n, .int .i64 0, .int .i64 0, .string ⟨#[]⟩, .string ⟨#[]⟩, .int .u64 0, .int .i64 0, .slice none 0 0]), (b, 41, #[.int .i64 0, .int .i64 0, .int .i64 0, .int .i64 0, .int .i64 0, .string ⟨#[]⟩, .string ⟨#[]⟩, .int .u64 0, .int .i64 0, .slice none 0 0])] (x + 1) none 0 [] wE ∧ (wE.cell? ⟨x, 0, none⟩ = some (.int .i64 k) ∧ wE.cell? ⟨x, 1, none⟩ = some (.int .i64 nd) ∧ wE.cell? ⟨x, 2, none⟩ = some (.int .i64 n) ∧ wE.cell? ⟨x, 3, none⟩ = some (.int .i64 0) ∧ wE.cell? ⟨x, 4, none⟩ = some (.int .i64 0) ∧ wE.cell? ⟨x, 5, none⟩ = some (.string ⟨#[]⟩) ∧ wE.cell? ⟨x, 6, none⟩ = some (.string ⟨#[]⟩) ∧ wE.cell? ⟨x, 7, none⟩ = some (.int .u64 0) ∧ wE.cell? ⟨x, 8, none⟩ = some (.int .i64 0) ∧ wE.cell? ⟨x, 9, none⟩ = some (.slice none 0 0)) ∧ (wE.cell? ⟨b, 0, none⟩ = some (.int .i64 0) ∧ wE.cell? ⟨b, 1, none⟩ = some (.int .i64 0) ∧ wE.cell? ⟨b, 2, none⟩ = some (.int .i64 0) ∧ wE.cell? ⟨b, 3, none⟩ = some (.int .i64 0) ∧ wE.cell? ⟨b, 4, none⟩ = some (.int .i64 0) ∧ wE.cell? ⟨b, 5, none⟩ = some (.string ⟨#[]⟩) ∧ wE.cell? ⟨b, 6, none⟩ = some (.string ⟨#[]⟩) ∧ wE.cell? ⟨b, 7, none⟩ = some (.int .u64 0) ∧ wE.cell? ⟨b, 8, none⟩ = some (.int .i64 0) ∧ wE.cell? ⟨b, 9, none⟩ = some (.slice none 0 0)) ∧ ∀ i, wE.frozen? ⟨b, i, none⟩ = false) := fun wE hkE => by
      have h1 := SB.keep (rdK_d g s (i3, er3)) HST.out hkE
      have h2 := h1.has (b := (b, 41, #[.int .i64 0, .int .i64 0, .int .i64 0, .int .i64 0, .int .i64 0, .string ⟨#[]⟩, .string ⟨#[]⟩, .int .u64 0, .int .i64 0, .slice none 0 0])) (by simp)
      have h3 := h1.has (b := (x, 41, #[.int .i64 k, .int .i64 nd, .int .i64 n, .int .i64 0, .int .i64 0, .string ⟨#[]⟩, .string ⟨#[]⟩, .int .u64 0, .int .i64 0, .slice none 0 0])) (by simp)
      exact ⟨h1, ⟨h3.cell 0, h3.cell 1, h3.cell 2, h3.cell 3, h3.cell 4, h3.cell 5, h3.cell 6, h3.cell 7, h3.cell 8, h3.cell 9⟩, ⟨h2.cell 0, h2.cell 1, h2.cell 2, h2.cell 3, h2.cell 4, h2.cell 5, h2.cell 6, h2.cell 7, h2.cell 8, h2.cell 9⟩, fun i => h2.frozen i⟩
    have HSY := Lib.hid hsy; clear hsy
    have hfin := fun wE wF (h1 : SB NoF w (fun W => DdAt W g s (i3, er3)) [(x, 41, #[.int .i64 k, .int .i64 nd, .int .i64 n, .int .i64 0, .int .i64 0, .string ⟨#[]⟩, .string ⟨#[]⟩, .int .u64 0, .int .i64 0, .slice none 0 0]), (b, 41, #[.int .i64 0, .int .i64 0, .int .i64 0, .int .i64 0, .int .i64 0, .string ⟨#[]⟩, .string ⟨#[]⟩, .int .u64 0, .int .i64 0, .slice none 0 0])] (x + 1) none 0 [] wE) (h2 : Kept (fun k => k = b) wE wF) => HPOST.out ⟨bare k nd n, none, 0⟩ (i3, er3) wF (by have hb2 := HB.out; have hxg := HXG.out; exact .inr ⟨rfl, he⟩) (h1.2.2.2.trans h2 (fun j hj => by rw [hj]; exact .inr (by have := HB.out; omega)))
    unfold vagg at hfin
    dsimp only at hfin
    obtain ⟨er, her⟩ : ∃ er, rEnd s (i3, er3) = er := ⟨_, rfl⟩
    have hde := fun W (hW : DdAt W g s (i3, er3)) => dend_any W g s (i3, er3) hW hs
    rw [her] at hfin hde
    have HFIN := Lib.hid hfin; clear hfin
    have hxb : ¬ x = b := by have := HXG.out; omega
    have HDE := Lib.hid hde; clear hde her
    go_region_held3 (fun W => W.cell? ⟨x, 0, none⟩ = some (.int .i64 k) ∧ W.cell? ⟨x, 1, none⟩ = some (.int .i64 nd) ∧ W.cell? ⟨x, 2, none⟩ = some (.int .i64 n) ∧ W.cell? ⟨x, 3, none⟩ = some (.int .i64 0) ∧ W.cell? ⟨x, 4, none⟩ = some (.int .i64 0) ∧ W.cell? ⟨x, 5, none⟩ = some (.string ⟨#[]⟩) ∧ W.cell? ⟨x, 6, none⟩ = some (.string ⟨#[]⟩) ∧ W.cell? ⟨x, 7, none⟩ = some (.int .u64 0) ∧ W.cell? ⟨x, 8, none⟩ = some (.int .i64 0) ∧ W.cell? ⟨x, 9, none⟩ = some (.slice none 0 0))
      (first | with_reducible exact ⟨e0, e1, e2, e3, e4, e5, e6, e7, e8, e9⟩ | (simp [go_sem, e0, e1, e2, e3, e4, e5, e6, e7, e8, e9, hxb]; done) | with_reducible exact ⟨a0, a1, a2, a3, a4, a5, a6, a7, a8, a9⟩ | (simp [go_sem, a0, a1, a2, a3, a4, a5, a6, a7, a8, a9]; done))
      (first | (go_at_call 49; refine (HDE.out _ (by exact HST.out.1)).mono ?_; rintro e wE ⟨rfl, hkE⟩; have hkE2 := Kept.then (a := (w6.setCell ⟨x, 2, none⟩ (.int .i64 n))) (by (repeat' (first | with_reducible exact Kept.refl _ _ | with_reducible refine Kept.put ?_ ?_ | with_reducible refine Kept.drewN ?_ _ | with_reducible refine Kept.drew ?_ | with_reducible refine Kept.alloc ?_ _ | (fail) | (right; simp; done)))) hkE; obtain ⟨hstE, ⟨e0, e1, e2, e3, e4, e5, e6, e7, e8, e9⟩, ⟨y0, y1, y2, y3, y4, y5, y6, y7, y8, y9⟩, yf⟩ := HSY.out _ hkE2; have yf0 := yf 0; have yf1 := yf 1; have yf2 := yf 2; have yf3 := yf 3; have yf4 := yf 4; have yf5 := yf 5; have yf6 := yf 6; have yf7 := yf 7; have yf8 := yf 8; have yf9 := yf 9; have HSTE := Lib.hid hstE; clear hkE hkE2 hstE yf))
    go_wp2
    obtain ⟨WF, hWF⟩ : ∃ WF, ((((((((((wE.setCell ⟨b, 0, none⟩ (.int .i64 k)).setCell ⟨b, 1, none⟩ (.int .i64 nd)).setCell ⟨b, 2, none⟩ (.int .i64 n)).setCell ⟨b, 3, none⟩ (.int .i64 0)).setCell ⟨b, 4, none⟩ (.int .i64 0)).setCell ⟨b, 5, none⟩ (.string ⟨#[]⟩)).setCell ⟨b, 6, none⟩ (.string ⟨#[]⟩)).setCell ⟨b, 7, none⟩ (.int .u64 0)).setCell ⟨b, 8, none⟩ (.int .i64 0)).setCell ⟨b, 9, none⟩ (.slice none 0 0)) = WF := ⟨_, rfl⟩
    obtain ⟨hh1, hkF⟩ := storeE (HSTE.out.has (b := (b, 41, #[.int .i64 0, .int .i64 0, .int .i64 0, .int .i64 0, .int .i64 0, .string ⟨#[]⟩, .string ⟨#[]⟩, .int .u64 0, .int .i64 0, .slice none 0 0])) (by simp)) hWF
    rw [hWF]
    clear hWF
    have hf := HFIN.out _ _ HSTE.out hkF
    have HF := Lib.hid hf; clear hf
    have v0 := hh1.cell 0
    have v1 := hh1.cell 1
    have v2 := hh1.cell 2
    have v3 := hh1.cell 3
    have v4 := hh1.cell 4
    have v5 := hh1.cell 5
    have v6 := hh1.cell 6
    have v7 := hh1.cell 7
    have v8 := hh1.cell 8
    have v9 := hh1.cell 9
    simp only [List.getElem?_toArray, List.getElem?_cons_zero, List.getElem?_cons_succ] at v0 v1 v2 v3 v4 v5 v6 v7 v8 v9
    refine bodyPost_ret (v := .tuple #[.agg #[.int .i64 k, .int .i64 nd, .int .i64 n, .int .i64 0, .int .i64 0, .string ⟨#[]⟩, .string ⟨#[]⟩, .int .u64 0, .int .i64 0, .slice none 0 0], .bool (er == 0)]) (by simp [results, Try.results22, go_sem, v0, v1, v2, v3, v4, v5, v6, v7, v8, v9]) rfl ?_
    exact HF.out
  subst he
  by_cases hk0 : k = 0
  rotate_left
  · have q1 : ((k : Int) == 0) = false := by simpa using hk0
    have hp := HPOST.out
    rw [if_neg (fun z => hk0 z.2)] at hp
    clear HPOST
    have HPOST := Lib.hid hp; clear hp
    go_wp2_with fail
    clear re xk
    have hX := HST.out.has (b := (x, 41, #[.int .i64 k, .int .i64 nd, .int .i64 n, .int .i64 0, .int .i64 0, .string ⟨#[]⟩, .string ⟨#[]⟩, .int .u64 0, .int .i64 0, .slice none 0 0])) (by simp)
    have a0 := hX.cell 0
    have a1 := hX.cell 1
    have a2 := hX.cell 2
    have a3 := hX.cell 3
    have a4 := hX.cell 4
    have a5 := hX.cell 5
    have a6 := hX.cell 6
    have a7 := hX.cell 7
    have a8 := hX.cell 8
    have a9 := hX.cell 9
    simp only [List.getElem?_toArray, List.getElem?_cons_zero, List.getElem?_cons_succ] at a0 a1 a2 a3 a4 a5 a6 a7 a8 a9
    clear hX
    have hsy : ∀ wE, Kept NoF ((w6.setCell ⟨x, 2, none⟩ (.int .i64 n))) wE → (SB NoF w (fun W => DdAt W g s (i3, 0)) [(x, 41, #[.int .i64 k, .int .i64 nd, .int .i64 n, .int .i64 0, .int .i64 0, .string ⟨#[]⟩, .string ⟨#[]⟩, .int .u64 0, .int .i64 0, .slice none 0 0]), (b, 41, #[.int .i64 0, .int .i64 0, .int .i64 0, .int .i64 0, .int .i64 0, .string ⟨#[]⟩, .string ⟨#[]⟩, .int .u64 0, .int .i64 0, .slice none 0 0])] (x + 1) none 0 [] wE ∧ (wE.cell? ⟨x, 0, none⟩ = some (.int .i64 k) ∧ wE.cell? ⟨x, 1, none⟩ = some (.int .i64 nd) ∧ wE.cell? ⟨x, 2, none⟩ = some (.int .i64 n) ∧ wE.cell? ⟨x, 3, none⟩ = some (.int .i64 0) ∧ wE.cell? ⟨x, 4, none⟩ = some (.int .i64 0) ∧ wE.cell? ⟨x, 5, none⟩ = some (.string ⟨#[]⟩) ∧ wE.cell? ⟨x, 6, none⟩ = some (.string ⟨#[]⟩) ∧ wE.cell? ⟨x, 7, none⟩ = some (.int .u64 0) ∧ wE.cell? ⟨x, 8, none⟩ = some (.int .i64 0) ∧ wE.cell? ⟨x, 9, none⟩ = some (.slice none 0 0)) ∧ (wE.cell? ⟨b, 0, none⟩ = some (.int .i64 0) ∧ wE.cell? ⟨b, 1, none⟩ = some (.int .i64 0) ∧ wE.cell? ⟨b, 2, none⟩ = some (.int .i64 0) ∧ wE.cell? ⟨b, 3, none⟩ = some (.int .i64 0) ∧ wE.cell? ⟨b, 4, none⟩ = some (.int .i64 0) ∧ wE.cell? ⟨b, 5, none⟩ = some (.string ⟨#[]⟩) ∧ wE.cell? ⟨b, 6, none⟩ = some (.string ⟨#[]⟩) ∧ wE.cell? ⟨b, 7, none⟩ = some (.int .u64 0) ∧ wE.cell? ⟨b, 8, none⟩ = some (.int .i64 0) ∧ wE.cell? ⟨b, 9, none⟩ = some (.slice none 0 0)) ∧ ∀ i, wE.frozen? ⟨b, i, none⟩ = false) := fun wE hkE => by
      have h1 := SB.keep (rdK_d g s (i3, 0)) HST.out hkE
      have h2 := h1.has (b := (b, 41, #[.int .i64 0, .int .i64 0, .int .i64 0, .int .i64 0, .int .i64 0, .string ⟨#[]⟩, .string ⟨#[]⟩, .int .u64 0, .int .i64 0, .slice none 0 0])) (by simp)
      have h3 := h1.has (b := (x, 41, #[.int .i64 k, .int .i64 nd, .int .i64 n, .int .i64 0, .int .i64 0, .string ⟨#[]⟩, .string ⟨#[]⟩, .int .u64 0, .int .i64 0, .slice none 0 0])) (by simp)
      exact ⟨h1, ⟨h3.cell 0, h3.cell 1, h3.cell 2, h3.cell 3, h3.cell 4, h3.cell 5, h3.cell 6, h3.cell 7, h3.cell 8, h3.cell 9⟩, ⟨h2.cell 0, h2.cell 1, h2.cell 2, h2.cell 3, h2.cell 4, h2.cell 5, h2.cell 6, h2.cell 7, h2.cell 8, h2.cell 9⟩, fun i => h2.frozen i⟩
    have HSY := Lib.hid hsy; clear hsy
    have hfin := fun wE wF (h1 : SB NoF w (fun W => DdAt W g s (i3, 0)) [(x, 41, #[.int .i64 k, .int .i64 nd, .int .i64 n, .int .i64 0, .int .i64 0, .string ⟨#[]⟩, .string ⟨#[]⟩, .int .u64 0, .int .i64 0, .slice none 0 0]), (b, 41, #[.int .i64 0, .int .i64 0, .int .i64 0, .int .i64 0, .int .i64 0, .string ⟨#[]⟩, .string ⟨#[]⟩, .int .u64 0, .int .i64 0, .slice none 0 0])] (x + 1) none 0 [] wE) (h2 : Kept (fun k => k = b) wE wF) => HPOST.out ⟨bare k nd n, none, 0⟩ (i3, 0) wF (by have hb2 := HB.out; have hxg := HXG.out; exact .inl ⟨rfl, rfl, ⟨⟨rfl, .inl ⟨rfl, rfl⟩⟩, fun k hk => by cases hk⟩⟩) (h1.2.2.2.trans h2 (fun j hj => by rw [hj]; exact .inr (by have := HB.out; omega)))
    unfold vagg at hfin
    dsimp only at hfin
    obtain ⟨er, her⟩ : ∃ er, rEnd s (i3, 0) = er := ⟨_, rfl⟩
    have hde := fun W (hW : DdAt W g s (i3, 0)) => dend_any W g s (i3, 0) hW hs
    rw [her] at hfin hde
    have HFIN := Lib.hid hfin; clear hfin
    have hxb : ¬ x = b := by have := HXG.out; omega
    have HDE := Lib.hid hde; clear hde her
    go_region_held3 (fun W => W.cell? ⟨x, 0, none⟩ = some (.int .i64 k) ∧ W.cell? ⟨x, 1, none⟩ = some (.int .i64 nd) ∧ W.cell? ⟨x, 2, none⟩ = some (.int .i64 n) ∧ W.cell? ⟨x, 3, none⟩ = some (.int .i64 0) ∧ W.cell? ⟨x, 4, none⟩ = some (.int .i64 0) ∧ W.cell? ⟨x, 5, none⟩ = some (.string ⟨#[]⟩) ∧ W.cell? ⟨x, 6, none⟩ = some (.string ⟨#[]⟩) ∧ W.cell? ⟨x, 7, none⟩ = some (.int .u64 0) ∧ W.cell? ⟨x, 8, none⟩ = some (.int .i64 0) ∧ W.cell? ⟨x, 9, none⟩ = some (.slice none 0 0))
      (first | with_reducible exact ⟨e0, e1, e2, e3, e4, e5, e6, e7, e8, e9⟩ | (simp [go_sem, e0, e1, e2, e3, e4, e5, e6, e7, e8, e9, hxb]; done) | with_reducible exact ⟨a0, a1, a2, a3, a4, a5, a6, a7, a8, a9⟩ | (simp [go_sem, a0, a1, a2, a3, a4, a5, a6, a7, a8, a9]; done))
      (first | (go_at_call 49; refine (HDE.out _ (by exact HST.out.1)).mono ?_; rintro e wE ⟨rfl, hkE⟩; have hkE2 := Kept.then (a := (w6.setCell ⟨x, 2, none⟩ (.int .i64 n))) (by (repeat' (first | with_reducible exact Kept.refl _ _ | with_reducible refine Kept.put ?_ ?_ | with_reducible refine Kept.drewN ?_ _ | with_reducible refine Kept.drew ?_ | with_reducible refine Kept.alloc ?_ _ | (fail) | (right; simp; done)))) hkE; obtain ⟨hstE, ⟨e0, e1, e2, e3, e4, e5, e6, e7, e8, e9⟩, ⟨y0, y1, y2, y3, y4, y5, y6, y7, y8, y9⟩, yf⟩ := HSY.out _ hkE2; have yf0 := yf 0; have yf1 := yf 1; have yf2 := yf 2; have yf3 := yf 3; have yf4 := yf 4; have yf5 := yf 5; have yf6 := yf 6; have yf7 := yf 7; have yf8 := yf 8; have yf9 := yf 9; have HSTE := Lib.hid hstE; clear hkE hkE2 hstE yf))
    go_wp2
    obtain ⟨WF, hWF⟩ : ∃ WF, ((((((((((wE.setCell ⟨b, 0, none⟩ (.int .i64 k)).setCell ⟨b, 1, none⟩ (.int .i64 nd)).setCell ⟨b, 2, none⟩ (.int .i64 n)).setCell ⟨b, 3, none⟩ (.int .i64 0)).setCell ⟨b, 4, none⟩ (.int .i64 0)).setCell ⟨b, 5, none⟩ (.string ⟨#[]⟩)).setCell ⟨b, 6, none⟩ (.string ⟨#[]⟩)).setCell ⟨b, 7, none⟩ (.int .u64 0)).setCell ⟨b, 8, none⟩ (.int .i64 0)).setCell ⟨b, 9, none⟩ (.slice none 0 0)) = WF := ⟨_, rfl⟩
    obtain ⟨hh1, hkF⟩ := storeE (HSTE.out.has (b := (b, 41, #[.int .i64 0, .int .i64 0, .int .i64 0, .int .i64 0, .int .i64 0, .string ⟨#[]⟩, .string ⟨#[]⟩, .int .u64 0, .int .i64 0, .slice none 0 0])) (by simp)) hWF
    rw [hWF]
    clear hWF
    have hf := HFIN.out _ _ HSTE.out hkF
    have HF := Lib.hid hf; clear hf
    have v0 := hh1.cell 0
    have v1 := hh1.cell 1
    have v2 := hh1.cell 2
    have v3 := hh1.cell 3
    have v4 := hh1.cell 4
    have v5 := hh1.cell 5
    have v6 := hh1.cell 6
    have v7 := hh1.cell 7
    have v8 := hh1.cell 8
    have v9 := hh1.cell 9
    simp only [List.getElem?_toArray, List.getElem?_cons_zero, List.getElem?_cons_succ] at v0 v1 v2 v3 v4 v5 v6 v7 v8 v9
    refine bodyPost_ret (v := .tuple #[.agg #[.int .i64 k, .int .i64 nd, .int .i64 n, .int .i64 0, .int .i64 0, .string ⟨#[]⟩, .string ⟨#[]⟩, .int .u64 0, .int .i64 0, .slice none 0 0], .bool (er == 0)]) (by simp [results, Try.results22, go_sem, v0, v1, v2, v3, v4, v5, v6, v7, v8, v9]) rfl ?_
    exact HF.out
  · subst hk0
    have ez : ((0 : Nat) : Int) = 0 := rfl
    obtain ⟨p1, hp1⟩ : ∃ q, rNum s 1073741824 (i3, 0) = q := ⟨_, rfl⟩
    obtain ⟨p2, hp2⟩ : ∃ q, rNum s 1073741824 p1.2 = q := ⟨_, rfl⟩
    obtain ⟨p3, hp3⟩ : ∃ q, rNum s 1073741824 p2.2 = q := ⟨_, rfl⟩
    obtain ⟨p4, hp4⟩ : ∃ q, rBig s p3.2 = q := ⟨_, rfl⟩
    obtain ⟨p5, hp5⟩ : ∃ q, rText s 255 p4.2 = q := ⟨_, rfl⟩
    obtain ⟨p6, hp6⟩ : ∃ q, rText s 255 p5.2 = q := ⟨_, rfl⟩
    obtain ⟨p7, hp7⟩ : ∃ q, rNum s 255 p6.2 = q := ⟨_, rfl⟩
    have hn7 : p7.1 ≤ 255 := by rw [← hp7]; exact rNum_le _ _ _
    have hask : askR s 0 nd n (i3, 0) = (⟨0, nd, n, p1.1, p2.1, p5.1, p6.1, p4.1, p3.1, (rOpsB s p7.1 p7.2).1⟩, (rOpsB s p7.1 p7.2).2) := by
      unfold askR
      simp only [hp1, hp2, hp3, hp4, hp5, hp6, hp7]
    obtain ⟨ak, r4⟩ := p1
    obtain ⟨an, r5⟩ := p2
    obtain ⟨am, r6⟩ := p3
    obtain ⟨tm, r7⟩ := p4
    obtain ⟨key, r8⟩ := p5
    obtain ⟨dst, r9⟩ := p6
    obtain ⟨m, r10⟩ := p7
    dsimp only at hp2 hp3 hp4 hp5 hp6 hp7 hn7 hask
    have hpo := HPOST.out
    rw [if_pos (by simp), ez, hask] at hpo
    dsimp only at hpo
    have hst := HST.out
    rw [ez] at hst xk
    clear HPOST hask HST
    have HPOST := Lib.hid hpo; clear hpo
    have HST := Lib.hid hst; clear hst
    have HP := Lib.hid (And.intro hp1 (And.intro hp2 (And.intro hp3 (And.intro hp4 (And.intro hp5 (And.intro hp6 hp7)))))); clear hp1 hp2 hp3 hp4 hp5 hp6 hp7
    go_wp2_with fail
    clear re xk
    refine (dnum_any _ g s (i3, 0) 1073741824 HST.out.1 hs (by decide)).mono ?_
    intro e w7 hrd
    obtain ⟨rfl, hst, hk⟩ := SB.readD HO.out HST.out hrd
    rw [HP.out.1] at hst ⊢
    dsimp only at hst ⊢
    clear HST hrd hk
    have hX := hst.has (b := (x, 41, #[.int .i64 0, .int .i64 nd, .int .i64 n, .int .i64 0, .int .i64 0, .string ⟨#[]⟩, .string ⟨#[]⟩, .int .u64 0, .int .i64 0, .slice none 0 0])) (by simp)
    have xv := hX.cell 3
    have xf := hX.frozen 3
    simp only [List.getElem?_toArray, List.getElem?_cons_zero, List.getElem?_cons_succ] at xv
    have hst2 := SB.setx (cs' := #[.int .i64 0, .int .i64 nd, .int .i64 n, .int .i64 ak, .int .i64 0, .string ⟨#[]⟩, .string ⟨#[]⟩, .int .u64 0, .int .i64 0, .slice none 0 0]) (i := 3) (u := .int .i64 ak) (rdK_d g s r4) HO.out HNX.out hst rfl
    have HST := Lib.hid hst2; clear hst2 hst hX
    go_wp2_with fail
    clear xv xf
    refine (dnum_any _ g s r4 1073741824 HST.out.1 hs (by decide)).mono ?_
    intro e w8 hrd
    obtain ⟨rfl, hst, hk⟩ := SB.readD HO.out HST.out hrd
    rw [HP.out.2.1] at hst ⊢
    dsimp only at hst ⊢
    clear HST hrd hk
    have hX := hst.has (b := (x, 41, #[.int .i64 0, .int .i64 nd, .int .i64 n, .int .i64 ak, .int .i64 0, .string ⟨#[]⟩, .string ⟨#[]⟩, .int .u64 0, .int .i64 0, .slice none 0 0])) (by simp)
    have xv := hX.cell 4
    have xf := hX.frozen 4
    simp only [List.getElem?_toArray, List.getElem?_cons_zero, List.getElem?_cons_succ] at xv
    have hst2 := SB.setx (cs' := #[.int .i64 0, .int .i64 nd, .int .i64 n, .int .i64 ak, .int .i64 an, .string ⟨#[]⟩, .string ⟨#[]⟩, .int .u64 0, .int .i64 0, .slice none 0 0]) (i := 4) (u := .int .i64 an) (rdK_d g s r5) HO.out HNX.out hst rfl
    have HST := Lib.hid hst2; clear hst2 hst hX
    go_wp2_with fail
    clear xv xf
    refine (dnum_any _ g s r5 1073741824 HST.out.1 hs (by decide)).mono ?_
    intro e w9 hrd
    obtain ⟨rfl, hst, hk⟩ := SB.readD HO.out HST.out hrd
    rw [HP.out.2.2.1] at hst ⊢
    dsimp only at hst ⊢
    clear HST hrd hk
    have hX := hst.has (b := (x, 41, #[.int .i64 0, .int .i64 nd, .int .i64 n, .int .i64 ak, .int .i64 an, .string ⟨#[]⟩, .string ⟨#[]⟩, .int .u64 0, .int .i64 0, .slice none 0 0])) (by simp)
    have xv := hX.cell 8
    have xf := hX.frozen 8
    simp only [List.getElem?_toArray, List.getElem?_cons_zero, List.getElem?_cons_succ] at xv
    have hst2 := SB.setx (cs' := #[.int .i64 0, .int .i64 nd, .int .i64 n, .int .i64 ak, .int .i64 an, .string ⟨#[]⟩, .string ⟨#[]⟩, .int .u64 0, .int .i64 am, .slice none 0 0]) (i := 8) (u := .int .i64 am) (rdK_d g s r6) HO.out HNX.out hst rfl
    have HST := Lib.hid hst2; clear hst2 hst hX
    go_wp2_with fail
    clear xv xf
    refine (dbig_any _ g s r6 HST.out.1 hs).mono ?_
    intro e w10 hrd
    obtain ⟨rfl, hst, hk⟩ := SB.readD HO.out HST.out hrd
    rw [HP.out.2.2.2.1] at hst ⊢
    dsimp only at hst ⊢
    clear HST hrd hk
    have hX := hst.has (b := (x, 41, #[.int .i64 0, .int .i64 nd, .int .i64 n, .int .i64 ak, .int .i64 an, .string ⟨#[]⟩, .string ⟨#[]⟩, .int .u64 0, .int .i64 am, .slice none 0 0])) (by simp)
    have xv := hX.cell 7
    have xf := hX.frozen 7
    simp only [List.getElem?_toArray, List.getElem?_cons_zero, List.getElem?_cons_succ] at xv
    have hst2 := SB.setx (cs' := #[.int .i64 0, .int .i64 nd, .int .i64 n, .int .i64 ak, .int .i64 an, .string ⟨#[]⟩, .string ⟨#[]⟩, .int .u64 tm, .int .i64 am, .slice none 0 0]) (i := 7) (u := .int .u64 tm) (rdK_d g s r7) HO.out HNX.out hst rfl
    have HST := Lib.hid hst2; clear hst2 hst hX
    go_wp2_with fail
    clear xv xf
    refine (dtext_any _ g s r7 255 HST.out.1 hs (by decide)).mono ?_
    intro e w11 hrd
    obtain ⟨rfl, hst, hk⟩ := SB.readD HO.out HST.out hrd
    rw [HP.out.2.2.2.2.1] at hst ⊢
    dsimp only at hst ⊢
    clear HST hrd hk
    have hX := hst.has (b := (x, 41, #[.int .i64 0, .int .i64 nd, .int .i64 n, .int .i64 ak, .int .i64 an, .string ⟨#[]⟩, .string ⟨#[]⟩, .int .u64 tm, .int .i64 am, .slice none 0 0])) (by simp)
    have xv := hX.cell 5
    have xf := hX.frozen 5
    simp only [List.getElem?_toArray, List.getElem?_cons_zero, List.getElem?_cons_succ] at xv
    have hst2 := SB.setx (cs' := #[.int .i64 0, .int .i64 nd, .int .i64 n, .int .i64 ak, .int .i64 an, .string key, .string ⟨#[]⟩, .int .u64 tm, .int .i64 am, .slice none 0 0]) (i := 5) (u := .string key) (rdK_d g s r8) HO.out HNX.out hst rfl
    have HST := Lib.hid hst2; clear hst2 hst hX
    go_wp2_with fail
    clear xv xf
    refine (dtext_any _ g s r8 255 HST.out.1 hs (by decide)).mono ?_
    intro e w12 hrd
    obtain ⟨rfl, hst, hk⟩ := SB.readD HO.out HST.out hrd
    rw [HP.out.2.2.2.2.2.1] at hst ⊢
    dsimp only at hst ⊢
    clear HST hrd hk
    have hX := hst.has (b := (x, 41, #[.int .i64 0, .int .i64 nd, .int .i64 n, .int .i64 ak, .int .i64 an, .string key, .string ⟨#[]⟩, .int .u64 tm, .int .i64 am, .slice none 0 0])) (by simp)
    have xv := hX.cell 6
    have xf := hX.frozen 6
    simp only [List.getElem?_toArray, List.getElem?_cons_zero, List.getElem?_cons_succ] at xv
    have hst2 := SB.setx (cs' := #[.int .i64 0, .int .i64 nd, .int .i64 n, .int .i64 ak, .int .i64 an, .string key, .string dst, .int .u64 tm, .int .i64 am, .slice none 0 0]) (i := 6) (u := .string dst) (rdK_d g s r9) HO.out HNX.out hst rfl
    have HST := Lib.hid hst2; clear hst2 hst hX
    go_wp2_with fail
    clear xv xf
    refine (dnum_any _ g s r9 255 HST.out.1 hs (by decide)).mono ?_
    intro e w20 hrd
    obtain ⟨rfl, hst, hk⟩ := SB.readD HO.out HST.out hrd
    rw [HP.out.2.2.2.2.2.2] at hst ⊢
    dsimp only at hst ⊢
    clear HST hrd hk
    have HST := Lib.hid hst; clear hst
    go_wp2_with fail
    go_loopw [7] (fun v7 wr => ∃ (i : Nat) (A : Option Addr) (cap : Nat), i ≤ m ∧ v7 = .int .i64 i ∧ SB NoF w (fun W => DdAt W g s (rOpsB s i r10).2) [(x, 41, #[.int .i64 0, .int .i64 nd, .int .i64 n, .int .i64 ak, .int .i64 an, .string key, .string dst, .int .u64 tm, .int .i64 am, .slice A (rOpsB s i r10).1.length cap]), (b, 41, #[.int .i64 0, .int .i64 0, .int .i64 0, .int .i64 0, .int .i64 0, .string ⟨#[]⟩, .string ⟨#[]⟩, .int .u64 0, .int .i64 0, .slice none 0 0])] (x + 1) A cap (rOpsB s i r10).1 wr ∧ x + 1 ≤ wr.heap.size) (fun v7 _ => m - (intOf v7).toNat)
    case atStart => exact ⟨0, none, 0, Nat.zero_le _, rfl, HST.out, by have := (HST.out.has (b := (x, 41, #[.int .i64 0, .int .i64 nd, .int .i64 n, .int .i64 ak, .int .i64 an, .string key, .string dst, .int .u64 tm, .int .i64 am, .slice none 0 0])) (by simp)).lt; dsimp only at this; omega⟩
    case round =>
      obtain ⟨i, A, cap, hi, rfl, hst, hge⟩ := hrel
      clear HST
      have hlen := rOpsB_len s r10 i
      have hfull := fun h => rOpsB_stays (s := s) (r := r10) (i := i) h (m - i)
      rw [show i + (m - i) = m by omega] at hfull
      have hnext : rOpsB s (i + 1) r10 = ((rOpsB s i r10).1 ++ [(rOpB s (rOpsB s i r10).2).1], (rOpB s (rOpsB s i r10).2).2) := rfl
      have hall : i = m → (rOpsB s m r10) = (rOpsB s i r10) := fun h => by rw [h]
      obtain ⟨l, hl⟩ : ∃ l, (rOpsB s i r10).1 = l := ⟨_, rfl⟩
      obtain ⟨r, hr⟩ : ∃ r, (rOpsB s i r10).2 = r := ⟨_, rfl⟩
      have hpair : rOpsB s i r10 = (l, r) := by rw [← hl, ← hr]
      rw [hpair] at hall
      rw [hl, hr] at hst hnext
      rw [hr] at hfull
      rw [hl] at hlen
      clear hl hr hpair
      obtain ⟨ri, re⟩ := r
      dsimp only at hfull
      have hre := hst.1.1.cell 2
      simp only [List.getElem?_toArray, List.getElem?_cons_zero, List.getElem?_cons_succ] at hre
      have HST := Lib.hid hst; clear hst
      have HLEN := Lib.hid hlen; clear hlen
      have HFU := Lib.hid (And.intro hfull hall); clear hfull hall
      by_cases hin : i < m
      · by_cases he : re = 0
        rotate_left
        · have q1 : (re == 0) = false := by simpa using he
          have hs0 := HFU.out.1 he
          go_wp2_with fail
          clear hre
          have hX := HST.out.has (b := (x, 41, #[.int .i64 0, .int .i64 nd, .int .i64 n, .int .i64 ak, .int .i64 an, .string key, .string dst, .int .u64 tm, .int .i64 am, .slice A l.length cap])) (by simp)
          have a0 := hX.cell 0
          have a1 := hX.cell 1
          have a2 := hX.cell 2
          have a3 := hX.cell 3
          have a4 := hX.cell 4
          have a5 := hX.cell 5
          have a6 := hX.cell 6
          have a7 := hX.cell 7
          have a8 := hX.cell 8
          have a9 := hX.cell 9
          simp only [List.getElem?_toArray, List.getElem?_cons_zero, List.getElem?_cons_succ] at a0 a1 a2 a3 a4 a5 a6 a7 a8 a9
          clear hX
          have hsy : ∀ wE, Kept NoF (wr) wE → (SB NoF w (fun W => DdAt W g s (ri, re)) [(x, 41, #[.int .i64 0, .int .i64 nd, .int .i64 n, .int .i64 ak, .int .i64 an, .string key, .string dst, .int .u64 tm, .int .i64 am, .slice A l.length cap]), (b, 41, #[.int .i64 0, .int .i64 0, .int .i64 0, .int .i64 0, .int .i64 0, .string ⟨#[]⟩, .string ⟨#[]⟩, .int .u64 0, .int .i64 0, .slice none 0 0])] (x + 1) A cap l wE ∧ (wE.cell? ⟨x, 0, none⟩ = some (.int .i64 0) ∧ wE.cell? ⟨x, 1, none⟩ = some (.int .i64 nd) ∧ wE.cell? ⟨x, 2, none⟩ = some (.int .i64 n) ∧ wE.cell? ⟨x, 3, none⟩ = some (.int .i64 ak) ∧ wE.cell? ⟨x, 4, none⟩ = some (.int .i64 an) ∧ wE.cell? ⟨x, 5, none⟩ = some (.string key) ∧ wE.cell? ⟨x, 6, none⟩ = some (.string dst) ∧ wE.cell? ⟨x, 7, none⟩ = some (.int .u64 tm) ∧ wE.cell? ⟨x, 8, none⟩ = some (.int .i64 am) ∧ wE.cell? ⟨x, 9, none⟩ = some (.slice A l.length cap)) ∧ (wE.cell? ⟨b, 0, none⟩ = some (.int .i64 0) ∧ wE.cell? ⟨b, 1, none⟩ = some (.int .i64 0) ∧ wE.cell? ⟨b, 2, none⟩ = some (.int .i64 0) ∧ wE.cell? ⟨b, 3, none⟩ = some (.int .i64 0) ∧ wE.cell? ⟨b, 4, none⟩ = some (.int .i64 0) ∧ wE.cell? ⟨b, 5, none⟩ = some (.string ⟨#[]⟩) ∧ wE.cell? ⟨b, 6, none⟩ = some (.string ⟨#[]⟩) ∧ wE.cell? ⟨b, 7, none⟩ = some (.int .u64 0) ∧ wE.cell? ⟨b, 8, none⟩ = some (.int .i64 0) ∧ wE.cell? ⟨b, 9, none⟩ = some (.slice none 0 0)) ∧ ∀ i, wE.frozen? ⟨b, i, none⟩ = false) := fun wE hkE => by
            have h1 := SB.keep (rdK_d g s (ri, re)) HST.out hkE
            have h2 := h1.has (b := (b, 41, #[.int .i64 0, .int .i64 0, .int .i64 0, .int .i64 0, .int .i64 0, .string ⟨#[]⟩, .string ⟨#[]⟩, .int .u64 0, .int .i64 0, .slice none 0 0])) (by simp)
            have h3 := h1.has (b := (x, 41, #[.int .i64 0, .int .i64 nd, .int .i64 n, .int .i64 ak, .int .i64 an, .string key, .string dst, .int .u64 tm, .int .i64 am, .slice A l.length cap])) (by simp)
            exact ⟨h1, ⟨h3.cell 0, h3.cell 1, h3.cell 2, h3.cell 3, h3.cell 4, h3.cell 5, h3.cell 6, h3.cell 7, h3.cell 8, h3.cell 9⟩, ⟨h2.cell 0, h2.cell 1, h2.cell 2, h2.cell 3, h2.cell 4, h2.cell 5, h2.cell 6, h2.cell 7, h2.cell 8, h2.cell 9⟩, fun i => h2.frozen i⟩
          have HSY := Lib.hid hsy; clear hsy
          have hfin := fun wE wF (h1 : SB NoF w (fun W => DdAt W g s (ri, re)) [(x, 41, #[.int .i64 0, .int .i64 nd, .int .i64 n, .int .i64 ak, .int .i64 an, .string key, .string dst, .int .u64 tm, .int .i64 am, .slice A l.length cap]), (b, 41, #[.int .i64 0, .int .i64 0, .int .i64 0, .int .i64 0, .int .i64 0, .string ⟨#[]⟩, .string ⟨#[]⟩, .int .u64 0, .int .i64 0, .slice none 0 0])] (x + 1) A cap l wE) (h2 : Kept (fun k => k = b) wE wF) => HPOST.out ⟨⟨0, nd, n, ak, an, key, dst, tm, am, l⟩, A, cap⟩ (ri, re) wF (by have hb2 := HB.out; have hxg := HXG.out; exact .inr ⟨hs0, he⟩) (h1.2.2.2.trans h2 (fun j hj => by rw [hj]; exact .inr (by have := HB.out; omega)))
          unfold vagg at hfin
          dsimp only at hfin
          obtain ⟨er, her⟩ : ∃ er, rEnd s (ri, re) = er := ⟨_, rfl⟩
          have hde := fun W (hW : DdAt W g s (ri, re)) => dend_any W g s (ri, re) hW hs
          rw [her] at hfin hde
          have HFIN := Lib.hid hfin; clear hfin
          have hxb : ¬ x = b := by have := HXG.out; omega
          have HDE := Lib.hid hde; clear hde her
          go_region_held3 (fun W => W.cell? ⟨x, 0, none⟩ = some (.int .i64 0) ∧ W.cell? ⟨x, 1, none⟩ = some (.int .i64 nd) ∧ W.cell? ⟨x, 2, none⟩ = some (.int .i64 n) ∧ W.cell? ⟨x, 3, none⟩ = some (.int .i64 ak) ∧ W.cell? ⟨x, 4, none⟩ = some (.int .i64 an) ∧ W.cell? ⟨x, 5, none⟩ = some (.string key) ∧ W.cell? ⟨x, 6, none⟩ = some (.string dst) ∧ W.cell? ⟨x, 7, none⟩ = some (.int .u64 tm) ∧ W.cell? ⟨x, 8, none⟩ = some (.int .i64 am) ∧ W.cell? ⟨x, 9, none⟩ = some (.slice A l.length cap))
            (first | with_reducible exact ⟨e0, e1, e2, e3, e4, e5, e6, e7, e8, e9⟩ | (simp [go_sem, e0, e1, e2, e3, e4, e5, e6, e7, e8, e9, hxb]; done) | with_reducible exact ⟨a0, a1, a2, a3, a4, a5, a6, a7, a8, a9⟩ | (simp [go_sem, a0, a1, a2, a3, a4, a5, a6, a7, a8, a9]; done))
            (first | (go_at_call 49; refine (HDE.out _ (by exact HST.out.1)).mono ?_; rintro e wE ⟨rfl, hkE⟩; have hkE2 := Kept.then (a := wr) (by (repeat' (first | with_reducible exact Kept.refl _ _ | with_reducible refine Kept.put ?_ ?_ | with_reducible refine Kept.drewN ?_ _ | with_reducible refine Kept.drew ?_ | with_reducible refine Kept.alloc ?_ _ | (fail) | (right; simp; done)))) hkE; obtain ⟨hstE, ⟨e0, e1, e2, e3, e4, e5, e6, e7, e8, e9⟩, ⟨y0, y1, y2, y3, y4, y5, y6, y7, y8, y9⟩, yf⟩ := HSY.out _ hkE2; have yf0 := yf 0; have yf1 := yf 1; have yf2 := yf 2; have yf3 := yf 3; have yf4 := yf 4; have yf5 := yf 5; have yf6 := yf 6; have yf7 := yf 7; have yf8 := yf 8; have yf9 := yf 9; have HSTE := Lib.hid hstE; clear hkE hkE2 hstE yf))
          go_wp2
          obtain ⟨WF, hWF⟩ : ∃ WF, ((((((((((wE.setCell ⟨b, 0, none⟩ (.int .i64 0)).setCell ⟨b, 1, none⟩ (.int .i64 nd)).setCell ⟨b, 2, none⟩ (.int .i64 n)).setCell ⟨b, 3, none⟩ (.int .i64 ak)).setCell ⟨b, 4, none⟩ (.int .i64 an)).setCell ⟨b, 5, none⟩ (.string key)).setCell ⟨b, 6, none⟩ (.string dst)).setCell ⟨b, 7, none⟩ (.int .u64 tm)).setCell ⟨b, 8, none⟩ (.int .i64 am)).setCell ⟨b, 9, none⟩ (.slice A l.length cap)) = WF := ⟨_, rfl⟩
          obtain ⟨hh1, hkF⟩ := storeE (HSTE.out.has (b := (b, 41, #[.int .i64 0, .int .i64 0, .int .i64 0, .int .i64 0, .int .i64 0, .string ⟨#[]⟩, .string ⟨#[]⟩, .int .u64 0, .int .i64 0, .slice none 0 0])) (by simp)) hWF
          rw [hWF]
          clear hWF
          have hf := HFIN.out _ _ HSTE.out hkF
          have HF := Lib.hid hf; clear hf
          have v0 := hh1.cell 0
          have v1 := hh1.cell 1
          have v2 := hh1.cell 2
          have v3 := hh1.cell 3
          have v4 := hh1.cell 4
          have v5 := hh1.cell 5
          have v6 := hh1.cell 6
          have v7 := hh1.cell 7
          have v8 := hh1.cell 8
          have v9 := hh1.cell 9
          simp only [List.getElem?_toArray, List.getElem?_cons_zero, List.getElem?_cons_succ] at v0 v1 v2 v3 v4 v5 v6 v7 v8 v9
          refine bodyPost_ret (v := .tuple #[.agg #[.int .i64 0, .int .i64 nd, .int .i64 n, .int .i64 ak, .int .i64 an, .string key, .string dst, .int .u64 tm, .int .i64 am, .slice A l.length cap], .bool (er == 0)]) (by simp [results, Try.results22, go_sem, v0, v1, v2, v3, v4, v5, v6, v7, v8, v9]) rfl ?_
          exact HF.out
        · subst he
          have hop : rOpB s (ri, 0) = (⟨(rText s 255 (ri, 0)).1, (rText s 255 (rFlag s (rText s 255 (ri, 0)).2).2).1, (rFlag s (rText s 255 (ri, 0)).2).1⟩, (rText s 255 (rFlag s (rText s 255 (ri, 0)).2).2).2) := rfl
          obtain ⟨p1, hp1⟩ : ∃ p, rText s 255 (ri, 0) = p := ⟨_, rfl⟩
          obtain ⟨k1, ra⟩ := p1
          rw [hp1] at hop
          dsimp only at hop
          obtain ⟨p2, hp2⟩ : ∃ p, rFlag s ra = p := ⟨_, rfl⟩
          obtain ⟨d1, rb⟩ := p2
          rw [hp2] at hop
          dsimp only at hop
          obtain ⟨p3, hp3⟩ : ∃ p, rText s 255 rb = p := ⟨_, rfl⟩
          obtain ⟨v1, rc⟩ := p3
          rw [hp3] at hop
          dsimp only at hop
          rw [hop] at hnext
          dsimp only at hnext
          have HNX2 := Lib.hid hnext; clear hnext hop
          have HPP := Lib.hid (And.intro hp1 (And.intro hp2 hp3)); clear hp1 hp2 hp3
          have hrow := HST.out.row
          have hz0 := Has.new wr 55 #[.string ⟨#[]⟩, .string ⟨#[]⟩, .bool false]
          have hst2 := SB.keep (rdK_d g s (ri, 0)) HST.out ((Kept.refl NoF wr).alloc (.cells #[.string ⟨#[]⟩, .string ⟨#[]⟩, .bool false] 55))
          clear HST
          go_wp2_with fail
          clear hre
          obtain ⟨W7, hW7⟩ : ∃ W7, wr.alloc (.cells #[.string ⟨#[]⟩, .string ⟨#[]⟩, .bool false] 55) = W7 := ⟨_, rfl⟩
          obtain ⟨z, hz⟩ : ∃ z, wr.heap.size = z := ⟨_, rfl⟩
          rw [hW7] at hst2 hz0 ⊢
          rw [hz] at hz0 hge hrow ⊢
          have HZ := Lib.hid (And.intro hge hrow); clear hge hrow hz hW7
          have HST := Lib.hid hst2; clear hst2
          have HZ0 := Lib.hid hz0; clear hz0
          refine (dtext_any _ g s (ri, 0) 255 HST.out.1 hs (by decide)).mono ?_
          intro e w6 hrd
          obtain ⟨rfl, hst, hk⟩ := SB.readD HO.out HST.out hrd
          rw [HPP.out.1] at hst ⊢
          dsimp only at hst ⊢
          have hz1 := HZ0.out.kept hk (by have := HXG.out; have := HZ.out.1; omega)
          have z0 := hz1.cell 0
          have zf0 := hz1.frozen 0
          simp only [List.getElem?_toArray, List.getElem?_cons_zero, List.getElem?_cons_succ] at z0
          have hst2 := SB.far (rdK_d g s ra) HO.out hst HZ.out.1 HZ.out.2 0 (.string k1)
          have hz2 : Has (w6.setCell ⟨z, 0, none⟩ (.string k1)) z 55 #[.string k1, .string ⟨#[]⟩, .bool false] := Has.put_of hz1 rfl
          clear HST HZ0 hrd hk hst hz1
          have HST := Lib.hid hst2; clear hst2
          have HZ0 := Lib.hid hz2; clear hz2
          go_wp2_with fail
          clear z0 zf0
          refine (dflag_any _ g s ra HST.out.1 hs).mono ?_
          intro e w8 hrd
          obtain ⟨rfl, hst, hk⟩ := SB.readD HO.out HST.out hrd
          rw [HPP.out.2.1] at hst ⊢
          dsimp only at hst ⊢
          have hz1 := HZ0.out.kept hk (by have := HXG.out; have := HZ.out.1; omega)
          have z2 := hz1.cell 2
          have zf2 := hz1.frozen 2
          simp only [List.getElem?_toArray, List.getElem?_cons_zero, List.getElem?_cons_succ] at z2
          have hst2 := SB.far (rdK_d g s rb) HO.out hst HZ.out.1 HZ.out.2 2 (.bool d1)
          have hz2 : Has (w8.setCell ⟨z, 2, none⟩ (.bool d1)) z 55 #[.string k1, .string ⟨#[]⟩, .bool d1] := Has.put_of hz1 rfl
          clear HST HZ0 hrd hk hst hz1
          have HST := Lib.hid hst2; clear hst2
          have HZ0 := Lib.hid hz2; clear hz2
          go_wp2_with fail
          clear z2 zf2
          refine (dtext_any _ g s rb 255 HST.out.1 hs (by decide)).mono ?_
          intro e w9 hrd
          obtain ⟨rfl, hst, hk⟩ := SB.readD HO.out HST.out hrd
          rw [HPP.out.2.2] at hst ⊢
          dsimp only at hst ⊢
          have hz1 := HZ0.out.kept hk (by have := HXG.out; have := HZ.out.1; omega)
          have hst2 := SB.far (rdK_d g s rc) HO.out hst HZ.out.1 HZ.out.2 1 (.string v1)
          have hz2 : Has (w9.setCell ⟨z, 1, none⟩ (.string v1)) z 55 #[.string k1, .string v1, .bool d1] := Has.put_of hz1 rfl
          have z1 := hz1.cell 1
          have zf1 := hz1.frozen 1
          simp only [List.getElem?_toArray, List.getElem?_cons_zero, List.getElem?_cons_succ] at z1
          have zz0 := hz2.cell 0
          have zz1 := hz2.cell 1
          have zz2 := hz2.cell 2
          simp only [List.getElem?_toArray, List.getElem?_cons_zero, List.getElem?_cons_succ] at zz0 zz1 zz2
          have xx9 := (hst2.has (b := (x, 41, #[.int .i64 0, .int .i64 nd, .int .i64 n, .int .i64 ak, .int .i64 an, .string key, .string dst, .int .u64 tm, .int .i64 am, .slice A l.length cap])) (by simp)).cell 9
          simp only [List.getElem?_toArray, List.getElem?_cons_zero, List.getElem?_cons_succ] at xx9
          have hge9 : x + 1 ≤ (w9.setCell ⟨z, 1, none⟩ (.string v1)).heap.size := by have := hz2.lt; have := HZ.out.1; omega
          clear HST HZ0 hrd hk hst hz1 hz2
          have HST := Lib.hid hst2; clear hst2
          have HGE9 := Lib.hid hge9; clear hge9
          have hm1 : l.length + 1 ≤ maxLen := by rw [HLEN.out]; unfold maxLen; omega
          have hm2 : (l.length + 1) * 40 ≤ 140737488355328 := by rw [HLEN.out]; omega
          have HM1 := Lib.hid hm1; clear hm1
          have HM2 := Lib.hid hm2; clear hm2
          go_wp2_with (at_builtin; refine list_append_src elemOp (.tmp 82) (.tmp 84) rfl rfl (Value.slice A l.length cap) rfl ((HST.out.2.2.1.kept ((Kept.refl _ _).alloc _)).1) 1 rfl (Src.of_has (m := 1) (cs := #[.string k1, .string v1, .bool d1]) (Has.new_at _ 55 _ (by simp)) rfl) (by intro u hu; simp at hu; rcases hu with rfl | rfl | rfl <;> rfl) HM1.out HM2.out ?_; intro A6 c6 w12 ho6 hg6 ha6; have hst6 := SB.append (rdK_d g s rc) HO.out HST.out HGE9.out (p := ⟨k1, v1, d1⟩) ((Kept.refl _ _).alloc _) ho6 hg6 ha6; have hx6 := hst6.has (b := (x, 41, #[.int .i64 0, .int .i64 nd, .int .i64 n, .int .i64 ak, .int .i64 an, .string key, .string dst, .int .u64 tm, .int .i64 am, .slice A l.length cap])) (by simp); have ev := hx6.cell 9; have ef := hx6.frozen 9; simp only [List.getElem?_toArray, List.getElem?_cons_zero, List.getElem?_cons_succ] at ev; have hst7 := SB.setx (cs' := #[.int .i64 0, .int .i64 nd, .int .i64 n, .int .i64 ak, .int .i64 an, .string key, .string dst, .int .u64 tm, .int .i64 am, .slice A6 (l.length + 1) c6]) (i := 9) (u := .slice A6 (l.length + 1) c6) (rdK_d g s rc) HO.out HNX.out hst6 rfl; have hg12 := (hst7.has (b := (x, 41, #[.int .i64 0, .int .i64 nd, .int .i64 n, .int .i64 ak, .int .i64 an, .string key, .string dst, .int .u64 tm, .int .i64 am, .slice A6 (l.length + 1) c6])) (by simp)).lt; have HS6 := Lib.hid (And.intro hst7 hg12); clear ho6 hg6 ha6 hst6 hx6 hst7 hg12)
          go_roundw
          case rel => exact ⟨i + 1, A6, c6, by omega, by go_num, by rw [HNX2.out]; dsimp only; rw [List.length_append]; exact HS6.out.1, HS6.out.2⟩
          case measure => simp [intOf]; omega
      · have him : i = m := by omega
        have hs0 := HFU.out.2 him
        go_wp2_with fail
        clear hre
        have hX := HST.out.has (b := (x, 41, #[.int .i64 0, .int .i64 nd, .int .i64 n, .int .i64 ak, .int .i64 an, .string key, .string dst, .int .u64 tm, .int .i64 am, .slice A l.length cap])) (by simp)
        have a0 := hX.cell 0
        have a1 := hX.cell 1
        have a2 := hX.cell 2
        have a3 := hX.cell 3
        have a4 := hX.cell 4
        have a5 := hX.cell 5
        have a6 := hX.cell 6
        have a7 := hX.cell 7
        have a8 := hX.cell 8
        have a9 := hX.cell 9
        simp only [List.getElem?_toArray, List.getElem?_cons_zero, List.getElem?_cons_succ] at a0 a1 a2 a3 a4 a5 a6 a7 a8 a9
        clear hX
        have hsy : ∀ wE, Kept NoF (wr) wE → (SB NoF w (fun W => DdAt W g s (ri, re)) [(x, 41, #[.int .i64 0, .int .i64 nd, .int .i64 n, .int .i64 ak, .int .i64 an, .string key, .string dst, .int .u64 tm, .int .i64 am, .slice A l.length cap]), (b, 41, #[.int .i64 0, .int .i64 0, .int .i64 0, .int .i64 0, .int .i64 0, .string ⟨#[]⟩, .string ⟨#[]⟩, .int .u64 0, .int .i64 0, .slice none 0 0])] (x + 1) A cap l wE ∧ (wE.cell? ⟨x, 0, none⟩ = some (.int .i64 0) ∧ wE.cell? ⟨x, 1, none⟩ = some (.int .i64 nd) ∧ wE.cell? ⟨x, 2, none⟩ = some (.int .i64 n) ∧ wE.cell? ⟨x, 3, none⟩ = some (.int .i64 ak) ∧ wE.cell? ⟨x, 4, none⟩ = some (.int .i64 an) ∧ wE.cell? ⟨x, 5, none⟩ = some (.string key) ∧ wE.cell? ⟨x, 6, none⟩ = some (.string dst) ∧ wE.cell? ⟨x, 7, none⟩ = some (.int .u64 tm) ∧ wE.cell? ⟨x, 8, none⟩ = some (.int .i64 am) ∧ wE.cell? ⟨x, 9, none⟩ = some (.slice A l.length cap)) ∧ (wE.cell? ⟨b, 0, none⟩ = some (.int .i64 0) ∧ wE.cell? ⟨b, 1, none⟩ = some (.int .i64 0) ∧ wE.cell? ⟨b, 2, none⟩ = some (.int .i64 0) ∧ wE.cell? ⟨b, 3, none⟩ = some (.int .i64 0) ∧ wE.cell? ⟨b, 4, none⟩ = some (.int .i64 0) ∧ wE.cell? ⟨b, 5, none⟩ = some (.string ⟨#[]⟩) ∧ wE.cell? ⟨b, 6, none⟩ = some (.string ⟨#[]⟩) ∧ wE.cell? ⟨b, 7, none⟩ = some (.int .u64 0) ∧ wE.cell? ⟨b, 8, none⟩ = some (.int .i64 0) ∧ wE.cell? ⟨b, 9, none⟩ = some (.slice none 0 0)) ∧ ∀ i, wE.frozen? ⟨b, i, none⟩ = false) := fun wE hkE => by
          have h1 := SB.keep (rdK_d g s (ri, re)) HST.out hkE
          have h2 := h1.has (b := (b, 41, #[.int .i64 0, .int .i64 0, .int .i64 0, .int .i64 0, .int .i64 0, .string ⟨#[]⟩, .string ⟨#[]⟩, .int .u64 0, .int .i64 0, .slice none 0 0])) (by simp)
          have h3 := h1.has (b := (x, 41, #[.int .i64 0, .int .i64 nd, .int .i64 n, .int .i64 ak, .int .i64 an, .string key, .string dst, .int .u64 tm, .int .i64 am, .slice A l.length cap])) (by simp)
          exact ⟨h1, ⟨h3.cell 0, h3.cell 1, h3.cell 2, h3.cell 3, h3.cell 4, h3.cell 5, h3.cell 6, h3.cell 7, h3.cell 8, h3.cell 9⟩, ⟨h2.cell 0, h2.cell 1, h2.cell 2, h2.cell 3, h2.cell 4, h2.cell 5, h2.cell 6, h2.cell 7, h2.cell 8, h2.cell 9⟩, fun i => h2.frozen i⟩
        have HSY := Lib.hid hsy; clear hsy
        have hfin := fun wE wF (h1 : SB NoF w (fun W => DdAt W g s (ri, re)) [(x, 41, #[.int .i64 0, .int .i64 nd, .int .i64 n, .int .i64 ak, .int .i64 an, .string key, .string dst, .int .u64 tm, .int .i64 am, .slice A l.length cap]), (b, 41, #[.int .i64 0, .int .i64 0, .int .i64 0, .int .i64 0, .int .i64 0, .string ⟨#[]⟩, .string ⟨#[]⟩, .int .u64 0, .int .i64 0, .slice none 0 0])] (x + 1) A cap l wE) (h2 : Kept (fun k => k = b) wE wF) => HPOST.out ⟨⟨0, nd, n, ak, an, key, dst, tm, am, l⟩, A, cap⟩ (ri, re) wF (by have hb2 := HB.out; have hxg := HXG.out; exact .inl ⟨congrArg Prod.snd hs0, (by rw [hs0]), own_kept h1.2.2.1.1 h2 (fun k hk e => by have := h1.2.2.1.2 k hk; omega), fun k hk => by have := h1.2.2.1.2 k hk; omega⟩) (h1.2.2.2.trans h2 (fun j hj => by rw [hj]; exact .inr (by have := HB.out; omega)))
        unfold vagg at hfin
        dsimp only at hfin
        obtain ⟨er, her⟩ : ∃ er, rEnd s (ri, re) = er := ⟨_, rfl⟩
        have hde := fun W (hW : DdAt W g s (ri, re)) => dend_any W g s (ri, re) hW hs
        rw [her] at hfin hde
        have HFIN := Lib.hid hfin; clear hfin
        have hxb : ¬ x = b := by have := HXG.out; omega
        have HDE := Lib.hid hde; clear hde her
        go_region_held3 (fun W => W.cell? ⟨x, 0, none⟩ = some (.int .i64 0) ∧ W.cell? ⟨x, 1, none⟩ = some (.int .i64 nd) ∧ W.cell? ⟨x, 2, none⟩ = some (.int .i64 n) ∧ W.cell? ⟨x, 3, none⟩ = some (.int .i64 ak) ∧ W.cell? ⟨x, 4, none⟩ = some (.int .i64 an) ∧ W.cell? ⟨x, 5, none⟩ = some (.string key) ∧ W.cell? ⟨x, 6, none⟩ = some (.string dst) ∧ W.cell? ⟨x, 7, none⟩ = some (.int .u64 tm) ∧ W.cell? ⟨x, 8, none⟩ = some (.int .i64 am) ∧ W.cell? ⟨x, 9, none⟩ = some (.slice A l.length cap))
          (first | with_reducible exact ⟨e0, e1, e2, e3, e4, e5, e6, e7, e8, e9⟩ | (simp [go_sem, e0, e1, e2, e3, e4, e5, e6, e7, e8, e9, hxb]; done) | with_reducible exact ⟨a0, a1, a2, a3, a4, a5, a6, a7, a8, a9⟩ | (simp [go_sem, a0, a1, a2, a3, a4, a5, a6, a7, a8, a9]; done))
          (first | (go_at_call 49; refine (HDE.out _ (by exact HST.out.1)).mono ?_; rintro e wE ⟨rfl, hkE⟩; have hkE2 := Kept.then (a := wr) (by (repeat' (first | with_reducible exact Kept.refl _ _ | with_reducible refine Kept.put ?_ ?_ | with_reducible refine Kept.drewN ?_ _ | with_reducible refine Kept.drew ?_ | with_reducible refine Kept.alloc ?_ _ | (fail) | (right; simp; done)))) hkE; obtain ⟨hstE, ⟨e0, e1, e2, e3, e4, e5, e6, e7, e8, e9⟩, ⟨y0, y1, y2, y3, y4, y5, y6, y7, y8, y9⟩, yf⟩ := HSY.out _ hkE2; have yf0 := yf 0; have yf1 := yf 1; have yf2 := yf 2; have yf3 := yf 3; have yf4 := yf 4; have yf5 := yf 5; have yf6 := yf 6; have yf7 := yf 7; have yf8 := yf 8; have yf9 := yf 9; have HSTE := Lib.hid hstE; clear hkE hkE2 hstE yf))
        go_wp2
        obtain ⟨WF, hWF⟩ : ∃ WF, ((((((((((wE.setCell ⟨b, 0, none⟩ (.int .i64 0)).setCell ⟨b, 1, none⟩ (.int .i64 nd)).setCell ⟨b, 2, none⟩ (.int .i64 n)).setCell ⟨b, 3, none⟩ (.int .i64 ak)).setCell ⟨b, 4, none⟩ (.int .i64 an)).setCell ⟨b, 5, none⟩ (.string key)).setCell ⟨b, 6, none⟩ (.string dst)).setCell ⟨b, 7, none⟩ (.int .u64 tm)).setCell ⟨b, 8, none⟩ (.int .i64 am)).setCell ⟨b, 9, none⟩ (.slice A l.length cap)) = WF := ⟨_, rfl⟩
        obtain ⟨hh1, hkF⟩ := storeE (HSTE.out.has (b := (b, 41, #[.int .i64 0, .int .i64 0, .int .i64 0, .int .i64 0, .int .i64 0, .string ⟨#[]⟩, .string ⟨#[]⟩, .int .u64 0, .int .i64 0, .slice none 0 0])) (by simp)) hWF
        rw [hWF]
        clear hWF
        have hf := HFIN.out _ _ HSTE.out hkF
        have HF := Lib.hid hf; clear hf
        have v0 := hh1.cell 0
        have v1 := hh1.cell 1
        have v2 := hh1.cell 2
        have v3 := hh1.cell 3
        have v4 := hh1.cell 4
        have v5 := hh1.cell 5
        have v6 := hh1.cell 6
        have v7 := hh1.cell 7
        have v8 := hh1.cell 8
        have v9 := hh1.cell 9
        simp only [List.getElem?_toArray, List.getElem?_cons_zero, List.getElem?_cons_succ] at v0 v1 v2 v3 v4 v5 v6 v7 v8 v9
        refine bodyPost_ret (v := .tuple #[.agg #[.int .i64 0, .int .i64 nd, .int .i64 n, .int .i64 ak, .int .i64 an, .string key, .string dst, .int .u64 tm, .int .i64 am, .slice A l.length cap], .bool (er == 0)]) (by simp [results, Try.results22, go_sem, v0, v1, v2, v3, v4, v5, v6, v7, v8, v9]) rfl ?_
        exact HF.out
end Scr
end Go.Proofs.Ytfobbocaodppeaa
