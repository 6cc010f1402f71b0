/- script.ask: an ask of bytes, or what was thrown. -/
import Derived.Test.YtfobbocaodppeaaScr9
set_option linter.unusedSimpArgs false
set_option linter.unusedVariables false
namespace Go.Proofs.Ytfobbocaodppeaa
open Go.RowKit
set_option maxRecDepth 100000
namespace Scr
open Ops Vn Wire
abbrev qagg (x : EvC) (A : Option Addr) (c : Nat) : Value := .agg #[.int .i64 x.ak, .int .i64 x.an, .string x.key, .string x.dst, .int .u64 x.tm, .int .i64 x.am, .slice A x.ops.length c]
/-- What ask leaves: the ask that is read, or an error that was thrown. -/
def AskPost (w : World) (g : Nat) (s : ByteArray) (r : RS) (e : Ending) (w' : World) : Prop :=
  ((∃ A cap, e = .returned (qagg (askR s 0 0 0 r).1 A cap) ∧ RdAt w' g s (askR s 0 0 0 r).2 ∧ NewSl 55 3 w.heap.size w' A (askR s 0 0 0 r).1.ops.length cap (cells (askR s 0 0 0 r).1.ops)) ∨
    (∃ c, e = thrown c ∧ (askR s 0 0 0 r).2.2 ≠ 0)) ∧ Kept (fun k => k = g) w w'
theorem rNum_le (s : ByteArray) (most : Nat) (r : RS) : (rNum s most r).1 ≤ most := by
  have rBig_nil : ∀ {r : RS}, (rBig s r).2.2 ≠ 0 → (rBig s r).1 = 0 := fun {r} h => by
    unfold rBig at h ⊢
    split
    · rfl
    · rename_i h0
      rw [if_neg h0] at h
      split
      · rename_i n j hg
        rw [hg] at h
        exact absurd rfl h
      · rfl
  unfold rNum
  split
  · exact Nat.zero_le _
  · rename_i h
    by_cases h0 : (rBig s r).2.2 = 0
    · have : ¬ most < (rBig s r).1 := fun x => h ⟨h0, x⟩
      omega
    · rw [rBig_nil h0]; exact Nat.zero_le _
set_option maxHeartbeats 16000000 in
theorem ask_any (w : World) (g : Nat) (s : ByteArray) (r : RS) (h : RdAt w g s r) (hs : s.size ≤ maxLen) : Calls Try.prog 43 #[.pointer (some ⟨g, 0, none⟩)] w (AskPost w g s r) := by
  obtain ⟨q1, hq1⟩ : ∃ q, rNum s 1073741824 r = q := ⟨_, rfl⟩
  obtain ⟨q2, hq2⟩ : ∃ q, rNum s 1073741824 q1.2 = q := ⟨_, rfl⟩
  obtain ⟨q3, hq3⟩ : ∃ q, rNum s 1073741824 q2.2 = q := ⟨_, rfl⟩
  obtain ⟨q4, hq4⟩ : ∃ q, rBig s q3.2 = q := ⟨_, rfl⟩
  obtain ⟨q5, hq5⟩ : ∃ q, rText s 255 q4.2 = q := ⟨_, rfl⟩
  obtain ⟨q6, hq6⟩ : ∃ q, rText s 255 q5.2 = q := ⟨_, rfl⟩
  obtain ⟨q7, hq7⟩ : ∃ q, rNum s 255 q6.2 = q := ⟨_, rfl⟩
  have hn7 : q7.1 ≤ 255 := by rw [← hq7]; exact rNum_le _ _ _
  have hask : askR s 0 0 0 r = (⟨0, 0, 0, q1.1, q2.1, q5.1, q6.1, q4.1, q3.1, (rOpsB s q7.1 q7.2).1⟩, (rOpsB s q7.1 q7.2).2) := by
    unfold askR
    simp only [hq1, hq2, hq3, hq4, hq5, hq6, hq7]
  obtain ⟨ak, r1⟩ := q1
  obtain ⟨an, r2⟩ := q2
  obtain ⟨am, r3⟩ := q3
  obtain ⟨tm, r4⟩ := q4
  obtain ⟨key, r5⟩ := q5
  obtain ⟨dst, r6⟩ := q6
  obtain ⟨n, r7⟩ := q7
  dsimp only at hq2 hq3 hq4 hq5 hq6 hq7 hn7 hask
  have hpost : ∀ e W, ((∃ A cap, e = .returned (.agg #[.int .i64 ak, .int .i64 an, .string key, .string dst, .int .u64 tm, .int .i64 am, .slice A n cap]) ∧ RdAt W g s (rOpsB s n r7).2 ∧ NewSl 55 3 w.heap.size W A n cap (cells (rOpsB s n r7).1)) ∨
      (∃ c, e = thrown c ∧ (rOpsB s n r7).2.2 ≠ 0)) ∧ Kept (fun k => k = g) w W → AskPost w g s r e W := fun e W hW => by
    unfold AskPost
    rw [hask]
    unfold qagg
    dsimp only
    rw [rOpsB_len]
    exact hW
  obtain ⟨R, hR⟩ : ∃ R, AskPost w g s r = R := ⟨_, rfl⟩
  rw [hR] at hpost ⊢
  have HPOST := Lib.hid hpost; clear hpost hR hask
  have HQ := Lib.hid (And.intro hq1 (And.intro hq2 (And.intro hq3 (And.intro hq4 (And.intro hq5 (And.intro hq6 hq7)))))); clear hq1 hq2 hq3 hq4 hq5 hq6 hq7
  have hgl := h.1.lt
  have hmf : ∀ (fn : Fn) (first cap : Array Value) (w : World), (Instr.makeFunc fn first cap).run Try.prog w = .ok (.func fn first cap) w := fun _ _ _ _ => rfl
  obtain ⟨b, hb⟩ : ∃ b, w.heap.size = b := ⟨_, rfl⟩
  have o0 : OrdB (fun k => k = g) w g (b + 2) [b + 1, b] := ⟨.inl rfl, by omega, by omega, by intro k hk; simp at hk; omega⟩
  have hst : SB (fun k => k = g) w (fun W => RdAt W g s r) [(b + 1, 39, #[.int .i64 0, .int .i64 0, .string ⟨#[]⟩, .string ⟨#[]⟩, .int .u64 0, .int .i64 0, .slice none 0 0]), (b, 81, #[.pointer (some ⟨g, 0, none⟩)])] (b + 2) none 0 []
      ((w.alloc (.cells #[.pointer (some ⟨g, 0, none⟩)] 81)).alloc (.cells #[.int .i64 0, .int .i64 0, .string ⟨#[]⟩, .string ⟨#[]⟩, .int .u64 0, .int .i64 0, .slice none 0 0] 39)) := by
    subst hb
    refine ⟨(h.alloc _).alloc _, ?_, ⟨⟨rfl, .inl ⟨rfl, rfl⟩⟩, fun k hk => by cases hk⟩, by (repeat' (first | with_reducible exact Kept.refl _ _ | with_reducible refine Kept.put ?_ ?_ | with_reducible refine Kept.drewN ?_ _ | with_reducible refine Kept.drew ?_ | with_reducible refine Kept.alloc ?_ _ | (fail) | (right; simp; done)))⟩
    intro z hz
    simp only [List.mem_cons, List.not_mem_nil, or_false] at hz
    rcases hz with rfl | rfl
    · exact Has.new_at _ _ _ (by simp)
    · exact (Has.new _ _ _).alloc _
  obtain ⟨W2, hW2⟩ : ∃ W2, ((w.alloc (.cells #[.pointer (some ⟨g, 0, none⟩)] 81)).alloc (.cells #[.int .i64 0, .int .i64 0, .string ⟨#[]⟩, .string ⟨#[]⟩, .int .u64 0, .int .i64 0, .slice none 0 0] 39)) = W2 := ⟨_, rfl⟩
  rw [hW2] at hst
  have HW2 := Lib.hid hW2; clear hW2
  have HST := Lib.hid hst; clear hst
  have HO0 := Lib.hid o0; clear o0
  have HB := Lib.hid hb
  clear h hgl
  go_enter Try.func43, Try.ntmps43
  go_wp2_with fail
  rw [HW2.out]
  refine (asknum_any _ b g s r HST.out.1 hs ((HST.out.has (b := (b, 81, #[.pointer (some ⟨g, 0, none⟩)])) (by simp)).cell 0)).mono ?_
  intro e w3 hrd
  obtain ⟨rfl, hst, hk⟩ := SB.readR HO0.out HST.out hrd
  rw [HQ.out.1] at hst ⊢
  dsimp only at hst ⊢
  have hsz2 : b + 2 ≤ W2.heap.size := by rw [← HW2.out, ← hb]; simp
  have hsz3 := hk.size
  have o1 : OrdB (fun k => k = g) w g (w3.heap.size + 1) [w3.heap.size, b + 1, b] := ⟨.inl rfl, by have := HO0.out.gB; omega, by omega, by
    intro k hk
    have h1 := HO0.out.gB
    have h2 := HO0.out.ks b (by simp)
    have h3 := HO0.out.ks (b + 1) (by simp)
    simp at hk
    rcases hk with rfl | rfl | rfl
    · omega
    · omega
    · omega⟩
  have hst2 : SB (fun k => k = g) w (fun W => RdAt W g s r1) [(w3.heap.size, 39, #[.int .i64 ak, .int .i64 0, .string ⟨#[]⟩, .string ⟨#[]⟩, .int .u64 0, .int .i64 0, .slice none 0 0]), (b + 1, 39, #[.int .i64 0, .int .i64 0, .string ⟨#[]⟩, .string ⟨#[]⟩, .int .u64 0, .int .i64 0, .slice none 0 0]), (b, 81, #[.pointer (some ⟨g, 0, none⟩)])] (w3.heap.size + 1) none 0 []
      (w3.alloc (.cells #[.int .i64 ak, .int .i64 0, .string ⟨#[]⟩, .string ⟨#[]⟩, .int .u64 0, .int .i64 0, .slice none 0 0] 39)) := by
    refine ⟨hst.1.alloc _, ?_, ⟨⟨rfl, .inl ⟨rfl, rfl⟩⟩, fun k hk => by cases hk⟩, hst.2.2.2.alloc _⟩
    intro z hz
    rcases List.mem_cons.1 hz with rfl | hz
    · exact Has.new _ _ _
    · exact (hst.has hz).alloc _
  obtain ⟨W4, hW4⟩ : ∃ W4, (w3.alloc (.cells #[.int .i64 ak, .int .i64 0, .string ⟨#[]⟩, .string ⟨#[]⟩, .int .u64 0, .int .i64 0, .slice none 0 0] 39)) = W4 := ⟨_, rfl⟩
  have hge : w3.heap.size + 1 ≤ W4.heap.size := by rw [← hW4]; simp
  have hbx : b + 1 < w3.heap.size := by omega
  rw [hW4] at hst2
  have HW4 := Lib.hid hW4; clear hW4
  obtain ⟨x, hx⟩ : ∃ x, w3.heap.size = x := ⟨_, rfl⟩
  rw [hx] at hst2 o1 hge hbx
  have HX := Lib.hid hx; clear hx
  clear HST hrd hk hst hsz2 hsz3 HO0 HW2
  have HO := Lib.hid o1; clear o1
  have HST := Lib.hid hst2; clear hst2
  have hnx : x ∉ [b + 1, b] := by simp; omega
  have HNX := Lib.hid hnx; clear hnx
  have HGE := Lib.hid (And.intro hge hbx); clear hge hbx
  clear hb
  go_wp2_with fail
  rw [HW4.out, HX.out]
  refine (asknum_any _ b g s r1 HST.out.1 hs ((HST.out.has (b := (b, 81, #[.pointer (some ⟨g, 0, none⟩)])) (by simp)).cell 0)).mono ?_
  intro e w11 hrd
  obtain ⟨rfl, hst, hk⟩ := SB.readR HO.out HST.out hrd
  rw [HQ.out.2.1] at hst ⊢
  dsimp only at hst ⊢
  clear HST hrd hk
  have hX := hst.has (b := (x, 39, #[.int .i64 ak, .int .i64 0, .string ⟨#[]⟩, .string ⟨#[]⟩, .int .u64 0, .int .i64 0, .slice none 0 0])) (by simp)
  have xv := hX.cell 1
  have xf := hX.frozen 1
  simp only [List.getElem?_toArray, List.getElem?_cons_zero, List.getElem?_cons_succ] at xv
  have hst2 := SB.setx (cs' := #[.int .i64 ak, .int .i64 an, .string ⟨#[]⟩, .string ⟨#[]⟩, .int .u64 0, .int .i64 0, .slice none 0 0]) (i := 1) (u := .int .i64 an) (rdK_r g s r2) HO.out HNX.out hst rfl
  have bv := (hst2.has (b := (b, 81, #[.pointer (some ⟨g, 0, none⟩)])) (by simp)).cell 0
  simp only [List.getElem?_toArray, List.getElem?_cons_zero] at bv
  have HST := Lib.hid hst2; clear hst2 hst hX
  go_wp2_with fail
  clear xv xf bv
  refine (asknum_any _ b g s r2 HST.out.1 hs ((HST.out.has (b := (b, 81, #[.pointer (some ⟨g, 0, none⟩)])) (by simp)).cell 0)).mono ?_
  intro e w12 hrd
  obtain ⟨rfl, hst, hk⟩ := SB.readR HO.out HST.out hrd
  rw [HQ.out.2.2.1] at hst ⊢
  dsimp only at hst ⊢
  clear HST hrd hk
  have hX := hst.has (b := (x, 39, #[.int .i64 ak, .int .i64 an, .string ⟨#[]⟩, .string ⟨#[]⟩, .int .u64 0, .int .i64 0, .slice none 0 0])) (by simp)
  have xv := hX.cell 5
  have xf := hX.frozen 5
  simp only [List.getElem?_toArray, List.getElem?_cons_zero, List.getElem?_cons_succ] at xv
  have hst2 := SB.setx (cs' := #[.int .i64 ak, .int .i64 an, .string ⟨#[]⟩, .string ⟨#[]⟩, .int .u64 0, .int .i64 am, .slice none 0 0]) (i := 5) (u := .int .i64 am) (rdK_r g s r3) HO.out HNX.out hst rfl
  have bv := (hst2.has (b := (b, 81, #[.pointer (some ⟨g, 0, none⟩)])) (by simp)).cell 0
  simp only [List.getElem?_toArray, List.getElem?_cons_zero] at bv
  have HST := Lib.hid hst2; clear hst2 hst hX
  go_wp2_with fail
  clear xv xf bv
  refine (rbig_any _ g s r3 HST.out.1 hs).mono ?_
  intro e w13 hrd
  obtain ⟨rfl, hst, hk⟩ := SB.readR HO.out HST.out hrd
  rw [HQ.out.2.2.2.1] at hst ⊢
  dsimp only at hst ⊢
  clear HST hrd hk
  have hX := hst.has (b := (x, 39, #[.int .i64 ak, .int .i64 an, .string ⟨#[]⟩, .string ⟨#[]⟩, .int .u64 0, .int .i64 am, .slice none 0 0])) (by simp)
  have xv := hX.cell 4
  have xf := hX.frozen 4
  simp only [List.getElem?_toArray, List.getElem?_cons_zero, List.getElem?_cons_succ] at xv
  have hst2 := SB.setx (cs' := #[.int .i64 ak, .int .i64 an, .string ⟨#[]⟩, .string ⟨#[]⟩, .int .u64 tm, .int .i64 am, .slice none 0 0]) (i := 4) (u := .int .u64 tm) (rdK_r g s r4) HO.out HNX.out hst rfl
  have bv := (hst2.has (b := (b, 81, #[.pointer (some ⟨g, 0, none⟩)])) (by simp)).cell 0
  simp only [List.getElem?_toArray, List.getElem?_cons_zero] at bv
  have HST := Lib.hid hst2; clear hst2 hst hX
  go_wp2_with fail
  clear xv xf bv
  refine (text_any _ g s r4 255 HST.out.1 hs (by decide)).mono ?_
  intro e w14 hrd
  obtain ⟨rfl, hst, hk⟩ := SB.readR HO.out HST.out hrd
  rw [HQ.out.2.2.2.2.1] at hst ⊢
  dsimp only at hst ⊢
  clear HST hrd hk
  have hX := hst.has (b := (x, 39, #[.int .i64 ak, .int .i64 an, .string ⟨#[]⟩, .string ⟨#[]⟩, .int .u64 tm, .int .i64 am, .slice none 0 0])) (by simp)
  have xv := hX.cell 2
  have xf := hX.frozen 2
  simp only [List.getElem?_toArray, List.getElem?_cons_zero, List.getElem?_cons_succ] at xv
  have hst2 := SB.setx (cs' := #[.int .i64 ak, .int .i64 an, .string key, .string ⟨#[]⟩, .int .u64 tm, .int .i64 am, .slice none 0 0]) (i := 2) (u := .string key) (rdK_r g s r5) HO.out HNX.out hst rfl
  have bv := (hst2.has (b := (b, 81, #[.pointer (some ⟨g, 0, none⟩)])) (by simp)).cell 0
  simp only [List.getElem?_toArray, List.getElem?_cons_zero] at bv
  have HST := Lib.hid hst2; clear hst2 hst hX
  go_wp2_with fail
  clear xv xf bv
  refine (text_any _ g s r5 255 HST.out.1 hs (by decide)).mono ?_
  intro e w15 hrd
  obtain ⟨rfl, hst, hk⟩ := SB.readR HO.out HST.out hrd
  rw [HQ.out.2.2.2.2.2.1] at hst ⊢
  dsimp only at hst ⊢
  clear HST hrd hk
  have hX := hst.has (b := (x, 39, #[.int .i64 ak, .int .i64 an, .string key, .string ⟨#[]⟩, .int .u64 tm, .int .i64 am, .slice none 0 0])) (by simp)
  have xv := hX.cell 3
  have xf := hX.frozen 3
  simp only [List.getElem?_toArray, List.getElem?_cons_zero, List.getElem?_cons_succ] at xv
  have hst2 := SB.setx (cs' := #[.int .i64 ak, .int .i64 an, .string key, .string dst, .int .u64 tm, .int .i64 am, .slice none 0 0]) (i := 3) (u := .string dst) (rdK_r g s r6) HO.out HNX.out hst rfl
  have bv := (hst2.has (b := (b, 81, #[.pointer (some ⟨g, 0, none⟩)])) (by simp)).cell 0
  simp only [List.getElem?_toArray, List.getElem?_cons_zero] at bv
  have HST := Lib.hid hst2; clear hst2 hst hX
  go_wp2_with fail
  clear xv xf bv
  refine (num_any _ g s r6 255 HST.out.1 hs (by decide)).mono ?_
  intro e w20 hrd
  obtain ⟨rfl, hst, hk⟩ := SB.readR HO.out HST.out hrd
  rw [HQ.out.2.2.2.2.2.2] at hst ⊢
  dsimp only at hst ⊢
  clear HST hrd hk
  have HST := Lib.hid hst; clear hst
  go_wp2_with fail
  go_loopw [27] (fun v27 wr => ∃ (i : Nat) (A : Option Addr) (cap : Nat), i ≤ n ∧ v27 = .int .i64 i ∧ SB (fun k => k = g) w (fun W => RdAt W g s (rOpsB s i r7).2) [(x, 39, #[.int .i64 ak, .int .i64 an, .string key, .string dst, .int .u64 tm, .int .i64 am, .slice A (rOpsB s i r7).1.length cap]), (b + 1, 39, #[.int .i64 0, .int .i64 0, .string ⟨#[]⟩, .string ⟨#[]⟩, .int .u64 0, .int .i64 0, .slice none 0 0]), (b, 81, #[.pointer (some ⟨g, 0, none⟩)])] (x + 1) A cap (rOpsB s i r7).1 wr ∧ x + 1 ≤ wr.heap.size) (fun v27 _ => n - (intOf v27).toNat)
  case atStart => exact ⟨0, none, 0, Nat.zero_le _, rfl, HST.out, by have := (HST.out.has (b := (x, 39, #[.int .i64 ak, .int .i64 an, .string key, .string dst, .int .u64 tm, .int .i64 am, .slice none 0 0])) (by simp)).lt; dsimp only at this; omega⟩
  case round =>
    obtain ⟨i, A, cap, hi, rfl, hst, hge⟩ := hrel
    clear HST
    have hlen := rOpsB_len s r7 i
    by_cases hin : i < n
    · have hnext : rOpsB s (i + 1) r7 = ((rOpsB s i r7).1 ++ [(rOpB s (rOpsB s i r7).2).1], (rOpB s (rOpsB s i r7).2).2) := rfl
      have hstay := fun h => rOpsB_stays (s := s) (r := r7) (i := i + 1) h (n - (i + 1))
      rw [show i + 1 + (n - (i + 1)) = n by omega] at hstay
      obtain ⟨l, hl⟩ : ∃ l, (rOpsB s i r7).1 = l := ⟨_, rfl⟩
      obtain ⟨r, hr⟩ : ∃ r, (rOpsB s i r7).2 = r := ⟨_, rfl⟩
      rw [hl, hr] at hst hnext
      rw [hl] at hlen
      have hop : rOpB s r = (⟨(rText s 255 r).1, (rText s 255 (rFlag s (rText s 255 r).2).2).1, (rFlag s (rText s 255 r).2).1⟩, (rText s 255 (rFlag s (rText s 255 r).2).2).2) := rfl
      obtain ⟨p1, hp1⟩ : ∃ p, rText s 255 r = p := ⟨_, rfl⟩
      obtain ⟨k1, ra⟩ := p1
      rw [hp1] at hop
      dsimp only at hop
      obtain ⟨p2, hp2⟩ : ∃ p, rFlag s ra = p := ⟨_, rfl⟩
      obtain ⟨d1, rb⟩ := p2
      rw [hp2] at hop
      dsimp only at hop
      obtain ⟨p3, hp3⟩ : ∃ p, rText s 255 rb = p := ⟨_, rfl⟩
      obtain ⟨v1, rc⟩ := p3
      rw [hp3] at hop
      dsimp only at hop
      rw [hop] at hnext
      dsimp only at hnext
      rw [hnext] at hstay
      dsimp only at hstay
      have HNX2 := Lib.hid (And.intro hnext hstay); clear hnext hop hl hr hstay
      have HP := Lib.hid (And.intro hp1 (And.intro hp2 hp3)); clear hp1 hp2 hp3
      have bv := (hst.has (b := (b, 81, #[.pointer (some ⟨g, 0, none⟩)])) (by simp)).cell 0
      simp only [List.getElem?_toArray, List.getElem?_cons_zero] at bv
      have HST := Lib.hid hst; clear hst
      have HLEN := Lib.hid hlen; clear hlen
      go_wp2_with fail
      clear bv
      refine (text_any _ g s r 255 HST.out.1 hs (by decide)).mono ?_
      intro e w6 hrd
      obtain ⟨rfl, hst, hk⟩ := SB.readR HO.out HST.out hrd
      rw [HP.out.1] at hst ⊢
      dsimp only at hst ⊢
      have hge6 : x + 1 ≤ w6.heap.size := Nat.le_trans hge hk.size
      have hrow := hst.row
      have hz0 := Has.new w6 55 #[.string k1, .string ⟨#[]⟩, .bool false]
      have hst2 := SB.keep (rdK_r g s ra) hst ((Kept.refl NoF w6).alloc (.cells #[.string k1, .string ⟨#[]⟩, .bool false] 55))
      obtain ⟨W7, hW7⟩ : ∃ W7, w6.alloc (.cells #[.string k1, .string ⟨#[]⟩, .bool false] 55) = W7 := ⟨_, rfl⟩
      obtain ⟨z, hz⟩ : ∃ z, w6.heap.size = z := ⟨_, rfl⟩
      rw [hW7] at hst2 hz0
      rw [hz] at hz0 hge6 hrow
      have bv := (hst2.has (b := (b, 81, #[.pointer (some ⟨g, 0, none⟩)])) (by simp)).cell 0
      simp only [List.getElem?_toArray, List.getElem?_cons_zero] at bv
      have HZ := Lib.hid (And.intro hz (And.intro hge6 hrow)); clear hz hge6 hrow
      have hbv2 := bv
      rw [← hW7] at hbv2
      have HW7 := Lib.hid hW7; clear hW7
      clear HST hrd hk hst bv hge
      have HST := Lib.hid hst2; clear hst2
      have HZ0 := Lib.hid hz0; clear hz0
      go_wp2_with fail
      clear hbv2
      rw [HW7.out, HZ.out.1]
      refine (flag_any _ g s ra HST.out.1 hs).mono ?_
      intro e w8 hrd
      obtain ⟨rfl, hst, hk⟩ := SB.readR HO.out HST.out hrd
      rw [HP.out.2.1] at hst ⊢
      dsimp only at hst ⊢
      have hz1 := HZ0.out.kept hk (by have := HO.out.gB; have := HZ.out.2.1; omega)
      have z2 := hz1.cell 2
      have zf2 := hz1.frozen 2
      simp only [List.getElem?_toArray, List.getElem?_cons_zero, List.getElem?_cons_succ] at z2
      have hst2 := SB.far (rdK_r g s rb) HO.out hst HZ.out.2.1 HZ.out.2.2 2 (.bool d1)
      have hz2 : Has (w8.setCell ⟨z, 2, none⟩ (.bool d1)) z 55 #[.string k1, .string ⟨#[]⟩, .bool d1] := Has.put_of hz1 rfl
      have bv := (hst2.has (b := (b, 81, #[.pointer (some ⟨g, 0, none⟩)])) (by simp)).cell 0
      simp only [List.getElem?_toArray, List.getElem?_cons_zero] at bv
      clear HST HZ0 hrd hk hst hz1
      have HST := Lib.hid hst2; clear hst2
      have HZ0 := Lib.hid hz2; clear hz2
      go_wp2_with fail
      clear bv
      refine (text_any _ g s rb 255 HST.out.1 hs (by decide)).mono ?_
      intro e w9 hrd
      obtain ⟨rfl, hst, hk⟩ := SB.readR HO.out HST.out hrd
      rw [HP.out.2.2] at hst ⊢
      dsimp only at hst ⊢
      have hz1 := HZ0.out.kept hk (by have := HO.out.gB; have := HZ.out.2.1; omega)
      have hst2 := SB.far (rdK_r g s rc) HO.out hst HZ.out.2.1 HZ.out.2.2 1 (.string v1)
      have hz2 : Has (w9.setCell ⟨z, 1, none⟩ (.string v1)) z 55 #[.string k1, .string v1, .bool d1] := Has.put_of hz1 rfl
      clear z2 zf2
      have z1 := hz1.cell 1
      have zf1 := hz1.frozen 1
      simp only [List.getElem?_toArray, List.getElem?_cons_zero, List.getElem?_cons_succ] at z1
      have bv := (hst2.has (b := (b, 81, #[.pointer (some ⟨g, 0, none⟩)])) (by simp)).cell 0
      simp only [List.getElem?_toArray, List.getElem?_cons_zero] at bv
      have zz0 := hz2.cell 0
      have zz1 := hz2.cell 1
      have zz2 := hz2.cell 2
      simp only [List.getElem?_toArray, List.getElem?_cons_zero, List.getElem?_cons_succ] at zz0 zz1 zz2
      have xx6 := (hst2.has (b := (x, 39, #[.int .i64 ak, .int .i64 an, .string key, .string dst, .int .u64 tm, .int .i64 am, .slice A l.length cap])) (by simp)).cell 6
      simp only [List.getElem?_toArray, List.getElem?_cons_zero, List.getElem?_cons_succ] at xx6
      have hge9 : x + 1 ≤ (w9.setCell ⟨z, 1, none⟩ (.string v1)).heap.size := by have := hz2.lt; have := HZ.out.2.1; omega
      clear HST HZ0 hrd hk hst hz1 hz2
      have HST := Lib.hid hst2; clear hst2
      have HGE9 := Lib.hid hge9; clear hge9
      have hm1 : l.length + 1 ≤ maxLen := by rw [HLEN.out]; unfold maxLen; omega
      have hm2 : (l.length + 1) * 40 ≤ 140737488355328 := by rw [HLEN.out]; omega
      have HM1 := Lib.hid hm1; clear hm1
      have HM2 := Lib.hid hm2; clear hm2
      go_wp2_with fail
      clear z1 zf1
      refine (err_any _ g s rc HST.out.1).mono ?_
      rintro e w10 ⟨rfl, rfl⟩
      obtain ⟨re, rerr⟩ := rc
      dsimp only
      by_cases he : rerr = 0
      rotate_left
      · have hm := must_no rerr he
        have HM := Lib.hid hm; clear hm
        have hst0 := HNX2.out.2 he
        have hfin := HPOST.out (thrown rerr) _ ⟨.inr ⟨rerr, rfl, by rw [hst0]; exact he⟩, HST.out.2.2.2⟩
        have HF := Lib.hid hfin; clear hfin hst0 he
        go_wp2_with fail
        refine (HM.out _).mono ?_
        rintro e w11 ⟨rfl, rfl⟩
        go_wp2_with fail
        exact ⟨rfl, HF.out⟩
      · subst he
        have HM := Lib.hid must_ok
        go_wp2_with fail
        refine (HM.out _).mono ?_
        rintro e w11 ⟨rfl, rfl⟩
        go_wp2_with (at_builtin; refine list_append_src elemOp (.tmp 42) (.tmp 44) rfl rfl (Value.slice A l.length cap) rfl ((HST.out.2.2.1.kept ((Kept.refl _ _).alloc _)).1) 1 rfl (Src.of_has (m := 1) (cs := #[.string k1, .string v1, .bool d1]) (Has.new_at _ 55 _ (by simp)) rfl) (by intro u hu; simp at hu; rcases hu with rfl | rfl | rfl <;> rfl) HM1.out HM2.out ?_; intro A6 c6 w12 ho6 hg6 ha6; have hst6 := SB.append (rdK_r g s (re, 0)) HO.out HST.out HGE9.out (p := ⟨k1, v1, d1⟩) ((Kept.refl _ _).alloc _) ho6 hg6 ha6; have hx6 := hst6.has (b := (x, 39, #[.int .i64 ak, .int .i64 an, .string key, .string dst, .int .u64 tm, .int .i64 am, .slice A l.length cap])) (by simp); have ev := hx6.cell 6; have ef := hx6.frozen 6; simp only [List.getElem?_toArray, List.getElem?_cons_zero, List.getElem?_cons_succ] at ev; have hst7 := SB.setx (cs' := #[.int .i64 ak, .int .i64 an, .string key, .string dst, .int .u64 tm, .int .i64 am, .slice A6 (l.length + 1) c6]) (i := 6) (u := .slice A6 (l.length + 1) c6) (rdK_r g s (re, 0)) HO.out HNX.out hst6 rfl; have hg12 := (hst7.has (b := (x, 39, #[.int .i64 ak, .int .i64 an, .string key, .string dst, .int .u64 tm, .int .i64 am, .slice A6 (l.length + 1) c6])) (by simp)).lt; have HS6 := Lib.hid (And.intro hst7 hg12); clear ho6 hg6 ha6 hst6 hx6 hst7 hg12)
        go_roundw
        case rel => exact ⟨i + 1, A6, c6, by omega, by go_num, by rw [HNX2.out.1]; dsimp only; rw [List.length_append]; exact HS6.out.1, HS6.out.2⟩
        case measure => simp [intOf]; omega
    · obtain rfl : i = n := by omega
      obtain ⟨l, hl⟩ : ∃ l, (rOpsB s i r7).1 = l := ⟨_, rfl⟩
      obtain ⟨r8, hr⟩ : ∃ r, (rOpsB s i r7).2 = r := ⟨_, rfl⟩
      rw [hl, hr] at hst HPOST
      rw [hl] at hlen
      subst hlen
      clear hl hr
      have hX := hst.has (b := (x, 39, #[.int .i64 ak, .int .i64 an, .string key, .string dst, .int .u64 tm, .int .i64 am, .slice A l.length cap])) (by simp)
      have hY := hst.has (b := (b + 1, 39, #[.int .i64 0, .int .i64 0, .string ⟨#[]⟩, .string ⟨#[]⟩, .int .u64 0, .int .i64 0, .slice none 0 0])) (by simp)
      have x0 := hX.cell 0
      have x1 := hX.cell 1
      have x2 := hX.cell 2
      have x3 := hX.cell 3
      have x4 := hX.cell 4
      have x5 := hX.cell 5
      have x6 := hX.cell 6
      have y0 := hY.cell 0
      have y1 := hY.cell 1
      have y2 := hY.cell 2
      have y3 := hY.cell 3
      have y4 := hY.cell 4
      have y5 := hY.cell 5
      have y6 := hY.cell 6
      have yf0 := hY.frozen 0
      have yf1 := hY.frozen 1
      have yf2 := hY.frozen 2
      have yf3 := hY.frozen 3
      have yf4 := hY.frozen 4
      have yf5 := hY.frozen 5
      have yf6 := hY.frozen 6
      simp only [List.getElem?_toArray, List.getElem?_cons_zero, List.getElem?_cons_succ] at x0 x1 x2 x3 x4 x5 x6 y0 y1 y2 y3 y4 y5 y6
      clear hX hY
      have oY := HO.out.ks (b + 1) (by simp)
      have hky : ∀ W, W = ((((((wr.setCell ⟨b + 1, 0, none⟩ (.int .i64 ak)).setCell ⟨b + 1, 1, none⟩ (.int .i64 an)).setCell ⟨b + 1, 2, none⟩ (.string key)).setCell ⟨b + 1, 3, none⟩ (.string dst)).setCell ⟨b + 1, 4, none⟩ (.int .u64 tm)).setCell ⟨b + 1, 5, none⟩ (.int .i64 am)).setCell ⟨b + 1, 6, none⟩ (.slice A l.length cap) → R (.returned (.agg #[.int .i64 ak, .int .i64 an, .string key, .string dst, .int .u64 tm, .int .i64 am, .slice A l.length cap])) W := fun W hW => by
        have hk : Kept (fun k => k = b + 1) wr W := by
          rw [hW]
          exact ((((((Kept.put (F := fun k => k = b + 1) (Kept.refl _ _) (.inl rfl)).put (.inl rfl)).put (.inl rfl)).put (.inl rfl)).put (.inl rfl)).put (.inl rfl)).put (.inl rfl)
        refine HPOST.out _ W ⟨.inl ⟨A, cap, rfl, hst.1.kept hk (fun e => oY.2.2 e.symm), own_kept hst.2.2.1.1 hk (fun k hk2 e => ?_), fun k hk2 => ?_⟩, hst.2.2.2.trans hk fun j hj => by rw [hj]; exact .inr oY.1⟩
        · have := hst.2.2.1.2 k hk2
          omega
        · have := hst.2.2.1.2 k hk2
          omega
      have HKY := Lib.hid hky; clear hky hst oY
      go_wp2_with fail
      refine bodyPost_ret (v := .agg #[.int .i64 ak, .int .i64 an, .string key, .string dst, .int .u64 tm, .int .i64 am, .slice A l.length cap]) (by simp [results, Try.results43, go_sem, y0, y1, y2, y3, y4, y5, y6, yf0, yf1, yf2, yf3, yf4, yf5, yf6]) rfl ?_
      exact HKY.out _ rfl
end Scr
end Go.Proofs.Ytfobbocaodppeaa
