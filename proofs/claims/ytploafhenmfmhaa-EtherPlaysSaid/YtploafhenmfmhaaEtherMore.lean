/- The ether: Double, Drop, awake. -/
import Derived.Test.YtploafhenmfmhaaEther
import Derived.Deep.RegionHeld3
set_option linter.unusedSimpArgs false
set_option linter.unusedVariables false
namespace Go.Proofs.Ytploafhenmfmhaa
open Go.RowKit
set_option maxRecDepth 100000
namespace Ether

theorem After.mono {w w' : World} {g : Nat} {F : Nat → Prop} {v : Value} {ps : List Pk} {lost : Int} {e : Ending} (h : After w g F v ps lost e w') : e = .returned v ∧ ∃ F', EtherAt w' g F' ps lost ∧ Grows w F F' ∧ Kept F w w' := h

theorem double_no {F : Nat → Prop} {w : World} {g : Nat} {ps : List Pk} {lost : Int} (h : EtherAt w g F ps lost) (hp : ps = []) (k : Int) :
    Calls Try.prog 27 #[.pointer (some ⟨g, 0, none⟩), .int .i64 k] w (After w g F (.int .i64 7) ps lost) := by
  have hn := empty_no h hp
  have HN := Lib.hid hn; clear hn
  have H := Lib.hid h; clear h hp
  go_enter Try.func27, Try.ntmps27
  go_wp2_with fail
  refine HN.out.mono ?_
  rintro e w' ⟨rfl, rfl⟩
  go_wp2_with fail
  go_ret
  exact ⟨rfl, F, H.out, Grows.refl _ _, Kept.refl _ _⟩

theorem double_full {F : Nat → Prop} {w : World} {g : Nat} {ps : List Pk} {lost : Int} (h : EtherAt w g F ps lost) (hp : 400 ≤ ps.length) (k : Int) :
    Calls Try.prog 27 #[.pointer (some ⟨g, 0, none⟩), .int .i64 k] w (After w g F (.int .i64 6) ps lost) := by
  have hn := empty_ok h (by omega)
  have HN := Lib.hid hn; clear hn
  have H := Lib.hid h
  obtain ⟨lb, bs, hF, hg, hl⟩ := h
  have c0 : w.cell? ⟨g, 0, none⟩ = some (.pointer (some ⟨lb, 0, none⟩)) := hg.cell 0
  have c2 : w.cell? ⟨lb, 2, none⟩ = some (.int .i64 ps.length) := hl.head.cell 2
  clear hF hg hl
  go_enter Try.func27, Try.ntmps27
  go_wp2_with fail
  refine HN.out.mono ?_
  rintro e w' ⟨rfl, rfl⟩
  go_wp2_with fail
  go_ret
  exact ⟨rfl, F, H.out, Grows.refl _ _, Kept.refl _ _⟩

theorem double_ok {F : Nat → Prop} {w : World} {g : Nat} {ps : List Pk} {lost : Int} (h : EtherAt w g F ps lost) (hp : 0 < ps.length) (hlen : ps.length < 400) (K0 : Int) (p : Pk) (hpk : ps[placeP ps K0]? = some p) :
    Calls Try.prog 27 #[.pointer (some ⟨g, 0, none⟩), .int .i64 K0] w (After w g F (.int .i64 0) (ps ++ [p]) lost) := by
  have hn := empty_ok h (by omega)
  have HN := Lib.hid hn; clear hn
  have hpl : ∀ W : World, Kept NoF w W → _ := fun W hW => place_any (h.kept hW fun _ _ x => x) hp (by omega) K0
  have HPL := Lib.hid hpl; clear hpl
  obtain ⟨lb, bs, hF, hg, hl⟩ := h
  have c0 : w.cell? ⟨g, 0, none⟩ = some (.pointer (some ⟨lb, 0, none⟩)) := hg.cell 0
  have c2 : w.cell? ⟨lb, 2, none⟩ = some (.int .i64 ps.length) := hl.head.cell 2
  have hge : ∀ W : World, Kept NoF w W → _ := fun W hW => get_any (hl.kept hW fun _ _ x => x) (placeP ps K0) p hpk (by omega)
  have HGE := Lib.hid hge; clear hge
  have hpu : ∀ W : World, Kept NoF w W → _ := fun W hW => push_any (hl.kept hW fun _ _ x => x) p (by omega)
  have HPU := Lib.hid hpu; clear hpu
  have HG := Lib.hid hg; clear hg
  have HL := Lib.hid hl; clear hl
  have HF := Lib.hid hF; clear hF
  have HPK := Lib.hid hpk; clear hpk
  go_enter Try.func27, Try.ntmps27
  go_wp2_with fail
  refine HN.out.mono ?_
  rintro e w' ⟨rfl, rfl⟩
  go_wp2_with fail
  go_region_held3 (fun w' => w'.cell? ⟨g, 0, none⟩ = some (.pointer (some ⟨lb, 0, none⟩))) (first | exact c0 | exact hg2.cell 0 | exact hg1.cell 0 | (simp [go_sem, c0]; done))
    (first
      | (go_at_call 71; refine (HPL.out _ (by (repeat' (first | with_reducible exact Kept.refl _ _ | with_reducible refine Kept.put ?_ ?_ | with_reducible refine Kept.drewN ?_ _ | with_reducible refine Kept.drew ?_ | with_reducible refine Kept.alloc ?_ _ | (fail) | (right; simp; done))))).mono ?_; rintro e w' ⟨rfl, rfl⟩)
      | (go_at_call 73; refine (HGE.out _ (by (repeat' (first | with_reducible exact Kept.refl _ _ | with_reducible refine Kept.put ?_ ?_ | with_reducible refine Kept.drewN ?_ _ | with_reducible refine Kept.drew ?_ | with_reducible refine Kept.alloc ?_ _ | (fail) | (right; simp; done))))).mono ?_; rintro e w1 ⟨rfl, hk1⟩; have hg1 : Has w1 g _ _ := Has.kept (by ((repeat (first | with_reducible exact HG.out | with_reducible apply Has.put_of | with_reducible apply Has.past | with_reducible apply Has.drewN | with_reducible apply Has.drew | with_reducible apply Has.alloc)) <;> first | omega | rfl)) hk1 (fun x => x); have hk2 : Kept NoF w w1 := Kept.then (by (repeat' (first | with_reducible exact Kept.refl _ _ | with_reducible refine Kept.put ?_ ?_ | with_reducible refine Kept.drewN ?_ _ | with_reducible refine Kept.drew ?_ | with_reducible refine Kept.alloc ?_ _ | (fail) | (right; simp; done)))) hk1)
      | (go_at_call 68; refine (HPU.out _ (by (repeat' (first | with_reducible exact Kept.refl _ _ | with_reducible refine Kept.put ?_ ?_ | with_reducible refine Kept.drewN ?_ _ | with_reducible refine Kept.drew ?_ | with_reducible refine Kept.alloc ?_ _ | (with_reducible exact hk2) | (right; simp; done))))).mono ?_; rintro e w2 ⟨rfl, b, hb, hl1, hk3⟩; have hg2 : Has w2 g _ _ := Has.kept (by ((repeat (first | with_reducible exact hg1 | with_reducible apply Has.put_of | with_reducible apply Has.past | with_reducible apply Has.drewN | with_reducible apply Has.drew | with_reducible apply Has.alloc)) <;> first | omega | rfl)) hk3 (by rintro (rfl | hx); exact HL.out.head.ne HG.out (by decide) rfl; exact HL.out.ne_type hx HG.out (by decide))))
  go_wp2_with fail
  go_ret
  refine ⟨rfl, fun k => k = g ∨ k = lb ∨ k ∈ bs ++ [b], ⟨lb, _, fun _ => Iff.rfl, hg2, hl1⟩, ?_, ?_⟩
  · have hs := hk2.size
    rintro k (rfl | rfl | hx)
    · exact .inl ((HF.out _).2 (.inl rfl))
    · exact .inl ((HF.out _).2 (.inr (.inl rfl)))
    · rcases List.mem_append.1 hx with hx | hx
      · exact .inl ((HF.out _).2 (.inr (.inr hx)))
      · rw [List.mem_singleton] at hx
        subst hx
        exact .inr (by omega)
  · exact (hk2.mono fun _ x => x.elim).trans hk3 fun k hk => .inl ((HF.out k).2 (.inr hk))

def doubleE (ps : List Pk) : Int := if ps = [] then 7 else if 400 ≤ ps.length then 6 else 0
def doubleP (ps : List Pk) (k : Int) : List Pk := if doubleE ps = 0 then ps ++ [ps.getD (placeP ps k) zero] else ps
theorem double_any {F : Nat → Prop} {w : World} {g : Nat} {ps : List Pk} {lost : Int} (h : EtherAt w g F ps lost) (k : Int) :
    Calls Try.prog 27 #[.pointer (some ⟨g, 0, none⟩), .int .i64 k] w (After w g F (.int .i64 (doubleE ps)) (doubleP ps k) lost) := by
  unfold doubleP doubleE
  by_cases hp : ps = []
  · rw [if_pos hp]
    exact double_no h hp k
  · rw [if_neg hp]
    have hp' : 0 < ps.length := List.length_pos_iff.2 hp
    by_cases hf : 400 ≤ ps.length
    · rw [if_pos hf]
      exact double_full h hf k
    · rw [if_neg hf]
      refine double_ok h hp' (by omega) k _ ?_
      rw [List.getD_eq_getElem?_getD, List.getElem?_eq_getElem (place_lt hp' k)]
      rfl

def dropL (ps : List Pk) (lost : Int) : Int := if takeE ps = 0 then min (lost + 1) 1073741824 else lost
theorem drop_any {F : Nat → Prop} {w : World} {g : Nat} {ps : List Pk} {lost : Int} (h : EtherAt w g F ps lost) (h0 : 0 ≤ lost) (h1 : lost ≤ 1073741824) (hlen : ps.length ≤ 1000) (k : Int) :
    Calls Try.prog 37 #[.pointer (some ⟨g, 0, none⟩), .int .i64 k] w (After w g F (.int .i64 (takeE ps)) (takeP ps k) (dropL ps lost)) := by
  have ht := take_any h hlen k
  have HT := Lib.hid ht; clear ht
  unfold dropL
  have e : takeE ps = 0 ∨ takeE ps = 7 := by unfold takeE; split <;> simp
  generalize hE : takeE ps = E at *
  generalize hV : takeV ps k = V at *
  clear hE hV
  obtain ⟨v1, v2, v3⟩ := V
  unfold agg at HT
  rcases e with rfl | rfl
  · go_enter Try.func37, Try.ntmps37
    go_wp2_with fail
    refine HT.out.mono ?_
    rintro e w1 ⟨rfl, F1, hA, hG, hk⟩
    have hlo : ∀ W : World, Kept NoF w1 W → _ := fun W hW => lose_any (hA.kept hW fun _ _ x => x) h0 h1
    have HLO := Lib.hid hlo; clear hlo
    have HA := Lib.hid hA; clear hA
    go_wp2_with fail
    refine (HLO.out _ ((Kept.refl _ _).alloc _)).mono ?_
    rintro e w2 ⟨rfl, hA2, hk2⟩
    go_wp2_with fail
    go_ret
    exact ⟨rfl, F1, hA2, hG, (hk.alloc _).trans hk2 hG⟩
  · go_enter Try.func37, Try.ntmps37
    go_wp2_with fail
    refine HT.out.mono ?_
    rintro e w1 ⟨rfl, F1, hA, hG, hk⟩
    go_wp2_with fail
    go_ret
    exact ⟨rfl, F1, hA.kept ((Kept.refl NoF _).alloc _) (fun _ _ x => x), hG, hk.alloc _⟩

theorem awake_any (w : World) : Calls Try.prog 26 #[] w fun e w' => e = .returned (.bool true) ∧ Kept NoF w w' := by
  go_enter Try.func26, Try.ntmps26
  go_wp2_with fail
  refine (new_any _).mono ?_
  rintro e w1 ⟨g, F1, rfl, hA1, hk1, hF1⟩
  have hs1 := send_any hA1 (by omega) (by omega) (0, 0, ⟨#[97]⟩)
  have HS1 := Lib.hid hs1; clear hs1 hA1
  go_wp2_with fail
  refine HS1.out.mono ?_
  rintro e w2 ⟨rfl, F2, hA2, hG2, hk2⟩
  have hs2 := send_any hA2 (by decide) (by decide) (0, 0, ⟨#[98]⟩)
  have HS2 := Lib.hid hs2; clear hs2 hA2
  go_wp2_with fail
  refine HS2.out.mono ?_
  rintro e w3 ⟨rfl, F3, hA3, hG3, hk3⟩
  have ht1 := take_any hA3 (by decide) 1
  have HT1 := Lib.hid ht1; clear ht1 hA3
  go_wp2_with fail
  refine HT1.out.mono ?_
  rintro e w4 ⟨rfl, F4, hA4, hG4, hk4⟩
  have ht2 : ∀ W : World, Kept NoF w4 W → _ := fun W hW => take_any (hA4.kept hW fun _ _ x => x) (by decide) 9
  have HT2 := Lib.hid ht2; clear ht2
  have HA4 := Lib.hid hA4; clear hA4
  have e1 : takeV (sendP (sendP [] (0, 0, ⟨#[97]⟩)) (0, 0, ⟨#[98]⟩)) 1 = (0, 0, ⟨#[98]⟩) := rfl
  have e2 : takeV (takeP (sendP (sendP [] (0, 0, ⟨#[97]⟩)) (0, 0, ⟨#[98]⟩)) 1) 9 = (0, 0, ⟨#[97]⟩) := rfl
  have e3 : takeE (sendP (sendP [] (0, 0, ⟨#[97]⟩)) (0, 0, ⟨#[98]⟩)) = 0 := rfl
  have e4 : takeE (takeP (sendP (sendP [] (0, 0, ⟨#[97]⟩)) (0, 0, ⟨#[98]⟩)) 1) = 0 := rfl
  have e5 : takeP (takeP (sendP (sendP [] (0, 0, ⟨#[97]⟩)) (0, 0, ⟨#[98]⟩)) 1) 9 = [] := rfl
  rw [e1, e3]
  rw [e2, e4, e5] at HT2
  clear e1 e2 e3 e4 e5
  unfold agg at HT2 ⊢
  have hkp : Kept NoF w w4 := by
    refine hk1.trans (G := F1) (hk2.trans hk3 hG2 |>.trans hk4 ?_) ?_
    · exact hG2.trans hG3 hk2.size
    · exact fun i hi => .inr (hF1 i hi)
  go_wp2_with fail
  refine (HT2.out _ ((Kept.refl _ _).alloc _)).mono ?_
  rintro e w5 ⟨rfl, F5, hA5, hG5, hk5⟩
  have hl5 : ∀ W : World, Kept NoF w5 W → _ := fun W hW => len_any (hA5.kept hW fun _ _ x => x)
  have HL5 := Lib.hid hl5; clear hl5
  have hb : Has w5 w4.heap.size 36 #[.int .i64 0, .int .i64 0, .string ⟨#[98]⟩] := (Has.new _ _ _).kept hk5 (fun x => by
    have := HA4.out.lt _ x
    omega)
  have hbc : w5.cell? ⟨w4.heap.size, 2, none⟩ = some (.string ⟨#[98]⟩) := hb.cell 2
  have hbl := hb.lt
  clear hb
  go_wp2_with fail
  refine (HL5.out _ ((Kept.refl _ _).alloc _)).mono ?_
  rintro e w6 ⟨rfl, rfl⟩
  go_wp2_with fail
  go_ret
  exact ⟨rfl, ((hkp.alloc _).trans hk5 fun i hi => .inr (by
    rcases hG4 i hi with x | x
    · rcases hG3 i x with x | x
      · rcases hG2 i x with x | x
        · exact hF1 i x
        · have := hk1.size; omega
      · have := hk1.size; have := hk2.size; omega
    · have := hk1.size; have := hk2.size; have := hk3.size; omega)).alloc _⟩
end Ether
end Go.Proofs.Ytploafhenmfmhaa
