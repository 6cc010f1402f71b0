/- The ether: what its exported functions do to the packets behind a pointer. -/
import Derived.Test.YtploafhenmfmhaaEtherList
import Derived.StillTailTactics
import Derived.Deep.DeepFit
set_option linter.unusedSimpArgs false
set_option linter.unusedVariables false
namespace Go.Proofs.Ytploafhenmfmhaa
open Go.RowKit
set_option maxRecDepth 100000
namespace Ether

/-- The ether behind block g: its packets, how many were lost; F: all its blocks. -/
def EtherAt (w : World) (g : Nat) (F : Nat → Prop) (ps : List Pk) (lost : Int) : Prop :=
  ∃ lb bs, (∀ k, F k ↔ k = g ∨ k = lb ∨ k ∈ bs) ∧ Has w g 67 #[.pointer (some ⟨lb, 0, none⟩), .int .i64 lost] ∧ ListAt w lb bs ps

theorem EtherAt.kept {F G : Nat → Prop} {w w' : World} {g : Nat} {ps : List Pk} {lost : Int} (h : EtherAt w g F ps lost) (hk : Kept G w w') (hs : Sep F G) : EtherAt w' g F ps lost := by
  obtain ⟨lb, bs, hF, hg, hl⟩ := h
  exact ⟨lb, bs, hF, hg.kept hk (hs _ ((hF _).2 (.inl rfl))), hl.kept hk fun k hk' => hs k ((hF k).2 (.inr hk'))⟩
theorem EtherAt.lt {F : Nat → Prop} {w : World} {g : Nat} {ps : List Pk} {lost : Int} (h : EtherAt w g F ps lost) : ∀ k, F k → k < w.heap.size := by
  obtain ⟨lb, bs, hF, hg, hl⟩ := h
  intro k hk
  rcases (hF k).1 hk with rfl | h
  · exact hg.lt
  · exact hl.lt k h

def nodeB (x : Int) : Bool := decide (0 ≤ x) && decide (x < 8)
theorem node_any (x : Int) (w : World) : Calls Try.prog 66 #[.int .i64 x] w fun e w' => e = .returned (.bool (nodeB x)) ∧ w = w' := by
  unfold nodeB
  by_cases h : 0 ≤ x
  · have h1 : decide (0 ≤ x) = true := by simpa using h
    go_enter Try.func66, Try.ntmps66
    go_wp2
    go_ret
    exact ⟨by simp [h], rfl⟩
  · have h1 : decide (0 ≤ x) = false := by simpa using h
    go_enter Try.func66, Try.ntmps66
    go_wp2
    go_ret
    exact ⟨by simp [h], rfl⟩

theorem none_any {F : Nat → Prop} {w : World} {g : Nat} {ps : List Pk} {lost : Int} (h : EtherAt w g F ps lost) :
    Calls Try.prog 65 #[.pointer (some ⟨g, 0, none⟩)] w fun e w' => e = .returned (.bool false) ∧ w = w' := by
  obtain ⟨lb, bs, hF, hg, hl⟩ := h
  have c0 : w.cell? ⟨g, 0, none⟩ = some (.pointer (some ⟨lb, 0, none⟩)) := hg.cell 0
  clear hF hg hl
  go_enter Try.func65, Try.ntmps65
  go_wp2
  go_ret
  exact ⟨rfl, rfl⟩

theorem lose_any {F : Nat → Prop} {w : World} {g : Nat} {ps : List Pk} {lost : Int} (h : EtherAt w g F ps lost) (h0 : 0 ≤ lost) (h1 : lost ≤ 1073741824) :
    Calls Try.prog 67 #[.pointer (some ⟨g, 0, none⟩)] w fun e w' => e = .returned (.tuple #[]) ∧ EtherAt w' g F ps (min (lost + 1) 1073741824) ∧ Kept F w w' := by
  obtain ⟨lb, bs, hF, hg, hl⟩ := h
  have c1 : w.cell? ⟨g, 1, none⟩ = some (.int .i64 lost) := hg.cell 1
  have f1 := hg.frozen 1
  have H := Lib.hid hg; clear hg
  have HL := Lib.hid hl; clear hl
  have hgl : g ≠ lb := H.out.ne HL.out.head (by decide)
  go_enter Try.func67, Try.ntmps67
  go_wp2
  all_goals
    go_end0
    refine ⟨rfl, ⟨lb, bs, hF, ?_, ?_⟩, by (repeat' (first | with_reducible exact Kept.refl _ _ | with_reducible refine Kept.put ?_ ?_ | with_reducible refine Kept.drewN ?_ _ | with_reducible refine Kept.drew ?_ | with_reducible refine Kept.alloc ?_ _ | (exact .inl ((hF _).2 (.inl rfl))) | (right; simp; done)))⟩
    · first | rw [show min (lost + 1) 1073741824 = lost + 1 by omega] | rw [show min (lost + 1) 1073741824 = 1073741824 by omega]
      ((repeat (first | with_reducible exact H.out | with_reducible apply Has.put_of | with_reducible apply Has.past | with_reducible apply Has.drewN | with_reducible apply Has.drew | with_reducible apply Has.alloc)) <;> first | omega | rfl)
    · refine HL.out.kept (F := fun k => k = g) (by (repeat' (first | with_reducible exact Kept.refl _ _ | with_reducible refine Kept.put ?_ ?_ | with_reducible refine Kept.drewN ?_ _ | with_reducible refine Kept.drew ?_ | with_reducible refine Kept.alloc ?_ _ | (exact .inl rfl) | (right; simp; done)))) ?_
      rintro k (rfl | hk) rfl
      · exact hgl rfl
      · exact HL.out.ne_type hk H.out (by decide)

theorem empty_no {F : Nat → Prop} {w : World} {g : Nat} {ps : List Pk} {lost : Int} (h : EtherAt w g F ps lost) (hp : ps = []) :
    Calls Try.prog 69 #[.pointer (some ⟨g, 0, none⟩)] w fun e w' => e = .returned (.int .i64 7) ∧ w = w' := by
  have hn := none_any h
  obtain ⟨lb, bs, hF, hg, hl⟩ := h
  have c0 : w.cell? ⟨g, 0, none⟩ = some (.pointer (some ⟨lb, 0, none⟩)) := hg.cell 0
  have c2 : w.cell? ⟨lb, 2, none⟩ = some (.int .i64 0) := by subst hp; exact hl.head.cell 2
  have HN := Lib.hid hn; clear hn
  clear hF hg hl hp
  go_enter Try.func69, Try.ntmps69
  go_wp2_with (go_at_call 65; refine HN.out.mono ?_; rintro e w' ⟨rfl, rfl⟩)
  go_ret
  exact ⟨rfl, rfl⟩
theorem empty_ok {F : Nat → Prop} {w : World} {g : Nat} {ps : List Pk} {lost : Int} (h : EtherAt w g F ps lost) (hp : 0 < ps.length) :
    Calls Try.prog 69 #[.pointer (some ⟨g, 0, none⟩)] w fun e w' => e = .returned (.int .i64 0) ∧ w = w' := by
  have hn := none_any h
  obtain ⟨lb, bs, hF, hg, hl⟩ := h
  have c0 : w.cell? ⟨g, 0, none⟩ = some (.pointer (some ⟨lb, 0, none⟩)) := hg.cell 0
  have c2 : w.cell? ⟨lb, 2, none⟩ = some (.int .i64 ps.length) := hl.head.cell 2
  have HN := Lib.hid hn; clear hn
  clear hF hg hl
  have h0 : ((ps.length : Int) == 0) = false := by rw [beq_eq_false_iff_ne]; omega
  go_enter Try.func69, Try.ntmps69
  go_wp2_with (go_at_call 65; refine HN.out.mono ?_; rintro e w' ⟨rfl, rfl⟩)
  go_ret
  exact ⟨rfl, rfl⟩

def placeP (ps : List Pk) (k : Int) : Nat := (max k 0).toNat % ps.length
theorem place_any {F : Nat → Prop} {w : World} {g : Nat} {ps : List Pk} {lost : Int} (h : EtherAt w g F ps lost) (hp : 0 < ps.length) (hlen : ps.length ≤ 1000) (k : Int) :
    Calls Try.prog 71 #[.pointer (some ⟨g, 0, none⟩), .int .i64 k] w fun e w' => e = .returned (.int .i64 (placeP ps k)) ∧ w = w' := by
  obtain ⟨lb, bs, hF, hg, hl⟩ := h
  have c0 : w.cell? ⟨g, 0, none⟩ = some (.pointer (some ⟨lb, 0, none⟩)) := hg.cell 0
  have c2 : w.cell? ⟨lb, 2, none⟩ = some (.int .i64 ps.length) := hl.head.cell 2
  clear hF hg hl
  have h0 : ((ps.length : Int) == 0) = false := by rw [beq_eq_false_iff_ne]; omega
  have hpl : (placeP ps k : Int) = max k 0 % (ps.length : Int) := by
    unfold placeP
    rw [Int.natCast_emod, Int.toNat_of_nonneg (by omega)]
  have HP := Lib.hid hpl; clear hpl
  by_cases hk : 0 ≤ k
  · go_enter Try.func71, Try.ntmps71
    go_wp2
    go_ret
    exact ⟨by rw [HP.out, show max k 0 = k by omega]; rfl, rfl⟩
  · go_enter Try.func71, Try.ntmps71
    go_wp2
    go_ret
    exact ⟨by rw [HP.out, show max k 0 = 0 by omega, Int.zero_emod]; rfl, rfl⟩

/-- What Send answers. -/
def sendE (ps : List Pk) (p : Pk) : Int := if !nodeB p.1 || !nodeB p.2.1 then 1 else if 400 ≤ ps.length then 6 else 0
def sendP (ps : List Pk) (p : Pk) : List Pk := if sendE ps p = 0 then ps ++ [p] else ps
def sendL (ps : List Pk) (lost : Int) (p : Pk) : Int := if sendE ps p = 6 then min (lost + 1) 1073741824 else lost

/-- Behind a call that gave answer e: the packets, how many were lost; nothing else has turned. -/
def After (w : World) (g : Nat) (F : Nat → Prop) (v : Value) (ps : List Pk) (lost : Int) (e : Ending) (w' : World) : Prop :=
  e = .returned v ∧ ∃ F', EtherAt w' g F' ps lost ∧ Grows w F F' ∧ Kept F w w'

theorem send_bad {F : Nat → Prop} {w : World} {g : Nat} {ps : List Pk} {lost : Int} (h : EtherAt w g F ps lost) (p : Pk) (hb : (!nodeB p.1 || !nodeB p.2.1) = true) :
    Calls Try.prog 20 #[.pointer (some ⟨g, 0, none⟩), agg p] w (After w g F (.int .i64 1) ps lost) := by
  have hn : ∀ W : World, Kept NoF w W → _ := fun W hW => none_any (h.kept hW fun _ _ x => x)
  have HN := Lib.hid hn; clear hn
  have H := Lib.hid h; clear h
  obtain ⟨p1, p2, p3⟩ := p
  unfold agg
  cases h1 : nodeB p1
  · go_enter Try.func20, Try.ntmps20
    go_wp2_with fail
    refine (HN.out _ ((Kept.refl _ _).alloc _)).mono ?_
    rintro e w' ⟨rfl, rfl⟩
    go_wp2_with fail
    refine (node_any _ _).mono ?_
    rintro e w' ⟨rfl, rfl⟩
    go_wp2_with fail
    go_ret
    exact ⟨rfl, F, H.out.kept ((Kept.refl NoF _).alloc _) (fun _ _ x => x), Grows.refl _ _, (Kept.refl _ _).alloc _⟩
  · have h2 : nodeB p2 = false := by simpa [h1] using hb
    go_enter Try.func20, Try.ntmps20
    go_wp2_with fail
    refine (HN.out _ ((Kept.refl _ _).alloc _)).mono ?_
    rintro e w' ⟨rfl, rfl⟩
    go_wp2_with fail
    refine (node_any _ _).mono ?_
    rintro e w' ⟨rfl, rfl⟩
    go_wp2_with fail
    refine (node_any _ _).mono ?_
    rintro e w' ⟨rfl, rfl⟩
    go_wp2_with fail
    go_ret
    exact ⟨rfl, F, H.out.kept ((Kept.refl NoF _).alloc _) (fun _ _ x => x), Grows.refl _ _, (Kept.refl _ _).alloc _⟩

theorem send_full {F : Nat → Prop} {w : World} {g : Nat} {ps : List Pk} {lost : Int} (h : EtherAt w g F ps lost) (h0 : 0 ≤ lost) (hL : lost ≤ 1073741824) (p : Pk) (h1 : nodeB p.1 = true) (h2 : nodeB p.2.1 = true) (hf : 400 ≤ ps.length) :
    Calls Try.prog 20 #[.pointer (some ⟨g, 0, none⟩), agg p] w (After w g F (.int .i64 6) ps (min (lost + 1) 1073741824)) := by
  have hn : ∀ W : World, Kept NoF w W → _ := fun W hW => none_any (h.kept hW fun _ _ x => x)
  have HN := Lib.hid hn; clear hn
  have hlo : ∀ W : World, Kept NoF w W → _ := fun W hW => lose_any (h.kept hW fun _ _ x => x) h0 hL
  have HLO := Lib.hid hlo; clear hlo
  have hlt := h.lt
  have HLT := Lib.hid hlt; clear hlt
  obtain ⟨lb, bs, hF, hg, hl⟩ := h
  have c0 : w.cell? ⟨g, 0, none⟩ = some (.pointer (some ⟨lb, 0, none⟩)) := hg.cell 0
  have c2 : w.cell? ⟨lb, 2, none⟩ = some (.int .i64 ps.length) := hl.head.cell 2
  have hgl := hg.lt
  have hll := hl.head.lt
  clear hF hg hl
  obtain ⟨p1, p2, p3⟩ := p
  unfold agg
  go_enter Try.func20, Try.ntmps20
  go_wp2_with fail
  refine (HN.out _ ((Kept.refl _ _).alloc _)).mono ?_
  rintro e w' ⟨rfl, rfl⟩
  go_wp2_with fail
  refine (node_any _ _).mono ?_
  rintro e w' ⟨rfl, rfl⟩
  go_wp2_with fail
  refine (node_any _ _).mono ?_
  rintro e w' ⟨rfl, rfl⟩
  go_wp2_with fail
  refine (HLO.out _ ((Kept.refl _ _).alloc _)).mono ?_
  rintro e w1 ⟨rfl, he, hk⟩
  go_wp2_with fail
  go_ret
  exact ⟨rfl, F, he, Grows.refl _ _, ((Kept.refl F _).alloc _).then hk⟩

theorem send_ok {F : Nat → Prop} {w : World} {g : Nat} {ps : List Pk} {lost : Int} (h : EtherAt w g F ps lost) (p : Pk) (h1 : nodeB p.1 = true) (h2 : nodeB p.2.1 = true) (hf : ps.length < 400) :
    Calls Try.prog 20 #[.pointer (some ⟨g, 0, none⟩), agg p] w (After w g F (.int .i64 0) (ps ++ [p]) lost) := by
  have hn : ∀ W : World, Kept NoF w W → _ := fun W hW => none_any (h.kept hW fun _ _ x => x)
  have HN := Lib.hid hn; clear hn
  obtain ⟨lb, bs, hF, hg, hl⟩ := h
  have c0 : w.cell? ⟨g, 0, none⟩ = some (.pointer (some ⟨lb, 0, none⟩)) := hg.cell 0
  have c2 : w.cell? ⟨lb, 2, none⟩ = some (.int .i64 ps.length) := hl.head.cell 2
  have hgl := hg.lt
  have hll := hl.head.lt
  have hpu : ∀ W : World, Kept NoF w W → _ := fun W hW => push_any (hl.kept hW fun _ _ x => x) p (by omega)
  have HPU := Lib.hid hpu; clear hpu
  have HG := Lib.hid hg; clear hg
  have HL := Lib.hid hl; clear hl
  have HF := Lib.hid hF; clear hF
  obtain ⟨p1, p2, p3⟩ := p
  unfold agg at HPU ⊢
  go_enter Try.func20, Try.ntmps20
  go_wp2_with fail
  refine (HN.out _ ((Kept.refl _ _).alloc _)).mono ?_
  rintro e w' ⟨rfl, rfl⟩
  go_wp2_with fail
  refine (node_any _ _).mono ?_
  rintro e w' ⟨rfl, rfl⟩
  go_wp2_with fail
  refine (node_any _ _).mono ?_
  rintro e w' ⟨rfl, rfl⟩
  go_wp2_with fail
  refine wp_region_still_tail 5 (by kernel_rfl) (by kernel_rfl) ?_
  simp only [List.take_succ_cons, List.take_zero, List.drop_succ_cons, List.drop_zero]
  change wpStill _ _ (World.drew (w.alloc _)) _ _ _
  repeat still_step
  refine wpStill_nil ?_
  change wpList _ _ _ _ _ (World.drew (w.alloc _))
  go_wp2_with fail
  refine (HPU.out _ ((Kept.refl _ _).alloc _).drew).mono ?_
  rintro e w1 ⟨rfl, b, hb, hl1, hk1⟩
  go_wp2_with fail
  go_ret
  refine ⟨rfl, fun k => k = g ∨ k = lb ∨ k ∈ bs ++ [b], ⟨lb, _, fun _ => Iff.rfl, ?_, hl1⟩, ?_, ?_⟩
  · refine ((HG.out.alloc _).drew).kept hk1 ?_
    rintro (rfl | hx)
    · exact HL.out.head.ne HG.out (by decide) rfl
    · exact HL.out.ne_type hx HG.out (by decide)
  · rintro k (rfl | rfl | hx)
    · exact .inl ((HF.out _).2 (.inl rfl))
    · exact .inl ((HF.out _).2 (.inr (.inl rfl)))
    · rcases List.mem_append.1 hx with hx | hx
      · exact .inl ((HF.out _).2 (.inr (.inr hx)))
      · rw [List.mem_singleton] at hx
        subst hx
        simp at hb
        exact .inr (by omega)
  · refine (((Kept.refl F _).alloc _).drew).trans hk1 fun k hk => .inl ((HF.out k).2 (.inr hk))

theorem send_any {F : Nat → Prop} {w : World} {g : Nat} {ps : List Pk} {lost : Int} (h : EtherAt w g F ps lost) (h0 : 0 ≤ lost) (hL : lost ≤ 1073741824) (p : Pk) :
    Calls Try.prog 20 #[.pointer (some ⟨g, 0, none⟩), agg p] w (After w g F (.int .i64 (sendE ps p)) (sendP ps p) (sendL ps lost p)) := by
  unfold sendL sendP sendE
  by_cases hb : (!nodeB p.1 || !nodeB p.2.1) = true
  · rw [if_pos hb]
    exact send_bad h p hb
  · rw [if_neg hb]
    obtain ⟨h1, h2⟩ : nodeB p.1 = true ∧ nodeB p.2.1 = true := by cases e1 : nodeB p.1 <;> cases e2 : nodeB p.2.1 <;> simp [e1, e2] at hb ⊢
    by_cases hf : 400 ≤ ps.length
    · rw [if_pos hf]
      exact send_full h h0 hL p h1 h2 hf
    · rw [if_neg hf]
      exact send_ok h p h1 h2 (by omega)

def zero : Pk := (0, 0, ⟨#[]⟩)
/-- What Take answers, where there is one. -/
theorem take_no {F : Nat → Prop} {w : World} {g : Nat} {ps : List Pk} {lost : Int} (h : EtherAt w g F ps lost) (hp : ps = []) (k : Int) :
    Calls Try.prog 23 #[.pointer (some ⟨g, 0, none⟩), .int .i64 k] w (After w g F (.tuple #[agg zero, .int .i64 7]) ps lost) := by
  have hn : ∀ W : World, Kept NoF w W → _ := fun W hW => empty_no (h.kept hW fun _ _ x => x) hp
  have HN := Lib.hid hn; clear hn
  have H := Lib.hid h; clear h hp
  go_enter Try.func23, Try.ntmps23
  go_wp2_with fail
  refine (HN.out _ ((Kept.refl _ _).alloc _)).mono ?_
  rintro e w' ⟨rfl, rfl⟩
  go_wp2_with fail
  refine bodyPost_ret (v := .tuple #[agg zero, .int .i64 7]) (by simp [results, Try.results23, go_sem, agg, zero]) rfl ⟨rfl, F, H.out.kept (F := F) (G := NoF) ?_ (fun _ _ x => x), Grows.refl _ _, ?_⟩
  all_goals (repeat' (first | with_reducible exact Kept.refl _ _ | with_reducible refine Kept.put ?_ ?_ | with_reducible refine Kept.drewN ?_ _ | with_reducible refine Kept.drew ?_ | with_reducible refine Kept.alloc ?_ _ | (fail) | (right; simp; done)))

theorem take_ok {F : Nat → Prop} {w : World} {g : Nat} {ps : List Pk} {lost : Int} (h : EtherAt w g F ps lost) (hp : 0 < ps.length) (hlen : ps.length ≤ 1000) (K0 : Int) (p : Pk) (hpk : ps[placeP ps K0]? = some p) :
    Calls Try.prog 23 #[.pointer (some ⟨g, 0, none⟩), .int .i64 K0] w (After w g F (.tuple #[agg p, .int .i64 0]) (ps.eraseIdx (placeP ps K0)) lost) := by
  have hn : ∀ W : World, Kept NoF w W → _ := fun W hW => empty_ok (h.kept hW fun _ _ x => x) hp
  have HN := Lib.hid hn; clear hn
  have hpl : ∀ W : World, Kept NoF w W → _ := fun W hW => place_any (h.kept hW fun _ _ x => x) hp hlen K0
  have HPL := Lib.hid hpl; clear hpl
  obtain ⟨lb, bs, hF, hg, hl⟩ := h
  have c0 : w.cell? ⟨g, 0, none⟩ = some (.pointer (some ⟨lb, 0, none⟩)) := hg.cell 0
  have hgl := hg.lt
  have hll := hl.head.lt
  have hcu : ∀ W : World, Kept NoF w W → _ := fun W hW => cut_any (hl.kept hW fun _ _ x => x) (placeP ps K0) p hpk hlen
  have HCU := Lib.hid hcu; clear hcu
  have HG := Lib.hid hg; clear hg
  have HL := Lib.hid hl; clear hl
  have HF := Lib.hid hF; clear hF
  have HPK := Lib.hid hpk; clear hpk
  go_enter Try.func23, Try.ntmps23
  go_wp2_with fail
  refine (HN.out _ ((Kept.refl _ _).alloc _)).mono ?_
  rintro e w' ⟨rfl, rfl⟩
  go_wp2_with fail
  refine wp_region_still_tail 7 (by kernel_rfl) (by kernel_rfl) ?_
  simp only [List.take_succ_cons, List.take_zero, List.drop_succ_cons, List.drop_zero]
  change wpStill _ _ (World.drew (w.alloc _)) _ _ _
  repeat still_step
  refine wpStill_step (fun K hK => ?_)
  go_simp
  refine ⟨_, (HPL.out _ ((Kept.refl _ _).alloc _).drew).mono fun e w' ⟨a, b⟩ => ⟨a, b.symm⟩, hK _ ?_⟩
  clear hK K
  repeat still_step
  refine wpStill_nil ?_
  change wpList _ _ _ _ _ (World.drew (w.alloc _))
  go_wp2_with fail
  refine (HCU.out _ ((Kept.refl _ _).alloc _).drew).mono ?_
  rintro e w1 ⟨rfl, hl1, hk1⟩
  have hnew : ∀ k, k = lb ∨ k ∈ bs → k < w.heap.size := HL.out.lt
  have hr := ((Has.new w 36 #[.int .i64 0, .int .i64 0, .string ⟨#[]⟩]).drew).kept hk1 (fun x => by have := hnew _ x; omega)
  have r0 : w1.cell? ⟨w.heap.size, 0, none⟩ = some (.int .i64 0) := hr.cell 0
  have r1 : w1.cell? ⟨w.heap.size, 1, none⟩ = some (.int .i64 0) := hr.cell 1
  have r2 : w1.cell? ⟨w.heap.size, 2, none⟩ = some (.string ⟨#[]⟩) := hr.cell 2
  have q0 := hr.frozen 0
  have q1 := hr.frozen 1
  have q2 := hr.frozen 2
  have hrl := hr.lt
  have HR := Lib.hid hr; clear hr
  have HL1 := Lib.hid hl1; clear hl1
  have HNEW := Lib.hid hnew; clear hnew
  obtain ⟨p1, p2, p3⟩ := p
  unfold agg
  go_wp2
  refine bodyPost_ret (v := .tuple #[agg (p1, p2, p3), .int .i64 0]) (by simp [results, Try.results23, go_sem, agg, r0, r1, r2]) rfl ⟨rfl, fun k => k = g ∨ k = lb ∨ k ∈ bs.eraseIdx (placeP ps K0), ?_, ?_, ?_⟩
  · have hg1 := ((HG.out.alloc (Obj.cells #[.int .i64 0, .int .i64 0, .string ⟨#[]⟩] 36)).drew).kept hk1 (by
      rintro (rfl | hx)
      · exact HL.out.head.ne HG.out (by decide) rfl
      · exact HL.out.ne_type hx HG.out (by decide))
    have hgl : g < w.heap.size := HG.out.lt
    refine ⟨lb, _, fun _ => Iff.rfl, by ((repeat (first | with_reducible exact hg1 | with_reducible apply Has.put_of | with_reducible apply Has.past | with_reducible apply Has.drewN | with_reducible apply Has.drew | with_reducible apply Has.alloc)) <;> first | omega | rfl), HL1.out.kept (F := fun k => k = w.heap.size) (by (repeat' (first | with_reducible exact Kept.refl _ _ | with_reducible refine Kept.put ?_ ?_ | with_reducible refine Kept.drewN ?_ _ | with_reducible refine Kept.drew ?_ | with_reducible refine Kept.alloc ?_ _ | (exact .inl rfl) | (right; simp; done)))) ?_⟩
    rintro k (rfl | hx) hk
    · omega
    · have := HNEW.out k (.inr ((List.eraseIdx_sublist _ _).subset hx))
      omega
  · rintro k (rfl | rfl | hx)
    · exact .inl ((HF.out _).2 (.inl rfl))
    · exact .inl ((HF.out _).2 (.inr (.inl rfl)))
    · exact .inl ((HF.out _).2 (.inr (.inr ((List.eraseIdx_sublist _ _).subset hx))))
  · have hk2 : Kept F w w1 := (((Kept.refl F _).alloc _).drew).trans hk1 fun k hk => .inl ((HF.out k).2 (.inr hk))
    exact ((hk2.put (.inr (Nat.le_refl _))).put (.inr (Nat.le_refl _))).put (.inr (Nat.le_refl _))

/-- What Take answers: the packet, the error; the packets behind it. -/
def takeV (ps : List Pk) (k : Int) : Pk := if ps = [] then zero else ps.getD (placeP ps k) zero
def takeE (ps : List Pk) : Int := if ps = [] then 7 else 0
def takeP (ps : List Pk) (k : Int) : List Pk := if ps = [] then ps else ps.eraseIdx (placeP ps k)
theorem place_lt {ps : List Pk} (h : 0 < ps.length) (k : Int) : placeP ps k < ps.length := Nat.mod_lt _ h
theorem take_any {F : Nat → Prop} {w : World} {g : Nat} {ps : List Pk} {lost : Int} (h : EtherAt w g F ps lost) (hlen : ps.length ≤ 1000) (k : Int) :
    Calls Try.prog 23 #[.pointer (some ⟨g, 0, none⟩), .int .i64 k] w (After w g F (.tuple #[agg (takeV ps k), .int .i64 (takeE ps)]) (takeP ps k) lost) := by
  unfold takeV takeE takeP
  by_cases hp : ps = []
  · rw [if_pos hp, if_pos hp, if_pos hp]
    exact take_no h hp k
  · rw [if_neg hp, if_neg hp, if_neg hp]
    have hp' : 0 < ps.length := List.length_pos_iff.2 hp
    refine take_ok h hp' hlen k _ ?_
    rw [List.getD_eq_getElem?_getD, List.getElem?_eq_getElem (place_lt hp' k)]; rfl

theorem len_any {F : Nat → Prop} {w : World} {g : Nat} {ps : List Pk} {lost : Int} (h : EtherAt w g F ps lost) :
    Calls Try.prog 22 #[.pointer (some ⟨g, 0, none⟩)] w fun e w' => e = .returned (.int .i64 ps.length) ∧ w = w' := by
  have hn := none_any h
  obtain ⟨lb, bs, hF, hg, hl⟩ := h
  have c0 : w.cell? ⟨g, 0, none⟩ = some (.pointer (some ⟨lb, 0, none⟩)) := hg.cell 0
  have c2 : w.cell? ⟨lb, 2, none⟩ = some (.int .i64 ps.length) := hl.head.cell 2
  have HN := Lib.hid hn; clear hn
  clear hF hg hl
  go_enter Try.func22, Try.ntmps22
  go_wp2_with (go_at_call 65; refine HN.out.mono ?_; rintro e w' ⟨rfl, rfl⟩)
  go_ret
  exact ⟨rfl, rfl⟩
theorem lost_any {F : Nat → Prop} {w : World} {g : Nat} {ps : List Pk} {lost : Int} (h : EtherAt w g F ps lost) :
    Calls Try.prog 25 #[.pointer (some ⟨g, 0, none⟩)] w fun e w' => e = .returned (.int .i64 lost) ∧ w = w' := by
  have hn := none_any h
  obtain ⟨lb, bs, hF, hg, hl⟩ := h
  have c1 : w.cell? ⟨g, 1, none⟩ = some (.int .i64 lost) := hg.cell 1
  have HN := Lib.hid hn; clear hn
  clear hF hg hl
  go_enter Try.func25, Try.ntmps25
  go_wp2_with (go_at_call 65; refine HN.out.mono ?_; rintro e w' ⟨rfl, rfl⟩)
  go_ret
  exact ⟨rfl, rfl⟩

theorem new_any (w : World) : Calls Try.prog 19 #[] w fun e w' => ∃ g F, e = .returned (.pointer (some ⟨g, 0, none⟩)) ∧ EtherAt w' g F [] 0 ∧ Kept NoF w w' ∧ ∀ k, F k → w.heap.size ≤ k := by
  go_enter Try.func19, Try.ntmps19
  go_wp2
  go_ret
  refine ⟨w.heap.size + 1, fun k => k = w.heap.size + 1 ∨ k = w.heap.size ∨ k ∈ [], rfl, ⟨w.heap.size, [], fun _ => Iff.rfl, Has.new_at _ _ _ (by simp), ⟨(Has.new _ _ _).alloc _, rfl, ?_, by simp⟩⟩, by (repeat' (first | with_reducible exact Kept.refl _ _ | with_reducible refine Kept.put ?_ ?_ | with_reducible refine Kept.drewN ?_ _ | with_reducible refine Kept.drew ?_ | with_reducible refine Kept.alloc ?_ _ | (fail) | (right; simp; done))), ?_⟩
  · intro i b p hb _
    simp at hb
  · rintro k (rfl | rfl | hx)
    · omega
    · omega
    · cases hx
end Ether
end Go.Proofs.Ytploafhenmfmhaa
