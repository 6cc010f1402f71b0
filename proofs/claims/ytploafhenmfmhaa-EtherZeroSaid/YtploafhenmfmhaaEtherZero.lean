/- For every packet and every place, EtherZero returns true: an ether that nobody made (a nil pointer, a zero value) answers ErrZero to every call, and has nothing. No condition. -/
import Derived.Test.YtploafhenmfmhaaRows
import Derived.Test.YtploafhenmfmhaaEtherMore
import Derived.Test.YtploafhenmfmhaaKit
import Derived.ProofKit
import Derived.OpenShut
import Derived.Lib.SmallJoins
namespace Go.Proofs.Ytploafhenmfmhaa
open Go.RowKit
set_option maxRecDepth 100000
namespace Ether

/-- A pointer to an ether that nobody made: nil, or a zero value. -/
def Zero (w : World) (v : Option Addr) : Prop := v = none ∨ ∃ b, v = some ⟨b, 0, none⟩ ∧ Has w b 67 #[.pointer none, .int .i64 0]
theorem Zero.kept {w w' : World} {v : Option Addr} (h : Zero w v) (hk : Kept NoF w w') : Zero w' v := by
  rcases h with h | ⟨b, h, hb⟩
  · exact .inl h
  · exact .inr ⟨b, h, hb.kept hk fun x => x⟩
theorem znone {w : World} {v : Option Addr} (h : Zero w v) : Calls Try.prog 65 #[.pointer v] w fun e w' => e = .returned (.bool true) ∧ w = w' := by
  rcases h with rfl | ⟨b, rfl, hb⟩
  · go_enter Try.func65, Try.ntmps65
    go_wp2
    go_ret
    exact ⟨rfl, rfl⟩
  · have c0 : w.cell? ⟨b, 0, none⟩ = some (.pointer none) := hb.cell 0
    clear hb
    go_enter Try.func65, Try.ntmps65
    go_wp2
    go_ret
    exact ⟨rfl, rfl⟩
theorem zempty {w : World} {v : Option Addr} (h : Zero w v) : Calls Try.prog 69 #[.pointer v] w fun e w' => e = .returned (.int .i64 8) ∧ w = w' := by
  have H := Lib.hid (znone h); clear h
  go_enter Try.func69, Try.ntmps69
  go_wp2_with (go_at_call 65; refine H.out.mono ?_; rintro e w' ⟨rfl, rfl⟩)
  go_ret
  exact ⟨rfl, rfl⟩
theorem zlen {w : World} {v : Option Addr} (h : Zero w v) : Calls Try.prog 22 #[.pointer v] w fun e w' => e = .returned (.int .i64 0) ∧ w = w' := by
  have H := Lib.hid (znone h); clear h
  go_enter Try.func22, Try.ntmps22
  go_wp2_with (go_at_call 65; refine H.out.mono ?_; rintro e w' ⟨rfl, rfl⟩)
  go_ret
  exact ⟨rfl, rfl⟩
theorem zlost {w : World} {v : Option Addr} (h : Zero w v) : Calls Try.prog 25 #[.pointer v] w fun e w' => e = .returned (.int .i64 0) ∧ w = w' := by
  have H := Lib.hid (znone h); clear h
  go_enter Try.func25, Try.ntmps25
  go_wp2_with (go_at_call 65; refine H.out.mono ?_; rintro e w' ⟨rfl, rfl⟩)
  go_ret
  exact ⟨rfl, rfl⟩
theorem zall {w : World} {v : Option Addr} (h : Zero w v) : Calls Try.prog 41 #[.pointer v] w fun e w' => e = .returned (.slice none 0 0) ∧ w = w' := by
  have H := Lib.hid (znone h); clear h
  go_enter Try.func41, Try.ntmps41
  go_wp2_with (go_at_call 65; refine H.out.mono ?_; rintro e w' ⟨rfl, rfl⟩)
  go_ret
  exact ⟨rfl, rfl⟩
theorem zdouble {w : World} {v : Option Addr} (h : Zero w v) (k : Int) : Calls Try.prog 27 #[.pointer v, .int .i64 k] w fun e w' => e = .returned (.int .i64 8) ∧ w = w' := by
  have H := Lib.hid (zempty h); clear h
  go_enter Try.func27, Try.ntmps27
  go_wp2_with (go_at_call 69; refine H.out.mono ?_; rintro e w' ⟨rfl, rfl⟩)
  go_ret
  exact ⟨rfl, rfl⟩
theorem ztake {w : World} {v : Option Addr} (h : Zero w v) (k : Int) : Calls Try.prog 23 #[.pointer v, .int .i64 k] w fun e w' => e = .returned (.tuple #[agg zero, .int .i64 8]) ∧ Kept NoF w w' := by
  have H := Lib.hid (zempty (h.kept ((Kept.refl NoF w).alloc (Obj.cells #[.int .i64 0, .int .i64 0, .string ⟨#[]⟩] 36)))); clear h
  go_enter Try.func23, Try.ntmps23
  go_wp2_with (go_at_call 69; refine H.out.mono ?_; rintro e w' ⟨rfl, rfl⟩)
  refine bodyPost_ret (v := .tuple #[agg zero, .int .i64 8]) (by simp [results, Try.results23, go_sem, agg, zero]) rfl ⟨rfl, by (repeat' (first | with_reducible exact Kept.refl _ _ | with_reducible refine Kept.put ?_ ?_ | with_reducible refine Kept.drewN ?_ _ | with_reducible refine Kept.drew ?_ | with_reducible refine Kept.alloc ?_ _ | (fail) | (right; simp; done)))⟩
theorem zdrop {w : World} {v : Option Addr} (h : Zero w v) (k : Int) : Calls Try.prog 37 #[.pointer v, .int .i64 k] w fun e w' => e = .returned (.int .i64 8) ∧ Kept NoF w w' := by
  have H := Lib.hid (ztake h k); clear h
  unfold agg zero at H
  go_enter Try.func37, Try.ntmps37
  go_wp2_with (go_at_call 23; refine H.out.mono ?_; rintro e w' ⟨rfl, hk⟩)
  go_ret
  exact ⟨rfl, hk.alloc _⟩
theorem zsend {w : World} {v : Option Addr} (h : Zero w v) (p : Pk) : Calls Try.prog 20 #[.pointer v, agg p] w fun e w' => e = .returned (.int .i64 8) ∧ Kept NoF w w' := by
  have H := Lib.hid (znone (h.kept ((Kept.refl NoF w).alloc (Obj.cells #[.int .i64 p.1, .int .i64 p.2.1, .string p.2.2] 36)))); clear h
  obtain ⟨p1, p2, p3⟩ := p
  unfold agg
  go_enter Try.func20, Try.ntmps20
  go_wp2_with (go_at_call 65; refine H.out.mono ?_; rintro e w' ⟨rfl, rfl⟩)
  go_ret
  exact ⟨rfl, by (repeat' (first | with_reducible exact Kept.refl _ _ | with_reducible refine Kept.put ?_ ?_ | with_reducible refine Kept.drewN ?_ _ | with_reducible refine Kept.drew ?_ | with_reducible refine Kept.alloc ?_ _ | (fail) | (right; simp; done)))⟩

set_option maxHeartbeats 1000000 in
theorem law_zero (p : Pk) (k : Int) (w : World) :
    Calls Try.prog 8 #[agg p, .int .i64 k] w fun e w' => e = .returned (.bool true) ∧ Below w.heap.size w w' := by
  obtain ⟨p1, p2, p3⟩ := p
  have hN : ∀ W : World, Zero W none := fun W => .inl rfl
  have HN := Lib.hid hN; clear hN
  have hk0 : Kept NoF w ((w.alloc (.cells #[.int .i64 p1, .int .i64 p2, .string p3] 36)).alloc (.cells #[.pointer none, .int .i64 0] 67)) := ((Kept.refl _ _).alloc _).alloc _
  have hz0 : Has ((w.alloc (.cells #[.int .i64 p1, .int .i64 p2, .string p3] 36)).alloc (.cells #[.pointer none, .int .i64 0] 67)) (w.heap.size + 1) 67 #[.pointer none, .int .i64 0] := Has.new_at _ _ _ (by simp)
  have hp0 : Has ((w.alloc (.cells #[.int .i64 p1, .int .i64 p2, .string p3] 36)).alloc (.cells #[.pointer none, .int .i64 0] 67)) w.heap.size 36 #[.int .i64 p1, .int .i64 p2, .string p3] := (Has.new _ _ _).alloc _
  have hZ : ∀ W : World, Kept NoF ((w.alloc (.cells #[.int .i64 p1, .int .i64 p2, .string p3] 36)).alloc (.cells #[.pointer none, .int .i64 0] 67)) W → Zero W (some ⟨w.heap.size + 1, 0, none⟩) := fun W hW => .inr ⟨_, rfl, hz0.kept hW fun x => x⟩
  have HZ := Lib.hid hZ; clear hZ
  have HP := Lib.hid hp0; clear hp0 hz0
  unfold agg
  go_enter Try.func8, Try.ntmps8
  go_wp2_with fail
  refine (ztake (HN.out _) k).mono ?_
  rintro e w1 ⟨rfl, hk1⟩
  unfold agg zero
  go_wp2_with fail
  have hk2 := hk1.alloc (.cells #[.int .i64 0, .int .i64 0, .string ⟨#[]⟩] 36)
  refine (ztake (HZ.out _ hk2) k).mono ?_
  rintro e w2 ⟨rfl, hk3⟩
  unfold agg zero
  have hk4 := (hk2.then hk3).alloc (.cells #[.int .i64 0, .int .i64 0, .string ⟨#[]⟩] 36)
  have hp := HP.out.kept hk4 fun x => x
  have b0 : (w2.alloc (.cells #[.int .i64 0, .int .i64 0, .string ⟨#[]⟩] 36)).cell? ⟨w.heap.size, 0, none⟩ = some (.int .i64 p1) := hp.cell 0
  have b1 : (w2.alloc (.cells #[.int .i64 0, .int .i64 0, .string ⟨#[]⟩] 36)).cell? ⟨w.heap.size, 1, none⟩ = some (.int .i64 p2) := hp.cell 1
  have b2 : (w2.alloc (.cells #[.int .i64 0, .int .i64 0, .string ⟨#[]⟩] 36)).cell? ⟨w.heap.size, 2, none⟩ = some (.string p3) := hp.cell 2
  clear hp
  go_wp2_with fail
  refine (zsend (HN.out _) (p1, p2, p3)).mono ?_
  rintro e w3 ⟨rfl, hk5⟩
  have hk6 := hk4.then hk5
  have hp := HP.out.kept hk6 fun x => x
  have d0 : w3.cell? ⟨w.heap.size, 0, none⟩ = some (.int .i64 p1) := hp.cell 0
  have d1 : w3.cell? ⟨w.heap.size, 1, none⟩ = some (.int .i64 p2) := hp.cell 1
  have d2 : w3.cell? ⟨w.heap.size, 2, none⟩ = some (.string p3) := hp.cell 2
  clear hp
  go_wp2_with fail
  refine (zsend (HZ.out _ hk6) (p1, p2, p3)).mono ?_
  rintro e w4 ⟨rfl, hk7⟩
  have hk8 := hk6.then hk7
  go_wp2_with fail
  refine (zdrop (HN.out _) k).mono ?_
  rintro e w5 ⟨rfl, hk9⟩
  go_wp2_with fail
  refine (zdrop (HZ.out _ (hk8.then hk9)) k).mono ?_
  rintro e w6 ⟨rfl, hk10⟩
  have hk11 := (hk8.then hk9).then hk10
  go_wp2_with fail
  refine (zdouble (HN.out _) k).mono ?_
  rintro e w' ⟨rfl, rfl⟩
  go_wp2_with fail
  refine (zdouble (HZ.out _ hk11) k).mono ?_
  rintro e w' ⟨rfl, rfl⟩
  go_wp2_with fail
  refine (zlen (HN.out _)).mono ?_
  rintro e w' ⟨rfl, rfl⟩
  go_wp2_with fail
  refine (zlen (HZ.out _ hk11)).mono ?_
  rintro e w' ⟨rfl, rfl⟩
  go_wp2_with fail
  refine (zlost (HN.out _)).mono ?_
  rintro e w' ⟨rfl, rfl⟩
  go_wp2_with fail
  refine (zlost (HZ.out _ hk11)).mono ?_
  rintro e w' ⟨rfl, rfl⟩
  go_wp2_with fail
  refine (zall (HN.out _)).mono ?_
  rintro e w' ⟨rfl, rfl⟩
  go_wp2_with fail
  refine (zall (HZ.out _ hk11)).mono ?_
  rintro e w' ⟨rfl, rfl⟩
  go_wp2_with fail
  refine (awake_any _).mono ?_
  rintro e w7 ⟨rfl, hk12⟩
  go_wp2_with fail
  go_ret
  exact ⟨rfl, (hk0.then (hk11.then hk12)).below (Nat.le_refl _) (fun _ x => x.elim)⟩
end Ether
end Go.Proofs.Ytploafhenmfmhaa

namespace Go.Proofs.Ytploafhenmfmhaa.etherZero
open Go.ChangeShapes Go.WideShapes Go.ChangeAt Go.RowKit
open Go.ChangeMaps (open_string shut_string)
set_option maxRecDepth 100000 in
theorem contract (H : Type) (enc : TypeId × Value → H) (W : World) (base : Nat) (args : Array Value) (ds gs : List (DataW H)) (before : List MemPlace)
    (hval : ∀ (j : Nat) t v, Try.f8.params[j]? = some t → args[j]? = some v → Value.okWide Try.prog W .any base t v)
    (hW : DataW.Whole enc Try.prog Try.f8.params.toList Rows.etherZeroSpec.vars false W args.toList ds gs before) :
    Calls Try.prog 8 args W fun e W' => ∃ v, e = .returned v ∧ Rows.etherZeroSpec.post enc Try.prog Try.f8 false true false false W args v W' := by
  have hW' := hW
  obtain ⟨p, q, hA0, hV, rfl, hfz, hnd⟩ := hW
  have hA : DataW.TrodAll enc Try.prog W 0 (fun _ => true) true Try.f8.params.toList args.toList ds p := hA0
  rw [Try.params8] at hA hval
  obtain ⟨v0, vs0, d0, ds0, p0, q0, hargs, rfl, rfl, h0, r0⟩ := trodAll_cons hA
  obtain ⟨v1, vs1, d1, ds1, p1, q1, rfl, rfl, rfl, h1, r1⟩ := trodAll_cons r0
  obtain ⟨rfl, rfl, rfl⟩ := trodAll_nil r1
  obtain rfl : args = #[v0, v1] := by cases args; simp_all
  obtain ⟨rfl, rfl⟩ := trodVars_none hV
  have hlt : ∀ x : MemPlace, x ∈ _ → x.block < W.heap.size := fun x hx => hW'.lt x hx
  have g0 := h0
  have g1 := h1
  obtain ⟨c0, c1, c2, y0, y1, y2, m, rfl, rfl, rfl, hy0, hy1, hy2⟩ := Joins.open_agg3 Try.underlying36 (by kernel_rfl) (by kernel_rfl) (hval 0 36 v0 rfl rfl) h0
  obtain ⟨x0, hx0, rfl, _⟩ := DataW.trod_int Try.underlying3 hy0
  obtain ⟨x1, hx1, rfl, _⟩ := DataW.trod_int Try.underlying3 hy1
  obtain ⟨x2, hx2, rfl, _⟩ := DataW.trod_string Try.underlying9 hy2
  obtain rfl : c0 = .int .i64 x0 := by simpa using hx0
  obtain rfl : c1 = .int .i64 x1 := by simpa using hx1
  obtain rfl : c2 = .string x2 := by simpa using hx2
  obtain ⟨a1, rfl, rfl, rfl, w1⟩ := open_int Try.underlying3 (hval 1 3 v1 rfl rfl) h1
  clear hA0
  refine (Ether.law_zero (x0, x1, x2) a1 W).mono fun e W' ⟨he, hb⟩ => ?_
  subst he
  exact ⟨_, rfl, post_below (pv := []) hW' (fun _ _ _ => trodAll_cons_mk (shut_bool Try.underlying4 _) trodAll_mk0)
    (fun sp hsp => (trodAll_cons_mk (arg_stays (by kernel_rfl) (by kernel_rfl) g0 hb hlt (fun x hx => hsp x hx) (fun x hx => by first | (simp at hx; done) | simp [hx])) (trodAll_cons_mk (arg_stays (by kernel_rfl) (by kernel_rfl) g1 hb hlt (fun x hx => hsp x hx) (fun x hx => by first | (simp at hx; done) | simp [hx])) trodAll_mk0))) (fun _ _ => rfl) (by simp)
    hb (ok_one (by kernel_rfl) rfl (okWide_bool_mk Try.underlying4 _))⟩

set_option maxRecDepth 100000 in
theorem lifted (os : Os) (started : os.Started) (H : Type) (enc : TypeId × Value → H) :
    ReturnsInHanded {} Try.checked os 8 .any (Rows.etherZeroSpec.pre6 enc Try.prog Try.f8 Rows.etherZeroRow.domain false) (Rows.etherZeroSpec.post enc Try.prog Try.f8 false true false false) := by
  refine returnsInHanded_of_change (C := Try.checked) own started (by kernel_rfl) Try.func8
    (ChangeSpec.witness6 (enc := enc) (C := Try.checked) false ⟨#[], #[.agg #[.int .i64 0, .int .i64 0, .string .empty], .int .i64 0], []⟩ 8 (by kernel_rfl) (by kernel_rfl) (by kernel_rfl) (by kernel_rfl)) ?_
  intro W base args ds gs before hval hW _ _
  exact contract H enc W base args ds gs before hval hW

set_option maxRecDepth 100000 in
theorem proved : Rows.EtherZeroSaid :=
  OpenClaim.holds_of_wide 8 Try.f8 rfl rfl rfl rfl rfl rfl rfl ⟨rfl, rfl, rfl, rfl, rfl⟩ rfl rfl rfl rfl rfl (by kernel_rfl) Try.func8 (by kernel_rfl)
    (of_decide_eq_true (by kernel_rfl)) (by unfold Func.isWrapper; first | (rw [if_pos (by decide +kernel)]; kernel_rfl) | (rw [if_neg (by decide +kernel)]; exact ⟨rfl, rfl⟩))
    (fun os started H enc _ => lifted os started H enc)
#print axioms proved
end Go.Proofs.Ytploafhenmfmhaa.etherZero
