/- The ether's list as an iterator: all; and Ether.All, which ranges over it. -/
import Derived.Test.YtploafhenmfmhaaEtherMore
import Derived.Test.YtploafhenmfmhaaEtherRef
import Derived.RangeFuncNested
import Derived.RangeFuncBound
import Derived.RangeFuncCalls
import Derived.RangeFuncLeaves
import Derived.RangeFuncBox
import Derived.Shelf.Abstract
import Derived.Shelf.RegionOpen
import Derived.OwnWalkIn
import Derived.TacticsInMore
import Derived.LoopNIn
import Derived.LoopIn
import Derived.Maps.AppendAt
set_option linter.unusedSimpArgs false
set_option linter.unusedVariables false
namespace Go.Proofs.Ytploafhenmfmhaa
open Go.RowKit Go.Shelf
attribute [local go_sem] Oper.semAt_some
set_option maxRecDepth 100000
namespace Ether

/-- How many members are still to come, read off the pointer: for the loop's measure. -/
def leftOf (bs : List Nat) : Value → Nat
  | .pointer (some a) => (bs.dropWhile fun x => x != a.block).length
  | _ => 0
theorem drop_len (bs : List Nat) (j b : Nat) (hn : bs.Nodup) (h : bs[j]? = some b) : (bs.dropWhile fun x => x != b).length = bs.length - j := by
  induction bs generalizing j with
  | nil => simp at h
  | cons a bs ih =>
    cases j with
    | zero =>
      simp at h
      subst h
      simp [List.dropWhile_cons]
    | succ j =>
      simp at h
      have hne : a ≠ b := by
        rintro rfl
        exact (List.nodup_cons.1 hn).1 (List.mem_iff_getElem?.2 ⟨j, h⟩)
      rw [List.dropWhile_cons]
      simp only [bne_iff_ne, ne_eq, hne, not_false_eq_true, if_true]
      rw [ih j (List.nodup_cons.1 hn).2 h]
      simp
theorem left_at {bs : List Nat} {j b : Nat} (hn : bs.Nodup) (h : bs[j]? = some b) : leftOf bs (.pointer (atA bs j)) = bs.length - j := by
  rw [at_some h]
  exact drop_len bs j b hn h
theorem left_end {bs : List Nat} {j : Nat} (h : bs.length ≤ j) : leftOf bs (.pointer (atA bs j)) = 0 := by
  rw [at_none h]
  rfl
theorem left_any {bs : List Nat} {j : Nat} (hn : bs.Nodup) : leftOf bs (.pointer (atA bs j)) = bs.length - j := by
  rcases Nat.lt_or_ge j bs.length with h | h
  · exact left_at hn (List.getElem?_eq_getElem h)
  · rw [left_end h]; omega

theorem ListAt.below {n0 : Nat} {w w' : World} {lb : Nat} {bs : List Nat} {ps : List Pk} (h : ListAt w lb bs ps) (hb : Below n0 w w') (hn : ∀ k, (k = lb ∨ k ∈ bs) → k < n0) : ListAt w' lb bs ps :=
  ⟨h.head.below hb (hn _ (.inl rfl)), h.len, fun i b p h1 h2 => (h.cells i b p h1 h2).below hb (hn _ (.inr (List.mem_iff_getElem?.2 ⟨i, h1⟩))), h.nodup⟩

set_option maxHeartbeats 1000000 in
/-- The iterator's body, for every loop body that keeps what lay below n0. -/
theorem all1_in (F : Fence) (n : Nat) (h6 : F.fn 100) (hro : F.round = none) (hn : 1 ≤ n) (l Bn n0 lb : Nat) (bs : List Nat) (ps : List Pk) (J Jx : List Pk → World → Prop)
    (hY : ∀ pre x W, J pre W → pre.length < ps.length → YieldAt F (n - 1) Try.prog l #[agg x] W fun e W' =>
      (e = .returned (.bool true) ∧ J (pre ++ [x]) W' ∧ Below n0 W W') ∨ (e = .returned (.bool false) ∧ Jx (pre ++ [x]) W'))
    (W : World) (hBn : W.cell? ⟨Bn, 0, none⟩ = some (.pointer (some ⟨lb, 0, none⟩))) (hL : ListAt W lb bs ps) (hlow : ∀ k, (k = lb ∨ k ∈ bs) → k < n0) (h0 : J [] W) :
    CallsIn F n Try.prog 100 #[.func (.yield l) #[] #[], .pointer (some ⟨Bn, 0, none⟩)] W fun e W' => (∃ v, e = .returned v) ∧
      ((∃ ys, ys = ps ∧ J ys W') ∨ (∃ pre, pre <+: ps ∧ Jx pre W')) := by
  have c0 : W.cell? ⟨lb, 0, none⟩ = some (.pointer (atA bs 0)) := hL.head.cell 0
  have HL := Lib.hid hL; clear hL
  have HLOW := Lib.hid hlow; clear hlow
  refine callsIn_of_wp Try.func100 rfl h6 ?_ hro
  simp only [Try.ntmps100, List.size_toArray, List.length_cons, List.length_nil, Nat.reduceAdd, Nat.reduceSub, Array.replicate_succ, Array.replicate_zero, List.push_toArray, List.append_toArray, List.nil_append, List.cons_append]
  gi_wp2
  gi_loopw [3] (fun p wr => ∃ j : Nat, j ≤ ps.length ∧ p = .pointer (atA bs j) ∧ J (ps.take j) wr ∧ Below n0 W wr) (fun p wr => leftOf bs p)
  case atStart => exact ⟨0, Nat.zero_le _, rfl, h0, Below.refl _ _⟩
  case round =>
    obtain ⟨j, hj, rfl, hJ, hB⟩ := hrel
    have hbl := HL.out.len
    rcases Nat.lt_or_ge j ps.length with hjl | hjl
    · obtain ⟨b, hb⟩ : ∃ b, bs[j]? = some b := ⟨_, List.getElem?_eq_getElem (by omega)⟩
      obtain ⟨p, hp⟩ : ∃ p, ps[j]? = some p := ⟨_, List.getElem?_eq_getElem hjl⟩
      have hbn : b < n0 := HLOW.out _ (.inr (List.mem_iff_getElem?.2 ⟨j, hb⟩))
      have hc := (HL.out.cells j b p hb hp).below hB hbn
      have hat := at_some hb
      rw [hat]
      have d0 : wr.cell? ⟨b, 0, none⟩ = some (.int .i64 p.1) := hc.cell 0
      have d1 : wr.cell? ⟨b, 1, none⟩ = some (.int .i64 p.2.1) := hc.cell 1
      have d2 : wr.cell? ⟨b, 2, none⟩ = some (.string p.2.2) := hc.cell 2
      have hlen : (ps.take j).length = j := by rw [List.length_take]; omega
      obtain ⟨fn, tmps, assign, body, hy, hR⟩ := hY (ps.take j) p wr hJ (by omega)
      have htk : ps.take (j + 1) = ps.take j ++ [p] := by rw [List.take_add_one, hp]; rfl
      have HTK := Lib.hid htk; clear htk
      have HLEN := Lib.hid hlen; clear hlen
      have HAT := Lib.hid hat; clear hat
      have HBB := Lib.hid hb; clear hb
      have HPP := Lib.hid hp; clear hp
      have HC := Lib.hid hc; clear hc
      have HBL := Lib.hid hbl; clear hbl
      obtain ⟨p1, p2, p3⟩ := p
      unfold agg at hy
      dsimp only at d0 d1 d2
      gi_wp2
      refine hR.mono ?_
      rintro e W3 (⟨rfl, hJ3, hk3⟩ | ⟨rfl, hJx3⟩)
      · have d3 : W3.cell? ⟨b, 3, none⟩ = some (.pointer (atA bs (j + 1))) := (HC.out.below hk3 hbn).cell 3
        gi_wp2
        go_roundw
        case rel => exact ⟨j + 1, by omega, rfl, by rw [HTK.out]; exact hJ3, hB.trans hk3⟩
        case measure => rw [← HAT.out, left_any HL.out.nodup, left_any HL.out.nodup]; have := HBL.out; omega
      · gi_wp2
        refine bodyPost_ret (results_none rfl _ _ _) rfl ?_
        exact ⟨⟨_, rfl⟩, .inr ⟨ps.take (j + 1), List.take_prefix _ _, by rw [HTK.out]; exact hJx3⟩⟩
    · rw [at_none (show bs.length ≤ j by omega)]
      have HJ := Lib.hid hJ; clear hJ hbl
      gi_wp2
      go_end0
      exact ⟨⟨_, rfl⟩, .inl ⟨ps.take j, List.take_of_length_le hjl, HJ.out⟩⟩

theorem all_in (F : Fence) (n : Nat) (h5 : F.fn 80) (hro : F.round = none) (p0 : Option Addr) (w : World) :
    CallsIn F n Try.prog 80 #[.pointer p0] w fun e w' => e = .returned (.func (.func 100) #[] #[.pointer (some ⟨w.heap.size, 0, none⟩)]) ∧ w' = w.alloc (.cells #[.pointer p0] 65) := by
  refine callsIn_of_wp Try.func80 rfl h5 ?_ hro
  simp only [Try.ntmps80, List.size_toArray, List.length_cons, List.length_nil, Nat.reduceAdd, Nat.reduceSub, Array.replicate_succ, Array.replicate_zero, List.push_toArray, List.append_toArray, List.nil_append, List.cons_append]
  gi_wp2
  go_ret
  exact ⟨rfl, rfl⟩

theorem all_stops (F : Fence) (n : Nat) (h6 : F.fn 100) (hro : F.round = none) (hn : 1 ≤ n) (Bn n0 lb : Nat) (bs : List Nat) (ps : List Pk) (w : World) (hBn : Bn < w.heap.size) (hn0 : n0 ≤ w.heap.size)
    (hc : w.cell? ⟨Bn, 0, none⟩ = some (.pointer (some ⟨lb, 0, none⟩))) (hL : ListAt w lb bs ps) (hlow : ∀ k, (k = lb ∨ k ∈ bs) → k < n0) :
    SeqStopsK F n Try.prog 100 #[.pointer (some ⟨Bn, 0, none⟩)] (fun x : Pk => #[agg x]) (Below n0) (fun ys => ys = ps) (fun pre => pre <+: ps) ps.length w := fun l J Jx W hW _ _ hY h0 =>
  all1_in F n h6 hro hn l Bn n0 lb bs ps J Jx hY W ((hW.cell (p := ⟨Bn, 0, none⟩) hBn).trans hc) (hL.below hW fun k hk => Nat.lt_of_lt_of_le (hlow k hk) hn0) hlow h0

set_option maxHeartbeats 4000000 in
theorem allp_any {F : Nat → Prop} {w : World} {g : Nat} {ps : List Pk} {lost : Int} (h : EtherAt w g F ps lost) (hlen : ps.length ≤ 1000) :
    Calls Try.prog 41 #[.pointer (some ⟨g, 0, none⟩)] w fun e w' => ∃ A c, e = .returned (.slice A ps.length c) ∧ w'.ownsRow w.heap.size 36 3 (.slice A ps.length c) ps.length (cellsOf ps) ∧ Below w.heap.size w w' := by
  have hno := none_any h
  have HNO := Lib.hid hno; clear hno
  obtain ⟨lb, bs, hF, hg, hl⟩ := h
  have c0 : w.cell? ⟨g, 0, none⟩ = some (.pointer (some ⟨lb, 0, none⟩)) := hg.cell 0
  have hgl := hg.lt
  have hlow : ∀ k, (k = lb ∨ k ∈ bs) → k < w.heap.size := hl.lt
  have HL := Lib.hid hl; clear hl hg hF
  have HLOW := Lib.hid hlow; clear hlow
  have hfn : ∀ k, Fence.wide.fn k := fun _ => trivial
  refine (callsIn_wide (n := 5)).1 ?_
  refine callsIn_of_wp_marks Try.func41 rfl trivial ?_ rfl
  simp only [Try.ntmps41, List.size_toArray, List.length_cons, List.length_nil, Nat.reduceAdd, Nat.reduceSub, Array.replicate_succ, Array.replicate_zero, List.push_toArray, List.append_toArray, List.nil_append, List.cons_append]
  gi_wp2_with (first
    | (gi_at_call 65; refine (callsIn_wide.2 HNO.out).mono ?_; rintro e w' ⟨rfl, rfl⟩)
    | (gi_at_call 80; refine (all_in Fence.wide _ trivial rfl _ _).mono ?_; rintro e w' ⟨rfl, rfl⟩))
  obtain ⟨i0, hi0, hz0, hz1, hz2⟩ := info_parts (show (Try.prog.info? 36).map (fun i => (i.zero, i.size, i.bytes)) = some (some (.agg #[.int .i64 0, .int .i64 0, .string ⟨#[]⟩]), 3, 32) by kernel_rfl)
  obtain ⟨W0, hW0⟩ : ∃ W0, (w.alloc (.cells #[.slice none 0 0] 27)).alloc (.cells #[.pointer (some ⟨lb, 0, none⟩)] 65) = W0 := ⟨_, rfl⟩
  have hsz : W0.heap.size = w.heap.size + 2 := by rw [← hW0]; simp
  have hB0 : Below w.heap.size w W0 := by rw [← hW0]; exact ((Below.refl _ w).alloc (Nat.le_refl _) _).alloc (by simp) _
  have hbox : Boxed W0 w.heap.size 27 (.slice none 0 0) := by rw [← hW0]; exact (Boxed.new w _ _).alloc _
  have hbx2 : W0.cell? ⟨w.heap.size + 1, 0, none⟩ = some (.pointer (some ⟨lb, 0, none⟩)) := by rw [← hW0]; exact (Has.new_at (w.alloc (.cells #[.slice none 0 0] 27)) _ _ (by simp)).cell 0
  have hLW : ListAt W0 lb bs ps := HL.out.below hB0 HLOW.out
  rw [hW0]
  clear hW0
  have HSZ := Lib.hid hsz; clear hsz
  refine wpIn_rangeFunc_ownH rfl (by omega) (gf := 100) (lb := #[.pointer (some ⟨w.heap.size + 1, 0, none⟩)]) rfl (hfn _) (enters_of Try.func100 (by kernel_rfl) rfl)
    (all_stops Fence.wide (5 - 1) (hfn _) rfl (by omega) (w.heap.size + 1) w.heap.size lb bs ps W0 (by rw [HSZ.out]; omega) (by rw [HSZ.out]; omega) hbx2 hLW HLOW.out) belowK_t (belowK_b (by rw [HSZ.out]; omega)) (Below.refl _ _) (fun _ => rfl)
    (fun pre W => (∃ v, Boxed W w.heap.size 27 v ∧ W.ownsRow w.heap.size 36 3 v pre.length (cellsOf pre) ∧ True) ∧ Below w.heap.size w W)
    (fun _ _ _ => False)
    (OwnFrom.and (Own.from (holdsRow_own w.heap.size w.heap.size 27 36 3 (fun pre : List Pk => pre.length) cellsOf (fun _ _ => True)) _) (ownFrom_below (Nat.le_refl _) (by rw [HSZ.out]; omega)))
    (fun _ _ _ _ _ hs _ _ => hs)
    ⟨⟨_, hbox, World.ownsRow_nil _ _ _ _, trivial⟩, hB0⟩
    (fun x a' W => ∃ Bx, w.heap.size < Bx ∧ Has W Bx 36 #[.int .i64 x.1, .int .i64 x.2.1, .string x.2.2] ∧ a' = { tmps := #[.pointer (some ⟨g, 0, none⟩), undef, .slice none 0 0, .pointer (some ⟨w.heap.size, 0, none⟩), .pointer (some ⟨Bx, 0, none⟩), .pointer (some ⟨g, 0, none⟩), .bool false, .pointer (some ⟨g, 0, none⟩), .pointer (some ⟨g, 0, none⟩), .pointer (some ⟨g, 0, none⟩), .pointer (some ⟨lb, 0, none⟩), .func (.func 100) #[] #[.pointer (some ⟨w.heap.size + 1, 0, none⟩)], agg x, undef, undef, undef, undef, undef], defers := [] })
    (fun x a' _ X Y row hs hg hr => by
      obtain ⟨Bx, h1, h2, h3⟩ := hs
      refine ⟨Bx, h1, (hg.block Bx h2.lt (fun e => ?_)).trans h2, h3⟩
      obtain ⟨_, o, ho, hc⟩ := hr Bx e.symm
      rw [show X.heap[Bx]? = _ from h2] at ho
      cases ho
      cases hc)
    ?assign ?body ?done ?stop
  case assign =>
    rintro l pre ⟨x1, x2, x3⟩ W K ⟨⟨v, hv, hr, _⟩, hB⟩ hK
    unfold agg
    gi_wp2
    exact hK _ _ ((KeepsOthers.alloc _ _).from _) ((Below.refl _ W).alloc hB.size _) ⟨⟨v, hv.alloc _, hr.alloc _, trivial⟩, hB.alloc hB.size _⟩ ⟨W.heap.size, hv.lt, Has.new W _ _, rfl⟩
  case body =>
    rintro l pre ⟨x1, x2, x3⟩ a' W hl ⟨r, hr⟩ ⟨⟨v, hv, hrow, _⟩, hB⟩ ⟨Bx, hBx, hX, rfl⟩ hlt
    have cv := hv.cell
    have fv := hv.frozen
    have x0 : W.cell? ⟨Bx, 0, none⟩ = some (.int .i64 x1) := hX.cell 0
    have y1 : W.cell? ⟨Bx, 1, none⟩ = some (.int .i64 x2) := hX.cell 1
    have y2 : W.cell? ⟨Bx, 2, none⟩ = some (.string x3) := hX.cell 2
    have hnews : ∀ (j : Nat) (u : Value), [Value.int .i64 x1, .int .i64 x2, .string x3][j]? = some u → (W.alloc (.cells #[.int .i64 x1, .int .i64 x2, .string x3] 36)).cell? ((⟨W.heap.size, 0, none⟩ : Addr).add j) = some u := by
      obtain ⟨ad, e, _, hc⟩ := (Src.of_has (size := 3) (m := 1) (Has.new W 36 #[.int .i64 x1, .int .i64 x2, .string x3]) rfl).2 (by decide)
      injection e with e
      subst e
      exact hc
    have HNEWS := Lib.hid hnews; clear hnews
    unfold agg
    gi_wp2_with (gi_at_builtin; refine wpListIn_append_own _ rfl _ _ 27 rfl w.heap.size 36 i0 _ 3 32 Try.underlying27 hi0 hz0 hz1 hz2 rfl (by decide) _ _ _ rfl (hrow.alloc _) ⟨W.heap.size, 0, none⟩ 1 1 [.int .i64 x1, .int .i64 x2, .string x3] rfl rfl HNEWS.out (by simp [Value.oneCell']) (by unfold maxLen; omega) (by omega) (by have := hB.size; simp; omega) ?_; intro v' w1 hown' hgrow _; obtain ⟨g', cap', rfl⟩ := ownsRow_succ hown'; obtain ⟨hv1, hv2, hr2, hk2, hb2⟩ := hv.appended (by decide) hrow hB.size (Nat.le_refl _) hown' hgrow; have hc1 := hv1.cell; have hf1 := hv1.frozen)
    have hr3 : (w1.setCell ⟨w.heap.size, 0, none⟩ (.slice (some ⟨g', 0, none⟩) (pre.length + 1) cap')).ownsRow w.heap.size 36 3 (.slice (some ⟨g', 0, none⟩) (pre.length + 1) cap') (pre ++ [(x1, x2, x3)]).length (cellsOf (pre ++ [(x1, x2, x3)])) := by rw [cellsOf_append, List.length_append]; exact hr2
    first | exact ⟨hk2.from _, hb2, ⟨_, hv2, hr3⟩, hB.trans hb2⟩ | exact ⟨hk2.from _, hb2, ⟨_, hv2, hr3, trivial⟩, hB.trans hb2⟩
  case done =>
    rintro D ys W hD rfl ⟨⟨v, hv, hrow, _⟩, hB⟩ hK
    obtain ⟨A, c, rfl, _⟩ := own_form hrow
    have cv := hv.cell
    have HROW := Lib.hid hrow; clear hrow
    have hsz2 := HSZ.out
    gi_wp2
    refine ⟨by simp, .inl ⟨_, _, rfl, run_takeDeferred hK, ?_⟩⟩
    exact ⟨_, results_tmp rfl _ _ _, A, c, rfl, ownsRow_putObj HROW.out _ hK rfl, hB.trans (belowK_b (w := w) (Nat.le_refl _) W D _ _ (by omega) hK rfl rfl)⟩
  case stop =>
    rintro D c pre W _ _ h _
    exact h.elim
end Ether
end Go.Proofs.Ytploafhenmfmhaa
