/- lease's Renew. -/
import Derived.Test.YtolipnnjeehnfaaMst5
import Derived.BigRegion
import Derived.Deep.RegionLaw
set_option linter.unusedSimpArgs false
set_option linter.unusedVariables false
namespace Go.Proofs.Ytolipnnjeehnfaa
open Go.RowKit
set_option maxRecDepth 100000
namespace Mst
open Plan Vn
theorem own_set {w : World} {base : Nat} {e : TypeId} {size c g n j : Nat} {xs : List Value} {u : Value} (h : w.ownsRow base e size (.slice (some ⟨g, 0, none⟩) n c) n xs) : (w.setCell ⟨g, j, none⟩ u).ownsRow base e size (.slice (some ⟨g, 0, none⟩) n c) n (xs.set j u) := by
  refine ⟨by rw [List.length_set]; exact h.1, ?_⟩
  rcases h.2 with ⟨hv, _⟩ | ⟨g', cap, cur, hv, hb, hg, hn, hm, hs, htk⟩
  · cases hv
  · injection hv with h1 h2 h3
    injection h1 with h1
    injection h1 with h1
    subst h1
    subst h3
    refine .inr ⟨g, c, cur.setIfInBounds j u, rfl, hb, Has.put (show Has w g e cur from hg) j u, hn, hm, by simpa using hs, ?_⟩
    rw [Array.toList_setIfInBounds, List.take_set, htk]
theorem idxW_found {α : Type} (p : α → Bool) (l : List α) (i : Nat) : (idxW p l i = -1 ∧ ∀ x ∈ l, p x = false) ∨ ∃ k x, idxW p l i = ((i + k : Nat) : Int) ∧ l[k]? = some x ∧ p x = true := by
  induction l generalizing i with
  | nil => exact .inl ⟨rfl, fun _ h => by cases h⟩
  | cons a l ih =>
    rw [idxW]
    cases ha : p a
    · rw [if_neg (by simp)]
      rcases ih (i + 1) with ⟨h1, h2⟩ | ⟨k, x, h1, h2, h3⟩
      · exact .inl ⟨h1, fun x hx => by rcases List.mem_cons.1 hx with rfl | hx; exact ha; exact h2 x hx⟩
      · exact .inr ⟨k + 1, x, by rw [h1]; congr 1; omega, by simpa using h2, h3⟩
    · rw [if_pos rfl]
      exact .inr ⟨0, a, rfl, rfl, ha⟩
theorem pinAt_cases (l : List PinR) (id : Int) : pinAt l id = -1 ∨ ∃ (k : Nat) (x : PinR), pinAt l id = (k : Int) ∧ l[k]? = some x ∧ x.id = id := by
  rcases idxW_found (fun x : PinR => decide (x.id = id)) l 0 with ⟨h, _⟩ | ⟨k, x, h1, h2, h3⟩
  · exact .inl h
  · exact .inr ⟨k, x, by simpa [pinAt] using h1, h2, of_decide_eq_true h3⟩
theorem pcells_set {p : PinR} : ∀ (l : List PinR) (k : Nat), k < l.length → pcells (l.set k p) = (((pcells l).set (k * 3) (.int .i64 p.id)).set (k * 3 + 1) (.int .u64 p.at')).set (k * 3 + 2) (.int .i64 p.left)
  | [], k, h => by simp at h
  | a :: l, 0, h => rfl
  | a :: l, k + 1, h => by
    have ih := pcells_set l k (p := p) (by simpa using h)
    have e : (k + 1) * 3 = k * 3 + 1 + 1 + 1 := by omega
    show Value.int .i64 a.id :: Value.int .u64 a.at' :: Value.int .i64 a.left :: pcells (l.set k p) = (((Value.int .i64 a.id :: Value.int .u64 a.at' :: Value.int .i64 a.left :: pcells l).set ((k + 1) * 3) _).set ((k + 1) * 3 + 1) _).set ((k + 1) * 3 + 2) _
    rw [e, ih]
    rfl
theorem run_neq_pin (p q : PinR) (W : World) : (binOp .neq 44 (pagg p) (pagg q)).run Try.prog W = .ok (.bool (decide (p ≠ q))) W := by
  obtain ⟨p1, p2, p3⟩ := p
  obtain ⟨q1, q2, q3⟩ := q
  by_cases h1 : p1 = q1 <;> by_cases h2 : p2 = q2 <;> by_cases h3 : p3 = q3 <;> simp [go_sem, h1, h2, h3]
/-- One has all its ticks again. -/
def renewed (l : List PinR) (id : Int) : List PinR := match l[(pinAt l id).toNat]? with
  | some x => l.set (pinAt l id).toNat ⟨id, x.at', 8⟩
  | none => l
def RenewPost (w : World) (l : List PinR) (id : Int) (e : Ending) (w' : World) : Prop :=
  (pinAt l id < 0 ∧ e = .returned (.tuple #[.slice none 0 0, .int .i64 7]) ∧ Kept NoF w w') ∨
  (0 ≤ pinAt l id ∧ ∃ A c, e = .returned (.tuple #[.slice A (renewed l id).length c, .int .i64 0]) ∧ NewSl 44 3 w.heap.size w' A (renewed l id).length c (pcells (renewed l id)) ∧ Kept NoF w w')
set_option maxHeartbeats 4000000 in
theorem renew_any (w : World) (A : Option Addr) (c : Nat) (l : List PinR) (id : Int) (hl : Src w 3 A l.length (pcells l)) (hlc : l.length ≤ c) (hlen : l.length ≤ 1000000) :
    Calls Try.prog 55 #[.slice A l.length c, .int .i64 id] w (RenewPost w l id) := by
  have hf := fun W (hW : Kept NoF w W) (b : Nat) (hb : Has W b 3 #[.int .i64 id]) => find_any W A c l b id hb (hl.kept hW (fun _ _ z => z)) hlen
  have hwh := whose_any w id
  rcases pinAt_cases l id with h1 | ⟨k, x, h1, hx, hid⟩
  · rw [h1] at hf
    have hP : ∀ w', Kept NoF w w' → RenewPost w l id (.returned (.tuple #[.slice none 0 0, .int .i64 7])) w' := fun w' hk => .inl ⟨by omega, rfl, hk⟩
    have HF := Lib.hid hf; have HP := Lib.hid hP; have HWH := Lib.hid hwh
    clear hf hP hwh hl h1
    go_enter Try.func55, Try.ntmps55
    go_wp2_with fail
    refine HWH.out.mono ?_
    rintro e w1 ⟨rfl, rfl⟩
    go_wp2_with fail
    refine (HF.out _ (by (repeat' (first | with_reducible exact Kept.refl _ _ | with_reducible refine Kept.put ?_ ?_ | with_reducible refine Kept.drewN ?_ _ | with_reducible refine Kept.drew ?_ | with_reducible refine Kept.alloc ?_ _ | (fail) | (right; simp; done)))) w.heap.size (Has.new w 3 #[.int .i64 id])).mono ?_
    rintro e w2 ⟨rfl, hk⟩
    have hk2 := Kept.then (F := NoF) (a := w) (by (repeat' (first | with_reducible exact Kept.refl _ _ | with_reducible refine Kept.put ?_ ?_ | with_reducible refine Kept.drewN ?_ _ | with_reducible refine Kept.drew ?_ | with_reducible refine Kept.alloc ?_ _ | (fail) | (right; simp; done)))) hk
    have HK := Lib.hid hk2; clear hk hk2
    go_wp2
    go_ret2
    exact HP.out _ HK.out
  · rw [h1] at hf
    have hkl : k < l.length := (List.getElem?_eq_some_iff.1 hx).1
    have hcl := fun W (hW : Kept NoF w W) => clonePin_any W A c l (hl.kept hW (fun _ _ z => z)) hlen
    obtain ⟨ad, rfl, had, x0, x1, x2⟩ := pin_cells hl (by omega) k x hx
    have hxk := fun W (hW : Kept NoF w W) => pin_cells (hl.kept hW (fun _ _ z => z)) (by omega) k x hx
    have hP : ∀ w' A c, NewSl 44 3 w.heap.size w' A l.length c (pcells (l.set k ⟨id, x.at', 8⟩)) → Kept NoF w w' → RenewPost w l id (.returned (.tuple #[.slice A l.length c, .int .i64 0])) w' := fun w' A c hn hk => by
      have e1 : renewed l id = l.set k ⟨id, x.at', 8⟩ := by unfold renewed; rw [h1, Int.toNat_natCast, hx]
      refine .inr ⟨by omega, A, c, ?_, ?_, hk⟩
      · rw [e1, List.length_set]
      · rw [e1, List.length_set]; exact hn
    have HF := Lib.hid hf; have HP := Lib.hid hP; have HWH := Lib.hid hwh; have HC := Lib.hid hcl; have HX := Lib.hid (And.intro hx hid); have HXK := Lib.hid hxk
    clear hf hP hwh hl h1 x0 x1 x2 hcl hx hid hxk
    have b0 : (0 : Int) ≤ (k : Int) := by omega
    have b1 : (k : Int) < (l.length : Int) := by omega
    go_enter Try.func55, Try.ntmps55
    go_wp2_with fail
    refine HWH.out.mono ?_
    rintro e w1 ⟨rfl, rfl⟩
    go_wp2_with fail
    refine (HF.out _ (by (repeat' (first | with_reducible exact Kept.refl _ _ | with_reducible refine Kept.put ?_ ?_ | with_reducible refine Kept.drewN ?_ _ | with_reducible refine Kept.drew ?_ | with_reducible refine Kept.alloc ?_ _ | (fail) | (right; simp; done)))) w.heap.size (Has.new w 3 #[.int .i64 id])).mono ?_
    rintro e w2 ⟨rfl, hk⟩
    have hk2 := Kept.then (F := NoF) (a := w) (by (repeat' (first | with_reducible exact Kept.refl _ _ | with_reducible refine Kept.put ?_ ?_ | with_reducible refine Kept.drewN ?_ _ | with_reducible refine Kept.drew ?_ | with_reducible refine Kept.alloc ?_ _ | (fail) | (right; simp; done)))) hk
    have HK := Lib.hid hk2; clear hk hk2
    go_wp2_with fail
    refine (HC.out _ HK.out).mono ?_
    rintro e w3 ⟨A1, c1, rfl, hn, hk⟩
    have hk3 := HK.out.then hk
    obtain ⟨ad', e1, had, x0, x1, x2⟩ := HXK.out _ hk3
    injection e1 with e1
    subst e1
    have HK3 := Lib.hid hk3; clear hk3
    have HS2 := Lib.hid HK.out.size; clear HK
    obtain ⟨rb, cap, hv, _, hrl⟩ := hn.1.form (by omega)
    injection hv with hA _ hC
    subst hA
    subst hC
    obtain ⟨ad2, e2, had2, y0, y1, y2⟩ := pin_cells (Src.of_own hn.1) (by omega) k x HX.out.1
    injection e2 with e2
    subst e2
    have hneq := run_neq_pin x ⟨id, x.at', 8⟩
    obtain ⟨t, ht⟩ : ∃ t, decide (x ≠ ⟨id, x.at', 8⟩) = t := ⟨_, rfl⟩
    rw [ht] at hneq
    have HT := Lib.hid ht; clear ht
    obtain ⟨W4, hW4⟩ : ∃ W4, w3.alloc (.cells #[.int .i64 id, .int .u64 x.at', .int .i64 8] 44) = W4 := ⟨_, rfl⟩
    have hk4 : Kept NoF w3 W4 := by rw [← hW4]; (repeat' (first | with_reducible exact Kept.refl _ _ | with_reducible refine Kept.put ?_ ?_ | with_reducible refine Kept.drewN ?_ _ | with_reducible refine Kept.drew ?_ | with_reducible refine Kept.alloc ?_ _ | (fail) | (right; simp; done)))
    obtain ⟨ad2', e2', had2', y0', y1', y2'⟩ := pin_cells (Src.of_own (own_kept (F := NoF) hn.1 hk4 (fun _ _ z => z))) (by omega) k x HX.out.1
    injection e2' with e2'
    subst e2'
    have ha : (⟨rb, 0, none⟩ : Addr).add (k * 3) = ⟨rb, k * 3, none⟩ := by rw [Addr.add_lit, Nat.zero_add]
    rw [ha] at y0' y1' y2'
    dsimp only at y1' y2' had2'
    have hb9 : Has W4 w3.heap.size 44 #[.int .i64 id, .int .u64 x.at', .int .i64 8] := by rw [← hW4]; exact Has.new _ _ _
    have z0 := hb9.cell 0
    have z1 := hb9.cell 1
    have z2 := hb9.cell 2
    simp only [List.getElem?_toArray, List.getElem?_cons_zero, List.getElem?_cons_succ] at z0 z1 z2
    have hcur : ∃ cur, Has W4 rb 44 cur := by
      rcases (own_kept (F := NoF) hn.1 hk4 (fun _ _ z => z)).2 with ⟨hv, _⟩ | ⟨g', cap, cur, hv, hb, hg, _⟩
      · cases hv
      · injection hv with h1 h2 h3
        injection h1 with h1
        injection h1 with h1
        exact ⟨cur, by rw [h1]; exact hg⟩
    obtain ⟨cur, hcur⟩ := hcur
    have f0 := hcur.frozen (k * 3)
    have f1 := hcur.frozen (k * 3 + 1)
    have f2 := hcur.frozen (k * 3 + 2)
    clear hcur
    have HN := Lib.hid hn; clear hn
    have HKK := Lib.hid hk; clear hk
    have HB9 := Lib.hid hb9; clear hb9
    have HK4 := Lib.hid hk4; clear hk4
    go_wp2_with fail
    clear hW4
    go_quiet (fail)
    cases t
    · have hx2 := of_decide_eq_false HT.out
      simp only [ne_eq, Classical.not_not] at hx2
      have hset : l.set k ⟨id, x.at', 8⟩ = l := by
        obtain ⟨h1, h2⟩ := List.getElem?_eq_some_iff.1 HX.out.1
        rw [← hx2, ← h2]; exact List.set_getElem_self h1
      have HS := Lib.hid hset; clear hset hx2
      go_wp2
      go_ret2
      refine HP.out _ _ _ ?_ ((HK3.out.then HK4.out).drewN _)
      rw [HS.out]
      exact ⟨own_kept (F := NoF) HN.out.1 (HK4.out.drewN _) (fun _ _ z => z), fun g hg => by have h1 := HN.out.2 g hg; have h2 := HS2.out; omega⟩
    · go_wp2
      go_ret2
      refine HP.out _ _ _ ⟨?_, fun g hg => by have h1 := HN.out.2 g hg; have h2 := HS2.out; omega⟩ ?_
      · rw [pcells_set l k hkl]
        exact own_set (own_set (own_set (own_kept (F := NoF) HN.out.1 (HK4.out.drewN _) (fun _ _ z => z))))
      · have hnew : ∀ j u W, Kept NoF w W → Kept NoF w (W.setCell ⟨rb, j, none⟩ u) := fun j u W hW => hW.put (by have h1 := HN.out.2 rb rfl; have h2 := HS2.out; omega) 
        exact hnew _ _ _ (hnew _ _ _ (hnew _ _ _ ((HK3.out.then HK4.out).drewN _)))
end Mst
end Go.Proofs.Ytolipnnjeehnfaa
