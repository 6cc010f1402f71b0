
/- judge.State: what all operations up to a time come to. -/
import Derived.Test.YtffnaabnbimhbaaEnt4
import Derived.Test.YtffnaabnbimhbaaOver
set_option linter.unusedSimpArgs false
set_option linter.unusedVariables false
namespace Go.Proofs.Ytffnaabnbimhbaa
open Go.RowKit
set_option maxRecDepth 100000
namespace Ent
open Ops Vn
def opsTo (l : List EntR) (t : Int) : List OpR := (l.filter fun e => decide (e.ts ≤ t)).flatMap fun e => e.ops
def stateL (l : List EntR) (t : Int) : List PairR := overL [] (opsTo l t)
def total (l : List EntR) : Nat := (l.map fun e => e.ops.length).sum
theorem opsTo_snoc {l : List EntR} {i : Nat} {e : EntR} (t : Int) (h : l[i]? = some e) : opsTo (l.take (i + 1)) t = opsTo (l.take i) t ++ if e.ts ≤ t then e.ops else [] := by
  unfold opsTo
  rw [List.take_add_one, h, List.filter_append, List.flatMap_append]
  congr 1
  by_cases ht : e.ts ≤ t <;> simp [ht]
theorem opsTo_len (l : List EntR) (t : Int) : (opsTo l t).length ≤ total l := by
  unfold opsTo total
  induction l with
  | nil => simp
  | cons e l ih =>
    simp only [List.filter_cons, List.map_cons, List.sum_cons]
    split
    · simp only [List.flatMap_cons, List.length_append]; omega
    · omega
theorem total_take (l : List EntR) (i : Nat) : total (l.take i) ≤ total l := by
  unfold total
  induction l generalizing i with
  | nil => simp
  | cons e l ih =>
    cases i with
    | zero => simp
    | succ i =>
      simp only [List.take_succ_cons, List.map_cons, List.sum_cons]
      have := ih i
      omega
theorem opsTo_mem {l : List EntR} {t : Int} {o : OpR} (h : o ∈ opsTo l t) : ∃ e ∈ l, o ∈ e.ops := by
  unfold opsTo at h
  rw [List.mem_flatMap] at h
  obtain ⟨e, he, ho⟩ := h
  exact ⟨e, (List.mem_filter.1 he).1, ho⟩
theorem cells_append (l m : List OpR) : cells (l ++ m) = cells l ++ cells m := by
  unfold cells
  rw [List.flatMap_append]
theorem one_ops (l : List OpR) : ∀ u ∈ cells l, u.oneCell' = true := by
  intro u hu
  unfold cells at hu
  rw [List.mem_flatMap] at hu
  obtain ⟨e, _, hu⟩ := hu
  simp [cell] at hu
  rcases hu with rfl | rfl | rfl <;> rfl
set_option maxHeartbeats 4000000 in
theorem state_any (w : World) (A : Option Addr) (c : Nat) (l : List EntR) (t : Int) (hl : Src w 4 A l.length (ecells l)) (hlo : LOk w l) (hlen : l.length ≤ 1000) (htot : total l ≤ 1000) :
    Calls Try.prog 8 #[.slice A l.length c, .int .u64 t] w (NewPairs w (stateL l t)) := by
  have HL := Lib.hid hl; clear hl
  have HLO := Lib.hid hlo; clear hlo
  have hol := fun i => Nat.le_trans (opsTo_len (l.take i) t) (Nat.le_trans (total_take l i) htot)
  have HOL := Lib.hid hol; clear hol
  go_enter Try.func8, Try.ntmps8
  go_wp2_with fail
  go_loopw [5, 10] (fun v5 v10 wr => ∃ (i : Nat) (A' : Option Addr) (c' : Nat), i ≤ l.length ∧ v10 = .int .i64 i ∧ v5 = .slice A' (opsTo (l.take i) t).length c' ∧ NewSl 35 3 w.heap.size wr A' (opsTo (l.take i) t).length c' (cells (opsTo (l.take i) t)) ∧ Kept NoF w wr) (fun _ v10 _ => l.length - (intOf v10).toNat)
  case atStart => exact ⟨0, none, 0, Nat.zero_le _, rfl, rfl, ⟨⟨rfl, .inl ⟨rfl, rfl⟩⟩, fun k hk => by cases hk⟩, Kept.refl _ _⟩
  case round =>
    obtain ⟨i, A5, c5, hi, rfl, rfl, hrow, hk⟩ := hrel
    have hsz := hk.size
    have HROW := Lib.hid (And.intro hrow hsz); clear hrow hsz
    have HK := Lib.hid hk; clear hk
    by_cases hil : i < l.length
    · obtain ⟨e, he⟩ : ∃ e, l[i]? = some e := ⟨_, List.getElem?_eq_getElem hil⟩
      obtain ⟨ad, rfl, hlt, e0, e1, e2, e3⟩ := ent_cells (HL.out.kept HK.out (fun _ _ x => x)) (by omega) i e he
      have hsu := opsTo_snoc t he
      have hln := HOL.out (i + 1)
      have hso := (((HLO.out.at he).kept HK.out).1).kept ((Kept.refl NoF wr).alloc (.cells (earr e) 40)) (fun _ _ x => x)
      clear he
      by_cases ht : e.ts ≤ t
      · rw [if_pos ht] at hsu
        rw [hsu, List.length_append] at hln
        have HSU := Lib.hid hsu; clear hsu
        obtain ⟨cur, hcur⟩ : ∃ cur, opsTo (l.take i) t = cur := ⟨_, rfl⟩
        rw [hcur] at HROW HSU hln
        rw [hcur]
        clear hcur
        have hm1 : cur.length + e.ops.length ≤ maxLen := by unfold maxLen; omega
        have hm2 : (cur.length + e.ops.length) * 40 ≤ 140737488355328 := by omega
        have HM1 := Lib.hid hm1; clear hm1
        have HM2 := Lib.hid hm2; clear hm2 hln
        obtain ⟨cl, req, eA, ec, el, ts⟩ := e
        dsimp only [earr] at *
        have HSO := Lib.hid hso; clear hso
        go_wp2_with (at_builtin; refine list_append_src elemOp (.tmp 18) (.tmp 21) rfl rfl (Value.slice A5 cur.length c5) rfl ((HROW.out.1.kept ((Kept.refl _ _).alloc _)).1) ec rfl HSO.out (one_ops el) HM1.out HM2.out ?_; intro A6 c6 w6 ho6 hg6 ha6)
        have hn6 : NewSl 35 3 w.heap.size w6 A6 (opsTo (l.take (i + 1)) t).length c6 (cells (opsTo (l.take (i + 1)) t)) := by
          rw [HSU.out, cells_append, List.length_append]
          exact HROW.out.1.snoc (by simp; have := HROW.out.2; omega) ho6 ha6
        have hk6 : Kept NoF w w6 := (HK.out.alloc _).grown hg6 (fun k hk => .inr (HROW.out.1.2 k hk))
        have hgl6 : (opsTo (l.take (i + 1)) t).length = cur.length + el.length := by rw [HSU.out, List.length_append]
        clear ho6 hg6 ha6
        have HN6 := Lib.hid (And.intro hn6 (And.intro hk6 hgl6)); clear hn6 hk6 hgl6
        go_wp2
        go_roundw
        case rel => exact ⟨i + 1, A6, c6, by omega, by go_num, by rw [HN6.out.2.2], HN6.out.1, HN6.out.2.1⟩
        case measure => simp [intOf]; omega
      · rw [if_neg ht, List.append_nil] at hsu
        have HSU := Lib.hid hsu; clear hsu hln hso
        obtain ⟨cur, hcur⟩ : ∃ cur, opsTo (l.take i) t = cur := ⟨_, rfl⟩
        rw [hcur] at HROW HSU
        rw [hcur]
        clear hcur
        obtain ⟨cl, req, eA, ec, el, ts⟩ := e
        dsimp only at *
        go_wp2
        go_roundw
        case rel => exact ⟨i + 1, A5, c5, by omega, by go_num, by rw [HSU.out], by rw [HSU.out]; exact HROW.out.1.kept ((Kept.refl _ _).alloc _), HK.out.alloc _⟩
        case measure => simp [intOf]; omega
    · obtain rfl : i = l.length := by omega
      have hln := HOL.out l.length
      rw [List.take_length] at hln
      rw [List.take_length] at HROW
      rw [List.take_length]
      have hov := oover_any wr none A5 0 c5 [] (opsTo l t) (Src.nil _ _ _) (Src.of_own HROW.out.1.1) (Nat.zero_le _) (by omega) (fun p hp => absurd hp List.not_mem_nil)
        (fun o ho => by obtain ⟨e, he, ho2⟩ := opsTo_mem ho; exact (HLO.out e he).2.2.2.1 o ho2)
      have HOV := Lib.hid hov; clear hov hln
      go_wp2_with fail
      refine HOV.out.mono ?_
      rintro e w7 ⟨A7, c7, rfl, hr7, hk7⟩
      have HR7 := Lib.hid (And.intro hr7 (HK.out.then hk7)); clear hr7 hk7
      go_wp2
      go_ret
      exact ⟨A7, c7, rfl, ⟨HR7.out.1.1, fun k hk => Nat.le_trans HROW.out.2 (HR7.out.1.2 k hk)⟩, HR7.out.2⟩
end Ent
end Go.Proofs.Ytffnaabnbimhbaa
