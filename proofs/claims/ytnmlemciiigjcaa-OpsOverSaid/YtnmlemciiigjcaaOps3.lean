/- ops.Put. -/
import Derived.Test.YtnmlemciiigjcaaOps2
import Derived.Test.YtnmlemciiigjcaaWire3
import Derived.Deep.RegionHeld3
set_option linter.unusedSimpArgs false
set_option linter.unusedVariables false
namespace Go.Proofs.Ytnmlemciiigjcaa
open Go.RowKit Go.Shelf
set_option maxRecDepth 100000
namespace Ops
open Vn Wire
def putR (b : Batch) : ByteArray := if chk b = 0 then ofL (putB b) else emp
set_option maxHeartbeats 8000000 in
theorem oput_any (w : World) (b : Batch) (A : Option Addr) (c : Nat) (hs : Src w 3 A b.ops.length (cells b.ops)) :
    Calls Try.prog 47 #[bagg b A c] w fun e w' => e = .returned (.tuple #[.string (putR b), .int .i64 (chk b)]) ∧ Kept NoF w w' := by
  have hchk := fun W (hW : Kept NoF w W) => ocheck_any W b A c (hs.kept hW (fun _ _ x => x))
  have HCHK := Lib.hid hchk; clear hchk
  have HS := Lib.hid hs; clear hs
  by_cases hz : chk b = 0
  rotate_left
  · have hr : putR b = emp := by unfold putR; rw [if_neg hz]
    rw [hr]
    obtain ⟨x, hx⟩ : ∃ x, chk b = x := ⟨_, rfl⟩
    rw [hx] at hz HCHK ⊢
    have hz2 : (x != 0) = true := by simpa using hz
    clear hx hr hz
    go_enter Try.func47, Try.ntmps47
    go_wp2_with fail
    refine (HCHK.out _ (by (repeat' (first | with_reducible exact Kept.refl _ _ | with_reducible refine Kept.put ?_ ?_ | with_reducible refine Kept.drewN ?_ _ | with_reducible refine Kept.drew ?_ | with_reducible refine Kept.alloc ?_ _ | (fail) | (right; simp; done))))).mono ?_
    rintro e w2 ⟨rfl, hk⟩
    have hk2 := Kept.then (a := w) (by (repeat' (first | with_reducible exact Kept.refl _ _ | with_reducible refine Kept.put ?_ ?_ | with_reducible refine Kept.drewN ?_ _ | with_reducible refine Kept.drew ?_ | with_reducible refine Kept.alloc ?_ _ | (fail) | (right; simp; done)))) hk
    have HK2 := Lib.hid hk2; clear hk2 hk
    go_wp2
    go_ret2
    exact ⟨rfl, HK2.out⟩
  have hr : putR b = ofL (putB b) := by unfold putR; rw [if_pos hz]
  rw [hr, hz]
  rw [hz] at HCHK
  obtain ⟨k1, k2, k3, k4, k5, k6⟩ := chk_ok hz
  have hok := chkL_ok k6
  obtain ⟨cl, req, l⟩ := b
  dsimp only at k1 k2 k3 k4 k5 k6 hok HS
  obtain ⟨cn, rfl⟩ : ∃ cn : Nat, cl = cn := ⟨cl.toNat, by omega⟩
  obtain ⟨rn, rfl⟩ : ∃ rn : Nat, req = rn := ⟨req.toNat, by omega⟩
  have hpb : putB ⟨cn, rn, l⟩ = put cn ++ put rn ++ put l.length ++ l.flatMap putO := rfl
  rw [hpb]
  have HOK := Lib.hid hok; clear hok k6 hz hr hpb
  have HB0 := Lib.hid (Has.new w 45 #[.int .i64 cn, .int .i64 rn, .slice A l.length c])
  go_enter Try.func47, Try.ntmps47
  go_wp2_with fail
  refine (HCHK.out _ (by (repeat' (first | with_reducible exact Kept.refl _ _ | with_reducible refine Kept.put ?_ ?_ | with_reducible refine Kept.drewN ?_ _ | with_reducible refine Kept.drew ?_ | with_reducible refine Kept.alloc ?_ _ | (fail) | (right; simp; done))))).mono ?_
  rintro e w2 ⟨rfl, hk⟩
  have hb2 := Has.kept (F := NoF) HB0.out hk (fun x => x)
  have hk2 := Kept.then (a := w) (by (repeat' (first | with_reducible exact Kept.refl _ _ | with_reducible refine Kept.put ?_ ?_ | with_reducible refine Kept.drewN ?_ _ | with_reducible refine Kept.drew ?_ | with_reducible refine Kept.alloc ?_ _ | (fail) | (right; simp; done)))) hk
  have c0 : w2.cell? ⟨w.heap.size, 0, none⟩ = some (.int .i64 cn) := hb2.cell 0
  have c1 : w2.cell? ⟨w.heap.size, 1, none⟩ = some (.int .i64 rn) := hb2.cell 1
  have c2 : w2.cell? ⟨w.heap.size, 2, none⟩ = some (.slice A l.length c) := hb2.cell 2
  have HB2 := Lib.hid hb2; clear hb2
  have HK2 := Lib.hid hk2; clear hk2 hk
  have hN : ∀ n, (w2.drewN n).heap.size = w2.heap.size := fun n => rfl
  have hnew : ∀ W, Has W w.heap.size 45 #[.int .i64 cn, .int .i64 rn, .slice A l.length c] → Calls Try.prog 88 #[] W fun e w' => ∃ g, e = .returned (.pointer (some ⟨g, 0, none⟩)) ∧ WS W.heap.size w' g [] [(w.heap.size, 45, #[.int .i64 cn, .int .i64 rn, .slice A l.length c])] ∧ Kept NoF W w' :=
    fun W hW => new_s W _ (fun x hx => by simp at hx; subst hx; exact hW)
  have HNEW := Lib.hid hnew; clear hnew
  have hss : ∀ W, Has W w.heap.size 45 #[.int .i64 cn, .int .i64 rn, .slice A l.length c] → (W.cell? ⟨w.heap.size, 0, none⟩ = some (.int .i64 cn) ∧ W.cell? ⟨w.heap.size, 1, none⟩ = some (.int .i64 rn) ∧ W.cell? ⟨w.heap.size, 2, none⟩ = some (.slice A l.length c)) := fun W hW => ⟨hW.cell 0, hW.cell 1, hW.cell 2⟩
  have HSS := Lib.hid hss; clear hss
  have p1 := put_le (n := cn) (by omega)
  have p2 := put_le (n := rn) (by omega)
  have p3 := put_le (n := l.length) (by omega)
  have HP := Lib.hid (And.intro p1 (And.intro p2 p3)); clear p1 p2 p3
  have HQ := Lib.hid (And.intro k1 (And.intro k2 (And.intro k3 (And.intro k4 k5)))); clear k1 k2 k3 k4 
  go_wp2_with fail
  go_region_held3 (fun W => W.cell? ⟨w.heap.size, 0, none⟩ = some (.int .i64 cn) ∧ W.cell? ⟨w.heap.size, 1, none⟩ = some (.int .i64 rn) ∧ W.cell? ⟨w.heap.size, 2, none⟩ = some (.slice A l.length c)) (first | with_reducible exact q6 | with_reducible exact q5 | with_reducible exact q4 | with_reducible exact q3 | with_reducible exact ⟨c0, c1, c2⟩ | (simp [go_sem, c0, c1, c2]; done))
    (first
      | (go_at_call 88; refine (HNEW.out _ (by exact HB2.out)).mono ?_; rintro e w3 ⟨g, rfl, hw3, hkk3⟩; have q3 := HSS.out _ (hw3.has (List.mem_singleton.2 rfl)); have HW3 := Lib.hid hw3; have HKK3 := Lib.hid hkk3; clear hw3 hkk3)
      | (have hx := HW5; clear hx; go_at_call 89; refine (num_s (by exact HW5.out) l.length (by have := HQ.out; omega) (by have := HP.out; simp; omega)).mono ?_; rintro e w6 ⟨rfl, hw6, hb6⟩; have q6 := HSS.out _ (hw6.has (List.mem_singleton.2 rfl)); have HW6 := Lib.hid hw6; have HB6 := Lib.hid hb6; clear hw6 hb6)
      | (have hx := HW4; clear hx; go_at_call 89; refine (num_s (by exact HW4.out) rn (by have := HQ.out; omega) (by have := HP.out; simp; omega)).mono ?_; rintro e w5 ⟨rfl, hw5, hb5⟩; have q5 := HSS.out _ (hw5.has (List.mem_singleton.2 rfl)); have HW5 := Lib.hid hw5; have HB5 := Lib.hid hb5; clear hw5 hb5)
      | (have hx := HW3; clear hx; go_at_call 89; refine (num_s (by exact HW3.out) cn (by have := HQ.out; omega) (by simp)).mono ?_; rintro e w4 ⟨rfl, hw4, hb4⟩; have q4 := HSS.out _ (hw4.has (List.mem_singleton.2 rfl)); have HW4 := Lib.hid hw4; have HB4 := Lib.hid hb4; clear hw4 hb4))
  have hk3 : Kept NoF w w3 := Kept.then (by (repeat' (first | with_reducible exact Kept.refl _ _ | with_reducible refine Kept.put ?_ ?_ | with_reducible refine Kept.drewN ?_ _ | with_reducible refine Kept.drew ?_ | with_reducible refine Kept.alloc ?_ _ | (with_reducible exact HK2.out) | (right; simp; done)))) HKK3.out
  have hle : w.heap.size ≤ w2.heap.size := HK2.out.size
  have hk6 : Kept NoF w w6 := behind (behind (behind hk3 HB4.out hle) HB5.out hle) HB6.out hle
  have hw6 := HW6.out
  simp only [List.nil_append] at hw6
  clear q3 q4 q5 HW3 HW4 HW5 HW6 HB4 HB5 HB6 HK2 HKK3 c0 c1 c2 hk3 HNEW HCHK HB0 HB2
  obtain ⟨hdr, hhdr⟩ : ∃ hdr, put cn ++ put rn ++ put l.length = hdr := ⟨_, rfl⟩
  rw [hhdr] at hw6
  have hdl : hdr.length ≤ 27 := by
    rw [← hhdr]
    have := HP.out
    simp only [List.length_append]
    omega
  have hdp : hdr ≠ [] := by
    rw [← hhdr]
    have h1 := put_pos cn
    intro e
    have := congrArg List.length e
    simp only [List.length_append, List.length_nil] at this
    omega
  have HHDR := Lib.hid (And.intro hhdr (And.intro hdl hdp)); clear hhdr hdl hdp HP
  have HW6 := Lib.hid hw6; clear hw6
  have HK6 := Lib.hid hk6; clear hk6
  obtain ⟨u0, u1, u2⟩ := q6
  go_wp2
  go_loopw [27] (fun v27 wr => ∃ i : Nat, i ≤ l.length ∧ v27 = .int .i64 i ∧ WS w2.heap.size wr g (hdr ++ (l.take i).flatMap putO) [(w.heap.size, 45, #[.int .i64 cn, .int .i64 rn, .slice A l.length c])] ∧ Kept NoF w wr) (fun v27 _ => l.length - (intOf v27).toNat)
  case atStart => exact ⟨0, Nat.zero_le _, rfl, by simpa using HW6.out, HK6.out⟩
  case round =>
    obtain ⟨i, hi, rfl, hws, hk⟩ := hrel
    have HK := Lib.hid hk; clear hk
    have hcs := HSS.out _ (hws.has (List.mem_singleton.2 rfl))
    obtain ⟨b0, b1, b2⟩ := hcs
    by_cases hil : i < l.length
    · obtain ⟨o, ho⟩ : ∃ o, l[i]? = some o := ⟨_, List.getElem?_eq_getElem hil⟩
      have hoi : l[i] = o := by rw [List.getElem?_eq_getElem hil] at ho; exact Option.some.inj ho
      obtain ⟨ad, rfl, had, e0, e1, e2⟩ := op_cells (HS.out.kept HK.out (fun _ _ x => x)) (by omega) i o ho
      have hflat := flat_succ putO l i hil
      rw [hoi] at hflat
      have hOK : ∀ x ∈ l.take (i + 1), (putO x).length ≤ 19 := fun x hx => putO_len (HOK.out x (List.mem_of_mem_take hx)).2.1 (HOK.out x (List.mem_of_mem_take hx)).2.2.1
      have hfl := flat_len _ hOK
      rw [hflat, List.length_append] at hfl
      have hob := HOK.out o (by rw [← hoi]; exact List.getElem_mem hil)
      have hmin : (l.take (i + 1)).length ≤ 4 := by rw [List.length_take]; omega
      have hLB : (hdr ++ (l.take i).flatMap putO).length ≤ 200 := by rw [List.length_append]; have := HHDR.out.2.1; omega
      obtain ⟨cur, hcur⟩ : ∃ cur, hdr ++ (l.take i).flatMap putO = cur := ⟨_, rfl⟩
      rw [hcur] at hws hLB
      have hnext : hdr ++ (l.take (i + 1)).flatMap putO = ((cur ++ putT o.key) ++ putF o.del) ++ putT o.val := by
        rw [hflat, ← List.append_assoc, hcur]
        unfold putO
        simp only [List.append_assoc]
      have HNX := Lib.hid hnext; clear hnext hflat hfl hOK hcur hmin ho hoi
      have HLB := Lib.hid hLB; clear hLB
      have HOB := Lib.hid hob; clear hob
      have pt1 : (putT o.key).length ≤ 17 := by
        have h1 := put_le (n := o.key.size) (by have := HOB.out; omega)
        unfold putT; rw [List.length_append, size_bl]; have := HOB.out; omega
      have HPT := Lib.hid pt1; clear pt1
      have hw0 := hws.add 106 #[.string o.key, .string o.val, .bool o.del]
      have HW0 := Lib.hid hw0; clear hw0 hws
      have hos : ∀ W bs, WS w2.heap.size W g bs [(wr.heap.size, 106, #[.string o.key, .string o.val, .bool o.del]), (w.heap.size, 45, #[.int .i64 cn, .int .i64 rn, .slice (some ad) l.length c])] → (W.cell? ⟨wr.heap.size, 0, none⟩ = some (.string o.key) ∧ W.cell? ⟨wr.heap.size, 1, none⟩ = some (.string o.val) ∧ W.cell? ⟨wr.heap.size, 2, none⟩ = some (.bool o.del)) :=
        fun W bs hW => ⟨(hW.has (List.mem_cons_self ..)).cell 0, (hW.has (List.mem_cons_self ..)).cell 1, (hW.has (List.mem_cons_self ..)).cell 2⟩
      have HOS := Lib.hid hos; clear hos
      have r0 := HOS.out _ _ HW0.out
      go_wp2_with fail
      go_region_held3 (fun W => W.cell? ⟨wr.heap.size, 0, none⟩ = some (.string o.key) ∧ W.cell? ⟨wr.heap.size, 1, none⟩ = some (.string o.val) ∧ W.cell? ⟨wr.heap.size, 2, none⟩ = some (.bool o.del)) (first | with_reducible exact r3 | with_reducible exact r2 | with_reducible exact r1 | with_reducible exact r0 | (simp [go_sem, r0]; done))
        (first
          | (have hx := HV2; clear hx; go_at_call 90; refine (text_s (by exact HV2.out) o.val (by have := HLB.out; have := HOB.out; have := HPT.out; simp [putF]; omega)).mono ?_; rintro e w5 ⟨rfl, hv3, hd3⟩; have r3 := HOS.out _ _ hv3; have HV3 := Lib.hid hv3; have HD3 := Lib.hid hd3; clear hv3 hd3)
          | (have hx := HV1; clear hx; go_at_call 91; refine (flag_s (by exact HV1.out) o.del (by have := HLB.out; have := HOB.out; have := HPT.out; simp; omega)).mono ?_; rintro e w4 ⟨rfl, hv2, hd2⟩; have r2 := HOS.out _ _ hv2; have HV2 := Lib.hid hv2; have HD2 := Lib.hid hd2; clear hv2 hd2)
          | (go_at_call 90; refine (text_s (by exact HW0.out) o.key (by have := HLB.out; have := HOB.out; omega)).mono ?_; rintro e w3 ⟨rfl, hv1, hd1⟩; have r1 := HOS.out _ _ hv1; have HV1 := Lib.hid hv1; have HD1 := Lib.hid hd1; clear hv1 hd1))
      have hkk := behind (behind (behind (w := w) (by (repeat' (first | with_reducible exact Kept.refl _ _ | with_reducible refine Kept.put ?_ ?_ | with_reducible refine Kept.drewN ?_ _ | with_reducible refine Kept.drew ?_ | with_reducible refine Kept.alloc ?_ _ | (with_reducible exact HK.out) | (right; simp; done)))) HD1.out hle) HD2.out hle) HD3.out hle
      have HKK := Lib.hid hkk; clear hkk HD1 HD2 HD3
      have hv := HV3.out.tail2
      rw [← HNX.out] at hv
      have HV := Lib.hid hv; clear hv
      go_wp2
      go_roundw
      case rel => exact ⟨i + 1, by omega, by go_num, HV.out, HKK.out⟩
      case measure => simp [intOf]; omega
    · obtain rfl : i = l.length := by omega
      rw [List.take_length] at hws
      have HWF := Lib.hid hws; clear hws
      go_wp2_with fail
      refine (done_s HWF.out (by have := HHDR.out.2.2; simp; intro h; exact absurd h this)).mono ?_
      rintro e w5 ⟨rfl, hb⟩
      have hkk := behind HK.out hb hle
      have HKK := Lib.hid hkk; clear hkk hb
      go_wp2
      go_ret2
      exact ⟨by rw [← HHDR.out.1]; rfl, HKK.out⟩
end Ops
end Go.Proofs.Ytnmlemciiigjcaa
