/- the document's Put. -/
import Derived.Test.YtnmlemciiigjcaaOps3
set_option linter.unusedSimpArgs false
set_option linter.unusedVariables false
namespace Go.Proofs.Ytnmlemciiigjcaa
open Go.RowKit Go.Shelf
set_option maxRecDepth 100000
namespace Ops
open Vn Wire
/-- The document's writer in block g beside the batch in block x. -/
def RSt (w0 : World) (x : Nat) (cs : Array Value) (g : Nat) (W : World) (bs : List UInt8) : Prop :=
  w0.heap.size ≤ g ∧ x ≠ g ∧ RwAt W g bs ∧ Has W x 45 cs ∧ Kept NoF w0 W
theorem RSt.step {w0 W w' : World} {x g : Nat} {cs : Array Value} {bs bs' : List UInt8} {e : Ending} (h : RSt w0 x cs g W bs) (hw : RWrote W g bs' e w') : e = .returned (.tuple #[]) ∧ RSt w0 x cs g w' bs' := by
  obtain ⟨h1, h2, h3, h4, h5⟩ := h
  obtain ⟨he, g1, g2⟩ := hw
  exact ⟨he, h1, h2, g1, h4.kept g2 h2, h5.trans g2 fun i hi => by rw [hi]; exact .inr h1⟩
set_option maxHeartbeats 8000000 in
theorem rput2_any (w : World) (b : Batch) (A : Option Addr) (c : Nat) (hs : Src w 3 A b.ops.length (cells b.ops)) (hcap : b.ops.length ≤ c) :
    Calls Try.prog 48 #[bagg b A c] w fun e w' => e = .returned (.tuple #[.string (putR b), .int .i64 (chk b)]) ∧ Kept NoF w w' := by
  have hchk := fun W (hW : Kept NoF w W) => rcheck_any W b A c (hs.kept hW (fun _ _ x => x)) hcap
  have HCHK := Lib.hid hchk; clear hchk
  have HS := Lib.hid hs; clear hs
  by_cases hz : chk b = 0
  rotate_left
  · have hr : putR b = emp := by unfold putR; rw [if_neg hz]
    rw [hr]
    obtain ⟨x, hx⟩ : ∃ x, chk b = x := ⟨_, rfl⟩
    rw [hx] at hz HCHK ⊢
    have hz2 : (x != 0) = true := by simpa using hz
    clear hx hr hz
    go_enter Try.func48, Try.ntmps48
    go_wp2_with fail
    refine (HCHK.out _ (by (repeat' (first | with_reducible exact Kept.refl _ _ | with_reducible refine Kept.put ?_ ?_ | with_reducible refine Kept.drewN ?_ _ | with_reducible refine Kept.drew ?_ | with_reducible refine Kept.alloc ?_ _ | (fail) | (right; simp; done))))).mono ?_
    rintro e w2 ⟨rfl, hk⟩
    have hk2 := Kept.then (a := w) (by (repeat' (first | with_reducible exact Kept.refl _ _ | with_reducible refine Kept.put ?_ ?_ | with_reducible refine Kept.drewN ?_ _ | with_reducible refine Kept.drew ?_ | with_reducible refine Kept.alloc ?_ _ | (fail) | (right; simp; done)))) hk
    have HK2 := Lib.hid hk2; clear hk2 hk
    go_wp2
    go_ret2
    exact ⟨rfl, HK2.out⟩
  have hr : putR b = ofL (putB b) := by unfold putR; rw [if_pos hz]
  rw [hr, hz]
  rw [hz] at HCHK
  obtain ⟨k1, k2, k3, k4, k5, k6⟩ := chk_ok hz
  have hok := chkL_ok k6
  obtain ⟨cl, req, l⟩ := b
  dsimp only at k1 k2 k3 k4 k5 k6 hok HS hcap
  obtain ⟨cn, rfl⟩ : ∃ cn : Nat, cl = cn := ⟨cl.toNat, by omega⟩
  obtain ⟨rn, rfl⟩ : ∃ rn : Nat, req = rn := ⟨req.toNat, by omega⟩
  have hpb : putB ⟨cn, rn, l⟩ = put cn ++ put rn ++ put l.length ++ l.flatMap putO := rfl
  rw [hpb]
  have HOK := Lib.hid hok; clear hok k6 hz hr hpb
  have HB0 := Lib.hid (Has.new w 45 #[.int .i64 cn, .int .i64 rn, .slice A l.length c])
  go_enter Try.func48, Try.ntmps48
  go_wp2_with fail
  refine (HCHK.out _ (by (repeat' (first | with_reducible exact Kept.refl _ _ | with_reducible refine Kept.put ?_ ?_ | with_reducible refine Kept.drewN ?_ _ | with_reducible refine Kept.drew ?_ | with_reducible refine Kept.alloc ?_ _ | (fail) | (right; simp; done))))).mono ?_
  rintro e w2 ⟨rfl, hk⟩
  have hb2 := Has.kept (F := NoF) HB0.out hk (fun x => x)
  have hk2 := Kept.then (a := w) (by (repeat' (first | with_reducible exact Kept.refl _ _ | with_reducible refine Kept.put ?_ ?_ | with_reducible refine Kept.drewN ?_ _ | with_reducible refine Kept.drew ?_ | with_reducible refine Kept.alloc ?_ _ | (fail) | (right; simp; done)))) hk
  obtain ⟨x, hx⟩ : ∃ x, w.heap.size = x := ⟨_, rfl⟩
  rw [hx] at hb2 
  have hxl := hb2.lt
  have d0 : ∀ o, (w2.alloc o).cell? ⟨x, 0, none⟩ = some (.int .i64 cn) := fun o => (hb2.alloc o).cell 0
  have hr0 : ∀ o, Has (w2.alloc o) w2.heap.size 147 #[.string ⟨#[]⟩, .int .i64 0] → RSt w x #[.int .i64 cn, .int .i64 rn, .slice A l.length c] w2.heap.size (w2.alloc o) [] :=
    fun o ho => ⟨hk2.size, by omega, ho, hb2.alloc o, hk2.alloc o⟩
  have hss : ∀ g W bs, RSt w x #[.int .i64 cn, .int .i64 rn, .slice A l.length c] g W bs → (W.cell? ⟨x, 0, none⟩ = some (.int .i64 cn) ∧ W.cell? ⟨x, 1, none⟩ = some (.int .i64 rn) ∧ W.cell? ⟨x, 2, none⟩ = some (.slice A l.length c)) := fun g W bs hW => ⟨hW.2.2.2.1.cell 0, hW.2.2.2.1.cell 1, hW.2.2.2.1.cell 2⟩
  have HSS := Lib.hid hss; clear hss
  have HR0 := Lib.hid hr0; clear hr0
  have HX := Lib.hid hx
  rw [hx]
  clear hb2 hk2 hk HCHK HB0 hx
  have p1 := put_le (n := cn) (by omega)
  have p2 := put_le (n := rn) (by omega)
  have p3 := put_le (n := l.length) (by omega)
  have HP := Lib.hid (And.intro p1 (And.intro p2 p3)); clear p1 p2 p3
  obtain ⟨hdr, hhdr⟩ : ∃ hdr, put cn ++ put rn ++ put l.length = hdr := ⟨_, rfl⟩
  have hdl : hdr.length ≤ 27 := by
    rw [← hhdr]
    have := HP.out
    simp only [List.length_append]
    omega
  have HHDR := Lib.hid (And.intro hhdr hdl); clear hhdr hdl
  have hle := hxl
  go_wp2_with fail
  have hr1 := HR0.out _ (Has.new w2 147 #[.string ⟨#[]⟩, .int .i64 0])
  have HR1 := Lib.hid hr1; clear hr1 HR0
  refine (rwnum_any _ w2.heap.size [] cn (by omega) HR1.out.2.2.1 (by simp)).mono ?_
  intro e w3 hw
  obtain ⟨rfl, hr2⟩ := HR1.out.step hw
  obtain ⟨g, hg⟩ : ∃ g, w2.heap.size = g := ⟨_, rfl⟩
  rw [hg] at hr2 
  have HR2 := Lib.hid hr2; clear hr2 hw HR1 d0
  obtain ⟨b0, b1, b2⟩ := HSS.out _ _ _ HR2.out
  rw [hg]
  clear hg hle hxl
  go_wp2_with fail
  refine (rwnum_any _ _ _ rn (by omega) HR2.out.2.2.1 (by have := HP.out; simp; omega)).mono ?_
  intro e w4 hw
  obtain ⟨rfl, hr3⟩ := HR2.out.step hw
  have HR3 := Lib.hid hr3; clear hr3 hw HR2 b0 b1 b2
  obtain ⟨b0, b1, b2⟩ := HSS.out _ _ _ HR3.out
  go_wp2_with fail
  refine (rwnum_any _ _ _ l.length (by omega) HR3.out.2.2.1 (by have := HP.out; simp; omega)).mono ?_
  intro e w5 hw
  obtain ⟨rfl, hr4⟩ := HR3.out.step hw
  rw [List.nil_append, HHDR.out.1] at hr4
  have HR4 := Lib.hid hr4; clear hr4 hw HR3 b0 b1 b2 HP
  go_wp2
  go_loopw [6] (fun v6 wr => ∃ i : Nat, i ≤ l.length ∧ v6 = .int .i64 i ∧ RSt w x #[.int .i64 cn, .int .i64 rn, .slice A l.length c] g wr (hdr ++ (l.take i).flatMap putO)) (fun v6 _ => l.length - (intOf v6).toNat)
  case atStart => exact ⟨0, Nat.zero_le _, rfl, by simpa using HR4.out⟩
  case round =>
    obtain ⟨i, hi, rfl, hws⟩ := hrel
    obtain ⟨b0, b1, b2⟩ := HSS.out _ _ _ hws
    have HW0 := Lib.hid hws; clear hws HR4
    by_cases hil : i < l.length
    · obtain ⟨o, ho⟩ : ∃ o, l[i]? = some o := ⟨_, List.getElem?_eq_getElem hil⟩
      have hoi : l[i] = o := by rw [List.getElem?_eq_getElem hil] at ho; exact Option.some.inj ho
      obtain ⟨ad, rfl, had, e0, e1, e2⟩ := op_cells (HS.out.kept HW0.out.2.2.2.2 (fun _ _ x => x)) (by omega) i o ho
      have HO := Lib.hid ho; clear ho
      have hflat := flat_succ putO l i hil
      rw [hoi] at hflat
      have hOK : ∀ x ∈ l.take (i + 1), (putO x).length ≤ 19 := fun x hx => putO_len (HOK.out x (List.mem_of_mem_take hx)).2.1 (HOK.out x (List.mem_of_mem_take hx)).2.2.1
      have hfl := flat_len _ hOK
      rw [hflat, List.length_append] at hfl
      have hob := HOK.out o (by rw [← hoi]; exact List.getElem_mem hil)
      have hmin : (l.take (i + 1)).length ≤ 4 := by rw [List.length_take]; omega
      have hLB : (hdr ++ (l.take i).flatMap putO).length ≤ 200 := by rw [List.length_append]; have := HHDR.out.2; omega
      obtain ⟨cur, hcur⟩ : ∃ cur, hdr ++ (l.take i).flatMap putO = cur := ⟨_, rfl⟩
      rw [hcur] at HW0 hLB
      have hnext : hdr ++ (l.take (i + 1)).flatMap putO = ((cur ++ putT o.key) ++ putF o.del) ++ putT o.val := by
        rw [hflat, ← List.append_assoc, hcur]
        unfold putO
        simp only [List.append_assoc]
      have HNX := Lib.hid hnext; clear hnext hflat hfl hOK hcur hmin hoi
      have HLB := Lib.hid hLB; clear hLB
      have HOB := Lib.hid hob; clear hob
      have pt1 : (putT o.key).length ≤ 17 := by
        have h1 := put_le (n := o.key.size) (by have := HOB.out; omega)
        unfold putT; rw [List.length_append, size_bl]; have := HOB.out; omega
      have HPT := Lib.hid pt1; clear pt1
      have q0 : (0 : Int) ≤ (i : Int) := by omega
      go_wp2_with fail
      refine (rwtext_any _ _ _ o.key HW0.out.2.2.1 (by have := HLB.out; have := HOB.out; omega)).mono ?_
      intro e w6 hw
      obtain ⟨rfl, hr5⟩ := HW0.out.step hw
      have HW1 := Lib.hid hr5; clear hr5 hw HW0 b0 b1 b2 e0 e1 e2
      obtain ⟨b0, b1, b2⟩ := HSS.out _ _ _ HW1.out
      obtain ⟨ad1, had1, hlt1, e0, e1, e2⟩ := op_cells (HS.out.kept HW1.out.2.2.2.2 (fun _ _ x => x)) (by omega) i o HO.out
      injection had1 with had1
      subst had1
      go_wp2_with fail
      refine (rwflag_any _ _ _ o.del HW1.out.2.2.1 (by have := HLB.out; have := HPT.out; simp; omega)).mono ?_
      intro e w7 hw
      obtain ⟨rfl, hr5⟩ := HW1.out.step hw
      have HW2 := Lib.hid hr5; clear hr5 hw HW1 b0 b1 b2 e0 e1 e2
      obtain ⟨b0, b1, b2⟩ := HSS.out _ _ _ HW2.out
      obtain ⟨ad1, had1, hlt2, e0, e1, e2⟩ := op_cells (HS.out.kept HW2.out.2.2.2.2 (fun _ _ x => x)) (by omega) i o HO.out
      injection had1 with had1
      subst had1
      go_wp2_with fail
      refine (rwtext_any _ _ _ o.val HW2.out.2.2.1 (by have := HLB.out; have := HPT.out; have := HOB.out; simp [putF]; omega)).mono ?_
      intro e w8 hw
      obtain ⟨rfl, hr5⟩ := HW2.out.step hw
      rw [← HNX.out] at hr5
      have HW3 := Lib.hid hr5; clear hr5 hw HW2 b0 b1 b2 e0 e1 e2
      go_wp2
      go_roundw
      case rel => exact ⟨i + 1, by omega, by go_num, HW3.out⟩
      case measure => simp [intOf]; omega
    · obtain rfl : i = l.length := by omega
      rw [List.take_length] at HW0
      go_wp2_with fail
      refine (rwdone_any _ _ _ HW0.out.2.2.1).mono ?_
      rintro e w5 ⟨rfl, rfl⟩
      go_wp2
      go_ret2
      exact ⟨by rw [← HHDR.out.1]; rfl, HW0.out.2.2.2.2⟩
end Ops
end Go.Proofs.Ytnmlemciiigjcaa
