/- The document's disk: lay on a file that is not there (being tried). -/
import Derived.Test.YtopkeknpdimimaaDiskLay
import Derived.Deep.DeepCutAuto
import Derived.Deep.CutBlock
set_option linter.unusedSimpArgs false
set_option linter.unusedVariables false
namespace Go.Proofs.Ytopkeknpdimimaa
open Go.RowKit Go.Maps
set_option maxRecDepth 100000
namespace Disk
variable {F G : Nat → Prop} {w : World} {g x n : Nat} {m : Safe} {fs ps : List Pc} {ser boot : Int}
theorem pcells_take (a : List Pc) (k : Nat) : (pcells a).take (k * 2) = pcells (a.take k) := by
  induction a generalizing k with
  | nil => simp [pcells]
  | cons x a ih =>
    cases k with
    | zero => simp [pcells]
    | succ k =>
      have e : (k + 1) * 2 = k * 2 + 1 + 1 := by omega
      show (Value.int .i64 x.1 :: Value.string x.2 :: pcells a).take ((k + 1) * 2) = Value.int .i64 x.1 :: Value.string x.2 :: pcells (a.take k)
      rw [e]
      simp [ih]
theorem pcells_drop (a : List Pc) (k : Nat) : (pcells a).drop (k * 2) = pcells (a.drop k) := by
  induction a generalizing k with
  | nil => simp [pcells]
  | cons x a ih =>
    cases k with
    | zero => simp [pcells]
    | succ k =>
      have e : (k + 1) * 2 = k * 2 + 1 + 1 := by omega
      show (Value.int .i64 x.1 :: Value.string x.2 :: pcells a).drop ((k + 1) * 2) = pcells (a.drop k)
      rw [e]
      simp [ih]

set_option maxHeartbeats 4000000 in
theorem rlay_new (h : RefD w x G fs ps ser boot) (f : Int) (s : ByteArray) (hh : hit fs f = false) (hlen : fs.length ≤ 1000000) (hsz : s.size ≤ 4611686018427387904) :
    Calls Try.prog 32 #[.pointer (some ⟨x, 0, none⟩), .agg #[.int .i64 f, .string s]] w (AfterR w x G (.tuple #[]) (fs.take (cnt fs f) ++ (f, s) :: fs.drop (cnt fs f)) ps ser boot) := by
  have hfi : ∀ W, Kept NoF w W → _ := fun W hW => find_any (h.kept hW (fun _ _ x => x)) f hlen
  rw [hh] at hfi
  have HFI := Lib.hid hfi; clear hfi
  have hk := cnt_le fs f
  obtain ⟨A, c, B, d, hF, hg, ho, hp⟩ := h
  have hcap := own_cap ho
  generalize cnt fs f = k at *
  have HG := Lib.hid hg; clear hg
  have HO := Lib.hid ho; clear ho
  have HP := Lib.hid hp; clear hp
  have HF := Lib.hid hF; clear hF hh
  go_enter Try.func32, Try.ntmps32
  go_wp2_with fail
  refine (HFI.out _ ((Kept.refl _ _).alloc _)).mono ?_
  rintro e w1 ⟨rfl, hk1⟩
  have hbx := (Has.new w 64 #[.int .i64 f, .string s]).kept hk1 (fun x => x)
  have hk2 : Kept NoF w w1 := ((Kept.refl _ _).alloc _).then hk1
  have HBX := Lib.hid hbx; clear hbx hk1
  have HX0 := Lib.hid (HG.out.kept hk2 (fun x => x))
  have HSRC := Lib.hid ((Src.of_own HO.out).kept hk2 (fun _ _ x => x))
  go_upto_region 3 with fail
  go_cut [6] (fun v6 wx => ∃ A2 c2, v6 = .slice A2 (k + 1) c2 ∧ wx.ownsRow 0 71 2 (.slice A2 (k + 1) c2) (k + 1) (pcells (fs.take k ++ [(f, ⟨#[]⟩)])) ∧ (∀ k', (Value.slice A2 (k + 1) c2).ownBlock = some k' → w1.heap.size ≤ k') ∧ Kept NoF w1 wx)
  case first =>
    cases A with
    | none =>
      obtain ⟨w0, hw0⟩ : ∃ w0 : World, w0 = w1 := ⟨_, rfl⟩
      subst hw0
      have hz0 := hk2.size
      have hc0 : ∀ W, Kept NoF w0 W → W.cell? ⟨x, 0, none⟩ = some (.slice (none) fs.length c) ∧ W.cell? ⟨w.heap.size, 0, none⟩ = some (.int .i64 f) := fun W hW => ⟨(HX0.out.kept hW (fun x => x)).cell 0, (HBX.out.kept hW (fun x => x)).cell 0⟩
      have HC0 := Lib.hid hc0; clear hc0
      have q0 := (HC0.out w0 (Kept.refl _ _)).1
      have q1 := (HC0.out w0 (Kept.refl _ _)).2
      have hxl := HX0.out.lt
      have hbl := HBX.out.lt
      have sr1 : ∀ W, Kept NoF w0 W → Src W 2 (none) k (pcells (fs.take k)) := fun W hW => by
        have := (HSRC.out.kept hW (fun _ _ x => x)).take hk
        rw [pcells_take] at this
        exact this
      have SR1 := Lib.hid sr1; clear sr1
      have HM0 : Hid (0 + k ≤ maxLen) := Lib.hid (by unfold maxLen; omega)
      have HY0 : Hid ((0 + k) * 24 ≤ 140737488355328) := Lib.hid (by omega)
      have HM1 : Hid (k + 1 ≤ maxLen) := Lib.hid (by unfold maxLen; omega)
      have HY1 : Hid ((k + 1) * 24 ≤ 140737488355328) := Lib.hid (by omega)
      have hI1 : (k : Int) ≤ (c : Int) := by have := hcap.1; omega
      go_region_law (first
        | (with_reducible apply step_append_src elemRF (.tmp 16) (.tmp 22) (n := 0) (xs := []) (A := none) (m := k) (c := c) (news := pcells (fs.take k))
           rfl
           rfl
           exact (rfl : _ = Value.slice (some ⟨_, 0, none⟩) 0 0)
           (refine own_empty (cs := #[]) ?_ rfl; (repeat (first | with_reducible exact Has.new_at _ _ _ (by simp) | with_reducible apply Has.drew | with_reducible apply Has.drewN | with_reducible apply Has.alloc | (with_reducible apply Has.past <;> (try omega)) )))
           exact (rfl : _ = Value.slice (none) k c)
           (exact SR1.out _ (by (repeat' (first | with_reducible exact Kept.refl _ _ | with_reducible refine Kept.put ?_ ?_ | with_reducible refine Kept.drewN ?_ _ | with_reducible refine Kept.drew ?_ | with_reducible refine Kept.alloc ?_ _ | (fail) | (right; simp; done)))))
           exact pcells_one _
           exact HM0.out
           exact HY0.out
           intro A1 c1 w2 ho1 hg1 ha1
           have hk1 : Kept NoF w0 w2 := by refine Kept.grown ?_ hg1 ?_; (repeat' (first | with_reducible exact Kept.refl _ _ | with_reducible refine Kept.put ?_ ?_ | with_reducible refine Kept.drewN ?_ _ | with_reducible refine Kept.drew ?_ | with_reducible refine Kept.alloc ?_ _ | (fail) | (right; simp; done))); exact fun k hk => .inr (new_row hk (by first | (simp; done) | (simp; omega) | omega))
           have P0 := (HC0.out w2 hk1).1
           have P1 := (HC0.out w2 hk1).2
           have hz1 := hk1.size
           simp only [Nat.zero_add, List.nil_append] at ho1 ha1 ⊢)
        | (with_reducible apply step_append_src elemRF (.tmp 23) (.tmp 27) (n := k) (xs := pcells (fs.take k)) (m := 1) (c := 1) (news := [.int .i64 f, .string ⟨#[]⟩])
           rfl
           rfl
           exact (rfl : _ = Value.slice A1 k c1)
           (refine own_kept ho1 (F := NoF) ?_ (fun _ _ x => x); (repeat' (first | with_reducible exact Kept.refl _ _ | with_reducible refine Kept.put ?_ ?_ | with_reducible refine Kept.drewN ?_ _ | with_reducible refine Kept.drew ?_ | with_reducible refine Kept.alloc ?_ _ | (fail) | (right; simp; done))))
           exact (rfl : _ = Value.slice (some ⟨_, 0, none⟩) 1 1)
           (refine Src.of_has (t := 71) (cs := #[.int .i64 f, .string ⟨#[]⟩]) ?_ rfl; (repeat (first | with_reducible exact Has.new_at _ _ _ (by simp) | with_reducible apply Has.drew | with_reducible apply Has.drewN | with_reducible apply Has.alloc | (with_reducible refine Has.grown ?_ hg1 (by simp [Value.ownBlock])))))
           (intro u hu; simp at hu; rcases hu with rfl | rfl <;> rfl)
           exact HM1.out
           exact HY1.out
           intro A2 c2 w3 ho2 hg2 ha2
           have hk3 : Kept NoF w0 w3 := by refine Kept.grown (Kept.then hk1 ?_) hg2 ?_; (repeat' (first | with_reducible exact Kept.refl _ _ | with_reducible refine Kept.put ?_ ?_ | with_reducible refine Kept.drewN ?_ _ | with_reducible refine Kept.drew ?_ | with_reducible refine Kept.alloc ?_ _ | (fail) | (right; simp; done))); exact fun k hk => .inr (new_row2 hk ha1 (by first | (simp; done) | (simp; omega) | omega) (by first | (simp; done) | (simp; omega) | omega))
           have hz3 := hk3.size))
      all_goals
        have hlow : ∀ k', (Value.slice A2 (k + 1) c2).ownBlock = some k' → w0.heap.size ≤ k' := fun k' hk' => new_row3 hk' ha2 ha1 (by first | (simp; done) | (simp; omega) | omega) (by first | (simp; done) | (simp; omega) | omega) (by first | (simp; done) | (simp; omega) | omega)
        have ho3 : w3.ownsRow 0 71 2 (.slice A2 (k + 1) c2) (k + 1) (pcells (fs.take k ++ [(f, ⟨#[]⟩)])) := by rw [pcells_append]; exact ho2
        have HLOW := Lib.hid hlow; clear hlow
        have HO3 := Lib.hid ho3; clear ho3 ho2 ho1 hg1 hg2 ha1 ha2
        go_wp2_with fail
        go_meet
        exact ⟨A2, c2, rfl, HO3.out, HLOW.out, hk3⟩
    | some td =>
      obtain ⟨w0, hw0⟩ : ∃ w0 : World, w0 = w1 := ⟨_, rfl⟩
      subst hw0
      have hz0 := hk2.size
      have hc0 : ∀ W, Kept NoF w0 W → W.cell? ⟨x, 0, none⟩ = some (.slice (some td) fs.length c) ∧ W.cell? ⟨w.heap.size, 0, none⟩ = some (.int .i64 f) := fun W hW => ⟨(HX0.out.kept hW (fun x => x)).cell 0, (HBX.out.kept hW (fun x => x)).cell 0⟩
      have HC0 := Lib.hid hc0; clear hc0
      have q0 := (HC0.out w0 (Kept.refl _ _)).1
      have q1 := (HC0.out w0 (Kept.refl _ _)).2
      have hxl := HX0.out.lt
      have hbl := HBX.out.lt
      have sr1 : ∀ W, Kept NoF w0 W → Src W 2 (some td) k (pcells (fs.take k)) := fun W hW => by
        have := (HSRC.out.kept hW (fun _ _ x => x)).take hk
        rw [pcells_take] at this
        exact this
      have SR1 := Lib.hid sr1; clear sr1
      have HM0 : Hid (0 + k ≤ maxLen) := Lib.hid (by unfold maxLen; omega)
      have HY0 : Hid ((0 + k) * 24 ≤ 140737488355328) := Lib.hid (by omega)
      have HM1 : Hid (k + 1 ≤ maxLen) := Lib.hid (by unfold maxLen; omega)
      have HY1 : Hid ((k + 1) * 24 ≤ 140737488355328) := Lib.hid (by omega)
      have hI1 : (k : Int) ≤ (c : Int) := by have := hcap.1; omega
      go_region_law (first
        | (with_reducible apply step_append_src elemRF (.tmp 16) (.tmp 22) (n := 0) (xs := []) (A := some td) (m := k) (c := c) (news := pcells (fs.take k))
           rfl
           rfl
           exact (rfl : _ = Value.slice (some ⟨_, 0, none⟩) 0 0)
           (refine own_empty (cs := #[]) ?_ rfl; (repeat (first | with_reducible exact Has.new_at _ _ _ (by simp) | with_reducible apply Has.drew | with_reducible apply Has.drewN | with_reducible apply Has.alloc | (with_reducible apply Has.past <;> (try omega)) )))
           exact (rfl : _ = Value.slice (some td) k c)
           (exact SR1.out _ (by (repeat' (first | with_reducible exact Kept.refl _ _ | with_reducible refine Kept.put ?_ ?_ | with_reducible refine Kept.drewN ?_ _ | with_reducible refine Kept.drew ?_ | with_reducible refine Kept.alloc ?_ _ | (fail) | (right; simp; done)))))
           exact pcells_one _
           exact HM0.out
           exact HY0.out
           intro A1 c1 w2 ho1 hg1 ha1
           have hk1 : Kept NoF w0 w2 := by refine Kept.grown ?_ hg1 ?_; (repeat' (first | with_reducible exact Kept.refl _ _ | with_reducible refine Kept.put ?_ ?_ | with_reducible refine Kept.drewN ?_ _ | with_reducible refine Kept.drew ?_ | with_reducible refine Kept.alloc ?_ _ | (fail) | (right; simp; done))); exact fun k hk => .inr (new_row hk (by first | (simp; done) | (simp; omega) | omega))
           have P0 := (HC0.out w2 hk1).1
           have P1 := (HC0.out w2 hk1).2
           have hz1 := hk1.size
           simp only [Nat.zero_add, List.nil_append] at ho1 ha1 ⊢)
        | (with_reducible apply step_append_src elemRF (.tmp 23) (.tmp 27) (n := k) (xs := pcells (fs.take k)) (m := 1) (c := 1) (news := [.int .i64 f, .string ⟨#[]⟩])
           rfl
           rfl
           exact (rfl : _ = Value.slice A1 k c1)
           (refine own_kept ho1 (F := NoF) ?_ (fun _ _ x => x); (repeat' (first | with_reducible exact Kept.refl _ _ | with_reducible refine Kept.put ?_ ?_ | with_reducible refine Kept.drewN ?_ _ | with_reducible refine Kept.drew ?_ | with_reducible refine Kept.alloc ?_ _ | (fail) | (right; simp; done))))
           exact (rfl : _ = Value.slice (some ⟨_, 0, none⟩) 1 1)
           (refine Src.of_has (t := 71) (cs := #[.int .i64 f, .string ⟨#[]⟩]) ?_ rfl; (repeat (first | with_reducible exact Has.new_at _ _ _ (by simp) | with_reducible apply Has.drew | with_reducible apply Has.drewN | with_reducible apply Has.alloc | (with_reducible refine Has.grown ?_ hg1 (by simp [Value.ownBlock])))))
           (intro u hu; simp at hu; rcases hu with rfl | rfl <;> rfl)
           exact HM1.out
           exact HY1.out
           intro A2 c2 w3 ho2 hg2 ha2
           have hk3 : Kept NoF w0 w3 := by refine Kept.grown (Kept.then hk1 ?_) hg2 ?_; (repeat' (first | with_reducible exact Kept.refl _ _ | with_reducible refine Kept.put ?_ ?_ | with_reducible refine Kept.drewN ?_ _ | with_reducible refine Kept.drew ?_ | with_reducible refine Kept.alloc ?_ _ | (fail) | (right; simp; done))); exact fun k hk => .inr (new_row2 hk ha1 (by first | (simp; done) | (simp; omega) | omega) (by first | (simp; done) | (simp; omega) | omega))
           have hz3 := hk3.size))
      all_goals
        have hlow : ∀ k', (Value.slice A2 (k + 1) c2).ownBlock = some k' → w0.heap.size ≤ k' := fun k' hk' => new_row3 hk' ha2 ha1 (by first | (simp; done) | (simp; omega) | omega) (by first | (simp; done) | (simp; omega) | omega) (by first | (simp; done) | (simp; omega) | omega)
        have ho3 : w3.ownsRow 0 71 2 (.slice A2 (k + 1) c2) (k + 1) (pcells (fs.take k ++ [(f, ⟨#[]⟩)])) := by rw [pcells_append]; exact ho2
        have HLOW := Lib.hid hlow; clear hlow
        have HO3 := Lib.hid ho3; clear ho3 ho2 ho1 hg1 hg2 ha1 ha2
        go_wp2_with fail
        go_meet
        exact ⟨A2, c2, rfl, HO3.out, HLOW.out, hk3⟩
  case rest =>
    obtain ⟨A2, c2, rfl, hrow2, hnew2, hk3⟩ := hcut
    obtain ⟨w5, hw5⟩ : ∃ w5 : World, w5 = wc := ⟨_, rfl⟩
    subst hw5
    have hx5 := HX0.out.kept hk3 (fun x => x)
    have hb5 := HBX.out.kept hk3 (fun x => x)
    have e0 : w5.cell? ⟨x, 0, none⟩ = some (.slice A fs.length c) := hx5.cell 0
    have hs2 : Src w5 2 (if c = k then A else Option.map (fun ad : Addr => ad.add (k * 2)) A) (fs.length - k) (pcells (fs.drop k)) := by
      have := (HSRC.out.kept hk3 (fun _ _ x => x)).drop (cap := c) hk hcap.1
      rw [pcells_drop] at this
      exact this
    have hkL : (k : Int) ≤ fs.length := by omega
    have hkc : (fs.length : Int) ≤ c := by have := hcap.1; omega
    have hM : k + 1 + (fs.length - k) ≤ maxLen := by unfold maxLen; omega
    have hY : (k + 1 + (fs.length - k)) * 24 ≤ 140737488355328 := by omega
    have HX5 := Lib.hid hx5; clear hx5
    have HB5 := Lib.hid hb5; clear hb5
    have HROW2 := Lib.hid hrow2; clear hrow2
    have HNEW := Lib.hid hnew2; clear hnew2
    have HK3 := Lib.hid hk3; clear hk3
    have HM := Lib.hid hM; clear hM
    have HY := Lib.hid hY; clear hY
    by_cases hck : c = k
    all_goals
      first | rw [if_pos hck] at hs2 | rw [if_neg hck] at hs2
      cases A
      all_goals
        first | rw [Option.map_some] at hs2 | rw [Option.map_none] at hs2 | skip
        have HS2 := Lib.hid hs2; clear hs2
        go_wp2_with (at_builtin; refine list_append_src elemRF (.tmp 29) (.tmp 35) rfl rfl (Value.slice A2 (k + 1) c2) rfl HROW2.out _ rfl HS2.out (pcells_one _) HM.out HY.out ?_; intro A3 c3 w6 ho3 hg3 ha3; have hk6 : Kept NoF w1 w6 := HK3.out.grown hg3 (fun k' hk' => .inr (HNEW.out k' hk')); have hx6 := HX0.out.kept hk6 (fun x => x); have hb6 := HBX.out.kept hk6 (fun x => x); have hf6 := hx6.frozen 0; have hc6 := hx6.cell 0; have HX6 := Lib.hid hx6; clear hx6; have HB6 := Lib.hid hb6; clear hb6; have HO3 := Lib.hid ho3; clear ho3 hg3)
        have hlow3 : ∀ k', (Value.slice A3 (k + 1 + (fs.length - k)) c3).ownBlock = some k' → w1.heap.size ≤ k' := by
          intro k' hk'
          have := HK3.out.size
          rcases ha3 with h | h
          · exact HNEW.out k' (h.symm.trans hk')
          · rw [hk'] at h
            injection h with h
            omega
        have hn : k + 1 + (fs.length - k) = fs.length + 1 := by omega
        rw [hn] at HO3 hlow3 ⊢
        clear ha3
        obtain ⟨rb, cap, hv, _, hrl⟩ := HO3.out.form (by omega)
        injection hv with hA _ hC
        subst hA
        subst hC
        have hrow : w6.ownsRow 0 71 2 (.slice (some ⟨rb, 0, none⟩) (fs.length + 1) c3) (fs.length + 1) (pcells (fs.take k ++ (f, ⟨#[]⟩) :: fs.drop k)) := by
          have := HO3.out
          rw [← pcells_append, List.append_assoc] at this
          exact this
        have hwx : w.heap.size ≠ x := fun e => by have := HG.out.lt; omega
        have hxr : x ≠ rb := fun e => own_ne hrow HX6.out (by decide) (by rw [e]; rfl)
        have hrx : rb ≠ x := fun e => hxr e.symm
        have hr1 : w1.heap.size ≤ rb := hlow3 rb rfl
        have hqk : (fs.take k ++ (f, ⟨#[]⟩) :: fs.drop k)[k]? = some (f, (⟨#[]⟩ : ByteArray)) := by
          rw [List.getElem?_append_right (by rw [List.length_take]; omega), List.length_take, Nat.min_eq_left hk, Nat.sub_self]
          rfl
        have hll : (fs.take k ++ (f, (⟨#[]⟩ : ByteArray)) :: fs.drop k).length = fs.length + 1 := by simp; omega
        have hres : (fs.take k ++ (f, (⟨#[]⟩ : ByteArray)) :: fs.drop k).set k (f, s) = fs.take k ++ (f, s) :: fs.drop k := by
          rw [List.set_append_right _ _ (by rw [List.length_take]; omega), List.length_take, Nat.min_eq_left hk, Nat.sub_self]
          rfl
        obtain ⟨LL, hLL⟩ : ∃ LL, LL = fs.take k ++ (f, (⟨#[]⟩ : ByteArray)) :: fs.drop k := ⟨_, rfl⟩
        rw [← hLL] at hrow hqk hll hres
        obtain ⟨w7, hw7⟩ : ∃ w7 : World, w7 = w6.setCell ⟨x, 0, none⟩ (.slice (some ⟨rb, 0, none⟩) (fs.length + 1) c3) := ⟨_, rfl⟩
        have hx7 : Has w7 x 41 #[.slice (some ⟨rb, 0, none⟩) (fs.length + 1) c3, .slice B ps.length d, .int .i64 ser, .int .i64 boot] := by
          rw [hw7]
          have := HX6.out.put 0 (.slice (some ⟨rb, 0, none⟩) (fs.length + 1) c3)
          simpa using this
        have hk67 : Kept (fun i => i = x) w6 w7 := by rw [hw7]; exact (Kept.refl _ _).put (.inl rfl)
        have hrow7 := own_kept hrow hk67 fun i hi e => hrx (by injection (show some rb = some i from hi) with hi; rw [hi, e])
        have hb7 : Has w7 w.heap.size 64 #[.int .i64 f, .string s] := HB6.out.kept hk67 (fun e => hwx e)
        rw [← hw7]
        have hwx7 : Kept (fun i => i = x) w w7 := ((hk2.then hk6).mono fun _ x => x.elim).then hk67
        have HROW7 := Lib.hid hrow7; clear hrow7 hrow
        have d0 : w7.cell? ⟨x, 0, none⟩ = some (.slice (some ⟨rb, 0, none⟩) (fs.length + 1) c3) := hx7.cell 0
        have b1 : w7.cell? ⟨w.heap.size, 1, none⟩ = some (.string s) := hb7.cell 1
        have d1 : w7.cell? ⟨rb, k * 2 + 1, none⟩ = some (.string ⟨#[]⟩) := by
          obtain ⟨ad, e, hl1, _, e1⟩ := pc_cells (ps := LL) (Src.of_own HROW7.out) (by omega) k _ hqk
          injection e with e
          subst e
          have ea : ∀ j, ((⟨rb, 0, none⟩ : Addr).add j) = ⟨rb, j, none⟩ := fun j => by unfold Addr.add; split <;> simp_all
          rw [ea] at e1
          exact e1
        have f1 : w7.frozen? ⟨rb, k * 2 + 1, none⟩ = false := by
          obtain ⟨_, hv | ⟨g, cap, cur, hv, _, hgg, _⟩⟩ := HROW7.out
          · cases hv.1
          · injection hv with hv
            injection hv with hv
            injection hv with hv
            subst hv
            exact Has.frozen (show Has w7 rb _ cur from hgg) _
        have hkl : k < fs.length + 1 := by omega
        have hkl1 : (k : Int) < ((fs.length + 1 : Nat) : Int) := by omega
        have hnl : ¬ 9223372036854775807 < (⟨#[]⟩ : ByteArray).size + s.size := by show ¬ 9223372036854775807 < 0 + s.size; omega
        clear hw7
        have HL := Lib.hid (And.intro hLL (And.intro hll hres)); clear hLL hll hres
        have HQK := Lib.hid hqk; clear hqk
        have HPX : Hid ((Value.slice B ps.length d).ownBlock ≠ some x) := Lib.hid fun e => own_ne HP.out HG.out (by decide) (by rw [e])
        have HPR : Hid ((Value.slice B ps.length d).ownBlock ≠ some rb) := Lib.hid fun e => by have := own_lt HP.out e; have := hk2.size; omega
        have HX7 := Lib.hid hx7; clear hx7 hb7 hf6 hc6
        have HW7 := Lib.hid hwx7; clear hwx7 hk67 hk6
        have HN := Lib.hid (And.intro hr1 (And.intro hxr hrx)); clear hr1 hxr hrx hlow3
        clear hn HK3 hrl
        go_region
        all_goals
          go_end0
          obtain ⟨hLL, hll, hres⟩ := HL.out
          obtain ⟨hr1, hxr, hrx⟩ := HN.out
          rw [← hres]
          refine ⟨rfl, fun i => i = x ∨ i = rb ∨ (Value.slice B ps.length d).ownBlock = some i, ⟨some ⟨rb, 0, none⟩, c3, B, d, ?_, ?_, ?_, ?_⟩, ?_, ?_⟩
          · intro i
            exact ⟨fun h => h.imp id (Or.imp (fun h => by rw [h]; rfl) id), fun h => h.imp id (Or.imp (fun h => by injection (show some rb = some i from h) with h; exact h.symm) id)⟩
          · rw [List.length_set, hll]
            ((repeat (first | with_reducible exact HX7.out | with_reducible apply Has.put_of | with_reducible apply Has.past | with_reducible apply Has.drewN | with_reducible apply Has.drew | with_reducible apply Has.alloc)) <;> first | omega | rfl)
          · rw [List.length_set, pcells_set LL k HQK.out, hll]
            first
              | exact own_set HROW7.out
              | exact own_kept (own_set HROW7.out) (F := NoF) (by (repeat' (first | with_reducible exact Kept.refl _ _ | with_reducible refine Kept.put ?_ ?_ | with_reducible refine Kept.drewN ?_ _ | with_reducible refine Kept.drew ?_ | with_reducible refine Kept.alloc ?_ _ | (fail) | (right; simp; done)))) (fun _ _ x => x)
              | exact own_set (own_kept HROW7.out (F := NoF) (by (repeat' (first | with_reducible exact Kept.refl _ _ | with_reducible refine Kept.put ?_ ?_ | with_reducible refine Kept.drewN ?_ _ | with_reducible refine Kept.drew ?_ | with_reducible refine Kept.alloc ?_ _ | (fail) | (right; simp; done)))) (fun _ _ x => x))
          · refine own_kept (own_kept HP.out HW7.out fun i hi e => HPX.out (by rw [hi, e])) (F := fun k => k = rb) (by (repeat' (first | with_reducible exact Kept.refl _ _ | with_reducible refine Kept.put ?_ ?_ | with_reducible refine Kept.drewN ?_ _ | with_reducible refine Kept.drew ?_ | with_reducible refine Kept.alloc ?_ _ | (exact .inl rfl) | (right; simp; done)))) fun i hi e => HPR.out (by rw [hi, e])
          · rintro i (rfl | rfl | hi)
            · exact .inl ((HF.out _).2 (.inl rfl))
            · exact .inr (by have := hk2.size; omega)
            · exact .inl ((HF.out _).2 (.inr (.inr hi)))
          · have hG7 : Kept G w w7 := HW7.out.mono fun i h => by subst h; exact (HF.out _).2 (.inl rfl)
            have hrw : w.heap.size ≤ rb := by have := hk2.size; omega
            (repeat' (first | with_reducible exact Kept.refl _ _ | with_reducible refine Kept.put ?_ ?_ | with_reducible refine Kept.drewN ?_ _ | with_reducible refine Kept.drew ?_ | with_reducible refine Kept.alloc ?_ _ | (first | (with_reducible exact hG7) | exact .inr hrw) | (right; simp; done)))
end Disk
end Go.Proofs.Ytopkeknpdimimaa
