
/- The disk: forget; Crash and Sync. -/
import Derived.Test.YtopkeknpdimimaaDisk3
import Derived.Lib.SliceRun
set_option linter.unusedSimpArgs false
set_option linter.unusedVariables false
namespace Go.Proofs.Ytopkeknpdimimaa
open Go.RowKit
set_option maxRecDepth 100000
namespace Disk
variable {F : Nat → Prop} {w : World} {g n : Nat} {m : Safe} {ps : List Pc} {ser boot : Int}

theorem Has.setCells {b : Nat} {t : TypeId} : ∀ (vs : List Value) (o : Nat) (w : World) (cs : Array Value), Has w b t cs → ∃ cs', Has (w.setCells b o vs) b t cs' ∧ cs'.size = cs.size
  | [], _, _, cs, h => ⟨cs, h, rfl⟩
  | v :: r, o, w, cs, h => by
    obtain ⟨cs', h', e⟩ := Has.setCells r (o + 1) _ _ (h.put o v)
    exact ⟨cs', h', by rw [e]; simp⟩
theorem Kept.setCells {b : Nat} : ∀ (vs : List Value) (o : Nat) (w : World), Kept (fun k => some b = some k) w (w.setCells b o vs)
  | [], _, w => Kept.refl _ _
  | v :: r, o, w => Kept.then (F := fun k => some b = some k) ((Kept.refl _ w).put (g := b) (i := o) (u := v) (.inl rfl)) (Kept.setCells r (o + 1) _)

theorem clear_row {P : Program} {size : Nat} {v : Value} {n : Nat} {xs : List Value} {t e : TypeId} {z : Value} (h : w.ownsRow 0 e size v n xs) (ht : P.underlying t = some (.slice e))
    (hv : ∀ w, (zeroValue e).run P w = .ok z w) (hz : z.cells.size = size) (h0 : 0 < size) (h1 : ∀ u ∈ z.cells, u.oneCell' = true) :
    ∃ w', (∀ ty, (Builtin.clear_ #[t] ty #[v]).run P w = .ok (.tuple #[]) w') ∧ Kept (fun k => v.ownBlock = some k) w w' ∧ ∀ A c, v = .slice A n c → w'.ownsRow 0 e size (.slice A 0 c) 0 [] := by
  rcases h.2 with ⟨rfl, rfl⟩ | ⟨g, cap, cur, rfl, hb, hg, hn, hm, hs, htk⟩
  · refine ⟨w, fun ty => by simp [Builtin.clear_, run_underlying ht], Kept.refl _ _, ?_⟩
    intro A c e
    injection e with e1 e2 e3
    subst e1
    subst e3
    exact ⟨by simp, .inl ⟨rfl, rfl⟩⟩
  · rcases Nat.eq_zero_or_pos n with rfl | hp
    · refine ⟨w, fun ty => by simp [Builtin.clear_, run_underlying ht], Kept.refl _ _, ?_⟩
      intro A c e
      injection e with e1 e2 e3
      subst e1
      subst e3
      exact ⟨by simp, .inr ⟨g, cap, cur, rfl, hb, hg, hn, hm, hs, by simp⟩⟩
    · have hlen : (Builtin.zeroCells z.cells n).toList.length = n * size := by simp [Builtin.zeroCells, hz]
      have hle : n * size ≤ cap * size := Nat.mul_le_mul_right _ hn
      have hH : Has w g e cur := hg
      have hone : ∀ u ∈ (Builtin.zeroCells z.cells n).toList, u.oneCell' = true := by
        intro u hu
        simp only [Builtin.zeroCells, Array.toList_map, List.mem_map] at hu
        obtain ⟨i, _, rfl⟩ := hu
        have hlt : i % z.cells.size < z.cells.size := Nat.mod_lt _ (by omega)
        rw [getElem!_pos z.cells _ hlt]
        exact h1 _ (Array.getElem_mem hlt)
      have hst := run_storeCells_cells (P := P) g 0 (Builtin.zeroCells z.cells n).toList 0 w
        (by intro j hj; rw [hlen] at hj; rw [show 0 + 0 + j = j by omega, hH.cell, Array.getElem?_eq_getElem (by omega)]; rfl)
        (by intro j hj; exact hH.frozen _) hone
      obtain ⟨cs', hcs, hsz⟩ := Has.setCells (Builtin.zeroCells z.cells n).toList 0 w cur hH
      refine ⟨_, fun ty => ?_, Kept.setCells (Builtin.zeroCells z.cells n).toList 0 w, ?_⟩
      · obtain ⟨m, rfl⟩ : ∃ m, n = m + 1 := ⟨n - 1, by omega⟩
        simp only [Nat.add_zero] at hst
        simp [Builtin.clear_, run_underlying ht, hv, hst]
      · intro A c e
        injection e with e1 e2 e3
        subst e1
        subst e3
        exact ⟨by simp, .inr ⟨g, cap, cs', rfl, hb, hcs, Nat.zero_le _, hm, by omega, by simp⟩⟩

set_option maxHeartbeats 1000000 in
theorem forget_any (h : DiskAt w g F n m ps ser boot) :
    Calls Try.prog 31 #[.pointer (some ⟨g, 0, none⟩)] w fun e w' => e = .returned (.tuple #[]) ∧ DiskAt w' g F n m [] ser boot ∧ Kept F w w' := by
  obtain ⟨mb, A, c, hF, hg, hm, ho⟩ := h
  obtain ⟨w1, hcl, hk, hrow⟩ := clear_row ho Try.underlying35 (z := .agg #[.int .i64 0, .string ⟨#[]⟩]) (by intro w; kernel_rfl) rfl (by decide) (by intro u hu; simp [Value.cells] at hu; rcases hu with rfl | rfl <;> rfl)
  have ho1 := hrow A c rfl
  have hnr := own_ne ho hg (by decide)
  have hg1 : Has w1 g 37 #[.map (some mb), .slice A ps.length c, .int .i64 ser, .int .i64 boot] := hg.kept hk hnr
  have hm1 : MapIs w1 mb n m := hm.kept hk (hm.ne_row ho)
  have hne := hm.ne hg
  have c0 : w.cell? ⟨g, 1, none⟩ = some (.slice A ps.length c) := hg.cell 1
  have c1 : w1.cell? ⟨g, 1, none⟩ = some (.slice A ps.length c) := hg1.cell 1
  have f1 := hg1.frozen 1
  have hsl : ∀ W : World, (Instr.slice 35 (.slice A ps.length c) none (some (.int .i64 0)) none).run Try.prog W = .ok (.slice A 0 c) W := by
    intro W
    cases A <;> simp [go_sem, Try.underlying35]
  have hnn : (Value.slice A 0 c).ownBlock = (Value.slice A ps.length c).ownBlock := by cases A <;> rfl
  have HK := Lib.hid hk; clear hk
  have HG := Lib.hid hg1; clear hg1 hg
  have HM := Lib.hid hm1; clear hm1 hm
  have HO := Lib.hid ho1; clear ho1 ho hrow
  have HF := Lib.hid hF; clear hF
  have HNN := Lib.hid hnn; clear hnn
  go_enter Try.func31, Try.ntmps31
  go_wp2
  go_end0
  refine ⟨rfl, ⟨mb, A, c, ?_, ?_, ?_, ?_⟩, ?_⟩
  · intro k
    rw [HF.out k, ← HNN.out]
    exact Iff.rfl
  · ((repeat (first | with_reducible exact HG.out | with_reducible apply Has.put_of | with_reducible apply Has.past | with_reducible apply Has.drewN | with_reducible apply Has.drew | with_reducible apply Has.alloc)) <;> first | omega | rfl)
  · exact HM.out.kept (F := fun k => k = g) (by (repeat' (first | with_reducible exact Kept.refl _ _ | with_reducible refine Kept.put ?_ ?_ | with_reducible refine Kept.drewN ?_ _ | with_reducible refine Kept.drew ?_ | with_reducible refine Kept.alloc ?_ _ | (exact .inl rfl) | (right; simp; done)))) hne
  · exact own_kept HO.out (F := fun k => k = g) (by (repeat' (first | with_reducible exact Kept.refl _ _ | with_reducible refine Kept.put ?_ ?_ | with_reducible refine Kept.drewN ?_ _ | with_reducible refine Kept.drew ?_ | with_reducible refine Kept.alloc ?_ _ | (exact .inl rfl) | (right; simp; done)))) fun k hk e => hnr (HNN.out.symm.trans (hk.trans (by rw [e])))
  · exact (HK.out.mono fun k hk => (HF.out k).2 (.inr (.inr hk))).put (.inl ((HF.out _).2 (.inl rfl)))

/-- What a crash makes safe: pieces one behind the other, till 'left' bytes are laid. -/
def crashM (m : Safe) (left : Nat) : List Pc → Safe
  | [] => m
  | p :: ps => if left < p.2.size then (if left = 0 then m else sput m p.1 (sget m p.1 ++ p.2.extract 0 left)) else crashM (sput m p.1 (sget m p.1 ++ p.2)) (left - p.2.size) ps

theorem sget_sput (m : Safe) (k i : Int) (s : ByteArray) : sget (sput m k s) i = if i = k then s else sget m i := by
  unfold sget sput
  split <;> simp_all
theorem sget_le {m : Safe} {Z : Nat} (h : ∀ k, (sget m k).size ≤ Z) (k : Int) (s : ByteArray) (i : Int) : (sget (sput m k (sget m k ++ s)) i).size ≤ Z + s.size := by
  rw [sget_sput]
  split
  · have := h k
    simp
    omega
  · have := h i
    omega
theorem drop_cons {α : Type} {l : List α} {i : Nat} {p : α} (h : l[i]? = some p) : l.drop i = p :: l.drop (i + 1) := by
  obtain ⟨hi, e⟩ := List.getElem?_eq_some_iff.1 h
  rw [← e]
  exact List.drop_eq_getElem_cons hi

theorem MapIs.mono {b n' : Nat} (h : MapIs w b n m) (hn : n ≤ n') : MapIs w b n' m := by
  obtain ⟨D, ho, hD⟩ := h
  exact ⟨D, ho.mono hn, hD⟩

set_option maxHeartbeats 2000000 in
theorem crash_any (h : DiskAt w g F n m ps ser boot) (hb0 : 0 ≤ boot) (hb1 : boot ≤ 1073741824) (K : Int) (hK : K ≤ 9223372036854775807) (hpi : ∀ p ∈ ps, I64 p.1) (hlen : ps.length ≤ 100000) (hn : n ≤ 1000000)
    (Z : Nat) (hZ : ∀ k, (sget m k).size ≤ Z) (hsz : Z + total ps ≤ 4611686018427387904 ∨ Z + (max K 0).toNat ≤ 4611686018427387904) :
    Calls Try.prog 16 #[.pointer (some ⟨g, 0, none⟩), .int .i64 K] w fun e w' => e = .returned (.tuple #[]) ∧ DiskAt w' g F (n + ps.length) (crashM m (max K 0).toNat ps) [] ser (min (boot + 1) 1073741824) ∧ Kept F w w' := by
  have hn := none_any h
  have HN := Lib.hid hn; clear hn
  obtain ⟨mb, A, c, hF, hg, hm, ho⟩ := h
  have c0 : w.cell? ⟨g, 0, none⟩ = some (.map (some mb)) := hg.cell 0
  have c1 : w.cell? ⟨g, 1, none⟩ = some (.slice A ps.length c) := hg.cell 1
  have HG := Lib.hid hg; clear hg
  have HM := Lib.hid hm; clear hm
  have HO := Lib.hid ho; clear ho
  have HF := Lib.hid hF; clear hF
  have HPI := Lib.hid hpi; clear hpi
  have HZ := Lib.hid hZ; clear hZ
  obtain ⟨L, hL, hLm⟩ : ∃ L : Nat, max K 0 = L ∧ L ≤ 9223372036854775807 := ⟨(max K 0).toNat, by omega, by omega⟩
  rw [hL, Int.toNat_natCast] at hsz ⊢
  have hmx : ∀ (W : World) (ts : Array TypeId) (t : TypeId), (Builtin.max_ ts t #[.int .i64 K, .int .i64 0]).run Try.prog W = .ok (.int .i64 L) W := by
    intro W ts t
    rw [run_max_int2, ← hL]
    split
    · rw [show max K 0 = 0 by omega]
    · rw [show max K 0 = K by omega]
  clear hL
  go_enter Try.func16, Try.ntmps16
  go_wp2_with fail
  refine HN.out.mono ?_
  rintro e w' ⟨rfl, rfl⟩
  go_wp2_with fail
  clear hmx
  go_loopw [4, 6, 7, 17] (fun v4 v6 v7 v17 wr => ∃ (i left : Nat) (mi : Safe), i ≤ ps.length ∧ left ≤ 9223372036854775807 ∧ v17 = .int .i64 i ∧ v4 = .int .i64 left ∧ MapIs wr mb (n + i) mi ∧ crashM m L ps = crashM mi left (ps.drop i) ∧ (∀ k, (sget mi k).size ≤ Z + total (ps.take i) ∧ (sget mi k).size + left ≤ Z + L) ∧ Kept (fun k => k = mb) w wr) (fun _ _ _ v17 _ => ps.length - (intOf v17).toNat)
  case atStart => exact ⟨0, L, m, Nat.zero_le _, hLm, rfl, rfl, HM.out, rfl, fun k => ⟨by simpa [total] using HZ.out k, Nat.add_le_add_right (HZ.out k) L⟩, Kept.refl _ _⟩
  case round =>
    obtain ⟨i, left, mi, hi, hlm, rfl, rfl, hmi, hcr, hzi, hk⟩ := hrel
    have hend : ∀ (W : World) (j : Nat) (mj : Safe), j ≤ ps.length → MapIs W mb (n + j) mj → Kept (fun k => k = mb) wr W → DiskAt W g F (n + ps.length) mj ps ser boot ∧ Kept F w W := by
      intro W j mj hj hmj hkW
      have hkk := hk.then hkW
      refine ⟨⟨mb, A, c, HF.out, HG.out.kept hkk (fun e => HM.out.ne HG.out e.symm), hmj.mono (by omega), own_kept HO.out hkk ?_⟩, hkk.mono fun k e => (HF.out k).2 (.inr (.inl e))⟩
      rintro k hkb rfl
      exact HM.out.ne_row HO.out hkb
    have HEND := Lib.hid hend; clear hend
    have hkg := HG.out.kept hk (fun e => HM.out.ne HG.out e.symm)
    have d0 : wr.cell? ⟨g, 0, none⟩ = some (.map (some mb)) := hkg.cell 0
    have hgl := hkg.lt
    clear hkg
    by_cases hil : i < ps.length
    · obtain ⟨q, hq⟩ : ∃ q, ps[i]? = some q := ⟨_, List.getElem?_eq_getElem hil⟩
      have hkS := (Src.of_own HO.out).kept hk (by rintro ad rfl e; exact HM.out.ne_row HO.out (by rw [Value.ownBlock, e]))
      obtain ⟨ad, rfl, hl1, e0, e1⟩ := pc_cells hkS (by omega) i q hq
      clear hkS
      have ht := total_take ps (i + 1)
      rw [take_snoc hq, total_snoc] at ht
      have HT := Lib.hid (take_snoc hq)
      rw [drop_cons hq] at hcr
      have hq1 : I64 q.1 := HPI.out q (List.mem_of_getElem? hq)
      have hmw : MapIs (World.drew (wr.alloc (.cells #[.int .i64 q.1, .string q.2] 61))) mb (n + i) mi := hmi.kept ((Kept.refl NoF _).alloc _).drew (fun x => x)
      have hlk := (hmw.look hq1).1
      have hsq := (hzi q.1).1
      have hsq' := (hzi q.1).2
      obtain ⟨q1, q2⟩ := q
      rw [crashM] at hcr
      dsimp only at e0 e1 hq1 hmw hlk hsq hsq' ht hcr
      clear hq
      have HCR := Lib.hid hcr; clear hcr
      have HZI := Lib.hid hzi; clear hzi
      have HK := Lib.hid hk; clear hk
      by_cases hlt : left < q2.size
      · by_cases hl0 : left = 0
        · subst hl0
          clear hlk hmw
          go_wp2_with fail
          refine (forget_any (HEND.out (wr.alloc _) i mi hi (hmi.kept ((Kept.refl NoF _).alloc _) (fun x => x)) ((Kept.refl _ _).alloc _)).1).mono ?_
          rintro e w2 ⟨rfl, hd2, hk2⟩
          go_wp2_with fail
          refine (boot_any hd2 hb0 hb1).mono ?_
          rintro e w3 ⟨rfl, hd3, hk3⟩
          go_wp2_with fail
          go_end0
          refine ⟨rfl, ?_, ?_⟩
          · have hz := HCR.out
            simp only [hlt, if_true] at hz
            rw [hz]
            exact hd3
          · exact ((HEND.out (wr.alloc _) i mi hi (hmi.kept ((Kept.refl NoF _).alloc _) (fun x => x)) ((Kept.refl _ _).alloc _)).2.then hk2).then hk3
        · obtain ⟨w2, hst, hm2, hk2⟩ := hmw.store (by unfold maxLen; omega) hq1 (sget mi q1 ++ q2.extract 0 left) (by unfold maxLen; simp; omega)
          have hl0' : ((left : Int) == 0) = false := by simpa using hl0
          have hle : left ≤ q2.size := by omega
          have hnl : ¬ 9223372036854775807 < (sget mi q1).size + left := by omega
          have b1 : w2.cell? ⟨wr.heap.size, 1, none⟩ = some (.string q2) := (((Has.new wr 61 #[.int .i64 q1, .string q2]).drew).kept hk2 (fun e => by have := hmi.lt; omega)).cell 1
          clear hmw
          go_wp2_with fail
          refine wp_region_still_tail 12 (by kernel_rfl) (by kernel_rfl) ?_
          simp only [List.take_succ_cons, List.take_zero, List.drop_succ_cons, List.drop_zero]
          change wpStill _ _ (World.drew (wr.alloc _)) _ _ _
          repeat still_step
          refine wpStill_nil ?_
          change wpList _ _ _ _ _ (World.drew (wr.alloc _))
          go_wp2_with fail
          have hk2' : Kept (fun k => k = mb) wr w2 := ((Kept.refl _ _).alloc _).drew.then hk2
          obtain ⟨hd1, hk1⟩ := HEND.out w2 (i + 1) _ (by omega) hm2 hk2'
          refine (forget_any hd1).mono ?_
          rintro e w4 ⟨rfl, hd2, hk3⟩
          go_wp2_with fail
          refine (boot_any hd2 hb0 hb1).mono ?_
          rintro e w5 ⟨rfl, hd3, hk4⟩
          go_wp2_with fail
          go_end0
          refine ⟨rfl, ?_, (hk1.then hk3).then hk4⟩
          have hz := HCR.out
          simp only [hlt, hl0, if_true, if_false] at hz
          rw [hz]
          exact hd3
      · obtain ⟨w2, hst, hm2, hk2⟩ := hmw.store (by unfold maxLen; omega) hq1 (sget mi q1 ++ q2) (by unfold maxLen; simp; omega)
        have b1 : w2.cell? ⟨wr.heap.size, 1, none⟩ = some (.string q2) := (((Has.new wr 61 #[.int .i64 q1, .string q2]).drew).kept hk2 (fun e => by have := hmi.lt; omega)).cell 1
        clear hmw
        have hnl : ¬ 9223372036854775807 < (sget mi q1).size + q2.size := by omega
        have hmn : ∀ (W : World) (ts : Array TypeId) (t : TypeId), (Builtin.min_ ts t #[.int .i64 left, .int .i64 q2.size]).run Try.prog W = .ok (.int .i64 q2.size) W := by
          intro W ts t
          rw [run_min_int2]
          split
          · rfl
          · rw [show (left : Int) = q2.size by omega]
        go_wp2_with fail
        refine wp_region_still_tail 12 (by kernel_rfl) (by kernel_rfl) ?_
        simp only [List.take_succ_cons, List.take_zero, List.drop_succ_cons, List.drop_zero]
        change wpStill _ _ (World.drew (wr.alloc _)) _ _ _
        repeat still_step
        refine wpStill_nil ?_
        change wpList _ _ _ _ _ (World.drew (wr.alloc _))
        go_wp2_with fail
        have hk2' : Kept (fun k => k = mb) wr w2 := ((Kept.refl _ _).alloc _).drew.then hk2
        have hcr' : crashM m L ps = crashM (sput mi q1 (sget mi q1 ++ q2)) (left - q2.size) (ps.drop (i + 1)) := by
          have hz := HCR.out
          simp only [hlt, if_false] at hz
          exact hz
        have hzi' : ∀ k, (sget (sput mi q1 (sget mi q1 ++ q2)) k).size ≤ Z + total (ps.take (i + 1)) ∧ (sget (sput mi q1 (sget mi q1 ++ q2)) k).size + (left - q2.size) ≤ Z + L := by
          intro k
          rw [HT.out, total_snoc, ← Nat.add_assoc]
          refine ⟨sget_le (fun k => (HZI.out k).1) q1 q2 k, ?_⟩
          rw [sget_sput]
          split
          · simp; omega
          · have := (HZI.out k).2; omega
        go_roundw
        case rel => exact ⟨i + 1, left - q2.size, _, by omega, by omega, by go_num, by go_num, hm2, hcr', hzi', HK.out.then hk2'⟩
        case measure => simp [intOf]; omega
    · obtain rfl : i = ps.length := by omega
      go_wp2_with fail
      obtain ⟨hd1, hk1⟩ := HEND.out wr ps.length _ (Nat.le_refl _) hmi (Kept.refl _ _)
      refine (forget_any hd1).mono ?_
      rintro e w4 ⟨rfl, hd2, hk3⟩
      go_wp2_with fail
      refine (boot_any hd2 hb0 hb1).mono ?_
      rintro e w5 ⟨rfl, hd3, hk4⟩
      go_wp2_with fail
      go_end0
      refine ⟨rfl, ?_, (hk1.then hk3).then hk4⟩
      have hz := hcr
      rw [List.drop_length, crashM] at hz
      rw [hz]
      exact hd3

/-- What Sync makes safe. -/
def syncM (m : Safe) : List Pc → Safe
  | [] => m
  | p :: ps => syncM (sput m p.1 (sget m p.1 ++ p.2)) ps

set_option maxHeartbeats 2000000 in
theorem sync_any (h : DiskAt w g F n m ps ser boot) (hpi : ∀ p ∈ ps, I64 p.1) (hlen : ps.length ≤ 100000) (hn : n ≤ 1000000)
    (Z : Nat) (hZ : ∀ k, (sget m k).size ≤ Z) (hsz : Z + total ps ≤ 4611686018427387904) :
    Calls Try.prog 12 #[.pointer (some ⟨g, 0, none⟩)] w fun e w' => e = .returned (.int .i64 (total ps)) ∧ DiskAt w' g F (n + ps.length) (syncM m ps) [] ser boot ∧ Kept F w w' := by
  have hn := none_any h
  have HN := Lib.hid hn; clear hn
  have hpe : ∀ W, Kept NoF w W → _ := fun W hW => pending_any (h.kept hW (fun _ _ x => x)) hlen (by omega)
  have HPE := Lib.hid hpe; clear hpe
  obtain ⟨mb, A, c, hF, hg, hm, ho⟩ := h
  have c0 : w.cell? ⟨g, 0, none⟩ = some (.map (some mb)) := hg.cell 0
  have c1 : w.cell? ⟨g, 1, none⟩ = some (.slice A ps.length c) := hg.cell 1
  have HG := Lib.hid hg; clear hg
  have HM := Lib.hid hm; clear hm
  have HO := Lib.hid ho; clear ho
  have HF := Lib.hid hF; clear hF
  have HPI := Lib.hid hpi; clear hpi
  have HZ := Lib.hid hZ; clear hZ
  go_enter Try.func12, Try.ntmps12
  go_wp2_with fail
  refine HN.out.mono ?_
  rintro e w' ⟨rfl, rfl⟩
  go_wp2_with fail
  refine (HPE.out _ (Kept.refl _ _)).mono ?_
  rintro e w0 ⟨rfl, hk0⟩
  have c1 : w0.cell? ⟨g, 1, none⟩ = some (.slice A ps.length c) := (HG.out.kept hk0 (fun x => x)).cell 1
  go_wp2_with fail
  go_loopw [5, 15] (fun v5 v15 wr => ∃ (i : Nat) (mi : Safe), i ≤ ps.length ∧ v15 = .int .i64 i ∧ MapIs wr mb (n + i) mi ∧ syncM m ps = syncM mi (ps.drop i) ∧ (∀ k, (sget mi k).size ≤ Z + total (ps.take i)) ∧ Kept (fun k => k = mb) w wr) (fun _ v15 _ => ps.length - (intOf v15).toNat)
  case atStart => exact ⟨0, m, Nat.zero_le _, rfl, HM.out.kept hk0 (fun x => x), rfl, by simpa [total] using HZ.out, hk0.mono fun _ x => x.elim⟩
  case round =>
    obtain ⟨i, mi, hi, rfl, hmi, hcr, hzi, hk⟩ := hrel
    have hend : ∀ (W : World) (j : Nat) (mj : Safe), j ≤ ps.length → MapIs W mb (n + j) mj → Kept (fun k => k = mb) wr W → DiskAt W g F (n + ps.length) mj ps ser boot ∧ Kept F w W := by
      intro W j mj hj hmj hkW
      have hkk := hk.then hkW
      refine ⟨⟨mb, A, c, HF.out, HG.out.kept hkk (fun e => HM.out.ne HG.out e.symm), hmj.mono (by omega), own_kept HO.out hkk ?_⟩, hkk.mono fun k e => (HF.out k).2 (.inr (.inl e))⟩
      rintro k hkb rfl
      exact HM.out.ne_row HO.out hkb
    have HEND := Lib.hid hend; clear hend
    have hkg := HG.out.kept hk (fun e => HM.out.ne HG.out e.symm)
    have d0 : wr.cell? ⟨g, 0, none⟩ = some (.map (some mb)) := hkg.cell 0
    have hgl := hkg.lt
    clear hkg
    by_cases hil : i < ps.length
    · obtain ⟨q, hq⟩ : ∃ q, ps[i]? = some q := ⟨_, List.getElem?_eq_getElem hil⟩
      have hkS := (Src.of_own HO.out).kept hk (by rintro ad rfl e; exact HM.out.ne_row HO.out (by rw [Value.ownBlock, e]))
      obtain ⟨ad, rfl, hl1, e0, e1⟩ := pc_cells hkS (by omega) i q hq
      clear hkS
      have ht := total_take ps (i + 1)
      rw [take_snoc hq, total_snoc] at ht
      have HT := Lib.hid (take_snoc hq)
      rw [drop_cons hq] at hcr
      have hq1 : I64 q.1 := HPI.out q (List.mem_of_getElem? hq)
      have hmw : MapIs (World.drew (wr.alloc (.cells #[.int .i64 q.1, .string q.2] 61))) mb (n + i) mi := hmi.kept ((Kept.refl NoF _).alloc _).drew (fun x => x)
      have hlk := (hmw.look hq1).1
      have hsq := hzi q.1
      obtain ⟨q1, q2⟩ := q
      rw [syncM] at hcr
      dsimp only at e0 e1 hq1 hmw hlk hsq ht hcr
      clear hq
      have HCR := Lib.hid hcr; clear hcr
      have HZI := Lib.hid hzi; clear hzi
      have HK := Lib.hid hk; clear hk
      obtain ⟨w2, hst, hm2, hk2⟩ := hmw.store (by unfold maxLen; omega) hq1 (sget mi q1 ++ q2) (by unfold maxLen; simp; omega)
      have b1 : w2.cell? ⟨wr.heap.size, 1, none⟩ = some (.string q2) := (((Has.new wr 61 #[.int .i64 q1, .string q2]).drew).kept hk2 (fun e => by have := hmi.lt; omega)).cell 1
      clear hmw
      have hnl : ¬ 9223372036854775807 < (sget mi q1).size + q2.size := by omega
      go_wp2_with fail
      refine wp_region_still_tail 10 (by kernel_rfl) (by kernel_rfl) ?_
      simp only [List.take_succ_cons, List.take_zero, List.drop_succ_cons, List.drop_zero]
      change wpStill _ _ (World.drew (wr.alloc _)) _ _ _
      repeat still_step
      refine wpStill_nil ?_
      change wpList _ _ _ _ _ (World.drew (wr.alloc _))
      go_wp2_with fail
      have hk2' : Kept (fun k => k = mb) wr w2 := ((Kept.refl _ _).alloc _).drew.then hk2
      have hzi' : ∀ k, (sget (sput mi q1 (sget mi q1 ++ q2)) k).size ≤ Z + total (ps.take (i + 1)) := by
        intro k
        rw [HT.out, total_snoc, ← Nat.add_assoc]
        exact sget_le HZI.out q1 q2 k
      go_roundw
      case rel => exact ⟨i + 1, _, by omega, by go_num, hm2, HCR.out, hzi', HK.out.then hk2'⟩
      case measure => simp [intOf]; omega
    · obtain rfl : i = ps.length := by omega
      go_wp2_with fail
      obtain ⟨hd1, hk1⟩ := HEND.out wr ps.length _ (Nat.le_refl _) hmi (Kept.refl _ _)
      refine (forget_any hd1).mono ?_
      rintro e w4 ⟨rfl, hd2, hk3⟩
      go_wp2_with fail
      go_ret
      refine ⟨rfl, ?_, hk1.then hk3⟩
      have hz := hcr
      rw [List.drop_length, syncM] at hz
      rw [hz]
      exact hd2
end Disk
end Go.Proofs.Ytopkeknpdimimaa
