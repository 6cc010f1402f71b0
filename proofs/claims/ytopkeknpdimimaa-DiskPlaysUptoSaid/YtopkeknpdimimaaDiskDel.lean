/- The disk: slices.IndexFunc and slices.DeleteFunc at pieces, with Drop's closure. -/
import Derived.Test.YtopkeknpdimimaaDiskRef5
import Derived.ArgAppend
set_option linter.unusedSimpArgs false
set_option linter.unusedVariables false
namespace Go.Proofs.Ytopkeknpdimimaa
open Go.RowKit Go.Maps
set_option maxRecDepth 100000
def layAt (cs : Array Value) : Nat → List Value → Array Value
  | _, [] => cs
  | o, v :: r => layAt (cs.setIfInBounds o v) (o + 1) r
theorem layAt_size : ∀ (vs : List Value) (cs : Array Value) (o : Nat), (layAt cs o vs).size = cs.size
  | [], _, _ => rfl
  | v :: r, cs, o => by rw [layAt, layAt_size r]; simp
theorem layAt_list : ∀ (vs : List Value) (cs : Array Value) (o : Nat), o + vs.length ≤ cs.size → (layAt cs o vs).toList = cs.toList.take o ++ vs ++ cs.toList.drop (o + vs.length)
  | [], cs, o, _ => by simp [layAt]
  | v :: r, cs, o, h => by
    simp only [List.length_cons] at h
    have ho : o < cs.toList.length := by simp; omega
    rw [layAt, layAt_list r _ _ (by simp; omega), Array.toList_setIfInBounds, List.take_set, List.take_add_one, List.getElem?_eq_getElem ho, List.drop_set, if_pos (by omega)]
    simp only [Option.toList_some, List.length_cons, List.append_assoc]
    have e1 : (cs.toList.take o ++ [cs.toList[o]]).set o v = cs.toList.take o ++ [v] := by
      rw [List.set_append_right _ _ (by simp; omega)]
      have : o - (cs.toList.take o).length = 0 := by simp; omega
      rw [this]; rfl
    rw [e1]
    simp only [List.append_assoc, List.singleton_append, List.cons_append, List.nil_append]
    rw [show o + 1 + r.length = o + (r.length + 1) by omega]
theorem Has.layCells {b : Nat} {t : TypeId} : ∀ (vs : List Value) (o : Nat) (w : World) (cs : Array Value), Has w b t cs → Has (w.setCells b o vs) b t (layAt cs o vs)
  | [], _, _, _, h => h
  | v :: r, o, _, _, h => Has.layCells r (o + 1) _ _ (h.put o v)
theorem Kept.layCells {b : Nat} : ∀ (vs : List Value) (o : Nat) (w : World), Kept (fun k => k = b) w (w.setCells b o vs)
  | [], _, w => Kept.refl _ _
  | v :: r, o, w => Kept.then (F := fun k => k = b) ((Kept.refl _ w).put (g := b) (i := o) (u := v) (.inl rfl)) (Kept.layCells r (o + 1) _)
theorem run_clear_part {P : Program} {w : World} {size g off n c : Nat} {cur : Array Value} {t e : TypeId} {z : Value} (h : Has w g e cur) (ht : P.underlying t = some (.slice e))
    (hv : ∀ w, (zeroValue e).run P w = .ok z w) (hz : z.cells.size = size) (h0 : 0 < size) (h1 : ∀ u ∈ z.cells, u.oneCell' = true) (hn : 0 < n) (hsz : off + n * size ≤ cur.size) (ty : TypeId) :
    (Builtin.clear_ #[t] ty #[.slice (some ⟨g, off, none⟩) n c]).run P w = .ok (.tuple #[]) (w.setCells g off (Builtin.zeroCells z.cells n).toList) := by
  have hlen : (Builtin.zeroCells z.cells n).toList.length = n * size := by simp [Builtin.zeroCells, hz]
  have hone : ∀ u ∈ (Builtin.zeroCells z.cells n).toList, u.oneCell' = true := by
    intro u hu
    simp only [Builtin.zeroCells, Array.toList_map, List.mem_map] at hu
    obtain ⟨i, _, rfl⟩ := hu
    have hlt : i % z.cells.size < z.cells.size := Nat.mod_lt _ (by omega)
    rw [getElem!_pos z.cells _ hlt]
    exact h1 _ (Array.getElem_mem hlt)
  have hst := run_storeCells_cells (P := P) g off (Builtin.zeroCells z.cells n).toList 0 w
    (by intro j hj; rw [hlen] at hj; rw [h.cell, Array.getElem?_eq_getElem (by omega)]; rfl)
    (by intro j hj; exact h.frozen _) hone
  obtain ⟨m, rfl⟩ : ∃ m, n = m + 1 := ⟨n - 1, by omega⟩
  simp only [Nat.add_zero] at hst
  simp [Builtin.clear_, run_underlying ht, hv, hst]

namespace Disk
variable {F G : Nat → Prop} {w : World} {g x n : Nat} {m : Safe} {fs ps : List Pc} {ser boot : Int}

abbrev dropF (b : Nat) : Value := .func (.func 35) #[] #[.pointer (some ⟨b, 0, none⟩)]
theorem dropc_any {b : Nat} {f : Int} (hb : Has w b 3 #[.int .i64 f]) (p : Pc) :
    Calls Try.prog 35 #[.agg #[.int .i64 p.1, .string p.2], .pointer (some ⟨b, 0, none⟩)] w fun e w' => e = .returned (.bool (p.1 == f)) ∧ Kept NoF w w' := by
  have c0 : ∀ o, (w.alloc o).cell? ⟨b, 0, none⟩ = some (.int .i64 f) := fun o => (hb.alloc o).cell 0
  go_enter Try.func35, Try.ntmps35
  go_wp2
  go_ret
  exact ⟨rfl, (Kept.refl _ _).alloc _⟩

set_option maxHeartbeats 2000000 in
theorem idxf_any {b : Nat} {f : Int} (hb : Has w b 3 #[.int .i64 f]) (A : Option Addr) (c : Nat) (hs : Src w 2 A ps.length (pcells ps)) (hlen : ps.length ≤ 100000) :
    Calls Try.prog 43 #[.slice A ps.length c, dropF b] w fun e w' => (∃ k : Nat, k ≤ ps.length ∧ e = .returned (.int .i64 (if k = ps.length then -1 else (k : Int))) ∧ without f (ps.take k) = ps.take k ∧ ∀ q, ps[k]? = some q → q.1 = f) ∧ Kept NoF w w' := by
  have HB := Lib.hid hb; clear hb
  have HS := Lib.hid hs; clear hs
  go_enter Try.func43, Try.ntmps43
  go_wp2_with fail
  go_loopw [5, 8] (fun _ v8 wr => ∃ i : Nat, i ≤ ps.length ∧ v8 = .int .i64 i ∧ without f (ps.take i) = ps.take i ∧ Kept NoF w wr) (fun _ v8 _ => ps.length - (intOf v8).toNat)
  case atStart => exact ⟨0, Nat.zero_le _, rfl, by simp [without], Kept.refl _ _⟩
  case round =>
    obtain ⟨i, hi, rfl, hw, hk⟩ := hrel
    have HW := Lib.hid hw; clear hw
    by_cases hil : i < ps.length
    · obtain ⟨q, hq⟩ : ∃ q, ps[i]? = some q := ⟨_, List.getElem?_eq_getElem hil⟩
      obtain ⟨ad, rfl, hl1, e0, e1⟩ := pc_cells (HS.out.kept hk (fun _ _ x => x)) (by omega) i q hq
      have hdc : ∀ W, Kept NoF wr W → _ := fun W hW => dropc_any (HB.out.kept (hk.then hW) (fun x => x)) q
      have HDC := Lib.hid hdc; clear hdc
      have HK := Lib.hid hk; clear hk
      have HT := Lib.hid (without_snoc f hq)
      have HT2 := Lib.hid (take_snoc hq)
      have HQ := Lib.hid hq; clear hq
      go_wp2_with fail
      refine (HDC.out _ (Kept.refl _ _)).mono ?_
      rintro e w2 ⟨rfl, hk2⟩
      have HK2 := Lib.hid hk2; clear hk2
      by_cases hqf : q.1 = f
      · have hb1 : (q.1 == f) = true := by simpa using hqf
        rw [hb1]
        go_wp2_with fail
        go_ret
        exact ⟨⟨i, by omega, by rw [if_neg (by omega)]; rfl, HW.out, fun q' hq' => by rw [HQ.out] at hq'; injection hq' with hq'; rw [← hq', hqf]⟩, HK.out.then HK2.out⟩
      · have hb1 : (q.1 == f) = false := by simpa using hqf
        rw [hb1]
        go_wp2_with fail
        go_roundw
        case rel => exact ⟨i + 1, by omega, by go_num, by rw [HT.out, if_neg hqf, HW.out, HT2.out], HK.out.then HK2.out⟩
        case measure => simp [intOf]; omega
    · obtain rfl : i = ps.length := by omega
      go_wp2
      go_ret
      exact ⟨⟨ps.length, Nat.le_refl _, by simp, HW.out, fun q hq => by simp at hq⟩, hk⟩
theorem pcells_set2 {p : Pc} : ∀ (fs : List Pc) (k : Nat), pcells (fs.set k p) = ((pcells fs).set (k * 2) (.int .i64 p.1)).set (k * 2 + 1) (.string p.2)
  | [], k => by simp [pcells]
  | a :: fs, 0 => rfl
  | a :: fs, k + 1 => by
    have ih := pcells_set2 (p := p) fs k
    have e : (k + 1) * 2 = k * 2 + 1 + 1 := by omega
    show Value.int .i64 a.1 :: Value.string a.2 :: pcells (fs.set k p) = ((Value.int .i64 a.1 :: Value.string a.2 :: pcells fs).set ((k + 1) * 2) _).set ((k + 1) * 2 + 1) _
    rw [e, ih]
    rfl

set_option maxHeartbeats 4000000 in
theorem delf_some {b : Nat} {f : Int} (hb : Has w b 3 #[.int .i64 f]) (c : Nat) (ho : w.ownsRow 0 61 2 (.slice (some ⟨g, 0, none⟩) ps.length c) ps.length (pcells ps)) (hlen : ps.length ≤ 100000) (hgb : b ≠ g) :
    Calls Try.prog 34 #[.slice (some ⟨g, 0, none⟩) ps.length c, dropF b] w fun e w' => ∃ M, e = .returned (.slice (some ⟨g, 0, none⟩) M c) ∧ M = (without f ps).length ∧ w'.ownsRow 0 61 2 (.slice (some ⟨g, 0, none⟩) M c) M (pcells (without f ps)) ∧ Kept (fun k => k = g) w w' := by
  have hix := idxf_any hb (some ⟨g, 0, none⟩) c (Src.of_own ho) hlen
  have HIX := Lib.hid hix; clear hix
  have HB := Lib.hid hb; clear hb
  have hcap := own_cap ho
  have HO := Lib.hid ho; clear ho
  go_enter Try.func34, Try.ntmps34
  go_wp2_with fail
  refine HIX.out.mono ?_
  rintro e w1 ⟨⟨k, hk, rfl, hwk, hqk⟩, hk1⟩
  have HK1 := Lib.hid hk1; clear hk1
  by_cases hkn : k = ps.length
  · rw [if_pos hkn]
    subst hkn
    rw [List.take_length] at hwk
    clear hqk
    have HWK := Lib.hid hwk; clear hwk
    go_wp2_with fail
    go_ret
    refine ⟨_, rfl, by rw [HWK.out], ?_, HK1.out.mono fun _ x => x.elim⟩
    rw [HWK.out]
    exact own_kept HO.out HK1.out (fun _ _ x => x)
  · rw [if_neg hkn]
    have hkl : k < ps.length := by omega
    obtain ⟨q0, hq0⟩ : ∃ q, ps[k]? = some q := ⟨_, List.getElem?_eq_getElem hkl⟩
    have hq0f := hqk q0 hq0
    have hinit : ps.take k = without f (ps.take (k + 1)) := by rw [without_snoc f hq0, if_pos hq0f, List.append_nil, hwk]
    have hkne : ¬ ((k : Int) = -1) := by omega
    have hke : ((k : Int) == -1) = false := by simp
    have HIN := Lib.hid hinit; clear hinit hqk hwk hq0 hq0f hkn
    go_wp2_with fail
    go_loopw [5, 6, 7] (fun v5 v6 _ wr => ∃ (i j : Nat) (l : List Pc), i < j ∧ j ≤ ps.length ∧ v5 = .int .i64 i ∧ v6 = .int .i64 j ∧ l.length = ps.length ∧ l.take i = without f (ps.take j) ∧ l.drop j = ps.drop j ∧ wr.ownsRow 0 61 2 (.slice (some ⟨g, 0, none⟩) ps.length c) ps.length (pcells l) ∧ Kept (fun x => x = g) w wr) (fun _ v6 _ _ => ps.length - (intOf v6).toNat)
    case atStart => exact ⟨k, k + 1, ps, by omega, by omega, rfl, by go_num, rfl, HIN.out, rfl, own_kept HO.out HK1.out (fun _ _ x => x), HK1.out.mono fun _ x => x.elim⟩
    case round =>
      obtain ⟨i, j, l, hij, hj, rfl, rfl, hll, hli, hlj, hol, hkw⟩ := hrel
      by_cases hjl : j < ps.length
      · obtain ⟨q, hq⟩ : ∃ q, ps[j]? = some q := ⟨_, List.getElem?_eq_getElem hjl⟩
        have hlq : l[j]? = some q := by
          have : (l.drop j)[0]? = (ps.drop j)[0]? := by rw [hlj]
          simpa [hq] using this
        obtain ⟨ad, e, hl1, e0, e1⟩ := pc_cells (Src.of_own hol) (by omega) j q hlq
        injection e with e
        subst e
        have ea : ∀ j, ((⟨g, 0, none⟩ : Addr).add j) = ⟨g, j, none⟩ := fun j => by unfold Addr.add; split <;> simp_all
        rw [ea] at e0 e1
        clear ea
        dsimp only at e0 e1
        have hbx := HB.out.kept hkw hgb
        have hdc : ∀ W, Kept NoF wr W → _ := fun W hW => dropc_any (hbx.kept hW (fun x => x)) q
        have HDC := Lib.hid hdc; clear hdc hbx
        have hrow : ∀ W, Kept NoF wr W → ∀ t, t < ps.length * 2 → W.frozen? ⟨g, t, none⟩ = false ∧ (W.cell? ⟨g, t, none⟩).isSome = true := by
          intro W hW t ht
          obtain ⟨_, hv | ⟨g', cap, cur, hv, _, hgg, hn, hm, hs, htk⟩⟩ := own_kept hol hW (fun _ _ x => x)
          · cases hv.1
          · injection hv with hv h2 h3
            injection hv with hv
            injection hv with hv
            subst hv
            subst h3
            have hH : Has W g _ cur := hgg
            exact ⟨hH.frozen _, by rw [hH.cell, Array.getElem?_eq_getElem (by omega)]; rfl⟩
        have HROW := Lib.hid hrow; clear hrow
        have HL := Lib.hid (And.intro hll (And.intro hli (And.intro hlj (And.intro hol hkw)))); clear hll hli hlj hol hkw
        have HT := Lib.hid (without_snoc f hq)
        have HQ := Lib.hid hlq; clear hlq
        clear hq
        go_wp2_with fail
        refine (HDC.out _ ((Kept.refl _ _).alloc _)).mono ?_
        rintro e w2 ⟨rfl, hk2⟩
        have HK2 := Lib.hid hk2; clear hk2
        by_cases hqf : q.1 = f
        · have hb1 : (q.1 == f) = true := by simpa using hqf
          rw [hb1]
          go_wp2_with fail
          obtain ⟨hll, hli, hlj, hol, hkw⟩ := HL.out
          go_roundw
          case rel => exact ⟨i, j + 1, l, by omega, by omega, rfl, by go_num, hll, by rw [HT.out, if_pos hqf, List.append_nil, hli], by rw [← List.drop_drop, ← List.drop_drop, hlj], own_kept hol (((Kept.refl _ _).alloc _).then HK2.out) (fun _ _ x => x), hkw.then ((((Kept.refl _ _).alloc _).then HK2.out).mono fun _ x => x.elim)⟩
          case measure => simp [intOf]; omega
        · have hb1 : (q.1 == f) = false := by simpa using hqf
          rw [hb1]
          have hkn2 : Kept NoF wr w2 := ((Kept.refl _ _).alloc _).then HK2.out
          have hbx2 := (Has.new wr 61 #[.int .i64 q.1, .string q.2]).kept HK2.out (fun x => x)
          have b0 : w2.cell? ⟨wr.heap.size, 0, none⟩ = some (.int .i64 q.1) := hbx2.cell 0
          have b1 : w2.cell? ⟨wr.heap.size, 1, none⟩ = some (.string q.2) := hbx2.cell 1
          have r0 := (HROW.out w2 hkn2 (i * 2) (by omega)).1
          have r1 := (HROW.out w2 hkn2 (i * 2 + 1) (by omega)).1
          obtain ⟨u0, r2⟩ := Option.isSome_iff_exists.1 (HROW.out w2 hkn2 (i * 2) (by omega)).2
          obtain ⟨u1, r3⟩ := Option.isSome_iff_exists.1 (HROW.out w2 hkn2 (i * 2 + 1) (by omega)).2
          have hil : i < ps.length := by omega
          clear hbx2
          go_wp2_with fail
          obtain ⟨hll, hli, hlj, hol, hkw⟩ := HL.out
          have ho2 := own_kept hol hkn2 (fun _ _ x => x)
          have e1 : (l.set i q).take (i + 1) = without f (ps.take (j + 1)) := by
            rw [take_snoc (p := q) (by rw [List.getElem?_set_self (by omega)]), List.take_set, List.set_eq_of_length_le (by rw [List.length_take]; omega), HT.out, if_neg hqf, hli]
          have e2 : (l.set i q).drop (j + 1) = ps.drop (j + 1) := by
            rw [List.drop_set, if_pos (by omega), ← List.drop_drop, ← List.drop_drop, hlj]
          go_roundw
          case rel => exact ⟨i + 1, j + 1, l.set i q, by omega, by omega, by go_num, by go_num, by rw [List.length_set]; exact hll, e1, e2, by rw [pcells_set2]; exact own_set (own_set ho2), ((hkw.then (hkn2.mono fun _ x => x.elim)).put (.inl rfl)).put (.inl rfl)⟩
          case measure => simp [intOf]; omega
      · obtain rfl : j = ps.length := by omega
        rw [List.take_length] at hli
        obtain ⟨cur, hH, hcn, hcm, hcs, hctk⟩ : ∃ cur, Has wr g 61 cur ∧ ps.length ≤ c ∧ c ≤ maxLen ∧ cur.size = c * 2 ∧ cur.toList.take (ps.length * 2) = pcells l := by
          obtain ⟨_, hv | ⟨g', cap, cur, hv, _, hgg, hn, hm, hs, htk⟩⟩ := hol
          · cases hv.1
          · injection hv with hv h2 h3
            injection hv with hv
            injection hv with hv
            subst hv
            subst h3
            exact ⟨cur, hgg, hn, hm, by simpa using hs, by simpa using htk⟩
        have hcl : ∀ ty, (Builtin.clear_ #[35] ty #[.slice (some ⟨g, i * 2, none⟩) (ps.length - i) (c - i)]).run Try.prog wr = .ok (.tuple #[]) (wr.setCells g (i * 2) (Builtin.zeroCells (Value.agg #[.int .i64 0, .string ⟨#[]⟩]).cells (ps.length - i)).toList) :=
          fun ty => run_clear_part (size := 2) hH Try.underlying35 (by intro w; kernel_rfl) rfl (by decide) (by intro u hu; simp [Value.cells] at hu; rcases hu with rfl | rfl <;> rfl) (by omega) (by rw [hcs]; omega) ty
        generalize hzz : (Builtin.zeroCells (Value.agg #[.int .i64 0, .string ⟨#[]⟩]).cells (ps.length - i)).toList = zz at hcl
        have hzl : zz.length = (ps.length - i) * 2 := by rw [← hzz]; simp [Builtin.zeroCells, Value.cells]
        have hH2 := Has.layCells zz (i * 2) _ _ hH
        have hsz2 := layAt_size zz cur (i * 2)
        have hfin : (wr.setCells g (i * 2) zz).ownsRow 0 61 2 (.slice (some ⟨g, 0, none⟩) i c) i (pcells (without f ps)) := by
          refine ⟨by rw [pcells_len, ← hli, List.length_take]; omega, .inr ⟨g, c, _, rfl, Nat.zero_le _, hH2, by omega, hcm, by rw [hsz2, hcs], ?_⟩⟩
          have hl2 : (layAt cur (i * 2) zz).toList = cur.toList.take (i * 2) ++ zz ++ cur.toList.drop (i * 2 + zz.length) := layAt_list _ _ _ (by rw [hzl, hcs]; omega)
          rw [hl2, List.append_assoc, List.take_append_of_le_length (by rw [List.length_take, Array.length_toList, hcs]; omega), List.take_take, Nat.min_self, ← hli, ← pcells_take, ← hctk, List.take_take]
          congr 1
          omega
        have hkf : Kept (fun x => x = g) w (wr.setCells g (i * 2) zz) := hkw.then (Kept.layCells _ _ _)
        have hM : i = (without f ps).length := by rw [← hli, List.length_take]; omega
        have HFIN := Lib.hid (And.intro hM (And.intro hfin hkf)); clear hM hfin hkf
        clear hH2 hsz2 hzl hzz hctk hcs hH hol hkw hli hlj
        generalize wr.setCells g (i * 2) zz = wz at hcl HFIN
        go_wp2_with fail
        go_ret
        exact ⟨i, rfl, HFIN.out.1, HFIN.out.2.1, HFIN.out.2.2⟩
end Disk
end Go.Proofs.Ytopkeknpdimimaa
