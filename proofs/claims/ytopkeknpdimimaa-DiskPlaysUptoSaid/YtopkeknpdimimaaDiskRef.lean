
/- The document's disk: New, Write, find, Data. -/
import Derived.Test.YtopkeknpdimimaaDisk5
set_option linter.unusedSimpArgs false
set_option linter.unusedVariables false
namespace Go.Proofs.Ytopkeknpdimimaa
open Go.RowKit
set_option maxRecDepth 100000
namespace Disk

theorem elemRPc : Elem Try.prog 39 64 2 24 := by
  obtain ⟨i0, hi, hz0, hz1, hz2⟩ := info_parts (show (Try.prog.info? 64).map (fun i => (i.zero, i.size, i.bytes)) = some (some (.agg #[.int .i64 0, .string ⟨#[]⟩]), 2, 24) by kernel_rfl)
  exact ⟨Try.underlying39, ⟨i0, _, hi, hz0, hz1, hz2, rfl⟩, by decide⟩
theorem elemRF : Elem Try.prog 38 71 2 24 := by
  obtain ⟨i0, hi, hz0, hz1, hz2⟩ := info_parts (show (Try.prog.info? 71).map (fun i => (i.zero, i.size, i.bytes)) = some (some (.agg #[.int .i64 0, .string ⟨#[]⟩]), 2, 24) by kernel_rfl)
  exact ⟨Try.underlying38, ⟨i0, _, hi, hz0, hz1, hz2, rfl⟩, by decide⟩

/-- The document's disk behind block x: files, pieces, serial number, boots. -/
def RefD (w : World) (x : Nat) (G : Nat → Prop) (fs ps : List Pc) (ser boot : Int) : Prop :=
  ∃ A c B d, (∀ k, G k ↔ k = x ∨ (Value.slice A fs.length c).ownBlock = some k ∨ (Value.slice B ps.length d).ownBlock = some k) ∧
    Has w x 41 #[.slice A fs.length c, .slice B ps.length d, .int .i64 ser, .int .i64 boot] ∧
    w.ownsRow 0 71 2 (.slice A fs.length c) fs.length (pcells fs) ∧ w.ownsRow 0 64 2 (.slice B ps.length d) ps.length (pcells ps)

variable {G : Nat → Prop} {w : World} {x : Nat} {fs ps : List Pc} {ser boot : Int}

theorem RefD.kept {F : Nat → Prop} {w' : World} (h : RefD w x G fs ps ser boot) (hk : Kept F w w') (hs : Sep G F) : RefD w' x G fs ps ser boot := by
  obtain ⟨A, c, B, d, hF, hg, ho, hp⟩ := h
  exact ⟨A, c, B, d, hF, hg.kept hk (hs _ ((hF _).2 (.inl rfl))), own_kept ho hk fun k e => hs k ((hF k).2 (.inr (.inl e))), own_kept hp hk fun k e => hs k ((hF k).2 (.inr (.inr e)))⟩
theorem RefD.lt (h : RefD w x G fs ps ser boot) : ∀ k, G k → k < w.heap.size := by
  obtain ⟨A, c, B, d, hF, hg, ho, hp⟩ := h
  intro k hk
  rcases (hF k).1 hk with rfl | e | e
  · exact hg.lt
  · exact own_lt ho e
  · exact own_lt hp e
theorem rows_apart {t u : TypeId} {n m b1 b2 s1 s2 : Nat} {v v' : Value} {xs ys : List Value} (h : w.ownsRow b1 t s1 v n xs) (h' : w.ownsRow b2 u s2 v' m ys) (hne : t ≠ u) {k : Nat} (hk : v.ownBlock = some k) : v'.ownBlock ≠ some k := by
  rcases h.2 with ⟨rfl, _⟩ | ⟨g, cap, cur, rfl, _, hh, _⟩
  · simp [Value.ownBlock] at hk
  · obtain rfl : g = k := by simpa [Value.ownBlock] using hk
    exact own_ne h' (show Has w g t cur from hh) (fun e => hne e.symm)

def AfterR (w : World) (x : Nat) (G : Nat → Prop) (v : Value) (fs ps : List Pc) (ser boot : Int) (e : Ending) (w' : World) : Prop :=
  e = .returned v ∧ ∃ G', RefD w' x G' fs ps ser boot ∧ Grows w G G' ∧ Kept G w w'

theorem rnew_any (w : World) : Calls Try.prog 5 #[] w fun e w' => ∃ x G, e = .returned (.pointer (some ⟨x, 0, none⟩)) ∧ RefD w' x G [] [] 1 1 ∧ Kept NoF w w' ∧ (∀ k, G k → w.heap.size ≤ k) := by
  go_enter Try.func5, Try.ntmps5
  go_wp2
  go_ret
  refine ⟨w.heap.size, fun k => k = w.heap.size ∨ (Value.slice none 0 0).ownBlock = some k ∨ (Value.slice none 0 0).ownBlock = some k, rfl, ⟨none, 0, none, 0, fun _ => Iff.rfl, Has.new _ _ _, ⟨rfl, .inl ⟨rfl, rfl⟩⟩, ⟨rfl, .inl ⟨rfl, rfl⟩⟩⟩, (Kept.refl _ _).alloc _, ?_⟩
  rintro k (rfl | h | h)
  · omega
  · cases h
  · cases h

theorem rwrite_bad (h : RefD w x G fs ps ser boot) (f : Int) (s : ByteArray) (hf : f < 1 ∨ 1073741824 < f) :
    Calls Try.prog 11 #[.pointer (some ⟨x, 0, none⟩), .int .i64 f, .string s] w (AfterR w x G (.int .i64 1) fs ps ser boot) := by
  have H := Lib.hid h; clear h
  have hf' : f < 1 ∨ (1 ≤ f ∧ 1073741824 < f) := by omega
  rcases hf' with h1 | ⟨h1, h2⟩
  all_goals
    go_enter Try.func11, Try.ntmps11
    go_wp2_with fail
    go_ret
    exact ⟨rfl, G, H.out, Grows.refl _ _, Kept.refl _ _⟩

set_option maxHeartbeats 2000000 in
theorem rwrite_ok (h : RefD w x G fs ps ser boot) (f : Int) (s : ByteArray) (hf : 1 ≤ f) (hf2 : f ≤ 1073741824) (hlen : ps.length ≤ 100000) :
    Calls Try.prog 11 #[.pointer (some ⟨x, 0, none⟩), .int .i64 f, .string s] w (AfterR w x G (.int .i64 0) fs (ps ++ [(f, s)]) ser boot) := by
  obtain ⟨A, c, B, d, hF, hg, ho, hp⟩ := h
  have c1 : w.cell? ⟨x, 1, none⟩ = some (.slice B ps.length d) := hg.cell 1
  have f1 := hg.frozen 1
  have hgl := hg.lt
  have HG := Lib.hid hg; clear hg
  have HO := Lib.hid ho; clear ho
  have HP := Lib.hid hp; clear hp
  have HF := Lib.hid hF; clear hF
  have hone : ∀ u ∈ ([.int .i64 f, .string s] : List Value), u.oneCell' = true := by
    intro u hu
    simp at hu
    rcases hu with rfl | rfl <;> rfl
  have HONE := Lib.hid hone; clear hone
  have HPC := Lib.hid (pcells_one ps)
  go_enter Try.func11, Try.ntmps11
  have hM1 : 0 + ps.length ≤ maxLen := by unfold maxLen; omega
  have hM2 : (0 + ps.length) * 24 ≤ 140737488355328 := by omega
  have hM3 : ps.length + 1 ≤ maxLen := by unfold maxLen; omega
  have hM4 : (ps.length + 1) * 24 ≤ 140737488355328 := by omega
  have HM1 := Lib.hid hM1; clear hM1
  have HM2 := Lib.hid hM2; clear hM2
  have HM3 := Lib.hid hM3; clear hM3
  have HM4 := Lib.hid hM4; clear hM4
  go_wp2_with (first
    | (at_builtin; refine list_append_src elemRPc (.tmp 14) (.tmp 18) rfl rfl (Value.slice (some ⟨w.heap.size, 0, none⟩) 0 0) rfl (own_empty (Has.new w 64 #[]) rfl) d rfl ((Src.of_own HP.out).kept (F := NoF) ((Kept.refl _ _).alloc _) (fun _ _ x => x)) HPC.out HM1.out HM2.out ?_; intro A1 c1' w1 ho1 hg1 ha1; simp only [Nat.zero_add, List.nil_append] at ho1 ha1; have hk1 : Kept NoF w w1 := ((Kept.refl NoF w).alloc _).grown hg1 (fun k hk => .inr (new_row hk.symm.symm (Nat.le_refl _))); have HO1 := Lib.hid ho1; clear ho1)
    | (at_builtin; refine list_append_src elemRPc (.tmp 19) (.tmp 23) rfl rfl (Value.slice A1 ps.length c1') rfl (own_kept HO1.out (F := NoF) ((Kept.refl _ _).alloc _) (fun _ _ x => x)) 1 rfl (Src.of_has (m := 1) (Has.new w1 64 #[.int .i64 f, .string s]) rfl) HONE.out HM3.out HM4.out ?_; intro A2 c2' w2 ho2 hg2 ha2; have hk2 : Kept NoF w w2 := (hk1.alloc _).grown hg2 (fun k hk => .inr (new_row2 hk ha1 (Nat.le_refl _) (by simp))); have hx2 := HG.out.kept hk2 (fun x => x); have e1 := hx2.cell 1; have e2 := hx2.frozen 1; have HO2 := Lib.hid ho2; clear ho2))
  go_ret
  have hlow : ∀ k, (Value.slice A2 (ps.length + 1) c2').ownBlock = some k → w.heap.size ≤ k := fun k hk => new_row3 hk ha2 ha1 (Nat.le_refl _) (by simp) (by have := hk1.size; simp; omega)
  have hb2 : (pcells ps ++ [.int .i64 f, .string s] : List Value) = pcells (ps ++ [(f, s)]) := by rw [pcells_append]; rfl
  refine ⟨rfl, fun k => k = x ∨ (Value.slice A fs.length c).ownBlock = some k ∨ (Value.slice A2 (ps ++ [(f, s)]).length c2').ownBlock = some k, ⟨A, c, A2, c2', fun _ => Iff.rfl, ?_, ?_, ?_⟩, ?_, ?_⟩
  · have := hx2.put 1 (.slice A2 (ps.length + 1) c2')
    simpa using this
  · have ho := (own_kept HO.out hk2 (fun _ _ x => x))
    exact own_kept ho (F := fun k => k = x) ((Kept.refl _ _).put (.inl rfl)) fun k hk e => own_ne HO.out HG.out (by decide) (by rw [hk, e])
  · rw [← hb2, show (ps ++ [(f, s)]).length = ps.length + 1 by simp]
    exact own_kept HO2.out (F := fun k => k = x) ((Kept.refl _ _).put (.inl rfl)) fun k hk e => by have := hlow k hk; omega
  · rintro k (rfl | hk | hk)
    · exact .inl ((HF.out _).2 (.inl rfl))
    · exact .inl ((HF.out _).2 (.inr (.inl hk)))
    · exact .inr (hlow k (by simpa using hk))
  · exact (hk2.mono fun _ x => x.elim).put (.inl ((HF.out _).2 (.inl rfl)))

/-- A file's place. -/
def cnt (fs : List Pc) (f : Int) : Nat := (fs.takeWhile fun p => decide (p.1 < f)).length
def hit (fs : List Pc) (f : Int) : Bool := match fs[cnt fs f]? with | some p => p.1 == f | none => false
theorem cnt_le (fs : List Pc) (f : Int) : cnt fs f ≤ fs.length := by
  unfold cnt
  exact (List.takeWhile_prefix _).length_le
theorem cnt_eq {fs : List Pc} {f : Int} : ∀ {k : Nat}, k ≤ fs.length → (∀ j p, j < k → fs[j]? = some p → p.1 < f) → (∀ p, fs[k]? = some p → ¬ p.1 < f) → cnt fs f = k := by
  induction fs with
  | nil => intro k hk _ _; simp at hk; subst hk; rfl
  | cons a fs ih =>
    intro k hk h1 h2
    cases k with
    | zero =>
      have := h2 a rfl
      simp [cnt, this]
    | succ k =>
      have h0 : a.1 < f := h1 0 a (by omega) rfl
      have := ih (k := k) (by simp at hk; omega) (fun j p hj hp => h1 (j + 1) p (by omega) (by simpa using hp)) (fun p hp => h2 p (by simpa using hp))
      unfold cnt at *
      simp [h0, this]

set_option maxHeartbeats 2000000 in
theorem find_any (h : RefD w x G fs ps ser boot) (f : Int) (hlen : fs.length ≤ 1000000) :
    Calls Try.prog 40 #[.pointer (some ⟨x, 0, none⟩), .int .i64 f] w fun e w' => e = .returned (.tuple #[.int .i64 (cnt fs f), .bool (hit fs f)]) ∧ Kept NoF w w' := by
  obtain ⟨A, c, B, d, hF, hg, ho, hp⟩ := h
  have c0 : w.cell? ⟨x, 0, none⟩ = some (.slice A fs.length c) := hg.cell 0
  have HS := Lib.hid (Src.of_own ho)
  clear hF hg ho hp
  go_enter Try.func40, Try.ntmps40
  go_wp2_with fail
  go_loop [6] (fun v6 => ∃ k : Nat, k ≤ fs.length ∧ v6 = .int .i64 k ∧ (∀ j p, j < k → fs[j]? = some p → p.1 < f)) (fun v6 => fs.length - (intOf v6).toNat)
  case atStart => exact ⟨0, Nat.zero_le _, rfl, fun j p hj => by omega⟩
  case round =>
    obtain ⟨k, hk, rfl, hall⟩ := hrel
    have HALL := Lib.hid hall; clear hall
    by_cases hkl : k < fs.length
    · obtain ⟨q, hq⟩ : ∃ q, fs[k]? = some q := ⟨_, List.getElem?_eq_getElem hkl⟩
      obtain ⟨ad, rfl, hl1, e0, -⟩ := pc_cells HS.out (by omega) k q hq
      by_cases hqf : q.1 < f
      · have hall' : ∀ j p, j < k + 1 → fs[j]? = some p → p.1 < f := by
          intro j p hj hp
          by_cases e : j = k
          · subst e
            rw [hq] at hp
            injection hp with hp
            rw [← hp]
            exact hqf
          · exact HALL.out j p (by omega) hp
        have HA := Lib.hid hall'; clear hall' hq
        obtain ⟨q1, q2⟩ := q
        dsimp only at e0 hqf
        go_wp2
        go_round
        case rel => exact ⟨k + 1, by omega, by go_num, HA.out⟩
        case measure => simp [intOf]; omega
      · have hc : cnt fs f = k := cnt_eq (Nat.le_of_lt hkl) HALL.out (fun p hp => by rw [hq] at hp; injection hp with hp; rw [← hp]; exact hqf)
        have hh : hit fs f = (q.1 == f) := by unfold hit; rw [hc, hq]
        have HC := Lib.hid hc; clear hc
        have HH := Lib.hid hh; clear hh hq
        obtain ⟨q1, q2⟩ := q
        dsimp only at e0 hqf HH
        go_wp2
        go_quiet (fail)
        go_wp2
        go_ret2
        exact ⟨by rw [HC.out, HH.out]; rfl, Kept.quiet _ _ _⟩
    · obtain rfl : k = fs.length := by omega
      have hc : cnt fs f = fs.length := cnt_eq (Nat.le_refl _) HALL.out (fun p hp => by rw [List.getElem?_eq_none (Nat.le_refl _)] at hp; cases hp)
      have hh : hit fs f = false := by unfold hit; rw [hc, List.getElem?_eq_none (Nat.le_refl _)]
      have HC := Lib.hid hc; clear hc
      have HH := Lib.hid hh; clear hh
      go_wp2
      go_quiet (fail)
      go_wp2
      go_ret2
      exact ⟨by rw [HC.out, HH.out]; rfl, Kept.quiet _ _ _⟩

/-- A file's bytes that are safe. -/
def safeR (fs : List Pc) (f : Int) : ByteArray := if hit fs f = true then ((fs[cnt fs f]?).map Prod.snd).getD ⟨#[]⟩ else ⟨#[]⟩
def dataR (fs ps : List Pc) (f : Int) : ByteArray := ⟨((safeR fs f).data.toList ++ ofFile f ps).toArray⟩

theorem bytes_append (l : List UInt8) (q : ByteArray) : (⟨l.toArray⟩ : ByteArray) ++ q = ⟨(l ++ q.data.toList).toArray⟩ := by
  apply ByteArray.ext
  simp [ByteArray.data_append]
theorem hit_at {fs : List Pc} {f : Int} (h : hit fs f = true) : fs[cnt fs f]? = some (f, safeR fs f) := by
  unfold safeR
  rw [if_pos h]
  unfold hit at h
  split at h
  · rename_i p hp
    rw [hp]
    have : p.1 = f := by simpa using h
    rw [← this]
    rfl
  · cases h

set_option maxHeartbeats 2000000 in
theorem rdata_any (h : RefD w x G fs ps ser boot) (f : Int) (hlen : fs.length ≤ 1000000) (hlp : ps.length ≤ 100000) (hsz : (safeR fs f).size + total ps ≤ 4611686018427387904) :
    Calls Try.prog 27 #[.pointer (some ⟨x, 0, none⟩), .int .i64 f] w fun e w' => e = .returned (.string (dataR fs ps f)) ∧ Kept NoF w w' := by
  have hfi := find_any h f hlen
  have HFI := Lib.hid hfi; clear hfi
  obtain ⟨A, c, B, d, hF, hg, ho, hp⟩ := h
  have HG := Lib.hid hg; clear hg
  have HS := Lib.hid (Src.of_own ho); clear ho
  have HP := Lib.hid (Src.of_own hp); clear hp
  clear hF
  go_enter Try.func27, Try.ntmps27
  go_wp2_with fail
  refine HFI.out.mono ?_
  rintro e w1 ⟨rfl, hk1⟩
  have HK1 := Lib.hid hk1
  have d0 : w1.cell? ⟨x, 0, none⟩ = some (.slice A fs.length c) := (HG.out.kept hk1 (fun x => x)).cell 0
  clear hk1
  by_cases hb : hit fs f = true
  · obtain ⟨S, hS⟩ : ∃ S, safeR fs f = S := ⟨_, rfl⟩
    have hq := hit_at hb
    rw [hS] at hsz hq
    have HSR := Lib.hid hS; clear hS
    have hkl : cnt fs f < fs.length := (List.getElem?_eq_some_iff.1 hq).1
    obtain ⟨ad, rfl, hl1, e0, e1⟩ := pc_cells (HS.out.kept HK1.out (fun _ _ x => x)) (by omega) (cnt fs f) (f, S) hq
    clear hq
    go_wp2_with fail
    clear hb e0 e1 hkl d0
    go_loop [5, 8] (fun v5 v8 => ∃ (i : Nat) (acc : ByteArray), i ≤ ps.length ∧ v8 = .int .i64 i ∧ v5 = .string acc ∧ acc = ⟨(S.data.toList ++ ofFile f (ps.take i)).toArray⟩ ∧ acc.size ≤ S.size + total (ps.take i)) (fun _ v8 => ps.length - (intOf v8).toNat)
    case atStart => exact ⟨0, S, Nat.zero_le _, rfl, rfl, by simp [ofFile], by simp [total]⟩
    case round =>
      obtain ⟨i, acc, hi, rfl, rfl, hacc, has⟩ := hrel
      have HACC := Lib.hid hacc; clear hacc
      have d1 : w1.cell? ⟨x, 1, none⟩ = some (.slice B ps.length d) := (HG.out.kept HK1.out (fun x => x)).cell 1
      by_cases hil : i < ps.length
      · obtain ⟨q, hq⟩ : ∃ q, ps[i]? = some q := ⟨_, List.getElem?_eq_getElem hil⟩
        have hkP := HP.out.kept HK1.out (fun _ _ x => x)
        obtain ⟨bd, rfl, hl2, b0, b1⟩ := pc_cells hkP (by omega) i q hq
        clear hkP
        have ht := total_take ps (i + 1)
        have htt : total (ps.take (i + 1)) = total (ps.take i) + q.2.size := by rw [take_snoc hq, total_snoc]
        have HT := Lib.hid (take_snoc hq)
        obtain ⟨q1, q2⟩ := q
        dsimp only at b0 b1 ht htt
        rw [htt] at ht
        have HTT := Lib.hid htt; clear htt
        clear hq
        by_cases hqf : q1 = f
        · subst hqf
          have hnl : ¬ 9223372036854775807 < acc.size + q2.size := by omega
          have hacc' : acc ++ q2 = ⟨(S.data.toList ++ ofFile q1 (ps.take (i + 1))).toArray⟩ := by
            rw [HACC.out, HT.out, ofFile_snoc, if_pos rfl, bytes_append, List.append_assoc]
          have HA := Lib.hid hacc'; clear hacc'
          go_wp2
          go_round
          case rel => exact ⟨i + 1, acc ++ q2, by omega, by go_num, rfl, HA.out, by rw [HTT.out]; simp; omega⟩
          case measure => simp [intOf]; omega
        · have hne : (q1 == f) = false := by simpa using hqf
          have hacc' : acc = ⟨(S.data.toList ++ ofFile f (ps.take (i + 1))).toArray⟩ := by
            rw [HACC.out, HT.out, ofFile_snoc, if_neg hqf, List.append_nil]
          have HA := Lib.hid hacc'; clear hacc'
          go_wp2
          go_round
          case rel => exact ⟨i + 1, acc, by omega, by go_num, rfl, HA.out, by rw [HTT.out]; omega⟩
          case measure => simp [intOf]; omega
      · obtain rfl : i = ps.length := by omega
        go_wp2
        go_ret
        refine ⟨?_, HK1.out⟩
        unfold dataR
        rw [HSR.out]
        show Ending.returned (Value.string acc) = _
        rw [HACC.out, List.take_length]
  · obtain ⟨S, hS⟩ : ∃ S, safeR fs f = S := ⟨_, rfl⟩
    rw [hS] at hsz
    have hS0 : S = ⟨#[]⟩ := by rw [← hS]; unfold safeR; rw [if_neg hb]
    have hb' : hit fs f = false := by simpa using hb
    clear hb
    have HSR := Lib.hid hS; clear hS
    subst hS0
    go_wp2_with fail
    clear hb' d0
    go_loop [5, 8] (fun v5 v8 => ∃ (i : Nat) (acc : ByteArray), i ≤ ps.length ∧ v8 = .int .i64 i ∧ v5 = .string acc ∧ acc = ⟨((⟨#[]⟩ : ByteArray).data.toList ++ ofFile f (ps.take i)).toArray⟩ ∧ acc.size ≤ (⟨#[]⟩ : ByteArray).size + total (ps.take i)) (fun _ v8 => ps.length - (intOf v8).toNat)
    case atStart => exact ⟨0, _, Nat.zero_le _, rfl, rfl, by simp [ofFile], by simp [total]⟩
    case round =>
      obtain ⟨i, acc, hi, rfl, rfl, hacc, has⟩ := hrel
      have HACC := Lib.hid hacc; clear hacc
      have d1 : w1.cell? ⟨x, 1, none⟩ = some (.slice B ps.length d) := (HG.out.kept HK1.out (fun x => x)).cell 1
      by_cases hil : i < ps.length
      · obtain ⟨q, hq⟩ : ∃ q, ps[i]? = some q := ⟨_, List.getElem?_eq_getElem hil⟩
        have hkP := HP.out.kept HK1.out (fun _ _ x => x)
        obtain ⟨bd, rfl, hl2, b0, b1⟩ := pc_cells hkP (by omega) i q hq
        clear hkP
        have ht := total_take ps (i + 1)
        have htt : total (ps.take (i + 1)) = total (ps.take i) + q.2.size := by rw [take_snoc hq, total_snoc]
        have HT := Lib.hid (take_snoc hq)
        obtain ⟨q1, q2⟩ := q
        dsimp only at b0 b1 ht htt
        rw [htt] at ht
        have HTT := Lib.hid htt; clear htt
        clear hq
        by_cases hqf : q1 = f
        · subst hqf
          have hnl : ¬ 9223372036854775807 < acc.size + q2.size := by omega
          have hacc' : acc ++ q2 = ⟨((⟨#[]⟩ : ByteArray).data.toList ++ ofFile q1 (ps.take (i + 1))).toArray⟩ := by
            rw [HACC.out, HT.out, ofFile_snoc, if_pos rfl, bytes_append, List.append_assoc]
          have HA := Lib.hid hacc'; clear hacc'
          go_wp2
          go_round
          case rel => exact ⟨i + 1, acc ++ q2, by omega, by go_num, rfl, HA.out, by rw [HTT.out]; simp; omega⟩
          case measure => simp [intOf]; omega
        · have hne : (q1 == f) = false := by simpa using hqf
          have hacc' : acc = ⟨((⟨#[]⟩ : ByteArray).data.toList ++ ofFile f (ps.take (i + 1))).toArray⟩ := by
            rw [HACC.out, HT.out, ofFile_snoc, if_neg hqf, List.append_nil]
          have HA := Lib.hid hacc'; clear hacc'
          go_wp2
          go_round
          case rel => exact ⟨i + 1, acc, by omega, by go_num, rfl, HA.out, by rw [HTT.out]; omega⟩
          case measure => simp [intOf]; omega
      · obtain rfl : i = ps.length := by omega
        go_wp2
        go_ret
        refine ⟨?_, HK1.out⟩
        unfold dataR
        rw [HSR.out]
        show Ending.returned (Value.string acc) = _
        rw [HACC.out, List.take_length]
end Disk
end Go.Proofs.Ytopkeknpdimimaa
