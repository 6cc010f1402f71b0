
/- The document's functions on configurations: Check, Same, Place, at, Head; SameInts. -/
import Derived.Test.YtolipnnjeehnfaaConf1
set_option linter.unusedSimpArgs false
set_option linter.unusedVariables false
namespace Go.Proofs.Ytolipnnjeehnfaa
open Go.RowKit
set_option maxRecDepth 100000
namespace Plan
theorem chkFrom_step {l : List Mem} {i : Nat} {m : Mem} (h : l[i]? = some m) (h0 : oneE m (l.take i) = 0) : chkFrom (l.take i) (l.drop i) = chkFrom (l.take (i + 1)) (l.drop (i + 1)) := by
  rw [drop_cons h, take_snoc h]
  conv => lhs; unfold chkFrom
  rw [if_pos h0]
theorem chkFrom_stop {l : List Mem} {i : Nat} {m : Mem} (h : l[i]? = some m) (h0 : oneE m (l.take i) ≠ 0) : chkFrom (l.take i) (l.drop i) = oneE m (l.take i) := by
  rw [drop_cons h]
  unfold chkFrom
  rw [if_neg h0]

set_option maxHeartbeats 2000000 in
theorem rcheck_any (w : World) (ep fl : Int) (A : Option Addr) (c : Nat) (l : List Mem) (hl : Src w 2 A l.length (mcells l)) (hlen : l.length ≤ 1000000) :
    Calls Try.prog 60 #[cagg ep A l.length c fl] w fun e w' => e = .returned (.int .i64 (chk ep l)) ∧ Kept NoF w w' := by
  have HL := Lib.hid hl; clear hl
  by_cases h1 : ep < 1
  · have hr : chk ep l = 5 := by unfold chk; rw [if_pos (.inl h1)]
    have HR := Lib.hid hr; clear hr
    go_enter Try.func60, Try.ntmps60
    go_wp2
    go_ret
    exact ⟨by rw [HR.out]; rfl, (Kept.refl _ _).alloc _⟩
  by_cases h2 : 1073741824 < ep
  · have hr : chk ep l = 5 := by unfold chk; rw [if_pos (.inr h2)]
    have HR := Lib.hid hr; clear hr
    go_enter Try.func60, Try.ntmps60
    go_wp2
    go_ret
    exact ⟨by rw [HR.out]; rfl, (Kept.refl _ _).alloc _⟩
  by_cases h3 : l.length = 0
  · have hr : chk ep l = 7 := by unfold chk; rw [if_neg (by omega), if_pos h3]
    have HR := Lib.hid hr; clear hr
    rw [h3]
    clear h3
    go_enter Try.func60, Try.ntmps60
    go_wp2
    go_ret
    exact ⟨by rw [HR.out]; rfl, (Kept.refl _ _).alloc _⟩
  have h3' : ((l.length : Int) == 0) = false := by rw [beq_eq_false_iff_ne]; omega
  by_cases h4 : 4 < l.length
  · have hr : chk ep l = 6 := by unfold chk; rw [if_neg (by omega), if_neg h3, if_pos h4]
    have HR := Lib.hid hr; clear hr
    have h4' : (4 : Int) < l.length := by omega
    clear h3
    go_enter Try.func60, Try.ntmps60
    go_wp2
    go_ret
    exact ⟨by rw [HR.out]; rfl, (Kept.refl _ _).alloc _⟩
  have hr : chk ep l = chkFrom (l.take 0) (l.drop 0) := by unfold chk; rw [if_neg (by omega), if_neg h3, if_neg h4]; rfl
  have HR := Lib.hid hr; clear hr
  have h4' : ¬ (4 : Int) < l.length := by omega
  have hnew := Has.new w 31 #[.int .i64 ep, .slice A l.length c, .int .u64 fl]
  have HN := Lib.hid hnew; clear hnew
  clear h3 h4
  go_enter Try.func60, Try.ntmps60
  go_wp2_with fail
  go_loopw [3] (fun v3 wr => ∃ i : Nat, i ≤ l.length ∧ v3 = .int .i64 i ∧ Has wr w.heap.size 31 #[.int .i64 ep, .slice A l.length c, .int .u64 fl] ∧ Kept NoF w wr ∧ chk ep l = chkFrom (l.take i) (l.drop i)) (fun v3 _ => l.length - (intOf v3).toNat)
  case atStart => exact ⟨0, Nat.zero_le _, rfl, HN.out, (Kept.refl _ _).alloc _, HR.out⟩
  case round =>
    obtain ⟨i, hi, rfl, hh, hk, he⟩ := hrel
    have hlt0 := hh.lt
    have hsz := hk.size
    have e0 : wr.cell? ⟨w.heap.size, 1, none⟩ = some (.slice A l.length c) := hh.cell 1
    have HH := Lib.hid hh; clear hh
    have HK := Lib.hid hk; clear hk
    have HE := Lib.hid he; clear he
    by_cases hil : i < l.length
    · obtain ⟨m, hm⟩ : ∃ m, l[i]? = some m := ⟨_, List.getElem?_eq_getElem hil⟩
      obtain ⟨ad, hA, had, d0, d1⟩ := mem_cells (HL.out.kept HK.out (fun _ _ x => x)) (by omega) i m hm
      subst hA
      have HM := Lib.hid hm; clear hm
      have hone : oneE m (l.take i) = if m.1 < 0 ∨ 4 ≤ m.1 then 1 else if m.2 < 1 ∨ 1073741824 < m.2 then 5 else if anyId (l.take i) m.1 then 18 else 0 := rfl
      have HO := Lib.hid hone; clear hone
      obtain ⟨m1, m2⟩ := m
      dsimp only at d0 d1 HO
      by_cases g1 : m1 < 0
      · have hr : chk ep l = 1 := by
          have h1 := HO.out
          rw [if_pos (.inl g1)] at h1
          rw [HE.out, chkFrom_stop HM.out (by rw [h1]; decide), h1]
        have HR := Lib.hid hr; clear hr
        go_wp2
        go_ret
        exact ⟨by rw [HR.out]; rfl, HK.out.alloc _⟩
      by_cases g2 : 4 ≤ m1
      · have hr : chk ep l = 1 := by
          have h1 := HO.out
          rw [if_pos (.inr g2)] at h1
          rw [HE.out, chkFrom_stop HM.out (by rw [h1]; decide), h1]
        have HR := Lib.hid hr; clear hr
        go_wp2
        go_ret
        exact ⟨by rw [HR.out]; rfl, HK.out.alloc _⟩
      by_cases g3 : m2 < 1
      · have hr : chk ep l = 5 := by
          have h1 := HO.out
          rw [if_neg (by omega), if_pos (.inl g3)] at h1
          rw [HE.out, chkFrom_stop HM.out (by rw [h1]; decide), h1]
        have HR := Lib.hid hr; clear hr
        go_wp2
        go_ret
        exact ⟨by rw [HR.out]; rfl, HK.out.alloc _⟩
      by_cases g4 : 1073741824 < m2
      · have hr : chk ep l = 5 := by
          have h1 := HO.out
          rw [if_neg (by omega), if_pos (.inr g4)] at h1
          rw [HE.out, chkFrom_stop HM.out (by rw [h1]; decide), h1]
        have HR := Lib.hid hr; clear hr
        go_wp2
        go_ret
        exact ⟨by rw [HR.out]; rfl, HK.out.alloc _⟩
      have h1 := HO.out
      rw [if_neg (by omega), if_neg (by omega)] at h1
      clear HO
      have HO := Lib.hid h1; clear h1
      obtain ⟨wo, hwo⟩ : ∃ wo : World, wo = wr := ⟨_, rfl⟩
      subst hwo
      have hnew2 := Has.new wo 86 #[.int .i64 m1, .int .i64 m2]
      have HN2 := Lib.hid hnew2; clear hnew2
      go_wp2_with fail
      go_loopw [5] (fun v5 wi => ∃ k : Nat, k ≤ i ∧ v5 = .int .i64 k ∧ Has wi w.heap.size 31 #[.int .i64 ep, .slice (some ad) l.length c, .int .u64 fl] ∧ Has wi wo.heap.size 86 #[.int .i64 m1, .int .i64 m2] ∧ Kept NoF w wi ∧ anyId (l.take i) m1 = anyId ((l.take i).drop k) m1) (fun v5 _ => i - (intOf v5).toNat)
      case atStart => exact ⟨0, Nat.zero_le _, rfl, HH.out.alloc _, HN2.out, HK.out.alloc _, rfl⟩
      case round =>
        obtain ⟨k, hki, rfl, hh, hh2, hk, he2⟩ := hrel
        have e0 : wr.cell? ⟨w.heap.size, 1, none⟩ = some (.slice (some ad) l.length c) := hh.cell 1
        have e1 : wr.cell? ⟨wo.heap.size, 0, none⟩ = some (.int .i64 m1) := hh2.cell 0
        have HH' := Lib.hid hh; clear hh
        have HH2 := Lib.hid hh2; clear hh2
        have HK' := Lib.hid hk; clear hk
        have HE2 := Lib.hid he2; clear he2
        by_cases hkl : k < i
        · obtain ⟨q, hq⟩ : ∃ q, l[k]? = some q := ⟨_, List.getElem?_eq_getElem (by omega)⟩
          obtain ⟨ad', hA, had', f0, f1⟩ := mem_cells (HL.out.kept HK'.out (fun _ _ x => x)) (by omega) k q hq
          injection hA with hA
          subst hA
          have hd : anyId ((l.take i).drop k) m1 = (decide (q.1 = m1) || anyId ((l.take i).drop (k + 1)) m1) := by
            have : (l.take i)[k]? = some q := by rw [List.getElem?_take, if_pos hkl]; exact hq
            unfold anyId; rw [drop_cons this, List.any_cons]
          have HD := Lib.hid hd; clear hd hq
          obtain ⟨q1, q2⟩ := q
          dsimp only at f0 f1 HD
          by_cases hqm : q1 = m1
          · subst hqm
            have hr : chk ep l = 18 := by
              have h1 := HO.out
              rw [HE2.out, HD.out, if_pos (by simp)] at h1
              rw [HE.out, chkFrom_stop HM.out (by rw [h1]; decide), h1]
            have HR := Lib.hid hr; clear hr
            go_wp2_with fail
            go_quiet (fail)
            go_wp2
            go_ret
            exact ⟨by rw [HR.out]; rfl, HK'.out.drewN _⟩
          · have hne : (q1 == m1) = false := by simpa using hqm
            go_wp2_with fail
            go_quiet (fail)
            go_wp2
            go_roundw
            case rel => exact ⟨k + 1, by omega, by go_num, HH'.out.drewN _, HH2.out.drewN _, HK'.out.drewN _, by rw [HE2.out, HD.out]; simp [hqm]⟩
            case measure => simp [intOf]; omega
        · obtain rfl : k = i := by omega
          have hz : anyId (l.take k) m1 = false := by
            rw [HE2.out, List.drop_of_length_le (by simp; omega)]; rfl
          have hs : chk ep l = chkFrom (l.take (k + 1)) (l.drop (k + 1)) := by
            have h1 := HO.out
            rw [hz, if_neg (by simp)] at h1
            rw [HE.out, chkFrom_step HM.out h1]
          have HS := Lib.hid hs; clear hs hz
          go_wp2
          go_roundw
          case rel => exact ⟨k + 1, by omega, by go_num, HH'.out, HK'.out, HS.out⟩
          case measure => simp [intOf]; omega
    · obtain rfl : i = l.length := by omega
      have hr : chk ep l = 0 := by rw [HE.out, List.drop_length]; rfl
      have HR := Lib.hid hr; clear hr
      go_wp2
      go_ret
      exact ⟨by rw [HR.out]; rfl, HK.out⟩

def eqL (a b : List Mem) : Bool := decide (a = b)
theorem eqL_len {a b : List Mem} (h : a.length ≠ b.length) : eqL a b = false := by unfold eqL; rw [decide_eq_false]; rintro rfl; exact h rfl
theorem eqL_step {a b : List Mem} {i : Nat} {x y : Mem} (ha : a[i]? = some x) (hb : b[i]? = some y) : eqL (a.drop i) (b.drop i) = (decide (x = y) && eqL (a.drop (i + 1)) (b.drop (i + 1))) := by
  unfold eqL
  rw [drop_cons ha, drop_cons hb]
  by_cases h : x = y
  · subst h; simp
  · simp [h]

set_option maxHeartbeats 2000000 in
theorem rsame_any (w : World) (ep fl ep' fl' : Int) (A B : Option Addr) (c d : Nat) (l l' : List Mem) (hl : Src w 2 A l.length (mcells l)) (hl' : Src w 2 B l'.length (mcells l')) (hlen : l.length ≤ 1000000) (hlen' : l'.length ≤ 1000000) :
    Calls Try.prog 39 #[cagg ep A l.length c fl, cagg ep' B l'.length d fl'] w fun e w' => e = .returned (.bool (ep == ep' && (fl == fl' && eqL l l'))) ∧ Kept NoF w w' := by
  have HL := Lib.hid hl; clear hl
  have HL' := Lib.hid hl'; clear hl'
  by_cases h1 : ep = ep'
  rotate_left
  · have b1 : (ep == ep') = false := by simpa using h1
    have b2 : (ep != ep') = true := by simpa using h1
    have hr : (ep == ep' && (fl == fl' && eqL l l')) = false := by rw [b1]; rfl
    rw [hr]
    clear hr h1
    go_enter Try.func39, Try.ntmps39
    go_wp2
    go_ret
    exact ⟨rfl, ((Kept.refl _ _).alloc _).alloc _⟩
  subst h1
  by_cases h2 : fl = fl'
  rotate_left
  · have b1 : (fl == fl') = false := by simpa using h2
    have b2 : (fl != fl') = true := by simpa using h2
    have hr : (ep == ep && (fl == fl' && eqL l l')) = false := by rw [b1]; simp
    rw [hr]
    clear hr h2
    go_enter Try.func39, Try.ntmps39
    go_wp2
    go_ret
    exact ⟨rfl, ((Kept.refl _ _).alloc _).alloc _⟩
  subst h2
  have hr0 : (ep == ep && (fl == fl && eqL l l')) = eqL l l' := by simp
  rw [hr0]
  clear hr0
  by_cases h3 : l.length = l'.length
  rotate_left
  · have b1 : ((l.length : Int) == (l'.length : Int)) = false := by rw [beq_eq_false_iff_ne]; omega
    have b2 : ((l.length : Int) != (l'.length : Int)) = true := by rw [bne_iff_ne]; omega
    rw [eqL_len h3]
    clear h3
    go_enter Try.func39, Try.ntmps39
    go_wp2
    go_ret
    exact ⟨rfl, ((Kept.refl _ _).alloc _).alloc _⟩
  have hn1 := (Has.new w 31 #[.int .i64 ep, .slice A l.length c, .int .u64 fl]).alloc (.cells #[.int .i64 ep, .slice B l'.length d, .int .u64 fl] 31)
  have hn2 := Has.new (w.alloc (.cells #[.int .i64 ep, .slice A l.length c, .int .u64 fl] 31)) 31 #[.int .i64 ep, .slice B l'.length d, .int .u64 fl]
  rw [size_alloc] at hn2
  rw [← h3] at hn1 hn2 HL' ⊢
  have HN1 := Lib.hid hn1; clear hn1
  have HN2 := Lib.hid hn2; clear hn2
  have H3 := Lib.hid h3; clear h3
  go_enter Try.func39, Try.ntmps39
  go_wp2_with fail
  go_loopw [5] (fun v5 wr => ∃ i : Nat, i ≤ l.length ∧ v5 = .int .i64 i ∧ Has wr w.heap.size 31 #[.int .i64 ep, .slice A l.length c, .int .u64 fl] ∧ Has wr (w.heap.size + 1) 31 #[.int .i64 ep, .slice B l.length d, .int .u64 fl] ∧ Kept NoF w wr ∧ eqL l l' = eqL (l.drop i) (l'.drop i)) (fun v5 _ => l.length - (intOf v5).toNat)
  case atStart => exact ⟨0, Nat.zero_le _, rfl, HN1.out, HN2.out, ((Kept.refl _ _).alloc _).alloc _, rfl⟩
  case round =>
    obtain ⟨i, hi, rfl, hh, hh2, hk, he⟩ := hrel
    have e0 : wr.cell? ⟨w.heap.size, 1, none⟩ = some (.slice A l.length c) := hh.cell 1
    have e1 : wr.cell? ⟨w.heap.size + 1, 1, none⟩ = some (.slice B l.length d) := hh2.cell 1
    have HH := Lib.hid hh; clear hh
    have HH2 := Lib.hid hh2; clear hh2
    have HK := Lib.hid hk; clear hk
    have HE := Lib.hid he; clear he
    by_cases hil : i < l.length
    · obtain ⟨m, hm⟩ : ∃ m, l[i]? = some m := ⟨_, List.getElem?_eq_getElem hil⟩
      obtain ⟨q, hq⟩ : ∃ q, l'[i]? = some q := ⟨_, List.getElem?_eq_getElem (by have := H3.out; omega)⟩
      obtain ⟨ad, hA, had, d0, d1⟩ := mem_cells (HL.out.kept HK.out (fun _ _ x => x)) (by omega) i m hm
      obtain ⟨bd, hB, hbd, f0, f1⟩ := mem_cells (HL'.out.kept HK.out (fun _ _ x => x)) (by omega) i q hq
      subst hA
      subst hB
      have hs := eqL_step hm hq
      have hneq := run_neq_mem m q
      obtain ⟨b, hb⟩ : ∃ b : Bool, b = decide (m = q) := ⟨_, rfl⟩
      have hb' : decide (m ≠ q) = !b := by rw [hb]; simp
      rw [hb'] at hneq
      rw [← hb] at hs
      have HS := Lib.hid hs; clear hs hm hq hb hb'
      obtain ⟨m1, m2⟩ := m
      obtain ⟨q1, q2⟩ := q
      unfold magg at hneq
      dsimp only at d0 d1 f0 f1 hneq
      cases b
      · go_wp2_with fail
        go_quiet (fail)
        go_wp2
        go_ret
        exact ⟨by rw [HE.out, HS.out]; rfl, HK.out.drewN _⟩
      · go_wp2_with fail
        go_quiet (fail)
        go_wp2
        go_roundw
        case rel => exact ⟨i + 1, by omega, by go_num, HH.out.drewN _, HH2.out.drewN _, HK.out.drewN _, by rw [HE.out, HS.out]; rfl⟩
        case measure => simp [intOf]; omega
    · obtain rfl : i = l.length := by omega
      have hr : eqL l l' = true := by rw [HE.out, List.drop_length, H3.out, List.drop_length]; rfl
      have HR := Lib.hid hr; clear hr
      go_wp2
      go_ret
      exact ⟨by rw [HR.out]; rfl, HK.out⟩

def placeOf (l : List Mem) (m : Mem) : Int := if m ∈ l then (l.idxOf m : Int) else -1
theorem placeOf_nonneg {l : List Mem} {m : Mem} : (0 ≤ placeOf l m) ↔ m ∈ l := by
  unfold placeOf; split <;> simp_all <;> omega

set_option maxHeartbeats 1000000 in
theorem rhead_any (w : World) (ep fl : Int) (A : Option Addr) (c : Nat) (l : List Mem) (m : Mem) (r : List Mem) (he : l = m :: r) (hl : Src w 2 A l.length (mcells l)) (hlen : l.length ≤ 1000000) :
    Calls Try.prog 15 #[cagg ep A l.length c fl] w fun e w' => e = .returned (.int .i64 m.1) ∧ Kept NoF w w' := by
  have hpos : 0 < l.length := by rw [he]; simp
  have h0 : l[0]? = some m := by rw [he]; rfl
  obtain ⟨ad, hA, had, d0, d1⟩ := mem_cells hl hpos 0 m h0
  subst hA
  clear hl h0 he
  have at_any : ∀ W, Kept NoF w W → Calls Try.prog 31 #[cagg ep (some ad) l.length c fl, .int .i64 0] W fun e w' => e = .returned (.int .i64 m.1) ∧ Kept NoF W w' := by
    intro W hW
    have d0' : ∀ o, (W.alloc o).cell? (ad.add (0 * 2)) = some (.int .i64 m.1) := by
      intro o
      rw [World.cell?_of_block (w := w) (by rw [block_add]; exact (hW.alloc o).block _ (by simpa [block_add] using had) (fun x => x))]; exact d0
    have hadw : (ad.add (0 * 2)) = ad := by unfold Addr.add; rw [if_pos (by omega)]
    rw [hadw] at d0'
    have hadd : ad.add 0 = ad := by unfold Addr.add; rw [if_pos rfl]
    clear d0 d1 had hadw hW
    have HW := Lib.hid hadd; clear hadd
    generalize l.length = N at *
    have hp1 : N ≠ 0 := by omega
    have hp2 : ¬ N ≤ 0 := by omega
    have hp3 : ¬ ((N : Int) ≤ 0) := by omega
    go_enter Try.func31, Try.ntmps31
    go_wp2
    go_ret
    exact ⟨rfl, (Kept.refl _ _).alloc _⟩
  have HAT := Lib.hid at_any; clear at_any d0 d1 had
  go_enter Try.func15, Try.ntmps15
  go_wp2_with fail
  refine (HAT.out _ ((Kept.refl _ _).alloc _)).mono ?_
  rintro e w2 ⟨rfl, hk⟩
  go_wp2_with fail
  go_ret
  exact ⟨rfl, ((Kept.refl _ _).alloc _).then hk⟩

def eqI (a b : List Int) : Bool := decide (a = b)
set_option maxHeartbeats 1000000 in
theorem sameints_eq (w : World) (A B : Option Addr) (c d : Nat) (l : List Int) (hl : Src w 1 A l.length (ints l)) (hm : Src w 1 B l.length (ints l)) (hlen : l.length ≤ 1000000) :
    Calls Try.prog 40 #[.slice A l.length c, .slice B l.length d] w fun e w' => e = .returned (.bool true) ∧ Kept NoF w w' := by
  have HL := Lib.hid hl; clear hl
  have HM := Lib.hid hm; clear hm
  go_enter Try.func40, Try.ntmps40
  go_wp2_with fail
  go_loopw [5] (fun v5 wr => ∃ i : Nat, i ≤ l.length ∧ v5 = .int .i64 i ∧ Kept NoF w wr) (fun v5 _ => l.length - (RowKit.intOf v5).toNat)
  case atStart => exact ⟨0, Nat.zero_le _, rfl, Kept.refl _ _⟩
  case round =>
    obtain ⟨i, hi, rfl, hk⟩ := hrel
    have HK := Lib.hid hk; clear hk
    by_cases hil : i < l.length
    · obtain ⟨b, hb⟩ : ∃ b, l[i]? = some b := ⟨_, List.getElem?_eq_getElem hil⟩
      obtain ⟨ad, rfl, _, e0⟩ := int_cells (HL.out.kept HK.out (fun _ _ x => x)) (by omega) i b hb
      obtain ⟨bd, rfl, _, e1⟩ := int_cells (HM.out.kept HK.out (fun _ _ x => x)) (by omega) i b hb
      clear hb
      go_wp2_with fail
      go_quiet (fail)
      go_wp2
      go_roundw
      case rel => exact ⟨i + 1, by omega, by go_num, HK.out.drewN _⟩
      case measure => simp [RowKit.intOf]; omega
    · obtain rfl : i = l.length := by omega
      go_wp2
      go_ret
      exact ⟨rfl, HK.out⟩
end Plan
end Go.Proofs.Ytolipnnjeehnfaa
