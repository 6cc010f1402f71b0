/- Sets of texts: what Sorted, Same and Set of the keys' layer compute, and the document's. -/
import Derived.Test.YtploafhenmfmhaaSetPlain
import Derived.Test.YtploafhenmfmhaaKeysWalk
import Derived.Test.YtploafhenmfmhaaOpen
import Derived.Deep.RegionHeld3
import Derived.Deep.DeepFit
import Derived.StillTailTactics
import Derived.Test.YtploafhenmfmhaaSortLay
import Derived.Maps.RangeWalk
import Derived.Maps.OwnSet
import Derived.Maps.Views
set_option linter.unusedSimpArgs false
set_option linter.unusedVariables false
namespace Go.Proofs.Ytploafhenmfmhaa
open Go.RowKit
set_option maxRecDepth 100000
namespace Keys

abbrev strs (l : List ByteArray) : List Value := l.map Value.string
def bl (l : List ByteArray) : List BL := l.map ByteArray.toList
theorem str_cells {w : World} {A : Option Addr} {m : Nat} {l : List ByteArray} (h : Src w 1 A m (strs l)) (hm : 0 < m) (i : Nat) (s : ByteArray) (hs : l[i]? = some s) :
    ∃ ad, A = some ad ∧ ad.block < w.heap.size ∧ w.cell? (ad.add i) = some (.string s) := by
  obtain ⟨ad, rfl, had, hcell⟩ := h.2 hm
  exact ⟨ad, rfl, had, hcell i _ (by simp [strs, hs])⟩
def sortedB (l : List ByteArray) : Bool := sortedL (bl l)

theorem sorted_drop {l : List ByteArray} {i : Nat} {a b : ByteArray} (ha : l[i]? = some a) (hb : l[i + 1]? = some b) : sortedL (bl (l.drop i)) = (Op.bytesLess a.toList b.toList && sortedL (bl (l.drop (i + 1)))) := by
  have h1 : l.drop i = a :: l.drop (i + 1) := by
    obtain ⟨hi, e⟩ := List.getElem?_eq_some_iff.1 ha
    rw [← e]; exact List.drop_eq_getElem_cons hi
  have h2 : l.drop (i + 1) = b :: l.drop (i + 1 + 1) := by
    obtain ⟨hi, e⟩ := List.getElem?_eq_some_iff.1 hb
    rw [← e]; exact List.drop_eq_getElem_cons hi
  rw [h1, h2]
  rfl

set_option maxHeartbeats 2000000 in
theorem ksorted_any (w : World) (A : Option Addr) (c : Nat) (l : List ByteArray) (hl : Src w 1 A l.length (strs l)) (hlen : l.length ≤ 1000000) :
    Calls Try.prog 46 #[.slice A l.length c] w fun e w' => e = .returned (.bool (sortedB l)) ∧ Kept NoF w w' := by
  have HL := Lib.hid hl; clear hl
  go_enter Try.func46, Try.ntmps46
  go_wp2_with fail
  go_loopw [3, 6] (fun v3 v6 wr => ∃ i : Nat, i ≤ l.length ∧ v6 = .int .i64 i ∧ sortedB l = sortedL (bl (l.drop (i - 1))) ∧ Kept NoF w wr) (fun _ v6 _ => l.length - (intOf v6).toNat)
  case atStart => exact ⟨0, Nat.zero_le _, rfl, rfl, Kept.refl _ _⟩
  case round =>
    obtain ⟨i, hi, rfl, hs, hk⟩ := hrel
    have HS := Lib.hid hs; clear hs
    have HSRC := Lib.hid (HL.out.kept hk (fun _ _ x => x))
    have HK := Lib.hid hk; clear hk
    by_cases hil : i < l.length
    · by_cases h0 : i = 0
      · subst h0
        go_wp2_with fail
        go_quiet (fail)
        go_wp2
        go_roundw
        case rel => exact ⟨1, by omega, by go_num, HS.out, HK.out.drewN _⟩
        case measure => simp [intOf]; omega
      · obtain ⟨b, hb⟩ : ∃ b, l[i]? = some b := ⟨_, List.getElem?_eq_getElem hil⟩
        obtain ⟨a, ha⟩ : ∃ a, l[i - 1]? = some a := ⟨_, List.getElem?_eq_getElem (by omega)⟩
        obtain ⟨ad, rfl, hlt, e1⟩ := str_cells HSRC.out (by omega) i b hb
        obtain ⟨ad', e, -, e0⟩ := str_cells HSRC.out (by omega) (i - 1) a ha
        injection e with e
        subst e
        have hw : IntKind.i64.wrap ((i : Int) - 1) = (i : Int) - 1 := IntWalk.i64_in _ (by omega)
        have hd : 0 ≤ (i : Int) - 1 := by omega
        have hd2 : (i : Int) - 1 < l.length := by omega
        have ht : ((i : Int) - 1).toNat = i - 1 := by omega
        have h0' : 0 < i := by omega
        have hsd := sorted_drop ha (by rw [show i - 1 + 1 = i by omega]; exact hb)
        rw [show i - 1 + 1 = i by omega] at hsd
        have HSD := Lib.hid hsd; clear hsd
        clear ha hb
        by_cases hlt2 : Op.bytesLess a.toList b.toList = true
        · go_wp2_with fail
          go_quiet (fail)
          clear hw hd hd2 ht
          go_wp2
          go_roundw
          case rel => exact ⟨i + 1, by omega, by go_num, by rw [HS.out, HSD.out, hlt2, Nat.add_sub_cancel, Bool.true_and], HK.out.drewN _⟩
          case measure => simp [intOf]; omega
        · have hlt3 : Op.bytesLess a.toList b.toList = false := by simpa using hlt2
          clear hlt2
          go_wp2_with fail
          go_quiet (fail)
          go_wp2
          go_ret
          exact ⟨by rw [HS.out, HSD.out, hlt3, Bool.false_and]; rfl, HK.out.drewN _⟩
    · obtain rfl : i = l.length := by omega
      have hend : sortedL (bl (l.drop (l.length - 1))) = true := by
        rcases Nat.eq_zero_or_pos l.length with h | h
        · rw [List.eq_nil_of_length_eq_zero h]; rfl
        · have : (l.drop (l.length - 1)).length = 1 := by rw [List.length_drop]; omega
          match l.drop (l.length - 1), this with
          | [x], _ => rfl
      have HE := Lib.hid hend; clear hend
      go_wp2
      go_ret
      exact ⟨by rw [HS.out, HE.out]; rfl, HK.out⟩

set_option maxHeartbeats 2000000 in
theorem rsorted_any (w : World) (A : Option Addr) (c : Nat) (l : List ByteArray) (hl : Src w 1 A l.length (strs l)) (hlen : l.length ≤ 1000000) :
    Calls Try.prog 47 #[.slice A l.length c] w fun e w' => e = .returned (.bool (sortedB l)) ∧ Kept NoF w w' := by
  have HL := Lib.hid hl; clear hl
  go_enter Try.func47, Try.ntmps47
  go_wp2_with fail
  go_loopw [3] (fun v6 wr => ∃ i : Nat, 1 ≤ i ∧ (l = [] ∧ i = 1 ∨ i ≤ l.length) ∧ v6 = .int .i64 i ∧ sortedB l = sortedL (bl (l.drop (i - 1))) ∧ Kept NoF w wr) (fun v6 _ => l.length - (intOf v6).toNat)
  case atStart => exact ⟨1, Nat.le_refl _, by rcases l with _ | ⟨a, l⟩; exact .inl ⟨rfl, rfl⟩; exact .inr (by simp), rfl, rfl, Kept.refl _ _⟩
  case round =>
    obtain ⟨i, h0i, hi, rfl, hs, hk⟩ := hrel
    have HI := Lib.hid hi; clear hi
    have HS := Lib.hid hs; clear hs
    have HSRC := Lib.hid (HL.out.kept hk (fun _ _ x => x))
    have HK := Lib.hid hk; clear hk
    by_cases hil : i < l.length
    · have h0 : ¬ i = 0 := by omega
      obtain ⟨b, hb⟩ : ∃ b, l[i]? = some b := ⟨_, List.getElem?_eq_getElem hil⟩
      obtain ⟨a, ha⟩ : ∃ a, l[i - 1]? = some a := ⟨_, List.getElem?_eq_getElem (by omega)⟩
      obtain ⟨ad, rfl, hlt, e1⟩ := str_cells HSRC.out (by omega) i b hb
      obtain ⟨ad', e, -, e0⟩ := str_cells HSRC.out (by omega) (i - 1) a ha
      injection e with e
      subst e
      have hw : IntKind.i64.wrap ((i : Int) - 1) = (i : Int) - 1 := IntWalk.i64_in _ (by omega)
      have hd : 0 ≤ (i : Int) - 1 := by omega
      have hd2 : (i : Int) - 1 < l.length := by omega
      have ht : ((i : Int) - 1).toNat = i - 1 := by omega
      have h0' : 0 < i := by omega
      have hsd := sorted_drop ha (by rw [show i - 1 + 1 = i by omega]; exact hb)
      rw [show i - 1 + 1 = i by omega] at hsd
      have HSD := Lib.hid hsd; clear hsd
      clear ha hb
      by_cases hlt2 : Op.bytesLess a.toList b.toList = true
      · go_wp2_with fail
        go_quiet (fail)
        clear hw hd hd2 ht
        go_wp2
        go_roundw
        case rel => exact ⟨i + 1, by omega, .inr (by omega), by go_num, by rw [HS.out, HSD.out, hlt2, Nat.add_sub_cancel, Bool.true_and], HK.out.drewN _⟩
        case measure => simp [intOf]; omega
      · have hlt3 : Op.bytesLess a.toList b.toList = false := by simpa using hlt2
        clear hlt2
        go_wp2_with fail
        go_quiet (fail)
        go_wp2
        go_ret
        exact ⟨by rw [HS.out, HSD.out, hlt3, Bool.false_and]; rfl, HK.out.drewN _⟩
    · have hend0 : l.length ≤ i := by omega
      have hi2 : i - 1 = l.length - 1 := by rcases HI.out with ⟨h1, h2⟩ | h <;> first | (subst h1; subst h2; rfl) | omega
      rw [hi2] at HS
      clear hi2
      have hend : sortedL (bl (l.drop (l.length - 1))) = true := by
        rcases Nat.eq_zero_or_pos l.length with h | h
        · rw [List.eq_nil_of_length_eq_zero h]; rfl
        · have : (l.drop (l.length - 1)).length = 1 := by rw [List.length_drop]; omega
          match l.drop (l.length - 1), this with
          | [x], _ => rfl
      have HE := Lib.hid hend; clear hend
      go_wp2
      go_ret
      exact ⟨by rw [HS.out, HE.out]; rfl, HK.out⟩

set_option maxHeartbeats 2000000 in
theorem rsame_eq (w : World) (A B : Option Addr) (c d : Nat) (l : List ByteArray) (hl : Src w 1 A l.length (strs l)) (hm : Src w 1 B l.length (strs l)) (hlen : l.length ≤ 1000000) :
    Calls Try.prog 48 #[.slice A l.length c, .slice B l.length d] w fun e w' => e = .returned (.bool true) ∧ Kept NoF w w' := by
  have HL := Lib.hid hl; clear hl
  have HM := Lib.hid hm; clear hm
  go_enter Try.func48, Try.ntmps48
  go_wp2_with fail
  go_loopw [5] (fun v5 wr => ∃ i : Nat, i ≤ l.length ∧ v5 = .int .i64 i ∧ Kept NoF w wr) (fun v5 _ => l.length - (intOf v5).toNat)
  case atStart => exact ⟨0, Nat.zero_le _, rfl, Kept.refl _ _⟩
  case round =>
    obtain ⟨i, hi, rfl, hk⟩ := hrel
    have HK := Lib.hid hk; clear hk
    by_cases hil : i < l.length
    · obtain ⟨b, hb⟩ : ∃ b, l[i]? = some b := ⟨_, List.getElem?_eq_getElem hil⟩
      obtain ⟨ad, rfl, -, e0⟩ := str_cells (HL.out.kept HK.out (fun _ _ x => x)) (by omega) i b hb
      obtain ⟨bd, rfl, -, e1⟩ := str_cells (HM.out.kept HK.out (fun _ _ x => x)) (by omega) i b hb
      clear hb
      go_wp2_with fail
      go_quiet (fail)
      go_wp2
      go_roundw
      case rel => exact ⟨i + 1, by omega, by go_num, HK.out.drewN _⟩
      case measure => simp [intOf]; omega
    · obtain rfl : i = l.length := by omega
      go_wp2
      go_ret
      exact ⟨rfl, HK.out⟩

/-! ### keys.Set -/
open Go.Maps Go.Sort
theorem strKeyed : Keyed Try.prog 9 := string_keyed Try.underlying9
theorem elemStr : Elem Try.prog 69 9 1 16 := by
  obtain ⟨i0, hi, hz0, hz1, hz2⟩ := info_parts (show (Try.prog.info? 9).map (fun i => (i.zero, i.size, i.bytes)) = some (some (.string ⟨#[]⟩), 1, 16) by kernel_rfl)
  exact ⟨Try.underlying69, ⟨i0, _, hi, hz0, hz1, hz2, rfl⟩, by decide⟩

/-- Block b is a map of at most n entries whose keys are those of l. -/
def SeenIs (w : World) (b n : Nat) (l : List BL) : Prop :=
  ∃ D : DataW Unit, w.ownsMap Try.prog 9 (plainElem Try.prog 4) b n D ∧ ∀ x : BL, has D (.string x) = decide (x ∈ l)
theorem SeenIs.lt {w : World} {b n : Nat} {l : List BL} (h : SeenIs w b n l) : b < w.heap.size := by
  obtain ⟨D, h, _⟩ := h
  exact h.lt
theorem SeenIs.store {w : World} {b n : Nat} {l : List BL} (h : SeenIs w b n l) (hn : n < maxLen) (s : ByteArray) (hs : s.size ≤ maxLen) :
    ∃ w', (Instr.mapUpdate 129 (.map (some b)) (.string s) (.bool true)).run Try.prog w = .ok () w' ∧ SeenIs w' b (n + 1) (l ++ [s.toList]) ∧ Kept (fun i => i = b) w w' := by
  obtain ⟨D, ho, hD⟩ := h
  obtain ⟨w', hrun, ho', hg⟩ := ho.update strKeyed Try.underlying129 hn (WideMaps.keyOf_string_mk Try.underlying9 hs) (plainElem_bool Try.underlying4 true)
  refine ⟨w', hrun, ⟨_, ho', ?_⟩, (Kept.refl _ _).grownBy hg fun i hi => by injection hi with hi; exact .inl hi.symm⟩
  intro x
  have hm : IsMap D := ho.isMap
  have hl : WideAt.IsKeyLit (.string s.data.toList) := by trivial
  have e1 : s.toList = s.data.toList := ByteArray.toList_eq s
  by_cases e : x = s.data.toList
  · subst e
    rw [has_put_same hm hl]
    simp [e1]
  · have hne : (Lit.string x) ≠ .string s.data.toList := fun h => e (by injection h)
    rw [has_put_other hne, hD x]
    simp [e1, e]
theorem SeenIs.kept {F : Nat → Prop} {w w' : World} {b n : Nat} {l : List BL} (h : SeenIs w b n l) (hk : Kept F w w') (hf : ¬ F b) : SeenIs w' b n l := by
  obtain ⟨D, ho, hD⟩ := h
  have hlt := ho.lt
  obtain ⟨es, clock, hb, hF, hs, e⟩ := ho
  exact ⟨D, ⟨es, clock, (hk.block b hlt hf).trans hb, hF, hs, e⟩, hD⟩
theorem SeenIs.made (w : World) : SeenIs (w.alloc (.map #[] 0)) w.heap.size 0 [] :=
  ⟨_, World.ownsMap_made w _ _ _, fun x => rfl⟩

def setB (l : List ByteArray) : List ByteArray := (setL (bl l)).map fun x => ⟨x.toArray⟩
theorem bl_setB (l : List ByteArray) : bl (setB l) = setL (bl l) := by
  unfold setB
  generalize setL (bl l) = r
  unfold bl
  rw [List.map_map]
  conv => rhs; rw [← List.map_id r]
  congr 1
  funext x
  simp [ByteArray.toList_eq]

theorem own_ne_map {w : World} {base e sz n b k m : Nat} {v : Value} {xs : List Value} {R : Value → Option (DataW Unit × List MemPlace)} {D : DataW Unit} (h : w.ownsRow base e sz v n xs) (hm : w.ownsMap Try.prog k R b m D) : v.ownBlock ≠ some b := by
  obtain ⟨es, clock, hb, _⟩ := hm
  rcases h.2 with ⟨rfl, _⟩ | ⟨g, cap, cur, rfl, _, hg, _⟩
  · simp [Value.ownBlock]
  · intro e
    obtain rfl : g = b := by simpa [Value.ownBlock] using e
    rw [hg] at hb
    cases hb
theorem bool_inv {v : Value} {y : DataW Unit × List MemPlace} (h : plainElem Try.prog 4 v = some y) : ∃ b, v = Value.bool b := by
  unfold plainElem at h
  rw [Try.underlying4] at h
  cases v <;> simp at h
  exact ⟨_, rfl⟩
theorem bl_snoc {l : List ByteArray} {i : Nat} {s : ByteArray} (h : l[i]? = some s) : bl (l.take (i + 1)) = bl (l.take i) ++ [s.toList] := by
  unfold bl
  rw [List.take_add_one, h]
  simp

set_option maxHeartbeats 4000000 in
theorem kset_any (w : World) (A : Option Addr) (c : Nat) (l : List ByteArray) (hl : Src w 1 A l.length (strs l)) (hlen : l.length ≤ 1000000) (hgood : ∀ s ∈ l, s.size ≤ maxLen) :
    Calls Try.prog 49 #[.slice A l.length c] w fun e w' => ∃ A' c', e = .returned (.slice A' (setB l).length c') ∧ w'.ownsRow 0 9 1 (.slice A' (setB l).length c') (setB l).length (strs (setB l)) ∧ (∀ k, (Value.slice A' (setB l).length c').ownBlock = some k → w.heap.size ≤ k) ∧ Below w.heap.size w w' := by
  have hmk := @run_makeMap Try.prog
  have HL := Lib.hid hl; clear hl
  have HGO := Lib.hid hgood; clear hgood
  go_enter Try.func49, Try.ntmps49
  go_wp2_with fail
  clear hmk
  have HB0 := Lib.hid ((Below.refl w.heap.size w).alloc (Nat.le_refl _) (.map #[] 0))
  have HM0 := Lib.hid (SeenIs.made w)
  generalize w.alloc (.map #[] 0) = W0 at *
  go_loopw [5, 11] (fun v5 v11 wr => ∃ i : Nat, i ≤ l.length ∧ v11 = .int .i64 i ∧ SeenIs wr w.heap.size i (bl (l.take i)) ∧ Below w.heap.size w wr) (fun _ v11 _ => l.length - (intOf v11).toNat)
  case atStart => exact ⟨0, Nat.zero_le _, rfl, HM0.out, HB0.out⟩
  case round =>
    obtain ⟨i, hi, rfl, hm, hB⟩ := hrel
    have HB := Lib.hid hB; clear hB
    have hsz := HB.out.size
    by_cases hil : i < l.length
    · obtain ⟨s, hs⟩ : ∃ s, l[i]? = some s := ⟨_, List.getElem?_eq_getElem hil⟩
      obtain ⟨ad, rfl, -, e0⟩ := str_cells (HL.out.below HB.out) (by omega) i s hs
      obtain ⟨w2, hst, hm2, hk2⟩ := hm.store (by unfold maxLen; omega) s (HGO.out s (List.mem_of_getElem? hs))
      have hm3 : SeenIs w2 w.heap.size (i + 1) (bl (l.take (i + 1))) := by rw [bl_snoc hs]; exact hm2
      have HM3 := Lib.hid hm3; clear hm3 hm2 hs hm
      go_wp2_with fail
      go_roundw
      case rel => exact ⟨i + 1, by omega, by go_num, HM3.out, HB.out.trans (hk2.below hsz (fun k h => by omega))⟩
      case measure => simp [intOf]; omega
    · obtain rfl : i = l.length := by omega
      rw [List.take_length] at hm
      obtain ⟨D, hown, hD⟩ := hm
      have HD := Lib.hid hD; clear hD
      obtain ⟨w1, hw1⟩ : ∃ w1 : World, w1 = wr := ⟨_, rfl⟩
      subst hw1
      go_wp2_with (first
        | (at_range; refine wpList_range_own _ rfl _ 129 rfl 9 4 strKeyed Try.underlying129 _ w.heap.size _ _ rfl hown ?_; intro w0 hrg0 hg0 hs0)
        | go_in)
      go_frame
      have hDs := hown.size_le
      have hwl := hown.lt
      go_loopw [6, 7] (fun v6 v7 wz => ∃ (left : Lit → Bool) (cnt : Nat) (ss : List BL) (A' : Option Addr) (c' : Nat), wz.ranges Try.prog 9 (plainElem Try.prog 4) w.heap.size w1.heap.size l.length D left cnt ∧ ss.length + cnt ≤ Maps.size D ∧
          v6 = .slice A' ss.length c' ∧ wz.ownsRow 0 9 1 (.slice A' ss.length c') ss.length (ss.map encStr) ∧ Collected D left ss ∧ (∀ k, (Value.slice A' ss.length c').ownBlock = some k → w.heap.size ≤ k) ∧ Below w.heap.size w wz)
        (fun _ _ wz => wz.rangeLeft w.heap.size w1.heap.size)
      case atStart =>
        exact ⟨_, _, [], none, 0, hrg0, by simp, rfl, ⟨rfl, .inl ⟨rfl, rfl⟩⟩, Collected.start D, (fun k hk => by cases hk), HB.out.trans ((Kept.grownBy (Kept.refl NoF _) hg0 (fun k hk => by cases hk)).below hsz (fun _ x => x.elim))⟩
      case round =>
        obtain ⟨left, cnt, ss, A', c', hrg, hcs, rfl, hrow, hC, hnew, hB⟩ := hrel
        have HB := Lib.hid hB; clear hB
        have hsz2 := HB.out.size
        have HROW := Lib.hid hrow; clear hrow
        have HC := Lib.hid hC; clear hC
        have HNEW := Lib.hid hnew; clear hnew
        go_wp2_with (first
          | (at_next; refine wpList_next_ranges _ rfl _ rfl 9 strKeyed (plainElem Try.prog 4) encStr (fun v : Value => v) (fun key kl hk => by obtain ⟨x, hx, _⟩ := Maps.keyOf_str Try.underlying9 hk; exact ⟨x, hx⟩) (fun v y hv => ⟨v, rfl⟩) w.heap.size w1.heap.size l.length _ _ _ rfl hrg ?_ ?_)
          | go_in)
        · intro hc0 hl0
          go_wp2_with fail
          refine (Srt.sort_own HROW.out (by omega)).mono ?_
          rintro e w2 ⟨rfl, hrow2, hk2⟩
          have hmem : ∀ x, x ∈ ss ↔ x ∈ bl l := by
            intro x
            rw [HC.out.2 x, HD.out x, hl0]
            simp
          have hset : ss.mergeSort leB = setL (bl l) := set_perm HC.out.1 hmem
          have hlen2 : (setB l).length = ss.length := by
            unfold setB
            rw [List.length_map, ← hset, List.length_mergeSort]
          have hrow3 : w2.ownsRow 0 9 1 (.slice A' (setB l).length c') (setB l).length (strs (setB l)) := by
            rw [hlen2]
            unfold setB strs
            rw [List.map_map, ← hset]
            exact hrow2
          have HR3 := Lib.hid hrow3; clear hrow3 hrow2
          have HL2 := Lib.hid hlen2; clear hlen2 hset hmem
          go_wp2_with fail
          go_ret
          exact ⟨A', c', by rw [HL2.out]; rfl, HR3.out, by rw [HL2.out]; exact HNEW.out, HB.out.trans (hk2.below hsz2 (fun k hk => HNEW.out k hk))⟩
        · intro x cb kl yd yp w2 cnt2 hkey hlk hv hat hrg2 hlt hg2 hs2 hen
          obtain ⟨x', ex, rfl, _⟩ := Maps.keyOf_str Try.underlying9 hkey
          obtain rfl : x = x' := encStr_inj ex
          have hrow2 := HROW.out.kept hg2 (Or.inr (row_ne_iter HROW.out hrg).symm)
          have hk2 : Kept (fun k => k = w1.heap.size) wr w2 := (Kept.refl _ _).grownBy hg2 (fun k hk => by injection hk with hk; exact .inl hk.symm)
          have hcn := HC.out.step hlk hat
          have HC2 := Lib.hid hcn; clear hcn
          have HROW2 := Lib.hid hrow2; clear hrow2
          clear hs2 hkey hv hat hlk
          unfold encStr at hen
          have hHx := Has.new w2 9 #[.string ⟨x.toArray⟩]
          have hMx1 : ss.length + 1 ≤ maxLen := by unfold maxLen; omega
          have hMx2 : (ss.length + 1) * 16 ≤ 140737488355328 := by omega
          have HHX := Lib.hid hHx; clear hHx
          have HMX1 := Lib.hid hMx1; clear hMx1
          have HMX2 := Lib.hid hMx2; clear hMx2
          go_wp2_with (at_builtin; refine list_append_src elemStr (.tmp 24) (.tmp 26) rfl rfl (Value.slice A' ss.length c') rfl (own_kept HROW2.out (F := NoF) ((Kept.refl _ _).alloc _) (fun _ _ x => x)) 1 rfl (Src.of_has (m := 1) HHX.out rfl) (by intro u hu; simp at hu; subst hu; rfl) HMX1.out HMX2.out ?_; intro A3 c3 w3 ho3 hg3 ha3)
          have hrg3 := (hrg2.alloc (.cells #[.string ⟨x.toArray⟩] 9)).kept hg3 (fun e => own_ne_map HROW2.out hrg2.owns e.symm) (row_ne_iter HROW2.out hrg2)
          have hlen3 : (ss ++ [x]).length = ss.length + 1 := by simp
          have hnew3 : ∀ k, (Value.slice A3 (ss.length + 1) c3).ownBlock = some k → w.heap.size ≤ k := by
            intro k hk
            rcases ha3 with h | h
            · exact HNEW.out k (h.symm.trans hk)
            · rw [hk] at h
              injection h with h
              have := hk2.size
              simp at h
              omega
          have hB3 : Below w.heap.size w w3 := (HB.out.trans (hk2.below hsz2 (fun k h => by have := hsz; omega))).trans ((((Kept.refl (fun k => (Value.slice A' ss.length c').ownBlock = some k) w2).alloc _).grown hg3 (fun k hk => .inl hk)).below (by have := hk2.size; omega) (fun k hk => HNEW.out k hk))
          have ho4 : w3.ownsRow 0 9 1 (.slice A3 (ss ++ [x]).length c3) (ss ++ [x]).length ((ss ++ [x]).map encStr) := by
            rw [hlen3, List.map_append]
            exact ho3
          have HO4 := Lib.hid ho4; clear ho4 ho3
          have HN4 := Lib.hid hnew3; clear hnew3
          have HB4 := Lib.hid hB3; clear hB3
          go_roundw
          case rel => exact ⟨_, cnt2, ss ++ [x], A3, c3, hrg3, by rw [hlen3]; omega, by rw [hlen3], HO4.out, HC2.out, by rw [hlen3]; exact HN4.out, HB4.out⟩
          case measure => rw [hrg3.left_eq, hrg.left_eq]; exact hlt
end Keys
end Go.Proofs.Ytploafhenmfmhaa
