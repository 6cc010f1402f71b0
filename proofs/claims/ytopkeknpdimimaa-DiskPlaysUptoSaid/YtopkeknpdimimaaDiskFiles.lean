
/- The disk: Files. -/
import Derived.Test.YtopkeknpdimimaaDisk5
import Derived.Maps.RangeWalk
import Derived.Lib.SlKeysI
import Derived.Test.YtopkeknpdimimaaIterLay
set_option linter.unusedSimpArgs false
set_option linter.unusedVariables false
namespace Go.Proofs.Ytopkeknpdimimaa
open Go.RowKit Go.Maps
set_option maxRecDepth 100000
namespace Disk

/-- Block b is a map of at most n entries whose keys are those of s. -/
def SeenZ (w : World) (b n : Nat) (s : Int → Bool) : Prop :=
  ∃ D : DataW Unit, w.ownsMap Try.prog 3 (plainElem Try.prog 4) b n D ∧ ∀ x, has D (.int .i64 x) = s x
theorem SeenZ.lt {w : World} {b n : Nat} {s : Int → Bool} (h : SeenZ w b n s) : b < w.heap.size := by
  obtain ⟨D, h, _⟩ := h
  exact h.lt
theorem SeenZ.mono {w : World} {b n n' : Nat} {s : Int → Bool} (h : SeenZ w b n s) (hn : n ≤ n') : SeenZ w b n' s := by
  obtain ⟨D, ho, hD⟩ := h
  exact ⟨D, ho.mono hn, hD⟩
theorem SeenZ.store {w : World} {b n : Nat} {s : Int → Bool} (h : SeenZ w b n s) (hn : n < maxLen) {x : Int} (hx : I64 x) :
    ∃ w', (Instr.mapUpdate 72 (.map (some b)) (.int .i64 x) (.bool true)).run Try.prog w = .ok () w' ∧ SeenZ w' b (n + 1) (fun y => decide (y = x) || s y) ∧ w.grownBy w' (some b) := by
  obtain ⟨D, ho, hD⟩ := h
  obtain ⟨w', hrun, ho', hg⟩ := ho.update intKeyed Try.underlying72 hn (intKey hx) (plainElem_bool Try.underlying4 true)
  refine ⟨w', hrun, ⟨_, ho', ?_⟩, hg⟩
  intro y
  have hm : IsMap D := ho.isMap
  have hl : WideAt.IsKeyLit (.int .i64 x) := by trivial
  by_cases e : y = x
  · subst e
    rw [has_put_same hm hl]
    simp
  · have hne : (Lit.int .i64 y) ≠ .int .i64 x := fun h => e (by injection h)
    rw [has_put_other hne, hD y]
    simp [e]
theorem SeenZ.kept {F : Nat → Prop} {w w' : World} {b n : Nat} {s : Int → Bool} (h : SeenZ w b n s) (hk : Kept F w w') (hf : ¬ F b) : SeenZ w' b n s := by
  obtain ⟨D, ho, hD⟩ := h
  have hlt := ho.lt
  obtain ⟨es, clock, hb, hF, hs, e⟩ := ho
  exact ⟨D, ⟨es, clock, (hk.block b hlt hf).trans hb, hF, hs, e⟩, hD⟩
theorem SeenZ.made (w : World) : SeenZ (w.alloc (.map #[] 0)) w.heap.size 0 (fun _ => false) :=
  ⟨_, World.ownsMap_made w _ _ _, fun x => rfl⟩

/-- The files of a disk. -/
def isFile (m : Safe) (ps : List Pc) (x : Int) : Bool := (m x).isSome || ps.any fun p => decide (p.1 = x)
theorem keysZ {w : World} {b n : Nat} {R : Value → Option (DataW Unit × List MemPlace)} {D : DataW Unit} (hown : w.ownsMap Try.prog 3 R b n D) : (intKeys D).Nodup ∧ ∀ x, x ∈ intKeys D ↔ has D (.int .i64 x) = true := by
  obtain ⟨es, hD, hpw, _⟩ := hown.entries intKeyed
  obtain ⟨es', hD', hko⟩ := hown.keysOf
  obtain rfl : es = es' := by rw [hD] at hD'; simpa using hD'
  subst hD
  have hk : ∀ p ∈ es, ∃ x, p.1 = .int .i64 x := fun p hp => by obtain ⟨v, hv⟩ := hko p hp; obtain ⟨x, _, hx, _⟩ := Maps.keyOf_i64 Try.underlying3 hv; exact ⟨x, hx⟩
  refine ⟨?_, fun x => ?_⟩
  · show (es.map fun p => Go.intOf p.1).Nodup
    refine List.pairwise_map.2 (hpw.imp_of_mem fun {p q} hp' hq' hne e => hne ?_)
    obtain ⟨a, ha⟩ := hk p hp'
    obtain ⟨b, hb⟩ := hk q hq'
    rw [ha, hb] at e ⊢
    exact congrArg _ e
  · rw [has_eq, List.any_eq_true]
    show x ∈ es.map (fun p => Go.intOf p.1) ↔ _
    rw [List.mem_map]
    constructor
    · rintro ⟨p, hp', rfl⟩
      obtain ⟨a, ha⟩ := hk p hp'
      exact ⟨p, hp', by rw [ha]; simp [Lit.sameKey, Go.intOf]⟩
    · rintro ⟨p, hp', hs⟩
      obtain ⟨a, ha⟩ := hk p hp'
      rw [ha] at hs
      exact ⟨p, hp', by rw [ha]; simpa [Lit.sameKey, Go.intOf, eq_comm] using hs⟩

/-- What Files hands back: the files' numbers, rising. -/
structure FilesAre (m : Safe) (ps : List Pc) (fl : List Int) : Prop where
  rises : fl.Pairwise (· < ·)
  mem : ∀ x, x ∈ fl ↔ I64 x ∧ isFile m ps x = true
def FilesPost (w : World) (m : Safe) (ps : List Pc) (e : Ending) (w' : World) : Prop :=
  ∃ fl A c, e = .returned (.slice A fl.length c) ∧ FilesAre m ps fl ∧ w'.ownsRow 0 3 1 (.slice A fl.length c) fl.length (fl.map (Value.int .i64)) ∧ (∀ k, (Value.slice A fl.length c).ownBlock = some k → w.heap.size ≤ k) ∧ Kept NoF w w'

variable {F : Nat → Prop} {w : World} {g n : Nat} {m : Safe} {ps : List Pc} {ser boot : Int}
set_option maxHeartbeats 4000000 in
theorem files_any (h : DiskAt w g F n m ps ser boot) (hpi : ∀ p ∈ ps, I64 p.1) (hn : n ≤ 100000) (hlen : ps.length ≤ 100000) :
    Calls Try.prog 20 #[.pointer (some ⟨g, 0, none⟩)] w (FilesPost w m ps) := by
  have hno := none_any h
  have HN := Lib.hid hno; clear hno
  obtain ⟨mb, A, c, hF, hg, hm, ho⟩ := h
  obtain ⟨D0, hown0, hD0⟩ := hm
  have HD0 := Lib.hid hD0; clear hD0
  have c0 : w.cell? ⟨g, 0, none⟩ = some (.map (some mb)) := hg.cell 0
  have hgl := hg.lt
  have hown1 := hown0.alloc (.map #[] 0)
  have hml := hown0.lt
  have HG := Lib.hid hg; clear hg
  have HS := Lib.hid (Src.of_own ho); clear ho
  have HPI := Lib.hid hpi; clear hpi
  have hmk := @run_makeMap Try.prog
  have hsz0 := hown0.size_le
  clear hF hown0
  go_enter Try.func20, Try.ntmps20
  go_wp2_with fail
  refine HN.out.mono ?_
  rintro e w' ⟨rfl, rfl⟩
  have HW0 := Lib.hid ((Kept.refl NoF w).alloc (.map #[] 0))
  have HM0 := Lib.hid (SeenZ.made w)
  go_wp2_with (first
    | (at_range; refine wpList_range_own _ rfl _ 34 rfl 3 9 intKeyed Try.underlying34 _ mb _ _ rfl hown1 ?_; intro w0 hrg0 hg0 hs0)
    | go_in)
  go_frame
  clear hmk
  have hW0s : (w.alloc (.map #[] 0)).heap.size = w.heap.size + 1 := by simp
  rw [hW0s] at hrg0 hs0 ⊢
  have hk0 : Kept NoF w w0 := HW0.out.grownBy hg0 (fun k hk => by cases hk)
  have hm0 : SeenZ w0 w.heap.size 0 (fun x => has D0 (.int .i64 x) && !has D0 (.int .i64 x)) := by
    have e : (fun x : Int => has D0 (.int .i64 x) && !has D0 (.int .i64 x)) = fun _ => false := by funext x; cases has D0 (.int .i64 x) <;> rfl
    rw [e]
    exact HM0.out.kept ((Kept.refl NoF _).grownBy hg0 (fun k hk => by cases hk)) (fun x => x)
  have HK0 := Lib.hid hk0; clear hk0
  have HM1 := Lib.hid hm0; clear hm0
  clear hg0 hs0 hW0s
  go_loopw [4] (fun v4 wr => ∃ (left : Lit → Bool) (cnt na : Nat), wr.ranges Try.prog 3 (plainElem Try.prog 9) mb (w.heap.size + 1) n D0 left cnt ∧ na + cnt ≤ Maps.size D0 ∧ SeenZ wr w.heap.size na (fun x => has D0 (.int .i64 x) && !left (.int .i64 x)) ∧ Kept NoF w wr) (fun _ wr => wr.rangeLeft mb (w.heap.size + 1))
  case atStart => exact ⟨_, _, 0, hrg0, by simp, HM1.out, HK0.out⟩
  case round =>
    obtain ⟨left, cnt, na, hrg, hcs, hse, hk⟩ := hrel
    have HSE := Lib.hid hse; clear hse
    have HK := Lib.hid hk; clear hk
    have hsz := HK.out.size
    go_wp2_with (first
      | (at_next; refine wpList_next_ranges _ rfl _ rfl 3 intKeyed (plainElem Try.prog 9) encZ (fun v : Value => v) (fun key kl hk => by obtain ⟨x, hx, _⟩ := Maps.keyOf_i64 Try.underlying3 hk; exact ⟨x, hx⟩) (fun v y hv => ⟨v, rfl⟩) mb (w.heap.size + 1) n _ _ _ rfl hrg ?_ ?_)
      | go_in)
    · intro hc0 hl0
      have hse2 : SeenZ wr w.heap.size n (fun x => has D0 (.int .i64 x) || ([] : List Pc).any fun p => decide (p.1 = x)) := by
        have e : (fun x : Int => has D0 (.int .i64 x) && !left (.int .i64 x)) = fun x => has D0 (.int .i64 x) || ([] : List Pc).any fun p => decide (p.1 = x) := by funext x; rw [hl0]; simp
        rw [← e]
        exact HSE.out.mono (by omega)
      have HSE2 := Lib.hid hse2; clear hse2 HSE
      have c1 : wr.cell? ⟨g, 1, none⟩ = some (.slice A ps.length c) := (HG.out.kept HK.out (fun x => x)).cell 1
      clear hrg hl0
      obtain ⟨w1, hw1⟩ : ∃ w1 : World, w1 = wr := ⟨_, rfl⟩
      subst hw1
      go_wp2_with fail
      go_loopw [6, 26] (fun v6 v26 wr => ∃ i : Nat, i ≤ ps.length ∧ v26 = .int .i64 i ∧ SeenZ wr w.heap.size (n + i) (fun x => has D0 (.int .i64 x) || (ps.take i).any fun p => decide (p.1 = x)) ∧ Kept NoF w wr) (fun _ v26 _ => ps.length - (RowKit.intOf v26).toNat)
      case atStart => exact ⟨0, Nat.zero_le _, rfl, HSE2.out, HK.out⟩
      case round =>
        obtain ⟨i, hi, rfl, hse, hk⟩ := hrel
        have HSE := Lib.hid hse; clear hse
        have HK := Lib.hid hk; clear hk
        have hsz := HK.out.size
        by_cases hil : i < ps.length
        · obtain ⟨q, hq⟩ : ∃ q, ps[i]? = some q := ⟨_, List.getElem?_eq_getElem hil⟩
          obtain ⟨ad, rfl, hl1, e0, e1⟩ := pc_cells (HS.out.kept HK.out (fun _ _ x => x)) (by omega) i q hq
          have hq1 : I64 q.1 := HPI.out q (List.mem_of_getElem? hq)
          have hwl := HSE.out.lt
          obtain ⟨w3, hst, hse3, hg3⟩ := SeenZ.store (w := wr.alloc (.cells #[.int .i64 q.1, .string q.2] 61)) (HSE.out.kept ((Kept.refl NoF _).alloc _) (fun x => x)) (by unfold maxLen; omega) hq1
          have hse4 : SeenZ w3 w.heap.size (n + (i + 1)) (fun x => has D0 (.int .i64 x) || (ps.take (i + 1)).any fun p => decide (p.1 = x)) := by
            have e : (fun y : Int => decide (y = q.1) || (has D0 (.int .i64 y) || (ps.take i).any fun p => decide (p.1 = y))) = fun y => has D0 (.int .i64 y) || (ps.take (i + 1)).any fun p => decide (p.1 = y) := by
              funext y
              rw [take_snoc hq, List.any_append]
              by_cases hy : y = q.1
              · subst hy; simp
              · have hy' : ¬ q.1 = y := fun h => hy h.symm
                simp [hy, hy']
            rw [← e]
            exact hse3
          have hk3 : Kept NoF w w3 := (HK.out.alloc _).grownBy hg3 (fun k hk => by injection hk with hk; exact .inr (by omega))
          have HSE4 := Lib.hid hse4; clear hse4 hse3
          have HK3 := Lib.hid hk3; clear hk3 hg3
          obtain ⟨q1, q2⟩ := q
          dsimp only at e0 e1 hst
          clear hq hq1
          go_wp2_with fail
          go_roundw
          case rel => exact ⟨i + 1, by omega, by go_num, HSE4.out, HK3.out⟩
          case measure => simp [RowKit.intOf]; omega
        · obtain rfl : i = ps.length := by omega
          rw [List.take_length] at HSE
          obtain ⟨D, hownD, hDs⟩ := HSE.out
          have hDz := hownD.size_le
          have hkz := keysZ hownD
          have hwf := intKeys_wf hownD Try.underlying3
          go_wp2_with fail
          refine (It.keys_any _ _).mono ?_
          rintro e w' ⟨rfl, rfl⟩
          go_wp2_with fail
          refine (It.sorted_any w.heap.size _ D _ wr hownD (by unfold maxLen; omega) (by omega)).mono ?_
          rintro e w2 ⟨v, ss, rfl, hperm, hrow, hb2⟩
          obtain ⟨A', c', rfl, hcc⟩ := own_form hrow
          have hfa : FilesAre m ps (ss.mergeSort leI) := by
            have tr : ∀ a b c : Int, leI a b = true → leI b c = true → leI a c = true := fun a b c h1 h2 => by simp only [leI, decide_eq_true_eq] at *; exact Int.le_trans h1 h2
            have to : ∀ a b : Int, (leI a b || leI b a) = true := fun a b => by simp only [leI, Bool.or_eq_true, decide_eq_true_eq]; exact Int.le_total a b
            have h1 := List.pairwise_mergeSort tr to ss
            have h2 : (ss.mergeSort leI).Nodup := (List.mergeSort_perm ss leI).nodup_iff.2 (hperm.nodup_iff.2 hkz.1)
            refine ⟨(h1.and h2).imp fun {a b} h => by have := h.1; simp only [leI, decide_eq_true_eq] at this; have := h.2; omega, fun x => ?_⟩
            rw [List.mem_mergeSort, hperm.mem_iff, hkz.2 x, hDs x]
            constructor
            · intro hx
              have hi : I64 x := hwf x ((hkz.2 x).2 (by rw [hDs x]; exact hx))
              refine ⟨hi, ?_⟩
              rw [(HD0.out x hi).1] at hx
              exact hx
            · rintro ⟨hi, hx⟩
              rw [(HD0.out x hi).1]
              exact hx
          have hrow0 : w2.ownsRow 0 3 1 (.slice A' ss.length c') ss.length ((ss.mergeSort leI).map (Value.int .i64)) := ⟨hrow.1, hrow.2.imp id fun ⟨g, cap, cur, a, _, c⟩ => ⟨g, cap, cur, a, Nat.zero_le _, c⟩⟩
          have hnew := hrow.lt
          have hk2 : Kept NoF w w2 := (HK.out.alloc _).then (Kept.of_below (hb2.mono (B' := wr.heap.size + 1) (Nat.le_refl _)) (fun k hk _ => by simpa using hk))
          have hlen2 : (ss.mergeSort leI).length = ss.length := List.length_mergeSort _
          have HROW := Lib.hid hrow0; clear hrow0 hrow
          have HNEW := Lib.hid hnew; clear hnew
          have HFA := Lib.hid hfa; clear hfa
          have HK2 := Lib.hid hk2; clear hk2
          have HLEN := Lib.hid hlen2; clear hlen2
          clear hperm hkz hwf hDs hb2 hownD hcc
          go_wp2_with fail
          go_ret
          exact ⟨ss.mergeSort leI, A', c', by rw [HLEN.out]; rfl, HFA.out, by rw [HLEN.out]; exact HROW.out, by rw [HLEN.out]; exact fun k hk => by have := (HNEW.out k hk).1; omega, HK2.out⟩
    · intro x cb kl yd yp w2 cnt2 hkey hlk hv hat hrg2 hlt hg2 hs2 hen
      obtain ⟨x', ex, rfl, hxw⟩ := Maps.keyOf_i64 Try.underlying3 hkey
      obtain rfl : x = x' := encZ_inj ex
      have hk2 : Kept NoF w w2 := HK.out.grownBy hg2 (fun k hk => by injection hk with hk; exact .inr (by omega))
      have hse2 : SeenZ w2 w.heap.size na (fun x => has D0 (.int .i64 x) && !left (.int .i64 x)) := HSE.out.kept ((Kept.refl (fun k => k = w.heap.size + 1) wr).grownBy hg2 (fun k hk => by injection hk with hk; exact .inl hk.symm)) (by omega)
      obtain ⟨w3, hst, hse3, hg3⟩ := hse2.store (by unfold maxLen; omega) hxw
      have hhas : has D0 (.int .i64 x) = true := has_true_of_atKey hat
      have hse4 : SeenZ w3 w.heap.size (na + 1) (fun y => has D0 (.int .i64 y) && !(left (.int .i64 y) && !(Lit.int .i64 y).sameKey (.int .i64 x))) := by
        have e : (fun y : Int => decide (y = x) || (has D0 (.int .i64 y) && !left (.int .i64 y))) = fun y => has D0 (.int .i64 y) && !(left (.int .i64 y) && !(Lit.int .i64 y).sameKey (.int .i64 x)) := by
          funext y
          by_cases hy : y = x
          · subst hy; simp [hhas, Lit.sameKey]
          · simp [hy, Lit.sameKey]
        rw [← e]
        exact hse3
      have hrg3 := hrg2.kept hg3 (fun e => by have := Option.some.inj e; omega) (fun e => by have := Option.some.inj e; omega)
      have hk3 : Kept NoF w w3 := hk2.grownBy hg3 (fun k hk => by injection hk with hk; exact .inr (by omega))
      have HSE4 := Lib.hid hse4; clear hse4 hse3 hse2
      have HK3 := Lib.hid hk3; clear hk3 hk2
      clear hs2 hkey hv hat hhas hg3
      unfold encZ at hen
      go_wp2_with fail
      go_roundw
      case rel => exact ⟨_, cnt2, na + 1, hrg3, by omega, HSE4.out, HK3.out⟩
      case measure => rw [hrg3.left_eq, hrg.left_eq]; exact hlt
end Disk
end Go.Proofs.Ytopkeknpdimimaa
