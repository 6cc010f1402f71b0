
/- The checkpointed log: calls as cells, short; the law PointZero. -/
import Derived.Test.YthgdkhgpboaplaaPt10
set_option linter.unusedSimpArgs false
set_option linter.unusedVariables false
namespace Go.Proofs.Ythgdkhgpboaplaa
open Go.RowKit
set_option maxRecDepth 100000
namespace Pt
open Disk Fr Vn Ops Wl
structure PAct where
  k : Int
  s : ByteArray
  A : Option Addr
  c : Nat
  l : List ByteArray
  n : Int
instance : Inhabited PAct := ⟨⟨0, ⟨#[]⟩, none, 0, [], 0⟩⟩
def pcs (a : PAct) : List Value := [.int .i64 a.k, .string a.s, .slice a.A a.l.length a.c, .int .i64 a.n]
def pacs (l : List PAct) : List Value := l.flatMap pcs
theorem pact_cells {w : World} {A : Option Addr} {m : Nat} {l : List PAct} (h : Src w 4 A m (pacs l)) (hm : 0 < m) (i : Nat) (a : PAct) (ha : l[i]? = some a) :
    ∃ ad, A = some ad ∧ ad.block < w.heap.size ∧ w.cell? (ad.add (i * 4)) = some (.int .i64 a.k) ∧ w.cell? ⟨(ad.add (i * 4)).block, (ad.add (i * 4)).off + 1, none⟩ = some (.string a.s) ∧
      w.cell? ⟨(ad.add (i * 4)).block, (ad.add (i * 4)).off + 2, none⟩ = some (.slice a.A a.l.length a.c) ∧ w.cell? ⟨(ad.add (i * 4)).block, (ad.add (i * 4)).off + 3, none⟩ = some (.int .i64 a.n) := by
  obtain ⟨ad, rfl, had, hcell⟩ := h.2 hm
  have hk : ∀ j v, j < 4 → (pcs a)[j]? = some v → w.cell? (ad.add (i * 4 + j)) = some v := by
    intro j v hj hv
    refine hcell _ _ ?_
    unfold pacs
    rw [flat_get pcs 4 (by decide) (fun _ => rfl), show (i * 4 + j) / 4 = i by omega, show (i * 4 + j) % 4 = j by omega, ha]
    exact hv
  refine ⟨ad, rfl, had, hk 0 _ (by decide) rfl, ?_, ?_, ?_⟩
  · rw [← add_lit _ (by omega), add_add]; exact hk 1 _ (by decide) rfl
  · rw [← add_lit _ (by omega), add_add]; exact hk 2 _ (by decide) rfl
  · rw [← add_lit _ (by omega), add_add]; exact hk 3 _ (by decide) rfl
def shA (a : PAct) : Bool := decide (a.s.size ≤ 300) && decide (a.l.length ≤ 10) && a.l.all fun s => decide (s.size ≤ 300)
def shP (l : List PAct) : Bool := (l.take 30).all shA
theorem shA_get {a : PAct} (h : shA a = true) : a.s.size ≤ 300 ∧ a.l.length ≤ 10 ∧ ∀ s ∈ a.l, s.size ≤ 300 := by
  unfold shA at h
  simp only [Bool.and_eq_true, decide_eq_true_eq, List.all_eq_true] at h
  exact ⟨h.1.1, h.1.2, h.2⟩
theorem shP_get {l : List PAct} (h : shP l = true) {i : Nat} {a : PAct} (hi : i < 30) (ha : l[i]? = some a) : shA a = true := by
  unfold shP at h
  rw [List.all_eq_true] at h
  exact h a (List.mem_of_getElem? (i := i) (by rw [List.getElem?_take, if_pos hi]; exact ha))
set_option maxHeartbeats 4000000 in
theorem pshort_any (w : World) (A : Option Addr) (c : Nat) (l : List PAct) (hl : Src w 4 A l.length (pacs l)) (hls : ∀ a ∈ l, Src w 1 a.A a.l.length (a.l.map Value.string)) (hlm : ∀ a ∈ l, a.l.length ≤ maxLen) :
    Calls Try.prog 6 #[.slice A l.length c] w fun e w' => e = .returned (.bool (shP l)) ∧ w = w' := by
  have HL := Lib.hid hl; have HLS := Lib.hid hls; have HLM := Lib.hid hlm
  clear hl hls hlm
  have hsh : shP l = ((l.take 30).drop 0).all shA := by rw [List.drop_zero]; rfl
  have HSH := Lib.hid hsh; clear hsh
  go_enter Try.func6, Try.ntmps6
  go_wp2_with fail
  go_loop [3] (fun v3 => ∃ i : Nat, i ≤ 30 ∧ i ≤ l.length ∧ v3 = .int .i64 i ∧ shP l = ((l.take 30).drop i).all shA) (fun v3 => l.length - (intOf v3).toNat)
  case atStart => exact ⟨0, by omega, Nat.zero_le _, rfl, HSH.out⟩
  case round =>
    obtain ⟨i, hi, hi2, rfl, he⟩ := hrel
    have HE := Lib.hid he; clear he
    by_cases hil : i < l.length ∧ i < 30
    · obtain ⟨h1, h2⟩ := hil
      obtain ⟨a, ha⟩ : ∃ a, l[i]? = some a := ⟨_, List.getElem?_eq_getElem h1⟩
      obtain ⟨ad, rfl, had, e0, e1, e2, e3⟩ := pact_cells HL.out (by omega) i a ha
      have hd : (l.take 30).drop i = a :: (l.take 30).drop (i + 1) := SlI.drop_cons (by rw [List.getElem?_take, if_pos h2]; exact ha)
      rw [hd, List.all_cons] at HE
      have hsa := HLS.out a (List.mem_of_getElem? ha)
      have hla := HLM.out a (List.mem_of_getElem? ha)
      unfold maxLen at hla
      have HSA := Lib.hid hsa
      clear ha hd hsa
      by_cases hs : 300 < a.s.size
      · have hs' : (300 : Int) < (a.s.size : Int) := by omega
        have hq : shA a = false := by unfold shA; rw [decide_eq_false (by omega)]; rfl
        rw [hq, Bool.false_and] at HE
        clear hq hs
        go_wp2
        go_ret
        exact ⟨by rw [HE.out]; rfl, rfl⟩
      · have hs' : ¬ (300 : Int) < (a.s.size : Int) := by omega
        by_cases hn : 10 < a.l.length
        · have hn' : (10 : Int) < (a.l.length : Int) := by omega
          have hq : shA a = false := by unfold shA; rw [decide_eq_false (p := a.l.length ≤ 10) (by omega), Bool.and_false]; rfl
          rw [hq, Bool.false_and] at HE
          clear hq hs hn
          go_wp2
          go_ret
          exact ⟨by rw [HE.out]; rfl, rfl⟩
        · have hn' : ¬ (10 : Int) < (a.l.length : Int) := by omega
          have hq : shA a = (a.l.drop 0).all fun s => decide (s.size ≤ 300) := by
            unfold shA
            rw [decide_eq_true (p := a.s.size ≤ 300) (by omega), decide_eq_true (p := a.l.length ≤ 10) (by omega), List.drop_zero]
            rfl
          have HQ := Lib.hid hq
          clear hq
          go_wp2
          go_loop [4] (fun v4 => ∃ k : Nat, k ≤ a.l.length ∧ v4 = .int .i64 k ∧ shA a = (a.l.drop k).all fun s => decide (s.size ≤ 300)) (fun v4 => a.l.length - (intOf v4).toNat)
          case atStart => exact ⟨0, Nat.zero_le _, rfl, HQ.out⟩
          case round =>
            obtain ⟨k, hk, rfl, hq⟩ := hrel
            have HQK := Lib.hid hq
            clear hq
            by_cases hkl : k < a.l.length
            · obtain ⟨s, hs2⟩ : ∃ s, a.l[k]? = some s := ⟨_, List.getElem?_eq_getElem hkl⟩
              obtain ⟨sd, he5, -, e5⟩ := SlI.str_cells HSA.out (by omega) k s hs2
              rw [SlI.drop_cons hs2, List.all_cons] at HQK
              have HE5 := Lib.hid he5
              obtain ⟨ak, as', aA, ac, al, an⟩ := a
              dsimp only at *
              have he6 := HE5.out
              subst he6
              clear hs2 HE5 he5
              by_cases hs3 : 300 < s.size
              · have hs3' : (300 : Int) < (s.size : Int) := by omega
                rw [decide_eq_false (p := s.size ≤ 300) (by omega), Bool.false_and] at HQK
                clear hs3
                go_wp2
                go_ret
                exact ⟨by rw [HE.out, HQK.out]; rfl, rfl⟩
              · have hs3' : ¬ (300 : Int) < (s.size : Int) := by omega
                rw [decide_eq_true (p := s.size ≤ 300) (by omega), Bool.true_and] at HQK
                clear hs3
                go_wp2
                go_round
                case rel => exact ⟨k + 1, by omega, by go_num, HQK.out⟩
                case measure => simp [intOf]; omega
            · have hz : a.l.drop k = [] := List.drop_eq_nil_of_le (by omega)
              rw [hz] at HQK
              clear hz
              go_wp2
              go_round
              case rel => exact ⟨i + 1, by omega, by omega, by go_num, by rw [HE.out, HQK.out]; rfl⟩
              case measure => simp [intOf]; omega
    · have hz : (l.take 30).drop i = [] := List.drop_eq_nil_of_le (by rw [List.length_take]; omega)
      rw [hz] at HE
      clear hz
      by_cases h1 : i < l.length
      all_goals
        go_wp2
        go_ret
        exact ⟨by rw [HE.out]; rfl, rfl⟩
end Pt
section
open Go.WideShapes Go.ChangeShapes
variable {H : Type} {enc : TypeId × Value → H} {W : World} {v : Value} {d : DataW H} {ps : List MemPlace} {r : Reach} {b0 : Nat}
theorem Pt.flat_one {α : Type} (f : α → Value) (l : List α) : l.flatMap (fun a => [f a]) = l.map f := by induction l <;> simp_all
theorem Pt.open_strs (hv : ∃ A n c, v = .slice A n c) (h : DataW.Trod enc Try.prog W 0 (fun _ => true) true 22 v d ps) :
    ∃ (A : Option Addr) (c : Nat) (l : List ByteArray), v = .slice A l.length c ∧ l.length ≤ c ∧ c ≤ maxLen ∧ Src W 1 A l.length (l.map Value.string) := by
  obtain ⟨A, c, l, h1, h2, h3, h4, _, _⟩ := open_rows (α := ByteArray) (fun a => [Value.string a]) (fun _ => True) 1 Try.underlying22 (by kernel_rfl) (by decide) (fun _ => rfl)
    (fun fuel cs y hy => by
      obtain ⟨x, hx, hd, hm⟩ := DataW.trod_string Try.underlying9 hy
      exact ⟨x, hx, trivial⟩) h hv
  rw [Pt.flat_one] at h4
  exact ⟨A, c, l, h1, h2, h3, h4⟩
end
end Go.Proofs.Ythgdkhgpboaplaa
