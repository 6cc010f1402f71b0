/- The law WalKeeps. -/
import Derived.Test.YtnkdmfaghpkidaaWal5
set_option linter.unusedSimpArgs false
set_option linter.unusedVariables false
namespace Go.Proofs.Ytnkdmfaghpkidaa
open Go.RowKit
set_option maxRecDepth 100000
namespace Wl
open Disk Fr Vn Ops
/-! ### calls as cells -/
structure ActW where
  k : Int
  s : ByteArray
  n : Int
  f : Int
instance : Inhabited ActW := ⟨⟨0, ⟨#[]⟩, 0, 0⟩⟩
def wcells (a : ActW) : List Value := [.int .i64 a.k, .string a.s, .int .i64 a.n, .int .i64 a.f]
def acs (l : List ActW) : List Value := l.flatMap wcells
theorem act_cells {w : World} {A : Option Addr} {m : Nat} {l : List ActW} (h : Src w 4 A m (acs l)) (hm : 0 < m) (i : Nat) (a : ActW) (ha : l[i]? = some a) :
    ∃ ad, A = some ad ∧ ad.block < w.heap.size ∧ w.cell? (ad.add (i * 4)) = some (.int .i64 a.k) ∧ w.cell? ⟨(ad.add (i * 4)).block, (ad.add (i * 4)).off + 1, none⟩ = some (.string a.s) ∧ w.cell? ⟨(ad.add (i * 4)).block, (ad.add (i * 4)).off + 2, none⟩ = some (.int .i64 a.n) := by
  obtain ⟨ad, rfl, had, hcell⟩ := h.2 hm
  have hk : ∀ j v, j < 4 → (wcells a)[j]? = some v → w.cell? (ad.add (i * 4 + j)) = some v := by
    intro j v hj hv
    refine hcell _ _ ?_
    unfold acs
    rw [flat_get wcells 4 (by decide) (fun _ => rfl), show (i * 4 + j) / 4 = i by omega, show (i * 4 + j) % 4 = j by omega, ha]
    exact hv
  refine ⟨ad, rfl, had, hk 0 _ (by decide) rfl, ?_, ?_⟩
  · rw [← add_lit _ (by omega), add_add]; exact hk 1 _ (by decide) rfl
  · rw [← add_lit _ (by omega), add_add]; exact hk 2 _ (by decide) rfl
end Wl
section
open Go.WideShapes Go.ChangeShapes
variable {H : Type} {enc : TypeId × Value → H} {W : World} {v : Value} {d : DataW H} {ps : List MemPlace} {r : Reach} {b0 : Nat}
theorem Wl.open_acts (hv : ∃ A n c, v = .slice A n c) (h : DataW.Trod enc Try.prog W 0 (fun _ => true) true 36 v d ps) :
    ∃ (A : Option Addr) (c : Nat) (l : List Wl.ActW), v = .slice A l.length c ∧ l.length ≤ c ∧ c ≤ maxLen ∧ Src W 4 A l.length (Wl.acs l) ∧ (∀ a ∈ l, Disk.I64 a.n ∧ a.s.size ≤ maxLen) := by
  obtain ⟨A, c, l, h1, h2, h3, h4, h5, _⟩ := open_rows (α := Wl.ActW) Wl.wcells (fun a => Disk.I64 a.n ∧ a.s.size ≤ maxLen) 4 Try.underlying36 (by kernel_rfl) (by decide) (fun _ => rfl)
    (fun fuel cs y hy => by
      obtain ⟨y0, y1, y2, y3, n, _, hl, h0, h1, h2, h3⟩ := Joins.trod_struct4 Try.underlying40 hy
      have hC : Try.prog.cellsOf 40 = 4 := by kernel_rfl
      rw [hC] at hl
      match cs, hl with
      | [c0, c1, c2, c3], _ =>
        have e3 : Try.prog.cellsOf 3 = 1 := by kernel_rfl
        have e9 : Try.prog.cellsOf 9 = 1 := by kernel_rfl
        obtain ⟨x0, hx0, _, _⟩ := DataW.trod_int Try.underlying3 h0
        obtain ⟨x1, hx1, _, m1⟩ := DataW.trod_string Try.underlying9 h1
        obtain ⟨x2, hx2, _, m2⟩ := DataW.trod_int Try.underlying3 h2
        obtain ⟨x3, hx3, _, m3⟩ := DataW.trod_int Try.underlying3 h3
        simp [e3, e9] at hx0 hx1 hx2 hx3
        subst hx0
        subst hx1
        subst hx2
        subst hx3
        exact ⟨⟨x0, x1, x2, x3⟩, rfl, m2, m1⟩) h hv
  exact ⟨A, c, l, h1, h2, h3, h4, h5⟩
end
namespace Wl
open Disk Fr Vn Ops
theorem rows_apart {w : World} {t u : TypeId} {n m b1 b2 s1 s2 : Nat} {v v' : Value} {xs ys : List Value} (h : w.ownsRow b1 t s1 v n xs) (h' : w.ownsRow b2 u s2 v' m ys) (hne : t ≠ u) {k : Nat} (hk : v.ownBlock = some k) : v'.ownBlock ≠ some k := by
  rcases h.2 with ⟨rfl, _⟩ | ⟨g, cap, cur, rfl, _, hh, _⟩
  · simp [Value.ownBlock] at hk
  · obtain rfl : g = k := by simpa [Value.ownBlock] using hk
    exact own_ne h' (show Has w g t cur from hh) (fun e => hne e.symm)
theorem DiskAt.apart {F : Nat → Prop} {w : World} {g n b s k : Nat} {m : Disk.Safe} {ps : List Disk.Pc} {ser boot : Int} {e : TypeId} {v : Value} {xs : List Value} (h : DiskAt w g F n m ps ser boot) (hr : w.ownsRow b e s v k xs)
    (h1 : e ≠ 55) (h2 : e ≠ 57) : ∀ i, v.ownBlock = some i → ¬ F i := by
  intro i hi hf
  obtain ⟨mb, A, c, hF, hg, hm, ho⟩ := h
  rcases (hF i).1 hf with rfl | rfl | hx
  · exact own_ne hr hg h1 hi
  · exact hm.ne_row hr hi
  · exact rows_apart hr ho h2 hi hx
/-! ### short -/
def shB (l : List ActW) : Bool := (l.take 40).all fun a => decide (a.s.size ≤ 300)
theorem shB_get {l : List ActW} (h : shB l = true) {i : Nat} {a : ActW} (hi : i < 40) (ha : l[i]? = some a) : a.s.size ≤ 300 := by
  unfold shB at h
  rw [List.all_eq_true] at h
  have := h a (List.mem_of_getElem? (i := i) (by rw [List.getElem?_take, if_pos hi]; exact ha))
  simpa using this
set_option maxHeartbeats 2000000 in
theorem short_any (w : World) (A : Option Addr) (c : Nat) (l : List ActW) (hl : Src w 4 A l.length (acs l)) :
    Calls Try.prog 10 #[.slice A l.length c] w fun e w' => e = .returned (.bool (shB l)) ∧ w = w' := by
  have HL := Lib.hid hl; clear hl
  have hsh : shB l = ((l.take 40).drop 0).all fun a => decide (a.s.size ≤ 300) := by rw [List.drop_zero]; rfl
  have HSH := Lib.hid hsh; clear hsh
  go_enter Try.func10, Try.ntmps10
  go_wp2_with fail
  go_loop [3] (fun v3 => ∃ i : Nat, i ≤ 40 ∧ i ≤ l.length ∧ v3 = .int .i64 i ∧ shB l = ((l.take 40).drop i).all fun a => decide (a.s.size ≤ 300)) (fun v3 => l.length - (intOf v3).toNat)
  case atStart => exact ⟨0, by omega, Nat.zero_le _, rfl, HSH.out⟩
  case round =>
    obtain ⟨i, hi, hi2, rfl, he⟩ := hrel
    have HE := Lib.hid he; clear he
    by_cases hil : i < l.length ∧ i < 40
    · obtain ⟨h1, h2⟩ := hil
      obtain ⟨a, ha⟩ : ∃ a, l[i]? = some a := ⟨_, List.getElem?_eq_getElem h1⟩
      obtain ⟨ad, rfl, had, e0, e1, e2⟩ := act_cells HL.out (by omega) i a ha
      have hd : (l.take 40).drop i = a :: (l.take 40).drop (i + 1) := drop_cons (by rw [List.getElem?_take, if_pos h2]; exact ha)
      rw [hd, List.all_cons] at HE
      clear ha hd
      by_cases hs : 300 < a.s.size
      · have hs' : (300 : Int) < (a.s.size : Int) := by omega
        have hq : decide (a.s.size ≤ 300) = false := decide_eq_false (by omega)
        rw [hq, Bool.false_and] at HE
        clear hq hs
        go_wp2
        go_ret
        exact ⟨by rw [HE.out]; rfl, rfl⟩
      · have hs' : ¬ (300 : Int) < (a.s.size : Int) := by omega
        have hq : decide (a.s.size ≤ 300) = true := decide_eq_true (by omega)
        rw [hq, Bool.true_and] at HE
        clear hq hs
        go_wp2
        go_round
        case rel => exact ⟨i + 1, by omega, by omega, by go_num, HE.out⟩
        case measure => simp [intOf]; omega
    · have hz : (l.take 40).drop i = [] := List.drop_eq_nil_of_le (by rw [List.length_take]; omega)
      rw [hz] at HE
      clear hz
      by_cases h1 : i < l.length
      all_goals
        go_wp2
        go_ret
        exact ⟨by rw [HE.out]; rfl, rfl⟩
end Wl
end Go.Proofs.Ytnkdmfaghpkidaa
