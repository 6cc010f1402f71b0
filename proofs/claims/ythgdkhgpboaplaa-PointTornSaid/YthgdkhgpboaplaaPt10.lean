
/- The checkpointed log: awake; one that nobody made. -/
import Derived.Test.YthgdkhgpboaplaaPt9
set_option linter.unusedSimpArgs false
set_option linter.unusedVariables false
namespace Go.Proofs.Ythgdkhgpboaplaa
open Go.RowKit
set_option maxRecDepth 100000
namespace Pt
open Disk Fr Vn Ops Wl
theorem rises_eq : ∀ {a b : List Int}, a.Pairwise (· < ·) → b.Pairwise (· < ·) → (∀ x, x ∈ a ↔ x ∈ b) → a = b
  | [], [], _, _, _ => rfl
  | [], y :: b, _, _, h => by have := (h y).2 (by simp); simp at this
  | x :: a, [], _, _, h => by have := (h x).1 (by simp); simp at this
  | x :: a, y :: b, ha, hb, h => by
    rw [List.pairwise_cons] at ha hb
    have hxy : x = y := by
      rcases List.mem_cons.1 ((h x).1 (by simp)) with e | h1
      · exact e
      · rcases List.mem_cons.1 ((h y).2 (by simp)) with e | h2
        · exact e.symm
        · have := hb.1 x h1; have := ha.1 y h2; omega
    subst hxy
    rw [rises_eq ha.2 hb.2 (fun z => ?_)]
    constructor
    · intro hz
      rcases List.mem_cons.1 ((h z).1 (List.mem_cons_of_mem _ hz)) with e | h1
      · have := ha.1 z hz; omega
      · exact h1
    · intro hz
      rcases List.mem_cons.1 ((h z).2 (List.mem_cons_of_mem _ hz)) with e | h1
      · have := hb.1 z hz; omega
      · exact h1
/-- The numbers of a log's files. -/
def nums (first : Int) (K : Nat) : List Int := (List.range K).map fun (i : Nat) => first + (i : Int)
theorem files_nums {m : Disk.Safe} {ps : List Disk.Pc} {fl : List Int} {first : Int} {K : Nat} (h : FilesAre m ps fl) (hf : ∀ x, isFile m ps x = decide (first ≤ x ∧ x < first + K)) (h0 : 0 ≤ first) (h1 : first + K ≤ 1152921504606846976) : fl = nums first K := by
  refine rises_eq h.rises ?_ (fun x => ?_)
  · unfold nums
    rw [List.pairwise_map]
    exact List.pairwise_lt_range.imp (fun h => by omega)
  · rw [h.mem, hf]
    unfold nums
    simp only [decide_eq_true_eq, List.mem_map, List.mem_range]
    constructor
    · rintro ⟨_, h2, h3⟩
      exact ⟨(x - first).toNat, by omega, by omega⟩
    · rintro ⟨i, h2, rfl⟩
      exact ⟨i64_small (by omega) (by omega), by omega, by omega⟩
def bA : ByteArray := ⟨#[97]⟩
def bB : ByteArray := ⟨#[98]⟩
def bC : ByteArray := ⟨#[99]⟩
def bD : ByteArray := ⟨#[100]⟩
theorem low_size {first : Int} {R : St} {T : List (List UInt8)} {m : Disk.Safe} {ps : List Disk.Pc} {n : Nat} (h : LowN first m ps) (hl : Log first R T m ps) (h1 : 1 ≤ first) (h2 : first + (R.length + T.length : Nat) ≤ 1073741824) (hn : n ≤ 100000) (hT : T.length < 100000) : Fits n m ps :=
  h.low.fits hl h1 h2 hn hT
theorem src_has {w : World} {b : Nat} {l : List ByteArray} (h : Has w b 9 (l.map Value.string).toArray) : Src w 1 (some ⟨b, 0, none⟩) l.length (l.map Value.string) := by
  have := Src.of_has (m := l.length) (size := 1) h (by simp)
  simpa using this
/-- A point of the call's own: all its blocks are new. -/
structure PtW (w0 w : World) (gp gw g : Nat) (F : Nat → Prop) (n : Nat) (m : Disk.Safe) (ps : List Disk.Pc) (boot first : Int) (R : St) (T : List (List UInt8)) (A : Option Addr) (c : Nat) (l : List ByteArray) : Prop where
  pt : PtAt w w0.heap.size gp gw g F n m ps 1 boot first R T A c l
  f : ∀ k, F k → w0.heap.size ≤ k
  gp : w0.heap.size ≤ gp
  gw : w0.heap.size ≤ gw
  k : Kept NoF w0 w
section
variable {w0 w w' : World} {gp gw g n c : Nat} {F : Nat → Prop} {m : Disk.Safe} {ps : List Disk.Pc} {boot first : Int} {R : St} {T : List (List UInt8)} {A : Option Addr} {l : List ByteArray}
theorem PtW.kept (h : PtW w0 w gp gw g F n m ps boot first R T A c l) (hk : Kept NoF w w') : PtW w0 w' gp gw g F n m ps boot first R T A c l :=
  ⟨h.pt.kept hk, h.f, h.gp, h.gw, h.k.then hk⟩
theorem PtW.of_new (hk : Kept NoF w0 w) (hF : ∀ k, F k → w0.heap.size ≤ k) {e : Ending} (h : PNewPost w g F n 1 boot e w') : ∃ gp gw F' m' A c, e = .returned (.tuple #[.pointer (some ⟨gp, 0, none⟩), .int .i64 0]) ∧ PtW w0 w' gp gw g F' (n + 1) m' [] boot 1 (cur [] (ptx 0 [])) [] A c [] := by
  obtain ⟨gp, gw, F', m', A, c, he, hp, h1, h2, h3, h4⟩ := h
  have hs := hk.size
  refine ⟨gp, gw, F', m', A, c, he, ⟨⟨hp.d, hp.p, hp.wl, ⟨hp.row.1, fun k hk => Nat.le_trans hs (hp.row.2 k hk)⟩, hp.log, hp.low, hp.f1, hp.tx, hp.hs⟩, fun k hk2 => ?_, Nat.le_trans hs h1, Nat.le_trans hs h2, hk.trans h4 (fun k hk2 => .inr (hF k hk2))⟩⟩
  rcases h3 k hk2 with z | z
  · exact hF k z
  · omega
theorem PtW.app (h : PtW w0 w gp gw g F n m ps boot first R T A c l) {s : ByteArray} {e : Ending} (ha : PAppPost w w0.heap.size gp gw g F n m ps 1 boot first R T A c l s e w') :
    e = .returned (.int .i64 0) ∧ ∃ F' A' c', PtW w0 w' gp gw g F' n m (ps ++ [(first + lastOf (cur R T), ofL (frameL (84 :: bl s)))]) boot first R (T ++ [84 :: bl s]) A' c' (l ++ [s]) := by
  obtain ⟨he, F', A', c', hp, hk, hG⟩ := ha
  refine ⟨he, F', A', c', hp, fun k hk2 => ?_, h.gp, h.gw, h.k.trans hk (fun k hk2 => .inr ?_)⟩
  · rcases hG k hk2 with z | z
    · exact h.f k z
    · exact Nat.le_trans h.k.size z
  · rcases hk2 with z | z | z | z
    · exact h.f k z
    · rw [z]; exact h.gp
    · rw [z]; exact h.gw
    · exact h.pt.row.2 k z
theorem PtW.sync (h : PtW w0 w gp gw g F n m ps boot first R T A c l) {e : Ending} (ha : PSyncPost w w0.heap.size gp gw g F n m ps 1 boot first R T A c l e w') :
    (∃ k : Int, e = .returned (.int .i64 k)) ∧ PtW w0 w' gp gw g F (n + ps.length) (syncM m ps) [] boot first (cur R T) [] A c l :=
  ⟨ha.1, ha.2.1, h.f, h.gp, h.gw, h.k.trans ha.2.2 (fun k hk => .inr (h.f k hk))⟩
theorem PtW.save (h : PtW w0 w gp gw g F n m ps boot first R T A c l) {f' : Int} {l' : List ByteArray} {e : Ending} (ha : PSavePost w w0.heap.size gp g F n ps 1 boot f' l' e w') :
    e = .returned (.int .i64 0) ∧ ∃ gw' F' m' A' c', PtW w0 w' gp gw' g F' (n + ps.length + l'.length + 1) m' [] boot f' (cur [] (ptx l'.length l')) [] A' c' l' := by
  obtain ⟨he, gw', F', m', A', c', hp, h1, h2, h3, h4⟩ := ha
  refine ⟨he, gw', F', m', A', c', hp, fun k hk => ?_, h.gp, Nat.le_trans h.k.size h1, h.k.trans h3 (fun k hk => .inr ?_)⟩
  · rcases h2 k hk with z | z
    · exact h.f k z
    · exact Nat.le_trans h.k.size z
  · rcases hk with z | z
    · exact h.f k z
    · rw [z]; exact h.gp
theorem PtW.fits (h : PtW w0 w gp gw g F n m ps boot first R T A c l) (h2 : first + (R.length + T.length : Nat) ≤ 1073741824) (hn : n ≤ 100000) (hT : T.length < 100000) : Fits n m ps := low_size h.pt.low h.pt.log h.pt.f1 h2 hn hT
end
set_option maxHeartbeats 4000000 in
theorem awake_any' (w : World) : Calls Try.prog 7 #[] w fun e w' => e = .returned (.bool true) ∧ Kept NoF w w' := by
  go_enter Try.func7, Try.ntmps7
  go_wp2_with fail
  refine (new_any _).mono ?_
  rintro e w1 ⟨g, F1, rfl, h1, k1, hF1⟩
  have HP1 := Lib.hid (new_any' h1 (by decide))
  have HK1 := Lib.hid k1; have HF1 := Lib.hid hF1
  clear h1 k1 hF1
  go_wp2_with fail
  refine HP1.out.mono ?_
  intro e w2 hpost
  obtain ⟨gp, gw, F2, m2, A2, c2, rfl, h2⟩ := PtW.of_new HK1.out HF1.out hpost
  have ha := papp_any h2.pt (h2.fits (by decide) (by decide) (by decide)) h2.k.size (by decide) (by decide) bA (by decide)
  have HA := Lib.hid ha; have H2 := Lib.hid h2
  clear ha h2 hpost
  go_wp2_with fail
  refine HA.out.mono ?_
  intro e w3 hpost
  obtain ⟨rfl, F3, A3, c3, h3⟩ := H2.out.app hpost
  have h4 := h3.kept (w' := w3.alloc (.cells #[.string bB, .string bC] 9)) ((Kept.refl _ _).alloc _)
  have hsv := psave_any h4.pt (h4.fits (by decide) (by decide) (by decide)) h4.k.size (some ⟨w3.heap.size, 0, none⟩) 2 [bB, bC] (src_has (Has.new w3 9 #[.string bB, .string bC]))
    (fun _ ad e => by injection e with e; subst e; exact ⟨fun hf => by have := h3.pt.d.lt _ hf; simp at this, fun e2 => by have := h3.pt.p.lt; simp at e2; omega⟩) (fun s hs => by simp at hs; rcases hs with rfl | rfl <;> decide) (by decide) (by decide) (by decide)
  have HSV := Lib.hid hsv; have H4 := Lib.hid h4
  clear hpost h3 h4 hsv
  go_wp2_with fail
  refine HSV.out.mono ?_
  intro e w5 hpost
  obtain ⟨rfl, gw5, F5, m5, A5, c5, h5⟩ := H4.out.save hpost
  have ha := papp_any h5.pt (h5.fits (by decide) (by decide) (by decide)) h5.k.size (by decide) (by decide) bD (by decide)
  have HA5 := Lib.hid ha; have H5 := Lib.hid h5
  clear ha h5 hpost
  go_wp2_with fail
  refine HA5.out.mono ?_
  intro e w6 hpost
  obtain ⟨rfl, F6, A6, c6, h6⟩ := H5.out.app hpost
  have htx := texts_any h6.pt (by decide)
  have HTX := Lib.hid htx; have H6 := Lib.hid h6
  clear hpost htx h6
  go_wp2_with fail
  refine HTX.out.mono ?_
  rintro e w7 ⟨A7, c7, rfl, hn7, hb7⟩
  have hk7 : Kept NoF w6 w7 := Kept.of_below hb7 (fun k hk _ => hk)
  have hk8 : Kept NoF w7 (w7.alloc (.cells #[.string bB, .string bC, .string bD] 9)) := (Kept.refl _ _).alloc _
  have hsm := SlI.same_eq (w7.alloc (.cells #[.string bB, .string bC, .string bD] 9)) A7 (some ⟨w7.heap.size, 0, none⟩) c7 3 [bB, bC, bD] ((Src.of_own hn7.1).kept hk8 (fun _ _ z => z)) (src_has (Has.new w7 9 #[.string bB, .string bC, .string bD])) (by decide)
  have HSM := Lib.hid hsm; have HK8 := Lib.hid (hk7.then hk8)
  clear hn7 hb7 hk7 hk8 hsm
  go_wp2_with fail
  refine HSM.out.mono ?_
  rintro e w9 ⟨rfl, hk9⟩
  have h9 := H6.out.kept (HK8.out.then hk9)
  have hfi := files_any h9.pt.d (h9.fits (by decide) (by decide) (by decide)).i64 (by decide) (by decide)
  have hif := h9.pt.low.isFile h9.pt.log
  have hK : (cur (cur [] (ptx [bB, bC].length [bB, bC])) ([] ++ [84 :: bl bD])).length = 1 := by decide
  rw [hK] at hif
  have HFI := Lib.hid hfi; have HIF := Lib.hid hif; have HK9 := Lib.hid h9.k
  clear h9 hfi hif hK hk9
  go_wp2_with fail
  refine HFI.out.mono ?_
  rintro e w10 ⟨fl, A10, c10, rfl, hfa, -, -, hk10⟩
  have hfl := files_nums hfa HIF.out (by decide) (by decide)
  subst hfl
  go_wp2_with fail
  go_ret
  exact ⟨rfl, HK9.out.then hk10⟩
end Pt
end Go.Proofs.Ythgdkhgpboaplaa
