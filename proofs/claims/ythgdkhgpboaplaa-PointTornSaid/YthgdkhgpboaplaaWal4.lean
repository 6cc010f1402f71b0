
/- The log by its plain state: Open, Read, Append. -/
import Derived.Test.YthgdkhgpboaplaaWalP
import Derived.Test.YthgdkhgpboaplaaWal3
set_option linter.unusedSimpArgs false
set_option linter.unusedVariables false
namespace Go.Proofs.Ythgdkhgpboaplaa
open Go.RowKit
set_option maxRecDepth 100000
namespace Wl
open Disk Fr Vn Ops
section
variable {F : Nat → Prop} {w : World} {g gw n : Nat} {m : Disk.Safe} {ps : List Disk.Pc} {ser boot first : Int} {R : St} {T : List (List UInt8)}
def LOpenPost (w : World) (g : Nat) (first : Int) (R : St) (e : Ending) (w' : World) : Prop :=
  ∃ gw A c, e = .returned (.tuple #[.pointer (some ⟨gw, 0, none⟩), .slice A (texts R).length c, .int .i64 0]) ∧ WAt w' gw g (first + lastOf R) ∧ w.heap.size ≤ gw ∧
    NewSl 9 1 w.heap.size w' A (texts R).length c (tcells (texts R)) ∧ Below w.heap.size w w'
def LReadPost (w : World) (first : Int) (R : St) (e : Ending) (w' : World) : Prop :=
  ∃ A c, e = .returned (.tuple #[.slice A (texts R).length c, .int .i64 (first + lastOf R)]) ∧ NewSl 9 1 w.heap.size w' A (texts R).length c (tcells (texts R)) ∧ Below w.heap.size w w'
/-- Sizes: no file is long, no piece is, nor their number. -/
structure Fits (n : Nat) (m : Disk.Safe) (ps : List Disk.Pc) : Prop where
  n : n ≤ 100000
  len : ps.length < 100000
  file : ∀ f, (sget m f).size ≤ 100000
  pc : ∀ p ∈ ps, p.2.size ≤ 65549 ∧ 1 ≤ p.1 ∧ p.1 ≤ 1073741824
theorem total_le {ps : List Disk.Pc} {k : Nat} (h : ∀ p ∈ ps, p.2.size ≤ k) : total ps ≤ ps.length * k := by
  induction ps with
  | nil => simp [total]
  | cons p ps ih =>
    have h1 := h p (by simp)
    have h2 := ih (fun q hq => h q (by simp [hq]))
    rw [total_cons, List.length_cons, Nat.succ_mul]
    omega
theorem Fits.total (h : Fits n m ps) : Disk.total ps ≤ 6554900000 := by
  have h1 := total_le (k := 65549) (fun p hp => (h.pc p hp).1)
  have := h.len
  omega
theorem Fits.i64 (h : Fits n m ps) : ∀ p ∈ ps, I64 p.1 := fun p hp => by have := h.pc p hp; exact i64_small (by omega) (by omega)
theorem lread_list (h : Log first R T m ps) (hf1 : 1 ≤ first) (hf2 : first ≤ 1073741824) (hl : (cur R T).length ≤ 100000) :
    ∃ ls : List Sg, ls.map (·.1) = segsF (isFile m ps) (dataOf m ps) (cur R T).length first ∧ readT ls = texts (cur R T) ∧ atN first ls = first + lastOf (cur R T) ∧ ls.length = (cur R T).length := by
  obtain ⟨ls, h3, h4, h5, h6⟩ := sg_list hf1 (by omega) (cur_ok h.ok h.T) (by omega)
  refine ⟨ls, h3.trans h.segs.1.symm, h4, ?_, h6⟩
  by_cases hc : cur R T = []
  · rw [hc] at h6 ⊢
    obtain rfl : ls = [] := List.eq_nil_of_length_eq_zero h6
    simp [atN, lastOf]
  · exact h5 _ hc
theorem lread_any (hd : DiskAt w g F n m ps ser boot) (h : Log first R T m ps) (hf : Fits n m ps) (hf1 : 1 ≤ first) (hf2 : first ≤ 1073741824) (hl : (cur R T).length ≤ 100000) :
    Calls Try.prog 51 #[.pointer (some ⟨g, 0, none⟩), .int .i64 first] w (LReadPost w first (cur R T)) := by
  obtain ⟨ls, h3, h4, h5, h6⟩ := lread_list h hf1 hf2 hl
  have ht := hf.total
  refine (read_any w g n F m ps ser boot first (cur R T).length ls hd hf.i64 hf.n (by have := hf.len; omega) (fun f => by have := hf.file f; omega) hf1 hf2 (by omega) h.segs.2 h3 (by omega)).mono ?_
  rintro e w' ⟨A, c, h7, h8, h9⟩
  rw [h4] at h7 h8
  rw [h5] at h7
  exact ⟨A, c, h7, h8, h9⟩
theorem lopen_any (hd : DiskAt w g F n m ps ser boot) (h : Log first R T m ps) (hf : Fits n m ps) (hf1 : 1 ≤ first) (hf2 : first ≤ 1073741824) (hl : (cur R T).length ≤ 100000) :
    Calls Try.prog 28 #[.pointer (some ⟨g, 0, none⟩), .int .i64 first] w (LOpenPost w g first (cur R T)) := by
  obtain ⟨ls, h3, h4, h5, h6⟩ := lread_list h hf1 hf2 hl
  have ht := hf.total
  refine (open_any w g n F m ps ser boot first (cur R T).length ls hd hf.i64 hf.n (by have := hf.len; omega) (fun f => by have := hf.file f; omega) hf1 hf2 (by omega) h.segs.2 h3 (by omega)).mono ?_
  rintro e w' ⟨gw, A, c, h7, h8, h9, h10, h11⟩
  rw [h4] at h7 h10
  rw [h5] at h8
  exact ⟨gw, A, c, h7, h8, h9, h10, h11⟩
def LAppPost (w : World) (g gw : Nat) (F : Nat → Prop) (n : Nat) (m : Disk.Safe) (ps : List Disk.Pc) (ser boot first : Int) (R : St) (T : List (List UInt8)) (e : Ending) (w' : World) : Prop :=
  e = .returned (.int .i64 0) ∧ ∃ F', DiskAt w' g F' n m ps ser boot ∧ Grows w F F' ∧ WAt w' gw g (first + lastOf (cur R T)) ∧ Kept (fun k => F k ∨ k = gw) w w'
theorem lappend_any (hd : DiskAt w g F n m ps ser boot) (hw : WAt w gw g (first + lastOf (cur R T))) (h : Log first R T m ps) (hf : Fits n m ps) (hf1 : 1 ≤ first) (hf2 : first + lastOf (cur R T) ≤ 1073741824) (s : ByteArray) (hs : s.size ≤ 65536) :
    Calls Try.prog 31 #[.pointer (some ⟨gw, 0, none⟩), .string s] w (LAppPost w g gw F n m (ps ++ [(first + lastOf (cur R T), ofL (frameL (bl s)))]) ser boot first R (T ++ [bl s])) := by
  have ht := hf.total
  refine (append_any hd hw s hs (by omega) hf2 hf.len (by have := hf.file (first + lastOf (cur R T)); omega)).mono ?_
  rintro e w' ⟨h1, F', h2, h3, h4, h5⟩
  refine ⟨h1, F', h2, h3, ?_, h5⟩
  have h6 := (h.append (t := bl s) (by rw [size_bl]; exact hs)).file (lastOf (cur R T))
  rw [h6.2, ofL_sz, cur_snoc] at h4
  rw [cur_snoc, last_app]
  split
  · rename_i h7
    rw [if_pos h7] at h4
    rw [show first + ((lastOf (cur R T) + 1 : Nat) : Int) = first + (lastOf (cur R T) : Int) + 1 by omega]
    exact h4
  · rename_i h7
    rw [if_neg h7] at h4
    exact h4
theorem Fits.append (h : Fits n m ps) {f : Int} {t : List UInt8} (hl : ps.length + 1 < 100000) (h1 : 1 ≤ f) (h2 : f ≤ 1073741824) (ht : t.length ≤ 65536) : Fits n m (ps ++ [(f, ofL (frameL t))]) :=
  ⟨h.n, by simp; omega, h.file, fun p hp => by
    rcases List.mem_append.1 hp with hp | hp
    · exact h.pc p hp
    · simp at hp
      subst hp
      dsimp only
      rw [ofL_sz]
      exact ⟨frame_le ht, h1, h2⟩⟩
end
/-! ### awake -/
def tA : ByteArray := ⟨#[97]⟩
theorem log_new (first : Int) : Log first [] [] (fun _ => none) [] := ⟨fun i => rfl, rfl, (fun f hf => by cases hf), (fun t ht => by cases ht)⟩
theorem fits_new : Fits 0 (fun _ => none) [] := ⟨by decide, by decide, (fun f => Nat.zero_le _), (fun p hp => by cases hp)⟩
theorem last_small {t : List UInt8} (h : t.length ≤ 200) : lastOf (app [] t) = 0 := by
  have h2 := put_le (n := t.length) (by omega)
  have h3 := frameL_len t
  simp only [app, lastOf, List.length_nil]
  rw [if_neg]
  simp [full, byF, fileL]
  omega
end Wl
end Go.Proofs.Ythgdkhgpboaplaa
