
/- The checkpointed log: begin. -/
import Derived.Test.YthgdkhgpboaplaaPt3
import Derived.Test.YthgdkhgpboaplaaWalS
set_option linter.unusedSimpArgs false
set_option linter.unusedVariables false
namespace Go.Proofs.Ythgdkhgpboaplaa
open Go.RowKit
set_option maxRecDepth 100000
namespace Pt
open Disk Fr Vn Ops Wl
/-- The texts of a log that begins with a checkpoint of k texts. -/
def ptx (k : Nat) (l : List ByteArray) : List (List UInt8) := (80 :: put k) :: l.map fun s => 84 :: bl s
theorem ptx_snoc (k : Nat) (l : List ByteArray) (s : ByteArray) : ptx k (l ++ [s]) = ptx k l ++ [84 :: bl s] := by simp [ptx]
theorem ptx_len (k : Nat) (l : List ByteArray) : (ptx k l).length = l.length + 1 := by simp [ptx]
theorem DiskAt.not {F : Nat → Prop} {w : World} {g n k : Nat} {m : Disk.Safe} {ps : List Disk.Pc} {ser boot : Int} {t : TypeId} {cs : Array Value} (h : DiskAt w g F n m ps ser boot) (hh : Has w k t cs) (h1 : t ≠ 66) (h2 : t ≠ 68) : ¬ F k := by
  obtain ⟨mb, A, c, hF, hg, hm, ho⟩ := h
  intro hf
  rcases (hF k).1 hf with rfl | rfl | hx
  · exact hg.ne hh (fun e => h1 e.symm) rfl
  · exact hm.ne hh rfl
  · exact own_ne ho hh (fun e => h2 e.symm) hx
theorem Src.keptIf {F : Nat → Prop} {w w' : World} {size m : Nat} {A : Option Addr} {news : List Value} (h : Src w size A m news) (hk : Kept F w w') (hf : 0 < m → ∀ ad, A = some ad → ¬ F ad.block) : Src w' size A m news := by
  rcases Nat.eq_zero_or_pos m with rfl | h0
  · have e : news = [] := List.eq_nil_of_length_eq_zero (by have := h.1; omega)
    rw [e]
    exact Src.nil _ _ _
  · exact h.kept hk (hf h0)
theorem ofL_cat (a b : List UInt8) : ofL a ++ ofL b = ofL (a ++ b) := by
  apply ByteArray.ext
  simp [ofL]
/-- The point behind block gp. -/
abbrev PAt (w : World) (gp : Nat) (v0 : Value) (g : Nat) (first : Int) (v3 : Value) : Prop := Has w gp 32 #[v0, .pointer (some ⟨g, 0, none⟩), .int .i64 first, v3]
def BeginPost (w : World) (gp g : Nat) (F : Nat → Prop) (n : Nat) (m : Disk.Safe) (ps : List Disk.Pc) (ser boot f : Int) (l : List ByteArray) (e : Ending) (w' : World) : Prop :=
  e = .returned (.int .i64 0) ∧ ∃ F' gw A c, DiskAt w' g F' (n + (ps ++ pcsOf f [] (ptx l.length l)).length) (syncM m (ps ++ pcsOf f [] (ptx l.length l))) [] ser boot ∧ WAt w' gw g (f + lastOf (cur [] (ptx l.length l))) ∧ PAt w' gp (.pointer (some ⟨gw, 0, none⟩)) g f (.slice A l.length c) ∧
    NewSl 9 1 w.heap.size w' A l.length c (l.map Value.string) ∧ w.heap.size ≤ gw ∧ Grows w F F' ∧ Kept (fun k => F k ∨ k = gp) w w'
section
variable {F : Nat → Prop} {w : World} {g gp n : Nat} {m : Disk.Safe} {ps : List Disk.Pc} {ser boot f first : Int}
theorem curT_le (T : List (List UInt8)) : lastOf (cur [] T) ≤ T.length := by
  have h1 := lastOf_le (cur [] T)
  have h2 := cur_grow [] T
  simp at h2
  omega
/-- Between two appends of begin. -/
structure BAt (w : World) (gp g be : Nat) (F : Nat → Prop) (n : Nat) (m : Disk.Safe) (ps : List Disk.Pc) (ser boot f : Int) (gw : Nat) (T : List (List UInt8)) (F' : Nat → Prop) (wr : World) : Prop where
  d : DiskAt wr g F' n m (ps ++ pcsOf f [] T) ser boot
  wl : WAt wr gw g (f + lastOf (cur [] T))
  grows : Grows w F F'
  k : Kept F w wr
  be : Has wr be 33 #[.int .i64 0]
theorem BAt.app {be gw : Nat} {T : List (List UInt8)} {F' : Nat → Prop} {wr w3 : World} (h : BAt w gp g be F n m ps ser boot f gw T F' wr) (hl : Log f [] T m (ps ++ pcsOf f [] T)) (hgw : w.heap.size ≤ gw) {t : List UInt8} {F3 : Nat → Prop}
    (hd : DiskAt w3 g F3 n m (ps ++ pcsOf f [] T ++ [(f + lastOf (cur [] T), ofL (frameL t))]) ser boot) (hg : Grows wr F' F3) (hw : WAt w3 gw g (f + lastOf (cur [] (T ++ [t])))) (hk : Kept (fun k => F' k ∨ k = gw) wr w3) : BAt w gp g be F n m ps ser boot f gw (T ++ [t]) F3 w3 := by
  refine ⟨?_, hw, h.grows.trans hg h.k.size, h.k.trans hk (fun k hk => ?_), h.be.kept hk (fun hf => ?_)⟩
  · rw [pcsOf_snoc, ← List.append_assoc]; exact hd
  · rcases hk with hk | rfl
    · exact h.grows k hk
    · exact .inr hgw
  · rcases hf with hf | rfl
    · exact DiskAt.not h.d h.be (by decide) (by decide) hf
    · exact h.be.ne h.wl (by decide) rfl
theorem BAt.keep {be gw : Nat} {T : List (List UInt8)} {F' : Nat → Prop} {wr w3 : World} (h : BAt w gp g be F n m ps ser boot f gw T F' wr) (hk : Kept NoF wr w3) : BAt w gp g be F n m ps ser boot f gw T F' w3 :=
  ⟨h.d.kept hk (fun _ _ z => z), h.wl.kept hk (fun z => z), h.grows, h.k.then (hk.mono (fun _ z => z.elim)), h.be.kept hk (fun z => z)⟩
theorem log_of {T : List (List UInt8)} (h : Log f [] [] m ps) (hT : ∀ t ∈ T, t.length ≤ 65536) : Log f [] T m (ps ++ pcsOf f [] T) := by
  refine ⟨h.safe, ?_, h.ok, hT⟩
  have h1 : (pcsOf f [] T).filter (mine f) = pcsOf f [] T := List.filter_eq_self.2 (fun p hp => by
    have := pcsOf_mem f [] T hT p hp
    simpa [mine] using this.2.1)
  rw [List.filter_append, h1, h.rest]
  rfl
theorem fits_of {T : List (List UInt8)} (h : Fits n m ps) (hT : ∀ t ∈ T, t.length ≤ 65536) (h1 : 1 ≤ f) (h2 : f + T.length ≤ 1073741824) (h3 : ps.length + T.length < 100000) : Fits n m (ps ++ pcsOf f [] T) := by
  refine ⟨h.n, by rw [List.length_append, pcsOf_len]; exact h3, h.file, fun p hp => ?_⟩
  rcases List.mem_append.1 hp with hp | hp
  · exact h.pc p hp
  · obtain ⟨h4, h5, h6⟩ := pcsOf_mem f [] T hT p hp
    simp at h6
    exact ⟨h4, by omega, by omega⟩
theorem bat_append {be gw : Nat} {T : List (List UInt8)} {F' : Nat → Prop} {wr : World} (h : BAt w gp g be F n m ps ser boot f gw T F' wr) (hl : Log f [] [] m ps) (hf : Fits n m ps) (hT : ∀ t ∈ T, t.length ≤ 65536) (hgw : w.heap.size ≤ gw) (h1 : 1 ≤ f) (h2 : f + T.length ≤ 1073741824) (h3 : ps.length + T.length < 100000) (s : ByteArray) (hs : s.size ≤ 65536) :
    Calls Try.prog 31 #[.pointer (some ⟨gw, 0, none⟩), .string s] wr fun e w' => e = .returned (.int .i64 0) ∧ ∃ F3, BAt w gp g be F n m ps ser boot f gw (T ++ [bl s]) F3 w' := by
  have hlog := log_of hl hT
  have hct := curT_le T
  refine (lappend_any h.d h.wl hlog (fits_of hf hT h1 h2 h3) h1 (by omega) s hs).mono ?_
  rintro e w3 ⟨he, F3, hd, hg, hw, hk⟩
  exact ⟨he, F3, h.app hlog hgw hd hg hw hk⟩
end
end Pt
end Go.Proofs.Ythgdkhgpboaplaa
