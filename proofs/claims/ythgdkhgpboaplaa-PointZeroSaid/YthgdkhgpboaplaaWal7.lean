
/- The law WalKeeps. -/
import Derived.Test.YthgdkhgpboaplaaWal6
set_option linter.unusedSimpArgs false
set_option linter.unusedVariables false
namespace Go.Proofs.Ythgdkhgpboaplaa
open Go.RowKit
set_option maxRecDepth 100000
namespace Wl
open Disk Fr Vn Ops
/-- Nothing lies below the log's first number. -/
structure Low (first : Int) (m : Disk.Safe) (ps : List Disk.Pc) : Prop where
  file : ∀ x, x < first → (sget m x).size = 0
  pc : ∀ p ∈ ps, first ≤ p.1
theorem pcsOf_mem (first : Int) : ∀ (R : St) (T : List (List UInt8)), (∀ t ∈ T, t.length ≤ 65536) → ∀ p ∈ pcsOf first R T, p.2.size ≤ 65549 ∧ first ≤ p.1 ∧ p.1 ≤ first + (R.length + T.length : Nat)
  | R, [], _, p, hp => by cases hp
  | R, t :: T, hT, p, hp => by
    rcases List.mem_cons.1 hp with rfl | hp
    · refine ⟨by rw [ofL_sz]; exact frame_le (hT t (by simp)), ?_, ?_⟩
      · show first ≤ first + (lastOf R : Int); omega
      · have := lastOf_le R; show first + (lastOf R : Int) ≤ _; omega
    · obtain ⟨h1, h2, h3⟩ := pcsOf_mem first (app R t) T (fun x hx => hT x (by simp [hx])) p hp
      have := app_grow R t
      exact ⟨h1, h2, by simp only [List.length_cons]; omega⟩
section
variable {first : Int} {R : St} {T : List (List UInt8)} {m : Disk.Safe} {ps : List Disk.Pc}
theorem Low.pcs (h : Low first m ps) (hl : Log first R T m ps) : ps = pcsOf first R T := by
  rw [← hl.rest, List.filter_eq_self.2]
  intro p hp
  have := h.pc p hp
  simpa [mine] using this
theorem bts_le {R : St} (h : Ok R) (i : Nat) : (bts R i).length ≤ 66000 := by
  induction R with
  | nil => exact Nat.zero_le _
  | cons f R ih =>
    simp only [bts]
    split
    · exact (h f (by simp)).size
    · exact ih (fun g hg => h g (List.mem_cons_of_mem _ hg))
theorem Low.size (h : Low first m ps) (hl : Log first R T m ps) (f : Int) : (sget m f).size ≤ 66000 := by
  by_cases hf : f < first
  · rw [h.file f hf]; exact Nat.zero_le _
  · have h2 := hl.safe (f - first).toNat
    rw [show first + ((f - first).toNat : Int) = f by omega] at h2
    unfold sget
    rw [h2, getD_fileAt, ofL_sz]
    exact bts_le hl.ok _
theorem Low.fits {n : Nat} (h : Low first m ps) (hl : Log first R T m ps) (h1 : 1 ≤ first) (h2 : first + (R.length + T.length : Nat) ≤ 1073741824) (hn : n ≤ 100000) (hT : T.length < 100000) : Fits n m ps := by
  have hp := h.pcs hl
  refine ⟨hn, by rw [hp, pcsOf_len]; exact hT, fun f => by have := h.size hl f; omega, fun p hq => ?_⟩
  rw [hp] at hq
  obtain ⟨h3, h4, h5⟩ := pcsOf_mem first R T hl.T p hq
  exact ⟨h3, by omega, by omega⟩
theorem Low.append (h : Low first m ps) {f : Int} {s : ByteArray} (hf : first ≤ f) : Low first m (ps ++ [(f, s)]) :=
  ⟨h.file, fun p hp => by
    rcases List.mem_append.1 hp with hp | hp
    · exact h.pc p hp
    · simp at hp; subst hp; exact hf⟩
theorem sget_low {x f : Int} (hx : x < f) (s : ByteArray) (m : Disk.Safe) : sget (sput m f s) x = sget m x := by
  rw [sget_sput, if_neg (by omega)]
theorem Low.sync (h : Low first m ps) : Low first (syncM m ps) [] := by
  refine ⟨fun x hx => ?_, fun p hp => by cases hp⟩
  have : ∀ (ps : List Disk.Pc) (m : Disk.Safe), (∀ p ∈ ps, first ≤ p.1) → sget (syncM m ps) x = sget m x := by
    intro ps
    induction ps with
    | nil => intro m _; rfl
    | cons p ps ih =>
      intro m hp
      have h1 := hp p (by simp)
      rw [syncM, ih _ (fun q hq => hp q (by simp [hq])), sget_low (by omega)]
  rw [this ps m h.pc]
  exact h.file x hx
theorem Low.crash (h : Low first m ps) (left : Nat) : Low first (crashM m left ps) [] := by
  refine ⟨fun x hx => ?_, fun p hp => by cases hp⟩
  have : ∀ (ps : List Disk.Pc) (m : Disk.Safe) (left : Nat), (∀ p ∈ ps, first ≤ p.1) → sget (crashM m left ps) x = sget m x := by
    intro ps
    induction ps with
    | nil => intro m left _; rfl
    | cons p ps ih =>
      intro m left hp
      have h1 := hp p (by simp)
      unfold crashM
      split
      · split
        · rfl
        · rw [sget_low (by omega)]
      · rw [ih _ _ (fun q hq => hp q (by simp [hq])), sget_low (by omega)]
  rw [this ps m left h.pc]
  exact h.file x hx
end
/-- Between two calls: the disk behind g, the log behind gw, what has been appended, how much of it is sure. -/
structure KAt (w : World) (g i : Nat) (v4 v7 v8 : Value) (wr : World) (gw : Nat) (F : Nat → Prop) (n : Nat) (m : Disk.Safe) (ps : List Disk.Pc) (boot : Int) (R : St) (T : List (List UInt8)) (A : Option Addr) (c : Nat) : Prop where
  e4 : v4 = .pointer (some ⟨gw, 0, none⟩)
  e7 : v7 = .slice A (texts R ++ T).length c
  e8 : v8 = .int .i64 ((texts R).length : Nat)
  d : DiskAt wr g F n m ps 1 boot
  wl : WAt wr gw g (1 + lastOf (cur R T))
  log : Log 1 R T m ps
  low : Low 1 m ps
  b0 : 0 ≤ boot
  b1 : boot ≤ 1073741824
  n1 : n + T.length ≤ i
  n2 : R.length + T.length ≤ i
  n3 : (texts R ++ T).length ≤ i
  row : NewSl 9 1 w.heap.size wr A (texts R ++ T).length c (tcells (texts R ++ T))
  f : ∀ k, F k → w.heap.size ≤ k
  gw : w.heap.size ≤ gw
  k : Kept NoF w wr
def KInv (w : World) (g i : Nat) (v4 v7 v8 : Value) (wr : World) : Prop := ∃ gw F n m ps boot R T A c, KAt w g i v4 v7 v8 wr gw F n m ps boot R T A c
theorem KAt.fits {w : World} {g i : Nat} {v4 v7 v8 : Value} {wr : World} {gw : Nat} {F : Nat → Prop} {n : Nat} {m : Disk.Safe} {ps : List Disk.Pc} {boot : Int} {R : St} {T : List (List UInt8)} {A : Option Addr} {c : Nat}
    (h : KAt w g i v4 v7 v8 wr gw F n m ps boot R T A c) (hi : i ≤ 40) : Fits n m ps := by
  have h1 := h.n1; have h2 := h.n2
  exact h.low.fits h.log (by decide) (by omega) (by omega) (by omega)
theorem KAt.row2 {w w2 : World} {g i : Nat} {v4 v7 v8 : Value} {wr : World} {gw : Nat} {F : Nat → Prop} {n : Nat} {m : Disk.Safe} {ps : List Disk.Pc} {boot : Int} {R : St} {T : List (List UInt8)} {A : Option Addr} {c : Nat}
    (h : KAt w g i v4 v7 v8 wr gw F n m ps boot R T A c) (hk : Kept (fun k => F k ∨ k = gw) wr w2) : w2.ownsRow 0 9 1 (.slice A (texts R ++ T).length c) (texts R ++ T).length (tcells (texts R ++ T)) := own_kept h.row.1 hk (fun k hk2 hf => by
    rcases hf with hf | rfl
    · exact DiskAt.apart h.d h.row.1 (by decide) (by decide) k hk2 hf
    · exact own_ne h.row.1 h.wl (by decide) hk2)
theorem KAt.next {w : World} {g i : Nat} {v4 v7 v8 : Value} {wr : World} {gw : Nat} {F : Nat → Prop} {n : Nat} {m : Disk.Safe} {ps : List Disk.Pc} {boot : Int} {R : St} {T : List (List UInt8)} {A : Option Addr} {c : Nat}
    (h : KAt w g i v4 v7 v8 wr gw F n m ps boot R T A c) : KInv w g (i + 1) v4 v7 v8 wr :=
  ⟨gw, F, n, m, ps, boot, R, T, A, c, h.e4, h.e7, h.e8, h.d, h.wl, h.log, h.low, h.b0, h.b1, Nat.le_trans h.n1 (by omega), Nat.le_trans h.n2 (by omega), Nat.le_trans h.n3 (by omega), h.row, h.f, h.gw, h.k⟩
theorem lastOf_cur (R : St) (T : List (List UInt8)) : lastOf (cur R T) ≤ R.length + T.length := Nat.le_trans (lastOf_le _) (cur_grow R T)
theorem len_snoc {α : Type} (a b : List α) (t : α) : (a ++ (b ++ [t])).length = (a ++ b).length + 1 := by simp; omega
/-- An append, and the text behind all. -/
theorem KAt.app {w w2 w3 : World} {g i : Nat} {v4 v7 v8 : Value} {wr : World} {gw : Nat} {F : Nat → Prop} {n : Nat} {m : Disk.Safe} {ps : List Disk.Pc} {boot : Int} {R : St} {T : List (List UInt8)} {A : Option Addr} {c : Nat}
    (h : KAt w g i v4 v7 v8 wr gw F n m ps boot R T A c) {s : ByteArray} (hs : s.size ≤ 65536) {F2 : Nat → Prop} (hd : DiskAt w2 g F2 n m (ps ++ [((1 : Int) + lastOf (cur R T), ofL (frameL (bl s)))]) 1 boot) (hg : Grows wr F F2) (hw : WAt w2 gw g (1 + lastOf (cur R (T ++ [bl s]))))
    (hk : Kept (fun k => F k ∨ k = gw) wr w2) {A' : Option Addr} {c' : Nat} (hown : w3.ownsRow 0 9 1 (.slice A' ((texts R ++ T).length + 1) c') ((texts R ++ T).length + 1) (tcells (texts R ++ T) ++ [.string s])) {w2a : World} (hk2 : Kept NoF w2 w2a) (hgr : w2a.grownBy w3 (Value.slice A (texts R ++ T).length c).ownBlock)
    (hbl : (Value.slice A' ((texts R ++ T).length + 1) c').ownBlock = (Value.slice A (texts R ++ T).length c).ownBlock ∨ (Value.slice A' ((texts R ++ T).length + 1) c').ownBlock = some w2a.heap.size) :
    KInv w g (i + 1) v4 (.slice A' ((texts R ++ T).length + 1) c') v8 w3 := by
  have hn1 := h.n1; have hn2 := h.n2; have hn3 := h.n3
  have hrow2 : w2.ownsRow 0 9 1 (.slice A (texts R ++ T).length c) (texts R ++ T).length (tcells (texts R ++ T)) := own_kept h.row.1 hk (fun k hk2 hf => by
    rcases hf with hf | rfl
    · exact DiskAt.apart h.d h.row.1 (by decide) (by decide) k hk2 hf
    · exact own_ne h.row.1 h.wl (by decide) hk2)
  have hrow2a : w2a.ownsRow 0 9 1 (.slice A (texts R ++ T).length c) (texts R ++ T).length (tcells (texts R ++ T)) := own_kept hrow2 hk2 (fun _ _ z => z)
  have hkg : Kept (fun k => (Value.slice A (texts R ++ T).length c).ownBlock = some k) w2 w3 := Kept.grown (hk2.mono (fun _ z => z.elim)) hgr (fun k hk => .inl hk)
  have hkk : Kept NoF w w2 := h.k.trans hk (fun k hk => by
    rcases hk with hk | rfl
    · exact .inr (h.f k hk)
    · exact .inr h.gw)
  have ht : T ++ [bl s] ≠ [] := by simp
  refine ⟨gw, F2, n, m, _, boot, R, T ++ [bl s], A', c', h.e4, ?_, h.e8, hd.kept hkg (fun k hk2 he => DiskAt.apart hd hrow2 (by decide) (by decide) k he hk2), hw.kept hkg (fun he => own_ne hrow2 hw (by decide) he), ?_, h.low.append (by omega), h.b0, h.b1, ?_, ?_, ?_, ⟨?_, ?_⟩, ?_, h.gw, ?_⟩
  · rw [len_snoc]
  · exact h.log.append (by rw [size_bl]; exact hs)
  · simp; omega
  · simp; omega
  · rw [len_snoc]; omega
  · rw [len_snoc, ← List.append_assoc]
    have : tcells (texts R ++ T ++ [bl s]) = tcells (texts R ++ T) ++ [.string s] := by simp [tcells, ofL_bl]
    rw [this]
    exact hown
  · intro k hk9
    rw [len_snoc] at hk9
    rcases hbl with e | e
    · exact h.row.2 k (e.symm.trans hk9)
    · have h9 := e.symm.trans hk9
      injection h9 with h9
      have := hk2.size
      have := hkk.size
      omega
  · intro k hk9
    rcases hg k hk9 with z | z
    · exact h.f k z
    · exact Nat.le_trans h.k.size z
  · exact hkk.trans hkg (fun k hk => .inr (h.row.2 k hk))
/-- A sync. -/
theorem KAt.sync {w w2 : World} {g i : Nat} {v4 v7 v8 : Value} {wr : World} {gw : Nat} {F : Nat → Prop} {n : Nat} {m : Disk.Safe} {ps : List Disk.Pc} {boot : Int} {R : St} {T : List (List UInt8)} {A : Option Addr} {c : Nat}
    (h : KAt w g i v4 v7 v8 wr gw F n m ps boot R T A c) (hd : DiskAt w2 g F (n + ps.length) (syncM m ps) [] 1 boot) (hk : Kept F wr w2) :
    KInv w g (i + 1) v4 v7 (.int .i64 ((texts R ++ T).length : Nat)) w2 := by
  have hn1 := h.n1; have hn2 := h.n2; have hn3 := h.n3
  have hpl : ps.length = T.length := by rw [h.low.pcs h.log, pcsOf_len]
  have hcg := cur_grow R T
  have hrow2 : NewSl 9 1 w.heap.size w2 A (texts R ++ T).length c (tcells (texts R ++ T)) := ⟨own_kept h.row.1 hk (fun k hk2 hf => DiskAt.apart h.d h.row.1 (by decide) (by decide) k hk2 hf), h.row.2⟩
  refine ⟨gw, F, _, _, [], boot, cur R T, [], A, c, h.e4, ?_, ?_, hd, ?_, h.log.sync, h.low.sync, h.b0, h.b1, ?_, ?_, ?_, ?_, h.f, h.gw, h.k.trans hk (fun k hk => .inr (h.f k hk))⟩
  · rw [cur_texts, List.append_nil]; exact h.e7
  · rw [cur_texts]
  · exact h.wl.kept hk (DiskAt.ne h.d h.wl)
  · simp; omega
  · simp; omega
  · rw [cur_texts, List.append_nil]; omega
  · rw [cur_texts, List.append_nil]; exact hrow2
/-- A crash, and the log is opened again. -/
theorem KAt.crash {w w2 w3 w4 : World} {g i : Nat} {v4 v7 v8 : Value} {wr : World} {gw gw' : Nat} {F : Nat → Prop} {n : Nat} {m m' : Disk.Safe} {ps : List Disk.Pc} {boot : Int} {R R' : St} {T : List (List UInt8)} {A A' : Option Addr} {c c' : Nat}
    (h : KAt w g i v4 v7 v8 wr gw F n m ps boot R T A c) (hk : Kept F wr w2) (hd : DiskAt w2 g F (n + ps.length) m' [] 1 (min (boot + 1) 1073741824)) (hl : Log 1 R' [] m' []) (hlo : Low 1 m' []) (ht : (texts R').length ≤ (texts R ++ T).length) (hlen : R'.length ≤ R.length + T.length)
    (hw : WAt w3 gw' g (1 + lastOf R')) (hgw : w2.heap.size ≤ gw') (hrow : NewSl 9 1 w2.heap.size w3 A' (texts R').length c' (tcells (texts R'))) (hb : Below w2.heap.size w2 w3) (hk4 : Kept NoF w3 w4) :
    KInv w g (i + 1) (.pointer (some ⟨gw', 0, none⟩)) (.slice A' (texts R').length c') (.int .i64 ((texts R').length : Nat)) w4 := by
  have hn1 := h.n1; have hn2 := h.n2; have hn3 := h.n3
  have hpl : ps.length = T.length := by rw [h.low.pcs h.log, pcsOf_len]
  have hk23 : Kept NoF w2 w3 := Kept.of_below hb (fun k hk _ => hk)
  have hkw : Kept NoF w w2 := h.k.trans hk (fun k hk => .inr (h.f k hk))
  refine ⟨gw', F, _, m', [], _, R', [], A', c', rfl, ?_, rfl, (hd.kept hk23 (fun _ _ z => z)).kept hk4 (fun _ _ z => z), hw.kept hk4 (fun z => z), hl, hlo, ?_, ?_, ?_, ?_, ?_, ?_, h.f, Nat.le_trans hkw.size hgw, (hkw.then hk23).then hk4⟩
  · rw [List.append_nil]
  · have := h.b0; omega
  · omega
  · simp; omega
  · simp; omega
  · rw [List.append_nil]; omega
  · rw [List.append_nil]
    exact ⟨(hrow.kept hk4).1, fun k hk => Nat.le_trans hkw.size (hrow.2 k hk)⟩
theorem tcells_map (l : List (List UInt8)) : tcells l = (l.map ofL).map Value.string := by simp [tcells]
theorem one_str (x : ByteArray) : ∀ u ∈ [Value.string x], u.oneCell' = true := by
  intro u hu
  obtain rfl : u = .string x := by simpa using hu
  rfl
def KDone (w : World) (e : Ending) (w' : World) : Prop := e = .returned (.bool true) ∧ Below w.heap.size w w'
end Wl
end Go.Proofs.Ythgdkhgpboaplaa
