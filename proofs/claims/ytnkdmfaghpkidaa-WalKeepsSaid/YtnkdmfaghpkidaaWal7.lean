/- The law WalKeeps. -/
import Derived.Test.YtnkdmfaghpkidaaWal6
set_option linter.unusedSimpArgs false
set_option linter.unusedVariables false
namespace Go.Proofs.Ytnkdmfaghpkidaa
open Go.RowKit
set_option maxRecDepth 100000
namespace Wl
open Disk Fr Vn Ops
/-- Nothing lies below the log's first number. -/
structure Low (first : Int) (m : Disk.Safe) (ps : List Disk.Pc) : Prop where
  file : ∀ x, x < first → (sget m x).size = 0
  pc : ∀ p ∈ ps, first ≤ p.1
theorem pcsOf_mem (first : Int) : ∀ (R : St) (T : List (List UInt8)), (∀ t ∈ T, t.length ≤ 65536) → ∀ p ∈ pcsOf first R T, p.2.size ≤ 65549 ∧ first ≤ p.1 ∧ p.1 ≤ first + (R.length + T.length : Nat)
  | R, [], _, p, hp => by cases hp
  | R, t :: T, hT, p, hp => by
    rcases List.mem_cons.1 hp with rfl | hp
    · refine ⟨by rw [ofL_sz]; exact frame_le (hT t (by simp)), ?_, ?_⟩
      · show first ≤ first + (lastOf R : Int); omega
      · have := lastOf_le R; show first + (lastOf R : Int) ≤ _; omega
    · obtain ⟨h1, h2, h3⟩ := pcsOf_mem first (app R t) T (fun x hx => hT x (by simp [hx])) p hp
      have := app_grow R t
      exact ⟨h1, h2, by simp only [List.length_cons]; omega⟩
section
variable {first : Int} {R : St} {T : List (List UInt8)} {m : Disk.Safe} {ps : List Disk.Pc}
theorem Low.pcs (h : Low first m ps) (hl : Log first R T m ps) : ps = pcsOf first R T := by
  rw [← hl.rest, List.filter_eq_self.2]
  intro p hp
  have := h.pc p hp
  simpa [mine] using this
theorem bts_le {R : St} (h : Ok R) (i : Nat) : (bts R i).length ≤ 66000 := by
  induction R with
  | nil => exact Nat.zero_le _
  | cons f R ih =>
    simp only [bts]
    split
    · exact (h f (by simp)).size
    · exact ih (fun g hg => h g (List.mem_cons_of_mem _ hg))
theorem Low.size (h : Low first m ps) (hl : Log first R T m ps) (f : Int) : (sget m f).size ≤ 66000 := by
  by_cases hf : f < first
  · rw [h.file f hf]; exact Nat.zero_le _
  · have h2 := hl.safe (f - first).toNat
    rw [show first + ((f - first).toNat : Int) = f by omega] at h2
    unfold sget
    rw [h2, getD_fileAt, ofL_sz]
    exact bts_le hl.ok _
theorem Low.fits {n : Nat} (h : Low first m ps) (hl : Log first R T m ps) (h1 : 1 ≤ first) (h2 : first + (R.length + T.length : Nat) ≤ 1073741824) (hn : n ≤ 100000) (hT : T.length < 100000) : Fits n m ps := by
  have hp := h.pcs hl
  refine ⟨hn, by rw [hp, pcsOf_len]; exact hT, fun f => by have := h.size hl f; omega, fun p hq => ?_⟩
  rw [hp] at hq
  obtain ⟨h3, h4, h5⟩ := pcsOf_mem first R T hl.T p hq
  exact ⟨h3, by omega, by omega⟩
theorem Low.append (h : Low first m ps) {f : Int} {s : ByteArray} (hf : first ≤ f) : Low first m (ps ++ [(f, s)]) :=
  ⟨h.file, fun p hp => by
    rcases List.mem_append.1 hp with hp | hp
    · exact h.pc p hp
    · simp at hp; subst hp; exact hf⟩
theorem sget_low {x f : Int} (hx : x < f) (s : ByteArray) (m : Disk.Safe) : sget (sput m f s) x = sget m x := by
  rw [sget_sput, if_neg (by omega)]
theorem Low.sync (h : Low first m ps) : Low first (syncM m ps) [] := by
  refine ⟨fun x hx => ?_, fun p hp => by cases hp⟩
  have : ∀ (ps : List Disk.Pc) (m : Disk.Safe), (∀ p ∈ ps, first ≤ p.1) → sget (syncM m ps) x = sget m x := by
    intro ps
    induction ps with
    | nil => intro m _; rfl
    | cons p ps ih =>
      intro m hp
      have h1 := hp p (by simp)
      rw [syncM, ih _ (fun q hq => hp q (by simp [hq])), sget_low (by omega)]
  rw [this ps m h.pc]
  exact h.file x hx
theorem Low.crash (h : Low first m ps) (left : Nat) : Low first (crashM m left ps) [] := by
  refine ⟨fun x hx => ?_, fun p hp => by cases hp⟩
  have : ∀ (ps : List Disk.Pc) (m : Disk.Safe) (left : Nat), (∀ p ∈ ps, first ≤ p.1) → sget (crashM m left ps) x = sget m x := by
    intro ps
    induction ps with
    | nil => intro m left _; rfl
    | cons p ps ih =>
      intro m left hp
      have h1 := hp p (by simp)
      unfold crashM
      split
      · split
        · rfl
        · rw [sget_low (by omega)]
      · rw [ih _ _ (fun q hq => hp q (by simp [hq])), sget_low (by omega)]
  rw [this ps m left h.pc]
  exact h.file x hx
end
/-- Between two calls: the disk behind g, the log behind gw, what has been appended, how much of it is sure. -/
structure KAt (w : World) (g i : Nat) (v4 v7 v8 : Value) (wr : World) (gw : Nat) (F : Nat → Prop) (n : Nat) (m : Disk.Safe) (ps : List Disk.Pc) (boot : Int) (R : St) (T : List (List UInt8)) (A : Option Addr) (c : Nat) : Prop where
  e4 : v4 = .pointer (some ⟨gw, 0, none⟩)
  e7 : v7 = .slice A (texts R ++ T).length c
  e8 : v8 = .int .i64 ((texts R).length : Nat)
  d : DiskAt wr g F n m ps 1 boot
  wl : WAt wr gw g (1 + lastOf (cur R T))
  log : Log 1 R T m ps
  low : Low 1 m ps
  b0 : 0 ≤ boot
  b1 : boot ≤ 1073741824
  n1 : n + T.length ≤ i
  n2 : R.length + T.length ≤ i
  n3 : (texts R ++ T).length ≤ i
  row : NewSl 9 1 w.heap.size wr A (texts R ++ T).length c (tcells (texts R ++ T))
  f : ∀ k, F k → w.heap.size ≤ k
  gw : w.heap.size ≤ gw
  k : Kept NoF w wr
def KInv (w : World) (g i : Nat) (v4 v7 v8 : Value) (wr : World) : Prop := ∃ gw F n m ps boot R T A c, KAt w g i v4 v7 v8 wr gw F n m ps boot R T A c
theorem KAt.fits {w : World} {g i : Nat} {v4 v7 v8 : Value} {wr : World} {gw : Nat} {F : Nat → Prop} {n : Nat} {m : Disk.Safe} {ps : List Disk.Pc} {boot : Int} {R : St} {T : List (List UInt8)} {A : Option Addr} {c : Nat}
    (h : KAt w g i v4 v7 v8 wr gw F n m ps boot R T A c) (hi : i ≤ 40) : Fits n m ps := by
  have h1 := h.n1; have h2 := h.n2
  exact h.low.fits h.log (by decide) (by omega) (by omega) (by omega)
theorem KAt.row2 {w w2 : World} {g i : Nat} {v4 v7 v8 : Value} {wr : World} {gw : Nat} {F : Nat → Prop} {n : Nat} {m : Disk.Safe} {ps : List Disk.Pc} {boot : Int} {R : St} {T : List (List UInt8)} {A : Option Addr} {c : Nat}
    (h : KAt w g i v4 v7 v8 wr gw F n m ps boot R T A c) (hk : Kept (fun k => F k ∨ k = gw) wr w2) : w2.ownsRow 0 9 1 (.slice A (texts R ++ T).length c) (texts R ++ T).length (tcells (texts R ++ T)) := own_kept h.row.1 hk (fun k hk2 hf => by
    rcases hf with hf | rfl
    · exact DiskAt.apart h.d h.row.1 (by decide) (by decide) k hk2 hf
    · exact own_ne h.row.1 h.wl (by decide) hk2)
theorem KAt.next {w : World} {g i : Nat} {v4 v7 v8 : Value} {wr : World} {gw : Nat} {F : Nat → Prop} {n : Nat} {m : Disk.Safe} {ps : List Disk.Pc} {boot : Int} {R : St} {T : List (List UInt8)} {A : Option Addr} {c : Nat}
    (h : KAt w g i v4 v7 v8 wr gw F n m ps boot R T A c) : KInv w g (i + 1) v4 v7 v8 wr :=
  ⟨gw, F, n, m, ps, boot, R, T, A, c, h.e4, h.e7, h.e8, h.d, h.wl, h.log, h.low, h.b0, h.b1, Nat.le_trans h.n1 (by omega), Nat.le_trans h.n2 (by omega), Nat.le_trans h.n3 (by omega), h.row, h.f, h.gw, h.k⟩
theorem lastOf_cur (R : St) (T : List (List UInt8)) : lastOf (cur R T) ≤ R.length + T.length := Nat.le_trans (lastOf_le _) (cur_grow R T)
theorem len_snoc {α : Type} (a b : List α) (t : α) : (a ++ (b ++ [t])).length = (a ++ b).length + 1 := by simp; omega
/-- An append, and the text behind all. -/
theorem KAt.app {w w2 w3 : World} {g i : Nat} {v4 v7 v8 : Value} {wr : World} {gw : Nat} {F : Nat → Prop} {n : Nat} {m : Disk.Safe} {ps : List Disk.Pc} {boot : Int} {R : St} {T : List (List UInt8)} {A : Option Addr} {c : Nat}
    (h : KAt w g i v4 v7 v8 wr gw F n m ps boot R T A c) {s : ByteArray} (hs : s.size ≤ 65536) {F2 : Nat → Prop} (hd : DiskAt w2 g F2 n m (ps ++ [((1 : Int) + lastOf (cur R T), ofL (frameL (bl s)))]) 1 boot) (hg : Grows wr F F2) (hw : WAt w2 gw g (1 + lastOf (cur R (T ++ [bl s]))))
    (hk : Kept (fun k => F k ∨ k = gw) wr w2) {A' : Option Addr} {c' : Nat} (hown : w3.ownsRow 0 9 1 (.slice A' ((texts R ++ T).length + 1) c') ((texts R ++ T).length + 1) (tcells (texts R ++ T) ++ [.string s])) {w2a : World} (hk2 : Kept NoF w2 w2a) (hgr : w2a.grownBy w3 (Value.slice A (texts R ++ T).length c).ownBlock)
    (hbl : (Value.slice A' ((texts R ++ T).length + 1) c').ownBlock = (Value.slice A (texts R ++ T).length c).ownBlock ∨ (Value.slice A' ((texts R ++ T).length + 1) c').ownBlock = some w2a.heap.size) :
    KInv w g (i + 1) v4 (.slice A' ((texts R ++ T).length + 1) c') v8 w3 := by
  have hn1 := h.n1; have hn2 := h.n2; have hn3 := h.n3
  have hrow2 : w2.ownsRow 0 9 1 (.slice A (texts R ++ T).length c) (texts R ++ T).length (tcells (texts R ++ T)) := own_kept h.row.1 hk (fun k hk2 hf => by
    rcases hf with hf | rfl
    · exact DiskAt.apart h.d h.row.1 (by decide) (by decide) k hk2 hf
    · exact own_ne h.row.1 h.wl (by decide) hk2)
  have hrow2a : w2a.ownsRow 0 9 1 (.slice A (texts R ++ T).length c) (texts R ++ T).length (tcells (texts R ++ T)) := own_kept hrow2 hk2 (fun _ _ z => z)
  have hkg : Kept (fun k => (Value.slice A (texts R ++ T).length c).ownBlock = some k) w2 w3 := Kept.grown (hk2.mono (fun _ z => z.elim)) hgr (fun k hk => .inl hk)
  have hkk : Kept NoF w w2 := h.k.trans hk (fun k hk => by
    rcases hk with hk | rfl
    · exact .inr (h.f k hk)
    · exact .inr h.gw)
  have ht : T ++ [bl s] ≠ [] := by simp
  refine ⟨gw, F2, n, m, _, boot, R, T ++ [bl s], A', c', h.e4, ?_, h.e8, hd.kept hkg (fun k hk2 he => DiskAt.apart hd hrow2 (by decide) (by decide) k he hk2), hw.kept hkg (fun he => own_ne hrow2 hw (by decide) he), ?_, h.low.append (by omega), h.b0, h.b1, ?_, ?_, ?_, ⟨?_, ?_⟩, ?_, h.gw, ?_⟩
  · rw [len_snoc]
  · exact h.log.append (by rw [size_bl]; exact hs)
  · simp; omega
  · simp; omega
  · rw [len_snoc]; omega
  · rw [len_snoc, ← List.append_assoc]
    have : tcells (texts R ++ T ++ [bl s]) = tcells (texts R ++ T) ++ [.string s] := by simp [tcells, ofL_bl]
    rw [this]
    exact hown
  · intro k hk9
    rw [len_snoc] at hk9
    rcases hbl with e | e
    · exact h.row.2 k (e.symm.trans hk9)
    · have h9 := e.symm.trans hk9
      injection h9 with h9
      have := hk2.size
      have := hkk.size
      omega
  · intro k hk9
    rcases hg k hk9 with z | z
    · exact h.f k z
    · exact Nat.le_trans h.k.size z
  · exact hkk.trans hkg (fun k hk => .inr (h.row.2 k hk))
/-- A sync. -/
theorem KAt.sync {w w2 : World} {g i : Nat} {v4 v7 v8 : Value} {wr : World} {gw : Nat} {F : Nat → Prop} {n : Nat} {m : Disk.Safe} {ps : List Disk.Pc} {boot : Int} {R : St} {T : List (List UInt8)} {A : Option Addr} {c : Nat}
    (h : KAt w g i v4 v7 v8 wr gw F n m ps boot R T A c) (hd : DiskAt w2 g F (n + ps.length) (syncM m ps) [] 1 boot) (hk : Kept F wr w2) :
    KInv w g (i + 1) v4 v7 (.int .i64 ((texts R ++ T).length : Nat)) w2 := by
  have hn1 := h.n1; have hn2 := h.n2; have hn3 := h.n3
  have hpl : ps.length = T.length := by rw [h.low.pcs h.log, pcsOf_len]
  have hcg := cur_grow R T
  have hrow2 : NewSl 9 1 w.heap.size w2 A (texts R ++ T).length c (tcells (texts R ++ T)) := ⟨own_kept h.row.1 hk (fun k hk2 hf => DiskAt.apart h.d h.row.1 (by decide) (by decide) k hk2 hf), h.row.2⟩
  refine ⟨gw, F, _, _, [], boot, cur R T, [], A, c, h.e4, ?_, ?_, hd, ?_, h.log.sync, h.low.sync, h.b0, h.b1, ?_, ?_, ?_, ?_, h.f, h.gw, h.k.trans hk (fun k hk => .inr (h.f k hk))⟩
  · rw [cur_texts, List.append_nil]; exact h.e7
  · rw [cur_texts]
  · exact h.wl.kept hk (DiskAt.ne h.d h.wl)
  · simp; omega
  · simp; omega
  · rw [cur_texts, List.append_nil]; omega
  · rw [cur_texts, List.append_nil]; exact hrow2
/-- A crash, and the log is opened again. -/
theorem KAt.crash {w w2 w3 w4 : World} {g i : Nat} {v4 v7 v8 : Value} {wr : World} {gw gw' : Nat} {F : Nat → Prop} {n : Nat} {m m' : Disk.Safe} {ps : List Disk.Pc} {boot : Int} {R R' : St} {T : List (List UInt8)} {A A' : Option Addr} {c c' : Nat}
    (h : KAt w g i v4 v7 v8 wr gw F n m ps boot R T A c) (hk : Kept F wr w2) (hd : DiskAt w2 g F (n + ps.length) m' [] 1 (min (boot + 1) 1073741824)) (hl : Log 1 R' [] m' []) (hlo : Low 1 m' []) (ht : (texts R').length ≤ (texts R ++ T).length) (hlen : R'.length ≤ R.length + T.length)
    (hw : WAt w3 gw' g (1 + lastOf R')) (hgw : w2.heap.size ≤ gw') (hrow : NewSl 9 1 w2.heap.size w3 A' (texts R').length c' (tcells (texts R'))) (hb : Below w2.heap.size w2 w3) (hk4 : Kept NoF w3 w4) :
    KInv w g (i + 1) (.pointer (some ⟨gw', 0, none⟩)) (.slice A' (texts R').length c') (.int .i64 ((texts R').length : Nat)) w4 := by
  have hn1 := h.n1; have hn2 := h.n2; have hn3 := h.n3
  have hpl : ps.length = T.length := by rw [h.low.pcs h.log, pcsOf_len]
  have hk23 : Kept NoF w2 w3 := Kept.of_below hb (fun k hk _ => hk)
  have hkw : Kept NoF w w2 := h.k.trans hk (fun k hk => .inr (h.f k hk))
  refine ⟨gw', F, _, m', [], _, R', [], A', c', rfl, ?_, rfl, (hd.kept hk23 (fun _ _ z => z)).kept hk4 (fun _ _ z => z), hw.kept hk4 (fun z => z), hl, hlo, ?_, ?_, ?_, ?_, ?_, ?_, h.f, Nat.le_trans hkw.size hgw, (hkw.then hk23).then hk4⟩
  · rw [List.append_nil]
  · have := h.b0; omega
  · omega
  · simp; omega
  · simp; omega
  · rw [List.append_nil]; omega
  · rw [List.append_nil]
    exact ⟨(hrow.kept hk4).1, fun k hk => Nat.le_trans hkw.size (hrow.2 k hk)⟩
theorem tcells_map (l : List (List UInt8)) : tcells l = (l.map ofL).map Value.string := by simp [tcells]
theorem one_str (x : ByteArray) : ∀ u ∈ [Value.string x], u.oneCell' = true := by
  intro u hu
  obtain rfl : u = .string x := by simpa using hu
  rfl
def KDone (w : World) (e : Ending) (w' : World) : Prop := e = .returned (.bool true) ∧ Below w.heap.size w w'
set_option maxHeartbeats 8000000 in
theorem law_keeps (w : World) (A0 : Option Addr) (c0 : Nat) (l : List ActW) (hl : Src w 4 A0 l.length (acs l)) (hlc : l.length ≤ c0) (hi : ∀ a ∈ l, I64 a.n ∧ a.s.size ≤ maxLen) :
    Calls Try.prog 4 #[.slice A0 l.length c0] w fun e w' => e = .returned (.bool true) ∧ Below w.heap.size w w' := by
  have HL := Lib.hid hl; have HI := Lib.hid hi
  clear hl hi
  have hsh := short_any w A0 c0 l HL.out
  rcases hs : shB l with _ | _
  · rw [hs] at hsh
    have HSH := Lib.hid hsh
    clear hsh hs
    go_enter Try.func4, Try.ntmps4
    go_wp2_with fail
    refine HSH.out.mono ?_
    rintro e w' ⟨rfl, rfl⟩
    go_wp2_with fail
    refine (awake_any _).mono ?_
    rintro e w1 ⟨rfl, hk⟩
    go_wp2_with fail
    go_ret
    exact ⟨rfl, hk.below (Nat.le_refl _) (fun _ z => z.elim)⟩
  · rw [hs] at hsh
    have HSH := Lib.hid hsh; have HS := Lib.hid hs
    clear hsh hs
    go_enter Try.func4, Try.ntmps4
    go_wp2_with fail
    refine HSH.out.mono ?_
    rintro e w' ⟨rfl, rfl⟩
    go_wp2_with fail
    refine (new_any _).mono ?_
    rintro e w1 ⟨g, F1, rfl, h1, k1, hF1⟩
    have H1 := Lib.hid h1; have HK1 := Lib.hid k1; have HF1 := Lib.hid hF1
    clear h1 k1 hF1
    go_wp2_with fail
    refine (lopen_any H1.out (log_new 1) fits_new (by decide) (by decide) (by decide)).mono ?_
    rintro e w2 ⟨gw, A, c, rfl, h2, hgw, hn2, hb2⟩
    have hk2 : Kept NoF w1 w2 := Kept.of_below hb2 (fun k hk _ => hk)
    have hinv : KInv w g 0 (.pointer (some ⟨gw, 0, none⟩)) (.slice none 0 0) (.int .i64 0) w2 :=
      ⟨gw, F1, 0, _, [], 1, [], [], none, 0, rfl, rfl, rfl, H1.out.kept hk2 (fun _ _ z => z), h2, log_new 1, ⟨fun x hx => rfl, fun p hp => by cases hp⟩, by decide, by decide, by decide, by decide, by decide, ⟨⟨rfl, .inl ⟨rfl, rfl⟩⟩, fun k hk => by cases hk⟩, HF1.out, Nat.le_trans HK1.out.size hgw, HK1.out.then hk2⟩
    have HINV := Lib.hid hinv
    clear h2 hgw hn2 hb2 hk2 hinv
    go_wp2_with fail
    go_loopw [4, 7, 8, 9] (fun v4 v7 v8 v9 wr => ∃ i : Nat, i ≤ 40 ∧ i ≤ l.length ∧ v9 = .int .i64 i ∧ KInv w g i v4 v7 v8 wr) (fun _ _ _ v9 _ => l.length - (intOf v9).toNat)
    case atStart => exact ⟨0, by omega, Nat.zero_le _, rfl, HINV.out⟩
    case round =>
      obtain ⟨i, hi, hi2, rfl, gw, F, n, m, ps, boot, R, T, A, c, hka⟩ := hrel
      have HKA := Lib.hid hka
      obtain ⟨L, hL⟩ : ∃ L, L = texts R ++ T := ⟨_, rfl⟩
      obtain ⟨e4, e7, e8⟩ : u4 = Value.pointer (some ⟨gw, 0, none⟩) ∧ u7 = Value.slice A L.length c ∧ u8 = Value.int .i64 ((texts R).length : Nat) := ⟨hka.e4, by rw [hL]; exact hka.e7, hka.e8⟩
      subst e4 e7 e8
      have hn3 : L.length ≤ i := by rw [hL]; exact hka.n3
      have hSL : (texts R).length ≤ L.length := by rw [hL]; simp
      obtain ⟨S, hS⟩ : ∃ S, S = (texts R).length := ⟨_, rfl⟩
      rw [← hS] at hSL ⊢
      have HEL := Lib.hid hL; have HES := Lib.hid hS
      clear hka hL hS
      by_cases hil : i < l.length ∧ i < 40
      · obtain ⟨hil1, hil2⟩ := hil
        obtain ⟨a, ha⟩ : ∃ a, l[i]? = some a := ⟨_, List.getElem?_eq_getElem hil1⟩
        obtain ⟨ad, rfl, had, y0, y1, y2⟩ := act_cells HL.out (by omega) i a ha
        have hs3 : a.s.size ≤ 300 := shB_get HS.out hil2 ha
        have han : I64 a.n := (HI.out a (List.mem_of_getElem? ha)).1
        obtain ⟨ak, sx, an, af⟩ := a
        dsimp only at y0 y1 y2 hs3 han
        have hkc : ∀ (W : World) (p : Addr), Kept NoF wr W → p.block = ad.block → W.cell? p = w.cell? p := fun W p hk hp =>
          World.cell?_of_block (((HKA.out.k.then hk).below (Nat.le_refl _) (fun _ z => z.elim)).block _ (by rw [hp]; exact had))
        have x0 : wr.cell? (ad.add (i * 4)) = some (.int .i64 ak) := (hkc wr _ (Kept.refl _ _) (block_add _ _)).trans y0
        have x1 : wr.cell? ⟨(ad.add (i * 4)).block, (ad.add (i * 4)).off + 1, none⟩ = some (.string sx) := (hkc wr ⟨(ad.add (i * 4)).block, (ad.add (i * 4)).off + 1, none⟩ (Kept.refl _ _) (block_add ad (i * 4))).trans y1
        have x2 : wr.cell? ⟨(ad.add (i * 4)).block, (ad.add (i * 4)).off + 2, none⟩ = some (.int .i64 an) := (hkc wr ⟨(ad.add (i * 4)).block, (ad.add (i * 4)).off + 2, none⟩ (Kept.refl _ _) (block_add ad (i * 4))).trans y2
        have hn2 := HKA.out.n2
        have HX1 := Lib.hid y1
        have HKC := Lib.hid hkc
        have HAD := Lib.hid had
        clear ha had hkc y0 y1 y2
        by_cases hap : ak = 0 ∨ ak = 1 ∨ ak = 4 ∨ ak = 5
        · have hla := lappend_any HKA.out.d HKA.out.wl HKA.out.log (HKA.out.fits hi) (by decide) (by have := lastOf_cur R T; omega) sx (by omega)
          have hM : L.length + 1 ≤ maxLen := by unfold maxLen; omega
          have hY : (L.length + 1) * 16 ≤ 140737488355328 := by omega
          have hfin : ∀ (w3 : World), LAppPost wr g gw F n m (ps ++ [((1 : Int) + lastOf (cur R T), ofL (frameL (bl sx)))]) 1 boot 1 R (T ++ [bl sx]) (.returned (.int .i64 0)) w3 →
              w3.cell? ⟨(ad.add (i * 4)).block, (ad.add (i * 4)).off + 1, none⟩ = some (.string sx) ∧ w3.ownsRow 0 9 1 (.slice A L.length c) L.length (tcells L) ∧
              ∀ A' c' w4, w4.ownsRow 0 9 1 (.slice A' (L.length + 1) c') (L.length + 1) (tcells L ++ [.string sx]) → (w3.alloc (.cells #[.string sx] 9)).grownBy w4 (Value.slice A L.length c).ownBlock →
                ((Value.slice A' (L.length + 1) c').ownBlock = (Value.slice A L.length c).ownBlock ∨ (Value.slice A' (L.length + 1) c').ownBlock = some (w3.alloc (.cells #[.string sx] 9)).heap.size) →
                KInv w g (i + 1) (.pointer (some ⟨gw, 0, none⟩)) (.slice A' (L.length + 1) c') (.int .i64 (S : Nat)) w4 := by
            rw [HEL.out, HES.out]
            rintro w3 ⟨-, F2, h3, h4, h5, h6⟩
            refine ⟨?_, HKA.out.row2 h6, fun A' c' w4 h7 h8 h9 => HKA.out.app (w2 := w3) (by omega) h3 h4 h5 h6 h7 ((Kept.refl _ _).alloc _) h8 h9⟩
            refine (World.cell?_of_block ?_).trans HX1.out
            show w3.heap[(ad.add (i * 4)).block]? = w.heap[(ad.add (i * 4)).block]?
            rw [block_add]
            have hlt := HAD.out
            refine (h6.block _ (Nat.lt_of_lt_of_le hlt HKA.out.k.size) (fun z => ?_)).trans (HKA.out.k.block _ hlt (fun z => z))
            rcases z with z | z
            · have := HKA.out.f _ z; omega
            · have := HKA.out.gw; omega
          have HLA := Lib.hid hla; have HFIN := Lib.hid hfin; have HMX := Lib.hid hM; have HY := Lib.hid hY
          clear hla hs3 hM hY han hn3 hn2 hfin
          rcases hap with rfl | rfl | rfl | rfl
          all_goals
            go_wp2_with fail
            refine HLA.out.mono ?_
            rintro e w3 hpost
            obtain rfl : e = .returned (.int .i64 0) := hpost.1
            obtain ⟨z1, z2, z3⟩ := HFIN.out w3 hpost
            have HOWN := Lib.hid (own_kept z2 (F := NoF) ((Kept.refl _ w3).alloc (.cells #[.string sx] 9)) (fun _ _ z => z)); have HEND := Lib.hid z3
            clear hpost z2 z3
            go_wp2_with (at_builtin; refine list_append_src elemStr (.tmp 54) (.tmp 60) rfl rfl (Value.slice A L.length c) rfl HOWN.out 1 rfl (Src.of_has (m := 1) (Has.new w3 9 #[.string sx]) rfl) (one_str sx) HMX.out HY.out ?_; intro A1 c1 w4 ho1 hg1 ha1; have HK4 := Lib.hid (HEND.out A1 c1 w4 ho1 hg1 ha1); clear ho1 hg1 ha1)
            go_roundw
            case rel => exact ⟨i + 1, by omega, by omega, by go_num, HK4.out⟩
            case measure => simp [intOf]; omega
        · have q0 : (ak == 0) = false := by simp; omega
          have q1 : (ak == 1) = false := by simp; omega
          have q4 : (ak == 4) = false := by simp; omega
          have q5 : (ak == 5) = false := by simp; omega
          clear hap
          have hft := HKA.out.fits hi
          have htot := hft.total
          by_cases h2 : ak = 2
          · subst h2
            have hsy := sync_any HKA.out.d hft.i64 (by have := hft.len; omega) (by have := hft.n; omega) 100000 hft.file (by omega)
            have hfin : ∀ w3, DiskAt w3 g F (n + ps.length) (syncM m ps) [] 1 boot → Kept F wr w3 → KInv w g (i + 1) (.pointer (some ⟨gw, 0, none⟩)) (.slice A L.length c) (.int .i64 (L.length : Nat)) w3 := by
              intro w3 h1 h2
              have h9 := HKA.out.sync h1 h2
              rw [← HEL.out] at h9
              exact h9
            have HSY := Lib.hid hsy; have HFIN := Lib.hid hfin
            clear hsy hfin hft htot hs3 han hn3 hn2
            go_wp2_with fail
            refine HSY.out.mono ?_
            rintro e w3 ⟨rfl, h3, k3⟩
            have HK4 := Lib.hid (HFIN.out w3 h3 k3)
            clear h3 k3
            go_wp2
            go_roundw
            case rel => exact ⟨i + 1, by omega, by omega, by go_num, HK4.out⟩
            case measure => simp [intOf]; omega
          · by_cases h3 : ak = 3
            · subst h3
              have hanb : an ≤ 9223372036854775807 := by
                have := han
                unfold I64 Lit.wf at this
                have hb : (2 : Int) ^ (IntKind.i64.bits - 1) = 9223372036854775808 := by decide
                simp [IntKind.signed, IntKind.min, IntKind.max, hb] at this
                omega
              have hcr := crash_any HKA.out.d HKA.out.b0 HKA.out.b1 an hanb hft.i64 (by have := hft.len; omega) (by have := hft.n; omega) 100000 hft.file (.inl (by omega))
              obtain ⟨R', j, hlog, htx, hlen⟩ := HKA.out.log.crash (max an 0).toNat
              have hlow := HKA.out.low.crash (max an 0).toNat
              obtain ⟨m', hm'⟩ : ∃ m', crashM m (max an 0).toNat ps = m' := ⟨_, rfl⟩
              rw [hm'] at hcr hlog hlow
              have hpl : ps.length = T.length := by rw [HKA.out.low.pcs HKA.out.log, pcsOf_len]
              have hn1 := HKA.out.n1
              have hft2 : Fits (n + ps.length) m' [] := hlow.fits hlog (by decide) (by simp; omega) (by omega) (by decide)
              have hpre : texts R' <+: texts R ++ T := by rw [htx]; exact (List.prefix_append_right_inj _).2 (List.take_prefix _ _)
              obtain ⟨M, hM⟩ : ∃ M, M = (texts R').length := ⟨_, rfl⟩
              have hML : M ≤ L.length := by rw [hM, HEL.out]; exact hpre.length_le
              have hMS : S ≤ M := by rw [hM, HES.out, htx]; simp
              have hcL : L.length ≤ c := by rw [HEL.out]; exact (own_cap HKA.out.row.1).1
              have hoc : ∀ w3, DiskAt w3 g F (n + ps.length) m' [] 1 (min (boot + 1) 1073741824) → Calls Try.prog 6 #[.pointer (some ⟨g, 0, none⟩), .int .i64 1] w3 (LOpenPost w3 g 1 R') := fun w3 hd => lopen_any hd hlog hft2 (by decide) (by decide) (by show R'.length ≤ _; omega)
              have hfin : ∀ w3 w4 gw' A' c', Kept F wr w3 → DiskAt w3 g F (n + ps.length) m' [] 1 (min (boot + 1) 1073741824) → WAt w4 gw' g (1 + lastOf R') → w3.heap.size ≤ gw' → NewSl 9 1 w3.heap.size w4 A' (texts R').length c' (tcells (texts R')) → Below w3.heap.size w3 w4 →
                  (∀ W, Kept NoF w4 W → Calls Try.prog 14 #[.slice A' M c', .slice A M c] W fun e w' => e = .returned (.bool true) ∧ Kept NoF W w') ∧
                  ∀ w5, Kept NoF w4 w5 → KInv w g (i + 1) (.pointer (some ⟨gw', 0, none⟩)) (.slice A' M c') (.int .i64 (M : Nat)) w5 := by
                rw [hM]
                intro w3 w4 gw' A' c' h1 h2 h4 h5 h6 h7
                have hrow3 := own_kept HKA.out.row.1 h1 (fun k hk hf => DiskAt.apart HKA.out.d HKA.out.row.1 (by decide) (by decide) k hk hf)
                have hk34 : Kept NoF w3 w4 := Kept.of_below h7 (fun k hk _ => hk)
                refine ⟨fun W hW => ?_, fun w5 hk5 => HKA.out.crash h1 h2 hlog hlow (by rw [← hM, ← HEL.out]; exact hML) hlen h4 h5 h6 h7 hk5⟩
                have s1 := (Src.of_own h6.1).kept hW (fun _ _ z => z)
                have s2 := (((Src.of_own hrow3).kept hk34 (fun _ _ z => z)).kept hW (fun _ _ z => z)).take (k := (texts R').length) (by rw [← hM, ← HEL.out]; exact hML)
                have e2 : (tcells (texts R ++ T)).take ((texts R').length * 1) = tcells (texts R') := by
                  rw [Nat.mul_one]
                  unfold tcells
                  rw [← List.map_take, ← List.prefix_iff_eq_take.1 hpre]
                rw [e2, tcells_map] at s2
                rw [tcells_map] at s1
                have hl2 : ((texts R').map ofL).length = (texts R').length := List.length_map _
                have := SlI.same_eq W A' A c' c ((texts R').map ofL) (by rw [hl2]; exact s1) (by rw [hl2]; exact s2) (by rw [hl2, ← hM]; omega)
                rwa [hl2] at this
              rw [show (texts R').length = M from hM.symm] at hfin
              have HCR := Lib.hid hcr; have HOC := Lib.hid hoc; have HFIN := Lib.hid hfin; have HM := Lib.hid hM
              clear hcr hoc hfin hft htot hs3 han hlog hlow hft2 hpre htx hlen hm' hpl hn1 hM h2 hn2
              go_wp2_with fail
              refine HCR.out.mono ?_
              rintro e w3 ⟨rfl, h3, k3⟩
              have HOP := Lib.hid (HOC.out w3 h3)
              go_wp2_with fail
              refine HOP.out.mono ?_
              rintro e w4 ⟨gw', A', c', rfl, h4, h5, h6, h7⟩
              rw [← HM.out] at h6 ⊢
              obtain ⟨hsame, hend⟩ := HFIN.out w3 w4 gw' A' c' k3 h3 h4 h5 h6 h7
              have HSAME := Lib.hid hsame; have HEND := Lib.hid hend
              clear hsame hend h3 k3 h4 h5 h6 h7
              have g1 : ¬ M < S := by omega
              have g2 : ¬ L.length < M := by omega
              go_wp2_with fail
              refine (HSAME.out _ (Kept.refl _ _)).mono ?_
              rintro e w5 ⟨rfl, hk5⟩
              have HK5 := Lib.hid (HEND.out w5 hk5)
              clear hk5
              go_wp2
              go_roundw
              case rel => exact ⟨i + 1, by omega, by omega, by go_num, HK5.out⟩
              case measure => simp [intOf]; omega
            · have q2 : (ak == 2) = false := by simp; omega
              have q3 : (ak == 3) = false := by simp; omega
              have hfin : KInv w g (i + 1) (.pointer (some ⟨gw, 0, none⟩)) (.slice A L.length c) (.int .i64 (S : Nat)) wr := by
                have h9 := HKA.out.next
                rw [HES.out]
                exact h9
              have HFIN := Lib.hid hfin
              clear h2 h3 hft htot hs3 han hn3 hn2 hfin
              go_wp2
              go_roundw
              case rel => exact ⟨i + 1, by omega, by omega, by go_num, HFIN.out⟩
              case measure => simp [intOf]; omega
      · have hft := HKA.out.fits hi
        have hcg := cur_grow R T
        have hn2 := HKA.out.n2
        have hrd := lread_any HKA.out.d HKA.out.log hft (by decide) (by decide) (by omega)
        have hfin : ∀ w3 A' c', NewSl 9 1 wr.heap.size w3 A' (texts (cur R T)).length c' (tcells (texts (cur R T))) → Below wr.heap.size wr w3 →
            Calls Try.prog 14 #[.slice A' L.length c', .slice A L.length c] w3 fun e w' => e = .returned (.bool true) ∧ Kept NoF w3 w' := by
          intro w3 A' c' h1 h2
          have hk3 : Kept NoF wr w3 := Kept.of_below h2 (fun k hk _ => hk)
          rw [cur_texts, ← HEL.out] at h1
          have h0 := HKA.out.row.1
          rw [← HEL.out] at h0
          have s1 := Src.of_own h1.1
          have s2 := (Src.of_own h0).kept hk3 (fun _ _ z => z)
          rw [tcells_map] at s1 s2
          have hl2 : (L.map ofL).length = L.length := List.length_map _
          have := SlI.same_eq w3 A' A c' c (L.map ofL) (by rw [hl2]; exact s1) (by rw [hl2]; exact s2) (by rw [hl2]; omega)
          rwa [hl2] at this
        have htl : (texts (cur R T)).length = L.length := by rw [cur_texts, ← HEL.out]
        have HRD := Lib.hid hrd; have HFIN := Lib.hid hfin; have HTL := Lib.hid htl; have HKW := Lib.hid HKA.out.k
        clear hft hcg hrd hfin htl hn2 hn3
        by_cases hil2 : i < l.length
        all_goals
          go_wp2_with fail
          refine HRD.out.mono ?_
          rintro e w3 ⟨A', c', rfl, h1, h2⟩
          have HSM := Lib.hid (HFIN.out w3 A' c' h1 h2)
          have HK3 := Lib.hid (HKW.out.then (Kept.of_below (F := NoF) h2 (fun k hk _ => hk)))
          rw [HTL.out]
          clear h1 h2
          go_wp2_with fail
          refine HSM.out.mono ?_
          rintro e w4 ⟨rfl, hk4⟩
          have HK4 := Lib.hid (HK3.out.then hk4)
          clear hk4
          go_wp2_with fail
          refine (awake_any _).mono ?_
          rintro e w5 ⟨rfl, hk5⟩
          go_wp2
          go_ret
          exact ⟨rfl, (HK4.out.then hk5).below (Nat.le_refl _) (fun _ z => z.elim)⟩
end Wl
end Go.Proofs.Ytnkdmfaghpkidaa
