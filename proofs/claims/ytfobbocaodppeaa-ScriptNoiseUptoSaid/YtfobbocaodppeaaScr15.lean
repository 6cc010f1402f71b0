/- script.pieces: a script's pieces, one by one. -/
import Derived.Test.YtfobbocaodppeaaScrR
import Derived.Test.YtfobbocaodppeaaScr14
set_option linter.unusedSimpArgs false
set_option linter.unusedVariables false
namespace Go.Proofs.Ytfobbocaodppeaa
open Go.RowKit Go.Shelf
attribute [local go_sem] Oper.semAt_some
set_option maxRecDepth 100000
namespace Scr
open Ops Vn Wire
/-- How long the text in the closure's variable is: for the loop's measure. -/
def sufLen (b : Nat) (w : World) : Nat := match w.cell? ⟨b, 0, none⟩ with
  | some (.string s) => s.size
  | _ => 0
theorem sufLen_at {b : Nat} {w : World} {s : ByteArray} (h : Has w b 9 #[.string s]) : sufLen b w = s.size := by
  have := h.cell 0
  simp only [List.getElem?_toArray, List.getElem?_cons_zero] at this
  unfold sufLen
  rw [this]
theorem pcs_go {s : ByteArray} (h : 0 < s.size) (hn : s[0].toNat < s.size) : pcs (bl s) = bl (s.extract 1 (1 + s[0].toNat)) :: pcs (bl (s.extract (1 + s[0].toNat) s.size)) := by
  have h1 := drop_at s 0 h
  rw [List.drop_zero] at h1
  rw [h1, pcs_cons, if_pos (by rw [List.length_drop, size_bl]; omega), extract_bl _ _ _ (by omega) (by omega), extract_bl _ _ _ (by omega) (by omega), List.drop_drop]
  congr 1
  · rw [Nat.add_sub_cancel_left]
  · rw [List.take_of_length_le (by rw [List.length_drop, size_bl]; omega)]
theorem pcs_stop {s : ByteArray} (h : 0 < s.size) (hn : ¬ s[0].toNat < s.size) : pcs (bl s) = [] := by
  have h1 := drop_at s 0 h
  rw [List.drop_zero] at h1
  rw [h1, pcs_cons, if_neg (by rw [List.length_drop, size_bl]; omega)]
theorem pcs_emp {s : ByteArray} (h : s.size = 0) : pcs (bl s) = [] := by
  have : bl s = [] := List.eq_nil_of_length_eq_zero (by rw [size_bl]; exact h)
  rw [this, pcs_nil]
theorem empty_size (s : ByteArray) : (s.toList == []) = decide (s.size = 0) := by
  rw [ByteArray.toList_eq, ← size_bl]
  cases h : bl s <;> simp [h]
/-- A piece, with what the body must know of it. -/
abbrev Pc := { p : ByteArray // p.size ≤ 1000000 }
set_option maxHeartbeats 4000000 in
theorem pieces1_goes (F : Fence) (n : Nat) (hF : F.fn 37) (hro : F.round = none) (hn : 1 ≤ n) (Bn : Nat) (s : ByteArray) (hs : s.size ≤ 1000000) (ps : List Pc) (hps : (pcs (bl s)).map ofL = ps.map (·.1)) (w : World) (hB : Has w Bn 9 #[.string s]) :
    Goes F n Try.prog 37 #[.pointer (some ⟨Bn, 0, none⟩)] (fun p : Pc => #[.string p.1]) Bn ps w := by
  intro l J W hJs hY h0 hW
  have hBW : Has W Bn 9 #[.string s] := hW.trans hB
  have HJS := Lib.hid hJs; clear hJs
  have HH0 := Lib.hid h0; clear h0
  clear hW hB
  have HBW := Lib.hid hBW; clear hBW
  refine callsIn_of_wp Try.func37 rfl hF ?_ hro
  simp only [Try.ntmps37, List.size_toArray, List.length_cons, List.length_nil, Nat.reduceAdd, Nat.reduceSub, Array.replicate_succ, Array.replicate_zero, List.push_toArray, List.append_toArray, List.nil_append, List.cons_append]
  gi_wp2
  gi_loopw [3] (fun _ wr => ∃ (k : Nat) (t : ByteArray), k ≤ ps.length ∧ t.size ≤ s.size ∧ Has wr Bn 9 #[.string t] ∧ J (ps.take k) wr ∧ (pcs (bl t)).map ofL = (ps.drop k).map (·.1)) (fun _ wr => sufLen Bn wr)
  case atStart => exact ⟨0, s, Nat.zero_le _, Nat.le_refl _, HBW.out, HH0.out, by simpa using hps⟩
  case round =>
    obtain ⟨k, t, hk, ht, hb, hJ, hpt⟩ := hrel
    have c0 := hb.cell 0
    have f0 := hb.frozen 0
    simp only [List.getElem?_toArray, List.getElem?_cons_zero] at c0
    have he := empty_size t
    have HBT := Lib.hid hb; clear hb
    by_cases hz : t.size = 0
    · rw [decide_eq_true hz] at he
      rw [pcs_emp hz] at hpt
      have hkl : ps.length ≤ k := by
        have := congrArg List.length hpt
        simp at this
        omega
      rw [List.take_of_length_le hkl] at hJ
      have HJ := Lib.hid hJ; clear hJ hpt hz
      gi_wp2
      go_end0
      exact ⟨⟨_, rfl⟩, HJ.out⟩
    · rw [decide_eq_false hz] at he
      have hpos : 0 < t.size := by omega
      have hpos2 : (0 : Int) < (t.size : Int) := by omega
      have hsz : (t.size : Int) ≤ 1000000 := by omega
      by_cases hn2 : t[0].toNat < t.size
      · have hgo := pcs_go hpos hn2
        obtain ⟨m, hm⟩ : ∃ m, t[0].toNat = m := ⟨_, rfl⟩
        have hmb : m < 256 := by rw [← hm]; exact UInt8.toNat_lt _
        rw [hm] at hn2 hgo
        have q1 : ¬ (t.size : Int) ≤ (m : Int) := by omega
        rw [hgo, List.map_cons, ofL_bl] at hpt
        have hkl : k < ps.length := by
          have := congrArg List.length hpt
          simp at this
          omega
        rw [List.drop_eq_getElem_cons hkl, List.map_cons] at hpt
        injection hpt with hp1 hp2
        obtain ⟨x, hx⟩ : ∃ x, ps[k] = x := ⟨_, rfl⟩
        rw [hx] at hp1
        have htk : ps.take (k + 1) = ps.take k ++ [x] := by rw [List.take_add_one, List.getElem?_eq_getElem hkl, hx]; rfl
        have hlen : (ps.take k).length < ps.length := by rw [List.length_take]; omega
        obtain ⟨fn, tmps, assign, body, hy, hR⟩ := hY (ps.take k) x wr hJ hlen
        rw [← hp1] at hy
        have HTK := Lib.hid htk; clear htk
        have HP2 := Lib.hid hp2; clear hp2 hp1 hgo hJ hlen hx
        gi_wp2
        refine hR.mono ?_
        rintro e W3 ⟨rfl, hJ3, hbn⟩
        have hb3 : Has W3 Bn 9 #[.string t] := hbn.trans HBT.out
        have d0 := hb3.cell 0
        have g0 := hb3.frozen 0
        simp only [List.getElem?_toArray, List.getElem?_cons_zero] at d0
        have hJ4 := HJS.out _ _ (.string (t.extract (1 + m) t.size)) hJ3
        have hb4 : Has (W3.setCell ⟨Bn, 0, none⟩ (.string (t.extract (1 + m) t.size))) Bn 9 #[.string (t.extract (1 + m) t.size)] := Has.put_of hb3 rfl
        have HB4 := Lib.hid hb4; clear hb4
        have HJ4 := Lib.hid hJ4; clear hJ4 hJ3 hb3 hbn
        have hs4 := sufLen_at HBT.out
        have hs5 := sufLen_at HB4.out
        have hes : (t.extract (1 + m) t.size).size = t.size - (1 + m) := by simp
        gi_wp2
        go_roundw
        case rel => exact ⟨k + 1, t.extract (1 + m) t.size, by omega, by omega, HB4.out, by rw [HTK.out]; exact HJ4.out, HP2.out⟩
        case measure => rw [hs5, hs4, hes]; omega
      · rw [pcs_stop hpos hn2] at hpt
        have hkl : ps.length ≤ k := by
          have := congrArg List.length hpt
          simp at this
          omega
        rw [List.take_of_length_le hkl] at hJ
        have HJ := Lib.hid hJ; clear hJ hpt
        obtain ⟨m, hm⟩ : ∃ m, t[0].toNat = m := ⟨_, rfl⟩
        have hmb : m < 256 := by rw [← hm]; exact UInt8.toNat_lt _
        rw [hm] at hn2
        have q1 : (t.size : Int) ≤ (m : Int) := by omega
        gi_wp2
        refine ⟨fun _ h => (by cases h), ?_⟩
        gi_wp2
        refine bodyPost_ret (results_none rfl _ _ _) rfl ?_
        exact ⟨⟨_, rfl⟩, HJ.out⟩
theorem pieces_in (F : Fence) (n : Nat) (hF : F.fn 20) (hro : F.round = none) (s : ByteArray) (w : World) :
    CallsIn F n Try.prog 20 #[.string s] w fun e w' => e = .returned (.func (.func 37) #[] #[.pointer (some ⟨w.heap.size, 0, none⟩)]) ∧ w' = w.alloc (.cells #[.string s] 9) := by
  refine callsIn_of_wp Try.func20 rfl hF ?_ hro
  simp only [Try.ntmps20, List.size_toArray, List.length_cons, List.length_nil, Nat.reduceAdd, Nat.reduceSub, Array.replicate_succ, Array.replicate_zero, List.push_toArray, List.append_toArray, List.nil_append, List.cons_append]
  gi_wp2
  go_ret
  exact ⟨rfl, rfl⟩
/-! ### what the loop's invariant abides -/
theorem keepsFrom_of_kept {F : Nat → Prop} {B : Nat} {W W' : World} (h : Kept F W W') (hF : ∀ k, F k → ∀ o, W.heap[k]? = some o → o.isCells = true) : KeepsFrom B W W' :=
  ⟨h.size, fun k o _ hk ho => by
    by_cases hf : F k
    · rw [hF k hf o hk] at ho; cases ho
    · exact (h.block k (Array.getElem?_eq_some_iff.1 hk).1 hf).trans hk⟩
theorem kept_of_grown {W W' : World} {row : Option Nat} (h : W.grownBy W' row) : Kept (fun k => row = some k) W W' := (Kept.refl _ W).grown h (fun k hk => .inl hk)
theorem own_noncell {W W' : World} {row : Option Nat} {b e s n : Nat} {v : Value} {xs : List Value} (h : W.ownsRow b e s v n xs) (hg : W.grownBy W' row) (hr : ∀ r, row = some r → ∃ o : Obj, W.heap[r]? = some o ∧ o.isCells = false) : W'.ownsRow b e s v n xs :=
  own_kept h (kept_of_grown hg) fun g hk e => by
    obtain ⟨o, ho, hc⟩ := hr g e
    rcases h.2 with ⟨rfl, _⟩ | ⟨g', cap, cur, rfl, _, hh, _⟩
    · simp [Value.ownBlock] at hk
    · obtain rfl : g' = g := by simpa [Value.ownBlock] using hk
      rw [hh] at ho
      cases ho
      cases hc
theorem has_noncell {W W' : World} {row : Option Nat} {g : Nat} {t : TypeId} {cs : Array Value} (h : Has W g t cs) (hg : W.grownBy W' row) (hr : ∀ r, row = some r → ∃ o : Obj, W.heap[r]? = some o ∧ o.isCells = false) : Has W' g t cs :=
  h.kept (kept_of_grown hg) fun e => by
    obtain ⟨o, ho, hc⟩ := hr g e
    unfold Has at h
    rw [h] at ho
    cases ho
    cases hc
theorem EvL.noncell {W W' : World} {row : Option Nat} {B : Nat} {A : Option Addr} {c : Nat} {l : List EvR} (h : EvL B W A c l) (hg : W.grownBy W' row) (hr : ∀ r, row = some r → ∃ o : Obj, W.heap[r]? = some o ∧ o.isCells = false) : EvL B W' A c l :=
  ⟨⟨own_noncell h.1.1 hg hr, h.1.2⟩, fun e he => ⟨own_noncell (h.2 e he).1 hg hr, (h.2 e he).2⟩⟩
theorem EvL.far {W : World} {B b : Nat} {u : Value} {A : Option Addr} {c : Nat} {l : List EvR} (h : EvL B W A c l) (hb : b < B) : EvL B (W.setCell ⟨b, 0, none⟩ u) A c l := by
  have hk : Kept (fun k => k = b) W (W.setCell ⟨b, 0, none⟩ u) := (Kept.refl _ W).put (.inl rfl)
  exact ⟨⟨own_kept h.1.1 hk (fun k hk2 e => by have := h.1.2 k hk2; omega), h.1.2⟩, fun e he => ⟨own_kept (h.2 e he).1 hk (fun k hk2 e2 => by have := (h.2 e he).2 k hk2; omega), (h.2 e he).2⟩⟩
theorem EvL.mono {W : World} {B B' : Nat} {A : Option Addr} {c : Nat} {l : List EvR} (h : EvL B W A c l) (hb : B' ≤ B) : EvL B' W A c l :=
  ⟨⟨h.1.1, fun k hk => Nat.le_trans hb (h.1.2 k hk)⟩, fun e he => ⟨(h.2 e he).1, fun k hk => Nat.le_trans hb ((h.2 e he).2 k hk)⟩⟩
/-- Between two rounds: the row that is collected, its slice in the box b. -/
def OfI (w : World) (pre : List Pc) (W : World) : Prop :=
  (∃ A c l, Has W w.heap.size 22 #[.slice A l.length c] ∧ EvL (w.heap.size + 2) W A c l ∧ l.map (fun e => e.x) = pre.filterMap (fun p => readE p.1) ∧ l.length ≤ pre.length) ∧ Kept NoF w W ∧ w.heap.size + 2 ≤ W.heap.size
theorem ofI_own {w : World} {B : Nat} (hB : w.heap.size ≤ B) : OwnFrom B (OfI w) := fun pre W W' row h hg hr => by
  obtain ⟨⟨A, c, l, h1, h2, h3, h4⟩, h5, h6⟩ := h
  have hr2 : ∀ r, row = some r → ∃ o : Obj, W.heap[r]? = some o ∧ o.isCells = false := fun r e => (hr r e).2
  exact ⟨⟨A, c, l, has_noncell h1 hg hr2, h2.noncell hg hr2, h3, h4⟩, h5.trans (kept_of_grown hg) fun i hi => .inr (Nat.le_trans hB (hr i hi).1), Nat.le_trans h6 hg.size⟩
theorem ofI_put {w : World} (pre : List Pc) (W : World) (u : Value) (h : OfI w pre W) : OfI w pre (W.setCell ⟨w.heap.size + 1, 0, none⟩ u) := by
  obtain ⟨⟨A, c, l, h1, h2, h3, h4⟩, h5, h6⟩ := h
  exact ⟨⟨A, c, l, h1.past (by omega), h2.far (by omega), h3, h4⟩, h5.put (.inr (by omega)), by rw [size_setCell]; exact h6⟩
theorem pcs_sub (s : ByteArray) (hs : s.size ≤ 1000000) : ∃ ps : List Pc, (pcs (bl s)).map ofL = ps.map (·.1) ∧ ps.length ≤ 1000000 := by
  have h : ∀ (n : Nat) (l : List UInt8), l.length ≤ n → n ≤ 1000000 → ∃ ps : List Pc, (pcs l).map ofL = ps.map (·.1) ∧ ps.length ≤ l.length := by
    intro n
    induction n with
    | zero =>
      intro l hl _
      obtain rfl : l = [] := List.eq_nil_of_length_eq_zero (by omega)
      exact ⟨[], by rw [pcs_nil]; rfl, Nat.le_refl _⟩
    | succ n ih =>
      intro l hl hn
      cases l with
      | nil => exact ⟨[], by rw [pcs_nil]; rfl, Nat.le_refl _⟩
      | cons b l =>
        rw [pcs_cons]
        split
        · rename_i hb
          obtain ⟨ps, h1, h2⟩ := ih (l.drop b.toNat) (by rw [List.length_drop]; simp at hl; omega) (by omega)
          refine ⟨⟨ofL (l.take b.toNat), by rw [ofL_size, List.length_take]; simp at hl; omega⟩ :: ps, ?_, ?_⟩
          · rw [List.map_cons, List.map_cons, h1]
          · rw [List.length_drop] at h2
            simp
            omega
        · exact ⟨[], rfl, Nat.zero_le _⟩
  obtain ⟨ps, h1, h2⟩ := h 1000000 (bl s) (by rw [size_bl]; exact hs) (Nat.le_refl _)
  exact ⟨ps, h1, by rw [size_bl] at h2; omega⟩
theorem own_base {W : World} {B e s n : Nat} {A : Option Addr} {c : Nat} {xs : List Value} (h : NewSl e s B W A n c xs) : W.ownsRow B e s (.slice A n c) n xs := by
  refine ⟨h.1.1, ?_⟩
  rcases h.1.2 with h2 | ⟨g, cap, cur, hv, _, rest⟩
  · exact .inl h2
  · exact .inr ⟨g, cap, cur, hv, h.2 g (by rw [hv]; rfl), rest⟩
theorem own_new {W : World} {B e s n : Nat} {A : Option Addr} {c : Nat} {xs : List Value} (h : W.ownsRow B e s (.slice A n c) n xs) : NewSl e s B W A n c xs := by
  refine ⟨⟨h.1, ?_⟩, fun k hk => ?_⟩
  · rcases h.2 with h2 | ⟨g, cap, cur, hv, _, rest⟩
    · exact .inl h2
    · exact .inr ⟨g, cap, cur, hv, Nat.zero_le _, rest⟩
  · rcases h.2 with ⟨h2, _⟩ | ⟨g, cap, cur, hv, hb, rest⟩
    · rw [h2] at hk; cases hk
    · rw [hv] at hk
      simp [Value.ownBlock] at hk
      omega
theorem EvL.snoc2 {B : Nat} {W W1 w6 : World} {A A' : Option Addr} {c c' : Nat} {l : List EvR} {e : EvR} (h : EvL B W A c l) (hW : Kept NoF W W1) (he : NewSl 55 3 B W e.A e.x.ops.length e.c (cells e.x.ops))
    (ho : w6.ownsRow B 41 10 (.slice A' (l.length + 1) c') (l.length + 1) (vcells l ++ vcell e)) (hg : W1.grownBy w6 (Value.slice A l.length c).ownBlock) : EvL B w6 A' c' (l ++ [e]) := by
  have hk : Kept (fun k => (Value.slice A l.length c).ownBlock = some k) W w6 := (hW.mono fun _ z => z.elim).grown hg (fun k hk => .inl hk)
  have key : ∀ e', NewSl 55 3 B W e'.A e'.x.ops.length e'.c (cells e'.x.ops) → NewSl 55 3 B w6 (EvR.A e') e'.x.ops.length e'.c (cells e'.x.ops) := fun e' h' =>
    ⟨own_kept h'.1 hk (fun k hk2 => own_apart h'.1 h.1.1 (by decide) hk2), h'.2⟩
  refine ⟨?_, fun e' he' => ?_⟩
  · rw [List.length_append, vcells_snoc]
    exact own_new ho
  · rcases List.mem_append.1 he' with he' | he'
    · exact key e' (h.2 e' he')
    · simp at he'
      rw [he']
      exact key e he
set_option maxHeartbeats 8000000 in
theorem of_any (w : World) (s : ByteArray) (hs : s.size ≤ 1000000) : Calls Try.prog 11 #[.string s] w (OfPost w s) := by
  obtain ⟨ps, hps, hpl⟩ := pcs_sub s hs
  have hfm : ps.filterMap (fun p => readE p.1) = ofS (bl s) := by
    unfold ofS
    have h1 : (pcs (bl s)).filterMap (fun p => readE (ofL p)) = ((pcs (bl s)).map ofL).filterMap readE := by rw [List.filterMap_map]; rfl
    rw [h1, hps, List.filterMap_map]
    rfl
  have hfn : ∀ k, Fence.wide.fn k := fun _ => trivial
  refine (callsIn_wide (n := 5)).1 ?_
  refine callsIn_of_wp_marks Try.func11 rfl trivial ?_ rfl
  simp only [Try.ntmps11, List.size_toArray, List.length_cons, List.length_nil, Nat.reduceAdd, Nat.reduceSub, Array.replicate_succ, Array.replicate_zero, List.push_toArray, List.append_toArray, List.nil_append, List.cons_append]
  gi_wp2_with (gi_at_call 20; refine (pieces_in Fence.wide _ trivial rfl _ _).mono ?_; rintro e w' ⟨rfl, rfl⟩)
  obtain ⟨W0, hW0⟩ : ∃ W0, (w.alloc (.cells #[.slice none 0 0] 22)).alloc (.cells #[.string s] 9) = W0 := ⟨_, rfl⟩
  have hsz : W0.heap.size = w.heap.size + 2 := by rw [← hW0]; simp
  have hI0 : OfI w [] W0 := by
    rw [← hW0]
    exact ⟨⟨none, 0, [], (Has.new _ _ _).alloc _, EvL.nil _ _, rfl, Nat.le_refl _⟩, by (repeat' (first | with_reducible exact Kept.refl _ _ | with_reducible refine Kept.put ?_ ?_ | with_reducible refine Kept.drewN ?_ _ | with_reducible refine Kept.drew ?_ | with_reducible refine Kept.alloc ?_ _ | (fail) | (right; simp; done))), by simp⟩
  have hbn : Has W0 (w.heap.size + 1) 9 #[.string s] := by rw [← hW0]; exact Has.new_at _ _ _ (by simp)
  rw [hW0]
  clear hW0
  refine range_goes rfl (by omega) (gf := 37) (lb := #[.pointer (some ⟨w.heap.size + 1, 0, none⟩)]) rfl (hfn _) (enters_of Try.func37 (by kernel_rfl) rfl)
    (pieces1_goes Fence.wide (5 - 1) (hfn _) rfl (by omega) (w.heap.size + 1) s hs ps hps W0 hbn) (by omega) (fun _ => rfl)
    (OfI w) (ofI_own (by omega)) ofI_put hI0
    (fun x => { tmps := #[.string s, undef, .slice none 0 0, .pointer (some ⟨w.heap.size, 0, none⟩), .string x.1, undef, undef, .string s, .func (.func 37) #[] #[.pointer (some ⟨w.heap.size + 1, 0, none⟩)], .string x.1, undef, undef, undef, undef, undef, undef, undef, undef, undef, undef, undef], defers := [] })
    ?assign ?body ?done
  case assign =>
    intro l x W K hK
    gi_wp2
    exact hK
  case body =>
    rintro l pre x W ⟨⟨A, c, ls, hb, hev, hm, hll⟩, hk, hww⟩ hlen
    have hrd := read_any W x.1 (by have := x.2; unfold maxLen; omega)
    unfold ReadPost at hrd
    have HRD := Lib.hid hrd; clear hrd
    have hbl := hb.lt
    have hbnd : ∀ k, (Value.slice A ls.length c).ownBlock = some k → w.heap.size + 2 ≤ k := hev.1.2
    have hrc : ∀ k, (Value.slice A ls.length c).ownBlock = some k → ∀ o, W.heap[k]? = some o → o.isCells = true := fun k hk o ho => by
      rcases hev.1.1.2 with ⟨h2, _⟩ | ⟨g, cap, cur, hv, _, hh, _⟩
      · rw [h2] at hk; cases hk
      · rw [hv] at hk
        simp [Value.ownBlock] at hk
        rw [← hk, hh] at ho
        cases ho
        rfl
    have HRC := Lib.hid hrc; clear hrc
    have HEV := Lib.hid hev; clear hev
    have HB := Lib.hid hb; clear hb
    have HK := Lib.hid hk; clear hk
    have HM := Lib.hid hm; clear hm
    have hn1 : 1 ≤ 5 - 1 - 1 := by omega
    obtain ⟨x, hx1⟩ := x
    dsimp only at HRD ⊢
    gi_wp2_with fail
    refine (CallsIn.inRound l (callsIn_wide.2 HRD.out)).mono ?_
    rintro e w2 ⟨⟨ev, rfl, hev2⟩, hk2⟩
    have hb2 := HB.out.kept hk2 (fun z => z)
    have hevl := HEV.out.kept hk2
    have hw2 : w.heap.size + 2 ≤ w2.heap.size := Nat.le_trans hww hk2.size
    have hkk := HK.out.then hk2
    have hbn2 : w2.heap[w.heap.size + 1]? = W.heap[w.heap.size + 1]? := hk2.block _ (by omega) (fun z => z)
    have HE := Lib.hid (And.intro hevl (And.intro hw2 (And.intro hkk (And.intro hb2 hbn2)))); clear hevl hw2 hkk hb2 hbn2 HEV HRD
    obtain ⟨q, hq⟩ : ∃ q, readE x = q := ⟨_, rfl⟩
    have hfil : (pre ++ [(⟨x, hx1⟩ : Pc)]).filterMap (fun p => readE p.1) = pre.filterMap (fun p => readE p.1) ++ q.toList := by
      have e1 : [(⟨x, hx1⟩ : Pc)].filterMap (fun p => readE p.1) = (readE x).toList := by
        simp only [List.filterMap_cons, List.filterMap_nil]
        cases readE x <;> rfl
      rw [List.filterMap_append, e1, hq]
    have HFIL := Lib.hid hfil; clear hfil
    rw [hq] at hev2 ⊢
    cases q with
    | none =>
      obtain ⟨⟨k, nd, n0, ak, an, key, dst, tm, am, ol⟩, A2, c2⟩ := ev
      unfold vagg
      dsimp only [Option.isSome]
      clear hev2 hq
      have hkp : Kept NoF W (w2.alloc (.cells #[.int .i64 k, .int .i64 nd, .int .i64 n0, .int .i64 ak, .int .i64 an, .string key, .string dst, .int .u64 tm, .int .i64 am, .slice A2 ol.length c2] 41)) := hk2.alloc _
      have HKP := Lib.hid hkp; clear hkp hk2
      gi_wp2_with fail
      refine ⟨keepsFrom_of_kept HKP.out (fun _ z => z.elim), HKP.out.block _ (by omega) (fun z => z), ⟨A, c, ls, HE.out.2.2.2.1.alloc _, HE.out.1.kept ((Kept.refl _ _).alloc _), ?_, by rw [List.length_append]; omega⟩, HE.out.2.2.1.alloc _, by have := HE.out.2.1; simp; omega⟩
      rw [HFIL.out, HM.out, show (none : Option EvC).toList = [] from rfl, List.append_nil]
    | some y =>
      obtain ⟨hx2, hx3⟩ := hev2 y rfl
      have hx4 : NewSl 55 3 (w.heap.size + 2) w2 ev.A ev.x.ops.length ev.c (cells ev.x.ops) := ⟨hx3.1, fun k hk => Nat.le_trans hww (hx3.2 k hk)⟩
      have HX4 := Lib.hid hx4; clear hx4 hx3 hev2 hq
      have hlist : (ls ++ [ev]).map (fun e => e.x) = (pre ++ [(⟨x, hx1⟩ : Pc)]).filterMap (fun p => readE p.1) := by
        rw [HFIL.out, List.map_append, HM.out, ← hx2]
        rfl
      have HLIST := Lib.hid hlist; clear hlist hx2
      have hone : ∀ u ∈ vcell ev, u.oneCell' = true := fun u hu => one_evs [ev] u (by unfold vcells; simpa using hu)
      have HONE := Lib.hid hone; clear hone
      obtain ⟨⟨k, nd, n0, ak, an, key, dst, tm, am, ol⟩, A2, c2⟩ := ev
      unfold vagg
      dsimp only [Option.isSome]
      obtain ⟨i0, hi0, hz0, hz1, hz2⟩ := info_parts (show (Try.prog.info? 41).map (fun i => (i.zero, i.size, i.bytes)) = some (some (.agg zeroV), 10, 112) by kernel_rfl)
      have hnews : ∀ (j : Nat) (u : Value), (#[.int .i64 k, .int .i64 nd, .int .i64 n0, .int .i64 ak, .int .i64 an, .string key, .string dst, .int .u64 tm, .int .i64 am, .slice A2 ol.length c2]).toList[j]? = some u → ((w2.alloc (.cells #[.int .i64 k, .int .i64 nd, .int .i64 n0, .int .i64 ak, .int .i64 an, .string key, .string dst, .int .u64 tm, .int .i64 am, .slice A2 ol.length c2] 41)).alloc (.cells #[.int .i64 k, .int .i64 nd, .int .i64 n0, .int .i64 ak, .int .i64 an, .string key, .string dst, .int .u64 tm, .int .i64 am, .slice A2 ol.length c2] 41)).cell? ((⟨w2.heap.size + 1, 0, none⟩ : Addr).add j) = some u := by
        obtain ⟨ad, e, _, hc⟩ := (Src.of_has (size := 10) (m := 1) (Has.new_at (w2.alloc (.cells #[.int .i64 k, .int .i64 nd, .int .i64 n0, .int .i64 ak, .int .i64 an, .string key, .string dst, .int .u64 tm, .int .i64 am, .slice A2 ol.length c2] 41)) 41 #[.int .i64 k, .int .i64 nd, .int .i64 n0, .int .i64 ak, .int .i64 an, .string key, .string dst, .int .u64 tm, .int .i64 am, .slice A2 ol.length c2] (g := w2.heap.size + 1) (by simp)) rfl).2 (by decide)
        injection e with e
        subst e
        exact hc
      have HNEWS := Lib.hid hnews; clear hnews
      have b0 : (w2.alloc (.cells #[.int .i64 k, .int .i64 nd, .int .i64 n0, .int .i64 ak, .int .i64 an, .string key, .string dst, .int .u64 tm, .int .i64 am, .slice A2 ol.length c2] 41)).cell? ⟨w.heap.size, 0, none⟩ = some (.slice A ls.length c) := (HE.out.2.2.2.1.alloc _).cell 0
      have hrow := own_base ((HE.out.1.1).kept (((Kept.refl NoF _).alloc (.cells #[.int .i64 k, .int .i64 nd, .int .i64 n0, .int .i64 ak, .int .i64 an, .string key, .string dst, .int .u64 tm, .int .i64 am, .slice A2 ol.length c2] 41)).alloc (.cells #[.int .i64 k, .int .i64 nd, .int .i64 n0, .int .i64 ak, .int .i64 an, .string key, .string dst, .int .u64 tm, .int .i64 am, .slice A2 ol.length c2] 41)))
      have HROW := Lib.hid hrow; clear hrow
      have hm1 : ls.length + 1 ≤ maxLen := by unfold maxLen; omega
      have hm2 : (ls.length + 1) * 112 ≤ 140737488355328 := by omega
      have HM1 := Lib.hid hm1; clear hm1
      have HM2 := Lib.hid hm2; clear hm2
      gi_wp2_with (gi_at_builtin; refine wpListIn_append_own _ rfl _ _ 22 rfl (w.heap.size + 2) 41 i0 _ 10 112 Try.underlying22 hi0 hz0 hz1 hz2 rfl (by decide) _ _ _ rfl HROW.out ⟨w2.heap.size + 1, 0, none⟩ 1 1 _ rfl rfl HNEWS.out (by exact HONE.out) HM1.out HM2.out (by have := HE.out.2.1; simp; omega) ?_; intro v' w6 hown' hgrow _; obtain ⟨g', cap', rfl⟩ := ownsRow_succ hown'; have hev6 := HE.out.1.snoc2 (((Kept.refl NoF _).alloc _).alloc _) HX4.out hown' hgrow; have hb6 : Has w6 w.heap.size 22 #[.slice A ls.length c] := Has.grown ((HE.out.2.2.2.1.alloc _).alloc _) hgrow (fun e => by have := HE.out.1.1.2 _ e; omega); have hc1 := hb6.cell 0; have hf1 := hb6.frozen 0; simp only [List.getElem?_toArray, List.getElem?_cons_zero] at hc1; have H6 := Lib.hid (And.intro hev6 (And.intro hb6 hgrow)); clear hev6 hb6 hgrow hown')
      have hkA : Kept (fun k => k = w.heap.size ∨ (Value.slice A ls.length c).ownBlock = some k) W w6 := ((((hk2.mono (G := fun k => k = w.heap.size ∨ (Value.slice A ls.length c).ownBlock = some k) fun _ z => z.elim).alloc _).alloc _).grown H6.out.2.2 (fun k hk => .inl (.inr hk)))
      have hkB := hkA.put (g := w.heap.size) (i := 0) (u := .slice (some ⟨g', 0, none⟩) (ls.length + 1) cap') (.inl (.inl rfl))
      have hkC : Kept NoF w w6 := (((HE.out.2.2.1.alloc _).alloc _).grown H6.out.2.2 (fun k hk => .inr (by have := HE.out.1.1.2 k hk; omega)))
      have hkD := hkC.put (g := w.heap.size) (i := 0) (u := .slice (some ⟨g', 0, none⟩) (ls.length + 1) cap') (.inr (Nat.le_refl _))
      have hsz6 : w.heap.size + 2 ≤ (w6.setCell ⟨w.heap.size, 0, none⟩ (.slice (some ⟨g', 0, none⟩) (ls.length + 1) cap')).heap.size := Nat.le_trans hww hkB.size
      have hlen6 : (ls ++ [(⟨⟨k, nd, n0, ak, an, key, dst, tm, am, ol⟩, A2, c2⟩ : EvR)]).length = ls.length + 1 := by rw [List.length_append]; rfl
      refine ⟨keepsFrom_of_kept hkB (fun j hj o ho => ?_), hkB.block _ (by omega) (fun z => ?_), ⟨some ⟨g', 0, none⟩, cap', _, by rw [hlen6]; exact Has.put_of H6.out.2.1 rfl, H6.out.1.far (by omega), HLIST.out, by rw [hlen6, List.length_append]; simp only [List.length_cons, List.length_nil]; omega⟩, hkD, hsz6⟩
      · rcases hj with rfl | hj
        · have h1 := HB.out
          unfold Has at h1
          rw [h1] at ho
          cases ho
          rfl
        · exact HRC.out j hj o ho
      · rcases z with z | z
        · omega
        · have := HE.out.1.1.2 _ z
          omega
  case done =>
    rintro D W hD ⟨⟨A, c, ls, hb, hev, hm, hll⟩, hk, hww⟩ hK
    have c0 := hb.cell 0
    simp only [List.getElem?_toArray, List.getElem?_cons_zero] at c0
    have hg := grownBy_putObj' W D (.deferred none)
    have hr : ∀ r, some D = some r → ∃ o : Obj, W.heap[r]? = some o ∧ o.isCells = false := fun r e => by cases e; exact ⟨_, hK, rfl⟩
    have h1 := (hev.mono (show w.heap.size ≤ w.heap.size + 2 by omega)).noncell hg hr
    have h2 : Kept NoF w (W.putObj D (.deferred none)) := hk.trans (kept_of_grown hg) fun i hi => .inr (by cases hi; omega)
    have HF := Lib.hid (And.intro h1 (And.intro (hm.trans hfm) h2)); clear h1 h2 hr hg hm hev hb
    gi_wp2
    refine ⟨by simp, .inl ⟨_, _, rfl, run_takeDeferred hK, ?_⟩⟩
    exact ⟨_, results_tmp rfl _ _ _, A, c, ls, rfl, HF.out.1, HF.out.2.1, HF.out.2.2⟩
end Scr
end Go.Proofs.Ytfobbocaodppeaa
