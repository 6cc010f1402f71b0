/- catenaref40.Of: the document's steps of bytes. -/
import Derived.Test.YtfobbocaodppeaaScr13
set_option linter.unusedSimpArgs false
set_option linter.unusedVariables false
namespace Go.Proofs.Ytfobbocaodppeaa
open Go.RowKit
set_option maxRecDepth 100000
namespace Scr
open Ops Vn Wire
theorem elemEv : Elem Try.prog 22 41 10 112 := by
  obtain ⟨i0, hi, hz0, hz1, hz2⟩ := info_parts (show (Try.prog.info? 41).map (fun i => (i.zero, i.size, i.bytes)) = some (some (.agg zeroV), 10, 112) by kernel_rfl)
  exact ⟨Try.underlying22, ⟨i0, _, hi, hz0, hz1, hz2, rfl⟩, by decide⟩
/-- A row of steps of one's own, each with a row of operations of its own, all from B on. -/
def EvL (B : Nat) (W : World) (A : Option Addr) (c : Nat) (l : List EvR) : Prop :=
  NewSl 41 10 B W A l.length c (vcells l) ∧ ∀ e ∈ l, NewSl 55 3 B W e.A e.x.ops.length e.c (cells e.x.ops)
theorem EvL.kept {B : Nat} {W W' : World} {A : Option Addr} {c : Nat} {l : List EvR} (h : EvL B W A c l) (hk : Kept NoF W W') : EvL B W' A c l := ⟨h.1.kept hk, fun e he => (h.2 e he).kept hk⟩
theorem EvL.nil (B : Nat) (W : World) : EvL B W none 0 [] := ⟨⟨⟨rfl, .inl ⟨rfl, rfl⟩⟩, fun k hk => by cases hk⟩, fun e he => by cases he⟩
theorem own_apart {w : World} {b b' e1 e2 s1 s2 n n' : Nat} {v v' : Value} {xs xs' : List Value} (h : w.ownsRow b e1 s1 v n xs) (h' : w.ownsRow b' e2 s2 v' n' xs') (hne : e1 ≠ e2) {k : Nat} (hk : v.ownBlock = some k) : v'.ownBlock ≠ some k := by
  rcases h.2 with ⟨rfl, _⟩ | ⟨g, cap, cur, rfl, _, hh, _⟩
  · simp [Value.ownBlock] at hk
  · obtain rfl : g = k := by simpa [Value.ownBlock] using hk
    exact own_ne h' (g := g) (t := e1) (cs := cur) hh (fun e => hne e.symm)
theorem EvL.snoc {B : Nat} {W W1 w6 : World} {A A' : Option Addr} {c c' : Nat} {l : List EvR} {e : EvR} (h : EvL B W A c l) (hB : B ≤ W.heap.size) (hW : Kept NoF W W1) (he : NewSl 55 3 B W e.A e.x.ops.length e.c (cells e.x.ops))
    (ho : w6.ownsRow 0 41 10 (.slice A' (l.length + 1) c') (l.length + 1) (vcells l ++ vcell e)) (hg : W1.grownBy w6 (Value.slice A l.length c).ownBlock)
    (ha : (Value.slice A' (l.length + 1) c').ownBlock = (Value.slice A l.length c).ownBlock ∨ (Value.slice A' (l.length + 1) c').ownBlock = some W1.heap.size) : EvL B w6 A' c' (l ++ [e]) := by
  have hk : Kept (fun k => (Value.slice A l.length c).ownBlock = some k) W w6 := (hW.mono fun _ z => z.elim).grown hg (fun k hk => .inl hk)
  have hz := hW.size
  have key : ∀ e', NewSl 55 3 B W e'.A e'.x.ops.length e'.c (cells e'.x.ops) → NewSl 55 3 B w6 (EvR.A e') e'.x.ops.length e'.c (cells e'.x.ops) := fun e' h' =>
    ⟨own_kept h'.1 hk (fun k hk2 => own_apart h'.1 h.1.1 (by decide) hk2), h'.2⟩
  refine ⟨?_, fun e' he' => ?_⟩
  · rw [List.length_append, vcells_snoc]
    refine ⟨ho, fun k hk => ?_⟩
    rcases ha with e | e
    · exact h.1.2 k (e.symm.trans hk)
    · have hk' : (Value.slice A' (l.length + 1) c').ownBlock = some k := hk
      rw [hk'] at e
      injection e with e
      omega
  · rcases List.mem_append.1 he' with he' | he'
    · exact key e' (h.2 e' he')
    · simp at he'
      rw [he']
      exact key e he
/-- What Of leaves: a new row of the steps that are read. -/
def OfPost (w : World) (s : ByteArray) (e : Ending) (w' : World) : Prop :=
  ∃ A c l, e = .returned (.slice A l.length c) ∧ EvL w.heap.size w' A c l ∧ l.map (fun e => e.x) = ofS (bl s) ∧ Kept NoF w w'
theorem drop_at (s : ByteArray) (i : Nat) (h : i < s.size) : (bl s).drop i = s[i] :: (bl s).drop (i + 1) := by
  have h2 : i < (bl s).length := by rw [size_bl]; exact h
  rw [List.drop_eq_getElem_cons h2]
  rfl
theorem ofS_go (s : ByteArray) (i : Nat) (h : i < s.size) (hn : s[i].toNat < s.size - i) : ofS ((bl s).drop i) = (readE (s.extract (i + 1) (i + 1 + s[i].toNat))).toList ++ ofS ((bl s).drop (i + 1 + s[i].toNat)) := by
  rw [drop_at s i h]
  unfold ofS
  rw [pcs_cons, if_pos (by rw [List.length_drop, size_bl]; omega), List.filterMap_cons]
  have e1 : ofL (((bl s).drop (i + 1)).take s[i].toNat) = s.extract (i + 1) (i + 1 + s[i].toNat) := by
    apply bl_inj
    rw [bl_ofL, extract_bl _ _ _ (by omega) (by omega)]
    congr 1
    omega
  rw [e1, List.drop_drop]
  cases readE (s.extract (i + 1) (i + 1 + s[i].toNat)) <;> rfl
theorem ofS_stop (s : ByteArray) (i : Nat) (h : i < s.size) (hn : ¬ s[i].toNat < s.size - i) : ofS ((bl s).drop i) = [] := by
  rw [drop_at s i h]
  unfold ofS
  rw [pcs_cons, if_neg (by rw [List.length_drop, size_bl]; omega)]
  rfl
theorem ofS_end (s : ByteArray) (i : Nat) (h : s.size ≤ i) : ofS ((bl s).drop i) = [] := by
  rw [List.drop_of_length_le (by rw [size_bl]; exact h)]
  unfold ofS
  rw [pcs_nil]
  rfl
set_option maxHeartbeats 8000000 in
theorem rof_any (w : World) (s : ByteArray) (hs : s.size ≤ 1000000) : Calls Try.prog 12 #[.string s] w (OfPost w s) := by
  obtain ⟨R, hR⟩ : ∃ R, OfPost w s = R := ⟨_, rfl⟩
  rw [hR]
  have hpost : ∀ A c l W, EvL w.heap.size W A c l → l.map (fun e => e.x) = ofS (bl s) → Kept NoF w W → R (.returned (.slice A l.length c)) W := fun A c l W h1 h2 h3 => by
    rw [← hR]
    exact ⟨A, c, l, rfl, h1, h2, h3⟩
  have HPOST := Lib.hid hpost; clear hpost hR
  go_enter Try.func12, Try.ntmps12
  go_wp2_with fail
  go_loopw [3, 4] (fun v3 v4 wr => ∃ (i : Nat) (A : Option Addr) (c : Nat) (l : List EvR), i ≤ s.size ∧ l.length ≤ i ∧ v4 = .int .i64 i ∧ v3 = .slice A l.length c ∧ EvL w.heap.size wr A c l ∧ ofS (bl s) = l.map (fun e => e.x) ++ ofS ((bl s).drop i) ∧ Kept NoF w wr) (fun _ v4 _ => s.size - (intOf v4).toNat)
  case atStart => exact ⟨0, none, 0, [], Nat.zero_le _, Nat.zero_le _, rfl, rfl, EvL.nil _ _, by simp, Kept.refl _ _⟩
  case round =>
    obtain ⟨i, A, c, l, hi, hll, rfl, rfl, hev, hof, hk⟩ := hrel
    have HEV := Lib.hid hev; clear hev
    have HK := Lib.hid hk; clear hk
    by_cases hil : i < s.size
    · by_cases hn : s[i].toNat < s.size - i
      · have hgo := ofS_go s i hil hn
        obtain ⟨n, hnn⟩ : ∃ n, s[i].toNat = n := ⟨_, rfl⟩
        rw [hnn] at hgo hn
        have hrd := rread_any wr (s.extract (i + 1) (i + 1 + n)) (by simp; unfold maxLen; omega)
        unfold ReadPost at hrd
        rw [hgo] at hof
        have HOF := Lib.hid hof; clear hof hgo
        have HRD := Lib.hid hrd; clear hrd
        have hsz : (s.size : Int) ≤ 1000000 := by omega
        have q1 : (n : Int) < (s.size : Int) - (i : Int) := by omega
        go_wp2_with fail
        refine HRD.out.mono ?_
        rintro e w2 ⟨⟨ev, rfl, hev2⟩, hk2⟩
        have hevl := HEV.out.kept hk2
        have hwz : w.heap.size ≤ wr.heap.size := HK.out.size
        have hw2 : w.heap.size ≤ w2.heap.size := Nat.le_trans hwz hk2.size
        have hkk := HK.out.then hk2
        have HE := Lib.hid (And.intro hevl (And.intro hw2 hkk)); clear hevl hw2 hkk HEV HRD
        obtain ⟨q, hq⟩ : ∃ q, readE (s.extract (i + 1) (i + 1 + n)) = q := ⟨_, rfl⟩
        rw [hq] at HOF hev2 ⊢
        cases q with
        | none =>
          have hof := HOF.out
          rw [show (none : Option EvC).toList = [] from rfl, List.nil_append] at hof
          clear hev2 HOF hk2 hwz hq
          have HOF := Lib.hid hof; clear hof
          obtain ⟨⟨k, nd, n0, ak, an, key, dst, tm, am, ol⟩, A2, c2⟩ := ev
          unfold vagg
          dsimp only [Option.isSome]
          go_wp2_with fail
          go_roundw
          case rel => exact ⟨i + 1 + n, A, c, l, by omega, by omega, by go_num, rfl, HE.out.1.kept ((Kept.refl _ _).alloc _), HOF.out, HE.out.2.2.alloc _⟩
          case measure => simp [intOf]; omega
        | some x =>
          obtain ⟨hx1, hx2⟩ := hev2 x rfl
          have hx3 : NewSl 55 3 w.heap.size w2 ev.A ev.x.ops.length ev.c (cells ev.x.ops) := ⟨hx2.1, fun k hk => Nat.le_trans hwz (hx2.2 k hk)⟩
          have hof := HOF.out
          rw [show (some x).toList = [x] from rfl, ← List.append_assoc, ← hx1] at hof
          have hof2 : ofS (bl s) = (l ++ [ev]).map (fun e => e.x) ++ ofS ((bl s).drop (i + 1 + n)) := by rw [List.map_append]; exact hof
          clear hev2 HOF hk2 hwz hq hx1 hx2 hof
          have HOF := Lib.hid hof2; clear hof2
          have HX3 := Lib.hid hx3; clear hx3
          have hone : ∀ u ∈ vcell ev, u.oneCell' = true := fun u hu => one_evs [ev] u (by unfold vcells; simpa using hu)
          have HONE := Lib.hid hone; clear hone
          obtain ⟨⟨k, nd, n0, ak, an, key, dst, tm, am, ol⟩, A2, c2⟩ := ev
          unfold vagg
          dsimp only [Option.isSome]
          have hm1 : l.length + 1 ≤ maxLen := by unfold maxLen; omega
          have hm2 : (l.length + 1) * 112 ≤ 140737488355328 := by omega
          have HM1 := Lib.hid hm1; clear hm1
          have HM2 := Lib.hid hm2; clear hm2
          go_wp2_with (at_builtin; refine list_append_src elemEv (.tmp 40) (.tmp 42) rfl rfl (Value.slice A l.length c) rfl ((HE.out.1.1.kept (((Kept.refl NoF _).alloc _).alloc _)).1) 1 rfl (Src.of_has (m := 1) (cs := #[.int .i64 k, .int .i64 nd, .int .i64 n0, .int .i64 ak, .int .i64 an, .string key, .string dst, .int .u64 tm, .int .i64 am, .slice A2 ol.length c2]) (Has.new_at _ 41 _ (by simp)) rfl) (by exact HONE.out) HM1.out HM2.out ?_; intro A6 c6 w12 ho6 hg6 ha6)
          have hk6 : Kept NoF w w12 := Kept.grown (b := (w2.alloc (.cells #[.int .i64 k, .int .i64 nd, .int .i64 n0, .int .i64 ak, .int .i64 an, .string key, .string dst, .int .u64 tm, .int .i64 am, .slice A2 ol.length c2] 41)).alloc (.cells #[.int .i64 k, .int .i64 nd, .int .i64 n0, .int .i64 ak, .int .i64 an, .string key, .string dst, .int .u64 tm, .int .i64 am, .slice A2 ol.length c2] 41)) (by (repeat' (first | with_reducible exact Kept.refl _ _ | with_reducible refine Kept.put ?_ ?_ | with_reducible refine Kept.drewN ?_ _ | with_reducible refine Kept.drew ?_ | with_reducible refine Kept.alloc ?_ _ | (with_reducible exact HE.out.2.2) | (right; simp; done)))) hg6 (fun k hk => .inr (HE.out.1.1.2 k hk))
          have hnew := HE.out.1.snoc HE.out.2.1 (((Kept.refl NoF _).alloc _).alloc _) HX3.out ho6 hg6 ha6
          have HN := Lib.hid (And.intro hnew hk6); clear hnew hk6 ho6 hg6 ha6
          go_wp2_with fail
          go_roundw
          case rel => exact ⟨i + 1 + n, A6, c6, _, by omega, by rw [List.length_append]; simp only [List.length_cons, List.length_nil]; omega, by go_num, by rw [List.length_append]; rfl, HN.out.1, HOF.out, HN.out.2⟩
          case measure => simp [intOf]; omega
      · have he := ofS_stop s i hil hn
        rw [he, List.append_nil] at hof
        have hf := HPOST.out A c l wr HEV.out hof.symm HK.out
        have HF := Lib.hid hf; clear hf hof he
        obtain ⟨n, hnn⟩ : ∃ n, s[i].toNat = n := ⟨_, rfl⟩
        have hnb : n < 256 := by rw [← hnn]; exact UInt8.toNat_lt _
        rw [hnn] at hn
        have hsz : (s.size : Int) ≤ 1000000 := by omega
        have q1 : ¬ (n : Int) < (s.size : Int) - (i : Int) := by omega
        go_wp2
        exact HF.out
    · have he := ofS_end s i (by omega)
      rw [he, List.append_nil] at hof
      have hf := HPOST.out A c l wr HEV.out hof.symm HK.out
      have HF := Lib.hid hf; clear hf hof he
      obtain rfl : i = s.size := by omega
      go_wp2
      exact HF.out
end Scr
end Go.Proofs.Ytfobbocaodppeaa
