
/- The program's set, pick, join, may; slices.Equal, Grow, Concat at members; slices.Sort at numbers. -/
import Derived.Test.YtffnaabnbimhbaaPlan1
import Derived.Test.YtffnaabnbimhbaaSortLay
import Derived.Sort.OwnSortedInts
import Derived.Lib.AppendZerosOnto
import Derived.Lib.Walk
import Derived.Maps.OwnSet
import Derived.Maps.Views
set_option linter.unusedSimpArgs false
set_option linter.unusedVariables false
namespace Go.Proofs.Ytffnaabnbimhbaa
open Go.RowKit Go.Shelf Go.Maps
set_option maxRecDepth 100000
namespace Plan
set_option maxHeartbeats 2000000 in
theorem eqs_any (w : World) (A B : Option Addr) (c d n n' : Nat) (l l' : List Mem) (hn : n = l.length) (hn' : n' = l'.length) (hl : Src w 2 A l.length (mcells l)) (hl' : Src w 2 B l'.length (mcells l')) (hlen : l.length ≤ 1000000) (hlen' : l'.length ≤ 1000000) :
    Calls Try.prog 22 #[.slice A n c, .slice B n' d] w fun e w' => e = .returned (.bool (eqL l l')) ∧ Kept NoF w w' := by
  subst hn
  subst hn'
  have HL := Lib.hid hl; clear hl
  have HL' := Lib.hid hl'; clear hl'
  by_cases h3 : l.length = l'.length
  rotate_left
  · have b1 : ((l.length : Int) == (l'.length : Int)) = false := by rw [beq_eq_false_iff_ne]; omega
    have b2 : ((l.length : Int) != (l'.length : Int)) = true := by rw [bne_iff_ne]; omega
    rw [eqL_len h3]
    clear h3
    go_enter Try.func22, Try.ntmps22
    go_wp2
    go_ret
    exact ⟨rfl, Kept.refl _ _⟩
  rw [← h3] at HL' ⊢
  have H3 := Lib.hid h3; clear h3
  go_enter Try.func22, Try.ntmps22
  go_wp2_with fail
  go_loopw [13] (fun v13 wr => ∃ i : Nat, i ≤ l.length ∧ v13 = .int .i64 i ∧ Kept NoF w wr ∧ eqL l l' = eqL (l.drop i) (l'.drop i)) (fun v13 _ => l.length - (intOf v13).toNat)
  case atStart => exact ⟨0, Nat.zero_le _, rfl, Kept.refl _ _, rfl⟩
  case round =>
    obtain ⟨i, hi, rfl, hk, he⟩ := hrel
    have HK := Lib.hid hk; clear hk
    have HE := Lib.hid he; clear he
    by_cases hil : i < l.length
    · obtain ⟨m, hm⟩ : ∃ m, l[i]? = some m := ⟨_, List.getElem?_eq_getElem hil⟩
      obtain ⟨q, hq⟩ : ∃ q, l'[i]? = some q := ⟨_, List.getElem?_eq_getElem (by have := H3.out; omega)⟩
      obtain ⟨ad, hA, had, d0, d1⟩ := mem_cells (HL.out.kept HK.out (fun _ _ x => x)) (by omega) i m hm
      obtain ⟨bd, hB, hbd, f0, f1⟩ := mem_cells (HL'.out.kept HK.out (fun _ _ x => x)) (by omega) i q hq
      subst hA
      subst hB
      have hs := eqL_step hm hq
      have hneq := run_neq_mem m q
      obtain ⟨b, hb⟩ : ∃ b : Bool, b = decide (m = q) := ⟨_, rfl⟩
      have hb' : decide (m ≠ q) = !b := by rw [hb]; simp
      rw [hb'] at hneq
      rw [← hb] at hs
      have HS := Lib.hid hs; clear hs hm hq hb hb'
      obtain ⟨m1, m2⟩ := m
      obtain ⟨q1, q2⟩ := q
      unfold magg at hneq
      dsimp only at d0 d1 f0 f1 hneq
      cases b
      · go_wp2_with fail
        go_quiet (fail)
        go_wp2
        go_ret
        exact ⟨by rw [HE.out, HS.out]; rfl, HK.out.drewN _⟩
      · go_wp2_with fail
        go_quiet (fail)
        go_wp2
        go_roundw
        case rel => exact ⟨i + 1, by omega, by go_num, HK.out.drewN _, by rw [HE.out, HS.out]; rfl⟩
        case measure => simp [intOf]; omega
    · obtain rfl : i = l.length := by omega
      have hr : eqL l l' = true := by rw [HE.out, List.drop_length, H3.out, List.drop_length]; rfl
      have HR := Lib.hid hr; clear hr
      go_wp2
      go_ret
      exact ⟨by rw [HR.out]; rfl, HK.out⟩

def I64 (k : Int) : Prop := (Lit.int .i64 k).wf = true
theorem intKeyed : Keyed Try.prog 3 := int_keyed Try.underlying3
theorem intKey {k : Int} (h : I64 k) : keyOf Try.prog 3 (.int .i64 k) = some (.int .i64 k) := keyOf_int_mk Try.underlying3 h
/-- Block b is a set of numbers, of at most n entries: s. -/
def SetIs (w : World) (b n : Nat) (s : Int → Bool) : Prop :=
  ∃ D : DataW Unit, w.ownsMap Try.prog 3 (plainElem Try.prog 4) b n D ∧ ∀ k, I64 k → D.atKey (.int .i64 k) (.lit (.bool false)) = .lit (.bool (s k))
theorem SetIs.lt {w : World} {b n : Nat} {s : Int → Bool} (h : SetIs w b n s) : b < w.heap.size := by
  obtain ⟨D, h, _⟩ := h
  exact h.lt
theorem SetIs.kept {F : Nat → Prop} {w w' : World} {b n : Nat} {s : Int → Bool} (h : SetIs w b n s) (hk : Kept F w w') (hf : ¬ F b) : SetIs w' b n s := by
  obtain ⟨D, ho, hD⟩ := h
  have hlt := ho.lt
  obtain ⟨es, clock, hb, hF, hs, e⟩ := ho
  exact ⟨D, ⟨es, clock, (hk.block b hlt hf).trans hb, hF, hs, e⟩, hD⟩
theorem SetIs.made (w : World) : SetIs (w.alloc (.map #[] 0)) w.heap.size 0 (fun _ => false) :=
  ⟨_, World.ownsMap_made w _ _ _, fun k hk => rfl⟩
theorem SetIs.look {w : World} {b n : Nat} {s : Int → Bool} (h : SetIs w b n s) {k : Int} (hk : I64 k) :
    (Instr.lookup 62 (.map (some b)) (.int .i64 k) false).run Try.prog w = .ok (.bool (s k)) w := by
  obtain ⟨D, ho, hD⟩ := h
  obtain ⟨v, ps, hrun, hv⟩ := ho.lookup intKeyed Try.underlying62 (z := .bool false) (by rfl) (zd := .lit (.bool false)) (zp := []) (plainElem_bool Try.underlying4 false) (intKey hk)
  rw [hD k hk] at hv
  unfold plainElem at hv
  rw [Try.underlying4] at hv
  rw [hrun]
  cases v <;> simp at hv
  rw [hv.1]
theorem SetIs.store {w : World} {b n : Nat} {s : Int → Bool} (h : SetIs w b n s) (hn : n < maxLen) {x : Int} (hx : I64 x) :
    ∃ w', (Instr.mapUpdate 62 (.map (some b)) (.int .i64 x) (.bool true)).run Try.prog w = .ok () w' ∧ SetIs w' b (n + 1) (fun y => decide (y = x) || s y) ∧ Kept (fun i => i = b) w w' := by
  obtain ⟨D, ho, hD⟩ := h
  obtain ⟨w', hrun, ho', hg⟩ := ho.update intKeyed Try.underlying62 hn (intKey hx) (plainElem_bool Try.underlying4 true)
  refine ⟨w', hrun, ⟨_, ho', ?_⟩, (Kept.refl _ _).grownBy hg fun i hi => by injection hi with hi; exact .inl hi.symm⟩
  intro y hy
  have hm : IsMap D := ho.isMap
  have hl : WideAt.IsKeyLit (.int .i64 x) := by trivial
  by_cases e : y = x
  · subst e
    rw [atKey_put_same hm hl]
    simp
  · have hne : (Lit.int .i64 y) ≠ .int .i64 x := fun h => e (by injection h)
    rw [atKey_put_other hne, hD y hy]
    simp [e]
theorem SetIs.ext {w : World} {b n : Nat} {s s' : Int → Bool} (h : SetIs w b n s) (e : ∀ k, s k = s' k) : SetIs w b n s' := by
  obtain rfl : s = s' := funext e
  exact h
theorem SetIs.ne {w : World} {b n g : Nat} {s : Int → Bool} {t : TypeId} {cs : Array Value} (h : SetIs w b n s) (hg : Has w g t cs) : b ≠ g := by
  rintro rfl
  obtain ⟨D, ⟨es, clock, hb, _⟩, _⟩ := h
  unfold Has at hg
  rw [hg] at hb
  cases hb
theorem SetIs.ne_row {w : World} {b n base k z : Nat} {s : Int → Bool} {e : TypeId} {v : Value} {xs : List Value} (h : SetIs w b n s) (hr : w.ownsRow base e z v k xs) : v.ownBlock ≠ some b := by
  obtain ⟨D, ⟨es, clock, hb, _⟩, _⟩ := h
  obtain ⟨_, ⟨rfl, _⟩ | ⟨g, cap, cur, rfl, _, hg, _⟩⟩ := hr
  · simp [Value.ownBlock]
  · intro e
    injection e with e
    simp at e
    subst e
    rw [hg] at hb
    cases hb

set_option maxHeartbeats 1000000 in
theorem set_any (w : World) (A : Option Addr) (c : Nat) (l : List Int) (hl : Src w 1 A l.length (ints l)) (hlen : l.length ≤ 1000000) (hi64 : ∀ x ∈ l, I64 x) :
    Calls Try.prog 16 #[.slice A l.length c] w fun e w' => (∃ b, e = .returned (.map (some b)) ∧ SetIs w' b l.length (inB l) ∧ w.heap.size ≤ b) ∧ Kept NoF w w' := by
  have HL := Lib.hid hl; clear hl
  have HI := Lib.hid hi64; clear hi64
  have HM := Lib.hid (SetIs.made w)
  have hmm := @run_makeMap Try.prog
  go_enter Try.func16, Try.ntmps16
  go_wp2_with fail
  go_loopw [9] (fun v9 wr => ∃ i : Nat, i ≤ l.length ∧ v9 = .int .i64 i ∧ SetIs wr w.heap.size i (inB (l.take i)) ∧ Kept NoF w wr) (fun v9 _ => l.length - (intOf v9).toNat)
  case atStart => exact ⟨0, Nat.zero_le _, rfl, HM.out.ext (fun k => rfl), (Kept.refl _ _).alloc _⟩
  case round =>
    obtain ⟨i, hi, rfl, hs, hk⟩ := hrel
    have hsz := hs.lt
    have HK := Lib.hid hk; clear hk
    by_cases hil : i < l.length
    · obtain ⟨x, hx⟩ : ∃ x, l[i]? = some x := ⟨_, List.getElem?_eq_getElem hil⟩
      obtain ⟨ad, hA, had, d0⟩ := int_cells (HL.out.kept HK.out (fun _ _ x => x)) (by omega) i x hx
      subst hA
      obtain ⟨w2, hst, hs2, hk2⟩ := hs.store (by unfold maxLen; omega) (HI.out x (List.mem_of_getElem? hx))
      have hs3 := hs2.ext (s' := inB (l.take (i + 1))) (fun k => by
        unfold inB
        rw [take_snoc hx]
        simp only [List.contains_append]
        by_cases e : k = x <;> simp [e])
      have hk3 : Kept NoF w w2 := HK.out.trans hk2 (fun k e => .inr (by omega))
      have HS3 := Lib.hid hs3; clear hs3 hs2 hs hk2 hx
      have HK3 := Lib.hid hk3; clear hk3
      go_wp2
      go_roundw
      case rel => exact ⟨i + 1, by omega, by go_num, HS3.out, HK3.out⟩
      case measure => simp [intOf]; omega
    · obtain rfl : i = l.length := by omega
      rw [List.take_length] at hs
      have HS := Lib.hid hs; clear hs
      go_wp2
      go_ret
      exact ⟨⟨_, rfl, HS.out, Nat.le_refl _⟩, HK.out⟩

theorem pfirst_any (W : World) (B1 B2 b1 b2 n1 n2 : Nat) (g t : List Int) (x : Mem) (hx : I64 x.1) (h1 : Has W B1 62 #[.map (some b1)]) (h2 : Has W B2 62 #[.map (some b2)])
    (s1 : SetIs W b1 n1 (inB g)) (s2 : SetIs W b2 n2 (inB t)) :
    Calls Try.prog 18 #[magg x, .pointer (some ⟨B1, 0, none⟩), .pointer (some ⟨B2, 0, none⟩)] W fun e w' => e = .returned (.bool (isFirst g t x)) ∧ Kept NoF W w' := by
  have hlt1 := h1.lt
  have hlt2 := h2.lt
  have hne1 : B1 ≠ W.heap.size := by omega
  have hne2 : B2 ≠ W.heap.size := by omega
  have c1 : ∀ o, (W.alloc o).cell? ⟨B1, 0, none⟩ = some (.map (some b1)) := fun o => (h1.alloc o).cell 0
  have c2 : ∀ o, (W.alloc o).cell? ⟨B2, 0, none⟩ = some (.map (some b2)) := fun o => (h2.alloc o).cell 0
  have l1 := fun o => (s1.kept ((Kept.refl NoF W).alloc o) (fun x => x)).look hx
  have l2 := fun o => (s2.kept ((Kept.refl NoF W).alloc o) (fun x => x)).look hx
  have hf := isFirst_eq g t x
  obtain ⟨i1, hi1⟩ : ∃ b, inB g x.1 = b := ⟨_, rfl⟩
  obtain ⟨i2, hi2⟩ : ∃ b, inB t x.1 = b := ⟨_, rfl⟩
  rw [hi1] at l1 hf
  rw [hi2] at l2 hf
  rw [hf]
  clear h1 h2 s1 s2 hlt1 hlt2 hf hi1 hi2 hx
  obtain ⟨x1, x2⟩ := x
  unfold magg
  dsimp only at l1 l2 ⊢
  cases i1 <;> cases i2
  all_goals
    go_enter Try.func18, Try.ntmps18
    go_wp2
    go_ret
    exact ⟨rfl, (Kept.refl _ _).alloc _⟩
theorem prest_any (W : World) (B1 B2 b1 b2 n1 n2 : Nat) (g t : List Int) (x : Mem) (hx : I64 x.1) (h1 : Has W B1 62 #[.map (some b1)]) (h2 : Has W B2 62 #[.map (some b2)])
    (s1 : SetIs W b1 n1 (inB g)) (s2 : SetIs W b2 n2 (inB t)) :
    Calls Try.prog 19 #[magg x, .pointer (some ⟨B1, 0, none⟩), .pointer (some ⟨B2, 0, none⟩)] W fun e w' => e = .returned (.bool (isRest g t x)) ∧ Kept NoF W w' := by
  have hlt1 := h1.lt
  have hlt2 := h2.lt
  have hne1 : B1 ≠ W.heap.size := by omega
  have hne2 : B2 ≠ W.heap.size := by omega
  have c1 : ∀ o, (W.alloc o).cell? ⟨B1, 0, none⟩ = some (.map (some b1)) := fun o => (h1.alloc o).cell 0
  have c2 : ∀ o, (W.alloc o).cell? ⟨B2, 0, none⟩ = some (.map (some b2)) := fun o => (h2.alloc o).cell 0
  have l1 := fun o => (s1.kept ((Kept.refl NoF W).alloc o) (fun x => x)).look hx
  have l2 := fun o => (s2.kept ((Kept.refl NoF W).alloc o) (fun x => x)).look hx
  have hf := isRest_eq g t x
  obtain ⟨i1, hi1⟩ : ∃ b, inB g x.1 = b := ⟨_, rfl⟩
  obtain ⟨i2, hi2⟩ : ∃ b, inB t x.1 = b := ⟨_, rfl⟩
  rw [hi1] at l1 hf
  rw [hi2] at l2 hf
  rw [hf]
  clear h1 h2 s1 s2 hlt1 hlt2 hf hi1 hi2 hx
  obtain ⟨x1, x2⟩ := x
  unfold magg
  dsimp only at l1 l2 ⊢
  cases i1 <;> cases i2
  all_goals
    go_enter Try.func19, Try.ntmps19
    go_wp2
    go_ret
    exact ⟨rfl, (Kept.refl _ _).alloc _⟩

set_option maxHeartbeats 1000000 in
theorem pick_any (w : World) (A : Option Addr) (c : Nat) (l : List Mem) (p : Mem → Bool) (g : Nat) (lb : Array Value) (hl : Src w 2 A l.length (mcells l)) (hlen : l.length ≤ 1000)
    (eg : ∀ args w, (callFunc g args).run Try.prog w = .ok (.enter g args) w) (hp : Tells w g lb l p) :
    Calls Try.prog 17 #[.slice A l.length c, .func (.func g) #[] lb] w fun e w' => (∃ O n oc, e = .returned (.slice O n oc) ∧ NewRow w.heap.size w' O n oc (l.filter p)) ∧ Kept NoF w w' := by
  have HL := Lib.hid hl; clear hl
  have HP := Lib.hid hp; clear hp
  go_enter Try.func17, Try.ntmps17
  go_wp2_with fail
  go_loopw [5, 10] (fun v5 v10 wr => ∃ (i : Nat) (O : Option Addr) (n oc : Nat), i ≤ l.length ∧ v10 = .int .i64 i ∧ v5 = .slice O n oc ∧ NewRow w.heap.size wr O n oc ((l.take i).filter p) ∧ Kept NoF w wr) (fun _ v10 _ => l.length - (intOf v10).toNat)
  case atStart => exact ⟨0, none, 0, 0, Nat.zero_le _, rfl, rfl, NewRow.nil _ _, Kept.refl _ _⟩
  case round =>
    obtain ⟨i, O, n, oc, hi, rfl, rfl, hrow, hk⟩ := hrel
    have hlenX : n ≤ 1000 := by have h0 := hrow.1; have := List.length_filter_le p (l.take i); have := List.length_take_le i l; omega
    have HROW := Lib.hid hrow; clear hrow
    have HK := Lib.hid hk; clear hk
    by_cases hil : i < l.length
    · obtain ⟨m, hm⟩ : ∃ m, l[i]? = some m := ⟨_, List.getElem?_eq_getElem hil⟩
      obtain ⟨ad, hA, had, d0, d1⟩ := mem_cells (HL.out.kept HK.out (fun _ _ x => x)) (by omega) i m hm
      subst hA
      obtain ⟨wo, hwo⟩ : ∃ wo : World, wo = wr := ⟨_, rfl⟩
      subst hwo
      have hcall := fun o => HP.out (wo.alloc o) m (HK.out.alloc o) (List.mem_of_getElem? hm)
      have hfy := fun h => filter_yes (p := p) hm h
      have hfn := fun h => filter_no (p := p) hm h
      have hnm := Has.new wo 58 #[.int .i64 m.1, .int .i64 m.2]
      obtain ⟨b, hb⟩ : ∃ b, p m = b := ⟨_, rfl⟩
      rw [hb] at hcall hfy hfn
      clear hm hb
      obtain ⟨m1, m2⟩ := m
      unfold magg at hcall
      dsimp only at d0 d1 hcall hnm
      have HC := Lib.hid hcall; clear hcall
      have HNM := Lib.hid hnm; clear hnm
      have hS : Hid (n + 1 ≤ maxLen) := Lib.hid (by unfold maxLen; omega)
      have hS2 : Hid ((n + 1) * 16 ≤ 140737488355328) := Lib.hid (by omega)
      cases b
      · have hf0 := hfn rfl
        have HF := Lib.hid hf0; clear hf0 hfn hfy
        go_wp2_with fail
        refine (HC.out _).mono ?_
        rintro e w2 ⟨rfl, hk2⟩
        have hk3 := (HK.out.alloc _).then hk2
        have hr3 := HROW.out.kept (((Kept.refl _ _).alloc _).then hk2)
        have HK3 := Lib.hid hk3; clear hk3 hk2
        have HR3 := Lib.hid hr3; clear hr3
        go_wp2
        go_roundw
        case rel => exact ⟨i + 1, O, n, oc, by omega, by go_num, rfl, by rw [HF.out]; exact HR3.out, HK3.out⟩
        case measure => simp [intOf]; omega
      · have hf0 := hfy rfl
        have HF := Lib.hid hf0; clear hf0 hfn hfy
        go_wp2_with fail
        refine (HC.out _).mono ?_
        rintro e w2 ⟨rfl, hk2⟩
        have hk3 := (HK.out.alloc _).then hk2
        have hr3 := HROW.out.kept (((Kept.refl _ _).alloc _).then hk2)
        have hm3 := HNM.out.kept hk2 (fun x => x)
        have c0 : w2.cell? ⟨wo.heap.size, 0, none⟩ = some (.int .i64 m1) := hm3.cell 0
        have c1 : w2.cell? ⟨wo.heap.size, 1, none⟩ = some (.int .i64 m2) := hm3.cell 1
        have HK3 := Lib.hid hk3; clear hk3 hk2 hm3
        have HR3 := Lib.hid hr3; clear hr3
        go_wp2_with (at_builtin; refine list_append_src elemMem (.tmp 17) (.tmp 19) rfl rfl (Value.slice O n oc) rfl ((HR3.out.kept ((Kept.refl _ _).alloc _)).2.1) 1 rfl (Src.of_has (m := 1) (cs := #[.int .i64 m1, .int .i64 m2]) (Has.new_at _ 58 _ (by simp)) rfl) (by intro u hu; simp at hu; rcases hu with rfl | rfl <;> rfl) hS.out hS2.out ?_; intro O3 oc3 w9 ho3 hg3 ha3)
        have hz9 := HK3.out.size
        have hn3 : NewRow w.heap.size w9 O3 (n + 1) oc3 ((l.take i).filter p ++ [(m1, m2)]) := (HR3.out.kept ((Kept.refl _ _).alloc _)).snoc (by simp; omega) ho3 ha3
        have hk9 : Kept NoF w w9 := (HK3.out.alloc _).grown hg3 (fun k hk => .inr (HR3.out.2.2 k hk))
        rw [← HF.out] at hn3
        clear ho3 hg3 ha3
        have HN3 := Lib.hid hn3; clear hn3
        have HK9 := Lib.hid hk9; clear hk9
        go_wp2
        go_roundw
        case rel => exact ⟨i + 1, O3, n + 1, oc3, by omega, by go_num, rfl, HN3.out, HK9.out⟩
        case measure => simp [intOf]; omega
    · obtain rfl : i = l.length := by omega
      have hr := HROW.out
      rw [List.take_length] at hr
      have HR := Lib.hid hr; clear hr
      go_wp2
      go_ret
      exact ⟨⟨O, n, oc, rfl, HR.out⟩, HK.out⟩
end Plan
end Go.Proofs.Ytffnaabnbimhbaa
