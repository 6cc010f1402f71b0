/- A member's place, a number in a list: the program's. -/
import Derived.Test.YtffnaabnbimhbaaConf2
set_option linter.unusedSimpArgs false
set_option linter.unusedVariables false
namespace Go.Proofs.Ytffnaabnbimhbaa
open Go.RowKit
set_option maxRecDepth 100000
namespace Plan
set_option maxHeartbeats 2000000 in
theorem pplace_any (w : World) (ep fl : Int) (A : Option Addr) (c : Nat) (l : List Mem) (x : Mem) (hl : Src w 2 A l.length (mcells l)) (hlen : l.length ≤ 1000000) :
    Calls Try.prog 11 #[cagg ep A l.length c fl, magg x] w fun e w' => (∃ n : Int, e = .returned (.int .i64 n) ∧ (0 ≤ n ↔ x ∈ l) ∧ (n = -1 ∨ 0 ≤ n)) ∧ Kept NoF w w' := by
  have HL := Lib.hid hl; clear hl
  obtain ⟨x1, x2⟩ := x
  have hn1 := (Has.new w 25 #[.int .i64 ep, .slice A l.length c, .int .u64 fl]).alloc (.cells #[.int .i64 x1, .int .i64 x2] 58)
  have hn2 := Has.new (w.alloc (.cells #[.int .i64 ep, .slice A l.length c, .int .u64 fl] 25)) 58 #[.int .i64 x1, .int .i64 x2]
  rw [size_alloc] at hn2
  have c0 := hn1.cell 1
  simp only [List.getElem?_toArray, List.getElem?_cons_zero, List.getElem?_cons_succ] at c0
  have HN2 := Lib.hid hn2; clear hn2 hn1
  unfold magg
  dsimp only
  go_enter Try.func11, Try.ntmps11
  go_wp2_with fail
  go_loopw [5, 10] (fun v5 v10 wr => ∃ i : Nat, i ≤ l.length ∧ v10 = .int .i64 i ∧ Has wr (w.heap.size + 1) 58 #[.int .i64 x1, .int .i64 x2] ∧ Kept NoF w wr ∧ ((x1, x2) ∈ l ↔ (x1, x2) ∈ l.drop i)) (fun _ v10 _ => l.length - (intOf v10).toNat)
  case atStart => exact ⟨0, Nat.zero_le _, rfl, HN2.out, ((Kept.refl _ _).alloc _).alloc _, Iff.rfl⟩
  case round =>
    obtain ⟨i, hi, rfl, hh2, hk, he⟩ := hrel
    have e1 : ∀ o, (wr.alloc o).cell? ⟨w.heap.size + 1, 0, none⟩ = some (.int .i64 x1) := fun o => (hh2.alloc o).cell 0
    have e2 : ∀ o, (wr.alloc o).cell? ⟨w.heap.size + 1, 1, none⟩ = some (.int .i64 x2) := fun o => (hh2.alloc o).cell 1
    have HH2 := Lib.hid hh2; clear hh2
    have HK := Lib.hid hk; clear hk
    have HE := Lib.hid he; clear he
    by_cases hil : i < l.length
    · obtain ⟨m, hm⟩ : ∃ m, l[i]? = some m := ⟨_, List.getElem?_eq_getElem hil⟩
      obtain ⟨ad, hA, had, d0, d1⟩ := mem_cells (HL.out.kept HK.out (fun _ _ x => x)) (by omega) i m hm
      subst hA
      have hs : (x1, x2) ∈ l.drop i ↔ m = (x1, x2) ∨ (x1, x2) ∈ l.drop (i + 1) := by rw [drop_cons hm, List.mem_cons, eq_comm]
      have heql := run_eql_mem m (x1, x2)
      obtain ⟨b, hb⟩ : ∃ b : Bool, b = decide (m = (x1, x2)) := ⟨_, rfl⟩
      rw [← hb] at heql
      have HB := Lib.hid hb; clear hb
      have HS := Lib.hid hs; clear hs hm
      obtain ⟨m1, m2⟩ := m
      unfold magg at heql
      dsimp only at d0 d1 heql
      cases b
      · go_wp2_with fail
        go_roundw
        case rel => exact ⟨i + 1, by omega, by go_num, HH2.out.alloc _, HK.out.alloc _, by rw [HE.out, HS.out]; have := HB.out; simp at this; simp; omega⟩
        case measure => simp [intOf]; omega
      · go_wp2_with fail
        go_ret
        exact ⟨⟨_, rfl, ⟨fun _ => by rw [HE.out, HS.out]; have := HB.out; simp at this; exact .inl (by simp [this]), fun _ => by omega⟩, .inr (by omega)⟩, HK.out.alloc _⟩
    · obtain rfl : i = l.length := by omega
      go_wp2
      go_ret
      exact ⟨⟨-1, rfl, ⟨fun h => by omega, fun h => by rw [HE.out, List.drop_length] at h; cases h⟩, .inl rfl⟩, HK.out⟩
set_option maxHeartbeats 2000000 in
theorem rplaceS_any (w : World) (ep fl : Int) (A : Option Addr) (c : Nat) (l : List Mem) (x : Mem) (hl : Src w 2 A l.length (mcells l)) (hlen : l.length ≤ 1000000) :
    Calls Try.prog 14 #[cagg ep A l.length c fl, magg x] w fun e w' => (∃ n : Int, e = .returned (.int .i64 n) ∧ (0 ≤ n ↔ x ∈ l) ∧ (n = -1 ∨ 0 ≤ n)) ∧ Kept NoF w w' := by
  have HL := Lib.hid hl; clear hl
  obtain ⟨x1, x2⟩ := x
  have hn1 := (Has.new w 25 #[.int .i64 ep, .slice A l.length c, .int .u64 fl]).alloc (.cells #[.int .i64 x1, .int .i64 x2] 58)
  have hn2 := Has.new (w.alloc (.cells #[.int .i64 ep, .slice A l.length c, .int .u64 fl] 25)) 58 #[.int .i64 x1, .int .i64 x2]
  rw [size_alloc] at hn2
  have HN1 := Lib.hid hn1; clear hn1
  have HN2 := Lib.hid hn2; clear hn2
  unfold magg
  dsimp only
  go_enter Try.func14, Try.ntmps14
  go_wp2_with fail
  go_loopw [5] (fun v5 wr => ∃ i : Nat, i ≤ l.length ∧ v5 = .int .i64 i ∧ Has wr w.heap.size 25 #[.int .i64 ep, .slice A l.length c, .int .u64 fl] ∧ Has wr (w.heap.size + 1) 58 #[.int .i64 x1, .int .i64 x2] ∧ Kept NoF w wr ∧ ((x1, x2) ∈ l ↔ (x1, x2) ∈ l.drop i)) (fun v5 _ => l.length - (intOf v5).toNat)
  case atStart => exact ⟨0, Nat.zero_le _, rfl, HN1.out, HN2.out, ((Kept.refl _ _).alloc _).alloc _, Iff.rfl⟩
  case round =>
    obtain ⟨i, hi, rfl, hh, hh2, hk, he⟩ := hrel
    have e0 : wr.cell? ⟨w.heap.size, 1, none⟩ = some (.slice A l.length c) := hh.cell 1
    have e1 : wr.cell? ⟨w.heap.size + 1, 0, none⟩ = some (.int .i64 x1) := hh2.cell 0
    have e2 : wr.cell? ⟨w.heap.size + 1, 1, none⟩ = some (.int .i64 x2) := hh2.cell 1
    have HH := Lib.hid hh; clear hh
    have HH2 := Lib.hid hh2; clear hh2
    have HK := Lib.hid hk; clear hk
    have HE := Lib.hid he; clear he
    by_cases hil : i < l.length
    · obtain ⟨m, hm⟩ : ∃ m, l[i]? = some m := ⟨_, List.getElem?_eq_getElem hil⟩
      obtain ⟨ad, hA, had, d0, d1⟩ := mem_cells (HL.out.kept HK.out (fun _ _ x => x)) (by omega) i m hm
      subst hA
      have hs : (x1, x2) ∈ l.drop i ↔ m = (x1, x2) ∨ (x1, x2) ∈ l.drop (i + 1) := by rw [drop_cons hm, List.mem_cons, eq_comm]
      have heql := run_eql_mem m (x1, x2)
      obtain ⟨b, hb⟩ : ∃ b : Bool, b = decide (m = (x1, x2)) := ⟨_, rfl⟩
      rw [← hb] at heql
      have HB := Lib.hid hb; clear hb
      have HS := Lib.hid hs; clear hs hm
      obtain ⟨m1, m2⟩ := m
      unfold magg at heql
      dsimp only at d0 d1 heql
      cases b
      · go_wp2_with fail
        go_quiet (fail)
        go_wp2
        go_roundw
        case rel => exact ⟨i + 1, by omega, by go_num, HH.out.drewN _, HH2.out.drewN _, HK.out.drewN _, by rw [HE.out, HS.out]; have := HB.out; simp at this; simp; omega⟩
        case measure => simp [intOf]; omega
      · go_wp2_with fail
        go_quiet (fail)
        go_wp2
        go_ret
        exact ⟨⟨_, rfl, ⟨fun _ => by rw [HE.out, HS.out]; have := HB.out; simp at this; exact .inl (by simp [this]), fun _ => by omega⟩, .inr (by omega)⟩, HK.out.drewN _⟩
    · obtain rfl : i = l.length := by omega
      go_wp2
      go_ret
      exact ⟨⟨-1, rfl, ⟨fun h => by omega, fun h => by rw [HE.out, List.drop_length] at h; cases h⟩, .inl rfl⟩, HK.out⟩

set_option maxHeartbeats 2000000 in
theorem indexI_any (w : World) (A : Option Addr) (c : Nat) (l : List Int) (x : Int) (hl : Src w 1 A l.length (ints l)) (hlen : l.length ≤ 1000000) :
    Calls Try.prog 32 #[.slice A l.length c, .int .i64 x] w fun e w' => (∃ n : Int, e = .returned (.int .i64 n) ∧ (0 ≤ n ↔ x ∈ l)) ∧ w = w' := by
  have HL := Lib.hid hl; clear hl
  go_enter Try.func32, Try.ntmps32
  go_wp2_with fail
  go_loop [5, 8] (fun v5 v8 => ∃ i : Nat, i ≤ l.length ∧ v8 = .int .i64 i ∧ (x ∈ l ↔ x ∈ l.drop i)) (fun _ v8 => l.length - (intOf v8).toNat)
  case atStart => exact ⟨0, Nat.zero_le _, rfl, Iff.rfl⟩
  case round =>
    obtain ⟨i, hi, rfl, he⟩ := hrel
    have HE := Lib.hid he; clear he
    by_cases hil : i < l.length
    · obtain ⟨b, hb⟩ : ∃ b, l[i]? = some b := ⟨_, List.getElem?_eq_getElem hil⟩
      obtain ⟨ad, rfl, had, e0⟩ := int_cells HL.out (by omega) i b hb
      have hs : x ∈ l.drop i ↔ x = b ∨ x ∈ l.drop (i + 1) := by rw [drop_cons hb, List.mem_cons]
      have HS := Lib.hid hs; clear hs hb
      by_cases hbx : x = b
      · subst hbx
        go_wp2
        go_ret
        exact ⟨⟨_, rfl, ⟨fun _ => by rw [HE.out, HS.out]; simp, fun _ => by omega⟩⟩, rfl⟩
      · have hne : (x == b) = false := by simpa using hbx
        go_wp2
        go_round
        case rel => exact ⟨i + 1, by omega, by go_num, by rw [HE.out, HS.out]; simp [hbx]⟩
        case measure => simp [intOf]; omega
    · obtain rfl : i = l.length := by omega
      go_wp2
      go_ret
      exact ⟨⟨-1, rfl, ⟨fun h => by omega, fun h => by rw [HE.out, List.drop_length] at h; cases h⟩⟩, rfl⟩
theorem containsI_any (w : World) (A : Option Addr) (c : Nat) (l : List Int) (x : Int) (hl : Src w 1 A l.length (ints l)) (hlen : l.length ≤ 1000000) :
    Calls Try.prog 12 #[.slice A l.length c, .int .i64 x] w fun e w' => e = .returned (.bool (inB l x)) ∧ w = w' := by
  have hi := indexI_any w A c l x hl hlen
  have HI := Lib.hid hi; clear hi hl
  by_cases hx : x ∈ l
  · have hb : inB l x = true := by unfold inB; simpa using hx
    rw [hb]
    have HX := Lib.hid hx; clear hx
    go_enter Try.func12, Try.ntmps12
    go_wp2_with fail
    refine HI.out.mono ?_
    rintro e w2 ⟨⟨n, rfl, hn⟩, rfl⟩
    have hn0 : 0 ≤ n := hn.2 HX.out
    clear hn
    go_wp2
    go_ret
    exact ⟨rfl, rfl⟩
  · have hb : inB l x = false := by unfold inB; simpa using hx
    rw [hb]
    have HX := Lib.hid hx; clear hx
    go_enter Try.func12, Try.ntmps12
    go_wp2_with fail
    refine HI.out.mono ?_
    rintro e w2 ⟨⟨n, rfl, hn⟩, rfl⟩
    have hn0 : ¬ 0 ≤ n := fun h => HX.out (hn.1 h)
    clear hn
    go_wp2
    go_ret
    exact ⟨by have h2 : decide (0 ≤ n) = false := decide_eq_false (by omega)
              simp [h2], rfl⟩
end Plan
end Go.Proofs.Ytffnaabnbimhbaa
