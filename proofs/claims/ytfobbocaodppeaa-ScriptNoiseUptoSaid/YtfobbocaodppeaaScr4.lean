/- script.numbers; how long a step's bytes are; catenaref40.may. -/
import Derived.Test.YtfobbocaodppeaaScr1
import Derived.Test.YtfobbocaodppeaaWire3
import Derived.Deep.QuietTactic
set_option linter.unusedSimpArgs false
set_option linter.unusedVariables false
namespace Go.Proofs.Ytfobbocaodppeaa
open Go.RowKit
set_option maxRecDepth 100000
namespace Scr
open Ops Vn Wire
theorem elemInt : Elem Try.prog 63 3 1 8 := by
  obtain ⟨i0, hi, hz0, hz1, hz2⟩ := info_parts (show (Try.prog.info? 3).map (fun i => (i.zero, i.size, i.bytes)) = some (some (.int .i64 0), 1, 8) by kernel_rfl)
  exact ⟨Try.underlying63, ⟨i0, _, hi, hz0, hz1, hz2, rfl⟩, by decide⟩
def numsE (e : EvC) : List Int := [e.k, e.nd, e.n] ++ if e.k = 0 then [e.ak, e.an, e.am] else []
def putN (l : List Int) : List UInt8 := l.flatMap fun n => put n.toNat
def tailA (e : EvC) : List UInt8 := put e.tm.toNat ++ (putT e.key ++ (putT e.dst ++ (put e.ops.length ++ e.ops.flatMap putO)))
theorem okE_nums (e : EvC) : okE e = (numsE e).all may := by
  unfold okE numsE
  by_cases h : e.k = 0
  · rw [if_pos h]
    simp [h, Bool.and_assoc]
  · rw [if_neg h]
    simp [h, Bool.and_assoc]
theorem putE_nums (e : EvC) : putE e = putN (numsE e) ++ if e.k = 0 then tailA e else [] := by
  unfold putE numsE putN tailA putA
  by_cases h : e.k = 0 <;> simp [h, List.append_assoc]
theorem putO_le (o : OpR) (hk : o.key.size < 18446744073709551616) (hv : o.val.size < 18446744073709551616) : (putO o).length ≤ 19 + o.key.size + o.val.size := by
  have h1 := put_le hk
  have h2 := put_le hv
  unfold putO putT
  simp only [List.length_append, size_bl]
  have : (putF o.del).length = 1 := rfl
  omega
theorem wtO_mem {l : List OpR} {o : OpR} (h : o ∈ l) : o.key.size + o.val.size + 1 ≤ wtO l := by
  unfold wtO
  induction l with
  | nil => cases h
  | cons a l ih =>
    rw [List.map_cons, List.sum_cons]
    rcases List.mem_cons.1 h with rfl | h
    · omega
    · have := ih h; omega
theorem wtO_len (l : List OpR) : l.length ≤ wtO l := by
  unfold wtO
  induction l with
  | nil => exact Nat.le_refl _
  | cons a l ih => rw [List.map_cons, List.sum_cons, List.length_cons]; omega
theorem wtO_take (l : List OpR) (i : Nat) : wtO (l.take i) ≤ wtO l := by
  unfold wtO
  induction l generalizing i with
  | nil => simp
  | cons a l ih =>
    cases i with
    | zero => simp
    | succ i =>
      have := ih i
      rw [List.take_succ_cons, List.map_cons, List.sum_cons, List.map_cons, List.sum_cons]
      omega
theorem flatO_le (l : List OpR) (h : wtO l ≤ 1048576) : (l.flatMap putO).length ≤ 20 * wtO l := by
  induction l with
  | nil => simp
  | cons a l ih =>
    have e : wtO (a :: l) = a.key.size + a.val.size + 1 + wtO l := by unfold wtO; rw [List.map_cons, List.sum_cons]
    rw [e] at h ⊢
    have h1 := putO_le a (by omega) (by omega)
    have h2 := ih (by omega)
    rw [List.flatMap_cons, List.length_append]
    omega
theorem may_any (n : Int) (w : World) : Calls Try.prog 31 #[.int .i64 n] w fun e w' => e = .returned (.bool (may n)) ∧ w = w' := by
  by_cases h1 : 0 ≤ n
  · by_cases h2 : n ≤ 1073741824
    · have hm : may n = true := by unfold may; simp [h1, h2]
      rw [hm]
      have h3 : ¬ n < 0 := by omega
      have h4 : ¬ 1073741824 < n := by omega
      clear hm
      go_enter Try.func31, Try.ntmps31
      go_wp2
      go_ret
      exact ⟨rfl, rfl⟩
    · have hm : may n = false := by unfold may; simp [h2]
      rw [hm]
      have h3 : ¬ n < 0 := by omega
      have h4 : 1073741824 < n := by omega
      clear hm
      go_enter Try.func31, Try.ntmps31
      go_wp2
      go_ret
      exact ⟨rfl, rfl⟩
  · have hm : may n = false := by unfold may; simp [h1]
    rw [hm]
    have h3 : n < 0 := by omega
    clear hm
    go_enter Try.func31, Try.ntmps31
    go_wp2
    go_ret
    exact ⟨rfl, rfl⟩
theorem own_of_has {w : World} {g : Nat} {t : TypeId} {cs : Array Value} {n size : Nat} (h : Has w g t cs) (hs : cs.size = n * size) (hn : n ≤ maxLen) (h0 : 0 < n) : w.ownsRow 0 t size (.slice (some ⟨g, 0, none⟩) n n) n cs.toList := by
  refine ⟨by simpa using hs, .inr ⟨g, n, cs, rfl, Nat.zero_le _, h, Nat.le_refl _, hn, hs, ?_⟩⟩
  rw [List.take_of_length_le (by simp [hs])]
/-- A row of one's own, its block by name. -/
theorem own_has {w : World} {base size n : Nat} {t : TypeId} {A : Option Addr} {c : Nat} {xs : List Value} (h : w.ownsRow base t size (.slice A n c) n xs) (h0 : 0 < n) :
    ∃ (g : Nat) (cs : Array Value), A = some ⟨g, 0, none⟩ ∧ Has w g t cs ∧ ∀ (i : Nat) (u : Value), xs[i]? = some u → cs[i]? = some u := by
  rcases h.2 with ⟨_, h2⟩ | ⟨g, cap, cur, hv, _, hh, _, _, _, ht⟩
  · omega
  · injection hv with hA
    refine ⟨g, cur, hA, hh, fun i u hu => ?_⟩
    rw [← ht, List.getElem?_take] at hu
    split at hu
    · simpa using hu
    · cases hu
/-- What numbers leaves: a new row of them. -/
def NumsPost (w : World) (ns : List Int) (r : Ending) (w' : World) : Prop :=
  ∃ (g : Nat) (cs : Array Value) (c : Nat), r = .returned (.slice (some ⟨g, 0, none⟩) ns.length c) ∧ Has w' g 3 cs ∧ w.heap.size ≤ g ∧ (∀ (i : Nat) n, ns[i]? = some n → cs[i]? = some (.int .i64 n)) ∧ Kept NoF w w'
set_option maxHeartbeats 4000000 in
theorem numbers_any (w : World) (e : EvR) : Calls Try.prog 24 #[vagg e] w (NumsPost w (numsE e.x)) := by
  have hc : numsE e.x = [e.x.k, e.x.nd, e.x.n] ++ if e.x.k = 0 then [e.x.ak, e.x.an, e.x.am] else [] := rfl
  obtain ⟨⟨k, nd, n, ak, an, key, dst, tm, am, l⟩, A, c⟩ := e
  unfold vagg
  dsimp only at hc ⊢
  by_cases hk : k = 0
  · rw [if_pos hk] at hc
    rw [hc]
    subst hk
    clear hc
    have hrow := own_of_has (n := 3) (size := 1) (Has.new (w.alloc (.cells #[.int .i64 0, .int .i64 nd, .int .i64 n, .int .i64 ak, .int .i64 an, .string key, .string dst, .int .u64 tm, .int .i64 am, .slice A l.length c] 41)) 3 #[.int .i64 0, .int .i64 nd, .int .i64 n]) rfl (by unfold maxLen; omega) (by decide)
    rw [size_alloc] at hrow
    have HROW := Lib.hid hrow; clear hrow
    go_enter Try.func24, Try.ntmps24
    go_wp2_with (at_builtin; refine list_append_src elemInt (.tmp 14) (.tmp 24) rfl rfl (Value.slice (some ⟨w.heap.size + 1, 0, none⟩) 3 3) rfl (own_kept HROW.out ((Kept.refl NoF _).alloc _) (fun _ _ x => x)) 3 rfl (Src.of_has (m := 3) (cs := #[.int .i64 ak, .int .i64 an, .int .i64 am]) (Has.new_at _ 3 _ (by simp)) rfl) (by intro u hu; simp at hu; rcases hu with rfl | rfl | rfl <;> rfl) (by unfold maxLen; omega) (by omega) ?_; intro A6 c6 w6 ho6 hg6 ha6)
    obtain ⟨g, cs, rfl, hh, hcs⟩ := own_has ho6 (by decide)
    have hgl : w.heap.size ≤ g := by
      rcases ha6 with e | e <;> (simp [Value.ownBlock] at e; omega)
    have hkk : Kept NoF w w6 := Kept.grown (b := ((w.alloc (.cells #[.int .i64 0, .int .i64 nd, .int .i64 n, .int .i64 ak, .int .i64 an, .string key, .string dst, .int .u64 tm, .int .i64 am, .slice A l.length c] 41)).alloc (.cells #[.int .i64 0, .int .i64 nd, .int .i64 n] 3)).alloc (.cells #[.int .i64 ak, .int .i64 an, .int .i64 am] 3)) (by (repeat' (first | with_reducible exact Kept.refl _ _ | with_reducible refine Kept.put ?_ ?_ | with_reducible refine Kept.drewN ?_ _ | with_reducible refine Kept.drew ?_ | with_reducible refine Kept.alloc ?_ _ | (fail) | (right; simp; done)))) hg6 (fun k hk => .inr (by simp [Value.ownBlock] at hk; omega))
    have HH := Lib.hid (And.intro hh (And.intro hcs (And.intro hgl hkk))); clear hh hcs hgl hkk ho6 hg6 ha6 HROW
    go_wp2
    go_ret
    refine ⟨_, _, _, rfl, HH.out.1, HH.out.2.2.1, ?_, HH.out.2.2.2⟩
    intro i m hm
    refine HH.out.2.1 i _ ?_
    match i, hm with
    | 0, hm => simpa using hm
    | 1, hm => simpa using hm
    | 2, hm => simpa using hm
    | 3, hm => simpa using hm
    | 4, hm => simpa using hm
    | 5, hm => simpa using hm
  · rw [if_neg hk] at hc
    rw [hc]
    have hk2 : (k == 0) = false := by simpa using hk
    clear hc
    go_enter Try.func24, Try.ntmps24
    go_wp2
    go_ret
    refine ⟨_, _, _, rfl, Has.new_at _ _ _ (by simp), by omega, ?_, by (repeat' (first | with_reducible exact Kept.refl _ _ | with_reducible refine Kept.put ?_ ?_ | with_reducible refine Kept.drewN ?_ _ | with_reducible refine Kept.drew ?_ | with_reducible refine Kept.alloc ?_ _ | (fail) | (right; simp; done)))⟩
    intro i m hm
    match i, hm with
    | 0, hm => simpa using hm
    | 1, hm => simpa using hm
    | 2, hm => simpa using hm
end Scr
end Go.Proofs.Ytfobbocaodppeaa
