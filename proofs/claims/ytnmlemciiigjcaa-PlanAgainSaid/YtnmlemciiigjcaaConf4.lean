/- The document's Next: the next configuration. -/
import Derived.Test.YtnmlemciiigjcaaConf3
set_option linter.unusedSimpArgs false
set_option linter.unusedVariables false
namespace Go.Proofs.Ytnmlemciiigjcaa
open Go.RowKit
set_option maxRecDepth 100000
namespace Plan
/-- A row of numbers of the call's own. -/
def NewInts (b : Nat) (w : World) (A : Option Addr) (n c : Nat) (l : List Int) : Prop :=
  n = l.length ∧ w.ownsRow 0 3 1 (.slice A n c) n (ints l) ∧ ∀ k, (Value.slice A n c).ownBlock = some k → b ≤ k
theorem NewInts.nil (b : Nat) (w : World) : NewInts b w none 0 0 [] := ⟨rfl, ⟨rfl, .inl ⟨rfl, rfl⟩⟩, fun k hk => by cases hk⟩
theorem NewInts.kept {b : Nat} {w w' : World} {A : Option Addr} {n c : Nat} {l : List Int} (h : NewInts b w A n c l) (hk : Kept NoF w w') : NewInts b w' A n c l :=
  ⟨h.1, own_kept h.2.1 hk (fun _ _ x => x), h.2.2⟩
theorem NewInts.src {b : Nat} {w : World} {A : Option Addr} {n c : Nat} {l : List Int} (h : NewInts b w A n c l) : Src w 1 A l.length (ints l) := by
  have h1 := Src.of_own h.2.1
  rw [h.1] at h1
  exact h1
theorem NewInts.snoc {b : Nat} {w w' : World} {A A' : Option Addr} {n c c' : Nat} {l : List Int} {x : Int} (h : NewInts b w A n c l) (hb : b ≤ w.heap.size)
    (ho : w'.ownsRow 0 3 1 (.slice A' (n + 1) c') (n + 1) (ints l ++ [.int .i64 x]))
    (ha : (Value.slice A' (n + 1) c').ownBlock = (Value.slice A n c).ownBlock ∨ (Value.slice A' (n + 1) c').ownBlock = some w.heap.size) : NewInts b w' A' (n + 1) c' (l ++ [x]) := by
  refine ⟨by rw [h.1]; simp, by simpa [ints] using ho, fun k hk => ?_⟩
  rcases ha with e | e
  · exact h.2.2 k (e.symm.trans hk)
  · rw [hk] at e
    injection e with e
    omega
theorem NewRow.far {b : Nat} {w w' : World} {A : Option Addr} {n c : Nat} {l : List Mem} (h : NewRow b w A n c l) {F : Nat → Prop} (hk : Kept F w w') (hf : ∀ k, (Value.slice A n c).ownBlock = some k → ¬ F k) : NewRow b w' A n c l :=
  ⟨h.1, own_kept h.2.1 hk hf, h.2.2⟩
theorem NewRow.mono {b b' : Nat} {w : World} {A : Option Addr} {n c : Nat} {l : List Mem} (h : NewRow b w A n c l) (hb : b' ≤ b) : NewRow b' w A n c l := ⟨h.1, h.2.1, fun k hk => Nat.le_trans hb (h.2.2 k hk)⟩
theorem NewRow.ne {b : Nat} {w : World} {A : Option Addr} {n c : Nat} {l : List Mem} (h : NewRow b w A n c l) {g : Nat} {t : TypeId} {cs : Array Value} (hg : Has w g t cs) (hne : 77 ≠ t) : (Value.slice A n c).ownBlock ≠ some g := own_ne h.2.1 hg hne

def nagg (N : Next) (A : Option Addr) (n c : Nat) (B : Option Addr) (m d : Nat) : Value := .tuple #[cagg N.ep A n c N.fl, .slice B m d, .int .i64 N.e]
def NextPost (w : World) (N : Next) (e : Ending) (w' : World) : Prop :=
  ∃ A n c B m d, e = .returned (nagg N A n c B m d) ∧ NewRow w.heap.size w' A n c N.l ∧ NewInts w.heap.size w' B m d N.t ∧ Kept NoF w w'

def idsTo (l : List Mem) (i : Nat) : List Int := (([0, 1, 2, 3] : List Int).take i).flatMap fun i => (l.filter fun m => decide (m.1 = i)).map (·.1)
def idsIn (l : List Mem) (i k : Nat) : List Int := idsTo l i ++ ((l.take k).filter fun m => decide (m.1 = (i : Int))).map (·.1)
theorem idsTo_all (l : List Mem) : idsTo l 4 = idsR l := rfl
theorem idsIn_start (l : List Mem) (i : Nat) : idsIn l i 0 = idsTo l i := by simp [idsIn]
theorem idsIn_end (l : List Mem) (i : Nat) (h : i < 4) : idsIn l i l.length = idsTo l (i + 1) := by
  unfold idsIn idsTo
  rw [List.take_length, List.take_add_one, List.flatMap_append]
  have : ([0, 1, 2, 3] : List Int)[i]? = some (i : Int) := by
    rcases (show i = 0 ∨ i = 1 ∨ i = 2 ∨ i = 3 by omega) with rfl | rfl | rfl | rfl <;> rfl
  rw [this]
  simp
theorem idsIn_yes {l : List Mem} {i k : Nat} {m : Mem} (h : l[k]? = some m) (e : m.1 = i) : idsIn l i (k + 1) = idsIn l i k ++ [(i : Int)] := by
  unfold idsIn
  rw [take_snoc h, List.filter_append, List.map_append, List.append_assoc]
  simp [e]
theorem idsIn_no {l : List Mem} {i k : Nat} {m : Mem} (h : l[k]? = some m) (e : m.1 ≠ i) : idsIn l i (k + 1) = idsIn l i k := by
  unfold idsIn
  rw [take_snoc h, List.filter_append, List.map_append]
  simp [e]
theorem flat_le (ls : List Int) (l : List Mem) : (ls.flatMap fun i => (l.filter fun m => decide (m.1 = i)).map (·.1)).length ≤ ls.length * l.length := by
  induction ls with
  | nil => simp
  | cons a ls ih =>
    rw [List.flatMap_cons, List.length_append, List.length_map, List.length_cons, Nat.succ_mul]
    have := List.length_filter_le (fun m : Mem => decide (m.1 = a)) l
    omega
theorem idsIn_le (l : List Mem) (i k : Nat) (hi : i ≤ 4) (hl : l.length ≤ 1000) : (idsIn l i k).length ≤ 5000 := by
  unfold idsIn idsTo
  rw [List.length_append, List.length_map]
  have h1 := flat_le (([0, 1, 2, 3] : List Int).take i) l
  have h2 := List.length_filter_le (fun m : Mem => decide (m.1 = (i : Int))) (l.take k)
  have h3 := List.length_take_le' k l
  have h4 : (([0, 1, 2, 3] : List Int).take i).length ≤ 4 := by rw [List.length_take]; simp; omega
  have h5 : (([0, 1, 2, 3] : List Int).take i).length * l.length ≤ 4 * 1000 := Nat.mul_le_mul h4 hl
  omega
theorem allOf_at (l : List Mem) (t g : List Int) (j : List Mem) (k : Nat) (h : k < (firsts l t g).length) : (allOf l t g j)[k]? = (firsts l t g)[k]? := by
  obtain ⟨r, hr, _⟩ := joinAll_prefix j (firsts l t g ++ rests l t g)
  unfold allOf
  rw [hr, List.append_assoc, List.getElem?_append_left h]

set_option maxHeartbeats 8000000 in
theorem rnext_any (w : World) (ep fl : Int) (A0 A1 A2 A3 : Option Addr) (c0 c1 c2 c3 : Nat) (l j : List Mem) (t g : List Int) (last : Int) (hl : Src w 2 A0 l.length (mcells l)) (ht : Src w 1 A1 t.length (ints t)) (hg : Src w 1 A2 g.length (ints g)) (hj : Src w 2 A3 j.length (mcells j))
    (hll : l.length ≤ 1000) (htl : t.length ≤ 1000) (hgl : g.length ≤ 1000) (hjl : j.length ≤ 1000) (hfl : 0 ≤ fl ∧ fl ≤ maxTs) (hla : 0 ≤ last ∧ last ≤ maxTs) :
    Calls Try.prog 37 #[cagg ep A0 l.length c0 fl, .slice A1 t.length c1, .slice A2 g.length c2, .slice A3 j.length c3, .int .u64 last] w (NextPost w (nextOf ep l fl t g j last)) := by
  have HL := Lib.hid hl; clear hl
  have HT := Lib.hid ht; clear ht
  have HG := Lib.hid hg; clear hg
  have HJ := Lib.hid hj; clear hj
  have HFL := Lib.hid hfl; clear hfl
  have HLA := Lib.hid hla; clear hla
  have hn0 := (Has.new w 63 #[.int .i64 ep, .slice A0 l.length c0, .int .u64 fl]).alloc (.cells #[.int .i64 0, .slice none 0 0, .int .u64 0] 63)
  have hn1 := Has.new (w.alloc (.cells #[.int .i64 ep, .slice A0 l.length c0, .int .u64 fl] 63)) 63 #[.int .i64 0, .slice none 0 0, .int .u64 0]
  rw [size_alloc] at hn1
  have HN0 := Lib.hid hn0; clear hn0
  have HN1 := Lib.hid hn1; clear hn1
  have hk01 : Kept NoF w ((w.alloc (.cells #[.int .i64 ep, .slice A0 l.length c0, .int .u64 fl] 63)).alloc (.cells #[.int .i64 0, .slice none 0 0, .int .u64 0] 63)) := ((Kept.refl _ _).alloc _).alloc _
  have HK01 := Lib.hid hk01; clear hk01
  have hck := rcheck_any ((w.alloc (.cells #[.int .i64 ep, .slice A0 l.length c0, .int .u64 fl] 63)).alloc (.cells #[.int .i64 0, .slice none 0 0, .int .u64 0] 63)) ep fl A0 c0 l (HL.out.kept HK01.out (fun _ _ x => x)) (by omega)
  obtain ⟨ck, hckv⟩ : ∃ ck, chk ep l = ck := ⟨_, rfl⟩
  rw [hckv] at hck
  have HC := Lib.hid hck; clear hck
  by_cases hc0 : ck = 0
  rotate_left
  · have hN : nextOf ep l fl t g j last = ⟨ck, 0, [], 0, []⟩ := by unfold nextOf; rw [hckv, if_pos hc0]
    have HNX := Lib.hid hN; clear hN hckv
    have b1 : (ck != 0) = true := by simpa using hc0
    have b2 : (ck == 0) = false := by simpa using hc0
    go_enter Try.func37, Try.ntmps37
    go_wp2_with fail
    refine HC.out.mono ?_
    rintro e w2 ⟨rfl, hk⟩
    have hr := HN1.out.kept hk (fun x => x)
    have r0 : w2.cell? ⟨w.heap.size + 1, 0, none⟩ = some (.int .i64 0) := hr.cell 0
    have r1 : w2.cell? ⟨w.heap.size + 1, 1, none⟩ = some (.slice none 0 0) := hr.cell 1
    have r2 : w2.cell? ⟨w.heap.size + 1, 2, none⟩ = some (.int .u64 0) := hr.cell 2
    have f0 := hr.frozen 0
    have f1 := hr.frozen 1
    have f2 := hr.frozen 2
    have hk2 := HK01.out.then hk
    have HK2 := Lib.hid hk2; clear hk2 hk
    have HR := Lib.hid hr; clear hr
    go_wp2
    refine bodyPost_ret (v := .tuple #[.agg #[.int .i64 0, .slice none 0 0, .int .u64 0], .slice none 0 0, .int .i64 ck]) (by simp [results, Try.results37, go_sem, r0, r1, r2]) rfl (?_ : NextPost w (nextOf ep l fl t g j last) _ _)
    rw [HNX.out]
    exact ⟨none, 0, 0, none, 0, 0, rfl, NewRow.nil _ _, NewInts.nil _ _, by (repeat' (first | with_reducible exact Kept.refl _ _ | with_reducible refine Kept.put ?_ ?_ | with_reducible refine Kept.drewN ?_ _ | with_reducible refine Kept.drew ?_ | with_reducible refine Kept.alloc ?_ _ | (exact HK2.out) | (right; simp; done)))⟩
  subst hc0
  have hsz0 : w.heap.size + 2 ≤ ((w.alloc (.cells #[.int .i64 ep, .slice A0 l.length c0, .int .u64 fl] 63)).alloc (.cells #[.int .i64 0, .slice none 0 0, .int .u64 0] 63)).heap.size := by simp
  go_enter Try.func37, Try.ntmps37
  go_wp2_with fail
  refine HC.out.mono ?_
  rintro e w2 ⟨rfl, hk⟩
  have hz2 := hk.size
  have hr := HN1.out.kept hk (fun x => x)
  have hh := HN0.out.kept hk (fun x => x)
  have hk2 := HK01.out.then hk
  have ho := order_any w2 ep fl A0 A1 A2 A3 c0 c1 c2 c3 l j t g (HL.out.kept hk2 (fun _ _ x => x)) (HT.out.kept hk2 (fun _ _ x => x)) (HG.out.kept hk2 (fun _ _ x => x)) (HJ.out.kept hk2 (fun _ _ x => x)) hll htl hgl hjl
  unfold OrderPost at ho
  obtain ⟨n1, hn1⟩ : ∃ n1, (firsts l t g).length = n1 := ⟨_, rfl⟩
  rw [hn1] at ho
  have hn1b : n1 ≤ 1000 := by rw [← hn1]; have := List.length_filter_le (isFirst g t) l; unfold firsts; omega
  have HO := Lib.hid ho; clear ho
  have hz2' : w.heap.size + 2 ≤ w2.heap.size := by omega
  have e0 : w2.cell? ⟨w.heap.size, 0, none⟩ = some (.int .i64 ep) := hh.cell 0
  have e1 : w2.cell? ⟨w.heap.size, 1, none⟩ = some (.slice A0 l.length c0) := hh.cell 1
  have e2 : w2.cell? ⟨w.heap.size, 2, none⟩ = some (.int .u64 fl) := hh.cell 2
  clear hz2 hsz0 hk
  have HK2 := Lib.hid hk2; clear hk2
  have HR := Lib.hid hr; clear hr
  have HH := Lib.hid hh; clear hh
  have HCK := Lib.hid hckv; clear hckv
  have HN1' := Lib.hid hn1; clear hn1
  clear HN0 HN1 HC HK01
  go_wp2_with fail
  refine HO.out.mono ?_
  rintro e w3 ⟨O, n, oc, rfl, hrow, hk⟩
  have hz3 := hk.size
  have hr := HR.out.kept hk (fun x => x)
  have hh := HH.out.kept hk (fun x => x)
  have hk3 := HK2.out.then hk
  clear hk e0 e1 e2 HR HH
  have HR := Lib.hid hr; clear hr
  have HK3 := Lib.hid hk3; clear hk3
  have HROW := Lib.hid hrow; clear hrow
  have e0 : w3.cell? ⟨w.heap.size, 0, none⟩ = some (.int .i64 ep) := hh.cell 0
  have e1 : w3.cell? ⟨w.heap.size, 1, none⟩ = some (.slice A0 l.length c0) := hh.cell 1
  have e2 : w3.cell? ⟨w.heap.size, 2, none⟩ = some (.int .u64 fl) := hh.cell 2
  have HH := Lib.hid hh; clear hh
  by_cases hz : n1 = 0
  · have hN : nextOf ep l fl t g j last = ⟨7, 0, [], 0, []⟩ := by
      unfold nextOf
      rw [if_neg (by rw [HCK.out]; simp), if_pos (List.eq_nil_of_length_eq_zero (by rw [HN1'.out]; exact hz))]
    have HNX := Lib.hid hN; clear hN
    have b1 : ((n1 : Int) == 0) = true := by rw [beq_iff_eq]; omega
    clear hz
    have r0 : w3.cell? ⟨w.heap.size + 1, 0, none⟩ = some (.int .i64 0) := HR.out.cell 0
    have r1 : w3.cell? ⟨w.heap.size + 1, 1, none⟩ = some (.slice none 0 0) := HR.out.cell 1
    have r2 : w3.cell? ⟨w.heap.size + 1, 2, none⟩ = some (.int .u64 0) := HR.out.cell 2
    have f0 := HR.out.frozen 0
    have f1 := HR.out.frozen 1
    have f2 := HR.out.frozen 2
    go_wp2
    refine bodyPost_ret (v := .tuple #[.agg #[.int .i64 0, .slice none 0 0, .int .u64 0], .slice none 0 0, .int .i64 7]) (by simp [results, Try.results37, go_sem, r0, r1, r2]) rfl (?_ : NextPost w (nextOf ep l fl t g j last) _ _)
    rw [HNX.out]
    exact ⟨none, 0, 0, none, 0, 0, rfl, NewRow.nil _ _, NewInts.nil _ _, by (repeat' (first | with_reducible exact Kept.refl _ _ | with_reducible refine Kept.put ?_ ?_ | with_reducible refine Kept.drewN ?_ _ | with_reducible refine Kept.drew ?_ | with_reducible refine Kept.alloc ?_ _ | (exact HK3.out) | (right; simp; done)))⟩
  have b1 : ((n1 : Int) == 0) = false := by rw [beq_eq_false_iff_ne]; omega
  have hne : firsts l t g ≠ [] := by
    intro e
    have := HN1'.out
    rw [e] at this
    exact hz this.symm
  have HNE := Lib.hid hne; clear hne
  have hz31 : w.heap.size + 2 ≤ w3.heap.size := by omega
  have hzp : 0 < n1 := by omega
  clear hz hz3
  have hkx : Kept NoF w (w3.alloc (.cells #[.int .i64 ep, .slice O n oc, .int .u64 fl] 63)) := HK3.out.alloc _
  have hrowx := HROW.out.kept ((Kept.refl NoF w3).alloc (.cells #[.int .i64 ep, .slice O n oc, .int .u64 fl] 63))
  have hsm := rsame_any (w3.alloc (.cells #[.int .i64 ep, .slice O n oc, .int .u64 fl] 63)) ep fl ep fl O A0 oc c0 (allOf l t g j) l hrowx.src (HL.out.kept hkx (fun _ _ x => x)) (by
    obtain ⟨r, hr, _⟩ := joinAll_prefix j (firsts l t g ++ rests l t g)
    have h1 : ∀ (a : List Mem) (b : List Mem), (joinAll b a).length ≤ b.length + a.length := by
      intro a
      induction a with
      | nil => intro b; simp [joinAll]
      | cons x a ih =>
        intro b
        have h2 := ih (joinOne b x)
        have h3 : (joinOne b x).length ≤ b.length + 1 := by unfold joinOne; split <;> simp
        have h4 : joinAll b (x :: a) = joinAll (joinOne b x) a := rfl
        rw [h4, List.length_cons]
        omega
    have h2 := h1 j (firsts l t g ++ rests l t g)
    have h3 := len_two l g t
    unfold allOf
    omega) (by omega)
  simp only [beq_self_eq_true, Bool.true_and] at hsm
  rw [← hrowx.1] at hsm
  have HX := Lib.hid (Has.new w3 63 #[.int .i64 ep, .slice O n oc, .int .u64 fl])
  have HKX := Lib.hid hkx; clear hkx
  have HROWX := Lib.hid hrowx; clear hrowx
  obtain ⟨eb, heb⟩ : ∃ eb, eqL (allOf l t g j) l = eb := ⟨_, rfl⟩
  rw [heb] at hsm
  have HSM := Lib.hid hsm; clear hsm
  have hR' := HR.out.alloc (.cells #[.int .i64 ep, .slice O n oc, .int .u64 fl] 63)
  have hH' := HH.out.alloc (.cells #[.int .i64 ep, .slice O n oc, .int .u64 fl] 63)
  clear HR HH
  have y0 := hH'.cell 0
  have y1 := hH'.cell 1
  have y2 := hH'.cell 2
  have HR := Lib.hid hR'; clear hR'
  have HH := Lib.hid hH'; clear hH'
  cases eb
  rotate_left
  · have hN : nextOf ep l fl t g j last = ⟨20, 0, [], 0, []⟩ := by
      unfold nextOf
      unfold eqL at heb
      rw [if_neg (by rw [HCK.out]; simp), if_neg HNE.out, if_pos (by simpa using heb)]
    have HNX := Lib.hid hN; clear hN heb
    go_wp2_with fail
    refine HSM.out.mono ?_
    rintro e w4 ⟨rfl, hk⟩
    have hr := HR.out.kept hk (fun x => x)
    have hk4 := HKX.out.then hk
    clear hk HR
    have HR := Lib.hid hr; clear hr
    have HK4 := Lib.hid hk4; clear hk4
    have r0 : w4.cell? ⟨w.heap.size + 1, 0, none⟩ = some (.int .i64 0) := HR.out.cell 0
    have r1 : w4.cell? ⟨w.heap.size + 1, 1, none⟩ = some (.slice none 0 0) := HR.out.cell 1
    have r2 : w4.cell? ⟨w.heap.size + 1, 2, none⟩ = some (.int .u64 0) := HR.out.cell 2
    have f0 := HR.out.frozen 0
    have f1 := HR.out.frozen 1
    have f2 := HR.out.frozen 2
    go_wp2
    refine bodyPost_ret (v := .tuple #[.agg #[.int .i64 0, .slice none 0 0, .int .u64 0], .slice none 0 0, .int .i64 20]) (by simp [results, Try.results37, go_sem, r0, r1, r2]) rfl (?_ : NextPost w (nextOf ep l fl t g j last) _ _)
    rw [HNX.out]
    exact ⟨none, 0, 0, none, 0, 0, rfl, NewRow.nil _ _, NewInts.nil _ _, by (repeat' (first | with_reducible exact Kept.refl _ _ | with_reducible refine Kept.put ?_ ?_ | with_reducible refine Kept.drewN ?_ _ | with_reducible refine Kept.drew ?_ | with_reducible refine Kept.alloc ?_ _ | (exact HK4.out) | (right; simp; done)))⟩
  have hneq : allOf l t g j ≠ l := by
    unfold eqL at heb
    simpa using heb
  have HNEQ := Lib.hid hneq; clear hneq heb
  by_cases hmx : 1073741824 ≤ ep
  · have hN : nextOf ep l fl t g j last = ⟨5, 0, [], 0, []⟩ := by
      unfold nextOf
      rw [if_neg (by rw [HCK.out]; simp), if_neg HNE.out, if_neg HNEQ.out, if_pos hmx]
    have HNX := Lib.hid hN; clear hN
    go_wp2_with fail
    refine HSM.out.mono ?_
    rintro e w4 ⟨rfl, hk⟩
    have hr := HR.out.kept hk (fun x => x)
    have hh := HH.out.kept hk (fun x => x)
    have hk4 := HKX.out.then hk
    clear hk HR e0 e1 e2 y0 y1 y2
    have e0 : w4.cell? ⟨w.heap.size, 0, none⟩ = some (.int .i64 ep) := hh.cell 0
    have HR := Lib.hid hr; clear hr hh
    have HK4 := Lib.hid hk4; clear hk4
    have r0 : w4.cell? ⟨w.heap.size + 1, 0, none⟩ = some (.int .i64 0) := HR.out.cell 0
    have r1 : w4.cell? ⟨w.heap.size + 1, 1, none⟩ = some (.slice none 0 0) := HR.out.cell 1
    have r2 : w4.cell? ⟨w.heap.size + 1, 2, none⟩ = some (.int .u64 0) := HR.out.cell 2
    have f0 := HR.out.frozen 0
    have f1 := HR.out.frozen 1
    have f2 := HR.out.frozen 2
    go_wp2
    refine bodyPost_ret (v := .tuple #[.agg #[.int .i64 0, .slice none 0 0, .int .u64 0], .slice none 0 0, .int .i64 5]) (by simp [results, Try.results37, go_sem, r0, r1, r2]) rfl (?_ : NextPost w (nextOf ep l fl t g j last) _ _)
    rw [HNX.out]
    exact ⟨none, 0, 0, none, 0, 0, rfl, NewRow.nil _ _, NewInts.nil _ _, by (repeat' (first | with_reducible exact Kept.refl _ _ | with_reducible refine Kept.put ?_ ?_ | with_reducible refine Kept.drewN ?_ _ | with_reducible refine Kept.drew ?_ | with_reducible refine Kept.alloc ?_ _ | (exact HK4.out) | (right; simp; done)))⟩
  have hN : nextOf ep l fl t g j last = ⟨0, ep + 1, allOf l t g j, floorOf fl last, ids (firsts l t g)⟩ := by
    unfold nextOf
    rw [if_neg (by rw [HCK.out]; simp), if_neg HNE.out, if_neg HNEQ.out, if_neg hmx]
  have HNX := Lib.hid hN; clear hN
  have hep1 : 1 ≤ ep := (chk_zero HCK.out).1.1
  obtain ⟨fl', hfl'⟩ : ∃ fl', floorOf fl last = fl' := ⟨_, rfl⟩
  have hfo := fun W => rfloor_any W fl last HFL.out HLA.out
  rw [hfl'] at hfo HNX
  have HFO := Lib.hid hfo; clear hfo hfl'
  have hids : idsR (firsts l t g) = ids (firsts l t g) := idsR_eq fun m hm => (chk_zero HCK.out).2.2.2.id m (List.mem_filter.1 hm).1
  rw [← hids] at HNX
  have hat := allOf_at l t g j
  have hle := fun i k hi => idsIn_le (firsts l t g) i k hi (by have := List.length_filter_le (isFirst g t) l; unfold firsts; omega)
  have HAT := Lib.hid hat; clear hat
  have HLE := Lib.hid hle; clear hle hids
  have hallN := HROW.out.1
  obtain ⟨L, hL⟩ : ∃ L, allOf l t g j = L := ⟨_, rfl⟩
  have hpre : n1 ≤ L.length := by
    obtain ⟨r, hr, _⟩ := joinAll_prefix j (firsts l t g ++ rests l t g)
    have : L = firsts l t g ++ rests l t g ++ r := by rw [← hL]; exact hr
    rw [this, ← HN1'.out]
    simp only [List.length_append]
    omega
  rw [hL] at HROW HROWX HAT hallN HNX
  rw [← hallN] at hpre
  clear hL hallN
  obtain ⟨S, hS⟩ : ∃ S, firsts l t g = S := ⟨_, rfl⟩
  rw [hS] at HN1' HAT HLE HNX
  clear hS HNE HNEQ HL HT HG HJ HFL HLA HK2 HK3 HCK
  go_wp2_with fail
  refine HSM.out.mono ?_
  rintro e w4 ⟨rfl, hk⟩
  have hr := HR.out.kept hk (fun x => x)
  have hh := HH.out.kept hk (fun x => x)
  have hx := HX.out.kept hk (fun x => x)
  have hk4 := HKX.out.then hk
  have hrow4 := HROWX.out.kept hk
  have hz4 := hk.size
  simp at hz4
  clear hk HR HH HX HROWX HROW HKX e0 e1 e2 y0 y1 y2
  have e0 : w4.cell? ⟨w.heap.size, 0, none⟩ = some (.int .i64 ep) := hh.cell 0
  have e2 : w4.cell? ⟨w.heap.size, 2, none⟩ = some (.int .u64 fl) := hh.cell 2
  have x0 : w4.cell? ⟨w3.heap.size, 0, none⟩ = some (.int .i64 ep) := hx.cell 0
  have x0f := hx.frozen 0
  have HR := Lib.hid hr; clear hr
  have HH := Lib.hid hh; clear hh
  have HX := Lib.hid hx; clear hx
  have HK4 := Lib.hid hk4; clear hk4
  have HROW := Lib.hid hrow4; clear hrow4
  have hne1 : w.heap.size ≠ w3.heap.size := by omega
  have hne2 : w.heap.size + 1 ≠ w3.heap.size := by omega
  go_wp2_with fail
  refine (HFO.out _).mono ?_
  rintro e w5 ⟨rfl, rfl⟩
  have hx5 : Has (w4.setCell ⟨w3.heap.size, 0, none⟩ (.int .i64 (ep + 1))) w3.heap.size 63 #[.int .i64 (ep + 1), .slice O n oc, .int .u64 fl] := HX.out.put_of rfl
  have x2 := hx5.cell 2
  have x2f := hx5.frozen 2
  have hx6 : Has ((w4.setCell ⟨w3.heap.size, 0, none⟩ (.int .i64 (ep + 1))).setCell ⟨w3.heap.size, 2, none⟩ (.int .u64 fl')) w3.heap.size 63 #[.int .i64 (ep + 1), .slice O n oc, .int .u64 fl'] := hx5.put_of rfl
  have hk6 : Kept NoF w ((w4.setCell ⟨w3.heap.size, 0, none⟩ (.int .i64 (ep + 1))).setCell ⟨w3.heap.size, 2, none⟩ (.int .u64 fl')) := (HK4.out.put (.inr (by omega))).put (.inr (by omega))
  have hr6 : Has ((w4.setCell ⟨w3.heap.size, 0, none⟩ (.int .i64 (ep + 1))).setCell ⟨w3.heap.size, 2, none⟩ (.int .u64 fl')) (w.heap.size + 1) 63 #[.int .i64 0, .slice none 0 0, .int .u64 0] := (HR.out.past hne2).past hne2
  have hkk : Kept (fun k => k = w3.heap.size) w4 ((w4.setCell ⟨w3.heap.size, 0, none⟩ (.int .i64 (ep + 1))).setCell ⟨w3.heap.size, 2, none⟩ (.int .u64 fl')) := Kept.put (F := fun k => k = w3.heap.size) (Kept.put (Kept.refl _ _) (.inl rfl)) (.inl rfl)
  have hrow6 : NewRow w.heap.size ((w4.setCell ⟨w3.heap.size, 0, none⟩ (.int .i64 (ep + 1))).setCell ⟨w3.heap.size, 2, none⟩ (.int .u64 fl')) O n oc L := (HROW.out.far hkk (fun k hk e => HROW.out.ne HX.out (by decide) (by rw [hk, e]))).mono (by have := HK4.out.size; omega)
  clear hkk
  have HX6 := Lib.hid hx6; clear hx6 hx5
  have HK6 := Lib.hid hk6; clear hk6
  have HR6 := Lib.hid hr6; clear hr6
  have HROW6 := Lib.hid hrow6; clear hrow6
  clear HR HH HX HK4 HROW
  go_wp2_with fail
  generalize ((w4.setCell ⟨w3.heap.size, 0, none⟩ (.int .i64 (ep + 1))).setCell ⟨w3.heap.size, 2, none⟩ (.int .u64 fl')) = w6 at *
  have hz6 := HK6.out.size
  go_loopw [17, 18] (fun v17 v18 wr => ∃ (i : Nat) (B : Option Addr) (m d : Nat), i ≤ 4 ∧ v18 = .int .i64 i ∧ v17 = .slice B m d ∧ NewInts w6.heap.size wr B m d (idsTo S i) ∧ Kept NoF w6 wr) (fun _ v18 _ => 4 - (intOf v18).toNat)
  case atStart => exact ⟨0, none, 0, 0, by omega, rfl, rfl, NewInts.nil _ _, Kept.refl _ _⟩
  case round =>
    obtain ⟨i, B, m, d, hi, rfl, rfl, hB, hk⟩ := hrel
    have HB := Lib.hid hB; clear hB
    have HK := Lib.hid hk; clear hk
    obtain ⟨wo, hwo⟩ : ∃ wo : World, wo = wr := ⟨_, rfl⟩
    subst hwo
    by_cases hi4 : i < 4
    · have hi4' : (i : Int) < 4 := by omega
      go_wp2_with fail
      go_loopw [17, 19] (fun v17 v19 wr => ∃ (k : Nat) (B : Option Addr) (m d : Nat), k ≤ n1 ∧ v19 = .int .i64 k ∧ v17 = .slice B m d ∧ NewInts w6.heap.size wr B m d (idsIn S i k) ∧ Kept NoF w6 wr) (fun _ v19 _ => n1 - (intOf v19).toNat)
      case atStart => exact ⟨0, B, m, d, Nat.zero_le _, rfl, rfl, by rw [idsIn_start]; exact HB.out, HK.out⟩
      case round =>
        obtain ⟨k, B, m, d, hk1, rfl, rfl, hB, hk⟩ := hrel
        have hmle : m ≤ 5000 := by rw [hB.1]; exact HLE.out i k hi
        have HB' := Lib.hid hB; clear hB
        have HK' := Lib.hid hk; clear hk
        by_cases hkn : k < n1
        · obtain ⟨x, hx⟩ : ∃ x, S[k]? = some x := ⟨_, List.getElem?_eq_getElem (by rw [HN1'.out]; exact hkn)⟩
          have hxl : L[k]? = some x := by rw [HAT.out k (by rw [HN1'.out]; exact hkn)]; exact hx
          obtain ⟨ad, hA, had, d0, d1⟩ := mem_cells ((HROW6.out.kept HK'.out).src) (by rw [← HROW6.out.1]; omega) k x hxl
          subst hA
          have hkn' : k < n := by omega
          have HXX := Lib.hid hx; clear hx hxl
          obtain ⟨x1, x2⟩ := x
          dsimp only at d0 d1
          by_cases hxi : x1 = i
          · have hid' := idsIn_yes (i := i) HXX.out hxi
            have HID := Lib.hid hid'; clear hid'
            subst hxi
            have hS1 : Hid (m + 1 ≤ maxLen) := Lib.hid (by unfold maxLen; omega)
            have hS2 : Hid ((m + 1) * 8 ≤ 140737488355328) := Lib.hid (by omega)
            go_wp2_with (at_builtin; refine list_append_src elemInt (.tmp 76) (.tmp 78) rfl rfl (Value.slice B m d) rfl ((HB'.out.kept ((Kept.refl _ _).alloc _)).2.1) 1 rfl (Src.of_has (m := 1) (cs := #[.int .i64 (i : Int)]) (Has.new_at _ 3 _ (by simp)) rfl) (by intro u hu; simp at hu; subst hu; rfl) hS1.out hS2.out ?_; intro B3 d3 w9 ho3 hg3 ha3)
            have hz9 := HK'.out.size
            have hn3 : NewInts w6.heap.size w9 B3 (m + 1) d3 (idsIn S i k ++ [(i : Int)]) := (HB'.out.kept ((Kept.refl _ _).alloc _)).snoc (by simp; omega) ho3 ha3
            have hk9 : Kept NoF w6 w9 := (HK'.out.alloc _).grown hg3 (fun k hk => .inr (HB'.out.2.2 k hk))
            rw [← HID.out] at hn3
            clear ho3 hg3 ha3
            have HN3 := Lib.hid hn3; clear hn3
            have HK9 := Lib.hid hk9; clear hk9
            go_wp2
            go_roundw
            case rel => exact ⟨k + 1, B3, m + 1, d3, by omega, by go_num, rfl, HN3.out, HK9.out⟩
            case measure => simp [intOf]; omega
          · have hid' := idsIn_no (i := i) HXX.out hxi
            have HID := Lib.hid hid'; clear hid'
            have hne : (x1 == (i : Int)) = false := by simpa using hxi
            go_wp2
            go_roundw
            case rel => exact ⟨k + 1, B, m, d, by omega, by go_num, rfl, by rw [HID.out]; exact HB'.out, HK'.out⟩
            case measure => simp [intOf]; omega
        · obtain rfl : k = n1 := by omega
          have hid' : idsIn S i k = idsTo S (i + 1) := by rw [← HN1'.out]; exact idsIn_end S i hi4
          have HID := Lib.hid hid'; clear hid'
          go_wp2
          go_roundw
          case rel => exact ⟨i + 1, B, m, d, by omega, by go_num, rfl, by rw [← HID.out]; exact HB'.out, HK'.out⟩
          case measure => simp [intOf]; omega
    · obtain rfl : i = 4 := by omega
      have hr := HR6.out.kept HK.out (fun x => x)
      have hx := HX6.out.kept HK.out (fun x => x)
      have x0 : wo.cell? ⟨w3.heap.size, 0, none⟩ = some (.int .i64 (ep + 1)) := hx.cell 0
      have x1 : wo.cell? ⟨w3.heap.size, 1, none⟩ = some (.slice O n oc) := hx.cell 1
      have x2 : wo.cell? ⟨w3.heap.size, 2, none⟩ = some (.int .u64 fl') := hx.cell 2
      have r0 : wo.cell? ⟨w.heap.size + 1, 0, none⟩ = some (.int .i64 0) := hr.cell 0
      have r1 : wo.cell? ⟨w.heap.size + 1, 1, none⟩ = some (.slice none 0 0) := hr.cell 1
      have r2 : wo.cell? ⟨w.heap.size + 1, 2, none⟩ = some (.int .u64 0) := hr.cell 2
      have f0 := hr.frozen 0
      have f1 := hr.frozen 1
      have f2 := hr.frozen 2
      have hko := HK6.out.then HK.out
      have hrowo := HROW6.out.kept HK.out
      have HKO := Lib.hid hko; clear hko
      have HROWO := Lib.hid hrowo; clear hrowo
      have HRO := Lib.hid hr; clear hr hx
      go_wp2
      refine bodyPost_ret (v := .tuple #[.agg #[.int .i64 (ep + 1), .slice O n oc, .int .u64 fl'], .slice B m d, .int .i64 0]) (by simp [results, Try.results37, go_sem, r0, r1, r2, f0, f1, f2]) rfl (?_ : NextPost w (nextOf ep l fl t g j last) _ _)
      rw [HNX.out]
      have hkk : ∀ a b c, Kept (fun k => k = w.heap.size + 1) wo (((wo.setCell ⟨w.heap.size + 1, 0, none⟩ a).setCell ⟨w.heap.size + 1, 1, none⟩ b).setCell ⟨w.heap.size + 1, 2, none⟩ c) := fun a b c => Kept.put (F := fun k => k = w.heap.size + 1) (Kept.put (F := fun k => k = w.heap.size + 1) (Kept.put (F := fun k => k = w.heap.size + 1) (Kept.refl _ _) (.inl rfl)) (.inl rfl)) (.inl rfl)
      refine ⟨O, n, oc, B, m, d, rfl, ?_, ?_, ?_⟩
      · exact HROWO.out.far (hkk _ _ _) (fun k hk e => HROWO.out.ne HRO.out (by decide) (by rw [hk, e]))
      · have h1 := HB.out
        rw [idsTo_all] at h1
        exact ⟨h1.1, own_kept h1.2.1 (hkk _ _ _) (fun k hk e => own_ne h1.2.1 HRO.out (by decide) (by rw [hk, e])), fun k hk => Nat.le_trans hz6 (h1.2.2 k hk)⟩
      · (repeat' (first | with_reducible exact Kept.refl _ _ | with_reducible refine Kept.put ?_ ?_ | with_reducible refine Kept.drewN ?_ _ | with_reducible refine Kept.drew ?_ | with_reducible refine Kept.alloc ?_ _ | (exact HKO.out) | (right; simp; done)))
end Plan
end Go.Proofs.Ytnmlemciiigjcaa
