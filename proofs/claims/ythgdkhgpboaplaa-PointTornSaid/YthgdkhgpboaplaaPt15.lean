
/- The checkpointed log, plain: what Open finds behind a crash. -/
import Derived.Test.YthgdkhgpboaplaaPt14
set_option linter.unusedSimpArgs false
set_option linter.unusedVariables false
namespace Go.Proofs.Ythgdkhgpboaplaa
open Go.RowKit
set_option maxRecDepth 100000
namespace Pt
open Disk Fr Vn Ops Wl
/-- The first file has a whole text. -/
def Hd : St → Prop
  | [] => False
  | [f] => f.ts ≠ []
  | _ :: g :: R => Hd (g :: R)
theorem Hd.cons {f : FileT} {R : St} (h : Hd R) : Hd (f :: R) := by
  cases R with
  | nil => exact h.elim
  | cons g R => exact h
theorem hd_app {R : St} (h : R = [] ∨ Hd R) (t : List UInt8) : Hd (app R t) := by
  cases R with
  | nil => show ([t] : List (List UInt8)) ≠ []; simp
  | cons f R =>
    have h : Hd (f :: R) := by rcases h with h | h; cases h; exact h
    by_cases hf : full f
    · rw [app_full hf]; exact h.cons
    · rw [app_not hf]
      cases R with
      | nil => show f.ts ++ [t] ≠ []; simp
      | cons g R => exact h
theorem hd_tail {R : St} (h : Hd R) (q : List UInt8) : Hd (tail R q) := by
  cases R with
  | nil => exact h.elim
  | cons f R =>
    by_cases hf : full f
    · rw [tail_full hf]; exact h.cons
    · rw [tail_not hf]
      cases R with
      | nil => exact h
      | cons g R => exact h
theorem hd_cur : ∀ {T : List (List UInt8)} {R : St}, Hd R → Hd (cur R T)
  | [], _, h => h
  | t :: T, R, h => by rw [cur_cons]; exact hd_cur (hd_app (.inr h) t)
theorem hd_new (t : List UInt8) (T : List (List UInt8)) : Hd (cur [] (t :: T)) := by rw [cur_cons]; exact hd_cur (hd_app (.inl rfl) t)
theorem Hd.texts : ∀ {R : St}, Hd R → Wl.texts R ≠ []
  | [], h => h.elim
  | [f], h => by
    have h2 : f.ts ≠ [] := h
    show [] ++ f.ts ≠ []
    simpa using h2
  | f :: g :: R, h => by
    have := Hd.texts (R := g :: R) h
    show Wl.texts (g :: R) ++ f.ts ≠ []
    simp [this]
/-- A crash, with what it makes of the log. -/
theorem mis_crash2 {first : Int} : ∀ (ps : List Disk.Pc) {R : St} {m : Disk.Safe} {T : List (List UInt8)} (left : Nat), MIs first R m → Ok R → Hd R → (∀ t ∈ T, t.length ≤ 65536) → ps.filter (mine first) = pcsOf first R T →
    ∃ R' j, MIs first R' (crashM m left ps) ∧ Ok R' ∧ Hd R' ∧ texts R' = texts R ++ T.take j ∧ R'.length ≤ R.length + T.length
  | [], R, m, T, left, h, ho, hh, hT, hp => ⟨R, 0, h, ho, hh, by simp, by omega⟩
  | p :: ps, R, m, T, left, h, ho, hh, hT, hp => by
    unfold crashM
    by_cases hx : first ≤ p.1
    · rw [List.filter_cons_of_pos (by simpa [mine] using hx)] at hp
      cases T with
      | nil => cases hp
      | cons t T =>
        injection hp with h1 h2
        subst h1
        have ht := hT t (by simp)
        by_cases hl : left < (ofL (frameL t)).size
        · rw [if_pos hl]
          by_cases h0 : left = 0
          · rw [if_pos h0]
            exact ⟨R, 0, h, ho, hh, by simp, by omega⟩
          · rw [if_neg h0]
            dsimp only
            rw [ofL_extract]
            rw [ofL_sz] at hl
            have hg := tail_grow R ((frameL t).take left)
            exact ⟨tail R ((frameL t).take left), 0, mis_tail h _, tail_ok ho ht (List.take_prefix _ _) (by rw [List.length_take]; omega), hd_tail hh _, by rw [tail_texts]; simp, by simp; omega⟩
        · rw [if_neg hl]
          obtain ⟨R', j, a, b, e, c, d⟩ := mis_crash2 ps (T := T) (left - (ofL (frameL t)).size) (mis_app h t) (app_ok ho ht) (hd_app (.inr hh) t) (fun x hx => hT x (by simp [hx])) h2
          have hg := app_grow R t
          exact ⟨R', j + 1, a, b, e, by rw [c, app_texts]; simp, by simp; omega⟩
    · rw [List.filter_cons_of_neg (by simpa [mine] using hx)] at hp
      by_cases hl : left < p.2.size
      · rw [if_pos hl]
        by_cases h0 : left = 0
        · rw [if_pos h0]
          exact ⟨R, 0, h, ho, hh, by simp, by omega⟩
        · rw [if_neg h0]
          exact ⟨R, 0, mis_low h (by omega) _, ho, hh, by simp, by omega⟩
      · rw [if_neg hl]
        exact mis_crash2 ps (left - p.2.size) (mis_low h (by omega) _) ho hh hT hp
/-! ### what is found -/
/-- The whole texts of file i. -/
def tsAt : St → Nat → List (List UInt8)
  | [], _ => []
  | f :: R, i => if i = R.length then f.ts else tsAt R i
theorem ok_at {R : St} (h : Ok R) {i : Nat} (hi : i < R.length) : okT (framesL (bts R i)) = tsAt R i ∧ beg (bts R i) = match tsAt R i with | t :: _ => cntR t | [] => none := by
  induction R with
  | nil => simp at hi
  | cons f R ih =>
    simp only [bts, tsAt]
    by_cases e : i = R.length
    · rw [if_pos e, if_pos e]
      have ho := h f (by simp)
      refine ⟨(ends_of ho).1, ?_⟩
      unfold beg byF
      obtain ⟨t', h1, h2, h3⟩ := ho.q
      rcases hts : f.ts with _ | ⟨t, ts⟩
      · have := next_part [] f.q t' h1 h2 h3
        simp only [List.nil_append, List.length_nil] at this
        rw [show fileL [] ++ f.q = f.q by simp [fileL], this]
      · have ht : t.length ≤ 65536 := ho.ts t (by rw [hts]; simp)
        have := next_frame [] t (fileL ts ++ f.q) ht
        simp only [List.nil_append, List.length_nil, Nat.zero_add] at this
        rw [show fileL (t :: ts) ++ f.q = frameL t ++ (fileL ts ++ f.q) by simp [fileL], this]
    · rw [if_neg e, if_neg e]
      exact ih (fun g hg => h g (List.mem_cons_of_mem _ hg)) (by simp at hi; omega)
theorem files_rest : ∀ {R : St} {p : List UInt8} {rest : List (List UInt8)}, Hd R → texts R = p :: rest → (∀ i, 1 ≤ i → ∀ t ∈ tsAt R i, t ∈ rest) ∧ ∃ r0, tsAt R 0 = p :: r0
  | [], _, _, h, _ => h.elim
  | [f], p, rest, h, ht => by
    have ht' : f.ts = p :: rest := by simpa [texts] using ht
    refine ⟨fun i hi t htt => ?_, rest, by simp [tsAt, ht']⟩
    simp only [tsAt, List.length_nil] at htt
    rw [if_neg (by omega)] at htt
    cases htt
  | f :: g :: R, p, rest, h, ht => by
    have h2 : Hd (g :: R) := h
    have hne := h2.texts
    rcases htx : texts (g :: R) with _ | ⟨p', rest'⟩
    · exact absurd htx hne
    · have ht2 : texts (g :: R) ++ f.ts = p :: rest := ht
      rw [htx] at ht2
      injection ht2 with e1 e2
      subst e1
      obtain ⟨h3, r0, h4⟩ := files_rest h2 htx
      refine ⟨fun i hi t htt => ?_, r0, ?_⟩
      · unfold tsAt at htt
        split at htt
        · rw [← e2]; exact List.mem_append_right _ htt
        · rw [← e2]; exact List.mem_append_left _ (h3 i hi t htt)
      · unfold tsAt
        rw [if_neg (by simp)]
        exact h4
theorem rdT_congr {d d' : Nat → List UInt8} : ∀ {k : Nat}, (∀ j, j < k → d j = d' j) → rdT d k = rdT d' k
  | 0, _ => rfl
  | k + 1, h => by
    show rdT d k ++ rdF d k = rdT d' k ++ rdF d' k
    rw [rdT_congr (fun j hj => h j (by omega))]
    unfold rdF
    rw [h k (by omega)]
theorem rd_all : ∀ {R : St}, Ok R → Hd R → rdT (bts R) R.length = tt ((texts R).drop 1)
  | [], _, h => h.elim
  | [f], ho, h => by
    show [] ++ rdF _ 0 = _
    unfold rdF
    rw [(ok_at ho (i := 0) (by simp)).1]
    simp [tsAt, texts]
  | f :: g :: R, ho, h => by
    have h2 : Hd (g :: R) := h
    have ho2 : Ok (g :: R) := fun x hx => ho x (List.mem_cons_of_mem _ hx)
    have ih := rd_all ho2 h2
    show rdT (bts (f :: g :: R)) (g :: R).length ++ rdF (bts (f :: g :: R)) (g :: R).length = _
    rw [rdT_congr (d' := bts (g :: R)) (fun j hj => by rw [bts, if_neg (by omega)]), ih]
    unfold rdF
    rw [(ok_at ho (i := (g :: R).length) (by simp)).1, if_neg (by simp)]
    have e1 : tsAt (f :: g :: R) (g :: R).length = f.ts := by rw [tsAt, if_pos rfl]
    rw [e1, List.drop_zero]
    have hne := h2.texts
    show _ = tt ((texts (g :: R) ++ f.ts).drop 1)
    rw [List.drop_append_of_le_length (by have := List.length_pos_iff.2 hne; omega)]
    simp [tt]
theorem tt_texts (l : List ByteArray) : tt (l.map fun s => 84 :: bl s) = l.map bl := by
  induction l with
  | nil => rfl
  | cons s l ih =>
    show t1 (84 :: bl s) ++ tt (l.map fun s => 84 :: bl s) = _
    rw [ih]
    rfl
theorem cnt_put {k : Nat} (hk : k ≤ 1073741824) : cntR (80 :: put k) = some k := by
  have h1 := get_put [80] [] k (by omega)
  simp only [List.append_nil, List.length_cons, List.length_nil] at h1
  unfold cntR
  rw [show (80 :: put k : List UInt8) = [80] ++ put k from rfl, h1]
  split
  · dsimp only
    rw [if_pos ⟨by simp; omega, hk⟩]
  · rename_i h
    exact absurd rfl h
theorem cnt_text (t : List UInt8) : cntR (84 :: t) = none := by
  unfold cntR
  rw [if_neg (by simp)]
theorem tcells_bl (l : List ByteArray) : tcells (l.map bl) = l.map Value.string := by
  unfold tcells
  rw [List.map_map]
  exact List.map_congr_left (fun s _ => by simp [ofL_bl])
section
variable {first : Int} {R : St} {m : Disk.Safe} {k : Nat} {l : List ByteArray}
theorem Log.dat (h : Log first R [] m []) (i : Nat) : Pt.dat m (first + i) = bts R i := by
  unfold Pt.dat
  rw [(h.file i).2, bl_ofL]
  rfl
theorem Log.isf (h : Log first R [] m []) (i : Nat) : isFile m [] (first + i) = decide (i < R.length) := (h.file i).1
theorem Hd.len {R : St} (h : Hd R) : 0 < R.length := by
  cases R with
  | nil => exact h.elim
  | cons f R => simp
/-- A log with a checkpoint, on a disk of its own: where Open looks. -/
theorem found (h : Log first R [] m []) (hd : Hd R) (ht : texts R = ptx k l) (hk : k ≤ 1073741824) :
    (∀ i : Nat, 0 < i → i < R.length → Passed m (first + i)) ∧ beg (Pt.dat m (first + (0 : Nat))) = some k ∧ EndAt m (first + (0 : Nat)) (R.length - 1) ∧ txt m (first + (0 : Nat)) (R.length - 1) = l.map bl := by
  have hpos := hd.len
  obtain ⟨h1, r0, h2⟩ := files_rest hd (p := 80 :: put k) (rest := l.map fun s => 84 :: bl s) ht
  have hno : ∀ i : Nat, 0 < i → i < R.length → beg (Pt.dat m (first + i)) = none := by
    intro i hi hl
    rw [Log.dat h, (ok_at h.ok hl).2]
    rcases hts : tsAt R i with _ | ⟨t, r⟩
    · rfl
    · have := h1 i hi t (by rw [hts]; simp)
      rw [List.mem_map] at this
      obtain ⟨s, _, rfl⟩ := this
      exact cnt_text _
  refine ⟨fun i hi hl => .inl (hno i hi hl), ?_, ⟨fun j hj => ?_, .inl ?_⟩, ?_⟩
  · rw [Log.dat h, (ok_at h.ok hpos).2, h2]
    exact cnt_put hk
  · have e : first + ((0 : Nat) : Int) + 1 + (j : Int) = first + ((j + 1 : Nat) : Int) := by omega
    rw [e]
    exact ⟨by rw [Log.isf h]; simp; omega, hno (j + 1) (by omega) (by omega)⟩
  · have e : first + ((0 : Nat) : Int) + 1 + ((R.length - 1 : Nat) : Int) = first + (R.length : Int) := by omega
    rw [e, Log.isf h]
    simp
  · unfold txt
    have e : (fun j : Nat => Pt.dat m (first + ((0 : Nat) : Int) + (j : Int))) = bts R := by
      funext j
      rw [show first + ((0 : Nat) : Int) + (j : Int) = first + (j : Int) by omega, Log.dat h]
    rw [e, show R.length - 1 + 1 = R.length by omega, rd_all h.ok hd, ht]
    show tt (l.map fun s => 84 :: bl s) = _
    exact tt_texts l
end
end Pt
end Go.Proofs.Ythgdkhgpboaplaa
