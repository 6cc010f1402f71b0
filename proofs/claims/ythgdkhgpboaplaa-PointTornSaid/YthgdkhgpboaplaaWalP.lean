
/- A log, plain: its files one behind another, what an append, a sync and a crash make of them, and what is read of them. -/
import Derived.Test.YthgdkhgpboaplaaWal2
set_option linter.unusedSimpArgs false
set_option linter.unusedVariables false
namespace Go.Proofs.Ythgdkhgpboaplaa
set_option maxRecDepth 100000
namespace Wl
open Disk Fr Vn Ops
/-- A file: whole texts, and a tail that is empty or a proper beginning of a frame. -/
structure FileT where
  ts : List (List UInt8)
  q : List UInt8
def byF (f : FileT) : List UInt8 := fileL f.ts ++ f.q
structure OkF (f : FileT) : Prop where
  ts : ∀ t ∈ f.ts, t.length ≤ 65536
  q : ∃ t' : List UInt8, t'.length ≤ 65536 ∧ f.q <+: frameL t' ∧ f.q.length < (frameL t').length
  size : (byF f).length ≤ 66000
/-- Is one written no more? -/
def full (f : FileT) : Prop := f.q ≠ [] ∨ 256 ≤ (byF f).length
instance (f : FileT) : Decidable (full f) := by unfold full; exact inferInstance
/-- The log's files, the last one first. -/
abbrev St := List FileT
def lastOf : St → Nat
  | [] => 0
  | f :: R => if full f then R.length + 1 else R.length
def app (R : St) (t : List UInt8) : St := match R with
  | [] => [⟨[t], []⟩]
  | f :: R => if full f then ⟨[t], []⟩ :: f :: R else ⟨f.ts ++ [t], []⟩ :: R
/-- A piece that is not whole. -/
def tail (R : St) (q : List UInt8) : St := match R with
  | [] => [⟨[], q⟩]
  | f :: R => if full f then ⟨[], q⟩ :: f :: R else ⟨f.ts, q⟩ :: R
def bts : St → Nat → List UInt8
  | [], _ => []
  | f :: R, i => if i = R.length then byF f else bts R i
def texts : St → List (List UInt8)
  | [] => []
  | f :: R => texts R ++ f.ts
def Ok (R : St) : Prop := ∀ f ∈ R, OkF f
theorem bts_out {R : St} {i : Nat} (h : R.length ≤ i) : bts R i = [] := by
  induction R with
  | nil => rfl
  | cons f R ih => simp only [bts]; rw [if_neg (by simp at h; omega), ih (by simp at h; omega)]
theorem lastOf_le (R : St) : lastOf R ≤ R.length := by
  cases R with
  | nil => exact Nat.le_refl _
  | cons f R => simp only [lastOf]; split <;> simp
theorem last_full {f : FileT} {R : St} (h : full f) : lastOf (f :: R) = R.length + 1 := by simp only [lastOf]; rw [if_pos h]
theorem last_not {f : FileT} {R : St} (h : ¬ full f) : lastOf (f :: R) = R.length := by simp only [lastOf]; rw [if_neg h]
theorem app_full {f : FileT} {R : St} {t : List UInt8} (h : full f) : app (f :: R) t = ⟨[t], []⟩ :: f :: R := by simp only [app]; rw [if_pos h]
theorem app_not {f : FileT} {R : St} {t : List UInt8} (h : ¬ full f) : app (f :: R) t = ⟨f.ts ++ [t], []⟩ :: R := by simp only [app]; rw [if_neg h]
theorem tail_full {f : FileT} {R : St} {t : List UInt8} (h : full f) : tail (f :: R) t = ⟨[], t⟩ :: f :: R := by simp only [tail]; rw [if_pos h]
theorem tail_not {f : FileT} {R : St} {t : List UInt8} (h : ¬ full f) : tail (f :: R) t = ⟨f.ts, t⟩ :: R := by simp only [tail]; rw [if_neg h]
theorem fileL_snoc (ts : List (List UInt8)) (t : List UInt8) : fileL (ts ++ [t]) = fileL ts ++ frameL t := by simp [fileL]
theorem app_bts (R : St) (t : List UInt8) (i : Nat) : bts (app R t) i = bts R i ++ if i = lastOf R then frameL t else [] := by
  cases R with
  | nil =>
    simp only [app, bts, lastOf, List.length_nil]
    by_cases h : i = 0 <;> simp [h, byF, fileL]
  | cons f R =>
    by_cases hf : full f
    · rw [app_full hf, last_full hf]
      simp only [bts, List.length_cons]
      by_cases h : i = R.length + 1
      · subst h
        rw [if_pos rfl, if_pos rfl, if_neg (by omega), bts_out (by omega)]
        simp [byF, fileL]
      · rw [if_neg h, if_neg h, List.append_nil]
    · rw [app_not hf, last_not hf]
      simp only [bts]
      by_cases h : i = R.length
      · rw [if_pos h, if_pos h, if_pos h]
        have hq : f.q = [] := by
          rcases Classical.em (f.q = []) with h | h
          · exact h
          · exact absurd (.inl h) hf
        simp [byF, hq, fileL_snoc]
      · rw [if_neg h, if_neg h, if_neg h, List.append_nil]
theorem app_len (R : St) (t : List UInt8) (i : Nat) : i < (app R t).length ↔ i < R.length ∨ i = lastOf R := by
  cases R with
  | nil => simp [app, lastOf]
  | cons f R =>
    by_cases hf : full f
    · rw [app_full hf, last_full hf]; simp; omega
    · rw [app_not hf, last_not hf]; simp; omega
theorem tail_bts (R : St) (q : List UInt8) (i : Nat) : bts (tail R q) i = bts R i ++ if i = lastOf R then q else [] := by
  cases R with
  | nil =>
    simp only [tail, bts, lastOf, List.length_nil]
    by_cases h : i = 0 <;> simp [h, byF, fileL]
  | cons f R =>
    by_cases hf : full f
    · rw [tail_full hf, last_full hf]
      simp only [bts, List.length_cons]
      by_cases h : i = R.length + 1
      · subst h
        rw [if_pos rfl, if_pos rfl, if_neg (by omega), bts_out (by omega)]
        simp [byF, fileL]
      · rw [if_neg h, if_neg h, List.append_nil]
    · rw [tail_not hf, last_not hf]
      simp only [bts]
      by_cases h : i = R.length
      · rw [if_pos h, if_pos h, if_pos h]
        have hq : f.q = [] := by
          rcases Classical.em (f.q = []) with h | h
          · exact h
          · exact absurd (.inl h) hf
        simp [byF, hq]
      · rw [if_neg h, if_neg h, if_neg h, List.append_nil]
theorem tail_len (R : St) (q : List UInt8) (i : Nat) : i < (tail R q).length ↔ i < R.length ∨ i = lastOf R := by
  cases R with
  | nil => simp [tail, lastOf]
  | cons f R =>
    by_cases hf : full f
    · rw [tail_full hf, last_full hf]; simp; omega
    · rw [tail_not hf, last_not hf]; simp; omega
theorem app_texts (R : St) (t : List UInt8) : texts (app R t) = texts R ++ [t] := by
  cases R with
  | nil => simp [app, texts]
  | cons f R => simp only [app]; split <;> simp [texts]
theorem tail_texts (R : St) (q : List UInt8) : texts (tail R q) = texts R := by
  cases R with
  | nil => simp [tail, texts]
  | cons f R => simp only [tail]; split <;> simp [texts]
theorem frame_le {t : List UInt8} (h : t.length ≤ 65536) : (frameL t).length ≤ 65549 := by
  rw [frameL_len]
  have := put_le (n := t.length) (by omega)
  omega
theorem nil_part : ∃ t' : List UInt8, t'.length ≤ 65536 ∧ ([] : List UInt8) <+: frameL t' ∧ ([] : List UInt8).length < (frameL t').length :=
  ⟨[], Nat.zero_le _, List.nil_prefix, by rw [frameL_len]; simp⟩
theorem app_ok {R : St} (h : Ok R) {t : List UInt8} (ht : t.length ≤ 65536) : Ok (app R t) := by
  have hfr := frame_le ht
  have hnew : OkF ⟨[t], []⟩ := ⟨fun x hx => by simp at hx; subst hx; exact ht, nil_part, by simp [byF, fileL]; omega⟩
  cases R with
  | nil => intro f hf; simp [app] at hf; subst hf; exact hnew
  | cons f R =>
    simp only [app]
    split
    · intro g hg
      rcases List.mem_cons.1 hg with rfl | hg
      · exact hnew
      · exact h g hg
    · rename_i hf
      intro g hg
      rcases List.mem_cons.1 hg with rfl | hg
      · have ho := h f (by simp)
        refine ⟨fun x hx => ?_, nil_part, ?_⟩
        · rcases List.mem_append.1 hx with hx | hx
          · exact ho.ts x hx
          · simp at hx; subst hx; exact ht
        · have h2 : ¬ 256 ≤ (byF f).length := fun z => hf (.inr z)
          simp [byF, fileL_snoc] at h2 ⊢
          omega
      · exact h g (List.mem_cons_of_mem _ hg)
theorem tail_ok {R : St} (h : Ok R) {t q : List UInt8} (ht : t.length ≤ 65536) (hq : q <+: frameL t) (hl : q.length < (frameL t).length) : Ok (tail R q) := by
  have hfr := frame_le ht
  have hnew : OkF ⟨[], q⟩ := ⟨fun x hx => by simp at hx, ⟨t, ht, hq, hl⟩, by simp [byF, fileL]; omega⟩
  cases R with
  | nil => intro f hf; simp [tail] at hf; subst hf; exact hnew
  | cons f R =>
    simp only [tail]
    split
    · intro g hg
      rcases List.mem_cons.1 hg with rfl | hg
      · exact hnew
      · exact h g hg
    · rename_i hf
      intro g hg
      rcases List.mem_cons.1 hg with rfl | hg
      · have ho := h f (by simp)
        refine ⟨ho.ts, ⟨t, ht, hq, hl⟩, ?_⟩
        have h2 : ¬ 256 ≤ (byF f).length := fun z => hf (.inr z)
        simp [byF] at h2 ⊢
        omega
      · exact h g (List.mem_cons_of_mem _ hg)
def cur (R : St) (T : List (List UInt8)) : St := T.foldl app R
theorem cur_cons (R : St) (t : List UInt8) (T : List (List UInt8)) : cur R (t :: T) = cur (app R t) T := rfl
theorem cur_snoc (R : St) (T : List (List UInt8)) (t : List UInt8) : cur R (T ++ [t]) = app (cur R T) t := by simp [cur]
theorem cur_texts (R : St) : ∀ T, texts (cur R T) = texts R ++ T := by
  intro T
  induction T generalizing R with
  | nil => simp [cur]
  | cons t T ih => rw [cur_cons, ih, app_texts]; simp
theorem cur_ok {R : St} (h : Ok R) {T : List (List UInt8)} (hT : ∀ t ∈ T, t.length ≤ 65536) : Ok (cur R T) := by
  induction T generalizing R with
  | nil => exact h
  | cons t T ih => exact ih (app_ok h (hT t (by simp))) (fun x hx => hT x (by simp [hx]))
theorem app_grow (R : St) (t : List UInt8) : (app R t).length ≤ R.length + 1 := by
  cases R with
  | nil => simp [app]
  | cons f R => simp only [app]; split <;> simp
theorem tail_grow (R : St) (t : List UInt8) : (tail R t).length ≤ R.length + 1 := by
  cases R with
  | nil => simp [tail]
  | cons f R => simp only [tail]; split <;> simp
theorem cur_grow (R : St) : ∀ T, (cur R T).length ≤ R.length + T.length := by
  intro T
  induction T generalizing R with
  | nil => exact Nat.le_refl _
  | cons t T ih =>
    have h1 := ih (app R t)
    have h2 := app_grow R t
    rw [cur_cons, List.length_cons]
    omega
/-! ### on a disk -/
/-- The pieces of texts that are appended. -/
def pcsOf (first : Int) : St → List (List UInt8) → List Pc
  | _, [] => []
  | R, t :: T => (first + lastOf R, ofL (frameL t)) :: pcsOf first (app R t) T
theorem pcsOf_snoc (first : Int) : ∀ (R : St) (T : List (List UInt8)) (t : List UInt8), pcsOf first R (T ++ [t]) = pcsOf first R T ++ [(first + lastOf (cur R T), ofL (frameL t))]
  | R, [], t => rfl
  | R, x :: T, t => by
    show _ :: pcsOf first (app R x) (T ++ [t]) = _ :: (pcsOf first (app R x) T ++ _)
    rw [pcsOf_snoc first (app R x) T t]
    rfl
theorem pcsOf_len (first : Int) : ∀ (R : St) (T : List (List UInt8)), (pcsOf first R T).length = T.length
  | R, [] => rfl
  | R, t :: T => by show (_ :: pcsOf first (app R t) T).length = _; simp [pcsOf_len first (app R t) T]
def fileAt (R : St) (i : Nat) : Option ByteArray := if i < R.length then some (ofL (bts R i)) else none
/-- From 'first' on, the safe files are those of R. -/
def MIs (first : Int) (R : St) (m : Disk.Safe) : Prop := ∀ i : Nat, m (first + i) = fileAt R i
def mine (first : Int) (p : Disk.Pc) : Bool := decide (first ≤ p.1)
theorem ofL_app (a b : List UInt8) : ofL a ++ ofL b = ofL (a ++ b) := by
  apply ByteArray.ext
  simp [ofL]
theorem getD_fileAt (R : St) (i : Nat) : (fileAt R i).getD ⟨#[]⟩ = ofL (bts R i) := by
  unfold fileAt
  split
  · rfl
  · rw [bts_out (by omega)]; rfl
theorem mis_app {first : Int} {R : St} {m : Disk.Safe} (h : MIs first R m) (t : List UInt8) : MIs first (app R t) (sput m (first + lastOf R) (sget m (first + lastOf R) ++ ofL (frameL t))) := by
  intro i
  have hl := app_len R t i
  have hb := app_bts R t i
  unfold sput sget
  rw [h (lastOf R), getD_fileAt, ofL_app]
  by_cases e : i = lastOf R
  · subst e
    rw [if_pos rfl]
    unfold fileAt
    rw [if_pos (hl.2 (.inr rfl)), hb, if_pos rfl]
  · rw [if_neg (by omega), h i]
    unfold fileAt
    rw [hb, if_neg e, List.append_nil]
    by_cases h2 : i < R.length
    · rw [if_pos h2, if_pos (hl.2 (.inl h2))]
    · rw [if_neg h2, if_neg (fun z => by rcases hl.1 z with z | z; exact h2 z; exact e z)]
theorem mis_tail {first : Int} {R : St} {m : Disk.Safe} (h : MIs first R m) (q : List UInt8) : MIs first (tail R q) (sput m (first + lastOf R) (sget m (first + lastOf R) ++ ofL q)) := by
  intro i
  have hl := tail_len R q i
  have hb := tail_bts R q i
  unfold sput sget
  rw [h (lastOf R), getD_fileAt, ofL_app]
  by_cases e : i = lastOf R
  · subst e
    rw [if_pos rfl]
    unfold fileAt
    rw [if_pos (hl.2 (.inr rfl)), hb, if_pos rfl]
  · rw [if_neg (by omega), h i]
    unfold fileAt
    rw [hb, if_neg e, List.append_nil]
    by_cases h2 : i < R.length
    · rw [if_pos h2, if_pos (hl.2 (.inl h2))]
    · rw [if_neg h2, if_neg (fun z => by rcases hl.1 z with z | z; exact h2 z; exact e z)]
theorem mis_low {first : Int} {R : St} {m : Disk.Safe} (h : MIs first R m) {x : Int} (hx : x < first) (s : ByteArray) : MIs first R (sput m x s) := by
  intro i
  unfold sput
  rw [if_neg (by omega)]
  exact h i
theorem mis_sync {first : Int} : ∀ (ps : List Disk.Pc) {R : St} {m : Disk.Safe} {T : List (List UInt8)}, MIs first R m → ps.filter (mine first) = pcsOf first R T → MIs first (cur R T) (syncM m ps)
  | [], R, m, T, h, hp => by
    cases T with
    | nil => exact h
    | cons t T => cases hp
  | p :: ps, R, m, T, h, hp => by
    unfold syncM
    by_cases hx : first ≤ p.1
    · rw [List.filter_cons_of_pos (by simpa [mine] using hx)] at hp
      cases T with
      | nil => cases hp
      | cons t T =>
        injection hp with h1 h2
        subst h1
        exact mis_sync ps (T := T) (mis_app h t) h2
    · rw [List.filter_cons_of_neg (by simpa [mine] using hx)] at hp
      exact mis_sync ps (mis_low h (by omega) _) hp
theorem ofL_extract (l : List UInt8) (k : Nat) : (ofL l).extract 0 k = ofL (l.take k) := by
  apply ByteArray.ext
  simp [ofL, ByteArray.extract, ByteArray.copySlice]
theorem mis_crash {first : Int} : ∀ (ps : List Disk.Pc) {R : St} {m : Disk.Safe} {T : List (List UInt8)} (left : Nat), MIs first R m → Ok R → (∀ t ∈ T, t.length ≤ 65536) → ps.filter (mine first) = pcsOf first R T →
    ∃ R' j, MIs first R' (crashM m left ps) ∧ Ok R' ∧ texts R' = texts R ++ T.take j ∧ R'.length ≤ R.length + T.length
  | [], R, m, T, left, h, ho, hT, hp => ⟨R, 0, h, ho, by simp, by omega⟩
  | p :: ps, R, m, T, left, h, ho, hT, hp => by
    unfold crashM
    by_cases hx : first ≤ p.1
    · rw [List.filter_cons_of_pos (by simpa [mine] using hx)] at hp
      cases T with
      | nil => cases hp
      | cons t T =>
        injection hp with h1 h2
        subst h1
        have ht := hT t (by simp)
        by_cases hl : left < (ofL (frameL t)).size
        · rw [if_pos hl]
          by_cases h0 : left = 0
          · rw [if_pos h0]
            exact ⟨R, 0, h, ho, by simp, by omega⟩
          · rw [if_neg h0]
            dsimp only
            rw [ofL_extract]
            rw [ofL_sz] at hl
            have hg := tail_grow R ((frameL t).take left)
            exact ⟨tail R ((frameL t).take left), 0, mis_tail h _, tail_ok ho ht (List.take_prefix _ _) (by rw [List.length_take]; omega), by rw [tail_texts]; simp, by simp; omega⟩
        · rw [if_neg hl]
          obtain ⟨R', j, a, b, c, d⟩ := mis_crash ps (T := T) (left - (ofL (frameL t)).size) (mis_app h t) (app_ok ho ht) (fun x hx => hT x (by simp [hx])) h2
          have hg := app_grow R t
          exact ⟨R', j + 1, a, b, by rw [c, app_texts]; simp, by simp; omega⟩
    · rw [List.filter_cons_of_neg (by simpa [mine] using hx)] at hp
      by_cases hl : left < p.2.size
      · rw [if_pos hl]
        by_cases h0 : left = 0
        · rw [if_pos h0]
          exact ⟨R, 0, h, ho, by simp, by omega⟩
        · rw [if_neg h0]
          exact ⟨R, 0, mis_low h (by omega) _, ho, by simp, by omega⟩
      · rw [if_neg hl]
        exact mis_crash ps (left - p.2.size) (mis_low h (by omega) _) ho hT hp
/-! ### what is read -/
theorem sync_file (ps : List Disk.Pc) : ∀ (m : Disk.Safe) (x : Int), syncM m ps x = if isFile m ps x = true then some (dataOf m ps x) else none := by
  induction ps with
  | nil =>
    intro m x
    unfold syncM isFile
    cases hm : m x with
    | none => simp
    | some s => simp [dataOf, ofFile, sget, hm]
  | cons p ps ih =>
    intro m x
    unfold syncM
    rw [ih]
    have h1 : isFile (sput m p.1 (sget m p.1 ++ p.2)) ps x = isFile m (p :: ps) x := by
      unfold isFile sput
      by_cases hx : x = p.1
      · subst hx; simp
      · have : ¬ p.1 = x := fun h => hx h.symm
        rw [if_neg hx]; simp [this]
    have h2 : dataOf (sput m p.1 (sget m p.1 ++ p.2)) ps x = dataOf m (p :: ps) x := by
      unfold dataOf
      rw [sget_sput, ofFile_cons]
      by_cases hx : x = p.1
      · subst hx; simp
      · have : ¬ p.1 = x := fun h => hx h.symm
        rw [if_neg hx, if_neg this]; simp
    rw [h1, h2]
/-- The files of a log, as they are read. -/
def sgs (first : Int) : St → List (Int × ByteArray)
  | [] => []
  | f :: R => sgs first R ++ [(first + R.length, ofL (byF f))]
theorem segsF_snoc (p : Int → Bool) (d : Int → ByteArray) : ∀ (k : Nat) (x : Int), (∀ i : Nat, i < k + 1 → p (x + i) = true) → segsF p d (k + 1) x = segsF p d k x ++ [(x + k, d (x + k))]
  | 0, x, h => by
    have h0 := h 0 (by omega)
    simp at h0
    simp [segsF, h0]
  | k + 1, x, h => by
    have h0 := h 0 (by omega)
    simp at h0
    have ih := segsF_snoc p d k (x + 1) (fun i hi => by have := h (i + 1) (by omega); rw [← this]; congr 1; omega)
    rw [segsF, if_pos h0, ih]
    conv => rhs; rw [segsF, if_pos h0]
    simp only [List.cons_append]
    have e : x + 1 + (k : Int) = x + ((k + 1 : Nat) : Int) := by omega
    rw [e]
theorem segs_of {first : Int} {p : Int → Bool} {d : Int → ByteArray} : ∀ {R : St}, (∀ i : Nat, i < R.length → p (first + i) = true ∧ d (first + i) = ofL (bts R i)) → segsF p d R.length first = sgs first R
  | [], _ => rfl
  | f :: R, h => by
    rw [List.length_cons, segsF_snoc p d R.length first (fun i hi => (h i (by simpa using hi)).1), segs_of (R := R) (fun i hi => by
      have := h i (by simp; omega)
      refine ⟨this.1, ?_⟩
      rw [this.2]
      simp only [bts]
      rw [if_neg (by omega)])]
    have h2 := (h R.length (by simp)).2
    rw [h2]
    simp [sgs, bts]
theorem ends_of {f : FileT} (h : OkF f) : okT (framesL (byF f)) = f.ts ∧ endE (framesL (byF f)) = if f.q = [] then 0 else codeE 2 := by
  obtain ⟨t', h1, h2, h3⟩ := h.q
  have := all_whole f.ts f.q t' h.ts h1 h2 h3
  exact ⟨this.1, this.2.2⟩
theorem goesOn_of {f : FileT} (h : OkF f) : goesOn (ofL (byF f)) = !decide (full f) := by
  unfold goesOn full
  rw [bl_ofL, ofL_sz, (ends_of h).2]
  by_cases hq : f.q = []
  · by_cases hs : (byF f).length < 256
    · have : ¬ 256 ≤ (byF f).length := by omega
      simp [hq, hs]
    · have : 256 ≤ (byF f).length := by omega
      simp [hq, this]
  · have := codeE_ne 2
    simp [hq, this]
theorem sgs_len (first : Int) : ∀ R : St, (sgs first R).length = R.length
  | [] => rfl
  | f :: R => by simp [sgs, sgs_len first R]
/-- The list that is read, with its bounds. -/
theorem sg_list {first : Int} (h1 : 1 ≤ first) (h2 : first ≤ 1152921504606846976) : ∀ {R : St}, Ok R → R.length ≤ 1152921504606846976 → ∃ ls : List Sg, ls.map (·.1) = sgs first R ∧ readT ls = texts R ∧ (∀ a, R ≠ [] → atN a ls = first + lastOf R) ∧ ls.length = R.length
  | [], _, _ => ⟨[], rfl, rfl, fun a h => absurd rfl h, rfl⟩
  | f :: R, ho, hl => by
    obtain ⟨ls, h3, h4, _, h6⟩ := sg_list h1 h2 (R := R) (fun g hg => ho g (List.mem_cons_of_mem _ hg)) (by simp at hl; omega)
    have hf := ho f (by simp)
    simp only [List.length_cons] at hl
    let x : Sg := ⟨(first + R.length, ofL (byF f)), by rw [ofL_sz]; have := hf.size; show _ ≤ _; omega, by show 1 ≤ first + (R.length : Int); omega, by show first + (R.length : Int) ≤ _; omega⟩
    refine ⟨ls ++ [x], by rw [List.map_append, h3]; rfl, ?_, fun a _ => ?_, by simp [h6]⟩
    · rw [readT_snoc, h4]
      show _ ++ okT (framesL (bl (ofL (byF f)))) = texts R ++ f.ts
      rw [bl_ofL, (ends_of hf).1]
    · rw [atN_snoc]
      show (if goesOn (ofL (byF f)) = true then first + (R.length : Int) else first + (R.length : Int) + 1) = _
      rw [goesOn_of hf]
      simp only [lastOf]
      by_cases hfu : full f
      · simp [hfu]; omega
      · simp [hfu]
/-- A log on a disk: R is safe, T is not. -/
structure Log (first : Int) (R : St) (T : List (List UInt8)) (m : Disk.Safe) (ps : List Disk.Pc) : Prop where
  safe : MIs first R m
  rest : ps.filter (mine first) = pcsOf first R T
  ok : Ok R
  T : ∀ t ∈ T, t.length ≤ 65536
section
variable {first : Int} {R : St} {T : List (List UInt8)} {m : Disk.Safe} {ps : List Disk.Pc}
theorem Log.file (h : Log first R T m ps) (i : Nat) : isFile m ps (first + i) = decide (i < (cur R T).length) ∧ dataOf m ps (first + i) = ofL (bts (cur R T) i) := by
  have h1 := mis_sync ps h.safe h.rest i
  rw [sync_file] at h1
  unfold fileAt at h1
  by_cases hi : i < (cur R T).length
  · rw [if_pos hi] at h1
    split at h1
    · rename_i h2
      injection h1 with h1
      exact ⟨by simp [h2, hi], h1⟩
    · cases h1
  · rw [if_neg hi] at h1
    split at h1
    · cases h1
    · rename_i h2
      refine ⟨by simp [hi, h2], ?_⟩
      rw [bts_out (by omega)]
      have h3 := h2
      unfold isFile at h3
      simp only [Bool.or_eq_true, not_or, Bool.not_eq_true, List.any_eq_false, decide_eq_true_eq, Option.isSome_eq_false_iff, Option.isNone_iff_eq_none] at h3
      unfold dataOf sget
      rw [h3.1]
      have : ofFile (first + i) ps = [] := by
        unfold ofFile
        rw [List.flatMap_eq_nil_iff]
        intro p hp
        rw [if_neg (h3.2 p hp)]
      rw [this]
      rfl
theorem Log.segs (h : Log first R T m ps) : segsF (isFile m ps) (dataOf m ps) (cur R T).length first = sgs first (cur R T) ∧ isFile m ps (first + (cur R T).length) = false :=
  ⟨segs_of fun i hi => ⟨by rw [(h.file i).1]; simpa using hi, (h.file i).2⟩, by rw [(h.file _).1]; simp⟩
theorem Log.append (h : Log first R T m ps) {t : List UInt8} (ht : t.length ≤ 65536) : Log first R (T ++ [t]) m (ps ++ [(first + lastOf (cur R T), ofL (frameL t))]) :=
  ⟨h.safe, by rw [List.filter_append, h.rest, pcsOf_snoc]; congr 1; simp [mine]; omega, h.ok, fun x hx => by rcases List.mem_append.1 hx with hx | hx; exact h.T x hx; simp at hx; subst hx; exact ht⟩
theorem Log.sync (h : Log first R T m ps) : Log first (cur R T) [] (syncM m ps) [] := ⟨mis_sync ps h.safe h.rest, rfl, cur_ok h.ok h.T, fun t ht => by cases ht⟩
theorem Log.crash (h : Log first R T m ps) (left : Nat) : ∃ R' j, Log first R' [] (crashM m left ps) [] ∧ texts R' = texts R ++ T.take j ∧ R'.length ≤ R.length + T.length := by
  obtain ⟨R', j, a, b, c, d⟩ := mis_crash ps left h.safe h.ok h.T h.rest
  exact ⟨R', j, ⟨a, rfl, b, fun t ht => by cases ht⟩, c, d⟩
/-- How the last file's number goes on behind an append. -/
theorem last_app (R : St) (t : List UInt8) : lastOf (app R t) = if 256 ≤ (bts (app R t) (lastOf R)).length then lastOf R + 1 else lastOf R := by
  cases R with
  | nil =>
    have e : app [] t = [⟨[t], []⟩] := rfl
    rw [e]
    simp only [lastOf, bts, List.length_nil, if_true, full, ne_eq, not_true_eq_false, false_or]
  | cons f R =>
    by_cases hf : full f
    · have e : app (f :: R) t = ⟨[t], []⟩ :: f :: R := by simp only [app]; rw [if_pos hf]
      have e2 : lastOf (f :: R) = R.length + 1 := by simp only [lastOf]; rw [if_pos hf]
      rw [e, e2]
      simp [lastOf, bts, full]
    · have e : app (f :: R) t = ⟨f.ts ++ [t], []⟩ :: R := by simp only [app]; rw [if_neg hf]
      have e2 : lastOf (f :: R) = R.length := by simp only [lastOf]; rw [if_neg hf]
      rw [e, e2]
      simp [lastOf, bts, full]
end
end Wl
end Go.Proofs.Ythgdkhgpboaplaa
