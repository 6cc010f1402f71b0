
/- Pairs behind operations, in plain words. -/
import Derived.Test.YtffnaabnbimhbaaMapSS
set_option linter.unusedSimpArgs false
set_option linter.unusedVariables false
namespace Go.Proofs.Ytffnaabnbimhbaa
namespace Ops
structure PairR where
  key : ByteArray
  val : ByteArray
deriving DecidableEq
def pcell (p : PairR) : List Value := [.string p.key, .string p.val]
def pcells (l : List PairR) : List Value := l.flatMap pcell
theorem pcells_length (l : List PairR) : (pcells l).length = l.length * 2 := by
  induction l with
  | nil => rfl
  | cons a l ih => simp [pcells, pcell] at ih ⊢; omega
def stepO (f : Env) (o : OpR) : Env := put1 f o.key (if o.del = true then none else some o.val)
def stepP (f : Env) (p : PairR) : Env := put1 f p.key (some p.val)
def envP (l : List PairR) : Env := l.foldl stepP fun _ => none
def finE (l : List PairR) (m : List OpR) : Env := m.foldl stepO (envP l)
def keysL (l : List PairR) (m : List OpR) : List BL := l.map (fun p => bl p.key) ++ m.map fun o => bl o.key
def overK (l : List PairR) (m : List OpR) : List BL := Keys.setL ((keysL l m).filter fun x => (finE l m x).isSome)
def overL (l : List PairR) (m : List OpR) : List PairR := (overK l m).map fun x => ⟨ofL x, (finE l m x).getD emp⟩
theorem envP_snoc (l : List PairR) (i : Nat) (p : PairR) (h : l[i]? = some p) : envP (l.take (i + 1)) = stepP (envP (l.take i)) p := by
  unfold envP
  rw [List.take_add_one, h, List.foldl_append]
  rfl
theorem finE_snoc (l : List PairR) (m : List OpR) (i : Nat) (o : OpR) (h : m[i]? = some o) : finE l (m.take (i + 1)) = stepO (finE l (m.take i)) o := by
  unfold finE
  rw [List.take_add_one, h, List.foldl_append]
  rfl
/-- What is in an environment came with some step. -/
theorem envP_some {l : List PairR} {x : BL} {v : ByteArray} (h : envP l x = some v) : ∃ p ∈ l, bl p.key = x ∧ p.val = v := by
  suffices ∀ (l : List PairR) (f : Env), l.foldl stepP f x = some v → f x = some v ∨ ∃ p ∈ l, bl p.key = x ∧ p.val = v by
    rcases this l _ h with h1 | h1
    · cases h1
    · exact h1
  intro l
  induction l with
  | nil => intro f h; exact .inl h
  | cons p l ih =>
    intro f h
    rcases ih _ h with h1 | ⟨q, hq, h2⟩
    · unfold stepP put1 at h1
      split at h1
      · rename_i e
        exact .inr ⟨p, by simp, e.symm, by injection h1⟩
      · exact .inl h1
    · exact .inr ⟨q, List.mem_cons_of_mem _ hq, h2⟩
theorem finE_some {l : List PairR} {m : List OpR} {x : BL} {v : ByteArray} (h : finE l m x = some v) : (∃ p ∈ l, bl p.key = x ∧ p.val = v) ∨ ∃ o ∈ m, bl o.key = x ∧ o.val = v := by
  suffices ∀ (m : List OpR) (f : Env), m.foldl stepO f x = some v → f x = some v ∨ ∃ p ∈ m, bl p.key = x ∧ p.val = v by
    rcases this m _ h with h1 | h1
    · exact .inl (envP_some h1)
    · exact .inr h1
  intro m
  induction m with
  | nil => intro f h; exact .inl h
  | cons p l ih =>
    intro f h
    rcases ih _ h with h1 | ⟨q, hq, h2⟩
    · unfold stepO put1 at h1
      split at h1
      · rename_i e
        split at h1
        · cases h1
        · exact .inr ⟨p, by simp, e.symm, by injection h1⟩
      · exact .inl h1
    · exact .inr ⟨q, List.mem_cons_of_mem _ hq, h2⟩
theorem finE_key {l : List PairR} {m : List OpR} {x : BL} (h : (finE l m x).isSome = true) : x ∈ keysL l m := by
  obtain ⟨v, hv⟩ := Option.isSome_iff_exists.1 h
  unfold keysL
  rw [List.mem_append, List.mem_map, List.mem_map]
  rcases finE_some hv with ⟨p, hp, e, _⟩ | ⟨p, hp, e, _⟩
  · exact .inl ⟨p, hp, e⟩
  · exact .inr ⟨p, hp, e⟩
theorem mem_overK {l : List PairR} {m : List OpR} {x : BL} : x ∈ overK l m ↔ (finE l m x).isSome = true := by
  unfold overK
  rw [Keys.mem_set, List.mem_filter]
  exact ⟨fun h => h.2, fun h => ⟨finE_key h, h⟩⟩
theorem overK_rises (l : List PairR) (m : List OpR) : (overK l m).Pairwise (· < ·) := Keys.set_rises _
theorem overK_unique {l : List PairR} {m : List OpR} {r : List BL} (h : r.Pairwise (· < ·)) (hm : ∀ x, x ∈ r ↔ (finE l m x).isSome = true) : r = overK l m :=
  Keys.set_unique h fun x => by rw [hm x, List.mem_filter]; exact ⟨fun h => ⟨finE_key h, h⟩, fun h => h.2⟩
theorem overL_length (l : List PairR) (m : List OpR) : (overL l m).length = (overK l m).length := by simp [overL]
theorem overK_len (l : List PairR) (m : List OpR) : (overK l m).length ≤ l.length + m.length := by
  refine Nat.le_trans (Keys.set_len _) (Nat.le_trans (List.length_filter_le _ _) ?_)
  simp [keysL]
theorem overL_get {l : List PairR} {m : List OpR} {i : Nat} {x : BL} (h : (overK l m)[i]? = some x) : (overL l m)[i]? = some ⟨ofL x, (finE l m x).getD emp⟩ := by
  simp [overL, h]
/-- An environment alone says what comes of it. -/
theorem overL_of {l l' : List PairR} {m m' : List OpR} (h : finE l m = finE l' m') : overL l m = overL l' m' := by
  have hk : overK l m = overK l' m' := overK_unique (overK_rises l m) fun x => by rw [mem_overK, h]
  unfold overL
  rw [hk, h]
/-- The pairs that came out, as an environment, are what they came of. -/
theorem envP_overL (l : List PairR) (m : List OpR) : envP (overL l m) = finE l m := by
  have hnd : (overK l m).Nodup := Keys.nodup_of_lt (overK_rises l m)
  suffices ∀ (ks : List BL) (f : Env), ks.Nodup → ∀ x, (ks.map fun x => (⟨ofL x, (finE l m x).getD emp⟩ : PairR)).foldl stepP f x = if x ∈ ks then some ((finE l m x).getD emp) else f x by
    funext x
    unfold envP overL
    rw [this _ _ hnd x]
    by_cases hx : x ∈ overK l m
    · rw [if_pos hx]
      obtain ⟨v, hv⟩ := Option.isSome_iff_exists.1 (mem_overK.1 hx)
      rw [hv]; rfl
    · rw [if_neg hx]
      have : ¬ (finE l m x).isSome = true := fun h => hx (mem_overK.2 h)
      cases hf : finE l m x
      · rfl
      · rw [hf] at this; simp at this
  intro ks
  induction ks with
  | nil => intro f _ x; simp
  | cons k ks ih =>
    intro f hn x
    rw [List.nodup_cons] at hn
    rw [List.map_cons, List.foldl_cons, ih _ hn.2 x]
    by_cases hx : x ∈ ks
    · rw [if_pos hx, if_pos (List.mem_cons_of_mem _ hx)]
    · rw [if_neg hx]
      unfold stepP put1
      rw [bl_ofL]
      by_cases e : x = k
      · subst e
        rw [if_pos rfl, if_pos (by simp)]
      · rw [if_neg e, if_neg (by simp [e, hx])]
/-- Operations behind operations. -/
theorem finE_append (l : List PairR) (m n : List OpR) : finE l (m ++ n) = finE (overL l m) n := by
  unfold finE
  rw [List.foldl_append, envP_overL]
  rfl
theorem overL_append (l : List PairR) (m n : List OpR) : overL l (m ++ n) = overL (overL l m) n := by
  have h := finE_append l m n
  exact overL_of h
theorem overL_nil (l : List PairR) (m : List OpR) : overL (overL l m) [] = overL l m := by
  have : finE (overL l m) [] = finE l m := envP_overL l m
  exact overL_of this
end Ops
end Go.Proofs.Ytffnaabnbimhbaa
