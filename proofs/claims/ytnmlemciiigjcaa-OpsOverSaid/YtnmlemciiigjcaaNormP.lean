/- Plain: the document's Over is the program's; what Norm keeps comes to the same. -/
import Derived.Test.YtnmlemciiigjcaaNorm2
set_option linter.unusedSimpArgs false
set_option linter.unusedVariables false
namespace Go.Proofs.Ytnmlemciiigjcaa
open Go.RowKit
set_option maxRecDepth 100000
namespace Ops
open Vn
def finO (e : Option ByteArray) : Option OpR → Option ByteArray
  | none => e
  | some o => if o.del = true then none else some o.val
theorem finE_last (l : List PairR) (m : List OpR) (x : BL) : finE l m x = finO (envP l x) (lastF m x) := by
  suffices ∀ (m : List OpR) (f : Env) (g : BL → Option OpR), (∀ x, f x = finO (envP l x) (g x)) → ∀ x, m.foldl stepO f x = finO (envP l x) (m.foldl stepL g x) from
    this m _ (fun _ => none) (fun _ => rfl) x
  intro m
  induction m with
  | nil => intro f g h x; exact h x
  | cons o m ih =>
    intro f g h x
    rw [List.foldl_cons, List.foldl_cons]
    refine ih _ _ (fun y => ?_) x
    unfold stepO put1 stepL
    by_cases e : y = bl o.key
    · rw [if_pos e, if_pos e]; rfl
    · rw [if_neg e, if_neg e]; exact h y
theorem envP_ops (l : List PairR) : envP l = finE [] (l.map opOf) := by
  unfold finE
  show l.foldl stepP _ = (l.map opOf).foldl stepO fun _ => none
  generalize (fun _ => none : Env) = f
  induction l generalizing f with
  | nil => rfl
  | cons p l ih =>
    rw [List.map_cons, List.foldl_cons, List.foldl_cons, ih]
    rfl
theorem finE_ops (l : List PairR) (m : List OpR) : finE l m = finE [] (l.map opOf ++ m) := by
  have h := envP_ops l
  unfold finE at h ⊢
  rw [List.foldl_append, h]
theorem lastF_key {m : List OpR} {x : BL} {o : OpR} (h : lastF m x = some o) : bl o.key = x ∧ o ∈ m := by
  suffices ∀ (m : List OpR) (g : BL → Option OpR), m.foldl stepL g x = some o → g x = some o ∨ (bl o.key = x ∧ o ∈ m) by
    rcases this m _ h with h1 | h1
    · cases h1
    · exact h1
  intro m
  induction m with
  | nil => intro g h; exact .inl h
  | cons p m ih =>
    intro g h
    rcases ih _ h with h1 | ⟨h1, h2⟩
    · unfold stepL at h1
      split at h1
      · rename_i e
        injection h1 with h1
        subst h1
        exact .inr ⟨e.symm, by simp⟩
      · exact .inl h1
    · exact .inr ⟨h1, List.mem_cons_of_mem _ h2⟩
theorem lastF_some {m : List OpR} {x : BL} (h : x ∈ m.map fun o => bl o.key) : ∃ o, lastF m x = some o := by
  suffices ∀ (m : List OpR) (g : BL → Option OpR), ((∃ o, g x = some o) ∨ x ∈ m.map fun o => bl o.key) → ∃ o, m.foldl stepL g x = some o from this m _ (.inr h)
  intro m
  induction m with
  | nil =>
    intro g h
    rcases h with h | h
    · exact h
    · cases h
  | cons p m ih =>
    intro g h
    rw [List.foldl_cons]
    refine ih _ ?_
    by_cases e : x = bl p.key
    · exact .inl ⟨p, by unfold stepL; rw [if_pos e]⟩
    · rcases h with ⟨o, h⟩ | h
      · exact .inl ⟨o, by unfold stepL; rw [if_neg e]; exact h⟩
      · rw [List.map_cons, List.mem_cons] at h
        rcases h with h | h
        · exact absurd h e
        · exact .inr h
theorem normK_mem {m : List OpR} {x : BL} : x ∈ normK m ↔ x ∈ m.map fun o => bl o.key := Keys.mem_set _ _
theorem live_map (M : List OpR) (ks : List BL) (h : ∀ x ∈ ks, x ∈ M.map fun o => bl o.key) :
    liveL (ks.map fun x => (lastF M x).getD o0) = (ks.filter fun x => (finE [] M x).isSome).map fun x => ⟨ofL x, (finE [] M x).getD emp⟩ := by
  unfold liveL
  induction ks with
  | nil => rfl
  | cons x ks ih =>
    have ih2 := ih fun y hy => h y (List.mem_cons_of_mem _ hy)
    obtain ⟨o, ho⟩ := lastF_some (h x (by simp))
    have hk := (lastF_key ho).1
    have hf : finE [] M x = if o.del = true then none else some o.val := by rw [finE_last, ho]; rfl
    rw [List.map_cons, List.filter_cons, List.filter_cons, ho, Option.getD_some, hf]
    cases hd : o.del
    · rw [if_pos (by simp), if_pos (by simp), List.map_cons, List.map_cons, ih2, hf, hd]
      congr 1
      unfold prOf
      rw [← hk, ofL_bl]
      rfl
    · rw [if_neg (by simp), if_neg (by simp)]
      exact ih2
theorem overR_eq (l : List PairR) (m : List OpR) : overR l m = overL l m := by
  have he := finE_ops l m
  have h1 : overL l m = overL [] (l.map opOf ++ m) := overL_of he
  rw [h1]
  unfold overR
  generalize l.map opOf ++ m = M
  unfold normL
  rw [live_map M (normK M) fun x hx => normK_mem.1 hx]
  have hk : (normK M).filter (fun x => (finE [] M x).isSome) = overK [] M := by
    refine overK_unique ?_ fun x => ?_
    · exact List.Pairwise.sublist List.filter_sublist (Keys.set_rises _)
    · rw [List.mem_filter]
      refine ⟨fun h => h.2, fun h => ⟨?_, h⟩⟩
      have := finE_key h
      unfold keysL at this
      exact normK_mem.2 (by simpa using this)
  rw [hk]
  rfl
theorem lastF_norm (m : List OpR) : lastF (normL m) = lastF m := by
  have hnd : (normK m).Nodup := Keys.nodup_of_lt (Keys.set_rises _)
  suffices ∀ (ks : List BL) (g : BL → Option OpR), ks.Nodup → (∀ y ∈ ks, y ∈ m.map fun o => bl o.key) → ∀ x, (ks.map fun y => (lastF m y).getD o0).foldl stepL g x = if x ∈ ks then lastF m x else g x by
    funext x
    unfold normL
    show List.foldl stepL (fun _ => none) _ x = _
    rw [this _ _ hnd (fun y hy => normK_mem.1 hy) x]
    by_cases hx : x ∈ normK m
    · rw [if_pos hx]
    · rw [if_neg hx]
      cases hl : lastF m x with
      | none => rfl
      | some o =>
        obtain ⟨h1, h2⟩ := lastF_key hl
        exact absurd (normK_mem.2 (List.mem_map.2 ⟨o, h2, h1⟩)) hx
  intro ks
  induction ks with
  | nil => intro g _ _ x; simp
  | cons k ks ih =>
    intro g hn hm x
    rw [List.nodup_cons] at hn
    rw [List.map_cons, List.foldl_cons, ih _ hn.2 (fun y hy => hm y (List.mem_cons_of_mem _ hy)) x]
    obtain ⟨o, ho⟩ := lastF_some (hm k (by simp))
    have hk := (lastF_key ho).1
    by_cases hx : x ∈ ks
    · rw [if_pos hx, if_pos (List.mem_cons_of_mem _ hx)]
    · rw [if_neg hx, ho, Option.getD_some]
      unfold stepL
      rw [hk]
      by_cases e : x = k
      · subst e
        rw [if_pos rfl, if_pos (by simp), ho]
      · rw [if_neg e, if_neg (by simp [e, hx])]
theorem overL_norm (l : List PairR) (m : List OpR) : overL l (normL m) = overL l m :=
  overL_of (by funext x; rw [finE_last, finE_last, lastF_norm])
end Ops
end Go.Proofs.Ytnmlemciiigjcaa
