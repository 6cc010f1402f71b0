/- The disk and the document's disk: plain. -/
import Derived.Test.YtopkeknpdimimaaDiskLay3
import Derived.Test.YtopkeknpdimimaaDiskOrder
import Derived.Test.YtopkeknpdimimaaDiskFiles
import Derived.Test.YtopkeknpdimimaaDiskDrop
set_option linter.unusedSimpArgs false
set_option linter.unusedVariables false
namespace Go.Proofs.Ytopkeknpdimimaa
open Go.RowKit Go.Maps
set_option maxRecDepth 100000
namespace Disk
variable {m : Safe} {fs ps : List Pc}

def Rises (fs : List Pc) : Prop := fs.Pairwise fun a b => a.1 < b.1
def lookR (fs : List Pc) (f : Int) : Option ByteArray := if hit fs f = true then some (safeR fs f) else none

theorem cnt_lt {a : Pc} {f : Int} (h : a.1 < f) : cnt (a :: fs) f = cnt fs f + 1 := by simp [cnt, h]
theorem cnt_ge {a : Pc} {f : Int} (h : ¬ a.1 < f) : cnt (a :: fs) f = 0 := by simp [cnt, h]
theorem hit_lt {a : Pc} {f : Int} (h : a.1 < f) : hit (a :: fs) f = hit fs f := by simp [hit, cnt_lt h]
theorem hit_ge {a : Pc} {f : Int} (h : ¬ a.1 < f) : hit (a :: fs) f = (a.1 == f) := by simp [hit, cnt_ge h]
theorem hit_nil (f : Int) : hit [] f = false := rfl
theorem safe_lt {a : Pc} {f : Int} (h : a.1 < f) : safeR (a :: fs) f = safeR fs f := by simp [safeR, hit_lt h, cnt_lt h]
theorem safe_eq {a : Pc} : safeR (a :: fs) a.1 = a.2 := by simp [safeR, hit_ge (a := a) (f := a.1) (fs := fs) (by omega), cnt_ge (a := a) (f := a.1) (fs := fs) (by omega)]
theorem lookR_nil (f : Int) : lookR [] f = none := rfl
theorem lookR_lt {a : Pc} {f : Int} (h : a.1 < f) : lookR (a :: fs) f = lookR fs f := by simp [lookR, hit_lt h, safe_lt h]
theorem lookR_eq {a : Pc} {f : Int} (h : a.1 = f) : lookR (a :: fs) f = some a.2 := by
  subst h
  have := hit_ge (a := a) (f := a.1) (fs := fs) (by omega)
  simp [lookR, this, safe_eq]
theorem lookR_gt {a : Pc} {f : Int} (h : f < a.1) : lookR (a :: fs) f = none := by
  have := hit_ge (a := a) (f := f) (fs := fs) (by omega)
  rw [lookR, this, if_neg]
  simp
  omega
theorem lookR_get (fs : List Pc) (f : Int) : (lookR fs f).getD ⟨#[]⟩ = safeR fs f := by
  unfold lookR
  split
  · rfl
  · unfold safeR
    rw [if_neg (by assumption)]
    rfl
theorem layR_nil (p : Pc) : layR [] p = [p] := rfl
theorem layR_lt {a p : Pc} (h : a.1 < p.1) : layR (a :: fs) p = a :: layR fs p := by
  unfold layR
  rw [hit_lt h, cnt_lt h, safe_lt h]
  split <;> simp
theorem layR_eq {a p : Pc} (h : a.1 = p.1) : layR (a :: fs) p = (p.1, a.2 ++ p.2) :: fs := by
  unfold layR
  have hn : ¬ a.1 < p.1 := by omega
  have e : safeR (a :: fs) p.1 = a.2 := by rw [← h]; exact safe_eq
  rw [hit_ge hn, cnt_ge hn, e, if_pos (by simp [h])]
  rfl
theorem layR_gt {a p : Pc} (h : p.1 < a.1) : layR (a :: fs) p = p :: a :: fs := by
  unfold layR
  have hn : ¬ a.1 < p.1 := by omega
  rw [hit_ge hn, cnt_ge hn, if_neg (by simp; omega)]
  rfl

theorem emp_append (s : ByteArray) : (⟨#[]⟩ : ByteArray) ++ s = s := ByteArray.ext (by simp [ByteArray.data_append])
theorem lookR_none {f : Int} (h : ∀ a ∈ fs, f < a.1) : lookR fs f = none := by
  cases fs with
  | nil => rfl
  | cons a fs => exact lookR_gt (h a (by simp))
theorem lookR_lay : ∀ (fs : List Pc) (p : Pc) (q : Int), Rises fs → lookR (layR fs p) q = if q = p.1 then some ((lookR fs p.1).getD ⟨#[]⟩ ++ p.2) else lookR fs q
  | [], p, q, _ => by
    rw [layR_nil]
    rcases Int.lt_trichotomy p.1 q with h | h | h
    · rw [lookR_lt h, if_neg (by omega)]
    · rw [lookR_eq h, if_pos h.symm]
      simp [lookR_nil, emp_append]
    · rw [lookR_gt h, if_neg (by omega)]
      rfl
  | a :: fs, p, q, hr => by
    have hr' := (List.pairwise_cons.1 hr)
    rcases Int.lt_trichotomy a.1 p.1 with h | h | h
    · rw [layR_lt h, lookR_lt h]
      rcases Int.lt_trichotomy a.1 q with k | k | k
      · rw [lookR_lt k, lookR_lt k]
        exact lookR_lay fs p q hr'.2
      · rw [lookR_eq k, lookR_eq k, if_neg (by omega)]
      · rw [lookR_gt k, lookR_gt k, if_neg (by omega)]
    · rw [layR_eq h, lookR_eq h]
      rcases Int.lt_trichotomy a.1 q with k | k | k
      · rw [lookR_lt (by show p.1 < q; omega), lookR_lt k, if_neg (by omega)]
      · rw [lookR_eq (by show p.1 = q; omega), if_pos (by omega)]
        rfl
      · rw [lookR_gt (by show q < p.1; omega), lookR_gt k, if_neg (by omega)]
    · rw [layR_gt h, lookR_gt h]
      rcases Int.lt_trichotomy p.1 q with k | k | k
      · rw [lookR_lt k, if_neg (by omega)]
      · rw [lookR_eq k, if_pos k.symm]
        simp [emp_append]
      · rw [lookR_gt k, if_neg (by omega), lookR_gt (by omega)]
theorem layR_mem {p : Pc} {B : Int} : ∀ {fs : List Pc}, (∀ a ∈ fs, B < a.1) → B < p.1 → ∀ a ∈ layR fs p, B < a.1
  | [], _, hp, a, ha => by
    rw [layR_nil] at ha
    simp at ha
    subst ha
    exact hp
  | b :: fs, h, hp, a, ha => by
    rcases Int.lt_trichotomy b.1 p.1 with k | k | k
    · rw [layR_lt k] at ha
      rcases List.mem_cons.1 ha with rfl | ha
      · exact h _ (by simp)
      · exact layR_mem (fun a ha => h a (by simp [ha])) hp a ha
    · rw [layR_eq k] at ha
      rcases List.mem_cons.1 ha with rfl | ha
      · exact hp
      · exact h _ (by simp [ha])
    · rw [layR_gt k] at ha
      rcases List.mem_cons.1 ha with rfl | ha
      · exact hp
      · exact h _ ha
theorem layR_rises {p : Pc} : ∀ {fs : List Pc}, Rises fs → Rises (layR fs p)
  | [], _ => by rw [layR_nil]; exact List.pairwise_singleton _ _
  | a :: fs, h => by
    have h' := List.pairwise_cons.1 h
    rcases Int.lt_trichotomy a.1 p.1 with k | k | k
    · rw [layR_lt k]
      exact List.pairwise_cons.2 ⟨layR_mem h'.1 k, layR_rises h'.2⟩
    · rw [layR_eq k]
      exact List.pairwise_cons.2 ⟨fun b hb => by have := h'.1 b hb; show p.1 < b.1; omega, h'.2⟩
    · rw [layR_gt k]
      refine List.pairwise_cons.2 ⟨fun b hb => ?_, h⟩
      rcases List.mem_cons.1 hb with rfl | hb
      · exact k
      · have := h'.1 b hb; omega

/-- The program's files and the document's are the same. -/
structure Like (m : Safe) (fs : List Pc) : Prop where
  rises : Rises fs
  look : ∀ f, m f = lookR fs f
theorem Like.nil : Like (fun _ => none) [] := ⟨List.Pairwise.nil, fun _ => rfl⟩
theorem Like.get (h : Like m fs) (f : Int) : sget m f = safeR fs f := by rw [sget, h.look, lookR_get]
theorem Like.lay (h : Like m fs) (p : Pc) : Like (sput m p.1 (sget m p.1 ++ p.2)) (layR fs p) := by
  refine ⟨layR_rises h.rises, fun f => ?_⟩
  rw [lookR_lay fs p f h.rises, ← h.look, ← h.look]
  rfl
theorem Like.sync : ∀ {ps : List Pc} {m : Safe} {fs : List Pc}, Like m fs → Like (syncM m ps) (syncR fs ps)
  | [], _, _, h => h
  | p :: ps, _, _, h => (h.lay p).sync
/-- What a crash makes safe, in the document. -/
def crashR (fs : List Pc) (left : Nat) : List Pc → List Pc
  | [] => fs
  | p :: ps => if left < p.2.size then (if left = 0 then fs else layR fs (p.1, p.2.extract 0 left)) else crashR (layR fs p) (left - p.2.size) ps
theorem Like.crash : ∀ {ps : List Pc} {m : Safe} {fs : List Pc} {left : Nat}, Like m fs → Like (crashM m left ps) (crashR fs left ps)
  | [], _, _, _, h => h
  | p :: ps, _, _, left, h => by
    rw [crashM, crashR]
    split
    · split
      · exact h
      · exact h.lay (p.1, p.2.extract 0 left)
    · exact (h.lay p).crash
theorem Like.data (h : Like m fs) (f : Int) : dataOf m ps f = dataR fs ps f := by rw [dataOf, dataR, h.get]
theorem Like.isSome (h : Like m fs) (f : Int) : (m f).isSome = hit fs f := by
  rw [h.look, lookR]
  cases hit fs f <;> simp
theorem Like.has (h : Like m fs) (f : Int) : isFile m ps f = hasR fs ps f := by rw [isFile, hasR, h.isSome]

/-- Drop. -/
theorem lookR_mem : ∀ {fs : List Pc} {f : Int} {s : ByteArray}, Rises fs → (lookR fs f = some s ↔ (f, s) ∈ fs)
  | [], f, s, _ => by simp [lookR_nil]
  | a :: fs, f, s, h => by
    have h' := List.pairwise_cons.1 h
    have ih := lookR_mem (fs := fs) (f := f) (s := s) h'.2
    rcases Int.lt_trichotomy a.1 f with k | k | k
    · rw [lookR_lt k, ih, List.mem_cons]
      exact ⟨.inr, fun e => e.elim (fun e => by rw [← e] at k; exact absurd k (by omega)) id⟩
    · rw [lookR_eq k, List.mem_cons]
      constructor
      · intro e
        injection e with e
        exact .inl (by rw [← k, ← e])
      · rintro (e | e)
        · rw [← e]
        · have := h'.1 _ e
          exact absurd this (by show ¬ a.1 < f; omega)
    · rw [lookR_gt k, List.mem_cons]
      constructor
      · intro e; cases e
      · rintro (e | e)
        · rw [← e] at k; exact absurd k (by omega)
        · have := h'.1 _ e
          exact absurd this (by show ¬ a.1 < f; omega)
theorem Like.drop (h : Like m fs) (f : Int) : Like (mdel m f) (fs.filter fun p => !decide (p.1 = f)) := by
  have hr : Rises (fs.filter fun p => !decide (p.1 = f)) := h.rises.filter _
  refine ⟨hr, fun g => ?_⟩
  apply Option.ext
  intro s
  rw [lookR_mem hr, List.mem_filter]
  unfold mdel
  by_cases hg : g = f
  · rw [if_pos hg]
    simp [hg]
  · rw [if_neg hg, h.look, lookR_mem h.rises]
    simp [hg]

/-- Files. -/
def touchR (fs : List Pc) : List Pc → List Pc
  | [] => fs
  | p :: ps => touchR (layR fs (p.1, ⟨#[]⟩)) ps
theorem hit_lay (hr : Rises fs) (p : Pc) (q : Int) : hit (layR fs p) q = (hit fs q || decide (p.1 = q)) := by
  have h1 : ∀ (l : List Pc) (q : Int), (lookR l q).isSome = hit l q := fun l q => by
    unfold lookR
    cases hit l q <;> simp
  rw [← h1, ← h1, lookR_lay fs p q hr]
  by_cases e : q = p.1
  · simp [e]
  · rw [if_neg e]
    simp
    exact fun e' => absurd e'.symm e
theorem touch_all : ∀ {ps fs : List Pc}, Rises fs → Rises (touchR fs ps) ∧ ∀ q, hit (touchR fs ps) q = hasR fs ps q
  | [], fs, h => ⟨h, fun q => by simp [touchR, hasR]⟩
  | p :: ps, fs, h => by
    obtain ⟨a, b⟩ := touch_all (ps := ps) (layR_rises (p := (p.1, ⟨#[]⟩)) h)
    refine ⟨a, fun q => ?_⟩
    rw [touchR, b, hasR, hasR, hit_lay h]
    simp [Bool.or_assoc]
theorem hit_mem (h : Rises fs) (f : Int) : hit fs f = true ↔ f ∈ fs.map Prod.fst := by
  have h1 : (lookR fs f).isSome = hit fs f := by
    unfold lookR
    cases hit fs f <;> simp
  rw [← h1, Option.isSome_iff_exists]
  constructor
  · rintro ⟨s, e⟩
    exact List.mem_map.2 ⟨_, (lookR_mem h).1 e, rfl⟩
  · intro e
    obtain ⟨p, hp, rfl⟩ := List.mem_map.1 e
    exact ⟨p.2, (lookR_mem h).2 hp⟩
theorem rises_same {a b : List Int} (ha : a.Pairwise (· < ·)) (hb : b.Pairwise (· < ·)) (h : ∀ x, x ∈ a ↔ x ∈ b) : a = b := by
  have na : a.Nodup := ha.imp (fun h => by omega)
  have nb : b.Nodup := hb.imp (fun h => by omega)
  have hp : a.Perm b := (List.perm_ext_iff_of_nodup na nb).2 h
  exact hp.eq_of_pairwise (fun x y _ _ h1 h2 => by omega) ha hb
theorem Like.files {fl : List Int} (h : Like m fs) (hf : FilesAre m ps fl) (hi : ∀ p ∈ fs, I64 p.1) (hp : ∀ p ∈ ps, I64 p.1) : fl = (touchR fs ps).map Prod.fst := by
  obtain ⟨a, b⟩ := touch_all (ps := ps) h.rises
  refine rises_same hf.rises (List.pairwise_map.2 a) fun x => ?_
  rw [← hit_mem a, b, ← h.has, hf.mem]
  refine ⟨fun h => h.2, fun hx => ⟨?_, hx⟩⟩
  rw [h.has, hasR, Bool.or_eq_true] at hx
  rcases hx with hx | hx
  · obtain ⟨p, hp', rfl⟩ := List.mem_map.1 ((hit_mem h.rises x).1 hx)
    exact hi p hp'
  · obtain ⟨p, hp', e⟩ := List.any_eq_true.1 hx
    rw [← of_decide_eq_true e]
    exact hp p hp'
end Disk
end Go.Proofs.Ytopkeknpdimimaa
