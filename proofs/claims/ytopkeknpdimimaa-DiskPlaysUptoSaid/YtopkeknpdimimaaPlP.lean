/- The two disks side by side: plain. -/
import Derived.Test.YtopkeknpdimimaaDiskDrop2
import Derived.Test.YtopkeknpdimimaaDiskSafe0
set_option linter.unusedSimpArgs false
set_option linter.unusedVariables false
namespace Go.Proofs.Ytopkeknpdimimaa
open Go.RowKit Go.Maps
set_option maxRecDepth 100000
namespace Disk
variable {F G : Nat → Prop} {w : World} {g x n : Nat} {m : Safe} {fs ps : List Pc} {ser boot : Int} {i S : Nat}

structure Mo (i S n : Nat) (m : Safe) (fs ps : List Pc) (ser boot : Int) : Prop where
  like : Like m fs
  cn : n + ps.length ≤ i
  cf : fs.length + ps.length ≤ i
  sz : ∀ k, (sget m k).size + total ps ≤ S
  km : ∀ k, (m k).isSome = true → 1 ≤ k ∧ k ≤ 1073741824
  kp : ∀ p ∈ ps, 1 ≤ p.1 ∧ p.1 ≤ 1073741824
  s0 : 0 ≤ ser
  s1 : ser ≤ 1073741824
  b0 : 0 ≤ boot
  b1 : boot ≤ 1073741824

theorem Mo.zero : Mo 0 0 0 (fun _ => none) [] [] 1 1 :=
  ⟨Like.nil, by simp, by simp, fun k => Nat.zero_le _, fun k h => (by cases h), fun p hp => (by simp at hp), by decide, by decide, by decide, by decide⟩
theorem Mo.up (h : Mo i S n m fs ps ser boot) (z : Nat) : Mo (i + 1) (S + z) n m fs ps ser boot :=
  ⟨h.like, by have := h.cn; omega, by have := h.cf; omega, fun k => by have := h.sz k; omega, h.km, h.kp, h.s0, h.s1, h.b0, h.b1⟩
theorem Mo.write (h : Mo i S n m fs ps ser boot) (f : Int) (s : ByteArray) (hf : 1 ≤ f) (hf2 : f ≤ 1073741824) : Mo (i + 1) (S + s.size) n m fs (ps ++ [(f, s)]) ser boot :=
  ⟨h.like, by have := h.cn; simp; omega, by have := h.cf; simp; omega, fun k => by have := h.sz k; rw [total_snoc]; show _ + (_ + s.size) ≤ _; omega, h.km,
    fun p hp => by rcases List.mem_append.1 hp with hp | hp; exact h.kp p hp; simp at hp; subst hp; exact ⟨hf, hf2⟩, h.s0, h.s1, h.b0, h.b1⟩
theorem syncR_len : ∀ (ps fs : List Pc), (syncR fs ps).length ≤ fs.length + ps.length
  | [], fs => by simp [syncR]
  | p :: ps, fs => by
    have := syncR_len ps (layR fs p)
    have := layR_len fs p
    rw [syncR, List.length_cons]
    omega
theorem crashR_len : ∀ (ps fs : List Pc) (left : Nat), (crashR fs left ps).length ≤ fs.length + ps.length
  | [], fs, _ => by simp [crashR]
  | p :: ps, fs, left => by
    rw [crashR, List.length_cons]
    split
    · split
      · omega
      · have := layR_len fs (p.1, p.2.extract 0 left)
        omega
    · have := crashR_len ps (layR fs p) (left - p.2.size)
      have := layR_len fs p
      omega
theorem crash_some (f : Int) : ∀ (ps : List Pc) (m : Safe) (left : Nat), (crashM m left ps f).isSome = true → (m f).isSome = true ∨ ∃ p ∈ ps, p.1 = f
  | [], m, _, h => .inl h
  | p :: ps, m, left, h => by
    have hput : ∀ s, (sput m p.1 s f).isSome = true → (m f).isSome = true ∨ ∃ q ∈ p :: ps, q.1 = f := by
      intro s hs
      unfold sput at hs
      split at hs
      · exact .inr ⟨p, by simp, by omega⟩
      · exact .inl hs
    rw [crashM] at h
    split at h
    · split at h
      · exact .inl h
      · exact hput _ h
    · rcases crash_some f ps _ _ h with h | ⟨q, hq, e⟩
      · exact hput _ h
      · exact .inr ⟨q, by simp [hq], e⟩
theorem Mo.sync (h : Mo i S n m fs ps ser boot) : Mo i S (n + ps.length) (syncM m ps) (syncR fs ps) [] ser boot := by
  refine ⟨h.like.sync, by have := h.cn; simpa using this, by have := h.cf; have := syncR_len ps fs; simp; omega, fun k => ?_, fun k hk => ?_, fun p hp => by simp at hp, h.s0, h.s1, h.b0, h.b1⟩
  · have e := congrArg List.length (sync_data k ps m)
    have := h.sz k
    have := ofFile_len k ps
    rw [List.length_append] at e
    have e1 : (sget (syncM m ps) k).size = (sget (syncM m ps) k).data.toList.length := by simp
    have e2 : (sget m k).size = (sget m k).data.toList.length := by simp
    simp only [total, List.map_nil, List.sum_nil]
    unfold total at *
    omega
  · rcases sync_some k ps m hk with h' | ⟨p, hp, e⟩
    · exact h.km k h'
    · rw [← e]
      exact h.kp p hp
theorem Mo.crash (h : Mo i S n m fs ps ser boot) (left : Nat) : Mo i S (n + ps.length) (crashM m left ps) (crashR fs left ps) [] ser (min (boot + 1) 1073741824) := by
  refine ⟨h.like.crash, by have := h.cn; simpa using this, by have := h.cf; have := crashR_len ps fs left; simp; omega, fun k => ?_, fun k hk => ?_, fun p hp => by simp at hp, h.s0, h.s1, by have := h.b0; omega, by omega⟩
  · have e := congrArg List.length (crash_cuts k ps m left)
    have := h.sz k
    have := ofFile_len k (cuts left ps)
    have := total_cuts_le ps left
    rw [List.length_append] at e
    have e1 : (sget (crashM m left ps) k).size = (sget (crashM m left ps) k).data.toList.length := by simp
    have e2 : (sget m k).size = (sget m k).data.toList.length := by simp
    simp only [total, List.map_nil, List.sum_nil]
    unfold total at *
    omega
  · rcases crash_some k ps m left hk with h' | ⟨p, hp, e⟩
    · exact h.km k h'
    · rw [← e]
      exact h.kp p hp
theorem without_len (f : Int) (l : List Pc) : (without f l).length ≤ l.length := List.length_filter_le _ _
theorem without_total (f : Int) : ∀ l : List Pc, total (without f l) ≤ total l
  | [] => Nat.le_refl _
  | p :: l => by
    have := without_total f l
    unfold without at *
    rw [List.filter_cons]
    split
    · rw [total_cons, total_cons]; omega
    · rw [total_cons]; omega
theorem Mo.drop (h : Mo i S n m fs ps ser boot) (f : Int) : Mo i S n (mdel m f) (without f fs) (without f ps) ser boot := by
  refine ⟨h.like.drop f, by have := h.cn; have := without_len f ps; omega, by have := h.cf; have := without_len f ps; have := without_len f fs; omega, fun k => ?_, fun k hk => ?_, fun p hp => h.kp p (List.mem_filter.1 hp).1, h.s0, h.s1, h.b0, h.b1⟩
  · have := h.sz k
    have := without_total f ps
    have : (sget (mdel m f) k).size ≤ (sget m k).size := by
      unfold sget mdel
      split
      · exact Nat.zero_le _
      · exact Nat.le_refl _
    omega
  · unfold mdel at hk
    split at hk
    · cases hk
    · exact h.km k hk
theorem Mo.erase (h : Mo i S n m fs ps ser boot) : Mo i S 0 (fun _ => none) [] [] (min (ser + 1) 1073741824) (min (boot + 1) 1073741824) :=
  ⟨Like.nil, by simp, by simp, fun k => Nat.zero_le _, fun k h => (by cases h), fun p hp => (by simp at hp), by have := h.s0; omega, by omega, by have := h.b0; omega, by omega⟩
theorem Mo.sizes (h : Mo i S n m fs ps ser boot) : ∀ p ∈ fs, p.2.size + total ps ≤ S := by
  intro p hp
  have h1 := (lookR_mem h.like.rises).2 (show (p.1, p.2) ∈ fs from hp)
  have h2 := h.sz p.1
  rw [sget, h.like.look, h1] at h2
  exact h2
theorem Mo.keys (h : Mo i S n m fs ps ser boot) : ∀ p ∈ fs, 1 ≤ p.1 ∧ p.1 ≤ 1073741824 := by
  intro p hp
  have h1 := (lookR_mem h.like.rises).2 (show (p.1, p.2) ∈ fs from hp)
  exact h.km p.1 (by rw [h.like.look, h1]; rfl)
theorem i64_num {k : Int} (h : 1 ≤ k ∧ k ≤ 1073741824) : I64 k := i64_small (by omega) (by omega)
theorem Mo.nothing (h : Mo i S n m fs ps ser boot) {f : Int} (hf : f < 1) : dataOf m ps f = ⟨#[]⟩ := by
  have h1 : sget m f = ⟨#[]⟩ := by
    unfold sget
    cases e : m f with
    | none => rfl
    | some s => have := (h.km f (by rw [e]; rfl)).1; omega
  have h2 : ofFile f ps = [] := by
    unfold ofFile
    rw [List.flatMap_eq_nil_iff]
    intro p hp
    have := (h.kp p hp).1
    rw [if_neg (by omega)]
  rw [dataOf, h1, h2]
  rfl

/-- The two disks, in one world. -/
def PlAt (w : World) (B g x i S : Nat) : Prop :=
  ∃ F G n m fs ps ser boot, DiskAt w g F n m ps ser boot ∧ RefD w x G fs ps ser boot ∧ Sep F G ∧ (∀ k, F k → B ≤ k) ∧ (∀ k, G k → B ≤ k) ∧ Mo i S n m fs ps ser boot
theorem pl_mk {B : Nat} {F1 G2 : Nat → Prop} {w1 w2 : World} (hs : Sep F G) (hF : ∀ k, F k → B ≤ k) (hG : ∀ k, G k → B ≤ k) (hB : B ≤ w.heap.size) (hGl : ∀ k, G k → k < w.heap.size)
    (h1 : DiskAt w1 g F1 n m ps ser boot) (g1 : Grows w F F1) (k1 : Kept F w w1) (h2 : RefD w2 x G2 fs ps ser boot) (g2 : Grows w1 G G2) (k2 : Kept G w1 w2) (hm : Mo i S n m fs ps ser boot) : PlAt w2 B g x i S ∧ Below B w w2 := by
  have hz := k1.size
  have hs1 : Sep F1 G := hs.grow g1 hGl
  refine ⟨⟨F1, G2, n, m, fs, ps, ser, boot, h1.kept k2 hs1, h2, (hs1.symm.grow g2 h1.lt).symm, g1.above hF hB, g2.above hG (by omega), hm⟩, ?_⟩
  exact (k1.below hB hF).trans (k2.below (by omega) hG)
end Disk
end Go.Proofs.Ytopkeknpdimimaa
