
/- A region that draws its order, inside a round: where no operation is a defer statement it is walked as outside of the round. -/
import Derived.Test.YthgdkhgpboaplaaFrP
import Derived.RegionIn
set_option linter.unusedSimpArgs false
set_option linter.unusedVariables false
namespace Go.Proofs.Ythgdkhgpboaplaa
set_option maxRecDepth 100000
namespace Fr
theorem wpOpIn_inRound {F : Fence} {n : Nat} {P : Program} {ops : Array Oper} {Q : Exit → Act → World → Prop} {i l : Nat} {K : Act → World → Prop} {a : Act} {w : World} (hro : F.round = none) (hd : ∀ (j : Nat) (o : Oper), ops[j]? = some o → ∀ c, o.op ≠ .defer c)
    (h : wpOpIn F n P ops Q i K a w) : wpOpIn (F.inRound l) n P ops Q i K a w := by
  unfold wpOpIn at *
  cases ho : ops[i]? with
  | none => simpa only [ho] using h
  | some o =>
    simp only [ho] at h ⊢
    split
    · rename_i hw
      simp only [hw, if_true] at h
      unfold Oper.wpIn at *
      refine ⟨h.1, ?_⟩
      have h2 := h.2
      rw [hro, Oper.semAt_none] at h2
      show o.uponIn (F.inRound l) n P a K Q ((o.semAt (some l) a.eval).run P w)
      rw [Oper.semAt_some l _ _ (hd i o ho)]
      exact h2
    · rename_i hw
      simp only [hw] at h
      exact h
theorem wpAnyIn_inRound {F : Fence} {n : Nat} {P : Program} {md : Region.Mode} {ops : Array Oper} {Q : Exit → Act → World → Prop} {l : Nat} (hro : F.round = none) (hd : ∀ (j : Nat) (o : Oper), ops[j]? = some o → ∀ c, o.op ≠ .defer c) :
    ∀ (fuel : Nat) (listed : Array Bool) (a : Act) (w : World), wpAnyIn F n P md ops Q fuel listed a w → wpAnyIn (F.inRound l) n P md ops Q fuel listed a w := by
  intro fuel
  induction fuel with
  | zero => intro listed a w h; exact h
  | succ fuel ih =>
    intro listed a w h
    exact ⟨h.1, fun i hi => wpOpIn_inRound hro hd (wpOpIn_mono (fun a w => ih _ a w) (h.2 i hi))⟩
/-- The region of a round by the walk outside of it. -/
theorem wpIn_region_round {F : Fence} {n : Nat} {P : Program} {ops : List Oper} {Q : Exit → Act → World → Prop} {l id : Nat} {a : Act} {w : World} (hro : F.round = none) (hm : P.follows .mixedOrders = true) (hd : ∀ o ∈ ops, ∀ c, o.op ≠ .defer c)
    (h : wpAnyIn F n P .any ops.toArray Q ops.toArray.size (Array.replicate ops.toArray.size false) a w.drew) : (Code.region id ops.toArray true).wpIn (F.inRound l) n P Q a w :=
  wpIn_region_any hm (wpAnyIn_inRound hro (fun j o ho => hd o (by
    have := Array.mem_of_getElem? ho
    simpa using this)) _ _ _ _ h)
end Fr
end Go.Proofs.Ythgdkhgpboaplaa
