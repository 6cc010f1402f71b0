
/- Follows, in plain Lean; what Next makes may follow. -/
import Derived.Test.YtffnaabnbimhbaaPlanPlain
set_option linter.unusedSimpArgs false
set_option linter.unusedVariables false
namespace Go.Proofs.Ytffnaabnbimhbaa.Plan
/-- What is wrong with a head: 7, if it was not there or is not trusted. -/
def headE (l1 l2 : List Mem) (t : List Int) : Int :=
  match l2 with
  | [] => 0
  | m :: _ => if m ∈ l1 ∧ m.1 ∈ t then 0 else 7
def folE (ep1 fl1 : Int) (l1 : List Mem) (ep2 fl2 : Int) (l2 : List Mem) (t : List Int) : Int :=
  if chk ep1 l1 ≠ 0 then chk ep1 l1 else if chk ep2 l2 ≠ 0 then chk ep2 l2 else if ep2 ≠ ep1 + 1 ∨ fl2 < fl1 then 18 else headE l1 l2 t
theorem Is.follows {ep : Int} {c : List Mem} {fl : Int} {t g : List Int} {j : List Mem} {last : Int} {d : Next} (h : Is ep c fl t g j last d) (hf : fl ≤ maxTs) : folE ep fl c d.ep d.fl d.l t = 0 := by
  have h1 := h.chk
  have h2 := h.floor hf
  obtain ⟨m, r, hl, hm⟩ := h.head
  have h3 := h.trusted (m := m) (by rw [hl]; simp) hm
  unfold folE
  rw [if_neg (by rw [h.chkc]; simp), if_neg (by rw [h1]; simp), if_neg (by rw [h.epv]; omega), hl]
  unfold headE
  exact if_pos ⟨h3.1, h3.2.1⟩
end Go.Proofs.Ytffnaabnbimhbaa.Plan
