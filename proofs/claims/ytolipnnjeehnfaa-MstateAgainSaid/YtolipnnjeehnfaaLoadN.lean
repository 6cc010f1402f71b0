/- A load of a whole note, as one equation (eighteen cells, one by one, take the walk over a minute). -/
import Derived.Test.YtolipnnjeehnfaaMst4
import Derived.Test.YtolipnnjeehnfaaOpen
set_option linter.unusedSimpArgs false
set_option linter.unusedVariables false
namespace Go.Proofs.Ytolipnnjeehnfaa
open Go.RowKit
set_option maxRecDepth 100000
namespace Mst
def noteAt (w : World) (a : Addr) : Array Value := ((List.range 18).map fun j => (w.cell? (a.add j)).getD undef).toArray
/-- A note lies there. -/
def NoteIn (w : World) (a : Addr) : Prop := ∀ j, j < 18 → (w.cell? (a.add j)).isSome = true
def loadNote (a : Addr) : Sem Value := loadVar 48 a
theorem loadVar_note (a : Addr) : loadVar 48 a = loadNote a := rfl
theorem run_loadNote (w : World) (a : Addr) (h : NoteIn w a) : (loadNote a).run Try.prog w = .ok (.agg (noteAt w a)) w := by
  have hl := run_loadCells (P := Try.prog) w a 18 (fun j => (w.cell? (a.add j)).getD undef) (fun j hj => by
    obtain ⟨v, hv⟩ := Option.isSome_iff_exists.1 (h j hj)
    rw [hv]; rfl)
  have hi : (Try.prog.info? 48).map (·.size) = some 18 := by kernel_rfl
  have hagg : ∀ W, (isAgg 48).run Try.prog W = .ok true W := fun W => by
    unfold isAgg
    rw [Sem.run_bind, run_underlying Try.underlying48 W]
    rfl
  cases hq : Try.prog.info? 48 with
  | none => simp [hq] at hi
  | some i =>
    have hs : i.size = 18 := by simpa [hq] using hi
    unfold loadNote
    simp [loadVar, Sem.run_bind, hagg, sizeOf, typeInfo, hq, hs, hl, noteAt]
theorem noteIn_of {w : World} {a : Addr} {cs : List Value} (hn : cs.length = 18) (h : ∀ j u, cs[j]? = some u → w.cell? (a.add j) = some u) : NoteIn w a ∧ noteAt w a = cs.toArray := by
  refine ⟨fun j hj => ?_, ?_⟩
  · rw [h j _ (List.getElem?_eq_getElem (by omega))]; rfl
  · unfold noteAt
    congr 1
    apply List.ext_getElem?
    intro j
    rcases Nat.lt_or_ge j 18 with hj | hj
    · rw [List.getElem?_map, List.getElem?_range hj, List.getElem?_eq_getElem (by omega : j < cs.length)]
      simp [h j _ (List.getElem?_eq_getElem (by omega : j < cs.length))]
    · rw [List.getElem?_eq_none (by simpa using hj), List.getElem?_eq_none (by omega)]
theorem noteIn_has {w : World} {g : Nat} {cs : List Value} (hn : cs.length = 18) (h : Has w g 48 cs.toArray) : NoteIn w ⟨g, 0, none⟩ ∧ noteAt w ⟨g, 0, none⟩ = cs.toArray := by
  refine noteIn_of hn fun j u hu => ?_
  have e1 : ((⟨g, 0, none⟩ : Addr).add j) = ⟨g, j, none⟩ := by unfold Addr.add; split <;> simp_all
  rw [e1, h.cell]
  simpa using hu
end Mst
end Go.Proofs.Ytolipnnjeehnfaa
