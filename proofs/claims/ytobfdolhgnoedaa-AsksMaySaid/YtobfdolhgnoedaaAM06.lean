/- Part 7 of what the proof needs. -/
import Derived.Test.YtobfdolhgnoedaaAM00
import Derived.Test.YtobfdolhgnoedaaAM05
import Derived.StillTailTactics
import Derived.Shelf.Abstract
import Derived.Test.YtobfdolhgnoedaaChecked
import Derived.Shelf.Sort.Plain
import Derived.Shelf.Slices.In.SortNone
import Derived.Sort.OwnSorted
import Derived.Sort.KeysCollected
import Derived.Sort.OwnSortedInts
import Derived.Lib.AppendZerosOnto
import Derived.Lib.Walk
import Derived.Maps.OwnSet
import Derived.Maps.Views
set_option linter.unusedSimpArgs false
set_option linter.unusedVariables false
set_option maxHeartbeats 32000000
set_option maxRecDepth 100000
namespace Go.Proofs.Ytobfdolhgnoedaa
open Go.RowKit
set_option maxRecDepth 100000
namespace Plan
def NewRow (b : Nat) (w : World) (A : Option Addr) (n c : Nat) (l : List Mem) : Prop :=
 n = l.length /\ w.ownsRow 0 111 2 (.slice A n c) n (mcells l) /\ ∀ k,(Value.slice A n c).ownBlock = some k -> b <= k
theorem NewRow.nil (b : Nat) (w : World) : NewRow b w none 0 0 [] := ⟨rfl,⟨rfl,.inl ⟨rfl,rfl⟩⟩,fun k hk => by cases hk⟩
theorem NewRow.kept {b : Nat} {w w' : World} {A : Option Addr} {n c : Nat} {l : List Mem} (h : NewRow b w A n c l) (hk : Kept NoF w w') : NewRow b w' A n c l :=
 ⟨h.1,own_kept h.2.1 hk (fun _ _ x => x),h.2.2⟩
end Plan
namespace Plan
def NewInts (b : Nat) (w : World) (A : Option Addr) (n c : Nat) (l : List Int) : Prop :=
 n = l.length /\ w.ownsRow 0 3 1 (.slice A n c) n (ints l) /\ ∀ k,(Value.slice A n c).ownBlock = some k -> b <= k
theorem NewInts.nil (b : Nat) (w : World) : NewInts b w none 0 0 [] := ⟨rfl,⟨rfl,.inl ⟨rfl,rfl⟩⟩,fun k hk => by cases hk⟩
theorem NewInts.kept {b : Nat} {w w' : World} {A : Option Addr} {n c : Nat} {l : List Int} (h : NewInts b w A n c l) (hk : Kept NoF w w') : NewInts b w' A n c l :=
 ⟨h.1,own_kept h.2.1 hk (fun _ _ x => x),h.2.2⟩
theorem NewRow.mono {b b' : Nat} {w : World} {A : Option Addr} {n c : Nat} {l : List Mem} (h : NewRow b w A n c l) (hb : b' <= b) : NewRow b' w A n c l := ⟨h.1,h.2.1,fun k hk => Nat.le_trans hb (h.2.2 k hk)⟩
theorem NewRow.ne {b : Nat} {w : World} {A : Option Addr} {n c : Nat} {l : List Mem} (h : NewRow b w A n c l) {g : Nat} {t : TypeId} {cs : Array Value} (hg : Has w g t cs) (hne : 111 ≠ t) : (Value.slice A n c).ownBlock ≠ some g := own_ne h.2.1 hg hne
def nagg (N : Next) (A : Option Addr) (n c : Nat) (B : Option Addr) (m d : Nat) : Value := .tuple #[cagg N.ep A n c N.fl,.slice B m d,.int .i64 N.e]
def NextPost (w : World) (N : Next) (e : Ending) (w' : World) : Prop :=
 ∃ A n c B m d,e = .returned (nagg N A n c B m d) /\ NewRow w.heap.size w' A n c N.l /\ NewInts w.heap.size w' B m d N.t /\ Kept NoF w w'
end Plan
end Go.Proofs.Ytobfdolhgnoedaa
namespace Go.Proofs.Ytobfdolhgnoedaa
open Go.RowKit Go.Shelf
set_option maxRecDepth 100000
namespace Plan
def Tells (w : World) (g : Nat) (lb : Array Value) (l : List Mem) (p : Mem -> Bool) : Prop :=
 ∀ W m,Kept NoF w W -> m ∈ l -> Calls Try.prog g (#[magg m] ++ lb) W fun e w' => e = .returned (.bool (p m)) /\ Kept NoF W w'
theorem Tells.kept {w w' : World} {g : Nat} {lb : Array Value} {l : List Mem} {p : Mem -> Bool} (h : Tells w g lb l p) (hk : Kept NoF w w') : Tells w' g lb l p := fun W m hW hm => h W m (hk.then hW) hm
end Plan
end Go.Proofs.Ytobfdolhgnoedaa
namespace Go.Proofs.Ytobfdolhgnoedaa
open Go.RowKit Go.Shelf Go.Maps
set_option maxRecDepth 100000
namespace Plan
def I64 (k : Int) : Prop := (Lit.int .i64 k).wf = true
def SetIs (w : World) (b n : Nat) (s : Int -> Bool) : Prop :=
 ∃ D : DataW Unit,w.ownsMap Try.prog 3 (plainElem Try.prog 4) b n D /\ ∀ k,I64 k -> D.atKey (.int .i64 k) (.lit (.bool false)) = .lit (.bool (s k))
theorem SetIs.lt {w : World} {b n : Nat} {s : Int -> Bool} (h : SetIs w b n s) : b < w.heap.size := by
 obtain ⟨D,h,_⟩ := h
 exact h.lt
theorem SetIs.kept {F : Nat -> Prop} {w w' : World} {b n : Nat} {s : Int -> Bool} (h : SetIs w b n s) (hk : Kept F w w') (hf : ¬ F b) : SetIs w' b n s := by
 obtain ⟨D,ho,hD⟩ := h
 have hlt := ho.lt
 obtain ⟨es,clock,hb,hF,hs,e⟩ := ho
 exact ⟨D,⟨es,clock,(hk.block b hlt hf).trans hb,hF,hs,e⟩,hD⟩
theorem SetIs.ne {w : World} {b n g : Nat} {s : Int -> Bool} {t : TypeId} {cs : Array Value} (h : SetIs w b n s) (hg : Has w g t cs) : b ≠ g := by
 rintro rfl
 obtain ⟨D,⟨es,clock,hb,_⟩,_⟩ := h
 unfold Has at hg
 rw [hg] at hb
 cases hb
end Plan
end Go.Proofs.Ytobfdolhgnoedaa
