
/- Batches of operations in plain words: what is wrong with one, its bytes, the batch of bytes. -/
import Derived.Test.YthgdkhgpboaplaaVarPlain
set_option linter.unusedSimpArgs false
set_option linter.unusedVariables false
namespace Go.Proofs.Ythgdkhgpboaplaa
namespace Ops
open Vn
abbrev bl (s : ByteArray) : List UInt8 := s.data.toList
def ofL (l : List UInt8) : ByteArray := ⟨l.toArray⟩
structure OpR where
  key : ByteArray
  val : ByteArray
  del : Bool
deriving DecidableEq
def cell (o : OpR) : List Value := [.string o.key, .string o.val, .bool o.del]
def cells (l : List OpR) : List Value := l.flatMap cell
structure Batch where
  cl : Int
  req : Int
  ops : List OpR
def emp : ByteArray := ⟨#[]⟩
theorem size_bl (s : ByteArray) : (bl s).length = s.size := Array.length_toList
theorem ofL_bl (s : ByteArray) : ofL (bl s) = s := by simp [ofL, bl]
theorem bl_ofL (l : List UInt8) : bl (ofL l) = l := by simp [ofL, bl]
theorem bl_inj {s t : ByteArray} (h : bl s = bl t) : s = t := by rw [← ofL_bl s, ← ofL_bl t, h]
theorem cells_length (l : List OpR) : (cells l).length = l.length * 3 := by
  induction l with
  | nil => rfl
  | cons a l ih => simp [cells, cell] at ih ⊢; omega

def one (o : OpR) (ahead : ByteArray) (first : Bool) : Int :=
  if o.key.size < 1 ∨ 8 < o.key.size then 10 else if 8 < o.val.size then 3 else if o.del = true ∧ o.val.size ≠ 0 then 4
  else if first = false ∧ Op.bytesLess ahead.toList o.key.toList = false then 18 else 0
def chkL : List OpR → ByteArray → Bool → Int
  | [], _, _ => 0
  | o :: l, a, f => if one o a f ≠ 0 then one o a f else chkL l o.key false
def chk (b : Batch) : Int :=
  if b.cl < 0 ∨ 3 ≤ b.cl then 1 else if b.req < 1 ∨ 1073741824 < b.req then 5 else if 4 < b.ops.length then 6 else chkL b.ops emp true
def putT (s : ByteArray) : List UInt8 := put s.size ++ bl s
def putF (b : Bool) : List UInt8 := [if b then 1 else 0]
def putO (o : OpR) : List UInt8 := putT o.key ++ putF o.del ++ putT o.val
def putB (b : Batch) : List UInt8 := put b.cl.toNat ++ put b.req.toNat ++ put b.ops.length ++ b.ops.flatMap putO
/-- The first i+1 operations behind the first i. -/
theorem flat_succ {α β : Type} (f : α → List β) (l : List α) (i : Nat) (h : i < l.length) : (l.take (i + 1)).flatMap f = (l.take i).flatMap f ++ f l[i] := by
  rw [List.take_add_one, List.getElem?_eq_getElem h, List.flatMap_append]
  simp
theorem chkL_ok {l : List OpR} {a : ByteArray} {f : Bool} (h : chkL l a f = 0) : ∀ o ∈ l, 1 ≤ o.key.size ∧ o.key.size ≤ 8 ∧ o.val.size ≤ 8 ∧ (o.del = true → o.val.size = 0) := by
  induction l generalizing a f with
  | nil => intro o ho; cases ho
  | cons x l ih =>
    unfold chkL at h
    split at h
    · rename_i h1
      exact absurd h h1
    · rename_i h1
      have h2 : one x a f = 0 := Classical.byContradiction h1
      have hx : 1 ≤ x.key.size ∧ x.key.size ≤ 8 ∧ x.val.size ≤ 8 ∧ (x.del = true → x.val.size = 0) := by
        unfold one at h2
        split at h2
        · cases h2
        · rename_i g1
          split at h2
          · cases h2
          · rename_i g2
            split at h2
            · cases h2
            · rename_i g3
              refine ⟨by omega, by omega, by omega, fun hd => ?_⟩
              exact Classical.byContradiction fun hv => g3 ⟨hd, hv⟩
      intro o ho
      rcases List.mem_cons.1 ho with rfl | ho
      · exact hx
      · exact ih h o ho
theorem chk_ok {b : Batch} (h : chk b = 0) : 0 ≤ b.cl ∧ b.cl < 3 ∧ 1 ≤ b.req ∧ b.req ≤ 1073741824 ∧ b.ops.length ≤ 4 ∧ chkL b.ops emp true = 0 := by
  unfold chk at h
  split at h
  · cases h
  · split at h
    · cases h
    · split at h
      · cases h
      · rename_i h1 h2 h3
        exact ⟨by omega, by omega, by omega, by omega, by omega, h⟩
/-- The check from place i on. -/
theorem chkL_at (l : List OpR) (i : Nat) (h : i < l.length) (a : ByteArray) (f : Bool) : chkL (l.drop i) a f = if one l[i] a f ≠ 0 then one l[i] a f else chkL (l.drop (i + 1)) l[i].key false := by
  rw [List.drop_eq_getElem_cons h, chkL]
theorem putO_len {o : OpR} (h1 : o.key.size ≤ 8) (h2 : o.val.size ≤ 8) : (putO o).length ≤ 19 := by
  have e1 : (put o.key.size).length = 1 := by rw [put_small (by omega)]; rfl
  have e2 : (put o.val.size).length = 1 := by rw [put_small (by omega)]; rfl
  simp only [putO, putT, putF, List.length_append, e1, e2, size_bl, List.length_cons, List.length_nil]
  omega
theorem flat_len (l : List OpR) (h : ∀ o ∈ l, (putO o).length ≤ 19) : (l.flatMap putO).length ≤ l.length * 19 := by
  induction l with
  | nil => simp
  | cons a l ih =>
    have h1 := h a (by simp)
    have h2 := ih fun o ho => h o (by simp [ho])
    simp only [List.flatMap_cons, List.length_append, List.length_cons]
    omega
def sameO (l m : List OpR) : Bool := decide (l = m)
end Ops
end Go.Proofs.Ythgdkhgpboaplaa
