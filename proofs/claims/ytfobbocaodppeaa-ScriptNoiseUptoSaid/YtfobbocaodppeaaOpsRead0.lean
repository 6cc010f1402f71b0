
/- The reader in plain words: a place and the first error; the batch of bytes; there and back. -/
import Derived.Test.YtfobbocaodppeaaOpsPlain
set_option linter.unusedSimpArgs false
set_option linter.unusedVariables false
namespace Go.Proofs.Ytfobbocaodppeaa
namespace Ops
open Vn
abbrev RS := Nat × Int
def rBig (s : ByteArray) (r : RS) : Nat × RS :=
  if r.2 ≠ 0 then (0, r) else match Vn.get (bl s) r.1 with
    | .ok (n, j) => (n, (j, 0))
    | .error c => (0, (r.1, (c : Int)))
def rNum (s : ByteArray) (most : Nat) (r : RS) : Nat × RS :=
  if (rBig s r).2.2 = 0 ∧ most < (rBig s r).1 then (0, ((rBig s r).2.1, 5)) else rBig s r
def rText (s : ByteArray) (most : Nat) (r : RS) : ByteArray × RS :=
  if (rBig s r).2.2 ≠ 0 then (emp, (rBig s r).2)
  else if most < (rBig s r).1 then (emp, ((rBig s r).2.1, 3))
  else if s.size - (rBig s r).2.1 < (rBig s r).1 then (emp, ((rBig s r).2.1, 2))
  else (s.extract (rBig s r).2.1 ((rBig s r).2.1 + (rBig s r).1), ((rBig s r).2.1 + (rBig s r).1, 0))
def rFlag (s : ByteArray) (r : RS) : Bool × RS :=
  if r.2 ≠ 0 then (false, r) else match (bl s)[r.1]? with
    | none => (false, (r.1, 2))
    | some b => if 1 < b.toNat then (false, (r.1, 4)) else (decide (b.toNat = 1), (r.1 + 1, 0))
def rEnd (s : ByteArray) (r : RS) : Int := if r.2 ≠ 0 then r.2 else if r.1 < s.size then 4 else 0
def rOp (s : ByteArray) (r : RS) : OpR × RS :=
  let a := rText s 8 r
  let d := rFlag s a.2
  let v := rText s 8 d.2
  (⟨a.1, v.1, d.1⟩, v.2)
def rOps (s : ByteArray) : Nat → RS → List OpR × RS
  | 0, r => ([], r)
  | k + 1, r => ((rOps s k r).1 ++ [(rOp s (rOps s k r).2).1], (rOp s (rOps s k r).2).2)
def zero : Batch := ⟨0, 0, []⟩
def ofB (s : ByteArray) : Batch × Int :=
  let c := rNum s 2 (0, 0)
  let q := rNum s 1073741824 c.2
  let n := rNum s 4 q.2
  let l := rOps s n.1 n.2
  if rEnd s l.2 ≠ 0 then (zero, rEnd s l.2) else if chk ⟨c.1, q.1, l.1⟩ ≠ 0 then (zero, chk ⟨c.1, q.1, l.1⟩) else (⟨c.1, q.1, l.1⟩, 0)

/-! ### what is put is read -/
def Rest (s : ByteArray) (i : Nat) (l : List UInt8) : Prop := ∃ pre, bl s = pre ++ l ∧ pre.length = i
theorem Rest.step {s : ByteArray} {i : Nat} {x l : List UInt8} (h : Rest s i (x ++ l)) : Rest s (i + x.length) l := by
  obtain ⟨pre, h1, h2⟩ := h
  exact ⟨pre ++ x, by rw [h1, List.append_assoc], by simp [h2]⟩
theorem Rest.le {s : ByteArray} {i : Nat} {l : List UInt8} (h : Rest s i l) : i + l.length = s.size := by
  obtain ⟨pre, h1, h2⟩ := h
  rw [← size_bl, h1]; simp [h2]
theorem rBig_at {s : ByteArray} {i n : Nat} {l : List UInt8} (h : Rest s i (put n ++ l)) (hn : n < 18446744073709551616) : rBig s (i, 0) = (n, (i + (put n).length, 0)) := by
  obtain ⟨pre, h1, h2⟩ := h
  have := get_put pre l n hn
  rw [List.append_assoc, ← h1, h2] at this
  simp [rBig, this]
theorem rNum_at {s : ByteArray} {i n most : Nat} {l : List UInt8} (h : Rest s i (put n ++ l)) (hn : n ≤ most) (hm : most < 18446744073709551616) : rNum s most (i, 0) = (n, (i + (put n).length, 0)) := by
  unfold rNum
  rw [rBig_at h (by omega)]
  rw [if_neg (by simp; omega)]
theorem extract_bl (s : ByteArray) (i j : Nat) (h : j ≤ s.size) (hij : i ≤ j) : bl (s.extract i j) = ((bl s).drop i).take (j - i) := by
  simp [bl]
theorem rText_at {s t : ByteArray} {i most : Nat} {l : List UInt8} (h : Rest s i (putT t ++ l)) (ht : t.size ≤ most) (hm : most < 18446744073709551616) : rText s most (i, 0) = (t, (i + (putT t).length, 0)) := by
  have hlen : (putT t).length = (put t.size).length + t.size := by unfold putT; rw [List.length_append, size_bl]
  have hle := h.le
  rw [List.length_append, hlen] at hle
  have hR : Rest s i (put t.size ++ (bl t ++ l)) := by unfold putT at h; rwa [List.append_assoc] at h
  have hB := rBig_at hR (by omega)
  obtain ⟨pre, h1, h2⟩ := hR.step
  unfold rText
  rw [hB]
  simp only [ne_eq, not_true_eq_false, if_false]
  rw [if_neg (by omega), if_neg (by omega), hlen]
  have e : s.extract (i + (put t.size).length) (i + (put t.size).length + t.size) = t := by
    apply bl_inj
    rw [extract_bl s _ _ (by omega) (by omega), h1, ← h2, List.drop_left, Nat.add_sub_cancel_left, ← size_bl t, List.take_left]
  rw [e, Nat.add_assoc]
theorem rFlag_at {s : ByteArray} {i : Nat} {b : Bool} {l : List UInt8} (h : Rest s i (putF b ++ l)) : rFlag s (i, 0) = (b, (i + (putF b).length, 0)) := by
  obtain ⟨pre, h1, h2⟩ := h
  have e : (bl s)[i]? = some (if b then 1 else 0) := by
    rw [h1, List.getElem?_append_right (by omega), h2]; simp [putF]
  unfold rFlag
  simp only [ne_eq, not_true_eq_false, if_false, e]
  cases b <;> simp [putF]
theorem rOp_at {s : ByteArray} {o : OpR} {i : Nat} {l : List UInt8} (h : Rest s i (putO o ++ l)) (hk : o.key.size ≤ 8) (hv : o.val.size ≤ 8) : rOp s (i, 0) = (o, (i + (putO o).length, 0)) := by
  unfold putO at h
  rw [List.append_assoc, List.append_assoc] at h
  have h1 := rText_at h hk (by decide)
  have h2 := rFlag_at h.step
  have h3 := rText_at h.step.step hv (by decide)
  unfold rOp
  simp only [h1, h2, h3]
  simp [putO, Nat.add_assoc]
theorem rOps_at {s : ByteArray} (ops : List OpR) (i : Nat) (l : List UInt8) (h : Rest s i (ops.flatMap putO ++ l)) (hok : ∀ o ∈ ops, o.key.size ≤ 8 ∧ o.val.size ≤ 8) :
    ∀ k, k ≤ ops.length → rOps s k (i, 0) = (ops.take k, (i + ((ops.take k).flatMap putO).length, 0)) := by
  intro k
  induction k with
  | zero => intro _; simp [rOps]
  | succ k ih =>
    intro hk
    have hk' : k < ops.length := by omega
    have h1 := ih (by omega)
    have hR : Rest s i ((ops.take k).flatMap putO ++ (putO ops[k] ++ ((ops.drop (k + 1)).flatMap putO ++ l))) := by
      have e : ops.flatMap putO = (ops.take k).flatMap putO ++ (putO ops[k] ++ (ops.drop (k + 1)).flatMap putO) := by
        conv => lhs; rw [← List.take_append_drop k ops]
        rw [List.flatMap_append, List.drop_eq_getElem_cons hk', List.flatMap_cons]
      rw [e] at h
      simpa [List.append_assoc] using h
    have h2 := rOp_at hR.step (hok _ (List.getElem_mem hk')).1 (hok _ (List.getElem_mem hk')).2
    rw [rOps]
    simp only [h1, h2]
    rw [flat_succ putO ops k hk', List.length_append, Nat.add_assoc, List.take_add_one, List.getElem?_eq_getElem hk']
    rfl
theorem ofB_putB (b : Batch) (h : chk b = 0) : ofB (ofL (putB b)) = (b, 0) := by
  obtain ⟨h1, h2, h3, h4, h5, h6⟩ := chk_ok h
  have hok := chkL_ok h6
  have hR : Rest (ofL (putB b)) 0 (put b.cl.toNat ++ (put b.req.toNat ++ (put b.ops.length ++ (b.ops.flatMap putO ++ [])))) := by
    refine ⟨[], ?_, rfl⟩
    rw [bl_ofL, putB]
    simp [List.append_assoc]
  have g1 := rNum_at (most := 2) hR (by omega) (by decide)
  have g2 := rNum_at (most := 1073741824) hR.step (by omega) (by decide)
  have g3 := rNum_at (most := 4) hR.step.step (by omega) (by decide)
  have g4 := rOps_at b.ops _ [] hR.step.step.step (fun o ho => ⟨(hok o ho).2.1, (hok o ho).2.2.1⟩) b.ops.length (Nat.le_refl _)
  rw [List.take_length] at g4
  have g5 := hR.step.step.step.step.le
  have ec : ((b.cl.toNat : Nat) : Int) = b.cl := Int.toNat_of_nonneg h1
  have er : ((b.req.toNat : Nat) : Int) = b.req := Int.toNat_of_nonneg (by omega)
  unfold ofB
  simp only [g1, g2, g3, g4, ec, er]
  have ge : rEnd (ofL (putB b)) (0 + (put b.cl.toNat).length + (put b.req.toNat).length + (put b.ops.length).length + (b.ops.flatMap putO).length, 0) = 0 := by
    unfold rEnd
    rw [if_neg (by simp), if_neg (by simp at g5 ⊢; omega)]
  rw [ge, if_neg (by simp)]
  have gc : chk ⟨b.cl, b.req, b.ops⟩ = 0 := h
  rw [gc, if_neg (by simp)]

/-! ### what is read is put so -/
def Done (s : ByteArray) (i : Nat) (l : List UInt8) : Prop := (bl s).take i = l ∧ i ≤ s.size
theorem rBig_back {s : ByteArray} {r : RS} {l : List UInt8} (h : Done s r.1 l) (he : (rBig s r).2.2 = 0) : r.2 = 0 ∧ Done s (rBig s r).2.1 (l ++ put (rBig s r).1) ∧ (rBig s r).1 < 18446744073709551616 := by
  by_cases h0 : r.2 = 0
  · refine ⟨h0, ?_⟩
    unfold rBig at he ⊢
    rw [if_neg (by simp [h0])] at he ⊢
    split
    · rename_i n j hg
      obtain ⟨p1, p2, p3, p4⟩ := put_get hg
      refine ⟨⟨?_, by rw [size_bl] at p2; exact p2⟩, p3⟩
      simp only
      rw [← p4, ← h.1, ← List.take_add]
      congr 1
      omega
    · rename_i c hg
      rw [hg] at he
      simp only at he
      exfalso
      have hc : c = 2 ∨ c = 4 := by
        unfold Vn.get at hg
        split at hg
        · injection hg with hg; exact .inl hg.symm
        · split at hg
          · cases hg
          · dsimp only at hg
            split at hg
            · injection hg with hg; exact .inl hg.symm
            · split at hg
              · injection hg with hg; exact .inr hg.symm
              · cases hg
      omega
  · unfold rBig at he
    rw [if_pos h0] at he
    exact absurd he h0
theorem rNum_back {s : ByteArray} {most : Nat} {r : RS} {l : List UInt8} (h : Done s r.1 l) (he : (rNum s most r).2.2 = 0) : r.2 = 0 ∧ Done s (rNum s most r).2.1 (l ++ put (rNum s most r).1) ∧ (rNum s most r).1 ≤ most := by
  unfold rNum at he ⊢
  split at he
  · simp at he
  · rename_i hc
    rw [if_neg hc]
    obtain ⟨a, b, c⟩ := rBig_back h he
    refine ⟨a, b, ?_⟩
    have : ¬ most < (rBig s r).1 := fun x => hc ⟨he, x⟩
    omega
theorem rText_back {s : ByteArray} {most : Nat} {r : RS} {l : List UInt8} (h : Done s r.1 l) (he : (rText s most r).2.2 = 0) : r.2 = 0 ∧ Done s (rText s most r).2.1 (l ++ putT (rText s most r).1) := by
  unfold rText at he ⊢
  split at he
  · rename_i h1
    exact absurd he h1
  · rename_i h1
    split at he
    · simp at he
    · split at he
      · simp at he
      · rename_i h2 h3
        rw [if_neg h1, if_neg h2, if_neg h3]
        have h1' : (rBig s r).2.2 = 0 := Classical.byContradiction h1
        obtain ⟨a, ⟨b, b2⟩, c⟩ := rBig_back h h1'
        have hsz : (s.extract (rBig s r).2.1 ((rBig s r).2.1 + (rBig s r).1)).size = (rBig s r).1 := by
          rw [ByteArray.size_extract]; omega
        refine ⟨a, ?_, by simp only; omega⟩
        simp only
        rw [putT, hsz, ← List.append_assoc, ← b, extract_bl s _ _ (by omega) (by omega), ← List.take_add]
        congr 1
        omega
theorem rFlag_back {s : ByteArray} {r : RS} {l : List UInt8} (h : Done s r.1 l) (he : (rFlag s r).2.2 = 0) : r.2 = 0 ∧ Done s (rFlag s r).2.1 (l ++ putF (rFlag s r).1) := by
  by_cases h0 : r.2 = 0
  · refine ⟨h0, ?_⟩
    unfold rFlag at he ⊢
    rw [if_neg (by simp [h0])] at he ⊢
    split
    · rename_i hg
      rw [hg] at he
      simp at he
    · rename_i b hg
      rw [hg] at he
      simp only at he
      split at he
      · simp at he
      · rename_i hb
        rw [if_neg hb]
        have hi := (List.getElem?_eq_some_iff.1 hg).1
        rw [size_bl] at hi
        refine ⟨?_, by simp only; omega⟩
        simp only
        rw [List.take_add_one, hg, ← h.1]
        congr 1
        have : b.toNat = 0 ∨ b.toNat = 1 := by omega
        rcases this with e | e
        · have eb : b = 0 := UInt8.toNat_inj.1 (by simpa using e)
          subst eb; rfl
        · have eb : b = 1 := UInt8.toNat_inj.1 (by simpa using e)
          subst eb; rfl
  · unfold rFlag at he
    rw [if_pos h0] at he
    exact absurd he h0
theorem rBig_err {s : ByteArray} {q : RS} (h : q.2 ≠ 0) : rBig s q = (0, q) := by unfold rBig; rw [if_pos h]
theorem rNum_err {s : ByteArray} {most : Nat} {q : RS} (h : q.2 ≠ 0) : rNum s most q = (0, q) := by
  unfold rNum
  rw [rBig_err h, if_neg (fun x => h x.1)]
theorem rText_err {s : ByteArray} {most : Nat} {q : RS} (h : q.2 ≠ 0) : rText s most q = (emp, q) := by
  unfold rText
  rw [rBig_err h, if_pos h]
theorem rFlag_err {s : ByteArray} {q : RS} (h : q.2 ≠ 0) : rFlag s q = (false, q) := by
  unfold rFlag
  rw [if_pos h]
theorem rOp_err {s : ByteArray} {q : RS} (h : q.2 ≠ 0) : (rOp s q).2 = q := by
  unfold rOp
  simp only [rText_err h, rFlag_err h]
theorem rOps_err {s : ByteArray} {q : RS} (h : q.2 ≠ 0) : ∀ k, (rOps s k q).2 = q := by
  intro k
  induction k with
  | zero => rfl
  | succ k ih =>
    rw [rOps]
    simp only [ih, rOp_err h]
theorem back_of {q : RS} {x : RS} (h : q.2 ≠ 0 → x = q) (hx : x.2 = 0) : q.2 = 0 := Classical.byContradiction fun e => by
  have := h e
  subst this
  exact e hx
theorem rOp_back {s : ByteArray} {r : RS} {l : List UInt8} (h : Done s r.1 l) (he : (rOp s r).2.2 = 0) : r.2 = 0 ∧ Done s (rOp s r).2.1 (l ++ putO (rOp s r).1) := by
  have h3 : (rText s 8 (rFlag s (rText s 8 r).2).2).2.2 = 0 := he
  have h2 : (rFlag s (rText s 8 r).2).2.2 = 0 := back_of (fun e => by rw [rText_err e]) h3
  have h1 : (rText s 8 r).2.2 = 0 := back_of (fun e => by rw [rFlag_err e]) h2
  obtain ⟨a, b⟩ := rText_back h h1
  obtain ⟨_, c⟩ := rFlag_back b h2
  obtain ⟨_, d⟩ := rText_back c h3
  refine ⟨a, ?_⟩
  have : rOp s r = (⟨(rText s 8 r).1, (rText s 8 (rFlag s (rText s 8 r).2).2).1, (rFlag s (rText s 8 r).2).1⟩, (rText s 8 (rFlag s (rText s 8 r).2).2).2) := rfl
  rw [this]
  simp only [putO]
  rw [List.append_assoc, List.append_assoc] at d
  rw [List.append_assoc]
  exact d
theorem rOps_back {s : ByteArray} {r : RS} {l : List UInt8} (h : Done s r.1 l) : ∀ k, (rOps s k r).2.2 = 0 → r.2 = 0 ∧ Done s (rOps s k r).2.1 (l ++ (rOps s k r).1.flatMap putO) := by
  intro k
  induction k with
  | zero => intro he; exact ⟨he, by simpa [rOps] using h⟩
  | succ k ih =>
    intro he
    rw [rOps] at he ⊢
    simp only at he ⊢
    have h1 : (rOps s k r).2.2 = 0 := back_of (fun e => rOp_err e) he
    obtain ⟨a, b⟩ := ih h1
    obtain ⟨_, c⟩ := rOp_back b he
    refine ⟨a, ?_⟩
    rw [List.flatMap_append, List.flatMap_singleton, ← List.append_assoc]
    exact c
theorem rOps_len (s : ByteArray) (r : RS) : ∀ k, (rOps s k r).1.length = k := by
  intro k
  induction k with
  | zero => rfl
  | succ k ih => rw [rOps]; simp [ih]
theorem putB_ofB (s : ByteArray) (h : (ofB s).2 = 0) : putB (ofB s).1 = bl s ∧ chk (ofB s).1 = 0 := by
  unfold ofB at h ⊢
  simp only at h ⊢
  split at h
  · rename_i h1; exact absurd h h1
  · rename_i h1
    split at h
    · rename_i h2; exact absurd h h2
    · rename_i h2
      rw [if_neg h1, if_neg h2]
      have h2' : chk ⟨(rNum s 2 (0, 0)).1, (rNum s 1073741824 (rNum s 2 (0, 0)).2).1, (rOps s (rNum s 4 (rNum s 1073741824 (rNum s 2 (0, 0)).2).2).1 (rNum s 4 (rNum s 1073741824 (rNum s 2 (0, 0)).2).2).2).1⟩ = 0 := Classical.byContradiction h2
      refine ⟨?_, h2'⟩
      have h1' : rEnd s (rOps s (rNum s 4 (rNum s 1073741824 (rNum s 2 (0, 0)).2).2).1 (rNum s 4 (rNum s 1073741824 (rNum s 2 (0, 0)).2).2).2).2 = 0 := Classical.byContradiction h1
      have he : (rOps s (rNum s 4 (rNum s 1073741824 (rNum s 2 (0, 0)).2).2).1 (rNum s 4 (rNum s 1073741824 (rNum s 2 (0, 0)).2).2).2).2.2 = 0 := by
        unfold rEnd at h1'
        split at h1'
        · rename_i x; exact absurd h1' x
        · rename_i x; exact Classical.byContradiction x
      have hz : s.size ≤ (rOps s (rNum s 4 (rNum s 1073741824 (rNum s 2 (0, 0)).2).2).1 (rNum s 4 (rNum s 1073741824 (rNum s 2 (0, 0)).2).2).2).2.1 := by
        unfold rEnd at h1'
        rw [if_neg (by simp [he])] at h1'
        split at h1'
        · cases h1'
        · omega
      have d0 : Done s 0 [] := ⟨by simp, Nat.zero_le _⟩
      have d0' : Done s ((0, 0) : RS).1 [] := d0
      have e3 : (rNum s 4 (rNum s 1073741824 (rNum s 2 (0, 0)).2).2).2.2 = 0 := back_of (fun e => rOps_err e _) he
      have e2 : (rNum s 1073741824 (rNum s 2 (0, 0)).2).2.2 = 0 := back_of (fun e => by rw [rNum_err e]) e3
      have e1 : (rNum s 2 (0, 0)).2.2 = 0 := back_of (fun e => by rw [rNum_err e]) e2
      obtain ⟨_, d1, _⟩ := rNum_back d0' e1
      obtain ⟨_, d2, _⟩ := rNum_back d1 e2
      obtain ⟨_, d3, _⟩ := rNum_back d2 e3
      obtain ⟨_, d4⟩ := rOps_back d3 _ he
      have d5 := d4.1
      rw [List.take_of_length_le (by rw [size_bl]; exact hz)] at d5
      rw [putB, d5]
      simp only [Int.toNat_natCast, rOps_len, List.nil_append]
end Ops
end Go.Proofs.Ytfobbocaodppeaa
