/- Scripts in plain words: the bytes of a step, the step of a piece, the pieces of bytes; there and back. -/
import Derived.Test.YtfobbocaodppeaaOpsRead0
set_option linter.unusedSimpArgs false
set_option linter.unusedVariables false
namespace Go.Proofs.Ytfobbocaodppeaa
namespace Scr
open Vn Ops
/-- A step: its three numbers; its ask's: kind, node, key, goal, time, number, operations. -/
structure EvC where
  k : Int
  nd : Int
  n : Int
  ak : Int
  an : Int
  key : ByteArray
  dst : ByteArray
  tm : Int
  am : Int
  ops : List OpR
deriving DecidableEq
def may (n : Int) : Bool := decide (0 ≤ n) && decide (n ≤ 1073741824)
def okE (e : EvC) : Bool := may e.k && may e.nd && may e.n && (decide (e.k ≠ 0) || (may e.ak && may e.an && may e.am))
def putA (e : EvC) : List UInt8 := put e.ak.toNat ++ (put e.an.toNat ++ (put e.am.toNat ++ (put e.tm.toNat ++ (putT e.key ++ (putT e.dst ++ (put e.ops.length ++ e.ops.flatMap putO))))))
def putE (e : EvC) : List UInt8 := put e.k.toNat ++ (put e.nd.toNat ++ (put e.n.toNat ++ (if e.k = 0 then putA e else [])))
def oneC (e : EvC) : Int := if okE e = true then (if 255 < (putE e).length then 3 else 0) else 5
def chkS : List EvC → Int
  | [] => 0
  | e :: l => if oneC e ≠ 0 then oneC e else chkS l
def byteE (e : EvC) : List UInt8 := UInt8.ofNat (putE e).length :: putE e
def putS (l : List EvC) : List UInt8 := l.flatMap byteE
def oneR (e : EvC) : ByteArray := if oneC e = 0 then ofL (putE e) else emp
def putR (l : List EvC) : ByteArray := if chkS l = 0 then ofL (putS l) else emp
def bare (k nd n : Int) : EvC := ⟨k, nd, n, 0, 0, emp, emp, 0, 0, []⟩
def clean (e : EvC) : EvC := if e.k = 0 then e else bare e.k e.nd e.n
/-- A time is 0 to 2^64 - 1. -/
def TmOk (e : EvC) : Prop := 0 ≤ e.tm ∧ e.tm ≤ 18446744073709551615

def rOpB (s : ByteArray) (r : RS) : OpR × RS :=
  let a := rText s 255 r
  let d := rFlag s a.2
  let v := rText s 255 d.2
  (⟨a.1, v.1, d.1⟩, v.2)
def rOpsB (s : ByteArray) : Nat → RS → List OpR × RS
  | 0, r => ([], r)
  | k + 1, r => ((rOpsB s k r).1 ++ [(rOpB s (rOpsB s k r).2).1], (rOpB s (rOpsB s k r).2).2)
def askR (s : ByteArray) (k nd n : Int) (r : RS) : EvC × RS :=
  let a := rNum s 1073741824 r
  let b := rNum s 1073741824 a.2
  let c := rNum s 1073741824 b.2
  let d := rBig s c.2
  let e := rText s 255 d.2
  let f := rText s 255 e.2
  let g := rNum s 255 f.2
  let l := rOpsB s g.1 g.2
  (⟨k, nd, n, a.1, b.1, e.1, f.1, d.1, c.1, l.1⟩, l.2)
def readR (s : ByteArray) : EvC × RS :=
  let a := rNum s 1073741824 (0, 0)
  let b := rNum s 1073741824 a.2
  let c := rNum s 1073741824 b.2
  if c.2.2 = 0 ∧ a.1 = 0 then askR s a.1 b.1 c.1 c.2 else (bare a.1 b.1 c.1, c.2)
def readE (s : ByteArray) : Option EvC := if rEnd s (readR s).2 = 0 then some (readR s).1 else none
/-- The pieces of bytes. -/
def pcs : List UInt8 → List (List UInt8)
  | [] => []
  | b :: l => if b.toNat ≤ l.length then l.take b.toNat :: pcs (l.drop b.toNat) else []
termination_by l => l.length
decreasing_by simp [List.length_drop]; omega
def ofS (l : List UInt8) : List EvC := (pcs l).filterMap fun p => readE (ofL p)

/-! ### reading operations -/
theorem rOpB_at {s : ByteArray} {o : OpR} {i : Nat} {l : List UInt8} (h : Ops.Rest s i (putO o ++ l)) (hk : o.key.size ≤ 255) (hv : o.val.size ≤ 255) : rOpB s (i, 0) = (o, (i + (putO o).length, 0)) := by
  unfold putO at h
  rw [List.append_assoc, List.append_assoc] at h
  have h1 := rText_at h hk (by decide)
  have h2 := rFlag_at h.step
  have h3 := rText_at h.step.step hv (by decide)
  unfold rOpB
  simp only [h1, h2, h3]
  simp [putO, Nat.add_assoc]
theorem rOpsB_at {s : ByteArray} (ops : List OpR) (i : Nat) (l : List UInt8) (h : Ops.Rest s i (ops.flatMap putO ++ l)) (hok : ∀ o ∈ ops, o.key.size ≤ 255 ∧ o.val.size ≤ 255) :
    ∀ k, k ≤ ops.length → rOpsB s k (i, 0) = (ops.take k, (i + ((ops.take k).flatMap putO).length, 0)) := by
  intro k
  induction k with
  | zero => intro _; simp [rOpsB]
  | succ k ih =>
    intro hk
    have hk' : k < ops.length := by omega
    have h1 := ih (by omega)
    have hR : Ops.Rest s i ((ops.take k).flatMap putO ++ (putO ops[k] ++ ((ops.drop (k + 1)).flatMap putO ++ l))) := by
      have e : ops.flatMap putO = (ops.take k).flatMap putO ++ (putO ops[k] ++ (ops.drop (k + 1)).flatMap putO) := by
        conv => lhs; rw [← List.take_append_drop k ops]
        rw [List.flatMap_append, List.drop_eq_getElem_cons hk', List.flatMap_cons]
      rw [e] at h
      simpa [List.append_assoc] using h
    have h2 := rOpB_at hR.step (hok _ (List.getElem_mem hk')).1 (hok _ (List.getElem_mem hk')).2
    rw [rOpsB]
    simp only [h1, h2]
    rw [flat_succ putO ops k hk', List.length_append, Nat.add_assoc, List.take_add_one, List.getElem?_eq_getElem hk']
    rfl
theorem rOpB_err {s : ByteArray} {q : RS} (h : q.2 ≠ 0) : (rOpB s q).2 = q := by
  unfold rOpB
  simp only [rText_err h, rFlag_err h]
theorem rOpsB_err {s : ByteArray} {q : RS} (h : q.2 ≠ 0) : ∀ k, (rOpsB s k q).2 = q := by
  intro k
  induction k with
  | zero => rfl
  | succ k ih =>
    rw [rOpsB]
    simp only [ih, rOpB_err h]
/-- Once an error has come, it stays. -/
theorem rOpsB_stays {s : ByteArray} {r : RS} {i : Nat} (h : (rOpsB s i r).2.2 ≠ 0) : ∀ k, (rOpsB s (i + k) r).2 = (rOpsB s i r).2 := by
  intro k
  induction k with
  | zero => rfl
  | succ k ih =>
    rw [← Nat.add_assoc, rOpsB]
    simp only [ih]
    exact rOpB_err h
theorem rOpB_back {s : ByteArray} {r : RS} {l : List UInt8} (h : Done s r.1 l) (he : (rOpB s r).2.2 = 0) : r.2 = 0 ∧ Done s (rOpB s r).2.1 (l ++ putO (rOpB s r).1) := by
  have h3 : (rText s 255 (rFlag s (rText s 255 r).2).2).2.2 = 0 := he
  have h2 : (rFlag s (rText s 255 r).2).2.2 = 0 := back_of (fun e => by rw [rText_err e]) h3
  have h1 : (rText s 255 r).2.2 = 0 := back_of (fun e => by rw [rFlag_err e]) h2
  obtain ⟨a, b⟩ := rText_back h h1
  obtain ⟨_, c⟩ := rFlag_back b h2
  obtain ⟨_, d⟩ := rText_back c h3
  refine ⟨a, ?_⟩
  have : rOpB s r = (⟨(rText s 255 r).1, (rText s 255 (rFlag s (rText s 255 r).2).2).1, (rFlag s (rText s 255 r).2).1⟩, (rText s 255 (rFlag s (rText s 255 r).2).2).2) := rfl
  rw [this]
  simp only [putO]
  rw [List.append_assoc, List.append_assoc] at d
  rw [List.append_assoc]
  exact d
theorem rOpsB_back {s : ByteArray} {r : RS} {l : List UInt8} (h : Done s r.1 l) : ∀ k, (rOpsB s k r).2.2 = 0 → r.2 = 0 ∧ Done s (rOpsB s k r).2.1 (l ++ (rOpsB s k r).1.flatMap putO) := by
  intro k
  induction k with
  | zero => intro he; exact ⟨he, by simpa [rOpsB] using h⟩
  | succ k ih =>
    intro he
    rw [rOpsB] at he ⊢
    simp only at he ⊢
    have h1 : (rOpsB s k r).2.2 = 0 := back_of (fun e => rOpB_err e) he
    obtain ⟨a, b⟩ := ih h1
    obtain ⟨_, c⟩ := rOpB_back b he
    refine ⟨a, ?_⟩
    rw [List.flatMap_append, List.flatMap_singleton, ← List.append_assoc]
    exact c
theorem rOpsB_len (s : ByteArray) (r : RS) : ∀ k, (rOpsB s k r).1.length = k := by
  intro k
  induction k with
  | zero => rfl
  | succ k ih => rw [rOpsB]; simp [ih]

/-! ### what is put is read -/
theorem may_ok {n : Int} (h : may n = true) : 0 ≤ n ∧ n ≤ 1073741824 := by
  unfold may at h
  simpa using h
theorem okE_parts {e : EvC} (h : okE e = true) : (0 ≤ e.k ∧ e.k ≤ 1073741824) ∧ (0 ≤ e.nd ∧ e.nd ≤ 1073741824) ∧ (0 ≤ e.n ∧ e.n ≤ 1073741824) ∧ (e.k = 0 → (0 ≤ e.ak ∧ e.ak ≤ 1073741824) ∧ (0 ≤ e.an ∧ e.an ≤ 1073741824) ∧ (0 ≤ e.am ∧ e.am ≤ 1073741824)) := by
  unfold okE at h
  simp only [Bool.and_eq_true, Bool.or_eq_true, decide_eq_true_eq] at h
  obtain ⟨⟨⟨h1, h2⟩, h3⟩, h4⟩ := h
  refine ⟨may_ok h1, may_ok h2, may_ok h3, fun hz => ?_⟩
  rcases h4 with h4 | ⟨⟨a, b⟩, c⟩
  · exact absurd hz h4
  · exact ⟨may_ok a, may_ok b, may_ok c⟩
theorem oneC_ok {e : EvC} (h : oneC e = 0) : okE e = true ∧ (putE e).length ≤ 255 := by
  unfold oneC at h
  split at h
  · rename_i h1
    split at h
    · cases h
    · exact ⟨h1, by omega⟩
  · cases h
theorem oneC_mk {e : EvC} (h1 : okE e = true) (h2 : (putE e).length ≤ 255) : oneC e = 0 := by
  unfold oneC
  rw [if_pos h1, if_neg (by omega)]
theorem putT_len (s : ByteArray) : s.size ≤ (putT s).length := by
  unfold putT
  rw [List.length_append, size_bl]
  omega
theorem putO_ge (o : OpR) : o.key.size ≤ (putO o).length ∧ o.val.size ≤ (putO o).length ∧ 1 ≤ (putO o).length := by
  have h1 := putT_len o.key
  have h2 := putT_len o.val
  unfold putO
  simp only [List.length_append]
  have : (putF o.del).length = 1 := rfl
  omega
theorem flat_ge (l : List OpR) : l.length ≤ (l.flatMap putO).length ∧ ∀ o ∈ l, (putO o).length ≤ (l.flatMap putO).length := by
  induction l with
  | nil => exact ⟨Nat.le_refl _, fun o h => by cases h⟩
  | cons a l ih =>
    have h1 := (putO_ge a).2.2
    rw [List.flatMap_cons, List.length_append]
    refine ⟨by simp only [List.length_cons]; omega, fun o ho => ?_⟩
    rcases List.mem_cons.1 ho with rfl | ho
    · omega
    · have := ih.2 o ho; omega
theorem putA_ge (e : EvC) : e.key.size ≤ (putA e).length ∧ e.dst.size ≤ (putA e).length ∧ e.ops.length ≤ (putA e).length ∧ ∀ o ∈ e.ops, o.key.size ≤ (putA e).length ∧ o.val.size ≤ (putA e).length := by
  have h1 := putT_len e.key
  have h2 := putT_len e.dst
  obtain ⟨h3, h4⟩ := flat_ge e.ops
  unfold putA
  simp only [List.length_append]
  refine ⟨by omega, by omega, by omega, fun o ho => ?_⟩
  have h5 := putO_ge o
  have h6 := h4 o ho
  omega
theorem rEnd_all {s : ByteArray} {i : Nat} (h : i = s.size) : rEnd s (i, 0) = 0 := by
  unfold rEnd
  rw [if_neg (by simp), if_neg (by simp; omega)]
theorem readE_putE (e : EvC) (h : oneC e = 0) (ht : TmOk e) : readE (ofL (putE e)) = some (clean e) := by
  obtain ⟨ho, hl⟩ := oneC_ok h
  obtain ⟨hk, hn, hm, hz⟩ := okE_parts ho
  obtain ⟨k, nd, n, ak, an, key, dst, tm, am, ops⟩ := e
  dsimp only at hk hn hm hz
  obtain ⟨k', rfl⟩ : ∃ k' : Nat, k = k' := ⟨k.toNat, by omega⟩
  obtain ⟨nd', rfl⟩ : ∃ k' : Nat, nd = k' := ⟨nd.toNat, by omega⟩
  obtain ⟨n', rfl⟩ : ∃ k' : Nat, n = k' := ⟨n.toNat, by omega⟩
  by_cases h0 : (k' : Int) = 0
  · obtain ⟨ha, hb, hc⟩ := hz h0
    obtain rfl : k' = 0 := by omega
    obtain ⟨ak', rfl⟩ : ∃ k' : Nat, ak = k' := ⟨ak.toNat, by omega⟩
    obtain ⟨an', rfl⟩ : ∃ k' : Nat, an = k' := ⟨an.toNat, by omega⟩
    obtain ⟨am', rfl⟩ : ∃ k' : Nat, am = k' := ⟨am.toNat, by omega⟩
    obtain ⟨tm', rfl⟩ : ∃ k' : Nat, tm = k' := ⟨tm.toNat, by have := ht.1; simp at this; omega⟩
    have htm : tm' < 18446744073709551616 := by have := ht.2; simp at this; omega
    obtain ⟨S, hS⟩ : ∃ S, S = putE ⟨(0 : Nat), nd', n', ak', an', key, dst, tm', am', ops⟩ := ⟨_, rfl⟩
    have hS2 : S = put 0 ++ (put nd' ++ (put n' ++ (put ak' ++ (put an' ++ (put am' ++ (put tm' ++ (putT key ++ (putT dst ++ (put ops.length ++ (ops.flatMap putO ++ [])))))))))) := by
      rw [hS]; simp [putE, putA]
    rw [← hS] at hl ⊢
    have hA : (putA ⟨(0 : Nat), nd', n', ak', an', key, dst, tm', am', ops⟩).length ≤ 255 := by
      rw [hS] at hl
      unfold putE at hl
      simp only [List.length_append] at hl
      rw [if_pos h0] at hl
      omega
    obtain ⟨g1, g2, g3, g4⟩ := putA_ge ⟨(0 : Nat), nd', n', ak', an', key, dst, tm', am', ops⟩
    dsimp only at g1 g2 g3 g4
    have hR : Ops.Rest (ofL S) 0 (put 0 ++ (put nd' ++ (put n' ++ (put ak' ++ (put an' ++ (put am' ++ (put tm' ++ (putT key ++ (putT dst ++ (put ops.length ++ (ops.flatMap putO ++ []))))))))))) := ⟨[], by rw [bl_ofL, hS2]; rfl, rfl⟩
    have q1 := rNum_at (most := 1073741824) hR (by omega) (by decide)
    have q2 := rNum_at (most := 1073741824) hR.step (by omega) (by decide)
    have q3 := rNum_at (most := 1073741824) hR.step.step (by omega) (by decide)
    have q4 := rNum_at (most := 1073741824) hR.step.step.step (by omega) (by decide)
    have q5 := rNum_at (most := 1073741824) hR.step.step.step.step (by omega) (by decide)
    have q6 := rNum_at (most := 1073741824) hR.step.step.step.step.step (by omega) (by decide)
    have q7 := rBig_at hR.step.step.step.step.step.step htm
    have q8 := rText_at (most := 255) hR.step.step.step.step.step.step.step (by omega) (by decide)
    have q9 := rText_at (most := 255) hR.step.step.step.step.step.step.step.step (by omega) (by decide)
    have q10 := rNum_at (most := 255) hR.step.step.step.step.step.step.step.step.step (by omega) (by decide)
    have q11 := rOpsB_at ops _ [] hR.step.step.step.step.step.step.step.step.step.step (fun o ho => by have := g4 o ho; omega) ops.length (Nat.le_refl _)
    have q12 := hR.step.step.step.step.step.step.step.step.step.step.step.le
    rw [List.take_length] at q11
    unfold readE readR askR
    simp only [q1, q2, q3, q4, q5, q6, q7, q8, q9, q10, q11, and_self, if_true]
    rw [rEnd_all (by simpa using q12), if_pos rfl]
    unfold clean
    exact (congrArg some (if_pos (rfl : ((0 : Nat) : Int) = 0))).symm
  · obtain ⟨S, hS⟩ : ∃ S, S = putE ⟨k', nd', n', ak, an, key, dst, tm, am, ops⟩ := ⟨_, rfl⟩
    have hS2 : S = put k' ++ (put nd' ++ (put n' ++ [])) := by
      rw [hS]; unfold putE; rw [if_neg h0]; simp
    rw [← hS] at hl ⊢
    have hR : Ops.Rest (ofL S) 0 (put k' ++ (put nd' ++ (put n' ++ []))) := ⟨[], by rw [bl_ofL, hS2]; rfl, rfl⟩
    have q1 := rNum_at (most := 1073741824) hR (by omega) (by decide)
    have q2 := rNum_at (most := 1073741824) hR.step (by omega) (by decide)
    have q3 := rNum_at (most := 1073741824) hR.step.step (by omega) (by decide)
    have q12 := hR.step.step.step.le
    have hne : ¬ k' = 0 := by omega
    unfold readE readR
    simp only [q1, q2, q3, hne, and_false, if_false]
    rw [rEnd_all (by simpa using q12), if_pos rfl]
    unfold clean
    rw [if_neg h0]
/-! ### what is read is put -/
theorem rEnd_ok {s : ByteArray} {r : RS} (h : rEnd s r = 0) : r.2 = 0 ∧ s.size ≤ r.1 := by
  unfold rEnd at h
  split at h
  · rename_i x; exact absurd h x
  · rename_i x
    split at h
    · cases h
    · exact ⟨Classical.byContradiction x, by omega⟩
theorem may_nat {n : Nat} (h : n ≤ 1073741824) : may (n : Int) = true := by unfold may; simp; omega
theorem readE_back {s : ByteArray} {e : EvC} (h : readE s = some e) : putE e = bl s ∧ okE e = true ∧ clean e = e ∧ TmOk e := by
  unfold readE at h
  split at h
  rotate_left
  · cases h
  rename_i hend
  injection h with h
  obtain ⟨he, hz⟩ := rEnd_ok hend
  have d0 : Done s ((0, 0) : RS).1 [] := ⟨by simp, Nat.zero_le _⟩
  unfold readR at h he hz
  obtain ⟨a, ha⟩ : ∃ a, rNum s 1073741824 (0, 0) = a := ⟨_, rfl⟩
  rw [ha] at h he hz
  obtain ⟨b, hb⟩ : ∃ b, rNum s 1073741824 a.2 = b := ⟨_, rfl⟩
  simp only [hb] at h he hz
  obtain ⟨c, hc⟩ : ∃ c, rNum s 1073741824 b.2 = c := ⟨_, rfl⟩
  simp only [hc] at h he hz
  by_cases hk : c.2.2 = 0 ∧ a.1 = 0
  · rw [if_pos hk] at h he hz
    unfold askR at h he hz
    obtain ⟨x1, hx1⟩ : ∃ x, rNum s 1073741824 c.2 = x := ⟨_, rfl⟩
    simp only [hx1] at h he hz
    obtain ⟨x2, hx2⟩ : ∃ x, rNum s 1073741824 x1.2 = x := ⟨_, rfl⟩
    simp only [hx2] at h he hz
    obtain ⟨x3, hx3⟩ : ∃ x, rNum s 1073741824 x2.2 = x := ⟨_, rfl⟩
    simp only [hx3] at h he hz
    obtain ⟨x4, hx4⟩ : ∃ x, rBig s x3.2 = x := ⟨_, rfl⟩
    simp only [hx4] at h he hz
    obtain ⟨x5, hx5⟩ : ∃ x, rText s 255 x4.2 = x := ⟨_, rfl⟩
    simp only [hx5] at h he hz
    obtain ⟨x6, hx6⟩ : ∃ x, rText s 255 x5.2 = x := ⟨_, rfl⟩
    simp only [hx6] at h he hz
    obtain ⟨x7, hx7⟩ : ∃ x, rNum s 255 x6.2 = x := ⟨_, rfl⟩
    simp only [hx7] at h he hz
    have e7 : x7.2.2 = 0 := back_of (fun e => rOpsB_err e _) he
    have e6 : x6.2.2 = 0 := back_of (fun e => by rw [← hx7, rNum_err e]) e7
    have e5 : x5.2.2 = 0 := back_of (fun e => by rw [← hx6, rText_err e]) e6
    have e4 : x4.2.2 = 0 := back_of (fun e => by rw [← hx5, rText_err e]) e5
    have e3 : x3.2.2 = 0 := back_of (fun e => by rw [← hx4, rBig_err e]) e4
    have e2 : x2.2.2 = 0 := back_of (fun e => by rw [← hx3, rNum_err e]) e3
    have e1 : x1.2.2 = 0 := back_of (fun e => by rw [← hx2, rNum_err e]) e2
    have eb : b.2.2 = 0 := back_of (fun e => by rw [← hc, rNum_err e]) hk.1
    have ea : a.2.2 = 0 := back_of (fun e => by rw [← hb, rNum_err e]) eb
    obtain ⟨_, d1, m1⟩ := rNum_back d0 (by rw [ha]; exact ea)
    rw [ha] at d1 m1
    obtain ⟨_, d2, m2⟩ := rNum_back d1 (by rw [hb]; exact eb)
    rw [hb] at d2 m2
    obtain ⟨_, d3, m3⟩ := rNum_back d2 (by rw [hc]; exact hk.1)
    rw [hc] at d3 m3
    obtain ⟨_, d4, m4⟩ := rNum_back d3 (by rw [hx1]; exact e1)
    rw [hx1] at d4 m4
    obtain ⟨_, d5, m5⟩ := rNum_back d4 (by rw [hx2]; exact e2)
    rw [hx2] at d5 m5
    obtain ⟨_, d6, m6⟩ := rNum_back d5 (by rw [hx3]; exact e3)
    rw [hx3] at d6 m6
    obtain ⟨_, d7, m7⟩ := rBig_back d6 (by rw [hx4]; exact e4)
    rw [hx4] at d7 m7
    obtain ⟨_, d8⟩ := rText_back d7 (by rw [hx5]; exact e5)
    rw [hx5] at d8
    obtain ⟨_, d9⟩ := rText_back d8 (by rw [hx6]; exact e6)
    rw [hx6] at d9
    obtain ⟨_, d10, m10⟩ := rNum_back d9 (by rw [hx7]; exact e7)
    rw [hx7] at d10 m10
    obtain ⟨_, d11⟩ := rOpsB_back d10 x7.1 he
    have d12 := d11.1
    rw [List.take_of_length_le (by rw [size_bl]; exact hz)] at d12
    have ka : a.1 = 0 := hk.2
    subst h
    refine ⟨?_, ?_, ?_, ?_⟩
    · rw [d12]
      unfold putE putA
      simp only [ka, Int.toNat_natCast, rOpsB_len, List.nil_append, List.append_assoc]
      simp
    · unfold okE
      simp [ka, may_nat m2, may_nat m3, may_nat m4, may_nat m5, may_nat m6]
      decide
    · unfold clean
      rw [if_pos (by simp [ka])]
    · refine ⟨?_, ?_⟩
      · show (0 : Int) ≤ (x4.1 : Int); omega
      · show (x4.1 : Int) ≤ _; omega
  · rw [if_neg hk] at h he hz
    have eb : b.2.2 = 0 := back_of (fun e => by rw [← hc, rNum_err e]) he
    have ea : a.2.2 = 0 := back_of (fun e => by rw [← hb, rNum_err e]) eb
    have ka : a.1 ≠ 0 := fun x => hk ⟨he, x⟩
    obtain ⟨_, d1, m1⟩ := rNum_back d0 (by rw [ha]; exact ea)
    rw [ha] at d1 m1
    obtain ⟨_, d2, m2⟩ := rNum_back d1 (by rw [hb]; exact eb)
    rw [hb] at d2 m2
    obtain ⟨_, d3, m3⟩ := rNum_back d2 (by rw [hc]; exact he)
    rw [hc] at d3 m3
    have d12 := d3.1
    rw [List.take_of_length_le (by rw [size_bl]; exact hz)] at d12
    subst h
    refine ⟨?_, ?_, ?_, ⟨Int.le_refl 0, (by decide : (0 : Int) ≤ 18446744073709551615)⟩⟩
    · rw [d12]
      unfold putE bare
      simp only [Int.toNat_natCast]
      rw [if_neg (by omega)]
      simp
    · unfold okE bare
      simp [ka, may_nat m1, may_nat m2, may_nat m3]
    · unfold clean bare
      rw [if_neg (by simpa using ka)]
/-! ### pieces -/
theorem pcs_nil : pcs [] = [] := by unfold pcs; rfl
theorem pcs_cons (b : UInt8) (l : List UInt8) : pcs (b :: l) = if b.toNat ≤ l.length then l.take b.toNat :: pcs (l.drop b.toNat) else [] := by
  rw [pcs]
theorem pcs_piece (p r : List UInt8) (b : UInt8) (h : b.toNat = p.length) : pcs (b :: (p ++ r)) = p :: pcs r := by
  rw [pcs_cons, if_pos (by rw [List.length_append]; omega), h]
  simp
theorem ofNat_len {n : Nat} (h : n ≤ 255) : (UInt8.ofNat n).toNat = n := by
  rw [UInt8.toNat_ofNat']
  exact Nat.mod_eq_of_lt (by omega)
theorem pcs_byteE (e : EvC) (r : List UInt8) (h : oneC e = 0) : pcs (byteE e ++ r) = putE e :: pcs r := by
  unfold byteE
  rw [List.cons_append]
  exact pcs_piece _ _ _ (ofNat_len (oneC_ok h).2)
theorem chkS_ok {l : List EvC} (h : chkS l = 0) : ∀ e ∈ l, oneC e = 0 := by
  induction l with
  | nil => intro e he; cases he
  | cons a l ih =>
    rw [chkS] at h
    split at h
    · rename_i h1; exact absurd h h1
    · rename_i h1
      intro e he
      rcases List.mem_cons.1 he with rfl | he
      · exact Classical.byContradiction h1
      · exact ih h e he
theorem chkS_mk {l : List EvC} (h : ∀ e ∈ l, oneC e = 0) : chkS l = 0 := by
  induction l with
  | nil => rfl
  | cons a l ih =>
    rw [chkS, if_neg (by simp [h a (by simp)])]
    exact ih fun e he => h e (by simp [he])
theorem chkS_at (l : List EvC) (i : Nat) (h : i < l.length) : chkS (l.drop i) = if oneC l[i] ≠ 0 then oneC l[i] else chkS (l.drop (i + 1)) := by
  rw [List.drop_eq_getElem_cons h, chkS]
theorem pcs_putS (l : List EvC) (r : List UInt8) (h : ∀ e ∈ l, oneC e = 0) : pcs (putS l ++ r) = l.map putE ++ pcs r := by
  induction l with
  | nil => rfl
  | cons a l ih =>
    unfold putS
    rw [List.flatMap_cons, List.append_assoc, pcs_byteE a _ (h a (by simp))]
    simp only [List.map_cons, List.cons_append]
    congr 1
    exact ih fun e he => h e (by simp [he])
theorem ofS_putS (l : List EvC) (r : List UInt8) (h : ∀ e ∈ l, oneC e = 0) (ht : ∀ e ∈ l, TmOk e) : ofS (putS l ++ r) = l.map clean ++ ofS r := by
  unfold ofS
  rw [pcs_putS l r h, List.filterMap_append, List.filterMap_map]
  congr 1
  induction l with
  | nil => rfl
  | cons a l ih =>
    rw [List.filterMap_cons, List.map_cons]
    simp only [Function.comp, readE_putE a (h a (by simp)) (ht a (by simp))]
    rw [← ih (fun e he => h e (by simp [he])) (fun e he => ht e (by simp [he]))]
theorem pcs_len : ∀ (n : Nat) (l : List UInt8), l.length ≤ n → ∀ p ∈ pcs l, p.length ≤ 255 := by
  intro n
  induction n with
  | zero =>
    intro l hl p hp
    obtain rfl : l = [] := List.eq_nil_of_length_eq_zero (by omega)
    rw [pcs_nil] at hp; cases hp
  | succ n ih =>
    intro l hl p hp
    cases l with
    | nil => rw [pcs_nil] at hp; cases hp
    | cons b l =>
      rw [pcs_cons] at hp
      split at hp
      · rename_i hb
        rcases List.mem_cons.1 hp with rfl | hp
        · rw [List.length_take]
          have := b.toNat_lt
          omega
        · refine ih _ ?_ p hp
          rw [List.length_drop]
          simp at hl
          omega
      · cases hp
theorem ofS_ok (l : List UInt8) : ∀ e ∈ ofS l, oneC e = 0 ∧ TmOk e ∧ clean e = e := by
  intro e he
  unfold ofS at he
  rw [List.mem_filterMap] at he
  obtain ⟨p, hp, hr⟩ := he
  obtain ⟨h1, h2, h3, h4⟩ := readE_back hr
  have := pcs_len l.length l (Nat.le_refl _) p hp
  refine ⟨oneC_mk h2 ?_, h4, h3⟩
  rw [h1, bl_ofL]
  exact this
theorem map_clean {l : List EvC} (h : ∀ e ∈ l, clean e = e) : l.map clean = l := by
  induction l with
  | nil => rfl
  | cons a l ih => rw [List.map_cons, h a (by simp), ih fun e he => h e (by simp [he])]
/-- What is read is put so that it is read as it was. -/
theorem ofS_back (l : List UInt8) : chkS (ofS l) = 0 ∧ ofS (putS (ofS l)) = ofS l := by
  have h := ofS_ok l
  refine ⟨chkS_mk fun e he => (h e he).1, ?_⟩
  have h2 := ofS_putS (ofS l) [] (fun e he => (h e he).1) (fun e he => (h e he).2.1)
  rw [List.append_nil, map_clean fun e he => (h e he).2.2] at h2
  rw [h2]
  simp [ofS, pcs_nil]
theorem ofS_piece (p r : List UInt8) (b : UInt8) (h : b.toNat = p.length) : ofS (b :: (p ++ r)) = (readE (ofL p)).toList ++ ofS r := by
  unfold ofS
  rw [pcs_piece p r b h, List.filterMap_cons]
  cases readE (ofL p) <;> rfl
end Scr
end Go.Proofs.Ytfobbocaodppeaa
