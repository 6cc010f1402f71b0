/- Part 6 of what the proof needs. -/
import Derived.Test.YtobfdolhgnoedaaAG00
import Derived.Test.YtobfdolhgnoedaaAG01
import Derived.Test.YtobfdolhgnoedaaAG04
import Derived.Lib.Strings
import Derived.StillTailTactics
import Derived.Shelf.Abstract
import Derived.Test.YtobfdolhgnoedaaChecked
import Derived.Shelf.Sort.Plain
import Derived.Shelf.Slices.In.SortNone
import Derived.Sort.OwnSorted
import Derived.Sort.KeysCollected
import Derived.Sort.OwnSortedInts
import Derived.Lib.AppendZerosOnto
import Derived.Lib.Walk
import Derived.Maps.OwnSet
import Derived.Maps.Views
import Derived.Test.YtobfdolhgnoedaaRows
import Derived.ProofKit
import Derived.OpenShut
import Derived.Lib.SmallJoins
set_option linter.unusedSimpArgs false
set_option linter.unusedVariables false
set_option maxHeartbeats 32000000
set_option maxRecDepth 100000
namespace Go.Proofs.Ytobfdolhgnoedaa.Keys
theorem less_total (x y : List UInt8) (h : Op.bytesLess x y = false) (hne : x ≠ y) : Op.bytesLess y x = true := by
 induction x generalizing y with
 | nil => cases y with
  | nil => exact absurd rfl hne
  | cons b y => simp [Op.bytesLess] at h
 | cons a x ih => cases y with
  | nil => rfl
  | cons b y =>
   simp only [Op.bytesLess,Bool.or_eq_false_iff,Bool.and_eq_false_iff,decide_eq_false_iff_not,beq_eq_false_iff_ne] at h
   simp only [Op.bytesLess,Bool.or_eq_true,Bool.and_eq_true,decide_eq_true_eq,beq_iff_eq]
   obtain ⟨h1,h2⟩ := h
   by_cases e : a = b
   ·subst e
    rcases h2 with h2 | h2
    ·exact absurd rfl h2
    ·exact .inr ⟨rfl,ih y h2 (fun e => hne (by rw [e]))⟩
   ·rw [UInt8.lt_iff_toNat_lt] at *
    have : a.toNat ≠ b.toNat := fun k => e (UInt8.toNat_inj.1 k)
    exact .inl (by omega)
theorem less_asymm (x y : List UInt8) (h : Op.bytesLess x y = true) : Op.bytesLess y x = false := by
 induction x generalizing y with
 | nil => cases y <;> rfl
 | cons a x ih => cases y with
  | nil => simp [Op.bytesLess] at h
  | cons b y =>
   simp only [Op.bytesLess,Bool.or_eq_true,Bool.and_eq_true,decide_eq_true_eq,beq_iff_eq] at h
   rcases h with h | ⟨rfl,h⟩
   ·rw [UInt8.lt_iff_toNat_lt] at h
    have hne : (b == a) = false := by
     rw [beq_eq_false_iff_ne]
     intro e;subst e;omega
    simp only [Op.bytesLess,hne,Bool.false_and,Bool.or_false,decide_eq_false_iff_not,UInt8.lt_iff_toNat_lt]
    omega
   ·simp [Op.bytesLess,ih y h]
def nextAt (l : List UInt8) : Nat -> List UInt8
 | 0 => []
 | k + 1 => if l.getD k 0 < 255 then l.take k ++ [l.getD k 0 + 1] else nextAt l k
def nextL (l : List UInt8) : List UInt8 := if l.length < 8 then l ++ [0] else nextAt l 8
def nx : List UInt8 -> Nat -> List UInt8
 | _,0 => []
 | [],_ + 1 => []
 | a :: l,k + 1 => if nx l k = [] then (if a < 255 then [a + 1] else []) else a :: nx l k
theorem nextAt_cons (a : UInt8) (l : List UInt8) (k : Nat) :
  nextAt (a :: l) (k + 1) = if nextAt l k = [] then (if a < 255 then [a + 1] else []) else a :: nextAt l k := by
 induction k with
 | zero => simp [nextAt]
 | succ k ih =>
  rw [nextAt,ih]
  have e : (a :: l).getD (k + 1) 0 = l.getD k 0 := by simp
  rw [e]
  by_cases h : l.getD k 0 < 255
  ·rw [if_pos h]
   have e2 : nextAt l (k + 1) = l.take k ++ [l.getD k 0 + 1] := by rw [nextAt,if_pos h]
   rw [e2]
   simp
  ·rw [if_neg h]
   have e2 : nextAt l (k + 1) = nextAt l k := by rw [nextAt,if_neg h]
   rw [e2]
theorem nextAt_eq (k : Nat) : ∀ l : List UInt8,k <= l.length -> nextAt l k = nx l k := by
 induction k with
 | zero => intro l _;cases l <;> rfl
 | succ k ih =>
  intro l h
  cases l with
  | nil => simp at h
  | cons a l => rw [nextAt_cons,nx,ih l (by simpa using h)]
theorem nx_len (k : Nat) : ∀ l : List UInt8,(nx l k).length <= k := by
 induction k with
 | zero => intro l;cases l <;> simp [nx]
 | succ k ih =>
  intro l
  cases l with
  | nil => simp [nx]
  | cons a l =>
   have := ih l
   rw [nx]
   split
   ·split <;> simp
   ·simp;omega
theorem nx_gt (k : Nat) : ∀ l : List UInt8,nx l k ≠ [] -> Op.bytesLess l (nx l k) = true := by
 induction k with
 | zero => intro l h;cases l <;> exact absurd rfl h
 | succ k ih =>
  intro l h
  cases l with
  | nil => exact absurd rfl h
  | cons a l =>
   rw [nx] at h ⊢
   split at h
   ·rename_i h0
    rw [if_pos h0]
    split at h
    ·rename_i h1
     rw [if_pos h1]
     have : a < a + 1 := by
      rw [UInt8.lt_iff_toNat_lt] at h1 ⊢
      have e255 : (255 : UInt8).toNat = 255 := rfl
      rw [UInt8.toNat_add]
      have e1 : (1 : UInt8).toNat = 1 := rfl
      omega
     simp [Op.bytesLess,this]
    ·exact absurd rfl h
   ·rename_i h0
    rw [if_neg h0]
    simp [Op.bytesLess,ih l h0]
theorem nx_least (k : Nat) : ∀ (l x : List UInt8),x.length <= k -> k <= l.length -> Op.bytesLess l x = true -> nx l k ≠ [] /\ Op.bytesLess x (nx l k) = false := by
 induction k with
 | zero =>
  intro l x hx _ h
  obtain rfl : x = [] := List.eq_nil_of_length_eq_zero (by omega)
  cases l <;> simp [Op.bytesLess] at h
 | succ k ih =>
  intro l x hx hl h
  cases l with
  | nil => simp at hl
  | cons a l =>
   cases x with
   | nil => simp [Op.bytesLess] at h
   | cons b x =>
    simp only [Op.bytesLess,Bool.or_eq_true,Bool.and_eq_true,decide_eq_true_eq,beq_iff_eq] at h
    have e255 : (255 : UInt8).toNat = 255 := rfl
    have e1 : (1 : UInt8).toNat = 1 := rfl
    rcases h with h | ⟨rfl,h⟩
    ·have hb := UInt8.toNat_lt b
     rw [UInt8.lt_iff_toNat_lt] at h
     rw [nx]
     by_cases h0 : nx l k = []
     ·rw [if_pos h0,if_pos (by rw [UInt8.lt_iff_toNat_lt];omega)]
      refine ⟨by simp,?_⟩
      have e2 : (a + 1).toNat = a.toNat + 1 := by rw [UInt8.toNat_add];omega
      have hx0 : Op.bytesLess x [] = false := by cases x <;> rfl
      simp only [Op.bytesLess,hx0,Bool.and_false,Bool.or_false,decide_eq_false_iff_not,UInt8.lt_iff_toNat_lt]
      omega
     ·rw [if_neg h0]
      refine ⟨by simp,?_⟩
      have hne : (b == a) = false := by
       rw [beq_eq_false_iff_ne]
       intro e;subst e;omega
      simp only [Op.bytesLess,hne,Bool.false_and,Bool.or_false,decide_eq_false_iff_not,UInt8.lt_iff_toNat_lt]
      omega
    ·obtain ⟨i1,i2⟩ := ih l x (by simpa using hx) (by simpa using hl) h
     rw [nx,if_neg i1]
     refine ⟨by simp,?_⟩
     simp [Op.bytesLess,i2]
theorem snoc_gt (l : List UInt8) : Op.bytesLess l (l ++ [0]) = true := by
 induction l with
 | nil => rfl
 | cons a l ih => simp [Op.bytesLess,ih]
theorem snoc_least (l x : List UInt8) (h : Op.bytesLess l x = true) : Op.bytesLess x (l ++ [0]) = false := by
 induction l generalizing x with
 | nil => cases x with
  | nil => simp [Op.bytesLess] at h
  | cons b x =>
   have hx0 : Op.bytesLess x [] = false := by cases x <;> rfl
   have hb : ¬ b < 0 := by
    rw [UInt8.lt_iff_toNat_lt]
    have e0 : (0 : UInt8).toNat = 0 := rfl
    omega
   simp only [List.nil_append,Op.bytesLess,hx0,Bool.and_false,Bool.or_false,decide_eq_false_iff_not]
   exact hb
 | cons a l ih => cases x with
  | nil => simp [Op.bytesLess] at h
  | cons b x =>
   simp only [Op.bytesLess,Bool.or_eq_true,Bool.and_eq_true,decide_eq_true_eq,beq_iff_eq] at h
   rcases h with h | ⟨rfl,h⟩
   ·rw [UInt8.lt_iff_toNat_lt] at h
    have hne : (b == a) = false := by
     rw [beq_eq_false_iff_ne]
     intro e;subst e;omega
    simp only [List.cons_append,Op.bytesLess,hne,Bool.false_and,Bool.or_false,decide_eq_false_iff_not,UInt8.lt_iff_toNat_lt]
    omega
   ·simp [Op.bytesLess,ih x h]
theorem nextL_gt (l : List UInt8) (h : nextL l ≠ []) : Op.bytesLess l (nextL l) = true /\ (nextL l).length <= 8 := by
 unfold nextL at h ⊢
 by_cases h8 : l.length < 8
 ·rw [if_pos h8] at h ⊢
  exact ⟨snoc_gt l,by simp;omega⟩
 ·rw [if_neg h8,nextAt_eq 8 l (by omega)] at h ⊢
  exact ⟨nx_gt 8 l h,nx_len 8 l⟩
theorem nextL_least (l x : List UInt8) (hx : x.length <= 8) (h : Op.bytesLess l x = true) : nextL l ≠ [] /\ Op.bytesLess x (nextL l) = false := by
 unfold nextL
 by_cases h8 : l.length < 8
 ·rw [if_pos h8]
  exact ⟨by simp,snoc_least l x h⟩
 ·rw [if_neg h8,nextAt_eq 8 l (by omega)]
  exact nx_least 8 l x hx (by omega) h
end Go.Proofs.Ytobfdolhgnoedaa.Keys
namespace Go.Proofs.Ytobfdolhgnoedaa
open Go.RowKit
set_option maxRecDepth 100000
namespace Ask
open Plan Ops Ent Msg
structure AskR where
 k : Int
 nd : Int
 key : ByteArray
 to : ByteArray
 at' : Int
 n : Int
 A : Option Addr
 c : Nat
 ops : List OpR
def qcell (a : AskR) : List Value := [.int .i64 a.k,.int .i64 a.nd,.string a.key,.string a.to,.int .u64 a.at',.int .i64 a.n,.slice a.A a.ops.length a.c]
abbrev qagg (a : AskR) : Value := .agg (qcell a).toArray
structure RepR where
 req : Int
 e : Int
 at' : Int
 pin : Int
 ps : List PairR
def rep0 : RepR := ⟨0,0,0,0,[]⟩
def rcell (r : RepR) (A : Option Addr) (c : Nat) : List Value := [.int .i64 r.req,.int .i64 r.e,.int .u64 r.at',.int .i64 r.pin,.slice A r.ps.length c]
abbrev ragg (r : RepR) (A : Option Addr) (c : Nat) : Value := .agg (rcell r A c).toArray
structure TS where
 cl : Int
 rq : Int
 a : AskR
 bo : List OpR
 ph : Nat
 at' : Int
 key : ByteArray
 ps : List PairR
 waits : Int
 dn : Bool
 r : RepR
def zmsg : MsgR := ⟨0,0,0,0,false,0,0,0,0,0,0,⟨#[]⟩,⟨#[]⟩,0,none,0,[],0,0,0,none,0,[],none,0,[],none,0,[],none,0,[]⟩
def sizeT (t : TS) : Int := min 2 (t.a.n - t.ps.length)
def nextT (t : TS) (ep hd : Int) : Int × MsgR :=
 if t.dn = true then (-1,zmsg)
 else if t.ph = 0 then (if hd < 0 then (4,{ zmsg with k := 15 }) else (hd,{ zmsg with k := 5,ep := max ep 0,bcl := t.cl,breq := t.rq,ops := t.bo }))
 else if t.ph = 1 then (if t.a.k = 2 then (t.a.nd,{ zmsg with k := 9,req := t.rq,key := t.key,to := t.a.to,at' := t.at',n := sizeT t }) else (t.a.nd,{ zmsg with k := 8,req := t.rq,key := t.key,at' := t.at' }))
 else if t.a.k = 4 then (4,{ zmsg with k := 11,req := t.rq,at' := t.a.at' })
 else if t.a.k = 5 then (4,{ zmsg with k := 12,req := t.rq,n := t.a.n })
 else (4,{ zmsg with k := 13,req := t.rq,n := t.a.n })
def endT (t : TS) (r : RepR) : TS := { t with dn := true,r := { r with req := t.rq } }
def nextKey (l : List PairR) : ByteArray := match l.getLast? with
 | none => emp
 | some p => ofL (Keys.nextL (bl p.key))
def pageL (t : TS) (x : MsgR) : List PairR := x.ps.take (sizeT t).toNat
def goesOn (t : TS) (x : MsgR) : Bool := x.fl && (decide (0 < (pageL t x).length) && (decide ((t.ps.length + (pageL t x).length : Nat) < t.a.n) && decide (nextKey (pageL t x) ≠ emp)))
def pageT (t : TS) (x : MsgR) : TS × Bool :=
 if goesOn t x = true then ({ t with ps := t.ps ++ pageL t x,waits := 0,key := nextKey (pageL t x) },true)
 else (endT { t with ps := t.ps ++ pageL t x,waits := 0 } ⟨0,0,t.at',0,t.ps ++ pageL t x⟩,false)
def fromT (t : TS) (f : Int) : Bool := if t.ph = 0 then decide (0 <= f /\ f < 4) else if t.ph = 1 then decide (f = t.a.nd) else decide (f = 4)
def takeW (t : TS) (x : MsgR) : TS × Bool :=
 if x.k = 7 /\ x.e = 16 then (endT t ⟨0,x.e,0,0,[]⟩,false)
 else if x.k ≠ 6 then (t,false)
 else if t.a.k = 0 then (endT t ⟨0,0,x.at',0,[]⟩,false)
 else ({ t with ph := 1,at' := x.at',key := t.a.key,ps := [],waits := 0 },true)
def takeR (t : TS) (x : MsgR) : TS × Bool :=
 if x.k = 7 /\ (t.a.k ≠ 3 \/ x.e ≠ 12) then (endT t ⟨0,x.e,0,0,[]⟩,false)
 else if x.k ≠ 10 \/ x.at' ≠ t.at' \/ x.key ≠ t.key then (t,false)
 else if t.a.k ≠ 2 then (endT t ⟨0,0,t.at',0,x.ps.take 1⟩,false)
 else pageT t x
def takeA (t : TS) (x : MsgR) : TS × Bool :=
 if x.k = 14 then (endT t ⟨0,0,0,x.n,[]⟩,false)
 else if x.k = 7 then (endT t ⟨0,x.e,0,0,[]⟩,false)
 else (t,false)
def takeT (t : TS) (f : Int) (x : MsgR) : TS × Bool :=
 if t.dn = true \/ x.req ≠ t.rq \/ fromT t f = false then (t,false)
 else if t.ph = 0 then takeW t x else if t.ph = 1 then takeR t x else takeA t x
def repT (t : TS) : RepR := if t.dn = true then t.r else rep0
end Ask
namespace Plan
def NewRow (b : Nat) (w : World) (A : Option Addr) (n c : Nat) (l : List Mem) : Prop :=
 n = l.length /\ w.ownsRow 0 111 2 (.slice A n c) n (mcells l) /\ ∀ k,(Value.slice A n c).ownBlock = some k -> b <= k
theorem NewRow.nil (b : Nat) (w : World) : NewRow b w none 0 0 [] := ⟨rfl,⟨rfl,.inl ⟨rfl,rfl⟩⟩,fun k hk => by cases hk⟩
theorem NewRow.kept {b : Nat} {w w' : World} {A : Option Addr} {n c : Nat} {l : List Mem} (h : NewRow b w A n c l) (hk : Kept NoF w w') : NewRow b w' A n c l :=
 ⟨h.1,own_kept h.2.1 hk (fun _ _ x => x),h.2.2⟩
end Plan
namespace Plan
def NewInts (b : Nat) (w : World) (A : Option Addr) (n c : Nat) (l : List Int) : Prop :=
 n = l.length /\ w.ownsRow 0 3 1 (.slice A n c) n (ints l) /\ ∀ k,(Value.slice A n c).ownBlock = some k -> b <= k
theorem NewInts.nil (b : Nat) (w : World) : NewInts b w none 0 0 [] := ⟨rfl,⟨rfl,.inl ⟨rfl,rfl⟩⟩,fun k hk => by cases hk⟩
theorem NewInts.kept {b : Nat} {w w' : World} {A : Option Addr} {n c : Nat} {l : List Int} (h : NewInts b w A n c l) (hk : Kept NoF w w') : NewInts b w' A n c l :=
 ⟨h.1,own_kept h.2.1 hk (fun _ _ x => x),h.2.2⟩
theorem NewRow.mono {b b' : Nat} {w : World} {A : Option Addr} {n c : Nat} {l : List Mem} (h : NewRow b w A n c l) (hb : b' <= b) : NewRow b' w A n c l := ⟨h.1,h.2.1,fun k hk => Nat.le_trans hb (h.2.2 k hk)⟩
theorem NewRow.ne {b : Nat} {w : World} {A : Option Addr} {n c : Nat} {l : List Mem} (h : NewRow b w A n c l) {g : Nat} {t : TypeId} {cs : Array Value} (hg : Has w g t cs) (hne : 111 ≠ t) : (Value.slice A n c).ownBlock ≠ some g := own_ne h.2.1 hg hne
def nagg (N : Next) (A : Option Addr) (n c : Nat) (B : Option Addr) (m d : Nat) : Value := .tuple #[cagg N.ep A n c N.fl,.slice B m d,.int .i64 N.e]
def NextPost (w : World) (N : Next) (e : Ending) (w' : World) : Prop :=
 ∃ A n c B m d,e = .returned (nagg N A n c B m d) /\ NewRow w.heap.size w' A n c N.l /\ NewInts w.heap.size w' B m d N.t /\ Kept NoF w w'
end Plan
end Go.Proofs.Ytobfdolhgnoedaa
namespace Go.Proofs.Ytobfdolhgnoedaa
open Go.RowKit Go.Shelf
set_option maxRecDepth 100000
namespace Plan
def Tells (w : World) (g : Nat) (lb : Array Value) (l : List Mem) (p : Mem -> Bool) : Prop :=
 ∀ W m,Kept NoF w W -> m ∈ l -> Calls Try.prog g (#[magg m] ++ lb) W fun e w' => e = .returned (.bool (p m)) /\ Kept NoF W w'
theorem Tells.kept {w w' : World} {g : Nat} {lb : Array Value} {l : List Mem} {p : Mem -> Bool} (h : Tells w g lb l p) (hk : Kept NoF w w') : Tells w' g lb l p := fun W m hW hm => h W m (hk.then hW) hm
end Plan
end Go.Proofs.Ytobfdolhgnoedaa
namespace Go.Proofs.Ytobfdolhgnoedaa
open Go.RowKit Go.Shelf Go.Maps
set_option maxRecDepth 100000
namespace Plan
def I64 (k : Int) : Prop := (Lit.int .i64 k).wf = true
def SetIs (w : World) (b n : Nat) (s : Int -> Bool) : Prop :=
 ∃ D : DataW Unit,w.ownsMap Try.prog 3 (plainElem Try.prog 4) b n D /\ ∀ k,I64 k -> D.atKey (.int .i64 k) (.lit (.bool false)) = .lit (.bool (s k))
theorem SetIs.lt {w : World} {b n : Nat} {s : Int -> Bool} (h : SetIs w b n s) : b < w.heap.size := by
 obtain ⟨D,h,_⟩ := h
 exact h.lt
theorem SetIs.kept {F : Nat -> Prop} {w w' : World} {b n : Nat} {s : Int -> Bool} (h : SetIs w b n s) (hk : Kept F w w') (hf : ¬ F b) : SetIs w' b n s := by
 obtain ⟨D,ho,hD⟩ := h
 have hlt := ho.lt
 obtain ⟨es,clock,hb,hF,hs,e⟩ := ho
 exact ⟨D,⟨es,clock,(hk.block b hlt hf).trans hb,hF,hs,e⟩,hD⟩
theorem SetIs.ne {w : World} {b n g : Nat} {s : Int -> Bool} {t : TypeId} {cs : Array Value} (h : SetIs w b n s) (hg : Has w g t cs) : b ≠ g := by
 rintro rfl
 obtain ⟨D,⟨es,clock,hb,_⟩,_⟩ := h
 unfold Has at hg
 rw [hg] at hb
 cases hb
end Plan
end Go.Proofs.Ytobfdolhgnoedaa
namespace Go.Proofs.Ytobfdolhgnoedaa
open Go.RowKit Go.WideShapes Go.ChangeShapes
set_option maxRecDepth 100000
namespace MO
open Plan Ops Ent Msg
structure MGood (w : World) (x : MsgR) : Prop where
 m : Src w 2 x.mA x.ms.length (mcells x.ms)
 mc : x.ms.length <= x.mc
 o : Src w 3 x.oA x.ops.length (cells x.ops)
 e : Src w 4 x.eA x.es.length (ecells x.es)
 eo : ∀ y ∈ x.es,Src w 3 y.A y.ops.length (cells y.ops) /\ 0 <= y.ts /\ y.ts <= maxTs
 s : Src w 1 x.sA x.ss.length (u64s x.ss)
 so : ∀ y ∈ x.ss,0 <= y /\ y <= maxTs
 p : Src w 2 x.pA x.ps.length (Ops.pcells x.ps)
 t : (0 <= x.at' /\ x.at' <= maxTs) /\ (0 <= x.last /\ x.last <= maxTs) /\ (0 <= x.cfl /\ x.cfl <= maxTs)
 i : I64 x.ser
 pk : ∀ y ∈ x.ps,y.key.size <= maxLen /\ y.val.size <= maxLen
 pcap : x.ps.length <= x.pc /\ x.pc <= maxLen
 kt : x.key.size <= maxLen /\ x.to.size <= maxLen
 is : I64 x.n /\ I64 x.req /\ I64 x.e /\ I64 x.ep
 lens : x.ms.length <= maxLen /\ x.ops.length <= maxLen /\ x.es.length <= maxLen /\ x.ss.length <= maxLen /\ x.ps.length <= maxLen
theorem MGood.kept {w w' : World} {x : MsgR} (h : MGood w x) (hk : Kept NoF w w') : MGood w' x :=
 ⟨h.m.kept hk (fun _ _ z => z),h.mc,h.o.kept hk (fun _ _ z => z),h.e.kept hk (fun _ _ z => z),(fun y hy => ⟨(h.eo y hy).1.kept hk (fun _ _ z => z),(h.eo y hy).2⟩),h.s.kept hk (fun _ _ z => z),h.so,h.p.kept hk (fun _ _ z => z),h.t,h.i,h.pk,h.pcap,h.kt,h.is,h.lens⟩
theorem MGood.below {w w' : World} {x : MsgR} (h : MGood w x) (hb : Below w.heap.size w w') : MGood w' x :=
 ⟨h.m.below hb,h.mc,h.o.below hb,h.e.below hb,(fun y hy => ⟨(h.eo y hy).1.below hb,(h.eo y hy).2⟩),h.s.below hb,h.so,h.p.below hb,h.t,h.i,h.pk,h.pcap,h.kt,h.is,h.lens⟩
theorem MGood.ok {w : World} {x : MsgR} (h : MGood w x) (h1 : x.ms.length <= 20) (h3 : x.es.length <= 20) (h4 : x.ss.length <= 20) (h5 : x.ps.length <= 40) : XOk w x :=
 ⟨h.m,h.mc,by omega,h.o,h.e,h.eo,by omega,h.s,by omega,h.so,h.p,by omega,h.t⟩
section
variable {H : Type} {enc : TypeId × Value -> H} {W : World} {v : Value} {d : DataW H} {ps : List MemPlace} {r : Reach} {b0 : Nat}
end
end MO
end Go.Proofs.Ytobfdolhgnoedaa
