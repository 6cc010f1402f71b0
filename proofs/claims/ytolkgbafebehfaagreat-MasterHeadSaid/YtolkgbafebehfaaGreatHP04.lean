/- Part 5 of what the proof needs. -/
import Derived.Test.YtolkgbafebehfaaGreatHP02
import Derived.Test.YtolkgbafebehfaaGreatHP03
set_option linter.unusedSimpArgs false
set_option linter.unusedVariables false
set_option maxHeartbeats 32000000
set_option maxRecDepth 100000
namespace Go.Proofs.YtolkgbafebehfaaGreat
open Go.RowKit
set_option maxRecDepth 100000
namespace Msg
open Plan Ops Ent Vn
structure MsgR where
 k : Int
 ep : Int
 req : Int
 ser : Int
 fl : Bool
 at' : Int
 last : Int
 n : Int
 m : Int
 p : Int
 e : Int
 key : ByteArray
 to : ByteArray
 cep : Int
 mA : Option Addr
 mc : Nat
 ms : List Mem
 cfl : Int
 bcl : Int
 breq : Int
 oA : Option Addr
 oc : Nat
 ops : List OpR
 eA : Option Addr
 ec : Nat
 es : List EntR
 sA : Option Addr
 sc : Nat
 ss : List Int
 pA : Option Addr
 pc : Nat
 ps : List PairR
def u64s (l : List Int) : List Value := l.map (Value.int .u64)
def xcell (x : MsgR) : List Value := [.int .i64 x.k,.int .i64 x.ep,.int .i64 x.req,.int .i64 x.ser,.bool x.fl,.int .u64 x.at',.int .u64 x.last,.int .i64 x.n,.int .i64 x.m,.int .i64 x.p,.int .i64 x.e,.string x.key,.string x.to,
 .int .i64 x.cep,.slice x.mA x.ms.length x.mc,.int .u64 x.cfl,.int .i64 x.bcl,.int .i64 x.breq,.slice x.oA x.ops.length x.oc,.slice x.eA x.es.length x.ec,.slice x.sA x.ss.length x.sc,.slice x.pA x.ps.length x.pc]
abbrev xagg (x : MsgR) : Value := .agg (xcell x).toArray
def xbat (x : MsgR) : Batch := ⟨x.bcl,x.breq,x.ops⟩
structure XOk (w : World) (x : MsgR) : Prop where
 m : Src w 2 x.mA x.ms.length (mcells x.ms)
 mc : x.ms.length <= x.mc
 ml : x.ms.length <= 1000
 o : Src w 3 x.oA x.ops.length (cells x.ops)
 e : Src w 4 x.eA x.es.length (ecells x.es)
 eo : ∀ y ∈ x.es,Src w 3 y.A y.ops.length (cells y.ops) /\ 0 <= y.ts /\ y.ts <= maxTs
 el : x.es.length <= 1000
 s : Src w 1 x.sA x.ss.length (u64s x.ss)
 sl : x.ss.length <= 1000
 so : ∀ y ∈ x.ss,0 <= y /\ y <= maxTs
 p : Src w 2 x.pA x.ps.length (pcells x.ps)
 pl : x.ps.length <= 1000
 t : (0 <= x.at' /\ x.at' <= maxTs) /\ (0 <= x.last /\ x.last <= maxTs) /\ (0 <= x.cfl /\ x.cfl <= maxTs)
theorem XOk.kept {w w' : World} {x : MsgR} (h : XOk w x) (hk : Kept NoF w w') : XOk w' x :=
 ⟨h.m.kept hk (fun _ _ z => z),h.mc,h.ml,h.o.kept hk (fun _ _ z => z),h.e.kept hk (fun _ _ z => z),fun y hy => ⟨(h.eo y hy).1.kept hk (fun _ _ z => z),(h.eo y hy).2⟩,h.el,h.s.kept hk (fun _ _ z => z),h.sl,h.so,h.p.kept hk (fun _ _ z => z),h.pl,h.t⟩
def partsL : List (List Nat) := [[],[67,97],[101,115,102,97,108],[101,110,109,112,114,97,69],[101,110,109,112,83],[101,66],[114,97],[114,120,101,110],[114,107,97],[114,107,116,97,110],[114,107,97,102,82],[114,97],[114,110],[114,110],[114,110],[]]
def isKind (k : Int) : Bool := decide (1 <= k /\ k <= 15)
def partsOf (k : Int) : List Nat := if 1 <= k /\ k <= 15 then partsL.getD k.toNat [] else []
def letters : List Nat := [67,97,101,115,102,108,110,109,112,114,69,83,66,120,107,116,82]
theorem parts_letters (k : Int) : ∀ c ∈ partsOf k,c ∈ letters := by
 unfold partsOf
 by_cases h : 1 <= k /\ k <= 15
 ·rw [if_pos h]
  have : k = 1 \/ k = 2 \/ k = 3 \/ k = 4 \/ k = 5 \/ k = 6 \/ k = 7 \/ k = 8 \/ k = 9 \/ k = 10 \/ k = 11 \/ k = 12 \/ k = 13 \/ k = 14 \/ k = 15 := by omega
  rcases this with rfl | rfl | rfl | rfl | rfl | rfl | rfl | rfl | rfl | rfl | rfl | rfl | rfl | rfl | rfl <;> decide
 ·rw [if_neg h];intro c hc;simp at hc
theorem parts_len (k : Int) : (partsOf k).length <= 7 := by
 unfold partsOf
 by_cases h : 1 <= k /\ k <= 15
 ·rw [if_pos h]
  have : k = 1 \/ k = 2 \/ k = 3 \/ k = 4 \/ k = 5 \/ k = 6 \/ k = 7 \/ k = 8 \/ k = 9 \/ k = 10 \/ k = 11 \/ k = 12 \/ k = 13 \/ k = 14 \/ k = 15 := by omega
  rcases this with rfl | rfl | rfl | rfl | rfl | rfl | rfl | rfl | rfl | rfl | rfl | rfl | rfl | rfl | rfl <;> decide
 ·rw [if_neg h];decide
def lets (l : List Nat) : ByteArray := ofL (byt l)
def numI (x : MsgR) (c : Nat) : Int := if c = 101 then x.ep else if c = 115 then x.ser else if c = 114 then x.req else if c = 110 then x.n else if c = 109 then x.m else x.p
def isNum (c : Nat) : Bool := decide (c = 101 \/ c = 115 \/ c = 114 \/ c = 110 \/ c = 109 \/ c = 112)
def numAt (c : Nat) : Nat := if c = 101 then 1 else if c = 115 then 3 else if c = 114 then 2 else if c = 110 then 7 else if c = 109 then 8 else 9
def firstOf {α : Type} (f : α -> Int) : List α -> Int
 | [] => 0
 | a :: l => if f a = 0 then firstOf f l else f a
theorem firstOf_at {α : Type} (f : α -> Int) {l : List α} {i : Nat} {a : α} (h : l[i]? = some a) : firstOf f (l.drop i) = if f a = 0 then firstOf f (l.drop (i + 1)) else f a := by
 obtain ⟨hi,rfl⟩ := List.getElem?_eq_some_iff.1 h
 rw [List.drop_eq_getElem_cons hi,firstOf]
theorem firstOf_zero {α : Type} {f : α -> Int} {l : List α} (h : firstOf f l = 0) : ∀ a ∈ l,f a = 0 := by
 induction l with
 | nil => intro a ha;cases ha
 | cons b l ih =>
  rw [firstOf] at h
  by_cases hb : f b = 0
  ·rw [if_pos hb] at h
   intro a ha
   rcases List.mem_cons.1 ha with rfl | ha
   ·exact hb
   ·exact ih h a ha
  ·rw [if_neg hb] at h;exact absurd h hb
def keyE (s : ByteArray) : Int := if s.size < 1 \/ 8 < s.size then 10 else 0
def pairE (p : PairR) : Int := if keyE p.key ≠ 0 then keyE p.key else if 8 < p.val.size then 3 else 0
def rngM (n : Int) : Int := if n < 0 \/ 1073741824 < n then 5 else 0
def wrongE (x : MsgR) (c : Nat) : Int :=
 if isNum c = true then rngM (numI x c)
 else if c = 120 then (if x.e < 0 \/ 21 < x.e then 1 else 0)
 else if c = 107 then (if 8 < x.key.size then 3 else 0)
 else if c = 116 then (if 8 < x.to.size then 3 else 0)
 else if c = 67 then Plan.chk x.cep x.ms
 else if c = 66 then Ops.chk (xbat x)
 else if c = 69 then (if 4 < x.es.length then 6 else firstOf (fun y => Ops.chk (bat y)) x.es)
 else if c = 83 then (if 8 < x.ss.length then 6 else 0)
 else if c = 82 then (if 32 < x.ps.length then 6 else firstOf pairE x.ps)
 else 0
def chkM (x : MsgR) : Int := if isKind x.k = true then firstOf (wrongE x) (partsOf x.k) else 11
def putC (ep : Int) (ms : List Mem) (fl : Int) : List UInt8 := put ep.toNat ++ put ms.length ++ (ms.flatMap fun m => put m.1.toNat ++ put m.2.toNat) ++ put fl.toNat
def confR (ep : Int) (ms : List Mem) (fl : Int) : ByteArray := if Plan.chk ep ms = 0 then ofL (putC ep ms fl) else emp
def batR (b : Batch) : ByteArray := if Ops.chk b = 0 then ofL (putB b) else emp
def putE (e : EntR) : List UInt8 := put e.ts.toNat ++ putT (ofL (putB (bat e)))
def entR (e : EntR) : ByteArray := if Ops.chk (bat e) = 0 then ofL (putE e) else emp
def partB (x : MsgR) (c : Nat) : List UInt8 :=
 if isNum c = true then put (numI x c).toNat
 else if c = 120 then put x.e.toNat
 else if c = 97 then put x.at'.toNat
 else if c = 108 then put x.last.toNat
 else if c = 102 then putF x.fl
 else if c = 107 then putT x.key
 else if c = 116 then putT x.to
 else if c = 67 then putT (confR x.cep x.ms x.cfl)
 else if c = 66 then putT (batR (xbat x))
 else if c = 69 then put x.es.length ++ x.es.flatMap fun y => putT (entR y)
 else if c = 83 then put x.ss.length ++ x.ss.flatMap fun y => put y.toNat
 else if c = 82 then put x.ps.length ++ x.ps.flatMap fun y => putT y.key ++ putT y.val
 else []
def putM (x : MsgR) : List UInt8 := put x.k.toNat ++ (partsOf x.k).flatMap (partB x)
def msgR (x : MsgR) : ByteArray := if chkM x = 0 then ofL (putM x) else emp
theorem putN_len {n : Nat} (h : n <= 18446744073709551615) : (put n).length <= 9 := put_le (by omega)
theorem putT_len {s : ByteArray} {m : Nat} (h : s.size <= m) (hm : m <= 18446744073709551615) : (putT s).length <= 9 + m := by
 have := putN_len (n := s.size) (by omega)
 unfold putT
 rw [List.length_append,size_bl]
 omega
theorem flatLen {α β : Type} (f : α -> List β) (l : List α) (M : Nat) (h : ∀ a ∈ l,(f a).length <= M) : (l.flatMap f).length <= l.length * M := by
 induction l with
 | nil => simp
 | cons a l ih =>
  rw [List.flatMap_cons,List.length_append,List.length_cons]
  have h1 := h a (List.mem_cons_self ..)
  have h2 := ih fun b hb => h b (List.mem_cons_of_mem _ hb)
  rw [Nat.succ_mul]
  omega
theorem putC_len {ep : Int} {ms : List Mem} {fl : Int} (h : Plan.chk ep ms = 0) (hf : 0 <= fl /\ fl <= maxTs) : (putC ep ms fl).length <= 99 := by
 obtain ⟨h1,_,h2,h3⟩ := chk_zero h
 have a1 := putN_len (n := ep.toNat) (by omega)
 have a2 := putN_len (n := ms.length) (by omega)
 have a3 := putN_len (n := fl.toNat) (by unfold maxTs at hf;omega)
 have a4 := flatLen (fun m : Mem => put m.1.toNat ++ put m.2.toNat) ms 18 (fun m hm => by
  have b1 := h3.id m hm
  have b2 := h3.ser m hm
  have c1 := putN_len (n := m.1.toNat) (by omega)
  have c2 := putN_len (n := m.2.toNat) (by omega)
  rw [List.length_append];omega)
 unfold putC
 rw [List.length_append,List.length_append,List.length_append]
 omega
theorem confR_len {ep : Int} {ms : List Mem} {fl : Int} (hf : 0 <= fl /\ fl <= maxTs) : (confR ep ms fl).size <= 99 := by
 unfold confR
 split
 ·rename_i h
  have := putC_len h hf
  rw [<- size_bl,bl_ofL];exact this
 ·decide
theorem putB_len {b : Batch} (h : Ops.chk b = 0) : (putB b).length <= 103 := by
 obtain ⟨h1,h2,h3,h4,h5,h6⟩ := chk_ok h
 have hk := chkL_ok h6
 have a1 := putN_len (n := b.cl.toNat) (by omega)
 have a2 := putN_len (n := b.req.toNat) (by omega)
 have a3 := putN_len (n := b.ops.length) (by omega)
 have a4 := flat_len b.ops (fun o ho => putO_len (hk o ho).2.1 (hk o ho).2.2.1)
 unfold putB
 rw [List.length_append,List.length_append,List.length_append]
 omega
theorem batR_len (b : Batch) : (batR b).size <= 103 := by
 unfold batR
 split
 ·rename_i h
  have := putB_len h
  rw [<- size_bl,bl_ofL];exact this
 ·decide
theorem entR_len {e : EntR} (h : 0 <= e.ts /\ e.ts <= maxTs) : (entR e).size <= 121 := by
 unfold entR
 split
 ·rename_i h0
  have a1 := putB_len h0
  have a2 := putT_len (s := ofL (putB (bat e))) (m := 103) (by rw [<- size_bl,bl_ofL];exact a1) (by omega)
  have a3 := putN_len (n := e.ts.toNat) (by unfold maxTs at h;omega)
  rw [<- size_bl,bl_ofL]
  unfold putE
  rw [List.length_append]
  omega
 ·decide
theorem partB_len {w : World} {x : MsgR} (h : XOk w x) {c : Nat} (hc : wrongE x c = 0) : (partB x c).length <= 1100 := by
 unfold partB
 unfold wrongE at hc
 obtain ⟨⟨t1,t2⟩,⟨t3,t4⟩,t5⟩ := h.t
 unfold maxTs at t2 t4
 by_cases c1 : isNum c = true
 ·rw [if_pos c1] at hc ⊢
  unfold rngM at hc
  by_cases hr : numI x c < 0 \/ 1073741824 < numI x c
  ·rw [if_pos hr] at hc;cases hc
  ·have := putN_len (n := (numI x c).toNat) (by omega);omega
 rw [if_neg c1] at hc ⊢
 by_cases c2 : c = 120
 ·rw [if_pos c2] at hc ⊢
  by_cases hr : x.e < 0 \/ 21 < x.e
  ·rw [if_pos hr] at hc;cases hc
  ·have := putN_len (n := x.e.toNat) (by omega);omega
 rw [if_neg c2] at hc ⊢
 by_cases c3 : c = 97
 ·rw [if_pos c3];have := putN_len (n := x.at'.toNat) (by omega);omega
 rw [if_neg c3]
 by_cases c4 : c = 108
 ·rw [if_pos c4];have := putN_len (n := x.last.toNat) (by omega);omega
 rw [if_neg c4]
 by_cases c5 : c = 102
 ·rw [if_pos c5];unfold putF;simp
 rw [if_neg c5]
 by_cases c6 : c = 107
 ·rw [if_pos c6] at hc ⊢
  have := putT_len (s := x.key) (m := 8) (by by_cases hr : 8 < x.key.size;rw [if_pos hr] at hc;cases hc;omega) (by omega);omega
 rw [if_neg c6] at hc ⊢
 by_cases c7 : c = 116
 ·rw [if_pos c7] at hc ⊢
  have := putT_len (s := x.to) (m := 8) (by by_cases hr : 8 < x.to.size;rw [if_pos hr] at hc;cases hc;omega) (by omega);omega
 rw [if_neg c7] at hc ⊢
 by_cases c8 : c = 67
 ·rw [if_pos c8] at hc ⊢
  have := putT_len (s := confR x.cep x.ms x.cfl) (m := 99) (confR_len t5) (by omega);omega
 rw [if_neg c8] at hc ⊢
 by_cases c9 : c = 66
 ·rw [if_pos c9] at hc ⊢
  have := putT_len (s := batR (xbat x)) (m := 103) (batR_len _) (by omega);omega
 rw [if_neg c9] at hc ⊢
 by_cases c10 : c = 69
 ·rw [if_pos c10] at hc ⊢
  by_cases hr : 4 < x.es.length
  ·rw [if_pos hr] at hc;cases hc
  ·have a1 := putN_len (n := x.es.length) (by omega)
   have a2 := flatLen (fun y => putT (entR y)) x.es 130 (fun y hy => by
    have := putT_len (s := entR y) (m := 121) (entR_len (h.eo y hy).2) (by omega);omega)
   rw [List.length_append];omega
 rw [if_neg c10] at hc ⊢
 by_cases c11 : c = 83
 ·rw [if_pos c11] at hc ⊢
  by_cases hr : 8 < x.ss.length
  ·rw [if_pos hr] at hc;cases hc
  ·have a1 := putN_len (n := x.ss.length) (by omega)
   have a2 := flatLen (fun y : Int => put y.toNat) x.ss 9 (fun y hy => by
    have b := h.so y hy
    unfold maxTs at b
    exact putN_len (by omega))
   rw [List.length_append];omega
 rw [if_neg c11] at hc ⊢
 by_cases c12 : c = 82
 ·rw [if_pos c12] at hc ⊢
  by_cases hr : 32 < x.ps.length
  ·rw [if_pos hr] at hc;cases hc
  ·rw [if_neg hr] at hc
   have hz := firstOf_zero hc
   have a1 := putN_len (n := x.ps.length) (by omega)
   have a2 := flatLen (fun y : PairR => putT y.key ++ putT y.val) x.ps 34 (fun y hy => by
    have hy0 := hz y hy
    unfold pairE keyE at hy0
    by_cases e1 : y.key.size < 1 \/ 8 < y.key.size
    ·rw [if_pos e1,if_pos (by decide)] at hy0;cases hy0
    ·rw [if_neg e1,if_neg (by decide)] at hy0
     have b1 := putT_len (s := y.key) (m := 8) (by omega) (by omega)
     have b2 := putT_len (s := y.val) (m := 8) (by by_cases e2 : 8 < y.val.size;rw [if_pos e2] at hy0;cases hy0;omega) (by omega)
     rw [List.length_append];omega)
   rw [List.length_append];omega
 rw [if_neg c12];simp
end Msg
namespace Plan
theorem chkFrom_step {l : List Mem} {i : Nat} {m : Mem} (h : l[i]? = some m) (h0 : oneE m (l.take i) = 0) : chkFrom (l.take i) (l.drop i) = chkFrom (l.take (i + 1)) (l.drop (i + 1)) := by
 rw [drop_cons h,take_snoc h]
 conv => lhs;unfold chkFrom
 rw [if_pos h0]
theorem chkFrom_stop {l : List Mem} {i : Nat} {m : Mem} (h : l[i]? = some m) (h0 : oneE m (l.take i) ≠ 0) : chkFrom (l.take i) (l.drop i) = oneE m (l.take i) := by
 rw [drop_cons h]
 unfold chkFrom
 rw [if_neg h0]
def eqL (a b : List Mem) : Bool := decide (a = b)
theorem eqL_len {a b : List Mem} (h : a.length ≠ b.length) : eqL a b = false := by unfold eqL;rw [decide_eq_false];rintro rfl;exact h rfl
theorem eqL_step {a b : List Mem} {i : Nat} {x y : Mem} (ha : a[i]? = some x) (hb : b[i]? = some y) : eqL (a.drop i) (b.drop i) = (decide (x = y) && eqL (a.drop (i + 1)) (b.drop (i + 1))) := by
 unfold eqL
 rw [drop_cons ha,drop_cons hb]
 by_cases h : x = y
 ·subst h;simp
 ·simp [h]
theorem rsame_any (w : World) (ep fl ep' fl' : Int) (A B : Option Addr) (c d : Nat) (l l' : List Mem) (hl : Src w 2 A l.length (mcells l)) (hl' : Src w 2 B l'.length (mcells l')) (hlen : l.length <= 1000000) (hlen' : l'.length <= 1000000) :
  Calls Tryz.prog 17 #[cagg ep A l.length c fl,cagg ep' B l'.length d fl'] w fun e w' => e = .returned (.bool (ep == ep' && (fl == fl' && eqL l l'))) /\ Kept NoF w w' := by
 have HL := hZ0 hl;clear hl
 have HL' := hZ0 hl';clear hl'
 by_cases h1 : ep = ep'
 rotate_left
 ·have b1 : (ep == ep') = false := by simpa using h1
  have b2 : (ep != ep') = true := by simpa using h1
  have hr : (ep == ep' && (fl == fl' && eqL l l')) = false := by rw [b1];rfl
  rw [hr]
  clear hr h1
  go_enter Tryz.func17,Tryz.ntmps17
  go_wp2
  go_ret
  exact ⟨rfl,((Kept.refl _ _).alloc _).alloc _⟩
 subst h1
 by_cases h2 : fl = fl'
 rotate_left
 ·have b1 : (fl == fl') = false := by simpa using h2
  have b2 : (fl != fl') = true := by simpa using h2
  have hr : (ep == ep && (fl == fl' && eqL l l')) = false := by rw [b1];simp
  rw [hr]
  clear hr h2
  go_enter Tryz.func17,Tryz.ntmps17
  go_wp2
  go_ret
  exact ⟨rfl,((Kept.refl _ _).alloc _).alloc _⟩
 subst h2
 have hr0 : (ep == ep && (fl == fl && eqL l l')) = eqL l l' := by simp
 rw [hr0]
 clear hr0
 by_cases h3 : l.length = l'.length
 rotate_left
 ·have b1 : ((l.length : Int) == (l'.length : Int)) = false := by rw [beq_eq_false_iff_ne];omega
  have b2 : ((l.length : Int) != (l'.length : Int)) = true := by rw [bne_iff_ne];omega
  rw [eqL_len h3]
  clear h3
  go_enter Tryz.func17,Tryz.ntmps17
  go_wp2
  go_ret
  exact ⟨rfl,((Kept.refl _ _).alloc _).alloc _⟩
 have hn1 := (Has.new w 25 #[.int .i64 ep,.slice A l.length c,.int .u64 fl]).alloc (.cells #[.int .i64 ep,.slice B l'.length d,.int .u64 fl] 25)
 have hn2 := Has.new (w.alloc (.cells #[.int .i64 ep,.slice A l.length c,.int .u64 fl] 25)) 25 #[.int .i64 ep,.slice B l'.length d,.int .u64 fl]
 rw [size_alloc] at hn2
 rw [<- h3] at hn1 hn2 HL' ⊢
 have HN1 := hZ0 hn1;clear hn1
 have HN2 := hZ0 hn2;clear hn2
 have H3 := hZ0 h3;clear h3
 go_enter Tryz.func17,Tryz.ntmps17
 go_wp2_with fail
 go_loopw [5] (fun v5 wr => ∃ i : Nat,i <= l.length /\ v5 = .int .i64 i /\ Has wr w.heap.size 25 #[.int .i64 ep,.slice A l.length c,.int .u64 fl] /\ Has wr (w.heap.size + 1) 25 #[.int .i64 ep,.slice B l.length d,.int .u64 fl] /\ Kept NoF w wr /\ eqL l l' = eqL (l.drop i) (l'.drop i)) (fun v5 _ => l.length - (intOf v5).toNat)
 case atStart => exact ⟨0,Nat.zero_le _,rfl,HN1.out,HN2.out,((Kept.refl _ _).alloc _).alloc _,rfl⟩
 case round =>
  obtain ⟨i,hi,rfl,hh,hh2,hk,he⟩ := hrel
  have e0 : wr.cell? ⟨w.heap.size,1,none⟩ = some (.slice A l.length c) := hh.cell 1
  have e1 : wr.cell? ⟨w.heap.size + 1,1,none⟩ = some (.slice B l.length d) := hh2.cell 1
  have HH := hZ0 hh;clear hh
  have HH2 := hZ0 hh2;clear hh2
  have HK := hZ0 hk;clear hk
  have HE := hZ0 he;clear he
  by_cases hil : i < l.length
  ·obtain ⟨m,hm⟩ : ∃ m,l[i]? = some m := ⟨_,List.getElem?_eq_getElem hil⟩
   obtain ⟨q,hq⟩ : ∃ q,l'[i]? = some q := ⟨_,List.getElem?_eq_getElem (by have := H3.out;omega)⟩
   obtain ⟨ad,hA,had,d0,d1⟩ := mem_cells (HL.out.kept HK.out (fun _ _ x => x)) (by omega) i m hm
   obtain ⟨bd,hB,hbd,f0,f1⟩ := mem_cells (HL'.out.kept HK.out (fun _ _ x => x)) (by omega) i q hq
   subst hA
   subst hB
   have hs := eqL_step hm hq
   have hneq := run_neq_mem m q
   obtain ⟨b,hb⟩ : ∃ b : Bool,b = decide (m = q) := ⟨_,rfl⟩
   have hb' : decide (m ≠ q) = !b := by rw [hb];simp
   rw [hb'] at hneq
   rw [<- hb] at hs
   have HS := hZ0 hs;clear hs hm hq hb hb'
   obtain ⟨m1,m2⟩ := m
   obtain ⟨q1,q2⟩ := q
   unfold magg at hneq
   dsimp only at d0 d1 f0 f1 hneq
   cases b
   ·go_wp2_with fail
    go_quiet (fail)
    go_wp2
    go_ret
    exact ⟨by rw [HE.out,HS.out];rfl,HK.out.drewN _⟩
   ·go_wp2_with fail
    go_quiet (fail)
    go_wp2
    go_roundw
    case rel => exact ⟨i + 1,by omega,by go_num,HH.out.drewN _,HH2.out.drewN _,HK.out.drewN _,by rw [HE.out,HS.out];rfl⟩
    case measure => simp [intOf];omega
  ·obtain rfl : i = l.length := by omega
   have hr : eqL l l' = true := by rw [HE.out,List.drop_length,H3.out,List.drop_length];rfl
   have HR := hZ0 hr;clear hr
   go_wp2
   go_ret
   exact ⟨by rw [HR.out];rfl,HK.out⟩
theorem rplace_any (w : World) (ep fl : Int) (A : Option Addr) (c : Nat) (l : List Mem) (x : Mem) (hl : Src w 2 A l.length (mcells l)) (hlen : l.length <= 1000000) :
  Calls Tryz.prog 18 #[cagg ep A l.length c fl,magg x] w fun e w' => (∃ n : Int,e = .returned (.int .i64 n) /\ (0 <= n ↔ x ∈ l)) /\ Kept NoF w w' := by
 have HL := hZ0 hl;clear hl
 obtain ⟨x1,x2⟩ := x
 have hn1 := (Has.new w 25 #[.int .i64 ep,.slice A l.length c,.int .u64 fl]).alloc (.cells #[.int .i64 x1,.int .i64 x2] 53)
 have hn2 := Has.new (w.alloc (.cells #[.int .i64 ep,.slice A l.length c,.int .u64 fl] 25)) 53 #[.int .i64 x1,.int .i64 x2]
 rw [size_alloc] at hn2
 have HN1 := hZ0 hn1;clear hn1
 have HN2 := hZ0 hn2;clear hn2
 unfold magg
 dsimp only
 go_enter Tryz.func18,Tryz.ntmps18
 go_wp2_with fail
 go_loopw [5] (fun v5 wr => ∃ i : Nat,i <= l.length /\ v5 = .int .i64 i /\ Has wr w.heap.size 25 #[.int .i64 ep,.slice A l.length c,.int .u64 fl] /\ Has wr (w.heap.size + 1) 53 #[.int .i64 x1,.int .i64 x2] /\ Kept NoF w wr /\ ((x1,x2) ∈ l ↔ (x1,x2) ∈ l.drop i)) (fun v5 _ => l.length - (intOf v5).toNat)
 case atStart => exact ⟨0,Nat.zero_le _,rfl,HN1.out,HN2.out,((Kept.refl _ _).alloc _).alloc _,Iff.rfl⟩
 case round =>
  obtain ⟨i,hi,rfl,hh,hh2,hk,he⟩ := hrel
  have e0 : wr.cell? ⟨w.heap.size,1,none⟩ = some (.slice A l.length c) := hh.cell 1
  have e1 : wr.cell? ⟨w.heap.size + 1,0,none⟩ = some (.int .i64 x1) := hh2.cell 0
  have e2 : wr.cell? ⟨w.heap.size + 1,1,none⟩ = some (.int .i64 x2) := hh2.cell 1
  have HH := hZ0 hh;clear hh
  have HH2 := hZ0 hh2;clear hh2
  have HK := hZ0 hk;clear hk
  have HE := hZ0 he;clear he
  by_cases hil : i < l.length
  ·obtain ⟨m,hm⟩ : ∃ m,l[i]? = some m := ⟨_,List.getElem?_eq_getElem hil⟩
   obtain ⟨ad,hA,had,d0,d1⟩ := mem_cells (HL.out.kept HK.out (fun _ _ x => x)) (by omega) i m hm
   subst hA
   have hs : (x1,x2) ∈ l.drop i ↔ m = (x1,x2) \/ (x1,x2) ∈ l.drop (i + 1) := by rw [drop_cons hm,List.mem_cons,eq_comm]
   have heql := run_eql_mem m (x1,x2)
   obtain ⟨b,hb⟩ : ∃ b : Bool,b = decide (m = (x1,x2)) := ⟨_,rfl⟩
   rw [<- hb] at heql
   have HB := hZ0 hb;clear hb
   have HS := hZ0 hs;clear hs hm
   obtain ⟨m1,m2⟩ := m
   unfold magg at heql
   dsimp only at d0 d1 heql
   cases b
   ·go_wp2_with fail
    go_quiet (fail)
    go_wp2
    go_roundw
    case rel => exact ⟨i + 1,by omega,by go_num,HH.out.drewN _,HH2.out.drewN _,HK.out.drewN _,by rw [HE.out,HS.out];have := HB.out;simp at this;simp;omega⟩
    case measure => simp [intOf];omega
   ·go_wp2_with fail
    go_quiet (fail)
    go_wp2
    go_ret
    exact ⟨⟨_,rfl,⟨fun _ => by rw [HE.out,HS.out];have := HB.out;simp at this;exact .inl (by simp [this]),fun _ => by omega⟩⟩,HK.out.drewN _⟩
  ·obtain rfl : i = l.length := by omega
   go_wp2
   go_ret
   exact ⟨⟨-1,rfl,⟨fun h => by omega,fun h => by rw [HE.out,List.drop_length] at h;cases h⟩⟩,HK.out⟩
theorem rhead_any (w : World) (ep fl : Int) (A : Option Addr) (c : Nat) (l : List Mem) (m : Mem) (r : List Mem) (he : l = m :: r) (hl : Src w 2 A l.length (mcells l)) (hlen : l.length <= 1000000) :
  Calls Tryz.prog 16 #[cagg ep A l.length c fl] w fun e w' => e = .returned (.int .i64 m.1) /\ Kept NoF w w' := by
 have hpos : 0 < l.length := by rw [he];simp
 have h0 : l[0]? = some m := by rw [he];rfl
 obtain ⟨ad,hA,had,d0,d1⟩ := mem_cells hl hpos 0 m h0
 subst hA
 clear hl h0 he
 have at_any : ∀ W,Kept NoF w W -> Calls Tryz.prog 50 #[cagg ep (some ad) l.length c fl,.int .i64 0] W fun e w' => e = .returned (.int .i64 m.1) /\ Kept NoF W w' := by
  intro W hW
  have d0' : ∀ o,(W.alloc o).cell? (ad.add (0 * 2)) = some (.int .i64 m.1) := by
   intro o
   rw [World.cell?_of_block (w := w) (by rw [block_add];exact (hW.alloc o).block _ (by simpa [block_add] using had) (fun x => x))];exact d0
  have hadw : (ad.add (0 * 2)) = ad := by unfold Addr.add;rw [if_pos (by omega)]
  rw [hadw] at d0'
  have hadd : ad.add 0 = ad := by unfold Addr.add;rw [if_pos rfl]
  clear d0 d1 had hadw hW
  have HW := hZ0 hadd;clear hadd
  generalize l.length = N at *
  have hp1 : N ≠ 0 := by omega
  have hp2 : ¬ N <= 0 := by omega
  have hp3 : ¬ ((N : Int) <= 0) := by omega
  go_enter Tryz.func50,Tryz.ntmps50
  go_wp2
  go_ret
  exact ⟨rfl,(Kept.refl _ _).alloc _⟩
 have HAT := hZ0 at_any;clear at_any d0 d1 had
 go_enter Tryz.func16,Tryz.ntmps16
 go_wp2_with fail
 refine (HAT.out _ ((Kept.refl _ _).alloc _)).mono ?_
 rintro e w2 ⟨rfl,hk⟩
 go_wp2_with fail
 go_ret
 exact ⟨rfl,((Kept.refl _ _).alloc _).then hk⟩
end Plan
namespace Plan
def NewRow (b : Nat) (w : World) (A : Option Addr) (n c : Nat) (l : List Mem) : Prop :=
 n = l.length /\ w.ownsRow 0 53 2 (.slice A n c) n (mcells l) /\ ∀ k,(Value.slice A n c).ownBlock = some k -> b <= k
theorem NewRow.nil (b : Nat) (w : World) : NewRow b w none 0 0 [] := ⟨rfl,⟨rfl,.inl ⟨rfl,rfl⟩⟩,fun k hk => by cases hk⟩
theorem NewRow.kept {b : Nat} {w w' : World} {A : Option Addr} {n c : Nat} {l : List Mem} (h : NewRow b w A n c l) (hk : Kept NoF w w') : NewRow b w' A n c l :=
 ⟨h.1,own_kept h.2.1 hk (fun _ _ x => x),h.2.2⟩
theorem NewRow.src {b : Nat} {w : World} {A : Option Addr} {n c : Nat} {l : List Mem} (h : NewRow b w A n c l) : Src w 2 A l.length (mcells l) := by
 have h1 := Src.of_own h.2.1
 rw [h.1] at h1
 exact h1
theorem NewRow.snoc {b : Nat} {w w' : World} {A A' : Option Addr} {n c c' : Nat} {l : List Mem} {m : Mem} (h : NewRow b w A n c l) (hb : b <= w.heap.size)
  (ho : w'.ownsRow 0 53 2 (.slice A' (n + 1) c') (n + 1) (mcells l ++ [.int .i64 m.1,.int .i64 m.2]))
  (ha : (Value.slice A' (n + 1) c').ownBlock = (Value.slice A n c).ownBlock \/ (Value.slice A' (n + 1) c').ownBlock = some w.heap.size) : NewRow b w' A' (n + 1) c' (l ++ [m]) := by
 refine ⟨by rw [h.1];simp,by rw [mcells_append];exact ho,fun k hk => ?_⟩
 rcases ha with e | e
 ·exact h.2.2 k (e.symm.trans hk)
 ·rw [hk] at e
  injection e with e
  omega
theorem filter_snoc {l : List Mem} {i : Nat} {m : Mem} (p : Mem -> Bool) (h : l[i]? = some m) : (l.take (i + 1)).filter p = (l.take i).filter p ++ if p m = true then [m] else [] := by
 rw [take_snoc h,List.filter_append]
 by_cases hp : p m = true <;> simp [hp]
theorem filter_yes {l : List Mem} {i : Nat} {m : Mem} {p : Mem -> Bool} (h : l[i]? = some m) (hp : p m = true) : (l.take (i + 1)).filter p = (l.take i).filter p ++ [m] := by rw [filter_snoc p h,if_pos hp]
theorem filter_no {l : List Mem} {i : Nat} {m : Mem} {p : Mem -> Bool} (h : l[i]? = some m) (hp : p m = false) : (l.take (i + 1)).filter p = (l.take i).filter p := by rw [filter_snoc p h,if_neg (by rw [hp];decide),List.append_nil]
theorem isFirst_eq (g t : List Int) (m : Mem) : isFirst g t m = (!inB g m.1 && inB t m.1) := rfl
theorem isRest_eq (g t : List Int) (m : Mem) : isRest g t m = (!inB g m.1 && !inB t m.1) := rfl
end Plan
end Go.Proofs.YtolkgbafebehfaaGreat
