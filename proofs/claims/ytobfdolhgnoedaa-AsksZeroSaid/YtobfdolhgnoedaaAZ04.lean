/- Part 5 of what the proof needs. -/
import Derived.Test.YtobfdolhgnoedaaAZ00
import Derived.Test.YtobfdolhgnoedaaAZ03
import Derived.StillTailTactics
import Derived.Shelf.Abstract
import Derived.Test.YtobfdolhgnoedaaChecked
import Derived.Shelf.Sort.Plain
import Derived.Shelf.Slices.In.SortNone
import Derived.Sort.OwnSorted
import Derived.Sort.KeysCollected
import Derived.Sort.OwnSortedInts
import Derived.Lib.AppendZerosOnto
import Derived.Lib.Walk
import Derived.Maps.OwnSet
import Derived.Maps.Views
set_option linter.unusedSimpArgs false
set_option linter.unusedVariables false
set_option maxHeartbeats 32000000
set_option maxRecDepth 100000
namespace Go.Proofs.Ytobfdolhgnoedaa
open Go.RowKit
set_option maxRecDepth 100000
namespace Ask
open Plan Ops Ent Msg
structure AskR where
 k : Int
 nd : Int
 key : ByteArray
 to : ByteArray
 at' : Int
 n : Int
 A : Option Addr
 c : Nat
 ops : List OpR
def qcell (a : AskR) : List Value := [.int .i64 a.k,.int .i64 a.nd,.string a.key,.string a.to,.int .u64 a.at',.int .i64 a.n,.slice a.A a.ops.length a.c]
abbrev qagg (a : AskR) : Value := .agg (qcell a).toArray
structure RepR where
 req : Int
 e : Int
 at' : Int
 pin : Int
 ps : List PairR
def rep0 : RepR := ⟨0,0,0,0,[]⟩
def rcell (r : RepR) (A : Option Addr) (c : Nat) : List Value := [.int .i64 r.req,.int .i64 r.e,.int .u64 r.at',.int .i64 r.pin,.slice A r.ps.length c]
abbrev ragg (r : RepR) (A : Option Addr) (c : Nat) : Value := .agg (rcell r A c).toArray
structure TS where
 cl : Int
 rq : Int
 a : AskR
 bo : List OpR
 ph : Nat
 at' : Int
 key : ByteArray
 ps : List PairR
 waits : Int
 dn : Bool
 r : RepR
def zmsg : MsgR := ⟨0,0,0,0,false,0,0,0,0,0,0,⟨#[]⟩,⟨#[]⟩,0,none,0,[],0,0,0,none,0,[],none,0,[],none,0,[],none,0,[]⟩
def sizeT (t : TS) : Int := min 2 (t.a.n - t.ps.length)
def nextT (t : TS) (ep hd : Int) : Int × MsgR :=
 if t.dn = true then (-1,zmsg)
 else if t.ph = 0 then (if hd < 0 then (4,{ zmsg with k := 15 }) else (hd,{ zmsg with k := 5,ep := max ep 0,bcl := t.cl,breq := t.rq,ops := t.bo }))
 else if t.ph = 1 then (if t.a.k = 2 then (t.a.nd,{ zmsg with k := 9,req := t.rq,key := t.key,to := t.a.to,at' := t.at',n := sizeT t }) else (t.a.nd,{ zmsg with k := 8,req := t.rq,key := t.key,at' := t.at' }))
 else if t.a.k = 4 then (4,{ zmsg with k := 11,req := t.rq,at' := t.a.at' })
 else if t.a.k = 5 then (4,{ zmsg with k := 12,req := t.rq,n := t.a.n })
 else (4,{ zmsg with k := 13,req := t.rq,n := t.a.n })
def endT (t : TS) (r : RepR) : TS := { t with dn := true,r := { r with req := t.rq } }
def nextKey (l : List PairR) : ByteArray := match l.getLast? with
 | none => emp
 | some p => ofL (Keys.nextL (bl p.key))
def pageL (t : TS) (x : MsgR) : List PairR := x.ps.take (sizeT t).toNat
def goesOn (t : TS) (x : MsgR) : Bool := x.fl && (decide (0 < (pageL t x).length) && (decide ((t.ps.length + (pageL t x).length : Nat) < t.a.n) && decide (nextKey (pageL t x) ≠ emp)))
def pageT (t : TS) (x : MsgR) : TS × Bool :=
 if goesOn t x = true then ({ t with ps := t.ps ++ pageL t x,waits := 0,key := nextKey (pageL t x) },true)
 else (endT { t with ps := t.ps ++ pageL t x,waits := 0 } ⟨0,0,t.at',0,t.ps ++ pageL t x⟩,false)
def fromT (t : TS) (f : Int) : Bool := if t.ph = 0 then decide (0 <= f /\ f < 4) else if t.ph = 1 then decide (f = t.a.nd) else decide (f = 4)
def takeW (t : TS) (x : MsgR) : TS × Bool :=
 if x.k = 7 /\ x.e = 16 then (endT t ⟨0,x.e,0,0,[]⟩,false)
 else if x.k ≠ 6 then (t,false)
 else if t.a.k = 0 then (endT t ⟨0,0,x.at',0,[]⟩,false)
 else ({ t with ph := 1,at' := x.at',key := t.a.key,ps := [],waits := 0 },true)
def takeR (t : TS) (x : MsgR) : TS × Bool :=
 if x.k = 7 /\ (t.a.k ≠ 3 \/ x.e ≠ 12) then (endT t ⟨0,x.e,0,0,[]⟩,false)
 else if x.k ≠ 10 \/ x.at' ≠ t.at' \/ x.key ≠ t.key then (t,false)
 else if t.a.k ≠ 2 then (endT t ⟨0,0,t.at',0,x.ps.take 1⟩,false)
 else pageT t x
def takeA (t : TS) (x : MsgR) : TS × Bool :=
 if x.k = 14 then (endT t ⟨0,0,0,x.n,[]⟩,false)
 else if x.k = 7 then (endT t ⟨0,x.e,0,0,[]⟩,false)
 else (t,false)
def takeT (t : TS) (f : Int) (x : MsgR) : TS × Bool :=
 if t.dn = true \/ x.req ≠ t.rq \/ fromT t f = false then (t,false)
 else if t.ph = 0 then takeW t x else if t.ph = 1 then takeR t x else takeA t x
end Ask
namespace Plan
def NewRow (b : Nat) (w : World) (A : Option Addr) (n c : Nat) (l : List Mem) : Prop :=
 n = l.length /\ w.ownsRow 0 111 2 (.slice A n c) n (mcells l) /\ ∀ k,(Value.slice A n c).ownBlock = some k -> b <= k
theorem NewRow.nil (b : Nat) (w : World) : NewRow b w none 0 0 [] := ⟨rfl,⟨rfl,.inl ⟨rfl,rfl⟩⟩,fun k hk => by cases hk⟩
theorem NewRow.kept {b : Nat} {w w' : World} {A : Option Addr} {n c : Nat} {l : List Mem} (h : NewRow b w A n c l) (hk : Kept NoF w w') : NewRow b w' A n c l :=
 ⟨h.1,own_kept h.2.1 hk (fun _ _ x => x),h.2.2⟩
end Plan
namespace Plan
def NewInts (b : Nat) (w : World) (A : Option Addr) (n c : Nat) (l : List Int) : Prop :=
 n = l.length /\ w.ownsRow 0 3 1 (.slice A n c) n (ints l) /\ ∀ k,(Value.slice A n c).ownBlock = some k -> b <= k
theorem NewInts.nil (b : Nat) (w : World) : NewInts b w none 0 0 [] := ⟨rfl,⟨rfl,.inl ⟨rfl,rfl⟩⟩,fun k hk => by cases hk⟩
theorem NewInts.kept {b : Nat} {w w' : World} {A : Option Addr} {n c : Nat} {l : List Int} (h : NewInts b w A n c l) (hk : Kept NoF w w') : NewInts b w' A n c l :=
 ⟨h.1,own_kept h.2.1 hk (fun _ _ x => x),h.2.2⟩
theorem NewRow.mono {b b' : Nat} {w : World} {A : Option Addr} {n c : Nat} {l : List Mem} (h : NewRow b w A n c l) (hb : b' <= b) : NewRow b' w A n c l := ⟨h.1,h.2.1,fun k hk => Nat.le_trans hb (h.2.2 k hk)⟩
theorem NewRow.ne {b : Nat} {w : World} {A : Option Addr} {n c : Nat} {l : List Mem} (h : NewRow b w A n c l) {g : Nat} {t : TypeId} {cs : Array Value} (hg : Has w g t cs) (hne : 111 ≠ t) : (Value.slice A n c).ownBlock ≠ some g := own_ne h.2.1 hg hne
def nagg (N : Next) (A : Option Addr) (n c : Nat) (B : Option Addr) (m d : Nat) : Value := .tuple #[cagg N.ep A n c N.fl,.slice B m d,.int .i64 N.e]
def NextPost (w : World) (N : Next) (e : Ending) (w' : World) : Prop :=
 ∃ A n c B m d,e = .returned (nagg N A n c B m d) /\ NewRow w.heap.size w' A n c N.l /\ NewInts w.heap.size w' B m d N.t /\ Kept NoF w w'
end Plan
end Go.Proofs.Ytobfdolhgnoedaa
namespace Go.Proofs.Ytobfdolhgnoedaa
open Go.RowKit Go.Shelf
set_option maxRecDepth 100000
namespace Plan
def Tells (w : World) (g : Nat) (lb : Array Value) (l : List Mem) (p : Mem -> Bool) : Prop :=
 ∀ W m,Kept NoF w W -> m ∈ l -> Calls Try.prog g (#[magg m] ++ lb) W fun e w' => e = .returned (.bool (p m)) /\ Kept NoF W w'
theorem Tells.kept {w w' : World} {g : Nat} {lb : Array Value} {l : List Mem} {p : Mem -> Bool} (h : Tells w g lb l p) (hk : Kept NoF w w') : Tells w' g lb l p := fun W m hW hm => h W m (hk.then hW) hm
end Plan
end Go.Proofs.Ytobfdolhgnoedaa
namespace Go.Proofs.Ytobfdolhgnoedaa
open Go.RowKit Go.Shelf Go.Maps
set_option maxRecDepth 100000
namespace Plan
def I64 (k : Int) : Prop := (Lit.int .i64 k).wf = true
def SetIs (w : World) (b n : Nat) (s : Int -> Bool) : Prop :=
 ∃ D : DataW Unit,w.ownsMap Try.prog 3 (plainElem Try.prog 4) b n D /\ ∀ k,I64 k -> D.atKey (.int .i64 k) (.lit (.bool false)) = .lit (.bool (s k))
theorem SetIs.lt {w : World} {b n : Nat} {s : Int -> Bool} (h : SetIs w b n s) : b < w.heap.size := by
 obtain ⟨D,h,_⟩ := h
 exact h.lt
theorem SetIs.kept {F : Nat -> Prop} {w w' : World} {b n : Nat} {s : Int -> Bool} (h : SetIs w b n s) (hk : Kept F w w') (hf : ¬ F b) : SetIs w' b n s := by
 obtain ⟨D,ho,hD⟩ := h
 have hlt := ho.lt
 obtain ⟨es,clock,hb,hF,hs,e⟩ := ho
 exact ⟨D,⟨es,clock,(hk.block b hlt hf).trans hb,hF,hs,e⟩,hD⟩
theorem SetIs.ne {w : World} {b n g : Nat} {s : Int -> Bool} {t : TypeId} {cs : Array Value} (h : SetIs w b n s) (hg : Has w g t cs) : b ≠ g := by
 rintro rfl
 obtain ⟨D,⟨es,clock,hb,_⟩,_⟩ := h
 unfold Has at hg
 rw [hg] at hb
 cases hb
end Plan
end Go.Proofs.Ytobfdolhgnoedaa
