/- Part 18 of what the proof needs. -/
import Derived.Test.YtobfdolhgnoedaaAZ12
import Derived.Test.YtobfdolhgnoedaaAZ16
set_option linter.unusedSimpArgs false
set_option linter.unusedVariables false
set_option maxHeartbeats 32000000
set_option maxRecDepth 100000
namespace Go.Proofs.Ytobfdolhgnoedaa
open Go.RowKit
set_option maxRecDepth 100000
namespace Ask
open Plan Ops Ent Msg MO Vn
theorem TOk.new {cl rq : Int} {a : AskR} (hn : I64 a.n) (h : newE cl rq a = 0) : TOk (newT cl rq a) := by
 have hm : mayB cl rq (boOf a) a = true := by
  unfold newE at h
  split at h
  ·cases h
  split at h
  ·cases h
  split at h
  ·assumption
  ·cases h
 refine ⟨hn,⟨by show (0 : Nat) <= 32;decide,fun hk => ?_⟩,by show (0 : Int) <= 0 /\ (0 : Int) <= 1073741824;decide,?_,fun hk => ?_,fun _ => rfl⟩
 ·have hk' : a.k = 2 := hk
  unfold mayB at hm
  rw [if_neg (by omega),if_neg (by omega),if_pos hk'] at hm
  simp only [Bool.and_eq_true,decide_eq_true_eq] at hm
  show ((0 : Nat) : Int) <= a.n
  omega
 ·show phOf a <= 2
  unfold phOf
  split
  ·omega
  ·split <;> omega
 ·have hk' : a.k = 2 := hk
  unfold mayB at hm
  rw [if_neg (by omega),if_neg (by omega),if_pos hk'] at hm
  simp only [Bool.and_eq_true,decide_eq_true_eq] at hm
  exact ⟨hm.2.2.2.1,hm.2.2.2.2⟩
theorem TOk.end {t : TS} (h : TOk t) (r : RepR) : TOk (endT t r) := ⟨h.n,h.ps,h.wt,h.ph,h.n1,h.np⟩
theorem TOk.page {t : TS} (h : TOk t) (hk : t.a.k = 2) (x : MsgR) : TOk (pageT t x).1 := by
 obtain ⟨_,h2,_,h4⟩ := pageL_len h hk x
 have h5 := h.n1 hk
 have hl : (t.ps ++ pageL t x).length = t.ps.length + (pageL t x).length := List.length_append
 unfold pageT
 split
 ·exact ⟨h.n,⟨by show (t.ps ++ pageL t x).length <= 32;rw [hl];omega,fun _ => by show ((t.ps ++ pageL t x).length : Int) <= t.a.n;rw [hl];exact h4⟩,by show (0 : Int) <= 0 /\ (0 : Int) <= 1073741824;decide,h.ph,h.n1,fun e => absurd hk e⟩
 ·exact ⟨h.n,⟨by show (t.ps ++ pageL t x).length <= 32;rw [hl];omega,fun _ => by show ((t.ps ++ pageL t x).length : Int) <= t.a.n;rw [hl];exact h4⟩,by show (0 : Int) <= 0 /\ (0 : Int) <= 1073741824;decide,h.ph,h.n1,fun e => absurd hk e⟩
theorem TOk.take {t : TS} (h : TOk t) (f : Int) (x : MsgR) : TOk (takeT t f x).1 := by
 unfold takeT
 split
 ·exact h
 split
 ·unfold takeW
  split
  ·exact h.end _
  split
  ·exact h
  split
  ·exact h.end _
  ·exact ⟨h.n,⟨by show (0 : Nat) <= 32;decide,fun hk => by have := h.n1 hk;show ((0 : Nat) : Int) <= t.a.n;omega⟩,by show (0 : Int) <= 0 /\ (0 : Int) <= 1073741824;decide,by show 1 <= 2;decide,h.n1,fun _ => rfl⟩
 split
 ·unfold takeR
  split
  ·exact h.end _
  split
  ·exact h
  split
  ·exact h.end _
  ·rename_i hk
   exact h.page (by omega) x
 ·unfold takeA
  split
  ·exact h.end _
  split
  ·exact h.end _
  ·exact h
def askA : AskR := ⟨2,1,⟨#[]⟩,⟨#[]⟩,5,3,none,0,[]⟩
def prsA : List PairR := [⟨⟨#[97]⟩,⟨#[]⟩⟩,⟨⟨#[98]⟩,⟨#[]⟩⟩]
def msgA (b : Nat) (c : Nat) : MsgR := { zmsg with k := 10,req := 3,at' := 5,fl := true,pA := some ⟨b,0,none⟩,pc := c,ps := prsA }
theorem askA_ok : newE 0 3 askA = 0 := by decide
theorem askA_next : nextT (newT 0 3 askA) 0 (-1) = (1,{ zmsg with k := 9,req := 3,at' := 5,n := 2 }) := rfl
theorem askA_goes (b c : Nat) : goesOn (newT 0 3 askA) (msgA b c) = true := by
 have h1 : nextKey prsA = ⟨#[98,0]⟩ := by unfold nextKey prsA;rfl
 have h2 : pageL (newT 0 3 askA) (msgA b c) = prsA := by unfold pageL;rfl
 unfold goesOn
 rw [h2,h1]
 show (true && (decide (0 < 2) && (decide (((0 + 2 : Nat) : Int) < 3) && decide ((⟨#[98,0]⟩ : ByteArray) ≠ emp)))) = true
 decide
def tsA : TS := ⟨0,3,askA,[],1,5,⟨#[98,0]⟩,prsA,0,false,rep0⟩
theorem askA_take (b c : Nat) : takeT (newT 0 3 askA) 1 (msgA b c) = (tsA,true) := by
 have h1 : takeT (newT 0 3 askA) 1 (msgA b c) = pageT (newT 0 3 askA) (msgA b c) := rfl
 rw [h1]
 unfold pageT
 rw [if_pos (askA_goes b c)]
 rfl
theorem askA_next2 : nextT tsA 0 (-1) = (1,{ zmsg with k := 9,req := 3,key := ⟨#[98,0]⟩,at' := 5,n := 1 }) := rfl
end Ask
end Go.Proofs.Ytobfdolhgnoedaa
