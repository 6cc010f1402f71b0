/- Part 6 of what the proof needs. -/
import Derived.Test.YtgbigpdiacjbgaaGreatKO00
import Derived.Test.YtgbigpdiacjbgaaGreatKO02
import Derived.Test.YtgbigpdiacjbgaaGreatKO04
import Derived.StillTailTactics
import Derived.Shelf.Abstract
import Derived.Test.YtgbigpdiacjbgaaGreatChecked
import Derived.Shelf.Sort.Plain
import Derived.Shelf.Slices.In.SortNone
import Derived.Sort.OwnSorted
import Derived.Sort.KeysCollected
import Derived.Sort.OwnSortedInts
import Derived.Lib.AppendZerosOnto
import Derived.Lib.Walk
import Derived.Maps.OwnSet
import Derived.Maps.Views
import Derived.Test.YtgbigpdiacjbgaaGreatRows
import Derived.ProofKit
import Derived.OpenShut
import Derived.Lib.SmallJoins
set_option linter.unusedSimpArgs false
set_option linter.unusedVariables false
set_option maxHeartbeats 32000000
set_option maxRecDepth 100000
namespace Go.Proofs.YtgbigpdiacjbgaaGreat
open Go.RowKit
set_option maxRecDepth 100000
namespace Ask
open Plan Ops Ent Msg
structure AskR where
 k : Int
 nd : Int
 key : ByteArray
 to : ByteArray
 at' : Int
 n : Int
 A : Option Addr
 c : Nat
 ops : List OpR
def qcell (a : AskR) : List Value := [.int .i64 a.k,.int .i64 a.nd,.string a.key,.string a.to,.int .u64 a.at',.int .i64 a.n,.slice a.A a.ops.length a.c]
abbrev qagg (a : AskR) : Value := .agg (qcell a).toArray
structure RepR where
 req : Int
 e : Int
 at' : Int
 pin : Int
 ps : List PairR
def rep0 : RepR := ⟨0,0,0,0,[]⟩
def rcell (r : RepR) (A : Option Addr) (c : Nat) : List Value := [.int .i64 r.req,.int .i64 r.e,.int .u64 r.at',.int .i64 r.pin,.slice A r.ps.length c]
abbrev ragg (r : RepR) (A : Option Addr) (c : Nat) : Value := .agg (rcell r A c).toArray
structure TS where
 cl : Int
 rq : Int
 a : AskR
 bo : List OpR
 ph : Nat
 at' : Int
 key : ByteArray
 ps : List PairR
 waits : Int
 dn : Bool
 r : RepR
def zmsg : MsgR := ⟨0,0,0,0,false,0,0,0,0,0,0,⟨#[]⟩,⟨#[]⟩,0,none,0,[],0,0,0,none,0,[],none,0,[],none,0,[],none,0,[]⟩
def sizeT (t : TS) : Int := min 2 (t.a.n - t.ps.length)
def nextT (t : TS) (ep hd : Int) : Int × MsgR :=
 if t.dn = true then (-1,zmsg)
 else if t.ph = 0 then (if hd < 0 then (4,{ zmsg with k := 15 }) else (hd,{ zmsg with k := 5,ep := max ep 0,bcl := t.cl,breq := t.rq,ops := t.bo }))
 else if t.ph = 1 then (if t.a.k = 2 then (t.a.nd,{ zmsg with k := 9,req := t.rq,key := t.key,to := t.a.to,at' := t.at',n := sizeT t }) else (t.a.nd,{ zmsg with k := 8,req := t.rq,key := t.key,at' := t.at' }))
 else if t.a.k = 4 then (4,{ zmsg with k := 11,req := t.rq,at' := t.a.at' })
 else if t.a.k = 5 then (4,{ zmsg with k := 12,req := t.rq,n := t.a.n })
 else (4,{ zmsg with k := 13,req := t.rq,n := t.a.n })
def endT (t : TS) (r : RepR) : TS := { t with dn := true,r := { r with req := t.rq } }
def nextKey (l : List PairR) : ByteArray := match l.getLast? with
 | none => emp
 | some p => ofL (Keys.nextL (bl p.key))
def pageL (t : TS) (x : MsgR) : List PairR := x.ps.take (sizeT t).toNat
def goesOn (t : TS) (x : MsgR) : Bool := x.fl && (decide (0 < (pageL t x).length) && (decide ((t.ps.length + (pageL t x).length : Nat) < t.a.n) && decide (nextKey (pageL t x) ≠ emp)))
def pageT (t : TS) (x : MsgR) : TS × Bool :=
 if goesOn t x = true then ({ t with ps := t.ps ++ pageL t x,waits := 0,key := nextKey (pageL t x) },true)
 else (endT { t with ps := t.ps ++ pageL t x,waits := 0 } ⟨0,0,t.at',0,t.ps ++ pageL t x⟩,false)
def fromT (t : TS) (f : Int) : Bool := if t.ph = 0 then decide (0 <= f /\ f < 4) else if t.ph = 1 then decide (f = t.a.nd) else decide (f = 4)
def takeW (t : TS) (x : MsgR) : TS × Bool :=
 if x.k = 7 /\ x.e = 16 then (endT t ⟨0,x.e,0,0,[]⟩,false)
 else if x.k ≠ 6 then (t,false)
 else if t.a.k = 0 then (endT t ⟨0,0,x.at',0,[]⟩,false)
 else ({ t with ph := 1,at' := x.at',key := t.a.key,ps := [],waits := 0 },true)
def takeR (t : TS) (x : MsgR) : TS × Bool :=
 if x.k = 7 /\ (t.a.k ≠ 3 \/ x.e ≠ 12) then (endT t ⟨0,x.e,0,0,[]⟩,false)
 else if x.k ≠ 10 \/ x.at' ≠ t.at' \/ x.key ≠ t.key then (t,false)
 else if t.a.k ≠ 2 then (endT t ⟨0,0,t.at',0,x.ps.take 1⟩,false)
 else pageT t x
def takeA (t : TS) (x : MsgR) : TS × Bool :=
 if x.k = 14 then (endT t ⟨0,0,0,x.n,[]⟩,false)
 else if x.k = 7 then (endT t ⟨0,x.e,0,0,[]⟩,false)
 else (t,false)
def takeT (t : TS) (f : Int) (x : MsgR) : TS × Bool :=
 if t.dn = true \/ x.req ≠ t.rq \/ fromT t f = false then (t,false)
 else if t.ph = 0 then takeW t x else if t.ph = 1 then takeR t x else takeA t x
def tickT (t : TS) : TS × Bool :=
 if t.dn = true then (t,false)
 else if t.ph = 1 /\ 16 < min (t.waits + 1) 1073741824 then (endT { t with waits := min (t.waits + 1) 1073741824 } ⟨0,21,0,0,[]⟩,false)
 else ({ t with waits := min (t.waits + 1) 1073741824 },true)
def repT (t : TS) : RepR := if t.dn = true then t.r else rep0
end Ask
namespace Plan
theorem chkFrom_step {l : List Mem} {i : Nat} {m : Mem} (h : l[i]? = some m) (h0 : oneE m (l.take i) = 0) : chkFrom (l.take i) (l.drop i) = chkFrom (l.take (i + 1)) (l.drop (i + 1)) := by
 rw [drop_cons h,take_snoc h]
 conv => lhs;unfold chkFrom
 rw [if_pos h0]
theorem chkFrom_stop {l : List Mem} {i : Nat} {m : Mem} (h : l[i]? = some m) (h0 : oneE m (l.take i) ≠ 0) : chkFrom (l.take i) (l.drop i) = oneE m (l.take i) := by
 rw [drop_cons h]
 unfold chkFrom
 rw [if_neg h0]
theorem rcheck_any (w : World) (ep fl : Int) (A : Option Addr) (c : Nat) (l : List Mem) (hl : Src w 2 A l.length (mcells l)) (hlen : l.length <= 1000000) :
  Calls Tryz.prog 112 #[cagg ep A l.length c fl] w fun e w' => e = .returned (.int .i64 (chk ep l)) /\ Kept NoF w w' := by
 have HL := hZ0 hl;clear hl
 by_cases h1 : ep < 1
 ·have hr : chk ep l = 5 := by unfold chk;rw [if_pos (.inl h1)]
  have HR := hZ0 hr;clear hr
  go_enter Tryz.func112,Tryz.ntmps112
  go_wp2
  go_ret
  exact ⟨by rw [HR.out];rfl,(Kept.refl _ _).alloc _⟩
 by_cases h2 : 1073741824 < ep
 ·have hr : chk ep l = 5 := by unfold chk;rw [if_pos (.inr h2)]
  have HR := hZ0 hr;clear hr
  go_enter Tryz.func112,Tryz.ntmps112
  go_wp2
  go_ret
  exact ⟨by rw [HR.out];rfl,(Kept.refl _ _).alloc _⟩
 by_cases h3 : l.length = 0
 ·have hr : chk ep l = 7 := by unfold chk;rw [if_neg (by omega),if_pos h3]
  have HR := hZ0 hr;clear hr
  rw [h3]
  clear h3
  go_enter Tryz.func112,Tryz.ntmps112
  go_wp2
  go_ret
  exact ⟨by rw [HR.out];rfl,(Kept.refl _ _).alloc _⟩
 have h3' : ((l.length : Int) == 0) = false := by rw [beq_eq_false_iff_ne];omega
 by_cases h4 : 4 < l.length
 ·have hr : chk ep l = 6 := by unfold chk;rw [if_neg (by omega),if_neg h3,if_pos h4]
  have HR := hZ0 hr;clear hr
  have h4' : (4 : Int) < l.length := by omega
  clear h3
  go_enter Tryz.func112,Tryz.ntmps112
  go_wp2
  go_ret
  exact ⟨by rw [HR.out];rfl,(Kept.refl _ _).alloc _⟩
 have hr : chk ep l = chkFrom (l.take 0) (l.drop 0) := by unfold chk;rw [if_neg (by omega),if_neg h3,if_neg h4];rfl
 have HR := hZ0 hr;clear hr
 have h4' : ¬ (4 : Int) < l.length := by omega
 have hnew := Has.new w 57 #[.int .i64 ep,.slice A l.length c,.int .u64 fl]
 have HN := hZ0 hnew;clear hnew
 clear h3 h4
 go_enter Tryz.func112,Tryz.ntmps112
 go_wp2_with fail
 go_loopw [3] (fun v3 wr => ∃ i : Nat,i <= l.length /\ v3 = .int .i64 i /\ Has wr w.heap.size 57 #[.int .i64 ep,.slice A l.length c,.int .u64 fl] /\ Kept NoF w wr /\ chk ep l = chkFrom (l.take i) (l.drop i)) (fun v3 _ => l.length - (intOf v3).toNat)
 case atStart => exact ⟨0,Nat.zero_le _,rfl,HN.out,(Kept.refl _ _).alloc _,HR.out⟩
 case round =>
  obtain ⟨i,hi,rfl,hh,hk,he⟩ := hrel
  have hlt0 := hh.lt
  have hsz := hk.size
  have e0 : wr.cell? ⟨w.heap.size,1,none⟩ = some (.slice A l.length c) := hh.cell 1
  have HH := hZ0 hh;clear hh
  have HK := hZ0 hk;clear hk
  have HE := hZ0 he;clear he
  by_cases hil : i < l.length
  ·obtain ⟨m,hm⟩ : ∃ m,l[i]? = some m := ⟨_,List.getElem?_eq_getElem hil⟩
   obtain ⟨ad,hA,had,d0,d1⟩ := mem_cells (HL.out.kept HK.out (fun _ _ x => x)) (by omega) i m hm
   subst hA
   have HM := hZ0 hm;clear hm
   have hone : oneE m (l.take i) = if m.1 < 0 \/ 4 <= m.1 then 1 else if m.2 < 1 \/ 1073741824 < m.2 then 5 else if anyId (l.take i) m.1 then 18 else 0 := rfl
   have HO := hZ0 hone;clear hone
   obtain ⟨m1,m2⟩ := m
   dsimp only at d0 d1 HO
   by_cases g1 : m1 < 0
   ·have hr : chk ep l = 1 := by
     have h1 := HO.out
     rw [if_pos (.inl g1)] at h1
     rw [HE.out,chkFrom_stop HM.out (by rw [h1];decide),h1]
    have HR := hZ0 hr;clear hr
    go_wp2
    go_ret
    exact ⟨by rw [HR.out];rfl,HK.out.alloc _⟩
   by_cases g2 : 4 <= m1
   ·have hr : chk ep l = 1 := by
     have h1 := HO.out
     rw [if_pos (.inr g2)] at h1
     rw [HE.out,chkFrom_stop HM.out (by rw [h1];decide),h1]
    have HR := hZ0 hr;clear hr
    go_wp2
    go_ret
    exact ⟨by rw [HR.out];rfl,HK.out.alloc _⟩
   by_cases g3 : m2 < 1
   ·have hr : chk ep l = 5 := by
     have h1 := HO.out
     rw [if_neg (by omega),if_pos (.inl g3)] at h1
     rw [HE.out,chkFrom_stop HM.out (by rw [h1];decide),h1]
    have HR := hZ0 hr;clear hr
    go_wp2
    go_ret
    exact ⟨by rw [HR.out];rfl,HK.out.alloc _⟩
   by_cases g4 : 1073741824 < m2
   ·have hr : chk ep l = 5 := by
     have h1 := HO.out
     rw [if_neg (by omega),if_pos (.inr g4)] at h1
     rw [HE.out,chkFrom_stop HM.out (by rw [h1];decide),h1]
    have HR := hZ0 hr;clear hr
    go_wp2
    go_ret
    exact ⟨by rw [HR.out];rfl,HK.out.alloc _⟩
   have h1 := HO.out
   rw [if_neg (by omega),if_neg (by omega)] at h1
   clear HO
   have HO := hZ0 h1;clear h1
   obtain ⟨wo,hwo⟩ : ∃ wo : World,wo = wr := ⟨_,rfl⟩
   subst hwo
   have hnew2 := Has.new wo 175 #[.int .i64 m1,.int .i64 m2]
   have HN2 := hZ0 hnew2;clear hnew2
   go_wp2_with fail
   go_loopw [5] (fun v5 wi => ∃ k : Nat,k <= i /\ v5 = .int .i64 k /\ Has wi w.heap.size 57 #[.int .i64 ep,.slice (some ad) l.length c,.int .u64 fl] /\ Has wi wo.heap.size 175 #[.int .i64 m1,.int .i64 m2] /\ Kept NoF w wi /\ anyId (l.take i) m1 = anyId ((l.take i).drop k) m1) (fun v5 _ => i - (intOf v5).toNat)
   case atStart => exact ⟨0,Nat.zero_le _,rfl,HH.out.alloc _,HN2.out,HK.out.alloc _,rfl⟩
   case round =>
    obtain ⟨k,hki,rfl,hh,hh2,hk,he2⟩ := hrel
    have e0 : wr.cell? ⟨w.heap.size,1,none⟩ = some (.slice (some ad) l.length c) := hh.cell 1
    have e1 : wr.cell? ⟨wo.heap.size,0,none⟩ = some (.int .i64 m1) := hh2.cell 0
    have HH' := hZ0 hh;clear hh
    have HH2 := hZ0 hh2;clear hh2
    have HK' := hZ0 hk;clear hk
    have HE2 := hZ0 he2;clear he2
    by_cases hkl : k < i
    ·obtain ⟨q,hq⟩ : ∃ q,l[k]? = some q := ⟨_,List.getElem?_eq_getElem (by omega)⟩
     obtain ⟨ad',hA,had',f0,f1⟩ := mem_cells (HL.out.kept HK'.out (fun _ _ x => x)) (by omega) k q hq
     injection hA with hA
     subst hA
     have hd : anyId ((l.take i).drop k) m1 = (decide (q.1 = m1) || anyId ((l.take i).drop (k + 1)) m1) := by
      have : (l.take i)[k]? = some q := by rw [List.getElem?_take,if_pos hkl];exact hq
      unfold anyId;rw [drop_cons this,List.any_cons]
     have HD := hZ0 hd;clear hd hq
     obtain ⟨q1,q2⟩ := q
     dsimp only at f0 f1 HD
     by_cases hqm : q1 = m1
     ·subst hqm
      have hr : chk ep l = 18 := by
       have h1 := HO.out
       rw [HE2.out,HD.out,if_pos (by simp)] at h1
       rw [HE.out,chkFrom_stop HM.out (by rw [h1];decide),h1]
      have HR := hZ0 hr;clear hr
      go_wp2_with fail
      go_quiet (fail)
      go_wp2
      go_ret
      exact ⟨by rw [HR.out];rfl,HK'.out.drewN _⟩
     ·have hne : (q1 == m1) = false := by simpa using hqm
      go_wp2_with fail
      go_quiet (fail)
      go_wp2
      go_roundw
      case rel => exact ⟨k + 1,by omega,by go_num,HH'.out.drewN _,HH2.out.drewN _,HK'.out.drewN _,by rw [HE2.out,HD.out];simp [hqm]⟩
      case measure => simp [intOf];omega
    ·obtain rfl : k = i := by omega
     have hz : anyId (l.take k) m1 = false := by
      rw [HE2.out,List.drop_of_length_le (by simp;omega)];rfl
     have hs : chk ep l = chkFrom (l.take (k + 1)) (l.drop (k + 1)) := by
      have h1 := HO.out
      rw [hz,if_neg (by simp)] at h1
      rw [HE.out,chkFrom_step HM.out h1]
     have HS := hZ0 hs;clear hs hz
     go_wp2
     go_roundw
     case rel => exact ⟨k + 1,by omega,by go_num,HH'.out,HK'.out,HS.out⟩
     case measure => simp [intOf];omega
  ·obtain rfl : i = l.length := by omega
   have hr : chk ep l = 0 := by rw [HE.out,List.drop_length];rfl
   have HR := hZ0 hr;clear hr
   go_wp2
   go_ret
   exact ⟨by rw [HR.out];rfl,HK.out⟩
end Plan
namespace Plan
def NewRow (b : Nat) (w : World) (A : Option Addr) (n c : Nat) (l : List Mem) : Prop :=
 n = l.length /\ w.ownsRow 0 175 2 (.slice A n c) n (mcells l) /\ ∀ k,(Value.slice A n c).ownBlock = some k -> b <= k
theorem NewRow.nil (b : Nat) (w : World) : NewRow b w none 0 0 [] := ⟨rfl,⟨rfl,.inl ⟨rfl,rfl⟩⟩,fun k hk => by cases hk⟩
theorem NewRow.kept {b : Nat} {w w' : World} {A : Option Addr} {n c : Nat} {l : List Mem} (h : NewRow b w A n c l) (hk : Kept NoF w w') : NewRow b w' A n c l :=
 ⟨h.1,own_kept h.2.1 hk (fun _ _ x => x),h.2.2⟩
end Plan
namespace Plan
def NewInts (b : Nat) (w : World) (A : Option Addr) (n c : Nat) (l : List Int) : Prop :=
 n = l.length /\ w.ownsRow 0 3 1 (.slice A n c) n (ints l) /\ ∀ k,(Value.slice A n c).ownBlock = some k -> b <= k
theorem NewInts.nil (b : Nat) (w : World) : NewInts b w none 0 0 [] := ⟨rfl,⟨rfl,.inl ⟨rfl,rfl⟩⟩,fun k hk => by cases hk⟩
theorem NewInts.kept {b : Nat} {w w' : World} {A : Option Addr} {n c : Nat} {l : List Int} (h : NewInts b w A n c l) (hk : Kept NoF w w') : NewInts b w' A n c l :=
 ⟨h.1,own_kept h.2.1 hk (fun _ _ x => x),h.2.2⟩
theorem NewRow.mono {b b' : Nat} {w : World} {A : Option Addr} {n c : Nat} {l : List Mem} (h : NewRow b w A n c l) (hb : b' <= b) : NewRow b' w A n c l := ⟨h.1,h.2.1,fun k hk => Nat.le_trans hb (h.2.2 k hk)⟩
theorem NewRow.ne {b : Nat} {w : World} {A : Option Addr} {n c : Nat} {l : List Mem} (h : NewRow b w A n c l) {g : Nat} {t : TypeId} {cs : Array Value} (hg : Has w g t cs) (hne : 175 ≠ t) : (Value.slice A n c).ownBlock ≠ some g := own_ne h.2.1 hg hne
def nagg (N : Next) (A : Option Addr) (n c : Nat) (B : Option Addr) (m d : Nat) : Value := .tuple #[cagg N.ep A n c N.fl,.slice B m d,.int .i64 N.e]
def NextPost (w : World) (N : Next) (e : Ending) (w' : World) : Prop :=
 ∃ A n c B m d,e = .returned (nagg N A n c B m d) /\ NewRow w.heap.size w' A n c N.l /\ NewInts w.heap.size w' B m d N.t /\ Kept NoF w w'
end Plan
end Go.Proofs.YtgbigpdiacjbgaaGreat
namespace Go.Proofs.YtgbigpdiacjbgaaGreat
open Go.RowKit Go.Shelf
set_option maxRecDepth 100000
namespace Plan
def Tells (w : World) (g : Nat) (lb : Array Value) (l : List Mem) (p : Mem -> Bool) : Prop :=
 ∀ W m,Kept NoF w W -> m ∈ l -> Calls Tryz.prog g (#[magg m] ++ lb) W fun e w' => e = .returned (.bool (p m)) /\ Kept NoF W w'
theorem Tells.kept {w w' : World} {g : Nat} {lb : Array Value} {l : List Mem} {p : Mem -> Bool} (h : Tells w g lb l p) (hk : Kept NoF w w') : Tells w' g lb l p := fun W m hW hm => h W m (hk.then hW) hm
def anyP (p : Mem -> Bool) (l : List Mem) : Bool := l.any p
theorem index_any (w : World) (A : Option Addr) (c : Nat) (l : List Mem) (p : Mem -> Bool) (g : Nat) (lb : Array Value) (hl : Src w 2 A l.length (mcells l)) (hlen : l.length <= 1000000)
  (eg : ∀ args w,(callFunc g args).run Tryz.prog w = .ok (.enter g args) w) (hp : Tells w g lb l p) :
  Calls Tryz.prog 188 #[.slice A l.length c,.func (.func g) #[] lb] w fun e w' => (∃ n : Int,e = .returned (.int .i64 n) /\ (0 <= n ↔ anyP p l = true)) /\ Kept NoF w w' := by
 have HL := hZ0 hl;clear hl
 have HP := hZ0 hp;clear hp
 go_enter Tryz.func188,Tryz.ntmps188
 go_wp2_with fail
 go_loopw [8] (fun v8 wr => ∃ i : Nat,i <= l.length /\ v8 = .int .i64 i /\ Kept NoF w wr /\ anyP p l = anyP p (l.drop i)) (fun v8 _ => l.length - (intOf v8).toNat)
 case atStart => exact ⟨0,Nat.zero_le _,rfl,Kept.refl _ _,rfl⟩
 case round =>
  obtain ⟨i,hi,rfl,hk,he⟩ := hrel
  have HK := hZ0 hk;clear hk
  have HE := hZ0 he;clear he
  by_cases hil : i < l.length
  ·obtain ⟨m,hm⟩ : ∃ m,l[i]? = some m := ⟨_,List.getElem?_eq_getElem hil⟩
   obtain ⟨ad,hA,had,d0,d1⟩ := mem_cells (HL.out.kept HK.out (fun _ _ x => x)) (by omega) i m hm
   subst hA
   have hcall := HP.out wr m HK.out (List.mem_of_getElem? hm)
   have hs : anyP p (l.drop i) = (p m || anyP p (l.drop (i + 1))) := by unfold anyP;rw [drop_cons hm,List.any_cons]
   obtain ⟨b,hb⟩ : ∃ b,p m = b := ⟨_,rfl⟩
   rw [hb] at hcall hs
   have HS := hZ0 hs;clear hs hm hb
   obtain ⟨m1,m2⟩ := m
   unfold magg at hcall
   dsimp only at d0 d1 hcall
   have HC := hZ0 hcall;clear hcall
   cases b
   ·go_wp2_with fail
    refine HC.out.mono ?_
    rintro e w2 ⟨rfl,hk2⟩
    have hk3 := HK.out.then hk2
    have HK3 := hZ0 hk3;clear hk3 hk2
    go_wp2
    go_roundw
    case rel => exact ⟨i + 1,by omega,by go_num,HK3.out,by rw [HE.out,HS.out];rfl⟩
    case measure => simp [intOf];omega
   ·go_wp2_with fail
    refine HC.out.mono ?_
    rintro e w2 ⟨rfl,hk2⟩
    have hk3 := HK.out.then hk2
    have HK3 := hZ0 hk3;clear hk3 hk2
    go_wp2
    go_ret
    exact ⟨⟨_,rfl,⟨fun _ => by rw [HE.out,HS.out];rfl,fun _ => by omega⟩⟩,HK3.out⟩
  ·obtain rfl : i = l.length := by omega
   go_wp2
   go_ret
   exact ⟨⟨-1,rfl,⟨fun h => by omega,fun h => by rw [HE.out,List.drop_length] at h;cases h⟩⟩,HK.out⟩
theorem contains_any (w : World) (A : Option Addr) (c : Nat) (l : List Mem) (p : Mem -> Bool) (g : Nat) (lb : Array Value) (hl : Src w 2 A l.length (mcells l)) (hlen : l.length <= 1000000)
  (eg : ∀ args w,(callFunc g args).run Tryz.prog w = .ok (.enter g args) w) (hp : Tells w g lb l p) :
  Calls Tryz.prog 185 #[.slice A l.length c,.func (.func g) #[] lb] w fun e w' => e = .returned (.bool (anyP p l)) /\ Kept NoF w w' := by
 have hi := index_any w A c l p g lb hl hlen eg hp
 have HI := hZ0 hi;clear hi hl hp eg
 obtain ⟨b,hb⟩ : ∃ b,anyP p l = b := ⟨_,rfl⟩
 rw [hb] at HI ⊢
 clear hb
 go_enter Tryz.func185,Tryz.ntmps185
 go_wp2_with fail
 refine HI.out.mono ?_
 rintro e w2 ⟨⟨n,rfl,hn⟩,hk⟩
 have HN := hZ0 hn;clear hn
 go_wp2
 go_ret
 refine ⟨?_,hk⟩
 have h := HN.out
 cases b
 ·have : decide (0 <= n) = false := by rw [decide_eq_false_iff_not];intro x;have := h.1 x;cases this
  rw [<- this];rfl
 ·have : decide (0 <= n) = true := by rw [decide_eq_true_eq];exact h.2 rfl
  rw [<- this];rfl
theorem twin_any (W : World) (B : Nat) (m x : Mem) (hB : Has W B 175 #[.int .i64 m.1,.int .i64 m.2]) :
  Calls Tryz.prog 184 #[magg x,.pointer (some ⟨B,0,none⟩)] W fun e w' => e = .returned (.bool (decide (x.1 = m.1))) /\ Kept NoF W w' := by
 have hlt := hB.lt
 have hne : B ≠ W.heap.size := by omega
 obtain ⟨x1,x2⟩ := x
 obtain ⟨m1,m2⟩ := m
 have c0 : ∀ o,(W.alloc o).cell? ⟨B,0,none⟩ = some (.int .i64 m1) := fun o => (hB.alloc o).cell 0
 clear hB hlt
 unfold magg
 dsimp only
 go_enter Tryz.func184,Tryz.ntmps184
 go_wp2
 go_ret
 exact ⟨by by_cases h : x1 = m1 <;> simp [h],(Kept.refl _ _).alloc _⟩
theorem one_eg : ∀ args w,(callFunc 184 args).run Tryz.prog w = .ok (.enter 184 args) w := enters_of Tryz.func184 (by kernel_rfl) rfl
theorem one_any (w : World) (A : Option Addr) (c : Nat) (l : List Mem) (m : Mem) (hl : Src w 2 A l.length (mcells l)) (hlen : l.length <= 1000000) :
  Calls Tryz.prog 174 #[magg m,.slice A l.length c] w fun e w' => e = .returned (.int .i64 (oneE m l)) /\ Kept NoF w w' := by
 have hone : oneE m l = if m.1 < 0 \/ 4 <= m.1 then 1 else if m.2 < 1 \/ 1073741824 < m.2 then 5 else if anyP (fun x => decide (x.1 = m.1)) l then 18 else 0 := rfl
 have hnb := Has.new w 175 #[.int .i64 m.1,.int .i64 m.2]
 have hco := contains_any (w.alloc (.cells #[.int .i64 m.1,.int .i64 m.2] 175)) A c l (fun x => decide (x.1 = m.1)) 184 #[.pointer (some ⟨w.heap.size,0,none⟩)] (hl.kept ((Kept.refl NoF w).alloc _) (fun _ _ x => x)) hlen one_eg
  (fun W x hW _ => twin_any W w.heap.size m x (hnb.kept hW (fun x => x)))
 obtain ⟨b,hb⟩ : ∃ b,anyP (fun x => decide (x.1 = m.1)) l = b := ⟨_,rfl⟩
 rw [hb] at hco hone
 have HCO := hZ0 hco;clear hco hnb hl hb
 obtain ⟨r,hr⟩ : ∃ r,oneE m l = r := ⟨_,rfl⟩
 rw [hr] at hone ⊢
 clear hr
 obtain ⟨m1,m2⟩ := m
 unfold magg
 dsimp only at hone HCO ⊢
 have HONE := hZ0 hone;clear hone
 by_cases g1 : m1 < 0
 ·have h1 := HONE.out
  rw [if_pos (.inl g1)] at h1
  subst h1
  go_enter Tryz.func174,Tryz.ntmps174
  go_wp2
  go_ret
  exact ⟨rfl,(Kept.refl _ _).alloc _⟩
 by_cases g2 : 4 <= m1
 ·have h1 := HONE.out
  rw [if_pos (.inr g2)] at h1
  subst h1
  go_enter Tryz.func174,Tryz.ntmps174
  go_wp2
  go_ret
  exact ⟨rfl,(Kept.refl _ _).alloc _⟩
 by_cases g3 : m2 < 1
 ·have h1 := HONE.out
  rw [if_neg (by omega),if_pos (.inl g3)] at h1
  subst h1
  go_enter Tryz.func174,Tryz.ntmps174
  go_wp2
  go_ret
  exact ⟨rfl,(Kept.refl _ _).alloc _⟩
 by_cases g4 : 1073741824 < m2
 ·have h1 := HONE.out
  rw [if_neg (by omega),if_pos (.inr g4)] at h1
  subst h1
  go_enter Tryz.func174,Tryz.ntmps174
  go_wp2
  go_ret
  exact ⟨rfl,(Kept.refl _ _).alloc _⟩
 have h1 := HONE.out
 rw [if_neg (by omega),if_neg (by omega)] at h1
 cases b
 ·rw [if_neg (by decide)] at h1
  subst h1
  go_enter Tryz.func174,Tryz.ntmps174
  go_wp2_with fail
  refine HCO.out.mono ?_
  rintro e w2 ⟨rfl,hk⟩
  go_wp2
  go_ret
  exact ⟨rfl,((Kept.refl _ _).alloc _).then hk⟩
 ·rw [if_pos rfl] at h1
  subst h1
  go_enter Tryz.func174,Tryz.ntmps174
  go_wp2_with fail
  refine HCO.out.mono ?_
  rintro e w2 ⟨rfl,hk⟩
  go_wp2
  go_ret
  exact ⟨rfl,((Kept.refl _ _).alloc _).then hk⟩
end Plan
end Go.Proofs.YtgbigpdiacjbgaaGreat
namespace Go.Proofs.YtgbigpdiacjbgaaGreat
open Go.RowKit Go.Shelf Go.Maps
set_option maxRecDepth 100000
namespace Plan
def I64 (k : Int) : Prop := (Lit.int .i64 k).wf = true
def SetIs (w : World) (b n : Nat) (s : Int -> Bool) : Prop :=
 ∃ D : DataW Unit,w.ownsMap Tryz.prog 3 (plainElem Tryz.prog 4) b n D /\ ∀ k,I64 k -> D.atKey (.int .i64 k) (.lit (.bool false)) = .lit (.bool (s k))
theorem SetIs.lt {w : World} {b n : Nat} {s : Int -> Bool} (h : SetIs w b n s) : b < w.heap.size := by
 obtain ⟨D,h,_⟩ := h
 exact h.lt
theorem SetIs.kept {F : Nat -> Prop} {w w' : World} {b n : Nat} {s : Int -> Bool} (h : SetIs w b n s) (hk : Kept F w w') (hf : ¬ F b) : SetIs w' b n s := by
 obtain ⟨D,ho,hD⟩ := h
 have hlt := ho.lt
 obtain ⟨es,clock,hb,hF,hs,e⟩ := ho
 exact ⟨D,⟨es,clock,(hk.block b hlt hf).trans hb,hF,hs,e⟩,hD⟩
theorem SetIs.ne {w : World} {b n g : Nat} {s : Int -> Bool} {t : TypeId} {cs : Array Value} (h : SetIs w b n s) (hg : Has w g t cs) : b ≠ g := by
 rintro rfl
 obtain ⟨D,⟨es,clock,hb,_⟩,_⟩ := h
 unfold Has at hg
 rw [hg] at hb
 cases hb
end Plan
end Go.Proofs.YtgbigpdiacjbgaaGreat
namespace Go.Proofs.YtgbigpdiacjbgaaGreat
open Go.RowKit Go.WideShapes Go.ChangeShapes
set_option maxRecDepth 100000
namespace MO
open Plan Ops Ent Msg
structure MGood (w : World) (x : MsgR) : Prop where
 m : Src w 2 x.mA x.ms.length (mcells x.ms)
 mc : x.ms.length <= x.mc
 o : Src w 3 x.oA x.ops.length (cells x.ops)
 e : Src w 4 x.eA x.es.length (ecells x.es)
 eo : ∀ y ∈ x.es,Src w 3 y.A y.ops.length (cells y.ops) /\ 0 <= y.ts /\ y.ts <= maxTs
 s : Src w 1 x.sA x.ss.length (u64s x.ss)
 so : ∀ y ∈ x.ss,0 <= y /\ y <= maxTs
 p : Src w 2 x.pA x.ps.length (Ops.pcells x.ps)
 t : (0 <= x.at' /\ x.at' <= maxTs) /\ (0 <= x.last /\ x.last <= maxTs) /\ (0 <= x.cfl /\ x.cfl <= maxTs)
 i : I64 x.ser
 pk : ∀ y ∈ x.ps,y.key.size <= maxLen /\ y.val.size <= maxLen
 pcap : x.ps.length <= x.pc /\ x.pc <= maxLen
 kt : x.key.size <= maxLen /\ x.to.size <= maxLen
 is : I64 x.n /\ I64 x.req /\ I64 x.e /\ I64 x.ep
 lens : x.ms.length <= maxLen /\ x.ops.length <= maxLen /\ x.es.length <= maxLen /\ x.ss.length <= maxLen /\ x.ps.length <= maxLen
theorem MGood.kept {w w' : World} {x : MsgR} (h : MGood w x) (hk : Kept NoF w w') : MGood w' x :=
 ⟨h.m.kept hk (fun _ _ z => z),h.mc,h.o.kept hk (fun _ _ z => z),h.e.kept hk (fun _ _ z => z),(fun y hy => ⟨(h.eo y hy).1.kept hk (fun _ _ z => z),(h.eo y hy).2⟩),h.s.kept hk (fun _ _ z => z),h.so,h.p.kept hk (fun _ _ z => z),h.t,h.i,h.pk,h.pcap,h.kt,h.is,h.lens⟩
theorem MGood.ok {w : World} {x : MsgR} (h : MGood w x) (h1 : x.ms.length <= 20) (h3 : x.es.length <= 20) (h4 : x.ss.length <= 20) (h5 : x.ps.length <= 40) : XOk w x :=
 ⟨h.m,h.mc,by omega,h.o,h.e,h.eo,by omega,h.s,by omega,h.so,h.p,by omega,h.t⟩
theorem trod_fld {H : Type} {enc : TypeId × Value -> H} {P : Program} {w : World} {base : Nat} {spare : Nat -> Bool} {held : Bool} {t : TypeId} {fs : Array Field} {fuel : Nat} {cs : List Value} {x : DataW H × List MemPlace}
  (ht : P.underlying t = some (.struct fs)) (h : DataW.trod enc P w base spare held fuel t cs = some x) :
  cs.length = P.cellsOf t /\ ∃ n,∀ (i : Nat) (f : Field),fs[i]? = some f -> ∃ y,DataW.trod enc P w base spare held n f.type ((cs.drop f.offset).take (P.cellsOf f.type)) = some y := by
 obtain ⟨xs,n,_,rfl,hl,hlen,hf⟩ := DataW.trod_struct ht h
 refine ⟨hl,n,fun i f hi => ?_⟩
 have h1 := hf i f hi
 have h2 : i < xs.length := by rw [hlen];exact (Array.getElem?_eq_some_iff.1 hi).1
 exact ⟨xs[i],h1.trans (List.getElem?_eq_getElem h2)⟩
section
variable {H : Type} {enc : TypeId × Value -> H} {W : World} {v : Value} {d : DataW H} {ps : List MemPlace} {r : Reach} {b0 : Nat}
theorem u64r {x : Int} (h : (Lit.int .u64 x).wf = true) : 0 <= x /\ x <= maxTs := by
 unfold maxTs
 simpa [Lit.wf,IntKind.min,IntKind.max,IntKind.signed,IntKind.bits] using h
theorem slice_of {t e : TypeId} {fuel : Nat} {c0 : Value} {y : DataW H × List MemPlace} (ht : Tryz.prog.underlying t = some (.slice e)) (h : DataW.trod enc Tryz.prog W 0 (fun _ => true) true fuel t [c0] = some y) :
  (∃ A n c,c0 = .slice A n c) /\ DataW.Trod enc Tryz.prog W 0 (fun _ => true) true t c0 y.1 y.2 := by
 have hv1 : ∃ A n c,c0 = .slice A n c := by
  rcases Deep.open_slice ht h with ⟨e,_⟩ | ⟨a,len,cap,_,_,_,_,e,_⟩
  ·simp at e;exact ⟨_,_,_,e⟩
  ·simp at e;exact ⟨_,_,_,e⟩
 refine ⟨hv1,?_⟩
 obtain ⟨A,k',c,rfl⟩ := hv1
 exact ⟨fuel,h⟩
end
end MO
end Go.Proofs.YtgbigpdiacjbgaaGreat
