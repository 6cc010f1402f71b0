/- Part 6 of what the proof needs. -/
import Derived.Test.YtobfdolhgnoedaaAM02
import Derived.Test.YtobfdolhgnoedaaAM03
import Derived.Test.YtobfdolhgnoedaaAM04
import Derived.Lib.Strings
set_option linter.unusedSimpArgs false
set_option linter.unusedVariables false
set_option maxHeartbeats 32000000
set_option maxRecDepth 100000
namespace Go.Proofs.Ytobfdolhgnoedaa
open Go.RowKit
set_option maxRecDepth 100000
namespace Msg
open Plan Ops Ent Vn
structure MsgR where
 k : Int
 ep : Int
 req : Int
 ser : Int
 fl : Bool
 at' : Int
 last : Int
 n : Int
 m : Int
 p : Int
 e : Int
 key : ByteArray
 to : ByteArray
 cep : Int
 mA : Option Addr
 mc : Nat
 ms : List Mem
 cfl : Int
 bcl : Int
 breq : Int
 oA : Option Addr
 oc : Nat
 ops : List OpR
 eA : Option Addr
 ec : Nat
 es : List EntR
 sA : Option Addr
 sc : Nat
 ss : List Int
 pA : Option Addr
 pc : Nat
 ps : List PairR
def u64s (l : List Int) : List Value := l.map (Value.int .u64)
def xcell (x : MsgR) : List Value := [.int .i64 x.k,.int .i64 x.ep,.int .i64 x.req,.int .i64 x.ser,.bool x.fl,.int .u64 x.at',.int .u64 x.last,.int .i64 x.n,.int .i64 x.m,.int .i64 x.p,.int .i64 x.e,.string x.key,.string x.to,
 .int .i64 x.cep,.slice x.mA x.ms.length x.mc,.int .u64 x.cfl,.int .i64 x.bcl,.int .i64 x.breq,.slice x.oA x.ops.length x.oc,.slice x.eA x.es.length x.ec,.slice x.sA x.ss.length x.sc,.slice x.pA x.ps.length x.pc]
abbrev xagg (x : MsgR) : Value := .agg (xcell x).toArray
def xbat (x : MsgR) : Batch := ⟨x.bcl,x.breq,x.ops⟩
structure XOk (w : World) (x : MsgR) : Prop where
 m : Src w 2 x.mA x.ms.length (mcells x.ms)
 mc : x.ms.length <= x.mc
 ml : x.ms.length <= 1000
 o : Src w 3 x.oA x.ops.length (cells x.ops)
 e : Src w 4 x.eA x.es.length (ecells x.es)
 eo : ∀ y ∈ x.es,Src w 3 y.A y.ops.length (cells y.ops) /\ 0 <= y.ts /\ y.ts <= maxTs
 el : x.es.length <= 1000
 s : Src w 1 x.sA x.ss.length (u64s x.ss)
 sl : x.ss.length <= 1000
 so : ∀ y ∈ x.ss,0 <= y /\ y <= maxTs
 p : Src w 2 x.pA x.ps.length (pcells x.ps)
 pl : x.ps.length <= 1000
 t : (0 <= x.at' /\ x.at' <= maxTs) /\ (0 <= x.last /\ x.last <= maxTs) /\ (0 <= x.cfl /\ x.cfl <= maxTs)
theorem XOk.kept {w w' : World} {x : MsgR} (h : XOk w x) (hk : Kept NoF w w') : XOk w' x :=
 ⟨h.m.kept hk (fun _ _ z => z),h.mc,h.ml,h.o.kept hk (fun _ _ z => z),h.e.kept hk (fun _ _ z => z),fun y hy => ⟨(h.eo y hy).1.kept hk (fun _ _ z => z),(h.eo y hy).2⟩,h.el,h.s.kept hk (fun _ _ z => z),h.sl,h.so,h.p.kept hk (fun _ _ z => z),h.pl,h.t⟩
def partsL : List (List Nat) := [[],[67,97],[101,115,102,97,108],[101,110,109,112,114,97,69],[101,110,109,112,83],[101,66],[114,97],[114,120,101,110],[114,107,97],[114,107,116,97,110],[114,107,97,102,82],[114,97],[114,110],[114,110],[114,110],[]]
def partsOf (k : Int) : List Nat := if 1 <= k /\ k <= 15 then partsL.getD k.toNat [] else []
def letters : List Nat := [67,97,101,115,102,108,110,109,112,114,69,83,66,120,107,116,82]
theorem parts_letters (k : Int) : ∀ c ∈ partsOf k,c ∈ letters := by
 unfold partsOf
 by_cases h : 1 <= k /\ k <= 15
 ·rw [if_pos h]
  have : k = 1 \/ k = 2 \/ k = 3 \/ k = 4 \/ k = 5 \/ k = 6 \/ k = 7 \/ k = 8 \/ k = 9 \/ k = 10 \/ k = 11 \/ k = 12 \/ k = 13 \/ k = 14 \/ k = 15 := by omega
  rcases this with rfl | rfl | rfl | rfl | rfl | rfl | rfl | rfl | rfl | rfl | rfl | rfl | rfl | rfl | rfl <;> decide
 ·rw [if_neg h];intro c hc;simp at hc
theorem parts_len (k : Int) : (partsOf k).length <= 7 := by
 unfold partsOf
 by_cases h : 1 <= k /\ k <= 15
 ·rw [if_pos h]
  have : k = 1 \/ k = 2 \/ k = 3 \/ k = 4 \/ k = 5 \/ k = 6 \/ k = 7 \/ k = 8 \/ k = 9 \/ k = 10 \/ k = 11 \/ k = 12 \/ k = 13 \/ k = 14 \/ k = 15 := by omega
  rcases this with rfl | rfl | rfl | rfl | rfl | rfl | rfl | rfl | rfl | rfl | rfl | rfl | rfl | rfl | rfl <;> decide
 ·rw [if_neg h];decide
def lets (l : List Nat) : ByteArray := ofL (byt l)
def keyE (s : ByteArray) : Int := if s.size < 1 \/ 8 < s.size then 10 else 0
end Msg
end Go.Proofs.Ytobfdolhgnoedaa
namespace Go.Proofs.Ytobfdolhgnoedaa.Keys
theorem less_total (x y : List UInt8) (h : Op.bytesLess x y = false) (hne : x ≠ y) : Op.bytesLess y x = true := by
 induction x generalizing y with
 | nil => cases y with
  | nil => exact absurd rfl hne
  | cons b y => simp [Op.bytesLess] at h
 | cons a x ih => cases y with
  | nil => rfl
  | cons b y =>
   simp only [Op.bytesLess,Bool.or_eq_false_iff,Bool.and_eq_false_iff,decide_eq_false_iff_not,beq_eq_false_iff_ne] at h
   simp only [Op.bytesLess,Bool.or_eq_true,Bool.and_eq_true,decide_eq_true_eq,beq_iff_eq]
   obtain ⟨h1,h2⟩ := h
   by_cases e : a = b
   ·subst e
    rcases h2 with h2 | h2
    ·exact absurd rfl h2
    ·exact .inr ⟨rfl,ih y h2 (fun e => hne (by rw [e]))⟩
   ·rw [UInt8.lt_iff_toNat_lt] at *
    have : a.toNat ≠ b.toNat := fun k => e (UInt8.toNat_inj.1 k)
    exact .inl (by omega)
def nextAt (l : List UInt8) : Nat -> List UInt8
 | 0 => []
 | k + 1 => if l.getD k 0 < 255 then l.take k ++ [l.getD k 0 + 1] else nextAt l k
def nextL (l : List UInt8) : List UInt8 := if l.length < 8 then l ++ [0] else nextAt l 8
end Go.Proofs.Ytobfdolhgnoedaa.Keys
namespace Go.Proofs.Ytobfdolhgnoedaa
open Go.RowKit
set_option maxRecDepth 100000
namespace Ask
open Plan Ops Ent Msg
structure AskR where
 k : Int
 nd : Int
 key : ByteArray
 to : ByteArray
 at' : Int
 n : Int
 A : Option Addr
 c : Nat
 ops : List OpR
def qcell (a : AskR) : List Value := [.int .i64 a.k,.int .i64 a.nd,.string a.key,.string a.to,.int .u64 a.at',.int .i64 a.n,.slice a.A a.ops.length a.c]
abbrev qagg (a : AskR) : Value := .agg (qcell a).toArray
structure RepR where
 req : Int
 e : Int
 at' : Int
 pin : Int
 ps : List PairR
def rep0 : RepR := ⟨0,0,0,0,[]⟩
def rcell (r : RepR) (A : Option Addr) (c : Nat) : List Value := [.int .i64 r.req,.int .i64 r.e,.int .u64 r.at',.int .i64 r.pin,.slice A r.ps.length c]
abbrev ragg (r : RepR) (A : Option Addr) (c : Nat) : Value := .agg (rcell r A c).toArray
structure TS where
 cl : Int
 rq : Int
 a : AskR
 bo : List OpR
 ph : Nat
 at' : Int
 key : ByteArray
 ps : List PairR
 waits : Int
 dn : Bool
 r : RepR
def zmsg : MsgR := ⟨0,0,0,0,false,0,0,0,0,0,0,⟨#[]⟩,⟨#[]⟩,0,none,0,[],0,0,0,none,0,[],none,0,[],none,0,[],none,0,[]⟩
def sizeT (t : TS) : Int := min 2 (t.a.n - t.ps.length)
def nextT (t : TS) (ep hd : Int) : Int × MsgR :=
 if t.dn = true then (-1,zmsg)
 else if t.ph = 0 then (if hd < 0 then (4,{ zmsg with k := 15 }) else (hd,{ zmsg with k := 5,ep := max ep 0,bcl := t.cl,breq := t.rq,ops := t.bo }))
 else if t.ph = 1 then (if t.a.k = 2 then (t.a.nd,{ zmsg with k := 9,req := t.rq,key := t.key,to := t.a.to,at' := t.at',n := sizeT t }) else (t.a.nd,{ zmsg with k := 8,req := t.rq,key := t.key,at' := t.at' }))
 else if t.a.k = 4 then (4,{ zmsg with k := 11,req := t.rq,at' := t.a.at' })
 else if t.a.k = 5 then (4,{ zmsg with k := 12,req := t.rq,n := t.a.n })
 else (4,{ zmsg with k := 13,req := t.rq,n := t.a.n })
def endT (t : TS) (r : RepR) : TS := { t with dn := true,r := { r with req := t.rq } }
def nextKey (l : List PairR) : ByteArray := match l.getLast? with
 | none => emp
 | some p => ofL (Keys.nextL (bl p.key))
def pageL (t : TS) (x : MsgR) : List PairR := x.ps.take (sizeT t).toNat
def goesOn (t : TS) (x : MsgR) : Bool := x.fl && (decide (0 < (pageL t x).length) && (decide ((t.ps.length + (pageL t x).length : Nat) < t.a.n) && decide (nextKey (pageL t x) ≠ emp)))
def pageT (t : TS) (x : MsgR) : TS × Bool :=
 if goesOn t x = true then ({ t with ps := t.ps ++ pageL t x,waits := 0,key := nextKey (pageL t x) },true)
 else (endT { t with ps := t.ps ++ pageL t x,waits := 0 } ⟨0,0,t.at',0,t.ps ++ pageL t x⟩,false)
def fromT (t : TS) (f : Int) : Bool := if t.ph = 0 then decide (0 <= f /\ f < 4) else if t.ph = 1 then decide (f = t.a.nd) else decide (f = 4)
def takeW (t : TS) (x : MsgR) : TS × Bool :=
 if x.k = 7 /\ x.e = 16 then (endT t ⟨0,x.e,0,0,[]⟩,false)
 else if x.k ≠ 6 then (t,false)
 else if t.a.k = 0 then (endT t ⟨0,0,x.at',0,[]⟩,false)
 else ({ t with ph := 1,at' := x.at',key := t.a.key,ps := [],waits := 0 },true)
def takeR (t : TS) (x : MsgR) : TS × Bool :=
 if x.k = 7 /\ (t.a.k ≠ 3 \/ x.e ≠ 12) then (endT t ⟨0,x.e,0,0,[]⟩,false)
 else if x.k ≠ 10 \/ x.at' ≠ t.at' \/ x.key ≠ t.key then (t,false)
 else if t.a.k ≠ 2 then (endT t ⟨0,0,t.at',0,x.ps.take 1⟩,false)
 else pageT t x
def takeA (t : TS) (x : MsgR) : TS × Bool :=
 if x.k = 14 then (endT t ⟨0,0,0,x.n,[]⟩,false)
 else if x.k = 7 then (endT t ⟨0,x.e,0,0,[]⟩,false)
 else (t,false)
def takeT (t : TS) (f : Int) (x : MsgR) : TS × Bool :=
 if t.dn = true \/ x.req ≠ t.rq \/ fromT t f = false then (t,false)
 else if t.ph = 0 then takeW t x else if t.ph = 1 then takeR t x else takeA t x
def tickT (t : TS) : TS × Bool :=
 if t.dn = true then (t,false)
 else if t.ph = 1 /\ 16 < min (t.waits + 1) 1073741824 then (endT { t with waits := min (t.waits + 1) 1073741824 } ⟨0,21,0,0,[]⟩,false)
 else ({ t with waits := min (t.waits + 1) 1073741824 },true)
def repT (t : TS) : RepR := if t.dn = true then t.r else rep0
end Ask
namespace Plan
theorem chkFrom_step {l : List Mem} {i : Nat} {m : Mem} (h : l[i]? = some m) (h0 : oneE m (l.take i) = 0) : chkFrom (l.take i) (l.drop i) = chkFrom (l.take (i + 1)) (l.drop (i + 1)) := by
 rw [drop_cons h,take_snoc h]
 conv => lhs;unfold chkFrom
 rw [if_pos h0]
theorem chkFrom_stop {l : List Mem} {i : Nat} {m : Mem} (h : l[i]? = some m) (h0 : oneE m (l.take i) ≠ 0) : chkFrom (l.take i) (l.drop i) = oneE m (l.take i) := by
 rw [drop_cons h]
 unfold chkFrom
 rw [if_neg h0]
theorem rcheck_any (w : World) (ep fl : Int) (A : Option Addr) (c : Nat) (l : List Mem) (hl : Src w 2 A l.length (mcells l)) (hlen : l.length <= 1000000) :
  Calls Try.prog 54 #[cagg ep A l.length c fl] w fun e w' => e = .returned (.int .i64 (chk ep l)) /\ Kept NoF w w' := by
 have HL := hZ0 hl;clear hl
 by_cases h1 : ep < 1
 ·have hr : chk ep l = 5 := by unfold chk;rw [if_pos (.inl h1)]
  have HR := hZ0 hr;clear hr
  go_enter Try.func54,Try.ntmps54
  go_wp2
  go_ret
  exact ⟨by rw [HR.out];rfl,(Kept.refl _ _).alloc _⟩
 by_cases h2 : 1073741824 < ep
 ·have hr : chk ep l = 5 := by unfold chk;rw [if_pos (.inr h2)]
  have HR := hZ0 hr;clear hr
  go_enter Try.func54,Try.ntmps54
  go_wp2
  go_ret
  exact ⟨by rw [HR.out];rfl,(Kept.refl _ _).alloc _⟩
 by_cases h3 : l.length = 0
 ·have hr : chk ep l = 7 := by unfold chk;rw [if_neg (by omega),if_pos h3]
  have HR := hZ0 hr;clear hr
  rw [h3]
  clear h3
  go_enter Try.func54,Try.ntmps54
  go_wp2
  go_ret
  exact ⟨by rw [HR.out];rfl,(Kept.refl _ _).alloc _⟩
 have h3' : ((l.length : Int) == 0) = false := by rw [beq_eq_false_iff_ne];omega
 by_cases h4 : 4 < l.length
 ·have hr : chk ep l = 6 := by unfold chk;rw [if_neg (by omega),if_neg h3,if_pos h4]
  have HR := hZ0 hr;clear hr
  have h4' : (4 : Int) < l.length := by omega
  clear h3
  go_enter Try.func54,Try.ntmps54
  go_wp2
  go_ret
  exact ⟨by rw [HR.out];rfl,(Kept.refl _ _).alloc _⟩
 have hr : chk ep l = chkFrom (l.take 0) (l.drop 0) := by unfold chk;rw [if_neg (by omega),if_neg h3,if_neg h4];rfl
 have HR := hZ0 hr;clear hr
 have h4' : ¬ (4 : Int) < l.length := by omega
 have hnew := Has.new w 26 #[.int .i64 ep,.slice A l.length c,.int .u64 fl]
 have HN := hZ0 hnew;clear hnew
 clear h3 h4
 go_enter Try.func54,Try.ntmps54
 go_wp2_with fail
 go_loopw [3] (fun v3 wr => ∃ i : Nat,i <= l.length /\ v3 = .int .i64 i /\ Has wr w.heap.size 26 #[.int .i64 ep,.slice A l.length c,.int .u64 fl] /\ Kept NoF w wr /\ chk ep l = chkFrom (l.take i) (l.drop i)) (fun v3 _ => l.length - (intOf v3).toNat)
 case atStart => exact ⟨0,Nat.zero_le _,rfl,HN.out,(Kept.refl _ _).alloc _,HR.out⟩
 case round =>
  obtain ⟨i,hi,rfl,hh,hk,he⟩ := hrel
  have hlt0 := hh.lt
  have hsz := hk.size
  have e0 : wr.cell? ⟨w.heap.size,1,none⟩ = some (.slice A l.length c) := hh.cell 1
  have HH := hZ0 hh;clear hh
  have HK := hZ0 hk;clear hk
  have HE := hZ0 he;clear he
  by_cases hil : i < l.length
  ·obtain ⟨m,hm⟩ : ∃ m,l[i]? = some m := ⟨_,List.getElem?_eq_getElem hil⟩
   obtain ⟨ad,hA,had,d0,d1⟩ := mem_cells (HL.out.kept HK.out (fun _ _ x => x)) (by omega) i m hm
   subst hA
   have HM := hZ0 hm;clear hm
   have hone : oneE m (l.take i) = if m.1 < 0 \/ 4 <= m.1 then 1 else if m.2 < 1 \/ 1073741824 < m.2 then 5 else if anyId (l.take i) m.1 then 18 else 0 := rfl
   have HO := hZ0 hone;clear hone
   obtain ⟨m1,m2⟩ := m
   dsimp only at d0 d1 HO
   by_cases g1 : m1 < 0
   ·have hr : chk ep l = 1 := by
     have h1 := HO.out
     rw [if_pos (.inl g1)] at h1
     rw [HE.out,chkFrom_stop HM.out (by rw [h1];decide),h1]
    have HR := hZ0 hr;clear hr
    go_wp2
    go_ret
    exact ⟨by rw [HR.out];rfl,HK.out.alloc _⟩
   by_cases g2 : 4 <= m1
   ·have hr : chk ep l = 1 := by
     have h1 := HO.out
     rw [if_pos (.inr g2)] at h1
     rw [HE.out,chkFrom_stop HM.out (by rw [h1];decide),h1]
    have HR := hZ0 hr;clear hr
    go_wp2
    go_ret
    exact ⟨by rw [HR.out];rfl,HK.out.alloc _⟩
   by_cases g3 : m2 < 1
   ·have hr : chk ep l = 5 := by
     have h1 := HO.out
     rw [if_neg (by omega),if_pos (.inl g3)] at h1
     rw [HE.out,chkFrom_stop HM.out (by rw [h1];decide),h1]
    have HR := hZ0 hr;clear hr
    go_wp2
    go_ret
    exact ⟨by rw [HR.out];rfl,HK.out.alloc _⟩
   by_cases g4 : 1073741824 < m2
   ·have hr : chk ep l = 5 := by
     have h1 := HO.out
     rw [if_neg (by omega),if_pos (.inr g4)] at h1
     rw [HE.out,chkFrom_stop HM.out (by rw [h1];decide),h1]
    have HR := hZ0 hr;clear hr
    go_wp2
    go_ret
    exact ⟨by rw [HR.out];rfl,HK.out.alloc _⟩
   have h1 := HO.out
   rw [if_neg (by omega),if_neg (by omega)] at h1
   clear HO
   have HO := hZ0 h1;clear h1
   obtain ⟨wo,hwo⟩ : ∃ wo : World,wo = wr := ⟨_,rfl⟩
   subst hwo
   have hnew2 := Has.new wo 111 #[.int .i64 m1,.int .i64 m2]
   have HN2 := hZ0 hnew2;clear hnew2
   go_wp2_with fail
   go_loopw [5] (fun v5 wi => ∃ k : Nat,k <= i /\ v5 = .int .i64 k /\ Has wi w.heap.size 26 #[.int .i64 ep,.slice (some ad) l.length c,.int .u64 fl] /\ Has wi wo.heap.size 111 #[.int .i64 m1,.int .i64 m2] /\ Kept NoF w wi /\ anyId (l.take i) m1 = anyId ((l.take i).drop k) m1) (fun v5 _ => i - (intOf v5).toNat)
   case atStart => exact ⟨0,Nat.zero_le _,rfl,HH.out.alloc _,HN2.out,HK.out.alloc _,rfl⟩
   case round =>
    obtain ⟨k,hki,rfl,hh,hh2,hk,he2⟩ := hrel
    have e0 : wr.cell? ⟨w.heap.size,1,none⟩ = some (.slice (some ad) l.length c) := hh.cell 1
    have e1 : wr.cell? ⟨wo.heap.size,0,none⟩ = some (.int .i64 m1) := hh2.cell 0
    have HH' := hZ0 hh;clear hh
    have HH2 := hZ0 hh2;clear hh2
    have HK' := hZ0 hk;clear hk
    have HE2 := hZ0 he2;clear he2
    by_cases hkl : k < i
    ·obtain ⟨q,hq⟩ : ∃ q,l[k]? = some q := ⟨_,List.getElem?_eq_getElem (by omega)⟩
     obtain ⟨ad',hA,had',f0,f1⟩ := mem_cells (HL.out.kept HK'.out (fun _ _ x => x)) (by omega) k q hq
     injection hA with hA
     subst hA
     have hd : anyId ((l.take i).drop k) m1 = (decide (q.1 = m1) || anyId ((l.take i).drop (k + 1)) m1) := by
      have : (l.take i)[k]? = some q := by rw [List.getElem?_take,if_pos hkl];exact hq
      unfold anyId;rw [drop_cons this,List.any_cons]
     have HD := hZ0 hd;clear hd hq
     obtain ⟨q1,q2⟩ := q
     dsimp only at f0 f1 HD
     by_cases hqm : q1 = m1
     ·subst hqm
      have hr : chk ep l = 18 := by
       have h1 := HO.out
       rw [HE2.out,HD.out,if_pos (by simp)] at h1
       rw [HE.out,chkFrom_stop HM.out (by rw [h1];decide),h1]
      have HR := hZ0 hr;clear hr
      go_wp2_with fail
      go_quiet (fail)
      go_wp2
      go_ret
      exact ⟨by rw [HR.out];rfl,HK'.out.drewN _⟩
     ·have hne : (q1 == m1) = false := by simpa using hqm
      go_wp2_with fail
      go_quiet (fail)
      go_wp2
      go_roundw
      case rel => exact ⟨k + 1,by omega,by go_num,HH'.out.drewN _,HH2.out.drewN _,HK'.out.drewN _,by rw [HE2.out,HD.out];simp [hqm]⟩
      case measure => simp [intOf];omega
    ·obtain rfl : k = i := by omega
     have hz : anyId (l.take k) m1 = false := by
      rw [HE2.out,List.drop_of_length_le (by simp;omega)];rfl
     have hs : chk ep l = chkFrom (l.take (k + 1)) (l.drop (k + 1)) := by
      have h1 := HO.out
      rw [hz,if_neg (by simp)] at h1
      rw [HE.out,chkFrom_step HM.out h1]
     have HS := hZ0 hs;clear hs hz
     go_wp2
     go_roundw
     case rel => exact ⟨k + 1,by omega,by go_num,HH'.out,HK'.out,HS.out⟩
     case measure => simp [intOf];omega
  ·obtain rfl : i = l.length := by omega
   have hr : chk ep l = 0 := by rw [HE.out,List.drop_length];rfl
   have HR := hZ0 hr;clear hr
   go_wp2
   go_ret
   exact ⟨by rw [HR.out];rfl,HK.out⟩
end Plan
end Go.Proofs.Ytobfdolhgnoedaa
