/- Part 6 of what the proof needs. -/
import Derived.Test.YtobfdolhgnoedaaAP04
set_option linter.unusedSimpArgs false
set_option linter.unusedVariables false
set_option maxHeartbeats 32000000
set_option maxRecDepth 100000
namespace Go.Proofs.Ytobfdolhgnoedaa
open Go.RowKit
set_option maxRecDepth 100000
namespace Ask
open Plan Ops Ent Msg
structure AskR where
 k : Int
 nd : Int
 key : ByteArray
 to : ByteArray
 at' : Int
 n : Int
 A : Option Addr
 c : Nat
 ops : List OpR
def qcell (a : AskR) : List Value := [.int .i64 a.k,.int .i64 a.nd,.string a.key,.string a.to,.int .u64 a.at',.int .i64 a.n,.slice a.A a.ops.length a.c]
abbrev qagg (a : AskR) : Value := .agg (qcell a).toArray
structure RepR where
 req : Int
 e : Int
 at' : Int
 pin : Int
 ps : List PairR
def rep0 : RepR := ⟨0,0,0,0,[]⟩
def rcell (r : RepR) (A : Option Addr) (c : Nat) : List Value := [.int .i64 r.req,.int .i64 r.e,.int .u64 r.at',.int .i64 r.pin,.slice A r.ps.length c]
abbrev ragg (r : RepR) (A : Option Addr) (c : Nat) : Value := .agg (rcell r A c).toArray
structure TS where
 cl : Int
 rq : Int
 a : AskR
 bo : List OpR
 ph : Nat
 at' : Int
 key : ByteArray
 ps : List PairR
 waits : Int
 dn : Bool
 r : RepR
def zmsg : MsgR := ⟨0,0,0,0,false,0,0,0,0,0,0,⟨#[]⟩,⟨#[]⟩,0,none,0,[],0,0,0,none,0,[],none,0,[],none,0,[],none,0,[]⟩
def sizeT (t : TS) : Int := min 2 (t.a.n - t.ps.length)
def nextT (t : TS) (ep hd : Int) : Int × MsgR :=
 if t.dn = true then (-1,zmsg)
 else if t.ph = 0 then (if hd < 0 then (4,{ zmsg with k := 15 }) else (hd,{ zmsg with k := 5,ep := max ep 0,bcl := t.cl,breq := t.rq,ops := t.bo }))
 else if t.ph = 1 then (if t.a.k = 2 then (t.a.nd,{ zmsg with k := 9,req := t.rq,key := t.key,to := t.a.to,at' := t.at',n := sizeT t }) else (t.a.nd,{ zmsg with k := 8,req := t.rq,key := t.key,at' := t.at' }))
 else if t.a.k = 4 then (4,{ zmsg with k := 11,req := t.rq,at' := t.a.at' })
 else if t.a.k = 5 then (4,{ zmsg with k := 12,req := t.rq,n := t.a.n })
 else (4,{ zmsg with k := 13,req := t.rq,n := t.a.n })
def endT (t : TS) (r : RepR) : TS := { t with dn := true,r := { r with req := t.rq } }
def nextKey (l : List PairR) : ByteArray := match l.getLast? with
 | none => emp
 | some p => ofL (Keys.nextL (bl p.key))
def pageL (t : TS) (x : MsgR) : List PairR := x.ps.take (sizeT t).toNat
def goesOn (t : TS) (x : MsgR) : Bool := x.fl && (decide (0 < (pageL t x).length) && (decide ((t.ps.length + (pageL t x).length : Nat) < t.a.n) && decide (nextKey (pageL t x) ≠ emp)))
def pageT (t : TS) (x : MsgR) : TS × Bool :=
 if goesOn t x = true then ({ t with ps := t.ps ++ pageL t x,waits := 0,key := nextKey (pageL t x) },true)
 else (endT { t with ps := t.ps ++ pageL t x,waits := 0 } ⟨0,0,t.at',0,t.ps ++ pageL t x⟩,false)
def fromT (t : TS) (f : Int) : Bool := if t.ph = 0 then decide (0 <= f /\ f < 4) else if t.ph = 1 then decide (f = t.a.nd) else decide (f = 4)
def takeW (t : TS) (x : MsgR) : TS × Bool :=
 if x.k = 7 /\ x.e = 16 then (endT t ⟨0,x.e,0,0,[]⟩,false)
 else if x.k ≠ 6 then (t,false)
 else if t.a.k = 0 then (endT t ⟨0,0,x.at',0,[]⟩,false)
 else ({ t with ph := 1,at' := x.at',key := t.a.key,ps := [],waits := 0 },true)
def takeR (t : TS) (x : MsgR) : TS × Bool :=
 if x.k = 7 /\ (t.a.k ≠ 3 \/ x.e ≠ 12) then (endT t ⟨0,x.e,0,0,[]⟩,false)
 else if x.k ≠ 10 \/ x.at' ≠ t.at' \/ x.key ≠ t.key then (t,false)
 else if t.a.k ≠ 2 then (endT t ⟨0,0,t.at',0,x.ps.take 1⟩,false)
 else pageT t x
def takeA (t : TS) (x : MsgR) : TS × Bool :=
 if x.k = 14 then (endT t ⟨0,0,0,x.n,[]⟩,false)
 else if x.k = 7 then (endT t ⟨0,x.e,0,0,[]⟩,false)
 else (t,false)
def takeT (t : TS) (f : Int) (x : MsgR) : TS × Bool :=
 if t.dn = true \/ x.req ≠ t.rq \/ fromT t f = false then (t,false)
 else if t.ph = 0 then takeW t x else if t.ph = 1 then takeR t x else takeA t x
def tickT (t : TS) : TS × Bool :=
 if t.dn = true then (t,false)
 else if t.ph = 1 /\ 16 < min (t.waits + 1) 1073741824 then (endT { t with waits := min (t.waits + 1) 1073741824 } ⟨0,21,0,0,[]⟩,false)
 else ({ t with waits := min (t.waits + 1) 1073741824 },true)
def repT (t : TS) : RepR := if t.dn = true then t.r else rep0
end Ask
namespace Plan
theorem chkFrom_step {l : List Mem} {i : Nat} {m : Mem} (h : l[i]? = some m) (h0 : oneE m (l.take i) = 0) : chkFrom (l.take i) (l.drop i) = chkFrom (l.take (i + 1)) (l.drop (i + 1)) := by
 rw [drop_cons h,take_snoc h]
 conv => lhs;unfold chkFrom
 rw [if_pos h0]
theorem chkFrom_stop {l : List Mem} {i : Nat} {m : Mem} (h : l[i]? = some m) (h0 : oneE m (l.take i) ≠ 0) : chkFrom (l.take i) (l.drop i) = oneE m (l.take i) := by
 rw [drop_cons h]
 unfold chkFrom
 rw [if_neg h0]
theorem rcheck_any (w : World) (ep fl : Int) (A : Option Addr) (c : Nat) (l : List Mem) (hl : Src w 2 A l.length (mcells l)) (hlen : l.length <= 1000000) :
  Calls Try.prog 54 #[cagg ep A l.length c fl] w fun e w' => e = .returned (.int .i64 (chk ep l)) /\ Kept NoF w w' := by
 have HL := hZ0 hl;clear hl
 by_cases h1 : ep < 1
 ·have hr : chk ep l = 5 := by unfold chk;rw [if_pos (.inl h1)]
  have HR := hZ0 hr;clear hr
  go_enter Try.func54,Try.ntmps54
  go_wp2
  go_ret
  exact ⟨by rw [HR.out];rfl,(Kept.refl _ _).alloc _⟩
 by_cases h2 : 1073741824 < ep
 ·have hr : chk ep l = 5 := by unfold chk;rw [if_pos (.inr h2)]
  have HR := hZ0 hr;clear hr
  go_enter Try.func54,Try.ntmps54
  go_wp2
  go_ret
  exact ⟨by rw [HR.out];rfl,(Kept.refl _ _).alloc _⟩
 by_cases h3 : l.length = 0
 ·have hr : chk ep l = 7 := by unfold chk;rw [if_neg (by omega),if_pos h3]
  have HR := hZ0 hr;clear hr
  rw [h3]
  clear h3
  go_enter Try.func54,Try.ntmps54
  go_wp2
  go_ret
  exact ⟨by rw [HR.out];rfl,(Kept.refl _ _).alloc _⟩
 have h3' : ((l.length : Int) == 0) = false := by rw [beq_eq_false_iff_ne];omega
 by_cases h4 : 4 < l.length
 ·have hr : chk ep l = 6 := by unfold chk;rw [if_neg (by omega),if_neg h3,if_pos h4]
  have HR := hZ0 hr;clear hr
  have h4' : (4 : Int) < l.length := by omega
  clear h3
  go_enter Try.func54,Try.ntmps54
  go_wp2
  go_ret
  exact ⟨by rw [HR.out];rfl,(Kept.refl _ _).alloc _⟩
 have hr : chk ep l = chkFrom (l.take 0) (l.drop 0) := by unfold chk;rw [if_neg (by omega),if_neg h3,if_neg h4];rfl
 have HR := hZ0 hr;clear hr
 have h4' : ¬ (4 : Int) < l.length := by omega
 have hnew := Has.new w 26 #[.int .i64 ep,.slice A l.length c,.int .u64 fl]
 have HN := hZ0 hnew;clear hnew
 clear h3 h4
 go_enter Try.func54,Try.ntmps54
 go_wp2_with fail
 go_loopw [3] (fun v3 wr => ∃ i : Nat,i <= l.length /\ v3 = .int .i64 i /\ Has wr w.heap.size 26 #[.int .i64 ep,.slice A l.length c,.int .u64 fl] /\ Kept NoF w wr /\ chk ep l = chkFrom (l.take i) (l.drop i)) (fun v3 _ => l.length - (intOf v3).toNat)
 case atStart => exact ⟨0,Nat.zero_le _,rfl,HN.out,(Kept.refl _ _).alloc _,HR.out⟩
 case round =>
  obtain ⟨i,hi,rfl,hh,hk,he⟩ := hrel
  have hlt0 := hh.lt
  have hsz := hk.size
  have e0 : wr.cell? ⟨w.heap.size,1,none⟩ = some (.slice A l.length c) := hh.cell 1
  have HH := hZ0 hh;clear hh
  have HK := hZ0 hk;clear hk
  have HE := hZ0 he;clear he
  by_cases hil : i < l.length
  ·obtain ⟨m,hm⟩ : ∃ m,l[i]? = some m := ⟨_,List.getElem?_eq_getElem hil⟩
   obtain ⟨ad,hA,had,d0,d1⟩ := mem_cells (HL.out.kept HK.out (fun _ _ x => x)) (by omega) i m hm
   subst hA
   have HM := hZ0 hm;clear hm
   have hone : oneE m (l.take i) = if m.1 < 0 \/ 4 <= m.1 then 1 else if m.2 < 1 \/ 1073741824 < m.2 then 5 else if anyId (l.take i) m.1 then 18 else 0 := rfl
   have HO := hZ0 hone;clear hone
   obtain ⟨m1,m2⟩ := m
   dsimp only at d0 d1 HO
   by_cases g1 : m1 < 0
   ·have hr : chk ep l = 1 := by
     have h1 := HO.out
     rw [if_pos (.inl g1)] at h1
     rw [HE.out,chkFrom_stop HM.out (by rw [h1];decide),h1]
    have HR := hZ0 hr;clear hr
    go_wp2
    go_ret
    exact ⟨by rw [HR.out];rfl,HK.out.alloc _⟩
   by_cases g2 : 4 <= m1
   ·have hr : chk ep l = 1 := by
     have h1 := HO.out
     rw [if_pos (.inr g2)] at h1
     rw [HE.out,chkFrom_stop HM.out (by rw [h1];decide),h1]
    have HR := hZ0 hr;clear hr
    go_wp2
    go_ret
    exact ⟨by rw [HR.out];rfl,HK.out.alloc _⟩
   by_cases g3 : m2 < 1
   ·have hr : chk ep l = 5 := by
     have h1 := HO.out
     rw [if_neg (by omega),if_pos (.inl g3)] at h1
     rw [HE.out,chkFrom_stop HM.out (by rw [h1];decide),h1]
    have HR := hZ0 hr;clear hr
    go_wp2
    go_ret
    exact ⟨by rw [HR.out];rfl,HK.out.alloc _⟩
   by_cases g4 : 1073741824 < m2
   ·have hr : chk ep l = 5 := by
     have h1 := HO.out
     rw [if_neg (by omega),if_pos (.inr g4)] at h1
     rw [HE.out,chkFrom_stop HM.out (by rw [h1];decide),h1]
    have HR := hZ0 hr;clear hr
    go_wp2
    go_ret
    exact ⟨by rw [HR.out];rfl,HK.out.alloc _⟩
   have h1 := HO.out
   rw [if_neg (by omega),if_neg (by omega)] at h1
   clear HO
   have HO := hZ0 h1;clear h1
   obtain ⟨wo,hwo⟩ : ∃ wo : World,wo = wr := ⟨_,rfl⟩
   subst hwo
   have hnew2 := Has.new wo 111 #[.int .i64 m1,.int .i64 m2]
   have HN2 := hZ0 hnew2;clear hnew2
   go_wp2_with fail
   go_loopw [5] (fun v5 wi => ∃ k : Nat,k <= i /\ v5 = .int .i64 k /\ Has wi w.heap.size 26 #[.int .i64 ep,.slice (some ad) l.length c,.int .u64 fl] /\ Has wi wo.heap.size 111 #[.int .i64 m1,.int .i64 m2] /\ Kept NoF w wi /\ anyId (l.take i) m1 = anyId ((l.take i).drop k) m1) (fun v5 _ => i - (intOf v5).toNat)
   case atStart => exact ⟨0,Nat.zero_le _,rfl,HH.out.alloc _,HN2.out,HK.out.alloc _,rfl⟩
   case round =>
    obtain ⟨k,hki,rfl,hh,hh2,hk,he2⟩ := hrel
    have e0 : wr.cell? ⟨w.heap.size,1,none⟩ = some (.slice (some ad) l.length c) := hh.cell 1
    have e1 : wr.cell? ⟨wo.heap.size,0,none⟩ = some (.int .i64 m1) := hh2.cell 0
    have HH' := hZ0 hh;clear hh
    have HH2 := hZ0 hh2;clear hh2
    have HK' := hZ0 hk;clear hk
    have HE2 := hZ0 he2;clear he2
    by_cases hkl : k < i
    ·obtain ⟨q,hq⟩ : ∃ q,l[k]? = some q := ⟨_,List.getElem?_eq_getElem (by omega)⟩
     obtain ⟨ad',hA,had',f0,f1⟩ := mem_cells (HL.out.kept HK'.out (fun _ _ x => x)) (by omega) k q hq
     injection hA with hA
     subst hA
     have hd : anyId ((l.take i).drop k) m1 = (decide (q.1 = m1) || anyId ((l.take i).drop (k + 1)) m1) := by
      have : (l.take i)[k]? = some q := by rw [List.getElem?_take,if_pos hkl];exact hq
      unfold anyId;rw [drop_cons this,List.any_cons]
     have HD := hZ0 hd;clear hd hq
     obtain ⟨q1,q2⟩ := q
     dsimp only at f0 f1 HD
     by_cases hqm : q1 = m1
     ·subst hqm
      have hr : chk ep l = 18 := by
       have h1 := HO.out
       rw [HE2.out,HD.out,if_pos (by simp)] at h1
       rw [HE.out,chkFrom_stop HM.out (by rw [h1];decide),h1]
      have HR := hZ0 hr;clear hr
      go_wp2_with fail
      go_quiet (fail)
      go_wp2
      go_ret
      exact ⟨by rw [HR.out];rfl,HK'.out.drewN _⟩
     ·have hne : (q1 == m1) = false := by simpa using hqm
      go_wp2_with fail
      go_quiet (fail)
      go_wp2
      go_roundw
      case rel => exact ⟨k + 1,by omega,by go_num,HH'.out.drewN _,HH2.out.drewN _,HK'.out.drewN _,by rw [HE2.out,HD.out];simp [hqm]⟩
      case measure => simp [intOf];omega
    ·obtain rfl : k = i := by omega
     have hz : anyId (l.take k) m1 = false := by
      rw [HE2.out,List.drop_of_length_le (by simp;omega)];rfl
     have hs : chk ep l = chkFrom (l.take (k + 1)) (l.drop (k + 1)) := by
      have h1 := HO.out
      rw [hz,if_neg (by simp)] at h1
      rw [HE.out,chkFrom_step HM.out h1]
     have HS := hZ0 hs;clear hs hz
     go_wp2
     go_roundw
     case rel => exact ⟨k + 1,by omega,by go_num,HH'.out,HK'.out,HS.out⟩
     case measure => simp [intOf];omega
  ·obtain rfl : i = l.length := by omega
   have hr : chk ep l = 0 := by rw [HE.out,List.drop_length];rfl
   have HR := hZ0 hr;clear hr
   go_wp2
   go_ret
   exact ⟨by rw [HR.out];rfl,HK.out⟩
def eqL (a b : List Mem) : Bool := decide (a = b)
theorem eqL_len {a b : List Mem} (h : a.length ≠ b.length) : eqL a b = false := by unfold eqL;rw [decide_eq_false];rintro rfl;exact h rfl
theorem eqL_step {a b : List Mem} {i : Nat} {x y : Mem} (ha : a[i]? = some x) (hb : b[i]? = some y) : eqL (a.drop i) (b.drop i) = (decide (x = y) && eqL (a.drop (i + 1)) (b.drop (i + 1))) := by
 unfold eqL
 rw [drop_cons ha,drop_cons hb]
 by_cases h : x = y
 ·subst h;simp
 ·simp [h]
theorem rsame_any (w : World) (ep fl ep' fl' : Int) (A B : Option Addr) (c d : Nat) (l l' : List Mem) (hl : Src w 2 A l.length (mcells l)) (hl' : Src w 2 B l'.length (mcells l')) (hlen : l.length <= 1000000) (hlen' : l'.length <= 1000000) :
  Calls Try.prog 34 #[cagg ep A l.length c fl,cagg ep' B l'.length d fl'] w fun e w' => e = .returned (.bool (ep == ep' && (fl == fl' && eqL l l'))) /\ Kept NoF w w' := by
 have HL := hZ0 hl;clear hl
 have HL' := hZ0 hl';clear hl'
 by_cases h1 : ep = ep'
 rotate_left
 ·have b1 : (ep == ep') = false := by simpa using h1
  have b2 : (ep != ep') = true := by simpa using h1
  have hr : (ep == ep' && (fl == fl' && eqL l l')) = false := by rw [b1];rfl
  rw [hr]
  clear hr h1
  go_enter Try.func34,Try.ntmps34
  go_wp2
  go_ret
  exact ⟨rfl,((Kept.refl _ _).alloc _).alloc _⟩
 subst h1
 by_cases h2 : fl = fl'
 rotate_left
 ·have b1 : (fl == fl') = false := by simpa using h2
  have b2 : (fl != fl') = true := by simpa using h2
  have hr : (ep == ep && (fl == fl' && eqL l l')) = false := by rw [b1];simp
  rw [hr]
  clear hr h2
  go_enter Try.func34,Try.ntmps34
  go_wp2
  go_ret
  exact ⟨rfl,((Kept.refl _ _).alloc _).alloc _⟩
 subst h2
 have hr0 : (ep == ep && (fl == fl && eqL l l')) = eqL l l' := by simp
 rw [hr0]
 clear hr0
 by_cases h3 : l.length = l'.length
 rotate_left
 ·have b1 : ((l.length : Int) == (l'.length : Int)) = false := by rw [beq_eq_false_iff_ne];omega
  have b2 : ((l.length : Int) != (l'.length : Int)) = true := by rw [bne_iff_ne];omega
  rw [eqL_len h3]
  clear h3
  go_enter Try.func34,Try.ntmps34
  go_wp2
  go_ret
  exact ⟨rfl,((Kept.refl _ _).alloc _).alloc _⟩
 have hn1 := (Has.new w 26 #[.int .i64 ep,.slice A l.length c,.int .u64 fl]).alloc (.cells #[.int .i64 ep,.slice B l'.length d,.int .u64 fl] 26)
 have hn2 := Has.new (w.alloc (.cells #[.int .i64 ep,.slice A l.length c,.int .u64 fl] 26)) 26 #[.int .i64 ep,.slice B l'.length d,.int .u64 fl]
 rw [size_alloc] at hn2
 rw [<- h3] at hn1 hn2 HL' ⊢
 have HN1 := hZ0 hn1;clear hn1
 have HN2 := hZ0 hn2;clear hn2
 have H3 := hZ0 h3;clear h3
 go_enter Try.func34,Try.ntmps34
 go_wp2_with fail
 go_loopw [5] (fun v5 wr => ∃ i : Nat,i <= l.length /\ v5 = .int .i64 i /\ Has wr w.heap.size 26 #[.int .i64 ep,.slice A l.length c,.int .u64 fl] /\ Has wr (w.heap.size + 1) 26 #[.int .i64 ep,.slice B l.length d,.int .u64 fl] /\ Kept NoF w wr /\ eqL l l' = eqL (l.drop i) (l'.drop i)) (fun v5 _ => l.length - (intOf v5).toNat)
 case atStart => exact ⟨0,Nat.zero_le _,rfl,HN1.out,HN2.out,((Kept.refl _ _).alloc _).alloc _,rfl⟩
 case round =>
  obtain ⟨i,hi,rfl,hh,hh2,hk,he⟩ := hrel
  have e0 : wr.cell? ⟨w.heap.size,1,none⟩ = some (.slice A l.length c) := hh.cell 1
  have e1 : wr.cell? ⟨w.heap.size + 1,1,none⟩ = some (.slice B l.length d) := hh2.cell 1
  have HH := hZ0 hh;clear hh
  have HH2 := hZ0 hh2;clear hh2
  have HK := hZ0 hk;clear hk
  have HE := hZ0 he;clear he
  by_cases hil : i < l.length
  ·obtain ⟨m,hm⟩ : ∃ m,l[i]? = some m := ⟨_,List.getElem?_eq_getElem hil⟩
   obtain ⟨q,hq⟩ : ∃ q,l'[i]? = some q := ⟨_,List.getElem?_eq_getElem (by have := H3.out;omega)⟩
   obtain ⟨ad,hA,had,d0,d1⟩ := mem_cells (HL.out.kept HK.out (fun _ _ x => x)) (by omega) i m hm
   obtain ⟨bd,hB,hbd,f0,f1⟩ := mem_cells (HL'.out.kept HK.out (fun _ _ x => x)) (by omega) i q hq
   subst hA
   subst hB
   have hs := eqL_step hm hq
   have hneq := run_neq_mem m q
   obtain ⟨b,hb⟩ : ∃ b : Bool,b = decide (m = q) := ⟨_,rfl⟩
   have hb' : decide (m ≠ q) = !b := by rw [hb];simp
   rw [hb'] at hneq
   rw [<- hb] at hs
   have HS := hZ0 hs;clear hs hm hq hb hb'
   obtain ⟨m1,m2⟩ := m
   obtain ⟨q1,q2⟩ := q
   unfold magg at hneq
   dsimp only at d0 d1 f0 f1 hneq
   cases b
   ·go_wp2_with fail
    go_quiet (fail)
    go_wp2
    go_ret
    exact ⟨by rw [HE.out,HS.out];rfl,HK.out.drewN _⟩
   ·go_wp2_with fail
    go_quiet (fail)
    go_wp2
    go_roundw
    case rel => exact ⟨i + 1,by omega,by go_num,HH.out.drewN _,HH2.out.drewN _,HK.out.drewN _,by rw [HE.out,HS.out];rfl⟩
    case measure => simp [intOf];omega
  ·obtain rfl : i = l.length := by omega
   have hr : eqL l l' = true := by rw [HE.out,List.drop_length,H3.out,List.drop_length];rfl
   have HR := hZ0 hr;clear hr
   go_wp2
   go_ret
   exact ⟨by rw [HR.out];rfl,HK.out⟩
end Plan
namespace Plan
def NewRow (b : Nat) (w : World) (A : Option Addr) (n c : Nat) (l : List Mem) : Prop :=
 n = l.length /\ w.ownsRow 0 111 2 (.slice A n c) n (mcells l) /\ ∀ k,(Value.slice A n c).ownBlock = some k -> b <= k
theorem NewRow.nil (b : Nat) (w : World) : NewRow b w none 0 0 [] := ⟨rfl,⟨rfl,.inl ⟨rfl,rfl⟩⟩,fun k hk => by cases hk⟩
theorem NewRow.kept {b : Nat} {w w' : World} {A : Option Addr} {n c : Nat} {l : List Mem} (h : NewRow b w A n c l) (hk : Kept NoF w w') : NewRow b w' A n c l :=
 ⟨h.1,own_kept h.2.1 hk (fun _ _ x => x),h.2.2⟩
end Plan
namespace Plan
def NewInts (b : Nat) (w : World) (A : Option Addr) (n c : Nat) (l : List Int) : Prop :=
 n = l.length /\ w.ownsRow 0 3 1 (.slice A n c) n (ints l) /\ ∀ k,(Value.slice A n c).ownBlock = some k -> b <= k
theorem NewInts.nil (b : Nat) (w : World) : NewInts b w none 0 0 [] := ⟨rfl,⟨rfl,.inl ⟨rfl,rfl⟩⟩,fun k hk => by cases hk⟩
theorem NewInts.kept {b : Nat} {w w' : World} {A : Option Addr} {n c : Nat} {l : List Int} (h : NewInts b w A n c l) (hk : Kept NoF w w') : NewInts b w' A n c l :=
 ⟨h.1,own_kept h.2.1 hk (fun _ _ x => x),h.2.2⟩
theorem NewRow.mono {b b' : Nat} {w : World} {A : Option Addr} {n c : Nat} {l : List Mem} (h : NewRow b w A n c l) (hb : b' <= b) : NewRow b' w A n c l := ⟨h.1,h.2.1,fun k hk => Nat.le_trans hb (h.2.2 k hk)⟩
theorem NewRow.ne {b : Nat} {w : World} {A : Option Addr} {n c : Nat} {l : List Mem} (h : NewRow b w A n c l) {g : Nat} {t : TypeId} {cs : Array Value} (hg : Has w g t cs) (hne : 111 ≠ t) : (Value.slice A n c).ownBlock ≠ some g := own_ne h.2.1 hg hne
def nagg (N : Next) (A : Option Addr) (n c : Nat) (B : Option Addr) (m d : Nat) : Value := .tuple #[cagg N.ep A n c N.fl,.slice B m d,.int .i64 N.e]
def NextPost (w : World) (N : Next) (e : Ending) (w' : World) : Prop :=
 ∃ A n c B m d,e = .returned (nagg N A n c B m d) /\ NewRow w.heap.size w' A n c N.l /\ NewInts w.heap.size w' B m d N.t /\ Kept NoF w w'
end Plan
end Go.Proofs.Ytobfdolhgnoedaa
