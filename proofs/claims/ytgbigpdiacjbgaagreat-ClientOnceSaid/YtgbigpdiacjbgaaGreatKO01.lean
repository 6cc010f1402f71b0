/- Part 2 of what the proof needs. -/
import Derived.Test.YtgbigpdiacjbgaaGreatKO00
import Derived.Test.YtgbigpdiacjbgaaGreatChecked
import Derived.WalkKit
import Derived.WalkSpells
import Derived.WalkMore
import Derived.WalkLawsBesides
import Derived.BigQuiet
import Derived.Deep.QuietTactic
import Derived.Lib.Hide
import Derived.Lib.UnsafeStr
import Derived.Deep.OwnRows
import Derived.Lib.SlBytesRow
set_option linter.unusedSimpArgs false
set_option linter.unusedVariables false
set_option maxHeartbeats 32000000
set_option maxRecDepth 100000
namespace Go.Proofs.YtgbigpdiacjbgaaGreat
namespace Ops
open Vn
abbrev bl (s : ByteArray) : List UInt8 := s.data.toList
def ofL (l : List UInt8) : ByteArray := ⟨l.toArray⟩
structure OpR where
 key : ByteArray
 val : ByteArray
 del : Bool
deriving DecidableEq
def cell (o : OpR) : List Value := [.string o.key,.string o.val,.bool o.del]
def cells (l : List OpR) : List Value := l.flatMap cell
structure Batch where
 cl : Int
 req : Int
 ops : List OpR
def emp : ByteArray := ⟨#[]⟩
theorem size_bl (s : ByteArray) : (bl s).length = s.size := Array.length_toList
theorem ofL_bl (s : ByteArray) : ofL (bl s) = s := by simp [ofL,bl]
theorem bl_ofL (l : List UInt8) : bl (ofL l) = l := by simp [ofL,bl]
theorem bl_inj {s t : ByteArray} (h : bl s = bl t) : s = t := by rw [<- ofL_bl s,<- ofL_bl t,h]
def one (o : OpR) (ahead : ByteArray) (first : Bool) : Int :=
 if o.key.size < 1 \/ 8 < o.key.size then 10 else if 8 < o.val.size then 3 else if o.del = true /\ o.val.size ≠ 0 then 4
 else if first = false /\ Op.bytesLess ahead.toList o.key.toList = false then 18 else 0
def chkL : List OpR -> ByteArray -> Bool -> Int
 | [],_,_ => 0
 | o :: l,a,f => if one o a f ≠ 0 then one o a f else chkL l o.key false
def chk (b : Batch) : Int :=
 if b.cl < 0 \/ 3 <= b.cl then 1 else if b.req < 1 \/ 1073741824 < b.req then 5 else if 4 < b.ops.length then 6 else chkL b.ops emp true
def putT (s : ByteArray) : List UInt8 := put s.size ++ bl s
def putF (b : Bool) : List UInt8 := [if b then 1 else 0]
def putO (o : OpR) : List UInt8 := putT o.key ++ putF o.del ++ putT o.val
def putB (b : Batch) : List UInt8 := put b.cl.toNat ++ put b.req.toNat ++ put b.ops.length ++ b.ops.flatMap putO
theorem flat_succ {α β : Type} (f : α -> List β) (l : List α) (i : Nat) (h : i < l.length) : (l.take (i + 1)).flatMap f = (l.take i).flatMap f ++ f l[i] := by
 rw [List.take_add_one,List.getElem?_eq_getElem h,List.flatMap_append]
 simp
theorem chkL_ok {l : List OpR} {a : ByteArray} {f : Bool} (h : chkL l a f = 0) : ∀ o ∈ l,1 <= o.key.size /\ o.key.size <= 8 /\ o.val.size <= 8 /\ (o.del = true -> o.val.size = 0) := by
 induction l generalizing a f with
 | nil => intro o ho;cases ho
 | cons x l ih =>
  unfold chkL at h
  split at h
  ·rename_i h1
   exact absurd h h1
  ·rename_i h1
   have h2 : one x a f = 0 := Classical.byContradiction h1
   have hx : 1 <= x.key.size /\ x.key.size <= 8 /\ x.val.size <= 8 /\ (x.del = true -> x.val.size = 0) := by
    unfold one at h2
    split at h2
    ·cases h2
    ·rename_i g1
     split at h2
     ·cases h2
     ·rename_i g2
      split at h2
      ·cases h2
      ·rename_i g3
       refine ⟨by omega,by omega,by omega,fun hd => ?_⟩
       exact Classical.byContradiction fun hv => g3 ⟨hd,hv⟩
   intro o ho
   rcases List.mem_cons.1 ho with rfl | ho
   ·exact hx
   ·exact ih h o ho
theorem chk_ok {b : Batch} (h : chk b = 0) : 0 <= b.cl /\ b.cl < 3 /\ 1 <= b.req /\ b.req <= 1073741824 /\ b.ops.length <= 4 /\ chkL b.ops emp true = 0 := by
 unfold chk at h
 split at h
 ·cases h
 ·split at h
  ·cases h
  ·split at h
   ·cases h
   ·rename_i h1 h2 h3
    exact ⟨by omega,by omega,by omega,by omega,by omega,h⟩
theorem chkL_at (l : List OpR) (i : Nat) (h : i < l.length) (a : ByteArray) (f : Bool) : chkL (l.drop i) a f = if one l[i] a f ≠ 0 then one l[i] a f else chkL (l.drop (i + 1)) l[i].key false := by
 rw [List.drop_eq_getElem_cons h,chkL]
theorem putO_len {o : OpR} (h1 : o.key.size <= 8) (h2 : o.val.size <= 8) : (putO o).length <= 19 := by
 have e1 : (put o.key.size).length = 1 := by rw [put_small (by omega)];rfl
 have e2 : (put o.val.size).length = 1 := by rw [put_small (by omega)];rfl
 simp only [putO,putT,putF,List.length_append,e1,e2,size_bl,List.length_cons,List.length_nil]
 omega
theorem flat_len (l : List OpR) (h : ∀ o ∈ l,(putO o).length <= 19) : (l.flatMap putO).length <= l.length * 19 := by
 induction l with
 | nil => simp
 | cons a l ih =>
  have h1 := h a (by simp)
  have h2 := ih fun o ho => h o (by simp [ho])
  simp only [List.flatMap_cons,List.length_append,List.length_cons]
  omega
end Ops
end Go.Proofs.YtgbigpdiacjbgaaGreat
namespace Go.Proofs.YtgbigpdiacjbgaaGreat
open Go.RowKit
set_option maxRecDepth 100000
namespace Vn
open Ops (ofL bl)
theorem elemU8 : Elem Tryz.prog 205 5 1 1 :=
 by
 obtain ⟨i0,hi,hz0,hz1,hz2⟩ := info_parts (show (Tryz.prog.info? 5).map (fun i => (i.zero,i.size,i.bytes)) = some (some (.int .u8 0),1,1) by kernel_rfl)
 exact ⟨Tryz.underlying205,⟨i0,_,hi,hz0,hz1,hz2,rfl⟩,by decide⟩
def NewSl (e : TypeId) (size B : Nat) (w : World) (A : Option Addr) (n c : Nat) (xs : List Value) : Prop :=
 w.ownsRow 0 e size (.slice A n c) n xs /\ ∀ k,(Value.slice A n c).ownBlock = some k -> B <= k
theorem NewSl.kept {e : TypeId} {size B n c : Nat} {w w' : World} {A : Option Addr} {xs : List Value} (h : NewSl e size B w A n c xs) (hk : Kept NoF w w') : NewSl e size B w' A n c xs :=
 ⟨own_kept h.1 hk (fun _ _ x => x),h.2⟩
theorem NewSl.snoc {e : TypeId} {size B n c n' c' : Nat} {w w1 w' : World} {A A' : Option Addr} {xs ys : List Value} (h : NewSl e size B w A n c xs) (hB : B <= w1.heap.size) (ho : w'.ownsRow 0 e size (.slice A' n' c') n' ys)
  (ha : (Value.slice A' n' c').ownBlock = (Value.slice A n c).ownBlock \/ (Value.slice A' n' c').ownBlock = some w1.heap.size) : NewSl e size B w' A' n' c' ys :=
 ⟨ho,fun k hk => by
  rcases ha with e1 | e1
  ·exact h.2 k (e1.symm.trans hk)
  ·rw [hk] at e1;injection e1 with e1;omega⟩
theorem conv_one (W : World) (b : Nat) (n : Int) (c : Nat) (hn : 0 <= n) (hn' : n < 256) (hc : W.cell? ⟨b,0,none⟩ = some (.int .u8 n)) :
  (convert 205 9 (.slice (some ⟨b,0,none⟩) 1 c)).run Tryz.prog W = .ok (.string ⟨#[UInt8.ofNat n.toNat]⟩) W := by
 refine Lib.run_convert_whole (P := Tryz.prog) W 205 5 9 Tryz.underlying205 Tryz.underlying5 Tryz.underlying9 b 0 ⟨#[UInt8.ofNat n.toNat]⟩ ?_ c
 intro i hi
 have h0 : i = 0 := by have : i < 1 := hi;omega
 subst h0
 rw [Nat.add_zero,hc]
 show _ = some (Value.int IntKind.u8 ((UInt8.ofNat n.toNat).toNat : Int))
 congr 2
 simp
 omega
theorem conv_row (W : World) (b : Nat) (l : List UInt8) (c : Nat) (h : ∀ (i : Nat) x,l[i]? = some x -> W.cell? ⟨b,i,none⟩ = some (.int .u8 x.toNat)) :
  (convert 205 9 (.slice (some ⟨b,0,none⟩) l.length c)).run Tryz.prog W = .ok (.string (ofL l)) W := by
 have hs : (ofL l).size = l.length := by simp [ofL,ByteArray.size]
 rw [<- hs]
 refine Lib.run_convert_whole (P := Tryz.prog) W 205 5 9 Tryz.underlying205 Tryz.underlying5 Tryz.underlying9 b 0 (ofL l) ?_ c
 intro i hi
 have hi' : i < l.length := by omega
 rw [Nat.zero_add,h i l[i] (List.getElem?_eq_getElem hi')]
 rfl
theorem vneeds_any (n : Nat) (hn : n < 18446744073709551616) (w : World) : Calls Tryz.prog 169 #[.int .u64 n] w fun e w' => e = .returned (.int .i64 (needs n)) /\ w = w' := by
 have h8 := needs_le8 hn
 go_enter Tryz.func169,Tryz.ntmps169
 go_wp2
 go_step3
 go_wp2
 go_step3
 go_wp2
 go_loop [0,3] (fun v0 v3 => ∃ m k : Nat,v0 = .int .u64 m /\ v3 = .int .i64 k /\ m < 18446744073709551616 /\ k + needs m = needs n) (fun v0 _ => (intOf v0).toNat)
 case atStart => exact ⟨n,0,rfl,rfl,hn,by omega⟩
 case round =>
  obtain ⟨m,k,rfl,rfl,hm,he⟩ := hrel
  have hp := needs_pos m
  have hk : k < 8 := by omega
  by_cases h0 : m < 256
  ·have e1 := needs_small h0
   have hz : m / 256 = 0 := by omega
   have hz2 : (m : Int) / 256 = 0 := by omega
   have hkn : k + 1 = needs n := by omega
   have HE := hZ0 he;clear he
   have HK := hZ0 hkn;clear hkn e1 hp h8
   go_wp2
   go_ret
   exact ⟨by rw [<- HK.out];simp,rfl⟩
  ·have e1 := needs_big h0
   have hz : ¬ m / 256 = 0 := by omega
   have hz2 : ¬ (m : Int) / 256 = 0 := by omega
   have HE := hZ0 he;clear he
   have HE1 := hZ0 e1;clear e1 hp h8
   go_wp2
   go_round
   case rel => exact ⟨m / 256,k + 1,by go_num,by go_num,by omega,by rw [<- HE.out,HE1.out];omega⟩
   case measure => simp [intOf];omega
theorem rneeds_any (n : Nat) (hn : n < 18446744073709551616) (w : World) : Calls Tryz.prog 177 #[.int .u64 n] w fun e w' => e = .returned (.int .i64 (needs n)) /\ w = w' := by
 have h8 := needs_le8 hn
 go_enter Tryz.func177,Tryz.ntmps177
 go_wp2_with fail
 go_loop [3,4] (fun v3 v4 => ∃ m k : Nat,v3 = .int .i64 k /\ v4 = .int .u64 m /\ m < 18446744073709551616 /\ k + (if m = 0 then 0 else needs m) = needs n) (fun _ v4 => (intOf v4).toNat)
 case atStart =>
  refine ⟨n / 256,1,rfl,by go_num,by omega,?_⟩
  by_cases h0 : n < 256
  ·rw [needs_small h0,if_pos (by omega)]
  ·rw [needs_big h0,if_neg (by omega)]
 case round =>
  obtain ⟨m,k,rfl,rfl,hm,he⟩ := hrel
  by_cases h0 : m = 0
  ·subst h0
   rw [if_pos rfl,Nat.add_zero] at he
   have HE := hZ0 he;clear he
   go_wp2
   go_ret
   exact ⟨by rw [<- HE.out];rfl,rfl⟩
  ·rw [if_neg h0] at he
   have hp := needs_pos m
   have hk : k < 8 := by omega
   have hm0 : (0 : Int) < m := by omega
   have HE := hZ0 he;clear he
   clear hp
   go_wp2
   go_round
   case rel =>
    refine ⟨m / 256,k + 1,by go_num,by go_num,by omega,?_⟩
    rw [<- HE.out]
    by_cases h1 : m < 256
    ·rw [needs_small h1,if_pos (by omega)]
    ·rw [needs_big h1,if_neg (by omega)];omega
   case measure => simp [intOf];omega
theorem add_row (g i : Nat) : ((⟨g,0,none⟩ : Addr).add i) = ⟨g,i,none⟩ := by unfold Addr.add;split <;> simp_all
theorem byteCells_get (l : List UInt8) (i : Nat) (x : UInt8) (h : l[i]? = some x) : (Lib.byteCells l)[i]? = some (.int .u8 x.toNat) := by simp [Lib.byteCells,h]
theorem vput_any (n : Nat) (hn : n < 18446744073709551616) (w : World) : Calls Tryz.prog 129 #[.int .u64 n] w fun e w' => e = .returned (.string (ofL (put n))) /\ Kept NoF w w' := by
 by_cases hs : n < 248
 ·have hp : put n = [UInt8.ofNat n] := put_small hs
  rw [hp]
  have hcv := conv_one (w.alloc (Obj.cells #[Value.int .u8 n] 5)) w.heap.size n 1 (by omega) (by omega) (by simp)
  have hs' : (n : Int) < 248 := by omega
  clear hp
  go_enter Tryz.func129,Tryz.ntmps129
  go_wp2
  go_ret
  exact ⟨rfl,(Kept.refl _ _).alloc _⟩
 ·obtain ⟨i0,hi,hz0,hz1,hz2⟩ := info_parts (show (Tryz.prog.info? 5).map (fun i => (i.zero,i.size,i.bytes)) = some (some (.int .u8 0),1,1) by kernel_rfl)
  have hn8 := needs_le8 hn
  have hn1 := needs_pos n
  have hnd := vneeds_any n hn
  have hp := put_big hs
  obtain ⟨k,hk⟩ : ∃ k,needs n = k := ⟨_,rfl⟩
  rw [hk] at hn8 hn1 hnd hp
  have HP := hZ0 hp;clear hp hk
  have HN := hZ0 hnd;clear hnd
  have hs' : ¬ (n : Int) < 248 := by omega
  go_enter Tryz.func129,Tryz.ntmps129
  go_wp2_with fail
  refine (HN.out _).mono ?_
  rintro e w2 ⟨rfl,rfl⟩
  go_wp2_with (refine wpList_make_own _ rfl _ _ 205 rfl 0 5 i0 (.int .u8 0) 1 Tryz.underlying205 hi hz0 hz1 .i64 .i64 9 9 rfl rfl rfl (by rw [hz2];decide) (by decide) (Nat.zero_le _) ?_)
  intro w3 hown hg
  have hk3 : Kept NoF w w3 := (Kept.refl _ _).grown hg (fun k hk => by cases hk)
  have hz3 : w.heap.size <= w3.heap.size := hk3.size
  have hrow : NewSl 5 1 w.heap.size w3 (some ⟨w.heap.size,0,none⟩) 0 9 [] := ⟨hown,fun k hk => new_row hk (Nat.le_refl _)⟩
  have HROW := hZ0 hrow;clear hrow hown hg
  have HK3 := hZ0 hk3;clear hk3
  go_wp2_with (at_builtin;refine list_append_src elemU8 (.tmp 15) (.tmp 19) rfl rfl (Value.slice _ 0 9) rfl ((HROW.out.kept ((Kept.refl _ _).alloc _)).1) 1 rfl (Src.of_has (m := 1) (cs := #[.int .u8 (247 + k)]) (Has.new_at _ 5 _ (by simp)) rfl) (by intro u hu;simp at hu;subst hu;rfl) (by decide) (by decide) ?_;intro A c w4 ho4 hg4 ha4)
  have hz4 := HK3.out.size
  have hn3 : NewSl 5 1 w.heap.size w4 A 1 c [.int .u8 (247 + k)] := HROW.out.snoc (by simp;omega) ho4 ha4
  have hk4 : Kept NoF w w4 := (HK3.out.alloc _).grown hg4 (fun k hk => .inr (HROW.out.2 k hk))
  clear ho4 hg4 ha4
  have HN3 := hZ0 hn3;clear hn3
  have HK4 := hZ0 hk4;clear hk4
  go_loopw [4,22] (fun v4 v22 wr => ∃ (i : Nat) (A : Option Addr) (c : Nat),i <= k /\ v22 = .int .i64 i /\ v4 = .slice A (1 + i) c /\ NewSl 5 1 w.heap.size wr A (1 + i) c (Lib.byteCells (byt ((247 + k) :: (be k n).take i))) /\ Kept NoF w wr) (fun _ v22 _ => k - (intOf v22).toNat)
  case atStart =>
   refine ⟨0,A,c,Nat.zero_le _,rfl,rfl,?_,HK4.out⟩
   have e : Lib.byteCells (byt ((247 + k) :: (be k n).take 0)) = [.int .u8 (247 + k)] := by
    simp [Lib.byteCells,byt];omega
   rw [e]
   exact HN3.out
  case round =>
   obtain ⟨i,A,c,hi,rfl,rfl,hrow,hk⟩ := hrel
   have HROW := hZ0 hrow;clear hrow
   have HKR := hZ0 hk;clear hk
   by_cases hik : i < k
   ·have e1 : ((8 : Int) * (↑k - 1 - ↑i)) = ((8 * (k - 1 - i) : Nat) : Int) := by omega
    have e2 : 8 * (k - 1 - i) < 64 := by omega
    have e3 : (Value.int .u8 ((n : Int) / 2 ^ (8 * (k - 1 - i)) % 256)) = .int .u8 ((UInt8.ofNat (n / 256 ^ (k - 1 - i) % 256)).toNat : Nat) := by
     have h2 : ((2 : Int) ^ (8 * (k - 1 - i))) = ((256 ^ (k - 1 - i) : Nat) : Int) := by
      have : (256 : Nat) ^ (k - 1 - i) = 2 ^ (8 * (k - 1 - i)) := by rw [Nat.pow_mul]
      rw [this,Int.natCast_pow];rfl
     have h3 : (UInt8.ofNat (n / 256 ^ (k - 1 - i) % 256)).toNat = n / 256 ^ (k - 1 - i) % 256 := by rw [UInt8.toNat_ofNat'];omega
     rw [h2,h3]
     norm_cast
    have e4 : Lib.byteCells (byt ((247 + k) :: (be k n).take (i + 1))) = Lib.byteCells (byt ((247 + k) :: (be k n).take i)) ++ [.int .u8 ((n : Int) / 2 ^ (8 * (k - 1 - i)) % 256)] := by
     rw [be_take_succ k n i hik,e3]
     simp [Lib.byteCells,byt]
    have HE4 := hZ0 e4;clear e4 e3
    have hS : 1 + i + 1 <= maxLen := by unfold maxLen;omega
    have hS2 : (1 + i + 1) * 1 <= 140737488355328 := by omega
    have HS := hZ0 hS;clear hS
    have HS2 := hZ0 hS2;clear hS2
    have hzr := HKR.out.size
    have HZR := hZ0 hzr;clear hzr
    go_wp2_with (at_builtin;refine list_append_src elemU8 (.tmp 25) (.tmp 34) rfl rfl (Value.slice A (1 + i) c) rfl ((HROW.out.kept ((Kept.refl _ _).alloc _)).1) 1 rfl (Src.of_has (m := 1) (cs := #[.int .u8 ((n : Int) / 2 ^ (8 * (k - 1 - i)) % 256)]) (Has.new_at _ 5 _ (by simp)) rfl) (by intro u hu;simp at hu;subst hu;rfl) HS.out HS2.out ?_;intro A5 c5 w5 ho5 hg5 ha5)
    have hn5 : NewSl 5 1 w.heap.size w5 A5 (1 + i + 1) c5 (Lib.byteCells (byt ((247 + k) :: (be k n).take (i + 1)))) := by
     rw [HE4.out]
     exact HROW.out.snoc (by simp;have := HZR.out;omega) ho5 ha5
    have hk5 : Kept NoF w w5 := (HKR.out.alloc _).grown hg5 (fun k hk => .inr (HROW.out.2 k hk))
    clear ho5 hg5 ha5
    have HN5 := hZ0 hn5;clear hn5
    have HK5 := hZ0 hk5;clear hk5
    go_wp2
    go_roundw
    case rel => exact ⟨i + 1,A5,c5,by omega,by go_num,rfl,HN5.out,HK5.out⟩
    case measure => simp [intOf];omega
   ·obtain rfl : i = k := by omega
    have hform := HROW.out.1.form (by omega)
    obtain ⟨b,cap,hv,_,hlt⟩ := hform
    injection hv with hA _ hC
    subst hA
    subst hC
    have hlen : (byt ((247 + i) :: (be i n).take i)).length = 1 + i := by simp [byt,be_length];omega
    have hcv := conv_row wr b (byt ((247 + i) :: (be i n).take i)) c (fun j x hx => by
     have := HROW.out.1.cells (g := b) rfl j _ (byteCells_get _ _ _ hx)
     rwa [add_row] at this)
    rw [hlen,List.take_of_length_le (by rw [be_length];exact Nat.le_refl _),<- HP.out] at hcv
    go_wp2
    go_ret
    exact ⟨rfl,HKR.out⟩
theorem made_eq (m : Nat) : (madeCells #[Value.int .u8 0] m) = (List.replicate m (.int .u8 0)).toArray := by
 have h := toList_madeCells_one (.int .u8 0) m
 rw [<- h,Array.toArray_toList]
theorem set_tail (u : Value) (j : Nat) (z d : Value) (T T' : List Value) (h : T' = d :: T) : (u :: (List.replicate (j + 1) z ++ T)).toArray.setIfInBounds (j + 1) d = (u :: (List.replicate j z ++ T')).toArray := by
 subst h
 rw [List.setIfInBounds_toArray]
 congr 1
 rw [List.set_cons_succ,List.replicate_succ',List.append_assoc,List.set_append_right _ _ (by simp)]
 simp
theorem rput_any (n : Nat) (hn : n < 18446744073709551616) (w : World) : Calls Tryz.prog 149 #[.int .u64 n] w fun e w' => e = .returned (.string (ofL (put n))) /\ Kept NoF w w' := by
 by_cases hs : n < 248
 ·have hp : put n = [UInt8.ofNat n] := put_small hs
  rw [hp]
  have hcv := conv_one (w.alloc (Obj.cells #[Value.int .u8 n] 5)) w.heap.size n 1 (by omega) (by omega) (by simp)
  have hs' : (n : Int) < 248 := by omega
  clear hp
  go_enter Tryz.func149,Tryz.ntmps149
  go_wp2
  go_ret
  exact ⟨rfl,(Kept.refl _ _).alloc _⟩
 ·obtain ⟨i0,hi,hz0,hz1,hz2⟩ := info_parts (show (Tryz.prog.info? 5).map (fun i => (i.zero,i.size,i.bytes)) = some (some (.int .u8 0),1,1) by kernel_rfl)
  have hn8 := needs_le8 hn
  have hn1 := needs_pos n
  have hnd := rneeds_any n hn
  have hp := put_big hs
  obtain ⟨k,hk⟩ : ∃ k,needs n = k := ⟨_,rfl⟩
  rw [hk] at hn8 hn1 hnd hp
  have HP := hZ0 hp;clear hp hk
  have HN := hZ0 hnd;clear hnd
  have hs' : ¬ (n : Int) < 248 := by omega
  go_enter Tryz.func149,Tryz.ntmps149
  go_wp2_with fail
  refine (HN.out _).mono ?_
  rintro e w2 ⟨rfl,rfl⟩
  have hmk := run_make_row' (P := Tryz.prog) 205 5 (.int .u8 0) 1 Tryz.underlying205 (by kernel_rfl) rfl .i64 .i64 (k + 1) (by omega) (by omega)
  have ec : ((k + 1 : Nat) : Int) = (k : Int) + 1 := by omega
  rw [ec] at hmk
  have h0 : Has (w.alloc (.cells (madeCells #[.int .u8 0] (k + 1)) 5)) w.heap.size 5 (List.replicate (k + 1) (.int .u8 0)).toArray := by
   rw [<- made_eq]
   exact Has.new _ _ _
  have c0 : (w.alloc (.cells (madeCells #[.int .u8 0] (k + 1)) 5)).cell? ⟨w.heap.size,0,none⟩ = some (.int .u8 0) := by
   rw [h0.cell];simp
  have f0 := h0.frozen 0
  have H0 := hZ0 h0;clear h0
  go_wp2
  go_loopw [0,5] (fun v0 v5 wr => ∃ (i : Nat),i <= k /\ v5 = .int .i64 i /\ v0 = .int .u64 ((n / 256 ^ (k - i) : Nat) : Int) /\ Has wr w.heap.size 5 (.int .u8 (247 + k) :: (List.replicate i (.int .u8 0) ++ Lib.byteCells (byt (be (k - i) n)))).toArray /\ Kept NoF w wr) (fun _ v5 _ => (intOf v5).toNat)
  case atStart =>
   refine ⟨k,Nat.le_refl _,rfl,by simp,?_,by (repeat' (first | (with_reducible first | exact kR0 | apply kP0 | apply kN0 | apply kD0 | apply kA0) | (right;simp;done)))⟩
   have e : (.int .u8 (247 + k) :: (List.replicate k (.int .u8 0) ++ Lib.byteCells (byt (be (k - k) n)))).toArray = (madeCells #[Value.int .u8 0] (k + 1)).setIfInBounds 0 (.int .u8 (247 + k)) := by
    rw [made_eq]
    simp [be,byt,Lib.byteCells,List.replicate_succ]
   rw [e]
   exact Has.new _ _ _
  case round =>
   obtain ⟨i,hi,rfl,rfl,hrow,hk⟩ := hrel
   have HROW := hZ0 hrow;clear hrow
   have HKR := hZ0 hk;clear hk
   by_cases hik : 0 < i
   ·have hik' : (0 : Int) < i := by omega
    have c1 : wr.cell? ⟨w.heap.size,i,none⟩ = some (.int .u8 0) := by
     rw [HROW.out.cell]
     obtain ⟨j,rfl⟩ : ∃ j,i = j + 1 := ⟨i - 1,by omega⟩
     simp only [List.getElem?_toArray,List.getElem?_cons_succ]
     rw [List.getElem?_append_left (by simp)]
     simp
    have f1 := HROW.out.frozen i
    obtain ⟨m,hm⟩ : ∃ m,n / 256 ^ (k - i) = m := ⟨_,rfl⟩
    rw [hm]
    have hmle : m <= n := by rw [<- hm];exact Nat.div_le_self _ _
    have HM := hZ0 hm;clear hm
    go_wp2
    obtain ⟨j,rfl⟩ : ∃ j,i = j + 1 := ⟨i - 1,by omega⟩
    have ej : k - j = 1 + (k - (j + 1)) := by omega
    refine ⟨⟨j,by omega,by go_num,?_,Has.put_of HROW.out (set_tail _ j _ _ _ _ ?_),HKR.out.put (.inr (Nat.le_refl _))⟩,by simp [intOf]⟩
    ·rw [ej,Nat.add_comm 1,Nat.pow_succ,<- Nat.div_div_eq_div_mul,HM.out]
     go_num
    ·rw [ej,be_split,HM.out]
     have h3 : (UInt8.ofNat (m % 256)).toNat = m % 256 := by rw [UInt8.toNat_ofNat'];omega
     simp only [be,List.nil_append,List.singleton_append,byt,List.map_cons,Lib.byteCells,h3]
     congr 2
   ·obtain rfl : i = 0 := by omega
    have hlen : (byt ((247 + k) :: be k n)).length = k + 1 := by simp [byt,be_length]
    have hcv := conv_row wr w.heap.size (byt ((247 + k) :: be k n)) (k + 1) (fun j x hx => by
     rw [HROW.out.cell]
     have e : (Value.int .u8 (247 + k) :: (List.replicate 0 (.int .u8 0) ++ Lib.byteCells (byt (be (k - 0) n)))) = Lib.byteCells (byt ((247 + k) :: be k n)) := by
      have h3 : (UInt8.ofNat (247 + k)).toNat = 247 + k := by rw [UInt8.toNat_ofNat'];omega
      simp only [List.replicate_zero,List.nil_append,Nat.sub_zero,byt,Lib.byteCells,List.map_cons,h3]
      congr 2
     rw [e,List.getElem?_toArray]
     exact byteCells_get _ _ _ hx)
    rw [hlen,<- HP.out] at hcv
    go_wp2
    go_ret
    exact ⟨rfl,HKR.out⟩
end Vn
end Go.Proofs.YtgbigpdiacjbgaaGreat
