/- Part 2 of what the proof needs. -/
import Derived.Test.YtgffjliedjhbaaaGreatZS00
import Derived.Test.YtgffjliedjhbaaaGreatChecked
import Derived.WalkKit
import Derived.WalkSpells
import Derived.WalkMore
import Derived.WalkLawsBesides
import Derived.BigQuiet
import Derived.Deep.QuietTactic
import Derived.Lib.Hide
import Derived.Lib.UnsafeStr
import Derived.Deep.OwnRows
import Derived.Lib.SlBytesRow
set_option linter.unusedSimpArgs false
set_option linter.unusedVariables false
set_option maxHeartbeats 32000000
set_option maxRecDepth 100000
namespace Go.Proofs.YtgffjliedjhbaaaGreat
namespace Vn
def be : Nat -> Nat -> List Nat
 | 0,_ => []
 | k + 1,n => be k (n / 256) ++ [n % 256]
def needs (n : Nat) : Nat := if h : n < 256 then 1 else 1 + needs (n / 256)
termination_by n
decreasing_by omega
def byt (l : List Nat) : List UInt8 := l.map fun x => UInt8.ofNat x
def put (n : Nat) : List UInt8 := if n < 248 then byt [n] else byt ((247 + needs n) :: be (needs n) n)
def val (l : List Nat) : Nat := l.foldl (fun a b => a * 256 + b) 0
theorem be_length (k n : Nat) : (be k n).length = k := by
 induction k generalizing n with
 | zero => rfl
 | succ k ih => simp [be,ih]
theorem needs_pos (n : Nat) : 1 <= needs n := by
 rw [needs];split <;> omega
theorem needs_small {n : Nat} (h : n < 256) : needs n = 1 := by rw [needs,dif_pos h]
theorem needs_big {n : Nat} (h : ¬ n < 256) : needs n = 1 + needs (n / 256) := by rw [needs,dif_neg h]
theorem needs_le (k n : Nat) (h : n < 256 ^ k) (hk : 1 <= k) : needs n <= k := by
 induction k generalizing n with
 | zero => omega
 | succ k ih =>
  by_cases hn : n < 256
  ·rw [needs_small hn];omega
  ·rw [needs_big hn]
   have h1 : n / 256 < 256 ^ k := by
    rw [Nat.div_lt_iff_lt_mul (by decide)];rw [Nat.pow_succ] at h;exact h
   have hk1 : 1 <= k := by
    rcases Nat.eq_zero_or_pos k with rfl | h0
    ·simp at h;omega
    ·exact h0
   have := ih (n / 256) h1 hk1
   omega
theorem needs_le8 {n : Nat} (h : n < 18446744073709551616) : needs n <= 8 := needs_le 8 n (by simpa using h) (by decide)
theorem lt_needs (n : Nat) : n < 256 ^ needs n := by
 induction n using Nat.strongRecOn with
 | ind n ih =>
  by_cases hn : n < 256
  ·rw [needs_small hn];simpa using hn
  ·rw [needs_big hn,Nat.add_comm,Nat.pow_succ,<- Nat.div_lt_iff_lt_mul (by decide)]
   exact ih (n / 256) (by omega)
theorem be_get (k n i : Nat) (h : i < k) : (be k n)[i]? = some (n / 256 ^ (k - 1 - i) % 256) := by
 induction k generalizing n with
 | zero => omega
 | succ k ih =>
  by_cases hi : i < k
  ·rw [be,List.getElem?_append_left (by rw [be_length];exact hi),ih _ hi,Nat.div_div_eq_div_mul]
   have e : k + 1 - 1 - i = (k - 1 - i) + 1 := by omega
   rw [e,Nat.pow_succ,Nat.mul_comm]
  ·obtain rfl : i = k := by omega
   rw [be,List.getElem?_append_right (by rw [be_length];omega)]
   simp [be_length]
theorem be_take_succ (k n i : Nat) (h : i < k) : (be k n).take (i + 1) = (be k n).take i ++ [n / 256 ^ (k - 1 - i) % 256] := by
 rw [List.take_add_one,be_get k n i h];rfl
theorem be_lt (k n : Nat) : ∀ x ∈ be k n,x < 256 := by
 induction k generalizing n with
 | zero => simp [be]
 | succ k ih =>
  intro x hx
  simp [be] at hx
  rcases hx with h | rfl
  ·exact ih _ _ h
  ·omega
theorem val_snoc (l : List Nat) (x : Nat) : val (l ++ [x]) = val l * 256 + x := by simp [val]
theorem val_be (k n : Nat) : val (be k n) = n % 256 ^ k := by
 induction k generalizing n with
 | zero => simp [be,val,Nat.mod_one]
 | succ k ih =>
  rw [be,val_snoc,ih,Nat.pow_succ,Nat.mul_comm (256 ^ k) 256,Nat.mod_mul]
  omega
theorem val_needs (n : Nat) : val (be (needs n) n) = n := by rw [val_be];exact Nat.mod_eq_of_lt (lt_needs n)
theorem val_lt (l : List Nat) (h : ∀ x ∈ l,x < 256) : val l < 256 ^ l.length := by
 suffices ∀ (m : List Nat),(∀ x ∈ m,x < 256) -> val m.reverse < 256 ^ m.length by
  have := this l.reverse (by simpa using h)
  simpa using this
 intro m hm
 induction m with
 | nil => simp [val]
 | cons a m ih =>
  have h1 := ih (fun x hx => hm x (by simp [hx]))
  have h2 := hm a (by simp)
  rw [List.reverse_cons,val_snoc,List.length_cons,Nat.pow_succ]
  omega
theorem be_val (l : List Nat) (h : ∀ x ∈ l,x < 256) : be l.length (val l) = l := by
 suffices ∀ (m : List Nat),(∀ x ∈ m,x < 256) -> be m.length (val m.reverse) = m.reverse by
  have := this l.reverse (by simpa using h)
  simpa using this
 intro m hm
 induction m with
 | nil => simp [be]
 | cons a m ih =>
  have h1 := ih (fun x hx => hm x (by simp [hx]))
  have h2 := hm a (by simp)
  rw [List.reverse_cons,val_snoc,List.length_cons,be]
  have e1 : (val m.reverse * 256 + a) / 256 = val m.reverse := by omega
  have e2 : (val m.reverse * 256 + a) % 256 = a := by omega
  rw [e1,e2,h1]
theorem put_small {n : Nat} (h : n < 248) : put n = [UInt8.ofNat n] := by simp [put,h,byt]
theorem put_big {n : Nat} (h : ¬ n < 248) : put n = byt ((247 + needs n) :: be (needs n) n) := by simp [put,h]
theorem put_length (n : Nat) : (put n).length = if n < 248 then 1 else 1 + needs n := by
 unfold put;split <;> simp [byt,be_length,Nat.add_comm]
theorem put_le {n : Nat} (h : n < 18446744073709551616) : (put n).length <= 9 := by
 have := needs_le8 h
 rw [put_length];split <;> omega
theorem put_pos (n : Nat) : 1 <= (put n).length := by
 rw [put_length];split <;> omega
def get (s : List UInt8) (i : Nat) : Except Nat (Nat × Nat) :=
 match s[i]? with
 | none => .error 2
 | some b =>
  if b.toNat < 248 then .ok (b.toNat,i + 1)
  else
   let k := b.toNat - 247
   let r := (s.drop (i + 1)).take k
   if r.length < k then .error 2
   else
    let n := val (r.map UInt8.toNat)
    if n < 248 \/ needs n ≠ k then .error 4 else .ok (n,i + 1 + k)
theorem get_put (pre post : List UInt8) (n : Nat) (h : n < 18446744073709551616) : get (pre ++ put n ++ post) pre.length = .ok (n,pre.length + (put n).length) := by
 have h8 := needs_le8 h
 by_cases hs : n < 248
 ·have e : (pre ++ put n ++ post)[pre.length]? = some (UInt8.ofNat n) := by
   rw [put_small hs,List.append_assoc,List.getElem?_append_right (Nat.le_refl _)];simp
  have e2 : (UInt8.ofNat n).toNat = n := by rw [UInt8.toNat_ofNat'];omega
  unfold get
  rw [e]
  simp only [e2]
  rw [if_pos hs,put_small hs];rfl
 ·have hk := needs_pos n
  have e : (pre ++ put n ++ post)[pre.length]? = some (UInt8.ofNat (247 + needs n)) := by
   rw [put_big hs,List.append_assoc,List.getElem?_append_right (Nat.le_refl _)];simp [byt]
  have e2 : (UInt8.ofNat (247 + needs n)).toNat = 247 + needs n := by rw [UInt8.toNat_ofNat'];omega
  have e3 : ((pre ++ put n ++ post).drop (pre.length + 1)).take (needs n) = byt (be (needs n) n) := by
   rw [put_big hs,List.append_assoc,List.drop_append,List.drop_eq_nil_of_le (by omega)]
   simp only [byt,List.map_cons,List.cons_append,List.nil_append,Nat.add_sub_cancel_left,List.drop_succ_cons,List.drop_zero]
   rw [List.take_append_of_le_length (by simp [be_length]),List.take_of_length_le (by simp [be_length])]
  have e4 : (byt (be (needs n) n)).map UInt8.toNat = be (needs n) n := by
   unfold byt
   rw [List.map_map]
   conv => rhs;rw [<- List.map_id (be (needs n) n)]
   apply List.map_congr_left
   intro x hx
   have := be_lt _ _ x hx
   simp only [Function.comp,id]
   rw [UInt8.toNat_ofNat']
   omega
  unfold get
  rw [e]
  simp only [e2]
  rw [if_neg (by omega),Nat.add_sub_cancel_left,e3,e4,val_needs,if_neg (by simp [byt,be_length]),if_neg (by simp;omega),put_big hs]
  simp [byt,be_length]
  omega
theorem map_ofNat_toNat (l : List UInt8) : (l.map UInt8.toNat).map UInt8.ofNat = l := by
 rw [List.map_map]
 conv => rhs;rw [<- List.map_id l]
 apply List.map_congr_left
 intro x _
 simp
theorem toNat_map_lt (l : List UInt8) : ∀ x ∈ l.map UInt8.toNat,x < 256 := by
 intro x hx
 rw [List.mem_map] at hx
 obtain ⟨y,_,rfl⟩ := hx
 have := UInt8.toNat_lt y
 omega
theorem put_get {s : List UInt8} {i n j : Nat} (h : get s i = .ok (n,j)) : i < j /\ j <= s.length /\ n < 18446744073709551616 /\ (s.drop i).take (j - i) = put n := by
 unfold get at h
 split at h
 ·cases h
 ·rename_i b hb
  have hi : i < s.length := (List.getElem?_eq_some_iff.1 hb).1
  have hbe : s[i] = b := (List.getElem?_eq_some_iff.1 hb).2
  have hdrop : s.drop i = b :: s.drop (i + 1) := by rw [List.drop_eq_getElem_cons hi,hbe]
  have hb256 := b.toNat_lt
  split at h
  ·rename_i hs
   injection h with h
   injection h with h1 h2
   subst h1;subst h2
   refine ⟨by omega,by omega,by omega,?_⟩
   rw [Nat.add_sub_cancel_left,hdrop,put_small hs]
   simp
  ·rename_i hs
   dsimp only at h
   split at h
   ·cases h
   ·rename_i hk
    split at h
    ·cases h
    ·rename_i hn
     injection h with h
     injection h with h1 h2
     have hlen : ((s.drop (i + 1)).take (b.toNat - 247)).length = b.toNat - 247 := by
      have := List.length_take_le (b.toNat - 247) (s.drop (i + 1));omega
     have hle : i + 1 + (b.toNat - 247) <= s.length := by
      rw [List.length_take,List.length_drop] at hlen;omega
     have hv := val_lt (((s.drop (i + 1)).take (b.toNat - 247)).map UInt8.toNat) (toNat_map_lt _)
     have hbe := be_val (((s.drop (i + 1)).take (b.toNat - 247)).map UInt8.toNat) (toNat_map_lt _)
     rw [List.length_map,hlen] at hv hbe
     simp only [h1] at hn hv hbe
     have hn2 : ¬ n < 248 := fun x => hn (.inl x)
     have hn3 : needs n = b.toNat - 247 := Classical.byContradiction fun x => hn (.inr x)
     refine ⟨by omega,by omega,?_,?_⟩
     ·have : (256 : Nat) ^ (b.toNat - 247) <= 256 ^ 8 := Nat.pow_le_pow_right (by decide) (by omega)
      have e8 : (256 : Nat) ^ 8 = 18446744073709551616 := by decide
      omega
     ·rw [put_big hn2,hn3,<- h2]
      have e : i + 1 + (b.toNat - 247) - i = (b.toNat - 247) + 1 := by omega
      have e9 : 247 + (b.toNat - 247) = b.toNat := by omega
      rw [e,hdrop,List.take_succ_cons,byt,List.map_cons,e9,hbe,map_ofNat_toNat]
      simp
end Vn
end Go.Proofs.YtgffjliedjhbaaaGreat
namespace Go.Proofs.YtgffjliedjhbaaaGreat
namespace Ops
open Vn
abbrev bl (s : ByteArray) : List UInt8 := s.data.toList
def ofL (l : List UInt8) : ByteArray := ⟨l.toArray⟩
structure OpR where
 key : ByteArray
 val : ByteArray
 del : Bool
deriving DecidableEq
def cell (o : OpR) : List Value := [.string o.key,.string o.val,.bool o.del]
def cells (l : List OpR) : List Value := l.flatMap cell
structure Batch where
 cl : Int
 req : Int
 ops : List OpR
def emp : ByteArray := ⟨#[]⟩
theorem size_bl (s : ByteArray) : (bl s).length = s.size := Array.length_toList
theorem ofL_bl (s : ByteArray) : ofL (bl s) = s := by simp [ofL,bl]
theorem bl_ofL (l : List UInt8) : bl (ofL l) = l := by simp [ofL,bl]
def one (o : OpR) (ahead : ByteArray) (first : Bool) : Int :=
 if o.key.size < 1 \/ 8 < o.key.size then 10 else if 8 < o.val.size then 3 else if o.del = true /\ o.val.size ≠ 0 then 4
 else if first = false /\ Op.bytesLess ahead.toList o.key.toList = false then 18 else 0
def chkL : List OpR -> ByteArray -> Bool -> Int
 | [],_,_ => 0
 | o :: l,a,f => if one o a f ≠ 0 then one o a f else chkL l o.key false
def chk (b : Batch) : Int :=
 if b.cl < 0 \/ 3 <= b.cl then 1 else if b.req < 1 \/ 1073741824 < b.req then 5 else if 4 < b.ops.length then 6 else chkL b.ops emp true
def putT (s : ByteArray) : List UInt8 := put s.size ++ bl s
def putF (b : Bool) : List UInt8 := [if b then 1 else 0]
def putO (o : OpR) : List UInt8 := putT o.key ++ putF o.del ++ putT o.val
def putB (b : Batch) : List UInt8 := put b.cl.toNat ++ put b.req.toNat ++ put b.ops.length ++ b.ops.flatMap putO
theorem flat_succ {α β : Type} (f : α -> List β) (l : List α) (i : Nat) (h : i < l.length) : (l.take (i + 1)).flatMap f = (l.take i).flatMap f ++ f l[i] := by
 rw [List.take_add_one,List.getElem?_eq_getElem h,List.flatMap_append]
 simp
theorem chkL_ok {l : List OpR} {a : ByteArray} {f : Bool} (h : chkL l a f = 0) : ∀ o ∈ l,1 <= o.key.size /\ o.key.size <= 8 /\ o.val.size <= 8 /\ (o.del = true -> o.val.size = 0) := by
 induction l generalizing a f with
 | nil => intro o ho;cases ho
 | cons x l ih =>
  unfold chkL at h
  split at h
  ·rename_i h1
   exact absurd h h1
  ·rename_i h1
   have h2 : one x a f = 0 := Classical.byContradiction h1
   have hx : 1 <= x.key.size /\ x.key.size <= 8 /\ x.val.size <= 8 /\ (x.del = true -> x.val.size = 0) := by
    unfold one at h2
    split at h2
    ·cases h2
    ·rename_i g1
     split at h2
     ·cases h2
     ·rename_i g2
      split at h2
      ·cases h2
      ·rename_i g3
       refine ⟨by omega,by omega,by omega,fun hd => ?_⟩
       exact Classical.byContradiction fun hv => g3 ⟨hd,hv⟩
   intro o ho
   rcases List.mem_cons.1 ho with rfl | ho
   ·exact hx
   ·exact ih h o ho
theorem chk_ok {b : Batch} (h : chk b = 0) : 0 <= b.cl /\ b.cl < 3 /\ 1 <= b.req /\ b.req <= 1073741824 /\ b.ops.length <= 4 /\ chkL b.ops emp true = 0 := by
 unfold chk at h
 split at h
 ·cases h
 ·split at h
  ·cases h
  ·split at h
   ·cases h
   ·rename_i h1 h2 h3
    exact ⟨by omega,by omega,by omega,by omega,by omega,h⟩
theorem chkL_at (l : List OpR) (i : Nat) (h : i < l.length) (a : ByteArray) (f : Bool) : chkL (l.drop i) a f = if one l[i] a f ≠ 0 then one l[i] a f else chkL (l.drop (i + 1)) l[i].key false := by
 rw [List.drop_eq_getElem_cons h,chkL]
theorem putO_len {o : OpR} (h1 : o.key.size <= 8) (h2 : o.val.size <= 8) : (putO o).length <= 19 := by
 have e1 : (put o.key.size).length = 1 := by rw [put_small (by omega)];rfl
 have e2 : (put o.val.size).length = 1 := by rw [put_small (by omega)];rfl
 simp only [putO,putT,putF,List.length_append,e1,e2,size_bl,List.length_cons,List.length_nil]
 omega
theorem flat_len (l : List OpR) (h : ∀ o ∈ l,(putO o).length <= 19) : (l.flatMap putO).length <= l.length * 19 := by
 induction l with
 | nil => simp
 | cons a l ih =>
  have h1 := h a (by simp)
  have h2 := ih fun o ho => h o (by simp [ho])
  simp only [List.flatMap_cons,List.length_append,List.length_cons]
  omega
end Ops
end Go.Proofs.YtgffjliedjhbaaaGreat
namespace Go.Proofs.YtgffjliedjhbaaaGreat
open Go.RowKit
set_option maxRecDepth 100000
namespace Vn
open Ops (ofL bl)
theorem elemU8 : Elem Tryz.prog 320 5 1 1 :=
 by
 obtain ⟨i0,hi,hz0,hz1,hz2⟩ := info_parts (show (Tryz.prog.info? 5).map (fun i => (i.zero,i.size,i.bytes)) = some (some (.int .u8 0),1,1) by kernel_rfl)
 exact ⟨Tryz.underlying320,⟨i0,_,hi,hz0,hz1,hz2,rfl⟩,by decide⟩
def NewSl (e : TypeId) (size B : Nat) (w : World) (A : Option Addr) (n c : Nat) (xs : List Value) : Prop :=
 w.ownsRow 0 e size (.slice A n c) n xs /\ ∀ k,(Value.slice A n c).ownBlock = some k -> B <= k
theorem NewSl.kept {e : TypeId} {size B n c : Nat} {w w' : World} {A : Option Addr} {xs : List Value} (h : NewSl e size B w A n c xs) (hk : Kept NoF w w') : NewSl e size B w' A n c xs :=
 ⟨own_kept h.1 hk (fun _ _ x => x),h.2⟩
theorem NewSl.snoc {e : TypeId} {size B n c n' c' : Nat} {w w1 w' : World} {A A' : Option Addr} {xs ys : List Value} (h : NewSl e size B w A n c xs) (hB : B <= w1.heap.size) (ho : w'.ownsRow 0 e size (.slice A' n' c') n' ys)
  (ha : (Value.slice A' n' c').ownBlock = (Value.slice A n c).ownBlock \/ (Value.slice A' n' c').ownBlock = some w1.heap.size) : NewSl e size B w' A' n' c' ys :=
 ⟨ho,fun k hk => by
  rcases ha with e1 | e1
  ·exact h.2 k (e1.symm.trans hk)
  ·rw [hk] at e1;injection e1 with e1;omega⟩
theorem conv_one (W : World) (b : Nat) (n : Int) (c : Nat) (hn : 0 <= n) (hn' : n < 256) (hc : W.cell? ⟨b,0,none⟩ = some (.int .u8 n)) :
  (convert 320 9 (.slice (some ⟨b,0,none⟩) 1 c)).run Tryz.prog W = .ok (.string ⟨#[UInt8.ofNat n.toNat]⟩) W := by
 refine Lib.run_convert_whole (P := Tryz.prog) W 320 5 9 Tryz.underlying320 Tryz.underlying5 Tryz.underlying9 b 0 ⟨#[UInt8.ofNat n.toNat]⟩ ?_ c
 intro i hi
 have h0 : i = 0 := by have : i < 1 := hi;omega
 subst h0
 rw [Nat.add_zero,hc]
 show _ = some (Value.int IntKind.u8 ((UInt8.ofNat n.toNat).toNat : Int))
 congr 2
 simp
 omega
theorem conv_row (W : World) (b : Nat) (l : List UInt8) (c : Nat) (h : ∀ (i : Nat) x,l[i]? = some x -> W.cell? ⟨b,i,none⟩ = some (.int .u8 x.toNat)) :
  (convert 320 9 (.slice (some ⟨b,0,none⟩) l.length c)).run Tryz.prog W = .ok (.string (ofL l)) W := by
 have hs : (ofL l).size = l.length := by simp [ofL,ByteArray.size]
 rw [<- hs]
 refine Lib.run_convert_whole (P := Tryz.prog) W 320 5 9 Tryz.underlying320 Tryz.underlying5 Tryz.underlying9 b 0 (ofL l) ?_ c
 intro i hi
 have hi' : i < l.length := by omega
 rw [Nat.zero_add,h i l[i] (List.getElem?_eq_getElem hi')]
 rfl
theorem vneeds_any (n : Nat) (hn : n < 18446744073709551616) (w : World) : Calls Tryz.prog 196 #[.int .u64 n] w fun e w' => e = .returned (.int .i64 (needs n)) /\ w = w' := by
 have h8 := needs_le8 hn
 go_enter Tryz.func196,Tryz.ntmps196
 go_wp2
 go_step3
 go_wp2
 go_step3
 go_wp2
 go_loop [0,3] (fun v0 v3 => ∃ m k : Nat,v0 = .int .u64 m /\ v3 = .int .i64 k /\ m < 18446744073709551616 /\ k + needs m = needs n) (fun v0 _ => (intOf v0).toNat)
 case atStart => exact ⟨n,0,rfl,rfl,hn,by omega⟩
 case round =>
  obtain ⟨m,k,rfl,rfl,hm,he⟩ := hrel
  have hp := needs_pos m
  have hk : k < 8 := by omega
  by_cases h0 : m < 256
  ·have e1 := needs_small h0
   have hz : m / 256 = 0 := by omega
   have hz2 : (m : Int) / 256 = 0 := by omega
   have hkn : k + 1 = needs n := by omega
   have HE := hZ0 he;clear he
   have HK := hZ0 hkn;clear hkn e1 hp h8
   go_wp2
   go_ret
   exact ⟨by rw [<- HK.out];simp,rfl⟩
  ·have e1 := needs_big h0
   have hz : ¬ m / 256 = 0 := by omega
   have hz2 : ¬ (m : Int) / 256 = 0 := by omega
   have HE := hZ0 he;clear he
   have HE1 := hZ0 e1;clear e1 hp h8
   go_wp2
   go_round
   case rel => exact ⟨m / 256,k + 1,by go_num,by go_num,by omega,by rw [<- HE.out,HE1.out];omega⟩
   case measure => simp [intOf];omega
theorem add_row (g i : Nat) : ((⟨g,0,none⟩ : Addr).add i) = ⟨g,i,none⟩ := by unfold Addr.add;split <;> simp_all
theorem byteCells_get (l : List UInt8) (i : Nat) (x : UInt8) (h : l[i]? = some x) : (Lib.byteCells l)[i]? = some (.int .u8 x.toNat) := by simp [Lib.byteCells,h]
theorem vput_any (n : Nat) (hn : n < 18446744073709551616) (w : World) : Calls Tryz.prog 144 #[.int .u64 n] w fun e w' => e = .returned (.string (ofL (put n))) /\ Kept NoF w w' := by
 by_cases hs : n < 248
 ·have hp : put n = [UInt8.ofNat n] := put_small hs
  rw [hp]
  have hcv := conv_one (w.alloc (Obj.cells #[Value.int .u8 n] 5)) w.heap.size n 1 (by omega) (by omega) (by simp)
  have hs' : (n : Int) < 248 := by omega
  clear hp
  go_enter Tryz.func144,Tryz.ntmps144
  go_wp2
  go_ret
  exact ⟨rfl,(Kept.refl _ _).alloc _⟩
 ·obtain ⟨i0,hi,hz0,hz1,hz2⟩ := info_parts (show (Tryz.prog.info? 5).map (fun i => (i.zero,i.size,i.bytes)) = some (some (.int .u8 0),1,1) by kernel_rfl)
  have hn8 := needs_le8 hn
  have hn1 := needs_pos n
  have hnd := vneeds_any n hn
  have hp := put_big hs
  obtain ⟨k,hk⟩ : ∃ k,needs n = k := ⟨_,rfl⟩
  rw [hk] at hn8 hn1 hnd hp
  have HP := hZ0 hp;clear hp hk
  have HN := hZ0 hnd;clear hnd
  have hs' : ¬ (n : Int) < 248 := by omega
  go_enter Tryz.func144,Tryz.ntmps144
  go_wp2_with fail
  refine (HN.out _).mono ?_
  rintro e w2 ⟨rfl,rfl⟩
  go_wp2_with (refine wpList_make_own _ rfl _ _ 320 rfl 0 5 i0 (.int .u8 0) 1 Tryz.underlying320 hi hz0 hz1 .i64 .i64 9 9 rfl rfl rfl (by rw [hz2];decide) (by decide) (Nat.zero_le _) ?_)
  intro w3 hown hg
  have hk3 : Kept NoF w w3 := (Kept.refl _ _).grown hg (fun k hk => by cases hk)
  have hz3 : w.heap.size <= w3.heap.size := hk3.size
  have hrow : NewSl 5 1 w.heap.size w3 (some ⟨w.heap.size,0,none⟩) 0 9 [] := ⟨hown,fun k hk => new_row hk (Nat.le_refl _)⟩
  have HROW := hZ0 hrow;clear hrow hown hg
  have HK3 := hZ0 hk3;clear hk3
  go_wp2_with (at_builtin;refine list_append_src elemU8 (.tmp 15) (.tmp 19) rfl rfl (Value.slice _ 0 9) rfl ((HROW.out.kept ((Kept.refl _ _).alloc _)).1) 1 rfl (Src.of_has (m := 1) (cs := #[.int .u8 (247 + k)]) (Has.new_at _ 5 _ (by simp)) rfl) (by intro u hu;simp at hu;subst hu;rfl) (by decide) (by decide) ?_;intro A c w4 ho4 hg4 ha4)
  have hz4 := HK3.out.size
  have hn3 : NewSl 5 1 w.heap.size w4 A 1 c [.int .u8 (247 + k)] := HROW.out.snoc (by simp;omega) ho4 ha4
  have hk4 : Kept NoF w w4 := (HK3.out.alloc _).grown hg4 (fun k hk => .inr (HROW.out.2 k hk))
  clear ho4 hg4 ha4
  have HN3 := hZ0 hn3;clear hn3
  have HK4 := hZ0 hk4;clear hk4
  go_loopw [4,22] (fun v4 v22 wr => ∃ (i : Nat) (A : Option Addr) (c : Nat),i <= k /\ v22 = .int .i64 i /\ v4 = .slice A (1 + i) c /\ NewSl 5 1 w.heap.size wr A (1 + i) c (Lib.byteCells (byt ((247 + k) :: (be k n).take i))) /\ Kept NoF w wr) (fun _ v22 _ => k - (intOf v22).toNat)
  case atStart =>
   refine ⟨0,A,c,Nat.zero_le _,rfl,rfl,?_,HK4.out⟩
   have e : Lib.byteCells (byt ((247 + k) :: (be k n).take 0)) = [.int .u8 (247 + k)] := by
    simp [Lib.byteCells,byt];omega
   rw [e]
   exact HN3.out
  case round =>
   obtain ⟨i,A,c,hi,rfl,rfl,hrow,hk⟩ := hrel
   have HROW := hZ0 hrow;clear hrow
   have HKR := hZ0 hk;clear hk
   by_cases hik : i < k
   ·have e1 : ((8 : Int) * (↑k - 1 - ↑i)) = ((8 * (k - 1 - i) : Nat) : Int) := by omega
    have e2 : 8 * (k - 1 - i) < 64 := by omega
    have e3 : (Value.int .u8 ((n : Int) / 2 ^ (8 * (k - 1 - i)) % 256)) = .int .u8 ((UInt8.ofNat (n / 256 ^ (k - 1 - i) % 256)).toNat : Nat) := by
     have h2 : ((2 : Int) ^ (8 * (k - 1 - i))) = ((256 ^ (k - 1 - i) : Nat) : Int) := by
      have : (256 : Nat) ^ (k - 1 - i) = 2 ^ (8 * (k - 1 - i)) := by rw [Nat.pow_mul]
      rw [this,Int.natCast_pow];rfl
     have h3 : (UInt8.ofNat (n / 256 ^ (k - 1 - i) % 256)).toNat = n / 256 ^ (k - 1 - i) % 256 := by rw [UInt8.toNat_ofNat'];omega
     rw [h2,h3]
     norm_cast
    have e4 : Lib.byteCells (byt ((247 + k) :: (be k n).take (i + 1))) = Lib.byteCells (byt ((247 + k) :: (be k n).take i)) ++ [.int .u8 ((n : Int) / 2 ^ (8 * (k - 1 - i)) % 256)] := by
     rw [be_take_succ k n i hik,e3]
     simp [Lib.byteCells,byt]
    have HE4 := hZ0 e4;clear e4 e3
    have hS : 1 + i + 1 <= maxLen := by unfold maxLen;omega
    have hS2 : (1 + i + 1) * 1 <= 140737488355328 := by omega
    have HS := hZ0 hS;clear hS
    have HS2 := hZ0 hS2;clear hS2
    have hzr := HKR.out.size
    have HZR := hZ0 hzr;clear hzr
    go_wp2_with (at_builtin;refine list_append_src elemU8 (.tmp 25) (.tmp 34) rfl rfl (Value.slice A (1 + i) c) rfl ((HROW.out.kept ((Kept.refl _ _).alloc _)).1) 1 rfl (Src.of_has (m := 1) (cs := #[.int .u8 ((n : Int) / 2 ^ (8 * (k - 1 - i)) % 256)]) (Has.new_at _ 5 _ (by simp)) rfl) (by intro u hu;simp at hu;subst hu;rfl) HS.out HS2.out ?_;intro A5 c5 w5 ho5 hg5 ha5)
    have hn5 : NewSl 5 1 w.heap.size w5 A5 (1 + i + 1) c5 (Lib.byteCells (byt ((247 + k) :: (be k n).take (i + 1)))) := by
     rw [HE4.out]
     exact HROW.out.snoc (by simp;have := HZR.out;omega) ho5 ha5
    have hk5 : Kept NoF w w5 := (HKR.out.alloc _).grown hg5 (fun k hk => .inr (HROW.out.2 k hk))
    clear ho5 hg5 ha5
    have HN5 := hZ0 hn5;clear hn5
    have HK5 := hZ0 hk5;clear hk5
    go_wp2
    go_roundw
    case rel => exact ⟨i + 1,A5,c5,by omega,by go_num,rfl,HN5.out,HK5.out⟩
    case measure => simp [intOf];omega
   ·obtain rfl : i = k := by omega
    have hform := HROW.out.1.form (by omega)
    obtain ⟨b,cap,hv,_,hlt⟩ := hform
    injection hv with hA _ hC
    subst hA
    subst hC
    have hlen : (byt ((247 + i) :: (be i n).take i)).length = 1 + i := by simp [byt,be_length];omega
    have hcv := conv_row wr b (byt ((247 + i) :: (be i n).take i)) c (fun j x hx => by
     have := HROW.out.1.cells (g := b) rfl j _ (byteCells_get _ _ _ hx)
     rwa [add_row] at this)
    rw [hlen,List.take_of_length_le (by rw [be_length];exact Nat.le_refl _),<- HP.out] at hcv
    go_wp2
    go_ret
    exact ⟨rfl,HKR.out⟩
end Vn
end Go.Proofs.YtgffjliedjhbaaaGreat
