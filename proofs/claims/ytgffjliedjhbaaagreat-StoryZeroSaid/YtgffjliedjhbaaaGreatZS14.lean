/- Part 15 of what the proof needs. -/
import Derived.Test.YtgffjliedjhbaaaGreatZS01
import Derived.Lib.EndianBits
set_option linter.unusedSimpArgs false
set_option linter.unusedVariables false
set_option maxHeartbeats 32000000
set_option maxRecDepth 100000
namespace Go.Proofs.YtgffjliedjhbaaaGreat
open Go.RowKit
set_option maxRecDepth 100000
namespace Fr
open Vn
def tab : List Nat := [0,498536548,997073096,651767980,1994146192,1802195444,1303535960,1342533948,3988292384,4027552580,3604390888,3412177804,2607071920,2262029012,2685067896,3183342108]
def hN (x : Nat) : Nat := tab.getD (x &&& 15) 0
theorem hN_lt (x : Nat) : hN x < 4294967296 := by
 unfold hN
 have h : x &&& 15 < 16 := Nat.lt_of_le_of_lt Nat.and_le_right (by decide)
 generalize x &&& 15 = k at h
 have h2 : ∀ k : Fin 16,tab.getD k.val 0 < 4294967296 := by decide
 exact h2 ⟨k,h⟩
theorem tab_get (k : Nat) (h : k < 16) : ([Value.int .u32 0,.int .u32 498536548,.int .u32 997073096,.int .u32 651767980,.int .u32 1994146192,.int .u32 1802195444,.int .u32 1303535960,.int .u32 1342533948,.int .u32 3988292384,.int .u32 4027552580,.int .u32 3604390888,.int .u32 3412177804,.int .u32 2607071920,.int .u32 2262029012,.int .u32 2685067896,.int .u32 3183342108][k]'h) = .int .u32 ((tab.getD k 0 : Nat) : Int) := by
 have h2 : ∀ k : Fin 16,([0,498536548,997073096,651767980,1994146192,1802195444,1303535960,1342533948,3988292384,4027552580,3604390888,3412177804,2607071920,2262029012,2685067896,3183342108] : List Int)[k.val]'k.isLt = ((tab.getD k.val 0 : Nat) : Int) := by decide
 have h3 := h2 ⟨k,h⟩
 rw [<- h3]
 exact (List.getElem_map (Value.int .u32) (l := [0,498536548,997073096,651767980,1994146192,1802195444,1303535960,1342533948,3988292384,4027552580,3604390888,3412177804,2607071920,2262029012,2685067896,3183342108]) (h := h))
theorem halves_any (w : World) (x : Nat) (hx : x < 4294967296) : Calls Tryz.prog 255 #[.int .u32 (x : Int)] w fun e w' => e = .returned (.int .u32 (hN x : Nat)) /\ Kept NoF w w' := by
 have hb : bits .and .u32 (x : Int) 15 = ((x &&& 15 : Nat) : Int) := u32_and_nat x 15 hx (by decide)
 have hlt : x &&& 15 < 16 := Nat.lt_of_le_of_lt Nat.and_le_right (by decide)
 have hr : hN x = tab.getD (x &&& 15) 0 := rfl
 rw [hr]
 obtain ⟨k,hk⟩ : ∃ k,x &&& 15 = k := ⟨_,rfl⟩
 rw [hk] at hb hlt ⊢
 have hlt' : (k : Int) < 16 := by omega
 have hg := tab_get k hlt
 have HR := hZ0 hg
 clear hr hk hx hg
 go_enter Tryz.func255,Tryz.ntmps255
 go_wp2
 go_ret
 exact ⟨by rw [<- HR.out];rfl,by (repeat' (first | (with_reducible first | exact kR0 | apply kP0 | apply kN0 | apply kD0 | apply kA0) | (right;simp;done)))⟩
def stN (w b : Nat) : Nat := ((w ^^^ b) / 16 ^^^ hN (w ^^^ b)) / 16 ^^^ hN ((w ^^^ b) / 16 ^^^ hN (w ^^^ b))
theorem xor_lt {a b : Nat} (ha : a < 4294967296) (hb : b < 4294967296) : a ^^^ b < 4294967296 := Nat.xor_lt_two_pow (n := 32) ha hb
def runN (s : List UInt8) : Nat := s.foldl (fun w b => stN w b.toNat) 4294967295
theorem stN_lt {w b : Nat} (hw : w < 4294967296) (hb : b < 256) : stN w b < 4294967296 := by
 unfold stN
 have h1 : w ^^^ b < 4294967296 := xor_lt hw (by omega)
 have h2 : (w ^^^ b) / 16 ^^^ hN (w ^^^ b) < 4294967296 := xor_lt (by omega) (hN_lt _)
 exact xor_lt (by omega) (hN_lt _)
theorem runN_lt (s : List UInt8) : runN s < 4294967296 := by
 have h : ∀ (l : List UInt8) (w : Nat),w < 4294967296 -> l.foldl (fun w b => stN w b.toNat) w < 4294967296 := by
  intro l
  induction l with
  | nil => intro w h;exact h
  | cons b l ih => intro w h;exact ih _ (stN_lt h (UInt8.toNat_lt b))
 exact h s _ (by decide)
theorem runN_snoc (s : List UInt8) (b : UInt8) : runN (s ++ [b]) = stN (runN s) b.toNat := by simp [runN]
def sumN (s : List UInt8) : Nat := 4294967295 ^^^ runN s
theorem sumN_lt (s : List UInt8) : sumN s < 4294967296 := xor_lt (by decide) (runN_lt s)
theorem sum_any (w : World) (s : ByteArray) (hs : s.size <= 1000000000000) : Calls Tryz.prog 235 #[.string s] w fun e w' => e = .returned (.int .u32 (sumN s.data.toList : Nat)) /\ Kept NoF w w' := by
 obtain ⟨R,hR⟩ : ∃ R,sumN s.data.toList = R := ⟨_,rfl⟩
 rw [hR]
 have HR := hZ0 hR;clear hR
 go_enter Tryz.func235,Tryz.ntmps235
 go_wp2_with fail
 go_loopw [3,4,7] (fun v3 _ v7 wr => ∃ i : Nat,i <= s.size /\ v7 = .int .i64 i /\ v3 = .int .u32 (runN (s.data.toList.take i) : Nat) /\ Kept NoF w wr) (fun _ _ v7 _ => s.size - (RowKit.intOf v7).toNat)
 case atStart => exact ⟨0,Nat.zero_le _,rfl,rfl,Kept.refl _ _⟩
 case round =>
  obtain ⟨i,hi,rfl,rfl,hk⟩ := hrel
  have HK := hZ0 hk;clear hk
  by_cases hil : i < s.size
  ·have hget : s.data.toList[i]? = some s[i] := by
    rw [Array.getElem?_toList]
    exact Array.getElem?_eq_getElem (xs := s.data) hil
   have hst : runN (s.data.toList.take (i + 1)) = stN (runN (s.data.toList.take i)) (s[i]).toNat := by
    rw [List.take_add_one,hget]
    exact runN_snoc _ _
   have hlt := runN_lt (s.data.toList.take i)
   obtain ⟨W,hW⟩ : ∃ W,runN (s.data.toList.take i) = W := ⟨_,rfl⟩
   rw [hW] at hst hlt
   rw [hW]
   obtain ⟨b,hb⟩ : ∃ b,(s[i]).toNat = b := ⟨_,rfl⟩
   have hb256 : b < 256 := by rw [<- hb];exact UInt8.toNat_lt _
   rw [hb] at hst
   have hx1 : bits .xor .u32 (W : Int) (b : Int) = ((W ^^^ b : Nat) : Int) := u32_xor_nat W b hlt (by omega)
   have hl1 : W ^^^ b < 4294967296 := xor_lt hlt (by omega)
   unfold stN at hst
   obtain ⟨X,hX⟩ : ∃ X,W ^^^ b = X := ⟨_,rfl⟩
   rw [hX] at hst hx1 hl1
   have hh1 := fun W => halves_any W X hl1
   have hl2 := hN_lt X
   obtain ⟨H,hH⟩ : ∃ H,hN X = H := ⟨_,rfl⟩
   rw [hH] at hst hl2
   simp only [hH] at hh1
   have hx2 : bits .xor .u32 ((X : Int) / 16) (H : Int) = ((X / 16 ^^^ H : Nat) : Int) := by
    have h := u32_xor_nat (X / 16) H (by omega) hl2
    simpa using h
   have hl3 : X / 16 ^^^ H < 4294967296 := xor_lt (by omega) hl2
   obtain ⟨Y,hY⟩ : ∃ Y,X / 16 ^^^ H = Y := ⟨_,rfl⟩
   rw [hY] at hst hx2 hl3
   have hh2 := fun W => halves_any W Y hl3
   have hl4 := hN_lt Y
   obtain ⟨G,hG⟩ : ∃ G,hN Y = G := ⟨_,rfl⟩
   rw [hG] at hst hl4
   simp only [hG] at hh2
   have hx3 : bits .xor .u32 ((Y : Int) / 16) (G : Int) = ((Y / 16 ^^^ G : Nat) : Int) := by
    have h := u32_xor_nat (Y / 16) G (by omega) hl4
    simpa using h
   obtain ⟨Z,hZ⟩ : ∃ Z,Y / 16 ^^^ G = Z := ⟨_,rfl⟩
   rw [hZ] at hst hx3
   have HST := hZ0 hst;have HH1 := hZ0 hh1;have HH2 := hZ0 hh2
   clear hst hW hget hX hH hY hG hZ hh1 hh2 hl1 hl2 hl3 hl4 hlt
   go_wp2_with fail
   refine (HH1.out _).mono ?_
   rintro e w1 ⟨rfl,hk⟩
   have HK1 := hZ0 (HK.out.then hk);clear hk
   go_wp2_with fail
   refine (HH2.out _).mono ?_
   rintro e w2 ⟨rfl,hk⟩
   have HK2 := hZ0 (HK1.out.then hk);clear hk
   go_wp2
   go_roundw
   case rel => exact ⟨i + 1,by omega,by go_num,by rw [HST.out],HK2.out⟩
   case measure => simp [RowKit.intOf];omega
  ·obtain rfl : i = s.size := by omega
   have htk : s.data.toList.take s.size = s.data.toList := List.take_of_length_le (Nat.le_of_eq Array.length_toList)
   have hx1 : bits .xor .u32 IntKind.u32.max ((runN s.data.toList : Nat) : Int) = ((sumN s.data.toList : Nat) : Int) := u32_xor_nat 4294967295 (runN s.data.toList) (by decide) (runN_lt _)
   rw [htk]
   rw [HR.out] at hx1
   clear htk
   go_wp2
   go_ret
   exact ⟨rfl,HK.out⟩
end Fr
namespace Fr
open Vn Ops
def mb (c i : Nat) : Nat := c / 256 ^ (3 - i) % 256
def mkN (c : Nat) : List UInt8 := [UInt8.ofNat (mb c 0),UInt8.ofNat (mb c 1),UInt8.ofNat (mb c 2),UInt8.ofNat (mb c 3)]
def mcells (c i : Nat) : Array Value := #[.int .u8 (if 0 < i then mb c 0 else 0 : Nat),.int .u8 (if 1 < i then mb c 1 else 0 : Nat),.int .u8 (if 2 < i then mb c 2 else 0 : Nat),.int .u8 (if 3 < i then mb c 3 else 0 : Nat)]
theorem mark_any (w : World) (c : Nat) (hc : c < 4294967296) : Calls Tryz.prog 234 #[.int .u32 (c : Int)] w fun e w' => e = .returned (.string (ofL (mkN c))) /\ Kept NoF w w' := by
 go_enter Tryz.func234,Tryz.ntmps234
 go_wp2_with fail
 have hn0 := Has.new w 379 #[.int .u8 0,.int .u8 0,.int .u8 0,.int .u8 0]
 have HN := hZ0 hn0;clear hn0
 go_loopw [4,5] (fun _ v5 wr => ∃ i : Nat,i <= 4 /\ v5 = .int .i64 i /\ Has wr w.heap.size 379 (mcells c i) /\ Kept NoF w wr) (fun _ v5 _ => 4 - (RowKit.intOf v5).toNat)
 case atStart => exact ⟨0,Nat.zero_le _,rfl,HN.out,by (repeat' (first | (with_reducible first | exact kR0 | apply kP0 | apply kN0 | apply kD0 | apply kA0) | (right;simp;done)))⟩
 case round =>
  obtain ⟨i,hi,rfl,hh,hk⟩ := hrel
  have HK := hZ0 hk;have HH := hZ0 hh;clear hk hh
  by_cases hi4 : i < 4
  ·have hi4' : i = 0 \/ i = 1 \/ i = 2 \/ i = 3 := by omega
   rcases hi4' with rfl | rfl | rfl | rfl
   ·have h0 := HH.out.cell 0
    have f0 := HH.out.frozen 0
    simp only [mcells,List.getElem?_toArray,List.getElem?_cons_zero] at h0
    have e0 : (c : Int) / 16777216 = ((mb c 0 : Nat) : Int) := by show _ = ((c / 16777216 % 256 : Nat) : Int);omega
    go_wp2_with fail
    refine ⟨⟨1,by omega,rfl,?_,HK.out.put (.inr (Nat.le_refl _))⟩,by simp [RowKit.intOf]⟩
    exact HH.out.put_of rfl
   ·have h0 := HH.out.cell 1
    have f0 := HH.out.frozen 1
    simp only [mcells,List.getElem?_toArray,List.getElem?_cons_zero,List.getElem?_cons_succ] at h0
    have e0 : (c : Int) / 65536 % 256 = ((mb c 1 : Nat) : Int) := by show _ = ((c / 65536 % 256 : Nat) : Int);omega
    go_wp2_with fail
    refine ⟨⟨2,by omega,rfl,?_,HK.out.put (.inr (Nat.le_refl _))⟩,by simp [RowKit.intOf]⟩
    exact HH.out.put_of rfl
   ·have h0 := HH.out.cell 2
    have f0 := HH.out.frozen 2
    simp only [mcells,List.getElem?_toArray,List.getElem?_cons_zero,List.getElem?_cons_succ] at h0
    have e0 : (c : Int) / 256 % 256 = ((mb c 2 : Nat) : Int) := by show _ = ((c / 256 % 256 : Nat) : Int);omega
    go_wp2_with fail
    refine ⟨⟨3,by omega,rfl,?_,HK.out.put (.inr (Nat.le_refl _))⟩,by simp [RowKit.intOf]⟩
    exact HH.out.put_of rfl
   ·have h0 := HH.out.cell 3
    have f0 := HH.out.frozen 3
    simp only [mcells,List.getElem?_toArray,List.getElem?_cons_zero,List.getElem?_cons_succ] at h0
    have e0 : (c : Int) % 256 = ((mb c 3 : Nat) : Int) := by show _ = ((c / 1 % 256 : Nat) : Int);omega
    go_wp2_with fail
    refine ⟨⟨4,by omega,rfl,?_,HK.out.put (.inr (Nat.le_refl _))⟩,by simp [RowKit.intOf]⟩
    exact HH.out.put_of rfl
  ·obtain rfl : i = 4 := by omega
   have hcv := conv_row wr w.heap.size (mkN c) 4 (fun j x hx => by
    have hj : j < 4 := (List.getElem?_eq_some_iff.1 hx).1
    have hm : ∀ j,mb c j < 256 := fun j => Nat.mod_lt _ (by decide)
    have hx' : x = UInt8.ofNat (mb c j) := by
     have : j = 0 \/ j = 1 \/ j = 2 \/ j = 3 := by omega
     rcases this with rfl | rfl | rfl | rfl <;> (simp [mkN] at hx;exact hx.symm)
    have hxn : (x.toNat : Int) = ((mb c j : Nat) : Int) := by
     rw [hx']
     have := hm j
     simp only [UInt8.toNat_ofNat']
     rw [Nat.mod_eq_of_lt (by simpa using this)]
    rw [HH.out.cell j,hxn]
    have : j = 0 \/ j = 1 \/ j = 2 \/ j = 3 := by omega
    rcases this with rfl | rfl | rfl | rfl <;> rfl)
   rw [show (mkN c).length = 4 from rfl] at hcv
   go_wp2_with fail
   go_ret
   exact ⟨rfl,HK.out⟩
end Fr
namespace Fr
open Vn Ops
theorem ofL_sz (l : List UInt8) : (ofL l).size = l.length := by simp [ofL,ByteArray.size]
def frameL (s : List UInt8) : List UInt8 := put s.length ++ mkN (sumN (put s.length ++ s)) ++ s
theorem fput_any (w : World) (s : ByteArray) (hs : s.size <= 65536) : Calls Tryz.prog 194 #[.string s] w fun e w' => e = .returned (.tuple #[.string (ofL (frameL (bl s))),.int .i64 0]) /\ Kept NoF w w' := by
 have hn : ¬ (65536 : Int) < (s.size : Int) := by omega
 have hp := fun W => vput_any s.size (by omega) W
 have hl : (bl s).length = s.size := size_bl s
 obtain ⟨p,hp2⟩ : ∃ p,put s.size = p := ⟨_,rfl⟩
 have hpl : p.length <= 9 := by rw [<- hp2];exact put_le (by omega)
 have hpz : (ofL p).size = p.length := ofL_sz p
 have hsum := fun W => sum_any W (ofL p ++ s) (by rw [ByteArray.size_append];omega)
 have hd : (ofL p ++ s).data.toList = p ++ bl s := by simp [ofL]
 rw [hd] at hsum
 have hfr : frameL (bl s) = p ++ mkN (sumN (p ++ bl s)) ++ bl s := by unfold frameL;rw [hl,hp2]
 have hmk := fun W => mark_any W (sumN (p ++ bl s)) (sumN_lt _)
 obtain ⟨S,hS⟩ : ∃ S,sumN (p ++ bl s) = S := ⟨_,rfl⟩
 simp only [hS] at hsum hmk hfr
 simp only [hp2] at hp
 have hcat : ofL (p ++ mkN S ++ bl s) = ofL p ++ ofL (mkN S) ++ s := by
  apply ByteArray.ext
  simp [ofL]
 rw [hfr,hcat]
 have HP := hZ0 hp;have HS := hZ0 hsum;have HM := hZ0 hmk
 clear hp hsum hmk hS hfr hcat hd hl hp2
 have q1 : ¬ 9223372036854775807 < (ofL p).size + s.size := by omega
 have q2 : ¬ 9223372036854775807 < (ofL p).size + (ofL (mkN S)).size := by rw [ofL_sz (mkN S)];show ¬ _ < _ + 4;omega
 have q3 : ¬ 9223372036854775807 < (ofL p ++ ofL (mkN S)).size + s.size := by rw [ByteArray.size_append,ofL_sz (mkN S)];show ¬ _ < _ + 4 + _;omega
 clear hpz
 go_enter Tryz.func194,Tryz.ntmps194
 go_wp2_with fail
 refine (HP.out _).mono ?_
 rintro e w1 ⟨rfl,hk⟩
 have HK1 := hZ0 hk;clear hk
 go_wp2_with fail
 refine (HS.out _).mono ?_
 rintro e w2 ⟨rfl,hk⟩
 have HK2 := hZ0 (HK1.out.then hk);clear hk
 go_wp2_with fail
 refine (HM.out _).mono ?_
 rintro e w3 ⟨rfl,hk⟩
 have HK3 := hZ0 (HK2.out.then hk);clear hk
 go_wp2
 go_ret2
 exact ⟨rfl,HK3.out⟩
end Fr
namespace Vn
open Ops (ofL bl)
def getT : Except Nat (Nat × Nat) -> Value
 | .ok (n,j) => .tuple #[.int .u64 n,.int .i64 j,.int .i64 0]
 | .error c => .tuple #[.int .u64 0,.int .i64 0,.int .i64 c]
theorem bl_get (s : ByteArray) (i : Nat) (h : i < s.size) : (bl s)[i]? = some s[i] := by
 have h' : i < s.data.toList.length := by simpa using h
 show s.data.toList[i]? = _
 rw [List.getElem?_eq_getElem h']
 rfl
theorem get_end (s : ByteArray) : get (bl s) s.size = .error 2 := by
 unfold get
 rw [List.getElem?_eq_none (by rw [Ops.size_bl];exact Nat.le_refl _)]
theorem get_small (s : ByteArray) (i : Nat) (h : i < s.size) (hb : s[i].toNat < 248) : get (bl s) i = .ok (s[i].toNat,i + 1) := by
 unfold get
 rw [bl_get s i h]
 simp only [if_pos hb]
theorem get_short (s : ByteArray) (i : Nat) (h : i < s.size) (hb : ¬ s[i].toNat < 248) (hk : s.size - (i + 1) < s[i].toNat - 247) : get (bl s) i = .error 2 := by
 unfold get
 rw [bl_get s i h]
 simp only [if_neg hb]
 rw [if_pos (by rw [List.length_take,List.length_drop,Ops.size_bl];omega)]
theorem get_long (s : ByteArray) (i k : Nat) (h : i < s.size) (hb : ¬ s[i].toNat < 248) (hk : s[i].toNat - 247 = k) (hl : k <= s.size - (i + 1)) :
  get (bl s) i = if val ((((bl s).drop (i + 1)).take k).map UInt8.toNat) < 248 \/ needs (val ((((bl s).drop (i + 1)).take k).map UInt8.toNat)) ≠ k then .error 4 else .ok (val ((((bl s).drop (i + 1)).take k).map UInt8.toNat),i + 1 + k) := by
 unfold get
 rw [bl_get s i h]
 simp only [if_neg hb,hk]
 rw [if_neg (by rw [List.length_take,List.length_drop,Ops.size_bl];omega)]
def numAt (s : ByteArray) (i j : Nat) : Nat := val ((((bl s).drop (i + 1)).take j).map UInt8.toNat)
theorem numAt_succ (s : ByteArray) (i j : Nat) (h : i + 1 + j < s.size) : numAt s i (j + 1) = numAt s i j * 256 + s[i + 1 + j].toNat := by
 unfold numAt
 rw [List.take_add_one,List.getElem?_drop,bl_get s _ h,List.map_append]
 exact val_snoc _ _
theorem numAt_lt (s : ByteArray) (i j : Nat) : numAt s i j < 256 ^ j := by
 unfold numAt
 refine Nat.lt_of_lt_of_le (val_lt _ (toNat_map_lt _)) (Nat.pow_le_pow_right (by decide) ?_)
 rw [List.length_map,List.length_take];exact Nat.min_le_left _ _
theorem numAt_lt7 (s : ByteArray) (i j : Nat) (h : j < 8) : numAt s i j < 72057594037927936 := by
 have h1 := numAt_lt s i j
 have h2 : (256 : Nat) ^ j <= 256 ^ 7 := Nat.pow_le_pow_right (by decide) (by omega)
 have e : (256 : Nat) ^ 7 = 72057594037927936 := by decide
 omega
theorem numAt_lt8 (s : ByteArray) (i j : Nat) (h : j <= 8) : numAt s i j < 18446744073709551616 := by
 have h1 := numAt_lt s i j
 have h2 : (256 : Nat) ^ j <= 256 ^ 8 := Nat.pow_le_pow_right (by decide) (by omega)
 have e : (256 : Nat) ^ 8 = 18446744073709551616 := by decide
 omega
theorem or_byte (m x : Nat) (hm : m < 72057594037927936) (hx : x < 256) : bits .or .u64 ((m : Int) * 256) (x : Int) = (m : Int) * 256 + x :=
 bits_join .u64 64 (by decide) wraps_u64 8 _ _ (by omega) (by omega) (by omega) (by omega) (by omega) (by omega)
theorem ext_get (s : ByteArray) (i j : Nat) (h : i + 1 + j < s.size) (h' : j < (s.extract (i + 1) s.size).size) : (s.extract (i + 1) s.size)[j] = s[i + 1 + j] := by
 rw [ByteArray.getElem_extract]
theorem vget_any (s : ByteArray) (i : Nat) (hi : i <= s.size) (hs : s.size <= maxLen) (w : World) : Calls Tryz.prog 178 #[.string s,.int .i64 i] w fun e w' => e = .returned (getT (get (bl s) i)) /\ w = w' := by
 unfold maxLen at hs
 by_cases he : i = s.size
 ·subst he
  rw [get_end]
  go_enter Tryz.func178,Tryz.ntmps178
  go_wp2
  go_ret3
  exact ⟨rfl,rfl⟩
 have hil : i < s.size := by omega
 have hne : ((i : Int) == (s.size : Int)) = false := by rw [beq_eq_false_iff_ne];omega
 have h256 := UInt8.toNat_lt s[i]
 by_cases hb : s[i].toNat < 248
 ·rw [get_small s i hil hb]
  have hb2 : ((s[i].toNat : Int) < 248) := by omega
  clear he
  go_enter Tryz.func178,Tryz.ntmps178
  go_wp2
  go_ret3
  exact ⟨rfl,rfl⟩
 have hb2 : ¬ ((s[i].toNat : Int) < 248) := by omega
 obtain ⟨k,hk⟩ : ∃ k,s[i].toNat - 247 = k := ⟨_,rfl⟩
 have hk8 : k <= 8 := by omega
 have hk1 : 1 <= k := by omega
 have hb3 : (s[i].toNat : Int) - 247 = k := by omega
 by_cases hsh : s.size - (i + 1) < k
 ·rw [get_short s i hil hb (by omega)]
  obtain ⟨x,hx⟩ : ∃ x,s[i].toNat = x := ⟨_,rfl⟩
  rw [hx] at h256 hb hb2 hk hb3
  have hx2 : (s[i].toNat : Int) = (x : Int) := by rw [hx]
  have HX := hZ0 hx;clear hx
  clear he hk
  obtain rfl : x = k + 247 := by omega
  go_enter Tryz.func178,Tryz.ntmps178
  go_wp2
  go_ret3
  exact ⟨rfl,rfl⟩
 rw [get_long s i k hil hb hk (by omega)]
 have hkl : k <= s.size - (i + 1) := by omega
 have hnum : val ((((bl s).drop (i + 1)).take k).map UInt8.toNat) = numAt s i k := rfl
 rw [hnum]
 obtain ⟨G,hG⟩ : ∃ G,(if numAt s i k < 248 \/ needs (numAt s i k) ≠ k then Except.error 4 else Except.ok (numAt s i k,i + 1 + k) : Except Nat (Nat × Nat)) = G := ⟨_,rfl⟩
 rw [hG]
 have HGG := hZ0 hG;clear hG
 have hx2 : (s[i].toNat : Int) = ((k + 247 : Nat) : Int) := by omega
 have hnn : ¬ s.size - (i + 1) < k := hsh
 clear he hb hb2 hb3 hk h256 hnum
 have HNN := hZ0 hnn;clear hnn hsh
 have q1 : decide ((i : Int) < 0) = false := decide_eq_false (by omega)
 have q2 : decide (s.size < i) = false := decide_eq_false (by omega)
 have q3 : decide ((k : Int) + 247 < 248) = false := decide_eq_false (by omega)
 go_enter Tryz.func178,Tryz.ntmps178
 go_wp2
 go_loop [9,50] (fun v9 v50 => ∃ j : Nat,j <= k /\ v50 = .int .i64 j /\ v9 = .int .u64 (numAt s i j)) (fun _ v50 => k - (intOf v50).toNat)
 case atStart => exact ⟨0,Nat.zero_le _,rfl,rfl⟩
 case round =>
  obtain ⟨j,hj,rfl,rfl⟩ := hrel
  by_cases hjk : j < k
  ·have h7 := numAt_lt7 s i j (by omega)
   obtain ⟨m,hm⟩ : ∃ m,numAt s i j = m := ⟨_,rfl⟩
   have hxs : j < (s.extract (i + 1) s.size).size := by rw [ByteArray.size_extract];omega
   obtain ⟨y,hy⟩ : ∃ y,(s.extract (i + 1) s.size)[j].toNat = y := ⟨_,rfl⟩
   have hy256 : y < 256 := by rw [<- hy];exact UInt8.toNat_lt _
   have hs := numAt_succ s i j (by omega)
   rw [<- ext_get s i j (by omega) hxs,hy,hm] at hs
   have HS := hZ0 hs;clear hs
   rw [hm] at h7
   rw [hm]
   have HM := hZ0 hm;clear hm
   have hwr : IntKind.u64.wrap (y : Int) = y := wraps_u64 _ (by omega) (by omega)
   have hor := or_byte m y h7 hy256
   go_wp2
   go_round
   case rel => exact ⟨j + 1,by omega,by go_num,by rw [HS.out];go_num⟩
   case measure => simp [intOf];omega
  ·obtain rfl : j = k := by omega
   have h8 := numAt_lt8 s i j (by omega)
   obtain ⟨m,hm⟩ : ∃ m,numAt s i j = m := ⟨_,rfl⟩
   rw [hm] at h8
   rw [hm]
   have HM := hZ0 hm;clear hm
   by_cases hb : m < 248
   ·have hb2 : decide ((m : Int) < 248) = true := decide_eq_true (by omega)
    have HB := hZ0 hb;clear hb
    go_wp2
    go_ret3
    exact ⟨by rw [<- HGG.out,HM.out,if_pos (.inl HB.out)];rfl,rfl⟩
   ·have hb2 : decide ((m : Int) < 248) = false := decide_eq_false (by omega)
    have hnd := vneeds_any m h8
    obtain ⟨r,hr⟩ : ∃ r,needs m = r := ⟨_,rfl⟩
    rw [hr] at hnd
    have HND := hZ0 hnd;clear hnd
    by_cases hrj : r = j
    ·subst hrj
     have HB := hZ0 hb;clear hb
     have HR := hZ0 hr;clear hr
     go_wp2_with fail
     refine (HND.out _).mono ?_
     rintro e w2 ⟨rfl,rfl⟩
     go_wp2
     go_ret3
     exact ⟨by rw [<- HGG.out,HM.out,HR.out,if_neg (by have := HB.out;simp;omega)];rfl,rfl⟩
    ·have hne : ((r : Int) != (j : Int)) = true := by simpa using fun e => hrj (by omega)
     have HRJ := hZ0 hrj;clear hrj
     have HB := hZ0 hb;clear hb
     have HR := hZ0 hr;clear hr
     go_wp2_with fail
     refine (HND.out _).mono ?_
     rintro e w2 ⟨rfl,rfl⟩
     go_wp2
     go_ret3
     exact ⟨by rw [<- HGG.out,HM.out,HR.out,if_pos (.inr HRJ.out)];rfl,rfl⟩
end Vn
end Go.Proofs.YtgffjliedjhbaaaGreat
