/- Part 12 of what the proof needs. -/
import Derived.Test.YtobfdolhgnoedaaAG05
import Derived.Test.YtobfdolhgnoedaaChecked
import Derived.WalkKit
import Derived.WalkSpells
import Derived.WalkLawsBesides
import Derived.Lib.Hide
import Derived.Lib.SlBytesRow
import Derived.BigQuiet
import Derived.Deep.QuietTactic
set_option linter.unusedSimpArgs false
set_option linter.unusedVariables false
set_option maxHeartbeats 32000000
set_option maxRecDepth 100000
namespace Go.Proofs.Ytobfdolhgnoedaa
open Go.RowKit
namespace Keys
theorem check_bad (s : ByteArray) (w : World) (h : s.toList.isEmpty = true \/ 8 < s.size) :
  Calls Try.prog 48 #[.string s] w fun e w' => e = .returned (.int .i64 10) /\ w = w' := by
 rcases h with h | h
 ·go_enter Try.func48,Try.ntmps48
  go_wp2
  go_ret
  exact ⟨rfl,rfl⟩
 ·go_enter Try.func48,Try.ntmps48
  go_wp2
  all_goals go_ret
  all_goals exact ⟨rfl,rfl⟩
theorem check_ok (s : ByteArray) (w : World) (h : s.toList.isEmpty = false) (h8 : s.size <= 8) :
  Calls Try.prog 48 #[.string s] w fun e w' => e = .returned (.int .i64 0) /\ w = w' := by
 go_enter Try.func48,Try.ntmps48
 go_wp2
 go_ret
 exact ⟨rfl,rfl⟩
theorem next_short (s : ByteArray) (w : World) (h : s.size < 8) :
  Calls Try.prog 100 #[.string s] w fun e w' => e = .returned (.string (s ++ ⟨#[0]⟩)) /\ w = w' := by
 go_enter Try.func100,Try.ntmps100
 go_wp2
 go_ret
 exact ⟨rfl,rfl⟩
theorem conv_one (W : World) (b : Nat) (n : Int) (c : Nat) (hn : 0 <= n) (hn' : n < 256) (hc : W.cell? ⟨b,0,none⟩ = some (.int .u8 n)) :
  (convert 125 9 (.slice (some ⟨b,0,none⟩) 1 c)).run Try.prog W = .ok (.string ⟨#[UInt8.ofNat n.toNat]⟩) W := by
 refine Lib.run_convert_whole (P := Try.prog) W 125 5 9 Try.underlying125 Try.underlying5 Try.underlying9 b 0 ⟨#[UInt8.ofNat n.toNat]⟩ ?_ c
 intro i hi
 have h0 : i = 0 := by have : i < 1 := hi;omega
 subst h0
 rw [Nat.add_zero,hc]
 show _ = some (Value.int IntKind.u8 ((UInt8.ofNat n.toNat).toNat : Int))
 congr 2
 simp
 omega
def Ret (l : List UInt8) (B : Nat) (w : World) (e : Ending) (w' : World) : Prop := ∃ s' : ByteArray,e = .returned (.string s') /\ s'.data.toList = l /\ Below B w w'
set_option maxRecDepth 100000 in
theorem next_long (s : ByteArray) (w : World) (h : 8 <= s.size) (h' : s.size <= maxLen) :
  Calls Try.prog 100 #[.string s] w (Ret (nextAt s.data.toList 8) w.heap.size w) := by
 unfold maxLen at h'
 go_enter Try.func100,Try.ntmps100
 go_wp2
 go_loopw [2,3,4,10] (fun v _ _ i wr => wr = w /\ v = .string ⟨#[]⟩ /\ ∃ k : Nat,k <= 8 /\ i = .int .i64 k /\ nextAt s.data.toList 8 = nextAt s.data.toList (8 - k)) (fun _ _ _ i _ => 8 - (intOf i).toNat)
 case atStart => exact ⟨rfl,rfl,0,by omega,rfl,rfl⟩
 case round =>
  obtain ⟨rfl,rfl,k,hk,rfl,he⟩ := hrel
  have HE := Lib.hid he;clear he
  by_cases hlt : k < 8
  ·have hb : 0 <= (7 : Int) - k := by omega
   have hb' : (7 : Int) - k < s.size := by omega
   go_wp2
   ·have hlt2 : (s[7 - k].toNat : Int) < 255 := by assumption
    have hcv := conv_one (wr.alloc (Obj.cells #[Value.int IntKind.u8 (↑s[7 - k].toNat + 1)] 5)).drew wr.heap.size (↑s[7 - k].toNat + 1) 1 (by omega) (by omega) (by simp)
    have hb3 : 7 - (k : Int) <= s.size := by omega
    go_region
    go_wp2
    go_ret
    refine ⟨_,rfl,?_,(Below.refl _ _).alloc (Nat.le_refl _) _ |>.drew⟩
    have e1 : 8 - k = (7 - k) + 1 := by omega
    have e2 : s.data.toList.getD (7 - k) 0 = s[7 - k] := by
     rw [List.getD_eq_getElem?_getD,List.getElem?_eq_getElem (by simp;omega)];rfl
    rw [HE.out,e1,nextAt,e2,if_pos (by rw [UInt8.lt_iff_toNat_lt];have : (255 : UInt8).toNat = 255 := rfl;omega),ByteArray.data_append,Array.toList_append,Lib.extract_data]
    simp
   ·go_roundw
    case rel =>
     refine ⟨trivial,rfl,k + 1,by omega,by go_num,?_⟩
     have hge : 255 <= (s[7 - k].toNat : Int) := by assumption
     have e1 : 8 - k = (7 - k) + 1 := by omega
     have e2 : s.data.toList.getD (7 - k) 0 = s[7 - k] := by
      rw [List.getD_eq_getElem?_getD,List.getElem?_eq_getElem (by simp;omega)];rfl
     have e3 : 7 - k = 8 - (k + 1) := by omega
     rw [HE.out,e1,nextAt,e2,if_neg (by rw [UInt8.lt_iff_toNat_lt];have : (255 : UInt8).toNat = 255 := rfl;omega),e3]
    case measure => simp [intOf];omega
  ·go_wp2
   go_ret
   refine ⟨_,rfl,?_,Below.refl _ _⟩
   have e1 : 8 - k = 0 := by omega
   rw [HE.out,e1,nextAt]
theorem next_any (s : ByteArray) (w : World) (h' : s.size <= maxLen) : Calls Try.prog 100 #[.string s] w (Ret (nextL s.data.toList) w.heap.size w) := by
 have hl : s.data.toList.length = s.size := by simp
 unfold nextL
 by_cases h : s.size < 8
 ·rw [if_pos (by omega)]
  refine (next_short s w h).mono ?_
  rintro e w' ⟨rfl,rfl⟩
  exact ⟨_,rfl,by rw [ByteArray.data_append,Array.toList_append],Below.refl _ _⟩
 ·rw [if_neg (by omega)]
  exact next_long s w (by omega) h'
end Keys
end Go.Proofs.Ytobfdolhgnoedaa
