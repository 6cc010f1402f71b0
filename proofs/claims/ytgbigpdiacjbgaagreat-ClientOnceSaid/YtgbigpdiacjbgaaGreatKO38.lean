/- Part 39 of what the proof needs. -/
import Derived.Test.YtgbigpdiacjbgaaGreatKO05
import Derived.Test.YtgbigpdiacjbgaaGreatKO21
import Derived.Test.YtgbigpdiacjbgaaGreatKO30
set_option linter.unusedSimpArgs false
set_option linter.unusedVariables false
set_option maxHeartbeats 32000000
set_option maxRecDepth 100000
namespace Go.Proofs.YtgbigpdiacjbgaaGreat
open Go.RowKit
set_option maxRecDepth 100000
namespace Rm
open Plan Ops Ent Msg MO Vn Mof Cof Go.Proofs.YtgbigpdiacjbgaaGreat.Ask
attribute [local go_sem ↓] storeVar_msg loadVar_msg
section
variable (w : World) (x : MsgR)
theorem num_101 : Calls Tryz.prog 111 #[xagg x,.int .u8 101] w fun e w' => e = .returned (.int .i64 (x.ep)) /\ Kept NoF w w' := by
 obtain ⟨W0,hW0⟩ : ∃ W0,w.alloc (.cells (xcell x).toArray 63) = W0 := ⟨_,rfl⟩
 have hk0 : Kept NoF w W0 := by rw [<- hW0];(repeat' (first | (with_reducible first | exact kR0 | apply kP0 | apply kN0 | apply kD0 | apply kA0) | (right;simp;done)))
 have hn0 : Has W0 w.heap.size 63 (xcell x).toArray := by rw [<- hW0];exact Has.new _ _ _
 have q : W0.cell? ⟨w.heap.size,1,none⟩ = some (.int .i64 (x.ep)) := hn0.cell 1
 have HK0 := hZ0 hk0
 clear hk0 hn0
 go_enter Tryz.func111,Tryz.ntmps111
 go_wp2
 go_ret
 exact ⟨rfl,HK0.out⟩
theorem num_115 : Calls Tryz.prog 111 #[xagg x,.int .u8 115] w fun e w' => e = .returned (.int .i64 (x.ser)) /\ Kept NoF w w' := by
 obtain ⟨W0,hW0⟩ : ∃ W0,w.alloc (.cells (xcell x).toArray 63) = W0 := ⟨_,rfl⟩
 have hk0 : Kept NoF w W0 := by rw [<- hW0];(repeat' (first | (with_reducible first | exact kR0 | apply kP0 | apply kN0 | apply kD0 | apply kA0) | (right;simp;done)))
 have hn0 : Has W0 w.heap.size 63 (xcell x).toArray := by rw [<- hW0];exact Has.new _ _ _
 have q : W0.cell? ⟨w.heap.size,3,none⟩ = some (.int .i64 (x.ser)) := hn0.cell 3
 have HK0 := hZ0 hk0
 clear hk0 hn0
 go_enter Tryz.func111,Tryz.ntmps111
 go_wp2
 go_ret
 exact ⟨rfl,HK0.out⟩
theorem num_114 : Calls Tryz.prog 111 #[xagg x,.int .u8 114] w fun e w' => e = .returned (.int .i64 (x.req)) /\ Kept NoF w w' := by
 obtain ⟨W0,hW0⟩ : ∃ W0,w.alloc (.cells (xcell x).toArray 63) = W0 := ⟨_,rfl⟩
 have hk0 : Kept NoF w W0 := by rw [<- hW0];(repeat' (first | (with_reducible first | exact kR0 | apply kP0 | apply kN0 | apply kD0 | apply kA0) | (right;simp;done)))
 have hn0 : Has W0 w.heap.size 63 (xcell x).toArray := by rw [<- hW0];exact Has.new _ _ _
 have q : W0.cell? ⟨w.heap.size,2,none⟩ = some (.int .i64 (x.req)) := hn0.cell 2
 have HK0 := hZ0 hk0
 clear hk0 hn0
 go_enter Tryz.func111,Tryz.ntmps111
 go_wp2
 go_ret
 exact ⟨rfl,HK0.out⟩
theorem num_110 : Calls Tryz.prog 111 #[xagg x,.int .u8 110] w fun e w' => e = .returned (.int .i64 (x.n)) /\ Kept NoF w w' := by
 obtain ⟨W0,hW0⟩ : ∃ W0,w.alloc (.cells (xcell x).toArray 63) = W0 := ⟨_,rfl⟩
 have hk0 : Kept NoF w W0 := by rw [<- hW0];(repeat' (first | (with_reducible first | exact kR0 | apply kP0 | apply kN0 | apply kD0 | apply kA0) | (right;simp;done)))
 have hn0 : Has W0 w.heap.size 63 (xcell x).toArray := by rw [<- hW0];exact Has.new _ _ _
 have q : W0.cell? ⟨w.heap.size,7,none⟩ = some (.int .i64 (x.n)) := hn0.cell 7
 have HK0 := hZ0 hk0
 clear hk0 hn0
 go_enter Tryz.func111,Tryz.ntmps111
 go_wp2
 go_ret
 exact ⟨rfl,HK0.out⟩
theorem num_109 : Calls Tryz.prog 111 #[xagg x,.int .u8 109] w fun e w' => e = .returned (.int .i64 (x.m)) /\ Kept NoF w w' := by
 obtain ⟨W0,hW0⟩ : ∃ W0,w.alloc (.cells (xcell x).toArray 63) = W0 := ⟨_,rfl⟩
 have hk0 : Kept NoF w W0 := by rw [<- hW0];(repeat' (first | (with_reducible first | exact kR0 | apply kP0 | apply kN0 | apply kD0 | apply kA0) | (right;simp;done)))
 have hn0 : Has W0 w.heap.size 63 (xcell x).toArray := by rw [<- hW0];exact Has.new _ _ _
 have q : W0.cell? ⟨w.heap.size,8,none⟩ = some (.int .i64 (x.m)) := hn0.cell 8
 have HK0 := hZ0 hk0
 clear hk0 hn0
 go_enter Tryz.func111,Tryz.ntmps111
 go_wp2
 go_ret
 exact ⟨rfl,HK0.out⟩
theorem num_112 : Calls Tryz.prog 111 #[xagg x,.int .u8 112] w fun e w' => e = .returned (.int .i64 (x.p)) /\ Kept NoF w w' := by
 obtain ⟨W0,hW0⟩ : ∃ W0,w.alloc (.cells (xcell x).toArray 63) = W0 := ⟨_,rfl⟩
 have hk0 : Kept NoF w W0 := by rw [<- hW0];(repeat' (first | (with_reducible first | exact kR0 | apply kP0 | apply kN0 | apply kD0 | apply kA0) | (right;simp;done)))
 have hn0 : Has W0 w.heap.size 63 (xcell x).toArray := by rw [<- hW0];exact Has.new _ _ _
 have q : W0.cell? ⟨w.heap.size,9,none⟩ = some (.int .i64 (x.p)) := hn0.cell 9
 have HK0 := hZ0 hk0
 clear hk0 hn0
 go_enter Tryz.func111,Tryz.ntmps111
 go_wp2
 go_ret
 exact ⟨rfl,HK0.out⟩
theorem wr_101 : Calls Tryz.prog 72 #[xagg x,.int .u8 101] w fun e w' => e = .returned (.int .i64 (wrongE x 101)) /\ Kept NoF w w' := by
 obtain ⟨W0,hW0⟩ : ∃ W0,w.alloc (.cells (xcell x).toArray 63) = W0 := ⟨_,rfl⟩
 have hk0 : Kept NoF w W0 := by rw [<- hW0];(repeat' (first | (with_reducible first | exact kR0 | apply kP0 | apply kN0 | apply kD0 | apply kA0) | (right;simp;done)))
 have hn0 : Has W0 w.heap.size 63 (xcell x).toArray := by rw [<- hW0];exact Has.new _ _ _
 have hc := num_101 W0 x
 have hl0 := run_loadMsg_has W0 w.heap.size x hn0
 have hw : wrongE x 101 = rngM x.ep := rfl
 rw [hw]
 unfold rngM
 obtain ⟨n,hn⟩ : ∃ n,x.ep = n := ⟨_,rfl⟩
 rw [hn] at hc ⊢
 have HC := hZ0 hc;have HK0 := hZ0 hk0
 clear hk0 hn0 hc hn hw
 have hcase : (n < 0) \/ (¬ n < 0 /\ 1073741824 < n) \/ (¬ n < 0 /\ ¬ 1073741824 < n) := by omega
 rcases hcase with h1 | ⟨h1,h2⟩ | ⟨h1,h2⟩
 ·rw [if_pos (.inl h1)]
  go_enter Tryz.func72,Tryz.ntmps72
  go_wp2_with fail
  refine HC.out.mono ?_
  rintro e w2 ⟨rfl,hk⟩
  have HK := hZ0 (HK0.out.then hk);clear hk
  go_wp2
  go_ret
  exact ⟨rfl,HK.out⟩
 ·rw [if_pos (.inr h2)]
  go_enter Tryz.func72,Tryz.ntmps72
  go_wp2_with fail
  refine HC.out.mono ?_
  rintro e w2 ⟨rfl,hk⟩
  have HK := hZ0 (HK0.out.then hk);clear hk
  go_wp2
  go_ret
  exact ⟨rfl,HK.out⟩
 ·rw [if_neg (by omega)]
  go_enter Tryz.func72,Tryz.ntmps72
  go_wp2_with fail
  refine HC.out.mono ?_
  rintro e w2 ⟨rfl,hk⟩
  have HK := hZ0 (HK0.out.then hk);clear hk
  go_wp2
  go_ret
  exact ⟨rfl,HK.out⟩
theorem wr_115 : Calls Tryz.prog 72 #[xagg x,.int .u8 115] w fun e w' => e = .returned (.int .i64 (wrongE x 115)) /\ Kept NoF w w' := by
 obtain ⟨W0,hW0⟩ : ∃ W0,w.alloc (.cells (xcell x).toArray 63) = W0 := ⟨_,rfl⟩
 have hk0 : Kept NoF w W0 := by rw [<- hW0];(repeat' (first | (with_reducible first | exact kR0 | apply kP0 | apply kN0 | apply kD0 | apply kA0) | (right;simp;done)))
 have hn0 : Has W0 w.heap.size 63 (xcell x).toArray := by rw [<- hW0];exact Has.new _ _ _
 have hc := num_115 W0 x
 have hl0 := run_loadMsg_has W0 w.heap.size x hn0
 have hw : wrongE x 115 = rngM x.ser := rfl
 rw [hw]
 unfold rngM
 obtain ⟨n,hn⟩ : ∃ n,x.ser = n := ⟨_,rfl⟩
 rw [hn] at hc ⊢
 have HC := hZ0 hc;have HK0 := hZ0 hk0
 clear hk0 hn0 hc hn hw
 have hcase : (n < 0) \/ (¬ n < 0 /\ 1073741824 < n) \/ (¬ n < 0 /\ ¬ 1073741824 < n) := by omega
 rcases hcase with h1 | ⟨h1,h2⟩ | ⟨h1,h2⟩
 ·rw [if_pos (.inl h1)]
  go_enter Tryz.func72,Tryz.ntmps72
  go_wp2_with fail
  refine HC.out.mono ?_
  rintro e w2 ⟨rfl,hk⟩
  have HK := hZ0 (HK0.out.then hk);clear hk
  go_wp2
  go_ret
  exact ⟨rfl,HK.out⟩
 ·rw [if_pos (.inr h2)]
  go_enter Tryz.func72,Tryz.ntmps72
  go_wp2_with fail
  refine HC.out.mono ?_
  rintro e w2 ⟨rfl,hk⟩
  have HK := hZ0 (HK0.out.then hk);clear hk
  go_wp2
  go_ret
  exact ⟨rfl,HK.out⟩
 ·rw [if_neg (by omega)]
  go_enter Tryz.func72,Tryz.ntmps72
  go_wp2_with fail
  refine HC.out.mono ?_
  rintro e w2 ⟨rfl,hk⟩
  have HK := hZ0 (HK0.out.then hk);clear hk
  go_wp2
  go_ret
  exact ⟨rfl,HK.out⟩
theorem wr_114 : Calls Tryz.prog 72 #[xagg x,.int .u8 114] w fun e w' => e = .returned (.int .i64 (wrongE x 114)) /\ Kept NoF w w' := by
 obtain ⟨W0,hW0⟩ : ∃ W0,w.alloc (.cells (xcell x).toArray 63) = W0 := ⟨_,rfl⟩
 have hk0 : Kept NoF w W0 := by rw [<- hW0];(repeat' (first | (with_reducible first | exact kR0 | apply kP0 | apply kN0 | apply kD0 | apply kA0) | (right;simp;done)))
 have hn0 : Has W0 w.heap.size 63 (xcell x).toArray := by rw [<- hW0];exact Has.new _ _ _
 have hc := num_114 W0 x
 have hl0 := run_loadMsg_has W0 w.heap.size x hn0
 have hw : wrongE x 114 = rngM x.req := rfl
 rw [hw]
 unfold rngM
 obtain ⟨n,hn⟩ : ∃ n,x.req = n := ⟨_,rfl⟩
 rw [hn] at hc ⊢
 have HC := hZ0 hc;have HK0 := hZ0 hk0
 clear hk0 hn0 hc hn hw
 have hcase : (n < 0) \/ (¬ n < 0 /\ 1073741824 < n) \/ (¬ n < 0 /\ ¬ 1073741824 < n) := by omega
 rcases hcase with h1 | ⟨h1,h2⟩ | ⟨h1,h2⟩
 ·rw [if_pos (.inl h1)]
  go_enter Tryz.func72,Tryz.ntmps72
  go_wp2_with fail
  refine HC.out.mono ?_
  rintro e w2 ⟨rfl,hk⟩
  have HK := hZ0 (HK0.out.then hk);clear hk
  go_wp2
  go_ret
  exact ⟨rfl,HK.out⟩
 ·rw [if_pos (.inr h2)]
  go_enter Tryz.func72,Tryz.ntmps72
  go_wp2_with fail
  refine HC.out.mono ?_
  rintro e w2 ⟨rfl,hk⟩
  have HK := hZ0 (HK0.out.then hk);clear hk
  go_wp2
  go_ret
  exact ⟨rfl,HK.out⟩
 ·rw [if_neg (by omega)]
  go_enter Tryz.func72,Tryz.ntmps72
  go_wp2_with fail
  refine HC.out.mono ?_
  rintro e w2 ⟨rfl,hk⟩
  have HK := hZ0 (HK0.out.then hk);clear hk
  go_wp2
  go_ret
  exact ⟨rfl,HK.out⟩
theorem wr_110 : Calls Tryz.prog 72 #[xagg x,.int .u8 110] w fun e w' => e = .returned (.int .i64 (wrongE x 110)) /\ Kept NoF w w' := by
 obtain ⟨W0,hW0⟩ : ∃ W0,w.alloc (.cells (xcell x).toArray 63) = W0 := ⟨_,rfl⟩
 have hk0 : Kept NoF w W0 := by rw [<- hW0];(repeat' (first | (with_reducible first | exact kR0 | apply kP0 | apply kN0 | apply kD0 | apply kA0) | (right;simp;done)))
 have hn0 : Has W0 w.heap.size 63 (xcell x).toArray := by rw [<- hW0];exact Has.new _ _ _
 have hc := num_110 W0 x
 have hl0 := run_loadMsg_has W0 w.heap.size x hn0
 have hw : wrongE x 110 = rngM x.n := rfl
 rw [hw]
 unfold rngM
 obtain ⟨n,hn⟩ : ∃ n,x.n = n := ⟨_,rfl⟩
 rw [hn] at hc ⊢
 have HC := hZ0 hc;have HK0 := hZ0 hk0
 clear hk0 hn0 hc hn hw
 have hcase : (n < 0) \/ (¬ n < 0 /\ 1073741824 < n) \/ (¬ n < 0 /\ ¬ 1073741824 < n) := by omega
 rcases hcase with h1 | ⟨h1,h2⟩ | ⟨h1,h2⟩
 ·rw [if_pos (.inl h1)]
  go_enter Tryz.func72,Tryz.ntmps72
  go_wp2_with fail
  refine HC.out.mono ?_
  rintro e w2 ⟨rfl,hk⟩
  have HK := hZ0 (HK0.out.then hk);clear hk
  go_wp2
  go_ret
  exact ⟨rfl,HK.out⟩
 ·rw [if_pos (.inr h2)]
  go_enter Tryz.func72,Tryz.ntmps72
  go_wp2_with fail
  refine HC.out.mono ?_
  rintro e w2 ⟨rfl,hk⟩
  have HK := hZ0 (HK0.out.then hk);clear hk
  go_wp2
  go_ret
  exact ⟨rfl,HK.out⟩
 ·rw [if_neg (by omega)]
  go_enter Tryz.func72,Tryz.ntmps72
  go_wp2_with fail
  refine HC.out.mono ?_
  rintro e w2 ⟨rfl,hk⟩
  have HK := hZ0 (HK0.out.then hk);clear hk
  go_wp2
  go_ret
  exact ⟨rfl,HK.out⟩
theorem wr_109 : Calls Tryz.prog 72 #[xagg x,.int .u8 109] w fun e w' => e = .returned (.int .i64 (wrongE x 109)) /\ Kept NoF w w' := by
 obtain ⟨W0,hW0⟩ : ∃ W0,w.alloc (.cells (xcell x).toArray 63) = W0 := ⟨_,rfl⟩
 have hk0 : Kept NoF w W0 := by rw [<- hW0];(repeat' (first | (with_reducible first | exact kR0 | apply kP0 | apply kN0 | apply kD0 | apply kA0) | (right;simp;done)))
 have hn0 : Has W0 w.heap.size 63 (xcell x).toArray := by rw [<- hW0];exact Has.new _ _ _
 have hc := num_109 W0 x
 have hl0 := run_loadMsg_has W0 w.heap.size x hn0
 have hw : wrongE x 109 = rngM x.m := rfl
 rw [hw]
 unfold rngM
 obtain ⟨n,hn⟩ : ∃ n,x.m = n := ⟨_,rfl⟩
 rw [hn] at hc ⊢
 have HC := hZ0 hc;have HK0 := hZ0 hk0
 clear hk0 hn0 hc hn hw
 have hcase : (n < 0) \/ (¬ n < 0 /\ 1073741824 < n) \/ (¬ n < 0 /\ ¬ 1073741824 < n) := by omega
 rcases hcase with h1 | ⟨h1,h2⟩ | ⟨h1,h2⟩
 ·rw [if_pos (.inl h1)]
  go_enter Tryz.func72,Tryz.ntmps72
  go_wp2_with fail
  refine HC.out.mono ?_
  rintro e w2 ⟨rfl,hk⟩
  have HK := hZ0 (HK0.out.then hk);clear hk
  go_wp2
  go_ret
  exact ⟨rfl,HK.out⟩
 ·rw [if_pos (.inr h2)]
  go_enter Tryz.func72,Tryz.ntmps72
  go_wp2_with fail
  refine HC.out.mono ?_
  rintro e w2 ⟨rfl,hk⟩
  have HK := hZ0 (HK0.out.then hk);clear hk
  go_wp2
  go_ret
  exact ⟨rfl,HK.out⟩
 ·rw [if_neg (by omega)]
  go_enter Tryz.func72,Tryz.ntmps72
  go_wp2_with fail
  refine HC.out.mono ?_
  rintro e w2 ⟨rfl,hk⟩
  have HK := hZ0 (HK0.out.then hk);clear hk
  go_wp2
  go_ret
  exact ⟨rfl,HK.out⟩
theorem wr_112 : Calls Tryz.prog 72 #[xagg x,.int .u8 112] w fun e w' => e = .returned (.int .i64 (wrongE x 112)) /\ Kept NoF w w' := by
 obtain ⟨W0,hW0⟩ : ∃ W0,w.alloc (.cells (xcell x).toArray 63) = W0 := ⟨_,rfl⟩
 have hk0 : Kept NoF w W0 := by rw [<- hW0];(repeat' (first | (with_reducible first | exact kR0 | apply kP0 | apply kN0 | apply kD0 | apply kA0) | (right;simp;done)))
 have hn0 : Has W0 w.heap.size 63 (xcell x).toArray := by rw [<- hW0];exact Has.new _ _ _
 have hc := num_112 W0 x
 have hl0 := run_loadMsg_has W0 w.heap.size x hn0
 have hw : wrongE x 112 = rngM x.p := rfl
 rw [hw]
 unfold rngM
 obtain ⟨n,hn⟩ : ∃ n,x.p = n := ⟨_,rfl⟩
 rw [hn] at hc ⊢
 have HC := hZ0 hc;have HK0 := hZ0 hk0
 clear hk0 hn0 hc hn hw
 have hcase : (n < 0) \/ (¬ n < 0 /\ 1073741824 < n) \/ (¬ n < 0 /\ ¬ 1073741824 < n) := by omega
 rcases hcase with h1 | ⟨h1,h2⟩ | ⟨h1,h2⟩
 ·rw [if_pos (.inl h1)]
  go_enter Tryz.func72,Tryz.ntmps72
  go_wp2_with fail
  refine HC.out.mono ?_
  rintro e w2 ⟨rfl,hk⟩
  have HK := hZ0 (HK0.out.then hk);clear hk
  go_wp2
  go_ret
  exact ⟨rfl,HK.out⟩
 ·rw [if_pos (.inr h2)]
  go_enter Tryz.func72,Tryz.ntmps72
  go_wp2_with fail
  refine HC.out.mono ?_
  rintro e w2 ⟨rfl,hk⟩
  have HK := hZ0 (HK0.out.then hk);clear hk
  go_wp2
  go_ret
  exact ⟨rfl,HK.out⟩
 ·rw [if_neg (by omega)]
  go_enter Tryz.func72,Tryz.ntmps72
  go_wp2_with fail
  refine HC.out.mono ?_
  rintro e w2 ⟨rfl,hk⟩
  have HK := hZ0 (HK0.out.then hk);clear hk
  go_wp2
  go_ret
  exact ⟨rfl,HK.out⟩
theorem wr_120 : Calls Tryz.prog 72 #[xagg x,.int .u8 120] w fun e w' => e = .returned (.int .i64 (wrongE x 120)) /\ Kept NoF w w' := by
 obtain ⟨W0,hW0⟩ : ∃ W0,w.alloc (.cells (xcell x).toArray 63) = W0 := ⟨_,rfl⟩
 have hk0 : Kept NoF w W0 := by rw [<- hW0];(repeat' (first | (with_reducible first | exact kR0 | apply kP0 | apply kN0 | apply kD0 | apply kA0) | (right;simp;done)))
 have hn0 : Has W0 w.heap.size 63 (xcell x).toArray := by rw [<- hW0];exact Has.new _ _ _
 have q : W0.cell? ⟨w.heap.size,10,none⟩ = some (.int .i64 x.e) := hn0.cell 10
 have hw : wrongE x 120 = if x.e < 0 \/ 21 < x.e then 1 else 0 := rfl
 rw [hw]
 obtain ⟨n,hn⟩ : ∃ n,x.e = n := ⟨_,rfl⟩
 rw [hn] at q ⊢
 have HK0 := hZ0 hk0
 clear hk0 hn0 hn hw
 have hcase : (n < 0) \/ (¬ n < 0 /\ 21 < n) \/ (¬ n < 0 /\ ¬ 21 < n) := by omega
 rcases hcase with h1 | ⟨h1,h2⟩ | ⟨h1,h2⟩
 ·rw [if_pos (.inl h1)]
  go_enter Tryz.func72,Tryz.ntmps72
  go_wp2
  go_ret
  exact ⟨rfl,HK0.out⟩
 ·rw [if_pos (.inr h2)]
  go_enter Tryz.func72,Tryz.ntmps72
  go_wp2
  go_ret
  exact ⟨rfl,HK0.out⟩
 ·rw [if_neg (by omega)]
  go_enter Tryz.func72,Tryz.ntmps72
  go_wp2
  go_ret
  exact ⟨rfl,HK0.out⟩
theorem wr_107 : Calls Tryz.prog 72 #[xagg x,.int .u8 107] w fun e w' => e = .returned (.int .i64 (wrongE x 107)) /\ Kept NoF w w' := by
 obtain ⟨W0,hW0⟩ : ∃ W0,w.alloc (.cells (xcell x).toArray 63) = W0 := ⟨_,rfl⟩
 have hk0 : Kept NoF w W0 := by rw [<- hW0];(repeat' (first | (with_reducible first | exact kR0 | apply kP0 | apply kN0 | apply kD0 | apply kA0) | (right;simp;done)))
 have hn0 : Has W0 w.heap.size 63 (xcell x).toArray := by rw [<- hW0];exact Has.new _ _ _
 have q : W0.cell? ⟨w.heap.size,11,none⟩ = some (.string x.key) := hn0.cell 11
 have hw : wrongE x 107 = if 8 < x.key.size then 3 else 0 := rfl
 rw [hw]
 have HK0 := hZ0 hk0
 clear hk0 hn0 hw
 by_cases h1 : 8 < x.key.size
 ·rw [if_pos h1]
  have h8 : (8 : Int) < (x.key.size : Int) := by omega
  clear h1
  go_enter Tryz.func72,Tryz.ntmps72
  go_wp2
  go_ret
  exact ⟨rfl,HK0.out⟩
 ·rw [if_neg h1]
  have h8 : ¬ (8 : Int) < (x.key.size : Int) := by omega
  clear h1
  go_enter Tryz.func72,Tryz.ntmps72
  go_wp2
  go_ret
  exact ⟨rfl,HK0.out⟩
theorem wr_116 : Calls Tryz.prog 72 #[xagg x,.int .u8 116] w fun e w' => e = .returned (.int .i64 (wrongE x 116)) /\ Kept NoF w w' := by
 obtain ⟨W0,hW0⟩ : ∃ W0,w.alloc (.cells (xcell x).toArray 63) = W0 := ⟨_,rfl⟩
 have hk0 : Kept NoF w W0 := by rw [<- hW0];(repeat' (first | (with_reducible first | exact kR0 | apply kP0 | apply kN0 | apply kD0 | apply kA0) | (right;simp;done)))
 have hn0 : Has W0 w.heap.size 63 (xcell x).toArray := by rw [<- hW0];exact Has.new _ _ _
 have q : W0.cell? ⟨w.heap.size,12,none⟩ = some (.string x.to) := hn0.cell 12
 have hw : wrongE x 116 = if 8 < x.to.size then 3 else 0 := rfl
 rw [hw]
 have HK0 := hZ0 hk0
 clear hk0 hn0 hw
 by_cases h1 : 8 < x.to.size
 ·rw [if_pos h1]
  have h8 : (8 : Int) < (x.to.size : Int) := by omega
  clear h1
  go_enter Tryz.func72,Tryz.ntmps72
  go_wp2
  go_ret
  exact ⟨rfl,HK0.out⟩
 ·rw [if_neg h1]
  have h8 : ¬ (8 : Int) < (x.to.size : Int) := by omega
  clear h1
  go_enter Tryz.func72,Tryz.ntmps72
  go_wp2
  go_ret
  exact ⟨rfl,HK0.out⟩
theorem wr_83 : Calls Tryz.prog 72 #[xagg x,.int .u8 83] w fun e w' => e = .returned (.int .i64 (wrongE x 83)) /\ Kept NoF w w' := by
 obtain ⟨W0,hW0⟩ : ∃ W0,w.alloc (.cells (xcell x).toArray 63) = W0 := ⟨_,rfl⟩
 have hk0 : Kept NoF w W0 := by rw [<- hW0];(repeat' (first | (with_reducible first | exact kR0 | apply kP0 | apply kN0 | apply kD0 | apply kA0) | (right;simp;done)))
 have hn0 : Has W0 w.heap.size 63 (xcell x).toArray := by rw [<- hW0];exact Has.new _ _ _
 have q : W0.cell? ⟨w.heap.size,20,none⟩ = some (.slice x.sA x.ss.length x.sc) := hn0.cell 20
 have hw : wrongE x 83 = if 8 < x.ss.length then 6 else 0 := rfl
 rw [hw]
 have HK0 := hZ0 hk0
 clear hk0 hn0 hw
 by_cases h1 : 8 < x.ss.length
 ·rw [if_pos h1]
  have h8 : (8 : Int) < (x.ss.length : Int) := by omega
  clear h1
  go_enter Tryz.func72,Tryz.ntmps72
  go_wp2
  go_ret
  exact ⟨rfl,HK0.out⟩
 ·rw [if_neg h1]
  have h8 : ¬ (8 : Int) < (x.ss.length : Int) := by omega
  clear h1
  go_enter Tryz.func72,Tryz.ntmps72
  go_wp2
  go_ret
  exact ⟨rfl,HK0.out⟩
theorem wr_97 : Calls Tryz.prog 72 #[xagg x,.int .u8 97] w fun e w' => e = .returned (.int .i64 (wrongE x 97)) /\ Kept NoF w w' := by
 obtain ⟨W0,hW0⟩ : ∃ W0,w.alloc (.cells (xcell x).toArray 63) = W0 := ⟨_,rfl⟩
 have hk0 : Kept NoF w W0 := by rw [<- hW0];(repeat' (first | (with_reducible first | exact kR0 | apply kP0 | apply kN0 | apply kD0 | apply kA0) | (right;simp;done)))
 have hn0 : Has W0 w.heap.size 63 (xcell x).toArray := by rw [<- hW0];exact Has.new _ _ _
 have HK0 := hZ0 hk0
 clear hk0 hn0
 have hw : wrongE x 97 = 0 := rfl
 rw [hw]
 clear hw
 go_enter Tryz.func72,Tryz.ntmps72
 go_wp2
 go_ret
 exact ⟨rfl,HK0.out⟩
theorem wr_108 : Calls Tryz.prog 72 #[xagg x,.int .u8 108] w fun e w' => e = .returned (.int .i64 (wrongE x 108)) /\ Kept NoF w w' := by
 obtain ⟨W0,hW0⟩ : ∃ W0,w.alloc (.cells (xcell x).toArray 63) = W0 := ⟨_,rfl⟩
 have hk0 : Kept NoF w W0 := by rw [<- hW0];(repeat' (first | (with_reducible first | exact kR0 | apply kP0 | apply kN0 | apply kD0 | apply kA0) | (right;simp;done)))
 have hn0 : Has W0 w.heap.size 63 (xcell x).toArray := by rw [<- hW0];exact Has.new _ _ _
 have HK0 := hZ0 hk0
 clear hk0 hn0
 have hw : wrongE x 108 = 0 := rfl
 rw [hw]
 clear hw
 go_enter Tryz.func72,Tryz.ntmps72
 go_wp2
 go_ret
 exact ⟨rfl,HK0.out⟩
theorem wr_102 : Calls Tryz.prog 72 #[xagg x,.int .u8 102] w fun e w' => e = .returned (.int .i64 (wrongE x 102)) /\ Kept NoF w w' := by
 obtain ⟨W0,hW0⟩ : ∃ W0,w.alloc (.cells (xcell x).toArray 63) = W0 := ⟨_,rfl⟩
 have hk0 : Kept NoF w W0 := by rw [<- hW0];(repeat' (first | (with_reducible first | exact kR0 | apply kP0 | apply kN0 | apply kD0 | apply kA0) | (right;simp;done)))
 have hn0 : Has W0 w.heap.size 63 (xcell x).toArray := by rw [<- hW0];exact Has.new _ _ _
 have HK0 := hZ0 hk0
 clear hk0 hn0
 have hw : wrongE x 102 = 0 := rfl
 rw [hw]
 clear hw
 go_enter Tryz.func72,Tryz.ntmps72
 go_wp2
 go_ret
 exact ⟨rfl,HK0.out⟩
theorem wr_67 (hm : Src w 2 x.mA x.ms.length (mcells x.ms)) (hl : x.ms.length <= 1000000) : Calls Tryz.prog 72 #[xagg x,.int .u8 67] w fun e w' => e = .returned (.int .i64 (wrongE x 67)) /\ Kept NoF w w' := by
 obtain ⟨W0,hW0⟩ : ∃ W0,w.alloc (.cells (xcell x).toArray 63) = W0 := ⟨_,rfl⟩
 have hk0 : Kept NoF w W0 := by rw [<- hW0];(repeat' (first | (with_reducible first | exact kR0 | apply kP0 | apply kN0 | apply kD0 | apply kA0) | (right;simp;done)))
 have hn0 : Has W0 w.heap.size 63 (xcell x).toArray := by rw [<- hW0];exact Has.new _ _ _
 have q1 : W0.cell? ⟨w.heap.size,13,none⟩ = some (.int .i64 x.cep) := hn0.cell 13
 have q2 : W0.cell? ⟨w.heap.size,14,none⟩ = some (.slice x.mA x.ms.length x.mc) := hn0.cell 14
 have q3 : W0.cell? ⟨w.heap.size,15,none⟩ = some (.int .u64 x.cfl) := hn0.cell 15
 have hc := Plan.rcheck_any W0 x.cep x.cfl x.mA x.mc x.ms (hm.kept hk0 (fun _ _ z => z)) hl
 have hw : wrongE x 67 = Plan.chk x.cep x.ms := rfl
 rw [hw]
 obtain ⟨z,hz⟩ : ∃ z,Plan.chk x.cep x.ms = z := ⟨_,rfl⟩
 rw [hz] at hc ⊢
 have HC := hZ0 hc;have HK0 := hZ0 hk0
 clear hk0 hn0 hc hw hz hm hl
 go_enter Tryz.func72,Tryz.ntmps72
 go_wp2_with fail
 refine HC.out.mono ?_
 rintro e w3 ⟨rfl,hk⟩
 have HK := hZ0 (HK0.out.then hk);clear hk
 go_wp2
 go_ret
 exact ⟨rfl,HK.out⟩
theorem wr_66 (hs : Src w 3 x.oA x.ops.length (cells x.ops)) (hcap : x.ops.length <= x.oc) : Calls Tryz.prog 72 #[xagg x,.int .u8 66] w fun e w' => e = .returned (.int .i64 (wrongE x 66)) /\ Kept NoF w w' := by
 obtain ⟨W0,hW0⟩ : ∃ W0,w.alloc (.cells (xcell x).toArray 63) = W0 := ⟨_,rfl⟩
 have hk0 : Kept NoF w W0 := by rw [<- hW0];(repeat' (first | (with_reducible first | exact kR0 | apply kP0 | apply kN0 | apply kD0 | apply kA0) | (right;simp;done)))
 have hn0 : Has W0 w.heap.size 63 (xcell x).toArray := by rw [<- hW0];exact Has.new _ _ _
 have q1 : W0.cell? ⟨w.heap.size,16,none⟩ = some (.int .i64 x.bcl) := hn0.cell 16
 have q2 : W0.cell? ⟨w.heap.size,17,none⟩ = some (.int .i64 x.breq) := hn0.cell 17
 have q3 : W0.cell? ⟨w.heap.size,18,none⟩ = some (.slice x.oA x.ops.length x.oc) := hn0.cell 18
 have hc := Ops.rcheck_any W0 (xbat x) x.oA x.oc (hs.kept hk0 (fun _ _ z => z)) hcap
 have hw : wrongE x 66 = Ops.chk (xbat x) := rfl
 rw [hw]
 obtain ⟨z,hz⟩ : ∃ z,Ops.chk (xbat x) = z := ⟨_,rfl⟩
 rw [hz] at hc ⊢
 dsimp only [bagg,xbat] at hc
 have HC := hZ0 hc;have HK0 := hZ0 hk0
 clear hk0 hn0 hc hw hz hs hcap
 go_enter Tryz.func72,Tryz.ntmps72
 go_wp2_with fail
 refine HC.out.mono ?_
 rintro e w3 ⟨rfl,hk⟩
 have HK := hZ0 (HK0.out.then hk);clear hk
 go_wp2
 go_ret
 exact ⟨rfl,HK.out⟩
end
theorem richeck_any (w : World) (b : Batch) (A : Option Addr) (c : Nat) (ts : Int) (hs : Src w 3 A b.ops.length (cells b.ops)) (hcap : b.ops.length <= c) : Calls Tryz.prog 150 #[.agg #[.int .i64 b.cl,.int .i64 b.req,.slice A b.ops.length c,.int .u64 ts]] w fun e w' => e = .returned (.int .i64 (Ops.chk b)) /\ Kept NoF w w' := by
 obtain ⟨W0,hW0⟩ : ∃ W0,w.alloc (.cells #[.int .i64 b.cl,.int .i64 b.req,.slice A b.ops.length c,.int .u64 ts] 183) = W0 := ⟨_,rfl⟩
 have hk0 : Kept NoF w W0 := by rw [<- hW0];(repeat' (first | (with_reducible first | exact kR0 | apply kP0 | apply kN0 | apply kD0 | apply kA0) | (right;simp;done)))
 have hn0 : Has W0 w.heap.size 183 #[.int .i64 b.cl,.int .i64 b.req,.slice A b.ops.length c,.int .u64 ts] := by rw [<- hW0];exact Has.new _ _ _
 have q1 : W0.cell? ⟨w.heap.size,0,none⟩ = some (.int .i64 b.cl) := hn0.cell 0
 have q2 : W0.cell? ⟨w.heap.size,1,none⟩ = some (.int .i64 b.req) := hn0.cell 1
 have q3 : W0.cell? ⟨w.heap.size,2,none⟩ = some (.slice A b.ops.length c) := hn0.cell 2
 have hc := Ops.rcheck_any W0 b A c (hs.kept hk0 (fun _ _ z => z)) hcap
 obtain ⟨z,hz⟩ : ∃ z,Ops.chk b = z := ⟨_,rfl⟩
 rw [hz] at hc ⊢
 dsimp only [bagg] at hc
 have HC := hZ0 hc;have HK0 := hZ0 hk0
 clear hk0 hn0 hc hz hs hcap
 go_enter Tryz.func150,Tryz.ntmps150
 go_wp2_with fail
 refine HC.out.mono ?_
 rintro e w3 ⟨rfl,hk⟩
 have HK := hZ0 (HK0.out.then hk);clear hk
 go_wp2
 go_ret
 exact ⟨rfl,HK.out⟩
theorem rentries_any (w : World) (A : Option Addr) (c : Nat) (l : List EntR) (hl : Src w 4 A l.length (ecells l)) (hlen : l.length <= 1000000) (ho : ∀ y ∈ l,Src w 3 y.A y.ops.length (cells y.ops) /\ y.ops.length <= y.c) :
  Calls Tryz.prog 114 #[.slice A l.length c] w fun e w' => e = .returned (.int .i64 (if 4 < l.length then 6 else firstOf (fun y => Ops.chk (bat y)) l)) /\ Kept NoF w w' := by
 have HL := hZ0 hl;clear hl
 have hcall := fun W (hW : Kept NoF w W) y (hy : y ∈ l) => richeck_any W (bat y) y.A y.c y.ts ((ho y hy).1.kept hW (fun _ _ z => z)) (ho y hy).2
 have HCALL := hZ0 hcall;clear hcall ho
 by_cases h4 : 4 < l.length
 ·rw [if_pos h4]
  have h8 : (4 : Int) < (l.length : Int) := by omega
  clear h4
  go_enter Tryz.func114,Tryz.ntmps114
  go_wp2
  go_ret
  exact ⟨rfl,Kept.refl _ _⟩
 rw [if_neg h4]
 have h8 : ¬ (4 : Int) < (l.length : Int) := by omega
 obtain ⟨r,hr⟩ : ∃ r,firstOf (fun y => Ops.chk (bat y)) l = r := ⟨_,rfl⟩
 rw [hr]
 have HR := hZ0 hr;clear hr h4
 go_enter Tryz.func114,Tryz.ntmps114
 go_wp2_with fail
 clear h8
 go_loopw [3] (fun v3 wr => ∃ i : Nat,i <= l.length /\ v3 = .int .i64 i /\ r = firstOf (fun y => Ops.chk (bat y)) (l.drop i) /\ Kept NoF w wr) (fun v3 _ => l.length - (intOf v3).toNat)
 case atStart => exact ⟨0,Nat.zero_le _,rfl,HR.out.symm,Kept.refl _ _⟩
 case round =>
  obtain ⟨i,hi,rfl,hrr,hk⟩ := hrel
  have HK := hZ0 hk;clear hk
  by_cases hil : i < l.length
  ·obtain ⟨y,hy⟩ : ∃ y,l[i]? = some y := ⟨_,List.getElem?_eq_getElem hil⟩
   obtain ⟨ad,rfl,hl1,e0,e1,e2,e3⟩ := ent_cells (HL.out.kept HK.out (fun _ _ z => z)) (by omega) i y hy
   have hsa := firstOf_at (fun y => Ops.chk (bat y)) hy
   have hcall := HCALL.out wr HK.out y (List.mem_of_getElem? hy)
   rw [hsa] at hrr
   obtain ⟨t,ht⟩ : ∃ t,Ops.chk (bat y) = t := ⟨_,rfl⟩
   rw [ht] at hcall hrr
   dsimp only [bat] at hcall
   have HC := hZ0 hcall
   have HRR := hZ0 hrr
   clear hsa ht hy hcall hrr
   go_wp2_with fail
   refine HC.out.mono ?_
   rintro e w5 ⟨rfl,hk0⟩
   have HK5 := hZ0 (HK.out.then hk0);clear hk0
   by_cases h0 : t = 0
   ·subst h0
    have hrf := HRR.out
    rw [if_pos rfl] at hrf
    have HRF := hZ0 hrf;clear hrf HRR
    go_wp2
    go_roundw
    case rel => exact ⟨i + 1,by omega,by go_num,HRF.out,HK5.out⟩
    case measure => simp [intOf];omega
   ·have hrf := HRR.out
    rw [if_neg h0] at hrf
    have HRF := hZ0 hrf;clear hrf HRR
    have h2 : (t != 0) = true := by simpa using h0
    clear h0
    go_wp2
    go_ret
    exact ⟨by rw [HRF.out];rfl,HK5.out⟩
  ·obtain rfl : i = l.length := by omega
   rw [List.drop_length,firstOf] at hrr
   have HRR := hZ0 hrr;clear hrr
   go_wp2
   go_ret
   exact ⟨by rw [HRR.out];rfl,HK.out⟩
theorem rpairs_any (w : World) (A : Option Addr) (c : Nat) (l : List PairR) (hl : Src w 2 A l.length (pcells l)) (hlen : l.length <= 1000000) :
  Calls Tryz.prog 115 #[.slice A l.length c] w fun e w' => e = .returned (.int .i64 (if 32 < l.length then 6 else firstOf pairE l)) /\ Kept NoF w w' := by
 have HL := hZ0 hl;clear hl
 by_cases h4 : 32 < l.length
 ·rw [if_pos h4]
  have h8 : (32 : Int) < (l.length : Int) := by omega
  clear h4
  go_enter Tryz.func115,Tryz.ntmps115
  go_wp2
  go_ret
  exact ⟨rfl,Kept.refl _ _⟩
 rw [if_neg h4]
 have h8 : ¬ (32 : Int) < (l.length : Int) := by omega
 obtain ⟨r,hr⟩ : ∃ r,firstOf pairE l = r := ⟨_,rfl⟩
 rw [hr]
 have HR := hZ0 hr;clear hr h4
 go_enter Tryz.func115,Tryz.ntmps115
 go_wp2_with fail
 clear h8
 go_loopw [3] (fun v3 wr => ∃ i : Nat,i <= l.length /\ v3 = .int .i64 i /\ r = firstOf pairE (l.drop i) /\ Kept NoF w wr) (fun v3 _ => l.length - (intOf v3).toNat)
 case atStart => exact ⟨0,Nat.zero_le _,rfl,HR.out.symm,Kept.refl _ _⟩
 case round =>
  obtain ⟨i,hi,rfl,hrr,hk⟩ := hrel
  have HK := hZ0 hk;clear hk
  by_cases hil : i < l.length
  ·obtain ⟨y,hy⟩ : ∃ y,l[i]? = some y := ⟨_,List.getElem?_eq_getElem hil⟩
   obtain ⟨ad,rfl,hl1,e0,e1⟩ := pair_cells (HL.out.kept HK.out (fun _ _ z => z)) (by omega) i y hy
   have hsa := firstOf_at pairE hy
   rw [hsa] at hrr
   have hkc := rkcheck_any y.key
   unfold pairE at hrr
   change ∀ w : World,Calls Tryz.prog 117 #[.string y.key] w fun e w' => e = .returned (.int .i64 (keyE y.key)) /\ w = w' at hkc
   have hk10 : keyE y.key = 0 \/ keyE y.key = 10 := by unfold keyE;split;exact .inr rfl;exact .inl rfl
   obtain ⟨t,ht⟩ : ∃ t,keyE y.key = t := ⟨_,rfl⟩
   rw [ht] at hkc hrr hk10
   have HC := hZ0 hkc
   have HRR := hZ0 hrr
   clear hsa ht hy hkc hrr
   go_wp2_with fail
   refine (HC.out _).mono ?_
   rintro e w5 ⟨rfl,rfl⟩
   rcases hk10 with rfl | rfl
   ·have hrf := HRR.out
    rw [if_neg (show ¬((0 : Int) ≠ 0) from fun h => h rfl)] at hrf
    have HRF := hZ0 hrf;clear hrf HRR
    by_cases h1 : 8 < y.val.size
    ·have hrf := HRF.out
     rw [if_pos h1] at hrf
     have HRF := hZ0 hrf;clear hrf
     have h2 : (8 : Int) < (y.val.size : Int) := by omega
     clear h1
     go_wp2
     go_ret
     exact ⟨by rw [HRF.out];rfl,by (repeat' (first | (with_reducible first | exact kR0 | apply kP0 | apply kN0 | apply kD0 | apply kA0) | (exact HK.out) | (right;simp;done)))⟩
    ·have hrf := HRF.out
     rw [if_neg h1] at hrf
     have HRF := hZ0 hrf;clear hrf
     have h2 : ¬ (8 : Int) < (y.val.size : Int) := by omega
     clear h1
     go_wp2
     go_roundw
     case rel => exact ⟨i + 1,by omega,by go_num,HRF.out,by (repeat' (first | (with_reducible first | exact kR0 | apply kP0 | apply kN0 | apply kD0 | apply kA0) | (exact HK.out) | (right;simp;done)))⟩
     case measure => simp [intOf];omega
   ·have hrf := HRR.out
    rw [if_pos (show (10 : Int) ≠ 0 by decide),if_neg (show ¬ (10 : Int) = 0 by decide)] at hrf
    have HRF := hZ0 hrf;clear hrf HRR
    go_wp2
    go_ret
    exact ⟨by rw [HRF.out];rfl,by (repeat' (first | (with_reducible first | exact kR0 | apply kP0 | apply kN0 | apply kD0 | apply kA0) | (exact HK.out) | (right;simp;done)))⟩
  ·obtain rfl : i = l.length := by omega
   rw [List.drop_length,firstOf] at hrr
   have HRR := hZ0 hrr;clear hrr
   go_wp2
   go_ret
   exact ⟨by rw [HRR.out];rfl,HK.out⟩
section
variable (w : World) (x : MsgR)
theorem wr_69 (hl : Src w 4 x.eA x.es.length (ecells x.es)) (hlen : x.es.length <= 1000000) (ho : ∀ y ∈ x.es,Src w 3 y.A y.ops.length (cells y.ops) /\ y.ops.length <= y.c) : Calls Tryz.prog 72 #[xagg x,.int .u8 69] w fun e w' => e = .returned (.int .i64 (wrongE x 69)) /\ Kept NoF w w' := by
 obtain ⟨W0,hW0⟩ : ∃ W0,w.alloc (.cells (xcell x).toArray 63) = W0 := ⟨_,rfl⟩
 have hk0 : Kept NoF w W0 := by rw [<- hW0];(repeat' (first | (with_reducible first | exact kR0 | apply kP0 | apply kN0 | apply kD0 | apply kA0) | (right;simp;done)))
 have hn0 : Has W0 w.heap.size 63 (xcell x).toArray := by rw [<- hW0];exact Has.new _ _ _
 have q1 : W0.cell? ⟨w.heap.size,19,none⟩ = some (.slice x.eA x.es.length x.ec) := hn0.cell 19
 have hc := rentries_any W0 x.eA x.ec x.es (hl.kept hk0 (fun _ _ z => z)) hlen (fun y hy => ⟨(ho y hy).1.kept hk0 (fun _ _ z => z),(ho y hy).2⟩)
 have hw : wrongE x 69 = (if 4 < x.es.length then 6 else firstOf (fun y => Ops.chk (bat y)) x.es) := rfl
 rw [hw]
 obtain ⟨z,hz⟩ : ∃ z : Int,(if 4 < x.es.length then (6 : Int) else firstOf (fun y => Ops.chk (bat y)) x.es) = z := ⟨_,rfl⟩
 rw [hz] at hc ⊢
 have HC := hZ0 hc;have HK0 := hZ0 hk0
 clear hk0 hn0 hc hw hz hl ho
 go_enter Tryz.func72,Tryz.ntmps72
 go_wp2_with fail
 refine HC.out.mono ?_
 rintro e w3 ⟨rfl,hk⟩
 have HK := hZ0 (HK0.out.then hk);clear hk
 go_wp2
 go_ret
 exact ⟨rfl,HK.out⟩
theorem wr_82 (hl : Src w 2 x.pA x.ps.length (pcells x.ps)) (hlen : x.ps.length <= 1000000) : Calls Tryz.prog 72 #[xagg x,.int .u8 82] w fun e w' => e = .returned (.int .i64 (wrongE x 82)) /\ Kept NoF w w' := by
 obtain ⟨W0,hW0⟩ : ∃ W0,w.alloc (.cells (xcell x).toArray 63) = W0 := ⟨_,rfl⟩
 have hk0 : Kept NoF w W0 := by rw [<- hW0];(repeat' (first | (with_reducible first | exact kR0 | apply kP0 | apply kN0 | apply kD0 | apply kA0) | (right;simp;done)))
 have hn0 : Has W0 w.heap.size 63 (xcell x).toArray := by rw [<- hW0];exact Has.new _ _ _
 have q1 : W0.cell? ⟨w.heap.size,21,none⟩ = some (.slice x.pA x.ps.length x.pc) := hn0.cell 21
 have hc := rpairs_any W0 x.pA x.pc x.ps (hl.kept hk0 (fun _ _ z => z)) hlen
 have hw : wrongE x 82 = (if 32 < x.ps.length then 6 else firstOf pairE x.ps) := rfl
 rw [hw]
 obtain ⟨z,hz⟩ : ∃ z : Int,(if 32 < x.ps.length then (6 : Int) else firstOf pairE x.ps) = z := ⟨_,rfl⟩
 rw [hz] at hc ⊢
 have HC := hZ0 hc;have HK0 := hZ0 hk0
 clear hk0 hn0 hc hw hz hl
 go_enter Tryz.func72,Tryz.ntmps72
 go_wp2_with fail
 refine HC.out.mono ?_
 rintro e w3 ⟨rfl,hk⟩
 have HK := hZ0 (HK0.out.then hk);clear hk
 go_wp2
 go_ret
 exact ⟨rfl,HK.out⟩
theorem wr_any {B : Nat} (h : XAt w B x) {c : Nat} (hc : c ∈ letters) : Calls Tryz.prog 72 #[xagg x,.int .u8 c] w fun e w' => e = .returned (.int .i64 (wrongE x c)) /\ Kept NoF w w' := by
 unfold letters at hc
 simp only [List.mem_cons,List.not_mem_nil,or_false] at hc
 rcases hc with rfl | rfl | rfl | rfl | rfl | rfl | rfl | rfl | rfl | rfl | rfl | rfl | rfl | rfl | rfl | rfl | rfl
 ·exact wr_67 w x h.m (by have := h.ml;omega)
 ·exact wr_97 w x
 ·exact wr_101 w x
 ·exact wr_115 w x
 ·exact wr_102 w x
 ·exact wr_108 w x
 ·exact wr_110 w x
 ·exact wr_109 w x
 ·exact wr_112 w x
 ·exact wr_114 w x
 ·exact wr_69 w x h.e (by have := h.el;omega) (fun y hy => ⟨(h.eo y hy).1,(h.eo y hy).2.1⟩)
 ·exact wr_83 w x
 ·exact wr_66 w x h.o h.oc
 ·exact wr_120 w x
 ·exact wr_107 w x
 ·exact wr_116 w x
 ·exact wr_82 w x h.p (by have := h.pl;omega)
theorem pa_yes {k : Int} (h : isKind k = true) : Calls Tryz.prog 37 #[.int .i64 k] w fun e w' => e = .returned (.string (lets (partsOf k))) /\ Kept NoF w w' := by
 have h0 : 1 <= k /\ k <= 15 := of_decide_eq_true h
 clear h
 have h1 : k = 1 \/ k = 2 \/ k = 3 \/ k = 4 \/ k = 5 \/ k = 6 \/ k = 7 \/ k = 8 \/ k = 9 \/ k = 10 \/ k = 11 \/ k = 12 \/ k = 13 \/ k = 14 \/ k = 15 := by omega
 clear h0
 rcases h1 with rfl | rfl | rfl | rfl | rfl | rfl | rfl | rfl | rfl | rfl | rfl | rfl | rfl | rfl | rfl
 all_goals
  go_enter Tryz.func37,Tryz.ntmps37
  go_wp2
  go_ret
  exact ⟨rfl,by (repeat' (first | (with_reducible first | exact kR0 | apply kP0 | apply kN0 | apply kD0 | apply kA0) | (right;simp;done)))⟩
theorem pa_zero : Calls Tryz.prog 37 #[.int .i64 0] w fun e w' => e = .returned (.string ⟨#[63]⟩) /\ Kept NoF w w' := by
 go_enter Tryz.func37,Tryz.ntmps37
 go_wp2
 go_ret
 exact ⟨rfl,by (repeat' (first | (with_reducible first | exact kR0 | apply kP0 | apply kN0 | apply kD0 | apply kA0) | (right;simp;done)))⟩
end
theorem letq {k : Int} (h : isKind k = true) : ((lets (partsOf k)).toList == [63]) = false := by
 have e : (lets (partsOf k)).toList = byt (partsOf k) := by
  rw [Lib.toList_data]
  exact bl_ofL _
 rw [e]
 have h0 : 1 <= k /\ k <= 15 := of_decide_eq_true h
 have h1 : k = 1 \/ k = 2 \/ k = 3 \/ k = 4 \/ k = 5 \/ k = 6 \/ k = 7 \/ k = 8 \/ k = 9 \/ k = 10 \/ k = 11 \/ k = 12 \/ k = 13 \/ k = 14 \/ k = 15 := by omega
 clear h0 h e
 rcases h1 with rfl | rfl | rfl | rfl | rfl | rfl | rfl | rfl | rfl | rfl | rfl | rfl | rfl | rfl | rfl <;> decide
attribute [local go_sem] run_loadMsg
theorem check_yes (w : World) (x : MsgR) {B : Nat} (h : XAt w B x) (hkd : isKind x.k = true) : Calls Tryz.prog 40 #[xagg x] w fun e w' => e = .returned (.int .i64 (chkM x)) /\ Kept NoF w w' := by
 have hz : chkM x = firstOf (wrongE x) (partsOf x.k) := by unfold chkM;rw [if_pos hkd]
 rw [hz]
 obtain ⟨W0,hW0⟩ : ∃ W0,w.alloc (.cells (xcell x).toArray 63) = W0 := ⟨_,rfl⟩
 have hk0 : Kept NoF w W0 := by rw [<- hW0];(repeat' (first | (with_reducible first | exact kR0 | apply kP0 | apply kN0 | apply kD0 | apply kA0) | (right;simp;done)))
 have hn0 : Has W0 w.heap.size 63 (xcell x).toArray := by rw [<- hW0];exact Has.new _ _ _
 have q : W0.cell? ⟨w.heap.size,0,none⟩ = some (.int .i64 x.k) := hn0.cell 0
 have hp := pa_yes W0 hkd
 have hin := parts_letters x.k
 have hq := letq hkd
 obtain ⟨l,hl⟩ : ∃ l,partsOf x.k = l := ⟨_,rfl⟩
 rw [hl] at hp hin hq ⊢
 have hcall : ∀ W,Kept NoF W0 W -> ∀ c ∈ l,Calls Tryz.prog 72 #[xagg x,.int .u8 c] W fun e w' => e = .returned (.int .i64 (wrongE x c)) /\ Kept NoF W w' := fun W hW c hc => wr_any W x (h.kept (hk0.then hW) (fun _ z => z.elim)) (hin c hc)
 have hsm : ∀ c ∈ l,c < 256 := fun c hc => by
  have := hin c hc
  unfold letters at this
  simp only [List.mem_cons,List.not_mem_nil,or_false] at this
  omega
 have hsz := rlets_size l
 have hll : l.length <= 7 := by rw [<- hl];exact parts_len _
 obtain ⟨p,hp0⟩ : ∃ p,lets l = p := ⟨_,rfl⟩
 have hix : ∀ (i c : Nat),l[i]? = some c -> ∀ W,(Instr.index 9 (.string p) (.int .i64 i)).run Tryz.prog W = .ok (.int .u8 c) W := fun i c hc W => by
  obtain ⟨hi,e⟩ := rlets_at hsm hc
  rw [<- hp0,run_index_string W 9 (lets l) .i64 i (by rfl),dif_pos ⟨by omega,by omega⟩]
  simp only [Int.toNat_natCast,e]
 rw [hp0] at hp hsz hq
 have HP := hZ0 hp;have HC := hZ0 hcall;have HIX := hZ0 hix;have HK0 := hZ0 hk0;have HN0 := hZ0 hn0;have HSZ := hZ0 hsz
 obtain ⟨rr,hrr⟩ : ∃ rr,firstOf (wrongE x) l = rr := ⟨_,rfl⟩
 rw [hrr]
 have HRR := hZ0 hrr;clear hrr hz
 obtain ⟨cs,hcs⟩ : ∃ cs,(xcell x).toArray = cs := ⟨_,rfl⟩
 have HN0' := HN0
 unfold xagg at HC ⊢
 rw [hcs] at hW0 HC HN0 ⊢
 have HCS := hZ0 hcs
 clear hcs
 clear hp hcall hix hk0 hn0 hin hsm hl h hp0 hsz
 go_enter Tryz.func40,Tryz.ntmps40
 go_wp2_with fail
 clear hW0
 refine HP.out.mono ?_
 rintro e w2 ⟨rfl,hk⟩
 have HK2 := hZ0 hk;clear hk q
 go_wp2_with fail
 go_loopw [4] (fun v4 wr => ∃ i : Nat,i <= l.length /\ v4 = .int .i64 i /\ rr = firstOf (wrongE x) (l.drop i) /\ Kept NoF W0 wr) (fun v4 _ => l.length - (intOf v4).toNat)
 case atStart => exact ⟨0,Nat.zero_le _,rfl,HRR.out.symm,by (repeat' (first | (with_reducible first | exact kR0 | apply kP0 | apply kN0 | apply kD0 | apply kA0) | (exact HK2.out) | (right;simp;done)))⟩
 case round =>
  obtain ⟨i,hi,rfl,hr1,hk⟩ := hrel
  have HK := hZ0 hk;clear hk
  have hsz := HSZ.out
  by_cases hil : i < l.length
  ·obtain ⟨c,hc⟩ : ∃ c,l[i]? = some c := ⟨_,List.getElem?_eq_getElem hil⟩
   have g1 : (i : Int) < (p.size : Int) := by omega
   have hix := HIX.out i c hc
   rw [firstOf_at (wrongE x) hc] at hr1
   have hcc := HC.out wr.drew HK.out.drew c (List.mem_of_getElem? hc)
   obtain ⟨u1,u2⟩ := msgIn_has (HN0'.out.kept HK.out.drew (fun z => z))
   obtain ⟨v1,v2⟩ := msgIn_has (HN0'.out.kept HK.out (fun z => z))
   rw [HCS.out] at u2 v2
   obtain ⟨t,ht⟩ : ∃ t,wrongE x c = t := ⟨_,rfl⟩
   rw [ht] at hcc hr1
   have HR1 := hZ0 hr1;clear hr1 ht
   have HCC := hZ0 hcc;have HIX1 := hZ0 hix
   clear hc hcc hsz
   go_wp2
   go_region_held3 (fun W => MsgIn W ⟨w.heap.size,0,none⟩ /\ msgAt W ⟨w.heap.size,0,none⟩ = cs) (first | with_reducible exact ⟨u1,u2⟩ | with_reducible exact ⟨v1,v2⟩ | with_reducible exact hix _ | exact ⟨u1,u2⟩)
    (first | (go_at_call 72;refine HCC.out.mono ?_;rintro e w5 ⟨rfl,hk5⟩;obtain ⟨u1,u2⟩ := msgIn_has (HN0'.out.kept (HK.out.drew.then hk5) (fun z => z));rw [HCS.out] at u2;have HK5 := hZ0 hk5;clear hk5))
   all_goals
    by_cases h0 : t = 0
    ·subst h0
     have hrf := HR1.out
     rw [if_pos rfl] at hrf
     have HRF := hZ0 hrf;clear hrf
     go_wp2
     go_roundw
     case rel => exact ⟨i + 1,by omega,by go_num,HRF.out,HK.out.drew.then HK5.out⟩
     case measure => simp [intOf];omega
    ·have hrf := HR1.out
     rw [if_neg h0] at hrf
     have HRF := hZ0 hrf;clear hrf
     have h2 : (t != 0) = true := by simpa using h0
     clear h0
     go_wp2
     go_ret
     exact ⟨by rw [HRF.out];rfl,HK0.out.then (HK.out.drew.then HK5.out)⟩
  ·have hie : i = l.length := by omega
   have g1 : ¬ (i : Int) < (p.size : Int) := by omega
   clear hsz
   go_wp2
   go_ret
   exact ⟨by first | rfl | (rw [hr1,hie,List.drop_length];rfl),HK0.out.then HK.out⟩
end Rm
end Go.Proofs.YtgbigpdiacjbgaaGreat
