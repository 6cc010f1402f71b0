/- Part 22 of what the proof needs. -/
import Derived.Test.YtobfdolhgnoedaaAM20
set_option linter.unusedSimpArgs false
set_option linter.unusedVariables false
set_option maxHeartbeats 32000000
set_option maxRecDepth 100000
namespace Go.Proofs.Ytobfdolhgnoedaa
open Go.RowKit
set_option maxRecDepth 100000
namespace Ask
open Plan Ops Ent Msg MO Vn
attribute [local go_sem ↓] storeVar_msg loadVar_msg
def letS : List Nat := [101,114,110,107,116,97,66]
section
variable (w : World) (x : MsgR)
theorem rnum_101 : Calls Try.prog 53 #[xagg x,.int .u8 101] w fun e w' => e = .returned (.int .i64 (x.ep)) /\ Kept NoF w w' := by
 obtain ⟨W0,hW0⟩ : ∃ W0,w.alloc (.cells (xcell x).toArray 34) = W0 := ⟨_,rfl⟩
 have hk0 : Kept NoF w W0 := by rw [<- hW0];(repeat' (first | (with_reducible first | exact kR0 | apply kP0 | apply kN0 | apply kD0 | apply kA0) | (right;simp;done)))
 have hn0 : Has W0 w.heap.size 34 (xcell x).toArray := by rw [<- hW0];exact Has.new _ _ _
 have q : W0.cell? ⟨w.heap.size,1,none⟩ = some (.int .i64 (x.ep)) := hn0.cell 1
 have HK0 := hZ0 hk0
 clear hk0 hn0
 go_enter Try.func53,Try.ntmps53
 go_wp2
 go_ret
 exact ⟨rfl,HK0.out⟩
theorem rnum_114 : Calls Try.prog 53 #[xagg x,.int .u8 114] w fun e w' => e = .returned (.int .i64 (x.req)) /\ Kept NoF w w' := by
 obtain ⟨W0,hW0⟩ : ∃ W0,w.alloc (.cells (xcell x).toArray 34) = W0 := ⟨_,rfl⟩
 have hk0 : Kept NoF w W0 := by rw [<- hW0];(repeat' (first | (with_reducible first | exact kR0 | apply kP0 | apply kN0 | apply kD0 | apply kA0) | (right;simp;done)))
 have hn0 : Has W0 w.heap.size 34 (xcell x).toArray := by rw [<- hW0];exact Has.new _ _ _
 have q : W0.cell? ⟨w.heap.size,2,none⟩ = some (.int .i64 (x.req)) := hn0.cell 2
 have HK0 := hZ0 hk0
 clear hk0 hn0
 go_enter Try.func53,Try.ntmps53
 go_wp2
 go_ret
 exact ⟨rfl,HK0.out⟩
theorem rnum_110 : Calls Try.prog 53 #[xagg x,.int .u8 110] w fun e w' => e = .returned (.int .i64 (x.n)) /\ Kept NoF w w' := by
 obtain ⟨W0,hW0⟩ : ∃ W0,w.alloc (.cells (xcell x).toArray 34) = W0 := ⟨_,rfl⟩
 have hk0 : Kept NoF w W0 := by rw [<- hW0];(repeat' (first | (with_reducible first | exact kR0 | apply kP0 | apply kN0 | apply kD0 | apply kA0) | (right;simp;done)))
 have hn0 : Has W0 w.heap.size 34 (xcell x).toArray := by rw [<- hW0];exact Has.new _ _ _
 have q : W0.cell? ⟨w.heap.size,7,none⟩ = some (.int .i64 (x.n)) := hn0.cell 7
 have HK0 := hZ0 hk0
 clear hk0 hn0
 go_enter Try.func53,Try.ntmps53
 go_wp2
 go_ret
 exact ⟨rfl,HK0.out⟩
theorem rwrong_101 (hr : 0 <= x.ep /\ x.ep <= 1073741824) : Calls Try.prog 42 #[xagg x,.int .u8 101] w fun e w' => e = .returned (.int .i64 0) /\ Kept NoF w w' := by
 obtain ⟨W0,hW0⟩ : ∃ W0,w.alloc (.cells (xcell x).toArray 34) = W0 := ⟨_,rfl⟩
 have hk0 : Kept NoF w W0 := by rw [<- hW0];(repeat' (first | (with_reducible first | exact kR0 | apply kP0 | apply kN0 | apply kD0 | apply kA0) | (right;simp;done)))
 have hn0 : Has W0 w.heap.size 34 (xcell x).toArray := by rw [<- hW0];exact Has.new _ _ _
 have hc := rnum_101 W0 x
 have hl0 := run_loadMsg_has W0 w.heap.size x hn0
 obtain ⟨n,hn⟩ : ∃ n,x.ep = n := ⟨_,rfl⟩
 rw [hn] at hr hc
 obtain ⟨h1,h2⟩ := hr
 have HC := hZ0 hc;have HK0 := hZ0 hk0
 clear hk0 hn0 hc hn
 go_enter Try.func42,Try.ntmps42
 go_wp2_with fail
 refine HC.out.mono ?_
 rintro e w2 ⟨rfl,hk⟩
 have HK := hZ0 (HK0.out.then hk);clear hk
 go_wp2
 go_ret
 exact ⟨rfl,HK.out⟩
theorem rwrong_114 (hr : 0 <= x.req /\ x.req <= 1073741824) : Calls Try.prog 42 #[xagg x,.int .u8 114] w fun e w' => e = .returned (.int .i64 0) /\ Kept NoF w w' := by
 obtain ⟨W0,hW0⟩ : ∃ W0,w.alloc (.cells (xcell x).toArray 34) = W0 := ⟨_,rfl⟩
 have hk0 : Kept NoF w W0 := by rw [<- hW0];(repeat' (first | (with_reducible first | exact kR0 | apply kP0 | apply kN0 | apply kD0 | apply kA0) | (right;simp;done)))
 have hn0 : Has W0 w.heap.size 34 (xcell x).toArray := by rw [<- hW0];exact Has.new _ _ _
 have hc := rnum_114 W0 x
 have hl0 := run_loadMsg_has W0 w.heap.size x hn0
 obtain ⟨n,hn⟩ : ∃ n,x.req = n := ⟨_,rfl⟩
 rw [hn] at hr hc
 obtain ⟨h1,h2⟩ := hr
 have HC := hZ0 hc;have HK0 := hZ0 hk0
 clear hk0 hn0 hc hn
 go_enter Try.func42,Try.ntmps42
 go_wp2_with fail
 refine HC.out.mono ?_
 rintro e w2 ⟨rfl,hk⟩
 have HK := hZ0 (HK0.out.then hk);clear hk
 go_wp2
 go_ret
 exact ⟨rfl,HK.out⟩
theorem rwrong_110 (hr : 0 <= x.n /\ x.n <= 1073741824) : Calls Try.prog 42 #[xagg x,.int .u8 110] w fun e w' => e = .returned (.int .i64 0) /\ Kept NoF w w' := by
 obtain ⟨W0,hW0⟩ : ∃ W0,w.alloc (.cells (xcell x).toArray 34) = W0 := ⟨_,rfl⟩
 have hk0 : Kept NoF w W0 := by rw [<- hW0];(repeat' (first | (with_reducible first | exact kR0 | apply kP0 | apply kN0 | apply kD0 | apply kA0) | (right;simp;done)))
 have hn0 : Has W0 w.heap.size 34 (xcell x).toArray := by rw [<- hW0];exact Has.new _ _ _
 have hc := rnum_110 W0 x
 have hl0 := run_loadMsg_has W0 w.heap.size x hn0
 obtain ⟨n,hn⟩ : ∃ n,x.n = n := ⟨_,rfl⟩
 rw [hn] at hr hc
 obtain ⟨h1,h2⟩ := hr
 have HC := hZ0 hc;have HK0 := hZ0 hk0
 clear hk0 hn0 hc hn
 go_enter Try.func42,Try.ntmps42
 go_wp2_with fail
 refine HC.out.mono ?_
 rintro e w2 ⟨rfl,hk⟩
 have HK := hZ0 (HK0.out.then hk);clear hk
 go_wp2
 go_ret
 exact ⟨rfl,HK.out⟩
theorem rwrong_107 (hr : x.key.size <= 8) : Calls Try.prog 42 #[xagg x,.int .u8 107] w fun e w' => e = .returned (.int .i64 0) /\ Kept NoF w w' := by
 obtain ⟨W0,hW0⟩ : ∃ W0,w.alloc (.cells (xcell x).toArray 34) = W0 := ⟨_,rfl⟩
 have hk0 : Kept NoF w W0 := by rw [<- hW0];(repeat' (first | (with_reducible first | exact kR0 | apply kP0 | apply kN0 | apply kD0 | apply kA0) | (right;simp;done)))
 have hn0 : Has W0 w.heap.size 34 (xcell x).toArray := by rw [<- hW0];exact Has.new _ _ _
 have q : W0.cell? ⟨w.heap.size,11,none⟩ = some (.string x.key) := hn0.cell 11
 have h8 : ¬ (8 : Int) < (x.key.size : Int) := by omega
 have HK0 := hZ0 hk0
 clear hk0 hn0
 go_enter Try.func42,Try.ntmps42
 go_wp2
 go_ret
 exact ⟨rfl,HK0.out⟩
theorem rwrong_116 (hr : x.to.size <= 8) : Calls Try.prog 42 #[xagg x,.int .u8 116] w fun e w' => e = .returned (.int .i64 0) /\ Kept NoF w w' := by
 obtain ⟨W0,hW0⟩ : ∃ W0,w.alloc (.cells (xcell x).toArray 34) = W0 := ⟨_,rfl⟩
 have hk0 : Kept NoF w W0 := by rw [<- hW0];(repeat' (first | (with_reducible first | exact kR0 | apply kP0 | apply kN0 | apply kD0 | apply kA0) | (right;simp;done)))
 have hn0 : Has W0 w.heap.size 34 (xcell x).toArray := by rw [<- hW0];exact Has.new _ _ _
 have q : W0.cell? ⟨w.heap.size,12,none⟩ = some (.string x.to) := hn0.cell 12
 have h8 : ¬ (8 : Int) < (x.to.size : Int) := by omega
 have HK0 := hZ0 hk0
 clear hk0 hn0
 go_enter Try.func42,Try.ntmps42
 go_wp2
 go_ret
 exact ⟨rfl,HK0.out⟩
theorem rwrong_97 : Calls Try.prog 42 #[xagg x,.int .u8 97] w fun e w' => e = .returned (.int .i64 0) /\ Kept NoF w w' := by
 obtain ⟨W0,hW0⟩ : ∃ W0,w.alloc (.cells (xcell x).toArray 34) = W0 := ⟨_,rfl⟩
 have hk0 : Kept NoF w W0 := by rw [<- hW0];(repeat' (first | (with_reducible first | exact kR0 | apply kP0 | apply kN0 | apply kD0 | apply kA0) | (right;simp;done)))
 have hn0 : Has W0 w.heap.size 34 (xcell x).toArray := by rw [<- hW0];exact Has.new _ _ _
 have HK0 := hZ0 hk0
 clear hk0 hn0
 go_enter Try.func42,Try.ntmps42
 go_wp2
 go_ret
 exact ⟨rfl,HK0.out⟩
theorem rwrong_66 (hs : Src w 3 x.oA x.ops.length (cells x.ops)) (hcap : x.ops.length <= x.oc) (hr : Ops.chk (xbat x) = 0) : Calls Try.prog 42 #[xagg x,.int .u8 66] w fun e w' => e = .returned (.int .i64 0) /\ Kept NoF w w' := by
 obtain ⟨W0,hW0⟩ : ∃ W0,w.alloc (.cells (xcell x).toArray 34) = W0 := ⟨_,rfl⟩
 have hk0 : Kept NoF w W0 := by rw [<- hW0];(repeat' (first | (with_reducible first | exact kR0 | apply kP0 | apply kN0 | apply kD0 | apply kA0) | (right;simp;done)))
 have hn0 : Has W0 w.heap.size 34 (xcell x).toArray := by rw [<- hW0];exact Has.new _ _ _
 have q1 : W0.cell? ⟨w.heap.size,16,none⟩ = some (.int .i64 x.bcl) := hn0.cell 16
 have q2 : W0.cell? ⟨w.heap.size,17,none⟩ = some (.int .i64 x.breq) := hn0.cell 17
 have q3 : W0.cell? ⟨w.heap.size,18,none⟩ = some (.slice x.oA x.ops.length x.oc) := hn0.cell 18
 have hc := Ops.rcheck_any W0 (xbat x) x.oA x.oc (hs.kept hk0 (fun _ _ z => z)) hcap
 rw [hr] at hc
 dsimp only [bagg,xbat] at hc
 have HC := hZ0 hc;have HK0 := hZ0 hk0
 clear hk0 hn0 hc hr hs hcap
 go_enter Try.func42,Try.ntmps42
 go_wp2_with fail
 refine HC.out.mono ?_
 rintro e w3 ⟨rfl,hk⟩
 have HK := hZ0 (HK0.out.then hk);clear hk
 go_wp2
 go_ret
 exact ⟨rfl,HK.out⟩
structure Sends (w : World) (x : MsgR) : Prop where
 k : x.k = 5 \/ x.k = 8 \/ x.k = 9 \/ x.k = 11 \/ x.k = 12 \/ x.k = 13 \/ x.k = 15
 e : 0 <= x.ep /\ x.ep <= 1073741824
 r : 0 <= x.req /\ x.req <= 1073741824
 n : 0 <= x.n /\ x.n <= 1073741824
 key : x.key.size <= 8
 to : x.to.size <= 8
 s : Src w 3 x.oA x.ops.length (cells x.ops)
 c : x.ops.length <= x.oc
 b : x.k = 5 -> Ops.chk (xbat x) = 0
theorem rwrong_any (h : Sends w x) {c : Nat} (hc : c ∈ letS) (h5 : c = 66 -> x.k = 5) : Calls Try.prog 42 #[xagg x,.int .u8 c] w fun e w' => e = .returned (.int .i64 0) /\ Kept NoF w w' := by
 unfold letS at hc
 simp only [List.mem_cons,List.not_mem_nil,or_false] at hc
 rcases hc with rfl | rfl | rfl | rfl | rfl | rfl | rfl
 ·exact rwrong_101 w x h.e
 ·exact rwrong_114 w x h.r
 ·exact rwrong_110 w x h.n
 ·exact rwrong_107 w x h.key
 ·exact rwrong_116 w x h.to
 ·exact rwrong_97 w x
 ·exact rwrong_66 w x h.s h.c (h.b (h5 rfl))
theorem rparts_any {k : Int} (h : k = 5 \/ k = 8 \/ k = 9 \/ k = 11 \/ k = 12 \/ k = 13 \/ k = 15) : Calls Try.prog 41 #[.int .i64 k] w fun e w' => e = .returned (.string (lets (partsOf k))) /\ Kept NoF w w' := by
 rcases h with rfl | rfl | rfl | rfl | rfl | rfl | rfl
 all_goals
  go_enter Try.func41,Try.ntmps41
  go_wp2
  go_ret
  exact ⟨rfl,by (repeat' (first | (with_reducible first | exact kR0 | apply kP0 | apply kN0 | apply kD0 | apply kA0) | (right;simp;done)))⟩
theorem rlets_size (l : List Nat) : (lets l).size = l.length := by unfold lets byt;rw [<- size_bl,bl_ofL,List.length_map]
theorem rlets_at {l : List Nat} (hl : ∀ c ∈ l,c < 256) {i c : Nat} (h : l[i]? = some c) : ∃ hi : i < (lets l).size,((lets l)[i]'hi).toNat = c := by
 have hi : i < l.length := (List.getElem?_eq_some_iff.1 h).1
 have hs : i < (lets l).size := by rw [rlets_size];exact hi
 refine ⟨hs,?_⟩
 have h1 : (lets l)[i]'hs = (byt l)[i]'(by unfold byt;rw [List.length_map];exact hi) := by
  unfold lets ofL
  rfl
 rw [h1]
 obtain ⟨_,e⟩ := List.getElem?_eq_some_iff.1 h
 have := hl c (List.mem_of_getElem? h)
 simp only [byt,List.getElem_map,e]
 exact UInt8.toNat_ofNat_of_lt this
end
theorem rparts_in {k : Int} (h : k = 5 \/ k = 8 \/ k = 9 \/ k = 11 \/ k = 12 \/ k = 13 \/ k = 15) : ∀ c ∈ partsOf k,c ∈ letS /\ (c = 66 -> k = 5) := by
 rcases h with rfl | rfl | rfl | rfl | rfl | rfl | rfl <;> decide
theorem Sends.kept {w w' : World} {x : MsgR} (h : Sends w x) (hk : Kept NoF w w') : Sends w' x := ⟨h.k,h.e,h.r,h.n,h.key,h.to,h.s.kept hk (fun _ _ z => z),h.c,h.b⟩
theorem lets_q {k : Int} (h : k = 5 \/ k = 8 \/ k = 9 \/ k = 11 \/ k = 12 \/ k = 13 \/ k = 15) : ((lets (partsOf k)).toList == [63]) = false := by
 have e : (lets (partsOf k)).toList = byt (partsOf k) := by
  rw [Lib.toList_data]
  exact bl_ofL _
 rw [e]
 rcases h with rfl | rfl | rfl | rfl | rfl | rfl | rfl <;> decide
attribute [local go_sem] run_loadMsg
theorem rcheckM_any (w : World) (x : MsgR) (h : Sends w x) : Calls Try.prog 22 #[xagg x] w fun e w' => e = .returned (.int .i64 0) /\ Kept NoF w w' := by
 obtain ⟨W0,hW0⟩ : ∃ W0,w.alloc (.cells (xcell x).toArray 34) = W0 := ⟨_,rfl⟩
 have hk0 : Kept NoF w W0 := by rw [<- hW0];(repeat' (first | (with_reducible first | exact kR0 | apply kP0 | apply kN0 | apply kD0 | apply kA0) | (right;simp;done)))
 have hn0 : Has W0 w.heap.size 34 (xcell x).toArray := by rw [<- hW0];exact Has.new _ _ _
 have q : W0.cell? ⟨w.heap.size,0,none⟩ = some (.int .i64 x.k) := hn0.cell 0
 have hp := rparts_any W0 h.k
 have hin := rparts_in h.k
 have hq := lets_q h.k
 obtain ⟨l,hl⟩ : ∃ l,partsOf x.k = l := ⟨_,rfl⟩
 rw [hl] at hp hin hq
 have hcall : ∀ W,Kept NoF W0 W -> ∀ c ∈ l,Calls Try.prog 42 #[xagg x,.int .u8 c] W fun e w' => e = .returned (.int .i64 0) /\ Kept NoF W w' := fun W hW c hc => rwrong_any W x (h.kept (hk0.then hW)) (hin c hc).1 (hin c hc).2
 have hsm : ∀ c ∈ l,c < 256 := fun c hc => by
  have := (hin c hc).1
  unfold letS at this
  simp only [List.mem_cons,List.not_mem_nil,or_false] at this
  omega
 have hsz := rlets_size l
 have hll : l.length <= 7 := by rw [<- hl];exact parts_len _
 obtain ⟨p,hp0⟩ : ∃ p,lets l = p := ⟨_,rfl⟩
 have hix : ∀ (i c : Nat),l[i]? = some c -> ∀ W,(Instr.index 9 (.string p) (.int .i64 i)).run Try.prog W = .ok (.int .u8 c) W := fun i c hc W => by
  obtain ⟨hi,e⟩ := rlets_at hsm hc
  rw [<- hp0,run_index_string W 9 (lets l) .i64 i (by rfl),dif_pos ⟨by omega,by omega⟩]
  simp only [Int.toNat_natCast,e]
 rw [hp0] at hp hsz hq
 have HP := hZ0 hp;have HC := hZ0 hcall;have HIX := hZ0 hix;have HK0 := hZ0 hk0;have HN0 := hZ0 hn0;have HSZ := hZ0 hsz
 obtain ⟨cs,hcs⟩ : ∃ cs,(xcell x).toArray = cs := ⟨_,rfl⟩
 have HN0' := HN0
 unfold xagg at HC ⊢
 rw [hcs] at hW0 HC HN0 ⊢
 have HCS := hZ0 hcs
 clear hcs
 clear hp hcall hix hk0 hn0 hin hsm hl h hp0 hsz
 go_enter Try.func22,Try.ntmps22
 go_wp2_with fail
 clear hW0
 refine HP.out.mono ?_
 rintro e w2 ⟨rfl,hk⟩
 have HK2 := hZ0 hk;clear hk q
 go_wp2_with fail
 go_loopw [4] (fun v4 wr => ∃ i : Nat,i <= l.length /\ v4 = .int .i64 i /\ Kept NoF W0 wr) (fun v4 _ => l.length - (intOf v4).toNat)
 case atStart => exact ⟨0,Nat.zero_le _,rfl,by (repeat' (first | (with_reducible first | exact kR0 | apply kP0 | apply kN0 | apply kD0 | apply kA0) | (exact HK2.out) | (right;simp;done)))⟩
 case round =>
  obtain ⟨i,hi,rfl,hk⟩ := hrel
  have HK := hZ0 hk;clear hk
  have hsz := HSZ.out
  by_cases hil : i < l.length
  ·obtain ⟨c,hc⟩ : ∃ c,l[i]? = some c := ⟨_,List.getElem?_eq_getElem hil⟩
   have g1 : (i : Int) < (p.size : Int) := by omega
   have hix := HIX.out i c hc
   have hcc := HC.out wr.drew HK.out.drew c (List.mem_of_getElem? hc)
   obtain ⟨u1,u2⟩ := msgIn_has (HN0'.out.kept HK.out.drew (fun z => z))
   obtain ⟨v1,v2⟩ := msgIn_has (HN0'.out.kept HK.out (fun z => z))
   rw [HCS.out] at u2 v2
   have HCC := hZ0 hcc;have HIX1 := hZ0 hix
   clear hc hcc hsz
   go_wp2
   go_region_held3 (fun W => MsgIn W ⟨w.heap.size,0,none⟩ /\ msgAt W ⟨w.heap.size,0,none⟩ = cs) (first | with_reducible exact ⟨u1,u2⟩ | with_reducible exact ⟨v1,v2⟩ | with_reducible exact hix _ | exact ⟨u1,u2⟩)
    (first | (go_at_call 42;refine HCC.out.mono ?_;rintro e w5 ⟨rfl,hk5⟩;obtain ⟨u1,u2⟩ := msgIn_has (HN0'.out.kept (HK.out.drew.then hk5) (fun z => z));rw [HCS.out] at u2;have HK5 := hZ0 hk5;clear hk5))
   all_goals
    go_wp2
    go_roundw
    case rel => exact ⟨i + 1,by omega,by go_num,HK.out.drew.then HK5.out⟩
    case measure => simp [intOf];omega
  ·have hie : i = l.length := by omega
   have g1 : ¬ (i : Int) < (p.size : Int) := by omega
   clear hsz
   go_wp2
   go_ret
   exact ⟨rfl,HK0.out.then HK.out⟩
end Ask
end Go.Proofs.Ytobfdolhgnoedaa
