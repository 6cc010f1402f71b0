/- Part 29 of what the proof needs. -/
import Derived.Test.YtgffjliedjhbaaaGreatZS02
import Derived.Test.YtgffjliedjhbaaaGreatZS03
import Derived.Test.YtgffjliedjhbaaaGreatZS08
import Derived.Deep.RegionLaw
import Derived.Deep.QuietTactic
import Derived.Deep.RegionHeld3
set_option linter.unusedSimpArgs false
set_option linter.unusedVariables false
set_option maxHeartbeats 32000000
set_option maxRecDepth 100000
namespace Go.Proofs.YtgffjliedjhbaaaGreat
open Go.RowKit
set_option maxRecDepth 100000
namespace Msg
open Plan Ops Ent Vn
structure MsgR where
 k : Int
 ep : Int
 req : Int
 ser : Int
 fl : Bool
 at' : Int
 last : Int
 n : Int
 m : Int
 p : Int
 e : Int
 key : ByteArray
 to : ByteArray
 cep : Int
 mA : Option Addr
 mc : Nat
 ms : List Mem
 cfl : Int
 bcl : Int
 breq : Int
 oA : Option Addr
 oc : Nat
 ops : List OpR
 eA : Option Addr
 ec : Nat
 es : List EntR
 sA : Option Addr
 sc : Nat
 ss : List Int
 pA : Option Addr
 pc : Nat
 ps : List PairR
def u64s (l : List Int) : List Value := l.map (Value.int .u64)
structure XOk (w : World) (x : MsgR) : Prop where
 m : Src w 2 x.mA x.ms.length (mcells x.ms)
 mc : x.ms.length <= x.mc
 ml : x.ms.length <= 1000
 o : Src w 3 x.oA x.ops.length (cells x.ops)
 e : Src w 4 x.eA x.es.length (ecells x.es)
 eo : ∀ y ∈ x.es,Src w 3 y.A y.ops.length (cells y.ops) /\ 0 <= y.ts /\ y.ts <= maxTs
 el : x.es.length <= 1000
 s : Src w 1 x.sA x.ss.length (u64s x.ss)
 sl : x.ss.length <= 1000
 so : ∀ y ∈ x.ss,0 <= y /\ y <= maxTs
 p : Src w 2 x.pA x.ps.length (pcells x.ps)
 pl : x.ps.length <= 1000
 t : (0 <= x.at' /\ x.at' <= maxTs) /\ (0 <= x.last /\ x.last <= maxTs) /\ (0 <= x.cfl /\ x.cfl <= maxTs)
theorem XOk.kept {w w' : World} {x : MsgR} (h : XOk w x) (hk : Kept NoF w w') : XOk w' x :=
 ⟨h.m.kept hk (fun _ _ z => z),h.mc,h.ml,h.o.kept hk (fun _ _ z => z),h.e.kept hk (fun _ _ z => z),fun y hy => ⟨(h.eo y hy).1.kept hk (fun _ _ z => z),(h.eo y hy).2⟩,h.el,h.s.kept hk (fun _ _ z => z),h.sl,h.so,h.p.kept hk (fun _ _ z => z),h.pl,h.t⟩
def numAt (c : Nat) : Nat := if c = 101 then 1 else if c = 115 then 3 else if c = 114 then 2 else if c = 110 then 7 else if c = 109 then 8 else 9
def putC (ep : Int) (ms : List Mem) (fl : Int) : List UInt8 := put ep.toNat ++ put ms.length ++ (ms.flatMap fun m => put m.1.toNat ++ put m.2.toNat) ++ put fl.toNat
def confR (ep : Int) (ms : List Mem) (fl : Int) : ByteArray := if Plan.chk ep ms = 0 then ofL (putC ep ms fl) else emp
def batR (b : Batch) : ByteArray := if Ops.chk b = 0 then ofL (putB b) else emp
def putE (e : EntR) : List UInt8 := put e.ts.toNat ++ putT (ofL (putB (bat e)))
def entR (e : EntR) : ByteArray := if Ops.chk (bat e) = 0 then ofL (putE e) else emp
theorem putN_len {n : Nat} (h : n <= 18446744073709551615) : (put n).length <= 9 := put_le (by omega)
theorem putT_len {s : ByteArray} {m : Nat} (h : s.size <= m) (hm : m <= 18446744073709551615) : (putT s).length <= 9 + m := by
 have := putN_len (n := s.size) (by omega)
 unfold putT
 rw [List.length_append,size_bl]
 omega
theorem flatLen {α β : Type} (f : α -> List β) (l : List α) (M : Nat) (h : ∀ a ∈ l,(f a).length <= M) : (l.flatMap f).length <= l.length * M := by
 induction l with
 | nil => simp
 | cons a l ih =>
  rw [List.flatMap_cons,List.length_append,List.length_cons]
  have h1 := h a (List.mem_cons_self ..)
  have h2 := ih fun b hb => h b (List.mem_cons_of_mem _ hb)
  rw [Nat.succ_mul]
  omega
theorem putC_len {ep : Int} {ms : List Mem} {fl : Int} (h : Plan.chk ep ms = 0) (hf : 0 <= fl /\ fl <= maxTs) : (putC ep ms fl).length <= 99 := by
 obtain ⟨h1,_,h2,h3⟩ := chk_zero h
 have a1 := putN_len (n := ep.toNat) (by omega)
 have a2 := putN_len (n := ms.length) (by omega)
 have a3 := putN_len (n := fl.toNat) (by unfold maxTs at hf;omega)
 have a4 := flatLen (fun m : Mem => put m.1.toNat ++ put m.2.toNat) ms 18 (fun m hm => by
  have b1 := h3.id m hm
  have b2 := h3.ser m hm
  have c1 := putN_len (n := m.1.toNat) (by omega)
  have c2 := putN_len (n := m.2.toNat) (by omega)
  rw [List.length_append];omega)
 unfold putC
 rw [List.length_append,List.length_append,List.length_append]
 omega
theorem confR_len {ep : Int} {ms : List Mem} {fl : Int} (hf : 0 <= fl /\ fl <= maxTs) : (confR ep ms fl).size <= 99 := by
 unfold confR
 split
 ·rename_i h
  have := putC_len h hf
  rw [<- size_bl,bl_ofL];exact this
 ·decide
theorem putB_len {b : Batch} (h : Ops.chk b = 0) : (putB b).length <= 103 := by
 obtain ⟨h1,h2,h3,h4,h5,h6⟩ := chk_ok h
 have hk := chkL_ok h6
 have a1 := putN_len (n := b.cl.toNat) (by omega)
 have a2 := putN_len (n := b.req.toNat) (by omega)
 have a3 := putN_len (n := b.ops.length) (by omega)
 have a4 := flat_len b.ops (fun o ho => putO_len (hk o ho).2.1 (hk o ho).2.2.1)
 unfold putB
 rw [List.length_append,List.length_append,List.length_append]
 omega
theorem batR_len (b : Batch) : (batR b).size <= 103 := by
 unfold batR
 split
 ·rename_i h
  have := putB_len h
  rw [<- size_bl,bl_ofL];exact this
 ·decide
theorem entR_len {e : EntR} (h : 0 <= e.ts /\ e.ts <= maxTs) : (entR e).size <= 121 := by
 unfold entR
 split
 ·rename_i h0
  have a1 := putB_len h0
  have a2 := putT_len (s := ofL (putB (bat e))) (m := 103) (by rw [<- size_bl,bl_ofL];exact a1) (by omega)
  have a3 := putN_len (n := e.ts.toNat) (by unfold maxTs at h;omega)
  rw [<- size_bl,bl_ofL]
  unfold putE
  rw [List.length_append]
  omega
 ·decide
end Msg
end Go.Proofs.YtgffjliedjhbaaaGreat
namespace Go.Proofs.YtgffjliedjhbaaaGreat
open Go.RowKit Go.Shelf
set_option maxRecDepth 100000
namespace Wire
open Vn Ops
abbrev KB := Nat × TypeId × Array Value
def WS (N : Nat) (w : World) (g : Nat) (bs : List UInt8) (keep : List KB) : Prop :=
 N <= w.heap.size /\ ∃ F,WrAt w g F bs /\ (∀ k,F k -> N <= k) /\ ∀ x ∈ keep,¬ F x.1 /\ Has w x.1 x.2.1 x.2.2
section
variable {N g : Nat} {w w' : World} {bs : List UInt8} {keep : List KB}
theorem WS.alloc (h : WS N w g bs keep) (o : Obj) : WS N (w.alloc o) g bs keep := by
 obtain ⟨h0,F,h1,h2,h3⟩ := h
 exact ⟨by simp;omega,F,h1.kept ((Kept.refl NoF w).alloc o) (sep_no F),h2,fun x hx => ⟨(h3 x hx).1,(h3 x hx).2.alloc o⟩⟩
theorem WS.add (h : WS N w g bs keep) (t : TypeId) (cs : Array Value) : WS N (w.alloc (.cells cs t)) g bs ((w.heap.size,t,cs) :: keep) := by
 obtain ⟨h0,F,h1,h2,h3⟩ := h
 refine ⟨by simp;omega,F,h1.kept ((Kept.refl NoF w).alloc _) (sep_no F),h2,fun x hx => ?_⟩
 rcases List.mem_cons.1 hx with rfl | hx
 ·exact ⟨fun hF => by have := h1.lt _ hF;simp at this,Has.new w t cs⟩
 ·exact ⟨(h3 x hx).1,(h3 x hx).2.alloc _⟩
theorem WS.tail {x : KB} (h : WS N w g bs (x :: keep)) : WS N w g bs keep := by
 obtain ⟨h0,F,h1,h2,h3⟩ := h
 exact ⟨h0,F,h1,h2,fun y hy => h3 y (List.mem_cons_of_mem _ hy)⟩
theorem WS.tail2 {x y : KB} (h : WS N w g bs (x :: y :: keep)) : WS N w g bs (y :: keep) := h.tail
theorem WS.has {x : KB} (h : WS N w g bs keep) (hx : x ∈ keep) : Has w x.1 x.2.1 x.2.2 := by
 obtain ⟨h0,F,h1,h2,h3⟩ := h
 exact (h3 x hx).2
theorem WS.kept {G : Nat -> Prop} (h : WS N w g bs keep) (hk : Kept NoF w w') : WS N w' g bs keep := by
 obtain ⟨h0,F,h1,h2,h3⟩ := h
 exact ⟨Nat.le_trans h0 hk.size,F,h1.kept hk (sep_no F),h2,fun x hx => ⟨(h3 x hx).1,(h3 x hx).2.kept hk (fun y => y)⟩⟩
def WPost (N : Nat) (w : World) (g : Nat) (bs : List UInt8) (keep : List KB) (e : Ending) (w' : World) : Prop := e = .returned (.pointer (some ⟨g,0,none⟩)) /\ WS N w' g bs keep /\ Below N w w'
theorem WS.step {f : FuncId} {args : Array Value} {bs' : List UInt8} (h : WS N w g bs keep)
  (hc : ∀ F,WrAt w g F bs -> Calls Tryz.prog f args w (Wrote w g F bs')) : Calls Tryz.prog f args w (WPost N w g bs' keep) := by
 obtain ⟨h0,F,h1,h2,h3⟩ := h
 refine (hc F h1).mono ?_
 rintro e w' ⟨he,F',g1,g2,g3⟩
 refine ⟨he,⟨Nat.le_trans h0 g3.size,F',g1,fun k hk => ?_,fun x hx => ⟨fun hF => ?_,(h3 x hx).2.kept g3 (h3 x hx).1⟩⟩,g3.below h0 h2⟩
 ·rcases g2 k hk with y | y
  ·exact h2 k y
  ·omega
 ·rcases g2 x.1 hF with y | y
  ·exact (h3 x hx).1 y
  ·have := (h3 x hx).2.lt;omega
theorem num_s (h : WS N w g bs keep) (n : Nat) (hn : n <= 9223372036854775807) (hlen : bs.length + 9 <= 140737488355328) :
  Calls Tryz.prog 152 #[.pointer (some ⟨g,0,none⟩),.int .i64 n] w (WPost N w g (bs ++ put n) keep) := h.step fun F hF => wnum_any w g F bs n hn hF hlen
theorem big_s (h : WS N w g bs keep) (n : Nat) (hn : n < 18446744073709551616) (hlen : bs.length + 9 <= 140737488355328) :
  Calls Tryz.prog 156 #[.pointer (some ⟨g,0,none⟩),.int .u64 n] w (WPost N w g (bs ++ put n) keep) := h.step fun F hF => wbig_any w g F bs n hn hF hlen
theorem text_s (h : WS N w g bs keep) (s : ByteArray) (hlen : bs.length + 9 + s.size <= 140737488355328) :
  Calls Tryz.prog 154 #[.pointer (some ⟨g,0,none⟩),.string s] w (WPost N w g (bs ++ putT s) keep) := h.step fun F hF => wtext_any w g F bs s hF hlen
theorem flag_s (h : WS N w g bs keep) (b : Bool) (hlen : bs.length + 9 <= 140737488355328) :
  Calls Tryz.prog 244 #[.pointer (some ⟨g,0,none⟩),.bool b] w (WPost N w g (bs ++ putF b) keep) := h.step fun F hF => wflag_any w g F bs b hF (by omega)
theorem new_s (w : World) (keep : List KB) (hk : ∀ x ∈ keep,Has w x.1 x.2.1 x.2.2) :
  Calls Tryz.prog 151 #[] w fun e w' => ∃ g,e = .returned (.pointer (some ⟨g,0,none⟩)) /\ WS w.heap.size w' g [] keep /\ Kept NoF w w' := by
 refine (wnew_any w).mono ?_
 rintro e w' ⟨he,h1,h2⟩
 exact ⟨w.heap.size,he,⟨h2.size,_,h1,fun k hk => by rw [hk];exact Nat.le_refl _,fun x hx => ⟨fun e => by have := (hk x hx).lt;omega,(hk x hx).kept h2 (fun y => y)⟩⟩,h2⟩
theorem done_s (h : WS N w g bs keep) (h0 : bs ≠ []) :
  Calls Tryz.prog 157 #[.pointer (some ⟨g,0,none⟩)] w fun e w' => e = .returned (.tuple #[.string (ofL bs),.int .i64 0]) /\ Below N w w' := by
 obtain ⟨hN,F,h1,h2,h3⟩ := h
 refine (done_any w g F bs h1 h0).mono ?_
 rintro e w' ⟨he,hk⟩
 exact ⟨he,hk.below hN h2⟩
theorem behind {a b : World} (h : Kept NoF w a) (hb : Below N a b) (hN : w.heap.size <= N) : Kept NoF w b :=
 h.trans (G := fun k => N <= k) (Kept.of_below hb fun k _ hf => by omega) fun i hi => .inr (by omega)
end
end Wire
namespace Ops
open Vn Wire
def putR (b : Batch) : ByteArray := if chk b = 0 then ofL (putB b) else emp
theorem oput_any (w : World) (b : Batch) (A : Option Addr) (c : Nat) (hs : Src w 3 A b.ops.length (cells b.ops)) :
  Calls Tryz.prog 208 #[bagg b A c] w fun e w' => e = .returned (.tuple #[.string (putR b),.int .i64 (chk b)]) /\ Kept NoF w w' := by
 have hchk := fun W (hW : Kept NoF w W) => ocheck_any W b A c (hs.kept hW (fun _ _ x => x))
 have HCHK := hZ0 hchk;clear hchk
 have HS := hZ0 hs;clear hs
 by_cases hz : chk b = 0
 rotate_left
 ·have hr : putR b = emp := by unfold putR;rw [if_neg hz]
  rw [hr]
  obtain ⟨x,hx⟩ : ∃ x,chk b = x := ⟨_,rfl⟩
  rw [hx] at hz HCHK ⊢
  have hz2 : (x != 0) = true := by simpa using hz
  clear hx hr hz
  go_enter Tryz.func208,Tryz.ntmps208
  go_wp2_with fail
  refine (HCHK.out _ (by (repeat' (first | (with_reducible first | exact kR0 | apply kP0 | apply kN0 | apply kD0 | apply kA0) | (right;simp;done))))).mono ?_
  rintro e w2 ⟨rfl,hk⟩
  have hk2 := Kept.then (a := w) (by (repeat' (first | (with_reducible first | exact kR0 | apply kP0 | apply kN0 | apply kD0 | apply kA0) | (right;simp;done)))) hk
  have HK2 := hZ0 hk2;clear hk2 hk
  go_wp2
  go_ret2
  exact ⟨rfl,HK2.out⟩
 have hr : putR b = ofL (putB b) := by unfold putR;rw [if_pos hz]
 rw [hr,hz]
 rw [hz] at HCHK
 obtain ⟨k1,k2,k3,k4,k5,k6⟩ := chk_ok hz
 have hok := chkL_ok k6
 obtain ⟨cl,req,l⟩ := b
 dsimp only at k1 k2 k3 k4 k5 k6 hok HS
 obtain ⟨cn,rfl⟩ : ∃ cn : Nat,cl = cn := ⟨cl.toNat,by omega⟩
 obtain ⟨rn,rfl⟩ : ∃ rn : Nat,req = rn := ⟨req.toNat,by omega⟩
 have hpb : putB ⟨cn,rn,l⟩ = put cn ++ put rn ++ put l.length ++ l.flatMap putO := rfl
 rw [hpb]
 have HOK := hZ0 hok;clear hok k6 hz hr hpb
 have HB0 := hZ0 (Has.new w 70 #[.int .i64 cn,.int .i64 rn,.slice A l.length c])
 go_enter Tryz.func208,Tryz.ntmps208
 go_wp2_with fail
 refine (HCHK.out _ (by (repeat' (first | (with_reducible first | exact kR0 | apply kP0 | apply kN0 | apply kD0 | apply kA0) | (right;simp;done))))).mono ?_
 rintro e w2 ⟨rfl,hk⟩
 have hb2 := Has.kept (F := NoF) HB0.out hk (fun x => x)
 have hk2 := Kept.then (a := w) (by (repeat' (first | (with_reducible first | exact kR0 | apply kP0 | apply kN0 | apply kD0 | apply kA0) | (right;simp;done)))) hk
 have c0 : w2.cell? ⟨w.heap.size,0,none⟩ = some (.int .i64 cn) := hb2.cell 0
 have c1 : w2.cell? ⟨w.heap.size,1,none⟩ = some (.int .i64 rn) := hb2.cell 1
 have c2 : w2.cell? ⟨w.heap.size,2,none⟩ = some (.slice A l.length c) := hb2.cell 2
 have HB2 := hZ0 hb2;clear hb2
 have HK2 := hZ0 hk2;clear hk2 hk
 have hN : ∀ n,(w2.drewN n).heap.size = w2.heap.size := fun n => rfl
 have hnew : ∀ W,Has W w.heap.size 70 #[.int .i64 cn,.int .i64 rn,.slice A l.length c] -> Calls Tryz.prog 151 #[] W fun e w' => ∃ g,e = .returned (.pointer (some ⟨g,0,none⟩)) /\ WS W.heap.size w' g [] [(w.heap.size,70,#[.int .i64 cn,.int .i64 rn,.slice A l.length c])] /\ Kept NoF W w' :=
  fun W hW => new_s W _ (fun x hx => by simp at hx;subst hx;exact hW)
 have HNEW := hZ0 hnew;clear hnew
 have hss : ∀ W,Has W w.heap.size 70 #[.int .i64 cn,.int .i64 rn,.slice A l.length c] -> (W.cell? ⟨w.heap.size,0,none⟩ = some (.int .i64 cn) /\ W.cell? ⟨w.heap.size,1,none⟩ = some (.int .i64 rn) /\ W.cell? ⟨w.heap.size,2,none⟩ = some (.slice A l.length c)) := fun W hW => ⟨hW.cell 0,hW.cell 1,hW.cell 2⟩
 have HSS := hZ0 hss;clear hss
 have p1 := put_le (n := cn) (by omega)
 have p2 := put_le (n := rn) (by omega)
 have p3 := put_le (n := l.length) (by omega)
 have HP := hZ0 (And.intro p1 (And.intro p2 p3));clear p1 p2 p3
 have HQ := hZ0 (And.intro k1 (And.intro k2 (And.intro k3 (And.intro k4 k5))));clear k1 k2 k3 k4
 go_wp2_with fail
 go_region_held3 (fun W => W.cell? ⟨w.heap.size,0,none⟩ = some (.int .i64 cn) /\ W.cell? ⟨w.heap.size,1,none⟩ = some (.int .i64 rn) /\ W.cell? ⟨w.heap.size,2,none⟩ = some (.slice A l.length c)) (first | with_reducible exact q6 | with_reducible exact q5 | with_reducible exact q4 | with_reducible exact q3 | with_reducible exact ⟨c0,c1,c2⟩ | (simp [go_sem,c0,c1,c2];done))
  (first
   | (go_at_call 151;refine (HNEW.out _ (by exact HB2.out)).mono ?_;rintro e w3 ⟨g,rfl,hw3,hkk3⟩;have q3 := HSS.out _ (hw3.has (List.mem_singleton.2 rfl));have HW3 := hZ0 hw3;have HKK3 := hZ0 hkk3;clear hw3 hkk3)
   | (have hx := HW5;clear hx;go_at_call 152;refine (num_s (by exact HW5.out) l.length (by have := HQ.out;omega) (by have := HP.out;simp;omega)).mono ?_;rintro e w6 ⟨rfl,hw6,hb6⟩;have q6 := HSS.out _ (hw6.has (List.mem_singleton.2 rfl));have HW6 := hZ0 hw6;have HB6 := hZ0 hb6;clear hw6 hb6)
   | (have hx := HW4;clear hx;go_at_call 152;refine (num_s (by exact HW4.out) rn (by have := HQ.out;omega) (by have := HP.out;simp;omega)).mono ?_;rintro e w5 ⟨rfl,hw5,hb5⟩;have q5 := HSS.out _ (hw5.has (List.mem_singleton.2 rfl));have HW5 := hZ0 hw5;have HB5 := hZ0 hb5;clear hw5 hb5)
   | (have hx := HW3;clear hx;go_at_call 152;refine (num_s (by exact HW3.out) cn (by have := HQ.out;omega) (by simp)).mono ?_;rintro e w4 ⟨rfl,hw4,hb4⟩;have q4 := HSS.out _ (hw4.has (List.mem_singleton.2 rfl));have HW4 := hZ0 hw4;have HB4 := hZ0 hb4;clear hw4 hb4))
 have hk3 : Kept NoF w w3 := Kept.then (by (repeat' (first | (with_reducible first | exact kR0 | apply kP0 | apply kN0 | apply kD0 | apply kA0) | (with_reducible exact HK2.out) | (right;simp;done)))) HKK3.out
 have hle : w.heap.size <= w2.heap.size := HK2.out.size
 have hk6 : Kept NoF w w6 := behind (behind (behind hk3 HB4.out hle) HB5.out hle) HB6.out hle
 have hw6 := HW6.out
 simp only [List.nil_append] at hw6
 clear q3 q4 q5 HW3 HW4 HW5 HW6 HB4 HB5 HB6 HK2 HKK3 c0 c1 c2 hk3 HNEW HCHK HB0 HB2
 obtain ⟨hdr,hhdr⟩ : ∃ hdr,put cn ++ put rn ++ put l.length = hdr := ⟨_,rfl⟩
 rw [hhdr] at hw6
 have hdl : hdr.length <= 27 := by
  rw [<- hhdr]
  have := HP.out
  simp only [List.length_append]
  omega
 have hdp : hdr ≠ [] := by
  rw [<- hhdr]
  have h1 := put_pos cn
  intro e
  have := congrArg List.length e
  simp only [List.length_append,List.length_nil] at this
  omega
 have HHDR := hZ0 (And.intro hhdr (And.intro hdl hdp));clear hhdr hdl hdp HP
 have HW6 := hZ0 hw6;clear hw6
 have HK6 := hZ0 hk6;clear hk6
 obtain ⟨u0,u1,u2⟩ := q6
 go_wp2
 go_loopw [27] (fun v27 wr => ∃ i : Nat,i <= l.length /\ v27 = .int .i64 i /\ WS w2.heap.size wr g (hdr ++ (l.take i).flatMap putO) [(w.heap.size,70,#[.int .i64 cn,.int .i64 rn,.slice A l.length c])] /\ Kept NoF w wr) (fun v27 _ => l.length - (intOf v27).toNat)
 case atStart => exact ⟨0,Nat.zero_le _,rfl,by simpa using HW6.out,HK6.out⟩
 case round =>
  obtain ⟨i,hi,rfl,hws,hk⟩ := hrel
  have HK := hZ0 hk;clear hk
  have hcs := HSS.out _ (hws.has (List.mem_singleton.2 rfl))
  obtain ⟨b0,b1,b2⟩ := hcs
  by_cases hil : i < l.length
  ·obtain ⟨o,ho⟩ : ∃ o,l[i]? = some o := ⟨_,List.getElem?_eq_getElem hil⟩
   have hoi : l[i] = o := by rw [List.getElem?_eq_getElem hil] at ho;exact Option.some.inj ho
   obtain ⟨ad,rfl,had,e0,e1,e2⟩ := op_cells (HS.out.kept HK.out (fun _ _ x => x)) (by omega) i o ho
   have hflat := flat_succ putO l i hil
   rw [hoi] at hflat
   have hOK : ∀ x ∈ l.take (i + 1),(putO x).length <= 19 := fun x hx => putO_len (HOK.out x (List.mem_of_mem_take hx)).2.1 (HOK.out x (List.mem_of_mem_take hx)).2.2.1
   have hfl := flat_len _ hOK
   rw [hflat,List.length_append] at hfl
   have hob := HOK.out o (by rw [<- hoi];exact List.getElem_mem hil)
   have hmin : (l.take (i + 1)).length <= 4 := by rw [List.length_take];omega
   have hLB : (hdr ++ (l.take i).flatMap putO).length <= 200 := by rw [List.length_append];have := HHDR.out.2.1;omega
   obtain ⟨cur,hcur⟩ : ∃ cur,hdr ++ (l.take i).flatMap putO = cur := ⟨_,rfl⟩
   rw [hcur] at hws hLB
   have hnext : hdr ++ (l.take (i + 1)).flatMap putO = ((cur ++ putT o.key) ++ putF o.del) ++ putT o.val := by
    rw [hflat,<- List.append_assoc,hcur]
    unfold putO
    simp only [List.append_assoc]
   have HNX := hZ0 hnext;clear hnext hflat hfl hOK hcur hmin ho hoi
   have HLB := hZ0 hLB;clear hLB
   have HOB := hZ0 hob;clear hob
   have pt1 : (putT o.key).length <= 17 := by
    have h1 := put_le (n := o.key.size) (by have := HOB.out;omega)
    unfold putT;rw [List.length_append,size_bl];have := HOB.out;omega
   have HPT := hZ0 pt1;clear pt1
   have hw0 := hws.add 196 #[.string o.key,.string o.val,.bool o.del]
   have HW0 := hZ0 hw0;clear hw0 hws
   have hos : ∀ W bs,WS w2.heap.size W g bs [(wr.heap.size,196,#[.string o.key,.string o.val,.bool o.del]),(w.heap.size,70,#[.int .i64 cn,.int .i64 rn,.slice (some ad) l.length c])] -> (W.cell? ⟨wr.heap.size,0,none⟩ = some (.string o.key) /\ W.cell? ⟨wr.heap.size,1,none⟩ = some (.string o.val) /\ W.cell? ⟨wr.heap.size,2,none⟩ = some (.bool o.del)) :=
    fun W bs hW => ⟨(hW.has (List.mem_cons_self ..)).cell 0,(hW.has (List.mem_cons_self ..)).cell 1,(hW.has (List.mem_cons_self ..)).cell 2⟩
   have HOS := hZ0 hos;clear hos
   have r0 := HOS.out _ _ HW0.out
   go_wp2_with fail
   go_region_held3 (fun W => W.cell? ⟨wr.heap.size,0,none⟩ = some (.string o.key) /\ W.cell? ⟨wr.heap.size,1,none⟩ = some (.string o.val) /\ W.cell? ⟨wr.heap.size,2,none⟩ = some (.bool o.del)) (first | with_reducible exact r3 | with_reducible exact r2 | with_reducible exact r1 | with_reducible exact r0 | (simp [go_sem,r0];done))
    (first
     | (have hx := HV2;clear hx;go_at_call 154;refine (text_s (by exact HV2.out) o.val (by have := HLB.out;have := HOB.out;have := HPT.out;simp [putF];omega)).mono ?_;rintro e w5 ⟨rfl,hv3,hd3⟩;have r3 := HOS.out _ _ hv3;have HV3 := hZ0 hv3;have HD3 := hZ0 hd3;clear hv3 hd3)
     | (have hx := HV1;clear hx;go_at_call 244;refine (flag_s (by exact HV1.out) o.del (by have := HLB.out;have := HOB.out;have := HPT.out;simp;omega)).mono ?_;rintro e w4 ⟨rfl,hv2,hd2⟩;have r2 := HOS.out _ _ hv2;have HV2 := hZ0 hv2;have HD2 := hZ0 hd2;clear hv2 hd2)
     | (go_at_call 154;refine (text_s (by exact HW0.out) o.key (by have := HLB.out;have := HOB.out;omega)).mono ?_;rintro e w3 ⟨rfl,hv1,hd1⟩;have r1 := HOS.out _ _ hv1;have HV1 := hZ0 hv1;have HD1 := hZ0 hd1;clear hv1 hd1))
   have hkk := behind (behind (behind (w := w) (by (repeat' (first | (with_reducible first | exact kR0 | apply kP0 | apply kN0 | apply kD0 | apply kA0) | (with_reducible exact HK.out) | (right;simp;done)))) HD1.out hle) HD2.out hle) HD3.out hle
   have HKK := hZ0 hkk;clear hkk HD1 HD2 HD3
   have hv := HV3.out.tail2
   rw [<- HNX.out] at hv
   have HV := hZ0 hv;clear hv
   go_wp2
   go_roundw
   case rel => exact ⟨i + 1,by omega,by go_num,HV.out,HKK.out⟩
   case measure => simp [intOf];omega
  ·obtain rfl : i = l.length := by omega
   rw [List.take_length] at hws
   have HWF := hZ0 hws;clear hws
   go_wp2_with fail
   refine (done_s HWF.out (by have := HHDR.out.2.2;simp;intro h;exact absurd h this)).mono ?_
   rintro e w5 ⟨rfl,hb⟩
   have hkk := behind HK.out hb hle
   have HKK := hZ0 hkk;clear hkk hb
   go_wp2
   go_ret2
   exact ⟨by rw [<- HHDR.out.1];rfl,HKK.out⟩
end Ops
end Go.Proofs.YtgffjliedjhbaaaGreat
