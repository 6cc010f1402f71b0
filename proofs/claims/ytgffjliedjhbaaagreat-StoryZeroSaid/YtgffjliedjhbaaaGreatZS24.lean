/- Part 25 of what the proof needs. -/
import Derived.Test.YtgffjliedjhbaaaGreatZS00
import Derived.Test.YtgffjliedjhbaaaGreatZS20
import Derived.Test.YtgffjliedjhbaaaGreatZS21
import Derived.Test.YtgffjliedjhbaaaGreatZS23
import Derived.Test.YtgffjliedjhbaaaGreatChecked
import Derived.Shelf.Slices.Reverse
import Derived.Shelf.Slices.Cells
import Derived.Shelf.Slices.Clone
import Derived.Ground.Names2Prog
import Derived.Deep.RegionHeld3
import Derived.Maps.OwnSet
import Derived.Recover
set_option linter.unusedSimpArgs false
set_option linter.unusedVariables false
set_option maxHeartbeats 32000000
set_option maxRecDepth 100000
namespace Go.Proofs.YtgffjliedjhbaaaGreat
open Go.RowKit
set_option maxRecDepth 100000
namespace Wl
open Disk Fr Vn Ops
section
variable {F : Nat -> Prop} {w : World} {g gw n : Nat} {m : Disk.Safe} {ps : List Disk.Pc} {ser boot first : Int} {R : St} {T : List (List UInt8)}
def LOpenPost (w : World) (g : Nat) (first : Int) (R : St) (e : Ending) (w' : World) : Prop :=
 ∃ gw A c,e = .returned (.tuple #[.pointer (some ⟨gw,0,none⟩),.slice A (texts R).length c,.int .i64 0]) /\ WAt w' gw g (first + lastOf R) /\ w.heap.size <= gw /\
  NewSl 9 1 w.heap.size w' A (texts R).length c (tcells (texts R)) /\ Below w.heap.size w w'
def LReadPost (w : World) (first : Int) (R : St) (e : Ending) (w' : World) : Prop :=
 ∃ A c,e = .returned (.tuple #[.slice A (texts R).length c,.int .i64 (first + lastOf R)]) /\ NewSl 9 1 w.heap.size w' A (texts R).length c (tcells (texts R)) /\ Below w.heap.size w w'
structure Fits (n : Nat) (m : Disk.Safe) (ps : List Disk.Pc) : Prop where
 n : n <= 100000
 len : ps.length < 100000
 file : ∀ f,(sget m f).size <= 100000
 pc : ∀ p ∈ ps,p.2.size <= 65549 /\ 1 <= p.1 /\ p.1 <= 1073741824
theorem total_le {ps : List Disk.Pc} {k : Nat} (h : ∀ p ∈ ps,p.2.size <= k) : total ps <= ps.length * k := by
 induction ps with
 | nil => simp [total]
 | cons p ps ih =>
  have h1 := h p (by simp)
  have h2 := ih (fun q hq => h q (by simp [hq]))
  rw [total_cons,List.length_cons,Nat.succ_mul]
  omega
theorem Fits.total (h : Fits n m ps) : Disk.total ps <= 6554900000 := by
 have h1 := total_le (k := 65549) (fun p hp => (h.pc p hp).1)
 have := h.len
 omega
theorem Fits.i64 (h : Fits n m ps) : ∀ p ∈ ps,I64 p.1 := fun p hp => by have := h.pc p hp;exact i64_small (by omega) (by omega)
theorem lread_list (h : Log first R T m ps) (hf1 : 1 <= first) (hf2 : first <= 1073741824) (hl : (cur R T).length <= 100000) :
  ∃ ls : List Sg,ls.map (·.1) = segsF (isFile m ps) (dataOf m ps) (cur R T).length first /\ readT ls = texts (cur R T) /\ atN first ls = first + lastOf (cur R T) /\ ls.length = (cur R T).length := by
 obtain ⟨ls,h3,h4,h5,h6⟩ := sg_list hf1 (by omega) (cur_ok h.ok h.T) (by omega)
 refine ⟨ls,h3.trans h.segs.1.symm,h4,?_,h6⟩
 by_cases hc : cur R T = []
 ·rw [hc] at h6 ⊢
  obtain rfl : ls = [] := List.eq_nil_of_length_eq_zero h6
  simp [atN,lastOf]
 ·exact h5 _ hc
theorem lread_any (hd : DiskAt w g F n m ps ser boot) (h : Log first R T m ps) (hf : Fits n m ps) (hf1 : 1 <= first) (hf2 : first <= 1073741824) (hl : (cur R T).length <= 100000) :
  Calls Tryz.prog 175 #[.pointer (some ⟨g,0,none⟩),.int .i64 first] w (LReadPost w first (cur R T)) := by
 obtain ⟨ls,h3,h4,h5,h6⟩ := lread_list h hf1 hf2 hl
 have ht := hf.total
 refine (read_any w g n F m ps ser boot first (cur R T).length ls hd hf.i64 hf.n (by have := hf.len;omega) (fun f => by have := hf.file f;omega) hf1 hf2 (by omega) h.segs.2 h3 (by omega)).mono ?_
 rintro e w' ⟨A,c,h7,h8,h9⟩
 rw [h4] at h7 h8
 rw [h5] at h7
 exact ⟨A,c,h7,h8,h9⟩
theorem lopen_any (hd : DiskAt w g F n m ps ser boot) (h : Log first R T m ps) (hf : Fits n m ps) (hf1 : 1 <= first) (hf2 : first <= 1073741824) (hl : (cur R T).length <= 100000) :
  Calls Tryz.prog 109 #[.pointer (some ⟨g,0,none⟩),.int .i64 first] w (LOpenPost w g first (cur R T)) := by
 obtain ⟨ls,h3,h4,h5,h6⟩ := lread_list h hf1 hf2 hl
 have ht := hf.total
 refine (open_any w g n F m ps ser boot first (cur R T).length ls hd hf.i64 hf.n (by have := hf.len;omega) (fun f => by have := hf.file f;omega) hf1 hf2 (by omega) h.segs.2 h3 (by omega)).mono ?_
 rintro e w' ⟨gw,A,c,h7,h8,h9,h10,h11⟩
 rw [h4] at h7 h10
 rw [h5] at h8
 exact ⟨gw,A,c,h7,h8,h9,h10,h11⟩
def LAppPost (w : World) (g gw : Nat) (F : Nat -> Prop) (n : Nat) (m : Disk.Safe) (ps : List Disk.Pc) (ser boot first : Int) (R : St) (T : List (List UInt8)) (e : Ending) (w' : World) : Prop :=
 e = .returned (.int .i64 0) /\ ∃ F',DiskAt w' g F' n m ps ser boot /\ Grows w F F' /\ WAt w' gw g (first + lastOf (cur R T)) /\ Kept (fun k => F k \/ k = gw) w w'
theorem lappend_any (hd : DiskAt w g F n m ps ser boot) (hw : WAt w gw g (first + lastOf (cur R T))) (h : Log first R T m ps) (hf : Fits n m ps) (hf1 : 1 <= first) (hf2 : first + lastOf (cur R T) <= 1073741824) (s : ByteArray) (hs : s.size <= 65536) :
  Calls Tryz.prog 143 #[.pointer (some ⟨gw,0,none⟩),.string s] w (LAppPost w g gw F n m (ps ++ [(first + lastOf (cur R T),ofL (frameL (bl s)))]) ser boot first R (T ++ [bl s])) := by
 have ht := hf.total
 refine (append_any hd hw s hs (by omega) hf2 hf.len (by have := hf.file (first + lastOf (cur R T));omega)).mono ?_
 rintro e w' ⟨h1,F',h2,h3,h4,h5⟩
 refine ⟨h1,F',h2,h3,?_,h5⟩
 have h6 := (h.append (t := bl s) (by rw [size_bl];exact hs)).file (lastOf (cur R T))
 rw [h6.2,ofL_sz,cur_snoc] at h4
 rw [cur_snoc,last_app]
 split
 ·rename_i h7
  rw [if_pos h7] at h4
  rw [show first + ((lastOf (cur R T) + 1 : Nat) : Int) = first + (lastOf (cur R T) : Int) + 1 by omega]
  exact h4
 ·rename_i h7
  rw [if_neg h7] at h4
  exact h4
end
theorem log_new (first : Int) : Log first [] [] (fun _ => none) [] := ⟨fun i => rfl,rfl,(fun f hf => by cases hf),(fun t ht => by cases ht)⟩
end Wl
namespace Pt
open Disk Fr Vn Ops Wl
theorem empty_size (s : ByteArray) : (s.toList == []) = decide (s.size = 0) := by
 rw [ByteArray.toList_eq,<- size_bl]
 cases h : bl s <;> simp [h]
end Pt
end Go.Proofs.YtgffjliedjhbaaaGreat
namespace Go.Proofs.YtgffjliedjhbaaaGreat
open Go.RowKit Go.Maps
set_option maxRecDepth 100000
namespace Disk
def mdel (m : Safe) (f : Int) : Safe := fun x => if x = f then none else m x
theorem MapIs.dropped {w' : World} {b n : Nat} {m : Safe} {D : DataW Unit} (hD : ∀ k,I64 k -> has D (.int .i64 k) = (m k).isSome /\ D.atKey (.int .i64 k) (.lit (.string [])) = .lit (.string (sget m k).data.toList)) {k : Int}
  (ho : w'.ownsMap Tryz.prog 3 (plainElem Tryz.prog 9) b n (D.del (.int .i64 k))) : MapIs w' b n (mdel m k) := by
 refine ⟨_,ho,?_⟩
 intro i hi
 by_cases e : i = k
 ·subst e
  rw [has_del_same,atKey_del_same]
  simp [mdel,sget]
 ·have hne : (Lit.int .i64 i) ≠ .int .i64 k := fun h => e (by injection h)
  rw [has_del_other hne,atKey_del_other hne]
  have := hD i hi
  simpa [mdel,sget,e] using this
theorem idxf_empty (w : World) (A : Option Addr) (c : Nat) (f : Value) : Calls Tryz.prog 177 #[.slice A 0 c,f] w fun e w' => e = .returned (.int .i64 (-1)) /\ w = w' := by
 go_enter Tryz.func177,Tryz.ntmps177
 go_wp2_with fail
 refine wp_loop_rounds 1 ?_;rw [rounds_succ]
 go_wp2
 go_ret
 exact ⟨rfl,rfl⟩
theorem delf_empty (w : World) (A : Option Addr) (c : Nat) (f : Value) : Calls Tryz.prog 111 #[.slice A 0 c,f] w fun e w' => e = .returned (.slice A 0 c) /\ w = w' := by
 go_enter Tryz.func111,Tryz.ntmps111
 go_wp2_with fail
 refine (idxf_empty _ _ _ _).mono ?_
 rintro e w' ⟨rfl,rfl⟩
 go_wp2
 go_ret
 exact ⟨rfl,rfl⟩
variable {F : Nat -> Prop} {w : World} {g n : Nat} {m : Safe} {ps : List Pc} {ser boot : Int}
theorem drop_any (h : DiskAt w g F n m [] ser boot) (f : Int) (hf : I64 f) (hn : n <= 100000) (hm : isFile m [] f = true) :
  Calls Tryz.prog 63 #[.pointer (some ⟨g,0,none⟩),.int .i64 f] w fun e w' => e = .returned (.int .i64 0) /\ DiskAt w' g F n (mdel m f) [] ser boot /\ Kept F w w' := by
 have hmf : ∀ (fn : Fn) (first cap : Array Value) (w : World),(Instr.makeFunc fn first cap).run Tryz.prog w = .ok (.func fn first cap) w := fun _ _ _ _ => rfl
 obtain ⟨w1,hw1⟩ : ∃ w1,w.alloc (.cells #[.int .i64 f] 3) = w1 := ⟨_,rfl⟩
 have hk1 : Kept NoF w w1 := by rw [<- hw1];exact (Kept.refl _ _).alloc _
 have hb1 : Has w1 w.heap.size 3 #[.int .i64 f] := by rw [<- hw1];exact Has.new _ _ _
 have hd1 : DiskAt w1 g F n m [] ser boot := h.kept hk1 (fun _ _ z => z)
 have hno := none_any hd1
 have hfi := fun W (hW : Kept NoF w1 W) => files_any (hd1.kept hW (fun _ _ z => z)) (fun p hp => by cases hp) hn (by decide)
 have c3 : w1.cell? ⟨w.heap.size,0,none⟩ = some (.int .i64 f) := hb1.cell 0
 have HW1 := hZ0 hw1;have HNO := hZ0 hno;have HFI := hZ0 hfi;have HM := hZ0 hm;have HB1 := hZ0 hb1;have HK1 := hZ0 hk1;have HD1 := hZ0 hd1;have HF := hZ0 hf
 clear hno hfi hm hb1 hk1 hd1 hw1 h hf
 go_enter Tryz.func63,Tryz.ntmps63
 go_wp2_with fail
 rw [HW1.out]
 refine HNO.out.mono ?_
 rintro e w' ⟨rfl,rfl⟩
 go_wp2_with fail
 go_region_held3 (fun W => W.cell? ⟨w.heap.size,0,none⟩ = some (.int .i64 f)) (first | exact c3 | exact q4 | (simp [go_sem,c3];done))
  (first
   | (go_at_call 61;refine (HFI.out _ (by (repeat' (first | (with_reducible first | exact kR0 | apply kP0 | apply kN0 | apply kD0 | apply kA0) | (right;simp;done))))).mono ?_;rintro e w4 ⟨fl,A,c,rfl,hfa,hown,hnew,hk4⟩;have hk5 : Kept NoF w1 w4 := Kept.then (by (repeat' (first | (with_reducible first | exact kR0 | apply kP0 | apply kN0 | apply kD0 | apply kA0) | (right;simp;done)))) hk4;have q4 := (HB1.out.kept hk5 (fun z => z)).cell 0;have HOWN := hZ0 hown;have HFA := hZ0 hfa;clear hown hfa hnew)
   | (go_at_call 110;have hco := SlI.containsI_any w4 A c fl f (Src.of_own HOWN.out) (Nat.le_trans (own_cap HOWN.out).1 (own_cap HOWN.out).2);rw [SlI.inB_iff.2 ((HFA.out.mem f).2 ⟨HF.out,HM.out⟩)] at hco;refine hco.mono ?_;rintro e w5 ⟨rfl,rfl⟩;clear hco))
 clear c3
 have hd4 := HD1.out.kept hk5 (fun _ _ z => z)
 obtain ⟨mb,A0,c0',hF,hg,hm,ho⟩ := hd4
 have m0 : w4.cell? ⟨g,0,none⟩ = some (.map (some mb)) := hg.cell 0
 have hkd : Kept NoF w4 w4.drew := (Kept.refl _ _).drew
 obtain ⟨D,hmo,hD⟩ := hm.kept hkd (fun z => z)
 have hne := hm.ne hg
 have hbr : ∀ k,(Value.slice A0 ([] : List Pc).length c0').ownBlock = some k -> k ≠ mb := fun k hk e => (hm.ne_row ho) (e ▸ hk)
 have hgl := hg.lt
 have hb4 : Has w4 w.heap.size 3 #[.int .i64 f] := HB1.out.kept hk5 (fun z => z)
 have hbm : mb ≠ w.heap.size := hm.ne hb4
 have HFF := hZ0 hF;have HG := hZ0 (hg.kept hkd (fun z => z));have HO := hZ0 (own_kept ho hkd (fun _ _ z => z));have HD := hZ0 hD;have HB4 := hZ0 (hb4.kept hkd (fun z => z));have HK5 := hZ0 hk5
 clear hF hg hm ho hD hk5 hb4 hkd
 go_wp2_with fail
 refine wp_region_still_tail 5 (by kernel_rfl) (by kernel_rfl) ?_
 simp only [List.take_succ_cons,List.take_zero,List.drop_succ_cons,List.drop_zero]
 change wpStill _ _ (World.drew w4) _ _ _
 repeat still_step
 refine wpStill_nil ?_
 change wpList _ _ _ _ _ (World.drew w4)
 go_wp2_with (at_delete;refine wpList_delete_own _ rfl _ _ 89 3 rfl 9 intKeyed Tryz.underlying89 _ mb n D rfl hmo _ _ rfl (intKey HF.out) ?_;intro w6 hown6 hturn6;have hkt : Kept (fun i => i = mb) w4.drew w6 := ((Kept.refl _ _).grownBy hturn6.grown (fun i hi => by injection hi with hi;exact .inl hi.symm));have hg6 := HG.out.kept hkt (fun e => hne e.symm);have d1 : w6.cell? ⟨g,1,none⟩ = some (.slice A0 0 c0') := hg6.cell 1;have f1 := hg6.frozen 1;have HT := hZ0 hkt;have HOW6 := hZ0 hown6;have HG6 := hZ0 hg6;clear hkt hown6 hturn6 hg6)
 refine (delf_empty _ _ _ _).mono ?_
 rintro e w7 ⟨rfl,rfl⟩
 go_wp2
 go_ret
 have hks : Kept (fun k => k = g) w6 (w6.setCell ⟨g,1,none⟩ (.slice A0 0 c0')) := (Kept.refl _ w6).put (.inl rfl)
 refine ⟨rfl,⟨mb,A0,c0',HFF.out,HG6.out.put_of rfl,(MapIs.dropped HD.out HOW6.out).kept hks hne,?_⟩,?_⟩
 ·exact own_kept (own_kept HO.out HT.out (fun k hk e => hbr k hk e)) hks (fun k hk e => own_ne (own_kept HO.out HT.out (fun k hk e => hbr k hk e)) HG6.out (by decide) (e ▸ hk))
 ·exact (((HK1.out.then HK5.out).drew.mono (fun _ z => z.elim)).then (HT.out.mono (fun k hk => (HFF.out k).2 (.inr (.inl hk))))).put (.inl ((HFF.out g).2 (.inl rfl)))
end Disk
end Go.Proofs.YtgffjliedjhbaaaGreat
namespace Go.Proofs.YtgffjliedjhbaaaGreat
open Go.RowKit
set_option maxRecDepth 100000
namespace Pt
open Disk Fr Vn Ops Wl
def t1 : List UInt8 -> List (List UInt8)
 | c :: r => if c = 84 then [r] else []
 | [] => []
def tt (l : List (List UInt8)) : List (List UInt8) := l.flatMap t1
theorem one_str (x : ByteArray) : ∀ u ∈ [Value.string x],u.oneCell' = true := by
 intro u hu
 obtain rfl : u = .string x := by simpa using hu
 rfl
section
variable {F : Nat -> Prop} {w : World} {g n : Nat} {m : Disk.Safe} {ps : List Disk.Pc} {ser boot : Int}
end
end Pt
namespace Pt
open Disk Fr Vn Ops Wl
theorem must_ok (w : World) : Calls Tryz.prog 142 #[.int .i64 0] w fun e w' => e = .returned (.tuple #[]) /\ w = w' := by
 go_enter Tryz.func142,Tryz.ntmps142
 go_wp2
 go_end0
 exact ⟨rfl,rfl⟩
theorem long_any (w : World) (s : ByteArray) (b : Bool) (hb : decide ((65536 : Int) <= (s.size : Int)) = b) : Calls Tryz.prog 158 #[.string s] w fun e w' => e = .returned (.bool b) /\ w = w' := by
 subst hb
 go_enter Tryz.func158,Tryz.ntmps158
 go_wp2
 go_ret
 exact ⟨rfl,rfl⟩
theorem clone_any (w : World) (A : Option Addr) (c : Nat) (l : List ByteArray) (hl : Src w 1 A l.length (l.map Value.string)) (hlen : l.length <= 1000000000) :
  Calls Tryz.prog 68 #[.slice A l.length c] w fun e w' => ∃ A' c',e = .returned (.slice A' l.length c') /\ NewSl 9 1 w.heap.size w' A' l.length c' (l.map Value.string) /\ Below w.heap.size w w' := by
 have hnil : ∀ W n' c',(binOp .eql 108 (.slice A l.length c) (.slice none n' c')).run Tryz.prog W = .ok (.bool A.isNone) W := fun W n' c' => Lib.run_eql_slice_nil W _ _ A _ _ _ _ Tryz.underlying108
 cases A with
 | none =>
  obtain rfl : l = [] := by
   rcases l with _ | ⟨a,l⟩
   ·rfl
   ·obtain ⟨ad,h,_⟩ := hl.2 (by simp)
    cases h
  clear hl hlen
  have hnil0 : ∀ W n' c',(binOp .eql 108 (.slice none 0 c) (.slice none n' c')).run Tryz.prog W = .ok (.bool true) W := fun W n' c' => Lib.run_eql_slice_nil W _ _ none _ _ _ _ Tryz.underlying108
  clear hnil
  go_enter Tryz.func68,Tryz.ntmps68
  go_wp2
  go_ret
  exact ⟨none,0,rfl,⟨⟨rfl,.inl ⟨rfl,rfl⟩⟩,fun k hk => by cases hk⟩,Below.refl _ _⟩
 | some ad =>
  simp only [Option.isNone_some] at hnil
  have hk1 : Kept NoF w (w.alloc (.cells #[] 9)) := (Kept.refl _ _).alloc _
  have hown : (w.alloc (.cells #[] 9)).ownsRow 0 9 1 (.slice (some ⟨w.heap.size,0,none⟩) 0 0) 0 [] := own_empty (Has.new w 9 #[]) rfl
  have HS := hZ0 (hl.kept hk1 (fun _ _ z => z));have HO := hZ0 hown
  have hone : ∀ u ∈ l.map Value.string,u.oneCell' = true := by
   intro u hu
   rw [List.mem_map] at hu
   obtain ⟨x,_,rfl⟩ := hu
   rfl
  have HONE := hZ0 hone
  have hM : 0 + l.length <= maxLen := by unfold maxLen;omega
  have hY : (0 + l.length) * 16 <= 140737488355328 := by omega
  have HM := hZ0 hM;have HY := hZ0 hY
  clear hl hown hone hM hY hk1 hlen
  go_enter Tryz.func68,Tryz.ntmps68
  go_wp2_with (at_builtin;refine list_append_src elemStr (.tmp 5) (.tmp 6) rfl rfl (Value.slice (some ⟨w.heap.size,0,none⟩) 0 0) rfl HO.out c rfl HS.out HONE.out HM.out HY.out ?_;intro A9 c9 w9 ho9 hg9 ha9;have HO9 := hZ0 ho9;have HG9 := hZ0 hg9;have HA9 := hZ0 ha9;clear ho9 hg9 ha9)
  go_ret
  have ho := HO9.out
  rw [Nat.zero_add,List.nil_append] at ho
  have ha := HA9.out
  rw [Nat.zero_add] at ha
  refine ⟨A9,c9,rfl,⟨ho,fun k hk => ?_⟩,?_⟩
  ·rcases ha with e | e
   ·have h9 := e.symm.trans hk
    simp [Value.ownBlock] at h9
    omega
   ·have h9 := e.symm.trans hk
    injection h9 with h9
    simp at h9
    omega
  ·exact (Kept.grown ((Kept.refl NoF w).alloc _) HG9.out (fun k hk => by simp [Value.ownBlock] at hk;exact .inr (by omega))).below (Nat.le_refl _) (fun _ z => z.elim)
theorem ta_none (W : World) : (Instr.typeAssert .nilIface 20 27 true).run Tryz.prog W = .ok (.tuple #[.int .i64 0,.bool false]) W := by kernel_rfl
theorem catch_nil (w : World) (p : Option Addr) : Calls Tryz.prog 141 #[.nilIface,.pointer p] w fun e w' => e = .returned (.tuple #[]) /\ w' = w := by
 have hta := fun W => ta_none W
 go_enter Tryz.func141,Tryz.ntmps141
 go_wp2
 go_end0
 exact ⟨rfl,rfl⟩
theorem idleBegin (w : World) (y1 : Nat) :
  CallsD Tryz.prog 140 #[.pointer (some ⟨y1,0,none⟩)] .returning w fun e u w' => e = .returned (.tuple #[]) /\ u = .returning /\ w' = w := by
 have hst := catch_nil w (some ⟨y1,0,none⟩)
 refine callsD_of_wpS Tryz.func140 rfl fun c₀ cs hu => ?_
 apply wpS_region
 simp [wpOpsS,go_sem,recoverD,hu,Tryz.ntmps140,Exit.thenS]
 refine hst.mono ?_
 rintro e w' ⟨rfl,rfl⟩
 refine ⟨rfl,.returning,?_,_,results_none rfl _ _ _,rfl,rfl,rfl⟩
 cases c₀
 simp_all
end Pt
namespace Wl
open Disk Fr Vn Ops
structure Low (first : Int) (m : Disk.Safe) (ps : List Disk.Pc) : Prop where
 file : ∀ x,x < first -> (sget m x).size = 0
 pc : ∀ p ∈ ps,first <= p.1
theorem pcsOf_mem (first : Int) : ∀ (R : St) (T : List (List UInt8)),(∀ t ∈ T,t.length <= 65536) -> ∀ p ∈ pcsOf first R T,p.2.size <= 65549 /\ first <= p.1 /\ p.1 <= first + (R.length + T.length : Nat)
 | R,[],_,p,hp => by cases hp
 | R,t :: T,hT,p,hp => by
  rcases List.mem_cons.1 hp with rfl | hp
  ·refine ⟨by rw [ofL_sz];exact frame_le (hT t (by simp)),?_,?_⟩
   ·show first <= first + (lastOf R : Int);omega
   ·have := lastOf_le R;show first + (lastOf R : Int) <= _;omega
  ·obtain ⟨h1,h2,h3⟩ := pcsOf_mem first (app R t) T (fun x hx => hT x (by simp [hx])) p hp
   have := app_grow R t
   exact ⟨h1,h2,by simp only [List.length_cons];omega⟩
section
variable {first : Int} {R : St} {T : List (List UInt8)} {m : Disk.Safe} {ps : List Disk.Pc}
theorem Low.pcs (h : Low first m ps) (hl : Log first R T m ps) : ps = pcsOf first R T := by
 rw [<- hl.rest,List.filter_eq_self.2]
 intro p hp
 have := h.pc p hp
 simpa [mine] using this
theorem bts_le {R : St} (h : Ok R) (i : Nat) : (bts R i).length <= 66000 := by
 induction R with
 | nil => exact Nat.zero_le _
 | cons f R ih =>
  simp only [bts]
  split
  ·exact (h f (by simp)).size
  ·exact ih (fun g hg => h g (List.mem_cons_of_mem _ hg))
theorem Low.size (h : Low first m ps) (hl : Log first R T m ps) (f : Int) : (sget m f).size <= 66000 := by
 by_cases hf : f < first
 ·rw [h.file f hf];exact Nat.zero_le _
 ·have h2 := hl.safe (f - first).toNat
  rw [show first + ((f - first).toNat : Int) = f by omega] at h2
  unfold sget
  rw [h2,getD_fileAt,ofL_sz]
  exact bts_le hl.ok _
theorem Low.fits {n : Nat} (h : Low first m ps) (hl : Log first R T m ps) (h1 : 1 <= first) (h2 : first + (R.length + T.length : Nat) <= 1073741824) (hn : n <= 100000) (hT : T.length < 100000) : Fits n m ps := by
 have hp := h.pcs hl
 refine ⟨hn,by rw [hp,pcsOf_len];exact hT,fun f => by have := h.size hl f;omega,fun p hq => ?_⟩
 rw [hp] at hq
 obtain ⟨h3,h4,h5⟩ := pcsOf_mem first R T hl.T p hq
 exact ⟨h3,by omega,by omega⟩
end
end Wl
end Go.Proofs.YtgffjliedjhbaaaGreat
