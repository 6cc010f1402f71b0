/- Part 25 of what the proof needs. -/
import Derived.Test.YtgbigpdiacjbgaaGreatKO02
import Derived.Test.YtgbigpdiacjbgaaGreatKO23
import Derived.Tactics
import Derived.Tactics2
import Derived.Deep.QuietTactic
import Derived.BigQuiet
import Derived.StillTailTactics
set_option linter.unusedSimpArgs false
set_option linter.unusedVariables false
set_option maxHeartbeats 32000000
set_option maxRecDepth 100000
namespace Go.Proofs.YtgbigpdiacjbgaaGreat
open Go.RowKit
set_option maxRecDepth 100000
namespace Wire
open Vn Ops
def Caught (w : World) (g : Nat) (c : Int) (older : List PanicEntry) (e : Ending) (u : FrameMode) (w' : World) : Prop :=
 e = .returned (.tuple #[]) /\ u = .panicking ({ v := .iface 33 (.int .i64 c),recovered := true } :: older) /\ w' = w.drew.setCell ⟨g,2,none⟩ (.int .i64 c)
def Idle (w : World) (e : Ending) (u : FrameMode) (w' : World) : Prop := e = .returned (.tuple #[]) /\ u = .returning /\ w' = w.drew
theorem catchBig (w : World) (B g : Nat) (s : ByteArray) (r : RS) (c : Int) (older : List PanicEntry) (h : RdAt w g s r) (hB : w.cell? ⟨B,0,none⟩ = some (.pointer (some ⟨g,0,none⟩))) :
  CallsD Tryz.prog 142 #[.pointer (some ⟨B,0,none⟩)] (.panicking ({ v := .iface 33 (.int .i64 c),recovered := false } :: older)) w (Caught w g c older) := by
 have hst := stays_some w.drew g s r c h
 have hB2 : w.drew.cell? ⟨B,0,none⟩ = some (.pointer (some ⟨g,0,none⟩)) := hB
 refine callsD_of_wpS Tryz.func142 rfl fun c₀ cs hu => ?_
 refine wpS_region_open3 (by kernel_rfl) (by rfl) (by kernel_rfl) (by kernel_rfl) (by kernel_rfl) (by kernel_rfl) ?_ ?_
 all_goals
  simp [wpOpsS,go_sem,recoverD,hu,Tryz.ntmps142,Exit.thenS,hB2]
  refine hst.mono ?_
  rintro e w' ⟨rfl,rfl⟩
  exact ⟨rfl,_,rfl,_,results_none rfl _ _ _,rfl,rfl,rfl⟩
theorem idleBig (w : World) (B g : Nat) (hB : w.cell? ⟨B,0,none⟩ = some (.pointer (some ⟨g,0,none⟩))) :
  CallsD Tryz.prog 142 #[.pointer (some ⟨B,0,none⟩)] .returning w (Idle w) := by
 have hst := stays_none w.drew g
 have hB2 : w.drew.cell? ⟨B,0,none⟩ = some (.pointer (some ⟨g,0,none⟩)) := hB
 refine callsD_of_wpS Tryz.func142 rfl fun c₀ cs hu => ?_
 refine wpS_region_open3 (by kernel_rfl) (by rfl) (by kernel_rfl) (by kernel_rfl) (by kernel_rfl) (by kernel_rfl) ?_ ?_
 all_goals
  simp [wpOpsS,go_sem,recoverD,hu,Tryz.ntmps142,Exit.thenS,hB2]
  refine hst.mono ?_
  rintro e w' ⟨rfl,rfl⟩
  refine ⟨rfl,.returning,?_,_,results_none rfl _ _ _,rfl,rfl,rfl⟩
  cases c₀
  simp_all
theorem catchNum (w : World) (B g : Nat) (s : ByteArray) (r : RS) (c : Int) (older : List PanicEntry) (h : RdAt w g s r) (hB : w.cell? ⟨B,0,none⟩ = some (.pointer (some ⟨g,0,none⟩))) :
  CallsD Tryz.prog 91 #[.pointer (some ⟨B,0,none⟩)] (.panicking ({ v := .iface 33 (.int .i64 c),recovered := false } :: older)) w (Caught w g c older) := by
 have hst := stays_some w.drew g s r c h
 have hB2 : w.drew.cell? ⟨B,0,none⟩ = some (.pointer (some ⟨g,0,none⟩)) := hB
 refine callsD_of_wpS Tryz.func91 rfl fun c₀ cs hu => ?_
 refine wpS_region_open3 (by kernel_rfl) (by rfl) (by kernel_rfl) (by kernel_rfl) (by kernel_rfl) (by kernel_rfl) ?_ ?_
 all_goals
  simp [wpOpsS,go_sem,recoverD,hu,Tryz.ntmps91,Exit.thenS,hB2]
  refine hst.mono ?_
  rintro e w' ⟨rfl,rfl⟩
  exact ⟨rfl,_,rfl,_,results_none rfl _ _ _,rfl,rfl,rfl⟩
theorem idleNum (w : World) (B g : Nat) (hB : w.cell? ⟨B,0,none⟩ = some (.pointer (some ⟨g,0,none⟩))) :
  CallsD Tryz.prog 91 #[.pointer (some ⟨B,0,none⟩)] .returning w (Idle w) := by
 have hst := stays_none w.drew g
 have hB2 : w.drew.cell? ⟨B,0,none⟩ = some (.pointer (some ⟨g,0,none⟩)) := hB
 refine callsD_of_wpS Tryz.func91 rfl fun c₀ cs hu => ?_
 refine wpS_region_open3 (by kernel_rfl) (by rfl) (by kernel_rfl) (by kernel_rfl) (by kernel_rfl) (by kernel_rfl) ?_ ?_
 all_goals
  simp [wpOpsS,go_sem,recoverD,hu,Tryz.ntmps91,Exit.thenS,hB2]
  refine hst.mono ?_
  rintro e w' ⟨rfl,rfl⟩
  refine ⟨rfl,.returning,?_,_,results_none rfl _ _ _,rfl,rfl,rfl⟩
  cases c₀
  simp_all
theorem catchText (w : World) (B g : Nat) (s : ByteArray) (r : RS) (c : Int) (older : List PanicEntry) (h : RdAt w g s r) (hB : w.cell? ⟨B,0,none⟩ = some (.pointer (some ⟨g,0,none⟩))) :
  CallsD Tryz.prog 173 #[.pointer (some ⟨B,0,none⟩)] (.panicking ({ v := .iface 33 (.int .i64 c),recovered := false } :: older)) w (Caught w g c older) := by
 have hst := stays_some w.drew g s r c h
 have hB2 : w.drew.cell? ⟨B,0,none⟩ = some (.pointer (some ⟨g,0,none⟩)) := hB
 refine callsD_of_wpS Tryz.func173 rfl fun c₀ cs hu => ?_
 refine wpS_region_open3 (by kernel_rfl) (by rfl) (by kernel_rfl) (by kernel_rfl) (by kernel_rfl) (by kernel_rfl) ?_ ?_
 all_goals
  simp [wpOpsS,go_sem,recoverD,hu,Tryz.ntmps173,Exit.thenS,hB2]
  refine hst.mono ?_
  rintro e w' ⟨rfl,rfl⟩
  exact ⟨rfl,_,rfl,_,results_none rfl _ _ _,rfl,rfl,rfl⟩
theorem idleText (w : World) (B g : Nat) (hB : w.cell? ⟨B,0,none⟩ = some (.pointer (some ⟨g,0,none⟩))) :
  CallsD Tryz.prog 173 #[.pointer (some ⟨B,0,none⟩)] .returning w (Idle w) := by
 have hst := stays_none w.drew g
 have hB2 : w.drew.cell? ⟨B,0,none⟩ = some (.pointer (some ⟨g,0,none⟩)) := hB
 refine callsD_of_wpS Tryz.func173 rfl fun c₀ cs hu => ?_
 refine wpS_region_open3 (by kernel_rfl) (by rfl) (by kernel_rfl) (by kernel_rfl) (by kernel_rfl) (by kernel_rfl) ?_ ?_
 all_goals
  simp [wpOpsS,go_sem,recoverD,hu,Tryz.ntmps173,Exit.thenS,hB2]
  refine hst.mono ?_
  rintro e w' ⟨rfl,rfl⟩
  refine ⟨rfl,.returning,?_,_,results_none rfl _ _ _,rfl,rfl,rfl⟩
  cases c₀
  simp_all
theorem catchFlag (w : World) (B g : Nat) (s : ByteArray) (r : RS) (c : Int) (older : List PanicEntry) (h : RdAt w g s r) (hB : w.cell? ⟨B,0,none⟩ = some (.pointer (some ⟨g,0,none⟩))) :
  CallsD Tryz.prog 175 #[.pointer (some ⟨B,0,none⟩)] (.panicking ({ v := .iface 33 (.int .i64 c),recovered := false } :: older)) w (Caught w g c older) := by
 have hst := stays_some w.drew g s r c h
 have hB2 : w.drew.cell? ⟨B,0,none⟩ = some (.pointer (some ⟨g,0,none⟩)) := hB
 refine callsD_of_wpS Tryz.func175 rfl fun c₀ cs hu => ?_
 refine wpS_region_open3 (by kernel_rfl) (by rfl) (by kernel_rfl) (by kernel_rfl) (by kernel_rfl) (by kernel_rfl) ?_ ?_
 all_goals
  simp [wpOpsS,go_sem,recoverD,hu,Tryz.ntmps175,Exit.thenS,hB2]
  refine hst.mono ?_
  rintro e w' ⟨rfl,rfl⟩
  exact ⟨rfl,_,rfl,_,results_none rfl _ _ _,rfl,rfl,rfl⟩
theorem idleFlag (w : World) (B g : Nat) (hB : w.cell? ⟨B,0,none⟩ = some (.pointer (some ⟨g,0,none⟩))) :
  CallsD Tryz.prog 175 #[.pointer (some ⟨B,0,none⟩)] .returning w (Idle w) := by
 have hst := stays_none w.drew g
 have hB2 : w.drew.cell? ⟨B,0,none⟩ = some (.pointer (some ⟨g,0,none⟩)) := hB
 refine callsD_of_wpS Tryz.func175 rfl fun c₀ cs hu => ?_
 refine wpS_region_open3 (by kernel_rfl) (by rfl) (by kernel_rfl) (by kernel_rfl) (by kernel_rfl) (by kernel_rfl) ?_ ?_
 all_goals
  simp [wpOpsS,go_sem,recoverD,hu,Tryz.ntmps175,Exit.thenS,hB2]
  refine hst.mono ?_
  rintro e w' ⟨rfl,rfl⟩
  refine ⟨rfl,.returning,?_,_,results_none rfl _ _ _,rfl,rfl,rfl⟩
  cases c₀
  simp_all
end Wire
namespace Wire
open Vn Ops
theorem get_err {l : List UInt8} {i c : Nat} (h : get l i = .error c) : c = 2 \/ c = 4 := by
 unfold Vn.get at h
 split at h
 ·injection h with h;exact .inl h.symm
 ·split at h
  ·cases h
  ·dsimp only at h
   split at h
   ·injection h with h;exact .inl h.symm
   ·split at h
    ·injection h with h;exact .inr h.symm
    ·cases h
theorem RdAt.kept {F : Nat -> Prop} {w w' : World} {g : Nat} {s : ByteArray} {r : RS} (h : RdAt w g s r) (hk : Kept F w w') (hf : ¬ F g) : RdAt w' g s r := ⟨h.1.kept hk hf,h.2⟩
theorem RdAt.alloc {w : World} {g : Nat} {s : ByteArray} {r : RS} (h : RdAt w g s r) (o : Obj) : RdAt (w.alloc o) g s r := ⟨h.1.alloc o,h.2⟩
def RRead (w : World) (g : Nat) (s : ByteArray) (v : Value) (r : RS) (e : Ending) (w' : World) : Prop := e = .returned v /\ RdAt w' g s r /\ Kept (fun k => k = g) w w'
theorem big_ok (w : World) (g : Nat) (s : ByteArray) (i n j : Nat) (h : RdAt w g s (i,0)) (hs : s.size <= maxLen) (hg : get (bl s) i = .ok (n,j)) (hj : j <= s.size) :
  Calls Tryz.prog 93 #[.pointer (some ⟨g,0,none⟩)] w (RRead w g s (.int .u64 n) (j,0)) := by
 have hv := vget_any s i h.2 hs
 rw [hg] at hv
 simp only [getT] at hv
 have HV := hZ0 hv;clear hv
 have c0 := h.1.cell 0
 have c1 := h.1.cell 1
 have f1 := h.1.frozen 1
 simp only [List.getElem?_toArray,List.getElem?_cons_zero,List.getElem?_cons_succ] at c0 c1
 have H := hZ0 h;clear h
 have hb := bad_ok
 have HB := hZ0 hb;clear hb hg
 go_enter Tryz.func93,Tryz.ntmps93
 go_wp2_with fail
 go_quiet ((go_at_call 135;exact Calls.quiet_of_same ((HV.out _).mono fun e w' h => ⟨h.1,h.2.symm⟩)))
 go_wp2_with fail
 refine (HB.out _).mono ?_
 rintro e w2 ⟨rfl,rfl⟩
 go_wp2
 go_ret
 exact ⟨rfl,⟨Has.put_of (H.out.1.drewN _) rfl,hj⟩,((Kept.refl _ _).drewN _).put (.inl rfl)⟩
theorem big_no (w : World) (g : Nat) (s : ByteArray) (i c : Nat) (h : RdAt w g s (i,0)) (hs : s.size <= maxLen) (hg : get (bl s) i = .error c) :
  Calls Tryz.prog 93 #[.pointer (some ⟨g,0,none⟩)] w fun e w' => e = thrown c /\ RdAt w' g s (i,0) /\ Kept NoF w w' := by
 have hc := get_err hg
 have hv := vget_any s i h.2 hs
 rw [hg] at hv
 simp only [getT] at hv
 have HV := hZ0 hv;clear hv
 have c0 := h.1.cell 0
 have c1 := h.1.cell 1
 simp only [List.getElem?_toArray,List.getElem?_cons_zero,List.getElem?_cons_succ] at c0 c1
 have H := hZ0 h;clear h
 have hb := bad_no c (by omega)
 have HB := hZ0 hb;clear hb hg
 go_enter Tryz.func93,Tryz.ntmps93
 go_wp2_with fail
 go_quiet ((go_at_call 135;exact Calls.quiet_of_same ((HV.out _).mono fun e w' h => ⟨h.1,h.2.symm⟩)))
 go_wp2_with fail
 refine (HB.out _).mono ?_
 rintro e w2 ⟨rfl,rfl⟩
 go_wp2
 exact ⟨rfl,rfl,⟨H.out.1.drewN _,H.out.2⟩,(Kept.refl _ _).drewN _⟩
theorem conv_i64 (n : Nat) (hn : n <= 9223372036854775807) (W : World) : (convert 22 3 (.int .u64 (n : Int))).run Tryz.prog W = .ok (.int .i64 n) W := by
 have hw : IntKind.i64.wrap (n : Int) = n := IntWalk.i64_in _ (by omega)
 simp [go_sem,hw]
theorem num_any (w : World) (g : Nat) (s : ByteArray) (r : RS) (most : Nat) (h : RdAt w g s r) (hs : s.size <= maxLen) (hm : most <= 9223372036854775807) :
  Calls Tryz.prog 57 #[.pointer (some ⟨g,0,none⟩),.int .i64 most] w (RRead w g s (.int .i64 (rNum s most r).1) (rNum s most r).2) := by
 have hmf : ∀ (fn : Fn) (first cap : Array Value) (w : World),(Instr.makeFunc fn first cap).run Tryz.prog w = .ok (.func fn first cap) w := fun _ _ _ _ => rfl
 have hgl := h.1.lt
 have H0 := hZ0 (h.alloc (.cells #[.pointer (some ⟨g,0,none⟩)] 118))
 have HK0 := hZ0 ((Kept.refl (fun k => k = g) w).alloc (.cells #[.pointer (some ⟨g,0,none⟩)] 118))
 have HX0 := hZ0 (Has.new w 118 #[.pointer (some ⟨g,0,none⟩)])
 obtain ⟨i,e0⟩ := r
 by_cases he : e0 = 0
 rotate_left
 ·have hr := rNum_err (s := s) (most := most) (q := (i,e0)) he
  rw [hr]
  have he2 : (e0 != 0) = true := by simpa using he
  clear he hr hm hs h
  go_enter_defers Tryz.func57,Tryz.ntmps57
  go_wp2_with fail
  refine (err_any _ _ _ _ H0.out).mono ?_
  rintro e w2 ⟨rfl,rfl⟩
  go_wp2
  exact ⟨_,results_tmp rfl _ _ _,rfl,H0.out,HK0.out⟩
 subst he
 have hx0 := HX0.out.cell 0
 simp only [List.getElem?_toArray,List.getElem?_cons_zero] at hx0
 cases hg : get (bl s) i with
 | error c =>
  have hr : rNum s most (i,0) = (0,(i,(c : Int))) := by
   have := get_err hg
   unfold rNum rBig
   simp [hg]
  rw [hr]
  have hb := fun W (hW : RdAt W g s (i,0)) => big_no W g s i c hW hs hg
  have HB := hZ0 hb;clear hb hr hm hs h hg
  go_enter_defers Tryz.func57,Tryz.ntmps57
  go_wp2_with fail
  refine (err_any _ _ _ _ H0.out).mono ?_
  rintro e w2 ⟨rfl,rfl⟩
  go_wp2_with fail
  refine (HB.out _ H0.out).mono ?_
  rintro e w2 ⟨rfl,hr,hk⟩
  have HR := hZ0 (And.intro hr hk);clear hr hk
  go_wp2
  refine leaves_cons (f := 91) (args := #[.pointer (some ⟨w.heap.size,0,none⟩)]) (by simp) (by simp [go_sem]) ?_
  refine (catchNum _ w.heap.size g s (i,0) c [] HR.out.1 ((HX0.out.kept HR.out.2 (fun x => x)).cell 0)).mono ?_
  rintro e u w3 ⟨rfl,rfl,rfl⟩
  simp [Leaves,settle,results,Tryz.results57,go_sem]
  exact ⟨rfl,⟨Has.put_of HR.out.1.1.drew rfl,HR.out.1.2⟩,((HK0.out.then (HR.out.2.mono fun _ x => x.elim)).drew).put (.inl rfl)⟩
 | ok q =>
  obtain ⟨n,j⟩ := q
  obtain ⟨p1,p2,p3,p4⟩ := put_get hg
  rw [size_bl] at p2
  have hcv := conv_u64 most (by omega)
  have hb := fun W (hW : RdAt W g s (i,0)) => big_ok W g s i n j hW hs hg p2
  have HB := hZ0 hb;clear hb
  by_cases hlt : most < n
  ·have hr : rNum s most (i,0) = (0,(j,5)) := by
    unfold rNum rBig
    simp [hg,hlt]
   rw [hr]
   have hf := fails_no 5 (by decide)
   have HF := hZ0 hf
   clear hf hr hm hs h hg p1 p2 p3 p4
   go_enter_defers Tryz.func57,Tryz.ntmps57
   go_wp2_with fail
   refine (err_any _ _ _ _ H0.out).mono ?_
   rintro e w2 ⟨rfl,rfl⟩
   go_wp2_with fail
   refine (HB.out _ H0.out).mono ?_
   rintro e w2 ⟨rfl,hr,hk⟩
   have HR := hZ0 (And.intro hr hk);clear hr hk
   have hx2 := (HX0.out.kept HR.out.2 (by omega)).cell 0
   simp only [List.getElem?_toArray,List.getElem?_cons_zero] at hx2
   go_wp2_with fail
   refine (HF.out _).mono ?_
   rintro e w3 ⟨rfl,rfl⟩
   go_wp2
   refine leaves_cons (f := 91) (args := #[.pointer (some ⟨w.heap.size,0,none⟩)]) (by simp) (by simp [go_sem]) ?_
   refine (catchNum _ w.heap.size g s (j,0) 5 [] HR.out.1 hx2).mono ?_
   rintro e u w3 ⟨rfl,rfl,rfl⟩
   simp [Leaves,settle,results,Tryz.results57,go_sem]
   exact ⟨rfl,⟨Has.put_of HR.out.1.1.drew rfl,HR.out.1.2⟩,((HK0.out.then HR.out.2).drew).put (.inl rfl)⟩
  ·have hr : rNum s most (i,0) = (n,(j,0)) := by
    unfold rNum rBig
    simp [hg,hlt]
   rw [hr]
   have hcv2 := conv_i64 n (by omega)
   have hf := fails_ok 5
   have HF := hZ0 hf
   clear hf hr hm hs h hg p1 p2 p3 p4
   go_enter_defers Tryz.func57,Tryz.ntmps57
   go_wp2_with fail
   refine (err_any _ _ _ _ H0.out).mono ?_
   rintro e w2 ⟨rfl,rfl⟩
   go_wp2_with fail
   refine (HB.out _ H0.out).mono ?_
   rintro e w2 ⟨rfl,hr,hk⟩
   have HR := hZ0 (And.intro hr hk);clear hr hk
   have hx2 := (HX0.out.kept HR.out.2 (by omega)).cell 0
   simp only [List.getElem?_toArray,List.getElem?_cons_zero] at hx2
   go_wp2_with fail
   refine (HF.out _).mono ?_
   rintro e w3 ⟨rfl,rfl⟩
   go_wp2
   refine leaves_cons (f := 91) (args := #[.pointer (some ⟨w.heap.size,0,none⟩)]) (by simp) (by simp [go_sem]) ?_
   refine (idleNum _ w.heap.size g hx2).mono ?_
   rintro e u w3 ⟨rfl,rfl,rfl⟩
   simp [Leaves,settle,results,Tryz.results57,go_sem]
   exact ⟨rfl,⟨HR.out.1.1.drew,HR.out.1.2⟩,(HK0.out.then HR.out.2).drew⟩
end Wire
namespace Wire
open Vn Ops
theorem conv_sub (a b : Nat) (h : b <= a) (ha : a <= 9223372036854775807) (W : World) : (convert 3 22 (.int .i64 ((a : Int) - b))).run Tryz.prog W = .ok (.int .u64 ((a : Int) - b)) W := by
 have e : (a : Int) - b = ((a - b : Nat) : Int) := by omega
 rw [e]
 exact conv_u64 _ (by omega) W
theorem text_any (w : World) (g : Nat) (s : ByteArray) (r : RS) (most : Nat) (h : RdAt w g s r) (hs : s.size <= maxLen) (hm : most <= 9223372036854775807) :
  Calls Tryz.prog 137 #[.pointer (some ⟨g,0,none⟩),.int .i64 most] w (RRead w g s (.string (rText s most r).1) (rText s most r).2) := by
 have hmf : ∀ (fn : Fn) (first cap : Array Value) (w : World),(Instr.makeFunc fn first cap).run Tryz.prog w = .ok (.func fn first cap) w := fun _ _ _ _ => rfl
 have hgl := h.1.lt
 have H0 := hZ0 (h.alloc (.cells #[.pointer (some ⟨g,0,none⟩)] 118))
 have HK0 := hZ0 ((Kept.refl (fun k => k = g) w).alloc (.cells #[.pointer (some ⟨g,0,none⟩)] 118))
 have HX0 := hZ0 (Has.new w 118 #[.pointer (some ⟨g,0,none⟩)])
 obtain ⟨i,e0⟩ := r
 by_cases he : e0 = 0
 rotate_left
 ·have hr := rText_err (s := s) (most := most) (q := (i,e0)) he
  rw [hr]
  have he2 : (e0 != 0) = true := by simpa using he
  clear he hr hm hs h
  go_enter_defers Tryz.func137,Tryz.ntmps137
  go_wp2_with fail
  refine (err_any _ _ _ _ H0.out).mono ?_
  rintro e w2 ⟨rfl,rfl⟩
  go_wp2
  exact ⟨_,results_tmp rfl _ _ _,rfl,H0.out,HK0.out⟩
 subst he
 have hx0 := HX0.out.cell 0
 simp only [List.getElem?_toArray,List.getElem?_cons_zero] at hx0
 cases hg : get (bl s) i with
 | error c =>
  have hr : rText s most (i,0) = (emp,(i,(c : Int))) := by
   have := get_err hg
   have hc : ¬ c = 0 := by omega
   unfold rText rBig
   simp [hg,hc]
  rw [hr]
  have hb := fun W (hW : RdAt W g s (i,0)) => big_no W g s i c hW hs hg
  have HB := hZ0 hb;clear hb hr hm hs h hg
  go_enter_defers Tryz.func137,Tryz.ntmps137
  go_wp2_with fail
  refine (err_any _ _ _ _ H0.out).mono ?_
  rintro e w2 ⟨rfl,rfl⟩
  go_wp2_with fail
  refine (HB.out _ H0.out).mono ?_
  rintro e w2 ⟨rfl,hr,hk⟩
  have HR := hZ0 (And.intro hr hk);clear hr hk
  go_wp2
  refine leaves_cons (f := 173) (args := #[.pointer (some ⟨w.heap.size,0,none⟩)]) (by simp) (by simp [go_sem]) ?_
  refine (catchText _ w.heap.size g s (i,0) c [] HR.out.1 ((HX0.out.kept HR.out.2 (fun x => x)).cell 0)).mono ?_
  rintro e u w3 ⟨rfl,rfl,rfl⟩
  simp [Leaves,settle,results,Tryz.results137,go_sem]
  exact ⟨rfl,⟨Has.put_of HR.out.1.1.drew rfl,HR.out.1.2⟩,((HK0.out.then (HR.out.2.mono fun _ x => x.elim)).drew).put (.inl rfl)⟩
 | ok q =>
  obtain ⟨n,j⟩ := q
  obtain ⟨p1,p2,p3,p4⟩ := put_get hg
  rw [size_bl] at p2
  have hcv := conv_u64 most (by omega)
  have hb := fun W (hW : RdAt W g s (i,0)) => big_ok W g s i n j hW hs hg p2
  have HB := hZ0 hb;clear hb
  unfold maxLen at hs
  by_cases hlt : most < n
  ·have hr : rText s most (i,0) = (emp,(j,3)) := by
    unfold rText rBig
    simp [hg,hlt]
   rw [hr]
   have hf := fails_no 3 (by decide)
   have HF := hZ0 hf
   clear hf hr hm hs h hg p1 p2 p3 p4
   go_enter_defers Tryz.func137,Tryz.ntmps137
   go_wp2_with fail
   refine (err_any _ _ _ _ H0.out).mono ?_
   rintro e w2 ⟨rfl,rfl⟩
   go_wp2_with fail
   refine (HB.out _ H0.out).mono ?_
   rintro e w2 ⟨rfl,hr,hk⟩
   have HR := hZ0 (And.intro hr hk);clear hr hk
   have hx2 := (HX0.out.kept HR.out.2 (by omega)).cell 0
   simp only [List.getElem?_toArray,List.getElem?_cons_zero] at hx2
   go_wp2_with fail
   refine (HF.out _).mono ?_
   rintro e w3 ⟨rfl,rfl⟩
   go_wp2
   refine leaves_cons (f := 173) (args := #[.pointer (some ⟨w.heap.size,0,none⟩)]) (by simp) (by simp [go_sem]) ?_
   refine (catchText _ w.heap.size g s (j,0) 3 [] HR.out.1 hx2).mono ?_
   rintro e u w3 ⟨rfl,rfl,rfl⟩
   simp [Leaves,settle,results,Tryz.results137,go_sem]
   exact ⟨rfl,⟨Has.put_of HR.out.1.1.drew rfl,HR.out.1.2⟩,((HK0.out.then HR.out.2).drew).put (.inl rfl)⟩
  have hf3 := fails_ok 3
  have HF3 := hZ0 hf3;clear hf3
  have hcv3 := conv_sub s.size j p2 hs
  by_cases hsh : s.size - j < n
  ·have hr : rText s most (i,0) = (emp,(j,2)) := by
    unfold rText rBig
    simp [hg,hlt,hsh]
   rw [hr]
   have hsh2 : decide ((s.size : Int) - j < n) = true := decide_eq_true (by omega)
   have hf : ∀ W,Calls Tryz.prog 94 #[.bool (decide ((s.size : Int) - j < n)),.int .i64 2] W fun e w' => e = thrown 2 /\ W = w' := by rw [hsh2];exact fails_no 2 (by decide)
   have HF := hZ0 hf
   clear hsh2 hf hr hm h hg p1 p3 p4 hsh
   go_enter_defers Tryz.func137,Tryz.ntmps137
   go_wp2_with fail
   refine (err_any _ _ _ _ H0.out).mono ?_
   rintro e w2 ⟨rfl,rfl⟩
   go_wp2_with fail
   refine (HB.out _ H0.out).mono ?_
   rintro e w2 ⟨rfl,hr,hk⟩
   have HR := hZ0 (And.intro hr hk);clear hr hk
   have hx2 := (HX0.out.kept HR.out.2 (by omega)).cell 0
   have c0 := HR.out.1.1.cell 0
   have c1 := HR.out.1.1.cell 1
   simp only [List.getElem?_toArray,List.getElem?_cons_zero,List.getElem?_cons_succ] at hx2 c0 c1
   go_wp2_with fail
   refine (HF3.out _).mono ?_
   rintro e w3 ⟨rfl,rfl⟩
   go_wp2_with fail
   refine wp_region_still_tail 13 (by kernel_rfl) (by kernel_rfl) ?_
   simp only [List.take_succ_cons,List.take_zero,List.drop_succ_cons,List.drop_zero]
   change wpStill _ _ (World.drew w2) _ _ _
   repeat still_step
   refine wpStill_nil ?_
   change wpList _ _ _ _ _ (World.drew w2)
   go_wp2_with fail
   refine (HF.out _).mono ?_
   rintro e w3 ⟨rfl,rfl⟩
   go_wp2
   refine leaves_cons (f := 173) (args := #[.pointer (some ⟨w.heap.size,0,none⟩)]) (by simp) (by simp [go_sem]) ?_
   refine (catchText _ w.heap.size g s (j,0) 2 [] ⟨HR.out.1.1.drew,HR.out.1.2⟩ hx2).mono ?_
   rintro e u w3 ⟨rfl,rfl,rfl⟩
   simp [Leaves,settle,results,Tryz.results137,go_sem]
   exact ⟨rfl,⟨Has.put_of HR.out.1.1.drew rfl,HR.out.1.2⟩,((HK0.out.then HR.out.2).drew.drew).put (.inl rfl)⟩
  ·have hr : rText s most (i,0) = (s.extract j (j + n),(j + n,0)) := by
    unfold rText rBig
    simp [hg,hlt,hsh]
   rw [hr]
   have hcv2 := conv_i64 n (by omega)
   have hsh2 : decide ((s.size : Int) - j < n) = false := decide_eq_false (by omega)
   have hf : ∀ W,Calls Tryz.prog 94 #[.bool (decide ((s.size : Int) - j < n)),.int .i64 2] W fun e w' => e = .returned (.tuple #[]) /\ W = w' := by rw [hsh2];exact fails_ok 2
   have HF := hZ0 hf
   clear hsh2
   have hto : (j : Int) + n <= s.size := by omega
   have hw : IntKind.i64.wrap ((j : Int) + n) = (j : Int) + n := IntWalk.i64_in _ (by omega)
   have htn : ((j : Int) + n).toNat = j + n := by omega
   have ht0 : (0 : Int) <= (j : Int) + n := by omega
   have ht1 : (j : Int) <= (j : Int) + n := by omega
   clear hf hr hm h hg p1 p3 p4 hsh
   go_enter_defers Tryz.func137,Tryz.ntmps137
   go_wp2_with fail
   refine (err_any _ _ _ _ H0.out).mono ?_
   rintro e w2 ⟨rfl,rfl⟩
   go_wp2_with fail
   refine (HB.out _ H0.out).mono ?_
   rintro e w2 ⟨rfl,hr,hk⟩
   have HR := hZ0 (And.intro hr hk);clear hr hk
   have hx2 := (HX0.out.kept HR.out.2 (by omega)).cell 0
   have c0 := HR.out.1.1.cell 0
   have c1 := HR.out.1.1.cell 1
   have f1 := HR.out.1.1.frozen 1
   simp only [List.getElem?_toArray,List.getElem?_cons_zero,List.getElem?_cons_succ] at hx2 c0 c1
   go_wp2_with fail
   refine (HF3.out _).mono ?_
   rintro e w3 ⟨rfl,rfl⟩
   go_wp2_with fail
   refine wp_region_still_tail 13 (by kernel_rfl) (by kernel_rfl) ?_
   simp only [List.take_succ_cons,List.take_zero,List.drop_succ_cons,List.drop_zero]
   change wpStill _ _ (World.drew w2) _ _ _
   repeat still_step
   refine wpStill_nil ?_
   change wpList _ _ _ _ _ (World.drew w2)
   go_wp2_with fail
   refine (HF.out _).mono ?_
   rintro e w3 ⟨rfl,rfl⟩
   go_wp2_with fail
   refine wp_region_still_tail 15 (by kernel_rfl) (by kernel_rfl) ?_
   simp only [List.take_succ_cons,List.take_zero,List.drop_succ_cons,List.drop_zero]
   change wpStill _ _ (World.drew w2.drew) _ _ _
   repeat still_step
   refine wpStill_nil ?_
   change wpList _ _ _ _ _ (World.drew w2.drew)
   go_wp2
   refine leaves_cons (f := 173) (args := #[.pointer (some ⟨w.heap.size,0,none⟩)]) (by simp) (by simp [go_sem]) ?_
   refine (idleText _ w.heap.size g ?_).mono ?_
   ·exact (((HX0.out.kept HR.out.2 (by omega)).past (by omega)).cell 0)
   rintro e u w3 ⟨rfl,rfl,rfl⟩
   simp [Leaves,settle,results,Tryz.results137,go_sem]
   exact ⟨rfl,⟨Has.put_of HR.out.1.1 rfl,by omega⟩,((HK0.out.then HR.out.2).put (.inl rfl)).drew.drew.drew⟩
end Wire
end Go.Proofs.YtgbigpdiacjbgaaGreat
