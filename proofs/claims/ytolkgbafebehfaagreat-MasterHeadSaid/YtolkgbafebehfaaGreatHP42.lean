/- Part 43 of what the proof needs. -/
import Derived.Test.YtolkgbafebehfaaGreatHP41
set_option linter.unusedSimpArgs false
set_option linter.unusedVariables false
set_option maxHeartbeats 32000000
set_option maxRecDepth 100000
namespace Go.Proofs.YtolkgbafebehfaaGreat
open Go.RowKit
set_option maxRecDepth 100000
namespace Mas
open Plan Vn Mst Wat IM Nte Msg
def npin (p : PinR) : NoteR := nt 6 0 p ⟨0,0,[]⟩
def granted (l : List PinR) (id at' : Int) : List PinR := if Lea.grantE l id = 0 then l ++ [⟨id,at',8⟩] else []
def pinM (M : MR) (at' : Int) : MR := if at' < M.st.hz then M else if applyE M.st (npin ⟨M.st.top + 1,at',8⟩) ≠ 0 then M else { writeM M (npin ⟨M.st.top + 1,at',8⟩) with pins := granted M.pins (M.st.top + 1) at' }
def pinV (M : MR) (at' : Int) : Int × Int := if at' < M.st.hz then (0,13) else if applyE M.st (npin ⟨M.st.top + 1,at',8⟩) ≠ 0 then (0,applyE M.st (npin ⟨M.st.top + 1,at',8⟩)) else (M.st.top + 1,0)
section
variable {w w' : World} {X X0 : MX} {M M0 : MR} {c k : Nat}
theorem npin_off (F : Nat -> Prop) (p : PinR) : NOff F (npin p) := ⟨fun h => absurd h (Nat.lt_irrefl _),fun h => absurd h (Nat.lt_irrefl _),fun h => absurd h (Nat.lt_irrefl _)⟩
theorem granted_len (l : List PinR) (id at' : Int) : (granted l id at').length <= 3 := by
 unfold granted
 split
 ·rename_i h
  unfold Lea.grantE at h
  split at h
  ·cases h
  ·rw [List.length_append];simp only [List.length_singleton];omega
 ·exact Nat.zero_le _
theorem MOk.pinM (h : MOk M k) (at' : Int) (ha : 0 <= at' /\ at' <= maxTs) : MOk (Mas.pinM M at') k := by
 unfold Mas.pinM
 split
 ·exact h
 ·split
  ·exact h
  ·have h1 := h.write (nu_nt 6 0 ⟨M.st.top + 1,at',8⟩ ha (by have := h.st.inv.top;dsimp only;omega))
   refine ⟨h1.st,granted_len _ _ _,fun p hp => ?_,h1.wat,h1.last,h1.marks,h1.serial,h1.cnt⟩
   dsimp only [granted] at hp
   split at hp
   ·rcases List.mem_append.1 hp with y | y
    ·exact h.pin p y
    ·simp only [List.mem_singleton] at y;subst y;exact ⟨by show (0:Int) <= 8;decide,by show (8:Int) <= 8;decide,ha.1,ha.2⟩
   ·cases hp
theorem pinM_out (M : MR) (at' : Int) : (pinM M at').out = M.out := by
 unfold pinM
 split
 ·rfl
 ·split
  ·rfl
  ·exact writeM_out _ _
theorem grant_any (w : World) (A : Option Addr) (c : Nat) (l : List PinR) (id at' : Int) (hl : Src w 3 A l.length (pcells l)) (hlc : l.length <= c) :
  Calls Tryz.prog 342 #[.slice A l.length c,.int .i64 id,.int .u64 at'] w fun e w' => ∃ A' c' z,e = .returned (.tuple #[.slice A' (granted l id at').length c',.int .i64 z]) /\ NewSl 79 3 w.heap.size w' A' (granted l id at').length c' (pcells (granted l id at')) /\ Kept NoF w w' := by
 by_cases h0 : Lea.grantE l id = 0
 ·refine (Lea.grant_ok w A c l id at' hl hlc h0).mono ?_
  rintro e w' ⟨A',c',rfl,h1,h2⟩
  have e1 : granted l id at' = l ++ [⟨id,at',8⟩] := if_pos h0
  rw [e1,List.length_append]
  exact ⟨A',c',0,rfl,h1,h2⟩
 ·refine (Lea.grant_bad w A c l id at' hl hlc h0).mono ?_
  rintro e w' ⟨rfl,hk⟩
  have e1 : granted l id at' = [] := if_neg h0
  rw [e1]
  exact ⟨none,0,_,rfl,NewSl.nil _ _ _ _,hk⟩
theorem pin_any (h : MAt w X M) (hb : LgB X M.lg c) (hc : c <= 4000) (hm : MOk M k) (at' : Int) (ha : 0 <= at' /\ at' <= maxTs) :
  Calls Tryz.prog 248 #[.pointer (some ⟨X.mb,0,none⟩),.int .u64 at'] w (MPost w X M c (.tuple #[.int .i64 (pinV M at').1,.int .i64 (pinV M at').2]) (pinM M at') 1) := by
 have q2 : ∀ W,Kept NoF w W -> W.cell? ⟨X.mb,2,none⟩ = some (.pointer (some ⟨X.sb,0,none⟩)) := fun W hW => (h.quiet hW).cell (i := 2) rfl
 have hho : ∀ W,Kept NoF w W -> Calls Tryz.prog 69 #[.pointer (some ⟨X.sb,0,none⟩)] W fun e w' => e = .returned (.int .u64 M.st.hz) /\ Kept NoF W w' := fun W hW => horizon_at ((h.quiet hW).c 2)
 have hto : ∀ W,Kept NoF w W -> Calls Tryz.prog 341 #[.pointer (some ⟨X.sb,0,none⟩)] W fun e w' => e = .returned (.int .i64 M.st.top) /\ Kept NoF W w' := fun W hW => top_at ((h.quiet hW).c 2)
 have htop := hm.st.inv.top
 by_cases h1 : at' < M.st.hz
 ·have e1 : pinM M at' = M := if_pos h1
  have e2 : pinV M at' = (0,13) := if_pos h1
  rw [e1,e2]
  have hfin : ∀ W,Kept NoF w W -> MPost w X M c (.tuple #[.int .i64 0,.int .i64 13]) M 1 (.returned (.tuple #[.int .i64 0,.int .i64 13])) W := fun W hW => ⟨rfl,X,Step.refl h hW,hb.mono (Nat.le_succ _)⟩
  have z2 := q2 w (Kept.refl _ _)
  obtain ⟨hz,hhz⟩ : ∃ hz,M.st.hz = hz := ⟨_,rfl⟩
  rw [hhz] at h1 hho
  have HF := hZ0 hfin;have HH := hZ0 hho
  clear hfin hho h hb hc hm ha q2 hto htop e1 e2 hhz
  go_enter Tryz.func248,Tryz.ntmps248
  go_wp2_with fail
  refine (HH.out _ (Kept.refl _ _)).mono ?_
  rintro e w2 ⟨rfl,hk⟩
  have HFF := hZ0 (HF.out _ hk)
  clear z2 hk
  go_wp2
  go_ret2
  exact HFF.out
 ·obtain ⟨top,htp⟩ : ∃ top,M.st.top = top := ⟨_,rfl⟩
  have hwrap : IntKind.i64.wrap (top + 1) = top + 1 := IntWalk.i64_in _ (by rw [<- htp];omega)
  have hPM : pinM M at' = if applyE M.st (npin ⟨top + 1,at',8⟩) ≠ 0 then M else { writeM M (npin ⟨top + 1,at',8⟩) with pins := granted M.pins (top + 1) at' } := by unfold pinM;rw [if_neg h1,htp]
  have hPV : pinV M at' = if applyE M.st (npin ⟨top + 1,at',8⟩) ≠ 0 then (0,applyE M.st (npin ⟨top + 1,at',8⟩)) else (top + 1,0) := by unfold pinV;rw [if_neg h1,htp]
  rw [htp] at hto
  have hwr : ∀ W,Kept NoF w W -> Calls Tryz.prog 44 #[.pointer (some ⟨X.mb,0,none⟩),.agg (ncell (npin ⟨top + 1,at',8⟩)).toArray] W fun e w' => e = .returned (.int .i64 (applyE M.st (npin ⟨top + 1,at',8⟩))) /\ ∃ X',Step W X M w' X' (writeM M (npin ⟨top + 1,at',8⟩)) /\ LgB X' (writeM M (npin ⟨top + 1,at',8⟩)).lg (c + 1) := fun W hW => by
   refine (write_any (h.quiet hW) hb hc hm.st.inv.ok (npin ⟨top + 1,at',8⟩) (nt_ok _ _ _ _ _ _) (nu_nt _ _ _ ha (by dsimp only;omega)) (npin_off _ _)).mono ?_
   rintro e w' ⟨rfl,h⟩
   exact ⟨rfl,h⟩
  have hgr := grant_any
  obtain ⟨N,hN⟩ : ∃ N,N = npin ⟨top + 1,at',8⟩ := ⟨_,rfl⟩
  obtain ⟨E,hE⟩ : ∃ E,applyE M.st (npin ⟨top + 1,at',8⟩) = E := ⟨_,rfl⟩
  obtain ⟨M1,hM1⟩ : ∃ M1,writeM M (npin ⟨top + 1,at',8⟩) = M1 := ⟨_,rfl⟩
  have hMb : E ≠ 0 -> M1 = M := fun h0 => by rw [<- hM1];exact if_neg (by rw [hE];exact h0)
  have hMp : M1.pins = M.pins := by rw [<- hM1];unfold writeM;split <;> rfl
  rw [hE,hM1] at hPM
  rw [hE] at hPV
  simp only [hE,hM1] at hwr
  simp only [npin,nt,ncell,List.length_nil,ans0] at hwr
  obtain ⟨Q,hQ⟩ : ∃ Q,MPost w X M c (.tuple #[.int .i64 (pinV M at').1,.int .i64 (pinV M at').2]) (pinM M at') 1 = Q := ⟨_,rfl⟩
  rw [hQ]
  have hQbad : E ≠ 0 -> ∀ W X5,Step w X M W X5 M1 -> LgB X5 M1.lg (c + 1) -> Q (.returned (.tuple #[.int .i64 0,.int .i64 E])) W := fun h0 W X5 h1 h2 => by
   rw [hPM,hPV,if_pos h0,if_pos h0] at hQ
   rw [<- hQ]
   rw [hMb h0] at h1 h2
   exact ⟨rfl,X5,h1,h2⟩
  have hQok : E = 0 -> ∀ W X5,Step w X M W X5 { M1 with pins := granted M.pins (top + 1) at' } -> LgB X5 M1.lg (c + 1) -> Q (.returned (.tuple #[.int .i64 (top + 1),.int .i64 0])) W := fun h0 W X5 h1 h2 => by
   rw [hPM,hPV,if_neg (fun h => h h0),if_neg (fun h => h h0)] at hQ
   rw [<- hQ]
   exact ⟨rfl,X5,h1,h2⟩
  have HQB := hZ0 hQbad;have HQO := hZ0 hQok;clear hQbad hQok hQ
  have z2 := q2 w (Kept.refl _ _)
  obtain ⟨hz,hhz⟩ : ∃ hz,M.st.hz = hz := ⟨_,rfl⟩
  rw [hhz] at h1 hho
  have HH := hZ0 hho;have HT := hZ0 hto;have HW := hZ0 hwr;have HQ2 := hZ0 q2;have H := hZ0 h;have HB := hZ0 hb;have HMB := hZ0 hMb;have HMP := hZ0 hMp;have HM := hZ0 hm
  clear hho hto hwr q2 h hb hc hm ha hhz hPM hPV hE hM1 hMb hMp htp htop hN N hgr
  go_enter Tryz.func248,Tryz.ntmps248
  go_wp2_with fail
  refine (HH.out _ (Kept.refl _ _)).mono ?_
  rintro e w2 ⟨rfl,hk2⟩
  clear z2
  have z2 := HQ2.out _ hk2
  have HK2 := hZ0 hk2;clear hk2
  go_wp2_with fail
  refine (HT.out _ HK2.out).mono ?_
  rintro e w3 ⟨rfl,hk3⟩
  clear z2
  obtain ⟨W4,hW4⟩ : ∃ W4,w3.alloc (.cells #[.int .i64 (top + 1),.int .u64 at',.int .i64 8] 79) = W4 := ⟨_,rfl⟩
  have hk4 : Kept NoF w W4 := by rw [<- hW4];(repeat' (first | (with_reducible first | exact kR0 | apply kP0 | apply kN0 | apply kD0 | apply kA0) | (exact HK2.out.then hk3) | (right;simp;done)))
  have hn4 : Has W4 w3.heap.size 79 #[.int .i64 (top + 1),.int .u64 at',.int .i64 8] := by rw [<- hW4];exact Has.new _ _ _
  have hoff : ¬ foot X M w3.heap.size := fun hf => by have := H.out.lt hf;have := HK2.out.size;have := hk3.size;omega
  obtain ⟨pb,hpb⟩ : ∃ pb,w3.heap.size = pb := ⟨_,rfl⟩
  rw [hpb] at hn4 hoff
  have p0 : W4.cell? ⟨pb,0,none⟩ = some (.int .i64 (top + 1)) := hn4.cell 0
  have p1 : W4.cell? ⟨pb,1,none⟩ = some (.int .u64 at') := hn4.cell 1
  have p2 : W4.cell? ⟨pb,2,none⟩ = some (.int .i64 8) := hn4.cell 2
  have hwr := HW.out _ hk4
  have HWR := hZ0 hwr;have HK4 := hZ0 hk4;have HN4 := hZ0 hn4;have HOFF := hZ0 hoff
  clear hwr hk4 hn4 hoff hk3
  go_wp2_with fail
  clear p0 p1 p2 hW4
  refine HWR.out.mono ?_
  rintro e w5 ⟨rfl,X5,hst,hlb⟩
  have s5 := (Step.refl H.out HK4.out).trans hst
  obtain ⟨hn5,ho5⟩ := hst.has HN4.out HOFF.out
  have hze : E = 0 \/ E ≠ 0 := by omega
  rcases hze with hE0 | hE0
  rotate_left
  ·have hz0 : (E != 0) = true := by simpa using hE0
   have HF := hZ0 (HQB.out hE0 _ _ s5 hlb)
   clear s5 hlb hst hn5 ho5 hE0
   go_wp2
   exact HF.out
  ·subst hE0
   have HQOK := hZ0 (HQO.out rfl)
   have z3 : w5.cell? ⟨X.mb,3,none⟩ = some (.slice X5.pA M.pins.length X5.pc) := by
    have := s5.at'.cell (i := 3) (v := .slice X5.pA M1.pins.length X5.pc) rfl
    rw [s5.mb,HMP.out] at this;exact this
   have f3 : w5.frozen? ⟨X.mb,3,none⟩ = false := by
    have := Has.frozen (s5.at'.c 0) 3
    rw [s5.mb] at this;exact this
   have p5 : w5.cell? ⟨pb,0,none⟩ = some (.int .i64 (top + 1)) := hn5.cell 0
   have hsrc : Src w5 3 X5.pA M.pins.length (pcells M.pins) := by
    have := Src.of_own (s5.at'.c 3)
    rw [HMP.out] at this;exact this
   have hcap : M.pins.length <= X5.pc := by
    have := (own_cap (s5.at'.c 3)).1
    rw [HMP.out] at this;exact this
   have hgr : ∀ W,Kept NoF w5 W -> _ := fun W hW => grant_any W X5.pA X5.pc M.pins (top + 1) at' (hsrc.kept hW (fun _ _ z => z)) hcap
   have hz3 : ∀ W,Kept NoF w5 W -> W.cell? ⟨X.mb,3,none⟩ = some (.slice X5.pA M.pins.length X5.pc) /\ W.frozen? ⟨X.mb,3,none⟩ = false /\ W.cell? ⟨pb,0,none⟩ = some (.int .i64 (top + 1)) := fun W hW => by
    refine ⟨?_,?_,(hn5.kept hW (fun z => z)).cell 0⟩
    ·have := (s5.at'.quiet hW).cell (i := 3) (v := .slice X5.pA M1.pins.length X5.pc) rfl
     rw [s5.mb,HMP.out] at this;exact this
    ·have := Has.frozen ((s5.at'.quiet hW).c 0) 3
     rw [s5.mb] at this;exact this
   have HGR := hZ0 hgr;have HZ3 := hZ0 hz3;have HS5 := hZ0 s5;have HLB := hZ0 hlb;have HN5 := hZ0 hn5;have HO5 := hZ0 ho5
   clear hgr hz3 s5 hlb hst hn5 ho5 hsrc hcap
   go_wp2_with fail
   go_region_with (go_at_call 342;refine (HGR.out _ (by (repeat' (first | (with_reducible first | exact kR0 | apply kP0 | apply kN0 | apply kD0 | apply kA0) | (right;simp;done))))).mono ?_;rintro e w6 ⟨A6,c6,zz,rfl,hn6,hk6⟩;have hkk := Kept.then (F := NoF) (a := w5) (by (repeat' (first | (with_reducible first | exact kR0 | apply kP0 | apply kN0 | apply kD0 | apply kA0) | (right;simp;done)))) hk6;obtain ⟨z6,f6,p6⟩ := HZ3.out _ hkk;have HN6 := hZ0 hn6;have HK6 := hZ0 hkk;clear hn6 hk6 hkk)
   all_goals (
    clear z6 f6 z3 f3 p5
    have hne : ¬ X.mb = pb := fun e => HO5.out ⟨0,by rw [<- HS5.out.mb] at e;exact e.symm⟩
    have hs6 := Step.setPins (HS5.out.quiet HK6.out) HN6.out.1 (fun k hk => by
     have h1 := HN6.out.2 k hk
     have h2 := HS5.out.k.size
     have h3 : w5.heap.size <= k := h1
     exact ⟨Nat.le_trans h2 h3,fun hf => by have := HS5.out.at'.lt hf;omega⟩)
    rw [HS5.out.mb] at hs6
    have HF := hZ0 (HQOK.out _ _ hs6 ⟨HLB.out.n,HLB.out.f,HLB.out.l,HLB.out.hd⟩)
    clear hs6
    go_wp2
    exact HF.out)
end
end Mas
end Go.Proofs.YtolkgbafebehfaaGreat
