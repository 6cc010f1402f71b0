/- Part 48 of what the proof needs. -/
import Derived.Test.YtgffjliedjhbaaaGreatZS46
set_option linter.unusedSimpArgs false
set_option linter.unusedVariables false
set_option maxHeartbeats 32000000
set_option maxRecDepth 100000
namespace Go.Proofs.YtgffjliedjhbaaaGreat
open Go.RowKit
set_option maxRecDepth 100000
namespace Mas
open Plan Vn Mst Wat IM Nte Msg
theorem size_lg {w : World} {X : MX} {L : LgM} (h : PtM w X L) : Pt.szN (fun j => (Disk.dataOf X.m X.ps (L.first + j)).size) (Wl.cur L.R L.T).length = L.size := by
 unfold LgM.size
 congr 1
 funext j
 rw [(h.log.file j).2,<- Ops.size_bl,Ops.bl_ofL]
theorem NU_notes {s : StR} (hu : SU s) (pre : List NoteR) (hp : ∀ x ∈ pre,NU x) : ∀ x ∈ pre ++ s.pins.map pnote ++ upart s ++ [hnote s.hz] ++ sparts (told3 s),NU x := by
 intro x hx
 have z : (0 : Int) <= 0 /\ (0 : Int) <= maxTs := by decide
 simp only [List.mem_append,List.mem_map,List.mem_singleton] at hx
 rcases hx with (((hx | ⟨p,hp2,rfl⟩) | hx) | rfl) | hx
 ·exact hp x hx
 ·exact ⟨z,hu.pin p hp2,z,z⟩
 ·unfold upart at hx
  split at hx
  ·cases hx
  ·rw [List.mem_singleton.1 hx];exact ⟨z,z,z,z⟩
 ·exact ⟨hu.hz,z,z,z⟩
 ·unfold sparts at hx
  obtain ⟨a,_,rfl⟩ := List.mem_map.1 hx
  exact ⟨z,z,z,z⟩
theorem ok_nil {w : World} {x : NoteR} (h1 : x.ms = []) (h2 : x.lg = []) (h3 : x.b.ops = []) : NOk w x := by
 refine ⟨?_,?_,?_,?_,?_,?_,?_⟩
 ·rw [h1];exact Src.nil _ _ _
 ·rw [h1];exact Nat.zero_le _
 ·rw [h1];exact Nat.zero_le _
 ·rw [h2];exact Src.nil _ _ _
 ·rw [h2];exact Nat.zero_le _
 ·rw [h2];exact Nat.zero_le _
 ·rw [h3];exact Src.nil _ _ _
theorem NOk_notes {w : World} {s : StR} {pre : List NoteR} (hok : SOk s) (hp : PreAt w s pre) : ∀ x ∈ pre ++ s.pins.map pnote ++ upart s ++ [hnote s.hz] ++ sparts (told3 s),NOk w x := by
 intro x hx
 simp only [List.mem_append,List.mem_map,List.mem_singleton] at hx
 rcases hx with (((hx | ⟨p,hp2,rfl⟩) | hx) | rfl) | hx
 ·rcases hp with ⟨rfl,_⟩ | ⟨_,A,c,B,d,rfl,h1,h2⟩
  ·cases hx
  ·rw [List.mem_singleton.1 hx]
   exact ⟨Src.of_own h1,(own_cap h1).1,hok.m,Src.of_own h2,(own_cap h2).1,hok.l,Src.nil _ _ _⟩
 ·exact ok_nil rfl rfl rfl
 ·unfold upart at hx
  split at hx
  ·cases hx
  ·rw [List.mem_singleton.1 hx];exact ok_nil rfl rfl rfl
 ·exact ok_nil rfl rfl rfl
 ·unfold sparts at hx
  obtain ⟨a,_,rfl⟩ := List.mem_map.1 hx
  exact ok_nil rfl rfl rfl
theorem NU_pre {w : World} {s : StR} {pre : List NoteR} (hu : SU s) (hp : PreAt w s pre) : ∀ x ∈ pre,NU x := by
 have z : (0 : Int) <= 0 /\ (0 : Int) <= maxTs := by decide
 rcases hp with ⟨rfl,_⟩ | ⟨_,A,c,B,d,rfl,h1,h2⟩
 ·intro x hx;cases hx
 ·intro x hx
  rw [List.mem_singleton.1 hx]
  exact ⟨z,z,hu.fl,z⟩
theorem pre_len {w : World} {s : StR} {pre : List NoteR} (hp : PreAt w s pre) : pre.length <= 1 := by
 rcases hp with ⟨rfl,_⟩ | ⟨_,A,c,B,d,rfl,h1,h2⟩
 ·exact Nat.zero_le _
 ·exact Nat.le_refl _
section
variable {w w' : World} {X X0 : MX} {M M0 : MR} {c : Nat}
def NTPost (w : World) (TX : List ByteArray) (e : Ending) (w' : World) : Prop := ∃ A d,e = .returned (.slice A TX.length d) /\ NewSl 9 1 w.heap.size w' A TX.length d (TX.map Value.string) /\ Kept NoF w w'
def NPost (w : World) (s : StR) (e : Ending) (w' : World) : Prop := ∃ A d pre l,e = .returned (.slice A l.length d) /\ OutAt w s w' pre l A d /\ l = pre ++ s.pins.map pnote ++ upart s ++ [hnote s.hz] ++ sparts (told3 s)
theorem texts_of (w : World) (s : StR) (TX : List ByteArray) (hT : textsL (notesM s) = TX) (A : Option Addr) (d : Nat) (pre l : List NoteR) (w0 : World) (hs : OutAt w0 s w pre l A d) (hl : l = pre ++ s.pins.map pnote ++ upart s ++ [hnote s.hz] ++ sparts (told3 s)) (hok : SOk s) (hu : SU s) (hp : s.pins.length <= 3) :
  Calls Tryz.prog 93 #[.slice A l.length d] w (NTPost w TX) := by
 have hlen := notes_len s pre (pre_len hs.pre)
 have hE := texts_pre hs.pre
 rw [<- hl] at hE hlen
 unfold NTPost
 rw [<- hT,<- hE]
 exact texts_any w A d _ (Src.of_own hs.own) (by omega) (fun x hx => ⟨NOk_notes hok hs.pre x (by rw [<- hl];exact hx),NU_notes hu pre (NU_pre hu hs.pre) x (by rw [<- hl];exact hx)⟩)
theorem textsM_len (s : StR) : (textsL (notesM s)).length <= s.pins.length + 6 := by
 refine Nat.le_trans (textsL_len _) ?_
 unfold notesM
 refine notes_len s _ ?_
 split <;> simp
theorem textsM_size {s : StR} (hu : SU s) : ∀ t ∈ textsL (notesM s),t.size < 65536 := by
 intro t ht
 unfold textsL at ht
 obtain ⟨x,hx,rfl⟩ := List.mem_map.1 ht
 have hm := (List.mem_filter.1 hx).1
 have z : (0 : Int) <= 0 /\ (0 : Int) <= maxTs := by decide
 have := noteB_len (NU_notes hu (if 0 < s.ep then [cnote s none 0 none 0] else []) (fun x hx => by
  split at hx
  ·rw [List.mem_singleton.1 hx];exact ⟨z,z,hu.fl,z⟩
  ·cases hx) x hm)
 omega
theorem NewSl.lower {e : TypeId} {size B B' n d : Nat} {w : World} {A : Option Addr} {xs : List Value} (h : NewSl e size B w A n d xs) (hB : B' <= B) : NewSl e size B' w A n d xs := ⟨h.1,fun k hk => Nat.le_trans hB (h.2 k hk)⟩
theorem done_save {w3 : World} {X3 : MX} {L : LgM} (TX : List ByteArray) (hT : textsL (notesM M.st) = TX) (hst : Step w X M w3 X3 { M with lg := L }) (hlb : LgB X3 L c) (hc : c <= 4000) (hu : SU M.st) (hp3 : M.st.pins.length <= 3) :
  ∀ (W : World) (A : Option Addr) (d : Nat),Kept NoF w3 W -> NewSl 9 1 w3.heap.size W A TX.length d (TX.map Value.string) ->
   Calls Tryz.prog 92 #[.pointer (some ⟨X.gp,0,none⟩),.slice A TX.length d] W fun e w' => e = .returned (.int .i64 0) /\ ∃ X',Step w X M w' X' { M with lg := L.save TX } /\ LgB X' (L.save TX) (c + 1) := fun W A d hW hr => by
 subst hT
 have hm := hst.at'.quiet hW
 have hlen := textsM_len M.st
 have hsv := msave_any hm (c := c) hlb (by omega) A d (textsL (notesM M.st)) (Src.of_own hr.1) (fun h0 ad e hf => by
  obtain ⟨g,cap,hv,_,hlt⟩ := hr.1.form h0
  rw [e] at hv
  injection hv with hv
  injection hv with hv
  have h1 := hst.at'.lt hf
  have h2 := hr.2 g (by rw [e,hv];rfl)
  rw [hv] at h1
  dsimp only at h1
  omega) (textsM_size hu) (by omega)
 rw [hst.gp] at hsv
 refine hsv.mono ?_
 rintro e w' ⟨he,X',h1,h2⟩
 exact ⟨he,X',(hst.quiet hW).trans h1,h2⟩
theorem done_fin {w6 : World} {X6 : MX} {L : LgM} (hst : Step w X M w6 X6 { M with lg := L }) (hL : doneM M = { M with lg := L,out := [] }) (hlb : LgB X6 L (c + 1)) :
  DonePost w X M c (.returned (.slice X6.oA M.out.length X6.oc)) (w6.setCell ⟨X.mb,11,none⟩ (.slice none 0 0)) := by
 have hmb := hst.mb
 have hcl := hst.clearOut
 have e0 : (⟨X.mb,11,none⟩ : Addr) = ⟨X6.mb,11,none⟩ := by rw [hmb]
 rw [e0]
 have hrow : w6.ownsRow 0 409 2 (.slice X6.oA M.out.length X6.oc) M.out.length (ocells M.out) := hst.at'.c 10
 refine ⟨X6.oA,X6.oc,rfl,own_kept (F := fun k => k = X6.mb) hrow ((Kept.refl _ w6).put (.inl rfl)) (fun g hg e => absurd (hst.at'.ap 0 10 g e hg) (by decide)),fun k hk => hst.g k ⟨10,hk⟩,{ X6 with oA := none,oc := 0 },?_,?_,?_⟩
 ·rw [hL];exact hcl
 ·rw [hL];exact ⟨hlb.n,hlb.f,hlb.l,hlb.hd⟩
 ·rw [hL]
  rintro k hk ⟨i,hi⟩
  have h10 : parts X6 { M with lg := L } 10 k := hk
  rcases i with _ | _ | _ | _ | _ | _ | _ | _ | _ | _ | _ | i
  ·exact absurd (hst.at'.ap 0 10 k hi h10) (by decide)
  ·exact absurd (hst.at'.ap 1 10 k hi h10) (by decide)
  ·exact absurd (hst.at'.ap 2 10 k hi h10) (by decide)
  ·exact absurd (hst.at'.ap 3 10 k hi h10) (by decide)
  ·exact absurd (hst.at'.ap 4 10 k hi h10) (by decide)
  ·exact absurd (hst.at'.ap 5 10 k hi h10) (by decide)
  ·exact absurd (hst.at'.ap 6 10 k hi h10) (by decide)
  ·exact absurd (hst.at'.ap 7 10 k hi h10) (by decide)
  ·exact absurd (hst.at'.ap 8 10 k hi h10) (by decide)
  ·exact absurd (hst.at'.ap 9 10 k hi h10) (by decide)
  ·simp [parts,Value.ownBlock] at hi
  ·exact hi
theorem done_any (h : MAt w X M) (hb : LgB X M.lg c) (hc : c <= 4000) (hok : SOk M.st) (hu : SU M.st) (hp3 : M.st.pins.length <= 3) :
  Calls Tryz.prog 43 #[.pointer (some ⟨X.mb,0,none⟩)] w (DonePost w X M c) := by
 have hp : PtM w X M.lg := h.c 1
 have hfits := LgB.fits hb h (by omega)
 have hpend := Disk.pending_any hp.d (by have := hfits.len;omega) (by have := hfits.total;omega)
 have q0 : ∀ W,Kept NoF w W -> W.cell? ⟨X.mb,0,none⟩ = some (.pointer (some ⟨X.g,0,none⟩)) := fun W hW => Has.cell ((h.quiet hW).c 0) 0
 have hsync := fun W (hW : Kept NoF w W) => msync_any (h.quiet hW) hb (by omega)
 have hsame : Disk.total X.ps = 0 -> M.lg.sync = M.lg := fun h0 => by
  have hps : X.ps = Wl.pcsOf M.lg.first M.lg.R M.lg.T := hp.low.low.pcs hp.log
  cases hT : M.lg.T with
  | nil => unfold LgM.sync;rw [hT];cases hl : M.lg;rw [hl] at hT;cases hT;rfl
  | cons t T =>
   rw [hps,hT] at h0
   have := pcs_total M.lg.first M.lg.R t T
   omega
 have HP := hZ0 hpend;have HQ0 := hZ0 q0;have HSY := hZ0 hsync;have HSA := hZ0 hsame;have H := hZ0 h;have HB := hZ0 hb;have HOK := hZ0 hok;have HU := hZ0 hu;have HP3 := hZ0 hp3;have HC := hZ0 hc
 clear hp hfits hpend q0 hsync hsame h hb hok hu hp3 hc
 obtain ⟨K,hK⟩ : ∃ K,Disk.total X.ps = K := ⟨_,rfl⟩
 rw [hK] at HP HSA
 clear hK
 have qa := HQ0.out w (Kept.refl _ _)
 by_cases hK0 : 0 < K
 ·go_enter Tryz.func43,Tryz.ntmps43
  go_wp2_with fail
  clear qa
  refine HP.out.mono ?_
  rintro e w2 ⟨rfl,hk2⟩
  have qa := HQ0.out _ hk2
  have hsy := HSY.out _ hk2
  have HS2 := hZ0 hsy;have HK2 := hZ0 hk2;clear hsy hk2
  go_wp2_with fail
  clear qa
  refine HS2.out.mono ?_
  rintro e w3 ⟨⟨kk,rfl⟩,X3,hst,hlb,-,-⟩
  have hst3 := (Step.refl H.out HK2.out).trans hst
  have HST := hZ0 hst3;have HLB := hZ0 hlb;clear hst hst3 hlb HK2 HS2
  have hm3 := HST.out.at'
  have q1 : ∀ W,Kept NoF w3 W -> W.cell? ⟨X.mb,1,none⟩ = some (.pointer (some ⟨X.gp,0,none⟩)) := fun W hW => by
   have h1 : W.cell? ⟨X3.mb,1,none⟩ = some (.pointer (some ⟨X3.gp,0,none⟩)) := Has.cell ((hm3.quiet hW).c 0) 1
   rw [HST.out.mb,HST.out.gp] at h1;exact h1
  have q2 : ∀ W,Kept NoF w3 W -> W.cell? ⟨X.mb,2,none⟩ = some (.pointer (some ⟨X.sb,0,none⟩)) := fun W hW => by
   have h1 : W.cell? ⟨X3.mb,2,none⟩ = some (.pointer (some ⟨X3.sb,0,none⟩)) := Has.cell ((hm3.quiet hW).c 0) 2
   rw [HST.out.mb,HST.out.sb] at h1;exact h1
  have hp3 : PtM w3 X3 M.lg.sync := hm3.c 1
  have hlb3 : LgB X3 ({ M with lg := M.lg.sync } : MR).lg c := HLB.out
  have hcur := LgB.cur hlb3 hm3
  have hc4 := HC.out
  obtain ⟨TX,hTX⟩ : ∃ TX,textsL (notesM M.st) = TX := ⟨_,rfl⟩
  have HTX := hZ0 hTX
  have hsize := Pt.psize_any hp3 (LgB.fits hlb3 hm3 (by omega)) (by
   have h1 := hcur.1
   have h2 := hcur.2.2
   have h3 : (Wl.cur M.lg.sync.R M.lg.sync.T).length <= 1 + 12 * c := Nat.le_trans h1 h2
   omega) (by have h1 : M.lg.sync.first + (M.lg.sync.R.length + M.lg.sync.T.length : Nat) <= 2 + 12 * (c : Int) := HLB.out.f;omega)
  rw [size_lg hp3,HST.out.gp] at hsize
  have hDM : doneM M = { M with lg := if 2048 < M.lg.sync.size then M.lg.sync.save (textsL (notesM M.st)) else M.lg.sync,out := [] } := rfl
  obtain ⟨SZ,hSZ⟩ : ∃ SZ,M.lg.sync.size = SZ := ⟨_,rfl⟩
  rw [hSZ] at hsize hDM
  rw [hTX] at hDM
  clear hTX
  have HSI := hZ0 hsize;have HQ1 := hZ0 q1;have HQ2 := hZ0 q2;have HDM := hZ0 hDM
  clear hm3 q1 q2 hp3 hlb3 hcur hc4 hsize hDM hSZ
  have qa := HQ1.out _ (Kept.refl _ _)
  go_wp2_with fail
  clear qa
  refine HSI.out.mono ?_
  rintro e w4 ⟨rfl,hk4⟩
  have HK4 := hZ0 hk4;clear hk4
  by_cases hbig : 2048 < SZ
  ·have hdm := HDM.out
   rw [if_pos hbig] at hdm
   have HD := hZ0 hdm;clear hdm HDM
   have hbi : (2048 : Int) < (SZ : Int) := by omega
   have r1 := HQ1.out _ HK4.out
   have r2 := HQ2.out _ HK4.out
   have hnotes : ∀ W,Kept NoF w3 W -> Calls Tryz.prog 94 #[.pointer (some ⟨X.sb,0,none⟩)] W (NPost W M.st) := fun W hW => by
    have := notes_any W X3.sb X3.FS M.st ((HST.out.at'.quiet hW).c 2) HOK.out
    rw [HST.out.sb] at this
    refine this.mono ?_
    rintro e w' ⟨A,d,pre,he,ho⟩
    exact ⟨A,d,pre,_,he,ho,rfl⟩
   have HNO := hZ0 hnotes;have HSV := hZ0 (done_save TX HTX.out HST.out HLB.out HC.out HU.out HP3.out);clear hnotes hbig
   go_wp2_with fail
   go_region_held3 (fun W => W.cell? ⟨X.mb,1,none⟩ = some (.pointer (some ⟨X.gp,0,none⟩)) /\ W.cell? ⟨X.mb,2,none⟩ = some (.pointer (some ⟨X.sb,0,none⟩))) (first | with_reducible exact ⟨z5,z6⟩ | with_reducible exact ⟨z3,z4⟩ | with_reducible exact ⟨z1,z2⟩ | with_reducible exact ⟨r1,r2⟩ | (simp [go_sem,r1,r2];done))
    (first
     | (go_at_call 94;refine (HNO.out _ (by (repeat' (first | (with_reducible first | exact kR0 | apply kP0 | apply kN0 | apply kD0 | apply kA0) | (exact HK4.out) | (right;simp;done))))).mono ?_;rintro e w5 ⟨A,d,pre,l,rfl,ho,hll⟩;have hk5 := Kept.then (F := NoF) (a := w3) (by (repeat' (first | (with_reducible first | exact kR0 | apply kP0 | apply kN0 | apply kD0 | apply kA0) | (exact HK4.out) | (right;simp;done)))) ho.kept;have z1 := HQ1.out _ hk5;have z2 := HQ2.out _ hk5;have HO := hZ0 ho;have HLL := hZ0 hll;have HK5 := hZ0 hk5;clear ho hk5 hll)
     | (go_at_call 93;refine (texts_of _ M.st TX HTX.out A d pre l _ (by exact HO.out.still (by (repeat' (first | (with_reducible first | exact kR0 | apply kP0 | apply kN0 | apply kD0 | apply kA0) | (right;simp;done))))) HLL.out HOK.out HU.out HP3.out).mono ?_;rintro e w6 ⟨A2,d2,rfl,hr,hk6⟩;have hk := Kept.then (F := NoF) (a := w3) (by (repeat' (first | (with_reducible first | exact kR0 | apply kP0 | apply kN0 | apply kD0 | apply kA0) | (exact HK5.out) | (right;simp;done)))) hk6;have z3 := HQ1.out _ hk;have z4 := HQ2.out _ hk;have hr3 := NewSl.lower hr (by exact HK5.out.size);have HR := hZ0 hr3;have HK6 := hZ0 hk;clear hk hk6 hr hr3)
     | (go_at_call 92;refine (HSV.out _ A2 d2 (by (repeat' (first | (with_reducible first | exact kR0 | apply kP0 | apply kN0 | apply kD0 | apply kA0) | (exact HK6.out) | (right;simp;done)))) (NewSl.kept HR.out (by (repeat' (first | (with_reducible first | exact kR0 | apply kP0 | apply kN0 | apply kD0 | apply kA0) | (right;simp;done)))))).mono ?_;rintro e w7 ⟨rfl,X7,hs7,hl7⟩;have z5 : w7.cell? ⟨X.mb,1,none⟩ = some (.pointer (some ⟨X.gp,0,none⟩)) := (by have h1 : w7.cell? ⟨X7.mb,1,none⟩ = some (.pointer (some ⟨X7.gp,0,none⟩)) := Has.cell (hs7.at'.c 0) 1;rw [hs7.mb,hs7.gp] at h1;exact h1);have z6 : w7.cell? ⟨X.mb,2,none⟩ = some (.pointer (some ⟨X.sb,0,none⟩)) := (by have h1 : w7.cell? ⟨X7.mb,2,none⟩ = some (.pointer (some ⟨X7.sb,0,none⟩)) := Has.cell (hs7.at'.c 0) 2;rw [hs7.mb,hs7.sb] at h1;exact h1);have HS7 := hZ0 hs7;have HL7 := hZ0 hl7;clear hs7 hl7))
   clear z1 z2 z3 z4 z5 z6 r1 r2 hbi
   have hf := done_fin HS7.out HD.out HL7.out
   have q11 : w7.cell? ⟨X.mb,11,none⟩ = some (.slice X7.oA M.out.length X7.oc) := by
    have h1 : w7.cell? ⟨X7.mb,11,none⟩ = some (.slice X7.oA M.out.length X7.oc) := Has.cell (HS7.out.at'.c 0) 11
    rw [HS7.out.mb] at h1;exact h1
   have f11 : w7.frozen? ⟨X.mb,11,none⟩ = false := by
    have h1 := Has.frozen (HS7.out.at'.c 0) 11
    rw [HS7.out.mb] at h1;exact h1
   have HF := hZ0 hf;clear hf
   go_wp2
   go_ret
   exact HF.out
  ·have hdm := HDM.out
   rw [if_neg hbig] at hdm
   have hbi : ¬ (2048 : Int) < (SZ : Int) := by omega
   have hf := done_fin (HST.out.quiet HK4.out) hdm (LgB.mono HLB.out (Nat.le_succ c))
   have hm4 := HST.out.at'.quiet HK4.out
   have q11 : w4.cell? ⟨X.mb,11,none⟩ = some (.slice X3.oA M.out.length X3.oc) := by
    have h1 : w4.cell? ⟨X3.mb,11,none⟩ = some (.slice X3.oA M.out.length X3.oc) := Has.cell (hm4.c 0) 11
    rw [HST.out.mb] at h1;exact h1
   have f11 : w4.frozen? ⟨X.mb,11,none⟩ = false := by
    have h1 := Has.frozen (hm4.c 0) 11
    rw [HST.out.mb] at h1;exact h1
   have HF := hZ0 hf;clear hf hdm hm4 hbig
   go_wp2
   go_ret
   exact HF.out
 ·have hz : K = 0 := by omega
  subst hz
  have hsa := HSA.out rfl
  clear HSA hK0
  go_enter Tryz.func43,Tryz.ntmps43
  go_wp2_with fail
  clear qa
  refine HP.out.mono ?_
  rintro e w3 ⟨rfl,hk3⟩
  obtain ⟨X3,hst3,hlb⟩ : ∃ X3,Step w X M w3 X3 { M with lg := M.lg.sync } /\ LgB X3 M.lg.sync c := by
   rw [hsa]
   exact ⟨X,Step.refl H.out hk3,HB.out⟩
  have HST := hZ0 hst3;have HLB := hZ0 hlb;clear hst3 hlb hk3 hsa
  have hm3 := HST.out.at'
  have q1 : ∀ W,Kept NoF w3 W -> W.cell? ⟨X.mb,1,none⟩ = some (.pointer (some ⟨X.gp,0,none⟩)) := fun W hW => by
   have h1 : W.cell? ⟨X3.mb,1,none⟩ = some (.pointer (some ⟨X3.gp,0,none⟩)) := Has.cell ((hm3.quiet hW).c 0) 1
   rw [HST.out.mb,HST.out.gp] at h1;exact h1
  have q2 : ∀ W,Kept NoF w3 W -> W.cell? ⟨X.mb,2,none⟩ = some (.pointer (some ⟨X.sb,0,none⟩)) := fun W hW => by
   have h1 : W.cell? ⟨X3.mb,2,none⟩ = some (.pointer (some ⟨X3.sb,0,none⟩)) := Has.cell ((hm3.quiet hW).c 0) 2
   rw [HST.out.mb,HST.out.sb] at h1;exact h1
  have hp3 : PtM w3 X3 M.lg.sync := hm3.c 1
  have hlb3 : LgB X3 ({ M with lg := M.lg.sync } : MR).lg c := HLB.out
  have hcur := LgB.cur hlb3 hm3
  have hc4 := HC.out
  obtain ⟨TX,hTX⟩ : ∃ TX,textsL (notesM M.st) = TX := ⟨_,rfl⟩
  have HTX := hZ0 hTX
  have hsize := Pt.psize_any hp3 (LgB.fits hlb3 hm3 (by omega)) (by
   have h1 := hcur.1
   have h2 := hcur.2.2
   have h3 : (Wl.cur M.lg.sync.R M.lg.sync.T).length <= 1 + 12 * c := Nat.le_trans h1 h2
   omega) (by have h1 : M.lg.sync.first + (M.lg.sync.R.length + M.lg.sync.T.length : Nat) <= 2 + 12 * (c : Int) := HLB.out.f;omega)
  rw [size_lg hp3,HST.out.gp] at hsize
  have hDM : doneM M = { M with lg := if 2048 < M.lg.sync.size then M.lg.sync.save (textsL (notesM M.st)) else M.lg.sync,out := [] } := rfl
  obtain ⟨SZ,hSZ⟩ : ∃ SZ,M.lg.sync.size = SZ := ⟨_,rfl⟩
  rw [hSZ] at hsize hDM
  rw [hTX] at hDM
  clear hTX
  have HSI := hZ0 hsize;have HQ1 := hZ0 q1;have HQ2 := hZ0 q2;have HDM := hZ0 hDM
  clear hm3 q1 q2 hp3 hlb3 hcur hc4 hsize hDM hSZ
  have qa := HQ1.out _ (Kept.refl _ _)
  go_wp2_with fail
  clear qa
  refine HSI.out.mono ?_
  rintro e w4 ⟨rfl,hk4⟩
  have HK4 := hZ0 hk4;clear hk4
  by_cases hbig : 2048 < SZ
  ·have hdm := HDM.out
   rw [if_pos hbig] at hdm
   have HD := hZ0 hdm;clear hdm HDM
   have hbi : (2048 : Int) < (SZ : Int) := by omega
   have r1 := HQ1.out _ HK4.out
   have r2 := HQ2.out _ HK4.out
   have hnotes : ∀ W,Kept NoF w3 W -> Calls Tryz.prog 94 #[.pointer (some ⟨X.sb,0,none⟩)] W (NPost W M.st) := fun W hW => by
    have := notes_any W X3.sb X3.FS M.st ((HST.out.at'.quiet hW).c 2) HOK.out
    rw [HST.out.sb] at this
    refine this.mono ?_
    rintro e w' ⟨A,d,pre,he,ho⟩
    exact ⟨A,d,pre,_,he,ho,rfl⟩
   have HNO := hZ0 hnotes;have HSV := hZ0 (done_save TX HTX.out HST.out HLB.out HC.out HU.out HP3.out);clear hnotes hbig
   go_wp2_with fail
   go_region_held3 (fun W => W.cell? ⟨X.mb,1,none⟩ = some (.pointer (some ⟨X.gp,0,none⟩)) /\ W.cell? ⟨X.mb,2,none⟩ = some (.pointer (some ⟨X.sb,0,none⟩))) (first | with_reducible exact ⟨z5,z6⟩ | with_reducible exact ⟨z3,z4⟩ | with_reducible exact ⟨z1,z2⟩ | with_reducible exact ⟨r1,r2⟩ | (simp [go_sem,r1,r2];done))
    (first
     | (go_at_call 94;refine (HNO.out _ (by (repeat' (first | (with_reducible first | exact kR0 | apply kP0 | apply kN0 | apply kD0 | apply kA0) | (exact HK4.out) | (right;simp;done))))).mono ?_;rintro e w5 ⟨A,d,pre,l,rfl,ho,hll⟩;have hk5 := Kept.then (F := NoF) (a := w3) (by (repeat' (first | (with_reducible first | exact kR0 | apply kP0 | apply kN0 | apply kD0 | apply kA0) | (exact HK4.out) | (right;simp;done)))) ho.kept;have z1 := HQ1.out _ hk5;have z2 := HQ2.out _ hk5;have HO := hZ0 ho;have HLL := hZ0 hll;have HK5 := hZ0 hk5;clear ho hk5 hll)
     | (go_at_call 93;refine (texts_of _ M.st TX HTX.out A d pre l _ (by exact HO.out.still (by (repeat' (first | (with_reducible first | exact kR0 | apply kP0 | apply kN0 | apply kD0 | apply kA0) | (right;simp;done))))) HLL.out HOK.out HU.out HP3.out).mono ?_;rintro e w6 ⟨A2,d2,rfl,hr,hk6⟩;have hk := Kept.then (F := NoF) (a := w3) (by (repeat' (first | (with_reducible first | exact kR0 | apply kP0 | apply kN0 | apply kD0 | apply kA0) | (exact HK5.out) | (right;simp;done)))) hk6;have z3 := HQ1.out _ hk;have z4 := HQ2.out _ hk;have hr3 := NewSl.lower hr (by exact HK5.out.size);have HR := hZ0 hr3;have HK6 := hZ0 hk;clear hk hk6 hr hr3)
     | (go_at_call 92;refine (HSV.out _ A2 d2 (by (repeat' (first | (with_reducible first | exact kR0 | apply kP0 | apply kN0 | apply kD0 | apply kA0) | (exact HK6.out) | (right;simp;done)))) (NewSl.kept HR.out (by (repeat' (first | (with_reducible first | exact kR0 | apply kP0 | apply kN0 | apply kD0 | apply kA0) | (right;simp;done)))))).mono ?_;rintro e w7 ⟨rfl,X7,hs7,hl7⟩;have z5 : w7.cell? ⟨X.mb,1,none⟩ = some (.pointer (some ⟨X.gp,0,none⟩)) := (by have h1 : w7.cell? ⟨X7.mb,1,none⟩ = some (.pointer (some ⟨X7.gp,0,none⟩)) := Has.cell (hs7.at'.c 0) 1;rw [hs7.mb,hs7.gp] at h1;exact h1);have z6 : w7.cell? ⟨X.mb,2,none⟩ = some (.pointer (some ⟨X.sb,0,none⟩)) := (by have h1 : w7.cell? ⟨X7.mb,2,none⟩ = some (.pointer (some ⟨X7.sb,0,none⟩)) := Has.cell (hs7.at'.c 0) 2;rw [hs7.mb,hs7.sb] at h1;exact h1);have HS7 := hZ0 hs7;have HL7 := hZ0 hl7;clear hs7 hl7))
   clear z1 z2 z3 z4 z5 z6 r1 r2 hbi
   have hf := done_fin HS7.out HD.out HL7.out
   have q11 : w7.cell? ⟨X.mb,11,none⟩ = some (.slice X7.oA M.out.length X7.oc) := by
    have h1 : w7.cell? ⟨X7.mb,11,none⟩ = some (.slice X7.oA M.out.length X7.oc) := Has.cell (HS7.out.at'.c 0) 11
    rw [HS7.out.mb] at h1;exact h1
   have f11 : w7.frozen? ⟨X.mb,11,none⟩ = false := by
    have h1 := Has.frozen (HS7.out.at'.c 0) 11
    rw [HS7.out.mb] at h1;exact h1
   have HF := hZ0 hf;clear hf
   go_wp2
   go_ret
   exact HF.out
  ·have hdm := HDM.out
   rw [if_neg hbig] at hdm
   have hbi : ¬ (2048 : Int) < (SZ : Int) := by omega
   have hf := done_fin (HST.out.quiet HK4.out) hdm (LgB.mono HLB.out (Nat.le_succ c))
   have hm4 := HST.out.at'.quiet HK4.out
   have q11 : w4.cell? ⟨X.mb,11,none⟩ = some (.slice X3.oA M.out.length X3.oc) := by
    have h1 : w4.cell? ⟨X3.mb,11,none⟩ = some (.slice X3.oA M.out.length X3.oc) := Has.cell (hm4.c 0) 11
    rw [HST.out.mb] at h1;exact h1
   have f11 : w4.frozen? ⟨X.mb,11,none⟩ = false := by
    have h1 := Has.frozen (hm4.c 0) 11
    rw [HST.out.mb] at h1;exact h1
   have HF := hZ0 hf;clear hf hdm hm4 hbig
   go_wp2
   go_ret
   exact HF.out
end
end Mas
end Go.Proofs.YtgffjliedjhbaaaGreat
