/- Part 47 of what the proof needs. -/
import Derived.Test.YtgffjliedjhbaaaGreatZS41
import Derived.Test.YtgffjliedjhbaaaGreatZS44
import Derived.Test.YtgffjliedjhbaaaGreatZS45
set_option linter.unusedSimpArgs false
set_option linter.unusedVariables false
set_option maxHeartbeats 32000000
set_option maxRecDepth 100000
namespace Go.Proofs.YtgffjliedjhbaaaGreat
open Go.RowKit
set_option maxRecDepth 100000
namespace Pt
open Disk Fr Vn Ops Wl
def AOk (W : World) (a : PAct) : Prop := Src W 1 a.A a.l.length (a.l.map Value.string) /\ a.l.length <= maxLen /\ I64 a.n
theorem AOk.kept {W W' : World} {a : PAct} (h : AOk W a) (hk : Kept NoF W W') : AOk W' a := ⟨h.1.kept hk (fun _ _ z => z),h.2⟩
end Pt
section
open Go.WideShapes Go.ChangeShapes
variable {H : Type} {enc : TypeId × Value -> H} {W : World} {v : Value} {d : DataW H} {ps : List MemPlace} {r : Reach} {b0 : Nat}
end
namespace Pt
open Disk Fr Vn Ops Wl
section
variable {w0 w w' : World} {gp gw g n c : Nat} {F : Nat -> Prop} {m : Disk.Safe} {ps : List Disk.Pc} {boot first : Int} {R : St} {T : List (List UInt8)} {A : Option Addr} {l : List ByteArray}
end
end Pt
namespace Mas
open Plan Vn Mst Wat IM Nte Msg
def notesM (s : StR) : List NoteR := (if 0 < s.ep then [cnote s none 0 none 0] else []) ++ s.pins.map pnote ++ upart s ++ [hnote s.hz] ++ sparts (told3 s)
theorem textsL_app (a b : List NoteR) : textsL (a ++ b) = textsL a ++ textsL b := by unfold textsL;rw [List.filter_append,List.map_append]
theorem texts_pre {w : World} {s : StR} {pre : List NoteR} (h : PreAt w s pre) : textsL (pre ++ s.pins.map pnote ++ upart s ++ [hnote s.hz] ++ sparts (told3 s)) = textsL (notesM s) := by
 unfold notesM
 rw [textsL_app,textsL_app,textsL_app,textsL_app,textsL_app,textsL_app,textsL_app,textsL_app]
 congr 4
 rcases h with ⟨h1,h2⟩ | ⟨h1,A,c,B,d,rfl,_,_⟩
 ·rw [h1,if_neg h2]
 ·rw [if_pos h1]
  have hE : noteE (cnote s A c B d) = noteE (cnote s none 0 none 0) := rfl
  have hB : noteB (cnote s A c B d) = noteB (cnote s none 0 none 0) := rfl
  unfold textsL
  by_cases h0 : noteE (cnote s none 0 none 0) = 0
  ·rw [List.filter_cons,if_pos (decide_eq_true (hE.trans h0)),List.filter_cons,if_pos (decide_eq_true h0),List.filter_nil,List.map_cons,List.map_cons,hB]
  ·rw [List.filter_cons,if_neg (by rw [hE];simpa using h0),List.filter_cons,if_neg (by simpa using h0)]
theorem notes_len (s : StR) (pre : List NoteR) (hp : pre.length <= 1) : (pre ++ s.pins.map pnote ++ upart s ++ [hnote s.hz] ++ sparts (told3 s)).length <= s.pins.length + 6 := by
 have h1 : (upart s).length <= 1 := by unfold upart;split <;> simp
 have h2 : (sparts (told3 s)).length <= 3 := sparts_len (told3 s) 3
 simp only [List.length_append,List.length_map,List.length_singleton]
 omega
def doneM (M : MR) : MR := { M with lg := if 2048 < M.lg.sync.size then M.lg.sync.save (textsL (notesM M.st)) else M.lg.sync,out := [] }
def DonePost (w : World) (X : MX) (M : MR) (c : Nat) (e : Ending) (w' : World) : Prop :=
 ∃ A d,e = .returned (.slice A M.out.length d) /\ w'.ownsRow 0 409 2 (.slice A M.out.length d) M.out.length (ocells M.out) /\ (∀ k,(Value.slice A M.out.length d).ownBlock = some k -> foot X M k \/ w.heap.size <= k) /\ ∃ X',Step w X M w' X' (doneM M) /\ LgB X' (doneM M).lg (c + 1) /\ (∀ k,(Value.slice A M.out.length d).ownBlock = some k -> ¬ foot X' (doneM M) k)
section
variable {w w' : World} {X X0 : MX} {M M0 : MR} {c : Nat}
theorem frame_pos (t : List UInt8) : 0 < (Fr.frameL t).length := by
 unfold Fr.frameL
 rw [List.length_append,List.length_append]
 have := put_pos t.length
 omega
theorem pcs_total (first : Int) (R : Wl.St) (t : List UInt8) (T : List (List UInt8)) : 0 < Disk.total (Wl.pcsOf first R (t :: T)) := by
 show 0 < Disk.total ((first + Wl.lastOf R,Ops.ofL (Fr.frameL t)) :: Wl.pcsOf first (Wl.app R t) T)
 rw [Disk.total_cons]
 dsimp only
 have := frame_pos t
 have h2 : (Ops.ofL (Fr.frameL t)).size = (Fr.frameL t).length := by rw [<- Ops.size_bl,Ops.bl_ofL]
 omega
theorem msync_any (h : MAt w X M) (hb : LgB X M.lg c) (hc : c <= 4500) :
  Calls Tryz.prog 36 #[.pointer (some ⟨X.g,0,none⟩)] w fun e w' => (∃ k : Int,e = .returned (.int .i64 k)) /\ ∃ X',Step w X M w' X' { M with lg := M.lg.sync } /\ LgB X' M.lg.sync c /\ X'.n = X.n + X.ps.length /\ X'.ps = [] := by
 have hp : PtM w X M.lg := h.c 1
 refine (Pt.dsync_any hp (LgB.fits hb h (by omega))).mono ?_
 rintro e w' ⟨he,hp',hk⟩
 have hst := MAt.setPt (X := X) (M := M) (gw' := X.gw) (F' := X.F) (A' := X.A) (c' := X.c) (n' := X.n + X.ps.length) (m' := Disk.syncM X.m X.ps) (ps' := []) (L' := M.lg.sync) h (w' := w') hp' (hk.mono fun k hk => .inl hk) (fun k hk => .inl hk) (.inl rfl) (fun k hk => .inl hk)
 have hcur := LgB.cur hb h
 refine ⟨he,_,hst,⟨?_,?_,hb.l,?_⟩,rfl,rfl⟩
 ·show X.n + X.ps.length + ([] : List Disk.Pc).length <= _
  have := hb.n
  simp
  omega
 ·show M.lg.first + ((Wl.cur M.lg.R M.lg.T).length + ([] : List (List UInt8)).length : Nat) <= _
  have := hb.f
  have := hcur.1
  simp
  omega
 ·exact Pt.hd_cur hb.hd
theorem msave_any (h : MAt w X M) (hb : LgB X M.lg c) (hc : c <= 4500) (A0 : Option Addr) (c0 : Nat) (l' : List ByteArray) (hA : Src w 1 A0 l'.length (l'.map Value.string)) (hAF : 0 < l'.length -> ∀ ad,A0 = some ad -> ¬ foot X M ad.block) (hs : ∀ s ∈ l',s.size < 65536) (hl : l'.length <= 9) :
  Calls Tryz.prog 92 #[.pointer (some ⟨X.gp,0,none⟩),.slice A0 l'.length c0] w fun e w' => e = .returned (.int .i64 0) /\ ∃ X',Step w X M w' X' { M with lg := M.lg.save l' } /\ LgB X' (M.lg.save l') (c + 1) := by
 have hp : PtM w X M.lg := h.c 1
 have hcur := LgB.cur hb h
 have h1 := hb.n
 have h2 := hb.f
 have h3 := hp.f1
 refine (Pt.psave_any hp (LgB.fits hb h (by omega)) (Nat.zero_le _) A0 c0 l' hA (fun h0 ad e => ⟨fun hf => hAF h0 ad e ⟨1,.inl hf⟩,fun hf => hAF h0 ad e ⟨1,.inr (.inl hf)⟩⟩) hs (by omega) (by have := hcur.1;omega) (by omega)).mono ?_
 rintro e w' ⟨he,gw',F',m',A',c',hp',hgw,hF',hk,hrow⟩
 have hst := MAt.setPt (X := X) (M := M) (gw' := gw') (F' := F') (A' := A') (c' := c') (n' := X.n + X.ps.length + l'.length + 1) (m' := m') (ps' := []) (L' := M.lg.save l') h (w' := w') hp' (hk.mono fun k hk => by
  rcases hk with hk | hk
  ·exact .inl hk
  ·exact .inr (.inl hk)) hF' (.inr hgw) (fun k hk => .inr (hrow k hk))
 refine ⟨he,_,hst,⟨?_,?_,?_,?_⟩⟩
 ·show X.n + X.ps.length + l'.length + 1 + ([] : List Disk.Pc).length <= _
  simp
  omega
 ·show M.lg.first + (Wl.cur M.lg.R M.lg.T).length + ((Wl.cur [] (Pt.ptx l'.length l')).length + ([] : List (List UInt8)).length : Nat) <= _
  have e1 := Wl.cur_grow [] (Pt.ptx l'.length l')
  have e2 : (Pt.ptx l'.length l').length = l'.length + 1 := Pt.ptx_len _ _
  have e3 := hcur.1
  rw [e2] at e1
  simp only [List.length_nil] at e1 ⊢
  omega
 ·show l'.length <= _
  omega
 ·exact Pt.hd_new _ _
end
end Mas
end Go.Proofs.YtgffjliedjhbaaaGreat
